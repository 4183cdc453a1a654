import Derived.Test.YtipedgkampafjaaDoorGa
import Derived.Test.YtipedgkampafjaaDoorSh
import Derived.Maps.RangeWalk
import Derived.Maps.OwnSet
import Derived.DeepKeys4
import Derived.Below
import Derived.Laws.EntriesVeiled
namespace Go.Proofs.YtipedgkampafjaaDoor.Rf
open Go.Shelf Go.RowKit Go.Proofs.YtipedgkampafjaaDoorW.PrintWords Go.Proofs.YtipedgkampafjaaDoorW.PrintLast Go.Proofs.YtipedgkampafjaaDoorW.PrintMore

theorem ret_bool {a b : Bool} (h : a = b) : Ending.returned (.bool a) = .returned (.bool b) := by rw [h]
/-- A character of a name. -/
def nameCh (n : Nat) : Bool := (decide (65 ≤ n) && decide (n ≤ 90)) || (decide (97 ≤ n) && decide (n ≤ 122)) || (decide (48 ≤ n) && decide (n ≤ 57)) || (n == 95)
def notNameCh (n : Nat) : Bool := !nameCh n
theorem strCmp_any (a b : ByteArray) (w : World) : Calls Tryd.prog 61 #[.string a, .string b] w fun e w' => e = .returned (.int .i64 (cmpS a b)) ∧ w = w' :=
  (Tryd.strings_Compare a b w).mono fun _ _ ⟨h1, h2⟩ => ⟨h1, h2.symm⟩

set_option maxRecDepth 100000 in
set_option maxHeartbeats 4000000 in
theorem isName1_any (w : World) : PredAt Tryd.prog 73 #[] encR notNameCh w := fun W r _ => by
  unfold FnGives
  have HI := Lib.hid (show notNameCh r = !((decide (65 ≤ r) && decide (r ≤ 90)) || (decide (97 ≤ r) && decide (r ≤ 122)) || (decide (48 ≤ r) && decide (r ≤ 57)) || (r == 95)) from rfl)
  generalize notNameCh r = b at HI ⊢
  go_enter Tryd.func73, Tryd.ntmps73
  go_wp2
  all_goals
    go_ret
    exact ⟨ret_bool (by rw [HI.out, Bool.eq_iff_iff]; simp; omega), 0, rfl⟩

/-- A name, as the program tells it. -/
def nameP (s : ByteArray) : Bool := !(s.toList.isEmpty || decide ((32 : Int) < (s.size : Int))) && !decide (0 ≤ Lib.idxFunc notNameCh true s)
set_option maxRecDepth 100000 in
set_option maxHeartbeats 4000000 in
theorem isName_any (s : ByteArray) (w : World) : Calls Tryd.prog 59 #[.string s] w fun e w' => e = .returned (.bool (nameP s)) ∧ Below w.heap.size w w' := by
  have eg : ∀ args w, (callFunc 73 args).run Tryd.prog w = .ok (.enter 73 args) w := enters_of Tryd.func73 (by kernel_rfl) rfl
  have HC := Aside0.mk (Tryd.strings_ContainsFunc 73 #[] eg notNameCh s w (isName1_any w))
  have HN := Aside0.mk (show nameP s = (!(s.toList.isEmpty || decide ((32 : Int) < (s.size : Int))) && !decide (0 ≤ Lib.idxFunc notNameCh true s)) from rfl)
  clear eg
  generalize decide (0 ≤ Lib.idxFunc notNameCh true s) = b at HC HN
  cases h1 : s.toList.isEmpty <;> cases h2 : decide ((32 : Int) < (s.size : Int)) <;> cases b
  all_goals
    rw [h1, h2] at HN
    go_enter Tryd.func59, Tryd.ntmps59
    go_wp2_with (go_at_call 72; refine (HC.out).mono ?_; rintro e w' ⟨rfl, hb1⟩)
    go_ret
    exact ⟨by rw [HN.out]; rfl, by first | assumption | exact Below.refl _ _⟩
end Go.Proofs.YtipedgkampafjaaDoor.Rf
/- Maps as functions. -/
namespace Go.Proofs.YtipedgkampafjaaDoor.Rf
open Go Go.RowKit Go.ChangeMaps Go.MapKept

/-- How an element reads: as itself. -/
def selfR : Value → Option (DataW Value × List MemPlace) := fun v => some (.held v, [])
/-- Block b is a map that holds f. -/
def MapF {α : Type} (P : Program) (k : TypeId) (enc : α → Value) (w : World) (b n : Nat) (f : α → Option Value) : Prop :=
  ∃ D : DataW Value, w.ownsMap P k selfR b n D ∧ ∀ (x : α) (kl : Lit), keyOf P k (enc x) = some kl → (Maps.has D kl = (f x).isSome ∧ ∀ v, f x = some v → ∀ z, D.atKey kl z = .held v)

variable {α : Type} {P : Program} {k : TypeId} {enc : α → Value} {w : World} {b n : Nat} {f : α → Option Value}

theorem MapF.made (w : World) (P : Program) (k : TypeId) (enc : α → Value) : MapF P k enc (w.alloc (.map #[] 0)) w.heap.size 0 (fun _ => none) :=
  ⟨_, World.ownsMap_made w P k selfR, fun x kl _ => ⟨by simp [Maps.has], fun v h => by cases h⟩⟩
theorem MapF.lt (h : MapF P k enc w b n f) : b < w.heap.size := by obtain ⟨D, h, _⟩ := h; exact h.lt
theorem MapF.kept {w' : World} {row : Option Nat} (h : MapF P k enc w b n f) (hg : w.grownBy w' row) (hne : some b ≠ row) : MapF P k enc w' b n f := by
  obtain ⟨D, h, h2⟩ := h; exact ⟨D, h.kept hg hne, h2⟩
theorem MapF.below {w' : World} {B : Nat} (h : MapF P k enc w b n f) (hb : Below B w w') (hB : b < B) : MapF P k enc w' b n f := by
  obtain ⟨D, ⟨es, clock, h1, h3⟩, h2⟩ := h
  exact ⟨D, ⟨es, clock, (hb.block b hB).trans h1, h3⟩, h2⟩
theorem MapF.alloc (h : MapF P k enc w b n f) (o : Obj) : MapF P k enc (w.alloc o) b n f := by obtain ⟨D, h, h2⟩ := h; exact ⟨D, h.alloc o, h2⟩
theorem MapF.drew (h : MapF P k enc w b n f) : MapF P k enc w.drew b n f := h
theorem MapF.mono (h : MapF P k enc w b n f) {n' : Nat} (hn : n ≤ n') : MapF P k enc w b n' f := by obtain ⟨D, h, h2⟩ := h; exact ⟨D, h.mono hn, h2⟩
theorem MapF.setCell (h : MapF P k enc w b n f) {a : Addr} (ha : b ≠ a.block) (u : Value) : MapF P k enc (w.setCell a u) b n f := by obtain ⟨D, h, h2⟩ := h; exact ⟨D, h.setCell ha u, h2⟩

theorem MapF.look {t e : TypeId} (h : MapF P k enc w b n f) (K : Maps.Keyed P k) (ht : P.underlying t = some (.map k e)) {z : Value} (hz : (zeroValue e).run P w = .ok z w) {x : α} {kl : Lit} (hkey : keyOf P k (enc x) = some kl) :
    (Instr.lookup t (.map (some b)) (enc x) false).run P w = .ok ((f x).getD z) w := by
  obtain ⟨D, h, h2⟩ := h
  have h3 := h2 x kl hkey
  obtain ⟨v, ps, hrun, hv⟩ := h.lookup K ht hz (zd := .held z) (zp := []) rfl hkey
  simp only [selfR, Option.some.injEq, Prod.mk.injEq] at hv
  cases hf : f x with
  | none =>
    rw [Maps.atKey_of_not_has (by rw [h3.1, hf]; rfl)] at hv
    cases hv.1; exact hrun
  | some u =>
    rw [h3.2 u hf] at hv
    cases hv.1; exact hrun

theorem MapF.lookOk {t e : TypeId} (h : MapF P k enc w b n f) (K : Maps.Keyed P k) (ht : P.underlying t = some (.map k e)) {z : Value} (hz : (zeroValue e).run P w = .ok z w) {x : α} {kl : Lit} (hkey : keyOf P k (enc x) = some kl) :
    (Instr.lookup t (.map (some b)) (enc x) true).run P w = .ok (.tuple #[(f x).getD z, .bool (f x).isSome]) w := by
  obtain ⟨D, h, h2⟩ := h
  have h3 := h2 x kl hkey
  obtain ⟨v, ps, hrun, hv⟩ := h.look_ok K ht hz (zd := .held z) (zp := []) rfl hkey
  simp only [selfR, Option.some.injEq, Prod.mk.injEq] at hv
  rw [h3.1] at hrun
  cases hf : f x with
  | none =>
    rw [Maps.atKey_of_not_has (by rw [h3.1, hf]; rfl)] at hv
    cases hv.1; rw [hf] at hrun; exact hrun
  | some u =>
    rw [h3.2 u hf] at hv
    cases hv.1; rw [hf] at hrun; exact hrun

theorem MapF.update [DecidableEq α] {t e : TypeId} (h : MapF P k enc w b n f) (K : Maps.Keyed P k) (hinj : ∀ x y, enc x = enc y → x = y) (ht : P.underlying t = some (.map k e)) (hn : n < maxLen) {x : α} {v : Value} {kl : Lit} (hkey : keyOf P k (enc x) = some kl) :
    ∃ w', (Instr.mapUpdate t (.map (some b)) (enc x) v).run P w = .ok () w' ∧ MapF P k enc w' b (n + 1) (fun y => if y = x then some v else f y) ∧ w.grownBy w' (some b) := by
  obtain ⟨D, h, h2⟩ := h
  obtain ⟨w', hrun, ho, hg⟩ := h.update (val := v) K ht hn hkey (d := .held v) (ps := []) rfl
  refine ⟨w', hrun, ⟨_, ho, fun y kl' hk' => ?_⟩, hg⟩
  by_cases hy : y = x
  · subst hy
    rw [hkey] at hk'; cases hk'
    refine ⟨by rw [Maps.has_put_same h.isMap (K.key hkey)]; simp, fun u hu z => ?_⟩
    simp only [if_pos] at hu; cases hu
    exact Maps.atKey_put_same h.isMap (K.key hkey) _ _
  · have hne : kl' ≠ kl := fun e => hy (hinj _ _ (K.inj (e ▸ hk') hkey))
    simp only [if_neg hy]
    refine ⟨by rw [Maps.has_put_other hne]; exact (h2 y kl' hk').1, fun u hu z => ?_⟩
    rw [Maps.atKey_put_other hne]
    exact (h2 y kl' hk').2 u hu z

theorem below_turned {B : Nat} {w0 w w' : World} {b : Nat} (h : Below B w0 w) (hg : w.grownBy w' (some b)) (hb : B ≤ b) (hb2 : b < w.heap.size) : Below B w0 w' :=
  h.grown hg (by omega) (fun k e => by cases e; exact hb)

/-! ### keys that are numbers -/
abbrev encI : Int → Value := fun x => .int .i64 x
theorem encI_inj (x y : Int) (h : encI x = encI y) : x = y := by cases h; rfl
theorem keyI {P : Program} {k : TypeId} (hk : P.underlying k = some (.int .i64)) {x : Int} (hx : -9223372036854775808 ≤ x ∧ x ≤ 9223372036854775807) : keyOf P k (encI x) = some (.int .i64 x) := Maps.keyOf_int_mk hk (by simp [Lit.wf, IntKind.min, IntKind.max, IntKind.signed, IntKind.bits]; omega)

/-! ### the range over a map whose keys are numbers -/
/-- The loop under way: left says which keys are still to come. -/
def RangeF (P : Program) (k : TypeId) (w : World) (b r n : Nat) (f : Int → Option Value) (left : Int → Bool) (cnt : Nat) : Prop :=
  ∃ D : DataW Value, ∃ lf : Lit → Bool, w.ranges P k selfR b r n D lf cnt ∧ (∀ x : Int, keyOf P k (encI x) = some (.int .i64 x) → (Maps.has D (.int .i64 x) = (f x).isSome ∧ lf (.int .i64 x) = left x ∧ ∀ v, f x = some v → ∀ z, D.atKey (.int .i64 x) z = .held v))

theorem keyI_inv {P : Program} {k : TypeId} (hk : P.underlying k = some (.int .i64)) {x : Int} {kl : Lit} (h : keyOf P k (encI x) = some kl) : kl = .int .i64 x ∧ (-9223372036854775808 ≤ x ∧ x ≤ 9223372036854775807) := by
  obtain ⟨y, h1, h2, h3⟩ := Maps.keyOf_int_inv hk h
  cases h1
  refine ⟨h2, ?_⟩
  simp [Lit.wf, IntKind.min, IntKind.max, IntKind.signed, IntKind.bits] at h3
  omega
section
variable {g : Int → Option Value} {left : Int → Bool} {r cnt : Nat}
theorem RangeF.map (hk : P.underlying k = some (.int .i64)) (h : RangeF P k w b r n g left cnt) : MapF P k encI w b n g := by
  obtain ⟨D, lf, h, h2⟩ := h
  refine ⟨D, h.owns, fun x kl hkl => ?_⟩
  obtain ⟨rfl, _⟩ := keyI_inv hk hkl
  exact ⟨(h2 x hkl).1, (h2 x hkl).2.2⟩
theorem RangeF.kept {w' : World} {row : Option Nat} (h : RangeF P k w b r n g left cnt) (hg : w.grownBy w' row) (hb' : some b ≠ row) (hr' : some r ≠ row) : RangeF P k w' b r n g left cnt := by
  obtain ⟨D, lf, h, h2⟩ := h; exact ⟨D, lf, h.kept hg hb' hr', h2⟩
theorem RangeF.lt (h : RangeF P k w b r n g left cnt) : b < w.heap.size ∧ r < w.heap.size ∧ r ≠ b := by
  obtain ⟨D, lf, h, h2⟩ := h; exact ⟨h.owns.lt, h.lt, h.ne⟩
theorem RangeF.below {w' : World} {B : Nat} (h : RangeF P k w b r n g left cnt) (hb : Below B w w') (hB : b < B) (hr : r < B) : RangeF P k w' b r n g left cnt := by
  obtain ⟨D, lf, ⟨es, clock, since, seen, c0, h1, F, hs, hD, hr', rest⟩, h2⟩ := h
  exact ⟨D, lf, ⟨es, clock, since, seen, c0, (hb.block b hB).trans h1, F, hs, hD, (hb.block r hr).trans hr', rest⟩, h2⟩
theorem RangeF.start {t e : TypeId} (hk : P.underlying k = some (.int .i64)) (h : MapF P k encI w b n g) (ht : P.underlying t = some (.map k e)) :
    ∃ w' cnt, (Instr.range t (.map (some b))).run P w = .ok (.pointer (some ⟨w.heap.size, 0, none⟩)) w' ∧ RangeF P k w' b w.heap.size n g (fun x => (g x).isSome) cnt ∧ w.grownBy w' none ∧ w'.heap.size = w.heap.size + 1 := by
  obtain ⟨D, h, h2⟩ := h
  obtain ⟨w', hrun, hr, hg, hs⟩ := h.range (Maps.int_keyed hk) ht
  exact ⟨w', _, hrun, ⟨D, _, hr, fun x hx => ⟨(h2 x _ hx).1, (h2 x _ hx).1, (h2 x _ hx).2⟩⟩, hg, hs⟩
theorem RangeF.next (hk : P.underlying k = some (.int .i64)) (h : RangeF P k w b r n g left cnt) (ty : TypeId) :
    ((∀ x : Int, (-9223372036854775808 ≤ x ∧ x ≤ 9223372036854775807) → left x = false) ∧ (Instr.next (.pointer (some ⟨r, 0, none⟩)) false ty).run P w = .ok (.tuple #[.bool false]) w) ∨
    ∃ x v w' cnt', (-9223372036854775808 ≤ x ∧ x ≤ 9223372036854775807) ∧ left x = true ∧ g x = some v ∧ (Instr.next (.pointer (some ⟨r, 0, none⟩)) false ty).run P w = .ok (.tuple #[.bool true, .int .i64 x, v]) w' ∧
      RangeF P k w' b r n g (fun y => left y && !(y == x)) cnt' ∧ cnt' < cnt ∧ w.grownBy w' (some r) ∧ w'.heap.size = w.heap.size ∧ (Instr.entry (.pointer (some ⟨r, 0, none⟩))).run P w' = .ok (.tuple #[.int .i64 x, v]) w' := by
  obtain ⟨D, lf, h, h2⟩ := h
  rcases h.next (Maps.int_keyed hk) ty with ⟨_, hl, hrun⟩ | ⟨key, v, kl, y, w', cnt', hkey, hlk, hv, hat, hrun, hrg, hlt, hgr, hsz, hen⟩
  · exact Or.inl ⟨fun x hx => by rw [← (h2 x (keyI hk hx)).2.1]; exact hl _, hrun⟩
  · obtain ⟨x, rfl, rfl, hwx⟩ := Maps.keyOf_int_inv hk hkey
    have h3 := h2 x hkey
    have hx := (keyI_inv hk hkey).2
    simp only [selfR, Option.some.injEq] at hv
    subst hv
    have hg : g x = some v := by
      cases hgx : g x with
      | none =>
        have h5 := hat (.held (.bool true))
        have h6 := hat (.held (.bool false))
        have h7 : Maps.has D (.int .i64 x) = false := by rw [h3.1, hgx]; rfl
        rw [Maps.atKey_of_not_has h7] at h5 h6
        rw [← h5] at h6; cases h6
      | some u => have := (h3.2.2 u hgx (.nil)).symm.trans (hat .nil); cases this; rfl
    refine Or.inr ⟨x, v, w', cnt', hx, by rw [← h3.2.1]; exact hlk, hg, hrun, ⟨D, _, hrg, fun y hy => ⟨(h2 y hy).1, ?_, (h2 y hy).2.2⟩⟩, hlt, hgr, hsz, hen⟩
    show (lf (.int .i64 y) && !(Lit.int .i64 y).sameKey (.int .i64 x)) = _
    rw [(h2 y hy).2.1]
    congr 2
    by_cases hyx : y = x
    · subst hyx; rw [WideAt.sameKey_self (show WideAt.IsKeyLit (Lit.int .i64 y) from trivial)]; simp
    · rw [Maps.sameKey_ne (by intro e; cases e; exact hyx rfl)]; simp [hyx]
end
end Go.Proofs.YtipedgkampafjaaDoor.Rf
/- The keys of mappings in a map. -/
namespace Go.Proofs.YtipedgkampafjaaDoor.Rf
open Go Go.WideMaps Go.Proofs.YtipedgkampafjaaDoorW.PrintWords Go.Proofs.YtipedgkampafjaaDoorW.PrintLast Go.Proofs.YtipedgkampafjaaDoorW.PrintMore

set_option maxRecDepth 100000
theorem keyRow : (95 : TypeId) < Tryd.prog.types.size := of_decide_eq_true (by kernel_rfl)
theorem keyWide : (match Tryd.prog.underlying 95 with | some (.array _ _) | some (.struct _) => true | _ => false) = true := by rw [Tryd.underlying95]
theorem laidOutP : laidOutB Tryd.prog = true := by kernel_rfl
theorem keyed_key : Maps.Keyed Tryd.prog 95 := Maps.Keyed.of_law (deep_law_laid laidOutP (m := 2) (by omega) keyRow (by kernel_rfl) keyWide)
theorem keyed_int : Maps.Keyed Tryd.prog 3 := Maps.int_keyed Tryd.underlying3

def encM (k : Int × ByteArray) : Value := .agg #[.int .i64 k.1, .string k.2]
theorem encM_inj (x y : Int × ByteArray) (h : encM x = encM y) : x = y := by
  obtain ⟨a, b⟩ := x
  obtain ⟨c, d⟩ := y
  simp [encM] at h
  simp [h.1, h.2]
theorem keyM_of (k : Int × ByteArray) (h1 : -9223372036854775808 ≤ k.1 ∧ k.1 ≤ 9223372036854775807) (h2 : k.2.size ≤ maxLen) : ∃ kl, keyOf Tryd.prog 95 (encM k) = some kl := by
  have hkt : Tryd.prog.keyType 95 = true := by kernel_rfl
  have hsz : ∃ m, Tryd.prog.types.size = m + 2 := ⟨Tryd.prog.types.size - 2, by kernel_rfl⟩
  obtain ⟨m, hm⟩ := hsz
  have hw : (Lit.int .i64 k.1).wf = true := by simp [Lit.wf, IntKind.min, IntKind.max, IntKind.signed, IntKind.bits]; omega
  have hc : Tryd.prog.cellsOf 95 = 2 := by kernel_rfl
  have hci : Tryd.prog.cellsOf 3 = 1 := by kernel_rfl
  have hcs : Tryd.prog.cellsOf 9 = 1 := by kernel_rfl
  rw [← Option.isSome_iff_exists]
  unfold keyOf
  simp only [Tryd.underlying95]
  rw [if_pos (by simp [hkt, Value.formed, encM, Tryd.underlying95, hc]), hm]
  unfold Program.keyLits
  simp only [Tryd.underlying95, Value.cells, encM]
  rw [if_pos (by rw [hc]; simp)]
  simp [Program.keyLits, Tryd.underlying3, Tryd.underlying9, hci, hcs, hw, h2]
end Go.Proofs.YtipedgkampafjaaDoor.Rf
/- Tells what mapping.check computes. -/
namespace Go.Proofs.YtipedgkampafjaaDoor.Rf
open Go.Shelf Go.RowKit Go.Proofs.YtipedgkampafjaaDoorW.PrintWords Go.Proofs.YtipedgkampafjaaDoorW.PrintLast Go.Proofs.YtipedgkampafjaaDoorW.PrintMore

theorem C_one {w : World} {A : Addr} {x : Int} (h : w.cell? A = some (.int .i64 x)) : (Kd.int .i64).C w (some A) 1 [x] :=
  Kd.C_of_reads (d := (0 : Int)) (h1 := fun _ => rfl) ⟨rfl, by omega, fun _ => ⟨A, rfl, fun j hj => by
    obtain rfl : j = 0 := by omega
    simpa [Addr.add] using h⟩⟩
theorem codesOne (A : Addr) (x : Int) (w : World) (b : Bool) (hb : validC x = b) (h : w.cell? A = some (.int .i64 x)) :
    Calls Tryd.prog 58 #[.slice (some A) 1 1] w fun e w' => e = .returned (.bool b) ∧ Below w.heap.size w w' :=
  (codes_any (some A) 1 [x] w (C_one h) (by simp) (by simp)).mono fun e w' ⟨h1, h2⟩ => ⟨by rw [h1]; simp [hb], h2⟩

def badCodes (m : S43) : Bool := !validC m.f0 || !m.f1.all validC
def badSize (m : S43) : Bool := decide ((64 : Int) < (m.f1.length : Int))
def badName (m : S43) : Bool := !m.f2.toList.isEmpty && !nameP m.f2
def keyM (m : S43) : Int × ByteArray := (m.f0, m.f2)
/-- Does a list hold an element? -/
def hasB {α : Type} [DecidableEq α] (x : α) (l : List α) : Bool := decide (x ∈ l)
theorem hasB_iff {α : Type} [DecidableEq α] {x : α} {l : List α} : hasB x l = true ↔ x ∈ l := by simp [hasB]
theorem hasB_snoc {α : Type} [DecidableEq α] (x y : α) (l : List α) : hasB x (l ++ [y]) = (decide (x = y) || hasB x l) := by
  rw [Bool.eq_iff_iff]; simp [hasB]; exact or_comm
/-- Does a list hold an element twice? -/
def twice {α : Type} [DecidableEq α] : List α → Bool
  | [] => false
  | x :: l => hasB x l || twice l
def mapChk (xs : List S43) : Int := if xs.any badCodes then 1 else if xs.any badSize then 2 else if xs.any badName then 6 else if twice (xs.map keyM) then 5 else 0

theorem any_of_getD {α : Type} (p : α → Bool) (xs : List α) (z : α) (j : Nat) (hj : j < xs.length) (h : p (xs.getD j z) = true) : xs.any p = true :=
  List.any_eq_true.2 ⟨_, by rw [List.getD_eq_getElem?_getD, List.getElem?_eq_getElem hj]; exact List.getElem_mem hj, h⟩
theorem any_full {α : Type} (p : α → Bool) (xs : List α) (j : Nat) (hj : ¬ j < xs.length) (h : (xs.take j).any p = false) : xs.any p = false := by
  rwa [List.take_of_length_le (by omega)] at h
theorem getD_mem {α : Type} (xs : List α) (z : α) (j : Nat) (hj : j < xs.length) : xs.getD j z ∈ xs := by
  rw [List.getD_eq_getElem?_getD, List.getElem?_eq_getElem hj]; exact List.getElem_mem hj
theorem not_any {α : Type} (p : α → Bool) (xs : List α) (h : xs.any p = false) (x : α) (hx : x ∈ xs) : p x = false := by
  cases hp : p x with
  | false => rfl
  | true => rw [List.any_eq_true.2 ⟨x, hx, hp⟩] at h; cases h
theorem twice_take {α : Type} [DecidableEq α] (l : List α) (z : α) : ∀ j, j < l.length → l.getD j z ∈ l.take j → twice l = true := by
  induction l with
  | nil => intro j hj; simp at hj
  | cons x l ih =>
    intro j hj h
    cases j with
    | zero => simp at h
    | succ j =>
      simp only [List.getD_cons_succ, List.take_succ_cons, List.mem_cons] at h
      rcases h with h | h
      · simp only [twice, Bool.or_eq_true, hasB_iff]
        exact Or.inl (h ▸ getD_mem l z j (by simpa using hj))
      · simp only [twice, Bool.or_eq_true]
        exact Or.inr (ih j (by simpa using hj) h)
theorem twice_snoc {α : Type} [DecidableEq α] (l : List α) (x : α) : twice (l ++ [x]) = (twice l || hasB x l) := by
  induction l with
  | nil => simp [twice]
  | cons y l ih =>
    simp only [List.cons_append, twice, ih, hasB_snoc]
    rw [Bool.eq_iff_iff]
    simp only [hasB, Bool.or_eq_true, decide_eq_true_eq, List.mem_cons]
    constructor
    · rintro ((h | h) | h | h)
      · exact Or.inr (Or.inl h.symm)
      · exact Or.inl (Or.inl h)
      · exact Or.inl (Or.inr h)
      · exact Or.inr (Or.inr h)
    · rintro ((h | h) | h | h)
      · exact Or.inl (Or.inr h)
      · exact Or.inr (Or.inl h)
      · exact Or.inl (Or.inl h.symm)
      · exact Or.inr (Or.inr h)
theorem cell_new2 (w : World) (o : Obj) (cs : Array Value) (t : TypeId) (i : Nat) : ((w.alloc o).alloc (.cells cs t)).cell? ⟨w.heap.size + 1, i, none⟩ = cs[i]? := by
  rw [show w.heap.size + 1 = (w.alloc o).heap.size by simp]; simp only [World.cell?_alloc_new]
theorem valid_range {x : Int} (h : validC x = true) : -9223372036854775808 ≤ x ∧ x ≤ 9223372036854775807 := by
  simp [validC] at h; omega

theorem nameP_size {s : ByteArray} (h : nameP s = true) : s.size ≤ 32 := by
  simp [nameP] at h; omega
theorem zeroBool (w : World) : (zeroValue 4).run Tryd.prog w = .ok (.bool false) w := by kernel_rfl
theorem key_ok (x : S43) (h1 : badCodes x = false) (h2 : badName x = false) : ∃ kl, keyOf Tryd.prog 95 (encM (keyM x)) = some kl := by
  refine keyM_of _ (valid_range (x := x.f0) (by simp [badCodes] at h1; exact h1.1)) ?_
  simp only [badName, Bool.and_eq_false_iff, Bool.not_eq_false'] at h2
  rcases h2 with h | h
  · have : x.f2.size = 0 := by
      have h' : x.f2.toList = [] := by simpa using h
      rw [Lib.toList_data] at h'
      have h2 := congrArg List.length h'
      simpa using h2
    rw [show (keyM x).2 = x.f2 from rfl, this]; simp [maxLen]
  · have := nameP_size (by simpa using h)
    exact Nat.le_trans this (by simp [maxLen])
set_option maxRecDepth 100000 in
theorem seenLook {w : World} {b n : Nat} {f : Int × ByteArray → Option Value} (h : MapF Tryd.prog 95 encM w b n f) (x : S43) (hk : ∃ kl, keyOf Tryd.prog 95 (encM (keyM x)) = some kl) (v : Bool) (hf : (f (keyM x)).getD (.bool false) = .bool v) :
    (Instr.lookup 93 (.map (some b)) (.agg #[.int .i64 x.f0, .string x.f2]) false).run Tryd.prog w = .ok (.bool v) w := by
  obtain ⟨kl, hkl⟩ := hk
  rw [← hf]
  exact h.look keyed_key Tryd.underlying93 (zeroBool w) hkl
set_option maxRecDepth 100000 in
theorem seenPut {w : World} {b n : Nat} {f : Int × ByteArray → Option Value} (h : MapF Tryd.prog 95 encM w b n f) (x : S43) (hk : ∃ kl, keyOf Tryd.prog 95 (encM (keyM x)) = some kl) (hn : n < 9223372036854775807) :
    ∃ w', (Instr.mapUpdate 93 (.map (some b)) (.agg #[.int .i64 x.f0, .string x.f2]) (.bool true)).run Tryd.prog w = .ok () w' ∧ MapF Tryd.prog 95 encM w' b (n + 1) (fun y => if y = keyM x then some (.bool true) else f y) ∧ w.grownBy w' (some b) := by
  obtain ⟨kl, hkl⟩ := hk
  exact h.update keyed_key encM_inj Tryd.underlying93 (by simp [maxLen]; omega) hkl

set_option maxRecDepth 100000 in
set_option maxHeartbeats 16000000 in
theorem mapcheck_any (A : Option Addr) (c : Nat) (xs : List S43) (w : World) (hr : Kd.C k43 w A xs.length xs) (hc : xs.length ≤ c) (hl : xs.length ≤ 9223372036854775807) :
    Calls Tryd.prog 37 #[.slice A xs.length c] w fun e w' => e = .returned (.int .i64 (mapChk xs)) ∧ Below w.heap.size w w' := by
  have HR := Aside0.mk hr
  have HC := Lib.hid (show mapChk xs = if xs.any badCodes then 1 else if xs.any badSize then 2 else if xs.any badName then 6 else if twice (xs.map keyM) then 5 else 0 from rfl)
  have hmm := @run_makeMap Tryd.prog
  clear hr hc
  go_enter Tryd.func37, Tryd.ntmps37
  go_wp2_with fail
  go_loopw [15] (fun v wr => ∃ j : Nat, v = .int .i64 (j : Int) ∧ j ≤ xs.length ∧ Aside0 ((xs.take j).any badCodes = false) ∧ Aside0 (Below w.heap.size w wr)) (fun v _ => xs.length - (intOf v).toNat)
  case atStart => exact ⟨0, rfl, by omega, ⟨rfl⟩, ⟨Below.refl _ _⟩⟩
  case round =>
    obtain ⟨j, rfl, hj, HA, HB⟩ := hrel
    by_cases hlt : j < xs.length
    · obtain ⟨ad, A1, c1, e, hx0, hx1, hx2, hl1, hi1⟩ := at_T43 (Kd.C_below HR.out HB.out) (j : Int) (by omega) (by omega)
      subst e
      simp only [Int.toNat_natCast] at hx0 hx1 hx2
      have HX : Aside0 (rd_T43 xs (j : Int) = xs.getD j z43) := ⟨rfl⟩
      generalize rd_T43 xs (j : Int) = x at hx0 hx1 hx2 hl1 hi1 HX
      have HL := Aside0.mk hl1
      have HI := Aside0.mk hi1
      clear hl1 hi1
      have HE : Aside0 (badCodes x = (!validC x.f0 || !x.f1.all validC)) := ⟨rfl⟩
      have hlen : x.f1.length ≤ 9223372036854775807 := Kd.C_max HI.out
      cases hv : validC x.f0 with
      | false =>
        go_wp2_with fail
        refine (codesOne ⟨wr.heap.size + 1, 0, none⟩ x.f0 _ false hv (by rw [cell_new2]; rfl)).mono ?_
        rintro e w' ⟨rfl, hb1⟩
        go_wp2_with fail
        go_ret
        exact ⟨ret_int (by rw [HC.out, any_of_getD badCodes xs _ j hlt (by rw [← HX.out, HE.out, hv]; rfl)]; rfl), below_step (below_alloc (below_alloc HB.out _) _) hb1⟩
      | true =>
        cases hv2 : x.f1.all validC with
        | false =>
          go_wp2_with fail
          refine (codesOne ⟨wr.heap.size + 1, 0, none⟩ x.f0 _ true hv (by rw [cell_new2]; rfl)).mono ?_
          rintro e w' ⟨rfl, hb1⟩
          have HB1 := Aside0.mk hb1
          have HI2 := Aside0.mk (Kd.C_below HI.out (below_step (below_alloc (below_alloc (Below.refl _ _) _) _) hb1))
          clear hb1
          have k1 : w'.cell? ⟨wr.heap.size, 1, none⟩ = some (.slice A1 x.f1.length c1) := by
            rw [Below.cell HB1.out (by simp; omega)]; simp
          go_wp2_with fail
          refine (codes_any A1 c1 x.f1 _ HI2.out HL.out hlen).mono ?_
          rintro e w2 ⟨rfl, hb2⟩
          rw [hv2]
          go_wp2_with fail
          go_ret
          exact ⟨ret_int (by rw [HC.out, any_of_getD badCodes xs _ j hlt (by rw [← HX.out, HE.out, hv, hv2]; rfl)]; rfl), below_step (below_step (below_alloc (below_alloc HB.out _) _) HB1.out) hb2⟩
        | true =>
          go_wp2_with fail
          refine (codesOne ⟨wr.heap.size + 1, 0, none⟩ x.f0 _ true hv (by rw [cell_new2]; rfl)).mono ?_
          rintro e w' ⟨rfl, hb1⟩
          have HB1 := Aside0.mk hb1
          have HI2 := Aside0.mk (Kd.C_below HI.out (below_step (below_alloc (below_alloc (Below.refl _ _) _) _) hb1))
          clear hb1
          have k1 : w'.cell? ⟨wr.heap.size, 1, none⟩ = some (.slice A1 x.f1.length c1) := by
            rw [Below.cell HB1.out (by simp; omega)]; simp
          go_wp2_with fail
          refine (codes_any A1 c1 x.f1 _ HI2.out HL.out hlen).mono ?_
          rintro e w2 ⟨rfl, hb2⟩
          rw [hv2]
          go_wp2_with fail
          go_roundw
          case rel => exact ⟨j + 1, by first | rfl | go_num, by omega, ⟨any_take_succ badCodes xs z43 j hlt HA.out (by rw [← HX.out, HE.out, hv, hv2]; rfl)⟩, ⟨below_step (below_step (below_alloc (below_alloc HB.out _) _) HB1.out) hb2⟩⟩
          case measure => simp [intOf]; omega
    · have H1 := Aside0.mk (any_full badCodes xs j hlt HA.out)
      rw [H1.out, if_neg (by decide)] at HC
      go_wp2_with fail
      clear HA hlt hj
      go_loopw [33] (fun v wr => ∃ j : Nat, v = .int .i64 (j : Int) ∧ j ≤ xs.length ∧ Aside0 ((xs.take j).any badSize = false) ∧ Aside0 (Below w.heap.size w wr)) (fun v _ => xs.length - (intOf v).toNat)
      case atStart => exact ⟨0, rfl, by omega, ⟨rfl⟩, HB⟩
      case round =>
        clear HB
        obtain ⟨j, rfl, hj, HA, HB⟩ := hrel
        by_cases hlt : j < xs.length
        · obtain ⟨ad, A1, c1, e, hx0, hx1, hx2, hl1, hi1⟩ := at_T43 (Kd.C_below HR.out HB.out) (j : Int) (by omega) (by omega)
          subst e
          clear hl1 hi1
          simp only [Int.toNat_natCast] at hx0 hx1 hx2
          have HX : Aside0 (rd_T43 xs (j : Int) = xs.getD j z43) := ⟨rfl⟩
          generalize rd_T43 xs (j : Int) = x at hx0 hx1 hx2 HX
          have HE : Aside0 (badSize x = decide ((64 : Int) < (x.f1.length : Int))) := ⟨rfl⟩
          cases hv : decide ((64 : Int) < (x.f1.length : Int)) with
          | true =>
            go_wp2_with fail
            go_ret
            exact ⟨ret_int (by rw [HC.out, any_of_getD badSize xs _ j hlt (by rw [← HX.out, HE.out, hv])]; rfl), below_alloc HB.out _⟩
          | false =>
            go_wp2_with fail
            go_roundw
            case rel => exact ⟨j + 1, by first | rfl | go_num, by omega, ⟨any_take_succ badSize xs z43 j hlt HA.out (by rw [← HX.out, HE.out, hv])⟩, ⟨below_alloc HB.out _⟩⟩
            case measure => simp [intOf]; omega
        · have H2 := Aside0.mk (any_full badSize xs j hlt HA.out)
          rw [H2.out, if_neg (by decide)] at HC
          go_wp2_with fail
          clear HA hlt hj
          go_loopw [44] (fun v wr => ∃ j : Nat, v = .int .i64 (j : Int) ∧ j ≤ xs.length ∧ Aside0 ((xs.take j).any badName = false) ∧ Aside0 (Below w.heap.size w wr)) (fun v _ => xs.length - (intOf v).toNat)
          case atStart => exact ⟨0, rfl, by omega, ⟨rfl⟩, HB⟩
          case round =>
            clear HB
            obtain ⟨j, rfl, hj, HA, HB⟩ := hrel
            by_cases hlt : j < xs.length
            · obtain ⟨ad, A1, c1, e, hx0, hx1, hx2, hl1, hi1⟩ := at_T43 (Kd.C_below HR.out HB.out) (j : Int) (by omega) (by omega)
              subst e
              clear hl1 hi1
              simp only [Int.toNat_natCast] at hx0 hx1 hx2
              have HX : Aside0 (rd_T43 xs (j : Int) = xs.getD j z43) := ⟨rfl⟩
              generalize rd_T43 xs (j : Int) = x at hx0 hx1 hx2 HX
              have HE : Aside0 (badName x = (!x.f2.toList.isEmpty && !nameP x.f2)) := ⟨rfl⟩
              have HN := Aside0.mk (isName_any x.f2)
              cases hv : x.f2.toList.isEmpty with
              | true =>
                go_wp2_with fail
                go_roundw
                case rel => exact ⟨j + 1, by first | rfl | go_num, by omega, ⟨any_take_succ badName xs z43 j hlt HA.out (by rw [← HX.out, HE.out, hv]; rfl)⟩, ⟨below_alloc HB.out _⟩⟩
                case measure => simp [intOf]; omega
              | false =>
                cases hn : nameP x.f2 with
                | true =>
                  go_wp2_with fail
                  refine (HN.out _).mono ?_
                  rintro e w2 ⟨rfl, hb2⟩
                  rw [hn]
                  go_wp2_with fail
                  go_roundw
                  case rel => exact ⟨j + 1, by first | rfl | go_num, by omega, ⟨any_take_succ badName xs z43 j hlt HA.out (by rw [← HX.out, HE.out, hv, hn]; rfl)⟩, ⟨below_step (below_alloc HB.out _) hb2⟩⟩
                  case measure => simp [intOf]; omega
                | false =>
                  go_wp2_with fail
                  refine (HN.out _).mono ?_
                  rintro e w2 ⟨rfl, hb2⟩
                  rw [hn]
                  go_wp2_with fail
                  go_ret
                  exact ⟨ret_int (by rw [HC.out, any_of_getD badName xs _ j hlt (by rw [← HX.out, HE.out, hv, hn]; rfl)]; rfl), below_step (below_alloc HB.out _) hb2⟩
            · have H3 := Aside0.mk (any_full badName xs j hlt HA.out)
              rw [H3.out, if_neg (by decide)] at HC
              have HM := Aside0.mk (MapF.made wr Tryd.prog 95 encM)
              obtain ⟨b, hbs⟩ : ∃ b, wr.heap.size = b := ⟨_, rfl⟩
              have hbw : w.heap.size ≤ b := hbs ▸ HB.out.size
              go_wp2_with fail
              clear HA hlt hj
              rw [hbs] at HM
              have HW := Aside0.mk hbw
              clear hbs hbw
              go_loopw [61] (fun v wr => ∃ j : Nat, v = .int .i64 (j : Int) ∧ j ≤ xs.length ∧ Aside0 (twice ((xs.take j).map keyM) = false) ∧ Aside0 (MapF Tryd.prog 95 encM wr b j (fun k : Int × ByteArray => if hasB k ((xs.take j).map keyM) then some (.bool true) else none)) ∧ Aside0 (Below w.heap.size w wr)) (fun v _ => xs.length - (intOf v).toNat)
              case atStart => exact ⟨0, rfl, by omega, ⟨rfl⟩, ⟨by simpa [hasB] using HM.out⟩, ⟨below_alloc HB.out _⟩⟩
              case round =>
                clear HB HM
                obtain ⟨j, rfl, hj, HA, HM, HB⟩ := hrel
                by_cases hlt : j < xs.length
                · obtain ⟨ad, A1, c1, e, hx0, hx1, hx2, hl1, hi1⟩ := at_T43 (Kd.C_below HR.out HB.out) (j : Int) (by omega) (by omega)
                  subst e
                  clear hl1 hi1
                  simp only [Int.toNat_natCast] at hx0 hx1 hx2
                  have HX : Aside0 (rd_T43 xs (j : Int) = xs.getD j z43) := ⟨rfl⟩
                  generalize rd_T43 xs (j : Int) = x at hx0 hx1 hx2 HX
                  have hmem : x ∈ xs := HX.out ▸ getD_mem xs z43 j hlt
                  have HK := Aside0.mk (key_ok x (not_any _ _ H1.out x hmem) (not_any _ _ H3.out x hmem))
                  clear hmem
                  have HG : Aside0 ((xs.map keyM).getD j (keyM z43) = keyM x) := ⟨by rw [HX.out]; simp [List.getD_eq_getElem?_getD, List.getElem?_eq_getElem hlt]⟩
                  cases hm : hasB (keyM x) ((xs.take j).map keyM) with
                  | true =>
                    have hlook := seenLook ((HM.out.alloc (.cells #[.int .i64 x.f0, .slice A1 x.f1.length c1, .string x.f2] 43)).alloc (.cells #[.int .i64 x.f0, .string x.f2] 95)) x HK.out true (by simp only [hm]; rfl)
                    go_wp2_with fail
                    go_ret
                    exact ⟨ret_int (by rw [HC.out, twice_take (xs.map keyM) (keyM z43) j (by simpa using hlt) (by rw [HG.out, ← List.map_take]; exact hasB_iff.1 hm)]; rfl), below_alloc (below_alloc HB.out _) _⟩
                  | false =>
                    have hlook := seenLook ((HM.out.alloc (.cells #[.int .i64 x.f0, .slice A1 x.f1.length c1, .string x.f2] 43)).alloc (.cells #[.int .i64 x.f0, .string x.f2] 95)) x HK.out false (by simp only [hm]; rfl)
                    obtain ⟨w', hup, hmf, hg⟩ := seenPut ((HM.out.alloc (.cells #[.int .i64 x.f0, .slice A1 x.f1.length c1, .string x.f2] 43)).alloc (.cells #[.int .i64 x.f0, .string x.f2] 95)) x HK.out (by omega)
                    have HMF := Aside0.mk hmf
                    have HGR := Aside0.mk (below_turned (below_alloc (below_alloc HB.out _) _) hg HW.out (by simp; have := HM.out.lt; omega))
                    clear hmf hg
                    go_wp2_with fail
                    go_roundw
                    case rel =>
                      have htk : (xs.take (j + 1)).map keyM = (xs.take j).map keyM ++ [keyM x] := by
                        rw [List.take_succ_eq_append_getElem hlt, List.map_append, HX.out, List.getD_eq_getElem?_getD, List.getElem?_eq_getElem hlt]; rfl
                      refine ⟨j + 1, by first | rfl | go_num, by omega, ⟨by rw [htk, twice_snoc, HA.out, hm]; rfl⟩, ⟨?_⟩, ⟨HGR.out⟩⟩
                      have e : (fun k : Int × ByteArray => if hasB k ((xs.take (j + 1)).map keyM) then some (Value.bool true) else none) = fun y => if y = keyM x then some (.bool true) else (if hasB y ((xs.take j).map keyM) then some (.bool true) else none) := by
                        funext y
                        rw [htk, hasB_snoc]
                        by_cases h1 : y = keyM x <;> simp [h1]
                      rw [e]
                      exact HMF.out
                    case measure => simp [intOf]; omega
                · go_wp2_with fail
                  go_ret
                  exact ⟨ret_int (by rw [HC.out, ← List.take_of_length_le (l := xs) (show xs.length ≤ j by omega), HA.out]; rfl), HB.out⟩
end Go.Proofs.YtipedgkampafjaaDoor.Rf
/- Tells what mapping.Check and a class finder compute. -/
namespace Go.Proofs.YtipedgkampafjaaDoor.Rf
open Go.Shelf Go.RowKit Go.Proofs.YtipedgkampafjaaDoorW.PrintWords Go.Proofs.YtipedgkampafjaaDoorW.PrintLast Go.Proofs.YtipedgkampafjaaDoorW.PrintMore

def ltMap (a b : S43) : Bool := decide (ordM a b < 0)
def mapChkO (xs : List S43) : Int := if mapChk xs = 0 then (if sortedB ltMap xs then 0 else 4) else mapChk xs

theorem mapChk_cases (xs : List S43) : mapChk xs = 0 ∨ mapChk xs = 1 ∨ mapChk xs = 2 ∨ mapChk xs = 6 ∨ mapChk xs = 5 := by
  unfold mapChk; repeat' split
  all_goals simp

set_option maxRecDepth 100000 in
set_option maxHeartbeats 8000000 in
theorem mapCheck_any (A : Option Addr) (c : Nat) (xs : List S43) (w : World) (hr : Kd.C k43 w A xs.length xs) (hc : xs.length ≤ c) (hl : xs.length ≤ 9223372036854775807) :
    Calls Tryd.prog 24 #[.slice A xs.length c] w fun e w' => e = .returned (.int .i64 (mapChkO xs)) ∧ Below w.heap.size w w' := by
  have HC := Lib.hid (show mapChkO xs = if mapChk xs = 0 then (if sortedB ltMap xs then 0 else 4) else mapChk xs from rfl)
  have H1 := Aside0.mk (mapcheck_any A c xs w hr hc hl)
  have HR := Aside0.mk hr
  have hcs := mapChk_cases xs
  generalize mapChk xs = v at HC H1 hcs
  clear hr
  by_cases hv : v = 0
  · subst hv
    rw [if_pos rfl] at HC
    cases hs : sortedB ltMap xs with
    | true =>
      go_enter Tryd.func24, Tryd.ntmps24
      go_wp2_with fail
      refine H1.out.mono ?_
      rintro e w' ⟨rfl, hb1⟩
      go_wp2_with fail
      refine (mapSorted_any A c xs w' (Kd.C_below HR.out hb1) hc hl strCmp_any).mono ?_
      rintro e w2 ⟨rfl, hb2⟩
      rw [show sortedB (fun a b => decide (ordM a b < 0)) xs = true from hs]
      go_wp2_with fail
      go_ret
      exact ⟨ret_int (by rw [HC.out, if_pos hs]), below_step hb1 hb2⟩
    | false =>
      go_enter Tryd.func24, Tryd.ntmps24
      go_wp2_with fail
      refine H1.out.mono ?_
      rintro e w' ⟨rfl, hb1⟩
      go_wp2_with fail
      refine (mapSorted_any A c xs w' (Kd.C_below HR.out hb1) hc hl strCmp_any).mono ?_
      rintro e w2 ⟨rfl, hb2⟩
      rw [show sortedB (fun a b => decide (ordM a b < 0)) xs = false from hs]
      go_wp2_with fail
      go_ret
      exact ⟨ret_int (by rw [HC.out, if_neg (by rw [hs]; decide)]), below_step hb1 hb2⟩
  · rw [if_neg hv] at HC
    go_enter Tryd.func24, Tryd.ntmps24
    go_wp2_with fail
    refine H1.out.mono ?_
    rintro e w' ⟨rfl, hb1⟩
    rcases hcs with h | h | h | h | h
    · exact absurd h hv
    all_goals
      subst h
      go_wp2_with fail
      go_ret
      exact ⟨ret_int (by rw [HC.out]), hb1⟩

/-- Where the search for a number ends: how many spans end ahead of it. -/
def srch (xs : List S71) (c : Int) : Nat := (List.range xs.length).countP fun i => !decide (c ≤ (xs.getD i z71).f1)
/-- The class that a finder tells. -/
def cls (xs : List S71) (c : Int) : Int := if ordChk xs = 0 then (if srch xs c < xs.length then (if (xs.getD (srch xs c) z71).f0 ≤ c then (xs.getD (srch xs c) z71).f2 else 0) else 0) else 0

set_option maxRecDepth 100000 in
set_option maxHeartbeats 4000000 in
theorem finder21_any (A : Option Addr) (cp : Nat) (xs : List S71) (c : Int) (i : Nat) (p q : Addr) (w : World) (hi : i < xs.length) (hr : Kd.C k71 w A xs.length xs) (hl : xs.length ≤ 9223372036854775807) (hp : w.cell? p = some (.slice A xs.length cp)) (hq : w.cell? q = some (.int .i64 c)) :
    Calls Tryd.prog 53 #[.int .i64 i, .pointer (some p), .pointer (some q)] w fun e w' => e = .returned (.bool (decide (c ≤ (xs.getD i z71).f1))) ∧ ∃ q, w' = w.drewN q := by
  obtain ⟨ad, e, hx0, hx1, hx2⟩ := at_T71 hr (i : Int) (by omega) (by omega)
  subst e
  simp only [Int.toNat_natCast] at hx0 hx1 hx2
  have HX : Aside0 (rd_T71 xs (i : Int) = xs.getD i z71) := ⟨rfl⟩
  rw [← HX.out]
  generalize rd_T71 xs (i : Int) = x at hx0 hx1 hx2 HX
  clear hr
  go_enter Tryd.func53, Tryd.ntmps53
  go_wp2_with fail
  go_quiet (fail)
  go_wp2_with fail
  go_ret
  exact ⟨rfl, _, rfl⟩

theorem grow_nil (w : World) : Sort.grow w #[] = w := by cases w; simp [Sort.grow]
theorem cell_lt {w : World} {a : Addr} {v : Value} (h : w.cell? a = some v) : a.block < w.heap.size := by
  apply Classical.byContradiction
  intro hn
  have : w.heap[a.block]? = none := Array.getElem?_eq_none_iff.2 (by omega)
  simp [World.cell?, this] at h
theorem ordChk_no {xs : List S71} (h : ordChk xs = 0) : xs.any spBad = false ∧ pairAny spAdj xs = false ∧ xs.any kor = false := by
  unfold ordChk at h
  cases h1 : xs.any spBad <;> cases h2 : pairAny spAdj xs <;> cases h3 : xs.any kor <;> simp [h1, h2, h3] at h ⊢
theorem spans_step {xs : List S71} (h : ordChk xs = 0) (i : Nat) (hi : i + 1 < xs.length) : (xs.getD i z71).f1 < (xs.getD (i + 1) z71).f0 := by
  obtain ⟨_, h2, _⟩ := ordChk_no h
  have h3 := pairAny_take spAdj xs z71 (i + 1) (by omega) hi
  have h4 : pairAny spAdj (xs.take (i + 1 + 1)) = false := by
    cases h5 : pairAny spAdj (xs.take (i + 1 + 1)) with
    | false => rfl
    | true => rw [pairAny_prefix spAdj xs _ h5] at h2; cases h2
  rw [h4] at h3
  have h6 : spAdj (xs.getD i z71) (xs.getD (i + 1) z71) = false := by
    cases h7 : spAdj (xs.getD i z71) (xs.getD (i + 1) z71) with
    | false => rfl
    | true => rw [show i + 1 - 1 = i from rfl, h7, Bool.or_true] at h3; cases h3
  simp only [spAdj, Bool.or_eq_false_iff, decide_eq_false_iff_not] at h6
  omega
theorem spans_in {xs : List S71} (h : ordChk xs = 0) (i : Nat) (hi : i < xs.length) : 0 ≤ (xs.getD i z71).f0 ∧ (xs.getD i z71).f0 ≤ (xs.getD i z71).f1 ∧ (xs.getD i z71).f1 ≤ 1114111 ∧ 1 ≤ (xs.getD i z71).f2 ∧ (xs.getD i z71).f2 ≤ 254 :=
  spBad_no (all_of_any spBad xs z71 i hi (ordChk_no h).1)
theorem spans_less {xs : List S71} (h : ordChk xs = 0) (i j : Nat) (hij : i < j) (hj : j < xs.length) : (xs.getD i z71).f1 < (xs.getD j z71).f0 := by
  induction j with
  | zero => omega
  | succ j ih =>
    have h1 := spans_step h j hj
    by_cases he : i = j
    · subst he; exact h1
    · have h2 := ih (by omega) (by omega)
      have h3 := spans_in h j (by omega)
      omega
theorem spans_mono {xs : List S71} (h : ordChk xs = 0) (c : Int) (a b : Nat) (hab : a ≤ b) (hb : b < xs.length) (ha : decide (c ≤ (xs.getD a z71).f1) = true) : decide (c ≤ (xs.getD b z71).f1) = true := by
  by_cases he : a = b
  · subst he; exact ha
  · have h1 := spans_less h a b (by omega) hb
    have h2 := spans_in h b hb
    simp only [decide_eq_true_eq] at ha ⊢
    omega

set_option maxRecDepth 100000 in
set_option maxHeartbeats 8000000 in
theorem finder2_any (A : Option Addr) (cp : Nat) (xs : List S71) (c : Int) (p : Addr) (w : World) (h0 : ordChk xs = 0) (hr : Kd.C k71 w A xs.length xs) (hl : xs.length < 4611686018427387904) (hp : w.cell? p = some (.slice A xs.length cp)) :
    Calls Tryd.prog 51 #[.int .i64 c, .pointer (some p)] w fun e w' => e = .returned (.int .i64 (cls xs c)) ∧ Below w.heap.size w w' := by
  have eg : ∀ args w, (callFunc 53 args).run Tryd.prog w = .ok (.enter 53 args) w := enters_of Tryd.func53 (by kernel_rfl) rfl
  have HCL := Lib.hid (show cls xs c = (if srch xs c < xs.length then (if (xs.getD (srch xs c) z71).f0 ≤ c then (xs.getD (srch xs c) z71).f2 else 0) else 0) by rw [cls, if_pos h0])
  have HR := Aside0.mk hr
  have HP := Aside0.mk hp
  have hpb : p.block < w.heap.size := cell_lt hp
  have hS : Calls Tryd.prog 52 #[.int .i64 xs.length, .func (.func 53) #[] #[.pointer (some p), .pointer (some ⟨w.heap.size, 0, none⟩)]] (w.alloc (.cells #[.int .i64 c] 3)) fun e w' => e = .returned (.int .i64 (srch xs c : Nat)) ∧ Below w.heap.size w w' ∧ w'.cell? ⟨w.heap.size, 0, none⟩ = some (.int .i64 c) := by
    refine (Any.sort_Search Tryd.search 53 #[.pointer (some p), .pointer (some ⟨w.heap.size, 0, none⟩)] xs.length (fun i => decide (c ≤ (xs.getD i z71).f1)) (w.alloc (.cells #[.int .i64 c] 3)) eg hl (fun m os i hi => ?_) (spans_mono h0 c)).mono ?_
    · have hb : Below (w.alloc (.cells #[.int .i64 c] 3)).heap.size (w.alloc (.cells #[.int .i64 c] 3)) (Sort.grow ((w.alloc (.cells #[.int .i64 c] 3)).drewN m) os) := below_grown_sl _ _ _ _ (Nat.le_refl _)
      refine (finder21_any A cp xs c i p ⟨w.heap.size, 0, none⟩ _ hi (Kd.C_below (Kd.C_alloc HR.out _) hb) (by omega) ?_ ?_).mono ?_
      · rw [hb.cell (by simp; omega), ← HP.out]; exact (below_alloc (Below.refl w.heap.size w) _).cell hpb
      · rw [hb.cell (by simp)]; simp
      · rintro e w' ⟨h1, q, h2⟩
        exact ⟨h1, q, #[], by rw [h2, grow_nil]⟩
    · rintro e w' ⟨h1, q, os, h2⟩
      have hb : Below (w.alloc (.cells #[.int .i64 c] 3)).heap.size (w.alloc (.cells #[.int .i64 c] 3)) w' := by rw [h2]; exact below_grown_sl _ _ _ _ (Nat.le_refl _)
      exact ⟨h1, below_step (below_alloc (Below.refl _ _) _) hb, by rw [hb.cell (by simp)]; simp⟩
  have HS := Aside0.mk hS
  clear hS eg hr hp
  generalize srch xs c = k at HCL HS
  have k1 : (w.alloc (.cells #[.int .i64 c] 3)).cell? p = some (.slice A xs.length cp) := by
    rw [← HP.out]; exact (below_alloc (Below.refl w.heap.size w) _).cell hpb
  have HB := Aside0.mk hpb
  clear hpb
  by_cases h1 : k < xs.length
  · rw [if_pos h1] at HCL
    go_enter Tryd.func51, Tryd.ntmps51
    go_wp2_with fail
    refine HS.out.mono ?_
    rintro e w' ⟨rfl, hb1, hq⟩
    have HB1 := Aside0.mk hb1
    have k2 : w'.cell? p = some (.slice A xs.length cp) := by rw [HB1.out.cell HB.out, HP.out]
    obtain ⟨ad, e, hx0, hx1, hx2⟩ := at_T71 (Kd.C_below HR.out hb1) (k : Int) (by omega) (by omega)
    subst e
    clear hb1
    simp only [Int.toNat_natCast] at hx0 hx1 hx2
    have HX : Aside0 (rd_T71 xs (k : Int) = xs.getD k z71) := ⟨rfl⟩
    rw [← HX.out] at HCL
    generalize rd_T71 xs (k : Int) = x at hx0 hx1 hx2 HX HCL
    cases h2 : decide (x.f0 ≤ c) with
    | true =>
      rw [if_pos (of_decide_eq_true h2)] at HCL
      go_wp2_with fail
      go_quiet (fail)
      go_wp2_with fail
      go_ret
      exact ⟨ret_int (by rw [HCL.out]), pw_below_drewN HB1.out _⟩
    | false =>
      rw [if_neg (of_decide_eq_false h2)] at HCL
      go_wp2_with fail
      go_quiet (fail)
      go_wp2_with fail
      go_ret
      exact ⟨ret_int (by rw [HCL.out]), pw_below_drewN HB1.out _⟩
  · rw [if_neg h1] at HCL
    go_enter Tryd.func51, Tryd.ntmps51
    go_wp2_with fail
    refine HS.out.mono ?_
    rintro e w' ⟨rfl, hb1, hq⟩
    have HB1 := Aside0.mk hb1
    have k2 : w'.cell? p = some (.slice A xs.length cp) := by rw [HB1.out.cell HB.out, HP.out]
    clear hb1
    go_wp2_with fail
    go_quiet (fail)
    go_wp2_with fail
    go_ret
    exact ⟨ret_int (by rw [HCL.out]), pw_below_drewN HB1.out _⟩

theorem finder1_any (c : Int) (w : World) : Calls Tryd.prog 50 #[.int .i64 c] w fun e w' => e = .returned (.int .i64 0) ∧ Below w.heap.size w w' := by
  go_enter Tryd.func50, Tryd.ntmps50
  go_wp2_with fail
  go_ret
  exact ⟨rfl, Below.refl _ _⟩

/-- A function value that tells classes, from a world on. -/
def ClassFn (w : World) (v : Value) (cl : Int → Int) : Prop :=
  ∃ g cb, v = .func (.func g) #[] cb ∧ (∀ args w, (callFunc g args).run Tryd.prog w = .ok (.enter g args) w) ∧ ∀ (W : World) (c : Int), Below w.heap.size w W → Calls Tryd.prog g (#[.int .i64 c] ++ cb) W fun e w' => e = .returned (.int .i64 (cl c)) ∧ Below W.heap.size W w'
theorem ClassFn.below {w w' : World} {v : Value} {cl : Int → Int} (h : ClassFn w v cl) (hb : Below w.heap.size w w') : ClassFn w' v cl := by
  obtain ⟨g, cb, h1, h2, h3⟩ := h
  exact ⟨g, cb, h1, h2, fun W c hW => h3 W c (below_step hb hW)⟩

set_option maxRecDepth 100000 in
set_option maxHeartbeats 8000000 in
theorem finder_any (A : Option Addr) (cp : Nat) (xs : List S71) (w : World) (hG : GL w) (hr : Kd.C k71 w A xs.length xs) (hc : xs.length ≤ cp) (hl : xs.length < 4611686018427387904) :
    Calls Tryd.prog 30 #[.slice A xs.length cp] w fun e w' => (∃ v, e = .returned v ∧ ClassFn w' v (cls xs)) ∧ Below w.heap.size w w' := by
  have HR := Aside0.mk hr
  have HO := Aside0.mk (ordCheck_any A cp xs (w.alloc (.cells #[.slice A xs.length cp] 22)) (GL.below hG (below_alloc (Below.refl _ _) _)) (Kd.C_alloc hr _) hc (by omega))
  clear hr hG
  by_cases h0 : ordChk xs = 0
  · rw [h0] at HO
    go_enter Tryd.func30, Tryd.ntmps30
    go_wp2_with fail
    refine HO.out.mono ?_
    rintro e w' ⟨rfl, hb1⟩
    go_wp2_with fail
    go_ret
    refine ⟨⟨_, rfl, 51, _, rfl, enters_of Tryd.func51 (by kernel_rfl) rfl, fun W c hW => ?_⟩, below_step (below_alloc (Below.refl _ _) _) hb1⟩
    have hb2 := below_step hb1 hW
    refine finder2_any A cp xs c ⟨w.heap.size, 0, none⟩ W h0 (Kd.C_below (Kd.C_alloc HR.out _) hb2) hl ?_
    rw [hb2.cell (by simp)]; simp
  · have hcases : ordChk xs = 1 ∨ ordChk xs = 4 ∨ ordChk xs = 11 := by
      unfold ordChk at h0 ⊢; repeat' split
      all_goals simp_all
    have HCL := Aside0.mk (show cls xs = fun _ => 0 by funext c; rw [cls, if_neg h0])
    generalize cls xs = cl at HCL ⊢
    clear h0
    go_enter Tryd.func30, Tryd.ntmps30
    go_wp2_with fail
    refine HO.out.mono ?_
    rintro e w' ⟨rfl, hb1⟩
    rcases hcases with h | h | h
    all_goals
      rw [h]
      go_wp2_with fail
      go_ret
      refine ⟨⟨_, rfl, 50, _, rfl, enters_of Tryd.func50 (by kernel_rfl) rfl, fun W c hW => ?_⟩, below_step (below_alloc (Below.refl _ _) _) hb1⟩
      rw [HCL.out]
      exact finder1_any c W

set_option maxRecDepth 100000 in
set_option maxHeartbeats 8000000 in
theorem class_any (A : Option Addr) (cp : Nat) (xs : List S71) (c : Int) (w : World) (hG : GL w) (hr : Kd.C k71 w A xs.length xs) (hc : xs.length ≤ cp) (hl : xs.length < 4611686018427387904) :
    Calls Tryd.prog 66 #[.slice A xs.length cp, .int .i64 c] w fun e w' => e = .returned (.int .i64 (cls xs c)) ∧ Below w.heap.size w w' := by
  have HF := Aside0.mk (finder_any A cp xs w hG hr hc hl)
  clear hr hG
  go_enter Tryd.func66, Tryd.ntmps66
  go_wp2_with fail
  refine HF.out.mono ?_
  rintro e w' ⟨⟨v, rfl, g, cb, rfl, eg, h3⟩, hb1⟩
  have H3 := Aside0.mk (h3 w' c (Below.refl _ _))
  clear h3
  go_wp2_with fail
  refine H3.out.mono ?_
  rintro e w2 ⟨rfl, hb2⟩
  go_wp2_with fail
  go_ret
  exact ⟨rfl, below_step hb1 hb2⟩

/-- Is a number a starter? -/
def starter (xs : List S71) (c : Int) : Bool := cls xs c == 0
set_option maxRecDepth 100000 in
set_option maxHeartbeats 8000000 in
theorem starter_any (A : Option Addr) (cp : Nat) (xs : List S71) (c : Int) (w : World) (hG : GL w) (hr : Kd.C k71 w A xs.length xs) (hc : xs.length ≤ cp) (hl : xs.length < 4611686018427387904) :
    Calls Tryd.prog 45 #[.slice A xs.length cp, .int .i64 c] w fun e w' => e = .returned (.bool (starter xs c)) ∧ Below w.heap.size w w' := by
  have HF := Aside0.mk (class_any A cp xs c w hG hr hc hl)
  have HS := Lib.hid (show starter xs c = (cls xs c == 0) from rfl)
  generalize cls xs c = k at HF HS
  clear hr hG
  cases hk : (k == 0) <;>
  · rw [hk] at HS
    go_enter Tryd.func45, Tryd.ntmps45
    go_wp2_with fail
    refine HF.out.mono ?_
    rintro e w' ⟨rfl, hb1⟩
    go_wp2_with fail
    go_ret
    exact ⟨ret_bool (by rw [HS.out]), hb1⟩
end Go.Proofs.YtipedgkampafjaaDoor.Rf
/- Tells what decompose.kinds computes. -/
namespace Go.Proofs.YtipedgkampafjaaDoor.Rf
open Go.Shelf Go.RowKit Go.Proofs.YtipedgkampafjaaDoorW.PrintWords Go.Proofs.YtipedgkampafjaaDoorW.PrintLast Go.Proofs.YtipedgkampafjaaDoorW.PrintMore

def badKind (m : S43) : Bool := m.f2.toList.isEmpty && ((m.f1.length : Int) != 1) && ((m.f1.length : Int) != 2)
def badData (cl : List S71) (m : S43) : Bool := (hk m.f0 != 0) || (!m.f2.toList.isEmpty && !starter cl m.f0)
def sameFrom (a b : S43) : Bool := a.f0 == b.f0
def kindsE (cl : List S71) (l : List S43) : Int := if pairAny sameFrom l then 5 else if l.any badKind then 8 else if l.any (badData cl) then 11 else 0

set_option maxRecDepth 100000 in
set_option maxHeartbeats 8000000 in
theorem kinds1_any (x : S43) (A : Option Addr) (c : Nat) (w : World) :
    Calls Tryd.prog 42 #[.agg #[.int .i64 x.f0, .slice A x.f1.length c, .string x.f2]] w fun e w' => e = .returned (.bool (badKind x)) ∧ Below w.heap.size w w' := by
  have HB := Lib.hid (show badKind x = (x.f2.toList.isEmpty && ((x.f1.length : Int) != 1) && ((x.f1.length : Int) != 2)) from rfl)
  cases h1 : x.f2.toList.isEmpty <;> cases h2 : ((x.f1.length : Int) != 1) <;> cases h3 : ((x.f1.length : Int) != 2)
  all_goals
    rw [h1, h2, h3] at HB
    generalize badKind x = r at HB
    go_enter Tryd.func42, Tryd.ntmps42
    go_wp2_with fail
    go_ret
    exact ⟨ret_bool (by rw [HB.out]; rfl), below_alloc (Below.refl _ _) _⟩

set_option maxRecDepth 100000 in
set_option maxHeartbeats 8000000 in
theorem kinds2_any (Ac : Option Addr) (cc : Nat) (cl : List S71) (x : S43) (A : Option Addr) (c : Nat) (p : Addr) (w : World) (hG : GL w) (hr : Kd.C k71 w Ac cl.length cl) (hc : cl.length ≤ cc) (hl : cl.length < 4611686018427387904)
    (hp : w.cell? p = some (.slice Ac cl.length cc)) :
    Calls Tryd.prog 43 #[.agg #[.int .i64 x.f0, .slice A x.f1.length c, .string x.f2], .pointer (some p)] w fun e w' => e = .returned (.bool (badData cl x)) ∧ Below w.heap.size w w' := by
  have HB := Lib.hid (show badData cl x = ((hk x.f0 != 0) || (!x.f2.toList.isEmpty && !starter cl x.f0)) from rfl)
  have HP := Aside0.mk hp
  have HG := Aside0.mk hG
  have HR := Aside0.mk hr
  have hpb := cell_lt hp
  have HK := Aside0.mk (fun w => kind_any x.f0 w)
  have HS := Aside0.mk (fun w hG hr => starter_any Ac cc cl x.f0 w hG hr hc hl)
  clear hp hG hr
  generalize hk x.f0 = h at HB HK
  generalize starter cl x.f0 = s at HB HS
  generalize badData cl x = r at HB
  cases h1 : (h != 0) with
  | true =>
    rw [h1] at HB
    go_enter Tryd.func43, Tryd.ntmps43
    go_wp2_with fail
    refine (HK.out _).mono ?_
    rintro e w' ⟨rfl, hb1⟩
    go_wp2_with fail
    go_ret
    exact ⟨ret_bool (by rw [HB.out]; rfl), below_step (below_alloc (Below.refl _ _) _) hb1⟩
  | false =>
    cases h2 : x.f2.toList.isEmpty with
    | true =>
      rw [h1, h2] at HB
      go_enter Tryd.func43, Tryd.ntmps43
      go_wp2_with fail
      refine (HK.out _).mono ?_
      rintro e w' ⟨rfl, hb1⟩
      have k2 : w'.cell? ⟨w.heap.size, 2, none⟩ = some (.string x.f2) := by rw [hb1.cell (by simp)]; simp
      have HB1 := Aside0.mk hb1
      clear hb1
      go_wp2_with fail
      go_ret
      exact ⟨ret_bool (by rw [HB.out]; rfl), below_step (below_alloc (Below.refl _ _) _) HB1.out⟩
    | false =>
      rw [h1, h2] at HB
      go_enter Tryd.func43, Tryd.ntmps43
      go_wp2_with fail
      refine (HK.out _).mono ?_
      rintro e w' ⟨rfl, hb1⟩
      have k2 : w'.cell? ⟨w.heap.size, 2, none⟩ = some (.string x.f2) := by rw [hb1.cell (by simp)]; simp
      have k0 : w'.cell? ⟨w.heap.size, 0, none⟩ = some (.int .i64 x.f0) := by rw [hb1.cell (by simp)]; simp
      have HB1 := Aside0.mk (below_step (below_alloc (Below.refl w.heap.size w) _) hb1)
      have kp : w'.cell? p = some (.slice Ac cl.length cc) := by rw [HB1.out.cell hpb]; exact HP.out
      clear hb1
      cases s <;>
      · go_wp2_with fail
        refine (HS.out w' (GL.below HG.out HB1.out) (Kd.C_below HR.out HB1.out)).mono ?_
        rintro e w2 ⟨rfl, hb2⟩
        go_wp2_with fail
        go_ret
        exact ⟨ret_bool (by rw [HB.out]; rfl), below_step HB1.out hb2⟩
end Go.Proofs.YtipedgkampafjaaDoor.Rf
/- Tells what decompose.kinds computes, whole. -/
namespace Go.Proofs.YtipedgkampafjaaDoor.Rf
open Go.Shelf Go.RowKit Go.Proofs.YtipedgkampafjaaDoorW.PrintWords Go.Proofs.YtipedgkampafjaaDoorW.PrintLast Go.Proofs.YtipedgkampafjaaDoorW.PrintMore

set_option maxRecDepth 100000 in
set_option maxHeartbeats 8000000 in
theorem kinds_any (Ac Ad Ax : Option Addr) (cc cd nx cx : Nat) (cl : List S71) (dm : List S43) (w : World) (hG : GL w) (hrc : Kd.C k71 w Ac cl.length cl) (hcc : cl.length ≤ cc) (hlc : cl.length < 4611686018427387904)
    (hrd : Kd.C k43 w Ad dm.length dm) (hcd : dm.length ≤ cd) (hld : dm.length < 4611686018427387904) :
    Calls Tryd.prog 26 #[.agg #[.slice Ac cl.length cc, .slice Ad dm.length cd, .slice Ax nx cx]] w fun e w' => e = .returned (.int .i64 (kindsE cl dm)) ∧ Below w.heap.size w w' := by
  have eg1 : ∀ args w, (callFunc 42 args).run Tryd.prog w = .ok (.enter 42 args) w := enters_of Tryd.func42 (by kernel_rfl) rfl
  have eg2 : ∀ args w, (callFunc 43 args).run Tryd.prog w = .ok (.enter 43 args) w := enters_of Tryd.func43 (by kernel_rfl) rfl
  have HK := Lib.hid (show kindsE cl dm = if pairAny sameFrom dm then 5 else if dm.any badKind then 8 else if dm.any (badData cl) then 11 else 0 from rfl)
  have HG := Aside0.mk hG
  have HC := Aside0.mk hrc
  have HD := Aside0.mk hrd
  have HA1 : Aside0 (∀ W : World, Below w.heap.size w W → Calls Tryd.prog 41 #[.slice Ad dm.length cd, .func (.func 42) #[] #[]] W fun e w' => e = .returned (.bool (dm.any badKind)) ∧ Below W.heap.size W w') :=
    ⟨fun W hW => hasMap_ badKind 42 #[] eg1 Ad cd dm W (Kd.C_below HD.out hW) hcd (by omega) (fun x A1 c1 W2 _ _ _ _ => kinds1_any x A1 c1 W2)⟩
  have HA2 : Aside0 (∀ W : World, Below w.heap.size w W → W.cell? ⟨w.heap.size, 0, none⟩ = some (.slice Ac cl.length cc) → Calls Tryd.prog 41 #[.slice Ad dm.length cd, .func (.func 43) #[] #[.pointer (some ⟨w.heap.size, 0, none⟩)]] W fun e w' => e = .returned (.bool (dm.any (badData cl))) ∧ Below W.heap.size W w') :=
    ⟨fun W hW hcell => hasMap_ (badData cl) 43 #[.pointer (some ⟨w.heap.size, 0, none⟩)] eg2 Ad cd dm W (Kd.C_below HD.out hW) hcd (by omega) (fun x A1 c1 W2 _ _ _ hb =>
      kinds2_any Ac cc cl x A1 c1 ⟨w.heap.size, 0, none⟩ W2 (GL.below HG.out (below_step hW hb)) (Kd.C_below HC.out (below_step hW hb)) hcc hlc (by rw [hb.cell (cell_lt hcell)]; exact hcell))⟩
  clear hG hrc hrd eg1 eg2
  go_enter Tryd.func26, Tryd.ntmps26
  go_wp2_with fail
  have hb0 : Below w.heap.size w (w.alloc (.cells #[.slice Ac cl.length cc, .slice Ad dm.length cd, .slice Ax nx cx] 28)) := below_alloc (Below.refl _ _) _
  have hk0 : (w.alloc (.cells #[.slice Ac cl.length cc, .slice Ad dm.length cd, .slice Ax nx cx] 28)).cell? ⟨w.heap.size, 0, none⟩ = some (.slice Ac cl.length cc) := by simp
  go_loopw [4] (fun v wr => ∃ j : Nat, v = .int .i64 ((j : Int) + 1) ∧ (j = 0 ∨ j < dm.length) ∧ Aside0 (pairAny sameFrom (dm.take (j + 1)) = false) ∧ Aside0 (wr.cell? ⟨w.heap.size, 0, none⟩ = some (.slice Ac cl.length cc)) ∧ Aside0 (Below w.heap.size w wr)) (fun v _ => dm.length - (intOf v).toNat)
  case atStart => exact ⟨0, rfl, Or.inl rfl, ⟨pairAny_short _ _ (by simp; omega)⟩, ⟨hk0⟩, ⟨hb0⟩⟩
  case round =>
    clear hb0 hk0
    obtain ⟨j, rfl, hj, HA, HX, HB⟩ := hrel
    by_cases hlt : j + 1 < dm.length
    · obtain ⟨ad, A1, c1, e, hx0, hx1, hx2, hl1, hi1⟩ := at_T43 (Kd.C_below HD.out HB.out) (j : Int) (by omega) (by omega)
      obtain ⟨ad', A2, c2, e', hy0, hy1, hy2, hl2, hi2⟩ := at_T43 (Kd.C_below HD.out HB.out) ((j : Int) + 1) (by omega) (by omega)
      subst e
      cases e'
      clear hl1 hi1 hl2 hi2
      have ei : ((j : Int) + 1).toNat = j + 1 := by omega
      simp only [ei, Int.toNat_natCast] at hx0 hx1 hx2 hy0 hy1 hy2
      have HT := Aside0.mk (pairAny_take sameFrom dm z43 (j + 1) (by omega) hlt)
      have H1 : Aside0 (rd_T43 dm (j : Int) = dm.getD (j + 1 - 1) z43) := ⟨rfl⟩
      have H2 : Aside0 (rd_T43 dm ((j : Int) + 1) = dm.getD (j + 1) z43) := ⟨by rw [rd_T43, ei]⟩
      rw [HA.out, ← H1.out, ← H2.out, Bool.false_or] at HT
      generalize rd_T43 dm ((j : Int) + 1) = y at hy0 hy1 hy2 HT H2
      generalize rd_T43 dm (j : Int) = x at hx0 hx1 hx2 HT H1
      have p0 : (0 : Int) ≤ (j : Int) + 1 := by omega
      have p1 : (j : Int) + 1 < (dm.length : Int) := by omega
      have p3 : (j : Int) < (dm.length : Int) := by omega
      have p4 : j < dm.length := by omega
      have hw : IntKind.i64.wrap (j : Int) = (j : Int) := IntWalk.i64_in _ (by omega)
      have hw2 : IntKind.i64.wrap ((j : Int) + 1 + 1) = (j : Int) + 1 + 1 := IntWalk.i64_in _ (by omega)
      cases hq : (x.f0 == y.f0) with
      | true =>
        go_wp2_with fail
        go_quiet (fail)
        go_wp2_with fail
        go_ret
        exact ⟨ret_int (by rw [HK.out, pairAny_prefix sameFrom dm _ (HT.out.trans hq)]; rfl), pw_below_drewN HB.out _⟩
      | false =>
        go_wp2_with fail
        go_quiet (fail)
        go_wp2_with fail
        go_roundw
        case rel => exact ⟨j + 1, by first | rfl | go_num, Or.inr hlt, ⟨HT.out.trans hq⟩, HX, ⟨pw_below_drewN HB.out _⟩⟩
        case measure => simp [intOf]; omega
    · have HN : Aside0 (pairAny sameFrom dm = false) := ⟨by have h := HA.out; rwa [List.take_of_length_le (by omega)] at h⟩
      rw [HN.out, if_neg (by decide)] at HK
      cases h1 : dm.any badKind with
      | true =>
        go_wp2_with fail
        refine (HA1.out _ HB.out).mono ?_
        rintro e w1 ⟨rfl, hb1⟩
        rw [h1]
        go_wp2_with fail
        go_ret
        exact ⟨ret_int (by rw [HK.out, h1]; rfl), below_step HB.out hb1⟩
      | false =>
        rw [h1, if_neg (by decide)] at HK
        cases h2 : dm.any (badData cl) with
        | true =>
          go_wp2_with fail
          refine (HA1.out _ HB.out).mono ?_
          rintro e w1 ⟨rfl, hb1⟩
          rw [h1]
          have HB1 := Aside0.mk (below_step HB.out hb1)
          have hcell : w1.cell? ⟨w.heap.size, 0, none⟩ = some (.slice Ac cl.length cc) := by rw [hb1.cell (cell_lt HX.out)]; exact HX.out
          clear hb1
          go_wp2_with fail
          refine (HA2.out _ HB1.out hcell).mono ?_
          rintro e w2 ⟨rfl, hb2⟩
          rw [h2]
          go_wp2_with fail
          go_ret
          exact ⟨ret_int (by rw [HK.out, h2]; rfl), below_step HB1.out hb2⟩
        | false =>
          go_wp2_with fail
          refine (HA1.out _ HB.out).mono ?_
          rintro e w1 ⟨rfl, hb1⟩
          rw [h1]
          have HB1 := Aside0.mk (below_step HB.out hb1)
          have hcell : w1.cell? ⟨w.heap.size, 0, none⟩ = some (.slice Ac cl.length cc) := by rw [hb1.cell (cell_lt HX.out)]; exact HX.out
          clear hb1
          go_wp2_with fail
          refine (HA2.out _ HB1.out hcell).mono ?_
          rintro e w2 ⟨rfl, hb2⟩
          rw [h2]
          go_wp2_with fail
          go_ret
          exact ⟨ret_int (by rw [HK.out, h2]; rfl), below_step HB1.out hb2⟩
end Go.Proofs.YtipedgkampafjaaDoor.Rf
/- Tells what decompose.load makes. -/
namespace Go.Proofs.YtipedgkampafjaaDoor.Rf
open Go.Shelf Go.RowKit Go.Proofs.YtipedgkampafjaaDoorW.PrintWords Go.Proofs.YtipedgkampafjaaDoorW.PrintLast Go.Proofs.YtipedgkampafjaaDoorW.PrintMore

/-- A value that stands for a mapping whose target lies in the world w0. -/
def RepM (w0 : World) (v : Value) (m : S43) : Prop := ∃ A c, v = .agg #[.int .i64 m.f0, .slice A m.f1.length c, .string m.f2] ∧ m.f1.length ≤ c ∧ (Kd.int .i64).C w0 A m.f1.length m.f1
def RelM (w0 : World) : Option Value → Option S43 → Prop
  | none, none => True
  | some v, some m => RepM w0 v m
  | _, _ => False
/-- The last mapping of a number. -/
def lastM (l : List S43) (x : Int) : Option S43 := l.reverse.find? fun m => m.f0 == x
theorem lastM_snoc (l : List S43) (m : S43) (x : Int) : lastM (l ++ [m]) x = if x = m.f0 then some m else lastM l x := by
  simp only [lastM, List.reverse_append, List.reverse_cons, List.reverse_nil, List.nil_append, List.singleton_append, List.find?_cons]
  by_cases h : x = m.f0
  · simp [h]
  · have : (m.f0 == x) = false := by simpa using fun e => h e.symm
    simp [h, this]
theorem lastM_mem {l : List S43} {x : Int} {m : S43} (h : lastM l x = some m) : m ∈ l ∧ m.f0 = x := by
  have h1 := List.mem_of_find?_eq_some h
  have h2 := List.find?_some h
  exact ⟨by simpa using h1, by simpa using h2⟩

/-- Block p of w holds the data of mappings dm: the maps lie in the blocks b1 and b2; the mappings' targets in the world w0. -/
structure DataM (w0 w : World) (p b1 b2 : Nat) (dm : List S43) (compat : Bool) : Prop where
  c0 : w.cell? ⟨p, 0, none⟩ = some (.map (some b1))
  c1 : w.cell? ⟨p, 1, none⟩ = some (.bool compat)
  c2 : w.cell? ⟨p, 2, none⟩ = some (.map (some b2))
  low : w0.heap.size ≤ p ∧ w0.heap.size ≤ b1 ∧ w0.heap.size ≤ b2
  ne : b1 ≠ b2 ∧ p ≠ b1 ∧ p ≠ b2
  maps : ∃ f, MapF Tryd.prog 3 encI w b1 dm.length f ∧ ∀ x, RelM w0 (f x) (lastM dm x)
  below : Below w0.heap.size w0 w

theorem zeroInt (w : World) : (zeroValue 3).run Tryd.prog w = .ok (.int .i64 0) w := by kernel_rfl

set_option maxRecDepth 100000 in
theorem putM {w : World} {b n : Nat} {f : Int → Option Value} (h : MapF Tryd.prog 3 encI w b n f) (x : Int) (v : Value) (hx : -9223372036854775808 ≤ x ∧ x ≤ 9223372036854775807) (hn : n < 9223372036854775807) :
    ∃ w', (Instr.mapUpdate 56 (.map (some b)) (.int .i64 x) v).run Tryd.prog w = .ok () w' ∧ MapF Tryd.prog 3 encI w' b (n + 1) (fun y => if y = x then some v else f y) ∧ w.grownBy w' (some b) :=
  h.update keyed_int encI_inj Tryd.underlying56 (by simp [maxLen]; omega) (keyI Tryd.underlying3 hx)

theorem cell_grown {W W' : World} {b : Nat} {a : Addr} {v : Value} (hg : W.grownBy W' (some b)) (ha : a.block ≠ b) (h : W.cell? a = some v) : W'.cell? a = some v := by
  have hl := cell_lt h
  rw [World.cell?_of_block (w := W) (hg.block a.block hl (by intro e; cases e; exact ha rfl)), h]
theorem RelM.below {w w' : World} (hb : Below w.heap.size w w') {v : Option Value} {m : Option S43} (h : RelM w v m) : RelM w' v m := by
  match v, m, h with
  | none, none, _ => trivial
  | some v, some m, ⟨A, c, h1, h2, h3⟩ => exact ⟨A, c, h1, h2, Kd.C_below h3 hb⟩

/-- Whatever changes nothing below the present size keeps the data. -/
theorem DataM.mono {w0 w w' : World} {p b1 b2 : Nat} {dm : List S43} {compat : Bool} (h : DataM w0 w p b1 b2 dm compat) (hb : Below w.heap.size w w') : DataM w0 w' p b1 b2 dm compat where
  c0 := by rw [hb.cell (cell_lt h.c0)]; exact h.c0
  c1 := by rw [hb.cell (cell_lt h.c1)]; exact h.c1
  c2 := by rw [hb.cell (cell_lt h.c2)]; exact h.c2
  low := h.low
  ne := h.ne
  maps := by obtain ⟨f, h1, h2⟩ := h.maps; exact ⟨f, h1.below hb h1.lt, h2⟩
  below := below_step h.below hb
/-- So does an update of another map of the call's own. -/
theorem DataM.turned {w0 w w' : World} {p b1 b2 b : Nat} {dm : List S43} {compat : Bool} (h : DataM w0 w p b1 b2 dm compat) (hg : w.grownBy w' (some b)) (hp : p ≠ b) (h1 : b1 ≠ b) (hb : w0.heap.size ≤ b) (hlt : b < w.heap.size) : DataM w0 w' p b1 b2 dm compat where
  c0 := cell_grown hg hp h.c0
  c1 := cell_grown hg hp h.c1
  c2 := cell_grown hg hp h.c2
  low := h.low
  ne := h.ne
  maps := by obtain ⟨f, hf, h2⟩ := h.maps; exact ⟨f, hf.kept hg (by intro e; cases e; exact h1 rfl), h2⟩
  below := below_turned h.below hg hb hlt

set_option maxRecDepth 100000 in
set_option maxHeartbeats 8000000 in
theorem load_any (A : Option Addr) (c : Nat) (dm : List S43) (compat : Bool) (w : World) (hr : Kd.C k43 w A dm.length dm) (hl : dm.length < 4611686018427387904) (hv : ∀ m ∈ dm, -9223372036854775808 ≤ m.f0 ∧ m.f0 ≤ 9223372036854775807) :
    Calls Tryd.prog 16 #[.slice A dm.length c, .bool compat] w fun e w' => e = .returned (.pointer (some ⟨w.heap.size + 1 + 1, 0, none⟩)) ∧ DataM w w' (w.heap.size + 1 + 1) w.heap.size (w.heap.size + 1) dm compat ∧ MapF Tryd.prog 3 encI w' (w.heap.size + 1) 0 (fun _ => none) := by
  have HR := Aside0.mk hr
  have HV := Aside0.mk hv
  have hmm := @run_makeMap Tryd.prog
  clear hr hv
  have HD0 : Aside0 (DataM w (((w.alloc (.map #[] 0)).alloc (.map #[] 0)).alloc (.cells #[.map (some w.heap.size), .bool compat, .map (some (w.heap.size + 1))] 59)) (w.heap.size + 1 + 1) w.heap.size (w.heap.size + 1) [] compat) := ⟨by
    refine ⟨?_, ?_, ?_, by omega, by omega, ⟨fun _ => none, ((MapF.made w Tryd.prog 3 encI).alloc _).alloc _, fun x => trivial⟩, below_alloc (below_alloc (below_alloc (Below.refl _ _) _) _) _⟩
    all_goals
      rw [show w.heap.size + 1 + 1 = ((w.alloc (.map #[] 0)).alloc (.map #[] 0)).heap.size by simp, World.cell?_alloc_new]
      rfl⟩
  have HE0 : Aside0 (MapF Tryd.prog 3 encI (((w.alloc (.map #[] 0)).alloc (.map #[] 0)).alloc (.cells #[.map (some w.heap.size), .bool compat, .map (some (w.heap.size + 1))] 59)) (w.heap.size + 1) 0 (fun _ => none)) := ⟨by
    have h := (MapF.made (w.alloc (.map #[] 0)) Tryd.prog 3 encI)
    rw [show (w.alloc (.map #[] 0)).heap.size = w.heap.size + 1 by simp] at h
    exact h.alloc _⟩
  go_enter Tryd.func16, Tryd.ntmps16
  go_wp2_with fail
  go_loopw [15] (fun v wr => ∃ j : Nat, v = .int .i64 (j : Int) ∧ j ≤ dm.length ∧ Aside0 (DataM w wr (w.heap.size + 1 + 1) w.heap.size (w.heap.size + 1) (dm.take j) compat) ∧ Aside0 (MapF Tryd.prog 3 encI wr (w.heap.size + 1) 0 (fun _ => none))) (fun v _ => dm.length - (intOf v).toNat)
  case atStart => exact ⟨0, rfl, by omega, HD0, HE0⟩
  case round =>
    clear HD0 HE0
    obtain ⟨j, rfl, hj, HD, HE⟩ := hrel
    by_cases hlt : j < dm.length
    · obtain ⟨ad, A1, c1, e, hy0, hy1, hy2, hl1, hi1⟩ := at_T43 HR.out (j : Int) (by omega) (by omega)
      subst e
      simp only [Int.toNat_natCast] at hy0 hy1 hy2
      have hx0 := HD.out.below.cell (cell_lt hy0)
      have hx1 := HD.out.below.cell (cell_lt hy1)
      have hx2 := HD.out.below.cell (cell_lt hy2)
      rw [hy0] at hx0
      rw [hy1] at hx1
      rw [hy2] at hx2
      clear hy0 hy1 hy2
      have HX : Aside0 (rd_T43 dm (j : Int) = dm.getD j z43) := ⟨rfl⟩
      generalize rd_T43 dm (j : Int) = x at hx0 hx1 hx2 hl1 hi1 HX
      have HM : Aside0 (RepM w (.agg #[.int .i64 x.f0, .slice A1 x.f1.length c1, .string x.f2]) x) := ⟨A1, c1, rfl, hl1, hi1⟩
      clear hl1 hi1
      have HT : Aside0 (dm.take (j + 1) = dm.take j ++ [x]) := ⟨by
        rw [List.take_succ_eq_append_getElem hlt, HX.out, List.getD_eq_getElem?_getD, List.getElem?_eq_getElem hlt]; rfl⟩
      have hk0 := HD.out.c0
      obtain ⟨f, hf, hrel⟩ := HD.out.maps
      obtain ⟨w', hup, hmf, hg⟩ := putM (hf.alloc (.cells #[.int .i64 x.f0, .slice A1 x.f1.length c1, .string x.f2] 43)).drew x.f0 (.agg #[.int .i64 x.f0, .slice A1 x.f1.length c1, .string x.f2]) (HV.out x (HX.out ▸ getD_mem dm _ j hlt)) (by simp; omega)
      have HF := Aside0.mk hrel
      have HMF := Aside0.mk hmf
      have HGR := Aside0.mk hg
      clear hf hrel hmf hg
      go_wp2_with fail
      refine wp_region_still_tail 7 (by kernel_rfl) (by kernel_rfl) ?_
      simp only [List.take_succ_cons, List.take_zero, List.drop_succ_cons, List.drop_zero]
      generalize hW : wr.alloc (.cells #[.int .i64 x.f0, .slice A1 x.f1.length c1, .string x.f2] 43) = W at hup HMF HGR
      change wpStill _ _ W.drew _ _ _
      have e0 : W.cell? ⟨w.heap.size + 1 + 1, 0, none⟩ = some (.map (some w.heap.size)) := by
        rw [← hW, (below_alloc (Below.refl wr.heap.size wr) _).cell (cell_lt hk0)]; exact hk0
      have m0 : W.cell? ⟨wr.heap.size, 0, none⟩ = some (.int .i64 x.f0) := by rw [← hW]; simp
      have m1 : W.cell? ⟨wr.heap.size, 1, none⟩ = some (.slice A1 x.f1.length c1) := by rw [← hW]; simp
      have m2 : W.cell? ⟨wr.heap.size, 2, none⟩ = some (.string x.f2) := by rw [← hW]; simp
      have HWD : Aside0 (DataM w W.drew (w.heap.size + 1 + 1) w.heap.size (w.heap.size + 1) (dm.take j) compat) := ⟨by
        rw [← hW]; exact HD.out.mono (below_drew (below_alloc (Below.refl wr.heap.size wr) _))⟩
      have HWE : Aside0 (MapF Tryd.prog 3 encI W.drew (w.heap.size + 1) 0 (fun _ => none)) := ⟨by
        rw [← hW]; exact (HE.out.alloc _).drew⟩
      clear hW
      repeat still_step
      refine wpStill_nil ?_
      go_wp2_with fail
      go_roundw
      case rel =>
        refine ⟨j + 1, by first | rfl | go_num, by omega, ⟨?_⟩, ⟨HWE.out.kept HGR.out (by simp)⟩⟩
        rw [HT.out]
        have hd := HWD.out
        refine ⟨cell_grown HGR.out (by simp; omega) hd.c0, cell_grown HGR.out (by simp; omega) hd.c1, cell_grown HGR.out (by simp; omega) hd.c2, hd.low, hd.ne, ⟨_, HMF.out.mono (by simp), fun y => ?_⟩, below_turned hd.below HGR.out (Nat.le_refl _) (by obtain ⟨g, hg, _⟩ := hd.maps; exact hg.lt)⟩
        rw [lastM_snoc]
        by_cases hy : y = x.f0
        · simp only [hy, if_true]; exact HM.out
        · simp only [hy, if_false]; exact HF.out y
      case measure => simp [intOf]; omega
    · go_wp2_with fail
      go_ret
      exact ⟨rfl, by have h := HD.out; rwa [List.take_of_length_le (by omega)] at h, HE.out⟩
end Go.Proofs.YtipedgkampafjaaDoor.Rf
/- Tells what hangul.Decompose gives. -/
namespace Go.Proofs.YtipedgkampafjaaDoor.Rf
open Go.Shelf Go.RowKit Go.Proofs.YtipedgkampafjaaDoorW.PrintWords Go.Proofs.YtipedgkampafjaaDoorW.PrintLast Go.Proofs.YtipedgkampafjaaDoorW.PrintMore

def hp0 (c : Int) : Int := 4352 + (c - 44032) / 28 / 21
def hp1 (c : Int) : Int := 4449 + (c - 44032) / 28 % 21
def hp2 (c : Int) : Int := if (c - 44032) % 28 = 0 then 0 else 4520 + (c - 44032) % 28 - 1
/-- The parts of a syllable, or the number alone. -/
def hdec (c : Int) : List Int := if hk c < 4 then [c] else if (c - 44032) % 28 = 0 then [hp0 c, hp1 c] else [hp0 c, hp1 c, hp2 c]

theorem heap2_old (w : World) (o1 o2 : Obj) : ((w.alloc o1).alloc o2).heap[w.heap.size]? = some o1 := by
  rw [Below.heap_alloc _ _ _ (by simp)]
  show (w.heap.push o1)[w.heap.size]? = some o1
  simp
set_option maxRecDepth 100000 in
set_option maxHeartbeats 8000000 in
theorem parts_any (c : Int) (w : World) (h1 : 44032 ≤ c) (h2 : c < 55204) :
    Calls Tryd.prog 49 #[.int .i64 c] w fun e w' => e = .returned (.agg #[.int .i64 (hp0 c), .int .i64 (hp1 c), .int .i64 (hp2 c)]) ∧ Below w.heap.size w w' := by
  go_enter Tryd.func49, Tryd.ntmps49
  go_wp2_with fail
  · (try simp only [Exit.inBlock, Exit.then])
    refine bodyPost_ret (results_cell_row rfl _ _ w.heap.size 84 _ (0, 0) _ rfl (heap2_old _ _ _) Tryd.underlying84 rfl (by kernel_rfl)) rfl ?_
    refine ⟨?_, by repeat (first | exact Below.refl _ _ | apply below_alloc)⟩
    rw [hp0, hp1, hp2, if_neg (by omega)]
  · (try simp only [Exit.inBlock, Exit.then])
    refine bodyPost_ret (results_cell_row rfl _ _ w.heap.size 84 _ (0, 0) _ rfl (heap2_old _ _ _) Tryd.underlying84 rfl (by kernel_rfl)) rfl ?_
    refine ⟨?_, by repeat (first | exact Below.refl _ _ | apply below_alloc)⟩
    rw [hp0, hp1, hp2, if_pos (by omega)]

theorem hk_syl {c : Int} (h : ¬ hk c < 4) : 44032 ≤ c ∧ c < 55204 := by
  apply Classical.byContradiction
  intro hn
  apply h
  unfold hk
  rw [if_neg hn]
  repeat' split
  all_goals omega
theorem hp_pos (c : Int) (h1 : 44032 ≤ c) (h2 : c < 55204) : ((c - 44032) % 28 = 0 → hp2 c = 0) ∧ (¬ (c - 44032) % 28 = 0 → 0 < hp2 c) := by
  unfold hp2
  refine ⟨fun h => by rw [if_pos h], fun h => by rw [if_neg h]; omega⟩

theorem infoInt : ∃ i, Tryd.prog.info? 3 = some i := Option.isSome_iff_exists.1 (by kernel_rfl)
theorem part0 (a b c : Int) (w : World) : (part 3 #[.int .i64 a, .int .i64 b, .int .i64 c] 0).run Tryd.prog w = .ok (.int .i64 a) w := by kernel_rfl
theorem part1 (a b c : Int) (w : World) : (part 3 #[.int .i64 a, .int .i64 b, .int .i64 c] 1).run Tryd.prog w = .ok (.int .i64 b) w := by kernel_rfl
theorem part2 (a b c : Int) (w : World) : (part 3 #[.int .i64 a, .int .i64 b, .int .i64 c] 2).run Tryd.prog w = .ok (.int .i64 c) w := by kernel_rfl
set_option maxRecDepth 100000 in
theorem eq3 (a b c a' b' c' : Int) (w : World) : (Op.equalIn 10000 84 (.agg #[.int .i64 a, .int .i64 b, .int .i64 c]) (.agg #[.int .i64 a', .int .i64 b', .int .i64 c'])).run Tryd.prog w = .ok (a == a' && b == b' && c == c') w := by
  obtain ⟨i, hi⟩ := infoInt
  have hc : Tryd.prog.cellsOf 3 = 1 := by kernel_rfl
  have e : ∀ x y : Int, (Op.equalIn 9999 3 (.int .i64 x) (.int .i64 y)).run Tryd.prog w = .ok (x == y) w := fun x y => run_equalIn_int w 9998 3 .i64 .i64 x y Tryd.underlying3
  rw [run_equalIn_array w 9999 _ _ Tryd.underlying84 hi, hc, show List.range 3 = [0, 1, 2] from rfl]
  simp only [Op.eqItems, Nat.mul_one, Sem.run_bind, part0, part1, part2, Result.andThen_ok, e]
  by_cases h1 : a = a' <;> by_cases h2 : b = b' <;> by_cases h3 : c = c' <;> simp [part1, part2, e, h1, h2, h3]
/-- A row of cells of one block. -/
theorem C_row {w : World} {A : Addr} {l : List Int} (hl : l.length ≤ 9223372036854775807) (h : ∀ j, j < l.length → w.cell? (A.add j) = some (.int .i64 (l.getD j 0))) : (Kd.int .i64).C w (some A) l.length l :=
  Kd.C_of_reads (d := (0 : Int)) (h1 := fun _ => rfl) ⟨rfl, hl, fun _ => ⟨A, rfl, h⟩⟩

set_option maxRecDepth 100000 in
set_option maxHeartbeats 8000000 in
theorem hdec_any (c : Int) (w : World) :
    Calls Tryd.prog 29 #[.int .i64 c] w fun e w' => (∃ ad cp, e = .returned (.slice (some ad) (hdec c).length cp) ∧ (hdec c).length ≤ cp ∧ (Kd.int .i64).C w' (some ad) (hdec c).length (hdec c)) ∧ Below w.heap.size w w' := by
  have HK := Aside0.mk (kind_any c)
  cases hlt : decide (hk c < 4) with
  | true =>
    have HD : Aside0 (hdec c = [c]) := ⟨by rw [hdec, if_pos (of_decide_eq_true hlt)]⟩
    rw [HD.out]
    generalize hk c = k at HK hlt
    go_enter Tryd.func29, Tryd.ntmps29
    go_wp2_with fail
    refine (HK.out _).mono ?_
    rintro e w' ⟨rfl, hb1⟩
    go_wp2_with fail
    go_ret
    exact ⟨⟨_, _, rfl, Nat.le_refl _, C_one (by simp)⟩, below_alloc hb1 _⟩
  | false =>
    have hs := hk_syl (of_decide_eq_false hlt)
    have HPA := Aside0.mk (fun w => parts_any c w hs.1 hs.2)
    have hpp := hp_pos c hs.1 hs.2
    have HDe : Aside0 (hdec c = if (c - 44032) % 28 = 0 then [hp0 c, hp1 c] else [hp0 c, hp1 c, hp2 c]) := ⟨by rw [hdec, if_neg (of_decide_eq_false hlt)]⟩
    generalize hdec c = l at HDe
    clear hs
    generalize hp0 c = p0 at HPA HDe
    generalize hp1 c = p1 at HPA HDe
    generalize hp2 c = p2 at HPA HDe hpp
    generalize hk c = k at HK hlt
    by_cases hm : (c - 44032) % 28 = 0
    · rw [if_pos hm] at HDe
      obtain rfl := hpp.1 hm
      rw [HDe.out]
      clear hpp hm
      go_enter Tryd.func29, Tryd.ntmps29
      go_wp2_with fail
      refine (HK.out _).mono ?_
      rintro e w' ⟨rfl, hb1⟩
      go_wp2_with fail
      refine (HPA.out _).mono ?_
      rintro e w2 ⟨rfl, hb2⟩
      have he := eq3 p0 p1 0 p0 p1 0 (w2.alloc (.cells #[.int .i64 p0, .int .i64 p1, .int .i64 0] 84))
      simp only [beq_self_eq_true, Bool.and_self] at he
      go_wp2_with fail
      go_ret
      refine ⟨⟨_, _, rfl, by simp, C_row (by simp) (fun j hj => ?_)⟩, below_alloc (below_step hb1 hb2) _⟩
      simp only [List.length_cons, List.length_nil] at hj
      obtain rfl | rfl : j = 0 ∨ j = 1 := by omega
      all_goals simp [Addr.add]
    · rw [if_neg hm] at HDe
      have hz := hpp.2 hm
      rw [HDe.out]
      clear hpp hm
      go_enter Tryd.func29, Tryd.ntmps29
      go_wp2_with fail
      refine (HK.out _).mono ?_
      rintro e w' ⟨rfl, hb1⟩
      go_wp2_with fail
      refine (HPA.out _).mono ?_
      rintro e w2 ⟨rfl, hb2⟩
      have he := eq3 p0 p1 p2 p0 p1 0 (w2.alloc (.cells #[.int .i64 p0, .int .i64 p1, .int .i64 p2] 84))
      have hz0 : (p2 == 0) = false := by simpa using (by omega : ¬ p2 = 0)
      simp only [beq_self_eq_true, Bool.and_self, hz0, Bool.and_false] at he
      go_wp2_with fail
      go_ret
      refine ⟨⟨_, _, rfl, by simp, C_row (by simp) (fun j hj => ?_)⟩, below_alloc (below_step hb1 hb2) _⟩
      simp only [List.length_cons, List.length_nil] at hj
      obtain rfl | rfl | rfl : j = 0 ∨ j = 1 ∨ j = 2 := by omega
      all_goals simp [Addr.add]
end Go.Proofs.YtipedgkampafjaaDoor.Rf
/- Tells what once finds. -/
namespace Go.Proofs.YtipedgkampafjaaDoor.Rf
open Go.Shelf Go.RowKit Go.Proofs.YtipedgkampafjaaDoorW.PrintWords Go.Proofs.YtipedgkampafjaaDoorW.PrintLast Go.Proofs.YtipedgkampafjaaDoorW.PrintMore

/-- The mapping of a number. -/
def onceS (dm : List S43) (compat : Bool) (c : Int) : Option (List Int) :=
  if hk c < 4 then (match lastM dm c with
    | none => none
    | some m => if !m.f2.toList.isEmpty && !compat then none else some m.f1)
  else some (hdec c)
/-- What once hands back. -/
def OnceRet (w : World) (e : Ending) : Option (List Int) → Prop
  | none => e = .returned (.tuple #[.slice none 0 0, .bool false])
  | some l => ∃ A cp, e = .returned (.tuple #[.slice A l.length cp, .bool true]) ∧ l.length ≤ cp ∧ (Kd.int .i64).C w A l.length l

theorem zeroMap (w : World) : (zeroValue 43).run Tryd.prog w = .ok (.agg #[.int .i64 0, .slice none 0 0, .string ⟨#[]⟩]) w := by kernel_rfl
set_option maxRecDepth 100000 in
theorem lookM {w : World} {b n : Nat} {f : Int → Option Value} (h : MapF Tryd.prog 3 encI w b n f) (x : Int) (hx : -9223372036854775808 ≤ x ∧ x ≤ 9223372036854775807) :
    (Instr.lookup 56 (.map (some b)) (.int .i64 x) true).run Tryd.prog w = .ok (.tuple #[(f x).getD (.agg #[.int .i64 0, .slice none 0 0, .string ⟨#[]⟩]), .bool (f x).isSome]) w :=
  h.lookOk keyed_int Tryd.underlying56 (zeroMap w) (keyI Tryd.underlying3 hx)

set_option maxRecDepth 100000 in
set_option maxHeartbeats 8000000 in
theorem once_any {w0 w : World} {p b1 b2 : Nat} {dm : List S43} {compat : Bool} (h : DataM w0 w p b1 b2 dm compat) (c : Int) (hc : -9223372036854775808 ≤ c ∧ c ≤ 9223372036854775807) :
    Calls Tryd.prog 18 #[.pointer (some ⟨p, 0, none⟩), .int .i64 c] w fun e w' => OnceRet w' e (onceS dm compat c) ∧ Below w.heap.size w w' := by
  have HD := Aside0.mk h
  have HC := Aside0.mk hc
  clear h hc
  have HH := Aside0.mk (hdec_any c w)
  cases hlt : decide (hk c < 4) with
  | false =>
    have HO : Aside0 (onceS dm compat c = some (hdec c)) := ⟨by rw [onceS, if_neg (of_decide_eq_false hlt)]⟩
    have hlen : (1 : Int) < ((hdec c).length : Int) := by
      rw [hdec, if_neg (of_decide_eq_false hlt)]; split <;> simp
    rw [HO.out]
    generalize hdec c = l at HH hlen HO
    clear hlt HO
    go_enter Tryd.func18, Tryd.ntmps18
    go_wp2_with fail
    refine HH.out.mono ?_
    rintro e w' ⟨⟨ad, cp, rfl, h1, h2⟩, hb1⟩
    have H1 := Aside0.mk h1
    have H2 := Aside0.mk h2
    clear h1 h2
    go_wp2_with fail
    go_ret2
    exact ⟨⟨_, _, rfl, H1.out, H2.out⟩, hb1⟩
  | true =>
    have hde : hdec c = [c] := by rw [hdec, if_pos (of_decide_eq_true hlt)]
    rw [hde] at HH
    clear hde
    obtain ⟨f, hf, hrel⟩ := HD.out.maps
    have HR := Aside0.mk (hrel c)
    have HF := Aside0.mk hf
    clear hrel hf
    cases hfc : f c with
    | none =>
      have HO : Aside0 (onceS dm compat c = none) := ⟨by
        rw [onceS, if_pos (of_decide_eq_true hlt)]
        have := HR.out
        rw [hfc] at this
        cases hl : lastM dm c with
        | none => rfl
        | some m => rw [hl] at this; exact this.elim⟩
      rw [HO.out]
      clear hlt HO HR
      go_enter Tryd.func18, Tryd.ntmps18
      go_wp2_with fail
      refine HH.out.mono ?_
      rintro e w' ⟨⟨ad, cp, rfl, h1, h2⟩, hb1⟩
      clear h1 h2
      have hk0 := (HD.out.mono hb1).c0
      have hlook := lookM (HF.out.below hb1 HF.out.lt) c HC.out
      rw [hfc] at hlook
      simp only [Option.getD_none, Option.isSome_none] at hlook
      go_wp2_with fail
      go_ret2
      exact ⟨rfl, below_alloc hb1 _⟩
    | some v =>
      cases hl : lastM dm c with
      | none => have := HR.out; rw [hfc, hl] at this; exact this.elim
      | some m =>
        have hv := HR.out
        rw [hfc, hl] at hv
        obtain ⟨A1, c1, rfl, hl1, hi1⟩ := hv
        have HI := Aside0.mk hi1
        have HL := Aside0.mk hl1
        clear hi1 hl1 HR
        cases hq : (!m.f2.toList.isEmpty && !compat) with
        | true =>
          have HO : Aside0 (onceS dm compat c = none) := ⟨by rw [onceS, if_pos (of_decide_eq_true hlt), hl]; simp only [hq]; rfl⟩
          rw [HO.out]
          clear HO
          rw [Bool.and_eq_true] at hq
          have hq1 : m.f2.toList.isEmpty = false := by simpa using hq.1
          have hq2 : compat = false := by simpa using hq.2
          subst hq2
          clear hq
          go_enter Tryd.func18, Tryd.ntmps18
          go_wp2_with fail
          refine HH.out.mono ?_
          rintro e w' ⟨⟨ad, cp, rfl, h1, h2⟩, hb1⟩
          clear h1 h2
          have hk0 := (HD.out.mono hb1).c0
          have hk1 := (HD.out.mono hb1).c1
          have hlook := lookM (HF.out.below hb1 HF.out.lt) c HC.out
          rw [hfc] at hlook
          simp only [Option.getD_some, Option.isSome_some] at hlook
          have hk2 : (w'.alloc (.cells #[.int .i64 m.f0, .slice A1 m.f1.length c1, .string m.f2] 43)).cell? ⟨p, 1, none⟩ = some (.bool false) := by
            rw [(below_alloc (Below.refl w'.heap.size w') _).cell (cell_lt hk1)]; exact hk1
          go_wp2_with fail
          go_ret2
          exact ⟨rfl, below_alloc hb1 _⟩
        | false =>
          have HO : Aside0 (onceS dm compat c = some m.f1) := ⟨by rw [onceS, if_pos (of_decide_eq_true hlt), hl]; simp only [hq]; rfl⟩
          rw [HO.out]
          clear HO
          cases hq1 : m.f2.toList.isEmpty with
          | true =>
            go_enter Tryd.func18, Tryd.ntmps18
            go_wp2_with fail
            refine HH.out.mono ?_
            rintro e w' ⟨⟨ad, cp, rfl, h1, h2⟩, hb1⟩
            clear h1 h2
            have hk0 := (HD.out.mono hb1).c0
            have hlook := lookM (HF.out.below hb1 HF.out.lt) c HC.out
            rw [hfc] at hlook
            simp only [Option.getD_some, Option.isSome_some] at hlook
            go_wp2_with fail
            go_ret2
            exact ⟨⟨A1, c1, rfl, HL.out, Kd.C_below HI.out (below_alloc (below_step HD.out.below hb1) _)⟩, below_alloc hb1 _⟩
          | false =>
            have hq2 : compat = true := by simpa [hq1] using hq
            subst hq2
            clear hq
            go_enter Tryd.func18, Tryd.ntmps18
            go_wp2_with fail
            refine HH.out.mono ?_
            rintro e w' ⟨⟨ad, cp, rfl, h1, h2⟩, hb1⟩
            clear h1 h2
            have hk0 := (HD.out.mono hb1).c0
            have hk1 := (HD.out.mono hb1).c1
            have hlook := lookM (HF.out.below hb1 HF.out.lt) c HC.out
            rw [hfc] at hlook
            simp only [Option.getD_some, Option.isSome_some] at hlook
            have hk2 : (w'.alloc (.cells #[.int .i64 m.f0, .slice A1 m.f1.length c1, .string m.f2] 43)).cell? ⟨p, 1, none⟩ = some (.bool true) := by
              rw [(below_alloc (Below.refl w'.heap.size w') _).cell (cell_lt hk1)]; exact hk1
            go_wp2_with fail
            go_ret2
            exact ⟨⟨A1, c1, rfl, HL.out, Kd.C_below HI.out (below_alloc (below_step HD.out.below hb1) _)⟩, below_alloc hb1 _⟩
end Go.Proofs.YtipedgkampafjaaDoor.Rf
/- Tells what slices.ContainsFunc does with a predicate that keeps a state. -/
namespace Go.Proofs.YtipedgkampafjaaDoor.Rf
open Go.Shelf Go.RowKit Go.Proofs.YtipedgkampafjaaDoorW.PrintWords Go.Proofs.YtipedgkampafjaaDoorW.PrintLast Go.Proofs.YtipedgkampafjaaDoorW.PrintMore

set_option maxRecDepth 100000 in
set_option maxHeartbeats 4000000 in
theorem idxIntS (I : Nat → World → Prop) (T : World → Prop) (g : Nat) (cb : Array Value) (eg : ∀ args w, (callFunc g args).run Tryd.prog w = .ok (.enter g args) w) (A : Option Addr) (c : Nat) (xs : List Int) (w : World)
    (hI0 : I 0 w) (hl : xs.length ≤ 9223372036854775807) (hI : ∀ k W, I k W → Kd.C (Kd.int .i64) W A xs.length xs)
    (hp : ∀ (k : Nat) (W : World), k < xs.length → I k W → Calls Tryd.prog g (#[.int .i64 (xs.getD k 0)] ++ cb) W fun e w' => (e = .returned (.bool true) ∧ T w') ∨ (e = .returned (.bool false) ∧ I (k + 1) w')) :
    Calls Tryd.prog 67 #[.slice A xs.length c, .func (.func g) #[] cb] w fun e w' => (∃ i : Nat, e = .returned (.int .i64 i) ∧ T w') ∨ (e = .returned (.int .i64 (-1)) ∧ I xs.length w') := by
  have HP := Aside0.mk hp
  have HI := Aside0.mk hI
  have H0 := Aside0.mk hI0
  clear hp hI hI0
  go_enter Tryd.func67, Tryd.ntmps67
  go_wp2_with fail
  go_loopw [8] (fun v wr => ∃ k : Nat, v = .int .i64 k ∧ k ≤ xs.length ∧ Aside0 (I k wr)) (fun v _ => xs.length - (intOf v).toNat)
  case atStart => exact ⟨0, rfl, Nat.zero_le _, H0⟩
  case round =>
    clear H0
    obtain ⟨k, rfl, hk, HA⟩ := hrel
    by_cases hlt : k < xs.length
    · obtain ⟨ad, e, hx0⟩ := ReadsInt.at_ (ReadsInt.of_C (HI.out k wr HA.out)) k (by omega) (by omega)
      subst e
      simp only [Int.toNat_natCast] at hx0
      have HP' : Aside0 (Calls Tryd.prog g (#[.int .i64 (rd xs k)] ++ cb) wr fun e w' => (e = .returned (.bool true) ∧ T w') ∨ (e = .returned (.bool false) ∧ I (k + 1) w')) := ⟨by
        rw [rd, Int.toNat_natCast]; exact HP.out k wr hlt HA.out⟩
      go_wp2_with fail
      refine HP'.out.mono ?_
      rintro e w' (⟨rfl, ht⟩ | ⟨rfl, hi⟩)
      · have HT := Aside0.mk ht
        clear ht
        go_wp2_with fail
        go_ret
        exact Or.inl ⟨k, rfl, HT.out⟩
      · have HT := Aside0.mk hi
        clear hi
        go_wp2_with fail
        go_roundw
        case rel => exact ⟨k + 1, by go_num, by omega, HT⟩
        case measure => simp [intOf]; omega
    · go_wp2_with fail
      go_ret
      exact Or.inr ⟨rfl, by have : k = xs.length := by omega
                            subst this; exact HA.out⟩

set_option maxHeartbeats 4000000 in
theorem hasIntS (I : Nat → World → Prop) (T : World → Prop) (g : Nat) (cb : Array Value) (eg : ∀ args w, (callFunc g args).run Tryd.prog w = .ok (.enter g args) w) (A : Option Addr) (c : Nat) (xs : List Int) (w : World)
    (hI0 : I 0 w) (hl : xs.length ≤ 9223372036854775807) (hI : ∀ k W, I k W → Kd.C (Kd.int .i64) W A xs.length xs)
    (hp : ∀ (k : Nat) (W : World), k < xs.length → I k W → Calls Tryd.prog g (#[.int .i64 (xs.getD k 0)] ++ cb) W fun e w' => (e = .returned (.bool true) ∧ T w') ∨ (e = .returned (.bool false) ∧ I (k + 1) w')) :
    Calls Tryd.prog 47 #[.slice A xs.length c, .func (.func g) #[] cb] w fun e w' => (e = .returned (.bool true) ∧ T w') ∨ (e = .returned (.bool false) ∧ I xs.length w') := by
  have HC := Lib.hid (idxIntS I T g cb eg A c xs w hI0 hl hI hp)
  clear hI0 hI hp
  go_enter Tryd.func47, Tryd.ntmps47
  go_wp2_with fail
  refine HC.out.mono ?_
  rintro e w' (⟨i, rfl, ht⟩ | ⟨rfl, hi⟩)
  · have hT := Aside0.mk ht
    have h0 : decide ((0 : Int) ≤ (i : Int)) = true := by simp
    clear ht
    go_wp2_with fail
    go_ret
    exact Or.inl ⟨ret_bool (by first | rfl | exact h0 | simp), hT.out⟩
  · have hT := Aside0.mk hi
    clear hi
    go_wp2_with fail
    go_ret
    exact Or.inr ⟨rfl, hT.out⟩
end Go.Proofs.YtipedgkampafjaaDoor.Rf
/- Tells when replacing ends for a number, and what cyclic finds out. -/
namespace Go.Proofs.YtipedgkampafjaaDoor.Rf
open Go.Shelf Go.RowKit Go.Proofs.YtipedgkampafjaaDoorW.PrintWords Go.Proofs.YtipedgkampafjaaDoorW.PrintLast Go.Proofs.YtipedgkampafjaaDoorW.PrintMore

/-! ### states -/
def upd (s : Int → Int) (c v : Int) : Int → Int := fun x => if x = c then v else s x
def stF (s : Int → Int) : Int → Option Value := fun x => if s x = 0 then none else some (.int .i64 (s x))
theorem stF_upd (s : Int → Int) (c v : Int) (hv : v ≠ 0) : stF (upd s c v) = fun y => if y = c then some (.int .i64 v) else stF s y := by
  funext y
  by_cases h : y = c <;> simp [stF, upd, h, hv]
/-- Where numbers that have a mapping lie. -/
def univ (dm : List S43) : List Int := dm.map (fun m => m.f0) ++ (List.range 11172).map (fun i : Nat => (44032 : Int) + (i : Int))
theorem univ_mem {dm : List S43} {cp : Bool} {c : Int} {tl : List Int} (h : onceS dm cp c = some tl) : c ∈ univ dm := by
  unfold onceS at h
  by_cases hk4 : hk c < 4
  · rw [if_pos hk4] at h
    cases hl : lastM dm c with
    | none => rw [hl] at h; cases h
    | some m =>
      obtain ⟨h1, h2⟩ := lastM_mem hl
      exact List.mem_append_left _ (List.mem_map.2 ⟨m, h1, h2⟩)
  · have := hk_syl hk4
    refine List.mem_append_right _ (List.mem_map.2 ⟨(c - 44032).toNat, List.mem_range.2 (by omega), by omega⟩)
def wh (dm : List S43) (s : Int → Int) : Nat := (univ dm).countP fun x => s x == 0
theorem countP_le {α : Type} (l : List α) (p q : α → Bool) (h : ∀ x, p x = true → q x = true) : l.countP p ≤ l.countP q := List.countP_mono_left fun x _ hx => h x hx
theorem countP_lt {α : Type} (l : List α) (p q : α → Bool) (h : ∀ x, p x = true → q x = true) (c : α) (hc : c ∈ l) (hp : p c = false) (hq : q c = true) : l.countP p + 1 ≤ l.countP q := by
  induction l with
  | nil => cases hc
  | cons y l ih =>
    have hle := countP_le l p q h
    rcases List.mem_cons.1 hc with rfl | h1
    · rw [List.countP_cons_of_neg (by simp [hp]), List.countP_cons_of_pos hq]; omega
    · have := ih h1
      rw [List.countP_cons, List.countP_cons]
      cases hpy : p y with
      | false => simp only [Bool.false_eq_true, if_false]; split <;> omega
      | true => rw [h y hpy]; simp only [if_true]; omega
theorem wh_mono (dm : List S43) {s s' : Int → Int} (h : ∀ x, s x ≠ 0 → s' x ≠ 0) : wh dm s' ≤ wh dm s :=
  countP_le _ _ _ fun x hx => by
    simp only [beq_iff_eq] at hx ⊢
    exact Classical.byContradiction fun hn => h x hn hx
theorem wh_set (dm : List S43) {s : Int → Int} {c v : Int} (hv : v ≠ 0) (h0 : s c = 0) (hc : c ∈ univ dm) : wh dm (upd s c v) + 1 ≤ wh dm s :=
  countP_lt _ _ _ (fun x hx => by
    simp only [beq_iff_eq, upd] at hx ⊢
    by_cases h : x = c
    · rw [if_pos h] at hx; exact absurd hx hv
    · rwa [if_neg h] at hx) c hc (by simp [upd, hv]) (by simp [h0])
theorem upd_ne (s : Int → Int) (c v : Int) (hv : v ≠ 0) (x : Int) (h : s x ≠ 0) : upd s c v x ≠ 0 := by
  unfold upd; split
  · exact hv
  · exact h

/-! ### edges -/
/-- x is a part of the mapping of c. -/
def Edge (dm : List S43) (cp : Bool) (x c : Int) : Prop := ∃ tl, onceS dm cp c = some tl ∧ x ∈ tl
/-- Replacing ends for c. -/
def Ends (dm : List S43) (cp : Bool) (c : Int) : Prop := Acc (Edge dm cp) c
theorem acc_irrefl {α : Type} {r : α → α → Prop} {a : α} (h : Acc r a) : ¬ r a a := by
  induction h with
  | intro x _ ih => exact fun hx => ih x hx hx
theorem acc_trans {α : Type} {r : α → α → Prop} {a : α} (h : Acc r a) : Acc (Relation.TransGen r) a := by
  induction h with
  | intro x _ ih =>
    refine Acc.intro x fun y hy => ?_
    induction hy with
    | single h => exact ih _ h
    | tail _ h ih2 => exact (ih _ h).inv ‹_›
theorem no_ends {dm : List S43} {cp : Bool} {c : Int} (h : Relation.TransGen (Edge dm cp) c c) : ¬ Ends dm cp c := fun ha => acc_irrefl (acc_trans ha) h

/-! ### the closures' surroundings -/
/-- What the closure g of data p sees: the boxes pd, ps, pv hold the data, the map bs and the closure. -/
structure VEnv (g : Nat) (w0 W : World) (p b1 b2 : Nat) (dm : List S43) (cp : Bool) (pd ps pv bs : Nat) : Prop where
  cd : W.cell? ⟨pd, 0, none⟩ = some (.pointer (some ⟨p, 0, none⟩))
  cs : W.cell? ⟨ps, 0, none⟩ = some (.map (some bs))
  cv : W.cell? ⟨pv, 0, none⟩ = some (.func (.func g) #[] #[.pointer (some ⟨pd, 0, none⟩), .pointer (some ⟨ps, 0, none⟩), .pointer (some ⟨pv, 0, none⟩)])
  dat : DataM w0 W p b1 b2 dm cp
  ne : p ≠ bs ∧ b1 ≠ bs ∧ pd ≠ bs ∧ ps ≠ bs ∧ pv ≠ bs
  low : w0.heap.size ≤ bs
variable {g : Nat} {w0 W W' : World} {p b1 b2 : Nat} {dm : List S43} {cp : Bool} {pd ps pv bs : Nat}
theorem VEnv.below (h : VEnv g w0 W p b1 b2 dm cp pd ps pv bs) (hb : Below W.heap.size W W') : VEnv g w0 W' p b1 b2 dm cp pd ps pv bs where
  cd := by rw [hb.cell (cell_lt h.cd)]; exact h.cd
  cs := by rw [hb.cell (cell_lt h.cs)]; exact h.cs
  cv := by rw [hb.cell (cell_lt h.cv)]; exact h.cv
  dat := h.dat.mono hb
  ne := h.ne
  low := h.low
theorem VEnv.turned (h : VEnv g w0 W p b1 b2 dm cp pd ps pv bs) (hg : W.grownBy W' (some bs)) (hlt : bs < W.heap.size) : VEnv g w0 W' p b1 b2 dm cp pd ps pv bs where
  cd := cell_grown hg h.ne.2.2.1 h.cd
  cs := cell_grown hg h.ne.2.2.2.1 h.cs
  cv := cell_grown hg h.ne.2.2.2.2 h.cv
  dat := h.dat.turned hg h.ne.1 h.ne.2.1 h.low hlt
  ne := h.ne
  low := h.low
theorem grown_of_below (hb : Below W.heap.size W W') (row : Option Nat) : W.grownBy W' row := ⟨hb.os, hb.tape, hb.output, hb.size, fun i hi _ => hb.block i hi⟩
theorem grown_trans {a b c : World} (h1 : a.grownBy b (some bs)) (h2 : b.grownBy c (some bs)) : a.grownBy c (some bs) := h1.andThen h2 fun j hj => Or.inr hj
/-- A row of numbers is not in the map's block. -/
theorem C_turned {A : Option Addr} {xs : List Int} {n : Nat} {f : Int → Option Value} (h : (Kd.int .i64).C W A xs.length xs) (hm : MapF Tryd.prog 3 encI W bs n f) (hg : W.grownBy W' (some bs)) : (Kd.int .i64).C W' A xs.length xs := by
  have hr : ReadsInt W .i64 A xs.length xs := ReadsInt.of_C h
  refine Kd.C_of_reads (d := (0 : Int)) (h1 := fun _ => rfl) ⟨rfl, hr.2.1, fun hn => ?_⟩
  obtain ⟨ad, e, hc⟩ := hr.2.2 hn
  refine ⟨ad, e, fun j hj => cell_grown hg ?_ (hc j hj)⟩
  intro he
  obtain ⟨D, ⟨es, clock, hb, _⟩, _⟩ := hm
  have h2 := hc j hj
  simp only [Addr.add] at he
  simp [World.cell?, Addr.add, he, hb] at h2

set_option maxRecDepth 100000 in
theorem lookS {w : World} {b n : Nat} {s : Int → Int} (h : MapF Tryd.prog 3 encI w b n (stF s)) (x : Int) (hx : -9223372036854775808 ≤ x ∧ x ≤ 9223372036854775807) :
    (Instr.lookup 80 (.map (some b)) (.int .i64 x) false).run Tryd.prog w = .ok (.int .i64 (s x)) w := by
  have h1 := h.look keyed_int Tryd.underlying80 (zeroInt w) (x := x) (keyI Tryd.underlying3 hx)
  rw [h1]
  by_cases h0 : s x = 0 <;> simp [stF, h0]
set_option maxRecDepth 100000 in
theorem lookSok {w : World} {b n : Nat} {s : Int → Int} (h : MapF Tryd.prog 3 encI w b n (stF s)) (x : Int) (hx : -9223372036854775808 ≤ x ∧ x ≤ 9223372036854775807) :
    (Instr.lookup 80 (.map (some b)) (.int .i64 x) true).run Tryd.prog w = .ok (.tuple #[.int .i64 (s x), .bool (s x != 0)]) w := by
  have h1 := h.lookOk keyed_int Tryd.underlying80 (zeroInt w) (x := x) (keyI Tryd.underlying3 hx)
  rw [h1]
  by_cases h0 : s x = 0
  · simp [stF, h0]
  · have : (s x != 0) = true := by simpa using h0
    simp [stF, h0]
set_option maxRecDepth 100000 in
theorem putS {w : World} {b n : Nat} {s : Int → Int} (h : MapF Tryd.prog 3 encI w b n (stF s)) (x v : Int) (hx : -9223372036854775808 ≤ x ∧ x ≤ 9223372036854775807) (hv : v ≠ 0) (hn : n < 9223372036854775807) :
    ∃ w', (Instr.mapUpdate 80 (.map (some b)) (.int .i64 x) (.int .i64 v)).run Tryd.prog w = .ok () w' ∧ MapF Tryd.prog 3 encI w' b (n + 1) (stF (upd s x v)) ∧ w.grownBy w' (some b) := by
  rw [stF_upd s x v hv]
  exact h.update keyed_int encI_inj Tryd.underlying80 (by simp [maxLen]; omega) (keyI Tryd.underlying3 hx)
end Go.Proofs.YtipedgkampafjaaDoor.Rf
/- Tells what the closure of cyclic finds out. -/
namespace Go.Proofs.YtipedgkampafjaaDoor.Rf
open Go.Shelf Go.RowKit Go.Proofs.YtipedgkampafjaaDoorW.PrintWords Go.Proofs.YtipedgkampafjaaDoorW.PrintLast Go.Proofs.YtipedgkampafjaaDoorW.PrintMore

variable {w0 : World} {p b1 b2 : Nat} {dm : List S43} {cp : Bool} {pd ps pv bs : Nat}
def inR (x : Int) : Prop := -9223372036854775808 ≤ x ∧ x ≤ 9223372036854775807
theorem hdec_range {c x : Int} (h : ¬ hk c < 4) (hx : x ∈ hdec c) : inR x := by
  have := hk_syl h
  unfold hdec at hx
  rw [if_neg h] at hx
  have h2 : (0 : Int) ≤ hp2 c ∧ hp2 c ≤ 5000 := by unfold hp2; split <;> omega
  unfold hp0 hp1 at hx
  have h1 : (0 : Int) ≤ (c - 44032) / 28 ∧ (c - 44032) / 28 ≤ 399 := by omega
  unfold inR
  split at hx <;> simp only [List.mem_cons, List.not_mem_nil, or_false] at hx
  · rcases hx with h | h <;> omega
  · rcases hx with h | h | h <;> omega
theorem edge_range (hv : ∀ m ∈ dm, badCodes m = false) {x c : Int} (h : Edge dm cp x c) : inR x := by
  obtain ⟨tl, h1, h2⟩ := h
  unfold onceS at h1
  by_cases hk4 : hk c < 4
  · rw [if_pos hk4] at h1
    cases hl : lastM dm c with
    | none => rw [hl] at h1; cases h1
    | some m =>
      rw [hl] at h1
      simp only at h1
      split at h1
      · cases h1
      · cases h1
        have h3 := hv m (lastM_mem hl).1
        simp only [badCodes, Bool.or_eq_false_iff, Bool.not_eq_false'] at h3
        exact valid_range (List.all_eq_true.1 h3.2 x h2)
  · rw [if_neg hk4] at h1
    cases h1
    exact hdec_range hk4 h2

def VisT (dm : List S43) (cp : Bool) (bs N : Nat) (c : Int) (W w' : World) : Prop :=
  ∃ s' n', MapF Tryd.prog 3 encI w' bs n' (stF s') ∧ n' ≤ N ∧ ¬ Ends dm cp c ∧ W.grownBy w' (some bs)
def VisF (dm : List S43) (cp : Bool) (bs N : Nat) (s : Int → Int) (c : Int) (W w' : World) : Prop :=
  ∃ s' n', MapF Tryd.prog 3 encI w' bs n' (stF s') ∧ n' + 2 * wh dm s' ≤ N ∧ (∀ x, s' x = 0 ∨ s' x = 1 ∨ s' x = 2) ∧ (∀ x, s' x = 2 → Ends dm cp x) ∧ (∀ x, s' x = 1 ↔ s x = 1) ∧ (∀ x, s x ≠ 0 → s' x ≠ 0) ∧ Ends dm cp c ∧ W.grownBy w' (some bs)

set_option maxRecDepth 100000 in
set_option maxHeartbeats 8000000 in
theorem visit_any (hv : ∀ m ∈ dm, badCodes m = false) : ∀ (k N n : Nat) (s : Int → Int) (c : Int) (W : World), VEnv 46 w0 W p b1 b2 dm cp pd ps pv bs → MapF Tryd.prog 3 encI W bs n (stF s) → n + 2 * wh dm s ≤ N → N < 9223372036854775807 → wh dm s ≤ k →
    (∀ x, s x = 0 ∨ s x = 1 ∨ s x = 2) → (∀ x, s x = 2 → Ends dm cp x) → (∀ x, s x = 1 → Relation.TransGen (Edge dm cp) c x) → inR c →
    Calls Tryd.prog 46 #[.int .i64 c, .pointer (some ⟨pd, 0, none⟩), .pointer (some ⟨ps, 0, none⟩), .pointer (some ⟨pv, 0, none⟩)] W fun e w' => (e = .returned (.bool true) ∧ VisT dm cp bs N c W w') ∨ (e = .returned (.bool false) ∧ VisF dm cp bs N s c W w') := by
  intro k
  induction k using Nat.strongRecOn with
  | ind k ih =>
    intro N n s c W hE hM hN hNb hk hs h2 h1 hc
    have HIH := Aside0.mk ih
    have HE := Aside0.mk hE
    have HM := Aside0.mk hM
    have HN := Aside0.mk hN
    have HK := Aside0.mk hk
    have HS := Aside0.mk hs
    have H2 := Aside0.mk h2
    have H1 := Aside0.mk h1
    have HC := Aside0.mk hc
    have HO := Aside0.mk (once_any hE.dat c hc)
    have hcd := hE.cd
    clear ih hE hM hN hk hs h2 h1 hc
    cases ho : onceS dm cp c with
    | none =>
      rw [ho] at HO
      have HEnd : Aside0 (Ends dm cp c) := ⟨Acc.intro c fun y ⟨tl, hy, _⟩ => by rw [ho] at hy; cases hy⟩
      go_enter Tryd.func46, Tryd.ntmps46
      go_wp2_with fail
      refine HO.out.mono ?_
      rintro e w1 ⟨rfl, hb1⟩
      go_wp2_with fail
      go_ret
      exact Or.inr ⟨rfl, s, n, HM.out.below hb1 HM.out.lt, HN.out, HS.out, H2.out, fun x => Iff.rfl, fun x hx => hx, HEnd.out, grown_of_below hb1 _⟩
    | some tl =>
      rw [ho] at HO
      rcases HS.out c with h0 | h0 | h0
      · have hw1 := wh_set dm (c := c) (v := 1) (by decide) h0 (univ_mem ho)
        have HW1 := Aside0.mk hw1
        have HGray : Aside0 (∀ x y, x ∈ tl → upd s c 1 y = 1 → Relation.TransGen (Edge dm cp) x y) := ⟨fun x y hx hy => by
          have he : Edge dm cp x c := ⟨tl, ho, hx⟩
          by_cases hyc : y = c
          · subst hyc; exact .single he
          · exact Relation.TransGen.trans (.single he) (H1.out y (by simpa [upd, hyc] using hy))⟩
        have HRange : Aside0 (∀ x, x ∈ tl → inR x) := ⟨fun x hx => edge_range hv ⟨tl, ho, hx⟩⟩
        have HUp : Aside0 (∀ x, x ∈ tl → ¬ Ends dm cp x → ¬ Ends dm cp c) := ⟨fun x hx hn hcx => hn (Acc.inv hcx ⟨tl, ho, hx⟩)⟩
        have HAll : Aside0 ((∀ i, i < tl.length → Ends dm cp (tl.getD i 0)) → Ends dm cp c) := ⟨fun hi => Acc.intro c fun y ⟨tl', hy, hm⟩ => by
          rw [ho] at hy
          cases hy
          obtain ⟨i, hil, rfl⟩ := List.mem_iff_getElem.1 hm
          have := hi i hil
          rwa [List.getD_eq_getElem?_getD, List.getElem?_eq_getElem hil] at this⟩
        clear hw1
        have eg : ∀ args w, (callFunc 46 args).run Tryd.prog w = .ok (.enter 46 args) w := enters_of Tryd.func46 (by kernel_rfl) rfl
        have HEG := Aside0.mk eg
        clear eg
        go_enter Tryd.func46, Tryd.ntmps46
        go_wp2_with fail
        refine HO.out.mono ?_
        rintro e w1 ⟨⟨A, ca, rfl, hl, hr⟩, hb1⟩
        have HL := Aside0.mk hl
        have HE1 := Aside0.mk (HE.out.below hb1)
        have HM1 := Aside0.mk (HM.out.below hb1 HM.out.lt)
        have HB1 := Aside0.mk hb1
        have hcs := HE1.out.cs
        have hlook := lookS HM1.out c HC.out
        rw [h0] at hlook
        obtain ⟨w2, hup, hm2, hg2⟩ := putS HM1.out c 1 HC.out (by decide) (by have := HN.out; omega)
        have HE2 := Aside0.mk (HE1.out.turned hg2 HM1.out.lt)
        have HM2 := Aside0.mk hm2
        have HG2 := Aside0.mk (grown_trans (grown_of_below hb1 _) hg2)
        have HR2 := Aside0.mk (C_turned hr HM1.out hg2)
        have hcv2 := HE2.out.cv
        clear hm2 hg2 hl hr hb1
        go_wp2_with fail
        have hlen : tl.length ≤ 9223372036854775807 := Kd.C_max HR2.out
        refine (hasIntS (fun j Wx => ∃ s' n', MapF Tryd.prog 3 encI Wx bs n' (stF s') ∧ n' + 2 * wh dm s' ≤ N - 1 ∧ (∀ x, s' x = 0 ∨ s' x = 1 ∨ s' x = 2) ∧ (∀ x, s' x = 2 → Ends dm cp x) ∧ (∀ x, s' x = 1 ↔ upd s c 1 x = 1) ∧ (∀ x, upd s c 1 x ≠ 0 → s' x ≠ 0) ∧ (∀ i, i < j → Ends dm cp (tl.getD i 0)) ∧ VEnv 46 w0 Wx p b1 b2 dm cp pd ps pv bs ∧ w2.grownBy Wx (some bs) ∧ Kd.C (Kd.int .i64) Wx A tl.length tl)
          (fun Wx => ∃ s' n', MapF Tryd.prog 3 encI Wx bs n' (stF s') ∧ n' ≤ N - 1 ∧ ¬ Ends dm cp c ∧ VEnv 46 w0 Wx p b1 b2 dm cp pd ps pv bs ∧ w2.grownBy Wx (some bs))
          46 #[.pointer (some ⟨pd, 0, none⟩), .pointer (some ⟨ps, 0, none⟩), .pointer (some ⟨pv, 0, none⟩)] HEG.out A ca tl w2 ?_ hlen ?_ ?_).mono ?_
        · refine ⟨upd s c 1, n + 1, HM2.out, ?_, fun x => ?_, fun x hx => ?_, fun x => Iff.rfl, fun x hx => hx, fun i hi => absurd hi (by omega), HE2.out, grown_of_below (Below.refl _ _) _, HR2.out⟩
          · have := HW1.out; have := HN.out; omega
          · unfold upd; split
            · exact Or.inr (Or.inl rfl)
            · exact HS.out x
          · by_cases hxc : x = c
            · rw [hxc] at hx; simp [upd] at hx
            · exact H2.out x (by simpa [upd, hxc] using hx)
        · rintro j Wx ⟨s', n', _, _, _, _, _, _, _, _, _, hC⟩
          exact hC
        · rintro j Wx hj ⟨s', n', hm, hn, hvv, h2', hgr, hnz, hen, hve, hgw, hC⟩
          have hmem : tl.getD j 0 ∈ tl := getD_mem tl 0 j hj
          have hwle := wh_mono dm hnz
          refine (HIH.out (wh dm (upd s c 1)) (by have := HW1.out; have := HK.out; omega) (N - 1) n' s' (tl.getD j 0) Wx hve hm hn (by omega) hwle hvv h2' (fun x hx => HGray.out _ x hmem ((hgr x).1 hx)) (HRange.out _ hmem)).mono ?_
          rintro e w' (⟨he, s3, n3, hm3, hn3, hne3, hg3⟩ | ⟨he, s3, n3, hm3, hn3, hv3, h23, hgr3, hnz3, hen3, hg3⟩)
          · exact Or.inl ⟨he, s3, n3, hm3, hn3, HUp.out _ hmem hne3, hve.turned hg3 hm.lt, grown_trans hgw hg3⟩
          · refine Or.inr ⟨he, s3, n3, hm3, hn3, hv3, h23, fun x => (hgr3 x).trans (hgr x), fun x hx => hnz3 x (hnz x hx), fun i hi => ?_, hve.turned hg3 hm.lt, grown_trans hgw hg3, C_turned hC hm hg3⟩
            by_cases hij : i = j
            · rw [hij]; exact hen3
            · exact hen i (by omega)
        · rintro e w3 (⟨rfl, s', n', hm, hn, hne, hve, hgw⟩ | ⟨rfl, s', n', hm, hn, hvv, h2', hgr, hnz, hen, hve, hgw, hC⟩)
          · obtain ⟨w4, hup2, hm4, hg4⟩ := putS hm c 2 HC.out (by decide) (by have := HN.out; omega)
            have HX : Aside0 (VisT dm cp bs N c W w4) := ⟨⟨_, n' + 1, hm4, by have := HN.out; have := HW1.out; omega, hne, grown_trans HG2.out (grown_trans hgw hg4)⟩⟩
            have hcs3 := hve.cs
            clear hm hn hne hve hgw hm4 hg4
            go_wp2_with fail
            go_ret
            exact Or.inl ⟨rfl, HX.out⟩
          · obtain ⟨w4, hup2, hm4, hg4⟩ := putS hm c 2 HC.out (by decide) (by have := HN.out; omega)
            have hEnds := HAll.out hen
            have HX : Aside0 (VisF dm cp bs N s c W w4) := ⟨by
              refine ⟨_, n' + 1, hm4, ?_, fun x => ?_, fun x hx => ?_, fun x => ?_, fun x hx => ?_, hEnds, grown_trans HG2.out (grown_trans hgw hg4)⟩
              · have h5 := wh_mono dm (upd_ne s' c 2 (by decide))
                have := HN.out; have := HW1.out; omega
              · unfold upd; split
                · exact Or.inr (Or.inr rfl)
                · exact hvv x
              · by_cases hxc : x = c
                · rw [hxc]; exact hEnds
                · exact h2' x (by simpa [upd, hxc] using hx)
              · by_cases hxc : x = c
                · rw [hxc]; simp [upd, h0]
                · have h5 := hgr x
                  simp only [upd, if_neg hxc] at h5 ⊢
                  exact h5
              · by_cases hxc : x = c
                · rw [hxc]; simp [upd]
                · have h5 := hnz x (by simpa only [upd, if_neg hxc] using hx)
                  simpa only [upd, if_neg hxc] using h5⟩
            have hcs3 := hve.cs
            clear hm hn hvv h2' hgr hnz hen hve hgw hC hm4 hg4 hEnds
            go_wp2_with fail
            go_ret
            exact Or.inr ⟨rfl, HX.out⟩
      · have HT : Aside0 (¬ Ends dm cp c) := ⟨no_ends (H1.out c h0)⟩
        go_enter Tryd.func46, Tryd.ntmps46
        go_wp2_with fail
        refine HO.out.mono ?_
        rintro e w1 ⟨⟨A, ca, rfl, hl, hr⟩, hb1⟩
        clear hl hr
        have hcs := (HE.out.below hb1).cs
        have hlook := lookS (HM.out.below hb1 HM.out.lt) c HC.out
        rw [h0] at hlook
        go_wp2_with fail
        go_ret
        exact Or.inl ⟨rfl, s, n, HM.out.below hb1 HM.out.lt, by have := HN.out; omega, HT.out, grown_of_below hb1 _⟩
      · have HEnd : Aside0 (Ends dm cp c) := ⟨H2.out c h0⟩
        go_enter Tryd.func46, Tryd.ntmps46
        go_wp2_with fail
        refine HO.out.mono ?_
        rintro e w1 ⟨⟨A, ca, rfl, hl, hr⟩, hb1⟩
        clear hl hr
        have hcs := (HE.out.below hb1).cs
        have hlook := lookS (HM.out.below hb1 HM.out.lt) c HC.out
        rw [h0] at hlook
        go_wp2_with fail
        go_ret
        exact Or.inr ⟨rfl, s, n, HM.out.below hb1 HM.out.lt, HN.out, HS.out, H2.out, fun x => Iff.rfl, fun x hx => hx, HEnd.out, grown_of_below hb1 _⟩
end Go.Proofs.YtipedgkampafjaaDoor.Rf
/- Tells what cyclic finds out. -/
namespace Go.Proofs.YtipedgkampafjaaDoor.Rf
open Go.Shelf Go.RowKit Go.Proofs.YtipedgkampafjaaDoorW.PrintWords Go.Proofs.YtipedgkampafjaaDoorW.PrintLast Go.Proofs.YtipedgkampafjaaDoorW.PrintMore

theorem RangeF.rest {P : Program} {k : TypeId} {w : World} {b r n : Nat} {f : Int → Option Value} {left : Int → Bool} {cnt : Nat} (h : RangeF P k w b r n f left cnt) : w.rangeLeft b r = cnt := by
  obtain ⟨D, lf, h, _⟩ := h; exact h.left_eq
theorem VEnv.other {g : Nat} {w0 W W' : World} {p b1 b2 : Nat} {dm : List S43} {cp : Bool} {pd ps pv bs r : Nat} (h : VEnv g w0 W p b1 b2 dm cp pd ps pv bs) (hg : W.grownBy W' (some r)) (hp : p ≠ r) (h1 : b1 ≠ r) (hd : pd ≠ r) (hs : ps ≠ r) (hv : pv ≠ r) (hr : w0.heap.size ≤ r) (hlt : r < W.heap.size) : VEnv g w0 W' p b1 b2 dm cp pd ps pv bs where
  cd := cell_grown hg hd h.cd
  cs := cell_grown hg hs h.cs
  cv := cell_grown hg hv h.cv
  dat := h.dat.turned hg hp h1 hr hlt
  ne := h.ne
  low := h.low

/-- The world in which a closure g over data p is laid, with an empty map. -/
def envW (g tf : Nat) (w : World) (p : Nat) : World :=
  (((w.alloc (.cells #[.pointer (some ⟨p, 0, none⟩)] 46)).alloc (.map #[] 0)).alloc (.cells #[.map (some (w.heap.size + 1))] 80)).alloc
    (.cells #[.func (.func g) #[] #[.pointer (some ⟨w.heap.size, 0, none⟩), .pointer (some ⟨w.heap.size + 1 + 1, 0, none⟩), .pointer (some ⟨w.heap.size + 1 + 1 + 1, 0, none⟩)]] tf)
theorem envW_size (g tf : Nat) (w : World) (p : Nat) : (envW g tf w p).heap.size = w.heap.size + 4 := by simp [envW]
theorem envW_below (g tf : Nat) (w : World) (p : Nat) : Below w.heap.size w (envW g tf w p) := by
  unfold envW; exact below_alloc (below_alloc (below_alloc (below_alloc (Below.refl _ _) _) _) _) _
theorem cell_keep {w : World} {a : Addr} {v : Value} (h : w.cell? a = some v) (o : Obj) : (w.alloc o).cell? a = some v := by
  rw [(below_alloc (Below.refl w.heap.size w) o).cell (cell_lt h)]; exact h
theorem envW_env {g tf : Nat} {w0 w : World} {p b1 b2 : Nat} {dm : List S43} {cp : Bool} (h : DataM w0 w p b1 b2 dm cp) :
    VEnv g w0 (envW g tf w p) p b1 b2 dm cp w.heap.size (w.heap.size + 1 + 1) (w.heap.size + 1 + 1 + 1) (w.heap.size + 1) where
  cd := by unfold envW; exact cell_keep (cell_keep (cell_keep (by simp) _) _) _
  cs := by
    unfold envW
    refine cell_keep ?_ _
    rw [show w.heap.size + 1 + 1 = ((w.alloc (.cells #[.pointer (some ⟨p, 0, none⟩)] 46)).alloc (.map #[] 0)).heap.size by simp]
    simp only [World.cell?_alloc_new]
    rfl
  cv := by
    unfold envW
    rw [show w.heap.size + 1 + 1 + 1 = (((w.alloc (.cells #[.pointer (some ⟨p, 0, none⟩)] 46)).alloc (.map #[] 0)).alloc (.cells #[.map (some (w.heap.size + 1))] 80)).heap.size by simp]
    simp only [World.cell?_alloc_new]
    rfl
  dat := h.mono (envW_below _ _ _ _)
  ne := by
    have h1 := cell_lt h.c0
    obtain ⟨f, hf, _⟩ := h.maps
    have h2 := hf.lt
    simp only at h1
    refine ⟨by omega, by omega, by omega, by omega, by omega⟩
  low := by have := h.below.size; omega
theorem stF_zero : stF (fun _ => 0) = fun _ => none := by funext x; simp [stF]
theorem envW_map (g tf : Nat) (w : World) (p : Nat) : MapF Tryd.prog 3 encI (envW g tf w p) (w.heap.size + 1) 0 (stF fun _ => 0) := by
  have h := MapF.made (w.alloc (.cells #[.pointer (some ⟨p, 0, none⟩)] 46)) Tryd.prog 3 encI
  rw [show (w.alloc (.cells #[.pointer (some ⟨p, 0, none⟩)] 46)).heap.size = w.heap.size + 1 by simp] at h
  rw [stF_zero]
  exact (h.alloc _).alloc _
theorem univ_len (dm : List S43) (s : Int → Int) : wh dm s ≤ dm.length + 11172 := by
  refine Nat.le_trans List.countP_le_length ?_
  simp [univ]
theorem relM_some {w0 : World} {v : Option Value} {m : Option S43} (h : RelM w0 v m) : v.isSome = m.isSome := by
  match v, m, h with
  | none, none, _ => rfl
  | some v, some m, _ => rfl

set_option maxRecDepth 100000 in
set_option maxHeartbeats 8000000 in
theorem cyclic_any {w0 w : World} {p b1 b2 : Nat} {dm : List S43} {cp : Bool} (hv : ∀ m ∈ dm, badCodes m = false) (hl : dm.length < 1152921504606846976) (h : DataM w0 w p b1 b2 dm cp) :
    Calls Tryd.prog 27 #[.pointer (some ⟨p, 0, none⟩)] w fun e w' => ∃ b, e = .returned (.bool b) ∧ (b = true → ∃ c m, lastM dm c = some m ∧ ¬ Ends dm cp c) ∧ (b = false → ∀ c m, lastM dm c = some m → Ends dm cp c) ∧ Below w.heap.size w w' := by
  have hmm := @run_makeMap Tryd.prog
  have HV := Aside0.mk hv
  have hk0 := h.c0
  have hpl : p < w.heap.size := cell_lt hk0
  have HE := Aside0.mk (envW_env (g := 46) (tf := 81) h)
  have HM := Aside0.mk (envW_map 46 81 w p)
  obtain ⟨f, hf, hrel⟩ := HE.out.dat.maps
  have HF := Aside0.mk hrel
  obtain ⟨w1, cnt, hrange, hrf, hg1, hs1⟩ := RangeF.start Tryd.underlying3 hf Tryd.underlying56
  rw [envW_size] at hrf
  have hs0 := envW_size 46 81 w p
  have HLo := Aside0.mk (show w0.heap.size ≤ w.heap.size from h.below.size)
  have HR := Aside0.mk hrf
  have hb1 : Below (envW 46 81 w p).heap.size (envW 46 81 w p) w1 := ⟨hg1.os, hg1.tape, hg1.output, hg1.size, fun k hk => hg1.block k hk (by simp)⟩
  have HE1 := Aside0.mk (HE.out.below hb1)
  have HM1 := Aside0.mk (HM.out.below hb1 HM.out.lt)
  have HB1 := Aside0.mk (below_step (envW_below 46 81 w p) hb1)
  have hsz : w1.heap.size = w.heap.size + 4 + 1 := by rw [hs1, hs0]
  have hb1l : b1 < w.heap.size := by obtain ⟨f', hf', _⟩ := h.maps; exact hf'.lt
  rw [hs0] at hrange
  have hcp := HE.out.dat.c0
  clear hf hrel hrf hg1 hs1 hs0 hb1 HE HM h hv
  unfold envW at hrange hcp
  go_enter Tryd.func27, Tryd.ntmps27
  go_wp2_with fail
  go_loopw [] (fun wr => ∃ left cnt n s, RangeF Tryd.prog 3 wr b1 (w.heap.size + 4) dm.length f left cnt ∧ MapF Tryd.prog 3 encI wr (w.heap.size + 1) n (stF s) ∧ n + 2 * wh dm s ≤ 2 * (dm.length + 11172) ∧ (∀ x, s x = 0 ∨ s x = 1 ∨ s x = 2) ∧ (∀ x, s x = 2 → Ends dm cp x) ∧ (∀ x, s x ≠ 1) ∧
    VEnv 46 w0 wr p b1 b2 dm cp w.heap.size (w.heap.size + 1 + 1) (w.heap.size + 1 + 1 + 1) (w.heap.size + 1) ∧ Below w.heap.size w wr ∧ (∀ x, inR x → (f x).isSome = true → left x = false → Ends dm cp x)) (fun wr => wr.rangeLeft b1 (w.heap.size + 4))
  case atStart =>
    refine ⟨_, cnt, 0, fun _ => 0, HR.out, HM1.out, ?_, fun x => Or.inl rfl, fun x hx => (by cases hx), fun x hx => (by cases hx), HE1.out, HB1.out, fun x _ h1 h2 => by rw [h1] at h2; cases h2⟩
    have := univ_len dm (fun _ => 0); omega
  case round =>
    clear HE1 HM1 HB1 HR hrange hcp hsz
    obtain ⟨left, cnt, n, s, hr, hm, hn, hvs, h2, h1, hve, hbw, hle⟩ := hrel
    have HRest := Aside0.mk hr.rest
    rcases hr.next Tryd.underlying3 0 with ⟨hdone, hnext⟩ | ⟨x, v, w2, cnt2, hx, hlx, hfx, hnext, hr2, hlt2, hg2, hs2, hent⟩
    · have HEnd : Aside0 (∀ c m, lastM dm c = some m → Ends dm cp c) := ⟨fun c m hc => by
        have hcm := lastM_mem hc
        have hb := HV.out m hcm.1
        simp only [badCodes, Bool.or_eq_false_iff, Bool.not_eq_false'] at hb
        have hin : inR c := hcm.2 ▸ valid_range hb.1
        exact hle c hin (by rw [relM_some (HF.out c), hc]; rfl) (hdone c hin)⟩
      have HB := Aside0.mk hbw
      clear hr hm hn hvs h2 h1 hve hbw hle hdone HRest
      go_wp2_with fail
      go_ret
      exact ⟨false, rfl, fun h => (by cases h), fun _ => HEnd.out, HB.out⟩
    · have hrl := hr.lt
      have HVE2 := Aside0.mk (hve.other (r := w.heap.size + 4) hg2 (by omega) (by omega) (by omega) (by omega) (by omega) (by have := HLo.out; omega) hrl.2.1)
      have hm2 := hm.kept hg2 (by intro e; simp at e)
      have hcv := HVE2.out.cv
      have HB2 := Aside0.mk (below_turned hbw hg2 (by omega) hrl.2.1)
      have HVis := Aside0.mk (visit_any HV.out (wh dm s) (2 * (dm.length + 11172)) n s x w2 HVE2.out hm2 hn (by omega) (Nat.le_refl _) hvs h2 (fun y hy => absurd hy (h1 y)) hx)
      have HR2 := Aside0.mk hr2
      have HM2 := Aside0.mk hm2
      have HX := Aside0.mk (show ∃ m, lastM dm x = some m by
        have := relM_some (HF.out x)
        rw [hfx] at this
        exact Option.isSome_iff_exists.1 this.symm)
      have HLE := Aside0.mk hle
      have H1 := Aside0.mk h1
      have HLT := Aside0.mk hlt2
      clear hr hm hn hvs h2 h1 hve hbw hle hr2 hm2 hlx hfx hlt2 hs2 hrl hg2
      go_wp2_with fail
      refine HVis.out.mono ?_
      rintro e w3 (⟨rfl, s', n', hm3, hn3, hne3, hg3⟩ | ⟨rfl, s', n', hm3, hn3, hv3, h23, hgr3, hnz3, hen3, hg3⟩)
      · have HN := Aside0.mk hne3
        have HB3 := Aside0.mk (below_turned HB2.out hg3 (by omega) HM2.out.lt)
        clear hm3 hn3 hne3 hg3
        go_wp2_with fail
        go_ret
        obtain ⟨m, hxm⟩ := HX.out
        exact ⟨true, rfl, fun _ => ⟨x, m, hxm, HN.out⟩, fun h => (by cases h), HB3.out⟩
      · have HR3 := Aside0.mk (HR2.out.kept hg3 (by intro e; simp at e; omega) (by intro e; simp at e))
        have HVE3 := Aside0.mk (HVE2.out.turned hg3 HM2.out.lt)
        have HB3 := Aside0.mk (below_turned HB2.out hg3 (by omega) HM2.out.lt)
        have HM3 := Aside0.mk hm3
        have HN3 := Aside0.mk hn3
        have HV3 := Aside0.mk hv3
        have H23 := Aside0.mk h23
        have HG3 := Aside0.mk hgr3
        have HE3 := Aside0.mk hen3
        clear hm3 hn3 hv3 h23 hgr3 hnz3 hen3 hg3
        go_wp2_with fail
        go_roundw
        case rel =>
          refine ⟨_, cnt2, n', s', HR3.out, HM3.out, HN3.out, HV3.out, H23.out, fun y hy => H1.out y ((HG3.out y).1 hy), HVE3.out, HB3.out, fun y hy hfy hly => ?_⟩
          by_cases hyx : y = x
          · rw [hyx]; exact HE3.out
          · exact HLE.out y hy hfy (by simpa [hyx] using hly)
        case measure =>
          rw [HR3.out.rest, HRest.out]; exact HLT.out
end Go.Proofs.YtipedgkampafjaaDoor.Rf
/- Tells what the closure of long counts. -/
namespace Go.Proofs.YtipedgkampafjaaDoor.Rf
open Go.Shelf Go.RowKit Go.Proofs.YtipedgkampafjaaDoorW.PrintWords Go.Proofs.YtipedgkampafjaaDoorW.PrintLast Go.Proofs.YtipedgkampafjaaDoorW.PrintMore

/-- A sum that stops at 65. -/
def sat (l : List Int) : Int := l.foldl (fun n v => min (n + v) 65) 0
theorem sat_snoc (l : List Int) (v : Int) : sat (l ++ [v]) = min (sat l + v) 65 := by simp [sat, List.foldl_append]
theorem sat_range (l : List Int) (h : ∀ v ∈ l, 0 ≤ v) : 0 ≤ sat l ∧ sat l ≤ 65 := by
  suffices ∀ (l : List Int) (a : Int), (∀ v ∈ l, 0 ≤ v) → 0 ≤ a → a ≤ 65 → 0 ≤ l.foldl (fun n v => min (n + v) 65) a ∧ l.foldl (fun n v => min (n + v) 65) a ≤ 65 from this l 0 h (by omega) (by omega)
  intro l
  induction l with
  | nil => intro a _ h0 h1; exact ⟨h0, h1⟩
  | cons x l ih =>
    intro a hv h0 h1
    have hx := hv x (List.mem_cons_self)
    exact ih (min (a + x) 65) (fun v hv' => hv v (List.mem_cons_of_mem _ hv')) (by omega) (by omega)
theorem mx_max (a b : Int) : mx a b = max a b := by unfold mx; split <;> omega
theorem mn_min (a b : Int) : mn a b = min a b := by unfold mn; split <;> omega
/-- L tells how many elements the full decompositions have. -/
def IsLen (dm : List S43) (cp : Bool) (L : Int → Int) : Prop :=
  (∀ c, onceS dm cp c = none → L c = 1) ∧ (∀ c tl, onceS dm cp c = some tl → L c = max (sat (tl.map L)) 1) ∧ ∀ c, 1 ≤ L c ∧ L c ≤ 65

variable {w0 : World} {p b1 b2 : Nat} {dm : List S43} {cp : Bool} {pd ps pv bs : Nat} {L : Int → Int}
def CntF (dm : List S43) (cp : Bool) (L : Int → Int) (bs N : Nat) (s : Int → Int) (c : Int) (W w' : World) : Prop :=
  ∃ s' n', MapF Tryd.prog 3 encI w' bs n' (stF s') ∧ n' + wh dm s' ≤ N ∧ (∀ x, s' x ≠ 0 → s' x = L x) ∧ (∀ x, s x ≠ 0 → s' x ≠ 0) ∧ (∀ x, s' x ≠ 0 → s x ≠ 0 ∨ x = c ∨ Relation.TransGen (Edge dm cp) x c) ∧ W.grownBy w' (some bs)

attribute [local go_sem] max2_mx min2_mn max_two min_two
set_option maxRecDepth 100000 in
set_option maxHeartbeats 8000000 in
theorem count_any (hv : ∀ m ∈ dm, badCodes m = false) (hL : IsLen dm cp L) (N : Nat) (hNb : N < 9223372036854775807) (c : Int) (hEnds : Ends dm cp c) : ∀ (n : Nat) (s : Int → Int) (W : World), VEnv 48 w0 W p b1 b2 dm cp pd ps pv bs → MapF Tryd.prog 3 encI W bs n (stF s) → n + wh dm s ≤ N →
    (∀ x, s x ≠ 0 → s x = L x) → inR c →
    Calls Tryd.prog 48 #[.int .i64 c, .pointer (some ⟨pd, 0, none⟩), .pointer (some ⟨ps, 0, none⟩), .pointer (some ⟨pv, 0, none⟩)] W fun e w' => e = .returned (.int .i64 (L c)) ∧ CntF dm cp L bs N s c W w' := by
  induction hEnds with
  | intro c hacc ih =>
    intro n s W hE hM hN hs hc
    have HIH := Aside0.mk ih
    have HE := Aside0.mk hE
    have HM := Aside0.mk hM
    have HN := Aside0.mk hN
    have HS := Aside0.mk hs
    have HC := Aside0.mk hc
    have HO := Aside0.mk (once_any hE.dat c hc)
    have HNC := Aside0.mk (no_ends (dm := dm) (cp := cp) (c := c))
    have HA := Aside0.mk (Acc.intro c hacc)
    have hcd := hE.cd
    clear ih hE hM hN hs hc hacc
    cases ho : onceS dm cp c with
    | none =>
      rw [ho] at HO
      have HLc := Aside0.mk (hL.1 c ho)
      go_enter Tryd.func48, Tryd.ntmps48
      go_wp2_with fail
      refine HO.out.mono ?_
      rintro e w1 ⟨rfl, hb1⟩
      go_wp2_with fail
      go_ret
      exact ⟨ret_int (by rw [HLc.out]), s, n, HM.out.below hb1 HM.out.lt, HN.out, HS.out, fun x hx => hx, fun x hx => Or.inl hx, grown_of_below hb1 _⟩
    | some tl =>
      rw [ho] at HO
      cases h0 : (s c != 0) with
      | true =>
        have hne : s c ≠ 0 := by simpa using h0
        have HLc := Aside0.mk (HS.out c hne)
        go_enter Tryd.func48, Tryd.ntmps48
        go_wp2_with fail
        refine HO.out.mono ?_
        rintro e w1 ⟨⟨A, ca, rfl, hl, hr⟩, hb1⟩
        clear hl hr
        have hcs := (HE.out.below hb1).cs
        have hlook := lookSok (HM.out.below hb1 HM.out.lt) c HC.out
        rw [h0] at hlook
        go_wp2_with fail
        go_ret
        exact ⟨ret_int (by rw [HLc.out]), s, n, HM.out.below hb1 HM.out.lt, HN.out, HS.out, fun x hx => hx, fun x hx => Or.inl hx, grown_of_below hb1 _⟩
      | false =>
        go_enter Tryd.func48, Tryd.ntmps48
        go_wp2_with fail
        refine HO.out.mono ?_
        rintro e w1 ⟨⟨A, ca, rfl, hl, hr⟩, hb1⟩
        have hcs := (HE.out.below hb1).cs
        have hlook := lookSok (HM.out.below hb1 HM.out.lt) c HC.out
        rw [h0] at hlook
        have HE1 := Aside0.mk (HE.out.below hb1)
        have HM1 := Aside0.mk (HM.out.below hb1 HM.out.lt)
        have HG1 := Aside0.mk (grown_of_below hb1 (some bs))
        have HR1 := Aside0.mk hr
        have hlen : tl.length ≤ 9223372036854775807 := Kd.C_max hr
        clear hl hr hb1
        go_wp2_with fail
        go_loopw [10, 31] (fun v v2 wr => ∃ j : Nat, v2 = .int .i64 (j : Int) ∧ v = .int .i64 (sat ((tl.take j).map L)) ∧ j ≤ tl.length ∧ Aside0 (VEnv 48 w0 wr p b1 b2 dm cp pd ps pv bs) ∧ Aside0 (∃ s' n', MapF Tryd.prog 3 encI wr bs n' (stF s') ∧ n' + wh dm s' ≤ N ∧ (∀ x, s' x ≠ 0 → s' x = L x) ∧ (∀ x, s x ≠ 0 → s' x ≠ 0) ∧ (∀ x, s' x ≠ 0 → s x ≠ 0 ∨ Relation.TransGen (Edge dm cp) x c)) ∧ Aside0 (W.grownBy wr (some bs)) ∧ Aside0 (Kd.C (Kd.int .i64) wr A tl.length tl)) (fun _ v2 _ => tl.length - (intOf v2).toNat)
        case atStart => exact ⟨0, rfl, rfl, by omega, HE1, ⟨s, n, HM1.out, HN.out, HS.out, fun x hx => hx, fun x hx => Or.inl hx⟩, HG1, HR1⟩
        case round =>
          clear HE1 HM1 HG1 HR1 hlook hcs
          obtain ⟨j, rfl, rfl, hj, HE1, HS1, HG1, HR1⟩ := hrel
          have hsr := sat_range ((tl.take j).map L) (fun v hv => by
            obtain ⟨y, _, rfl⟩ := List.mem_map.1 hv
            have := hL.2.2 y; omega)
          by_cases hlt : j < tl.length
          · have HT : Aside0 (sat ((tl.take (j + 1)).map L) = min (sat ((tl.take j).map L) + L (tl.getD j 0)) 65) := ⟨by
              rw [List.take_succ_eq_append_getElem hlt, List.map_append, List.map_singleton, sat_snoc, List.getD_eq_getElem?_getD, List.getElem?_eq_getElem hlt]; rfl⟩
            obtain ⟨ad, e, hx0⟩ := ReadsInt.at_ (ReadsInt.of_C HR1.out) j (by omega) (by omega)
            subst e
            simp only [Int.toNat_natCast] at hx0
            have hrd : rd tl (j : Int) = tl.getD j 0 := by rw [rd, Int.toNat_natCast]
            rw [hrd] at hx0
            have hmem : tl.getD j 0 ∈ tl := getD_mem tl 0 j hlt
            have hed : Edge dm cp (tl.getD j 0) c := ⟨tl, ho, hmem⟩
            obtain ⟨s', n', hm, hn, hss, hnz, hde⟩ := HS1.out
            have HCall := Aside0.mk (HIH.out _ hed n' s' wr HE1.out hm hn hss (edge_range hv hed))
            have HMl := Aside0.mk hm
            have HNZ := Aside0.mk hnz
            have HDE := Aside0.mk hde
            have HED := Aside0.mk hed
            have hcv := HE1.out.cv
            have hLb := hL.2.2 (tl.getD j 0)
            clear hrd hmem hed hm hn hss hnz hde
            generalize tl.getD j 0 = x at HT hx0 HCall HED hLb
            generalize hLx : L x = lx at HT HCall hLb
            generalize sat ((tl.take j).map L) = a at HT hsr
            go_wp2_with fail
            refine HCall.out.mono ?_
            rintro e w2 ⟨rfl, s3, n3, hm3, hn3, hs3, hnz3, hde3, hg3⟩
            have HE3 := Aside0.mk (HE1.out.turned hg3 HMl.out.lt)
            have HG3 := Aside0.mk (grown_trans HG1.out hg3)
            have HR3 := Aside0.mk (C_turned HR1.out HMl.out hg3)
            have HS3 := Aside0.mk (show ∃ s' n', MapF Tryd.prog 3 encI w2 bs n' (stF s') ∧ n' + wh dm s' ≤ N ∧ (∀ x, s' x ≠ 0 → s' x = L x) ∧ (∀ x, s x ≠ 0 → s' x ≠ 0) ∧ (∀ x, s' x ≠ 0 → s x ≠ 0 ∨ Relation.TransGen (Edge dm cp) x c) from
              ⟨s3, n3, hm3, hn3, hs3, fun y hy => hnz3 y (HNZ.out y hy), fun y hy => by
                rcases hde3 y hy with h | h | h
                · exact HDE.out y h
                · rw [h]; exact Or.inr (.single HED.out)
                · exact Or.inr (.tail h HED.out)⟩)
            clear hm3 hn3 hs3 hnz3 hde3 hg3
            go_wp2_with fail
            go_roundw
            case rel => exact ⟨j + 1, by first | rfl | go_num, by rw [HT.out, ← mn_min], by omega, HE3, HS3, HG3, HR3⟩
            case measure => simp [intOf]; omega
          · have HLc := Aside0.mk (hL.2.1 c tl ho)
            rw [← List.take_of_length_le (l := tl) (show tl.length ≤ j by omega)] at HLc
            obtain ⟨s', n', hm, hn, hss, hnz, hde⟩ := HS1.out
            have h0' : s' c = 0 := Classical.byContradiction fun hne => by
              rcases hde c hne with h | h
              · simp at h0; exact h h0
              · exact HNC.out h HA.out
            generalize sat ((tl.take j).map L) = a at HLc hsr
            have hmx : mx a 1 = max a 1 := mx_max a 1
            have hne1 : mx a 1 ≠ 0 := by rw [hmx]; omega
            obtain ⟨w4, hup, hm4, hg4⟩ := putS hm c (mx a 1) HC.out hne1 (by omega)
            have hlook2 := lookS hm4 c HC.out
            have hcs := HE1.out.cs
            have hcs4 := (HE1.out.turned hg4 hm.lt).cs
            have HX : Aside0 (CntF dm cp L bs N s c W w4) := ⟨⟨_, n' + 1, hm4, by have := wh_set dm hne1 h0' (univ_mem ho); omega, fun x hx => by
              by_cases hxc : x = c
              · rw [hxc]; simp only [upd, if_pos]; rw [HLc.out]; exact hmx
              · simp only [upd, if_neg hxc] at hx ⊢; exact hss x hx, fun x hx => by
              exact upd_ne s' c _ hne1 x (hnz x hx), fun x hx => by
              by_cases hxc : x = c
              · exact Or.inr (Or.inl hxc)
              · simp only [upd, if_neg hxc] at hx
                rcases hde x hx with h | h
                · exact Or.inl h
                · exact Or.inr (Or.inr h), grown_trans HG1.out hg4⟩⟩
            have hul : upd s' c (mx a 1) c = mx a 1 := by simp [upd]
            rw [hul, hmx] at hlook2
            rw [hmx] at hup
            clear hm hn hss hnz hde h0' hm4 hg4 hul hne1
            go_wp2_with fail
            go_ret
            exact ⟨ret_int (by rw [HLc.out]), HX.out⟩
end Go.Proofs.YtipedgkampafjaaDoor.Rf
/- Tells what long finds out. -/
namespace Go.Proofs.YtipedgkampafjaaDoor.Rf
open Go.Shelf Go.RowKit Go.Proofs.YtipedgkampafjaaDoorW.PrintWords Go.Proofs.YtipedgkampafjaaDoorW.PrintLast Go.Proofs.YtipedgkampafjaaDoorW.PrintMore

set_option maxRecDepth 100000 in
set_option maxHeartbeats 8000000 in
theorem long_any {w0 w : World} {p b1 b2 : Nat} {dm : List S43} {cp : Bool} {L : Int → Int} (hL : IsLen dm cp L) (hAll : ∀ c m, lastM dm c = some m → Ends dm cp c) (hv : ∀ m ∈ dm, badCodes m = false) (hl : dm.length < 1152921504606846976) (h : DataM w0 w p b1 b2 dm cp) :
    Calls Tryd.prog 28 #[.pointer (some ⟨p, 0, none⟩)] w fun e w' => ∃ b, e = .returned (.bool b) ∧ (b = true → ∃ c m, lastM dm c = some m ∧ 64 < L c) ∧ (b = false → ∀ c m, lastM dm c = some m → L c ≤ 64) ∧ Below w.heap.size w w' := by
  have hmm := @run_makeMap Tryd.prog
  have HV := Aside0.mk hv
  have HLen := Aside0.mk hL
  have HAll := Aside0.mk hAll
  clear hL hAll
  have hk0 := h.c0
  have hpl : p < w.heap.size := cell_lt hk0
  have HE := Aside0.mk (envW_env (g := 48) (tf := 61) h)
  have HM := Aside0.mk (envW_map 48 61 w p)
  obtain ⟨f, hf, hrel⟩ := HE.out.dat.maps
  have HF := Aside0.mk hrel
  obtain ⟨w1, cnt, hrange, hrf, hg1, hs1⟩ := RangeF.start Tryd.underlying3 hf Tryd.underlying56
  rw [envW_size] at hrf
  have hs0 := envW_size 48 61 w p
  have HLo := Aside0.mk (show w0.heap.size ≤ w.heap.size from h.below.size)
  have HR := Aside0.mk hrf
  have hb1 : Below (envW 48 61 w p).heap.size (envW 48 61 w p) w1 := ⟨hg1.os, hg1.tape, hg1.output, hg1.size, fun k hk => hg1.block k hk (by simp)⟩
  have HE1 := Aside0.mk (HE.out.below hb1)
  have HM1 := Aside0.mk (HM.out.below hb1 HM.out.lt)
  have HB1 := Aside0.mk (below_step (envW_below 48 61 w p) hb1)
  have hsz : w1.heap.size = w.heap.size + 4 + 1 := by rw [hs1, hs0]
  have hb1l : b1 < w.heap.size := by obtain ⟨f', hf', _⟩ := h.maps; exact hf'.lt
  rw [hs0] at hrange
  have hcp := HE.out.dat.c0
  clear hf hrel hrf hg1 hs1 hs0 hb1 HE HM h hv
  unfold envW at hrange hcp
  go_enter Tryd.func28, Tryd.ntmps28
  go_wp2_with fail
  go_loopw [] (fun wr => ∃ left cnt n s, RangeF Tryd.prog 3 wr b1 (w.heap.size + 4) dm.length f left cnt ∧ MapF Tryd.prog 3 encI wr (w.heap.size + 1) n (stF s) ∧ n + wh dm s ≤ dm.length + 11172 ∧ (∀ x, s x ≠ 0 → s x = L x) ∧
    VEnv 48 w0 wr p b1 b2 dm cp w.heap.size (w.heap.size + 1 + 1) (w.heap.size + 1 + 1 + 1) (w.heap.size + 1) ∧ Below w.heap.size w wr ∧ (∀ x, inR x → (f x).isSome = true → left x = false → L x ≤ 64)) (fun wr => wr.rangeLeft b1 (w.heap.size + 4))
  case atStart =>
    refine ⟨_, cnt, 0, fun _ => 0, HR.out, HM1.out, ?_, fun x hx => absurd rfl hx, HE1.out, HB1.out, fun x _ h1 h2 => by rw [h1] at h2; cases h2⟩
    have := univ_len dm (fun _ => 0); omega
  case round =>
    clear HE1 HM1 HB1 HR hrange hcp hsz
    obtain ⟨left, cnt, n, s, hr, hm, hn, hvs, hve, hbw, hle⟩ := hrel
    have HRest := Aside0.mk hr.rest
    rcases hr.next Tryd.underlying3 0 with ⟨hdone, hnext⟩ | ⟨x, v, w2, cnt2, hx, hlx, hfx, hnext, hr2, hlt2, hg2, hs2, hent⟩
    · have HEnd : Aside0 (∀ c m, lastM dm c = some m → L c ≤ 64) := ⟨fun c m hc => by
        have hcm := lastM_mem hc
        have hb := HV.out m hcm.1
        simp only [badCodes, Bool.or_eq_false_iff, Bool.not_eq_false'] at hb
        have hin : inR c := hcm.2 ▸ valid_range hb.1
        exact hle c hin (by rw [relM_some (HF.out c), hc]; rfl) (hdone c hin)⟩
      have HB := Aside0.mk hbw
      clear hr hm hn hvs hve hbw hle hdone HRest
      go_wp2_with fail
      go_ret
      exact ⟨false, rfl, fun h => (by cases h), fun _ => HEnd.out, HB.out⟩
    · have hrl := hr.lt
      have HVE2 := Aside0.mk (hve.other (r := w.heap.size + 4) hg2 (by omega) (by omega) (by omega) (by omega) (by omega) (by have := HLo.out; omega) hrl.2.1)
      have hm2 := hm.kept hg2 (by intro e; simp at e)
      have hcv := HVE2.out.cv
      have HB2 := Aside0.mk (below_turned hbw hg2 (by omega) hrl.2.1)
      have HR2 := Aside0.mk hr2
      have HM2 := Aside0.mk hm2
      have HX := Aside0.mk (show ∃ m, lastM dm x = some m by
        have := relM_some (HF.out x)
        rw [hfx] at this
        exact Option.isSome_iff_exists.1 this.symm)
      have HVis := Aside0.mk (count_any HV.out HLen.out (dm.length + 11172) (by omega) x (by obtain ⟨m, hxm⟩ := HX.out; exact HAll.out x m hxm) n s w2 HVE2.out hm2 hn hvs hx)
      have HLE := Aside0.mk hle
      have HLT := Aside0.mk hlt2
      clear hr hm hn hvs hve hbw hle hr2 hm2 hlx hfx hlt2 hs2 hrl hg2
      go_wp2_with fail
      refine HVis.out.mono ?_
      rintro e w3 ⟨rfl, s', n', hm3, hn3, hs3, hnz3, hde3, hg3⟩
      have HB3 := Aside0.mk (below_turned HB2.out hg3 (by omega) HM2.out.lt)
      have HR3 := Aside0.mk (HR2.out.kept hg3 (by intro e; simp at e; omega) (by intro e; simp at e))
      have HVE3 := Aside0.mk (HVE2.out.turned hg3 HM2.out.lt)
      have HM3 := Aside0.mk hm3
      have HN3 := Aside0.mk hn3
      have HS3 := Aside0.mk hs3
      clear hm3 hn3 hs3 hnz3 hde3 hg3 HVis
      generalize hLx : L x = lx
      have HLx := Aside0.mk hLx
      clear hLx
      cases h64 : decide (64 < lx) with
      | true =>
        go_wp2_with fail
        go_ret
        obtain ⟨m, hxm⟩ := HX.out
        exact ⟨true, rfl, fun _ => ⟨x, m, hxm, by rw [HLx.out]; exact of_decide_eq_true h64⟩, fun h => (by cases h), HB3.out⟩
      | false =>
        go_wp2_with fail
        go_roundw
        case rel =>
          refine ⟨_, cnt2, n', s', HR3.out, HM3.out, HN3.out, HS3.out, HVE3.out, HB3.out, fun y hy hfy hly => ?_⟩
          by_cases hyx : y = x
          · rw [hyx, HLx.out]; have := of_decide_eq_false h64; omega
          · exact HLE.out y hy hfy (by simpa [hyx] using hly)
        case measure =>
          rw [HR3.out.rest, HRest.out]; exact HLT.out
end Go.Proofs.YtipedgkampafjaaDoor.Rf
