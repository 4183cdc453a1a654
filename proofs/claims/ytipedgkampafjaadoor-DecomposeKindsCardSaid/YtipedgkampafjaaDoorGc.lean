import Derived.Test.YtipedgkampafjaaDoorGb
import Derived.Laws.AppendOwn
/- Tells what cpset.Make gathers. -/
namespace Go.Proofs.YtipedgkampafjaaDoor.Rf
open Go.Shelf Go.RowKit Go.Proofs.YtipedgkampafjaaDoorW.PrintWords Go.Proofs.YtipedgkampafjaaDoorW.PrintLast Go.Proofs.YtipedgkampafjaaDoorW.PrintMore

abbrev RR := S67
def encR2 (x : RR) : List Value := [.int .i64 x.f0, .int .i64 x.f1]
def flatR (l : List RR) : List Value := l.flatMap encR2
theorem flatR_len (l : List RR) : (flatR l).length = l.length * 2 := by
  induction l with
  | nil => rfl
  | cons x l ih => simp only [flatR, List.flatMap_cons, List.length_append] at ih ⊢; rw [ih]; simp [encR2]; omega
/-- A row of ranges of the call's own. -/
def RowR (w : World) (base : Nat) (v : Value) (l : List RR) : Prop := w.ownsRow base 67 2 v l.length (flatR l)
def clampR (x : RR) : RR := ⟨mx x.f0 0, mn x.f1 1114111⟩
def goodR (x : RR) : Bool := decide (x.f0 ≤ x.f1)
def gathR (l : List RR) : List RR := (l.map clampR).filter goodR

theorem gathR_snoc (l : List RR) (x : RR) : gathR (l ++ [x]) = if goodR (clampR x) then gathR l ++ [clampR x] else gathR l := by
  simp only [gathR, List.map_append, List.map_singleton, List.filter_append]
  cases h : goodR (clampR x) <;> simp [h]

set_option maxRecDepth 100000 in
theorem appendR {w : World} {base : Nat} {v : Value} {l : List RR} (h : RowR w base v l) (x : RR) (a : Addr) (h0 : w.cell? a = some (.int .i64 x.f0)) (h1 : w.cell? (a.add 1) = some (.int .i64 x.f1)) (hb : base ≤ w.heap.size) (hl : l.length ≤ 1000000) (ty : TypeId) :
    ∃ v' w', (Builtin.append_ #[24, 24] ty #[v, .slice (some a) 1 1]).run Tryd.prog w = .ok v' w' ∧ RowR w' base v' (l ++ [x]) ∧ w.grownBy w' v.ownBlock := by
  obtain ⟨v', w', h3, h4, h5, _⟩ := run_append_own (P := Tryd.prog) w base 24 ty 67 Tryd.t67 (.agg #[.int .i64 0, .int .i64 0]) 2 16 Tryd.underlying24 (by kernel_rfl) rfl rfl rfl rfl (by omega) v l.length (flatR l) h a 1 1 (encR2 x) (by simp [encR2])
    (fun j u hu => by
      match j, hu with
      | 0, hu => simp [encR2] at hu; subst hu; simpa [Addr.add] using h0
      | 1, hu => simp [encR2] at hu; subst hu; exact h1
      | j + 2, hu => simp [encR2] at hu) (fun u hu => by simp [encR2] at hu; rcases hu with rfl | rfl <;> rfl) (by simp [maxLen]; omega) (by omega) hb
  exact ⟨v', w', h3, by simpa [RowR, flatR] using h4, h5⟩
theorem infoR : (Tryd.prog.info? 67).map (fun i => (i.zero, i.size, i.bytes)) = some (some (.agg #[.int .i64 0, .int .i64 0]), 2, 16) := by kernel_rfl
theorem RowR.ge {w : World} {base : Nat} {v : Value} {l : List RR} (h : RowR w base v l) (k : Nat) (hk : v.ownBlock = some k) : base ≤ k := by
  rcases h.2 with ⟨rfl, _⟩ | ⟨g, cap, cur, rfl, hg, _⟩
  · cases hk
  · cases hk; exact hg
theorem RowR.alloc {w : World} {base : Nat} {v : Value} {l : List RR} (h : RowR w base v l) (o : Obj) : RowR (w.alloc o) base v l := World.ownsRow.alloc h o
theorem RowR.nil (w : World) (base : Nat) : RowR w base (.slice none 0 0) [] := World.ownsRow_nil _ _ _ _


instance : Inhabited RR := ⟨z67⟩
theorem flatR_get : ∀ (l : List RR) (t : Nat), t < l.length * 2 → (flatR l)[t]? = some ((encR2 (l.getD (t / 2) z67)).getD (t % 2) (.int .i64 0))
  | [], t, h => by simp at h
  | x :: l, 0, _ => by simp [flatR, encR2]
  | x :: l, 1, _ => by simp [flatR, encR2]
  | x :: l, t + 2, h => by
    have ih := flatR_get l t (by simp at h; omega)
    rw [show flatR (x :: l) = .int .i64 x.f0 :: .int .i64 x.f1 :: flatR l by simp [flatR, encR2]]
    rw [List.getElem?_cons_succ, List.getElem?_cons_succ, ih, show (t + 2) / 2 = t / 2 + 1 by omega, show (t + 2) % 2 = t % 2 by omega, List.getD_cons_succ]
theorem flatK_get (l : List RR) (t : Nat) (h : t < l.length * 2) : (Sort.flatK encR2 2 l.toArray)[t]! = (encR2 (l.getD (t / 2) z67)).getD (t % 2) (.int .i64 0) := by
  rw [Sort.get_flatK _ _ _ _ (by simpa using h)]
  have h1 : t / 2 < l.length := by omega
  have h2 : t % 2 = 0 ∨ t % 2 = 1 := by omega
  have h3 : l.getD (t / 2) z67 = l[t / 2] := by simp [List.getD_eq_getElem?_getD, List.getElem?_eq_getElem h1]
  rw [getElem!_pos l.toArray (t / 2) (by simpa using h1), h3]
  rcases h2 with h2 | h2 <;> simp [h2, encR2]

theorem holdsR {w : World} {base g cap n : Nat} {l : List RR} (h : RowR w base (.slice (some ⟨g, 0, none⟩) n cap) l) : n = l.length ∧ g < w.heap.size ∧ base ≤ g ∧ Sort.HoldsK encR2 2 w g 0 l.toArray := by
  rcases h.2 with ⟨e0, _⟩ | ⟨g', cap', cur, e0, hb, hg, hn, hm, hs, ht⟩
  · cases e0
  · injection e0 with e1 e2 e3
    injection e1 with e1
    injection e1 with e1
    subst e1; subst e2; subst e3
    refine ⟨rfl, (Array.getElem?_eq_some_iff.1 hg).1, hb, fun j hj => ⟨?_, by simp [World.frozen?, hg]⟩⟩
    have hj' : j < l.length * 2 := by simpa using hj
    have e1 : (cur.toList.take (l.length * 2))[j]? = (flatR l)[j]? := by rw [ht]
    rw [List.getElem?_take, if_pos hj', Array.getElem?_toList, flatR_get l j hj'] at e1
    simp only [World.cell?, hg, Nat.zero_add, Option.isSome_none, Bool.false_eq_true, if_false]
    rw [e1, flatK_get l j hj']
    rfl

theorem rowR_put {w : World} {base g cap n q : Nat} {l l' : List RR} {os : Array Obj} (h : RowR w base (.slice (some ⟨g, 0, none⟩) n cap) l) (hl : l'.length = l.length) :
    RowR (sortWorldK encR2 2 w g 0 q l'.toArray os) base (.slice (some ⟨g, 0, none⟩) n cap) l' ∧ w.grownBy (sortWorldK encR2 2 w g 0 q l'.toArray os) (some g) := by
  rcases h.2 with ⟨e0, _⟩ | ⟨g', cap', cur, e0, hb, hg, hn, hm, hs, ht⟩
  · cases e0
  · injection e0 with e1 e2 e3
    injection e1 with e1
    injection e1 with e1
    subst e1; subst e2; subst e3
    have hgl : g < w.heap.size := (Array.getElem?_eq_some_iff.1 hg).1
    refine ⟨⟨flatR_len l', .inr ⟨g, cap, Sort.putCells id 0 (Sort.flatK encR2 2 l'.toArray) cur, by rw [hl], hb, ?_, by omega, hm, by simpa [Sort.putCells] using hs, ?_⟩⟩, ⟨rfl, rfl, rfl, by simp [sortWorldK, Sort.grow, Sort.putRowK, Sort.ahead], fun i hi hne => ?_⟩⟩
    · simp only [sortWorldK, Sort.grow]
      rw [Array.getElem?_append_left (by simp [Sort.putRowK, Sort.ahead]; exact hgl)]
      simp [Sort.putRowK, Sort.putRow, Sort.mapBlock, Sort.ahead, Array.getElem?_modify, hg, Sort.onCells]
    · apply List.ext_getElem?
      intro j
      rw [List.getElem?_take]
      by_cases hj : j < l'.length * 2
      · have hjc : j < cur.size := by omega
        rw [if_pos hj, flatR_get l' j hj, Array.getElem?_toList]
        simp only [Sort.putCells, Array.getElem?_mapIdx, Array.getElem?_eq_getElem hjc, Option.map_some]
        rw [if_pos (by simp; omega), Nat.sub_zero, flatK_get l' j hj]
        rfl
      · rw [if_neg hj, List.getElem?_eq_none (by rw [flatR_len]; omega)]
    · have hne' : g ≠ i := fun e => hne (by rw [e])
      simp only [sortWorldK, Sort.grow]
      rw [Array.getElem?_append_left (by simp [Sort.putRowK, Sort.ahead]; exact hi)]
      simp [Sort.putRowK, Sort.putRow, Sort.mapBlock, Sort.ahead, Array.getElem?_modify, hne']

theorem grow_two (W : World) (a b : Obj) : (W.alloc a).alloc b = Sort.grow (W.drewN 0) #[a, b] := by
  cases W
  simp only [World.alloc, Sort.grow, World.drewN]
  congr 1
set_option maxRecDepth 100000 in
set_option maxHeartbeats 4000000 in
theorem cpMake1_any (x y : RR) (W : World) : Calls Tryd.prog 63 #[.agg #[.int .i64 x.f0, .int .i64 x.f1], .agg #[.int .i64 y.f0, .int .i64 y.f1]] W fun e w' => e = .returned (.int .i64 (cmpI x.f0 y.f0)) ∧ ∃ q os', w' = Sort.grow (W.drewN q) os' := by
  have HC := Aside0.mk (cmpInt_any x.f0 y.f0)
  go_enter Tryd.func63, Tryd.ntmps63
  go_wp2_with fail
  refine (HC.out _).mono ?_
  rintro e w' ⟨rfl, rfl⟩
  go_wp2_with fail
  go_ret
  exact ⟨rfl, 0, _, grow_two _ _ _⟩

def cfR (x y : RR) : Int := cmpI x.f0 y.f0
theorem ltR (x y : RR) : ltOf cfR x y = decide (x.f0 < y.f0) := by
  rw [ltOf, cfR, cmpI, Bool.eq_iff_iff, decide_eq_true_eq, decide_eq_true_eq]
  split
  · simp_all
  · split <;> simp <;> omega
theorem swoR : Sort.SWO (ltOf cfR) where
  irrefl x := by rw [ltR]; simp
  trans x y z h1 h2 := by rw [ltR, decide_eq_true_eq] at *; omega
  ntrans x y z h1 h2 := by rw [ltR, decide_eq_false_iff_not] at *; omega
theorem aggR : ∀ w, (isAgg 67).run Tryd.prog w = .ok true w := fun w => by kernel_rfl
theorem sizeR : ∀ w, (Go.sizeOf 67).run Tryd.prog w = .ok 2 w := fun w => by kernel_rfl

/-- What the sort of a row of ranges leaves. -/
theorem sortR_any {w : World} {base : Nat} {v : Value} {l : List RR} (h : RowR w base v l) (hl : l.length ≤ 1000000) :
    Calls Tryd.prog 62 #[v, .func (.func 63) #[] #[]] w fun e w' => e = .returned (.tuple #[]) ∧ ∃ l', l'.Perm l ∧ l'.Pairwise (fun a b => a.f0 ≤ b.f0) ∧ RowR w' base v l' ∧ w.grownBy w' v.ownBlock := by
  rcases h.2 with ⟨rfl, h0⟩ | ⟨g, cap, cur, rfl, _⟩
  · have hn : l = [] := List.eq_nil_of_length_eq_zero h0
    subst hn
    exact (AnyF.slices_SortFunc_none Tryd.sortR none 0 _ w).mono fun e w' ⟨h1, h2⟩ => ⟨h1, [], .refl _, .nil, h2 ▸ h, h2 ▸ ⟨rfl, rfl, rfl, Nat.le_refl _, fun _ _ _ => rfl⟩⟩
  · obtain ⟨_, hg, hb, hH⟩ := holdsR h
    have eg : ∀ args w, (callFunc 63 args).run Tryd.prog w = .ok (.enter 63 args) w := enters_of Tryd.func63 (by kernel_rfl) rfl
    have hc := AnyQ.slices_SortFunc Tryd.sortR 2 aggR sizeR encR2 (fun _ => rfl) (fun x v hv => by simp [encR2] at hv; rcases hv with rfl | rfl <;> rfl) cfR swoR 63 #[] g 0 cap l.toArray w eg (fun m os dk _ x y => cpMake1_any x y _) hH hg (by simp; omega)
    refine hc.mono ?_
    rintro e w' ⟨h1, d', n, os, hp, hs, rfl⟩
    have hsz : d'.toList.length = l.length := by have := hp.1; simpa using this
    have hpm : d'.toList.Perm l := by
      have h3 := hp.2.2
      have e1 : (d'.extract 0 l.toArray.size) = d' := by rw [← hp.1]; simp
      have e2 : (l.toArray.extract 0 l.toArray.size) = l.toArray := by simp
      rw [e1, e2] at h3
      simpa using h3
    have hr := rowR_put (q := n) (os := os) (l' := d'.toList) h hsz
    rw [show d'.toList.toArray = d' by simp] at hr
    refine ⟨h1, d'.toList, hpm, ?_, hr.1, hr.2⟩
    rw [List.pairwise_iff_getElem]
    intro i j hi hj hij
    have h4 := hs i j (Nat.zero_le _) hij (by simpa using (hsz ▸ hj))
    rw [ltR, decide_eq_false_iff_not] at h4
    rw [getElem!_pos d' i (by simpa using hi), getElem!_pos d' j (by simpa using hj)] at h4
    simpa using h4
end Go.Proofs.YtipedgkampafjaaDoor.Rf
/- Tells what cpset.Make makes. -/
namespace Go.Proofs.YtipedgkampafjaaDoor.Rf
open Go.Shelf Go.RowKit Go.Proofs.YtipedgkampafjaaDoorW.PrintWords Go.Proofs.YtipedgkampafjaaDoorW.PrintLast Go.Proofs.YtipedgkampafjaaDoorW.PrintMore

/-- A range is joined to those before it. -/
def stepR (out : List RR) (r : RR) : List RR :=
  match out.getLast? with
  | some z => if r.f0 ≤ z.f1 + 1 then out.dropLast ++ [⟨z.f0, mx z.f1 r.f1⟩] else out ++ [r]
  | none => [r]
def joinR (l : List RR) : List RR := l.foldl stepR []
theorem joinR_snoc (l : List RR) (x : RR) : joinR (l ++ [x]) = stepR (joinR l) x := by simp [joinR, List.foldl_append]
theorem stepR_len (out : List RR) (r : RR) : (stepR out r).length ≤ out.length + 1 := by
  unfold stepR
  split
  · split
    · simp
    · simp
  · simp
theorem joinR_len (l : List RR) : (joinR l).length ≤ l.length := by
  suffices ∀ (l : List RR) (o : List RR), (l.foldl stepR o).length ≤ o.length + l.length by simpa [joinR] using this l []
  intro l
  induction l with
  | nil => intro o; simp
  | cons x l ih => intro o; have h1 := ih (stepR o x); have h2 := stepR_len o x; simp only [List.foldl_cons, List.length_cons]; omega

theorem rowR_C {w : World} {base : Nat} {v : Value} {l : List RR} (h : RowR w base v l) (hl : l.length ≤ 1000000) : ∃ A cap, v = .slice A l.length cap ∧ l.length ≤ cap ∧ Kd.C k67 w A l.length l := by
  rcases h.2 with ⟨rfl, h0⟩ | ⟨g, cap, cur, rfl, hb, hg, hn, hm, hs, ht⟩
  · have : l = [] := List.eq_nil_of_length_eq_zero h0
    subst this
    exact ⟨none, 0, rfl, Nat.le_refl _, Kd.C_nil _ _⟩
  · refine ⟨_, _, rfl, hn, rfl, by omega, fun _ => ⟨⟨g, 0, none⟩, rfl, fun j p hj => ⟨encR2 p, rfl, k67_mk w p, fun i u hu => ?_⟩⟩⟩
    have hjl : j < l.length := (List.getElem?_eq_some_iff.1 hj).1
    have hi : i < 2 := (List.getElem?_eq_some_iff.1 hu).1
    have e1 : (cur.toList.take (l.length * 2))[j * 2 + i]? = (flatR l)[j * 2 + i]? := by rw [ht]
    rw [List.getElem?_take, if_pos (by omega), Array.getElem?_toList, flatR_get l _ (by omega), show (j * 2 + i) / 2 = j by omega, show (j * 2 + i) % 2 = i by omega] at e1
    have hz : Kd.sz k67 = 2 := rfl
    rw [hz]
    simp only [Addr.add_lit]
    simp only [World.cell?, hg, Nat.zero_add, Option.isSome_none, Bool.false_eq_true, if_false]
    have hg2 : l.getD j z67 = p := by rw [List.getD_eq_getElem?_getD, hj]; rfl
    rw [e1, hg2, List.getD_eq_getElem?_getD, hu]
    rfl

theorem rowR_set {w : World} {base g cap n : Nat} {l : List RR} {z : RR} (h : RowR w base (.slice (some ⟨g, 0, none⟩) n cap) (l ++ [z])) (y : Int) :
    RowR (w.setCell ⟨g, l.length * 2 + 1, none⟩ (.int .i64 y)) base (.slice (some ⟨g, 0, none⟩) n cap) (l ++ [⟨z.f0, y⟩]) ∧ w.grownBy (w.setCell ⟨g, l.length * 2 + 1, none⟩ (.int .i64 y)) (some g) := by
  rcases h.2 with ⟨e0, _⟩ | ⟨g', cap', cur, e0, hb, hg, hn, hm, hs, ht⟩
  · cases e0
  · injection e0 with e1 e2 e3
    injection e1 with e1
    injection e1 with e1
    subst e1; subst e2; subst e3
    have hgl : g < w.heap.size := (Array.getElem?_eq_some_iff.1 hg).1
    have hlen : (l ++ [z]).length = l.length + 1 := by simp
    rw [hlen] at hn ht
    refine ⟨⟨flatR_len _, .inr ⟨g, cap, cur.setIfInBounds (l.length * 2 + 1) (.int .i64 y), by simp, hb, ?_, by simp; omega, hm, by simpa using hs, ?_⟩⟩, ⟨rfl, rfl, rfl, by simp [World.setCell], fun i hi hne => Below.heap_setCell _ _ _ _ (fun e => hne (by rw [e]))⟩⟩
    · rw [Sort.setCell_eq]
      simp [Sort.mapBlock, Array.getElem?_modify, hg, Sort.onCells]
    · rw [show (l ++ [(⟨z.f0, y⟩ : RR)]).length = l.length + 1 by simp, Array.toList_setIfInBounds, List.take_set, ht]
      have e1 : flatR (l ++ [z]) = flatR l ++ [.int .i64 z.f0, .int .i64 z.f1] := by simp [flatR, encR2]
      have e2 : flatR (l ++ [(⟨z.f0, y⟩ : RR)]) = flatR l ++ [.int .i64 z.f0, .int .i64 y] := by simp [flatR, encR2]
      rw [e1, e2, List.set_append_right _ _ (by rw [flatR_len]; omega), flatR_len, show l.length * 2 + 1 - l.length * 2 = 1 by omega]
      rfl
end Go.Proofs.YtipedgkampafjaaDoor.Rf
/- Tells what cpset.Make makes, by its walk. -/
namespace Go.Proofs.YtipedgkampafjaaDoor.Rf
open Go.Shelf Go.RowKit Go.Proofs.YtipedgkampafjaaDoorW.PrintWords Go.Proofs.YtipedgkampafjaaDoorW.PrintLast Go.Proofs.YtipedgkampafjaaDoorW.PrintMore

/-- What Make may make of ranges. -/
def MadeR (xs out : List RR) : Prop := ∃ l', l'.Perm (gathR xs) ∧ l'.Pairwise (fun a b => a.f0 ≤ b.f0) ∧ out = joinR l'
theorem gathR_len (xs : List RR) : (gathR xs).length ≤ xs.length := by
  refine Nat.le_trans (List.length_filter_le _ _) ?_
  simp
/-- What the merging holds: numbers in range. -/
def inB (r : RR) : Prop := 0 ≤ r.f0 ∧ r.f0 ≤ 1114111 ∧ 0 ≤ r.f1 ∧ r.f1 ≤ 1114111
theorem gathR_in {xs : List RR} {r : RR} (h : r ∈ gathR xs) : inB r := by
  obtain ⟨h1, h2⟩ := List.mem_filter.1 h
  obtain ⟨x, _, rfl⟩ := List.mem_map.1 h1
  simp only [goodR, clampR, decide_eq_true_eq, mx_max, mn_min, inB] at h2 ⊢
  omega
theorem stepR_in {out : List RR} {r : RR} (ho : ∀ x ∈ out, inB x) (hr : inB r) : ∀ x ∈ stepR out r, inB x := by
  intro x hx
  unfold stepR at hx
  split at hx
  · rename_i z hz
    have hzm : inB z := ho z (List.mem_of_getLast? hz)
    split at hx
    · rcases List.mem_append.1 hx with h | h
      · exact ho x (List.dropLast_subset _ h)
      · rw [List.mem_singleton] at h
        subst h
        simp only [inB, mx_max] at hzm hr ⊢
        omega
    · rcases List.mem_append.1 hx with h | h
      · exact ho x h
      · rw [List.mem_singleton.1 h]; exact hr
  · rw [List.mem_singleton.1 hx]; exact hr
theorem joinR_in {l : List RR} (h : ∀ x ∈ l, inB x) : ∀ x ∈ joinR l, inB x := by
  suffices ∀ (l o : List RR), (∀ x ∈ l, inB x) → (∀ x ∈ o, inB x) → ∀ x ∈ l.foldl stepR o, inB x from this l [] h (by simp)
  intro l
  induction l with
  | nil => intro o _ h; exact h
  | cons y l ih => intro o h1 h2; exact ih _ (fun x hx => h1 x (List.mem_cons_of_mem _ hx)) (stepR_in h2 (h1 y List.mem_cons_self))

theorem rowR_last {w : World} {base : Nat} {v : Value} {l0 : List RR} {z : RR} (h : RowR w base v (l0 ++ [z])) :
    ∃ g cap, v = .slice (some ⟨g, 0, none⟩) (l0.length + 1) cap ∧ base ≤ g ∧ g < w.heap.size ∧ w.cell? ⟨g, l0.length * 2, none⟩ = some (.int .i64 z.f0) ∧ w.cell? ⟨g, l0.length * 2 + 1, none⟩ = some (.int .i64 z.f1) ∧ w.frozen? ⟨g, l0.length * 2 + 1, none⟩ = false := by
  rcases h.2 with ⟨_, h0⟩ | ⟨g, cap, cur, rfl, hb, hg, hn, hm, hs, ht⟩
  · simp at h0
  · have hc : ∀ i, i < 2 → w.cell? ⟨g, l0.length * 2 + i, none⟩ = (encR2 z)[i]? := fun i hi => by
      have e1 : (cur.toList.take ((l0 ++ [z]).length * 2))[l0.length * 2 + i]? = (flatR (l0 ++ [z]))[l0.length * 2 + i]? := by rw [ht]
      rw [List.getElem?_take, if_pos (by simp; omega), Array.getElem?_toList, show flatR (l0 ++ [z]) = flatR l0 ++ encR2 z by simp [flatR], List.getElem?_append_right (by rw [flatR_len]; omega), flatR_len, show l0.length * 2 + i - l0.length * 2 = i by omega] at e1
      simp only [World.cell?, hg, Option.isSome_none, Bool.false_eq_true, if_false]
      exact e1
    exact ⟨g, cap, by simp, hb, (Array.getElem?_eq_some_iff.1 hg).1, hc 0 (by omega), hc 1 (by omega), by simp [World.frozen?, hg]⟩
attribute [local go_sem] max2_mx min2_mn max_two min_two
set_option maxRecDepth 100000 in
set_option maxHeartbeats 8000000 in
theorem cpMake_any (A : Option Addr) (c : Nat) (xs : List RR) (w : World) (hr : Kd.C k67 w A xs.length xs) (hl : xs.length ≤ 1000000) :
    Calls Tryd.prog 40 #[.slice A xs.length c] w fun e w' => (∃ out B cap, MadeR xs out ∧ e = .returned (.agg #[.slice B out.length cap]) ∧ out.length ≤ cap ∧ Kd.C k67 w' B out.length out) ∧ Below w.heap.size w w' := by
  obtain ⟨wa, hwa⟩ : ∃ wa, w.alloc (.cells #[.slice none 0 0] 26) = wa := ⟨_, rfl⟩
  have HWa : Aside0 (Below w.heap.size w wa) := ⟨hwa ▸ below_alloc (Below.refl _ _) _⟩
  have HCell : Aside0 (wa.heap[w.heap.size]? = some (.cells #[.slice none 0 0] 26)) := ⟨by rw [← hwa]; show (w.heap.push _)[w.heap.size]? = _; simp⟩
  have hsz : w.heap.size < wa.heap.size := by rw [← hwa]; simp
  have HR := Aside0.mk (Kd.C_below hr HWa.out)
  have HL := Aside0.mk hl
  clear hr
  go_enter Tryd.func40, Tryd.ntmps40
  go_wp2_with fail
  clear hwa
  go_loopw [3, 12] (fun v v2 wr => ∃ j : Nat, v2 = .int .i64 (j : Int) ∧ j ≤ xs.length ∧ Aside0 (RowR wr wa.heap.size v (gathR (xs.take j))) ∧ Aside0 (Below wa.heap.size wa wr)) (fun _ v2 _ => xs.length - (intOf v2).toNat)
  case atStart => exact ⟨0, rfl, by omega, ⟨RowR.nil _ _⟩, ⟨Below.refl _ _⟩⟩
  case round =>
    obtain ⟨j, rfl, hj, HO, HB⟩ := hrel
    by_cases hlt : j < xs.length
    · obtain ⟨ad, e, hx0, hx1⟩ := at_T67 (Kd.C_below HR.out HB.out) (j : Int) (by omega) (by omega)
      subst e
      simp only [Int.toNat_natCast] at hx0 hx1
      have HT : Aside0 (gathR (xs.take (j + 1)) = if goodR (clampR (rd_T67 xs (j : Int))) then gathR (xs.take j) ++ [clampR (rd_T67 xs (j : Int))] else gathR (xs.take j)) := ⟨by
        rw [List.take_succ_eq_append_getElem hlt, gathR_snoc]
        rw [rd_T67, Int.toNat_natCast, List.getD_eq_getElem?_getD, List.getElem?_eq_getElem hlt]; rfl⟩
      have HLen : Aside0 (((gathR (xs.take j)).length + 1) * 16 ≤ 140737488355328) := ⟨by
        have := gathR_len (xs.take j)
        have := HL.out
        simp only [List.length_take] at *; omega⟩
      generalize rd_T67 xs (j : Int) = x at hx0 hx1 HT
      generalize gathR (xs.take j) = l at HT HO HLen
      cases hg : decide (mx x.f0 0 ≤ mn x.f1 1114111) with
      | true =>
        rw [if_pos (by exact hg)] at HT
        have HOO := Aside0.mk (RowR.alloc HO.out (.cells #[.int .i64 (mx x.f0 0), .int .i64 (mn x.f1 1114111)] 67))
        have HBB := Aside0.mk (below_alloc HB.out (.cells #[.int .i64 (mx x.f0 0), .int .i64 (mn x.f1 1114111)] 67))
        have HSz : Aside0 ((wr.alloc (.cells #[.int .i64 (mx x.f0 0), .int .i64 (mn x.f1 1114111)] 67)).heap.size = wr.heap.size + 1) := ⟨by simp⟩
        go_wp2_with (at_builtin; refine print_append_cells (w0 := wa) wa.heap.size rfl (.tmp 29) (.tmp 31) 24 67 (.agg #[.int .i64 0, .int .i64 0]) 2 16 rfl Tryd.underlying24 infoR rfl (by decide) (by decide) _ l.length (flatR l) [.int .i64 (mx x.f0 0), .int .i64 (mn x.f1 1114111)] rfl (by rw [HSz.out]; rfl) rfl (by intro u hu; simp at hu; rcases hu with rfl | rfl <;> rfl) HOO.out HBB.out HBB.out.size HLen.out ?_; intro v1 w1 h1 h2 h3 h4)
        go_roundw
        case rel => exact ⟨j + 1, by first | rfl | go_num, by omega, ⟨by rw [HT.out]; simpa [RowR, flatR, encR2, clampR] using h1⟩, ⟨h2⟩⟩
        case measure => simp [intOf]; omega
      | false =>
        rw [if_neg (by exact Bool.eq_false_iff.1 hg)] at HT
        go_wp2_with fail
        go_roundw
        case rel => exact ⟨j + 1, by first | rfl | go_num, by omega, ⟨by rw [HT.out]; exact HO.out.alloc _⟩, ⟨below_alloc HB.out _⟩⟩
        case measure => simp [intOf]; omega
    · have HO2 : Aside0 (RowR wr wa.heap.size u3 (gathR xs)) := ⟨by have h := HO.out; rwa [List.take_of_length_le (by omega)] at h⟩
      have HLen : Aside0 ((gathR xs).length ≤ 1000000) := ⟨Nat.le_trans (gathR_len xs) HL.out⟩
      go_wp2_with fail
      refine (sortR_any HO2.out HLen.out).mono ?_
      rintro e wB ⟨rfl, l', hpm, hpw, hrB, hgB⟩
      obtain ⟨B, capB, hv3, hcapB, hCB⟩ := rowR_C hrB (by rw [hpm.length_eq]; exact HLen.out)
      have HBB := Aside0.mk (HB.out.grown hgB HB.out.size (fun k hk => HO2.out.ge k hk))
      have HL2 : Aside0 (l'.length ≤ 1000000) := ⟨by rw [hpm.length_eq]; exact HLen.out⟩
      have HMade : Aside0 (MadeR xs (joinR l')) := ⟨⟨l', hpm, hpw, rfl⟩⟩
      have HIn : Aside0 (∀ x ∈ l', inB x) := ⟨fun x hx => gathR_in (hpm.mem_iff.1 hx)⟩
      have HCB := Aside0.mk hCB
      clear HO HO2 HLen HB hrB hgB hCB hpm hpw hlt hj
      subst hv3
      go_wp2_with fail
      go_loopw [6, 38] (fun v v2 wr => ∃ j : Nat, v2 = .int .i64 (j : Int) ∧ j ≤ l'.length ∧ Aside0 (RowR wr wB.heap.size v (joinR (l'.take j))) ∧ Aside0 (Below wB.heap.size wB wr)) (fun _ v2 _ => l'.length - (intOf v2).toNat)
      case atStart => exact ⟨0, rfl, by omega, ⟨RowR.nil _ _⟩, ⟨Below.refl _ _⟩⟩
      case round =>
        obtain ⟨j, rfl, hj, HO, HB⟩ := hrel
        have hl2 := HL2.out
        by_cases hlt : j < l'.length
        · obtain ⟨ad, e, hx0, hx1⟩ := at_T67 (Kd.C_below HCB.out HB.out) (j : Int) (by omega) (by omega)
          subst e
          simp only [Int.toNat_natCast] at hx0 hx1
          have HT : Aside0 (joinR (l'.take (j + 1)) = stepR (joinR (l'.take j)) (rd_T67 l' (j : Int))) := ⟨by
            rw [List.take_succ_eq_append_getElem hlt, joinR_snoc]
            rw [rd_T67, Int.toNat_natCast, List.getD_eq_getElem?_getD, List.getElem?_eq_getElem hlt]; rfl⟩
          have HLen : Aside0 ((joinR (l'.take j)).length ≤ 1000000) := ⟨by
            have := joinR_len (l'.take j)
            have := HL2.out
            simp only [List.length_take] at *; omega⟩
          have HIo : Aside0 (∀ x ∈ joinR (l'.take j), inB x) := ⟨joinR_in fun x hx => HIn.out x (List.mem_of_mem_take hx)⟩
          have HIx : Aside0 (inB (rd_T67 l' (j : Int))) := ⟨HIn.out _ (getD_mem l' _ _ (by simpa using hlt))⟩
          generalize rd_T67 l' (j : Int) = x at hx0 hx1 HT HIx
          generalize joinR (l'.take j) = o at HT HO HLen HIo
          rcases List.eq_nil_or_concat o with rfl | ⟨l0, z, rfl⟩
          · obtain ⟨C, capC, hv6, hcapC, hCC⟩ := rowR_C HO.out HLen.out
            subst hv6
            have HOO := Aside0.mk (RowR.alloc HO.out (.cells #[.int .i64 x.f0, .int .i64 x.f1] 67))
            have HBO := Aside0.mk (below_alloc HB.out (.cells #[.int .i64 x.f0, .int .i64 x.f1] 67))
            obtain ⟨W, hW⟩ : ∃ W, wr.alloc (.cells #[.int .i64 x.f0, .int .i64 x.f1] 67) = W := ⟨_, rfl⟩
            have m0 : W.cell? ⟨wr.heap.size, 0, none⟩ = some (.int .i64 x.f0) := by rw [← hW]; simp
            have m1 : W.cell? ⟨wr.heap.size, 1, none⟩ = some (.int .i64 x.f1) := by rw [← hW]; simp
            go_wp2_with fail
            try rw [hW]
            go_quiet (fail)
            have HO2 : Aside0 (RowR (W.drewN nq) wB.heap.size (.slice C [].length capC) []) := ⟨by rw [hW] at HOO; exact HOO.out⟩
            have HB2 : Aside0 (Below wB.heap.size wB (W.drewN nq)) := ⟨by rw [hW] at HBO; exact pw_below_drewN HBO.out _⟩
            have n0 : (W.drewN nq).cell? ⟨wr.heap.size, 0, none⟩ = some (.int .i64 x.f0) := m0
            have n1 : (W.drewN nq).cell? ⟨wr.heap.size, 1, none⟩ = some (.int .i64 x.f1) := m1
            have HLen16 : Aside0 ((([] : List RR).length + 1) * 16 ≤ 140737488355328) := ⟨by simp⟩
            clear HOO HBO hW m0 m1
            generalize W.drewN nq = W2 at HO2 HB2 n0 n1 ⊢
            go_wp2_with (at_builtin; refine print_append_cells (w0 := wB) wB.heap.size rfl (.tmp 72) (.tmp 74) 24 67 (.agg #[.int .i64 0, .int .i64 0]) 2 16 rfl Tryd.underlying24 infoR rfl (by decide) (by decide) _ ([] : List RR).length (flatR ([] : List RR)) [.int .i64 x.f0, .int .i64 x.f1] rfl rfl rfl (by intro u hu; simp at hu; rcases hu with rfl | rfl <;> rfl) HO2.out HB2.out HB2.out.size HLen16.out ?_; intro v1 w1 h1 h2 h3 h4)
            go_roundw
            case rel => exact ⟨j + 1, by first | rfl | go_num, by omega, ⟨by rw [HT.out]; simpa [RowR, flatR, encR2, stepR] using h1⟩, ⟨h2⟩⟩
            case measure => simp [intOf]; omega
          · rw [List.concat_eq_append] at *
            obtain ⟨g, capC, hv6, hgb, hgl, hz0, hz1, hfz⟩ := rowR_last HO.out
            subst hv6
            have HIz : Aside0 (inB z) := ⟨HIo.out z (by simp)⟩
            generalize hn : l0.length = n at hz0 hz1 hfz HO
            obtain ⟨W, hW⟩ : ∃ W, wr.alloc (.cells #[.int .i64 x.f0, .int .i64 x.f1] 67) = W := ⟨_, rfl⟩
            have m0 : W.cell? ⟨wr.heap.size, 0, none⟩ = some (.int .i64 x.f0) := by rw [← hW]; simp
            have m1 : W.cell? ⟨wr.heap.size, 1, none⟩ = some (.int .i64 x.f1) := by rw [← hW]; simp
            have zz0 : W.cell? ⟨g, n * 2, none⟩ = some (.int .i64 z.f0) := by rw [← hW]; exact cell_keep hz0 _
            have zz1 : W.cell? ⟨g, n * 2 + 1, none⟩ = some (.int .i64 z.f1) := by rw [← hW]; exact cell_keep hz1 _
            have hwz : IntKind.i64.wrap (z.f1 + 1) = z.f1 + 1 := IntWalk.i64_in _ (by have := HIz.out; simp only [inB] at this; omega)
            have hwn : IntKind.i64.wrap (n : Int) = (n : Int) := IntWalk.i64_in _ (by have := HLen.out; simp at this; omega)
            have HOO := Aside0.mk (RowR.alloc HO.out (.cells #[.int .i64 x.f0, .int .i64 x.f1] 67))
            have HBO := Aside0.mk (below_alloc HB.out (.cells #[.int .i64 x.f0, .int .i64 x.f1] 67))
            have zf : W.frozen? ⟨g, n * 2 + 1, none⟩ = false := by
              rw [← hW, (below_alloc (Below.refl wr.heap.size wr) _).frozen hgl]; exact hfz
            have hgr : g ≠ wr.heap.size := by omega
            cases hm : decide (x.f0 ≤ z.f1 + 1) with
            | true =>
              have HS : Aside0 (stepR (l0 ++ [z]) x = l0 ++ [⟨z.f0, mx z.f1 x.f1⟩]) := ⟨by simp [stepR, of_decide_eq_true hm]⟩
              go_wp2_with fail
              try rw [hW]
              go_quiet (fail)
              have HO2 : Aside0 (RowR (W.drewN nq).drew wB.heap.size (.slice (some ⟨g, 0, none⟩) (n + 1) capC) (l0 ++ [z])) := ⟨by rw [hW] at HOO; exact HOO.out⟩
              have HB2 : Aside0 (Below wB.heap.size wB (W.drewN nq).drew) := ⟨by rw [hW] at HBO; exact below_drew (pw_below_drewN HBO.out _)⟩
              have n0 : (W.drewN nq).cell? ⟨wr.heap.size, 0, none⟩ = some (.int .i64 x.f0) := m0
              have n1 : (W.drewN nq).cell? ⟨wr.heap.size, 1, none⟩ = some (.int .i64 x.f1) := m1
              have y0 : (W.drewN nq).cell? ⟨g, n * 2, none⟩ = some (.int .i64 z.f0) := zz0
              have y1 : (W.drewN nq).cell? ⟨g, n * 2 + 1, none⟩ = some (.int .i64 z.f1) := zz1
              have yf : (W.drewN nq).frozen? ⟨g, n * 2 + 1, none⟩ = false := zf
              clear HOO HBO hW m0 m1 zz0 zz1 zf hz0 hz1 hfz
              generalize W.drewN nq = W2 at HO2 HB2 n0 n1 y0 y1 yf ⊢
              go_wp2_with fail
              have q1 : (n : Int) < (n : Int) + 1 := by omega
              refine wp_region_still_tail 14 (by kernel_rfl) (by kernel_rfl) ?_
              simp only [List.take_succ_cons, List.take_zero, List.drop_succ_cons, List.drop_zero]
              change wpStill _ _ W2.drew _ _ _
              repeat still_step
              refine wpStill_nil ?_
              go_wp2_with fail
              go_roundw
              case rel =>
                have hset := rowR_set HO2.out (mx z.f1 x.f1)
                rw [hn] at hset
                exact ⟨j + 1, by first | rfl | go_num, by omega, ⟨by rw [HT.out, HS.out]; exact hset.1⟩, ⟨HB2.out.grown hset.2 HB2.out.size (fun k hk => by cases hk; exact hgb)⟩⟩
              case measure => simp [intOf]; omega
            | false =>
              have HS : Aside0 (stepR (l0 ++ [z]) x = l0 ++ [z] ++ [x]) := ⟨by simp [stepR, of_decide_eq_false hm]⟩
              go_wp2_with fail
              try rw [hW]
              go_quiet (fail)
              have HO2 : Aside0 (RowR (W.drewN nq) wB.heap.size (.slice (some ⟨g, 0, none⟩) (n + 1) capC) (l0 ++ [z])) := ⟨by rw [hW] at HOO; exact HOO.out⟩
              have HB2 : Aside0 (Below wB.heap.size wB (W.drewN nq)) := ⟨by rw [hW] at HBO; exact pw_below_drewN HBO.out _⟩
              have n0 : (W.drewN nq).cell? ⟨wr.heap.size, 0, none⟩ = some (.int .i64 x.f0) := m0
              have n1 : (W.drewN nq).cell? ⟨wr.heap.size, 1, none⟩ = some (.int .i64 x.f1) := m1
              have HLen16 : Aside0 (((l0 ++ [z]).length + 1) * 16 ≤ 140737488355328) := ⟨by have := HLen.out; omega⟩
              clear HOO HBO hW m0 m1 zz0 zz1 zf hz0 hz1 hfz
              generalize W.drewN nq = W2 at HO2 HB2 n0 n1 ⊢
              go_wp2_with (at_builtin; refine print_append_cells (w0 := wB) wB.heap.size rfl (.tmp 72) (.tmp 74) 24 67 (.agg #[.int .i64 0, .int .i64 0]) 2 16 rfl Tryd.underlying24 infoR rfl (by decide) (by decide) _ (l0 ++ [z]).length (flatR (l0 ++ [z])) [.int .i64 x.f0, .int .i64 x.f1] rfl rfl rfl (by intro u hu; simp at hu; rcases hu with rfl | rfl <;> rfl) HO2.out HB2.out HB2.out.size HLen16.out ?_; intro v1 w1 h1 h2 h3 h4)
              go_roundw
              case rel => exact ⟨j + 1, by first | rfl | go_num, by omega, ⟨by rw [HT.out, HS.out]; simpa [RowR, flatR, encR2] using h1⟩, ⟨h2⟩⟩
              case measure => simp [intOf]; omega
        · have HO2 : Aside0 (RowR wr wB.heap.size u6 (joinR l')) := ⟨by have h := HO.out; rwa [List.take_of_length_le (by omega)] at h⟩
          have hb2 := below_step HBB.out HB.out
          have hheap : wr.heap[w.heap.size]? = some (.cells #[.slice none 0 0] 26) := by rw [hb2.block _ hsz]; exact HCell.out
          have hcw : wr.cell? ⟨w.heap.size, 0, none⟩ = some (.slice none 0 0) := by simp [World.cell?, hheap]
          have hfw : wr.frozen? ⟨w.heap.size, 0, none⟩ = false := by simp [World.frozen?, hheap]
          obtain ⟨C, capC, hv6, hcapC, hCC⟩ := rowR_C HO2.out (Nat.le_trans (joinR_len l') HL2.out)
          subst hv6
          have HHeap := Aside0.mk hheap
          have HB2 := Aside0.mk hb2
          generalize joinR l' = out at HMade HO2 hcapC hCC
          clear hCC hheap hb2 HO
          go_wp2_with fail
          (try simp only [Exit.inBlock, Exit.then])
          have hg9 : wr.grownBy (wr.setCell ⟨w.heap.size, 0, none⟩ (.slice C out.length capC)) (some w.heap.size) := ⟨rfl, rfl, rfl, by simp [World.setCell], fun i hi hne => Below.heap_setCell _ _ _ _ (fun e => hne (by rw [e]))⟩
          refine bodyPost_ret (results_cell_row rfl _ _ w.heap.size 26 #[.slice C out.length capC] (0, 0) _ rfl (by
            rw [Sort.setCell_eq]
            simp [Sort.mapBlock, Array.getElem?_modify, HHeap.out, Sort.onCells]) Tryd.underlying26 rfl (by kernel_rfl)) rfl ?_
          have hro : RowR (wr.setCell ⟨w.heap.size, 0, none⟩ (.slice C out.length capC)) wB.heap.size (.slice C out.length capC) out := World.ownsRow.kept HO2.out hg9 (by
            cases hC : (Value.slice C out.length capC).ownBlock with
            | none => exact Or.inl rfl
            | some k =>
              refine Or.inr fun e => ?_
              have h1 := HO2.out.ge k hC
              cases e
              have := HBB.out.size
              omega)
          obtain ⟨C', capC', hv', hcap', hC'⟩ := rowR_C hro (by have := HMade.out; obtain ⟨l2, h1, _, h3⟩ := this; rw [h3]; exact Nat.le_trans (joinR_len l2) (by rw [h1.length_eq]; exact Nat.le_trans (gathR_len xs) HL.out))
          injection hv' with e1 e2 e3
          subst e1; subst e3
          exact ⟨⟨out, C, capC, HMade.out, rfl, hcap', hC'⟩, (below_step HWa.out HB2.out).grown hg9 (by have := (below_step HWa.out HB2.out).size; omega) (fun k hk => by cases hk; exact Nat.le_refl _)⟩
end Go.Proofs.YtipedgkampafjaaDoor.Rf
/- Tells what cpset.Valid tells. -/
namespace Go.Proofs.YtipedgkampafjaaDoor.Rf
open Go.Shelf Go.RowKit Go.Proofs.YtipedgkampafjaaDoorW.PrintWords Go.Proofs.YtipedgkampafjaaDoorW.PrintLast Go.Proofs.YtipedgkampafjaaDoorW.PrintMore

instance : DecidableEq RR := fun a b => decidable_of_iff (a.f0 = b.f0 ∧ a.f1 = b.f1) (by cases a; cases b; simp)
set_option maxRecDepth 100000 in
theorem eqRange (a b a' b' : Int) (w : World) : (Op.equalIn 10000 67 (.agg #[.int .i64 a, .int .i64 b]) (.agg #[.int .i64 a', .int .i64 b'])).run Tryd.prog w = .ok (a == a' && b == b') w :=
  eqA_of (d := 9999) Tryd.underlying67 (by kernel_rfl) (eqf_cons (by decide) (a := .int .i64 a) (b := .int .i64 a') (by kernel_rfl) (by kernel_rfl) (run_equalIn_int w 9998 3 .i64 .i64 a a' Tryd.underlying3) (eqf_last (by decide) (a := .int .i64 b) (b := .int .i64 b') (by kernel_rfl) (by kernel_rfl) (run_equalIn_int w 9998 3 .i64 .i64 b b' Tryd.underlying3)))

theorem fieldR (B : Option Addr) (n cap : Nat) (w : World) : (Instr.field 26 (.agg #[.slice B n cap]) 0).run Tryd.prog w = .ok (.slice B n cap) w := by kernel_rfl
set_option maxRecDepth 100000 in
set_option maxHeartbeats 8000000 in
theorem cpValidR_any (A : Option Addr) (c : Nat) (xs : List RR) (w : World) (hr : Kd.C k67 w A xs.length xs) (hc : xs.length ≤ c) (hl : xs.length ≤ 1000000) :
    Calls Tryd.prog 25 #[.agg #[.slice A xs.length c]] w fun e w' => (∃ out, MadeR xs out ∧ e = .returned (.bool (decide (out = xs)))) ∧ Below w.heap.size w w' := by
  have HR := Aside0.mk hr
  have HL := Aside0.mk hl
  have HMk := Aside0.mk (cpMake_any A c xs (w.alloc (.cells #[.slice A xs.length c] 26)) (Kd.C_alloc hr _) hl)
  clear hr
  have hbx : Below w.heap.size w (w.alloc (.cells #[.slice A xs.length c] 26)) := below_alloc (Below.refl _ _) _
  have hcx : (w.alloc (.cells #[.slice A xs.length c] 26)).cell? ⟨w.heap.size, 0, none⟩ = some (.slice A xs.length c) := by simp
  have HBX := Aside0.mk hbx
  have HCX := Aside0.mk hcx
  clear hbx hcx
  go_enter Tryd.func25, Tryd.ntmps25
  go_wp2_with fail
  refine HMk.out.mono ?_
  rintro e w1 ⟨⟨out, B, cap, hm, rfl, hcap, hC⟩, hb1⟩
  have HM := Aside0.mk hm
  have HC := Aside0.mk hC
  have hcw : w1.cell? ⟨w.heap.size, 0, none⟩ = some (.slice A xs.length c) := by rw [hb1.cell (by simp)]; exact HCX.out
  have HB1 := Aside0.mk (below_step HBX.out hb1)
  have hol : out.length ≤ 9223372036854775807 := Kd.C_max hC
  have hfld := fieldR B out.length cap w1
  clear hm hC hb1
  cases hlen : ((out.length : Int) != (xs.length : Int)) with
  | true =>
    go_wp2_with fail
    go_ret
    have hne : decide (out = xs) = false := by
      rw [decide_eq_false_iff_not]; intro h; rw [h] at hlen; simp at hlen
    exact ⟨⟨out, HM.out, by rw [hne]; rfl⟩, HB1.out⟩
  | false =>
    have HLE : Aside0 (out.length = xs.length) := ⟨by
      have : ((out.length : Int) = (xs.length : Int)) := by simpa using hlen
      omega⟩
    go_wp2_with fail
    go_loopw [18] (fun v wr => ∃ j : Nat, v = .int .i64 (j : Int) ∧ j ≤ out.length ∧ Aside0 (out.take j = xs.take j) ∧ Aside0 (Below w1.heap.size w1 wr)) (fun v _ => out.length - (intOf v).toNat)
    case atStart => exact ⟨0, rfl, by omega, ⟨rfl⟩, ⟨Below.refl _ _⟩⟩
    case round =>
      obtain ⟨j, rfl, hj, HA, HB⟩ := hrel
      have hle := HLE.out
      by_cases hlt : j < out.length
      · obtain ⟨ad, e, hx0, hx1⟩ := at_T67 (Kd.C_below HC.out HB.out) (j : Int) (by omega) (by omega)
        obtain ⟨ad2, e2, hy0, hy1⟩ := at_T67 (Kd.C_below HR.out (below_step HB1.out HB.out)) (j : Int) (by omega) (by omega)
        subst e
        subst e2
        simp only [Int.toNat_natCast] at hx0 hx1 hy0 hy1
        have HT : Aside0 (out.take (j + 1) = xs.take (j + 1) ↔ rd_T67 out (j : Int) = rd_T67 xs (j : Int)) := ⟨by
          rw [List.take_succ_eq_append_getElem hlt, List.take_succ_eq_append_getElem (by omega : j < xs.length), HA.out, rd_T67, rd_T67, Int.toNat_natCast, List.getD_eq_getElem?_getD, List.getD_eq_getElem?_getD, List.getElem?_eq_getElem hlt, List.getElem?_eq_getElem (by omega : j < xs.length)]
          exact ⟨fun h => by simpa using List.append_cancel_left h, fun h => by simp only [Option.getD_some] at h; rw [h]⟩⟩
        generalize rd_T67 out (j : Int) = x at hx0 hx1 HT
        generalize rd_T67 xs (j : Int) = y at hy0 hy1 HT
        have hcw2 : wr.cell? ⟨w.heap.size, 0, none⟩ = some (.slice (some ad2) xs.length c) := by
          rw [HB.out.cell (cell_lt hcw)]; exact hcw
        obtain ⟨W, hW⟩ : ∃ W, wr.alloc (.cells #[.int .i64 x.f0, .int .i64 x.f1] 67) = W := ⟨_, rfl⟩
        have m0 : W.cell? ⟨wr.heap.size, 0, none⟩ = some (.int .i64 x.f0) := by rw [← hW]; simp
        have m1 : W.cell? ⟨wr.heap.size, 1, none⟩ = some (.int .i64 x.f1) := by rw [← hW]; simp
        have z0 : W.cell? (ad2.add (j * 2)) = some (.int .i64 y.f0) := by rw [← hW]; exact cell_keep hy0 _
        have z1 : W.cell? ⟨(ad2.add (j * 2)).block, (ad2.add (j * 2)).off + 1, none⟩ = some (.int .i64 y.f1) := by rw [← hW]; exact cell_keep hy1 _
        have zc : W.cell? ⟨w.heap.size, 0, none⟩ = some (.slice (some ad2) xs.length c) := by rw [← hW]; exact cell_keep hcw2 _
        have HBW : Aside0 (Below w1.heap.size w1 W) := ⟨by rw [← hW]; exact below_alloc HB.out _⟩
        have heq := fun w => eqRange x.f0 x.f1 y.f0 y.f1 w
        have hjx : (j : Int) < (xs.length : Int) := by omega
        have hjx2 : j < xs.length := by omega
        clear hle
        cases hq : (x.f0 == y.f0 && x.f1 == y.f1) with
        | true =>
          have HXY : Aside0 (x = y) := ⟨by
            obtain ⟨x0, x1⟩ := x
            obtain ⟨y0, y1⟩ := y
            simp at hq
            rw [hq.1, hq.2]⟩
          rw [hq] at heq
          go_wp2_with fail
          try rw [hW]
          go_quiet (fail)
          go_wp2_with fail
          go_roundw
          case rel => exact ⟨j + 1, by first | rfl | go_num, by omega, ⟨HT.out.2 HXY.out⟩, ⟨pw_below_drewN HBW.out _⟩⟩
          case measure => simp [intOf]; omega
        | false =>
          have HXY : Aside0 (¬ x = y) := ⟨by
            intro h; subst h; simp at hq⟩
          rw [hq] at heq
          go_wp2_with fail
          try rw [hW]
          go_quiet (fail)
          go_wp2_with fail
          go_ret
          have hne : decide (out = xs) = false := by
            rw [decide_eq_false_iff_not]; intro h; rw [h] at HT; exact HXY.out (HT.out.1 rfl)
          exact ⟨⟨out, HM.out, by rw [hne]; rfl⟩, below_step HB1.out (pw_below_drewN HBW.out _)⟩
      · have HDE : Aside0 (decide (out = xs) = true) := ⟨by
          have h := HA.out
          rw [List.take_of_length_le (by omega), List.take_of_length_le (by omega)] at h
          simpa using h⟩
        clear hle
        go_wp2_with fail
        go_ret
        exact ⟨⟨out, HM.out, by rw [HDE.out]; rfl⟩, below_step HB1.out HB.out⟩
end Go.Proofs.YtipedgkampafjaaDoor.Rf
/- When a set is valid, when replacing ends, how long it gets. -/
namespace Go.Proofs.YtipedgkampafjaaDoor.Rf
open Go.Shelf Go.RowKit Go.Proofs.YtipedgkampafjaaDoorW.PrintWords Go.Proofs.YtipedgkampafjaaDoorW.PrintLast Go.Proofs.YtipedgkampafjaaDoorW.PrintMore

/-! ### sets -/
def badR (r : RR) : Bool := decide (r.f0 < 0) || decide (r.f1 < r.f0) || decide (1114111 < r.f1)
def nearR (a b : RR) : Bool := decide (b.f0 ≤ a.f1 + 1)
/-- Is a list of ranges as Make would have it? -/
def canonR (l : List RR) : Bool := !l.any badR && !pairAny nearR l
theorem pairAny_cons {α : Type} (p : α → α → Bool) (x : α) (l : List α) : pairAny p (x :: l) = ((match l with | [] => false | y :: _ => p x y) || pairAny p l) := by
  cases l <;> simp [pairAny]
theorem stepR_canon {o : List RR} {r : RR} (ho : canonR o = true) (hr : badR r = false) (hs : ∀ z, o.getLast? = some z → z.f0 ≤ r.f0) : canonR (stepR o r) = true := by
  simp only [canonR, Bool.and_eq_true, Bool.not_eq_true'] at ho ⊢
  have hb : 0 ≤ r.f0 ∧ r.f0 ≤ r.f1 ∧ r.f1 ≤ 1114111 := by simp [badR] at hr; omega
  rcases List.eq_nil_or_concat o with rfl | ⟨l0, z, rfl⟩
  · simp [stepR, hr, pairAny]
  · rw [List.concat_eq_append] at *
    have hzl := hs z (by simp)
    have hz : badR z = false := by have := ho.1; simp at this; exact this.2
    have hzb : 0 ≤ z.f0 ∧ z.f0 ≤ z.f1 ∧ z.f1 ≤ 1114111 := by simp [badR] at hz; omega
    by_cases hn : r.f0 ≤ z.f1 + 1
    · have e : stepR (l0 ++ [z]) r = l0 ++ [⟨z.f0, mx z.f1 r.f1⟩] := by simp [stepR, hn]
      rw [e]
      refine ⟨?_, ?_⟩
      · have h1 := ho.1
        rw [List.any_append, Bool.or_eq_false_iff] at h1 ⊢
        refine ⟨h1.1, ?_⟩
        simp [badR, mx_max]; omega
      · have h2 := ho.2
        rcases List.eq_nil_or_concat l0 with rfl | ⟨l1, y, rfl⟩
        · simp [pairAny]
        · rw [List.concat_eq_append] at *
          rw [pairAny_snoc, Bool.or_eq_false_iff] at h2 ⊢
          exact ⟨h2.1, by simpa [nearR] using h2.2⟩
    · have e : stepR (l0 ++ [z]) r = l0 ++ [z] ++ [r] := by simp [stepR, hn]
      rw [e]
      refine ⟨?_, ?_⟩
      · rw [List.any_append, ho.1]; simp [hr]
      · rw [pairAny_snoc, ho.2]; simp [nearR]; omega
theorem stepR_last (o : List RR) (r : RR) (hs : ∀ z, o.getLast? = some z → z.f0 ≤ r.f0) : ∀ z, (stepR o r).getLast? = some z → z.f0 ≤ r.f0 := by
  intro z hz
  unfold stepR at hz
  split at hz
  · rename_i y hy
    split at hz
    · simp at hz; subst hz; exact hs y hy
    · simp at hz; subst hz; omega
  · simp at hz; subst hz; omega
theorem goodR_bad {xs : List RR} {r : RR} (h : r ∈ gathR xs) : badR r = false := by
  have h1 := gathR_in h
  have h2 := (List.mem_filter.1 h).2
  simp only [goodR, decide_eq_true_eq, inB] at h1 h2
  simp [badR]; omega
theorem joinR_canon {l : List RR} (hg : ∀ r ∈ l, badR r = false) (hp : l.Pairwise fun a b => a.f0 ≤ b.f0) : canonR (joinR l) = true := by
  suffices ∀ (l o : List RR), (∀ r ∈ l, badR r = false) → l.Pairwise (fun a b => a.f0 ≤ b.f0) → canonR o = true → (∀ z, o.getLast? = some z → ∀ r ∈ l, z.f0 ≤ r.f0) → canonR (l.foldl stepR o) = true from
    this l [] hg hp (by simp [canonR, pairAny]) (by simp)
  intro l
  induction l with
  | nil => intro o _ _ h _; exact h
  | cons x l ih =>
    intro o h1 h2 h3 h4
    rw [List.pairwise_cons] at h2
    refine ih _ (fun r hr => h1 r (List.mem_cons_of_mem _ hr)) h2.2 (stepR_canon h3 (h1 x List.mem_cons_self) (fun z hz => h4 z hz x List.mem_cons_self)) (fun z hz r hr => ?_)
    have h5 := stepR_last o x (fun z hz => h4 z hz x List.mem_cons_self) z hz
    have h6 := h2.1 r hr
    omega
theorem canon_step {l : List RR} {x : RR} (h : canonR (l ++ [x]) = true) : stepR l x = l ++ [x] ∧ canonR l = true := by
  simp only [canonR, Bool.and_eq_true, Bool.not_eq_true'] at h ⊢
  rcases List.eq_nil_or_concat l with rfl | ⟨l0, z, rfl⟩
  · simp [stepR, pairAny]
  · rw [List.concat_eq_append] at *
    have h2 := h.2
    rw [pairAny_snoc, Bool.or_eq_false_iff] at h2
    have h1 := h.1
    rw [List.any_append, Bool.or_eq_false_iff] at h1
    have h3 : ¬ x.f0 ≤ z.f1 + 1 := by simpa [nearR] using h2.2
    exact ⟨by simp [stepR, h3], h1.1, h2.1⟩
theorem joinR_id : ∀ (n : Nat) (l : List RR), l.length = n → canonR l = true → joinR l = l := by
  intro n
  induction n with
  | zero => intro l hl _; rw [List.eq_nil_of_length_eq_zero hl]; rfl
  | succ n ih =>
    intro l hl h
    rcases List.eq_nil_or_concat l with rfl | ⟨l0, z, rfl⟩
    · rfl
    · rw [List.concat_eq_append] at *
      obtain ⟨h1, h2⟩ := canon_step h
      rw [joinR_snoc, ih l0 (by simpa using hl) h2, h1]
theorem canon_gath {l : List RR} (h : canonR l = true) : gathR l = l := by
  simp only [canonR, Bool.and_eq_true, Bool.not_eq_true'] at h
  have h1 := h.1
  clear h
  induction l with
  | nil => rfl
  | cons x l ih =>
    rw [List.any_cons, Bool.or_eq_false_iff] at h1
    have hb : 0 ≤ x.f0 ∧ x.f0 ≤ x.f1 ∧ x.f1 ≤ 1114111 := by have := h1.1; simp [badR] at this; omega
    have e : clampR x = x := by
      unfold clampR
      rw [mx_max, mn_min, show max x.f0 0 = x.f0 by omega, show min x.f1 1114111 = x.f1 by omega]
    have ih' := ih h1.2
    simp only [gathR, List.map_cons, e] at ih' ⊢
    rw [List.filter_cons_of_pos (by simp [goodR]; omega), ih']
theorem canon_strict {l : List RR} (h : canonR l = true) : l.Pairwise fun a b => a.f0 < b.f0 := by
  simp only [canonR, Bool.and_eq_true, Bool.not_eq_true'] at h
  obtain ⟨h1, h2⟩ := h
  induction l with
  | nil => exact .nil
  | cons x l ih =>
    rw [List.any_cons, Bool.or_eq_false_iff] at h1
    rw [pairAny_cons, Bool.or_eq_false_iff] at h2
    have ih' := ih h1.2 h2.2
    refine List.pairwise_cons.2 ⟨fun y hy => ?_, ih'⟩
    cases l with
    | nil => cases hy
    | cons z l =>
      have h3 : ¬ z.f0 ≤ x.f1 + 1 := by simpa [nearR] using h2.1
      have h4 : x.f0 ≤ x.f1 := by have := h1.1; simp [badR] at this; omega
      have h5 : z.f0 ≤ y.f0 := by
        rcases List.mem_cons.1 hy with rfl | hy'
        · omega
        · have := (List.pairwise_cons.1 ih').1 y hy'; omega
      omega
theorem strict_perm {l l' : List RR} (h : l.Pairwise fun a b => a.f0 < b.f0) (hp : l'.Perm l) (hs : l'.Pairwise fun a b => a.f0 ≤ b.f0) : l' = l := by
  induction l generalizing l' with
  | nil => exact hp.eq_nil
  | cons x l ih =>
    cases l' with
    | nil => exact (hp.symm.eq_nil).symm ▸ rfl
    | cons y l' =>
      rw [List.pairwise_cons] at h hs
      have hxy : y = x := by
        have h1 : y ∈ x :: l := hp.mem_iff.1 List.mem_cons_self
        have h2 : x ∈ y :: l' := hp.mem_iff.2 List.mem_cons_self
        rcases List.mem_cons.1 h1 with h1 | h1
        · exact h1
        · rcases List.mem_cons.1 h2 with h2 | h2
          · exact h2.symm
          · have h3 := h.1 y h1
            have h4 := hs.1 x h2
            omega
      subst hxy
      rw [ih h.2 (List.Perm.cons_inv hp) hs.2]
/-- What Make makes is the set itself exactly if the set is as Make would have it. -/
theorem made_iff {xs out : List RR} (h : MadeR xs out) : decide (out = xs) = canonR xs := by
  obtain ⟨l', hp, hs, rfl⟩ := h
  rw [Bool.eq_iff_iff, decide_eq_true_eq]
  constructor
  · intro e
    rw [← e]
    exact joinR_canon (fun r hr => goodR_bad (hp.mem_iff.1 hr)) hs
  · intro hc
    rw [canon_gath hc] at hp
    rw [strict_perm (canon_strict hc) hp hs]
    exact joinR_id _ xs rfl hc
end Go.Proofs.YtipedgkampafjaaDoor.Rf
/- When replacing ends for all, and that lengths exist. -/
namespace Go.Proofs.YtipedgkampafjaaDoor.Rf
open Go.Shelf Go.RowKit Go.Proofs.YtipedgkampafjaaDoorW.PrintWords Go.Proofs.YtipedgkampafjaaDoorW.PrintLast Go.Proofs.YtipedgkampafjaaDoorW.PrintMore

variable {dm : List S43} {cp : Bool}
/-- Replacing ends for all code points that have a mapping. -/
def AllEnds (dm : List S43) : Prop := ∀ c m, lastM dm c = some m → Ends dm true c
theorem edge_false {x c : Int} (h : Edge dm false x c) : Edge dm true x c := by
  obtain ⟨tl, h1, h2⟩ := h
  refine ⟨tl, ?_, h2⟩
  unfold onceS at h1 ⊢
  split
  · rename_i hk4
    rw [if_pos hk4] at h1
    cases hl : lastM dm c with
    | none => rw [hl] at h1; cases h1
    | some m =>
      rw [hl] at h1
      simp only at h1 ⊢
      split at h1
      · cases h1
      · rw [if_neg (by simp)]; exact h1
  · rename_i hk4
    rwa [if_neg hk4] at h1
theorem ends_false {c : Int} (h : Ends dm true c) : Ends dm false c := by
  unfold Ends at h ⊢
  induction h with
  | intro c _ ih => exact Acc.intro c fun y hy => ih y (edge_false hy)
theorem hk_parts {c x : Int} (h : ¬ hk c < 4) (hx : x ∈ hdec c) : hk x < 4 ∧ hk x ≠ 0 := by
  have hs := hk_syl h
  unfold hdec at hx
  rw [if_neg h] at hx
  have a0 : 4352 ≤ hp0 c ∧ hp0 c < 4371 := by unfold hp0; omega
  have a1 : 4449 ≤ hp1 c ∧ hp1 c < 4470 := by unfold hp1; omega
  have k0 : ∀ y, 4352 ≤ y ∧ y < 4371 → hk y = 1 := fun y hy => by unfold hk; rw [if_neg (by omega), if_pos hy]
  have k1 : ∀ y, 4449 ≤ y ∧ y < 4470 → hk y = 2 := fun y hy => by unfold hk; rw [if_neg (by omega), if_neg (by omega), if_pos hy]
  have k2 : ∀ y, 4520 ≤ y ∧ y < 4547 → hk y = 3 := fun y hy => by unfold hk; rw [if_neg (by omega), if_neg (by omega), if_neg (by omega), if_pos hy]
  split at hx <;> simp only [List.mem_cons, List.not_mem_nil, or_false] at hx
  · rcases hx with rfl | rfl
    · rw [k0 _ a0]; decide
    · rw [k1 _ a1]; decide
  · rename_i hne
    have a2 : 4520 ≤ hp2 c ∧ hp2 c < 4547 := by unfold hp2; rw [if_neg hne]; omega
    rcases hx with rfl | rfl | rfl
    · rw [k0 _ a0]; decide
    · rw [k1 _ a1]; decide
    · rw [k2 _ a2]; decide
theorem once_none {c : Int} (h4 : hk c < 4) (h : ∀ m, lastM dm c ≠ some m) : onceS dm cp c = none := by
  unfold onceS
  rw [if_pos h4]
  cases hl : lastM dm c with
  | none => rfl
  | some m => exact absurd hl (h m)
/-- If no mapping is of a part or of a syllable and replacing ends for all that have one, then for all. -/
theorem ends_all (hkd : ∀ m ∈ dm, hk m.f0 = 0) (h : AllEnds dm) (c : Int) : Ends dm true c := by
  by_cases h4 : hk c < 4
  · cases hl : lastM dm c with
    | some m => exact h c m hl
    | none => exact Acc.intro c fun y ⟨tl, h1, _⟩ => by rw [once_none h4 (by rw [hl]; intro m hm; cases hm)] at h1; cases h1
  · refine Acc.intro c fun y ⟨tl, h1, h2⟩ => ?_
    unfold onceS at h1
    rw [if_neg h4] at h1
    cases h1
    obtain ⟨h5, h6⟩ := hk_parts h4 h2
    refine Acc.intro y fun z ⟨tl, h7, _⟩ => ?_
    rw [once_none h5 (fun m hm => h6 (by obtain ⟨h8, h9⟩ := lastM_mem hm; rw [← h9]; exact hkd m h8))] at h7
    cases h7

/-! ### lengths -/
/-- One step. -/
def stepL (dm : List S43) (cp : Bool) (c : Int) (ih : ∀ y, Edge dm cp y c → Int) : Int :=
  match h : onceS dm cp c with
  | none => 1
  | some tl => max (sat (tl.attach.map fun x => ih x.1 ⟨tl, h, x.2⟩)) 1
theorem stepL_none {c : Int} {ih : ∀ y, Edge dm cp y c → Int} (h : onceS dm cp c = none) : stepL dm cp c ih = 1 := by
  unfold stepL
  split
  · rfl
  · rename_i tl h'; rw [h] at h'; cases h'
theorem stepL_some {c : Int} {tl : List Int} {F : Int → Int} (h : onceS dm cp c = some tl) : stepL dm cp c (fun y _ => F y) = max (sat (tl.map F)) 1 := by
  unfold stepL
  split
  · rename_i h'; rw [h] at h'; cases h'
  · rename_i tl' h'
    rw [h] at h'
    cases h'
    congr 2
    exact List.attach_map_val
/-- How many elements a full decomposition has, at most 65. -/
noncomputable def lenW (hwf : ∀ c, Ends dm cp c) : Int → Int := (WellFounded.intro hwf).fix (C := fun _ => Int) (stepL dm cp)
theorem lenW_eq (hwf : ∀ c, Ends dm cp c) (c : Int) : lenW hwf c = stepL dm cp c (fun y _ => lenW hwf y) := WellFounded.fix_eq _ _ _
theorem lenW_none (hwf : ∀ c, Ends dm cp c) {c : Int} (h : onceS dm cp c = none) : lenW hwf c = 1 := by rw [lenW_eq, stepL_none h]
theorem lenW_some (hwf : ∀ c, Ends dm cp c) {c : Int} {tl : List Int} (h : onceS dm cp c = some tl) : lenW hwf c = max (sat (tl.map (lenW hwf))) 1 := by rw [lenW_eq, stepL_some h]
theorem len_exists (hwf : ∀ c, Ends dm cp c) : IsLen dm cp (lenW hwf) := by
  refine ⟨fun c h => lenW_none hwf h, fun c tl h => lenW_some hwf h, fun c => ?_⟩
  have ha := hwf c
  unfold Ends at ha
  induction ha with
  | intro c _ ih =>
    cases h : onceS dm cp c with
    | none => rw [lenW_none hwf h]; omega
    | some tl =>
      have hs := sat_range (tl.map (lenW hwf)) (fun v hv => by
        obtain ⟨x, hx, rfl⟩ := List.mem_map.1 hv
        have := ih x ⟨tl, h, hx⟩; omega)
      rw [lenW_some hwf h]
      omega
theorem len_unique (hwf : ∀ c, Ends dm cp c) {L L' : Int → Int} (h : IsLen dm cp L) (h' : IsLen dm cp L') (c : Int) : L c = L' c := by
  have ha := hwf c
  unfold Ends at ha
  induction ha with
  | intro c _ ih =>
    cases ho : onceS dm cp c with
    | none => rw [h.1 c ho, h'.1 c ho]
    | some tl =>
      rw [h.2.1 c tl ho, h'.2.1 c tl ho, List.map_congr_left fun x hx => ih x ⟨tl, ho, hx⟩]
end Go.Proofs.YtipedgkampafjaaDoor.Rf
/- Tells what decompose.Check computes. -/
namespace Go.Proofs.YtipedgkampafjaaDoor.Rf
open Go.Shelf Go.RowKit Go.Proofs.YtipedgkampafjaaDoorW.PrintWords Go.Proofs.YtipedgkampafjaaDoorW.PrintLast Go.Proofs.YtipedgkampafjaaDoorW.PrintMore

/-- Some full decomposition has too many elements. -/
def TooLong (dm : List S43) (cp : Bool) : Prop := ∃ L, IsLen dm cp L ∧ ∃ c m, lastM dm c = some m ∧ 64 < L c
open Classical in
/-- The first error of data. -/
noncomputable def decChk (cl : List S71) (dm : List S43) (ex : List RR) : Int :=
  if ordChk cl ≠ 0 then ordChk cl else if mapChkO dm ≠ 0 then mapChkO dm else if canonR ex = false then 11 else if kindsE cl dm ≠ 0 then kindsE cl dm
  else if ¬ AllEnds dm then 12 else if TooLong dm true ∨ TooLong dm false then 13 else 0

theorem mapChkO_ok {dm : List S43} (h : mapChkO dm = 0) : ∀ m ∈ dm, badCodes m = false := by
  have h1 : mapChk dm = 0 := by
    unfold mapChkO at h
    split at h
    · rename_i h2; exact h2
    · exact h
  unfold mapChk at h1
  cases hb : dm.any badCodes with
  | true => rw [hb] at h1; simp at h1
  | false => exact not_any _ _ hb
theorem kindsE_ok {cl : List S71} {dm : List S43} (h : kindsE cl dm = 0) : ∀ m ∈ dm, hk m.f0 = 0 := by
  intro m hm
  unfold kindsE at h
  cases h1 : pairAny sameFrom dm with
  | true => rw [h1] at h; simp at h
  | false =>
    cases h2 : dm.any badKind with
    | true => rw [h1, h2] at h; simp at h
    | false =>
      cases h3 : dm.any (badData cl) with
      | true => rw [h1, h2, h3] at h; simp at h
      | false =>
        have h4 := not_any _ _ h3 m hm
        simp only [badData, Bool.or_eq_false_iff] at h4
        simpa using h4.1
theorem not_long {dm : List S43} {cp : Bool} (hwf : ∀ c, Ends dm cp c) {L : Int → Int} (hL : IsLen dm cp L) (h : ∀ c m, lastM dm c = some m → L c ≤ 64) : ¬ TooLong dm cp := by
  rintro ⟨L', hL', c, m, h1, h2⟩
  have h3 := h c m h1
  rw [len_unique hwf hL hL' c] at h3
  omega
theorem mapChkO_cases (dm : List S43) : mapChkO dm = 0 ∨ mapChkO dm = 1 ∨ mapChkO dm = 2 ∨ mapChkO dm = 6 ∨ mapChkO dm = 5 ∨ mapChkO dm = 4 := by
  have h := mapChk_cases dm
  unfold mapChkO
  split
  · split <;> simp
  · omega
theorem kindsE_cases (cl : List S71) (dm : List S43) : kindsE cl dm = 0 ∨ kindsE cl dm = 5 ∨ kindsE cl dm = 8 ∨ kindsE cl dm = 11 := by
  unfold kindsE; repeat' split
  all_goals simp
theorem ordChk_cases (cl : List S71) : ordChk cl = 0 ∨ ordChk cl = 1 ∨ ordChk cl = 4 ∨ ordChk cl = 11 := by
  unfold ordChk; repeat' split
  all_goals simp

open Classical in
set_option maxRecDepth 100000 in
set_option maxHeartbeats 16000000 in
theorem decCheck_any (Ac Ad Ax : Option Addr) (cc cd cx : Nat) (cl : List S71) (dm : List S43) (ex : List RR) (w : World) (hG : GL w)
    (hrc : Kd.C k71 w Ac cl.length cl) (hcc : cl.length ≤ cc) (hlc : cl.length ≤ 1000000)
    (hrd : Kd.C k43 w Ad dm.length dm) (hcd : dm.length ≤ cd) (hld : dm.length ≤ 1000000)
    (hrx : Kd.C k67 w Ax ex.length ex) (hcx : ex.length ≤ cx) (hlx : ex.length ≤ 1000000) :
    Calls Tryd.prog 15 #[.agg #[.slice Ac cl.length cc, .slice Ad dm.length cd, .slice Ax ex.length cx]] w fun e w' => e = .returned (.int .i64 (decChk cl dm ex)) ∧ Below w.heap.size w w' := by
  have HE : Aside0 (decChk cl dm ex = if ordChk cl ≠ 0 then ordChk cl else if mapChkO dm ≠ 0 then mapChkO dm else if canonR ex = false then 11 else if kindsE cl dm ≠ 0 then kindsE cl dm
    else if ¬ AllEnds dm then 12 else if TooLong dm true ∨ TooLong dm false then 13 else 0) := ⟨by unfold decChk; rfl⟩
  have HB0 : Aside0 (Below w.heap.size w (w.alloc (.cells #[.slice Ac cl.length cc, .slice Ad dm.length cd, .slice Ax ex.length cx] 28))) := ⟨below_alloc (Below.refl _ _) _⟩
  have hx0 : (w.alloc (.cells #[.slice Ac cl.length cc, .slice Ad dm.length cd, .slice Ax ex.length cx] 28)).cell? ⟨w.heap.size, 0, none⟩ = some (.slice Ac cl.length cc) := by simp
  have hx1 : (w.alloc (.cells #[.slice Ac cl.length cc, .slice Ad dm.length cd, .slice Ax ex.length cx] 28)).cell? ⟨w.heap.size, 1, none⟩ = some (.slice Ad dm.length cd) := by simp
  have hx2 : (w.alloc (.cells #[.slice Ac cl.length cc, .slice Ad dm.length cd, .slice Ax ex.length cx] 28)).cell? ⟨w.heap.size, 2, none⟩ = some (.slice Ax ex.length cx) := by simp
  have H1 : Aside0 (∀ W, Below w.heap.size w W → Calls Tryd.prog 23 #[.slice Ac cl.length cc] W fun e w' => e = .returned (.int .i64 (ordChk cl)) ∧ Below W.heap.size W w') :=
    ⟨fun W hW => ordCheck_any Ac cc cl W (GL.below hG hW) (Kd.C_below hrc hW) hcc (by omega)⟩
  have H2 : Aside0 (∀ W, Below w.heap.size w W → Calls Tryd.prog 24 #[.slice Ad dm.length cd] W fun e w' => e = .returned (.int .i64 (mapChkO dm)) ∧ Below W.heap.size W w') :=
    ⟨fun W hW => mapCheck_any Ad cd dm W (Kd.C_below hrd hW) hcd (by omega)⟩
  have H3 : Aside0 (∀ W, Below w.heap.size w W → Calls Tryd.prog 25 #[.agg #[.slice Ax ex.length cx]] W fun e w' => e = .returned (.bool (canonR ex)) ∧ Below W.heap.size W w') :=
    ⟨fun W hW => (cpValidR_any Ax cx ex W (Kd.C_below hrx hW) hcx hlx).mono fun e w' ⟨⟨out, hm, he⟩, hb⟩ => ⟨by rw [he, made_iff hm], hb⟩⟩
  have H4 : Aside0 (∀ W, Below w.heap.size w W → Calls Tryd.prog 26 #[.agg #[.slice Ac cl.length cc, .slice Ad dm.length cd, .slice Ax ex.length cx]] W fun e w' => e = .returned (.int .i64 (kindsE cl dm)) ∧ Below W.heap.size W w') :=
    ⟨fun W hW => kinds_any Ac Ad Ax cc cd ex.length cx cl dm W (GL.below hG hW) (Kd.C_below hrc hW) hcc (by omega) (Kd.C_below hrd hW) hcd (by omega)⟩
  have HRD := Aside0.mk hrd
  have HLD := Aside0.mk hld
  clear hrc hrd hrx hG hcc hcd hcx hlc hld hlx
  have hoc := ordChk_cases cl
  by_cases ho : ordChk cl = 0
  · clear hoc
    rw [ho] at H1 HE
    have hmc := mapChkO_cases dm
    by_cases hm : mapChkO dm = 0
    · clear hmc
      have HV := Aside0.mk (mapChkO_ok hm)
      rw [hm] at H2 HE
      have HVR : Aside0 (∀ m ∈ dm, -9223372036854775808 ≤ m.f0 ∧ m.f0 ≤ 9223372036854775807) := ⟨fun m hm => by
        have := HV.out m hm
        simp only [badCodes, Bool.or_eq_false_iff, Bool.not_eq_false'] at this
        exact valid_range this.1⟩
      cases hc : canonR ex with
      | false =>
        have HE2 : Aside0 (decChk cl dm ex = 11) := ⟨by rw [HE.out]; simp [hc]⟩
        rw [HE2.out]
        rw [hc] at H3
        clear HE HE2 H4 hc
        go_enter Tryd.func15, Tryd.ntmps15
        go_wp2_with fail
        refine (H1.out _ HB0.out).mono ?_
        rintro e w1 ⟨rfl, hb1⟩
        have k1 : w1.cell? ⟨w.heap.size, 1, none⟩ = some (.slice Ad dm.length cd) := by rw [hb1.cell (cell_lt hx1)]; exact hx1
        have HB1 := Aside0.mk (below_step HB0.out hb1)
        have HC1 := Aside0.mk hb1
        clear hb1
        go_wp2_with fail
        refine (H2.out _ HB1.out).mono ?_
        rintro e w2 ⟨rfl, hb2⟩
        have HB2 := Aside0.mk (below_step HB1.out hb2)
        have HC2 := Aside0.mk (below_step HC1.out hb2)
        have k2 : w2.cell? ⟨w.heap.size, 2, none⟩ = some (.slice Ax ex.length cx) := by rw [HC2.out.cell (cell_lt hx2)]; exact hx2
        clear hb2
        go_wp2_with fail
        refine (H3.out _ HB2.out).mono ?_
        rintro e w3 ⟨rfl, hb3⟩
        go_wp2_with fail
        go_ret
        exact ⟨rfl, below_step HB2.out hb3⟩
      | true =>
        rw [hc] at H3 HE
        have hkc := kindsE_cases cl dm
        by_cases hk : kindsE cl dm = 0
        · clear hkc
          have HKD := Aside0.mk (kindsE_ok hk)
          rw [hk] at H4 HE
          clear hc hk
          have HEE : Aside0 (decChk cl dm ex = if ¬ AllEnds dm then 12 else if TooLong dm true ∨ TooLong dm false then 13 else 0) := ⟨by rw [HE.out]; simp⟩
          clear HE
          generalize decChk cl dm ex = r at HEE
          go_enter Tryd.func15, Tryd.ntmps15
          go_wp2_with fail
          refine (H1.out _ HB0.out).mono ?_
          rintro e w1 ⟨rfl, hb1⟩
          have k1 : w1.cell? ⟨w.heap.size, 1, none⟩ = some (.slice Ad dm.length cd) := by rw [hb1.cell (cell_lt hx1)]; exact hx1
          have HB1 := Aside0.mk (below_step HB0.out hb1)
          have HC1 := Aside0.mk hb1
          clear hb1
          go_wp2_with fail
          refine (H2.out _ HB1.out).mono ?_
          rintro e w2 ⟨rfl, hb2⟩
          have HB2 := Aside0.mk (below_step HB1.out hb2)
          have HC2 := Aside0.mk (below_step HC1.out hb2)
          have k2 : w2.cell? ⟨w.heap.size, 2, none⟩ = some (.slice Ax ex.length cx) := by rw [HC2.out.cell (cell_lt hx2)]; exact hx2
          clear hb2
          go_wp2_with fail
          refine (H3.out _ HB2.out).mono ?_
          rintro e w3 ⟨rfl, hb3⟩
          have HB3 := Aside0.mk (below_step HB2.out hb3)
          have HC3 := Aside0.mk (below_step HC2.out hb3)
          have j0 : w3.cell? ⟨w.heap.size, 0, none⟩ = some (.slice Ac cl.length cc) := by rw [HC3.out.cell (cell_lt hx0)]; exact hx0
          have j1 : w3.cell? ⟨w.heap.size, 1, none⟩ = some (.slice Ad dm.length cd) := by rw [HC3.out.cell (cell_lt hx1)]; exact hx1
          have j2 : w3.cell? ⟨w.heap.size, 2, none⟩ = some (.slice Ax ex.length cx) := by rw [HC3.out.cell (cell_lt hx2)]; exact hx2
          clear hb3
          go_wp2_with fail
          refine (H4.out _ HB3.out).mono ?_
          rintro e w4 ⟨rfl, hb4⟩
          have HB4 := Aside0.mk (below_step HB3.out hb4)
          have HC4 := Aside0.mk (below_step HC3.out hb4)
          clear hb4
          have l1 : w4.cell? ⟨w.heap.size, 1, none⟩ = some (.slice Ad dm.length cd) := by rw [HC4.out.cell (cell_lt hx1)]; exact hx1
          go_wp2_with fail
          refine (load_any Ad cd dm true w4 (Kd.C_below HRD.out HB4.out) (by have := HLD.out; omega) HVR.out).mono ?_
          rintro e w5 ⟨rfl, hd5, _⟩
          have HD5 := Aside0.mk hd5
          clear hd5
          go_wp2_with fail
          refine (cyclic_any HV.out (by have := HLD.out; omega) HD5.out).mono ?_
          rintro e w6 ⟨b, rfl, hbt, hbf, hb6⟩
          cases b with
          | true =>
            have HN : Aside0 (¬ AllEnds dm) := ⟨fun h => by obtain ⟨c, m, h1, h2⟩ := hbt rfl; exact h2 (h c m h1)⟩
            have HB6 := Aside0.mk (below_step (below_step HB4.out HD5.out.below) hb6)
            clear hbt hbf hb6
            go_wp2_with fail
            go_ret
            exact ⟨ret_int (by rw [HEE.out, if_pos HN.out]), HB6.out⟩
          | false =>
            have HAE := Aside0.mk (hbf rfl)
            have HWT : Aside0 (∀ c, Ends dm true c) := ⟨ends_all HKD.out HAE.out⟩
            have HWF : Aside0 (∀ c, Ends dm false c) := ⟨fun c => ends_false (HWT.out c)⟩
            have HD6 := Aside0.mk (HD5.out.mono hb6)
            have HB6 := Aside0.mk (below_step (below_step HB4.out HD5.out.below) hb6)
            have HC6 := Aside0.mk (below_step (below_step HC4.out HD5.out.below) hb6)
            have n1 : w6.cell? ⟨w.heap.size, 1, none⟩ = some (.slice Ad dm.length cd) := by rw [HC6.out.cell (cell_lt hx1)]; exact hx1
            clear hbt hbf hb6
            go_wp2_with fail
            refine (long_any (len_exists HWT.out) (fun c _ _ => HWT.out c) HV.out (by have := HLD.out; omega) HD6.out).mono ?_
            rintro e w7 ⟨b, rfl, hbt, hbf, hb7⟩
            cases b with
            | true =>
              have HT : Aside0 (TooLong dm true) := ⟨⟨_, len_exists HWT.out, hbt rfl⟩⟩
              have HB7 := Aside0.mk (below_step HB6.out hb7)
              clear hbt hbf hb7
              go_wp2_with fail
              go_ret
              exact ⟨ret_int (by rw [HEE.out, if_neg (fun h => h HAE.out), if_pos (Or.inl HT.out)]), HB7.out⟩
            | false =>
              have HNT := Aside0.mk (not_long HWT.out (len_exists HWT.out) (hbf rfl))
              have HB7 := Aside0.mk (below_step HB6.out hb7)
              have HC7 := Aside0.mk (below_step HC6.out hb7)
              have o1 : w7.cell? ⟨w.heap.size, 1, none⟩ = some (.slice Ad dm.length cd) := by rw [HC7.out.cell (cell_lt hx1)]; exact hx1
              clear hbt hbf hb7
              go_wp2_with fail
              refine (load_any Ad cd dm false w7 (Kd.C_below HRD.out HB7.out) (by have := HLD.out; omega) HVR.out).mono ?_
              rintro e w8 ⟨rfl, hd8, _⟩
              have HD8 := Aside0.mk hd8
              clear hd8
              go_wp2_with fail
              refine (long_any (len_exists HWF.out) (fun c _ _ => HWF.out c) HV.out (by have := HLD.out; omega) HD8.out).mono ?_
              rintro e w9 ⟨b, rfl, hbt, hbf, hb9⟩
              have HB9 := Aside0.mk (below_step (below_step HB7.out HD8.out.below) hb9)
              cases b with
              | true =>
                have HT : Aside0 (TooLong dm false) := ⟨⟨_, len_exists HWF.out, hbt rfl⟩⟩
                clear hbt hbf hb9
                go_wp2_with fail
                go_ret
                exact ⟨ret_int (by rw [HEE.out, if_neg (fun h => h HAE.out), if_pos (Or.inr HT.out)]), HB9.out⟩
              | false =>
                have HNF := Aside0.mk (not_long HWF.out (len_exists HWF.out) (hbf rfl))
                clear hbt hbf hb9
                go_wp2_with fail
                go_ret
                exact ⟨ret_int (by rw [HEE.out, if_neg (fun h => h HAE.out), if_neg (fun h => h.elim HNT.out HNF.out)]), HB9.out⟩
        · have HE2 : Aside0 (decChk cl dm ex = kindsE cl dm) := ⟨by rw [HE.out]; simp [hk]⟩
          generalize kindsE cl dm = v at H4 HE2 hkc hk
          rw [HE2.out]
          clear HE HE2 hc
          go_enter Tryd.func15, Tryd.ntmps15
          go_wp2_with fail
          refine (H1.out _ HB0.out).mono ?_
          rintro e w1 ⟨rfl, hb1⟩
          have k1 : w1.cell? ⟨w.heap.size, 1, none⟩ = some (.slice Ad dm.length cd) := by rw [hb1.cell (cell_lt hx1)]; exact hx1
          have HB1 := Aside0.mk (below_step HB0.out hb1)
          have HC1 := Aside0.mk hb1
          clear hb1
          go_wp2_with fail
          refine (H2.out _ HB1.out).mono ?_
          rintro e w2 ⟨rfl, hb2⟩
          have HB2 := Aside0.mk (below_step HB1.out hb2)
          have HC2 := Aside0.mk (below_step HC1.out hb2)
          have k2 : w2.cell? ⟨w.heap.size, 2, none⟩ = some (.slice Ax ex.length cx) := by rw [HC2.out.cell (cell_lt hx2)]; exact hx2
          clear hb2
          go_wp2_with fail
          refine (H3.out _ HB2.out).mono ?_
          rintro e w3 ⟨rfl, hb3⟩
          have HB3 := Aside0.mk (below_step HB2.out hb3)
          have HC3 := Aside0.mk (below_step HC2.out hb3)
          have j0 : w3.cell? ⟨w.heap.size, 0, none⟩ = some (.slice Ac cl.length cc) := by rw [HC3.out.cell (cell_lt hx0)]; exact hx0
          have j1 : w3.cell? ⟨w.heap.size, 1, none⟩ = some (.slice Ad dm.length cd) := by rw [HC3.out.cell (cell_lt hx1)]; exact hx1
          have j2 : w3.cell? ⟨w.heap.size, 2, none⟩ = some (.slice Ax ex.length cx) := by rw [HC3.out.cell (cell_lt hx2)]; exact hx2
          clear hb3
          go_wp2_with fail
          refine (H4.out _ HB3.out).mono ?_
          rintro e w4 ⟨rfl, hb4⟩
          have HB4 := Aside0.mk (below_step HB3.out hb4)
          have HC4 := Aside0.mk (below_step HC3.out hb4)
          clear hb4
          rcases hkc with h | h | h | h
          · exact absurd h hk
          all_goals
            subst h
            go_wp2_with fail
            go_ret
            exact ⟨rfl, HB4.out⟩
    · have HE2 : Aside0 (decChk cl dm ex = mapChkO dm) := ⟨by rw [HE.out]; simp [hm]⟩
      generalize mapChkO dm = v at H2 HE2 hmc hm
      rw [HE2.out]
      clear HE HE2 H3 H4
      go_enter Tryd.func15, Tryd.ntmps15
      go_wp2_with fail
      refine (H1.out _ HB0.out).mono ?_
      rintro e w1 ⟨rfl, hb1⟩
      have k1 : w1.cell? ⟨w.heap.size, 1, none⟩ = some (.slice Ad dm.length cd) := by rw [hb1.cell (cell_lt hx1)]; exact hx1
      have HB1 := Aside0.mk (below_step HB0.out hb1)
      clear hb1
      go_wp2_with fail
      refine (H2.out _ HB1.out).mono ?_
      rintro e w2 ⟨rfl, hb2⟩
      have HB2 := Aside0.mk (below_step HB1.out hb2)
      clear hb2
      rcases hmc with h | h | h | h | h | h
      · exact absurd h hm
      all_goals
        subst h
        go_wp2_with fail
        go_ret
        exact ⟨rfl, HB2.out⟩
  · have HE2 : Aside0 (decChk cl dm ex = ordChk cl) := ⟨by rw [HE.out]; simp [ho]⟩
    generalize ordChk cl = v at H1 HE2 hoc ho
    rw [HE2.out]
    clear HE HE2 H2 H3 H4
    go_enter Tryd.func15, Tryd.ntmps15
    go_wp2_with fail
    refine (H1.out _ HB0.out).mono ?_
    rintro e w1 ⟨rfl, hb1⟩
    have HB1 := Aside0.mk (below_step HB0.out hb1)
    clear hb1
    rcases hoc with h | h | h | h
    · exact absurd h ho
    all_goals
      subst h
      go_wp2_with fail
      go_ret
      exact ⟨rfl, HB1.out⟩
end Go.Proofs.YtipedgkampafjaaDoor.Rf
/- Tells what full finds. -/
namespace Go.Proofs.YtipedgkampafjaaDoor.Rf
open Go.Shelf Go.RowKit Go.Proofs.YtipedgkampafjaaDoorW.PrintWords Go.Proofs.YtipedgkampafjaaDoorW.PrintLast Go.Proofs.YtipedgkampafjaaDoorW.PrintMore

/-- F tells the full decompositions. -/
def IsFull (dm : List S43) (cp : Bool) (F : Int → List Int) : Prop :=
  (∀ c, onceS dm cp c = none → F c = [c]) ∧ (∀ c tl, onceS dm cp c = some tl → F c = tl.flatMap F) ∧ ∀ c, (F c).length ≤ 64
/-- Block b is a map that holds what F tells. -/
def FoundM (W : World) (b n : Nat) (f : Int → Option Value) (F : Int → List Int) : Prop :=
  MapF Tryd.prog 3 encI W b n f ∧ ∀ x v, f x = some v → ∃ A cap, v = .slice A (F x).length cap ∧ (F x).length ≤ cap ∧ Kd.C (Kd.int .i64) W A (F x).length (F x)
def mk01 (f : Int → Option Value) : Int → Int := fun x => if (f x).isSome then 1 else 0
theorem mk01_ne {f : Int → Option Value} {x : Int} : mk01 f x ≠ 0 ↔ (f x).isSome = true := by
  unfold mk01; cases h : (f x).isSome <;> simp
theorem mk01_put (f : Int → Option Value) (c : Int) (v : Value) : mk01 (fun y => if y = c then some v else f y) = upd (mk01 f) c 1 := by
  funext x; unfold mk01 upd; by_cases h : x = c <;> simp [h]
/-- Entries that came since lie in new blocks. -/
def NewB (W : World) (f f' : Int → Option Value) : Prop := ∀ x, f' x = f x ∨ ∃ A n cap, f' x = some (.slice A n cap) ∧ (0 < n → ∀ ad : Addr, A = some ad → W.heap.size ≤ ad.block)
/-- No entry lies in the block of v. -/
def Avoid (f : Int → Option Value) (v : Value) : Prop := ∀ x ad n cap, f x = some (.slice (some ad) n cap) → 0 < n → some ad.block ≠ v.ownBlock
theorem NewB.trans {W W' : World} {f f' f'' : Int → Option Value} (h : NewB W f f') (h' : NewB W' f' f'') (hs : W.heap.size ≤ W'.heap.size) : NewB W f f'' := fun x => by
  rcases h' x with h1 | ⟨A, n, cap, h1, h2⟩
  · rw [h1]; exact h x
  · exact Or.inr ⟨A, n, cap, h1, fun hn ad ha => Nat.le_trans hs (h2 hn ad ha)⟩
theorem C_other {W W' : World} {row : Option Nat} {A : Option Addr} {xs : List Int} (h : Kd.C (Kd.int .i64) W A xs.length xs) (hg : W.grownBy W' row) (hne : 0 < xs.length → ∀ ad : Addr, A = some ad → some ad.block ≠ row) : Kd.C (Kd.int .i64) W' A xs.length xs := by
  have hr : ReadsInt W .i64 A xs.length xs := ReadsInt.of_C h
  refine Kd.C_of_reads (d := (0 : Int)) (h1 := fun _ => rfl) ⟨rfl, hr.2.1, fun hn => ?_⟩
  obtain ⟨ad, e, hc⟩ := hr.2.2 hn
  refine ⟨ad, e, fun j hj => ?_⟩
  have h1 := hc j hj
  have hbk : (ad.add j).block = ad.block := by unfold Addr.add; split <;> rfl
  rw [World.cell?_of_block (w := W) (hg.block _ (cell_lt h1) (by rw [hbk]; exact hne hn ad e))]
  exact h1
/-- The rows of the call's own. -/
abbrev RowI (w : World) (base : Nat) (v : Value) (xs : List Int) : Prop := w.ownsRow base 3 1 v xs.length (nums .i64 xs)
theorem rowI_C {w : World} {base : Nat} {v : Value} {xs : List Int} (h : RowI w base v xs) (hl : xs.length ≤ 9223372036854775807) : ∃ A cap, v = .slice A xs.length cap ∧ xs.length ≤ cap ∧ Kd.C (Kd.int .i64) w A xs.length xs ∧ ∀ ad : Addr, A = some ad → base ≤ ad.block := by
  rcases h.2 with ⟨rfl, h0⟩ | ⟨g, cap, cur, rfl, hb, hg, hn, hm, hs, ht⟩
  · have : xs = [] := List.eq_nil_of_length_eq_zero h0
    subst this
    exact ⟨none, 0, rfl, Nat.le_refl _, Kd.C_nil _ _, fun ad h => by cases h⟩
  · refine ⟨_, _, rfl, hn, C_row hl fun j hj => ?_, fun ad h => by cases h; exact hb⟩
    have e1 : (cur.toList.take (xs.length * 1))[j]? = (nums .i64 xs)[j]? := by rw [ht]
    rw [List.getElem?_take, if_pos (by omega), Array.getElem?_toList] at e1
    simp only [Addr.add_lit, World.cell?, hg, Nat.zero_add, Option.isSome_none, Bool.false_eq_true, if_false]
    rw [e1]
    simp [nums, List.getD_eq_getElem?_getD, List.getElem?_eq_getElem hj]
theorem rowI_own {w : World} {base : Nat} {v : Value} {xs : List Int} (h : RowI w base v xs) (k : Nat) (hk : v.ownBlock = some k) : base ≤ k ∧ k < w.heap.size := by
  rcases h.2 with ⟨rfl, _⟩ | ⟨g, cap, cur, rfl, hb, hg, _⟩
  · cases hk
  · cases hk; exact ⟨hb, (Array.getElem?_eq_some_iff.1 hg).1⟩
theorem FoundM.turned {W W' : World} {b n : Nat} {f : Int → Option Value} {F : Int → List Int} (h : FoundM W b n f F) {v : Value} {row : Option Nat} (hv : v.ownBlock = row) (hg : W.grownBy W' row) (hb : some b ≠ row) (ha : Avoid f v) : FoundM W' b n f F :=
  ⟨h.1.kept hg hb, fun x u hu => by
    obtain ⟨A, cap, rfl, h2, h3⟩ := h.2 x u hu
    exact ⟨A, cap, rfl, h2, C_other h3 hg fun hn ad e => by subst e; rw [← hv]; exact ha x ad _ cap hu hn⟩⟩
theorem FoundM.below {W W' : World} {b n : Nat} {f : Int → Option Value} {F : Int → List Int} (h : FoundM W b n f F) (hb : Below W.heap.size W W') : FoundM W' b n f F :=
  ⟨h.1.below hb h.1.lt, fun x u hu => by
    obtain ⟨A, cap, rfl, h2, h3⟩ := h.2 x u hu
    exact ⟨A, cap, rfl, h2, Kd.C_below h3 hb⟩⟩

theorem zeroInts (w : World) : (zeroValue 31).run Tryd.prog w = .ok (.slice none 0 0) w := by kernel_rfl
set_option maxRecDepth 100000 in
theorem lookF {w : World} {b n : Nat} {f : Int → Option Value} (h : MapF Tryd.prog 3 encI w b n f) (x : Int) (hx : inR x) :
    (Instr.lookup 57 (.map (some b)) (.int .i64 x) true).run Tryd.prog w = .ok (.tuple #[(f x).getD (.slice none 0 0), .bool (f x).isSome]) w :=
  h.lookOk keyed_int Tryd.underlying57 (zeroInts w) (keyI Tryd.underlying3 hx)
set_option maxRecDepth 100000 in
theorem putF {w : World} {b n : Nat} {f : Int → Option Value} (h : MapF Tryd.prog 3 encI w b n f) (x : Int) (v : Value) (hx : inR x) (hn : n < 9223372036854775807) :
    ∃ w', (Instr.mapUpdate 57 (.map (some b)) (.int .i64 x) v).run Tryd.prog w = .ok () w' ∧ MapF Tryd.prog 3 encI w' b (n + 1) (fun y => if y = x then some v else f y) ∧ w.grownBy w' (some b) :=
  h.update keyed_int encI_inj Tryd.underlying57 (by simp [maxLen]; omega) (keyI Tryd.underlying3 hx)

/-- What a call of full leaves. -/
def FullR (dm : List S43) (cp : Bool) (F : Int → List Int) (b N : Nat) (f : Int → Option Value) (c : Int) (W w' : World) : Prop :=
  ∃ n' f', FoundM w' b n' f' F ∧ n' + wh dm (mk01 f') ≤ N ∧ (∀ x, (f x).isSome = true → (f' x).isSome = true) ∧ (∀ x, (f' x).isSome = true → (f x).isSome = true ∨ x = c ∨ Relation.TransGen (Edge dm cp) x c) ∧ NewB W f f' ∧ W.grownBy w' (some b)
theorem take_flat (tl : List Int) (F : Int → List Int) (j : Nat) : ((tl.take j).flatMap F).length ≤ (tl.flatMap F).length := by
  rw [← List.take_append_drop j tl, List.flatMap_append, List.take_append_drop]
  simp
theorem infoI : (Tryd.prog.info? 3).map (fun i => (i.zero, i.size, i.bytes)) = some (some (.int .i64 0), 1, 8) := by kernel_rfl
variable {w0 : World} {p b1 b2 : Nat} {dm : List S43} {cp : Bool} {F : Int → List Int}

set_option maxRecDepth 100000 in
set_option maxHeartbeats 8000000 in
theorem full_any (hv : ∀ m ∈ dm, badCodes m = false) (hF : IsFull dm cp F) (N : Nat) (hNb : N < 9223372036854775807) (c : Int) (hEnds : Ends dm cp c) : ∀ (n : Nat) (f : Int → Option Value) (W : World), DataM w0 W p b1 b2 dm cp → FoundM W b2 n f F → n + wh dm (mk01 f) ≤ N → inR c →
    Calls Tryd.prog 21 #[.pointer (some ⟨p, 0, none⟩), .int .i64 c] W fun e w' => (∃ A cap, e = .returned (.slice A (F c).length cap) ∧ (F c).length ≤ cap ∧ Kd.C (Kd.int .i64) w' A (F c).length (F c)) ∧ FullR dm cp F b2 N f c W w' := by
  induction hEnds with
  | intro c hacc ih =>
    intro n f W hE hM hN hc
    have HIH := Aside0.mk ih
    have HE := Aside0.mk hE
    have HM := Aside0.mk hM
    have HN := Aside0.mk hN
    have HC := Aside0.mk hc
    have HO := Aside0.mk (once_any hE c hc)
    have HNC := Aside0.mk (no_ends (dm := dm) (cp := cp) (c := c))
    have HA := Aside0.mk (Acc.intro c hacc)
    clear ih hE hM hN hc hacc
    cases ho : onceS dm cp c with
    | none =>
      rw [ho] at HO
      have HFc := Aside0.mk (hF.1 c ho)
      rw [HFc.out]
      go_enter Tryd.func21, Tryd.ntmps21
      go_wp2_with fail
      refine HO.out.mono ?_
      rintro e w1 ⟨rfl, hb1⟩
      have HB1 := Aside0.mk hb1
      clear hb1
      go_wp2_with fail
      go_ret
      have hbx : Below W.heap.size W (w1.alloc (.cells #[.int .i64 c] 3)) := below_alloc HB1.out _
      exact ⟨⟨_, _, rfl, Nat.le_refl _, C_one (by simp)⟩, n, f, HM.out.below hbx, HN.out, fun x hx => hx, fun x hx => Or.inl hx, fun x => Or.inl rfl, grown_of_below hbx _⟩
    | some tl =>
      rw [ho] at HO
      cases hfc : f c with
      | some v =>
        obtain ⟨A, cap, hvv, hle, hC⟩ := HM.out.2 c v hfc
        have HLe := Aside0.mk hle
        have HCC := Aside0.mk hC
        subst hvv
        clear hle hC
        go_enter Tryd.func21, Tryd.ntmps21
        go_wp2_with fail
        refine HO.out.mono ?_
        rintro e w1 ⟨⟨A', ca, rfl, hl, hr⟩, hb1⟩
        clear hl hr
        have HB1 := Aside0.mk hb1
        have hk2 := (HE.out.mono hb1).c2
        have hlook := lookF (HM.out.1.below hb1 HM.out.1.lt) c HC.out
        rw [hfc] at hlook
        simp only [Option.getD_some, Option.isSome_some] at hlook
        clear hb1
        go_wp2_with fail
        go_ret
        exact ⟨⟨A, cap, rfl, HLe.out, Kd.C_below HCC.out HB1.out⟩, n, f, HM.out.below HB1.out, HN.out, fun x hx => hx, fun x hx => Or.inl hx, fun x => Or.inl rfl, grown_of_below HB1.out _⟩
      | none =>
        go_enter Tryd.func21, Tryd.ntmps21
        go_wp2_with fail
        refine HO.out.mono ?_
        rintro e w1 ⟨⟨A', ca, rfl, hl, hr⟩, hb1⟩
        have HB1 := Aside0.mk hb1
        have HR1 := Aside0.mk hr
        have HE1 := Aside0.mk (HE.out.mono hb1)
        have HM1 := Aside0.mk (HM.out.below hb1)
        have hk2 := HE1.out.c2
        have hlook := lookF HM1.out.1 c HC.out
        rw [hfc] at hlook
        simp only [Option.getD_none, Option.isSome_none] at hlook
        have hlen : tl.length ≤ 9223372036854775807 := Kd.C_max hr
        clear hl hr hb1
        go_wp2_with fail
        have HFc := Aside0.mk (hF.2.1 c tl ho)
        have HEd : Aside0 (∀ x ∈ tl, Edge dm cp x c) := ⟨fun x hx => ⟨tl, ho, hx⟩⟩
        have hs1 : W.heap.size ≤ w1.heap.size := HB1.out.size
        go_loopw [9, 35] (fun v v2 wr => ∃ j : Nat, v2 = .int .i64 (j : Int) ∧ j ≤ tl.length ∧ Aside0 (RowI wr w1.heap.size v ((tl.take j).flatMap F)) ∧ Aside0 (∃ n' f', FoundM wr b2 n' f' F ∧ n' + wh dm (mk01 f') ≤ N ∧ (∀ x, (f x).isSome = true → (f' x).isSome = true) ∧ (∀ x, (f' x).isSome = true → (f x).isSome = true ∨ Relation.TransGen (Edge dm cp) x c) ∧ NewB W f f' ∧ Avoid f' v) ∧ Aside0 (w1.grownBy wr (some b2))) (fun _ v2 _ => tl.length - (intOf v2).toNat)
        case atStart =>
          refine ⟨0, rfl, by omega, ⟨World.ownsRow_nil _ _ _ _⟩, ⟨n, f, HM1.out, HN.out, fun x hx => hx, fun x hx => Or.inl hx, fun x => Or.inl rfl, fun x ad m cap hx hm => by simp [Value.ownBlock]⟩, ⟨grown_of_below (Below.refl _ _) _⟩⟩
        case round =>
          obtain ⟨j, rfl, hj, HRow, HS, HG⟩ := hrel
          have HDr := Aside0.mk (HE1.out.turned HG.out HE1.out.ne.2.2 HE1.out.ne.1 HE1.out.low.2.2 HM1.out.1.lt)
          have HRr := Aside0.mk (C_turned HR1.out HM1.out.1 HG.out)
          by_cases hlt : j < tl.length
          · obtain ⟨ad, e, hx0⟩ := ReadsInt.at_ (ReadsInt.of_C HRr.out) j (by omega) (by omega)
            subst e
            simp only [Int.toNat_natCast] at hx0
            have hrd : rd tl (j : Int) = tl.getD j 0 := by rw [rd, Int.toNat_natCast]
            rw [hrd] at hx0
            have hmem : tl.getD j 0 ∈ tl := getD_mem tl 0 j hlt
            have HT : Aside0 ((tl.take (j + 1)).flatMap F = (tl.take j).flatMap F ++ F (tl.getD j 0)) := ⟨by
              rw [List.take_succ_eq_append_getElem hlt, List.flatMap_append, List.getD_eq_getElem?_getD, List.getElem?_eq_getElem hlt]; simp⟩
            have HLen : Aside0 ((((tl.take j).flatMap F).length + (F (tl.getD j 0)).length) * 8 ≤ 140737488355328) := ⟨by
              have h1 := take_flat tl F j
              rw [← HFc.out] at h1
              have h2 := hF.2.2 c
              have h3 := hF.2.2 (tl.getD j 0)
              omega⟩
            have HED := Aside0.mk (HEd.out _ hmem)
            obtain ⟨n', f', hfo, hn, hmo, hde, hnb, hav⟩ := HS.out
            have HCall := Aside0.mk (HIH.out _ HED.out n' f' wr HDr.out hfo hn (edge_range hv HED.out))
            have HFO := Aside0.mk hfo
            have HMO := Aside0.mk hmo
            have HDE := Aside0.mk hde
            have HNB := Aside0.mk hnb
            have HAV := Aside0.mk hav
            clear hrd hmem hfo hn hmo hde hnb hav
            generalize tl.getD j 0 = x at HT hx0 HCall HED HLen
            generalize (tl.take j).flatMap F = xs at HT HRow HLen
            generalize hys : F x = ys at HT HCall HLen
            go_wp2_with fail
            refine HCall.out.mono ?_
            rintro e w2 ⟨⟨A2, c2, rfl, hle2, hC2⟩, n3, f3, hfo3, hn3, hmo3, hde3, hnb3, hg3⟩
            have hb2w1 : b2 < w1.heap.size := HM1.out.1.lt
            have HRow2 : Aside0 (RowI w2 w1.heap.size u9 xs) := ⟨World.ownsRow.kept HRow.out hg3 (by
              cases ho : u9.ownBlock with
              | none => exact Or.inl rfl
              | some k => exact Or.inr fun e => by cases e; have := (rowI_own HRow.out b2 ho).1; omega)⟩
            have HRd2 := Aside0.mk (ReadsInt.of_C hC2)
            have HAv2 : Aside0 (Avoid f3 u9) := ⟨fun y ad m cap hy hm he => by
              rcases hnb3 y with h | ⟨A, m', cap', h1, h2⟩
              · exact HAV.out y ad m cap (by rw [← h]; exact hy) hm he
              · rw [h1] at hy
                cases hy
                have h4 := h2 hm ad rfl
                have h5 := (rowI_own HRow.out ad.block he.symm).2
                omega⟩
            have HFO3 := Aside0.mk hfo3
            have HS3 := Aside0.mk (show n3 + wh dm (mk01 f3) ≤ N ∧ (∀ x, (f x).isSome = true → (f3 x).isSome = true) ∧ (∀ x, (f3 x).isSome = true → (f x).isSome = true ∨ Relation.TransGen (Edge dm cp) x c) ∧ NewB W f f3 from
              ⟨hn3, fun y hy => hmo3 y (HMO.out y hy), fun y hy => by
                rcases hde3 y hy with h | h | h
                · exact HDE.out y h
                · rw [h]; exact Or.inr (.single HED.out)
                · exact Or.inr (.tail h HED.out), HNB.out.trans hnb3 (Nat.le_trans hs1 HG.out.size)⟩)
            have HG3 := Aside0.mk (grown_trans HG.out hg3)
            clear hle2 hC2 hfo3 hn3 hmo3 hde3 hnb3 hg3
            go_wp2_with (at_builtin; refine print_append_row (w0 := w2) w1.heap.size rfl (.tmp 39) (.tmp 42) 31 3 .i64 8 rfl Tryd.underlying31 infoI (by decide) _ xs ys _ _ _ rfl rfl HRow2.out HRd2.out (Below.refl _ _) HG3.out.size HLen.out ?_; intro v1 w3 q1 q2 q3 q4)
            have HRow3 := Aside0.mk q1
            have HFO4 : Aside0 (FoundM w3 b2 n3 f3 F) := ⟨HFO3.out.turned rfl q3 (by
              intro e
              have := (rowI_own HRow2.out b2 e.symm).1; omega) HAv2.out⟩
            have HAv3 : Aside0 (Avoid f3 v1) := ⟨fun y ad m cap hy hm he => by
              rcases q4 with h | ⟨b, h, hb⟩
              · rw [h] at he; exact HAv2.out y ad m cap hy hm he
              · rw [h] at he
                obtain ⟨A, cap', h1, h2, h3⟩ := HFO3.out.2 y _ hy
                injection h1 with e1 e2 e3
                subst e1; subst e2
                obtain ⟨ad', e4, h5⟩ := (ReadsInt.of_C h3).2.2 hm
                cases e4
                have h6 := cell_lt (h5 0 hm)
                have hbk : (ad.add 0).block = ad.block := by unfold Addr.add; split <;> rfl
                rw [hbk] at h6
                cases he
                omega⟩
            have HG4 : Aside0 (w1.grownBy w3 (some b2)) := ⟨HG3.out.andThen q3 fun k hk => Or.inl (rowI_own HRow2.out k hk).1⟩
            clear q1 q2 q3 q4
            go_roundw
            case rel => exact ⟨j + 1, by first | rfl | go_num, by omega, ⟨by rw [HT.out]; exact HRow3.out⟩, ⟨n3, f3, HFO4.out, HS3.out.1, HS3.out.2.1, HS3.out.2.2.1, HS3.out.2.2.2, HAv3.out⟩, HG4⟩
            case measure => simp [intOf]; omega
          · have HRow2 : Aside0 (RowI wr w1.heap.size u9 (F c)) := ⟨by
              have h := HRow.out
              rw [List.take_of_length_le (by omega), ← HFc.out] at h
              exact h⟩
            obtain ⟨A, cap, hv9, hcap, hC9, hA9⟩ := rowI_C HRow2.out (by have := hF.2.2 c; omega)
            obtain ⟨n', f', hfo, hn, hmo, hde, hnb, hav⟩ := HS.out
            subst hv9
            have h0' : (f' c).isSome = false := by
              cases h : (f' c).isSome with
              | false => rfl
              | true =>
                rcases hde c h with h1 | h1
                · rw [hfc] at h1; cases h1
                · exact absurd HA.out (HNC.out h1)
            have hk2 := HDr.out.c2
            have hwh := wh_set dm (s := mk01 f') (c := c) (v := 1) (by decide) (Classical.byContradiction fun h => by rw [mk01_ne.1 h] at h0'; cases h0') (univ_mem ho)
            obtain ⟨w4, hup, hm4, hg4⟩ := putF hfo.1 c (.slice A (F c).length cap) HC.out (by omega)
            have HX : Aside0 (FullR dm cp F b2 N f c W w4) := ⟨by
              refine ⟨n' + 1, _, ⟨hm4, fun x v hx => ?_⟩, by rw [mk01_put]; omega, fun x hx => ?_, fun x hx => ?_, fun x => ?_, grown_trans (grown_trans (grown_of_below HB1.out _) HG.out) hg4⟩
              · by_cases hxc : x = c
                · rw [if_pos hxc] at hx
                  cases hx
                  rw [hxc]
                  exact ⟨A, cap, rfl, hcap, C_turned hC9 hfo.1 hg4⟩
                · rw [if_neg hxc] at hx
                  obtain ⟨A', cap', h1, h2, h3⟩ := hfo.2 x v hx
                  exact ⟨A', cap', h1, h2, C_turned h3 hfo.1 hg4⟩
              · by_cases hxc : x = c
                · simp [hxc]
                · simp only [if_neg hxc]; exact hmo x hx
              · by_cases hxc : x = c
                · exact Or.inr (Or.inl hxc)
                · simp only [if_neg hxc] at hx
                  rcases hde x hx with h | h
                  · exact Or.inl h
                  · exact Or.inr (Or.inr h)
              · by_cases hxc : x = c
                · exact Or.inr ⟨A, (F c).length, cap, by simp [hxc], fun _ ad ha => Nat.le_trans hs1 (hA9 ad ha)⟩
                · simp only [if_neg hxc]; exact hnb x⟩
            have HC9 := Aside0.mk (C_turned hC9 hfo.1 hg4)
            have HCap := Aside0.mk hcap
            clear hfo hn hmo hde hnb hav h0' hwh hm4 hg4 hcap hC9 hA9
            go_wp2_with fail
            go_ret
            exact ⟨⟨A, cap, rfl, HCap.out, HC9.out⟩, HX.out⟩
end Go.Proofs.YtipedgkampafjaaDoor.Rf
/- That full decompositions exist, and what Clone copies. -/
namespace Go.Proofs.YtipedgkampafjaaDoor.Rf
open Go.Shelf Go.RowKit Go.Proofs.YtipedgkampafjaaDoorW.PrintWords Go.Proofs.YtipedgkampafjaaDoorW.PrintLast Go.Proofs.YtipedgkampafjaaDoorW.PrintMore

variable {dm : List S43} {cp : Bool}
/-- One step of the full decomposition. -/
def stepF (dm : List S43) (cp : Bool) (c : Int) (ih : ∀ y, Edge dm cp y c → List Int) : List Int :=
  match h : onceS dm cp c with
  | none => [c]
  | some tl => (tl.attach.map fun x => ih x.1 ⟨tl, h, x.2⟩).flatten
theorem stepF_none {c : Int} {ih : ∀ y, Edge dm cp y c → List Int} (h : onceS dm cp c = none) : stepF dm cp c ih = [c] := by
  unfold stepF
  split
  · rfl
  · rename_i tl h'; rw [h] at h'; cases h'
theorem stepF_some {c : Int} {tl : List Int} {F : Int → List Int} (h : onceS dm cp c = some tl) : stepF dm cp c (fun y _ => F y) = tl.flatMap F := by
  unfold stepF
  split
  · rename_i h'; rw [h] at h'; cases h'
  · rename_i tl' h'
    rw [h] at h'
    cases h'
    rw [List.flatMap_def]
    congr 1
    exact List.attach_map_val
/-- The full decomposition. -/
noncomputable def fullW (hwf : ∀ c, Ends dm cp c) : Int → List Int := (WellFounded.intro hwf).fix (C := fun _ => List Int) (stepF dm cp)
theorem fullW_eq (hwf : ∀ c, Ends dm cp c) (c : Int) : fullW hwf c = stepF dm cp c (fun y _ => fullW hwf y) := WellFounded.fix_eq _ _ _
theorem fullW_none (hwf : ∀ c, Ends dm cp c) {c : Int} (h : onceS dm cp c = none) : fullW hwf c = [c] := by rw [fullW_eq, stepF_none h]
theorem fullW_some (hwf : ∀ c, Ends dm cp c) {c : Int} {tl : List Int} (h : onceS dm cp c = some tl) : fullW hwf c = tl.flatMap (fullW hwf) := by rw [fullW_eq, stepF_some h]
theorem sat_ge (l : List Int) (h : ∀ v ∈ l, 0 ≤ v) (hs : sat l ≤ 64) : l.sum ≤ sat l := by
  suffices ∀ (l : List Int) (a : Int), (∀ v ∈ l, 0 ≤ v) → 0 ≤ a → a ≤ 65 → l.foldl (fun n v => min (n + v) 65) a ≤ 64 → a + l.sum ≤ l.foldl (fun n v => min (n + v) 65) a by
    have := this l 0 h (by omega) (by omega) hs
    rw [Int.zero_add] at this
    exact this
  intro l
  induction l with
  | nil => intro a _ _ _ _; simp
  | cons x l ih =>
    intro a hv h0 h1 h2
    have hx := hv x List.mem_cons_self
    have hl := fun v hv' => hv v (List.mem_cons_of_mem _ hv')
    simp only [List.foldl_cons, List.sum_cons] at h2 ⊢
    by_cases hs : a + x ≤ 65
    · rw [Int.min_eq_left hs] at h2 ⊢
      have := ih (a + x) hl (by omega) hs h2
      omega
    · rw [Int.min_eq_right (by omega)] at h2
      exfalso
      have : ∀ (l : List Int), (∀ v ∈ l, 0 ≤ v) → l.foldl (fun n v => min (n + v) 65) 65 = 65 := by
        intro l
        induction l with
        | nil => intro _; rfl
        | cons y l ih =>
          intro h
          have hy := h y List.mem_cons_self
          rw [List.foldl_cons, Int.min_eq_right (by omega)]
          exact ih fun v hv => h v (List.mem_cons_of_mem _ hv)
      rw [this l hl] at h2
      omega
theorem full_len (hwf : ∀ c, Ends dm cp c) (hL : ∀ c, lenW hwf c ≤ 64) (c : Int) : ((fullW hwf c).length : Int) ≤ lenW hwf c := by
  have ha := hwf c
  unfold Ends at ha
  induction ha with
  | intro c _ ih =>
    cases h : onceS dm cp c with
    | none => rw [fullW_none hwf h, lenW_none hwf h]; simp
    | some tl =>
      have h1 := hL c
      rw [fullW_some hwf h, lenW_some hwf h]
      rw [lenW_some hwf h] at h1
      have h2 := sat_ge (tl.map (lenW hwf)) (fun v hv => by
        obtain ⟨x, _, rfl⟩ := List.mem_map.1 hv
        have := (len_exists hwf).2.2 x; omega) (by omega)
      have h3 : ((tl.flatMap (fullW hwf)).length : Int) ≤ (tl.map (lenW hwf)).sum := by
        have hm : ∀ x ∈ tl, ((fullW hwf x).length : Int) ≤ lenW hwf x := fun x hx => ih x ⟨tl, h, hx⟩
        clear h h1 h2 ih
        induction tl with
        | nil => simp
        | cons y tl ih2 =>
          have h4 := hm y List.mem_cons_self
          have h5 := ih2 (fun x hx => hm x (List.mem_cons_of_mem _ hx))
          simp only [List.flatMap_cons, List.length_append, List.map_cons, List.sum_cons]
          omega
      omega
theorem full_exists (hwf : ∀ c, Ends dm cp c) (hL : ∀ c, lenW hwf c ≤ 64) : IsFull dm cp (fullW hwf) :=
  ⟨fun c h => fullW_none hwf h, fun c tl h => fullW_some hwf h, fun c => by have := full_len hwf hL c; have := hL c; omega⟩
theorem full_unique (hwf : ∀ c, Ends dm cp c) {F F' : Int → List Int} (h : IsFull dm cp F) (h' : IsFull dm cp F') (c : Int) : F c = F' c := by
  have ha := hwf c
  unfold Ends at ha
  induction ha with
  | intro c _ ih =>
    cases ho : onceS dm cp c with
    | none => rw [h.1 c ho, h'.1 c ho]
    | some tl =>
      rw [h.2.1 c tl ho, h'.2.1 c tl ho, List.flatMap_def, List.flatMap_def, List.map_congr_left fun x hx => ih x ⟨tl, ho, hx⟩]
end Go.Proofs.YtipedgkampafjaaDoor.Rf
/- Tells what valid, Char and Once give. -/
namespace Go.Proofs.YtipedgkampafjaaDoor.Rf
open Go.Shelf Go.RowKit Go.Proofs.YtipedgkampafjaaDoorW.PrintWords Go.Proofs.YtipedgkampafjaaDoorW.PrintLast Go.Proofs.YtipedgkampafjaaDoorW.PrintMore

/-- Mappings that may be used. -/
structure Good (dm : List S43) : Prop where
  codes : ∀ m ∈ dm, badCodes m = false
  kinds : ∀ m ∈ dm, hk m.f0 = 0
  ends : AllEnds dm
  short : ∀ cp, ¬ TooLong dm cp
variable {dm : List S43} {cp : Bool}
theorem Good.acc (g : Good dm) (cp : Bool) (c : Int) : Ends dm cp c := by
  cases cp with
  | true => exact ends_all g.kinds g.ends c
  | false => exact ends_false (ends_all g.kinds g.ends c)
theorem lastM_nil (c : Int) : lastM [] c = none := rfl
theorem once_part {c x : Int} (g : ∀ m ∈ dm, hk m.f0 = 0) (h : ¬ hk c < 4) (hx : x ∈ hdec c) : onceS dm cp x = none := by
  obtain ⟨h5, h6⟩ := hk_parts h hx
  exact once_none h5 fun m hm => h6 (by obtain ⟨h8, h9⟩ := lastM_mem hm; rw [← h9]; exact g m h8)
theorem Good.len (g : Good dm) (cp : Bool) (c : Int) : lenW (g.acc cp) c ≤ 64 := by
  by_cases h4 : hk c < 4
  · cases hl : lastM dm c with
    | none => rw [lenW_none _ (once_none h4 (by rw [hl]; intro m hm; cases hm))]; omega
    | some m =>
      apply Classical.byContradiction
      intro hn
      exact g.short cp ⟨_, len_exists (g.acc cp), c, m, hl, by omega⟩
  · have ho : onceS dm cp c = some (hdec c) := by unfold onceS; rw [if_neg h4]
    rw [lenW_some _ ho]
    have h1 : ∀ x ∈ hdec c, lenW (g.acc cp) x = 1 := fun x hx => lenW_none _ (once_part g.kinds h4 hx)
    rw [List.map_congr_left h1]
    unfold hdec
    rw [if_neg h4]
    split <;> (simp [sat]; omega)
theorem Good.nil : Good [] where
  codes := by simp
  kinds := by simp
  ends := fun c m h => by cases h
  short := fun cp ⟨L, _, c, m, h, _⟩ => by cases h
open Classical in
theorem chk_good {cl : List S71} {ex : List RR} (h : decChk cl dm ex = 0) : Good dm := by
  unfold decChk at h
  by_cases h1 : ordChk cl = 0
  · by_cases h2 : mapChkO dm = 0
    · by_cases h3 : canonR ex = false
      · simp [h1, h2, h3] at h
      · by_cases h4 : kindsE cl dm = 0
        · by_cases h5 : AllEnds dm
          · by_cases h6 : TooLong dm true ∨ TooLong dm false
            · simp [h1, h2, h3, h4, h5, h6] at h
            · exact ⟨mapChkO_ok h2, kindsE_ok h4, h5, fun cp => by cases cp <;> intro h7 <;> simp [h7] at h6⟩
          · simp [h1, h2, h3, h4, h5] at h
        · simp [h1, h2, h3, h4] at h
    · simp [h1, h2] at h
  · simp [h1] at h
open Classical in
/-- The mappings of valid data. -/
noncomputable def vdm (cl : List S71) (dm : List S43) (ex : List RR) : List S43 := if decChk cl dm ex = 0 then dm else []
noncomputable def vcl (cl : List S71) (dm : List S43) (ex : List RR) : List S71 := if decChk cl dm ex = 0 then cl else []
noncomputable def vex (cl : List S71) (dm : List S43) (ex : List RR) : List RR := if decChk cl dm ex = 0 then ex else []
theorem vdm_good (cl : List S71) (dm : List S43) (ex : List RR) : Good (vdm cl dm ex) := by
  unfold vdm
  split
  · rename_i h; exact chk_good h
  · exact Good.nil
open Classical in
/-- The full decomposition of a number. -/
noncomputable def fullS (dm : List S43) (cp : Bool) (c : Int) : List Int := if h : ∀ c, Ends dm cp c then fullW h c else []
theorem Good.full (g : Good dm) (cp : Bool) : IsFull dm cp (fullS dm cp) := by
  have e : fullS dm cp = fullW (g.acc cp) := by funext c; unfold fullS; rw [dif_pos (g.acc cp)]
  rw [e]
  exact full_exists _ (g.len cp)

theorem clone_any (A : Option Addr) (c : Nat) (xs : List Int) (w : World) (hr : Kd.C (Kd.int .i64) w A xs.length xs) (hl : xs.length ≤ 1000000) :
    Calls Tryd.prog 19 #[.slice A xs.length c] w fun e w' => (∃ v, e = .returned v ∧ RowI w' w.heap.size v xs) ∧ Below w.heap.size w w' := by
  cases A with
  | none =>
    have h0 : xs = [] := by
      cases xs with
      | nil => rfl
      | cons x l => obtain ⟨ad, h, _⟩ := (ReadsInt.of_C hr).2.2 (by simp); cases h
    subst h0
    exact (Tryd.slices_Clone_int_nil 0 c w).mono fun e w' ⟨h1, h2⟩ => ⟨⟨_, h1, h2 ▸ World.ownsRow_nil _ _ _ _⟩, h2 ▸ Below.refl _ _⟩
  | some ad =>
    by_cases h0 : xs.length = 0
    · have : xs = [] := List.eq_nil_of_length_eq_zero h0
      subst this
      exact (Tryd.slices_Clone_int_zero ad c w).mono fun e w' ⟨v, h1, h2, _, h3⟩ => ⟨⟨v, h1, h2⟩, h3⟩
    · obtain ⟨ad', e, hc⟩ := (ReadsInt.of_C hr).2.2 (by omega)
      cases e
      obtain ⟨b, off, sp⟩ := ad
      have hsp : sp = none := by
        cases sp with
        | none => rfl
        | some s =>
          have h1 := hc 0 (by omega)
          unfold Addr.add at h1
          simp [World.cell?] at h1
          split at h1 <;> cases h1
      subst hsp
      refine (Tryd.slices_Clone_int b off xs.length c xs w (Nat.le_refl _) (by omega) (fun j hj => ?_)).mono fun e w' ⟨v, h1, h2, _, h3⟩ => ⟨⟨v, h1, ?_⟩, h3⟩
      · have := hc j hj
        rwa [Addr.add_lit] at this
      · rw [List.take_length] at h2
        exact h2

/-- Three slices as a value. -/
def normV (Ac Ad Ax : Option Addr) (cc cd cx nc nd nx : Nat) : Value := .agg #[.slice Ac nc cc, .slice Ad nd cd, .slice Ax nx cx]
theorem fieldD (a b c : Value) (ha : a.oneCell' = true) (w : World) (Ad : Option Addr) (nd cd : Nat) (Ac : Option Addr) (nc cc : Nat) (Ax : Option Addr) (nx cx : Nat) : (Instr.field 28 (.agg #[.slice Ac nc cc, .slice Ad nd cd, .slice Ax nx cx]) 1).run Tryd.prog w = .ok (.slice Ad nd cd) w := by kernel_rfl

theorem heap2_new (w : World) (o1 o2 : Obj) : ((w.alloc o1).alloc o2).heap[w.heap.size + 1]? = some o2 := by
  rw [show w.heap.size + 1 = (w.alloc o1).heap.size by simp]
  show ((w.alloc o1).heap.push o2)[(w.alloc o1).heap.size]? = _
  exact Array.getElem?_push_size
theorem heap_set3 {w : World} {b : Nat} {c0 c1 c2 v0 v1 v2 : Value} {t : TypeId} (h : w.heap[b]? = some (.cells #[c0, c1, c2] t (0, 0))) :
    (((w.setCell ⟨b, 0, none⟩ v0).setCell ⟨b, 1, none⟩ v1).setCell ⟨b, 2, none⟩ v2).heap[b]? = some (.cells #[v0, v1, v2] t (0, 0)) := by
  rw [Sort.setCell_eq, Sort.setCell_eq, Sort.setCell_eq]
  simp [Sort.mapBlock, Array.getElem?_modify, h, Sort.onCells]
theorem grown_set3 (w : World) (b : Nat) (v0 v1 v2 : Value) : w.grownBy (((w.setCell ⟨b, 0, none⟩ v0).setCell ⟨b, 1, none⟩ v1).setCell ⟨b, 2, none⟩ v2) (some b) :=
  ⟨rfl, rfl, rfl, by simp [World.setCell], fun i hi hne => by
    have h : i ≠ b := fun e => hne (by rw [e])
    rw [Below.heap_setCell _ _ _ _ h, Below.heap_setCell _ _ _ _ h, Below.heap_setCell _ _ _ _ h]⟩
/-- What valid hands back: slices of the valid data, where they lie in w'. -/
def ValidR (w' : World) (e : Ending) (cl : List S71) (dm : List S43) (ex : List RR) : Prop :=
  ∃ (Ac Ad Ax : Option Addr) (cc cd cx : Nat), e = .returned (.agg #[.slice Ac cl.length cc, .slice Ad dm.length cd, .slice Ax ex.length cx]) ∧ (cl.length ≤ cc ∧ Kd.C k71 w' Ac cl.length cl) ∧ (dm.length ≤ cd ∧ Kd.C k43 w' Ad dm.length dm) ∧ (ex.length ≤ cx ∧ Kd.C k67 w' Ax ex.length ex)

/-- What valid hands back, wherever the rows that came in are read. -/
def ValidB (Ac0 Ad0 Ax0 : Option Addr) (cl0 : List S71) (dm0 : List S43) (ex0 : List RR) (e : Ending) (cl : List S71) (dm : List S43) (ex : List RR) : Prop :=
  ∃ (Ac Ad Ax : Option Addr) (cc cd cx : Nat), e = .returned (.agg #[.slice Ac cl.length cc, .slice Ad dm.length cd, .slice Ax ex.length cx]) ∧ (cl.length ≤ cc ∧ ∀ w, Kd.C k71 w Ac0 cl0.length cl0 → Kd.C k71 w Ac cl.length cl) ∧ (dm.length ≤ cd ∧ ∀ w, Kd.C k43 w Ad0 dm0.length dm0 → Kd.C k43 w Ad dm.length dm) ∧ (ex.length ≤ cx ∧ ∀ w, Kd.C k67 w Ax0 ex0.length ex0 → Kd.C k67 w Ax ex.length ex)

open Classical in
set_option maxRecDepth 100000 in
set_option maxHeartbeats 16000000 in
theorem valid_base (Ac Ad Ax : Option Addr) (cc cd cx : Nat) (cl : List S71) (dm : List S43) (ex : List RR) (w : World) (hG : GL w)
    (hrc : Kd.C k71 w Ac cl.length cl) (hcc : cl.length ≤ cc) (hlc : cl.length ≤ 1000000)
    (hrd : Kd.C k43 w Ad dm.length dm) (hcd : dm.length ≤ cd) (hld : dm.length ≤ 1000000)
    (hrx : Kd.C k67 w Ax ex.length ex) (hcx : ex.length ≤ cx) (hlx : ex.length ≤ 1000000) :
    Calls Tryd.prog 17 #[.agg #[.slice Ac cl.length cc, .slice Ad dm.length cd, .slice Ax ex.length cx]] w fun e w' => ValidB Ac Ad Ax cl dm ex e (vcl cl dm ex) (vdm cl dm ex) (vex cl dm ex) ∧ Below w.heap.size w w' := by
  have hb : ∀ o1 o2 : Obj, Below w.heap.size w ((w.alloc o1).alloc o2) := fun o1 o2 => below_alloc (below_alloc (Below.refl _ _) _) _
  have HCk := Aside0.mk (fun o1 o2 => decCheck_any Ac Ad Ax cc cd cx cl dm ex ((w.alloc o1).alloc o2) (GL.below hG (hb o1 o2)) (Kd.C_below hrc (hb o1 o2)) hcc hlc (Kd.C_below hrd (hb o1 o2)) hcd hld (Kd.C_below hrx (hb o1 o2)) hcx hlx)
  have HB := Aside0.mk hb
  have HRc := Aside0.mk hrc
  have HRd := Aside0.mk hrd
  have HRx := Aside0.mk hrx
  have HL : Aside0 (cl.length ≤ cc ∧ dm.length ≤ cd ∧ ex.length ≤ cx) := ⟨hcc, hcd, hcx⟩
  clear hG hrc hrd hrx hb hcc hcd hcx hlc hld hlx
  cases hok : (decChk cl dm ex != 0) with
  | true =>
    have hne : ¬ decChk cl dm ex = 0 := by simpa using hok
    have HV : Aside0 (vcl cl dm ex = [] ∧ vdm cl dm ex = [] ∧ vex cl dm ex = []) := ⟨by simp [vcl, vdm, vex, hne]⟩
    rw [HV.out.1, HV.out.2.1, HV.out.2.2]
    generalize decChk cl dm ex = r at HCk hok
    go_enter Tryd.func17, Tryd.ntmps17
    go_wp2_with fail
    refine (HCk.out _ _).mono ?_
    rintro e w1 ⟨rfl, hb1⟩
    have hheap : w1.heap[w.heap.size + 1]? = some (.cells #[.slice none 0 0, .slice none 0 0, .slice none 0 0] 28) := by
      rw [hb1.block _ (by simp)]; exact heap2_new _ _ _
    have hlt1 : w.heap.size + 1 < w1.heap.size := (Array.getElem?_eq_some_iff.1 hheap).1
    have q0 : w1.cell? ⟨w.heap.size + 1, 0, none⟩ = some (.slice none 0 0) := by simp [World.cell?, hheap]
    have q1 : w1.cell? ⟨w.heap.size + 1, 1, none⟩ = some (.slice none 0 0) := by simp [World.cell?, hheap]
    have q2 : w1.cell? ⟨w.heap.size + 1, 2, none⟩ = some (.slice none 0 0) := by simp [World.cell?, hheap]
    have r0 : ∀ i, w1.frozen? ⟨w.heap.size + 1, i, none⟩ = false := fun i => by simp [World.frozen?, hheap]
    have HHeap := Aside0.mk hheap
    have HBB := Aside0.mk (below_step (HB.out _ _) hb1)
    have p0 : w1.cell? ⟨w.heap.size, 0, none⟩ = some (.slice Ac cl.length cc) := by
      rw [hb1.cell (by simp; omega)]; exact cell_keep (by simp) _
    have p1 : w1.cell? ⟨w.heap.size, 1, none⟩ = some (.slice Ad dm.length cd) := by
      rw [hb1.cell (by simp; omega)]; exact cell_keep (by simp) _
    have p2 : w1.cell? ⟨w.heap.size, 2, none⟩ = some (.slice Ax ex.length cx) := by
      rw [hb1.cell (by simp; omega)]; exact cell_keep (by simp) _
    clear hheap hb1
    go_wp2_with fail
    (try simp only [Exit.inBlock, Exit.then])
    refine bodyPost_ret (results_cell_row rfl _ _ (w.heap.size + 1) 28 _ (0, 0) _ rfl (heap_set3 HHeap.out) Tryd.underlying28 rfl (by kernel_rfl)) rfl ?_
    exact ⟨⟨none, none, none, 0, 0, 0, rfl, ⟨Nat.le_refl _, fun _ _ => Kd.C_nil _ _⟩, ⟨Nat.le_refl _, fun _ _ => Kd.C_nil _ _⟩, ⟨Nat.le_refl _, fun _ _ => Kd.C_nil _ _⟩⟩, HBB.out.grown (grown_set3 _ _ _ _ _) HBB.out.size (fun k hk => by cases hk; omega)⟩
  | false =>
    have hne : decChk cl dm ex = 0 := by simpa using hok
    have HV : Aside0 (vcl cl dm ex = cl ∧ vdm cl dm ex = dm ∧ vex cl dm ex = ex) := ⟨by simp [vcl, vdm, vex, hne]⟩
    rw [HV.out.1, HV.out.2.1, HV.out.2.2]
    clear hne
    generalize decChk cl dm ex = r at HCk hok
    go_enter Tryd.func17, Tryd.ntmps17
    go_wp2_with fail
    refine (HCk.out _ _).mono ?_
    rintro e w1 ⟨rfl, hb1⟩
    have hheap : w1.heap[w.heap.size + 1]? = some (.cells #[.slice none 0 0, .slice none 0 0, .slice none 0 0] 28) := by
      rw [hb1.block _ (by simp)]; exact heap2_new _ _ _
    have hlt1 : w.heap.size + 1 < w1.heap.size := (Array.getElem?_eq_some_iff.1 hheap).1
    have q0 : w1.cell? ⟨w.heap.size + 1, 0, none⟩ = some (.slice none 0 0) := by simp [World.cell?, hheap]
    have q1 : w1.cell? ⟨w.heap.size + 1, 1, none⟩ = some (.slice none 0 0) := by simp [World.cell?, hheap]
    have q2 : w1.cell? ⟨w.heap.size + 1, 2, none⟩ = some (.slice none 0 0) := by simp [World.cell?, hheap]
    have r0 : ∀ i, w1.frozen? ⟨w.heap.size + 1, i, none⟩ = false := fun i => by simp [World.frozen?, hheap]
    have HHeap := Aside0.mk hheap
    have HBB := Aside0.mk (below_step (HB.out _ _) hb1)
    have p0 : w1.cell? ⟨w.heap.size, 0, none⟩ = some (.slice Ac cl.length cc) := by
      rw [hb1.cell (by simp; omega)]; exact cell_keep (by simp) _
    have p1 : w1.cell? ⟨w.heap.size, 1, none⟩ = some (.slice Ad dm.length cd) := by
      rw [hb1.cell (by simp; omega)]; exact cell_keep (by simp) _
    have p2 : w1.cell? ⟨w.heap.size, 2, none⟩ = some (.slice Ax ex.length cx) := by
      rw [hb1.cell (by simp; omega)]; exact cell_keep (by simp) _
    clear hheap hb1
    go_wp2_with fail
    (try simp only [Exit.inBlock, Exit.then])
    have HF := Aside0.mk (HBB.out.grown (grown_set3 w1 (w.heap.size + 1) (.slice Ac cl.length cc) (.slice Ad dm.length cd) (.slice Ax ex.length cx)) HBB.out.size (fun k hk => by cases hk; omega))
    refine bodyPost_ret (results_cell_row rfl _ _ (w.heap.size + 1) 28 _ (0, 0) _ rfl (heap_set3 HHeap.out) Tryd.underlying28 rfl (by kernel_rfl)) rfl ?_
    exact ⟨⟨Ac, Ad, Ax, cc, cd, cx, rfl, ⟨HL.out.1, fun _ h => h⟩, ⟨HL.out.2.1, fun _ h => h⟩, ⟨HL.out.2.2, fun _ h => h⟩⟩, HF.out⟩
theorem valid_any (Ac Ad Ax : Option Addr) (cc cd cx : Nat) (cl : List S71) (dm : List S43) (ex : List RR) (w : World) (hG : GL w)
    (hrc : Kd.C k71 w Ac cl.length cl) (hcc : cl.length ≤ cc) (hlc : cl.length ≤ 1000000)
    (hrd : Kd.C k43 w Ad dm.length dm) (hcd : dm.length ≤ cd) (hld : dm.length ≤ 1000000)
    (hrx : Kd.C k67 w Ax ex.length ex) (hcx : ex.length ≤ cx) (hlx : ex.length ≤ 1000000) :
    Calls Tryd.prog 17 #[.agg #[.slice Ac cl.length cc, .slice Ad dm.length cd, .slice Ax ex.length cx]] w fun e w' => ValidR w' e (vcl cl dm ex) (vdm cl dm ex) (vex cl dm ex) ∧ Below w.heap.size w w' :=
  (valid_base Ac Ad Ax cc cd cx cl dm ex w hG hrc hcc hlc hrd hcd hld hrx hcx hlx).mono fun _ _ h => by
    obtain ⟨⟨Ac, Ad, Ax, cc, cd, cx, h1, h2, h3, h4⟩, hb⟩ := h
    exact ⟨⟨Ac, Ad, Ax, cc, cd, cx, h1, ⟨h2.1, Kd.C_below (h2.2 _ hrc) hb⟩, ⟨h3.1, Kd.C_below (h3.2 _ hrd) hb⟩, ⟨h4.1, Kd.C_below (h4.2 _ hrx) hb⟩⟩, hb⟩
end Go.Proofs.YtipedgkampafjaaDoor.Rf
/- Tells what Char and Once give. -/
namespace Go.Proofs.YtipedgkampafjaaDoor.Rf
open Go.Shelf Go.RowKit Go.Proofs.YtipedgkampafjaaDoorW.PrintWords Go.Proofs.YtipedgkampafjaaDoorW.PrintLast Go.Proofs.YtipedgkampafjaaDoorW.PrintMore

theorem vdm_len {cl : List S71} {dm : List S43} {ex : List RR} (h : dm.length ≤ 1000000) : (vdm cl dm ex).length ≤ 1000000 := by
  unfold vdm; split
  · exact h
  · simp
theorem good_range {dm : List S43} (g : Good dm) : ∀ m ∈ dm, -9223372036854775808 ≤ m.f0 ∧ m.f0 ≤ 9223372036854775807 := fun m hm => by
  have := g.codes m hm
  simp only [badCodes, Bool.or_eq_false_iff, Bool.not_eq_false'] at this
  exact valid_range this.1
/-- A row of numbers that is handed back. -/
def RetI (w' : World) (e : Ending) (l : List Int) : Prop := ∃ A cap, e = .returned (.slice A l.length cap) ∧ l.length ≤ cap ∧ Kd.C (Kd.int .i64) w' A l.length l
theorem found_nil {W : World} {b : Nat} {F : Int → List Int} (h : MapF Tryd.prog 3 encI W b 0 (fun _ => none)) : FoundM W b 0 (fun _ => none) F := ⟨h, fun x v hx => by cases hx⟩
theorem wh_none (dm : List S43) : wh dm (mk01 fun _ => none) ≤ dm.length + 11172 := univ_len dm _

set_option maxRecDepth 100000 in
set_option maxHeartbeats 16000000 in
theorem dchar_any (Ac Ad Ax : Option Addr) (cc cd cx : Nat) (cl : List S71) (dm : List S43) (ex : List RR) (c : Int) (cp : Bool) (w : World) (hG : GL w)
    (hrc : Kd.C k71 w Ac cl.length cl) (hcc : cl.length ≤ cc) (hlc : cl.length ≤ 1000000)
    (hrd : Kd.C k43 w Ad dm.length dm) (hcd : dm.length ≤ cd) (hld : dm.length ≤ 1000000)
    (hrx : Kd.C k67 w Ax ex.length ex) (hcx : ex.length ≤ cx) (hlx : ex.length ≤ 1000000) (hc : inR c) :
    Calls Tryd.prog 9 #[.agg #[.slice Ac cl.length cc, .slice Ad dm.length cd, .slice Ax ex.length cx], .int .i64 c, .bool cp] w fun e w' => RetI w' e (fullS (vdm cl dm ex) cp c) ∧ Below w.heap.size w w' := by
  have hb : ∀ o : Obj, Below w.heap.size w (w.alloc o) := fun o => below_alloc (Below.refl _ _) _
  have HV := Aside0.mk (fun o => valid_any Ac Ad Ax cc cd cx cl dm ex (w.alloc o) (GL.below hG (hb o)) (Kd.C_below hrc (hb o)) hcc hlc (Kd.C_below hrd (hb o)) hcd hld (Kd.C_below hrx (hb o)) hcx hlx)
  have HB := Aside0.mk hb
  have hg := vdm_good cl dm ex
  have HLv : Aside0 ((vdm cl dm ex).length ≤ 1000000) := ⟨vdm_len hld⟩
  have HC := Aside0.mk hc
  clear hG hrc hrd hrx hb hlc hld hlx hcc hcd hcx hc
  generalize vdm cl dm ex = vd at HV hg HLv
  generalize vcl cl dm ex = vc at HV
  generalize vex cl dm ex = vx at HV
  have HGd := Aside0.mk hg
  clear hg
  go_enter Tryd.func9, Tryd.ntmps9
  go_wp2_with fail
  refine (HV.out _).mono ?_
  rintro e w1 ⟨⟨Ac', Ad', Ax', cc', cd', cx', rfl, _, ⟨hd1, hd2⟩, _⟩, hb1⟩
  have HB1 := Aside0.mk (below_step (HB.out _) hb1)
  have HD := Aside0.mk hd2
  have hfld := fieldD (.slice Ac' vc.length cc') (.slice Ad' vd.length cd') (.slice Ax' vx.length cx') rfl w1 Ad' vd.length cd' Ac' vc.length cc' Ax' vx.length cx'
  clear hd1 hd2 hb1
  go_wp2_with fail
  refine (load_any Ad' cd' vd cp w1 HD.out (by have := HLv.out; omega) (good_range HGd.out)).mono ?_
  rintro e w2 ⟨rfl, hd2, hm2⟩
  have HD2 := Aside0.mk hd2
  have HM2 := Aside0.mk hm2
  clear hd2 hm2
  go_wp2_with fail
  refine (full_any HGd.out.codes (HGd.out.full cp) (vd.length + 11172) (by have := HLv.out; omega) c (HGd.out.acc cp c) 0 (fun _ => none) w2 HD2.out (found_nil HM2.out) (by have := wh_none vd; omega) HC.out).mono ?_
  rintro e w3 ⟨⟨A3, cap3, rfl, hle3, hC3⟩, n3, f3, _, _, _, _, _, hg3⟩
  have HB3 := Aside0.mk (below_turned (below_step HB1.out HD2.out.below) hg3 (by have := HB1.out.size; omega) HM2.out.lt)
  have HC3 := Aside0.mk hC3
  have HLen := Aside0.mk ((HGd.out.full cp).2.2 c)
  clear hle3 hC3 hg3
  generalize hlq : fullS vd cp c = l at HC3 HLen
  have HLq := Aside0.mk hlq
  clear hlq
  go_wp2_with fail
  refine (clone_any A3 cap3 l w3 HC3.out (by have := HLen.out; omega)).mono ?_
  rintro e w4 ⟨⟨v, rfl, hr4⟩, hb4⟩
  obtain ⟨A4, cap4, rfl, hcap4, hC4, _⟩ := rowI_C hr4 (by have := HLen.out; omega)
  have HB4 := Aside0.mk (below_step HB3.out hb4)
  have HCap := Aside0.mk hcap4
  have HC4 := Aside0.mk hC4
  clear hr4 hb4 hcap4 hC4
  go_wp2_with fail
  go_ret
  rw [HLq.out]
  exact ⟨⟨A4, cap4, rfl, HCap.out, HC4.out⟩, HB4.out⟩

/-- What Once hands back. -/
def OnceV (w' : World) (e : Ending) : Option (List Int) → Prop
  | none => e = .returned (.tuple #[.slice none 0 0, .bool false])
  | some l => ∃ A cap, e = .returned (.tuple #[.slice A l.length cap, .bool true]) ∧ l.length ≤ cap ∧ Kd.C (Kd.int .i64) w' A l.length l
theorem once_len {dm : List S43} (g : Good dm) {cp : Bool} {c : Int} {l : List Int} (h : onceS dm cp c = some l) (hs : ∀ m ∈ dm, m.f1.length ≤ 1000000) : l.length ≤ 1000000 := by
  unfold onceS at h
  split at h
  · cases hl : lastM dm c with
    | none => rw [hl] at h; cases h
    | some m =>
      rw [hl] at h
      simp only at h
      split at h
      · cases h
      · cases h; exact hs m (lastM_mem hl).1
  · cases h
    unfold hdec
    split
    · simp
    · split <;> simp
theorem mapChkO_size {dm : List S43} (h : mapChkO dm = 0) : ∀ m ∈ dm, m.f1.length ≤ 64 := by
  intro m hm
  have h1 : mapChk dm = 0 := by
    unfold mapChkO at h
    split at h
    · rename_i h2; exact h2
    · exact h
  unfold mapChk at h1
  cases hb : dm.any badCodes with
  | true => rw [hb] at h1; simp at h1
  | false =>
    cases hs : dm.any badSize with
    | true => rw [hb, hs] at h1; simp at h1
    | false =>
      have := not_any _ _ hs m hm
      simp only [badSize, decide_eq_false_iff_not] at this
      omega
theorem vdm_size (cl : List S71) (dm : List S43) (ex : List RR) : ∀ m ∈ vdm cl dm ex, m.f1.length ≤ 64 := by
  unfold vdm
  split
  · rename_i h
    refine mapChkO_size ?_
    apply Classical.byContradiction
    intro hn
    unfold decChk at h
    by_cases h1 : ordChk cl = 0
    · simp [h1, hn] at h
    · simp [h1] at h
  · simp

set_option maxRecDepth 100000 in
set_option maxHeartbeats 16000000 in
theorem donce_any (Ac Ad Ax : Option Addr) (cc cd cx : Nat) (cl : List S71) (dm : List S43) (ex : List RR) (c : Int) (cp : Bool) (w : World) (hG : GL w)
    (hrc : Kd.C k71 w Ac cl.length cl) (hcc : cl.length ≤ cc) (hlc : cl.length ≤ 1000000)
    (hrd : Kd.C k43 w Ad dm.length dm) (hcd : dm.length ≤ cd) (hld : dm.length ≤ 1000000)
    (hrx : Kd.C k67 w Ax ex.length ex) (hcx : ex.length ≤ cx) (hlx : ex.length ≤ 1000000) (hc : inR c) :
    Calls Tryd.prog 7 #[.agg #[.slice Ac cl.length cc, .slice Ad dm.length cd, .slice Ax ex.length cx], .int .i64 c, .bool cp] w fun e w' => OnceV w' e (onceS (vdm cl dm ex) cp c) ∧ Below w.heap.size w w' := by
  have hb : ∀ o : Obj, Below w.heap.size w (w.alloc o) := fun o => below_alloc (Below.refl _ _) _
  have HV := Aside0.mk (fun o => valid_any Ac Ad Ax cc cd cx cl dm ex (w.alloc o) (GL.below hG (hb o)) (Kd.C_below hrc (hb o)) hcc hlc (Kd.C_below hrd (hb o)) hcd hld (Kd.C_below hrx (hb o)) hcx hlx)
  have HB := Aside0.mk hb
  have hg := vdm_good cl dm ex
  have HLv : Aside0 ((vdm cl dm ex).length ≤ 1000000) := ⟨vdm_len hld⟩
  have HSz := Aside0.mk (vdm_size cl dm ex)
  have HC := Aside0.mk hc
  clear hG hrc hrd hrx hb hlc hld hlx hcc hcd hcx hc
  generalize vdm cl dm ex = vd at HV hg HLv HSz
  generalize vcl cl dm ex = vc at HV
  generalize vex cl dm ex = vx at HV
  have HGd := Aside0.mk hg
  clear hg
  have HOl : Aside0 (∀ l, onceS vd cp c = some l → l.length ≤ 1000000) := ⟨fun l h => once_len HGd.out h fun m hm => Nat.le_trans (HSz.out m hm) (by omega)⟩
  cases ho : onceS vd cp c with
  | none =>
    go_enter Tryd.func7, Tryd.ntmps7
    go_wp2_with fail
    refine (HV.out _).mono ?_
    rintro e w1 ⟨⟨Ac', Ad', Ax', cc', cd', cx', rfl, _, ⟨hd1, hd2⟩, _⟩, hb1⟩
    have HB1 := Aside0.mk (below_step (HB.out _) hb1)
    have HD := Aside0.mk hd2
    have hfld := fieldD (.slice Ac' vc.length cc') (.slice Ad' vd.length cd') (.slice Ax' vx.length cx') rfl w1 Ad' vd.length cd' Ac' vc.length cc' Ax' vx.length cx'
    clear hd1 hd2 hb1
    go_wp2_with fail
    refine (load_any Ad' cd' vd cp w1 HD.out (by have := HLv.out; omega) (good_range HGd.out)).mono ?_
    rintro e w2 ⟨rfl, hd2, hm2⟩
    have HD2 := Aside0.mk hd2
    clear hd2 hm2
    go_wp2_with fail
    refine (once_any HD2.out c HC.out).mono ?_
    rintro e w3 ⟨he, hb3⟩
    rw [ho] at he
    subst he
    have HB3 := Aside0.mk (below_step (below_step HB1.out HD2.out.below) hb3)
    clear hb3
    go_wp2_with fail
    refine (Tryd.slices_Clone_int_nil 0 0 w3).mono ?_
    rintro e w4 ⟨rfl, rfl⟩
    go_wp2_with fail
    go_ret2
    exact ⟨rfl, HB3.out⟩
  | some l =>
    go_enter Tryd.func7, Tryd.ntmps7
    go_wp2_with fail
    refine (HV.out _).mono ?_
    rintro e w1 ⟨⟨Ac', Ad', Ax', cc', cd', cx', rfl, _, ⟨hd1, hd2⟩, _⟩, hb1⟩
    have HB1 := Aside0.mk (below_step (HB.out _) hb1)
    have HD := Aside0.mk hd2
    have hfld := fieldD (.slice Ac' vc.length cc') (.slice Ad' vd.length cd') (.slice Ax' vx.length cx') rfl w1 Ad' vd.length cd' Ac' vc.length cc' Ax' vx.length cx'
    clear hd1 hd2 hb1
    go_wp2_with fail
    refine (load_any Ad' cd' vd cp w1 HD.out (by have := HLv.out; omega) (good_range HGd.out)).mono ?_
    rintro e w2 ⟨rfl, hd2, hm2⟩
    have HD2 := Aside0.mk hd2
    clear hd2 hm2
    go_wp2_with fail
    refine (once_any HD2.out c HC.out).mono ?_
    rintro e w3 ⟨he, hb3⟩
    rw [ho] at he
    obtain ⟨A3, cap3, rfl, hle3, hC3⟩ := he
    have HB3 := Aside0.mk (below_step (below_step HB1.out HD2.out.below) hb3)
    have HC3 := Aside0.mk hC3
    have HLen := Aside0.mk (HOl.out l ho)
    clear hb3 hle3 hC3
    go_wp2_with fail
    refine (clone_any A3 cap3 l w3 HC3.out HLen.out).mono ?_
    rintro e w4 ⟨⟨v, rfl, hr4⟩, hb4⟩
    obtain ⟨A4, cap4, rfl, hcap4, hC4, _⟩ := rowI_C hr4 (by have := HLen.out; omega)
    have HB4 := Aside0.mk (below_step HB3.out hb4)
    have HCap := Aside0.mk hcap4
    have HC4 := Aside0.mk hC4
    clear hr4 hb4 hcap4 hC4
    go_wp2_with fail
    go_ret2
    exact ⟨⟨A4, cap4, rfl, HCap.out, HC4.out⟩, HB4.out⟩
end Go.Proofs.YtipedgkampafjaaDoor.Rf
/- Tells what the reference's Equal and Small tell. -/
namespace Go.Proofs.YtipedgkampafjaaDoor.Rf
open Go.Shelf Go.RowKit Go.Proofs.YtipedgkampafjaaDoorW.PrintWords Go.Proofs.YtipedgkampafjaaDoorW.PrintLast Go.Proofs.YtipedgkampafjaaDoorW.PrintMore

theorem take_next {a b : List Int} {j : Nat} (ha : j < a.length) (hb : j < b.length) (h : a.take j = b.take j) : a.take (j + 1) = b.take (j + 1) ↔ a.getD j 0 = b.getD j 0 := by
  rw [List.take_succ_eq_append_getElem ha, List.take_succ_eq_append_getElem hb, h, List.getD_eq_getElem?_getD, List.getD_eq_getElem?_getD, List.getElem?_eq_getElem ha, List.getElem?_eq_getElem hb]
  exact ⟨fun h => by simpa using List.append_cancel_left h, fun h => by simp only [Option.getD_some] at h; rw [h]⟩

set_option maxRecDepth 100000 in
set_option maxHeartbeats 8000000 in
theorem refCompare_any (A B : Option Addr) (ca cb : Nat) (a b : List Int) (w : World) (ha : Kd.C (Kd.int .i64) w A a.length a) (hb : Kd.C (Kd.int .i64) w B b.length b) (hl : a.length ≤ 1000000000) (hl2 : b.length ≤ 1000000000) :
    Calls Tryd.prog 20 #[.slice A a.length ca, .slice B b.length cb] w fun e w' => (∃ v : Int, e = .returned (.int .i64 v) ∧ (v = 0 ↔ a = b)) ∧ Below w.heap.size w w' := by
  have HA := Aside0.mk ha
  have HB := Aside0.mk hb
  clear ha hb
  go_enter Tryd.func20, Tryd.ntmps20
  go_wp2_with fail
  go_loopw [5] (fun v wr => ∃ j : Nat, v = .int .i64 (j : Int) ∧ j ≤ a.length ∧ j ≤ b.length ∧ Aside0 (a.take j = b.take j) ∧ Aside0 (Below w.heap.size w wr)) (fun v _ => a.length - (intOf v).toNat)
  case atStart => exact ⟨0, rfl, by omega, by omega, ⟨rfl⟩, ⟨Below.refl _ _⟩⟩
  case round =>
    obtain ⟨j, rfl, hj, hj2, HE, HW⟩ := hrel
    by_cases hlt : j < a.length
    · by_cases hlt2 : j < b.length
      · obtain ⟨ad, e, hx0⟩ := ReadsInt.at_ (ReadsInt.of_C (Kd.C_below HA.out HW.out)) j (by omega) (by omega)
        obtain ⟨bd, e2, hy0⟩ := ReadsInt.at_ (ReadsInt.of_C (Kd.C_below HB.out HW.out)) j (by omega) (by omega)
        subst e; subst e2
        simp only [Int.toNat_natCast] at hx0 hy0
        have HT := Aside0.mk (take_next hlt hlt2 HE.out)
        have h1 : rd a (j : Int) = a.getD j 0 := by rw [rd, Int.toNat_natCast]
        have h2 : rd b (j : Int) = b.getD j 0 := by rw [rd, Int.toNat_natCast]
        rw [h1] at hx0
        rw [h2] at hy0
        have HNE : Aside0 (a.getD j 0 ≠ b.getD j 0 → a ≠ b) := ⟨fun h e => h (by rw [e])⟩
        clear h1 h2
        generalize a.getD j 0 = x at hx0 HT HNE
        generalize b.getD j 0 = y at hy0 HT HNE
        have hlz : (j : Int) < (a.length : Int) := by omega
        have hlz2 : (j : Int) < (b.length : Int) := by omega
        cases hxy : decide (x < y) with
        | true =>
          have HN : Aside0 (a ≠ b) := ⟨HNE.out (by have := of_decide_eq_true hxy; omega)⟩
          go_wp2_with fail
          go_quiet (fail)
          go_wp2_with fail
          go_ret
          exact ⟨⟨-1, rfl, ⟨fun h => by omega, fun h => absurd h HN.out⟩⟩, pw_below_drewN HW.out _⟩
        | false =>
          cases hyx : decide (y < x) with
          | true =>
            have HN : Aside0 (a ≠ b) := ⟨HNE.out (by have := of_decide_eq_true hyx; omega)⟩
            go_wp2_with fail
            go_quiet (fail)
            go_wp2_with fail
            go_quiet (fail)
            go_wp2_with fail
            go_ret
            exact ⟨⟨1, rfl, ⟨fun h => by omega, fun h => absurd h HN.out⟩⟩, pw_below_drewN (pw_below_drewN HW.out _) _⟩
          | false =>
            have HQ : Aside0 (a.take (j + 1) = b.take (j + 1)) := ⟨HT.out.2 (by have := of_decide_eq_false hxy; have := of_decide_eq_false hyx; omega)⟩
            go_wp2_with fail
            go_quiet (fail)
            go_wp2_with fail
            go_quiet (fail)
            go_wp2_with fail
            go_roundw
            case rel => exact ⟨j + 1, by first | rfl | go_num, by omega, by omega, HQ, ⟨by first | exact pw_below_drewN HW.out _ | exact pw_below_drewN (pw_below_drewN HW.out _) _⟩⟩
            case measure => simp [intOf]; omega
      · have HN : Aside0 (a ≠ b) := ⟨fun h => by rw [h] at hlt; omega⟩
        have hlz : (b.length : Int) < (a.length : Int) := by omega
        go_wp2_with fail
        go_ret
        exact ⟨⟨1, rfl, ⟨fun h => by omega, fun h => absurd h HN.out⟩⟩, HW.out⟩
    · by_cases hlt2 : a.length < b.length
      · have HN : Aside0 (a ≠ b) := ⟨fun h => by rw [h] at hlt2; omega⟩
        have hlz : (a.length : Int) < (b.length : Int) := by omega
        go_wp2_with fail
        go_ret
        exact ⟨⟨-1, rfl, ⟨fun h => by omega, fun h => absurd h HN.out⟩⟩, HW.out⟩
      · have HQ : Aside0 (a = b) := ⟨by
          have h := HE.out
          rwa [List.take_of_length_le (by omega), List.take_of_length_le (by omega)] at h⟩
        have hge : ¬ (b.length : Int) < (a.length : Int) := by omega
        go_wp2_with fail
        go_ret
        exact ⟨⟨0, rfl, ⟨fun _ => HQ.out, fun _ => rfl⟩⟩, HW.out⟩

set_option maxRecDepth 100000 in
set_option maxHeartbeats 8000000 in
theorem refEqual_any (A B : Option Addr) (ca cb : Nat) (a b : List Int) (w : World) (ha : Kd.C (Kd.int .i64) w A a.length a) (hb : Kd.C (Kd.int .i64) w B b.length b) (hl : a.length ≤ 1000000000) (hl2 : b.length ≤ 1000000000) :
    Calls Tryd.prog 8 #[.slice A a.length ca, .slice B b.length cb] w fun e w' => e = .returned (.bool (decide (a = b))) ∧ Below w.heap.size w w' := by
  have HC := Aside0.mk (refCompare_any A B ca cb a b w ha hb hl hl2)
  clear ha hb
  go_enter Tryd.func8, Tryd.ntmps8
  go_wp2_with fail
  refine HC.out.mono ?_
  rintro e w' ⟨⟨v, rfl, hv⟩, hb1⟩
  have HV : Aside0 (decide (a = b) = (v == 0)) := ⟨by rw [Bool.eq_iff_iff]; simp [hv]⟩
  clear hv
  go_wp2_with fail
  go_ret
  exact ⟨by rw [HV.out]; rfl, hb1⟩
end Go.Proofs.YtipedgkampafjaaDoor.Rf
/- Tells what Small means for the lengths. -/
namespace Go.Proofs.YtipedgkampafjaaDoor.Rf
open Go.Shelf Go.RowKit Go.Proofs.YtipedgkampafjaaDoorW.PrintWords Go.Proofs.YtipedgkampafjaaDoorW.PrintLast Go.Proofs.YtipedgkampafjaaDoorW.PrintMore

/-- A Bool that, if true, says p. -/
def BoolImp (e : Ending) (p : Prop) : Prop := ∃ b, e = .returned (.bool b) ∧ (b = true → p)
set_option maxRecDepth 100000 in
set_option maxHeartbeats 8000000 in
theorem small11_any (A : Option Addr) (c : Nat) (xs : List S43) (w : World) (hr : Kd.C k43 w A xs.length xs) (hl : xs.length ≤ 9223372036854775807) :
    Calls Tryd.prog 13 #[.slice A xs.length c] w fun e w' => BoolImp e (xs.length ≤ 20) ∧ Below w.heap.size w w' := by
  have HR := Aside0.mk hr
  clear hr
  go_enter Tryd.func13, Tryd.ntmps13
  go_wp2_with fail
  go_loopw [3] (fun v wr => ∃ j : Nat, v = .int .i64 (j : Int) ∧ j ≤ 30 ∧ j ≤ xs.length ∧ Aside0 (Below w.heap.size w wr)) (fun v _ => 30 - (intOf v).toNat)
  case atStart => exact ⟨0, rfl, by omega, by omega, ⟨Below.refl _ _⟩⟩
  case round =>
    obtain ⟨j, rfl, hj, hj2, HB⟩ := hrel
    by_cases hlt : j < xs.length
    · by_cases h30 : j < 30
      · obtain ⟨ad, A1, c1, e, hx0, hx1, hx2, hl1, hi1⟩ := at_T43 (Kd.C_below HR.out HB.out) (j : Int) (by omega) (by omega)
        subst e
        clear hl1 hi1
        simp only [Int.toNat_natCast] at hx0 hx1 hx2
        generalize rd_T43 xs (j : Int) = x at hx0 hx1 hx2
        have hlz : (j : Int) < (xs.length : Int) := by omega
        cases h1 : decide ((65 : Int) < (x.f1.length : Int)) with
        | true =>
          go_wp2_with fail
          go_ret
          exact ⟨⟨false, rfl, fun h => by cases h⟩, HB.out⟩
        | false =>
          cases h2 : decide ((40 : Int) < (x.f2.size : Int)) with
          | true =>
            go_wp2_with fail
            go_ret
            exact ⟨⟨false, rfl, fun h => by cases h⟩, HB.out⟩
          | false =>
            go_wp2_with fail
            go_roundw
            case rel => exact ⟨j + 1, by first | rfl | go_num, by omega, by omega, HB⟩
            case measure => simp [intOf]; omega
      · have h30' : ¬ (j : Int) < 30 := by omega
        go_wp2_with fail
        go_ret
        exact ⟨⟨decide ((xs.length : Int) ≤ 20), rfl, fun h => by have := of_decide_eq_true h; omega⟩, HB.out⟩
    · go_wp2_with fail
      go_ret
      exact ⟨⟨decide ((xs.length : Int) ≤ 20), rfl, fun h => by have := of_decide_eq_true h; omega⟩, HB.out⟩

theorem small20_any (A : Option Addr) (c n : Nat) (w : World) : Calls Tryd.prog 12 #[.slice A n c] w fun e w' => e = .returned (.bool (decide ((n : Int) ≤ 16))) ∧ Below w.heap.size w w' := by
  go_enter Tryd.func12, Tryd.ntmps12
  go_wp2_with fail
  go_ret
  exact ⟨rfl, Below.refl _ _⟩
theorem small02_any (A : Option Addr) (c n : Nat) (w : World) : Calls Tryd.prog 14 #[.agg #[.slice A n c]] w fun e w' => e = .returned (.bool (decide ((n : Int) ≤ 12))) ∧ Below w.heap.size w w' := by
  go_enter Tryd.func14, Tryd.ntmps14
  go_wp2_with fail
  go_ret
  exact ⟨rfl, below_alloc (Below.refl _ _) _⟩

set_option maxRecDepth 100000 in
set_option maxHeartbeats 8000000 in
theorem small_any (Ac Ad Ax : Option Addr) (cc cd cx : Nat) (cl : List S71) (dm : List S43) (ex : List RR) (w : World)
    (hrd : Kd.C k43 w Ad dm.length dm) (hld : dm.length ≤ 9223372036854775807) :
    Calls Tryd.prog 5 #[.agg #[.slice Ac cl.length cc, .slice Ad dm.length cd, .slice Ax ex.length cx]] w fun e w' => BoolImp e (cl.length ≤ 16 ∧ dm.length ≤ 20 ∧ ex.length ≤ 12) ∧ Below w.heap.size w w' := by
  have HR := Aside0.mk hrd
  have HL := Aside0.mk hld
  clear hrd hld
  have hb : Below w.heap.size w (w.alloc (.cells #[.slice Ac cl.length cc, .slice Ad dm.length cd, .slice Ax ex.length cx] 28)) := below_alloc (Below.refl _ _) _
  have x1 : (w.alloc (.cells #[.slice Ac cl.length cc, .slice Ad dm.length cd, .slice Ax ex.length cx] 28)).cell? ⟨w.heap.size, 1, none⟩ = some (.slice Ad dm.length cd) := by simp
  have x2 : (w.alloc (.cells #[.slice Ac cl.length cc, .slice Ad dm.length cd, .slice Ax ex.length cx] 28)).cell? ⟨w.heap.size, 2, none⟩ = some (.slice Ax ex.length cx) := by simp
  have HB := Aside0.mk hb
  clear hb
  cases h1 : decide ((cl.length : Int) ≤ 16) with
  | false =>
    go_enter Tryd.func5, Tryd.ntmps5
    go_wp2_with fail
    refine (small20_any Ac cc cl.length _).mono ?_
    rintro e w1 ⟨rfl, hb1⟩
    rw [h1]
    go_wp2_with fail
    go_ret
    exact ⟨⟨false, rfl, fun h => by cases h⟩, below_step HB.out hb1⟩
  | true =>
    go_enter Tryd.func5, Tryd.ntmps5
    go_wp2_with fail
    refine (small20_any Ac cc cl.length _).mono ?_
    rintro e w1 ⟨rfl, hb1⟩
    rw [h1]
    have k1 : w1.cell? ⟨w.heap.size, 1, none⟩ = some (.slice Ad dm.length cd) := by rw [hb1.cell (cell_lt x1)]; exact x1
    have k2 : w1.cell? ⟨w.heap.size, 2, none⟩ = some (.slice Ax ex.length cx) := by rw [hb1.cell (cell_lt x2)]; exact x2
    have HB1 := Aside0.mk (below_step HB.out hb1)
    clear hb1
    go_wp2_with fail
    refine (small11_any Ad cd dm w1 (Kd.C_below HR.out HB1.out) HL.out).mono ?_
    rintro e w2 ⟨⟨b, rfl, hbt⟩, hb2⟩
    have HBT := Aside0.mk hbt
    have m2 : w2.cell? ⟨w.heap.size, 2, none⟩ = some (.slice Ax ex.length cx) := by rw [hb2.cell (cell_lt k2)]; exact k2
    have HB2 := Aside0.mk (below_step HB1.out hb2)
    clear hbt hb2
    cases b with
    | false =>
      go_wp2_with fail
      go_ret
      exact ⟨⟨false, rfl, fun h => by cases h⟩, HB2.out⟩
    | true =>
      go_wp2_with fail
      refine (small02_any Ax cx ex.length _).mono ?_
      rintro e w3 ⟨rfl, hb3⟩
      have HB3 := Aside0.mk (below_step HB2.out hb3)
      clear hb3
      go_wp2_with fail
      go_ret
      exact ⟨⟨decide ((ex.length : Int) ≤ 12), rfl, fun h => ⟨by have := of_decide_eq_true h1; omega, HBT.out (by simp), by first | (have := of_decide_eq_true h; omega) | (simp at h; omega)⟩⟩, HB3.out⟩
end Go.Proofs.YtipedgkampafjaaDoor.Rf
/- The data of the chapter's first example. -/
namespace Go.Proofs.YtipedgkampafjaaDoor.Rf
open Go.Shelf Go.RowKit Go.Proofs.YtipedgkampafjaaDoorW.PrintWords Go.Proofs.YtipedgkampafjaaDoorW.PrintLast Go.Proofs.YtipedgkampafjaaDoorW.PrintMore

def dm1 : S43 := ⟨226, [97, 770], ⟨#[]⟩⟩
def dm2 : S43 := ⟨7845, [226, 769], ⟨#[]⟩⟩
def dmA : List S43 := [dm1, dm2]

theorem lastA (c : Int) : lastM dmA c = if c = 7845 then some dm2 else if c = 226 then some dm1 else none := by
  show lastM ([dm1] ++ [dm2]) c = _
  rw [lastM_snoc]
  show (if c = 7845 then _ else lastM ([] ++ [dm1]) c) = _
  rw [lastM_snoc]
  rfl
theorem emptyA : dm1.f2.toList.isEmpty = true ∧ dm2.f2.toList.isEmpty = true := by
  constructor <;> (show (ByteArray.toList ⟨#[]⟩).isEmpty = true; rw [Lib.toList_data]; rfl)
theorem onceA (cp : Bool) (c : Int) : onceS dmA cp c = if hk c < 4 then (if c = 7845 then some [226, 769] else if c = 226 then some [97, 770] else none) else some (hdec c) := by
  unfold onceS
  rw [lastA]
  split
  · by_cases h1 : c = 7845
    · rw [if_pos h1, if_pos h1]; simp only [emptyA.2]; rfl
    · rw [if_neg h1, if_neg h1]
      by_cases h2 : c = 226
      · rw [if_pos h2, if_pos h2]; simp only [emptyA.1]; rfl
      · rw [if_neg h2, if_neg h2]
  · rfl
theorem leafA (cp : Bool) {c : Int} (h : hk c < 4) (h1 : c ≠ 7845) (h2 : c ≠ 226) : onceS dmA cp c = none := by
  rw [onceA, if_pos h, if_neg h1, if_neg h2]
theorem once226 (cp : Bool) : onceS dmA cp 226 = some [97, 770] := by rw [onceA, if_pos (by decide)]; rfl
theorem once7845 (cp : Bool) : onceS dmA cp 7845 = some [226, 769] := by rw [onceA, if_pos (by decide)]; rfl
theorem endLeaf (cp : Bool) {c : Int} (h : hk c < 4) (h1 : c ≠ 7845) (h2 : c ≠ 226) : Ends dmA cp c :=
  Acc.intro c fun y ⟨tl, hy, _⟩ => by rw [leafA cp h h1 h2] at hy; cases hy
theorem end226 (cp : Bool) : Ends dmA cp 226 := Acc.intro _ fun y ⟨tl, hy, hm⟩ => by
  rw [once226] at hy
  cases hy
  simp only [List.mem_cons, List.not_mem_nil, or_false] at hm
  rcases hm with rfl | rfl
  · exact endLeaf cp (by decide) (by decide) (by decide)
  · exact endLeaf cp (by decide) (by decide) (by decide)
theorem end7845 (cp : Bool) : Ends dmA cp 7845 := Acc.intro _ fun y ⟨tl, hy, hm⟩ => by
  rw [once7845] at hy
  cases hy
  simp only [List.mem_cons, List.not_mem_nil, or_false] at hm
  rcases hm with rfl | rfl
  · exact end226 cp
  · exact endLeaf cp (by decide) (by decide) (by decide)
theorem keysA {c : Int} {m : S43} (h : lastM dmA c = some m) : c = 7845 ∨ c = 226 := by
  rw [lastA] at h
  by_cases h1 : c = 7845
  · exact Or.inl h1
  · rw [if_neg h1] at h
    by_cases h2 : c = 226
    · exact Or.inr h2
    · rw [if_neg h2] at h; cases h
theorem allEndsA : AllEnds dmA := fun c m h => by
  rcases keysA h with rfl | rfl
  · exact end7845 true
  · exact end226 true
theorem shortA (cp : Bool) : ¬ TooLong dmA cp := by
  rintro ⟨L, hL, c, m, h, h2⟩
  have l97 : L 97 = 1 := hL.1 _ (leafA cp (by decide) (by decide) (by decide))
  have l770 : L 770 = 1 := hL.1 _ (leafA cp (by decide) (by decide) (by decide))
  have l769 : L 769 = 1 := hL.1 _ (leafA cp (by decide) (by decide) (by decide))
  have l226 : L 226 = 2 := by rw [hL.2.1 226 _ (once226 cp)]; simp [sat, l97, l770]; omega
  have l7845 : L 7845 = 3 := by rw [hL.2.1 7845 _ (once7845 cp)]; simp [sat, l226, l769]; omega
  rcases keysA h with rfl | rfl <;> omega
theorem mapA : mapChkO dmA = 0 := by
  have h1 : dmA.any badCodes = false := by decide
  have h2 : dmA.any badSize = false := by decide
  have h3 : dmA.any badName = false := by simp [dmA, badName, emptyA.1, emptyA.2]
  have h4 : twice (dmA.map keyM) = false := by
    simp [dmA, twice, keyM, hasB, dm1, dm2]
  have h5 : mapChk dmA = 0 := by unfold mapChk; rw [h1, h2, h3, h4]; rfl
  have h6 : sortedB ltMap dmA = true := by
    have : ordM dm2 dm1 = 1 := by
      unfold ordM orI
      rw [show cmpI dm2.f0 dm1.f0 = 1 by decide]
      rfl
    simp [dmA, sortedB, pairAny, ltMap, this]
  unfold mapChkO
  rw [h5, h6]; rfl
theorem kindsA : kindsE [] dmA = 0 := by
  have h1 : pairAny sameFrom dmA = false := by decide
  have h2 : dmA.any badKind = false := by simp [dmA, badKind, dm1, dm2]
  have h3 : dmA.any (badData []) = false := by
    simp only [dmA, List.any_cons, List.any_nil, badData, emptyA.1, emptyA.2, Bool.not_true, Bool.false_and, Bool.or_false]
    decide
  unfold kindsE; rw [h1, h2, h3]; rfl
theorem chkA : decChk [] dmA [] = 0 := by
  unfold decChk
  rw [if_neg (by decide), if_neg (by rw [mapA]; decide), if_neg (by decide), if_neg (by rw [kindsA]; decide), if_neg (fun h => h allEndsA), if_neg (fun h => h.elim (shortA true) (shortA false))]
theorem vdmA : vdm [] dmA [] = dmA := by unfold vdm; rw [if_pos chkA]
theorem goodA : Good dmA := by have := vdm_good [] dmA []; rwa [vdmA] at this
theorem fullA1 : fullS (vdm [] dmA []) false 7845 = [97, 770, 769] := by
  rw [vdmA]
  have h := goodA.full false
  have l97 := h.1 97 (leafA false (by decide) (by decide) (by decide))
  have l770 := h.1 770 (leafA false (by decide) (by decide) (by decide))
  have l769 := h.1 769 (leafA false (by decide) (by decide) (by decide))
  rw [h.2.1 7845 _ (once7845 false)]
  simp only [List.flatMap_cons, List.flatMap_nil, l769, h.2.1 226 _ (once226 false), l97, l770]
  rfl
theorem fullA2 : fullS (vdm [] dmA []) true 44033 = [4352, 4449, 4520] := by
  rw [vdmA]
  have h := goodA.full true
  have l0 := h.1 4352 (leafA true (by decide) (by decide) (by decide))
  have l1 := h.1 4449 (leafA true (by decide) (by decide) (by decide))
  have l2 := h.1 4520 (leafA true (by decide) (by decide) (by decide))
  have ho : onceS dmA true 44033 = some [4352, 4449, 4520] := by rw [onceA, if_neg (by decide)]; rfl
  rw [h.2.1 44033 _ ho]
  simp only [List.flatMap_cons, List.flatMap_nil, l0, l1, l2]
  rfl
end Go.Proofs.YtipedgkampafjaaDoor.Rf
/- Tells that the example is alive. -/
namespace Go.Proofs.YtipedgkampafjaaDoor.Rf
open Go.Shelf Go.RowKit Go.Proofs.YtipedgkampafjaaDoorW.PrintWords Go.Proofs.YtipedgkampafjaaDoorW.PrintLast Go.Proofs.YtipedgkampafjaaDoorW.PrintMore

theorem C_two {w : World} {b : Nat} {x y : Int} (h0 : w.cell? ⟨b, 0, none⟩ = some (.int .i64 x)) (h1 : w.cell? ⟨b, 1, none⟩ = some (.int .i64 y)) : (Kd.int .i64).C w (some ⟨b, 0, none⟩) 2 [x, y] :=
  C_row (l := [x, y]) (by simp) fun j hj => by
    simp only [List.length_cons, List.length_nil] at hj
    obtain rfl | rfl : j = 0 ∨ j = 1 := by omega
    · simpa [Addr.add] using h0
    · simpa [Addr.add] using h1
theorem C_three {w : World} {b : Nat} {x y z : Int} (h0 : w.cell? ⟨b, 0, none⟩ = some (.int .i64 x)) (h1 : w.cell? ⟨b, 1, none⟩ = some (.int .i64 y)) (h2 : w.cell? ⟨b, 2, none⟩ = some (.int .i64 z)) : (Kd.int .i64).C w (some ⟨b, 0, none⟩) 3 [x, y, z] :=
  C_row (l := [x, y, z]) (by simp) fun j hj => by
    simp only [List.length_cons, List.length_nil] at hj
    obtain rfl | rfl | rfl : j = 0 ∨ j = 1 ∨ j = 2 := by omega
    · simpa [Addr.add] using h0
    · simpa [Addr.add] using h1
    · simpa [Addr.add] using h2
/-- The world in which the example's data lies. -/
def aliveW (w : World) : World :=
  (((w.alloc (.cells #[.int .i64 97, .int .i64 770] 3)).alloc (.cells #[.int .i64 226, .int .i64 769] 3)).alloc
    (.cells #[.int .i64 226, .slice (some ⟨w.heap.size, 0, none⟩) 2 2, .string ⟨#[]⟩, .int .i64 7845, .slice (some ⟨w.heap.size + 1, 0, none⟩) 2 2, .string ⟨#[]⟩] 43)).alloc
    (.cells #[.slice none 0 0, .slice (some ⟨w.heap.size + 1 + 1, 0, none⟩) 2 2, .slice none 0 0] 28)
theorem aliveW_below (w : World) : Below w.heap.size w (aliveW w) := by
  unfold aliveW; exact below_alloc (below_alloc (below_alloc (below_alloc (Below.refl _ _) _) _) _) _
theorem aliveW_0 (w : World) (i : Nat) (v : Value) (h : (#[.int .i64 97, .int .i64 770] : Array Value)[i]? = some v) : (aliveW w).cell? ⟨w.heap.size, i, none⟩ = some v := by
  unfold aliveW
  refine cell_keep (cell_keep (cell_keep ?_ _) _) _
  rw [World.cell?_alloc_new]; exact h
theorem aliveW_1 (w : World) (i : Nat) (v : Value) (h : (#[.int .i64 226, .int .i64 769] : Array Value)[i]? = some v) : (aliveW w).cell? ⟨w.heap.size + 1, i, none⟩ = some v := by
  unfold aliveW
  refine cell_keep (cell_keep ?_ _) _
  rw [cell_new2]; exact h
theorem aliveW_2 (w : World) (i : Nat) (v : Value) (h : (#[.int .i64 226, .slice (some ⟨w.heap.size, 0, none⟩) 2 2, .string ⟨#[]⟩, .int .i64 7845, .slice (some ⟨w.heap.size + 1, 0, none⟩) 2 2, .string ⟨#[]⟩] : Array Value)[i]? = some v) : (aliveW w).cell? ⟨w.heap.size + 1 + 1, i, none⟩ = some v := by
  unfold aliveW
  refine cell_keep ?_ _
  rw [show w.heap.size + 1 + 1 = ((w.alloc (.cells #[.int .i64 97, .int .i64 770] 3)).alloc (.cells #[.int .i64 226, .int .i64 769] 3)).heap.size by simp, World.cell?_alloc_new]; exact h
theorem aliveW_3 (w : World) (i : Nat) (v : Value) (h : (#[.slice none 0 0, .slice (some ⟨w.heap.size + 1 + 1, 0, none⟩) 2 2, .slice none 0 0] : Array Value)[i]? = some v) : (aliveW w).cell? ⟨w.heap.size + 1 + 1 + 1, i, none⟩ = some v := by
  unfold aliveW
  rw [show w.heap.size + 1 + 1 + 1 = (((w.alloc (.cells #[.int .i64 97, .int .i64 770] 3)).alloc (.cells #[.int .i64 226, .int .i64 769] 3)).alloc
    (.cells #[.int .i64 226, .slice (some ⟨w.heap.size, 0, none⟩) 2 2, .string ⟨#[]⟩, .int .i64 7845, .slice (some ⟨w.heap.size + 1, 0, none⟩) 2 2, .string ⟨#[]⟩] 43)).heap.size by simp, World.cell?_alloc_new]; exact h
theorem aliveW_C (w : World) : Kd.C k43 (aliveW w) (some ⟨w.heap.size + 1 + 1, 0, none⟩) 2 dmA := by
  have c1 : (Kd.int .i64).C (aliveW w) (some ⟨w.heap.size, 0, none⟩) 2 [97, 770] := C_two (aliveW_0 w 0 _ rfl) (aliveW_0 w 1 _ rfl)
  have c2 : (Kd.int .i64).C (aliveW w) (some ⟨w.heap.size + 1, 0, none⟩) 2 [226, 769] := C_two (aliveW_1 w 0 _ rfl) (aliveW_1 w 1 _ rfl)
  have hz : Kd.sz k43 = 3 := rfl
  refine ⟨rfl, by omega, fun _ => ⟨⟨w.heap.size + 1 + 1, 0, none⟩, rfl, fun j p hj => ?_⟩⟩
  match j, hj with
  | 0, hj =>
    cases hj
    refine ⟨_, rfl, k43_mk (aliveW w) dm1 (A1 := some ⟨w.heap.size, 0, none⟩) (c1 := 2) (by simp [dm1]) c1, fun i u hu => ?_⟩
    rw [hz, Addr.add_lit]
    match i, hu with
    | 0, hu => cases hu; exact aliveW_2 w 0 _ rfl
    | 1, hu => cases hu; exact aliveW_2 w 1 _ rfl
    | 2, hu => cases hu; exact aliveW_2 w 2 _ rfl
  | 1, hj =>
    cases hj
    refine ⟨_, rfl, k43_mk (aliveW w) dm2 (A1 := some ⟨w.heap.size + 1, 0, none⟩) (c1 := 2) (by simp [dm2]) c2, fun i u hu => ?_⟩
    rw [hz, Addr.add_lit]
    match i, hu with
    | 0, hu => cases hu; exact aliveW_2 w 3 _ rfl
    | 1, hu => cases hu; exact aliveW_2 w 4 _ rfl
    | 2, hu => cases hu; exact aliveW_2 w 5 _ rfl
set_option maxRecDepth 100000 in
set_option maxHeartbeats 8000000 in
theorem alive_any (w : World) (hG : GL w) : Calls Tryd.prog 6 #[] w fun e w' => e = .returned (.bool true) ∧ Below w.heap.size w w' := by
  have HG := Aside0.mk (GL.below hG (aliveW_below w))
  have HB := Aside0.mk (aliveW_below w)
  have HC := Aside0.mk (aliveW_C w)
  have HX : Aside0 (∀ i v, (#[.slice none 0 0, .slice (some ⟨w.heap.size + 1 + 1, 0, none⟩) 2 2, .slice none 0 0] : Array Value)[i]? = some v → (aliveW w).cell? ⟨w.heap.size + 1 + 1 + 1, i, none⟩ = some v) := ⟨aliveW_3 w⟩
  have hW : aliveW w = (((w.alloc (.cells #[.int .i64 97, .int .i64 770] 3)).alloc (.cells #[.int .i64 226, .int .i64 769] 3)).alloc
    (.cells #[.int .i64 226, .slice (some ⟨w.heap.size, 0, none⟩) 2 2, .string ⟨#[]⟩, .int .i64 7845, .slice (some ⟨w.heap.size + 1, 0, none⟩) 2 2, .string ⟨#[]⟩] 43)).alloc
    (.cells #[.slice none 0 0, .slice (some ⟨w.heap.size + 1 + 1, 0, none⟩) 2 2, .slice none 0 0] 28) := rfl
  have HWW := Aside0.mk hW
  clear hG hW
  generalize aliveW w = W at HG HB HC HX HWW
  go_enter Tryd.func6, Tryd.ntmps6
  go_wp2_with fail
  rw [← HWW.out]
  refine (decCheck_any none (some ⟨w.heap.size + 1 + 1, 0, none⟩) none 0 2 0 [] dmA [] W HG.out (Kd.C_nil _ _) (by simp) (by simp) HC.out (by simp [dmA]) (by simp [dmA]) (Kd.C_nil _ _) (by simp) (by simp)).mono ?_
  rintro e w1 ⟨rfl, hb1⟩
  rw [chkA]
  have a0 : w1.cell? ⟨w.heap.size + 1 + 1 + 1, 0, none⟩ = some (.slice none 0 0) := by rw [hb1.cell (cell_lt (HX.out 0 _ rfl))]; exact HX.out 0 _ rfl
  have a1 : w1.cell? ⟨w.heap.size + 1 + 1 + 1, 1, none⟩ = some (.slice (some ⟨w.heap.size + 1 + 1, 0, none⟩) 2 2) := by rw [hb1.cell (cell_lt (HX.out 1 _ rfl))]; exact HX.out 1 _ rfl
  have a2 : w1.cell? ⟨w.heap.size + 1 + 1 + 1, 2, none⟩ = some (.slice none 0 0) := by rw [hb1.cell (cell_lt (HX.out 2 _ rfl))]; exact HX.out 2 _ rfl
  have HB1 := Aside0.mk (below_step HB.out hb1)
  have HG1 := Aside0.mk (GL.below HG.out hb1)
  have HC1 := Aside0.mk (Kd.C_below HC.out hb1)
  clear hb1
  go_wp2_with fail
  refine (dchar_any none (some ⟨w.heap.size + 1 + 1, 0, none⟩) none 0 2 0 [] dmA [] 7845 false w1 HG1.out (Kd.C_nil _ _) (by simp) (by simp) HC1.out (by simp [dmA]) (by simp [dmA]) (Kd.C_nil _ _) (by simp) (by simp) (by unfold inR; omega)).mono ?_
  rintro e w2 ⟨⟨A2, c2, rfl, hl2, hC2⟩, hb2⟩
  rw [fullA1] at hl2 hC2 ⊢
  have b0 : w2.cell? ⟨w.heap.size + 1 + 1 + 1, 0, none⟩ = some (.slice none 0 0) := by rw [hb2.cell (cell_lt a0)]; exact a0
  have b1 : w2.cell? ⟨w.heap.size + 1 + 1 + 1, 1, none⟩ = some (.slice (some ⟨w.heap.size + 1 + 1, 0, none⟩) 2 2) := by rw [hb2.cell (cell_lt a1)]; exact a1
  have b2 : w2.cell? ⟨w.heap.size + 1 + 1 + 1, 2, none⟩ = some (.slice none 0 0) := by rw [hb2.cell (cell_lt a2)]; exact a2
  have HB2 := Aside0.mk (below_step HB1.out hb2)
  have HG2 := Aside0.mk (GL.below HG1.out hb2)
  have HC2 := Aside0.mk (Kd.C_below HC1.out hb2)
  have HR2 := Aside0.mk hC2
  clear hl2 hC2 hb2
  go_wp2_with fail
  refine (refEqual_any A2 (some ⟨w2.heap.size, 0, none⟩) c2 3 [97, 770, 769] [97, 770, 769] _ (Kd.C_alloc HR2.out _) (C_three (by simp) (by simp) (by simp)) (by simp) (by simp)).mono ?_
  rintro e w3 ⟨rfl, hb3⟩
  rw [show decide (([97, 770, 769] : List Int) = [97, 770, 769]) = true from rfl]
  have hb3' := below_step (below_alloc (Below.refl w2.heap.size w2) (.cells #[.int .i64 97, .int .i64 770, .int .i64 769] 3)) hb3
  have d0 : w3.cell? ⟨w.heap.size + 1 + 1 + 1, 0, none⟩ = some (.slice none 0 0) := by rw [hb3'.cell (cell_lt b0)]; exact b0
  have d1 : w3.cell? ⟨w.heap.size + 1 + 1 + 1, 1, none⟩ = some (.slice (some ⟨w.heap.size + 1 + 1, 0, none⟩) 2 2) := by rw [hb3'.cell (cell_lt b1)]; exact b1
  have d2 : w3.cell? ⟨w.heap.size + 1 + 1 + 1, 2, none⟩ = some (.slice none 0 0) := by rw [hb3'.cell (cell_lt b2)]; exact b2
  have HB3 := Aside0.mk (below_step HB2.out hb3')
  have HG3 := Aside0.mk (GL.below HG2.out hb3')
  have HC3 := Aside0.mk (Kd.C_below HC2.out hb3')
  clear hb3 hb3'
  go_wp2_with fail
  refine (dchar_any none (some ⟨w.heap.size + 1 + 1, 0, none⟩) none 0 2 0 [] dmA [] 44033 true w3 HG3.out (Kd.C_nil _ _) (by simp) (by simp) HC3.out (by simp [dmA]) (by simp [dmA]) (Kd.C_nil _ _) (by simp) (by simp) (by unfold inR; omega)).mono ?_
  rintro e w4 ⟨⟨A4, c4, rfl, hl4, hC4⟩, hb4⟩
  rw [fullA2] at hl4 hC4 ⊢
  have HB4 := Aside0.mk (below_step HB3.out hb4)
  have HR4 := Aside0.mk hC4
  clear hl4 hC4 hb4
  go_wp2_with fail
  refine (refEqual_any A4 (some ⟨w4.heap.size, 0, none⟩) c4 3 [4352, 4449, 4520] [4352, 4449, 4520] _ (Kd.C_alloc HR4.out _) (C_three (by simp) (by simp) (by simp)) (by simp) (by simp)).mono ?_
  rintro e w5 ⟨rfl, hb5⟩
  rw [show decide (([4352, 4449, 4520] : List Int) = [4352, 4449, 4520]) = true from rfl]
  go_wp2_with fail
  go_ret
  exact ⟨rfl, below_step (below_alloc HB4.out _) hb5⟩
end Go.Proofs.YtipedgkampafjaaDoor.Rf
