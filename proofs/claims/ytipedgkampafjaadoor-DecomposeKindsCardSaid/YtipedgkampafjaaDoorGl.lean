import Derived.Test.YtipedgkampafjaaDoorGj
import Derived.Test.YtipedgkampafjaaDoorGb
import Derived.RangeFuncNested
import Derived.RangeFuncBound
import Derived.RangeFuncCalls
import Derived.RangeFuncLeaves
import Derived.Shelf.Abstract
import Derived.Shelf.RegionOpen
import Derived.OwnWalkIn
import Derived.TacticsInMore
import Derived.LoopNIn
import Derived.LoopIn
import Derived.Sort.QuietTacIn
import Derived.Test.YtipedgkampafjaaDoorGc
import Derived.Outline
/- Tells that a class finder only reads, and that the comparison of two numbers by class does so, too. -/
namespace Go.Proofs.YtipedgkampafjaaDoor.Rf
open Go.Shelf Go.RowKit Go.Lib Go.Sort Go.Proofs.YtipedgkampafjaaDoorW.PrintWords Go.Proofs.YtipedgkampafjaaDoorW.PrintLast Go.Proofs.YtipedgkampafjaaDoorW.PrintMore

/-- A world behind draws and new blocks. -/
def Grown (w w' : World) : Prop := ∃ q os, w' = grow (w.drewN q) os
theorem Grown.refl (w : World) : Grown w w := ⟨0, #[], by rw [grow_empty]; rfl⟩
theorem Grown.trans {a b c : World} (h : Grown a b) (k : Grown b c) : Grown a c := by
  obtain ⟨q, os, rfl⟩ := h
  obtain ⟨q', os', rfl⟩ := k
  exact ⟨q + q', os ++ os', by show grow (grow ((a.drewN q).drewN q') os) os' = _; rw [grow_grow, World.drewN_drewN]⟩
theorem Grown.alloc (w : World) (o : Obj) : Grown w (w.alloc o) := ⟨0, #[o], (alloc_eq_grow w o)⟩
theorem Grown.drewN (w : World) (q : Nat) : Grown w (w.drewN q) := ⟨q, #[], by rw [grow_empty]⟩
theorem Grown.below {w w' : World} (h : Grown w w') : Below w.heap.size w w' := by
  obtain ⟨q, os, rfl⟩ := h
  exact below_grown_sl _ _ _ _ (Nat.le_refl _)

set_option maxRecDepth 100000 in
set_option maxHeartbeats 8000000 in
theorem finder2_g (A : Option Addr) (cp : Nat) (xs : List S71) (c : Int) (p : Addr) (w : World) (h0 : ordChk xs = 0) (hr : Kd.C k71 w A xs.length xs) (hl : xs.length < 4611686018427387904) (hp : w.cell? p = some (.slice A xs.length cp)) :
    Calls Tryd.prog 51 #[.int .i64 c, .pointer (some p)] w fun e w' => e = .returned (.int .i64 (cls xs c)) ∧ Grown w w' := by
  have eg : ∀ args w, (callFunc 53 args).run Tryd.prog w = .ok (.enter 53 args) w := enters_of Tryd.func53 (by kernel_rfl) rfl
  have HCL := Lib.hid (show cls xs c = (if srch xs c < xs.length then (if (xs.getD (srch xs c) z71).f0 ≤ c then (xs.getD (srch xs c) z71).f2 else 0) else 0) by rw [cls, if_pos h0])
  have HR := Aside0.mk hr
  have HP := Aside0.mk hp
  have hpb : p.block < w.heap.size := cell_lt hp
  have hS : Calls Tryd.prog 52 #[.int .i64 xs.length, .func (.func 53) #[] #[.pointer (some p), .pointer (some ⟨w.heap.size, 0, none⟩)]] (w.alloc (.cells #[.int .i64 c] 3)) fun e w' => e = .returned (.int .i64 (srch xs c : Nat)) ∧ Aside0 (Grown w w') ∧ Below w.heap.size w w' ∧ w'.cell? ⟨w.heap.size, 0, none⟩ = some (.int .i64 c) := by
    refine (Any.sort_Search Tryd.search 53 #[.pointer (some p), .pointer (some ⟨w.heap.size, 0, none⟩)] xs.length (fun i => decide (c ≤ (xs.getD i z71).f1)) (w.alloc (.cells #[.int .i64 c] 3)) eg hl (fun m os i hi => ?_) (spans_mono h0 c)).mono ?_
    · have hb : Below (w.alloc (.cells #[.int .i64 c] 3)).heap.size (w.alloc (.cells #[.int .i64 c] 3)) (Sort.grow ((w.alloc (.cells #[.int .i64 c] 3)).drewN m) os) := below_grown_sl _ _ _ _ (Nat.le_refl _)
      refine (finder21_any A cp xs c i p ⟨w.heap.size, 0, none⟩ _ hi (Kd.C_below (Kd.C_alloc HR.out _) hb) (by omega) ?_ ?_).mono ?_
      · rw [hb.cell (by simp; omega), ← HP.out]; exact (below_alloc (Below.refl w.heap.size w) _).cell hpb
      · rw [hb.cell (by simp)]; simp
      · rintro e w' ⟨h1, q, h2⟩
        exact ⟨h1, q, #[], by rw [h2, grow_nil]⟩
    · rintro e w' ⟨h1, q, os, h2⟩
      have hb : Below (w.alloc (.cells #[.int .i64 c] 3)).heap.size (w.alloc (.cells #[.int .i64 c] 3)) w' := by rw [h2]; exact below_grown_sl _ _ _ _ (Nat.le_refl _)
      exact ⟨h1, ⟨(Grown.alloc w _).trans ⟨q, os, h2⟩⟩, below_step (below_alloc (Below.refl _ _) _) hb, by rw [hb.cell (by simp)]; simp⟩
  have HS := Aside0.mk hS
  clear hS eg hr hp
  generalize srch xs c = k at HCL HS
  have k1 : (w.alloc (.cells #[.int .i64 c] 3)).cell? p = some (.slice A xs.length cp) := by
    rw [← HP.out]; exact (below_alloc (Below.refl w.heap.size w) _).cell hpb
  have HB := Aside0.mk hpb
  clear hpb
  by_cases h1 : k < xs.length
  · rw [if_pos h1] at HCL
    go_enter Tryd.func51, Tryd.ntmps51
    go_wp2_with fail
    refine HS.out.mono ?_
    rintro e w' ⟨rfl, HG, hb1, hq⟩
    have HB1 := Aside0.mk hb1
    have k2 : w'.cell? p = some (.slice A xs.length cp) := by rw [HB1.out.cell HB.out, HP.out]
    obtain ⟨ad, e, hx0, hx1, hx2⟩ := at_T71 (Kd.C_below HR.out hb1) (k : Int) (by omega) (by omega)
    subst e
    clear hb1
    simp only [Int.toNat_natCast] at hx0 hx1 hx2
    have HX : Aside0 (rd_T71 xs (k : Int) = xs.getD k z71) := ⟨rfl⟩
    rw [← HX.out] at HCL
    generalize rd_T71 xs (k : Int) = x at hx0 hx1 hx2 HX HCL
    cases h2 : decide (x.f0 ≤ c) with
    | true =>
      rw [if_pos (of_decide_eq_true h2)] at HCL
      go_wp2_with fail
      go_quiet (fail)
      go_wp2_with fail
      go_ret
      exact ⟨ret_int (by rw [HCL.out]), HG.out.trans (Grown.drewN _ _)⟩
    | false =>
      rw [if_neg (of_decide_eq_false h2)] at HCL
      go_wp2_with fail
      go_quiet (fail)
      go_wp2_with fail
      go_ret
      exact ⟨ret_int (by rw [HCL.out]), HG.out.trans (Grown.drewN _ _)⟩
  · rw [if_neg h1] at HCL
    go_enter Tryd.func51, Tryd.ntmps51
    go_wp2_with fail
    refine HS.out.mono ?_
    rintro e w' ⟨rfl, HG, hb1, hq⟩
    have HB1 := Aside0.mk hb1
    have k2 : w'.cell? p = some (.slice A xs.length cp) := by rw [HB1.out.cell HB.out, HP.out]
    clear hb1
    go_wp2_with fail
    go_quiet (fail)
    go_wp2_with fail
    go_ret
    exact ⟨ret_int (by rw [HCL.out]), HG.out.trans (Grown.drewN _ _)⟩
theorem finder1_g (c : Int) (w : World) : Calls Tryd.prog 50 #[.int .i64 c] w fun e w' => e = .returned (.int .i64 0) ∧ Grown w w' := by
  go_enter Tryd.func50, Tryd.ntmps50
  go_wp2_with fail
  go_ret
  exact ⟨rfl, Grown.refl _⟩

/-- A function value that tells classes and only reads, from a world on. -/
def ClassG (w : World) (g : Nat) (cb : Array Value) (cl : Int → Int) : Prop :=
  (∀ args w, (callFunc g args).run Tryd.prog w = .ok (.enter g args) w) ∧ ∀ (W : World) (c : Int), Below w.heap.size w W → Calls Tryd.prog g (#[.int .i64 c] ++ cb) W fun e w' => e = .returned (.int .i64 (cl c)) ∧ Grown W w'
theorem ClassG.below {w w' : World} {g : Nat} {cb : Array Value} {cl : Int → Int} (h : ClassG w g cb cl) (hb : Below w.heap.size w w') : ClassG w' g cb cl :=
  ⟨h.1, fun W c hW => h.2 W c (below_step hb hW)⟩
theorem ordChk_nz {xs : List S71} (h0 : ordChk xs ≠ 0) : ordChk xs = 1 ∨ ordChk xs = 4 ∨ ordChk xs = 11 := by
  unfold ordChk at h0 ⊢; repeat' split
  all_goals simp_all

set_option maxRecDepth 100000 in
set_option maxHeartbeats 8000000 in
theorem finder_g (A : Option Addr) (cp : Nat) (xs : List S71) (w : World) (hG : GL w) (hr : Kd.C k71 w A xs.length xs) (hc : xs.length ≤ cp) (hl : xs.length < 4611686018427387904) :
    Calls Tryd.prog 30 #[.slice A xs.length cp] w fun e w' => (∃ g cb, e = .returned (.func (.func g) #[] cb) ∧ ClassG w' g cb (cls xs)) ∧ Below w.heap.size w w' := by
  have HR := Aside0.mk hr
  have HO := Aside0.mk (ordCheck_any A cp xs (w.alloc (.cells #[.slice A xs.length cp] 22)) (GL.below hG (below_alloc (Below.refl _ _) _)) (Kd.C_alloc hr _) hc (by omega))
  clear hr hG
  by_cases h0 : ordChk xs = 0
  · rw [h0] at HO
    go_enter Tryd.func30, Tryd.ntmps30
    go_wp2_with fail
    refine HO.out.mono ?_
    rintro e w' ⟨rfl, hb1⟩
    go_wp2_with fail
    go_ret
    refine ⟨⟨51, _, rfl, enters_of Tryd.func51 (by kernel_rfl) rfl, fun W c hW => ?_⟩, below_step (below_alloc (Below.refl _ _) _) hb1⟩
    have hb2 := below_step hb1 hW
    refine finder2_g A cp xs c ⟨w.heap.size, 0, none⟩ W h0 (Kd.C_below (Kd.C_alloc HR.out _) hb2) hl ?_
    rw [hb2.cell (by simp)]; simp
  · have hcases := ordChk_nz h0
    have HCL := Aside0.mk (show cls xs = fun _ => 0 by funext c; rw [cls, if_neg h0])
    generalize cls xs = cl at HCL ⊢
    clear h0
    go_enter Tryd.func30, Tryd.ntmps30
    go_wp2_with fail
    refine HO.out.mono ?_
    rintro e w' ⟨rfl, hb1⟩
    rcases hcases with h | h | h
    all_goals
      rw [h]
      go_wp2_with fail
      go_ret
      refine ⟨⟨50, _, rfl, enters_of Tryd.func50 (by kernel_rfl) rfl, fun W c hW => ?_⟩, below_step (below_alloc (Below.refl _ _) _) hb1⟩
      rw [HCL.out]
      exact finder1_g c W

theorem cmpInt_g (a b : Int) (w : World) : Calls Tryd.prog 34 #[.int .i64 a, .int .i64 b] w fun e w' => e = .returned (.int .i64 (cmpI a b)) ∧ ∃ q os, w' = grow (w.drewN q) os :=
  (cmpInt_any a b w).mono fun e w' h => ⟨h.1, 0, #[], by rw [grow_empty, ← h.2]; rfl⟩
set_option maxRecDepth 100000 in
set_option maxHeartbeats 8000000 in
/-- Two numbers are compared by class. -/
theorem ordSort1_g (g : Nat) (cb : Array Value) (cl : Int → Int) (wb : World) (hC : ClassG wb g cb cl) (p : Addr) (x y : Int) (W : World) (hW : Below wb.heap.size wb W) (hp : W.cell? p = some (.func (.func g) #[] cb)) :
    Calls Tryd.prog 33 #[.int .i64 x, .int .i64 y, .pointer (some p)] W fun e w' => e = .returned (.int .i64 (cmpI (cl x) (cl y))) ∧ Grown W w' := by
  have mixed : Tryd.prog.follows .mixedOrders = true := by kernel_rfl
  obtain ⟨eg, h2⟩ := hC
  have hpb : p.block < W.heap.size := cell_lt hp
  have hpg := Go.cell_grown hpb hp
  have HX := Aside0.mk (fun n os => h2 (grow (W.drewN n) os) x (below_step hW (below_grown_sl _ _ _ _ (Nat.le_refl _))))
  have HY := Aside0.mk (fun n os => h2 (grow (W.drewN n) os) y (below_step hW (below_grown_sl _ _ _ _ (Nat.le_refl _))))
  clear h2 hpb hp hW
  generalize cl x = kx at HX
  generalize cl y = ky at HY
  go_enter Tryd.func33, Tryd.ntmps33
  go_wp2_with fail
  go_quiet_grown (first | (go_at_call 34; exact Calls.grown_of (cmpInt_g _ _ _)) | (go_at_fn g; first | exact Calls.grown_of (HX.out _ _) | exact Calls.grown_of (HY.out _ _)))
  go_wp2_with fail
  go_ret
  exact ⟨rfl, _, _, rfl⟩
end Go.Proofs.YtipedgkampafjaaDoor.Rf
/- Tells, in plain Lean, what the runs of a text are, and that a text whose runs are sorted one after the other is in canonical order. -/
namespace Go.Proofs.YtipedgkampafjaaDoor.Rf
open Go.Sort

/-- How many elements at the head of a text are no starters. -/
def runLen (cl : Int → Int) : List Int → Nat
  | [] => 0
  | x :: l => if cl x ≠ 0 then runLen cl l + 1 else 0
theorem runLen_le (cl : Int → Int) : ∀ (l : List Int), runLen cl l ≤ l.length
  | [] => Nat.le_refl _
  | x :: l => by unfold runLen; split <;> simp [runLen_le cl l]
theorem runLen_in (cl : Int → Int) : ∀ (l : List Int) (i : Nat), i < runLen cl l → cl (l.getD i 0) ≠ 0
  | [], i, h => by simp [runLen] at h
  | x :: l, i, h => by
    unfold runLen at h
    split at h
    · rename_i hx
      cases i with
      | zero => simpa using hx
      | succ i => simpa using runLen_in cl l i (by omega)
    · omega
theorem runLen_end (cl : Int → Int) : ∀ (l : List Int), runLen cl l < l.length → cl (l.getD (runLen cl l) 0) = 0
  | [], h => by simp [runLen] at h
  | x :: l, h => by
    unfold runLen at h ⊢
    split at h
    · rename_i hx
      rw [if_pos hx]
      simpa using runLen_end cl l (by simpa using h)
    · rename_i hx
      rw [if_neg hx]
      simpa using hx
/-- The runs of a text that begins at a place. -/
def runsL (cl : Int → Int) (pos : Nat) (l : List Int) : List (Nat × Nat) :=
  if h : l = [] then [] else (if runLen cl l = 0 then [] else [(pos, pos + runLen cl l)]) ++ runsL cl (pos + runLen cl l + 1) (l.drop (runLen cl l + 1))
termination_by l.length
decreasing_by
  have := List.length_pos_iff.2 h
  simp only [List.length_drop]
  omega
theorem runsL_nil (cl : Int → Int) (pos : Nat) : runsL cl pos [] = [] := by rw [runsL, dif_pos rfl]
theorem runsL_cons (cl : Int → Int) (pos : Nat) {l : List Int} (h : l ≠ []) : runsL cl pos l = (if runLen cl l = 0 then [] else [(pos, pos + runLen cl l)]) ++ runsL cl (pos + runLen cl l + 1) (l.drop (runLen cl l + 1)) := by rw [runsL, dif_neg h]

/-- Ranges of a row are sorted, one after the other. -/
def ApplyR (cl : Int → Int) : List (Nat × Nat) → Array Int → Array Int → Prop
  | [], d, e => e = d
  | (a, b) :: r, d, e => ∃ f, StIn cl a b d f ∧ SortedIn (ltK cl) a b f ∧ ApplyR cl r f e
theorem ApplyR.snoc {cl : Int → Int} {a b : Nat} {f e : Array Int} (h1 : StIn cl a b f e) (h2 : SortedIn (ltK cl) a b e) : ∀ {r : List (Nat × Nat)} {d : Array Int}, ApplyR cl r d f → ApplyR cl (r ++ [(a, b)]) d e
  | [], d, h => by cases h; exact ⟨e, h1, h2, rfl⟩
  | (x, y) :: r, d, ⟨g, g1, g2, g3⟩ => ⟨g, g1, g2, ApplyR.snoc h1 h2 g3⟩
theorem ApplyR.size {cl : Int → Int} {e : Array Int} : ∀ {r : List (Nat × Nat)} {d : Array Int}, ApplyR cl r d e → e.size = d.size
  | [], d, h => by cases h; rfl
  | (x, y) :: r, d, ⟨g, g1, g2, g3⟩ => (ApplyR.size g3).trans g1.size
theorem seg_toList {d : Array Int} {P S : List Int} (l : List Int) (h : d.toList = P ++ l ++ S) : seg d P.length (P.length + l.length) = l := by
  apply List.ext_getElem
  · rw [seg_length]; omega
  · intro i h1 h2
    rw [seg_get _ _ _ _ (by omega)]
    have hd : d = (P ++ l ++ S).toArray := by rw [← h]
    subst hd
    rw [List.getElem!_toArray, List.getElem!_eq_getElem?_getD, List.append_assoc, List.getElem?_append_right (by omega), List.getElem?_append_left (by omega), List.getElem?_eq_getElem (by omega)]
    simp
theorem toList_seg {d e : Array Int} {a b : Nat} (hs : e.size = d.size) (ho : ∀ i, i < a ∨ b ≤ i → e[i]! = d[i]!) (h1 : a ≤ b) (h2 : b ≤ d.size) {P l S : List Int} (h : d.toList = P ++ l ++ S) (ha : a = P.length) (hb : b = P.length + l.length) :
    e.toList = P ++ seg e a b ++ S := by
  have e1 : e.toList = seg e 0 a ++ seg e a b ++ seg e b e.size := by rw [← seg_append e 0 a b (by omega) h1, ← seg_append e 0 b e.size (by omega) (by omega), seg_all]
  have e2 : d.toList = seg d 0 a ++ seg d a b ++ seg d b d.size := by rw [← seg_append d 0 a b (by omega) h1, ← seg_append d 0 b d.size (by omega) (by omega), seg_all]
  have e3 : seg e 0 a = seg d 0 a := seg_congr fun i _ hi => ho i (.inl hi)
  have e4 : seg e b e.size = seg d b d.size := by rw [hs]; exact seg_congr fun i hi _ => ho i (.inr hi)
  rw [h] at e2
  have e5 := List.append_inj e2 (by simp [seg_length]; omega)
  have e6 := List.append_inj e5.1 (by simp [seg_length]; omega)
  rw [e1, e3, e4, ← e6.1, ← e5.2]
theorem take_runLen (cl : Int → Int) (l : List Int) : ∀ y ∈ l.take (runLen cl l), cl y ≠ 0 := by
  intro y hy
  obtain ⟨i, hi, rfl⟩ := List.mem_iff_getElem.1 hy
  have h1 : i < runLen cl l := by simp at hi; omega
  have h2 := runLen_in cl l i h1
  have h3 : i < l.length := Nat.lt_of_lt_of_le h1 (runLen_le cl l)
  rw [List.getElem_take]
  rwa [List.getD_eq_getElem?_getD, List.getElem?_eq_getElem h3] at h2
/-- The runs, sorted one after the other: canonical order. -/
theorem applyR_csort (cl : Int → Int) : ∀ (n : Nat) (l P : List Int) (d e : Array Int), l.length ≤ n → d.toList = P ++ l → ApplyR cl (runsL cl P.length l) d e → e.toList = P ++ csort cl l
  | 0, l, P, d, e, hn, hd, h => by
    have : l = [] := List.eq_nil_of_length_eq_zero (by omega)
    subst this
    rw [runsL_nil] at h
    cases h
    simpa [csort] using hd
  | n + 1, l, P, d, e, hn, hd, h => by
    by_cases hl : l = []
    · subst hl
      rw [runsL_nil] at h
      cases h
      simpa [csort] using hd
    · rw [runsL_cons cl P.length hl] at h
      have hk := runLen_le cl l
      have hpos := List.length_pos_iff.2 hl
      -- behind the first run
      have key : ∃ f : Array Int, f.toList = P ++ csort cl (l.take (runLen cl l)) ++ l.drop (runLen cl l) ∧ ApplyR cl (runsL cl (P.length + runLen cl l + 1) (l.drop (runLen cl l + 1))) f e := by
        by_cases h0 : runLen cl l = 0
        · rw [if_pos h0] at h
          refine ⟨d, ?_, by simpa using h⟩
          rw [h0]; simpa [csort] using hd
        · rw [if_neg h0] at h
          obtain ⟨f, g1, g2, g3⟩ := h
          refine ⟨f, ?_, by simpa using g3⟩
          have hd2 : d.toList = P ++ l.take (runLen cl l) ++ l.drop (runLen cl l) := by rw [List.append_assoc, List.take_append_drop]; exact hd
          have hlen : (l.take (runLen cl l)).length = runLen cl l := by simp; omega
          have hsz : d.size = P.length + l.length := by rw [← Array.length_toList, hd]; simp
          have e0 := toList_seg g1.size g1.out (by omega) (by omega) hd2 rfl (by omega)
          have e1 := seg_toList (l.take (runLen cl l)) hd2
          rw [hlen] at e1
          rw [e0, csort_run cl g1 g2 (by rw [e1]; exact take_runLen cl l), e1]
      obtain ⟨f, hf, hr⟩ := key
      by_cases hend : runLen cl l = l.length
      · rw [show l.drop (runLen cl l + 1) = [] by simp; omega, runsL_nil] at hr
        cases hr
        rw [hf, hend]
        simp
      · have hlt : runLen cl l < l.length := by omega
        have hz := runLen_end cl l hlt
        have hs : l.drop (runLen cl l) = l.getD (runLen cl l) 0 :: l.drop (runLen cl l + 1) := by
          rw [List.drop_eq_getElem_cons hlt, List.getD_eq_getElem?_getD, List.getElem?_eq_getElem hlt]; rfl
        rw [hs] at hf
        have h4 := applyR_csort cl n (l.drop (runLen cl l + 1)) (P ++ csort cl (l.take (runLen cl l)) ++ [l.getD (runLen cl l) 0]) f e (by simp; omega) (by rw [hf]; simp) (by
          have hlen : (P ++ csort cl (l.take (runLen cl l)) ++ [l.getD (runLen cl l) 0]).length = P.length + runLen cl l + 1 := by simp [csort_length]; omega
          rw [hlen]; exact hr)
        rw [h4]
        have h5 : csort cl l = csort cl (l.take (runLen cl l)) ++ l.getD (runLen cl l) 0 :: csort cl (l.drop (runLen cl l + 1)) := by
          rw [← csort_split cl hz, ← hs, List.take_append_drop]
        rw [h5]
        simp
end Go.Proofs.YtipedgkampafjaaDoor.Rf
/- Tells what the iterator over the runs of a text yields. -/
namespace Go.Proofs.YtipedgkampafjaaDoor.Rf
open Go.Shelf Go.RowKit Go.Lib Go.Sort Go.Proofs.YtipedgkampafjaaDoorW.PrintWords Go.Proofs.YtipedgkampafjaaDoorW.PrintLast Go.Proofs.YtipedgkampafjaaDoorW.PrintMore
attribute [local go_sem] Oper.semAt_some

theorem wpIn_region_quiet_grown {F : Fence} {n : Nat} {P : Program} {id : Nat} {Q : Exit → Act → World → Prop} {a : Act} {w : World} {l : List Oper} (hro : F.round = none) (hm : P.follows .mixedOrders = true) (hB : Region.lexB .any l.toArray = true)
    (h : wpQuietIn F n P l.toArray (fun w' => ∃ p : GrownBy, w' = grow (w.drewN p.n) p.os) (fun a' => ∀ w', (∃ p : GrownBy, w' = grow (w.drewN p.n) p.os) → Q .normal a' w') l a) : (Code.region id l.toArray true).wpIn F n P Q a w :=
  wpIn_region_quiet (C := fun w' => ∃ p : GrownBy, w' = grow (w.drewN p.n) p.os) hro hm hB ⟨⟨1, #[]⟩, by rw [grow_empty]; rfl⟩ (by simpa using h)

/-- Below a block's number all but one block are as they were. -/
structure KB (n0 blk : Nat) (A B : World) : Prop where
  os : B.os = A.os
  tape : B.tape = A.tape
  output : B.output = A.output
  size : A.heap.size ≤ B.heap.size
  same : ∀ k, k < n0 → k ≠ blk → B.heap[k]? = A.heap[k]?
theorem KB.refl (n0 blk : Nat) (A : World) : KB n0 blk A A := ⟨rfl, rfl, rfl, Nat.le_refl _, fun _ _ _ => rfl⟩
theorem KB.trans {n0 blk : Nat} {A B C : World} (h : KB n0 blk A B) (k : KB n0 blk B C) : KB n0 blk A C :=
  ⟨k.os.trans h.os, k.tape.trans h.tape, k.output.trans h.output, Nat.le_trans h.size k.size, fun i h1 h2 => (k.same i h1 h2).trans (h.same i h1 h2)⟩
theorem KB.of_below {n0 blk : Nat} {A B : World} (h : Below n0 A B) : KB n0 blk A B := ⟨h.os, h.tape, h.output, h.size, fun k h1 _ => h.block k h1⟩
theorem KB.below {n0 m blk : Nat} {A B : World} (h : KB n0 blk A B) (h1 : m ≤ n0) (h2 : m ≤ blk) : Below m A B := ⟨h.os, h.tape, h.output, h.size, fun k hk => h.same k (by omega) (by omega)⟩
theorem KB.cell {n0 blk : Nat} {A B : World} (h : KB n0 blk A B) {a : Addr} (h1 : a.block < n0) (h2 : a.block ≠ blk) : B.cell? a = A.cell? a := by
  unfold World.cell?
  rw [h.same _ h1 h2]
/-- What the iterator reads. -/
structure RC (wb : World) (g : Nat) (cb : Array Value) (text : List Int) (At : Option Addr) (ct : Nat) (pt pc : Addr) (W : World) : Prop where
  cT : W.cell? pt = some (.slice At text.length ct)
  cC : W.cell? pc = some (.func (.func g) #[] cb)
  reads : 0 < text.length → ∃ ad, At = some ad ∧ ∀ j, j < text.length → W.cell? (ad.add j) = some (.int .i64 (text.getD j 0))
  below : Below wb.heap.size wb W
theorem RC.kb {n0 blk : Nat} {wb : World} {g : Nat} {cb : Array Value} {text : List Int} {At : Option Addr} {ct : Nat} {pt pc : Addr} {W W' : World} (h : RC wb g cb text At ct pt pc W) (k : KB n0 blk W W')
    (h1 : pt.block < n0 ∧ pt.block ≠ blk) (h2 : pc.block < n0 ∧ pc.block ≠ blk) (h3 : ∀ ad, At = some ad → 0 < text.length → ad.block < n0 ∧ ad.block ≠ blk) (h4 : wb.heap.size ≤ n0 ∧ wb.heap.size ≤ blk) : RC wb g cb text At ct pt pc W' :=
  ⟨by rw [k.cell h1.1 h1.2]; exact h.cT, by rw [k.cell h2.1 h2.2]; exact h.cC, fun hp => by
    obtain ⟨ad, e, hr⟩ := h.reads hp
    have h5 := h3 ad e hp
    refine ⟨ad, e, fun j hj => ?_⟩
    have hbk : (ad.add j).block = ad.block := by unfold Addr.add; split <;> rfl
    rw [k.cell (by rw [hbk]; exact h5.1) (by rw [hbk]; exact h5.2)]; exact hr j hj, h.below.trans (k.below h4.1 h4.2)⟩
theorem RC.grown {wb : World} {g : Nat} {cb : Array Value} {text : List Int} {At : Option Addr} {ct : Nat} {pt pc : Addr} {W W' : World} (h : RC wb g cb text At ct pt pc W) (k : Below W.heap.size W W') : RC wb g cb text At ct pt pc W' :=
  ⟨by rw [k.cell (cell_lt h.cT)]; exact h.cT, by rw [k.cell (cell_lt h.cC)]; exact h.cC, fun hp => by
    obtain ⟨ad, e, hr⟩ := h.reads hp
    exact ⟨ad, e, fun j hj => by rw [k.cell (cell_lt (hr j hj))]; exact hr j hj⟩, h.below.trans (k.mono h.below.size)⟩
/-- A range of a text. -/
abbrev Rg (n : Nat) := { p : Nat × Nat // p.1 < p.2 ∧ p.2 ≤ n }
def rgV {n : Nat} (x : Rg n) : Array Value := #[.agg #[.int .i64 (x.1.1 : Nat), .int .i64 (x.1.2 : Nat)]]

set_option maxRecDepth 100000 in
set_option maxHeartbeats 16000000 in
theorem runs1_in (wb : World) (g : Nat) (cb : Array Value) (cl : Int → Int) (hC : ClassG wb g cb cl) (text : List Int) (hlen : text.length ≤ 1000000000) (At : Option Addr) (ct : Nat) (pt pc : Addr) (n0 blk : Nat)
    (h1 : pt.block < n0 ∧ pt.block ≠ blk) (h2 : pc.block < n0 ∧ pc.block ≠ blk) (h3 : ∀ ad, At = some ad → 0 < text.length → ad.block < n0 ∧ ad.block ≠ blk) (h4 : wb.heap.size ≤ n0 ∧ wb.heap.size ≤ blk) (m : Nat) (hm : 3 ≤ m)
    (l : Nat) (J Jx : List (Rg text.length) → World → Prop) (W : World) (B0 : Nat) (hJ : AbidesFrom B0 J)
    (hY : ∀ pre x W1, J pre W1 → pre.length < text.length → YieldAt Fence.wide (m - 1) Tryd.prog l (rgV x) W1 fun e W' => (e = .returned (.bool true) ∧ J (pre ++ [x]) W' ∧ KB n0 blk W1 W') ∨ (e = .returned (.bool false) ∧ Jx (pre ++ [x]) W'))
    (hR : RC wb g cb text At ct pt pc W) (h0 : J [] W) :
    CallsIn Fence.wide m Tryd.prog 54 #[.func (.yield l) #[] #[], .pointer (some pt), .pointer (some pc)] W fun e W' => (∃ v, e = .returned v) ∧ ((∃ xs, xs.map (·.1) = runsL cl 0 text ∧ J xs W') ∨ (∃ pre, True ∧ Jx pre W')) := by
  have mixed : Tryd.prog.follows .mixedOrders = true := by kernel_rfl
  have HRk := Aside0.mk (fun W W' (h : RC wb g cb text At ct pt pc W) (k : KB n0 blk W W') => h.kb k h1 h2 h3 h4)
  have HY := Aside0.mk hY
  have HC := Aside0.mk hC
  have HJ := Aside0.mk hJ
  have HR := Aside0.mk hR
  have H0 := Aside0.mk h0
  clear hY hC hJ hR h0 h1 h2 h3 h4
  refine callsIn_of_wp Tryd.func54 rfl trivial ?_ rfl
  simp only [Tryd.ntmps54, List.size_toArray, List.length_cons, List.length_nil, Nat.reduceAdd, Nat.reduceSub, Array.replicate_succ, Array.replicate_zero, List.push_toArray, List.append_toArray, List.nil_append, List.cons_append]
  gi_wp2_with fail
  gi_loopw [4] (fun i wr => ∃ (k : Nat) (pre : List (Rg text.length)), i = .int .i64 k ∧ k ≤ text.length + 1 ∧ Aside0 (pre.length ≤ k ∧ pre.map (·.1) ++ runsL cl k (text.drop k) = runsL cl 0 text) ∧ Aside0 (J pre wr) ∧ Aside0 (RC wb g cb text At ct pt pc wr)) (fun i _ => text.length + 1 - (intOf i).toNat)
  case atStart => exact ⟨0, [], rfl, by omega, ⟨Nat.le_refl _, by simp⟩, H0, HR⟩
  case round =>
    clear H0 HR
    obtain ⟨k, pre, rfl, hk, HP, HJ1, HR1⟩ := hrel
    have c1 := HR1.out.cT
    by_cases hlt : k < text.length
    · have hltz : (k : Int) < (text.length : Int) := by omega
      obtain ⟨R, hR⟩ : ∃ x, x = runLen cl (text.drop k) := ⟨_, rfl⟩
      have HRn := Aside0.mk hR
      have hRl : k + R ≤ text.length := by have := runLen_le cl (text.drop k); simp at this; omega
      clear hR
      gi_wp2_with fail
      gi_loopw [4] (fun i wr2 => ∃ (q : Nat), i = .int .i64 q ∧ k ≤ q ∧ q ≤ k + R ∧ Aside0 (J pre wr2) ∧ Aside0 (RC wb g cb text At ct pt pc wr2)) (fun i _ => text.length - (intOf i).toNat)
      case atStart => exact ⟨k, rfl, Nat.le_refl _, by omega, HJ1, HR1⟩
      case round =>
        clear HJ1 HR1 c1
        obtain ⟨q, rfl, hkq, hqR, HJ2, HR2⟩ := hrel
        have hgetd : (text.drop k).getD (q - k) 0 = text.getD q 0 := by
          rw [List.getD_eq_getElem?_getD, List.getD_eq_getElem?_getD, List.getElem?_drop, show k + (q - k) = q by omega]
        by_cases hqlt : q < text.length
        · have hqz : (q : Int) < (text.length : Int) := by omega
          obtain ⟨ad, hAt, hrd⟩ := HR2.out.reads (by omega)
          have hx := hrd q hqlt
          have hcx := Go.cell_grown (cell_lt hx) hx
          have hct := Go.cell_grown (cell_lt HR2.out.cT) HR2.out.cT
          have hcc := Go.cell_grown (cell_lt HR2.out.cC) HR2.out.cC
          subst hAt
          have HX := Aside0.mk (fun n os => HC.out.2 (grow (wr.drewN n) os) (text.getD q 0) ((RC.grown HR2.out (below_grown_sl _ _ _ _ (Nat.le_refl _))).below))
          have eg := HC.out.1
          have hv : (q < k + R → cl (text.getD q 0) ≠ 0) ∧ (q = k + R → cl (text.getD q 0) = 0) := by
            have h5 := HRn.out
            refine ⟨fun h => ?_, fun h => ?_⟩
            · rw [← hgetd]; exact runLen_in cl _ _ (by omega)
            · rw [← hgetd, show q - k = runLen cl (text.drop k) by omega]; exact runLen_end cl _ (by simp; omega)
          clear hrd hx hgetd
          generalize text.getD q 0 = x at hcx HX hv
          generalize cl x = v at HX hv
          by_cases hq2 : q < k + R
          · have hv1 : (v != 0) = true := by simp; exact hv.1 hq2
            clear hv
            gi_wp2_with fail
            refine wpIn_region_quiet_grown rfl (by kernel_rfl) (by kernel_rfl) ?_
            repeat (quiet_step_in (fail))
            refine wpQuietIn_step (by intro _ _ _ _; trivial) (fun K hK => ?_)
            go_simp
            refine ⟨_, fun p => ⟨fun _ => by omega, callsIn_wide.2 (Calls.grown_of (HX.out _ _))⟩, hK _ ?_⟩
            clear hK K
            repeat (quiet_step_in (fail))
            refine wpQuietIn_nil ?_
            intro _ hw'
            obtain ⟨⟨nq, osq⟩, hw''⟩ := hw'
            subst hw''
            have hbg : Below wr.heap.size wr (grow (wr.drewN nq) osq) := below_grown_sl _ _ _ _ (Nat.le_refl _)
            have HJ3 : Aside0 (J pre (grow (wr.drewN nq) osq)) := ⟨HJ.out _ _ _ none HJ2.out (grown_of_below hbg none) (fun r e => by cases e)⟩
            have HR3 := Aside0.mk (HR2.out.grown hbg)
            clear hbg HJ2 HR2 hcx hct hcc HX eg
            generalize grow (wr.drewN nq) osq = w3 at HJ3 HR3 ⊢
            clear nq osq
            gi_wp2_with fail
            go_roundw
            case rel => exact ⟨q + 1, by first | rfl | go_num, by omega, by omega, HJ3, HR3⟩
            case measure => simp [intOf]; omega
          · have hv1 : (v != 0) = false := by simp; exact hv.2 (by omega)
            clear hv
            gi_wp2_with fail
            refine wpIn_region_quiet_grown rfl (by kernel_rfl) (by kernel_rfl) ?_
            repeat (quiet_step_in (fail))
            refine wpQuietIn_step (by intro _ _ _ _; trivial) (fun K hK => ?_)
            go_simp
            refine ⟨_, fun p => ⟨fun _ => by omega, callsIn_wide.2 (Calls.grown_of (HX.out _ _))⟩, hK _ ?_⟩
            clear hK K
            repeat (quiet_step_in (fail))
            refine wpQuietIn_nil ?_
            intro _ hw'
            obtain ⟨⟨nq, osq⟩, hw''⟩ := hw'
            subst hw''
            have hbg : Below wr.heap.size wr (grow (wr.drewN nq) osq) := below_grown_sl _ _ _ _ (Nat.le_refl _)
            have HJ3 : Aside0 (J pre (grow (wr.drewN nq) osq)) := ⟨HJ.out _ _ _ none HJ2.out (grown_of_below hbg none) (fun r e => by cases e)⟩
            have HR3 := Aside0.mk (HR2.out.grown hbg)
            clear hbg HJ2 HR2 hcx hct hcc HX eg
            generalize grow (wr.drewN nq) osq = w3 at HJ3 HR3 ⊢
            clear nq osq
            have heq : q = k + R := by omega
            have HQ := Aside0.mk heq
            clear heq
            by_cases hR0 : k < q
            · have hkz : (k : Int) < (q : Int) := by omega
              have HL : Aside0 (pre.length ≤ k ∧ runsL cl k (text.drop k) = [(k, q)] ++ runsL cl (q + 1) (text.drop (q + 1))) := ⟨by
                refine ⟨HP.out.1, ?_⟩
                have h5 := HRn.out; have h6 := HQ.out
                rw [runsL_cons cl k (by intro e; have := congrArg List.length e; simp at this; omega), ← h5, if_neg (by omega), ← h6, List.drop_drop, show k + (R + 1) = q + 1 by omega]⟩
              obtain ⟨fn, tmps, assign, body, hy, hR5⟩ := HY.out pre ⟨(k, q), by show k < q; omega, by show q ≤ text.length; omega⟩ w3 HJ3.out (by have := HL.out.1; omega)
              dsimp only [rgV] at hy
              have HR5 := Aside0.mk hR5
              clear hR5
              gi_wp2_with fail
              refine ⟨fun _ => by omega, HR5.out.mono ?_⟩
              rintro e W4 (⟨rfl, hJ4, hk4⟩ | ⟨rfl, hJx4⟩)
              · have HR6 := Aside0.mk (HRk.out _ _ HR3.out hk4)
                have HJ4 := Aside0.mk hJ4
                clear hJ4 hk4 hy HR5
                gi_wp2_with fail
                go_roundw
                case rel => exact ⟨q + 1, pre ++ [⟨(k, q), by show k < q; omega, by show q ≤ text.length; omega⟩], by first | rfl | go_num, by omega, ⟨by have := HL.out.1; simp; omega, by rw [← HP.out.2, HL.out.2]; simp⟩, HJ4, HR6⟩
                case measure => simp [intOf]; omega
              · gi_wp2_with fail
                refine bodyPost_ret (results_none rfl _ _ _) rfl ?_
                exact ⟨⟨_, rfl⟩, .inr ⟨_, trivial, hJx4⟩⟩
            · have hkz : ¬ (k : Int) < (q : Int) := by omega
              have HL : Aside0 (runsL cl k (text.drop k) = runsL cl (q + 1) (text.drop (q + 1))) := ⟨by
                have h5 := HRn.out; have h6 := HQ.out
                rw [runsL_cons cl k (by intro e; have := congrArg List.length e; simp at this; omega), ← h5, if_pos (by omega), ← h6, List.drop_drop, List.nil_append, show k + (R + 1) = q + 1 by omega]⟩
              gi_wp2_with fail
              refine ⟨fun _ h => (by cases h), ?_⟩
              gi_wp2_with fail
              go_roundw
              case rel => exact ⟨q + 1, pre, by first | rfl | go_num, by omega, ⟨by have := HP.out.1; omega, by rw [← HP.out.2, HL.out]⟩, HJ3, HR3⟩
              case measure => simp [intOf]; omega
        · have hqz : ¬ (q : Int) < (text.length : Int) := by omega
          have hct := Go.cell_grown (cell_lt HR2.out.cT) HR2.out.cT
          clear hgetd
          gi_wp2_with fail
          refine wpIn_region_quiet_grown rfl (by kernel_rfl) (by kernel_rfl) ?_
          iterate 10 (quiet_step_in (fail))
          refine wpQuietIn_step (by intro _ _ _ _; trivial) (fun K hK => ?_)
          go_simp
          refine hK _ ?_
          clear hK K
          repeat (quiet_step_in (fail))
          refine wpQuietIn_nil ?_
          intro _ hw'
          obtain ⟨⟨nq, osq⟩, hw''⟩ := hw'
          subst hw''
          have hbg : Below wr.heap.size wr (grow (wr.drewN nq) osq) := below_grown_sl _ _ _ _ (Nat.le_refl _)
          have HJ3 : Aside0 (J pre (grow (wr.drewN nq) osq)) := ⟨HJ.out _ _ _ none HJ2.out (grown_of_below hbg none) (fun r e => by cases e)⟩
          have HR3 := Aside0.mk (HR2.out.grown hbg)
          clear hbg HJ2 HR2 hct
          generalize grow (wr.drewN nq) osq = w3 at HJ3 HR3 ⊢
          clear nq osq
          have heq : q = k + R := by omega
          have HQ := Aside0.mk heq
          clear heq
          by_cases hR0 : k < q
          · have hkz : (k : Int) < (q : Int) := by omega
            have HL : Aside0 (pre.length ≤ k ∧ runsL cl k (text.drop k) = [(k, q)] ++ runsL cl (q + 1) (text.drop (q + 1))) := ⟨by
              refine ⟨HP.out.1, ?_⟩
              have h5 := HRn.out; have h6 := HQ.out
              rw [runsL_cons cl k (by intro e; have := congrArg List.length e; simp at this; omega), ← h5, if_neg (by omega), ← h6, List.drop_drop, show k + (R + 1) = q + 1 by omega]⟩
            obtain ⟨fn, tmps, assign, body, hy, hR5⟩ := HY.out pre ⟨(k, q), by show k < q; omega, by show q ≤ text.length; omega⟩ w3 HJ3.out (by have := HL.out.1; omega)
            dsimp only [rgV] at hy
            have HR5 := Aside0.mk hR5
            clear hR5
            gi_wp2_with fail
            refine ⟨fun _ => by omega, HR5.out.mono ?_⟩
            rintro e W4 (⟨rfl, hJ4, hk4⟩ | ⟨rfl, hJx4⟩)
            · have HR6 := Aside0.mk (HRk.out _ _ HR3.out hk4)
              have HJ4 := Aside0.mk hJ4
              clear hJ4 hk4 hy HR5
              gi_wp2_with fail
              go_roundw
              case rel => exact ⟨q + 1, pre ++ [⟨(k, q), by show k < q; omega, by show q ≤ text.length; omega⟩], by first | rfl | go_num, by omega, ⟨by have := HL.out.1; simp; omega, by rw [← HP.out.2, HL.out.2]; simp⟩, HJ4, HR6⟩
              case measure => simp [intOf]; omega
            · gi_wp2_with fail
              refine bodyPost_ret (results_none rfl _ _ _) rfl ?_
              exact ⟨⟨_, rfl⟩, .inr ⟨_, trivial, hJx4⟩⟩
          · exfalso; omega
    · have hltz : ¬ (k : Int) < (text.length : Int) := by omega
      have HF : Aside0 (pre.map (·.1) = runsL cl 0 text) := ⟨by
        rw [← HP.out.2, List.drop_eq_nil_of_le (by omega), runsL_nil, List.append_nil]⟩
      gi_wp2_with fail
      go_end0
      exact ⟨⟨_, rfl⟩, .inl ⟨pre, HF.out, HJ1.out⟩⟩
end Go.Proofs.YtipedgkampafjaaDoor.Rf
/- Tells what ordering.Sort hands back: the text in canonical order. -/
namespace Go.Proofs.YtipedgkampafjaaDoor.Rf
open Go.Shelf Go.RowKit Go.Lib Go.Sort Go.Proofs.YtipedgkampafjaaDoorW.PrintWords Go.Proofs.YtipedgkampafjaaDoorW.PrintLast Go.Proofs.YtipedgkampafjaaDoorW.PrintMore
attribute [local go_sem] Oper.semAt_some

/-- A part of a row as a row. -/
def subA (d : Array Int) (lo n : Nat) : Array Int := Array.ofFn (n := n) fun i => d[lo + i.1]!
/-- A row with a part replaced. -/
def updA (d d' : Array Int) (lo : Nat) : Array Int := Array.ofFn (n := d.size) fun i => if lo ≤ i.1 ∧ i.1 < lo + d'.size then d'[i.1 - lo]! else d[i.1]!
theorem subA_size (d : Array Int) (lo n : Nat) : (subA d lo n).size = n := by simp [subA]
theorem updA_size (d d' : Array Int) (lo : Nat) : (updA d d' lo).size = d.size := by simp [updA]
theorem subA_get (d : Array Int) (lo n i : Nat) (h : i < n) : (subA d lo n)[i]! = d[lo + i]! := by
  rw [getElem!_pos _ i (by rw [subA_size]; exact h)]; simp [subA]
theorem updA_get (d d' : Array Int) (lo i : Nat) (h : i < d.size) : (updA d d' lo)[i]! = if lo ≤ i ∧ i < lo + d'.size then d'[i - lo]! else d[i]! := by
  rw [getElem!_pos _ i (by rw [updA_size]; exact h)]; simp [updA, getElem!_pos d i h]
theorem updA_out (d d' : Array Int) (lo i : Nat) (hi : i < lo ∨ lo + d'.size ≤ i) : (updA d d' lo)[i]! = d[i]! := by
  by_cases h : i < d.size
  · rw [updA_get _ _ _ _ h, if_neg (by omega)]
  · rw [getElem!_neg _ i (by rw [updA_size]; exact h), getElem!_neg _ i h]
theorem seg_updA (d d' : Array Int) (lo : Nat) (h : lo + d'.size ≤ d.size) : seg (updA d d' lo) lo (lo + d'.size) = seg d' 0 d'.size := by
  apply List.ext_getElem
  · simp [seg_length]
  · intro i h1 h2
    rw [seg_length] at h1 h2
    rw [seg_get _ _ _ _ (by omega), seg_get _ _ _ _ (by omega), updA_get _ _ _ _ (by omega), if_pos (by omega)]
    congr 1; omega
theorem seg_subA (d : Array Int) (lo n : Nat) : seg (subA d lo n) 0 n = seg d lo (lo + n) := by
  apply List.ext_getElem
  · simp [seg_length]
  · intro i h1 h2
    rw [seg_length] at h1 h2
    rw [seg_get _ _ _ _ (by omega), seg_get _ _ _ _ (by omega), subA_get _ _ _ _ (by omega)]
    congr 1; omega
theorem updA_st {cl : Int → Int} {d d' : Array Int} {lo n : Nat} (hn : lo + n ≤ d.size) (h1 : StIn cl 0 n (subA d lo n) d') (h2 : SortedIn (ltK cl) 0 n d') : StIn cl lo (lo + n) d (updA d d' lo) ∧ SortedIn (ltK cl) lo (lo + n) (updA d d' lo) := by
  have hs : d'.size = n := by rw [h1.size, subA_size]
  refine ⟨⟨updA_size _ _ _, fun i hi => updA_out _ _ _ _ (by omega), fun k => ?_⟩, fun i j hi hij hj => ?_⟩
  · have e1 := seg_updA d d' lo (by omega)
    rw [hs] at e1
    rw [e1, h1.keys k, seg_subA]
  · rw [updA_get _ _ _ _ (by omega), updA_get _ _ _ _ (by omega), if_pos (by omega), if_pos (by omega)]
    exact h2 _ _ (by omega) (by omega) (by omega)

/-- A sort turns one block alone. -/
theorem grownBy_sortWorld (W : World) (blk off m : Nat) (d : Array Int) (os : Array Obj) : W.grownBy (sortWorld (Value.int .i64) W blk off m d os) (some blk) := by
  refine ⟨rfl, rfl, rfl, by simp [sortWorld, grow, putRow, mapBlock, Sort.ahead], fun k hk hne => ?_⟩
  have hne' : blk ≠ k := fun e => hne (by rw [e])
  show ((putRow (Value.int .i64) (Sort.ahead W m) blk off d).heap ++ os)[k]? = _
  rw [Array.getElem?_append_left (by simp [Sort.ahead]; exact hk)]
  show (W.heap.modify blk _)[k]? = _
  rw [Array.getElem?_modify, if_neg hne']
theorem holds_updA {W : World} {blk : Nat} {d d' : Array Int} {lo m : Nat} {os : Array Obj} (hblk : blk < W.heap.size) (h : Holds (Value.int .i64) W blk 0 d) (hs : lo + d'.size ≤ d.size) : Holds (Value.int .i64) (sortWorld (Value.int .i64) W blk lo m d' os) blk 0 (updA d d' lo) := by
  intro j hj
  rw [updA_size] at hj
  have hb2 : blk < (putRow (Value.int .i64) (Sort.ahead W m) blk lo d').heap.size := by simp [Sort.ahead]; exact hblk
  have h0 : Holds (Value.int .i64) (Sort.ahead W m) blk lo (subA d lo d'.size) := by
    intro i hi
    rw [subA_size] at hi
    have h5 := h (lo + i) (by omega)
    rw [Nat.zero_add] at h5
    rw [subA_get _ _ _ _ hi]
    exact h5
  unfold sortWorld
  rw [cell?_grow _ _ _ hb2, frozen?_grow _ _ _ hb2, updA_get _ _ _ _ hj]
  by_cases hin : lo ≤ j ∧ j < lo + d'.size
  · rw [if_pos hin]
    have h6 := holds_putRow (Value.int .i64) (Sort.ahead W m) blk lo _ d' h0 (by rw [subA_size]) (j - lo) (by omega)
    rw [show lo + (j - lo) = 0 + j by omega] at h6
    exact h6
  · rw [if_neg hin]
    have h5 := h j hj
    refine ⟨?_, ?_⟩
    · rw [cell?_putRow_other _ _ _ _ _ _ (by simp; omega)]; exact h5.1
    · rw [frozen?_putRow]; exact h5.2

set_option maxRecDepth 100000 in
set_option maxHeartbeats 4000000 in
theorem runs_any (fv : Value) (hfv : fv.oneCell' = true) (A : Option Addr) (n c : Nat) (w : World) : Calls Tryd.prog 31 #[fv, .slice A n c] w fun e w' => e = .returned (.func (.func 54) #[] #[.pointer (some ⟨w.heap.size + 1, 0, none⟩), .pointer (some ⟨w.heap.size, 0, none⟩)]) ∧ w' = (w.alloc (.cells #[fv] 61)).alloc (.cells #[.slice A n c] 31) := by
  go_enter Tryd.func31, Tryd.ntmps31
  go_wp2_with fail
  go_ret
  exact ⟨rfl, rfl⟩
theorem rowI_holds {w : World} {base : Nat} {v : Value} {xs : List Int} (h : RowI w base v xs) (hbase : base ≤ w.heap.size) (hl : xs.length ≤ 1000000) : ∃ VA vc blk, v = .slice VA xs.length vc ∧ xs.length ≤ vc ∧ vc ≤ 9223372036854775807 ∧ base ≤ blk ∧ (blk < w.heap.size ∨ w.heap.size + 10 ≤ blk) ∧ (0 < xs.length → VA = some ⟨blk, 0, none⟩ ∧ blk < w.heap.size) ∧ Holds (Value.int .i64) w blk 0 xs.toArray := by
  by_cases h0 : xs.length = 0
  · have : xs = [] := List.eq_nil_of_length_eq_zero h0
    subst this
    rcases h.2 with ⟨rfl, _⟩ | ⟨g, cap, cur, rfl, hb, hg, hn, hm, hs, hc⟩
    · exact ⟨none, 0, w.heap.size + 10, rfl, by simp, by omega, by omega, by omega, fun h => by simp at h, fun j hj => by simp at hj⟩
    · exact ⟨some ⟨g, 0, none⟩, cap, w.heap.size + 10, rfl, by simp, by unfold maxLen at hm; omega, by omega, by omega, fun h => by simp at h, fun j hj => by simp at hj⟩
  · rcases h.2 with ⟨rfl, h1⟩ | ⟨g, cap, cur, rfl, hb, hg, hn, hm, hs, hc⟩
    · exact absurd h1 h0
    · have hgl : g < w.heap.size := (Array.getElem?_eq_some_iff.1 hg).1
      refine ⟨some ⟨g, 0, none⟩, cap, g, rfl, hn, by unfold maxLen at hm; omega, hb, .inl hgl, fun _ => ⟨rfl, hgl⟩, fun j hj => ?_⟩
      have hj' : j < xs.length := by simpa using hj
      have e1 : (cur.toList.take (xs.length * 1))[j]? = (nums .i64 xs)[j]? := by rw [hc]
      rw [List.getElem?_take, if_pos (by omega), Array.getElem?_toList] at e1
      refine ⟨?_, ?_⟩
      · simp only [World.cell?, hg, Nat.zero_add, Option.isSome_none, Bool.false_eq_true, if_false]
        rw [e1]
        simp [nums, List.getElem?_eq_getElem hj', getElem!_pos, hj']
      · simp [World.frozen?, hg]

/-- What a row holds, as a row that is handed back. -/
theorem holds_C {w : World} {VA : Option Addr} {blk : Nat} {d : Array Int} (h : Holds (Value.int .i64) w blk 0 d) (hv : 0 < d.size → VA = some ⟨blk, 0, none⟩) (hl : d.size ≤ 1000000) : Kd.C (Kd.int .i64) w VA d.toList.length d.toList := by
  by_cases h0 : d.size = 0
  · have : d.toList = [] := List.eq_nil_of_length_eq_zero (by simpa using h0)
    rw [this]
    exact ⟨rfl, by simp, fun h => by simp at h⟩
  · rw [hv (by omega)]
    refine C_row (by simp; omega) fun j hj => ?_
    have hj' : j < d.size := by simpa using hj
    have h1 := (h j hj').1
    simp only [Addr.add_lit]
    rw [h1, List.getD_eq_getElem?_getD, Array.getElem?_toList, getElem!_def]
    cases d[j]? <;> rfl

/-- Between two rounds: the ranges that have come are sorted, all else is as it was. -/
def SortI (cl : Int → Int) (text : List Int) (blk : Nat) (w5 : World) (pre : List (Nat × Nat)) (W : World) : Prop :=
  ∃ d, ApplyR cl pre text.toArray d ∧ KB w5.heap.size blk w5 W ∧ Holds (Value.int .i64) W blk 0 d
theorem sortI_own {β : Type} (f : β → List (Nat × Nat)) (cl : Int → Int) (text : List Int) (blk : Nat) (w5 : World) : OwnFrom w5.heap.size (fun (s : β) W => SortI cl text blk w5 (f s) W) := by
  rintro s W W' row ⟨d, h1, h2, h3⟩ hg hr
  refine ⟨d, h1, h2.trans ⟨hg.os, hg.tape, hg.output, hg.size, fun k hk _ => ?_⟩, fun j hj => ?_⟩
  · exact hg.block k (Nat.lt_of_lt_of_le hk h2.size) (fun e => by have := (hr k e.symm).1; omega)
  · have h4 := h3 j hj
    exact ⟨cell_kept h4.1 hg (fun r e => (hr r e).2), (frozen_kept h4.1 hg (fun r e => (hr r e).2)).trans h4.2⟩
/-- The loop variable lies in a box of its own. -/
def VarI (n0 : Nat) (tm : Nat → Array Value) (lo hi : Nat) (a' : Act) (W : World) : Prop :=
  ∃ Bx, n0 ≤ Bx ∧ W.cell? ⟨Bx, 0, none⟩ = some (.int .i64 (lo : Nat)) ∧ W.cell? ⟨Bx, 1, none⟩ = some (.int .i64 (hi : Nat)) ∧ a' = { tmps := tm Bx, defers := [] }
theorem varI_own {β : Type} (n0 : Nat) (tm : Nat → Array Value) (lo hi : Nat) (a' : Act) : OwnFrom n0 (fun (_ : β) W => VarI n0 tm lo hi a' W) := by
  rintro s W W' row ⟨Bx, h1, h2, h3, h4⟩ hg hr
  exact ⟨Bx, h1, cell_kept h2 hg (fun r e => (hr r e).2), cell_kept h3 hg (fun r e => (hr r e).2), h4⟩

theorem KB.of_grown {n0 blk : Nat} {W W' : World} (h : W.grownBy W' (some blk)) (hn : n0 ≤ W.heap.size) : KB n0 blk W W' :=
  ⟨h.os, h.tape, h.output, h.size, fun k h1 h2 => h.block k (by omega) (fun e => h2 (by injection e))⟩
theorem cmpI_lt (cl : Int → Int) (x y : Int) : decide (cmpI (cl x) (cl y) < 0) = ltK cl x y := by
  unfold cmpI ltK
  by_cases h1 : cl x < cl y
  · simp [h1]
  · by_cases h2 : cl y < cl x <;> simp [h1, h2]
theorem holds_sub {W : World} {blk : Nat} {d : Array Int} {lo n : Nat} (h : Holds (Value.int .i64) W blk 0 d) (hs : lo + n ≤ d.size) : Holds (Value.int .i64) W blk lo (subA d lo n) := by
  intro i hi
  rw [subA_size] at hi
  have h5 := h (lo + i) (by omega)
  rw [Nat.zero_add] at h5
  rw [subA_get _ _ _ _ hi]
  exact h5
theorem oneCellInt : OneCell (Value.int .i64) := fun _ => rfl

set_option maxRecDepth 100000 in
set_option maxHeartbeats 16000000 in
theorem ordSort_any (A : Option Addr) (cp : Nat) (xs : List S71) (B : Option Addr) (cb0 : Nat) (text : List Int) (w : World) (hG : GL w) (hr : Kd.C k71 w A xs.length xs) (hc : xs.length ≤ cp) (hl : xs.length < 4611686018427387904)
    (ht : Kd.C (Kd.int .i64) w B text.length text) (hlen : text.length ≤ 1000000) :
    Calls Tryd.prog 22 #[.slice A xs.length cp, .slice B text.length cb0] w fun e w' => RetI w' e (csort (cls xs) text) ∧ Below w.heap.size w w' := by
  have HF := Aside0.mk (finder_g A cp xs w hG hr hc hl)
  have HT := Aside0.mk ht
  clear hr ht hG
  generalize cls xs = cl at HF ⊢
  refine (callsIn_wide (n := 9)).1 ?_
  refine callsIn_of_wp_marks Tryd.func22 rfl trivial ?_ rfl
  simp only [Tryd.ntmps22, List.size_toArray, List.length_cons, List.length_nil, Nat.reduceAdd, Nat.reduceSub, Array.replicate_succ, Array.replicate_zero, List.push_toArray, List.append_toArray, List.nil_append, List.cons_append]
  gi_wp2_with fail
  refine ⟨trivial, (callsIn_wide.2 HF.out).mono ?_⟩
  rintro e w1 ⟨⟨g, cb, rfl, hC⟩, hb1⟩
  have HC := Aside0.mk hC
  have HB1 := Aside0.mk hb1
  clear hC hb1 HF
  gi_wp2_with fail
  have HT2 := Aside0.mk (Kd.C_alloc (Kd.C_below HT.out HB1.out) (.cells #[.func (.func g) #[] cb] 61))
  refine ⟨trivial, (callsIn_wide.2 (clone_any B cb0 text _ HT2.out hlen)).mono ?_⟩
  rintro e w3 ⟨⟨v, rfl, hrow⟩, hb3⟩
  have hw3 := hb3.size
  simp only [World.size_alloc] at hw3
  obtain ⟨VA, vc, blk, rfl, hvc, hvm, hbase, hblk, hVA, hH⟩ := rowI_holds hrow (by simp; omega) hlen
  simp only [World.size_alloc] at hbase
  have HH := Aside0.mk hH
  have HVA := Aside0.mk hVA
  have HB3 := Aside0.mk hb3
  have hcc : w3.cell? ⟨w1.heap.size, 0, none⟩ = some (.func (.func g) #[] cb) := by rw [hb3.cell (by simp)]; simp
  have hcc2 := cell_alloc_sl (.cells #[.slice VA text.length vc] 31) hcc
  have hlt1 : w1.heap.size < w3.heap.size := by omega
  clear hrow hb3 hH hVA
  gi_wp2_with fail
  refine ⟨trivial, (callsIn_wide.2 (runs_any (.func (.func g) #[] cb) rfl B text.length cb0 _)).mono ?_⟩
  rintro e w5 ⟨rfl, hw5⟩
  have HW5 := Aside0.mk hw5
  have HB35 : Aside0 (Below w3.heap.size w3 w5) := ⟨by rw [hw5]; exact below_alloc (below_alloc (below_alloc (Below.refl _ _) _) _) _⟩
  have HB15 : Aside0 (Below w1.heap.size w1 w5) := ⟨below_step (below_step (below_alloc (Below.refl _ _) _) HB3.out) HB35.out⟩
  have hs5 : w5.heap.size = w3.heap.size + 3 := by rw [hw5]; simp
  have hx5 : w5.cell? ⟨w1.heap.size, 0, none⟩ = some (.func (.func g) #[] cb) ∧ w5.cell? ⟨w3.heap.size, 0, none⟩ = some (.slice VA text.length vc) ∧ w5.cell? ⟨w3.heap.size + 1, 0, none⟩ = some (.func (.func g) #[] cb) ∧ w5.cell? ⟨w3.heap.size + 2, 0, none⟩ = some (.slice B text.length cb0) := by
    rw [hw5]
    have q1 := cell_new_sl (w3) (.slice VA text.length vc) 31
    have q2 := cell_new_sl (w3.alloc (.cells #[.slice VA text.length vc] 31)) (.func (.func g) #[] cb) 61
    have q3 := cell_new_sl ((w3.alloc (.cells #[.slice VA text.length vc] 31)).alloc (.cells #[.func (.func g) #[] cb] 61)) (.slice B text.length cb0) 31
    simp only [World.size_alloc] at q2 q3
    exact ⟨cell_alloc_sl _ (cell_alloc_sl _ hcc2), cell_alloc_sl _ (cell_alloc_sl _ q1), cell_alloc_sl _ q2, q3⟩
  clear hw5
  have HX := Aside0.mk hx5
  gi_wp2_with fail
  refine wpIn_rangeFunc_ownH (F := Fence.wide) (n := 9) rfl (by omega) (gf := 54) (lb := #[.pointer (some ⟨w3.heap.size + 2, 0, none⟩), .pointer (some ⟨w3.heap.size + 1, 0, none⟩)]) rfl trivial (enters_of Tryd.func54 (by kernel_rfl) rfl)
    (encs := rgV (n := text.length)) (Kp := KB w5.heap.size blk) (S := fun xs => xs.map (·.1) = runsL cl 0 text) (Sp := fun _ => True) (N := text.length) (w0 := w5) ?seq (fun h k => h.trans k) ?kb (Below.refl _ _) (fun _ => rfl)
    (fun pre W => SortI cl text blk w5 (pre.map (·.1)) W) (fun _ _ _ => False) (sortI_own _ _ _ _ _) (fun _ _ _ _ _ h _ _ => h) ?h0
    (fun x a' W => VarI w5.heap.size (fun Bx => #[.slice A xs.length cp, .slice B text.length cb0, undef, undef, .slice none 0 0, .pointer (some ⟨w1.heap.size, 0, none⟩), .pointer (some ⟨w3.heap.size, 0, none⟩), .pointer (some ⟨Bx, 0, none⟩), .slice A xs.length cp, .func (.func g) #[] cb, .slice B text.length cb0, .slice VA text.length vc, .func (.func g) #[] cb, .slice B text.length cb0, .func (.func 54) #[] #[.pointer (some ⟨w3.heap.size + 2, 0, none⟩), .pointer (some ⟨w3.heap.size + 1, 0, none⟩)], .agg #[.int .i64 (x.1.1 : Nat), .int .i64 (x.1.2 : Nat)], undef, undef, undef, undef, undef, undef, undef, undef, undef]) x.1.1 x.1.2 a' W) (fun x a' => varI_own _ _ _ _ _) ?assign ?body ?done ?stop
  case seq =>
    intro l J Jx W hW hJ hJx hY h0
    have hbW := below_step HB15.out hW
    have hbw : Below w.heap.size w W := below_step HB1.out hbW
    have hblkB : ∀ ad, B = some ad → 0 < text.length → ad.block < w.heap.size := fun ad e hp => by
      obtain ⟨ad', e', h'⟩ := (ReadsInt.of_C HT.out).2.2 hp
      rw [e] at e'; cases e'
      have := cell_lt (h' 0 hp)
      rwa [show (ad.add 0).block = ad.block by unfold Addr.add; split <;> rfl] at this
    have hw1 := HB1.out.size
    refine runs1_in w1 g cb cl HC.out text (by omega) B cb0 ⟨w3.heap.size + 2, 0, none⟩ ⟨w3.heap.size + 1, 0, none⟩ w5.heap.size blk ⟨by show w3.heap.size + 2 < _; omega, by show w3.heap.size + 2 ≠ _; omega⟩ ⟨by show w3.heap.size + 1 < _; omega, by show w3.heap.size + 1 ≠ _; omega⟩ (fun ad e hp => by have := hblkB ad e hp; omega) (by omega) 8 (by omega) l J Jx W W.heap.size hJ hY ⟨?_, ?_, ?_, hbW⟩ h0
    · rw [hW.cell (by show w3.heap.size + 2 < _; omega)]; exact HX.out.2.2.2
    · rw [hW.cell (by show w3.heap.size + 1 < _; omega)]; exact HX.out.2.2.1
    · intro hp
      exact (ReadsInt.of_C (Kd.C_below HT.out hbw)).2.2 hp
  case kb => exact fun W l o o' h1 h2 h3 h4 => KB.of_below (belowK_b (w := w5) (Nat.le_refl _) W l o o' h1 h2 h3 h4)
  case h0 =>
    refine ⟨text.toArray, rfl, KB.refl _ _ _, fun j hj => ?_⟩
    have h5 := HH.out j hj
    have h6 := (HVA.out (by simp at hj; omega)).2
    exact ⟨by rw [HB35.out.cell h6]; exact h5.1, by rw [HB35.out.frozen h6]; exact h5.2⟩
  case assign =>
    rintro l pre ⟨⟨lo, hi⟩, hx1, hx2⟩ W K hI hK
    dsimp only [rgV] at hK ⊢
    gi_wp2_with fail
    have hsz : w5.heap.size ≤ W.heap.size := by obtain ⟨d, _, hk, _⟩ := hI; exact hk.size
    exact hK _ _ ((KeepsOthers.alloc _ _).from _) (KB.of_below ((below_alloc (Below.refl W.heap.size W) _).mono hsz)) ((sortI_own (fun p : List (Rg text.length) => p.map (·.1)) cl text blk w5).alloc _ hI) ⟨W.heap.size, hsz, by simp, by simp, rfl⟩
  case body =>
    rintro l pre ⟨⟨lo, hi⟩, hx1, hx2⟩ a' W hl ⟨r, hr⟩ ⟨d, hA, hKB, hH⟩ ⟨Bx, hBx, c0, c1, rfl⟩ hlt
    dsimp only at hx1 hx2 c0 c1 ⊢
    have hds : d.size = text.length := by rw [ApplyR.size hA]; simp
    obtain ⟨hva, hbl⟩ := HVA.out (by omega)
    subst hva
    have k0 : W.cell? ⟨w3.heap.size, 0, none⟩ = some (.slice (some ⟨blk, 0, none⟩) text.length vc) := by rw [hKB.cell (by show w3.heap.size < _; omega) (by show w3.heap.size ≠ _; omega)]; exact HX.out.2.1
    have k1 : W.cell? ⟨w1.heap.size, 0, none⟩ = some (.func (.func g) #[] cb) := by rw [hKB.cell (by show w1.heap.size < _; omega) (by show w1.heap.size ≠ _; omega)]; exact HX.out.1
    have HA := Aside0.mk hA
    have HKB := Aside0.mk hKB
    have HHd := Aside0.mk hH
    have hsz := hKB.size
    clear hA hKB hH hr
    gi_wp2_with fail
    have HR1 : Row1 (Value.int .i64) W blk lo (subA d lo (hi - lo)) := ⟨oneCellInt, holds_sub HHd.out (by omega), by omega⟩
    have hcmp : CmpLays1 Tryd.prog 33 #[.pointer (some ⟨w1.heap.size, 0, none⟩)] (Value.int .i64) (fun x y => cmpI (cl x) (cl y)) blk lo (hi - lo) W := fun m os dk hs x y => by
      have hg := grownBy_sortWorld W blk lo m dk os
      have hk2 : KB w5.heap.size blk W _ := KB.of_grown hg hsz
      refine ordSort1_g g cb cl w1 HC.out ⟨w1.heap.size, 0, none⟩ x y _ ((HB15.out.trans (HKB.out.below (by omega) (by omega))).trans (hk2.below (by omega) (by omega))) ?_
      rw [hk2.cell (by show w1.heap.size < _; omega) (by show w1.heap.size ≠ _; omega)]
      exact k1
    refine ⟨trivial, (CallsIn.inRound l (callsIn_wide.2 (sortStable_any cl (fun x y => cmpI (cl x) (cl y)) 33 #[.pointer (some ⟨w1.heap.size, 0, none⟩)] blk lo (vc - lo) (hi - lo) (subA d lo (hi - lo)) W (enters_of Tryd.func33 (by kernel_rfl) rfl) (cmpI_lt cl) hcmp HR1 (subA_size _ _ _) (by omega)))).mono ?_⟩
    rintro e w' ⟨rfl, d', ⟨hst, hso⟩, m, os, hw'⟩
    have hd' : d'.size = hi - lo := by rw [hst.size, subA_size]
    have hup := updA_st (by omega) hst hso
    have hg := grownBy_sortWorld W blk lo m d' os
    have hho := holds_updA (m := m) (os := os) (by omega) HHd.out (show lo + d'.size ≤ d.size by omega)
    rw [← hw'] at hg hho
    rw [show lo + (hi - lo) = hi by omega] at hup
    have HF : Aside0 (KeepsFrom w5.heap.size W w' ∧ KB w5.heap.size blk W w' ∧ SortI cl text blk w5 ((pre ++ [(⟨(lo, hi), hx1, hx2⟩ : Rg text.length)]).map (fun x => x.1)) w') := ⟨KeepsFrom.of_grownBy hg (fun j e => by cases e; omega), KB.of_grown hg hsz, updA d d' lo, by
      rw [List.map_append]; exact ApplyR.snoc hup.1 hup.2 HA.out, HKB.out.trans (KB.of_grown hg hsz), hho⟩
    clear hst hso hup hg hho hw' hcmp HR1 hd'
    gi_wp2_with fail
    exact HF.out
  case done =>
    rintro D ys W hD hS ⟨d, hA, hKB, hH⟩ hDef
    have k0 : W.cell? ⟨w3.heap.size, 0, none⟩ = some (.slice VA text.length vc) := by rw [hKB.cell (by show w3.heap.size < _; omega) (by show w3.heap.size ≠ _; omega)]; exact HX.out.2.1
    have HA := Aside0.mk hA
    have HKB := Aside0.mk hKB
    have HHd := Aside0.mk hH
    have HDef := Aside0.mk hDef
    have HS := Aside0.mk hS
    clear hA hKB hH hDef hS
    gi_wp2_with fail
    refine ⟨by simp, .inl ⟨_, _, rfl, run_takeDeferred HDef.out, ?_⟩⟩
    refine ⟨_, results_tmp rfl _ _ _, ?_⟩
    have hI2 : SortI cl text blk w5 (ys.map (·.1)) W := ⟨d, HA.out, HKB.out, HHd.out⟩
    obtain ⟨d2, hA2, hK2, hH2⟩ := (sortI_own (fun p : List (Rg text.length) => p.map (·.1)) cl text blk w5).putObj (.deferred none) hI2 hD HDef.out rfl
    have e1 : d2.toList = csort cl text := by
      have := applyR_csort cl text.length text [] text.toArray d2 (Nat.le_refl _) (by simp) (by rw [HS.out] at hA2; exact hA2)
      simpa using this
    have hds : d2.size = text.length := by rw [ApplyR.size hA2]; simp
    refine ⟨⟨VA, vc, by rw [csort_length]; rfl, by rw [csort_length]; exact hvc, ?_⟩, ?_⟩
    · have h7 := holds_C (VA := VA) hH2 (fun h => (HVA.out (by omega)).1) (by omega)
      rw [e1] at h7
      exact h7
    · have hbw : Below w.heap.size w w5 := below_step HB1.out HB15.out
      have h8 := hK2.below (m := w1.heap.size) (by omega) (by omega)
      exact below_step HB1.out (HB15.out.trans h8)
  case stop =>
    rintro D c pre W _ _ h _
    exact h.elim
end Go.Proofs.YtipedgkampafjaaDoor.Rf
/- Tells what decompose.Text hands back: the full decompositions of all elements, in canonical order. -/
namespace Go.Proofs.YtipedgkampafjaaDoor.Rf
open Go.Shelf Go.RowKit Go.Proofs.YtipedgkampafjaaDoorW.PrintWords Go.Proofs.YtipedgkampafjaaDoorW.PrintLast Go.Proofs.YtipedgkampafjaaDoorW.PrintMore

theorem vcl_len {cl : List S71} {dm : List S43} {ex : List RR} (h : cl.length ≤ 1000000) : (vcl cl dm ex).length ≤ 1000000 := by
  unfold vcl; split
  · exact h
  · simp
theorem flat64 {F : Int → List Int} (h : ∀ c, (F c).length ≤ 64) : ∀ (l : List Int), (l.flatMap F).length ≤ l.length * 64
  | [] => by simp
  | x :: l => by
    have h1 := flat64 h l
    have h2 := h x
    simp only [List.flatMap_cons, List.length_append, List.length_cons]
    omega

set_option maxRecDepth 100000 in
set_option maxHeartbeats 16000000 in
theorem dtext_any (Ac Ad Ax : Option Addr) (cc cd cx : Nat) (cl : List S71) (dm : List S43) (ex : List RR) (B : Option Addr) (ct : Nat) (text : List Int) (cp : Bool) (w : World) (hG : GL w)
    (hrc : Kd.C k71 w Ac cl.length cl) (hcc : cl.length ≤ cc) (hlc : cl.length ≤ 1000000)
    (hrd : Kd.C k43 w Ad dm.length dm) (hcd : dm.length ≤ cd) (hld : dm.length ≤ 1000000)
    (hrx : Kd.C k67 w Ax ex.length ex) (hcx : ex.length ≤ cx) (hlx : ex.length ≤ 1000000)
    (hrt : Kd.C (Kd.int .i64) w B text.length text) (hlt : text.length ≤ 10000) (hin : ∀ x ∈ text, inR x) :
    Calls Tryd.prog 11 #[.agg #[.slice Ac cl.length cc, .slice Ad dm.length cd, .slice Ax ex.length cx], .slice B text.length ct, .bool cp] w fun e w' => RetI w' e (csort (cls (vcl cl dm ex)) (text.flatMap (fullS (vdm cl dm ex) cp))) ∧ Below w.heap.size w w' := by
  have hb : ∀ o : Obj, Below w.heap.size w (w.alloc o) := fun o => below_alloc (Below.refl _ _) _
  have HV : Aside0 (∀ o, Calls Tryd.prog 17 #[.agg #[.slice Ac cl.length cc, .slice Ad dm.length cd, .slice Ax ex.length cx]] (w.alloc o) fun e w' => (∃ (Ac Ad Ax : Option Addr) (cc cd cx : Nat), e = .returned (.agg #[.slice Ac (vcl cl dm ex).length cc, .slice Ad (vdm cl dm ex).length cd, .slice Ax (vex cl dm ex).length cx]) ∧ Aside0 ((vcl cl dm ex).length ≤ cc ∧ Kd.C k71 w Ac (vcl cl dm ex).length (vcl cl dm ex)) ∧ Aside0 (Kd.C k43 w Ad (vdm cl dm ex).length (vdm cl dm ex))) ∧ Below (w.alloc o).heap.size (w.alloc o) w') := ⟨fun o =>
    (valid_base Ac Ad Ax cc cd cx cl dm ex (w.alloc o) (GL.below hG (hb o)) (Kd.C_below hrc (hb o)) hcc hlc (Kd.C_below hrd (hb o)) hcd hld (Kd.C_below hrx (hb o)) hcx hlx).mono fun e w' h => by
      obtain ⟨⟨Ac, Ad, Ax, cc, cd, cx, h1, h2, h3, h4⟩, h5⟩ := h
      exact ⟨⟨Ac, Ad, Ax, cc, cd, cx, h1, ⟨h2.1, h2.2 _ hrc⟩, ⟨h3.2 _ hrd⟩⟩, h5⟩⟩
  have HG := Aside0.mk hG
  have HT := Aside0.mk hrt
  have HIn := Aside0.mk hin
  have hg := vdm_good cl dm ex
  have HLv : Aside0 ((vdm cl dm ex).length ≤ 1000000) := ⟨vdm_len hld⟩
  have HLc : Aside0 ((vcl cl dm ex).length ≤ 1000000) := ⟨vcl_len hlc⟩
  clear hG hrc hrd hrx hb hlc hld hlx hcc hcd hcx hrt hin
  generalize vdm cl dm ex = vd at HV hg HLv
  generalize vcl cl dm ex = vc at HV HLc
  generalize vex cl dm ex = vx at HV
  have HGd := Aside0.mk hg
  clear hg
  go_enter Tryd.func11, Tryd.ntmps11
  go_wp2_with fail
  refine (HV.out _).mono ?_
  rintro e w1 ⟨⟨Ac', Ad', Ax', cc', cd', cx', rfl, HCs, HD⟩, hb1⟩
  have HB1 := Aside0.mk (below_step (below_alloc (Below.refl w.heap.size w) _) hb1)
  have x0 : w1.cell? ⟨w.heap.size, 0, none⟩ = some (.slice Ac cl.length cc) := by rw [hb1.cell (by simp)]; simp
  have x1 : w1.cell? ⟨w.heap.size, 1, none⟩ = some (.slice Ad dm.length cd) := by rw [hb1.cell (by simp)]; simp
  have x2 : w1.cell? ⟨w.heap.size, 2, none⟩ = some (.slice Ax ex.length cx) := by rw [hb1.cell (by simp)]; simp
  have f0 : w1.frozen? ⟨w.heap.size, 0, none⟩ = false := by rw [hb1.frozen (by simp)]; simp
  have f1 : w1.frozen? ⟨w.heap.size, 1, none⟩ = false := by rw [hb1.frozen (by simp)]; simp
  have f2 : w1.frozen? ⟨w.heap.size, 2, none⟩ = false := by rw [hb1.frozen (by simp)]; simp
  have hsz1 := hb1.size
  simp only [World.size_alloc] at hsz1
  have HSS : Aside0 (∀ u0 u1 u2 : Value, Below w.heap.size w (((w1.setCell ⟨w.heap.size, 0, none⟩ u0).setCell ⟨w.heap.size, 1, none⟩ u1).setCell ⟨w.heap.size, 2, none⟩ u2) ∧ (((w1.setCell ⟨w.heap.size, 0, none⟩ u0).setCell ⟨w.heap.size, 1, none⟩ u1).setCell ⟨w.heap.size, 2, none⟩ u2).cell? ⟨w.heap.size, 0, none⟩ = some u0 ∧ w.heap.size < (((w1.setCell ⟨w.heap.size, 0, none⟩ u0).setCell ⟨w.heap.size, 1, none⟩ u1).setCell ⟨w.heap.size, 2, none⟩ u2).heap.size) := ⟨fun u0 u1 u2 =>
    ⟨((HB1.out.setCell (p := ⟨w.heap.size, 0, none⟩) (Nat.le_refl _) _).setCell (p := ⟨w.heap.size, 1, none⟩) (Nat.le_refl _) _).setCell (p := ⟨w.heap.size, 2, none⟩) (Nat.le_refl _) _, by
      rw [World.cell?_setCell_other _ _ _ _ (by intro e; simp only [Addr.mk.injEq] at e; omega), World.cell?_setCell_other _ _ _ _ (by intro e; simp only [Addr.mk.injEq] at e; omega)]
      exact World.cell?_setCell_same _ _ _ x0, by simp; omega⟩⟩
  clear hb1
  go_wp2_with fail
  clear x0 x1 x2 f0 f1 f2
  obtain ⟨hbs, y0, hszs⟩ := HSS.out (.slice Ac' vc.length cc') (.slice Ad' vd.length cd') (.slice Ax' vx.length cx')
  generalize (((w1.setCell ⟨w.heap.size, 0, none⟩ (.slice Ac' vc.length cc')).setCell ⟨w.heap.size, 1, none⟩ (.slice Ad' vd.length cd')).setCell ⟨w.heap.size, 2, none⟩ (.slice Ax' vx.length cx')) = ws at hbs y0 hszs ⊢
  have HBs := Aside0.mk hbs
  clear hbs HSS HB1
  refine (load_any Ad' cd' vd cp ws (Kd.C_below HD.out HBs.out) (by have := HLv.out; omega) (good_range HGd.out)).mono ?_
  rintro e w2 ⟨rfl, hd2, hm2⟩
  have HD2 := Aside0.mk hd2
  have HM2 := Aside0.mk hm2
  clear hd2 hm2
  go_wp2_with fail
  go_loopw [8, 19, 10] (fun v v2 v3 wr => ∃ j : Nat, v2 = .int .i64 (j : Int) ∧ j ≤ text.length ∧ Aside0 (RowI wr w2.heap.size v ((text.take j).flatMap (fullS vd cp))) ∧ Aside0 (∃ n' f', FoundM wr (ws.heap.size + 1) n' f' (fullS vd cp) ∧ n' + wh vd (mk01 f') ≤ vd.length + 11172 ∧ Avoid f' v) ∧ Aside0 (w2.grownBy wr (some (ws.heap.size + 1)))) (fun _ v2 _ _ => text.length - (intOf v2).toNat)
  case atStart => exact ⟨0, rfl, by omega, ⟨World.ownsRow_nil _ _ _ _⟩, ⟨0, fun _ => none, found_nil HM2.out, by have := wh_none vd; omega, fun x ad m cap hx hm => by simp [Value.ownBlock]⟩, ⟨grown_of_below (Below.refl _ _) _⟩⟩
  case round =>
    obtain ⟨j, rfl, hj, HRow, HS, HGr⟩ := hrel
    have HDr := Aside0.mk (HD2.out.turned HGr.out HD2.out.ne.2.2 HD2.out.ne.1 HD2.out.low.2.2 HM2.out.lt)
    have HBr : Aside0 (Below ws.heap.size ws wr) := ⟨below_turned HD2.out.below HGr.out (by omega) HM2.out.lt⟩
    have HRr := Aside0.mk (Kd.C_below HT.out (below_step HBs.out HBr.out))
    by_cases hlt2 : j < text.length
    · obtain ⟨ad, e, hx0⟩ := ReadsInt.at_ (ReadsInt.of_C HRr.out) j (by omega) (by omega)
      subst e
      simp only [Int.toNat_natCast] at hx0
      have hrd : rd text (j : Int) = text.getD j 0 := by rw [rd, Int.toNat_natCast]
      rw [hrd] at hx0
      have hmem : text.getD j 0 ∈ text := getD_mem text 0 j hlt2
      have HT2 : Aside0 ((text.take (j + 1)).flatMap (fullS vd cp) = (text.take j).flatMap (fullS vd cp) ++ fullS vd cp (text.getD j 0)) := ⟨by
        rw [List.take_succ_eq_append_getElem hlt2, List.flatMap_append, List.getD_eq_getElem?_getD, List.getElem?_eq_getElem hlt2]; simp⟩
      have HLen : Aside0 ((((text.take j).flatMap (fullS vd cp)).length + (fullS vd cp (text.getD j 0)).length) * 8 ≤ 140737488355328) := ⟨by
        have h1 := flat64 (HGd.out.full cp).2.2 (text.take j)
        have h3 := (HGd.out.full cp).2.2 (text.getD j 0)
        have h4 : (text.take j).length ≤ j := List.length_take_le _ _
        omega⟩
      obtain ⟨n', f', hfo, hn, hav⟩ := HS.out
      have HCall := Aside0.mk (full_any HGd.out.codes (HGd.out.full cp) (vd.length + 11172) (by have := HLv.out; omega) (text.getD j 0) (HGd.out.acc cp _) n' f' wr HDr.out hfo hn (HIn.out _ hmem))
      have HAV := Aside0.mk hav
      have hb2w : ws.heap.size + 1 < w2.heap.size := HM2.out.lt
      clear hrd hmem hfo hn hav
      generalize text.getD j 0 = x at HT2 hx0 HCall HLen
      generalize (text.take j).flatMap (fullS vd cp) = xs at HT2 HRow HLen
      generalize hys : fullS vd cp x = ys at HT2 HCall HLen
      have hjz : (j : Int) < (text.length : Int) := by omega
      go_wp2_with fail
      refine HCall.out.mono ?_
      rintro e w3 ⟨⟨A2, c2, rfl, hle2, hC2⟩, n3, f3, hfo3, hn3, hmo3, hde3, hnb3, hg3⟩
      have HRow2 : Aside0 (RowI w3 w2.heap.size u8 xs) := ⟨World.ownsRow.kept HRow.out hg3 (by
        cases ho : u8.ownBlock with
        | none => exact Or.inl rfl
        | some k => exact Or.inr fun e => by cases e; have := (rowI_own HRow.out _ ho).1; omega)⟩
      have HRd2 := Aside0.mk (ReadsInt.of_C hC2)
      have HAv2 : Aside0 (Avoid f3 u8) := ⟨fun y ad m cap hy hm he => by
        rcases hnb3 y with h | ⟨A, m', cap', h1, h2⟩
        · exact HAV.out y ad m cap (by rw [← h]; exact hy) hm he
        · rw [h1] at hy
          cases hy
          have h4 := h2 hm ad rfl
          have h5 := (rowI_own HRow.out ad.block he.symm).2
          omega⟩
      have HFO3 := Aside0.mk hfo3
      have HN3 := Aside0.mk hn3
      have HG3 := Aside0.mk (grown_trans HGr.out hg3)
      clear hle2 hC2 hfo3 hn3 hmo3 hde3 hnb3 hg3
      go_wp2_with (at_builtin; refine print_append_row (w0 := w3) w2.heap.size rfl (.tmp 23) (.tmp 26) 31 3 .i64 8 rfl Tryd.underlying31 infoI (by decide) _ xs ys _ _ _ rfl rfl HRow2.out HRd2.out (Below.refl _ _) HG3.out.size HLen.out ?_; intro v1 w4 q1 q2 q3 q4)
      have HRow3 := Aside0.mk q1
      have HFO4 : Aside0 (FoundM w4 (ws.heap.size + 1) n3 f3 (fullS vd cp)) := ⟨HFO3.out.turned rfl q3 (by
        intro e
        have := (rowI_own HRow2.out _ e.symm).1; omega) HAv2.out⟩
      have HAv3 : Aside0 (Avoid f3 v1) := ⟨fun y ad m cap hy hm he => by
        rcases q4 with h | ⟨b, h, hb⟩
        · rw [h] at he; exact HAv2.out y ad m cap hy hm he
        · rw [h] at he
          obtain ⟨A, cap', h1, h2, h3⟩ := HFO3.out.2 y _ hy
          injection h1 with e1 e2 e3
          subst e1; subst e2
          obtain ⟨ad', e4, h5⟩ := (ReadsInt.of_C h3).2.2 hm
          cases e4
          have h6 := cell_lt (h5 0 hm)
          have hbk : (ad.add 0).block = ad.block := by unfold Addr.add; split <;> rfl
          rw [hbk] at h6
          cases he
          omega⟩
      have HG4 : Aside0 (w2.grownBy w4 (some (ws.heap.size + 1))) := ⟨HG3.out.andThen q3 fun k hk => Or.inl (rowI_own HRow2.out k hk).1⟩
      clear q1 q2 q3 q4
      go_roundw
      case rel => exact ⟨j + 1, by first | rfl | go_num, by omega, ⟨by rw [HT2.out]; exact HRow3.out⟩, ⟨n3, f3, HFO4.out, HN3.out, HAv3.out⟩, HG4⟩
      case measure => simp [intOf]; omega
    · have hjz : ¬ (j : Int) < (text.length : Int) := by omega
      have HLf := Aside0.mk (flat64 (HGd.out.full cp).2.2 text)
      have HRow2 : Aside0 (RowI wr w2.heap.size u8 (text.flatMap (fullS vd cp))) := ⟨by
        have h := HRow.out
        rwa [List.take_of_length_le (by omega)] at h⟩
      obtain ⟨A9, cap9, hv9, hcap9, hC9, _⟩ := rowI_C HRow2.out (by have := HLf.out; omega)
      subst hv9
      have HC9 := Aside0.mk hC9
      have HSo := Aside0.mk (ordSort_any Ac' cc' vc A9 cap9 _ wr (GL.below HG.out (below_step HBs.out HBr.out)) (Kd.C_below HCs.out.2 (below_step HBs.out HBr.out)) HCs.out.1 (by have := HLc.out; omega) HC9.out (by have := HLf.out; omega))
      have z0 : wr.cell? ⟨w.heap.size, 0, none⟩ = some (.slice Ac' vc.length cc') := by rw [HBr.out.cell hszs]; exact y0
      clear hC9 hcap9 HRow HS HGr HDr HRr HLf HC9 HRow2
      generalize hl9 : text.flatMap (fullS vd cp) = l9 at HSo
      have HQ9 := Aside0.mk hl9
      clear hl9
      go_wp2_with fail
      refine HSo.out.mono ?_
      rintro e w5 ⟨⟨A5, c5, rfl, h5, hC5⟩, hb5⟩
      have H5 := Aside0.mk h5
      have HC5 := Aside0.mk hC5
      have HB5 := Aside0.mk (below_step (below_step HBs.out HBr.out) hb5)
      clear h5 hC5 hb5
      go_wp2_with fail
      go_ret
      rw [HQ9.out]
      exact ⟨⟨A5, c5, rfl, H5.out, HC5.out⟩, HB5.out⟩
end Go.Proofs.YtipedgkampafjaaDoor.Rf
/- Tells, in plain Lean, how full decompositions with and without tags go together. -/
namespace Go.Proofs.YtipedgkampafjaaDoor.Rf
open Go.Shelf Go.RowKit Go.Proofs.YtipedgkampafjaaDoorW.PrintWords Go.Proofs.YtipedgkampafjaaDoorW.PrintLast Go.Proofs.YtipedgkampafjaaDoorW.PrintMore

/-- Mappings with a tag are of starters. -/
def TagS (cl : Int → Int) (dm : List S43) : Prop := ∀ m ∈ dm, m.f2.toList.isEmpty = false → cl m.f0 = 0
theorem kindsE_tag {cl : List S71} {dm : List S43} (h : kindsE cl dm = 0) : TagS (cls cl) dm := by
  intro m hm ht
  unfold kindsE at h
  cases h1 : pairAny sameFrom dm with
  | true => simp [h1] at h
  | false =>
    cases h2 : dm.any badKind with
    | true => simp [h1, h2] at h
    | false =>
      cases h3 : dm.any (badData cl) with
      | true => simp [h1, h2, h3] at h
      | false =>
        have h4 := not_any _ _ h3 m hm
        simp only [badData, starter] at h4
        apply Classical.byContradiction
        intro hc
        simp [ht, hc] at h4
theorem vdm_tag (cl : List S71) (dm : List S43) (ex : List RR) : TagS (cls (vcl cl dm ex)) (vdm cl dm ex) := by
  unfold vdm vcl
  split
  · rename_i h
    refine kindsE_tag ?_
    unfold decChk at h
    by_cases h1 : ordChk cl = 0
    · by_cases h2 : mapChkO dm = 0
      · by_cases h3 : canonR ex = false
        · simp [h1, h2, h3] at h
        · by_cases h4 : kindsE cl dm = 0
          · exact h4
          · simp [h1, h2, h3, h4] at h
      · simp [h1, h2] at h
    · simp [h1] at h
  · intro m hm; cases hm
theorem onceS_true {dm : List S43} {c : Int} {l : List Int} (h : onceS dm false c = some l) : onceS dm true c = some l := by
  unfold onceS at h ⊢
  split at h
  · rename_i hk4
    rw [if_pos hk4]
    cases hl : lastM dm c with
    | none => rw [hl] at h; cases h
    | some m =>
      rw [hl] at h
      simp only at h ⊢
      split at h
      · cases h
      · simpa using h
  · rename_i hk4
    rw [if_neg hk4]; exact h
/-- A full decomposition without tags, decomposed with tags. -/
theorem full_full {dm : List S43} (g : Good dm) (c : Int) : (fullS dm false c).flatMap (fullS dm true) = fullS dm true c := by
  have h := g.acc false c
  induction h with
  | intro c _ ih =>
    cases ho : onceS dm false c with
    | none => rw [(g.full false).1 c ho]; simp
    | some tl =>
      rw [(g.full false).2.1 c tl ho, (g.full true).2.1 c tl (onceS_true ho), List.flatMap_assoc]
      have : ∀ x ∈ tl, (fullS dm false x).flatMap (fullS dm true) = fullS dm true x := fun x hx => ih x ⟨tl, ho, hx⟩
      clear ih ho
      induction tl with
      | nil => rfl
      | cons x l ih2 =>
        rw [List.flatMap_cons, List.flatMap_cons, this x (by simp), ih2 (fun y hy => this y (by simp [hy]))]
/-- What is in a full decomposition has no mapping. -/
theorem full_none {dm : List S43} (g : Good dm) (cp : Bool) (c : Int) : ∀ y ∈ fullS dm cp c, onceS dm cp y = none := by
  have h := g.acc cp c
  induction h with
  | intro c _ ih =>
    intro y hy
    cases ho : onceS dm cp c with
    | none =>
      rw [(g.full cp).1 c ho] at hy
      simp only [List.mem_singleton] at hy
      rw [hy]; exact ho
    | some tl =>
      rw [(g.full cp).2.1 c tl ho] at hy
      obtain ⟨x, hx, hy2⟩ := List.mem_flatMap.1 hy
      exact ih x ⟨tl, ho, hx⟩ y hy2
theorem full_fix {dm : List S43} (g : Good dm) {cp : Bool} {y : Int} (h : onceS dm cp y = none) : fullS dm cp y = [y] := (g.full cp).1 y h
/-- An element that is no starter and has no plain mapping has none. -/
theorem once_tag {cl : Int → Int} {dm : List S43} (ht : TagS cl dm) {y : Int} (h : onceS dm false y = none) (hy : cl y ≠ 0) : onceS dm true y = none := by
  unfold onceS at h ⊢
  split at h
  · rename_i hk4
    rw [if_pos hk4]
    cases hl : lastM dm y with
    | none => rfl
    | some m =>
      rw [hl] at h
      simp only at h
      obtain ⟨hm, he⟩ := lastM_mem hl
      exfalso
      cases hf : m.f2.toList.isEmpty with
      | true => rw [hf] at h; simp at h
      | false =>
        have := ht m hm hf
        rw [he] at this
        exact hy this
  · cases h
/-- Text with tags of Text without is Text with tags. -/
theorem kinds_law {cl : Int → Int} {dm : List S43} (g : Good dm) (ht : TagS cl dm) (text : List Int) :
    csort cl ((csort cl (text.flatMap (fullS dm false))).flatMap (fullS dm true)) = csort cl (text.flatMap (fullS dm true)) := by
  rw [csort_flatMap]
  · congr 1
    induction text with
    | nil => rfl
    | cons x l ih => rw [List.flatMap_cons, List.flatMap_append, full_full g, List.flatMap_cons, ih]
  · intro y hy hn
    obtain ⟨x, _, hx⟩ := List.mem_flatMap.1 hy
    exact full_fix g (once_tag ht (full_none g false x y hx) hn)
end Go.Proofs.YtipedgkampafjaaDoor.Rf
