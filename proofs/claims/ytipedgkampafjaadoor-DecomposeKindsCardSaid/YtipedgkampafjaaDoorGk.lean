import Derived.Test.YtipedgkampafjaaDoorGl
import Derived.Test.YtipedgkampafjaaDoorGc
import Derived.Deep.RegionHeld3
import Derived.Test.YtipedgkampafjaaDoorRf0
import Derived.Deep.Slices
import Derived.Deep.Fields
import Derived.ChangeSame
import Derived.Test.YtipedgkampafjaaDoorGa
import Derived.Test.YtipedgkampafjaaDoorTie
import Derived.ProofKit
import Derived.LaidMore
import Derived.OpenShut
import Derived.Stop.Joined
import Derived.Test.YtipedgkampafjaaDoorCards
import Derived.SevenTiedAt
import Derived.Carry
/- Walks the law DecomposeKinds. -/
namespace Go.Proofs.YtipedgkampafjaaDoor.Rf
open Go.Shelf Go.RowKit Go.Proofs.YtipedgkampafjaaDoorW.PrintWords Go.Proofs.YtipedgkampafjaaDoorW.PrintLast Go.Proofs.YtipedgkampafjaaDoorW.PrintMore

set_option maxRecDepth 100000 in
set_option maxHeartbeats 8000000 in
theorem few_any (Ac Ad Ax : Option Addr) (cc cd cx : Nat) (cl : List S71) (dm : List S43) (ex : List RR) (B : Option Addr) (n ct : Nat) (hn : n ≤ 9223372036854775807) (w : World)
    (hrd : Kd.C k43 w Ad dm.length dm) :
    Calls Tryd.prog 10 #[.agg #[.slice Ac cl.length cc, .slice Ad dm.length cd, .slice Ax ex.length cx], .slice B n ct] w fun e w' => BoolImp e ((cl.length ≤ 16 ∧ dm.length ≤ 20 ∧ ex.length ≤ 12) ∧ n ≤ 40) ∧ Below w.heap.size w w' := by
  have hb : Below w.heap.size w (w.alloc (.cells #[.slice Ac cl.length cc, .slice Ad dm.length cd, .slice Ax ex.length cx] 28)) := below_alloc (Below.refl _ _) _
  have HS := Aside0.mk (small_any Ac Ad Ax cc cd cx cl dm ex _ (Kd.C_below hrd hb) (Kd.C_max hrd))
  have HB := Aside0.mk hb
  clear hb hrd
  by_cases h40 : n ≤ 40
  · have h40z : (n : Int) ≤ 40 := by omega
    go_enter Tryd.func10, Tryd.ntmps10
    go_wp2_with fail
    refine HS.out.mono ?_
    rintro e w1 ⟨⟨b, rfl, hbt⟩, hb1⟩
    have HT := Aside0.mk hbt
    have HB1 := Aside0.mk (below_step HB.out hb1)
    clear hbt hb1
    cases b with
    | true =>
      go_wp2_with fail
      go_ret
      exact ⟨⟨true, rfl, fun _ => ⟨HT.out (by first | rfl | trivial), h40⟩⟩, HB1.out⟩
    | false =>
      go_wp2_with fail
      go_ret
      exact ⟨⟨false, rfl, fun h => by cases h⟩, HB1.out⟩
  · have h40z : ¬ (n : Int) ≤ 40 := by omega
    go_enter Tryd.func10, Tryd.ntmps10
    go_wp2_with fail
    refine HS.out.mono ?_
    rintro e w1 ⟨⟨b, rfl, hbt⟩, hb1⟩
    have HB1 := Aside0.mk (below_step HB.out hb1)
    clear hbt hb1
    cases b with
    | true =>
      go_wp2_with fail
      go_ret
      exact ⟨⟨_, rfl, fun h => by simp at h; omega⟩, HB1.out⟩
    | false =>
      go_wp2_with fail
      go_ret
      exact ⟨⟨false, rfl, fun h => by cases h⟩, HB1.out⟩

theorem full_inR {dm : List S43} (g : Good dm) (cp : Bool) (c : Int) (hc : inR c) : ∀ y ∈ fullS dm cp c, inR y := by
  have h := g.acc cp c
  induction h with
  | intro c _ ih =>
    intro y hy
    cases ho : onceS dm cp c with
    | none =>
      rw [(g.full cp).1 c ho] at hy
      simp only [List.mem_singleton] at hy
      rw [hy]; exact hc
    | some tl =>
      rw [(g.full cp).2.1 c tl ho] at hy
      obtain ⟨x, hx, hy2⟩ := List.mem_flatMap.1 hy
      exact ih x ⟨tl, ho, hx⟩ (edge_range g.codes ⟨tl, ho, hx⟩) y hy2

set_option maxRecDepth 100000 in
set_option maxHeartbeats 16000000 in
theorem kinds_law_any (Ac Ad Ax : Option Addr) (cc cd cx : Nat) (cl : List S71) (dm : List S43) (ex : List RR) (B : Option Addr) (ct : Nat) (text : List Int) (w : World) (hG : GL w)
    (hrc : Kd.C k71 w Ac cl.length cl) (hcc : cl.length ≤ cc) (hrd : Kd.C k43 w Ad dm.length dm) (hcd : dm.length ≤ cd) (hrx : Kd.C k67 w Ax ex.length ex) (hcx : ex.length ≤ cx)
    (hrt : Kd.C (Kd.int .i64) w B text.length text) (hin : ∀ x ∈ text, inR x) :
    Calls Tryd.prog 4 #[.agg #[.slice Ac cl.length cc, .slice Ad dm.length cd, .slice Ax ex.length cx], .slice B text.length ct] w fun e w' => e = .returned (.bool true) ∧ Below w.heap.size w w' := by
  have HB : Aside0 (Below w.heap.size w (w.alloc (.cells #[.slice Ac cl.length cc, .slice Ad dm.length cd, .slice Ax ex.length cx] 28))) := ⟨below_alloc (Below.refl _ _) _⟩
  have HX : Aside0 ((w.alloc (.cells #[.slice Ac cl.length cc, .slice Ad dm.length cd, .slice Ax ex.length cx] 28)).cell? ⟨w.heap.size, 0, none⟩ = some (.slice Ac cl.length cc) ∧ (w.alloc (.cells #[.slice Ac cl.length cc, .slice Ad dm.length cd, .slice Ax ex.length cx] 28)).cell? ⟨w.heap.size, 1, none⟩ = some (.slice Ad dm.length cd) ∧ (w.alloc (.cells #[.slice Ac cl.length cc, .slice Ad dm.length cd, .slice Ax ex.length cx] 28)).cell? ⟨w.heap.size, 2, none⟩ = some (.slice Ax ex.length cx)) := ⟨by simp, by simp, by simp⟩
  have HFw := Aside0.mk (fun w hr => few_any Ac Ad Ax cc cd cx cl dm ex B text.length ct (by have := Kd.C_max hrt; omega) w hr)
  have HA := Aside0.mk alive_any
  have HG := Aside0.mk hG
  have HRd := Aside0.mk hrd
  have HRt := Aside0.mk hrt
  have HTx : Aside0 (∀ (W : World) (B : Option Addr) (ct : Nat) (l : List Int) (cp : Bool), Below w.heap.size w W → cl.length ≤ 16 ∧ dm.length ≤ 20 ∧ ex.length ≤ 12 → Kd.C (Kd.int .i64) W B l.length l → l.length ≤ 10000 → (∀ x ∈ l, inR x) → Calls Tryd.prog 11 #[.agg #[.slice Ac cl.length cc, .slice Ad dm.length cd, .slice Ax ex.length cx], .slice B l.length ct, .bool cp] W fun e w' => RetI w' e (csort (cls (vcl cl dm ex)) (l.flatMap (fullS (vdm cl dm ex) cp))) ∧ Below W.heap.size W w') :=
    ⟨fun W B ct l cp hW hs hl hl2 hi => dtext_any Ac Ad Ax cc cd cx cl dm ex B ct l cp W (GL.below hG hW) (Kd.C_below hrc hW) hcc (by omega) (Kd.C_below hrd hW) hcd (by omega) (Kd.C_below hrx hW) hcx (by omega) hl hl2 hi⟩
  have HGd := Aside0.mk (vdm_good cl dm ex)
  have HTg := Aside0.mk (vdm_tag cl dm ex)
  have HIn := Aside0.mk hin
  clear hG hrc hcc hrd hcd hrx hcx hrt hin
  generalize vdm cl dm ex = vd at HTx HGd HTg
  generalize vcl cl dm ex = vc at HTx HTg
  have HEq : Aside0 (csort (cls vc) ((csort (cls vc) (text.flatMap (fullS vd false))).flatMap (fullS vd true)) = csort (cls vc) (text.flatMap (fullS vd true))) := ⟨kinds_law HGd.out HTg.out text⟩
  have HL1 : Aside0 (text.length ≤ 40 → (csort (cls vc) (text.flatMap (fullS vd false))).length ≤ 10000) := ⟨fun h => by
    rw [csort_length]; have := flat64 (HGd.out.full false).2.2 text; omega⟩
  have HL2 : Aside0 (text.length ≤ 40 → (csort (cls vc) (text.flatMap (fullS vd true))).length ≤ 10000) := ⟨fun h => by
    rw [csort_length]; have := flat64 (HGd.out.full true).2.2 text; omega⟩
  have HI1 : Aside0 (∀ x ∈ csort (cls vc) (text.flatMap (fullS vd false)), inR x) := ⟨fun x hx => by
    obtain ⟨y, hy, hx2⟩ := List.mem_flatMap.1 ((csort_mem _).1 hx)
    exact full_inR HGd.out false y (HIn.out y hy) x hx2⟩
  have HT1 : Aside0 (∀ (W : World), Below w.heap.size w W → cl.length ≤ 16 ∧ dm.length ≤ 20 ∧ ex.length ≤ 12 → text.length ≤ 40 → ∀ cp, Calls Tryd.prog 11 #[.agg #[.slice Ac cl.length cc, .slice Ad dm.length cd, .slice Ax ex.length cx], .slice B text.length ct, .bool cp] W fun e w' => RetI w' e (csort (cls vc) (text.flatMap (fullS vd cp))) ∧ Below W.heap.size W w') :=
    ⟨fun W hW hs h40 cp => HTx.out W B ct text cp hW hs (Kd.C_below HRt.out hW) (by omega) HIn.out⟩
  have HT3 : Aside0 (∀ (W : World), Below w.heap.size w W → cl.length ≤ 16 ∧ dm.length ≤ 20 ∧ ex.length ≤ 12 → text.length ≤ 40 → Calls Tryd.prog 11 #[.agg #[.slice Ac cl.length cc, .slice Ad dm.length cd, .slice Ax ex.length cx], .slice B text.length ct, .bool true] W fun e w' => RetI w' e (csort (cls vc) (text.flatMap (fullS vd true))) ∧ Below W.heap.size W w') := ⟨fun W hW hs h40 => HT1.out W hW hs h40 true⟩
  clear HRt HIn HGd HTg
  generalize csort (cls vc) (text.flatMap (fullS vd true)) = l2 at HEq HL2 HT3
  have HT2 : Aside0 (∀ (W : World) (B : Option Addr) (ct : Nat) (l : List Int), l = csort (cls vc) (text.flatMap (fullS vd false)) → text.length ≤ 40 → Below w.heap.size w W → cl.length ≤ 16 ∧ dm.length ≤ 20 ∧ ex.length ≤ 12 → Kd.C (Kd.int .i64) W B l.length l → Calls Tryd.prog 11 #[.agg #[.slice Ac cl.length cc, .slice Ad dm.length cd, .slice Ax ex.length cx], .slice B l.length ct, .bool true] W fun e w' => RetI w' e l2 ∧ Below W.heap.size W w') := ⟨fun W B ct l hl h40 hW hs hC => by
    have h := HTx.out W B ct l true hW hs hC (by rw [hl]; exact HL1.out h40) (by rw [hl]; exact HI1.out)
    rw [hl, HEq.out] at h
    rw [hl]
    exact h⟩
  clear HTx HI1 HL1
  go_enter Tryd.func4, Tryd.ntmps4
  go_wp2_with fail
  refine (HFw.out _ (Kd.C_below HRd.out HB.out)).mono ?_
  rintro e w1 ⟨⟨b, rfl, hbt⟩, hb1⟩
  have HB1 := Aside0.mk (below_step HB.out hb1)
  have HX1 : Aside0 (w1.cell? ⟨w.heap.size, 0, none⟩ = some (.slice Ac cl.length cc) ∧ w1.cell? ⟨w.heap.size, 1, none⟩ = some (.slice Ad dm.length cd) ∧ w1.cell? ⟨w.heap.size, 2, none⟩ = some (.slice Ax ex.length cx)) :=
    ⟨by rw [hb1.cell (cell_lt HX.out.1)]; exact HX.out.1, by rw [hb1.cell (cell_lt HX.out.2.1)]; exact HX.out.2.1, by rw [hb1.cell (cell_lt HX.out.2.2)]; exact HX.out.2.2⟩
  clear hb1
  cases b with
  | false =>
    clear hbt
    go_wp2_with fail
    refine (HA.out _ (GL.below HG.out HB1.out)).mono ?_
    rintro e w2 ⟨rfl, hb2⟩
    go_wp2_with fail
    go_ret
    exact ⟨rfl, below_step HB1.out hb2⟩
  | true =>
    have HSm := Aside0.mk (hbt rfl)
    clear hbt
    obtain ⟨q0, q1, q2⟩ := HX1.out
    have HEqC : Aside0 (∀ (W : World) (P Q : Option Addr) (c d : Nat), Kd.C (Kd.int .i64) W P l2.length l2 → Kd.C (Kd.int .i64) W Q l2.length l2 → Calls Tryd.prog 8 #[.slice P l2.length c, .slice Q l2.length d] W fun e w' => e = .returned (.bool true) ∧ Below W.heap.size W w') := ⟨fun W P Q c d h1 h2 => by
      have h3 := HL2.out HSm.out.2
      have h := refEqual_any P Q c d l2 l2 W h1 h2 (by omega) (by omega)
      rw [decide_eq_true (rfl : l2 = l2)] at h
      exact h⟩
    have HKeep : Aside0 (∀ W, Below w1.heap.size w1 W → W.cell? ⟨w.heap.size, 0, none⟩ = some (.slice Ac cl.length cc) ∧ W.cell? ⟨w.heap.size, 1, none⟩ = some (.slice Ad dm.length cd) ∧ W.cell? ⟨w.heap.size, 2, none⟩ = some (.slice Ax ex.length cx)) := ⟨fun W hW => ⟨by rw [hW.cell (cell_lt HX1.out.1)]; exact HX1.out.1, by rw [hW.cell (cell_lt HX1.out.2.1)]; exact HX1.out.2.1, by rw [hW.cell (cell_lt HX1.out.2.2)]; exact HX1.out.2.2⟩⟩
    go_wp2_with fail
    go_region_held3 (fun w' => w'.cell? ⟨w.heap.size, 0, none⟩ = some (.slice Ac cl.length cc) ∧ w'.cell? ⟨w.heap.size, 1, none⟩ = some (.slice Ad dm.length cd) ∧ w'.cell? ⟨w.heap.size, 2, none⟩ = some (.slice Ax ex.length cx))
      (first | go_keep | exact HKeep.out _ HW1.out | exact HKeep.out _ HW2.out | exact HKeep.out _ HW3.out | exact HKeep.out _ HW4.out | exact HKeep.out _ HW5.out)
      (first
        | (go_at_call 11; (with_reducible refine (HT1.out _ ?_ HSm.out.1 HSm.out.2 false).mono ?_); exact below_step HB1.out (below_drew (Below.refl _ _)); rintro e w3 ⟨⟨A1, c1, rfl, hl1, hC1⟩, hb3⟩; have HC1 := Aside0.mk hC1; have HW1 := Aside0.mk (below_step (below_drew (Below.refl w1.heap.size w1)) hb3); clear hl1 hC1 hb3)
        | (go_at_call 11; (with_reducible refine (HT2.out _ _ _ _ rfl HSm.out.2 ?_ HSm.out.1 ?_).mono ?_); exact below_step HB1.out HW1.out; exact HC1.out; rintro e w4 ⟨⟨A2, c2, rfl, hl2, hC2⟩, hb4⟩; have HC2 := Aside0.mk hC2; have HW2 := Aside0.mk (below_step HW1.out hb4); clear hl2 hC2 hb4)
        | (go_at_call 11; (with_reducible refine (HT3.out _ ?_ HSm.out.1 HSm.out.2).mono ?_); exact below_step HB1.out HW2.out; rintro e w5 ⟨⟨A3, c3, rfl, hl3, hC3⟩, hb5⟩; have HC3 := Aside0.mk hC3; have HC2' := Aside0.mk (Kd.C_below HC2.out hb5); have HW3 := Aside0.mk (below_step HW2.out hb5); clear hl3 hC3 hb5)
        | (go_at_call 8; (with_reducible refine (HEqC.out _ _ _ _ _ HC2'.out HC3.out).mono ?_); rintro e w6 ⟨rfl, hb6⟩; have HW4 := Aside0.mk (below_step HW3.out hb6); clear hb6)
        | (go_at_call 6; (with_reducible refine (HA.out _ ?_).mono ?_); exact GL.below HG.out (below_step HB1.out HW4.out); rintro e w7 ⟨rfl, hb7⟩; have HW5 := Aside0.mk (below_step HW4.out hb7); clear hb7))
    go_wp2_with fail
    go_ret
    exact ⟨rfl, below_step HB1.out HW5.out⟩
end Go.Proofs.YtipedgkampafjaaDoor.Rf
/- Opens what came in into rows that are read. -/
namespace Go.Proofs.YtipedgkampafjaaDoor.Rf
open Go.ChangeShapes Go.WideShapes Go.Deep Go.RowKit Go.Proofs.YtipedgkampafjaaDoorW.PrintWords Go.Proofs.YtipedgkampafjaaDoorW.PrintLast Go.Proofs.YtipedgkampafjaaDoorW.PrintMore

section
variable {H : Type} {enc : TypeId × Value → H} {P : Program} {w : World} {base : Nat} {spare : Nat → Bool} {held : Bool}
theorem C_of_trod {α : Type} (d : Kd α) {t e : TypeId} (ht : P.underlying t = some (.slice e)) (hsz : P.cellsOf e = d.sz) (hK : ∀ n cs' y, DataW.trod enc P w base spare held n e cs' = some y → ∃ x, d.K w x cs') {fuel : Nat} {v : Value} {x : DataW H × List MemPlace} (h : DataW.trod enc P w base spare held fuel t [v] = some x) :
    ∃ (A : Option Addr) (xs : List α) (cap : Nat), v = .slice A xs.length cap ∧ xs.length ≤ cap ∧ d.C w A xs.length xs := by
  rcases open_slice ht h with ⟨h0, _⟩ | ⟨a, len, cap, m, n, D, Pl, hcs, hb, hl, hm, hmm, hx, hi⟩
  · simp only [List.cons.injEq, and_true] at h0
    exact ⟨none, [], 0, h0, Nat.le_refl _, Kd.C_nil _ _⟩
  · simp only [List.cons.injEq, and_true] at hcs
    have hlm : len ≤ m := by rw [hmm]; split <;> omega
    have key : ∀ k, k ≤ len → ∃ xs : List α, xs.length = k ∧ ∀ j p, xs[j]? = some p → ∃ c, c.length = d.sz ∧ d.K w p c ∧ ∀ i u, c[i]? = some u → w.cell? (a.add (j * d.sz + i)) = some u := by
      intro k
      induction k with
      | zero => intro _; exact ⟨[], rfl, fun j p hj => by simp at hj⟩
      | succ k ih =>
        intro hk
        obtain ⟨xs, hxl, hxs⟩ := ih (by omega)
        obtain ⟨cs', hc, ht'⟩ := hi k (by omega)
        obtain ⟨p0, hp0⟩ := hK _ _ _ ht'
        obtain ⟨_, hcl, hat⟩ := World.cells?_some hc
        refine ⟨xs ++ [p0], by simp [hxl], fun j p hj => ?_⟩
        by_cases hjk : j < k
        · rw [List.getElem?_append_left (by omega)] at hj
          exact hxs j p hj
        · have hjl : j < (xs ++ [p0]).length := (List.getElem?_eq_some_iff.1 hj).1
          have hje : j = k := by simp [hxl] at hjl; omega
          subst hje
          rw [List.getElem?_append_right (by omega), hxl, Nat.sub_self] at hj
          cases hj
          refine ⟨cs', by rw [hcl, hsz], hp0, fun i u hu => ?_⟩
          have hil : i < cs'.length := (List.getElem?_eq_some_iff.1 hu).1
          have h1 := hat i (by omega)
          rw [hsz] at h1
          rw [← Go.Deep.add_add, h1, hu]
    obtain ⟨xs, hxl, hxs⟩ := key len (Nat.le_refl _)
    refine ⟨some a, xs, cap, by rw [hcs, hxl], by omega, rfl, by simp [maxLen] at hm; omega, fun _ => ⟨a, rfl, hxs⟩⟩
theorem K_int {k : IntKind} {t : TypeId} (ht : P.underlying t = some (.int k)) {n : Nat} {cs : List Value} {y : DataW H × List MemPlace} (h : DataW.trod enc P w base spare held n t cs = some y) : ∃ x, (Kd.int k).K w x cs := by
  obtain ⟨a, rfl, _, _⟩ := DataW.trod_int ht h
  exact ⟨a, rfl⟩
end
section
variable {H : Type} {enc : TypeId × Value → H} {w : World} {base : Nat} {spare : Nat → Bool} {held : Bool}
theorem cells3 : Tryd.prog.cellsOf 3 = 1 := by kernel_rfl
theorem cellsI : Tryd.prog.cellsOf 31 = 1 := by kernel_rfl
theorem cellsS : Tryd.prog.cellsOf 9 = 1 := by kernel_rfl
set_option maxRecDepth 100000 in
theorem K_range {n : Nat} {cs : List Value} {y : DataW H × List MemPlace} (h : DataW.trod enc Tryd.prog w base spare held n 67 cs = some y) : ∃ x, (k67).K w x cs := by
  obtain ⟨ys, n', _, _, hl, hyl, hf⟩ := DataW.trod_struct Tryd.underlying67 h
  have hc : Tryd.prog.cellsOf 67 = 2 := by kernel_rfl
  rw [hc] at hl
  match cs, hl with
  | [a, b], _ =>
    have h0 := hf 0 _ rfl
    have h1 := hf 1 _ rfl
    simp only [List.getElem_toArray, List.getElem_cons_zero, List.getElem_cons_succ] at h0 h1
    rw [cells3] at h0 h1
    simp only [List.drop_zero, List.drop_succ_cons, List.take_succ_cons, List.take_zero] at h0 h1
    have q : ∀ i, i < 2 → ∃ z, ys[i]? = some z := fun i hi => ⟨_, List.getElem?_eq_getElem (by rw [hyl]; exact hi)⟩
    obtain ⟨z0, e0⟩ := q 0 (by omega)
    obtain ⟨z1, e1⟩ := q 1 (by omega)
    obtain ⟨x0, r0, _⟩ := DataW.trod_int Tryd.underlying3 (h0.trans e0)
    obtain ⟨x1, r1, _⟩ := DataW.trod_int Tryd.underlying3 (h1.trans e1)
    simp at r0 r1
    subst r0; subst r1
    exact ⟨⟨x0, x1⟩, k67_mk w ⟨x0, x1⟩⟩
set_option maxRecDepth 100000 in
theorem K_span {n : Nat} {cs : List Value} {y : DataW H × List MemPlace} (h : DataW.trod enc Tryd.prog w base spare held n 71 cs = some y) : ∃ x, (k71).K w x cs := by
  obtain ⟨ys, n', _, _, hl, hyl, hf⟩ := DataW.trod_struct Tryd.underlying71 h
  have hc : Tryd.prog.cellsOf 71 = 3 := by kernel_rfl
  rw [hc] at hl
  match cs, hl with
  | [a, b, c], _ =>
    have h0 := hf 0 _ rfl
    have h1 := hf 1 _ rfl
    have h2 := hf 2 _ rfl
    simp only [List.getElem_toArray, List.getElem_cons_zero, List.getElem_cons_succ] at h0 h1 h2
    rw [cells3] at h0 h1 h2
    simp only [List.drop_zero, List.drop_succ_cons, List.take_succ_cons, List.take_zero] at h0 h1 h2
    have q : ∀ i, i < 3 → ∃ z, ys[i]? = some z := fun i hi => ⟨_, List.getElem?_eq_getElem (by rw [hyl]; exact hi)⟩
    obtain ⟨z0, e0⟩ := q 0 (by omega)
    obtain ⟨z1, e1⟩ := q 1 (by omega)
    obtain ⟨z2, e2⟩ := q 2 (by omega)
    obtain ⟨x0, r0, _⟩ := DataW.trod_int Tryd.underlying3 (h0.trans e0)
    obtain ⟨x1, r1, _⟩ := DataW.trod_int Tryd.underlying3 (h1.trans e1)
    obtain ⟨x2, r2, _⟩ := DataW.trod_int Tryd.underlying3 (h2.trans e2)
    simp at r0 r1 r2
    subst r0; subst r1; subst r2
    exact ⟨⟨x0, x1, x2⟩, k71_mk w ⟨x0, x1, x2⟩⟩
set_option maxRecDepth 100000 in
theorem K_mapping {n : Nat} {cs : List Value} {y : DataW H × List MemPlace} (h : DataW.trod enc Tryd.prog w base spare held n 43 cs = some y) : ∃ x, (k43).K w x cs := by
  obtain ⟨ys, n', _, _, hl, hyl, hf⟩ := DataW.trod_struct Tryd.underlying43 h
  have hc : Tryd.prog.cellsOf 43 = 3 := by kernel_rfl
  rw [hc] at hl
  match cs, hl with
  | [a, b, c], _ =>
    have h0 := hf 0 _ rfl
    have h1 := hf 1 _ rfl
    have h2 := hf 2 _ rfl
    simp only [List.getElem_toArray, List.getElem_cons_zero, List.getElem_cons_succ] at h0 h1 h2
    rw [cells3] at h0
    rw [cellsI] at h1
    rw [cellsS] at h2
    simp only [List.drop_zero, List.drop_succ_cons, List.take_succ_cons, List.take_zero] at h0 h1 h2
    have q : ∀ i, i < 3 → ∃ z, ys[i]? = some z := fun i hi => ⟨_, List.getElem?_eq_getElem (by rw [hyl]; exact hi)⟩
    obtain ⟨z0, e0⟩ := q 0 (by omega)
    obtain ⟨z1, e1⟩ := q 1 (by omega)
    obtain ⟨z2, e2⟩ := q 2 (by omega)
    obtain ⟨x0, r0, _⟩ := DataW.trod_int Tryd.underlying3 (h0.trans e0)
    obtain ⟨x2, r2, _⟩ := DataW.trod_string Tryd.underlying9 (h2.trans e2)
    obtain ⟨A, xs, cap, rb, hcap, hC⟩ := C_of_trod (Kd.int .i64) Tryd.underlying31 cells3 (fun n cs y h => K_int Tryd.underlying3 h) (h1.trans e1)
    simp at r0 r2
    subst r0; subst r2; subst rb
    exact ⟨⟨x0, xs, x2⟩, k43_mk w ⟨x0, xs, x2⟩ hcap hC⟩
end
end Go.Proofs.YtipedgkampafjaaDoor.Rf
/- What the laid variable holds. -/
namespace Go.Proofs.YtipedgkampafjaaDoor
open Go.ChangeShapes Go.WideShapes Go.ChangeAt Go.WideMaps Go.WideElems Go.RowKit

namespace Rf
section
variable {H : Type} {enc : TypeId × Value → H} {w : World} {base : Nat} {spare : Nat → Bool} {held : Bool}
set_option maxRecDepth 100000 in
theorem range_vals {n : Nat} {cs : List Value} {y : DataW H × List MemPlace} {a b : Int} (h : DataW.trod enc Tryd.prog w base spare held n 67 cs = some y) (hy : y.1 = .agg [.lit (.int .i64 a), .lit (.int .i64 b)]) : cs = [.int .i64 a, .int .i64 b] := by
  obtain ⟨ys, n', _, hyy, hl, hyl, hf⟩ := DataW.trod_struct Tryd.underlying67 h
  have hc : Tryd.prog.cellsOf 67 = 2 := by kernel_rfl
  rw [hc] at hl
  match cs, hl with
  | [a', b'], _ =>
    have h0 := hf 0 _ rfl
    have h1 := hf 1 _ rfl
    simp only [List.getElem_toArray, List.getElem_cons_zero, List.getElem_cons_succ] at h0 h1
    rw [cells3] at h0 h1
    simp only [List.drop_zero, List.drop_succ_cons, List.take_succ_cons, List.take_zero] at h0 h1
    match ys, hyl with
    | [z0, z1], _ =>
      obtain ⟨x0, r0, s0, _⟩ := DataW.trod_int Tryd.underlying3 (x := z0) h0
      obtain ⟨x1, r1, s1, _⟩ := DataW.trod_int Tryd.underlying3 (x := z1) h1
      simp at r0 r1
      subst r0; subst r1; subst s0; subst s1
      rw [hyy] at hy
      simp at hy
      rw [hy.1, hy.2]
end
end Rf

theorem gRanges : Tryd.prog.globalNamed "unicodetext/ordering.ranges" = some 0 := by kernel_rfl
theorem tRanges : (Tryd.prog.globals[0]?).map (·.type) = some 90 := by kernel_rfl
set_option maxRecDepth 100000 in
theorem of_laid {W : World} (h : laidMetH Tryd.prog [("unicodetext/ordering.ranges", Rows.laid_unicodetext_ordering_ranges)] W) : Rf.GL W := by
  rw [MakeChecks.laidMetH_plain _ _ _ (by kernel_rfl)] at h
  obtain ⟨ps, ⟨g0, t0, cs0, f0, p0, q0, hg0, ht0, hv0, hd0, _, _⟩, _, _⟩ := h
  obtain rfl := Option.some.inj (gRanges.symm.trans hg0)
  obtain rfl := Option.some.inj (tRanges.symm.trans ht0)
  obtain ⟨xs, m1, rfl, hx1, hlen, hn4, hel⟩ := DataW.trod_array Tryd.underlying90 hd0
  have c2 : Tryd.prog.cellsOf 67 = 2 := by kernel_rfl
  have c8 : Tryd.prog.cellsOf 90 = 8 := by kernel_rfl
  rw [c8] at hlen
  rw [c2] at hel
  simp only [Prod.mk.injEq, Rows.laid_unicodetext_ordering_ranges, DataW.agg.injEq] at hx1
  obtain ⟨l⟩ := cs0
  have hc := fun i => World.var?_cell hg0 hv0 i
  simp only at hlen hel
  match l, hlen, xs, hn4, hx1.1 with
  | [a0, a1, a2, a3, a4, a5, a6, a7], _, [x0, x1, x2, x3], _, hx =>
    simp only [List.map_cons, List.map_nil, List.cons.injEq, and_true] at hx
    have e0 := Rf.range_vals (hel 0 (by decide)) hx.1.symm
    have e1 := Rf.range_vals (hel 1 (by decide)) hx.2.1.symm
    have e2 := Rf.range_vals (hel 2 (by decide)) hx.2.2.1.symm
    have e3 := Rf.range_vals (hel 3 (by decide)) hx.2.2.2.symm
    simp at e0 e1 e2 e3
    obtain ⟨rfl, rfl⟩ := e0
    obtain ⟨rfl, rfl⟩ := e1
    obtain ⟨rfl, rfl⟩ := e2
    obtain ⟨rfl, rfl⟩ := e3
    exact ⟨by simpa using hc 0, by simpa using hc 1, by simpa using hc 2, by simpa using hc 3, by simpa using hc 4, by simpa using hc 5, by simpa using hc 6, by simpa using hc 7⟩
end Go.Proofs.YtipedgkampafjaaDoor
/- Opens data and texts that came in. -/
namespace Go.Proofs.YtipedgkampafjaaDoor

namespace Rf
open Go.ChangeShapes Go.WideShapes Go.Deep Go.RowKit Go.Proofs.YtipedgkampafjaaDoorW.PrintWords Go.Proofs.YtipedgkampafjaaDoorW.PrintLast Go.Proofs.YtipedgkampafjaaDoorW.PrintMore
section
variable {H : Type} {enc : TypeId × Value → H} {P : Program} {w : World} {base : Nat} {spare : Nat → Bool} {held : Bool}
theorem C_of_trodQ {α : Type} (d : Kd α) (Q : α → Prop) {t e : TypeId} (ht : P.underlying t = some (.slice e)) (hsz : P.cellsOf e = d.sz) (hK : ∀ n cs' y, DataW.trod enc P w base spare held n e cs' = some y → ∃ x, d.K w x cs' ∧ Q x) {fuel : Nat} {v : Value} {x : DataW H × List MemPlace} (h : DataW.trod enc P w base spare held fuel t [v] = some x) :
    ∃ (A : Option Addr) (xs : List α) (cap : Nat), v = .slice A xs.length cap ∧ xs.length ≤ cap ∧ d.C w A xs.length xs ∧ ∀ x ∈ xs, Q x := by
  rcases open_slice ht h with ⟨h0, _⟩ | ⟨a, len, cap, m, n, D, Pl, hcs, hb, hl, hm, hmm, hx, hi⟩
  · simp only [List.cons.injEq, and_true] at h0
    exact ⟨none, [], 0, h0, Nat.le_refl _, Kd.C_nil _ _, fun x hx => (by cases hx)⟩
  · simp only [List.cons.injEq, and_true] at hcs
    have hlm : len ≤ m := by rw [hmm]; split <;> omega
    have key : ∀ k, k ≤ len → ∃ xs : List α, xs.length = k ∧ (∀ x ∈ xs, Q x) ∧ ∀ j p, xs[j]? = some p → ∃ c, c.length = d.sz ∧ d.K w p c ∧ ∀ i u, c[i]? = some u → w.cell? (a.add (j * d.sz + i)) = some u := by
      intro k
      induction k with
      | zero => intro _; exact ⟨[], rfl, fun x hx => (by cases hx), fun j p hj => by simp at hj⟩
      | succ k ih =>
        intro hk
        obtain ⟨xs, hxl, hxq, hxs⟩ := ih (by omega)
        obtain ⟨cs', hc, ht'⟩ := hi k (by omega)
        obtain ⟨p0, hp0, hq0⟩ := hK _ _ _ ht'
        obtain ⟨_, hcl, hat⟩ := World.cells?_some hc
        refine ⟨xs ++ [p0], by simp [hxl], fun x hx => (by rcases List.mem_append.1 hx with h | h; exact hxq x h; simp only [List.mem_singleton] at h; rw [h]; exact hq0), fun j p hj => ?_⟩
        by_cases hjk : j < k
        · rw [List.getElem?_append_left (by omega)] at hj
          exact hxs j p hj
        · have hjl : j < (xs ++ [p0]).length := (List.getElem?_eq_some_iff.1 hj).1
          have hje : j = k := by simp [hxl] at hjl; omega
          subst hje
          rw [List.getElem?_append_right (by omega), hxl, Nat.sub_self] at hj
          cases hj
          refine ⟨cs', by rw [hcl, hsz], hp0, fun i u hu => ?_⟩
          have hil : i < cs'.length := (List.getElem?_eq_some_iff.1 hu).1
          have h1 := hat i (by omega)
          rw [hsz] at h1
          rw [← Go.Deep.add_add, h1, hu]
    obtain ⟨xs, hxl, hxq, hxs⟩ := key len (Nat.le_refl _)
    refine ⟨some a, xs, cap, by rw [hcs, hxl], by omega, ⟨rfl, by simp [maxLen] at hm; omega, fun _ => ⟨a, rfl, hxs⟩⟩, hxq⟩
end
set_option maxRecDepth 100000 in
theorem openText {H : Type} {enc : TypeId × Value → H} {w : World} {base : Nat} {spare : Nat → Bool} {held : Bool} {v : Value} {d : DataW H} {p : List MemPlace} (h : ∃ fuel, DataW.trod enc Tryd.prog w base spare held fuel 31 [v] = some (d, p)) :
    ∃ (A : Option Addr) (xs : List Int) (cap : Nat), v = .slice A xs.length cap ∧ xs.length ≤ cap ∧ (Kd.int .i64).C w A xs.length xs ∧ ∀ x ∈ xs, inR x := by
  obtain ⟨fuel, h⟩ := h
  refine C_of_trodQ (Kd.int .i64) inR Tryd.underlying31 cells3 (fun n cs y h => ?_) h
  obtain ⟨a, rfl, _, hw⟩ := DataW.trod_int Tryd.underlying3 h
  refine ⟨a, rfl, ?_⟩
  simp [Lit.wf, IntKind.min, IntKind.max, IntKind.signed, IntKind.bits] at hw
  unfold inR; omega
end Rf

open Go.ChangeShapes Go.WideShapes Go.ChangeAt Go.WideMaps Go.WideElems Go.RowKit

abbrev laidL : List (String × DataW Unit) := [("unicodetext/ordering.ranges", Rows.laid_unicodetext_ordering_ranges)]
theorem ownK : ownKnob Tryd.prog.godebug = none := by kernel_rfl
theorem laidOutA : laidOutB Tryd.prog = true := by kernel_rfl
theorem door_met (os : Os) (args : Array Value) : laidMetH Tryd.prog laidL ((World.doorLaid Tryd.prog 400 os).forCall (fun _ _ => 0) ⟨#[], args, []⟩).memory :=
  laidMetH_of_parts3 (fuel := 8) (laidMet_of_run' 8 (by kernel_rfl) (by kernel_rfl)) (by kernel_rfl) (by kernel_rfl)

set_option maxRecDepth 100000 in
theorem openNorm {H : Type} {enc : TypeId × Value → H} {w : World} {base : Nat} {spare : Nat → Bool} {held : Bool} {cs : Array Value} {d : DataW H} {p : List MemPlace} (h : DataW.Trod enc Tryd.prog w base spare held 28 (.agg cs) d p) :
    ∃ (Ac Ad Ax : Option Addr) (cc cd cx : Nat) (cl : List Rf.S71) (dm : List Rf.S43) (ex : List Rf.S67), cs = #[.slice Ac cl.length cc, .slice Ad dm.length cd, .slice Ax ex.length cx] ∧
      (cl.length ≤ cc ∧ Rf.k71.C w Ac cl.length cl) ∧ (dm.length ≤ cd ∧ Rf.k43.C w Ad dm.length dm) ∧ (ex.length ≤ cx ∧ Rf.k67.C w Ax ex.length ex) := by
  obtain ⟨fuel, hf⟩ := h
  obtain ⟨ys, n', _, _, hl, hyl, hff⟩ := DataW.trod_struct Tryd.underlying28 hf
  have hc : Tryd.prog.cellsOf 28 = 3 := by kernel_rfl
  rw [hc] at hl
  obtain ⟨l⟩ := cs
  have hl' : l.length = 3 := by simpa [Value.cells] using hl
  match l, hl' with
  | [a, b, c], _ =>
    have h0 := hff 0 _ rfl
    have h1 := hff 1 _ rfl
    have h2 := hff 2 _ rfl
    simp only [List.getElem_toArray, List.getElem_cons_zero, List.getElem_cons_succ, Value.cells] at h0 h1 h2
    have k0 : Tryd.prog.cellsOf 22 = 1 := by kernel_rfl
    have k1 : Tryd.prog.cellsOf 23 = 1 := by kernel_rfl
    have k2 : Tryd.prog.cellsOf 26 = 1 := by kernel_rfl
    have k3 : Tryd.prog.cellsOf 24 = 1 := by kernel_rfl
    rw [k0] at h0
    rw [k1] at h1
    rw [k2] at h2
    simp only [List.drop_zero, List.drop_succ_cons, List.take_succ_cons, List.take_zero] at h0 h1 h2
    match ys, hyl with
    | [z0, z1, z2], _ =>
      obtain ⟨Ac, cl, cc, ea, hca, hCa⟩ := Rf.C_of_trod Rf.k71 Tryd.underlying22 (by kernel_rfl) (fun n cs y h => Rf.K_span h) (x := z0) h0
      obtain ⟨Ad, dm, cd, eb, hcb, hCb⟩ := Rf.C_of_trod Rf.k43 Tryd.underlying23 (by kernel_rfl) (fun n cs y h => Rf.K_mapping h) (x := z1) h1
      obtain ⟨zs, m', _, _, hl3, hzl, hg⟩ := DataW.trod_struct Tryd.underlying26 (x := z2) h2
      have h3 := hg 0 _ rfl
      simp only [List.getElem_toArray, List.getElem_cons_zero] at h3
      rw [k3] at h3
      simp only [List.drop_zero, List.take_succ_cons, List.take_zero] at h3
      match zs, hzl with
      | [u0], _ =>
        obtain ⟨Ax, ex, cx, ec, hcc, hCc⟩ := Rf.C_of_trod Rf.k67 Tryd.underlying24 (by kernel_rfl) (fun n cs y h => Rf.K_range h) (x := u0) h3
        subst ea; subst eb; subst ec
        exact ⟨Ac, Ad, Ax, cc, cd, cx, cl, dm, ex, rfl, ⟨hca, hCa⟩, ⟨hcb, hCb⟩, ⟨hcc, hCc⟩⟩

end Go.Proofs.YtipedgkampafjaaDoor
/- The row and the tied card of DecomposeKinds. -/
namespace Go.Proofs.YtipedgkampafjaaDoor
open Go.ChangeShapes Go.WideShapes Go.ChangeAt Go.WideMaps Go.WideElems Go.RowKit

set_option maxRecDepth 100000 in
set_option maxHeartbeats 2000000 in
theorem decomposeKinds_lifted (os : Os) (started : os.Started) (H : Type) (enc : TypeId × Value → H) :
    ReturnsInHanded {} Tryd.checked os 4 .any (fun w args => (Rows.decomposeKindsSpec.pre enc Tryd.prog Tryd.f4 [] false w args ∧ laidMetH Tryd.prog laidL w) ∧ sizedMet enc Tryd.prog Tryd.f4 (OpenSpec.ofChange Rows.decomposeKindsSpec) false w args)
      (Rows.decomposeKindsSpec.post enc Tryd.prog Tryd.f4 false true false false) := by
  refine returnsInHanded_of_change_and (C := Tryd.checked) (X := fun w _ => laidMetH Tryd.prog laidL w) (fun _ _ _ hh h => h.of_heap hh) ownK started (by kernel_rfl) Tryd.func4
    (ChangeSpec.witness_shaped (enc := enc) (C := Tryd.checked) (os := os) (X := fun w _ => laidMetH Tryd.prog laidL w) false (World.doorLaid Tryd.prog 400 os) #[.agg #[.slice none 0 0, .slice none 0 0, .slice none 0 0], .slice none 0 0] 8 rfl (World.shaped_of_RefB (by kernel_rfl) (by kernel_rfl)) (by kernel_rfl) (by kernel_rfl) (by kernel_rfl) (door_met os _)) ?_
  intro W base args ds gs before hval0 hW _ _ hL _
  have hval : ∀ (j : Nat) t v, Tryd.f4.params[j]? = some t → args[j]? = some v → Value.okWide Tryd.prog W .any base t v := hval0
  have hW' := hW
  obtain ⟨p, q, hA0, hV, rfl, hfz, hnd⟩ := hW
  have hA : DataW.TrodAll enc Tryd.prog W 0 (fun _ => true) true Tryd.f4.params.toList args.toList ds p := hA0
  rw [Tryd.params4] at hA hval
  obtain ⟨v0, v1, d0, d1, p0, p1, rfl, rfl, rfl, h0, h1⟩ := trodAll_two hA
  obtain ⟨rfl, rfl⟩ := trodVars_none hV
  obtain ⟨cs, rfl, _⟩ := okWide_struct Tryd.underlying28 (hval 0 28 v0 rfl rfl)
  have k0 := h0
  have lt0 : ∀ x ∈ p0, x.block < W.heap.size := by obtain ⟨m, hm⟩ := k0; exact DataW.trod_lt m _ _ _ hm
  obtain ⟨Ac, Ad, Ax, cc, cd, cx, cl, dm, ex, rfl, ⟨hcc, hC⟩, ⟨hcd, hD⟩, ⟨hcx, hX⟩⟩ := openNorm h0
  have k1 := h1
  have lt1 : ∀ x ∈ p1, x.block < W.heap.size := by obtain ⟨m, hm⟩ := k1; exact DataW.trod_lt m _ _ _ hm
  obtain ⟨s1, m1, z1, rfl⟩ := okWide_slice Tryd.underlying31 (hval 1 31 v1 rfl rfl)
  obtain ⟨T1, x1, c1, hv1, hc1, hC1, hi1⟩ := Rf.openText (v := .slice s1 m1 z1) h1
  injection hv1 with e1 e2 e3
  subst e1; subst e2; subst e3
  refine (Rf.kinds_law_any Ac Ad Ax cc cd cx cl dm ex s1 z1 x1 W (of_laid hL) hC hcc hD hcd hX hcx hC1 hi1).mono fun e W' ⟨he, bel⟩ => ?_
  subst he
  exact ⟨_, rfl, _, _, _, [], _, [], hW', trodAll_mk1 (shut_bool Tryd.underlying4 _), (trodAll_cons_mk (Below.trod laidOutA (by kernel_rfl) (of_decide_eq_true (by kernel_rfl)) k0 bel lt0) (trodAll_cons_mk (Below.trod laidOutA (by kernel_rfl) (of_decide_eq_true (by kernel_rfl)) k1 bel lt1) trodAll_mk0)), rfl, bel.frame _, fun h => by cases h⟩

theorem decomposeKinds_holds : Rows.DecomposeKindsSaid :=
  OpenClaim.holds_of_wide 4 Tryd.f4 rfl rfl rfl rfl rfl rfl rfl ⟨rfl, rfl, rfl, rfl, rfl⟩ rfl rfl rfl rfl rfl (by kernel_rfl) Tryd.func4 (by kernel_rfl)
    (of_decide_eq_true (by kernel_rfl)) (by unfold Func.isWrapper; first | (rw [if_pos (by decide +kernel)]; kernel_rfl) | (rw [if_neg (by decide +kernel)]; exact ⟨rfl, rfl⟩))
    (fun os started H enc _ => decomposeKinds_lifted os started H enc)

theorem decomposeKinds_card : Rows.DecomposeKindsCardSaid :=
  Claim7.holds_tied_plain_at .later [] [.data] true Rows.decomposeKindsCard.stood.harness false
    decomposeKinds_holds (fun _ h => by cases h) (by kernel_rfl) (fun _ h => by cases h) decomposeKinds_row_tie rfl ⟨rfl, rfl⟩ (by kernel_rfl) rfl
    (fun f fn hf hfn => by
      obtain rfl : f = 4 := Option.some.inj ((show Tryd.prog.funcNamed "unicodetext/unicodetextlaw21.DecomposeKinds" = some 4 by kernel_rfl).symm.trans hf) |>.symm
      obtain rfl : fn = Tryd.f4 := (Option.some.inj (Tryd.func4.symm.trans hfn)).symm
      exact ⟨by kernel_rfl, fun j t ht => by
        rw [Tryd.params4] at ht
        have hm : t ∈ [28, 31] := by simpa using Array.mem_of_getElem? ht
        have hall : ([28, 31].all fun u => !Tryd.prog.wantsStandIn u) = true := by kernel_rfl
        exact (show Tryd.prog.wantsStandIn t = false by simpa using List.all_eq_true.1 hall t hm)⟩)
    (by kernel_rfl)
end Go.Proofs.YtipedgkampafjaaDoor
