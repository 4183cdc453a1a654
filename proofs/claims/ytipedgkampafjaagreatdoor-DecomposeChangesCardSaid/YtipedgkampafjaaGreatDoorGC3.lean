import Derived.Test.YtipedgkampafjaaGreatDoorGC2
import Derived.Lib.QuietBelow
import Derived.Deep.RegionHeld3
import Derived.Deep.RegionLaw
/- Tells what decompose.Check computes. -/
namespace Go.Proofs.YtipedgkampafjaaGreatDoor.Rf
open Go.Shelf Go.RowKit Go.Proofs.YtipedgkampafjaaGreatDoorW.PrintWords Go.Proofs.YtipedgkampafjaaGreatDoorW.PrintLast Go.Proofs.YtipedgkampafjaaGreatDoorW.PrintMore

/-- Some full decomposition has too many elements. -/
def TooLong (dm : List S61) (cp : Bool) : Prop := ∃ L, IsLen dm cp L ∧ ∃ c m, lastM dm c = some m ∧ 64 < L c
open Classical in
/-- The first error of data. -/
noncomputable def decChk (cl : List S71) (dm : List S61) (ex : List RR) : Int :=
  if ordChk cl ≠ 0 then ordChk cl else if mapChkO dm ≠ 0 then mapChkO dm else if canonR ex = false then 11 else if kindsE cl dm ≠ 0 then kindsE cl dm
  else if ¬ AllEnds dm then 12 else if TooLong dm true ∨ TooLong dm false then 13 else 0

theorem mapChkO_ok {dm : List S61} (h : mapChkO dm = 0) : ∀ m ∈ dm, badCodes m = false := by
  have h1 : mapChk dm = 0 := by
    unfold mapChkO at h
    split at h
    · rename_i h2; exact h2
    · exact h
  unfold mapChk at h1
  cases hb : dm.any badCodes with
  | true => rw [hb] at h1; simp at h1
  | false => exact not_any _ _ hb
theorem kindsE_ok {cl : List S71} {dm : List S61} (h : kindsE cl dm = 0) : ∀ m ∈ dm, hk m.f0 = 0 := by
  intro m hm
  unfold kindsE at h
  cases h1 : pairAny sameFrom dm with
  | true => rw [h1] at h; simp at h
  | false =>
    cases h2 : dm.any badKind with
    | true => rw [h1, h2] at h; simp at h
    | false =>
      cases h3 : dm.any (badData cl) with
      | true => rw [h1, h2, h3] at h; simp at h
      | false =>
        have h4 := not_any _ _ h3 m hm
        simp only [badData, Bool.or_eq_false_iff] at h4
        simpa using h4.1
theorem not_long {dm : List S61} {cp : Bool} (hwf : ∀ c, Ends dm cp c) {L : Int → Int} (hL : IsLen dm cp L) (h : ∀ c m, lastM dm c = some m → L c ≤ 64) : ¬ TooLong dm cp := by
  rintro ⟨L', hL', c, m, h1, h2⟩
  have h3 := h c m h1
  rw [len_unique hwf hL hL' c] at h3
  omega
theorem mapChkO_cases (dm : List S61) : mapChkO dm = 0 ∨ mapChkO dm = 1 ∨ mapChkO dm = 2 ∨ mapChkO dm = 6 ∨ mapChkO dm = 5 ∨ mapChkO dm = 4 := by
  have h := mapChk_cases dm
  unfold mapChkO
  split
  · split <;> simp
  · omega
theorem kindsE_cases (cl : List S71) (dm : List S61) : kindsE cl dm = 0 ∨ kindsE cl dm = 5 ∨ kindsE cl dm = 8 ∨ kindsE cl dm = 11 := by
  unfold kindsE; repeat' split
  all_goals simp
theorem ordChk_cases (cl : List S71) : ordChk cl = 0 ∨ ordChk cl = 1 ∨ ordChk cl = 4 ∨ ordChk cl = 11 := by
  unfold ordChk; repeat' split
  all_goals simp

open Classical in
set_option maxRecDepth 100000 in
set_option maxHeartbeats 16000000 in
theorem decCheck_any (Ac Ad Ax : Option Addr) (cc cd cx : Nat) (cl : List S71) (dm : List S61) (ex : List RR) (w : World) (hG : GL w)
    (hrc : Kd.C k71 w Ac cl.length cl) (hcc : cl.length ≤ cc) (hlc : cl.length ≤ 1000000)
    (hrd : Kd.C k61 w Ad dm.length dm) (hcd : dm.length ≤ cd) (hld : dm.length ≤ 1000000)
    (hrx : Kd.C k52 w Ax ex.length ex) (hcx : ex.length ≤ cx) (hlx : ex.length ≤ 1000000) :
    Calls Tryz.prog 9 #[.agg #[.slice Ac cl.length cc, .slice Ad dm.length cd, .slice Ax ex.length cx]] w fun e w' => e = .returned (.int .i64 (decChk cl dm ex)) ∧ Below w.heap.size w w' := by
  have HE : Aside0 (decChk cl dm ex = if ordChk cl ≠ 0 then ordChk cl else if mapChkO dm ≠ 0 then mapChkO dm else if canonR ex = false then 11 else if kindsE cl dm ≠ 0 then kindsE cl dm
    else if ¬ AllEnds dm then 12 else if TooLong dm true ∨ TooLong dm false then 13 else 0) := ⟨by unfold decChk; rfl⟩
  have HB0 : Aside0 (Below w.heap.size w (w.alloc (.cells #[.slice Ac cl.length cc, .slice Ad dm.length cd, .slice Ax ex.length cx] 28))) := ⟨below_alloc (Below.refl _ _) _⟩
  have hx0 : (w.alloc (.cells #[.slice Ac cl.length cc, .slice Ad dm.length cd, .slice Ax ex.length cx] 28)).cell? ⟨w.heap.size, 0, none⟩ = some (.slice Ac cl.length cc) := by simp
  have hx1 : (w.alloc (.cells #[.slice Ac cl.length cc, .slice Ad dm.length cd, .slice Ax ex.length cx] 28)).cell? ⟨w.heap.size, 1, none⟩ = some (.slice Ad dm.length cd) := by simp
  have hx2 : (w.alloc (.cells #[.slice Ac cl.length cc, .slice Ad dm.length cd, .slice Ax ex.length cx] 28)).cell? ⟨w.heap.size, 2, none⟩ = some (.slice Ax ex.length cx) := by simp
  have H1 : Aside0 (∀ W, Below w.heap.size w W → Calls Tryz.prog 29 #[.slice Ac cl.length cc] W fun e w' => e = .returned (.int .i64 (ordChk cl)) ∧ Below W.heap.size W w') :=
    ⟨fun W hW => ordCheck_any Ac cc cl W (GL.below hG hW) (Kd.C_below hrc hW) hcc (by omega)⟩
  have H2 : Aside0 (∀ W, Below w.heap.size w W → Calls Tryz.prog 30 #[.slice Ad dm.length cd] W fun e w' => e = .returned (.int .i64 (mapChkO dm)) ∧ Below W.heap.size W w') :=
    ⟨fun W hW => mapCheck_any Ad cd dm W (Kd.C_below hrd hW) hcd (by omega)⟩
  have H3 : Aside0 (∀ W, Below w.heap.size w W → Calls Tryz.prog 31 #[.agg #[.slice Ax ex.length cx]] W fun e w' => e = .returned (.bool (canonR ex)) ∧ Below W.heap.size W w') :=
    ⟨fun W hW => (cpValidR_any Ax cx ex W (Kd.C_below hrx hW) hcx hlx).mono fun e w' ⟨⟨out, hm, he⟩, hb⟩ => ⟨by rw [he, made_iff hm], hb⟩⟩
  have H4 : Aside0 (∀ W, Below w.heap.size w W → Calls Tryz.prog 32 #[.agg #[.slice Ac cl.length cc, .slice Ad dm.length cd, .slice Ax ex.length cx]] W fun e w' => e = .returned (.int .i64 (kindsE cl dm)) ∧ Below W.heap.size W w') :=
    ⟨fun W hW => kinds_any Ac Ad Ax cc cd ex.length cx cl dm W (GL.below hG hW) (Kd.C_below hrc hW) hcc (by omega) (Kd.C_below hrd hW) hcd (by omega)⟩
  have HRD := Aside0.mk hrd
  have HLD := Aside0.mk hld
  clear hrc hrd hrx hG hcc hcd hcx hlc hld hlx
  have hoc := ordChk_cases cl
  by_cases ho : ordChk cl = 0
  · clear hoc
    rw [ho] at H1 HE
    have hmc := mapChkO_cases dm
    by_cases hm : mapChkO dm = 0
    · clear hmc
      have HV := Aside0.mk (mapChkO_ok hm)
      rw [hm] at H2 HE
      have HVR : Aside0 (∀ m ∈ dm, -9223372036854775808 ≤ m.f0 ∧ m.f0 ≤ 9223372036854775807) := ⟨fun m hm => by
        have := HV.out m hm
        simp only [badCodes, Bool.or_eq_false_iff, Bool.not_eq_false'] at this
        exact valid_range this.1⟩
      cases hc : canonR ex with
      | false =>
        have HE2 : Aside0 (decChk cl dm ex = 11) := ⟨by rw [HE.out]; simp [hc]⟩
        rw [HE2.out]
        rw [hc] at H3
        clear HE HE2 H4 hc
        go_enter Tryz.func9, Tryz.ntmps9
        go_wp2_with fail
        refine (H1.out _ HB0.out).mono ?_
        rintro e w1 ⟨rfl, hb1⟩
        have k1 : w1.cell? ⟨w.heap.size, 1, none⟩ = some (.slice Ad dm.length cd) := by rw [hb1.cell (cell_lt hx1)]; exact hx1
        have HB1 := Aside0.mk (below_step HB0.out hb1)
        have HC1 := Aside0.mk hb1
        clear hb1
        go_wp2_with fail
        refine (H2.out _ HB1.out).mono ?_
        rintro e w2 ⟨rfl, hb2⟩
        have HB2 := Aside0.mk (below_step HB1.out hb2)
        have HC2 := Aside0.mk (below_step HC1.out hb2)
        have k2 : w2.cell? ⟨w.heap.size, 2, none⟩ = some (.slice Ax ex.length cx) := by rw [HC2.out.cell (cell_lt hx2)]; exact hx2
        clear hb2
        go_wp2_with fail
        refine (H3.out _ HB2.out).mono ?_
        rintro e w3 ⟨rfl, hb3⟩
        go_wp2_with fail
        go_ret
        exact ⟨rfl, below_step HB2.out hb3⟩
      | true =>
        rw [hc] at H3 HE
        have hkc := kindsE_cases cl dm
        by_cases hk : kindsE cl dm = 0
        · clear hkc
          have HKD := Aside0.mk (kindsE_ok hk)
          rw [hk] at H4 HE
          clear hc hk
          have HEE : Aside0 (decChk cl dm ex = if ¬ AllEnds dm then 12 else if TooLong dm true ∨ TooLong dm false then 13 else 0) := ⟨by rw [HE.out]; simp⟩
          clear HE
          generalize decChk cl dm ex = r at HEE
          go_enter Tryz.func9, Tryz.ntmps9
          go_wp2_with fail
          refine (H1.out _ HB0.out).mono ?_
          rintro e w1 ⟨rfl, hb1⟩
          have k1 : w1.cell? ⟨w.heap.size, 1, none⟩ = some (.slice Ad dm.length cd) := by rw [hb1.cell (cell_lt hx1)]; exact hx1
          have HB1 := Aside0.mk (below_step HB0.out hb1)
          have HC1 := Aside0.mk hb1
          clear hb1
          go_wp2_with fail
          refine (H2.out _ HB1.out).mono ?_
          rintro e w2 ⟨rfl, hb2⟩
          have HB2 := Aside0.mk (below_step HB1.out hb2)
          have HC2 := Aside0.mk (below_step HC1.out hb2)
          have k2 : w2.cell? ⟨w.heap.size, 2, none⟩ = some (.slice Ax ex.length cx) := by rw [HC2.out.cell (cell_lt hx2)]; exact hx2
          clear hb2
          go_wp2_with fail
          refine (H3.out _ HB2.out).mono ?_
          rintro e w3 ⟨rfl, hb3⟩
          have HB3 := Aside0.mk (below_step HB2.out hb3)
          have HC3 := Aside0.mk (below_step HC2.out hb3)
          have j0 : w3.cell? ⟨w.heap.size, 0, none⟩ = some (.slice Ac cl.length cc) := by rw [HC3.out.cell (cell_lt hx0)]; exact hx0
          have j1 : w3.cell? ⟨w.heap.size, 1, none⟩ = some (.slice Ad dm.length cd) := by rw [HC3.out.cell (cell_lt hx1)]; exact hx1
          have j2 : w3.cell? ⟨w.heap.size, 2, none⟩ = some (.slice Ax ex.length cx) := by rw [HC3.out.cell (cell_lt hx2)]; exact hx2
          clear hb3
          go_wp2_with fail
          refine (H4.out _ HB3.out).mono ?_
          rintro e w4 ⟨rfl, hb4⟩
          have HB4 := Aside0.mk (below_step HB3.out hb4)
          have HC4 := Aside0.mk (below_step HC3.out hb4)
          clear hb4
          have l1 : w4.cell? ⟨w.heap.size, 1, none⟩ = some (.slice Ad dm.length cd) := by rw [HC4.out.cell (cell_lt hx1)]; exact hx1
          go_wp2_with fail
          refine (load_any Ad cd dm true w4 (Kd.C_below HRD.out HB4.out) (by have := HLD.out; omega) HVR.out).mono ?_
          rintro e w5 ⟨rfl, hd5, _⟩
          have HD5 := Aside0.mk hd5
          clear hd5
          go_wp2_with fail
          refine (cyclic_any HV.out (by have := HLD.out; omega) HD5.out).mono ?_
          rintro e w6 ⟨b, rfl, hbt, hbf, hb6⟩
          cases b with
          | true =>
            have HN : Aside0 (¬ AllEnds dm) := ⟨fun h => by obtain ⟨c, m, h1, h2⟩ := hbt rfl; exact h2 (h c m h1)⟩
            have HB6 := Aside0.mk (below_step (below_step HB4.out HD5.out.below) hb6)
            clear hbt hbf hb6
            go_wp2_with fail
            go_ret
            exact ⟨ret_int (by rw [HEE.out, if_pos HN.out]), HB6.out⟩
          | false =>
            have HAE := Aside0.mk (hbf rfl)
            have HWT : Aside0 (∀ c, Ends dm true c) := ⟨ends_all HKD.out HAE.out⟩
            have HWF : Aside0 (∀ c, Ends dm false c) := ⟨fun c => ends_false (HWT.out c)⟩
            have HD6 := Aside0.mk (HD5.out.mono hb6)
            have HB6 := Aside0.mk (below_step (below_step HB4.out HD5.out.below) hb6)
            have HC6 := Aside0.mk (below_step (below_step HC4.out HD5.out.below) hb6)
            have n1 : w6.cell? ⟨w.heap.size, 1, none⟩ = some (.slice Ad dm.length cd) := by rw [HC6.out.cell (cell_lt hx1)]; exact hx1
            clear hbt hbf hb6
            go_wp2_with fail
            refine (long_any (len_exists HWT.out) (fun c _ _ => HWT.out c) HV.out (by have := HLD.out; omega) HD6.out).mono ?_
            rintro e w7 ⟨b, rfl, hbt, hbf, hb7⟩
            cases b with
            | true =>
              have HT : Aside0 (TooLong dm true) := ⟨⟨_, len_exists HWT.out, hbt rfl⟩⟩
              have HB7 := Aside0.mk (below_step HB6.out hb7)
              clear hbt hbf hb7
              go_wp2_with fail
              go_ret
              exact ⟨ret_int (by rw [HEE.out, if_neg (fun h => h HAE.out), if_pos (Or.inl HT.out)]), HB7.out⟩
            | false =>
              have HNT := Aside0.mk (not_long HWT.out (len_exists HWT.out) (hbf rfl))
              have HB7 := Aside0.mk (below_step HB6.out hb7)
              have HC7 := Aside0.mk (below_step HC6.out hb7)
              have o1 : w7.cell? ⟨w.heap.size, 1, none⟩ = some (.slice Ad dm.length cd) := by rw [HC7.out.cell (cell_lt hx1)]; exact hx1
              clear hbt hbf hb7
              go_wp2_with fail
              refine (load_any Ad cd dm false w7 (Kd.C_below HRD.out HB7.out) (by have := HLD.out; omega) HVR.out).mono ?_
              rintro e w8 ⟨rfl, hd8, _⟩
              have HD8 := Aside0.mk hd8
              clear hd8
              go_wp2_with fail
              refine (long_any (len_exists HWF.out) (fun c _ _ => HWF.out c) HV.out (by have := HLD.out; omega) HD8.out).mono ?_
              rintro e w9 ⟨b, rfl, hbt, hbf, hb9⟩
              have HB9 := Aside0.mk (below_step (below_step HB7.out HD8.out.below) hb9)
              cases b with
              | true =>
                have HT : Aside0 (TooLong dm false) := ⟨⟨_, len_exists HWF.out, hbt rfl⟩⟩
                clear hbt hbf hb9
                go_wp2_with fail
                go_ret
                exact ⟨ret_int (by rw [HEE.out, if_neg (fun h => h HAE.out), if_pos (Or.inr HT.out)]), HB9.out⟩
              | false =>
                have HNF := Aside0.mk (not_long HWF.out (len_exists HWF.out) (hbf rfl))
                clear hbt hbf hb9
                go_wp2_with fail
                go_ret
                exact ⟨ret_int (by rw [HEE.out, if_neg (fun h => h HAE.out), if_neg (fun h => h.elim HNT.out HNF.out)]), HB9.out⟩
        · have HE2 : Aside0 (decChk cl dm ex = kindsE cl dm) := ⟨by rw [HE.out]; simp [hk]⟩
          generalize kindsE cl dm = v at H4 HE2 hkc hk
          rw [HE2.out]
          clear HE HE2 hc
          go_enter Tryz.func9, Tryz.ntmps9
          go_wp2_with fail
          refine (H1.out _ HB0.out).mono ?_
          rintro e w1 ⟨rfl, hb1⟩
          have k1 : w1.cell? ⟨w.heap.size, 1, none⟩ = some (.slice Ad dm.length cd) := by rw [hb1.cell (cell_lt hx1)]; exact hx1
          have HB1 := Aside0.mk (below_step HB0.out hb1)
          have HC1 := Aside0.mk hb1
          clear hb1
          go_wp2_with fail
          refine (H2.out _ HB1.out).mono ?_
          rintro e w2 ⟨rfl, hb2⟩
          have HB2 := Aside0.mk (below_step HB1.out hb2)
          have HC2 := Aside0.mk (below_step HC1.out hb2)
          have k2 : w2.cell? ⟨w.heap.size, 2, none⟩ = some (.slice Ax ex.length cx) := by rw [HC2.out.cell (cell_lt hx2)]; exact hx2
          clear hb2
          go_wp2_with fail
          refine (H3.out _ HB2.out).mono ?_
          rintro e w3 ⟨rfl, hb3⟩
          have HB3 := Aside0.mk (below_step HB2.out hb3)
          have HC3 := Aside0.mk (below_step HC2.out hb3)
          have j0 : w3.cell? ⟨w.heap.size, 0, none⟩ = some (.slice Ac cl.length cc) := by rw [HC3.out.cell (cell_lt hx0)]; exact hx0
          have j1 : w3.cell? ⟨w.heap.size, 1, none⟩ = some (.slice Ad dm.length cd) := by rw [HC3.out.cell (cell_lt hx1)]; exact hx1
          have j2 : w3.cell? ⟨w.heap.size, 2, none⟩ = some (.slice Ax ex.length cx) := by rw [HC3.out.cell (cell_lt hx2)]; exact hx2
          clear hb3
          go_wp2_with fail
          refine (H4.out _ HB3.out).mono ?_
          rintro e w4 ⟨rfl, hb4⟩
          have HB4 := Aside0.mk (below_step HB3.out hb4)
          have HC4 := Aside0.mk (below_step HC3.out hb4)
          clear hb4
          rcases hkc with h | h | h | h
          · exact absurd h hk
          all_goals
            subst h
            go_wp2_with fail
            go_ret
            exact ⟨rfl, HB4.out⟩
    · have HE2 : Aside0 (decChk cl dm ex = mapChkO dm) := ⟨by rw [HE.out]; simp [hm]⟩
      generalize mapChkO dm = v at H2 HE2 hmc hm
      rw [HE2.out]
      clear HE HE2 H3 H4
      go_enter Tryz.func9, Tryz.ntmps9
      go_wp2_with fail
      refine (H1.out _ HB0.out).mono ?_
      rintro e w1 ⟨rfl, hb1⟩
      have k1 : w1.cell? ⟨w.heap.size, 1, none⟩ = some (.slice Ad dm.length cd) := by rw [hb1.cell (cell_lt hx1)]; exact hx1
      have HB1 := Aside0.mk (below_step HB0.out hb1)
      clear hb1
      go_wp2_with fail
      refine (H2.out _ HB1.out).mono ?_
      rintro e w2 ⟨rfl, hb2⟩
      have HB2 := Aside0.mk (below_step HB1.out hb2)
      clear hb2
      rcases hmc with h | h | h | h | h | h
      · exact absurd h hm
      all_goals
        subst h
        go_wp2_with fail
        go_ret
        exact ⟨rfl, HB2.out⟩
  · have HE2 : Aside0 (decChk cl dm ex = ordChk cl) := ⟨by rw [HE.out]; simp [ho]⟩
    generalize ordChk cl = v at H1 HE2 hoc ho
    rw [HE2.out]
    clear HE HE2 H2 H3 H4
    go_enter Tryz.func9, Tryz.ntmps9
    go_wp2_with fail
    refine (H1.out _ HB0.out).mono ?_
    rintro e w1 ⟨rfl, hb1⟩
    have HB1 := Aside0.mk (below_step HB0.out hb1)
    clear hb1
    rcases hoc with h | h | h | h
    · exact absurd h ho
    all_goals
      subst h
      go_wp2_with fail
      go_ret
      exact ⟨rfl, HB1.out⟩
end Go.Proofs.YtipedgkampafjaaGreatDoor.Rf
/- Tells what full finds. -/
namespace Go.Proofs.YtipedgkampafjaaGreatDoor.Rf
open Go.Shelf Go.RowKit Go.Proofs.YtipedgkampafjaaGreatDoorW.PrintWords Go.Proofs.YtipedgkampafjaaGreatDoorW.PrintLast Go.Proofs.YtipedgkampafjaaGreatDoorW.PrintMore

/-- F tells the full decompositions. -/
def IsFull (dm : List S61) (cp : Bool) (F : Int → List Int) : Prop :=
  (∀ c, onceS dm cp c = none → F c = [c]) ∧ (∀ c tl, onceS dm cp c = some tl → F c = tl.flatMap F) ∧ ∀ c, (F c).length ≤ 64
/-- Block b is a map that holds what F tells. -/
def FoundM (W : World) (b n : Nat) (f : Int → Option Value) (F : Int → List Int) : Prop :=
  MapF Tryz.prog 3 encI W b n f ∧ ∀ x v, f x = some v → ∃ A cap, v = .slice A (F x).length cap ∧ (F x).length ≤ cap ∧ Kd.C (Kd.int .i64) W A (F x).length (F x)
def mk01 (f : Int → Option Value) : Int → Int := fun x => if (f x).isSome then 1 else 0
theorem mk01_ne {f : Int → Option Value} {x : Int} : mk01 f x ≠ 0 ↔ (f x).isSome = true := by
  unfold mk01; cases h : (f x).isSome <;> simp
theorem mk01_put (f : Int → Option Value) (c : Int) (v : Value) : mk01 (fun y => if y = c then some v else f y) = upd (mk01 f) c 1 := by
  funext x; unfold mk01 upd; by_cases h : x = c <;> simp [h]
/-- Entries that came since lie in new blocks. -/
def NewB (W : World) (f f' : Int → Option Value) : Prop := ∀ x, f' x = f x ∨ ∃ A n cap, f' x = some (.slice A n cap) ∧ (0 < n → ∀ ad : Addr, A = some ad → W.heap.size ≤ ad.block)
/-- No entry lies in the block of v. -/
def Avoid (f : Int → Option Value) (v : Value) : Prop := ∀ x ad n cap, f x = some (.slice (some ad) n cap) → 0 < n → some ad.block ≠ v.ownBlock
theorem NewB.trans {W W' : World} {f f' f'' : Int → Option Value} (h : NewB W f f') (h' : NewB W' f' f'') (hs : W.heap.size ≤ W'.heap.size) : NewB W f f'' := fun x => by
  rcases h' x with h1 | ⟨A, n, cap, h1, h2⟩
  · rw [h1]; exact h x
  · exact Or.inr ⟨A, n, cap, h1, fun hn ad ha => Nat.le_trans hs (h2 hn ad ha)⟩
theorem C_other {W W' : World} {row : Option Nat} {A : Option Addr} {xs : List Int} (h : Kd.C (Kd.int .i64) W A xs.length xs) (hg : W.grownBy W' row) (hne : 0 < xs.length → ∀ ad : Addr, A = some ad → some ad.block ≠ row) : Kd.C (Kd.int .i64) W' A xs.length xs := by
  have hr : ReadsInt W .i64 A xs.length xs := ReadsInt.of_C h
  refine Kd.C_of_reads (d := (0 : Int)) (h1 := fun _ => rfl) ⟨rfl, hr.2.1, fun hn => ?_⟩
  obtain ⟨ad, e, hc⟩ := hr.2.2 hn
  refine ⟨ad, e, fun j hj => ?_⟩
  have h1 := hc j hj
  have hbk : (ad.add j).block = ad.block := by unfold Addr.add; split <;> rfl
  rw [World.cell?_of_block (w := W) (hg.block _ (cell_lt h1) (by rw [hbk]; exact hne hn ad e))]
  exact h1
/-- The rows of the call's own. -/
abbrev RowI (w : World) (base : Nat) (v : Value) (xs : List Int) : Prop := w.ownsRow base 3 1 v xs.length (nums .i64 xs)
theorem rowI_C {w : World} {base : Nat} {v : Value} {xs : List Int} (h : RowI w base v xs) (hl : xs.length ≤ 9223372036854775807) : ∃ A cap, v = .slice A xs.length cap ∧ xs.length ≤ cap ∧ Kd.C (Kd.int .i64) w A xs.length xs ∧ ∀ ad : Addr, A = some ad → base ≤ ad.block := by
  rcases h.2 with ⟨rfl, h0⟩ | ⟨g, cap, cur, rfl, hb, hg, hn, hm, hs, ht⟩
  · have : xs = [] := List.eq_nil_of_length_eq_zero h0
    subst this
    exact ⟨none, 0, rfl, Nat.le_refl _, Kd.C_nil _ _, fun ad h => by cases h⟩
  · refine ⟨_, _, rfl, hn, C_row hl fun j hj => ?_, fun ad h => by cases h; exact hb⟩
    have e1 : (cur.toList.take (xs.length * 1))[j]? = (nums .i64 xs)[j]? := by rw [ht]
    rw [List.getElem?_take, if_pos (by omega), Array.getElem?_toList] at e1
    simp only [Addr.add_lit, World.cell?, hg, Nat.zero_add, Option.isSome_none, Bool.false_eq_true, if_false]
    rw [e1]
    simp [nums, List.getD_eq_getElem?_getD, List.getElem?_eq_getElem hj]
theorem rowI_own {w : World} {base : Nat} {v : Value} {xs : List Int} (h : RowI w base v xs) (k : Nat) (hk : v.ownBlock = some k) : base ≤ k ∧ k < w.heap.size := by
  rcases h.2 with ⟨rfl, _⟩ | ⟨g, cap, cur, rfl, hb, hg, _⟩
  · cases hk
  · cases hk; exact ⟨hb, (Array.getElem?_eq_some_iff.1 hg).1⟩
theorem FoundM.turned {W W' : World} {b n : Nat} {f : Int → Option Value} {F : Int → List Int} (h : FoundM W b n f F) {v : Value} {row : Option Nat} (hv : v.ownBlock = row) (hg : W.grownBy W' row) (hb : some b ≠ row) (ha : Avoid f v) : FoundM W' b n f F :=
  ⟨h.1.kept hg hb, fun x u hu => by
    obtain ⟨A, cap, rfl, h2, h3⟩ := h.2 x u hu
    exact ⟨A, cap, rfl, h2, C_other h3 hg fun hn ad e => by subst e; rw [← hv]; exact ha x ad _ cap hu hn⟩⟩
theorem FoundM.below {W W' : World} {b n : Nat} {f : Int → Option Value} {F : Int → List Int} (h : FoundM W b n f F) (hb : Below W.heap.size W W') : FoundM W' b n f F :=
  ⟨h.1.below hb h.1.lt, fun x u hu => by
    obtain ⟨A, cap, rfl, h2, h3⟩ := h.2 x u hu
    exact ⟨A, cap, rfl, h2, Kd.C_below h3 hb⟩⟩

theorem zeroInts (w : World) : (zeroValue 34).run Tryz.prog w = .ok (.slice none 0 0) w := by kernel_rfl
set_option maxRecDepth 100000 in
theorem lookF {w : World} {b n : Nat} {f : Int → Option Value} (h : MapF Tryz.prog 3 encI w b n f) (x : Int) (hx : inR x) :
    (Instr.lookup 83 (.map (some b)) (.int .i64 x) true).run Tryz.prog w = .ok (.tuple #[(f x).getD (.slice none 0 0), .bool (f x).isSome]) w :=
  h.lookOk keyed_int Tryz.underlying83 (zeroInts w) (keyI Tryz.underlying3 hx)
set_option maxRecDepth 100000 in
theorem putF {w : World} {b n : Nat} {f : Int → Option Value} (h : MapF Tryz.prog 3 encI w b n f) (x : Int) (v : Value) (hx : inR x) (hn : n < 9223372036854775807) :
    ∃ w', (Instr.mapUpdate 83 (.map (some b)) (.int .i64 x) v).run Tryz.prog w = .ok () w' ∧ MapF Tryz.prog 3 encI w' b (n + 1) (fun y => if y = x then some v else f y) ∧ w.grownBy w' (some b) :=
  h.update keyed_int encI_inj Tryz.underlying83 (by simp [maxLen]; omega) (keyI Tryz.underlying3 hx)

/-- What a call of full leaves. -/
def FullR (dm : List S61) (cp : Bool) (F : Int → List Int) (b N : Nat) (f : Int → Option Value) (c : Int) (W w' : World) : Prop :=
  ∃ n' f', FoundM w' b n' f' F ∧ n' + wh dm (mk01 f') ≤ N ∧ (∀ x, (f x).isSome = true → (f' x).isSome = true) ∧ (∀ x, (f' x).isSome = true → (f x).isSome = true ∨ x = c ∨ Relation.TransGen (Edge dm cp) x c) ∧ NewB W f f' ∧ W.grownBy w' (some b)
theorem take_flat (tl : List Int) (F : Int → List Int) (j : Nat) : ((tl.take j).flatMap F).length ≤ (tl.flatMap F).length := by
  rw [← List.take_append_drop j tl, List.flatMap_append, List.take_append_drop]
  simp
theorem infoI : (Tryz.prog.info? 3).map (fun i => (i.zero, i.size, i.bytes)) = some (some (.int .i64 0), 1, 8) := by kernel_rfl
variable {w0 : World} {p b1 b2 : Nat} {dm : List S61} {cp : Bool} {F : Int → List Int}

set_option maxRecDepth 100000 in
set_option maxHeartbeats 8000000 in
theorem full_any (hv : ∀ m ∈ dm, badCodes m = false) (hF : IsFull dm cp F) (N : Nat) (hNb : N < 9223372036854775807) (c : Int) (hEnds : Ends dm cp c) : ∀ (n : Nat) (f : Int → Option Value) (W : World), DataM w0 W p b1 b2 dm cp → FoundM W b2 n f F → n + wh dm (mk01 f) ≤ N → inR c →
    Calls Tryz.prog 47 #[.pointer (some ⟨p, 0, none⟩), .int .i64 c] W fun e w' => (∃ A cap, e = .returned (.slice A (F c).length cap) ∧ (F c).length ≤ cap ∧ Kd.C (Kd.int .i64) w' A (F c).length (F c)) ∧ FullR dm cp F b2 N f c W w' := by
  induction hEnds with
  | intro c hacc ih =>
    intro n f W hE hM hN hc
    have HIH := Aside0.mk ih
    have HE := Aside0.mk hE
    have HM := Aside0.mk hM
    have HN := Aside0.mk hN
    have HC := Aside0.mk hc
    have HO := Aside0.mk (once_any hE c hc)
    have HNC := Aside0.mk (no_ends (dm := dm) (cp := cp) (c := c))
    have HA := Aside0.mk (Acc.intro c hacc)
    clear ih hE hM hN hc hacc
    cases ho : onceS dm cp c with
    | none =>
      rw [ho] at HO
      have HFc := Aside0.mk (hF.1 c ho)
      rw [HFc.out]
      go_enter Tryz.func47, Tryz.ntmps47
      go_wp2_with fail
      refine HO.out.mono ?_
      rintro e w1 ⟨rfl, hb1⟩
      have HB1 := Aside0.mk hb1
      clear hb1
      go_wp2_with fail
      go_ret
      have hbx : Below W.heap.size W (w1.alloc (.cells #[.int .i64 c] 3)) := below_alloc HB1.out _
      exact ⟨⟨_, _, rfl, Nat.le_refl _, C_one (by simp)⟩, n, f, HM.out.below hbx, HN.out, fun x hx => hx, fun x hx => Or.inl hx, fun x => Or.inl rfl, grown_of_below hbx _⟩
    | some tl =>
      rw [ho] at HO
      cases hfc : f c with
      | some v =>
        obtain ⟨A, cap, hvv, hle, hC⟩ := HM.out.2 c v hfc
        have HLe := Aside0.mk hle
        have HCC := Aside0.mk hC
        subst hvv
        clear hle hC
        go_enter Tryz.func47, Tryz.ntmps47
        go_wp2_with fail
        refine HO.out.mono ?_
        rintro e w1 ⟨⟨A', ca, rfl, hl, hr⟩, hb1⟩
        clear hl hr
        have HB1 := Aside0.mk hb1
        have hk2 := (HE.out.mono hb1).c2
        have hlook := lookF (HM.out.1.below hb1 HM.out.1.lt) c HC.out
        rw [hfc] at hlook
        simp only [Option.getD_some, Option.isSome_some] at hlook
        clear hb1
        go_wp2_with fail
        go_ret
        exact ⟨⟨A, cap, rfl, HLe.out, Kd.C_below HCC.out HB1.out⟩, n, f, HM.out.below HB1.out, HN.out, fun x hx => hx, fun x hx => Or.inl hx, fun x => Or.inl rfl, grown_of_below HB1.out _⟩
      | none =>
        go_enter Tryz.func47, Tryz.ntmps47
        go_wp2_with fail
        refine HO.out.mono ?_
        rintro e w1 ⟨⟨A', ca, rfl, hl, hr⟩, hb1⟩
        have HB1 := Aside0.mk hb1
        have HR1 := Aside0.mk hr
        have HE1 := Aside0.mk (HE.out.mono hb1)
        have HM1 := Aside0.mk (HM.out.below hb1)
        have hk2 := HE1.out.c2
        have hlook := lookF HM1.out.1 c HC.out
        rw [hfc] at hlook
        simp only [Option.getD_none, Option.isSome_none] at hlook
        have hlen : tl.length ≤ 9223372036854775807 := Kd.C_max hr
        clear hl hr hb1
        go_wp2_with fail
        have HFc := Aside0.mk (hF.2.1 c tl ho)
        have HEd : Aside0 (∀ x ∈ tl, Edge dm cp x c) := ⟨fun x hx => ⟨tl, ho, hx⟩⟩
        have hs1 : W.heap.size ≤ w1.heap.size := HB1.out.size
        go_loopw [9, 35] (fun v v2 wr => ∃ j : Nat, v2 = .int .i64 (j : Int) ∧ j ≤ tl.length ∧ Aside0 (RowI wr w1.heap.size v ((tl.take j).flatMap F)) ∧ Aside0 (∃ n' f', FoundM wr b2 n' f' F ∧ n' + wh dm (mk01 f') ≤ N ∧ (∀ x, (f x).isSome = true → (f' x).isSome = true) ∧ (∀ x, (f' x).isSome = true → (f x).isSome = true ∨ Relation.TransGen (Edge dm cp) x c) ∧ NewB W f f' ∧ Avoid f' v) ∧ Aside0 (w1.grownBy wr (some b2))) (fun _ v2 _ => tl.length - (intOf v2).toNat)
        case atStart =>
          refine ⟨0, rfl, by omega, ⟨World.ownsRow_nil _ _ _ _⟩, ⟨n, f, HM1.out, HN.out, fun x hx => hx, fun x hx => Or.inl hx, fun x => Or.inl rfl, fun x ad m cap hx hm => by simp [Value.ownBlock]⟩, ⟨grown_of_below (Below.refl _ _) _⟩⟩
        case round =>
          obtain ⟨j, rfl, hj, HRow, HS, HG⟩ := hrel
          have HDr := Aside0.mk (HE1.out.turned HG.out HE1.out.ne.2.2 HE1.out.ne.1 HE1.out.low.2.2 HM1.out.1.lt)
          have HRr := Aside0.mk (C_turned HR1.out HM1.out.1 HG.out)
          by_cases hlt : j < tl.length
          · obtain ⟨ad, e, hx0⟩ := ReadsInt.at_ (ReadsInt.of_C HRr.out) j (by omega) (by omega)
            subst e
            simp only [Int.toNat_natCast] at hx0
            have hrd : rd tl (j : Int) = tl.getD j 0 := by rw [rd, Int.toNat_natCast]
            rw [hrd] at hx0
            have hmem : tl.getD j 0 ∈ tl := getD_mem tl 0 j hlt
            have HT : Aside0 ((tl.take (j + 1)).flatMap F = (tl.take j).flatMap F ++ F (tl.getD j 0)) := ⟨by
              rw [List.take_succ_eq_append_getElem hlt, List.flatMap_append, List.getD_eq_getElem?_getD, List.getElem?_eq_getElem hlt]; simp⟩
            have HLen : Aside0 ((((tl.take j).flatMap F).length + (F (tl.getD j 0)).length) * 8 ≤ 140737488355328) := ⟨by
              have h1 := take_flat tl F j
              rw [← HFc.out] at h1
              have h2 := hF.2.2 c
              have h3 := hF.2.2 (tl.getD j 0)
              omega⟩
            have HED := Aside0.mk (HEd.out _ hmem)
            obtain ⟨n', f', hfo, hn, hmo, hde, hnb, hav⟩ := HS.out
            have HCall := Aside0.mk (HIH.out _ HED.out n' f' wr HDr.out hfo hn (edge_range hv HED.out))
            have HFO := Aside0.mk hfo
            have HMO := Aside0.mk hmo
            have HDE := Aside0.mk hde
            have HNB := Aside0.mk hnb
            have HAV := Aside0.mk hav
            clear hrd hmem hfo hn hmo hde hnb hav
            generalize tl.getD j 0 = x at HT hx0 HCall HED HLen
            generalize (tl.take j).flatMap F = xs at HT HRow HLen
            generalize hys : F x = ys at HT HCall HLen
            go_wp2_with fail
            refine HCall.out.mono ?_
            rintro e w2 ⟨⟨A2, c2, rfl, hle2, hC2⟩, n3, f3, hfo3, hn3, hmo3, hde3, hnb3, hg3⟩
            have hb2w1 : b2 < w1.heap.size := HM1.out.1.lt
            have HRow2 : Aside0 (RowI w2 w1.heap.size u9 xs) := ⟨World.ownsRow.kept HRow.out hg3 (by
              cases ho : u9.ownBlock with
              | none => exact Or.inl rfl
              | some k => exact Or.inr fun e => by cases e; have := (rowI_own HRow.out b2 ho).1; omega)⟩
            have HRd2 := Aside0.mk (ReadsInt.of_C hC2)
            have HAv2 : Aside0 (Avoid f3 u9) := ⟨fun y ad m cap hy hm he => by
              rcases hnb3 y with h | ⟨A, m', cap', h1, h2⟩
              · exact HAV.out y ad m cap (by rw [← h]; exact hy) hm he
              · rw [h1] at hy
                cases hy
                have h4 := h2 hm ad rfl
                have h5 := (rowI_own HRow.out ad.block he.symm).2
                omega⟩
            have HFO3 := Aside0.mk hfo3
            have HS3 := Aside0.mk (show n3 + wh dm (mk01 f3) ≤ N ∧ (∀ x, (f x).isSome = true → (f3 x).isSome = true) ∧ (∀ x, (f3 x).isSome = true → (f x).isSome = true ∨ Relation.TransGen (Edge dm cp) x c) ∧ NewB W f f3 from
              ⟨hn3, fun y hy => hmo3 y (HMO.out y hy), fun y hy => by
                rcases hde3 y hy with h | h | h
                · exact HDE.out y h
                · rw [h]; exact Or.inr (.single HED.out)
                · exact Or.inr (.tail h HED.out), HNB.out.trans hnb3 (Nat.le_trans hs1 HG.out.size)⟩)
            have HG3 := Aside0.mk (grown_trans HG.out hg3)
            clear hle2 hC2 hfo3 hn3 hmo3 hde3 hnb3 hg3
            go_wp2_with (at_builtin; refine print_append_row (w0 := w2) w1.heap.size rfl (.tmp 39) (.tmp 42) 34 3 .i64 8 rfl Tryz.underlying34 infoI (by decide) _ xs ys _ _ _ rfl rfl HRow2.out HRd2.out (Below.refl _ _) HG3.out.size HLen.out ?_; intro v1 w3 q1 q2 q3 q4)
            have HRow3 := Aside0.mk q1
            have HFO4 : Aside0 (FoundM w3 b2 n3 f3 F) := ⟨HFO3.out.turned rfl q3 (by
              intro e
              have := (rowI_own HRow2.out b2 e.symm).1; omega) HAv2.out⟩
            have HAv3 : Aside0 (Avoid f3 v1) := ⟨fun y ad m cap hy hm he => by
              rcases q4 with h | ⟨b, h, hb⟩
              · rw [h] at he; exact HAv2.out y ad m cap hy hm he
              · rw [h] at he
                obtain ⟨A, cap', h1, h2, h3⟩ := HFO3.out.2 y _ hy
                injection h1 with e1 e2 e3
                subst e1; subst e2
                obtain ⟨ad', e4, h5⟩ := (ReadsInt.of_C h3).2.2 hm
                cases e4
                have h6 := cell_lt (h5 0 hm)
                have hbk : (ad.add 0).block = ad.block := by unfold Addr.add; split <;> rfl
                rw [hbk] at h6
                cases he
                omega⟩
            have HG4 : Aside0 (w1.grownBy w3 (some b2)) := ⟨HG3.out.andThen q3 fun k hk => Or.inl (rowI_own HRow2.out k hk).1⟩
            clear q1 q2 q3 q4
            go_roundw
            case rel => exact ⟨j + 1, by first | rfl | go_num, by omega, ⟨by rw [HT.out]; exact HRow3.out⟩, ⟨n3, f3, HFO4.out, HS3.out.1, HS3.out.2.1, HS3.out.2.2.1, HS3.out.2.2.2, HAv3.out⟩, HG4⟩
            case measure => simp [intOf]; omega
          · have HRow2 : Aside0 (RowI wr w1.heap.size u9 (F c)) := ⟨by
              have h := HRow.out
              rw [List.take_of_length_le (by omega), ← HFc.out] at h
              exact h⟩
            obtain ⟨A, cap, hv9, hcap, hC9, hA9⟩ := rowI_C HRow2.out (by have := hF.2.2 c; omega)
            obtain ⟨n', f', hfo, hn, hmo, hde, hnb, hav⟩ := HS.out
            subst hv9
            have h0' : (f' c).isSome = false := by
              cases h : (f' c).isSome with
              | false => rfl
              | true =>
                rcases hde c h with h1 | h1
                · rw [hfc] at h1; cases h1
                · exact absurd HA.out (HNC.out h1)
            have hk2 := HDr.out.c2
            have hwh := wh_set dm (s := mk01 f') (c := c) (v := 1) (by decide) (Classical.byContradiction fun h => by rw [mk01_ne.1 h] at h0'; cases h0') (univ_mem ho)
            obtain ⟨w4, hup, hm4, hg4⟩ := putF hfo.1 c (.slice A (F c).length cap) HC.out (by omega)
            have HX : Aside0 (FullR dm cp F b2 N f c W w4) := ⟨by
              refine ⟨n' + 1, _, ⟨hm4, fun x v hx => ?_⟩, by rw [mk01_put]; omega, fun x hx => ?_, fun x hx => ?_, fun x => ?_, grown_trans (grown_trans (grown_of_below HB1.out _) HG.out) hg4⟩
              · by_cases hxc : x = c
                · rw [if_pos hxc] at hx
                  cases hx
                  rw [hxc]
                  exact ⟨A, cap, rfl, hcap, C_turned hC9 hfo.1 hg4⟩
                · rw [if_neg hxc] at hx
                  obtain ⟨A', cap', h1, h2, h3⟩ := hfo.2 x v hx
                  exact ⟨A', cap', h1, h2, C_turned h3 hfo.1 hg4⟩
              · by_cases hxc : x = c
                · simp [hxc]
                · simp only [if_neg hxc]; exact hmo x hx
              · by_cases hxc : x = c
                · exact Or.inr (Or.inl hxc)
                · simp only [if_neg hxc] at hx
                  rcases hde x hx with h | h
                  · exact Or.inl h
                  · exact Or.inr (Or.inr h)
              · by_cases hxc : x = c
                · exact Or.inr ⟨A, (F c).length, cap, by simp [hxc], fun _ ad ha => Nat.le_trans hs1 (hA9 ad ha)⟩
                · simp only [if_neg hxc]; exact hnb x⟩
            have HC9 := Aside0.mk (C_turned hC9 hfo.1 hg4)
            have HCap := Aside0.mk hcap
            clear hfo hn hmo hde hnb hav h0' hwh hm4 hg4 hcap hC9 hA9
            go_wp2_with fail
            go_ret
            exact ⟨⟨A, cap, rfl, HCap.out, HC9.out⟩, HX.out⟩
end Go.Proofs.YtipedgkampafjaaGreatDoor.Rf
/- That full decompositions exist, and what Clone copies. -/
namespace Go.Proofs.YtipedgkampafjaaGreatDoor.Rf
open Go.Shelf Go.RowKit Go.Proofs.YtipedgkampafjaaGreatDoorW.PrintWords Go.Proofs.YtipedgkampafjaaGreatDoorW.PrintLast Go.Proofs.YtipedgkampafjaaGreatDoorW.PrintMore

variable {dm : List S61} {cp : Bool}
/-- One step of the full decomposition. -/
def stepF (dm : List S61) (cp : Bool) (c : Int) (ih : ∀ y, Edge dm cp y c → List Int) : List Int :=
  match h : onceS dm cp c with
  | none => [c]
  | some tl => (tl.attach.map fun x => ih x.1 ⟨tl, h, x.2⟩).flatten
theorem stepF_none {c : Int} {ih : ∀ y, Edge dm cp y c → List Int} (h : onceS dm cp c = none) : stepF dm cp c ih = [c] := by
  unfold stepF
  split
  · rfl
  · rename_i tl h'; rw [h] at h'; cases h'
theorem stepF_some {c : Int} {tl : List Int} {F : Int → List Int} (h : onceS dm cp c = some tl) : stepF dm cp c (fun y _ => F y) = tl.flatMap F := by
  unfold stepF
  split
  · rename_i h'; rw [h] at h'; cases h'
  · rename_i tl' h'
    rw [h] at h'
    cases h'
    rw [List.flatMap_def]
    congr 1
    exact List.attach_map_val
/-- The full decomposition. -/
noncomputable def fullW (hwf : ∀ c, Ends dm cp c) : Int → List Int := (WellFounded.intro hwf).fix (C := fun _ => List Int) (stepF dm cp)
theorem fullW_eq (hwf : ∀ c, Ends dm cp c) (c : Int) : fullW hwf c = stepF dm cp c (fun y _ => fullW hwf y) := WellFounded.fix_eq _ _ _
theorem fullW_none (hwf : ∀ c, Ends dm cp c) {c : Int} (h : onceS dm cp c = none) : fullW hwf c = [c] := by rw [fullW_eq, stepF_none h]
theorem fullW_some (hwf : ∀ c, Ends dm cp c) {c : Int} {tl : List Int} (h : onceS dm cp c = some tl) : fullW hwf c = tl.flatMap (fullW hwf) := by rw [fullW_eq, stepF_some h]
theorem sat_ge (l : List Int) (h : ∀ v ∈ l, 0 ≤ v) (hs : sat l ≤ 64) : l.sum ≤ sat l := by
  suffices ∀ (l : List Int) (a : Int), (∀ v ∈ l, 0 ≤ v) → 0 ≤ a → a ≤ 65 → l.foldl (fun n v => min (n + v) 65) a ≤ 64 → a + l.sum ≤ l.foldl (fun n v => min (n + v) 65) a by
    have := this l 0 h (by omega) (by omega) hs
    rw [Int.zero_add] at this
    exact this
  intro l
  induction l with
  | nil => intro a _ _ _ _; simp
  | cons x l ih =>
    intro a hv h0 h1 h2
    have hx := hv x List.mem_cons_self
    have hl := fun v hv' => hv v (List.mem_cons_of_mem _ hv')
    simp only [List.foldl_cons, List.sum_cons] at h2 ⊢
    by_cases hs : a + x ≤ 65
    · rw [Int.min_eq_left hs] at h2 ⊢
      have := ih (a + x) hl (by omega) hs h2
      omega
    · rw [Int.min_eq_right (by omega)] at h2
      exfalso
      have : ∀ (l : List Int), (∀ v ∈ l, 0 ≤ v) → l.foldl (fun n v => min (n + v) 65) 65 = 65 := by
        intro l
        induction l with
        | nil => intro _; rfl
        | cons y l ih =>
          intro h
          have hy := h y List.mem_cons_self
          rw [List.foldl_cons, Int.min_eq_right (by omega)]
          exact ih fun v hv => h v (List.mem_cons_of_mem _ hv)
      rw [this l hl] at h2
      omega
theorem full_len (hwf : ∀ c, Ends dm cp c) (hL : ∀ c, lenW hwf c ≤ 64) (c : Int) : ((fullW hwf c).length : Int) ≤ lenW hwf c := by
  have ha := hwf c
  unfold Ends at ha
  induction ha with
  | intro c _ ih =>
    cases h : onceS dm cp c with
    | none => rw [fullW_none hwf h, lenW_none hwf h]; simp
    | some tl =>
      have h1 := hL c
      rw [fullW_some hwf h, lenW_some hwf h]
      rw [lenW_some hwf h] at h1
      have h2 := sat_ge (tl.map (lenW hwf)) (fun v hv => by
        obtain ⟨x, _, rfl⟩ := List.mem_map.1 hv
        have := (len_exists hwf).2.2 x; omega) (by omega)
      have h3 : ((tl.flatMap (fullW hwf)).length : Int) ≤ (tl.map (lenW hwf)).sum := by
        have hm : ∀ x ∈ tl, ((fullW hwf x).length : Int) ≤ lenW hwf x := fun x hx => ih x ⟨tl, h, hx⟩
        clear h h1 h2 ih
        induction tl with
        | nil => simp
        | cons y tl ih2 =>
          have h4 := hm y List.mem_cons_self
          have h5 := ih2 (fun x hx => hm x (List.mem_cons_of_mem _ hx))
          simp only [List.flatMap_cons, List.length_append, List.map_cons, List.sum_cons]
          omega
      omega
theorem full_exists (hwf : ∀ c, Ends dm cp c) (hL : ∀ c, lenW hwf c ≤ 64) : IsFull dm cp (fullW hwf) :=
  ⟨fun c h => fullW_none hwf h, fun c tl h => fullW_some hwf h, fun c => by have := full_len hwf hL c; have := hL c; omega⟩
theorem full_unique (hwf : ∀ c, Ends dm cp c) {F F' : Int → List Int} (h : IsFull dm cp F) (h' : IsFull dm cp F') (c : Int) : F c = F' c := by
  have ha := hwf c
  unfold Ends at ha
  induction ha with
  | intro c _ ih =>
    cases ho : onceS dm cp c with
    | none => rw [h.1 c ho, h'.1 c ho]
    | some tl =>
      rw [h.2.1 c tl ho, h'.2.1 c tl ho, List.flatMap_def, List.flatMap_def, List.map_congr_left fun x hx => ih x ⟨tl, ho, hx⟩]
end Go.Proofs.YtipedgkampafjaaGreatDoor.Rf
/- Tells what valid, Char and Once give. -/
namespace Go.Proofs.YtipedgkampafjaaGreatDoor.Rf
open Go.Shelf Go.RowKit Go.Proofs.YtipedgkampafjaaGreatDoorW.PrintWords Go.Proofs.YtipedgkampafjaaGreatDoorW.PrintLast Go.Proofs.YtipedgkampafjaaGreatDoorW.PrintMore

/-- Mappings that may be used. -/
structure Good (dm : List S61) : Prop where
  codes : ∀ m ∈ dm, badCodes m = false
  kinds : ∀ m ∈ dm, hk m.f0 = 0
  ends : AllEnds dm
  short : ∀ cp, ¬ TooLong dm cp
variable {dm : List S61} {cp : Bool}
theorem Good.acc (g : Good dm) (cp : Bool) (c : Int) : Ends dm cp c := by
  cases cp with
  | true => exact ends_all g.kinds g.ends c
  | false => exact ends_false (ends_all g.kinds g.ends c)
theorem lastM_nil (c : Int) : lastM [] c = none := rfl
theorem once_part {c x : Int} (g : ∀ m ∈ dm, hk m.f0 = 0) (h : ¬ hk c < 4) (hx : x ∈ hdec c) : onceS dm cp x = none := by
  obtain ⟨h5, h6⟩ := hk_parts h hx
  exact once_none h5 fun m hm => h6 (by obtain ⟨h8, h9⟩ := lastM_mem hm; rw [← h9]; exact g m h8)
theorem Good.len (g : Good dm) (cp : Bool) (c : Int) : lenW (g.acc cp) c ≤ 64 := by
  by_cases h4 : hk c < 4
  · cases hl : lastM dm c with
    | none => rw [lenW_none _ (once_none h4 (by rw [hl]; intro m hm; cases hm))]; omega
    | some m =>
      apply Classical.byContradiction
      intro hn
      exact g.short cp ⟨_, len_exists (g.acc cp), c, m, hl, by omega⟩
  · have ho : onceS dm cp c = some (hdec c) := by unfold onceS; rw [if_neg h4]
    rw [lenW_some _ ho]
    have h1 : ∀ x ∈ hdec c, lenW (g.acc cp) x = 1 := fun x hx => lenW_none _ (once_part g.kinds h4 hx)
    rw [List.map_congr_left h1]
    unfold hdec
    rw [if_neg h4]
    split <;> (simp [sat]; omega)
theorem Good.nil : Good [] where
  codes := by simp
  kinds := by simp
  ends := fun c m h => by cases h
  short := fun cp ⟨L, _, c, m, h, _⟩ => by cases h
open Classical in
theorem chk_good {cl : List S71} {ex : List RR} (h : decChk cl dm ex = 0) : Good dm := by
  unfold decChk at h
  by_cases h1 : ordChk cl = 0
  · by_cases h2 : mapChkO dm = 0
    · by_cases h3 : canonR ex = false
      · simp [h1, h2, h3] at h
      · by_cases h4 : kindsE cl dm = 0
        · by_cases h5 : AllEnds dm
          · by_cases h6 : TooLong dm true ∨ TooLong dm false
            · simp [h1, h2, h3, h4, h5, h6] at h
            · exact ⟨mapChkO_ok h2, kindsE_ok h4, h5, fun cp => by cases cp <;> intro h7 <;> simp [h7] at h6⟩
          · simp [h1, h2, h3, h4, h5] at h
        · simp [h1, h2, h3, h4] at h
    · simp [h1, h2] at h
  · simp [h1] at h
open Classical in
/-- The mappings of valid data. -/
noncomputable def vdm (cl : List S71) (dm : List S61) (ex : List RR) : List S61 := if decChk cl dm ex = 0 then dm else []
noncomputable def vcl (cl : List S71) (dm : List S61) (ex : List RR) : List S71 := if decChk cl dm ex = 0 then cl else []
noncomputable def vex (cl : List S71) (dm : List S61) (ex : List RR) : List RR := if decChk cl dm ex = 0 then ex else []
theorem vdm_good (cl : List S71) (dm : List S61) (ex : List RR) : Good (vdm cl dm ex) := by
  unfold vdm
  split
  · rename_i h; exact chk_good h
  · exact Good.nil
open Classical in
/-- The full decomposition of a number. -/
noncomputable def fullS (dm : List S61) (cp : Bool) (c : Int) : List Int := if h : ∀ c, Ends dm cp c then fullW h c else []
theorem Good.full (g : Good dm) (cp : Bool) : IsFull dm cp (fullS dm cp) := by
  have e : fullS dm cp = fullW (g.acc cp) := by funext c; unfold fullS; rw [dif_pos (g.acc cp)]
  rw [e]
  exact full_exists _ (g.len cp)

theorem clone_any (A : Option Addr) (c : Nat) (xs : List Int) (w : World) (hr : Kd.C (Kd.int .i64) w A xs.length xs) (hl : xs.length ≤ 1000000) :
    Calls Tryz.prog 45 #[.slice A xs.length c] w fun e w' => (∃ v, e = .returned v ∧ RowI w' w.heap.size v xs) ∧ Below w.heap.size w w' := by
  cases A with
  | none =>
    have h0 : xs = [] := by
      cases xs with
      | nil => rfl
      | cons x l => obtain ⟨ad, h, _⟩ := (ReadsInt.of_C hr).2.2 (by simp); cases h
    subst h0
    exact (Tryz.slices_Clone_int_nil 0 c w).mono fun e w' ⟨h1, h2⟩ => ⟨⟨_, h1, h2 ▸ World.ownsRow_nil _ _ _ _⟩, h2 ▸ Below.refl _ _⟩
  | some ad =>
    by_cases h0 : xs.length = 0
    · have : xs = [] := List.eq_nil_of_length_eq_zero h0
      subst this
      exact (Tryz.slices_Clone_int_zero ad c w).mono fun e w' ⟨v, h1, h2, _, h3⟩ => ⟨⟨v, h1, h2⟩, h3⟩
    · obtain ⟨ad', e, hc⟩ := (ReadsInt.of_C hr).2.2 (by omega)
      cases e
      obtain ⟨b, off, sp⟩ := ad
      have hsp : sp = none := by
        cases sp with
        | none => rfl
        | some s =>
          have h1 := hc 0 (by omega)
          unfold Addr.add at h1
          simp [World.cell?] at h1
          split at h1 <;> cases h1
      subst hsp
      refine (Tryz.slices_Clone_int b off xs.length c xs w (Nat.le_refl _) (by omega) (fun j hj => ?_)).mono fun e w' ⟨v, h1, h2, _, h3⟩ => ⟨⟨v, h1, ?_⟩, h3⟩
      · have := hc j hj
        rwa [Addr.add_lit] at this
      · rw [List.take_length] at h2
        exact h2

/-- Three slices as a value. -/
def normV (Ac Ad Ax : Option Addr) (cc cd cx nc nd nx : Nat) : Value := .agg #[.slice Ac nc cc, .slice Ad nd cd, .slice Ax nx cx]
theorem fieldD (a b c : Value) (ha : a.oneCell' = true) (w : World) (Ad : Option Addr) (nd cd : Nat) (Ac : Option Addr) (nc cc : Nat) (Ax : Option Addr) (nx cx : Nat) : (Instr.field 28 (.agg #[.slice Ac nc cc, .slice Ad nd cd, .slice Ax nx cx]) 1).run Tryz.prog w = .ok (.slice Ad nd cd) w := by kernel_rfl

theorem heap2_new (w : World) (o1 o2 : Obj) : ((w.alloc o1).alloc o2).heap[w.heap.size + 1]? = some o2 := by
  rw [show w.heap.size + 1 = (w.alloc o1).heap.size by simp]
  show ((w.alloc o1).heap.push o2)[(w.alloc o1).heap.size]? = _
  exact Array.getElem?_push_size
theorem heap_set3 {w : World} {b : Nat} {c0 c1 c2 v0 v1 v2 : Value} {t : TypeId} (h : w.heap[b]? = some (.cells #[c0, c1, c2] t (0, 0))) :
    (((w.setCell ⟨b, 0, none⟩ v0).setCell ⟨b, 1, none⟩ v1).setCell ⟨b, 2, none⟩ v2).heap[b]? = some (.cells #[v0, v1, v2] t (0, 0)) := by
  rw [Sort.setCell_eq, Sort.setCell_eq, Sort.setCell_eq]
  simp [Sort.mapBlock, Array.getElem?_modify, h, Sort.onCells]
theorem grown_set3 (w : World) (b : Nat) (v0 v1 v2 : Value) : w.grownBy (((w.setCell ⟨b, 0, none⟩ v0).setCell ⟨b, 1, none⟩ v1).setCell ⟨b, 2, none⟩ v2) (some b) :=
  ⟨rfl, rfl, rfl, by simp [World.setCell], fun i hi hne => by
    have h : i ≠ b := fun e => hne (by rw [e])
    rw [Below.heap_setCell _ _ _ _ h, Below.heap_setCell _ _ _ _ h, Below.heap_setCell _ _ _ _ h]⟩
/-- What valid hands back: slices of the valid data, where they lie in w'. -/
def ValidR (w' : World) (e : Ending) (cl : List S71) (dm : List S61) (ex : List RR) : Prop :=
  ∃ (Ac Ad Ax : Option Addr) (cc cd cx : Nat), e = .returned (.agg #[.slice Ac cl.length cc, .slice Ad dm.length cd, .slice Ax ex.length cx]) ∧ (cl.length ≤ cc ∧ Kd.C k71 w' Ac cl.length cl) ∧ (dm.length ≤ cd ∧ Kd.C k61 w' Ad dm.length dm) ∧ (ex.length ≤ cx ∧ Kd.C k52 w' Ax ex.length ex)

/-- What valid hands back, wherever the rows that came in are read. -/
def ValidB (Ac0 Ad0 Ax0 : Option Addr) (cl0 : List S71) (dm0 : List S61) (ex0 : List RR) (e : Ending) (cl : List S71) (dm : List S61) (ex : List RR) : Prop :=
  ∃ (Ac Ad Ax : Option Addr) (cc cd cx : Nat), e = .returned (.agg #[.slice Ac cl.length cc, .slice Ad dm.length cd, .slice Ax ex.length cx]) ∧ (cl.length ≤ cc ∧ ∀ w, Kd.C k71 w Ac0 cl0.length cl0 → Kd.C k71 w Ac cl.length cl) ∧ (dm.length ≤ cd ∧ ∀ w, Kd.C k61 w Ad0 dm0.length dm0 → Kd.C k61 w Ad dm.length dm) ∧ (ex.length ≤ cx ∧ ∀ w, Kd.C k52 w Ax0 ex0.length ex0 → Kd.C k52 w Ax ex.length ex)

open Classical in
set_option maxRecDepth 100000 in
set_option maxHeartbeats 16000000 in
theorem valid_base (Ac Ad Ax : Option Addr) (cc cd cx : Nat) (cl : List S71) (dm : List S61) (ex : List RR) (w : World) (hG : GL w)
    (hrc : Kd.C k71 w Ac cl.length cl) (hcc : cl.length ≤ cc) (hlc : cl.length ≤ 1000000)
    (hrd : Kd.C k61 w Ad dm.length dm) (hcd : dm.length ≤ cd) (hld : dm.length ≤ 1000000)
    (hrx : Kd.C k52 w Ax ex.length ex) (hcx : ex.length ≤ cx) (hlx : ex.length ≤ 1000000) :
    Calls Tryz.prog 42 #[.agg #[.slice Ac cl.length cc, .slice Ad dm.length cd, .slice Ax ex.length cx]] w fun e w' => ValidB Ac Ad Ax cl dm ex e (vcl cl dm ex) (vdm cl dm ex) (vex cl dm ex) ∧ Below w.heap.size w w' := by
  have hb : ∀ o1 o2 : Obj, Below w.heap.size w ((w.alloc o1).alloc o2) := fun o1 o2 => below_alloc (below_alloc (Below.refl _ _) _) _
  have HCk := Aside0.mk (fun o1 o2 => decCheck_any Ac Ad Ax cc cd cx cl dm ex ((w.alloc o1).alloc o2) (GL.below hG (hb o1 o2)) (Kd.C_below hrc (hb o1 o2)) hcc hlc (Kd.C_below hrd (hb o1 o2)) hcd hld (Kd.C_below hrx (hb o1 o2)) hcx hlx)
  have HB := Aside0.mk hb
  have HRc := Aside0.mk hrc
  have HRd := Aside0.mk hrd
  have HRx := Aside0.mk hrx
  have HL : Aside0 (cl.length ≤ cc ∧ dm.length ≤ cd ∧ ex.length ≤ cx) := ⟨hcc, hcd, hcx⟩
  clear hG hrc hrd hrx hb hcc hcd hcx hlc hld hlx
  cases hok : (decChk cl dm ex != 0) with
  | true =>
    have hne : ¬ decChk cl dm ex = 0 := by simpa using hok
    have HV : Aside0 (vcl cl dm ex = [] ∧ vdm cl dm ex = [] ∧ vex cl dm ex = []) := ⟨by simp [vcl, vdm, vex, hne]⟩
    rw [HV.out.1, HV.out.2.1, HV.out.2.2]
    generalize decChk cl dm ex = r at HCk hok
    go_enter Tryz.func42, Tryz.ntmps42
    go_wp2_with fail
    refine (HCk.out _ _).mono ?_
    rintro e w1 ⟨rfl, hb1⟩
    have hheap : w1.heap[w.heap.size + 1]? = some (.cells #[.slice none 0 0, .slice none 0 0, .slice none 0 0] 28) := by
      rw [hb1.block _ (by simp)]; exact heap2_new _ _ _
    have hlt1 : w.heap.size + 1 < w1.heap.size := (Array.getElem?_eq_some_iff.1 hheap).1
    have q0 : w1.cell? ⟨w.heap.size + 1, 0, none⟩ = some (.slice none 0 0) := by simp [World.cell?, hheap]
    have q1 : w1.cell? ⟨w.heap.size + 1, 1, none⟩ = some (.slice none 0 0) := by simp [World.cell?, hheap]
    have q2 : w1.cell? ⟨w.heap.size + 1, 2, none⟩ = some (.slice none 0 0) := by simp [World.cell?, hheap]
    have r0 : ∀ i, w1.frozen? ⟨w.heap.size + 1, i, none⟩ = false := fun i => by simp [World.frozen?, hheap]
    have HHeap := Aside0.mk hheap
    have HBB := Aside0.mk (below_step (HB.out _ _) hb1)
    have p0 : w1.cell? ⟨w.heap.size, 0, none⟩ = some (.slice Ac cl.length cc) := by
      rw [hb1.cell (by simp; omega)]; exact cell_keep (by simp) _
    have p1 : w1.cell? ⟨w.heap.size, 1, none⟩ = some (.slice Ad dm.length cd) := by
      rw [hb1.cell (by simp; omega)]; exact cell_keep (by simp) _
    have p2 : w1.cell? ⟨w.heap.size, 2, none⟩ = some (.slice Ax ex.length cx) := by
      rw [hb1.cell (by simp; omega)]; exact cell_keep (by simp) _
    clear hheap hb1
    go_wp2_with fail
    (try simp only [Exit.inBlock, Exit.then])
    refine bodyPost_ret (results_cell_row rfl _ _ (w.heap.size + 1) 28 _ (0, 0) _ rfl (heap_set3 HHeap.out) Tryz.underlying28 rfl (by kernel_rfl)) rfl ?_
    exact ⟨⟨none, none, none, 0, 0, 0, rfl, ⟨Nat.le_refl _, fun _ _ => Kd.C_nil _ _⟩, ⟨Nat.le_refl _, fun _ _ => Kd.C_nil _ _⟩, ⟨Nat.le_refl _, fun _ _ => Kd.C_nil _ _⟩⟩, HBB.out.grown (grown_set3 _ _ _ _ _) HBB.out.size (fun k hk => by cases hk; omega)⟩
  | false =>
    have hne : decChk cl dm ex = 0 := by simpa using hok
    have HV : Aside0 (vcl cl dm ex = cl ∧ vdm cl dm ex = dm ∧ vex cl dm ex = ex) := ⟨by simp [vcl, vdm, vex, hne]⟩
    rw [HV.out.1, HV.out.2.1, HV.out.2.2]
    clear hne
    generalize decChk cl dm ex = r at HCk hok
    go_enter Tryz.func42, Tryz.ntmps42
    go_wp2_with fail
    refine (HCk.out _ _).mono ?_
    rintro e w1 ⟨rfl, hb1⟩
    have hheap : w1.heap[w.heap.size + 1]? = some (.cells #[.slice none 0 0, .slice none 0 0, .slice none 0 0] 28) := by
      rw [hb1.block _ (by simp)]; exact heap2_new _ _ _
    have hlt1 : w.heap.size + 1 < w1.heap.size := (Array.getElem?_eq_some_iff.1 hheap).1
    have q0 : w1.cell? ⟨w.heap.size + 1, 0, none⟩ = some (.slice none 0 0) := by simp [World.cell?, hheap]
    have q1 : w1.cell? ⟨w.heap.size + 1, 1, none⟩ = some (.slice none 0 0) := by simp [World.cell?, hheap]
    have q2 : w1.cell? ⟨w.heap.size + 1, 2, none⟩ = some (.slice none 0 0) := by simp [World.cell?, hheap]
    have r0 : ∀ i, w1.frozen? ⟨w.heap.size + 1, i, none⟩ = false := fun i => by simp [World.frozen?, hheap]
    have HHeap := Aside0.mk hheap
    have HBB := Aside0.mk (below_step (HB.out _ _) hb1)
    have p0 : w1.cell? ⟨w.heap.size, 0, none⟩ = some (.slice Ac cl.length cc) := by
      rw [hb1.cell (by simp; omega)]; exact cell_keep (by simp) _
    have p1 : w1.cell? ⟨w.heap.size, 1, none⟩ = some (.slice Ad dm.length cd) := by
      rw [hb1.cell (by simp; omega)]; exact cell_keep (by simp) _
    have p2 : w1.cell? ⟨w.heap.size, 2, none⟩ = some (.slice Ax ex.length cx) := by
      rw [hb1.cell (by simp; omega)]; exact cell_keep (by simp) _
    clear hheap hb1
    go_wp2_with fail
    (try simp only [Exit.inBlock, Exit.then])
    have HF := Aside0.mk (HBB.out.grown (grown_set3 w1 (w.heap.size + 1) (.slice Ac cl.length cc) (.slice Ad dm.length cd) (.slice Ax ex.length cx)) HBB.out.size (fun k hk => by cases hk; omega))
    refine bodyPost_ret (results_cell_row rfl _ _ (w.heap.size + 1) 28 _ (0, 0) _ rfl (heap_set3 HHeap.out) Tryz.underlying28 rfl (by kernel_rfl)) rfl ?_
    exact ⟨⟨Ac, Ad, Ax, cc, cd, cx, rfl, ⟨HL.out.1, fun _ h => h⟩, ⟨HL.out.2.1, fun _ h => h⟩, ⟨HL.out.2.2, fun _ h => h⟩⟩, HF.out⟩
theorem valid_any (Ac Ad Ax : Option Addr) (cc cd cx : Nat) (cl : List S71) (dm : List S61) (ex : List RR) (w : World) (hG : GL w)
    (hrc : Kd.C k71 w Ac cl.length cl) (hcc : cl.length ≤ cc) (hlc : cl.length ≤ 1000000)
    (hrd : Kd.C k61 w Ad dm.length dm) (hcd : dm.length ≤ cd) (hld : dm.length ≤ 1000000)
    (hrx : Kd.C k52 w Ax ex.length ex) (hcx : ex.length ≤ cx) (hlx : ex.length ≤ 1000000) :
    Calls Tryz.prog 42 #[.agg #[.slice Ac cl.length cc, .slice Ad dm.length cd, .slice Ax ex.length cx]] w fun e w' => ValidR w' e (vcl cl dm ex) (vdm cl dm ex) (vex cl dm ex) ∧ Below w.heap.size w w' :=
  (valid_base Ac Ad Ax cc cd cx cl dm ex w hG hrc hcc hlc hrd hcd hld hrx hcx hlx).mono fun _ _ h => by
    obtain ⟨⟨Ac, Ad, Ax, cc, cd, cx, h1, h2, h3, h4⟩, hb⟩ := h
    exact ⟨⟨Ac, Ad, Ax, cc, cd, cx, h1, ⟨h2.1, Kd.C_below (h2.2 _ hrc) hb⟩, ⟨h3.1, Kd.C_below (h3.2 _ hrd) hb⟩, ⟨h4.1, Kd.C_below (h4.2 _ hrx) hb⟩⟩, hb⟩
end Go.Proofs.YtipedgkampafjaaGreatDoor.Rf
/- Tells what Char and Once give. -/
namespace Go.Proofs.YtipedgkampafjaaGreatDoor.Rf
open Go.Shelf Go.RowKit Go.Proofs.YtipedgkampafjaaGreatDoorW.PrintWords Go.Proofs.YtipedgkampafjaaGreatDoorW.PrintLast Go.Proofs.YtipedgkampafjaaGreatDoorW.PrintMore

theorem vdm_len {cl : List S71} {dm : List S61} {ex : List RR} (h : dm.length ≤ 1000000) : (vdm cl dm ex).length ≤ 1000000 := by
  unfold vdm; split
  · exact h
  · simp
theorem good_range {dm : List S61} (g : Good dm) : ∀ m ∈ dm, -9223372036854775808 ≤ m.f0 ∧ m.f0 ≤ 9223372036854775807 := fun m hm => by
  have := g.codes m hm
  simp only [badCodes, Bool.or_eq_false_iff, Bool.not_eq_false'] at this
  exact valid_range this.1
/-- A row of numbers that is handed back. -/
def RetI (w' : World) (e : Ending) (l : List Int) : Prop := ∃ A cap, e = .returned (.slice A l.length cap) ∧ l.length ≤ cap ∧ Kd.C (Kd.int .i64) w' A l.length l
theorem found_nil {W : World} {b : Nat} {F : Int → List Int} (h : MapF Tryz.prog 3 encI W b 0 (fun _ => none)) : FoundM W b 0 (fun _ => none) F := ⟨h, fun x v hx => by cases hx⟩
theorem wh_none (dm : List S61) : wh dm (mk01 fun _ => none) ≤ dm.length + 11172 := univ_len dm _

set_option maxRecDepth 100000 in
set_option maxHeartbeats 16000000 in
theorem dchar_any (Ac Ad Ax : Option Addr) (cc cd cx : Nat) (cl : List S71) (dm : List S61) (ex : List RR) (c : Int) (cp : Bool) (w : World) (hG : GL w)
    (hrc : Kd.C k71 w Ac cl.length cl) (hcc : cl.length ≤ cc) (hlc : cl.length ≤ 1000000)
    (hrd : Kd.C k61 w Ad dm.length dm) (hcd : dm.length ≤ cd) (hld : dm.length ≤ 1000000)
    (hrx : Kd.C k52 w Ax ex.length ex) (hcx : ex.length ≤ cx) (hlx : ex.length ≤ 1000000) (hc : inR c) :
    Calls Tryz.prog 19 #[.agg #[.slice Ac cl.length cc, .slice Ad dm.length cd, .slice Ax ex.length cx], .int .i64 c, .bool cp] w fun e w' => RetI w' e (fullS (vdm cl dm ex) cp c) ∧ Below w.heap.size w w' := by
  have hb : ∀ o : Obj, Below w.heap.size w (w.alloc o) := fun o => below_alloc (Below.refl _ _) _
  have HV := Aside0.mk (fun o => valid_any Ac Ad Ax cc cd cx cl dm ex (w.alloc o) (GL.below hG (hb o)) (Kd.C_below hrc (hb o)) hcc hlc (Kd.C_below hrd (hb o)) hcd hld (Kd.C_below hrx (hb o)) hcx hlx)
  have HB := Aside0.mk hb
  have hg := vdm_good cl dm ex
  have HLv : Aside0 ((vdm cl dm ex).length ≤ 1000000) := ⟨vdm_len hld⟩
  have HC := Aside0.mk hc
  clear hG hrc hrd hrx hb hlc hld hlx hcc hcd hcx hc
  generalize vdm cl dm ex = vd at HV hg HLv
  generalize vcl cl dm ex = vc at HV
  generalize vex cl dm ex = vx at HV
  have HGd := Aside0.mk hg
  clear hg
  go_enter Tryz.func19, Tryz.ntmps19
  go_wp2_with fail
  refine (HV.out _).mono ?_
  rintro e w1 ⟨⟨Ac', Ad', Ax', cc', cd', cx', rfl, _, ⟨hd1, hd2⟩, _⟩, hb1⟩
  have HB1 := Aside0.mk (below_step (HB.out _) hb1)
  have HD := Aside0.mk hd2
  have hfld := fieldD (.slice Ac' vc.length cc') (.slice Ad' vd.length cd') (.slice Ax' vx.length cx') rfl w1 Ad' vd.length cd' Ac' vc.length cc' Ax' vx.length cx'
  clear hd1 hd2 hb1
  go_wp2_with fail
  refine (load_any Ad' cd' vd cp w1 HD.out (by have := HLv.out; omega) (good_range HGd.out)).mono ?_
  rintro e w2 ⟨rfl, hd2, hm2⟩
  have HD2 := Aside0.mk hd2
  have HM2 := Aside0.mk hm2
  clear hd2 hm2
  go_wp2_with fail
  refine (full_any HGd.out.codes (HGd.out.full cp) (vd.length + 11172) (by have := HLv.out; omega) c (HGd.out.acc cp c) 0 (fun _ => none) w2 HD2.out (found_nil HM2.out) (by have := wh_none vd; omega) HC.out).mono ?_
  rintro e w3 ⟨⟨A3, cap3, rfl, hle3, hC3⟩, n3, f3, _, _, _, _, _, hg3⟩
  have HB3 := Aside0.mk (below_turned (below_step HB1.out HD2.out.below) hg3 (by have := HB1.out.size; omega) HM2.out.lt)
  have HC3 := Aside0.mk hC3
  have HLen := Aside0.mk ((HGd.out.full cp).2.2 c)
  clear hle3 hC3 hg3
  generalize hlq : fullS vd cp c = l at HC3 HLen
  have HLq := Aside0.mk hlq
  clear hlq
  go_wp2_with fail
  refine (clone_any A3 cap3 l w3 HC3.out (by have := HLen.out; omega)).mono ?_
  rintro e w4 ⟨⟨v, rfl, hr4⟩, hb4⟩
  obtain ⟨A4, cap4, rfl, hcap4, hC4, _⟩ := rowI_C hr4 (by have := HLen.out; omega)
  have HB4 := Aside0.mk (below_step HB3.out hb4)
  have HCap := Aside0.mk hcap4
  have HC4 := Aside0.mk hC4
  clear hr4 hb4 hcap4 hC4
  go_wp2_with fail
  go_ret
  rw [HLq.out]
  exact ⟨⟨A4, cap4, rfl, HCap.out, HC4.out⟩, HB4.out⟩

/-- What Once hands back. -/
def OnceV (w' : World) (e : Ending) : Option (List Int) → Prop
  | none => e = .returned (.tuple #[.slice none 0 0, .bool false])
  | some l => ∃ A cap, e = .returned (.tuple #[.slice A l.length cap, .bool true]) ∧ l.length ≤ cap ∧ Kd.C (Kd.int .i64) w' A l.length l
theorem once_len {dm : List S61} (g : Good dm) {cp : Bool} {c : Int} {l : List Int} (h : onceS dm cp c = some l) (hs : ∀ m ∈ dm, m.f1.length ≤ 1000000) : l.length ≤ 1000000 := by
  unfold onceS at h
  split at h
  · cases hl : lastM dm c with
    | none => rw [hl] at h; cases h
    | some m =>
      rw [hl] at h
      simp only at h
      split at h
      · cases h
      · cases h; exact hs m (lastM_mem hl).1
  · cases h
    unfold hdec
    split
    · simp
    · split <;> simp
theorem mapChkO_size {dm : List S61} (h : mapChkO dm = 0) : ∀ m ∈ dm, m.f1.length ≤ 64 := by
  intro m hm
  have h1 : mapChk dm = 0 := by
    unfold mapChkO at h
    split at h
    · rename_i h2; exact h2
    · exact h
  unfold mapChk at h1
  cases hb : dm.any badCodes with
  | true => rw [hb] at h1; simp at h1
  | false =>
    cases hs : dm.any badSize with
    | true => rw [hb, hs] at h1; simp at h1
    | false =>
      have := not_any _ _ hs m hm
      simp only [badSize, decide_eq_false_iff_not] at this
      omega
theorem vdm_size (cl : List S71) (dm : List S61) (ex : List RR) : ∀ m ∈ vdm cl dm ex, m.f1.length ≤ 64 := by
  unfold vdm
  split
  · rename_i h
    refine mapChkO_size ?_
    apply Classical.byContradiction
    intro hn
    unfold decChk at h
    by_cases h1 : ordChk cl = 0
    · simp [h1, hn] at h
    · simp [h1] at h
  · simp

set_option maxRecDepth 100000 in
set_option maxHeartbeats 16000000 in
theorem donce_any (Ac Ad Ax : Option Addr) (cc cd cx : Nat) (cl : List S71) (dm : List S61) (ex : List RR) (c : Int) (cp : Bool) (w : World) (hG : GL w)
    (hrc : Kd.C k71 w Ac cl.length cl) (hcc : cl.length ≤ cc) (hlc : cl.length ≤ 1000000)
    (hrd : Kd.C k61 w Ad dm.length dm) (hcd : dm.length ≤ cd) (hld : dm.length ≤ 1000000)
    (hrx : Kd.C k52 w Ax ex.length ex) (hcx : ex.length ≤ cx) (hlx : ex.length ≤ 1000000) (hc : inR c) :
    Calls Tryz.prog 13 #[.agg #[.slice Ac cl.length cc, .slice Ad dm.length cd, .slice Ax ex.length cx], .int .i64 c, .bool cp] w fun e w' => OnceV w' e (onceS (vdm cl dm ex) cp c) ∧ Below w.heap.size w w' := by
  have hb : ∀ o : Obj, Below w.heap.size w (w.alloc o) := fun o => below_alloc (Below.refl _ _) _
  have HV := Aside0.mk (fun o => valid_any Ac Ad Ax cc cd cx cl dm ex (w.alloc o) (GL.below hG (hb o)) (Kd.C_below hrc (hb o)) hcc hlc (Kd.C_below hrd (hb o)) hcd hld (Kd.C_below hrx (hb o)) hcx hlx)
  have HB := Aside0.mk hb
  have hg := vdm_good cl dm ex
  have HLv : Aside0 ((vdm cl dm ex).length ≤ 1000000) := ⟨vdm_len hld⟩
  have HSz := Aside0.mk (vdm_size cl dm ex)
  have HC := Aside0.mk hc
  clear hG hrc hrd hrx hb hlc hld hlx hcc hcd hcx hc
  generalize vdm cl dm ex = vd at HV hg HLv HSz
  generalize vcl cl dm ex = vc at HV
  generalize vex cl dm ex = vx at HV
  have HGd := Aside0.mk hg
  clear hg
  have HOl : Aside0 (∀ l, onceS vd cp c = some l → l.length ≤ 1000000) := ⟨fun l h => once_len HGd.out h fun m hm => Nat.le_trans (HSz.out m hm) (by omega)⟩
  cases ho : onceS vd cp c with
  | none =>
    go_enter Tryz.func13, Tryz.ntmps13
    go_wp2_with fail
    refine (HV.out _).mono ?_
    rintro e w1 ⟨⟨Ac', Ad', Ax', cc', cd', cx', rfl, _, ⟨hd1, hd2⟩, _⟩, hb1⟩
    have HB1 := Aside0.mk (below_step (HB.out _) hb1)
    have HD := Aside0.mk hd2
    have hfld := fieldD (.slice Ac' vc.length cc') (.slice Ad' vd.length cd') (.slice Ax' vx.length cx') rfl w1 Ad' vd.length cd' Ac' vc.length cc' Ax' vx.length cx'
    clear hd1 hd2 hb1
    go_wp2_with fail
    refine (load_any Ad' cd' vd cp w1 HD.out (by have := HLv.out; omega) (good_range HGd.out)).mono ?_
    rintro e w2 ⟨rfl, hd2, hm2⟩
    have HD2 := Aside0.mk hd2
    clear hd2 hm2
    go_wp2_with fail
    refine (once_any HD2.out c HC.out).mono ?_
    rintro e w3 ⟨he, hb3⟩
    rw [ho] at he
    subst he
    have HB3 := Aside0.mk (below_step (below_step HB1.out HD2.out.below) hb3)
    clear hb3
    go_wp2_with fail
    refine (Tryz.slices_Clone_int_nil 0 0 w3).mono ?_
    rintro e w4 ⟨rfl, rfl⟩
    go_wp2_with fail
    go_ret2
    exact ⟨rfl, HB3.out⟩
  | some l =>
    go_enter Tryz.func13, Tryz.ntmps13
    go_wp2_with fail
    refine (HV.out _).mono ?_
    rintro e w1 ⟨⟨Ac', Ad', Ax', cc', cd', cx', rfl, _, ⟨hd1, hd2⟩, _⟩, hb1⟩
    have HB1 := Aside0.mk (below_step (HB.out _) hb1)
    have HD := Aside0.mk hd2
    have hfld := fieldD (.slice Ac' vc.length cc') (.slice Ad' vd.length cd') (.slice Ax' vx.length cx') rfl w1 Ad' vd.length cd' Ac' vc.length cc' Ax' vx.length cx'
    clear hd1 hd2 hb1
    go_wp2_with fail
    refine (load_any Ad' cd' vd cp w1 HD.out (by have := HLv.out; omega) (good_range HGd.out)).mono ?_
    rintro e w2 ⟨rfl, hd2, hm2⟩
    have HD2 := Aside0.mk hd2
    clear hd2 hm2
    go_wp2_with fail
    refine (once_any HD2.out c HC.out).mono ?_
    rintro e w3 ⟨he, hb3⟩
    rw [ho] at he
    obtain ⟨A3, cap3, rfl, hle3, hC3⟩ := he
    have HB3 := Aside0.mk (below_step (below_step HB1.out HD2.out.below) hb3)
    have HC3 := Aside0.mk hC3
    have HLen := Aside0.mk (HOl.out l ho)
    clear hb3 hle3 hC3
    go_wp2_with fail
    refine (clone_any A3 cap3 l w3 HC3.out HLen.out).mono ?_
    rintro e w4 ⟨⟨v, rfl, hr4⟩, hb4⟩
    obtain ⟨A4, cap4, rfl, hcap4, hC4, _⟩ := rowI_C hr4 (by have := HLen.out; omega)
    have HB4 := Aside0.mk (below_step HB3.out hb4)
    have HCap := Aside0.mk hcap4
    have HC4 := Aside0.mk hC4
    clear hr4 hb4 hcap4 hC4
    go_wp2_with fail
    go_ret2
    exact ⟨⟨A4, cap4, rfl, HCap.out, HC4.out⟩, HB4.out⟩
end Go.Proofs.YtipedgkampafjaaGreatDoor.Rf
/- Tells what the reference's place, Cuts, Has and keeps compute. -/
namespace Go.Proofs.YtipedgkampafjaaGreatDoor.Rf
open Go.Shelf Go.RowKit Go.Proofs.YtipedgkampafjaaGreatDoorW.PrintWords Go.Proofs.YtipedgkampafjaaGreatDoorW.PrintLast Go.Proofs.YtipedgkampafjaaGreatDoorW.PrintMore

/-- One element more of a list in which a number is placed: what has come, and whether the number is in it. -/
def plStep (n : Int) (s : List Int × Bool) (e : Int) : List Int × Bool :=
  if s.2 then (s.1 ++ [e], true) else if e < n then (s.1 ++ [e], false) else if e = n then (s.1 ++ [e], true) else (s.1 ++ [n] ++ [e], true)
def plFold (n : Int) (l : List Int) : List Int × Bool := l.foldl (plStep n) ([], false)
def placeS (l : List Int) (n : Int) : List Int := if (plFold n l).2 then (plFold n l).1 else (plFold n l).1 ++ [n]
theorem plFold_snoc (n : Int) (l : List Int) (e : Int) : plFold n (l ++ [e]) = plStep n (plFold n l) e := by simp [plFold, List.foldl_append]
theorem plFold_len2 (n : Int) : ∀ (l : List Int) (s : List Int × Bool) (k : Nat), (s.2 = false → s.1.length = k) → s.1.length ≤ k + 1 → ((l.foldl (plStep n) s).2 = false → (l.foldl (plStep n) s).1.length = k + l.length) ∧ (l.foldl (plStep n) s).1.length ≤ k + l.length + 1
  | [], s, k, h1, h2 => ⟨fun h => by simpa using h1 h, by simpa using h2⟩
  | x :: l, (o, b), k, h1, h2 => by
    have h3 : ((plStep n (o, b) x).2 = false → (plStep n (o, b) x).1.length = k + 1) ∧ (plStep n (o, b) x).1.length ≤ k + 1 + 1 := by
      unfold plStep
      cases b with
      | true => simp at h2 ⊢; omega
      | false =>
        have := h1 rfl
        simp only at this
        split
        · simp at *
        · split
          · simp; omega
          · split <;> simp <;> omega
    have h4 := plFold_len2 n l (plStep n (o, b) x) (k + 1) h3.1 h3.2
    simp only [List.foldl_cons, List.length_cons]
    exact ⟨fun h => by have := h4.1 h; omega, by have := h4.2; omega⟩
theorem plFold_len (n : Int) (l : List Int) : (plFold n l).1.length ≤ l.length + 1 := by
  have := (plFold_len2 n l ([], false) 0 (fun _ => rfl) (by simp)).2
  unfold plFold; omega
theorem placeS_len (l : List Int) (n : Int) : (placeS l n).length ≤ l.length + 1 := by
  have h := plFold_len2 n l ([], false) 0 (fun _ => rfl) (by simp)
  unfold placeS
  split
  · exact plFold_len n l
  · rename_i hb
    have := h.1 (by simpa [plFold] using hb)
    simp only [plFold] at *
    simp; omega

set_option maxRecDepth 100000 in
set_option maxHeartbeats 16000000 in
theorem refPlace_any (A : Option Addr) (c : Nat) (l : List Int) (n : Int) (w : World) (hr : Kd.C (Kd.int .i64) w A l.length l) (hl : l.length ≤ 100000) :
    Calls Tryz.prog 101 #[.slice A l.length c, .int .i64 n] w fun e w' => RetI w' e (placeS l n) ∧ Below w.heap.size w w' := by
  have HR := Aside0.mk hr
  clear hr
  go_enter Tryz.func101, Tryz.ntmps101
  go_wp2_with fail
  go_loopw [5, 6, 7] (fun v d t wr => ∃ (i : Nat) (b : Bool), t = .int .i64 i ∧ i ≤ l.length ∧ d = .bool b ∧ Aside0 (b = (plFold n (l.take i)).2) ∧ Aside0 (RowI wr w.heap.size v (plFold n (l.take i)).1) ∧ Aside0 (Below w.heap.size w wr)) (fun _ _ t _ => l.length - (intOf t).toNat)
  case atStart => exact ⟨0, false, rfl, Nat.zero_le _, rfl, ⟨rfl⟩, ⟨World.ownsRow_nil _ _ _ _⟩, ⟨Below.refl _ _⟩⟩
  case round =>
    obtain ⟨i, b, rfl, hi, rfl, HD, HRow, HB⟩ := hrel
    by_cases hlt : i < l.length
    · have hltz : (i : Int) < (l.length : Int) := by omega
      obtain ⟨ad, e, hx0⟩ := ReadsInt.at_ (ReadsInt.of_C (Kd.C_below HR.out HB.out)) i (by omega) (by omega)
      subst e
      simp only [Int.toNat_natCast] at hx0
      have hrd : rd l (i : Int) = l.getD i 0 := by rw [rd, Int.toNat_natCast]
      rw [hrd] at hx0
      have HT : Aside0 (plFold n (l.take (i + 1)) = plStep n (plFold n (l.take i)) (l.getD i 0)) := ⟨by
        rw [List.take_succ_eq_append_getElem hlt, plFold_snoc, List.getD_eq_getElem?_getD, List.getElem?_eq_getElem hlt]; rfl⟩
      have HLen : Aside0 ((plFold n (l.take i)).1.length ≤ 300000) := ⟨by have := plFold_len n (l.take i); have := List.length_take_le i l; omega⟩
      clear hrd
      generalize l.getD i 0 = x at hx0 HT
      generalize plFold n (l.take i) = s at HD HRow HT HLen
      obtain ⟨o, dn⟩ := s
      have HD2 := HD.out
      simp only at HD2
      subst HD2
      have hz := HB.out.size
      have row : ∀ (W : World) (xs : List Int) (v : Value), Below w.heap.size w W → RowI W w.heap.size v xs → True := fun _ _ _ _ _ => trivial
      clear row
      have k1 : ∀ y : Int, (wr.alloc (.cells #[.int .i64 y] 3)).cell? ⟨wr.heap.size, 0, none⟩ = some (.int .i64 y) := fun y => by simp
      have HK1 := Aside0.mk k1
      clear k1
      cases b with
      | true =>
        have HP : Aside0 (plFold n (l.take (i + 1)) = (o ++ [x], true)) := ⟨by rw [HT.out]; rfl⟩
        go_wp2_with (at_builtin; refine print_append_row (w0 := w) w.heap.size rfl (.tmp 34) (.tmp 39) 34 3 .i64 8 rfl Tryz.underlying34 infoI (by decide) _ o [x] _ _ _ rfl rfl (own_alloc HRow.out _) (ReadsInt.of_C (C_one (HK1.out x))) (below_alloc HB.out _) (by simp; omega) (by have := HLen.out; simp at this ⊢; omega) ?_; intro v1 w3 q1 q2 q3 q4)
        have Q1 := Aside0.mk q1
        have Q2 := Aside0.mk q2
        clear q1 q2 q3 q4
        go_roundw
        case rel => exact ⟨i + 1, true, by first | rfl | go_num, by omega, rfl, ⟨by rw [HP.out]⟩, ⟨by rw [HP.out]; exact Q1.out⟩, Q2⟩
        case measure => simp [intOf]; omega
      | false =>
        rcases Int.lt_trichotomy x n with hxn | hxn | hxn
        · have HP : Aside0 (plFold n (l.take (i + 1)) = (o ++ [x], false)) := ⟨by rw [HT.out]; simp [plStep, hxn]⟩
          have g1 : decide (n ≤ x) = false := decide_eq_false (by omega)
          go_wp2_with (at_builtin; refine print_append_row (w0 := w) w.heap.size rfl (.tmp 34) (.tmp 39) 34 3 .i64 8 rfl Tryz.underlying34 infoI (by decide) _ o [x] _ _ _ rfl rfl (own_alloc HRow.out _) (ReadsInt.of_C (C_one (HK1.out x))) (below_alloc HB.out _) (by simp; omega) (by have := HLen.out; simp at this ⊢; omega) ?_; intro v1 w3 q1 q2 q3 q4)
          have Q1 := Aside0.mk q1
          have Q2 := Aside0.mk q2
          clear q1 q2 q3 q4
          go_roundw
          case rel => exact ⟨i + 1, false, by first | rfl | go_num, by omega, rfl, ⟨by rw [HP.out]⟩, ⟨by rw [HP.out]; exact Q1.out⟩, Q2⟩
          case measure => simp [intOf]; omega
        · subst hxn
          have HP : Aside0 (plFold x (l.take (i + 1)) = (o ++ [x], true)) := ⟨by rw [HT.out]; simp [plStep]⟩
          have g1 : decide (x ≤ x) = true := decide_eq_true (Int.le_refl _)
          go_wp2_with (at_builtin; refine print_append_row (w0 := w) w.heap.size rfl (.tmp 34) (.tmp 39) 34 3 .i64 8 rfl Tryz.underlying34 infoI (by decide) _ o [x] _ _ _ rfl rfl (own_alloc HRow.out _) (ReadsInt.of_C (C_one (HK1.out x))) (below_alloc HB.out _) (by simp; omega) (by have := HLen.out; simp at this ⊢; omega) ?_; intro v1 w3 q1 q2 q3 q4)
          have Q1 := Aside0.mk q1
          have Q2 := Aside0.mk q2
          clear q1 q2 q3 q4
          go_roundw
          case rel => exact ⟨i + 1, true, by first | rfl | go_num, by omega, rfl, ⟨by rw [HP.out]⟩, ⟨by rw [HP.out]; exact Q1.out⟩, Q2⟩
          case measure => simp [intOf]; omega
        · have hne : ¬ x < n := by omega
          have hne2 : ¬ x = n := by omega
          have HP : Aside0 (plFold n (l.take (i + 1)) = (o ++ [n] ++ [x], true)) := ⟨by rw [HT.out]; simp [plStep, hne, hne2]⟩
          have g1 : decide (n ≤ x) = true := decide_eq_true (by omega)
          clear hne hne2
          have HX3 : Aside0 (∀ W, Below w.heap.size w W → W.cell? (ad.add i) = some (.int .i64 x)) := ⟨fun W hW => by
            obtain ⟨ad', e', h'⟩ := (ReadsInt.of_C HR.out).2.2 (by omega)
            cases e'
            have h2 := h' i hlt
            have h3 := HB.out.cell (cell_lt h2)
            rw [hW.cell (cell_lt h2), ← h3]; exact hx0⟩
          go_wp2_with (first
            | (at_builtin; refine print_append_row (w0 := w) w.heap.size rfl (.tmp 30) (.tmp 32) 34 3 .i64 8 rfl Tryz.underlying34 infoI (by decide) _ o [n] _ _ _ rfl rfl (own_alloc HRow.out _) (ReadsInt.of_C (C_one (HK1.out n))) (below_alloc HB.out _) (by simp; omega) (by have := HLen.out; simp at this ⊢; omega) ?_; intro v1 w3 q1 q2 q3 q4; have R1 := Aside0.mk q1; have B1 := Aside0.mk q2; have hx3 := HX3.out _ q2; have hz3 := q2.size; clear q1 q2 q3 q4)
            | (at_builtin; refine print_append_row (w0 := w) w.heap.size rfl (.tmp 34) (.tmp 39) 34 3 .i64 8 rfl Tryz.underlying34 infoI (by decide) _ (o ++ [n]) [x] _ _ _ rfl rfl (own_alloc R1.out _) (ReadsInt.of_C (C_one (cell_new_sl _ _ _))) (below_alloc B1.out _) (by simp; omega) (by have := HLen.out; simp at this ⊢; omega) ?_; intro v2 w4 q1 q2 q3 q4))
          have Q1 := Aside0.mk q1
          have Q2 := Aside0.mk q2
          clear q1 q2 q3 q4
          go_roundw
          case rel => exact ⟨i + 1, true, by first | rfl | go_num, by omega, rfl, ⟨by rw [HP.out]⟩, ⟨by rw [HP.out]; exact Q1.out⟩, Q2⟩
          case measure => simp [intOf]; omega
    · have hltz : ¬ (i : Int) < (l.length : Int) := by omega
      have HE : Aside0 (plFold n (l.take i) = plFold n l) := ⟨by rw [List.take_of_length_le (by omega)]⟩
      have HLen : Aside0 ((plFold n l).1.length ≤ 300000) := ⟨by have := plFold_len n l; omega⟩
      have HPl := Aside0.mk (show placeS l n = if (plFold n l).2 then (plFold n l).1 else (plFold n l).1 ++ [n] from rfl)
      rw [HE.out] at HD HRow
      generalize plFold n l = s at HD HRow HLen HPl
      obtain ⟨o, dn⟩ := s
      have HD2 := HD.out
      simp only at HD2
      subst HD2
      clear HE HD
      cases b with
      | true =>
        obtain ⟨A9, cap9, hv9, hcap9, hC9, _⟩ := rowI_C HRow.out (by have := HLen.out; simp at this ⊢; omega)
        subst hv9
        have HC9 := Aside0.mk hC9
        have HCap := Aside0.mk hcap9
        clear hC9 hcap9
        go_wp2_with fail
        go_ret
        rw [HPl.out]
        exact ⟨⟨A9, cap9, rfl, HCap.out, HC9.out⟩, HB.out⟩
      | false =>
        have hz := HB.out.size
        have HK1 : Aside0 (∀ y : Int, (wr.alloc (.cells #[.int .i64 y] 3)).cell? ⟨wr.heap.size, 0, none⟩ = some (.int .i64 y)) := ⟨fun y => by simp⟩
        go_wp2_with (at_builtin; refine print_append_row (w0 := w) w.heap.size rfl (.tmp 43) (.tmp 45) 34 3 .i64 8 rfl Tryz.underlying34 infoI (by decide) _ o [n] _ _ _ rfl rfl (own_alloc HRow.out _) (ReadsInt.of_C (C_one (HK1.out n))) (below_alloc HB.out _) (by simp; omega) (by have := HLen.out; simp at this ⊢; omega) ?_; intro v1 w3 q1 q2 q3 q4)
        obtain ⟨A9, cap9, hv9, hcap9, hC9, _⟩ := rowI_C q1 (by have := HLen.out; simp at this ⊢; omega)
        subst hv9
        have HC9 := Aside0.mk hC9
        have HCap := Aside0.mk hcap9
        have Q2 := Aside0.mk q2
        clear hC9 hcap9 q1 q2 q3 q4
        go_wp2_with fail
        go_ret
        rw [HPl.out]
        exact ⟨⟨A9, cap9, rfl, HCap.out, HC9.out⟩, Q2.out⟩
end Go.Proofs.YtipedgkampafjaaGreatDoor.Rf
/- Tells what the reference's Cuts, Has and keeps compute. -/
namespace Go.Proofs.YtipedgkampafjaaGreatDoor.Rf
open Go.Shelf Go.RowKit Go.Proofs.YtipedgkampafjaaGreatDoorW.PrintWords Go.Proofs.YtipedgkampafjaaGreatDoorW.PrintLast Go.Proofs.YtipedgkampafjaaGreatDoorW.PrintMore

/-- The cuts of one range. -/
def cutStep (l : List Int) (r : RR) : List Int :=
  let l1 := if okC r.f0 then placeS l r.f0 else l
  if 0 ≤ r.f1 ∧ r.f1 < 1114111 then placeS l1 (r.f1 + 1) else l1
def cutsS (l : List Int) (rs : List RR) : List Int := placeS (rs.foldl cutStep l) 0
theorem cutStep_len (l : List Int) (r : RR) : (cutStep l r).length ≤ l.length + 2 := by
  unfold cutStep
  have h1 := placeS_len l r.f0
  simp only
  split <;> split
  all_goals (first | (have := placeS_len (placeS l r.f0) (r.f1 + 1); omega) | (have := placeS_len l (r.f1 + 1); omega) | omega)

set_option maxRecDepth 100000 in
set_option maxHeartbeats 16000000 in
theorem refCuts_any (A Ax : Option Addr) (c cx : Nat) (l : List Int) (rs : List RR) (w : World) (hr : Kd.C (Kd.int .i64) w A l.length l) (hx : Kd.C k52 w Ax rs.length rs) (hl : l.length ≤ 10000) (hl2 : rs.length ≤ 10000) :
    Calls Tryz.prog 77 #[.slice A l.length c, .agg #[.slice Ax rs.length cx]] w fun e w' => RetI w' e (cutsS l rs) ∧ Below w.heap.size w w' := by
  have HR := Aside0.mk hr
  have HX := Aside0.mk hx
  have HB0 : Aside0 (Below w.heap.size w (w.alloc (.cells #[.slice Ax rs.length cx] 26))) := ⟨below_alloc (Below.refl _ _) _⟩
  have HC0 : Aside0 ((w.alloc (.cells #[.slice Ax rs.length cx] 26)).cell? ⟨w.heap.size, 0, none⟩ = some (.slice Ax rs.length cx)) := ⟨by simp⟩
  clear hr hx
  go_enter Tryz.func77, Tryz.ntmps77
  go_wp2_with fail
  obtain ⟨w1, hw1⟩ : ∃ x, x = w.alloc (.cells #[.slice Ax rs.length cx] 26) := ⟨_, rfl⟩
  rw [← hw1] at HB0 HC0 ⊢
  clear hw1
  have hz1 : w.heap.size < w1.heap.size := cell_lt HC0.out
  go_loopw [0, 5] (fun v t wr => ∃ (i : Nat) (A' : Option Addr) (c' : Nat) (l' : List Int), v = .slice A' l'.length c' ∧ t = .int .i64 i ∧ i ≤ rs.length ∧ l'.length ≤ l.length + 2 * i ∧ Aside0 (Kd.C (Kd.int .i64) wr A' l'.length l') ∧ Aside0 (l' = (rs.take i).foldl cutStep l) ∧ Aside0 (Below w1.heap.size w1 wr)) (fun _ t _ => rs.length - (intOf t).toNat)
  case atStart => exact ⟨0, A, c, l, rfl, rfl, Nat.zero_le _, by omega, ⟨Kd.C_below HR.out HB0.out⟩, ⟨rfl⟩, ⟨Below.refl _ _⟩⟩
  case round =>
    obtain ⟨i, A', c', l', rfl, rfl, hi, hl', HL, HE, HB⟩ := hrel
    have y0 : wr.cell? ⟨w.heap.size, 0, none⟩ = some (.slice Ax rs.length cx) := by rw [HB.out.cell hz1]; exact HC0.out
    by_cases hlt : i < rs.length
    · have hltz : (i : Int) < (rs.length : Int) := by omega
      obtain ⟨ad, e, hx0, hx1⟩ := at_T52 (Kd.C_below HX.out (below_step HB0.out HB.out)) i (by omega) (by omega)
      subst e
      simp only [Int.toNat_natCast] at hx0 hx1
      have HY : Aside0 (rd_T52 rs i = rs.getD i z52) := ⟨by simp [rd_T52]⟩
      have HT : Aside0 ((rs.take (i + 1)).foldl cutStep l = cutStep l' (rd_T52 rs i)) := ⟨by
        rw [HY.out, List.take_succ_eq_append_getElem hlt, List.foldl_append, HE.out, List.getD_eq_getElem?_getD, List.getElem?_eq_getElem hlt]; rfl⟩
      generalize rd_T52 rs i = r at hx0 hx1 HT HY
      have HCS := Aside0.mk (show cutStep l' r = (if 0 ≤ r.f1 ∧ r.f1 < 1114111 then placeS (if okC r.f0 then placeS l' r.f0 else l') (r.f1 + 1) else (if okC r.f0 then placeS l' r.f0 else l')) from rfl)
      cases hok : okC r.f0 with
      | true =>
        have HOk := Aside0.mk hok
        by_cases h0 : 0 ≤ r.f1
        · by_cases h1 : r.f1 < 1114111
          · have g1 : decide (0 ≤ r.f1) = true := decide_eq_true (by omega)
            have g2 : decide (r.f1 < 1114111) = true := decide_eq_true (by omega)
            have HRes : Aside0 (cutStep l' r = (placeS (placeS l' r.f0) (r.f1 + 1))) := ⟨by rw [HCS.out, if_pos (by omega), HOk.out]; rfl⟩
            have HLn := Aside0.mk (cutStep_len l' r)
            go_wp2_with fail
            go_quiet (fail)
            go_wp2_with (go_at_call 46; refine (refValid_any _ _).mono ?_; rintro e w' ⟨rfl, rfl⟩)
            have HBq : Aside0 (Below w1.heap.size w1 (wr.drewN nq)) := ⟨pw_below_drewN HB.out _⟩
            have HLq : Aside0 (Kd.C (Kd.int .i64) (wr.drewN nq) A' l'.length l') := ⟨Kd.C_below HL.out (pw_below_drewN (Below.refl _ _) _)⟩
            refine (refPlace_any A' c' l' r.f0 _ HLq.out (by omega)).mono ?_
            rintro e w3 ⟨⟨A3, c3, rfl, hc3, hC3⟩, hb3⟩
            have HL3 := Aside0.mk hC3
            have HB3 := Aside0.mk (below_step HBq.out hb3)
            have HN3 := Aside0.mk (placeS_len l' r.f0)
            clear hc3 hC3 hb3
            go_wp2_with fail
            refine (refPlace_any A3 c3 (placeS l' r.f0) (r.f1 + 1) _ HL3.out (by have := HN3.out; omega)).mono ?_
            rintro e w4 ⟨⟨A4, c4, rfl, hc4, hC4⟩, hb4⟩
            have HL4 := Aside0.mk hC4
            have HB4 := Aside0.mk (below_step HB3.out hb4)
            clear hc4 hC4 hb4
            go_wp2_with fail
            go_roundw
            case rel => exact ⟨i + 1, A4, c4, (placeS (placeS l' r.f0) (r.f1 + 1)), rfl, by first | rfl | go_num, by omega, by have h := HLn.out; rw [HRes.out] at h; omega, HL4, ⟨by rw [HT.out, HRes.out]⟩, HB4⟩
            case measure => simp [intOf]; omega
          · have g1 : decide (0 ≤ r.f1) = true := decide_eq_true (by omega)
            have g2 : decide (r.f1 < 1114111) = false := decide_eq_false (by omega)
            have HRes : Aside0 (cutStep l' r = (placeS l' r.f0)) := ⟨by rw [HCS.out, if_neg (by omega), HOk.out]; rfl⟩
            have HLn := Aside0.mk (cutStep_len l' r)
            go_wp2_with fail
            go_quiet (fail)
            go_wp2_with (go_at_call 46; refine (refValid_any _ _).mono ?_; rintro e w' ⟨rfl, rfl⟩)
            have HBq : Aside0 (Below w1.heap.size w1 (wr.drewN nq)) := ⟨pw_below_drewN HB.out _⟩
            have HLq : Aside0 (Kd.C (Kd.int .i64) (wr.drewN nq) A' l'.length l') := ⟨Kd.C_below HL.out (pw_below_drewN (Below.refl _ _) _)⟩
            refine (refPlace_any A' c' l' r.f0 _ HLq.out (by omega)).mono ?_
            rintro e w3 ⟨⟨A3, c3, rfl, hc3, hC3⟩, hb3⟩
            have HL3 := Aside0.mk hC3
            have HB3 := Aside0.mk (below_step HBq.out hb3)
            have HN3 := Aside0.mk (placeS_len l' r.f0)
            clear hc3 hC3 hb3
            go_wp2_with fail
            go_roundw
            case rel => exact ⟨i + 1, A3, c3, (placeS l' r.f0), rfl, by first | rfl | go_num, by omega, by have h := HLn.out; rw [HRes.out] at h; omega, HL3, ⟨by rw [HT.out, HRes.out]⟩, HB3⟩
            case measure => simp [intOf]; omega
        · have g1 : decide (0 ≤ r.f1) = false := decide_eq_false (by omega)
          have HRes : Aside0 (cutStep l' r = (placeS l' r.f0)) := ⟨by rw [HCS.out, if_neg (by omega), HOk.out]; rfl⟩
          have HLn := Aside0.mk (cutStep_len l' r)
          go_wp2_with fail
          go_quiet (fail)
          go_wp2_with (go_at_call 46; refine (refValid_any _ _).mono ?_; rintro e w' ⟨rfl, rfl⟩)
          have HBq : Aside0 (Below w1.heap.size w1 (wr.drewN nq)) := ⟨pw_below_drewN HB.out _⟩
          have HLq : Aside0 (Kd.C (Kd.int .i64) (wr.drewN nq) A' l'.length l') := ⟨Kd.C_below HL.out (pw_below_drewN (Below.refl _ _) _)⟩
          refine (refPlace_any A' c' l' r.f0 _ HLq.out (by omega)).mono ?_
          rintro e w3 ⟨⟨A3, c3, rfl, hc3, hC3⟩, hb3⟩
          have HL3 := Aside0.mk hC3
          have HB3 := Aside0.mk (below_step HBq.out hb3)
          have HN3 := Aside0.mk (placeS_len l' r.f0)
          clear hc3 hC3 hb3
          go_wp2_with fail
          go_roundw
          case rel => exact ⟨i + 1, A3, c3, (placeS l' r.f0), rfl, by first | rfl | go_num, by omega, by have h := HLn.out; rw [HRes.out] at h; omega, HL3, ⟨by rw [HT.out, HRes.out]⟩, HB3⟩
          case measure => simp [intOf]; omega
      | false =>
        have HOk := Aside0.mk hok
        by_cases h0 : 0 ≤ r.f1
        · by_cases h1 : r.f1 < 1114111
          · have g1 : decide (0 ≤ r.f1) = true := decide_eq_true (by omega)
            have g2 : decide (r.f1 < 1114111) = true := decide_eq_true (by omega)
            have HRes : Aside0 (cutStep l' r = (placeS l' (r.f1 + 1))) := ⟨by rw [HCS.out, if_pos (by omega), HOk.out]; simp⟩
            have HLn := Aside0.mk (cutStep_len l' r)
            go_wp2_with fail
            go_quiet (fail)
            go_wp2_with (go_at_call 46; refine (refValid_any _ _).mono ?_; rintro e w' ⟨rfl, rfl⟩)
            have HBq : Aside0 (Below w1.heap.size w1 (wr.drewN nq)) := ⟨pw_below_drewN HB.out _⟩
            have HLq : Aside0 (Kd.C (Kd.int .i64) (wr.drewN nq) A' l'.length l') := ⟨Kd.C_below HL.out (pw_below_drewN (Below.refl _ _) _)⟩
            refine (refPlace_any A' c' l' (r.f1 + 1) _ HLq.out (by omega)).mono ?_
            rintro e w4 ⟨⟨A4, c4, rfl, hc4, hC4⟩, hb4⟩
            have HL4 := Aside0.mk hC4
            have HB4 := Aside0.mk (below_step HBq.out hb4)
            clear hc4 hC4 hb4
            go_wp2_with fail
            go_roundw
            case rel => exact ⟨i + 1, A4, c4, (placeS l' (r.f1 + 1)), rfl, by first | rfl | go_num, by omega, by have h := HLn.out; rw [HRes.out] at h; omega, HL4, ⟨by rw [HT.out, HRes.out]⟩, HB4⟩
            case measure => simp [intOf]; omega
          · have g1 : decide (0 ≤ r.f1) = true := decide_eq_true (by omega)
            have g2 : decide (r.f1 < 1114111) = false := decide_eq_false (by omega)
            have HRes : Aside0 (cutStep l' r = l') := ⟨by rw [HCS.out, if_neg (by omega), HOk.out]; simp⟩
            have HLn := Aside0.mk (cutStep_len l' r)
            go_wp2_with fail
            go_quiet (fail)
            go_wp2_with (go_at_call 46; refine (refValid_any _ _).mono ?_; rintro e w' ⟨rfl, rfl⟩)
            have HBq : Aside0 (Below w1.heap.size w1 (wr.drewN nq)) := ⟨pw_below_drewN HB.out _⟩
            have HLq : Aside0 (Kd.C (Kd.int .i64) (wr.drewN nq) A' l'.length l') := ⟨Kd.C_below HL.out (pw_below_drewN (Below.refl _ _) _)⟩
            go_roundw
            case rel => exact ⟨i + 1, A', c', l', rfl, by first | rfl | go_num, by omega, by have h := HLn.out; rw [HRes.out] at h; omega, HLq, ⟨by rw [HT.out, HRes.out]⟩, HBq⟩
            case measure => simp [intOf]; omega
        · have g1 : decide (0 ≤ r.f1) = false := decide_eq_false (by omega)
          have HRes : Aside0 (cutStep l' r = l') := ⟨by rw [HCS.out, if_neg (by omega), HOk.out]; simp⟩
          have HLn := Aside0.mk (cutStep_len l' r)
          go_wp2_with fail
          go_quiet (fail)
          go_wp2_with (go_at_call 46; refine (refValid_any _ _).mono ?_; rintro e w' ⟨rfl, rfl⟩)
          have HBq : Aside0 (Below w1.heap.size w1 (wr.drewN nq)) := ⟨pw_below_drewN HB.out _⟩
          have HLq : Aside0 (Kd.C (Kd.int .i64) (wr.drewN nq) A' l'.length l') := ⟨Kd.C_below HL.out (pw_below_drewN (Below.refl _ _) _)⟩
          go_roundw
          case rel => exact ⟨i + 1, A', c', l', rfl, by first | rfl | go_num, by omega, by have h := HLn.out; rw [HRes.out] at h; omega, HLq, ⟨by rw [HT.out, HRes.out]⟩, HBq⟩
          case measure => simp [intOf]; omega
    · have hltz : ¬ (i : Int) < (rs.length : Int) := by omega
      have HF : Aside0 (cutsS l rs = placeS l' 0) := ⟨by rw [cutsS, HE.out, List.take_of_length_le (by omega)]⟩
      go_wp2_with fail
      refine (refPlace_any A' c' l' 0 _ HL.out (by omega)).mono ?_
      rintro e w3 ⟨⟨A3, c3, rfl, hc3, hC3⟩, hb3⟩
      have HL3 := Aside0.mk hC3
      have HC3 := Aside0.mk hc3
      have HB3 := Aside0.mk (below_step HB0.out (below_step HB.out hb3))
      clear hc3 hC3 hb3
      go_wp2_with fail
      go_ret
      rw [HF.out]
      exact ⟨⟨A3, c3, rfl, HC3.out, HL3.out⟩, HB3.out⟩

end Go.Proofs.YtipedgkampafjaaGreatDoor.Rf
/- Tells, in plain Lean, that the reference's cuts and ranges make the one valid set of the code points in some ranges. -/
namespace Go.Proofs.YtipedgkampafjaaGreatDoor.Rf
open Go.Shelf Go.RowKit Go.Proofs.YtipedgkampafjaaGreatDoorW.PrintWords Go.Proofs.YtipedgkampafjaaGreatDoorW.PrintLast Go.Proofs.YtipedgkampafjaaGreatDoorW.PrintMore

/-- A number lies in some range. -/
def memR (l : List RR) (c : Int) : Prop := ∃ r ∈ l, r.f0 ≤ c ∧ c ≤ r.f1
theorem canon_cons {x : RR} {l : List RR} (h : canonR (x :: l) = true) : (0 ≤ x.f0 ∧ x.f0 ≤ x.f1 ∧ x.f1 ≤ 1114111) ∧ canonR l = true ∧ ∀ r ∈ l, x.f1 + 1 < r.f0 := by
  simp only [canonR, Bool.and_eq_true, Bool.not_eq_true', List.any_cons, Bool.or_eq_false_iff] at h
  obtain ⟨⟨h1, h2⟩, h3⟩ := h
  rw [pairAny_cons, Bool.or_eq_false_iff] at h3
  have hx : 0 ≤ x.f0 ∧ x.f0 ≤ x.f1 ∧ x.f1 ≤ 1114111 := by simp [badR] at h1; omega
  have hl : canonR l = true := by simp [canonR, h2, h3.2]
  refine ⟨hx, hl, fun r hr => ?_⟩
  cases l with
  | nil => cases hr
  | cons y l =>
    have h4 := h3.1
    simp only [nearR, decide_eq_false_iff_not] at h4
    have hs := canon_strict hl
    rcases List.mem_cons.1 hr with e | e
    · rw [e]; omega
    · have := (List.pairwise_cons.1 hs).1 r e
      omega
theorem canon_range {l : List RR} (h : canonR l = true) : ∀ r ∈ l, 0 ≤ r.f0 ∧ r.f0 ≤ r.f1 ∧ r.f1 ≤ 1114111 := by
  intro r hr
  simp only [canonR, Bool.and_eq_true, Bool.not_eq_true'] at h
  have := not_any _ _ h.1 r hr
  simp [badR] at this
  omega
/-- Valid sets with the same code points are one. -/
theorem canon_unique : ∀ (a b : List RR), canonR a = true → canonR b = true → (∀ c, memR a c ↔ memR b c) → a = b
  | [], [], _, _, _ => rfl
  | [], y :: b, _, hb, h => by
    have := (canon_cons hb).1
    obtain ⟨r, hr, _⟩ := (h y.f0).2 ⟨y, by simp, by omega, by omega⟩
    cases hr
  | x :: a, [], ha, _, h => by
    have := (canon_cons ha).1
    obtain ⟨r, hr, _⟩ := (h x.f0).1 ⟨x, by simp, by omega, by omega⟩
    cases hr
  | x :: a, y :: b, ha, hb, h => by
    obtain ⟨hx, ha2, ha3⟩ := canon_cons ha
    obtain ⟨hy, hb2, hb3⟩ := canon_cons hb
    have low : ∀ (z : RR) (l : List RR), (∀ r ∈ l, z.f1 + 1 < r.f0) → z.f0 ≤ z.f1 → ∀ c, memR (z :: l) c → z.f0 ≤ c := by
      rintro z l hl hz c ⟨r, hr, h1, h2⟩
      rcases List.mem_cons.1 hr with e | e
      · rw [e] at h1; exact h1
      · have := hl r e; omega
    have e0 : x.f0 = y.f0 := by
      have h1 := low y b hb3 hy.2.1 x.f0 ((h x.f0).1 ⟨x, by simp, by omega, by omega⟩)
      have h2 := low x a ha3 hx.2.1 y.f0 ((h y.f0).2 ⟨y, by simp, by omega, by omega⟩)
      omega
    have hi : ∀ (z t : RR) (l : List RR), z.f0 = t.f0 → t.f0 ≤ t.f1 → (∀ r ∈ l, z.f1 + 1 < r.f0) → z.f0 ≤ z.f1 → z.f1 < t.f1 → ¬ memR (z :: l) (z.f1 + 1) := by
      rintro z t l e ht hl hz hlt ⟨r, hr, h1, h2⟩
      rcases List.mem_cons.1 hr with e | e
      · rw [e] at h2; omega
      · have := hl r e; omega
    have e1 : x.f1 = y.f1 := by
      rcases Int.lt_trichotomy x.f1 y.f1 with h1 | h1 | h1
      · exact absurd ((h (x.f1 + 1)).2 ⟨y, by simp, by omega, by omega⟩) (hi x y a e0 hy.2.1 ha3 hx.2.1 h1)
      · exact h1
      · exact absurd ((h (y.f1 + 1)).1 ⟨x, by simp, by omega, by omega⟩) (hi y x b e0.symm hx.2.1 hb3 hy.2.1 h1)
    have e : x = y := by cases x; cases y; simp only at e0 e1; rw [e0, e1]
    subst e
    congr 1
    have tail : ∀ (l : List RR), (∀ r ∈ l, x.f1 + 1 < r.f0) → ∀ c, memR l c ↔ memR (x :: l) c ∧ x.f1 < c := by
      intro l hl c
      constructor
      · rintro ⟨r, hr, h1, h2⟩
        exact ⟨⟨r, by simp [hr], h1, h2⟩, by have := hl r hr; omega⟩
      · rintro ⟨⟨r, hr, h1, h2⟩, h3⟩
        rcases List.mem_cons.1 hr with e | e
        · rw [e] at h2; omega
        · exact ⟨r, e, h1, h2⟩
    refine canon_unique a b ha2 hb2 fun c => ?_
    rw [tail a ha3 c, tail b hb3 c, h c]

/-- Strictly ascending. -/
abbrev Asc (l : List Int) : Prop := l.Pairwise (· < ·)
theorem plFold_true (n : Int) : ∀ (l : List Int) (s : List Int × Bool), s.2 = true → (l.foldl (plStep n) s).2 = true
  | [], _, h => h
  | x :: l, s, h => by
    simp only [List.foldl_cons]
    exact plFold_true n l _ (by unfold plStep; rw [if_pos h])
theorem plFold_asc (n : Int) : ∀ (l : List Int) (s : List Int × Bool), Asc (s.1 ++ l) → (s.2 = false → ∀ x ∈ s.1, x < n) → (s.2 = true → n ∈ s.1) →
    Asc (l.foldl (plStep n) s).1 ∧ (∀ x, x ∈ (l.foldl (plStep n) s).1 ↔ x ∈ s.1 ∨ x ∈ l ∨ (x = n ∧ (l.foldl (plStep n) s).2 = true)) ∧ ((l.foldl (plStep n) s).2 = false → ∀ x ∈ (l.foldl (plStep n) s).1, x < n)
  | [], s, h1, h2, h3 => ⟨by simpa using h1, fun x => ⟨fun h => .inl h, fun h => by
      rcases h with h | h | h
      · exact h
      · cases h
      · rw [h.1]; exact h3 h.2⟩, h2⟩
  | e :: l, (o, b), h1, h2, h3 => by
    have hs := List.pairwise_append.1 h1
    have hel := List.pairwise_cons.1 hs.2.1
    have hoe : ∀ x ∈ o, x < e := fun x hx => hs.2.2 x hx e (by simp)
    simp only [List.foldl_cons]
    have step : Asc ((plStep n (o, b) e).1 ++ l) ∧ ((plStep n (o, b) e).2 = false → ∀ x ∈ (plStep n (o, b) e).1, x < n) ∧ ((plStep n (o, b) e).2 = true → n ∈ (plStep n (o, b) e).1) ∧ (∀ x, x ∈ (plStep n (o, b) e).1 ↔ x ∈ o ∨ x = e ∨ (x = n ∧ (plStep n (o, b) e).2 = true ∧ b = false)) := by
      unfold plStep
      cases b with
      | true =>
        have hn := h3 rfl
        simp only at hn
        refine ⟨by simpa using h1, by simp, fun _ => by simp [hn], fun x => by simp⟩
      | false =>
        have h2' := h2 rfl
        simp only at h2'
        simp only [Bool.false_eq_true, if_false]
        by_cases c1 : e < n
        · rw [if_pos c1]
          refine ⟨by simpa using h1, fun _ x hx => ?_, by simp, fun x => by simp⟩
          rcases List.mem_append.1 hx with h | h
          · exact h2' x h
          · simp only [List.mem_singleton] at h; rw [h]; exact c1
        · rw [if_neg c1]
          by_cases c2 : e = n
          · rw [if_pos c2]
            refine ⟨by simpa using h1, by simp, fun _ => by simp [c2], fun x => ?_⟩
            simp [c2]
          · rw [if_neg c2]
            have hne : n < e := by omega
            refine ⟨?_, by simp, fun _ => by simp, fun x => ?_⟩
            · show Asc (o ++ [n] ++ [e] ++ l)
              rw [List.append_assoc, List.append_assoc]
              refine List.pairwise_append.2 ⟨hs.1, ?_, fun x hx y hy => ?_⟩
              · refine List.pairwise_append.2 ⟨by simp, by simpa using hs.2.1, fun x hx y hy => ?_⟩
                simp only [List.mem_singleton] at hx
                rw [hx]
                rcases List.mem_append.1 hy with h | h
                · simp only [List.mem_singleton] at h; rw [h]; exact hne
                · have := hel.1 y h; omega
              · rcases List.mem_append.1 hy with h | h
                · simp only [List.mem_singleton] at h; rw [h]; exact h2' x hx
                · have h7 := hoe x hx
                  rcases List.mem_append.1 h with h | h
                  · simp only [List.mem_singleton] at h; rw [h]; exact h7
                  · have := hel.1 y h; omega
            · simp only [List.mem_append, List.mem_singleton]
              constructor
              · rintro ((h | h) | h)
                · exact .inl h
                · exact .inr (.inr ⟨h, by simp⟩)
                · exact .inr (.inl h)
              · rintro (h | h | h)
                · exact .inl (.inl h)
                · exact .inr h
                · exact .inl (.inr h.1)
    obtain ⟨s1, s2, s3, s4⟩ := step
    have ih := plFold_asc n l (plStep n (o, b) e) s1 s2 s3
    refine ⟨ih.1, fun x => ?_, ih.2.2⟩
    rw [ih.2.1 x, s4 x]
    have mono := plFold_true n l (plStep n (o, b) e)
    constructor
    · rintro ((h | h | ⟨h, h', _⟩) | h | h)
      · exact .inl h
      · exact .inr (.inl (by simp [h]))
      · exact .inr (.inr ⟨h, mono h'⟩)
      · exact .inr (.inl (by simp [h]))
      · exact .inr (.inr h)
    · rintro (h | h | h)
      · exact .inl (.inl h)
      · rcases List.mem_cons.1 h with e' | e'
        · exact .inl (.inr (.inl e'))
        · exact .inr (.inl e')
      · exact .inr (.inr h)
theorem placeS_asc {l : List Int} (h : Asc l) (n : Int) : Asc (placeS l n) ∧ ∀ x, x ∈ placeS l n ↔ x ∈ l ∨ x = n := by
  have h1 := plFold_asc n l ([], false) (by simpa using h) (by simp) (by simp)
  change Asc (plFold n l).1 ∧ (∀ x, x ∈ (plFold n l).1 ↔ x ∈ [] ∨ x ∈ l ∨ (x = n ∧ (plFold n l).2 = true)) ∧ ((plFold n l).2 = false → ∀ x ∈ (plFold n l).1, x < n) at h1
  have h2 : (plFold n l).2 = true → n ∈ (plFold n l).1 := fun hb => (h1.2.1 n).2 (.inr (.inr ⟨rfl, hb⟩))
  unfold placeS
  cases hb : (plFold n l).2 with
  | true =>
    simp only [if_true]
    refine ⟨h1.1, fun x => ?_⟩
    rw [h1.2.1 x, hb]; simp
  | false =>
    simp only [Bool.false_eq_true, if_false]
    refine ⟨List.pairwise_append.2 ⟨h1.1, by simp, fun x hx y hy => ?_⟩, fun x => ?_⟩
    · simp only [List.mem_singleton] at hy; rw [hy]; exact h1.2.2 hb x hx
    · rw [List.mem_append, h1.2.1 x, hb]; simp
/-- What the cuts of some ranges are. -/
structure CutsOk (rs : List RR) (l : List Int) : Prop where
  asc : Asc l
  rng : ∀ x ∈ l, 0 ≤ x ∧ x ≤ 1114111
  lo : ∀ r ∈ rs, 0 ≤ r.f0 → r.f0 ≤ 1114111 → r.f0 ∈ l
  hi : ∀ r ∈ rs, 0 ≤ r.f1 → r.f1 < 1114111 → r.f1 + 1 ∈ l
theorem cutStep_ok {rs : List RR} {l : List Int} (h : CutsOk rs l) (r : RR) : CutsOk (rs ++ [r]) (cutStep l r) := by
  have h1 : ∃ l1, l1 = (if okC r.f0 then placeS l r.f0 else l) ∧ Asc l1 ∧ (∀ x, x ∈ l1 ↔ x ∈ l ∨ (x = r.f0 ∧ okC r.f0 = true)) := by
    refine ⟨_, rfl, ?_⟩
    cases hk : okC r.f0 with
    | true => simp only [if_true]; have := placeS_asc h.asc r.f0; exact ⟨this.1, fun x => by rw [this.2 x]; simp⟩
    | false => simp only [Bool.false_eq_true, if_false]; exact ⟨h.asc, fun x => by simp⟩
  obtain ⟨l1, e1, a1, m1⟩ := h1
  have h2 : Asc (cutStep l r) ∧ ∀ x, x ∈ cutStep l r ↔ x ∈ l1 ∨ (x = r.f1 + 1 ∧ 0 ≤ r.f1 ∧ r.f1 < 1114111) := by
    unfold cutStep
    simp only
    rw [← e1]
    split
    · rename_i hc
      have := placeS_asc a1 (r.f1 + 1)
      exact ⟨this.1, fun x => by rw [this.2 x]; constructor <;> (rintro (h | h)); exact .inl h; exact .inr ⟨h, hc⟩; exact .inl h; exact .inr h.1⟩
    · rename_i hc
      exact ⟨a1, fun x => ⟨fun h => .inl h, fun h => by rcases h with h | h; exact h; exact absurd h.2 hc⟩⟩
  refine ⟨h2.1, fun x hx => ?_, fun q hq q1 q2 => ?_, fun q hq q1 q2 => ?_⟩
  · rcases (h2.2 x).1 hx with h3 | h3
    · rcases (m1 x).1 h3 with h4 | h4
      · exact h.rng x h4
      · rw [h4.1]; exact okC_true.1 h4.2
    · omega
  · refine (h2.2 _).2 (.inl ((m1 _).2 ?_))
    rcases List.mem_append.1 hq with h3 | h3
    · exact .inl (h.lo q h3 q1 q2)
    · simp only [List.mem_singleton] at h3; rw [h3] at q1 q2 ⊢; exact .inr ⟨rfl, okC_true.2 ⟨q1, q2⟩⟩
  · refine (h2.2 _).2 ?_
    rcases List.mem_append.1 hq with h3 | h3
    · exact .inl ((m1 _).2 (.inl (h.hi q h3 q1 q2)))
    · simp only [List.mem_singleton] at h3; rw [h3] at q1 q2 ⊢; exact .inr ⟨rfl, q1, q2⟩
theorem cuts_fold_ok : ∀ (rs rs0 : List RR) (l : List Int), CutsOk rs0 l → CutsOk (rs0 ++ rs) (rs.foldl cutStep l)
  | [], rs0, l, h => by simpa using h
  | r :: rs, rs0, l, h => by
    have := cuts_fold_ok rs (rs0 ++ [r]) _ (cutStep_ok h r)
    simpa using this
theorem cutsS_ok {rs0 : List RR} {l : List Int} (h : CutsOk rs0 l) (rs : List RR) : CutsOk (rs0 ++ rs) (cutsS l rs) ∧ (0 : Int) ∈ cutsS l rs := by
  have h1 := cuts_fold_ok rs rs0 l h
  have h2 := placeS_asc h1.asc 0
  unfold cutsS
  refine ⟨⟨h2.1, fun x hx => ?_, fun r hr q1 q2 => (h2.2 _).2 (.inl (h1.lo r hr q1 q2)), fun r hr q1 q2 => (h2.2 _).2 (.inl (h1.hi r hr q1 q2))⟩, (h2.2 0).2 (.inr rfl)⟩
  rcases (h2.2 x).1 hx with h3 | h3
  · exact h1.rng x h3
  · rw [h3]; exact ⟨by decide, by decide⟩
theorem cuts_nil : CutsOk [] [] := ⟨.nil, by simp, by simp, by simp⟩

/-- Does a set hold a code point? -/
def hasS (rs : List RR) (c : Int) : Bool := rs.any fun r => okC c && decide (r.f0 ≤ c) && decide (c ≤ r.f1)
theorem hasS_iff (rs : List RR) (c : Int) : hasS rs c = true ↔ (0 ≤ c ∧ c ≤ 1114111) ∧ memR rs c := by
  unfold hasS memR
  rw [List.any_eq_true]
  constructor
  · rintro ⟨r, hr, h⟩
    simp only [Bool.and_eq_true, decide_eq_true_eq, okC_true] at h
    exact ⟨h.1.1, r, hr, h.1.2, h.2⟩
  · rintro ⟨h, r, hr, h1, h2⟩
    refine ⟨r, hr, ?_⟩
    simp only [Bool.and_eq_true, decide_eq_true_eq, okC_true]
    exact ⟨⟨h, h1⟩, h2⟩
/-- Between two cuts nothing changes. -/
theorem hasS_const {rs : List RR} {l : List Int} (h : CutsOk rs l) {c x : Int} (h0 : 0 ≤ c) (hx : c ≤ x) (hm : x ≤ 1114111) (hno : ∀ y ∈ l, ¬ (c < y ∧ y ≤ x)) : hasS rs x = hasS rs c := by
  rw [Bool.eq_iff_iff, hasS_iff, hasS_iff]
  constructor
  · rintro ⟨_, r, hr, h1, h2⟩
    refine ⟨⟨h0, by omega⟩, r, hr, ?_, by omega⟩
    apply Classical.byContradiction
    intro hc
    exact hno r.f0 (h.lo r hr (by omega) (by omega)) ⟨by omega, h1⟩
  · rintro ⟨_, r, hr, h1, h2⟩
    refine ⟨⟨by omega, hm⟩, r, hr, by omega, ?_⟩
    apply Classical.byContradiction
    intro hc
    exact hno (r.f1 + 1) (h.hi r hr (by omega) (by omega)) ⟨by omega, by omega⟩

/-- One cut more of the set that is being made: the ranges, and whether the last one goes on. -/
def cbStep (inP : Int → Bool) (s : List RR × Bool) (c hi : Int) : List RR × Bool :=
  if inP c then (if s.2 then (match s.1.getLast? with | some z => (s.1.dropLast ++ [⟨z.f0, hi⟩], true) | none => ([⟨c, hi⟩], true)) else (s.1 ++ [⟨c, hi⟩], true)) else (s.1, false)
/-- .. all cuts from one on. -/
def cbFold (inP : Int → Bool) : List RR × Bool → List Int → List RR × Bool
  | s, [] => s
  | s, [c] => cbStep inP s c 1114111
  | s, c :: d :: l => cbFold inP (cbStep inP s c (d - 1)) (d :: l)
/-- The ranges so far, ahead of a cut. -/
structure CbOk (inP : Int → Bool) (s : List RR × Bool) (c : Int) : Prop where
  canon : canonR s.1 = true
  low : ∀ r ∈ s.1, r.f1 < c
  opn : s.2 = true → ∃ o z, s.1 = o ++ [z] ∧ z.f1 + 1 = c
  shut : s.2 = false → ∀ r ∈ s.1, r.f1 + 1 < c
  mem : ∀ x, memR s.1 x ↔ 0 ≤ x ∧ x < c ∧ inP x = true
theorem canon_snoc {l : List RR} {x : RR} (h : canonR l = true) (hx : 0 ≤ x.f0 ∧ x.f0 ≤ x.f1 ∧ x.f1 ≤ 1114111) (hl : ∀ r ∈ l, r.f1 + 1 < x.f0) : canonR (l ++ [x]) = true := by
  simp only [canonR, Bool.and_eq_true, Bool.not_eq_true'] at h ⊢
  refine ⟨by rw [List.any_append, h.1]; simp [badR]; omega, ?_⟩
  rcases List.eq_nil_or_concat l with rfl | ⟨l0, z, rfl⟩
  · simp [pairAny]
  · rw [List.concat_eq_append] at *
    rw [pairAny_snoc, h.2, Bool.false_or]
    have := hl z (by simp)
    simp [nearR]; omega
theorem cbStep_ok {inP : Int → Bool} {s : List RR × Bool} {c hi : Int} (h : CbOk inP s c) (h0 : 0 ≤ c) (h1 : c ≤ hi) (h2 : hi ≤ 1114111) (hc : ∀ x, c ≤ x → x ≤ hi → inP x = inP c) : CbOk inP (cbStep inP s c hi) (hi + 1) := by
  obtain ⟨o, b⟩ := s
  obtain ⟨k1, k2, k3, k4, k5⟩ := h
  simp only at k1 k2 k3 k4 k5
  unfold cbStep
  cases hin : inP c with
  | false =>
    simp only [Bool.false_eq_true, if_false]
    refine ⟨k1, fun r hr => by have := k2 r hr; omega, by simp, fun _ r hr => by have := k2 r hr; omega, fun x => ?_⟩
    rw [k5 x]
    constructor
    · rintro ⟨a, b, d⟩; exact ⟨a, by omega, d⟩
    · rintro ⟨a, b, d⟩
      refine ⟨a, ?_, d⟩
      apply Classical.byContradiction
      intro hn
      rw [hc x (by omega) (by omega), hin] at d
      cases d
  | true =>
    simp only [if_true]
    cases b with
    | true =>
      obtain ⟨o', z, rfl, hz⟩ := k3 rfl
      simp only [if_true, List.getLast?_append, List.getLast?_singleton, Option.some_or, List.dropLast_concat]
      have kz := canon_range k1 z (by simp)
      have kc : canonR o' = true ∧ ∀ r ∈ o', r.f1 + 1 < z.f0 := by
        have hs := (canon_step k1).2
        refine ⟨hs, fun r hr => ?_⟩
        clear k5 k4 k3 k2 hc hin
        induction o' with
        | nil => cases hr
        | cons y o' ih =>
          have h9 := canon_cons (x := y) (l := o' ++ [z]) (by simpa using k1)
          rcases List.mem_cons.1 hr with e | e
          · rw [e]; exact h9.2.2 z (by simp)
          · exact ih h9.2.1 (canon_cons hs).2.1 e
      refine ⟨canon_snoc kc.1 ⟨by simp; omega, by simp; omega, by simpa using h2⟩ (by simpa using kc.2), fun r hr => ?_, fun _ => ⟨o', _, rfl, rfl⟩, by simp, fun x => ?_⟩
      · rcases List.mem_append.1 hr with e | e
        · have := k2 r (by simp [e]); omega
        · simp only [List.mem_singleton] at e; rw [e]; simp; omega
      · have e5 := k5 x
        constructor
        · rintro ⟨r, hr, g1, g2⟩
          rcases List.mem_append.1 hr with e | e
          · have := e5.1 ⟨r, by simp [e], g1, g2⟩
            exact ⟨this.1, by omega, this.2.2⟩
          · simp only [List.mem_singleton] at e
            rw [e] at g1 g2
            simp only at g1 g2
            refine ⟨by omega, by omega, ?_⟩
            by_cases hxc : x < c
            · exact (e5.1 ⟨z, by simp, g1, by omega⟩).2.2
            · rw [hc x (by omega) g2]; exact hin
        · rintro ⟨g1, g2, g3⟩
          by_cases hxc : x < c
          · obtain ⟨r, hr, q1, q2⟩ := e5.2 ⟨g1, hxc, g3⟩
            rcases List.mem_append.1 hr with e | e
            · exact ⟨r, by simp [e], q1, q2⟩
            · simp only [List.mem_singleton] at e
              rw [e] at q1 q2
              exact ⟨⟨z.f0, hi⟩, by simp, q1, by simp; omega⟩
          · exact ⟨⟨z.f0, hi⟩, by simp, by simp; omega, by simp; omega⟩
    | false =>
      have k4' := k4 rfl
      simp only [Bool.false_eq_true, if_false]
      refine ⟨canon_snoc k1 ⟨by simpa using h0, by simpa using h1, by simpa using h2⟩ (by simpa using k4'), fun r hr => ?_, fun _ => ⟨o, _, rfl, rfl⟩, by simp, fun x => ?_⟩
      · rcases List.mem_append.1 hr with e | e
        · have := k2 r e; omega
        · simp only [List.mem_singleton] at e; rw [e]; simp; omega
      · have e5 := k5 x
        constructor
        · rintro ⟨r, hr, g1, g2⟩
          rcases List.mem_append.1 hr with e | e
          · have := e5.1 ⟨r, e, g1, g2⟩
            exact ⟨this.1, by omega, this.2.2⟩
          · simp only [List.mem_singleton] at e
            rw [e] at g1 g2
            simp only at g1 g2
            exact ⟨by omega, by omega, by rw [hc x g1 g2]; exact hin⟩
        · rintro ⟨g1, g2, g3⟩
          by_cases hxc : x < c
          · obtain ⟨r, hr, q1, q2⟩ := e5.2 ⟨g1, hxc, g3⟩
            exact ⟨r, by simp [hr], q1, q2⟩
          · exact ⟨⟨c, hi⟩, by simp, by simp; omega, by simp; omega⟩
theorem cbFold_ok {inP : Int → Bool} : ∀ (l : List Int) (s : List RR × Bool) (c : Int), CbOk inP s c → Asc (c :: l) → (∀ x ∈ c :: l, 0 ≤ x ∧ x ≤ 1114111) → (∀ a x, a ∈ c :: l → a ≤ x → x ≤ 1114111 → (∀ y ∈ c :: l, ¬ (a < y ∧ y ≤ x)) → inP x = inP a) →
    CbOk inP (cbFold inP s (c :: l)) 1114112
  | [], s, c, h, ha, hr, hc => by
    have h0 := hr c (by simp)
    exact cbStep_ok h h0.1 h0.2 (Int.le_refl _) (fun x h1 h2 => hc c x (by simp) h1 h2 (fun y hy => by simp only [List.mem_singleton] at hy; omega))
  | d :: l, s, c, h, ha, hr, hc => by
    have h0 := hr c (by simp)
    have h1 := hr d (by simp)
    have hcd := (List.pairwise_cons.1 ha).1 d (by simp)
    have hd := (List.pairwise_cons.1 ha).2
    have hlow := (List.pairwise_cons.1 hd).1
    have hs := cbStep_ok (hi := d - 1) h h0.1 (by omega) (by omega) (fun x q1 q2 => hc c x (by simp) q1 (by omega) (fun y hy => by
      rcases List.mem_cons.1 hy with e | e
      · omega
      · rcases List.mem_cons.1 e with e | e
        · omega
        · have := hlow y e; omega))
    rw [show d - 1 + 1 = d by omega] at hs
    exact cbFold_ok l _ d hs hd (fun x hx => hr x (by simp [List.mem_cons.1 hx])) (fun a x ha2 q1 q2 q3 => hc a x (by simp [List.mem_cons.1 ha2]) q1 q2 (fun y hy => by
      rcases List.mem_cons.1 hy with e | e
      · have : d ≤ a := by
          rcases List.mem_cons.1 ha2 with e2 | e2
          · omega
          · have := hlow a e2; omega
        omega
      · exact q3 y e))
/-- The set that the reference makes of ranges. -/
def mkS (rs : List RR) : List RR := (cbFold (hasS rs) ([], false) (cutsS (cutsS [] rs) [])).1
theorem mkS_ok (rs : List RR) : canonR (mkS rs) = true ∧ ∀ x, memR (mkS rs) x ↔ (0 ≤ x ∧ x ≤ 1114111) ∧ memR rs x := by
  have h1 := (cutsS_ok cuts_nil rs).1
  rw [List.nil_append] at h1
  obtain ⟨h2, h3⟩ := cutsS_ok h1 []
  rw [List.append_nil] at h2
  have key : ∀ l : List Int, CutsOk rs l → (0 : Int) ∈ l → CbOk (hasS rs) (cbFold (hasS rs) ([], false) l) 1114112 := by
    intro l hl h0
    cases l with
    | nil => cases h0
    | cons c l =>
      have hc0 : c = 0 := by
        rcases List.mem_cons.1 h0 with e | e
        · exact e.symm
        · have := (List.pairwise_cons.1 hl.asc).1 0 e
          have := (hl.rng c (by simp)).1
          omega
      subst hc0
      exact cbFold_ok l ([], false) 0 ⟨by simp [canonR, pairAny], by simp, by simp, by simp, fun x => ⟨fun ⟨r, hr, _⟩ => (by cases hr), fun h => by omega⟩⟩ hl.asc hl.rng (fun a x ha q1 q2 q3 => hasS_const hl (hl.rng a ha).1 q1 q2 q3)
  have hk := key _ h2 h3
  refine ⟨hk.canon, fun x => ?_⟩
  have := hk.mem x
  unfold mkS
  rw [this, hasS_iff]
  constructor
  · rintro ⟨_, _, h⟩; exact h
  · rintro h; exact ⟨h.1.1, by omega, h⟩
/-- A set is valid exactly if the reference makes it of itself. -/
theorem mkS_valid (rs : List RR) : decide (rs = mkS rs) = canonR rs := by
  obtain ⟨h1, h2⟩ := mkS_ok rs
  cases hc : canonR rs with
  | true =>
    refine decide_eq_true (canon_unique rs (mkS rs) hc h1 fun x => ?_)
    rw [h2 x]
    constructor
    · intro h
      refine ⟨?_, h⟩
      obtain ⟨r, hr, g1, g2⟩ := h
      have := canon_range hc r hr
      omega
    · exact fun h => h.2
  | false =>
    refine decide_eq_false fun e => ?_
    rw [e, h1] at hc
    cases hc
end Go.Proofs.YtipedgkampafjaaGreatDoor.Rf
/- Tells what the reference's Has, keeps and Same (of sets) compute. -/
namespace Go.Proofs.YtipedgkampafjaaGreatDoor.Rf
open Go.Shelf Go.RowKit Go.Proofs.YtipedgkampafjaaGreatDoorW.PrintWords Go.Proofs.YtipedgkampafjaaGreatDoorW.PrintLast Go.Proofs.YtipedgkampafjaaGreatDoorW.PrintMore

set_option maxRecDepth 100000 in
set_option maxHeartbeats 16000000 in
theorem refHas_any (Ax : Option Addr) (cx : Nat) (rs : List RR) (x : Int) (w : World) (hx : Kd.C k52 w Ax rs.length rs) (hl : rs.length ≤ 1000000000) :
    Calls Tryz.prog 17 #[.agg #[.slice Ax rs.length cx], .int .i64 x] w fun e w' => e = .returned (.bool (hasS rs x)) ∧ Below w.heap.size w w' := by
  have HX := Aside0.mk hx
  have HB0 : Aside0 (Below w.heap.size w (w.alloc (.cells #[.slice Ax rs.length cx] 26))) := ⟨below_alloc (Below.refl _ _) _⟩
  have hc0 : (w.alloc (.cells #[.slice Ax rs.length cx] 26)).cell? ⟨w.heap.size, 0, none⟩ = some (.slice Ax rs.length cx) := by simp
  obtain ⟨p, hp⟩ : ∃ p : RR → Bool, p = fun r => okC x && decide (r.f0 ≤ x) && decide (x ≤ r.f1) := ⟨_, rfl⟩
  have HH : Aside0 (hasS rs x = rs.any p) := ⟨by rw [hp]; rfl⟩
  have HP := Aside0.mk (fun r => congrFun hp r)
  clear hx hp
  generalize hasS rs x = res at HH
  go_enter Tryz.func17, Tryz.ntmps17
  go_wp2_with fail
  obtain ⟨w1, hw1⟩ : ∃ x, x = w.alloc (.cells #[.slice Ax rs.length cx] 26) := ⟨_, rfl⟩
  rw [← hw1] at HB0 hc0 ⊢
  clear hw1
  go_loop [5] (fun t => ∃ i : Nat, t = .int .i64 i ∧ i ≤ rs.length ∧ Aside0 ((rs.take i).any p = false)) (fun t => rs.length - (intOf t).toNat)
  case atStart => exact ⟨0, rfl, Nat.zero_le _, ⟨rfl⟩⟩
  case round =>
    obtain ⟨i, rfl, hi, HA⟩ := hrel
    by_cases hlt : i < rs.length
    · have hltz : (i : Int) < (rs.length : Int) := by omega
      obtain ⟨ad, e, hx0, hx1⟩ := at_T52 (Kd.C_below HX.out HB0.out) i (by omega) (by omega)
      subst e
      simp only [Int.toNat_natCast] at hx0 hx1
      have HY : Aside0 (rd_T52 rs i = rs.getD i z52) := ⟨by simp [rd_T52]⟩
      have HYes : Aside0 (p (rd_T52 rs i) = true → res = true) := ⟨fun h => by
        rw [HH.out]; exact any_of_take p rs z52 i hlt (by rw [← HY.out]; exact h)⟩
      have HNo : Aside0 (p (rd_T52 rs i) = false → (rs.take (i + 1)).any p = false) := ⟨fun h =>
        any_take_succ p rs z52 i hlt HA.out (by rw [← HY.out]; exact h)⟩
      rw [HP.out] at HYes HNo
      generalize rd_T52 rs i = r at hx0 hx1 HY HYes HNo
      cases g0 : okC x with
      | false =>
        have HN := Aside0.mk (HNo.out (by rw [g0]; rfl))
        go_wp2_with (go_at_call 46; refine (refValid_any _ _).mono ?_; rintro e w' ⟨rfl, rfl⟩)
        go_round
        case rel => exact ⟨i + 1, by first | rfl | go_num, by omega, HN⟩
        case measure => simp [intOf]; omega
      | true =>
        cases g1 : decide (r.f0 ≤ x) with
        | false =>
          have HN := Aside0.mk (HNo.out (by rw [g0, g1]; rfl))
          go_wp2_with (go_at_call 46; refine (refValid_any _ _).mono ?_; rintro e w' ⟨rfl, rfl⟩)
          go_round
          case rel => exact ⟨i + 1, by first | rfl | go_num, by omega, HN⟩
          case measure => simp [intOf]; omega
        | true =>
          cases g2 : decide (x ≤ r.f1) with
          | false =>
            have HN := Aside0.mk (HNo.out (by rw [g0, g1, g2]; rfl))
            go_wp2_with (go_at_call 46; refine (refValid_any _ _).mono ?_; rintro e w' ⟨rfl, rfl⟩)
            go_round
            case rel => exact ⟨i + 1, by first | rfl | go_num, by omega, HN⟩
            case measure => simp [intOf]; omega
          | true =>
            have HN := Aside0.mk (HYes.out (by rw [g0, g1, g2]; rfl))
            go_wp2_with (go_at_call 46; refine (refValid_any _ _).mono ?_; rintro e w' ⟨rfl, rfl⟩)
            go_ret
            exact ⟨ret_bool HN.out.symm, HB0.out⟩
    · have hltz : ¬ (i : Int) < (rs.length : Int) := by omega
      have HF : Aside0 (res = false) := ⟨by rw [HH.out]; have := HA.out; rwa [List.take_of_length_le (by omega)] at this⟩
      go_wp2_with fail
      go_ret
      exact ⟨ret_bool HF.out.symm, HB0.out⟩

set_option maxRecDepth 100000 in
theorem refKeeps_any (a b : Bool) (w : World) : Calls Tryz.prog 78 #[.int .i64 1, .bool a, .bool b] w fun e w' => e = .returned (.bool (a || b)) ∧ w' = w := by
  cases a <;> cases b
  all_goals
    go_enter Tryz.func78, Tryz.ntmps78
    go_wp2_with fail
    go_ret
    exact ⟨rfl, rfl⟩

set_option maxRecDepth 100000 in
set_option maxHeartbeats 16000000 in
theorem refSame_any (A B : Option Addr) (ca cb : Nat) (a b : List RR) (w : World) (ha : Kd.C k52 w A a.length a) (hb : Kd.C k52 w B b.length b) (hl : a.length ≤ 1000000000) (hl2 : b.length ≤ 1000000000) :
    Calls Tryz.prog 15 #[.agg #[.slice A a.length ca], .agg #[.slice B b.length cb]] w fun e w' => e = .returned (.bool (decide (a = b))) ∧ Below w.heap.size w w' := by
  have HB0 : Aside0 (Below w.heap.size w ((w.alloc (.cells #[.slice A a.length ca] 26)).alloc (.cells #[.slice B b.length cb] 26))) := ⟨below_alloc (below_alloc (Below.refl _ _) _) _⟩
  have hc0 : ((w.alloc (.cells #[.slice A a.length ca] 26)).alloc (.cells #[.slice B b.length cb] 26)).cell? ⟨w.heap.size, 0, none⟩ = some (.slice A a.length ca) := by simp
  have hc1 : ((w.alloc (.cells #[.slice A a.length ca] 26)).alloc (.cells #[.slice B b.length cb] 26)).cell? ⟨w.heap.size + 1, 0, none⟩ = some (.slice B b.length cb) := by simp
  have HA := Aside0.mk (Kd.C_below ha HB0.out)
  have HBb := Aside0.mk (Kd.C_below hb HB0.out)
  clear ha hb
  have hbl : w.heap.size < ((w.alloc (.cells #[.slice A a.length ca] 26)).alloc (.cells #[.slice B b.length cb] 26)).heap.size ∧ w.heap.size + 1 < ((w.alloc (.cells #[.slice A a.length ca] 26)).alloc (.cells #[.slice B b.length cb] 26)).heap.size := ⟨cell_lt hc0, cell_lt hc1⟩
  have HC0 := Aside0.mk hc0
  have HC1 := Aside0.mk hc1
  have HBL := Aside0.mk hbl
  clear hbl
  by_cases hlen : a.length = b.length
  · have hne : ((a.length : Int) != (b.length : Int)) = false := by simp; omega
    have HLe := Aside0.mk hlen
    clear hlen
    go_enter Tryz.func15, Tryz.ntmps15
    go_wp2_with fail
    clear hc0 hc1
    obtain ⟨w1, hw1⟩ : ∃ x, x = (w.alloc (.cells #[.slice A a.length ca] 26)).alloc (.cells #[.slice B b.length cb] 26) := ⟨_, rfl⟩
    rw [← hw1] at HB0 HA HBb HC0 HC1 HBL ⊢
    clear hw1
    go_loopw [5] (fun v wr => ∃ j : Nat, v = .int .i64 (j : Int) ∧ j ≤ a.length ∧ Aside0 (a.take j = b.take j) ∧ Aside0 (Below w1.heap.size w1 wr)) (fun v _ => a.length - (intOf v).toNat)
    case atStart => exact ⟨0, rfl, by omega, ⟨rfl⟩, ⟨Below.refl _ _⟩⟩
    case round =>
      obtain ⟨j, rfl, hj, HE, HB⟩ := hrel
      have k0 : wr.cell? ⟨w.heap.size, 0, none⟩ = some (.slice A a.length ca) := by rw [HB.out.cell HBL.out.1]; exact HC0.out
      have k1 : wr.cell? ⟨w.heap.size + 1, 0, none⟩ = some (.slice B b.length cb) := by rw [HB.out.cell HBL.out.2]; exact HC1.out
      by_cases hlt : j < a.length
      · have hjz : (j : Int) < (a.length : Int) := by omega
        have hjz2 : (j : Int) < (b.length : Int) := by have := HLe.out; omega
        obtain ⟨ad, e, hx0, hx1⟩ := at_T52 (Kd.C_below HA.out HB.out) (j : Int) (by omega) (by omega)
        obtain ⟨ad2, e2, hy0, hy1⟩ := at_T52 (Kd.C_below HBb.out HB.out) (j : Int) (by omega) (by omega)
        subst e
        subst e2
        simp only [Int.toNat_natCast] at hx0 hx1 hy0 hy1
        have hlt2 : j < b.length := by omega
        have HT : Aside0 (a.take (j + 1) = b.take (j + 1) ↔ rd_T52 a (j : Int) = rd_T52 b (j : Int)) := ⟨by
          rw [List.take_succ_eq_append_getElem hlt, List.take_succ_eq_append_getElem hlt2, HE.out, rd_T52, rd_T52, Int.toNat_natCast, List.getD_eq_getElem?_getD, List.getD_eq_getElem?_getD, List.getElem?_eq_getElem hlt, List.getElem?_eq_getElem hlt2]
          exact ⟨fun h => by simpa using List.append_cancel_left h, fun h => by simp only [Option.getD_some] at h; rw [h]⟩⟩
        have HNE : Aside0 (rd_T52 a (j : Int) ≠ rd_T52 b (j : Int) → a ≠ b) := ⟨fun h e => h (by rw [e])⟩
        generalize rd_T52 a (j : Int) = x at hx0 hx1 HT HNE
        generalize rd_T52 b (j : Int) = y at hy0 hy1 HT HNE
        have heq := fun w => eqRange x.f0 x.f1 y.f0 y.f1 w
        cases hq : (x.f0 == y.f0 && x.f1 == y.f1) with
        | true =>
          have HXY : Aside0 (x = y) := ⟨by
            obtain ⟨x0, x1⟩ := x
            obtain ⟨y0, y1⟩ := y
            simp at hq
            rw [hq.1, hq.2]⟩
          rw [hq] at heq
          go_wp2_with fail
          go_quiet (fail)
          go_wp2_with fail
          go_roundw
          case rel => exact ⟨j + 1, by first | rfl | go_num, by omega, ⟨HT.out.2 HXY.out⟩, ⟨pw_below_drewN HB.out _⟩⟩
          case measure => simp [intOf]; omega
        | false =>
          have HXY : Aside0 (a ≠ b) := ⟨HNE.out (by intro h; subst h; simp at hq)⟩
          rw [hq] at heq
          go_wp2_with fail
          go_quiet (fail)
          go_wp2_with fail
          go_ret
          exact ⟨ret_bool (by rw [decide_eq_false HXY.out]), below_step HB0.out (pw_below_drewN HB.out _)⟩
      · have hjz : ¬ (j : Int) < (a.length : Int) := by omega
        have HDE : Aside0 (a = b) := ⟨by
          have h := HE.out
          have h2 := HLe.out
          rwa [List.take_of_length_le (by omega), List.take_of_length_le (by omega)] at h⟩
        go_wp2_with fail
        go_ret
        exact ⟨ret_bool (by rw [decide_eq_true HDE.out]), below_step HB0.out HB.out⟩
  · have hne : ((a.length : Int) != (b.length : Int)) = true := by simp; omega
    have HN : Aside0 (a ≠ b) := ⟨fun e => hlen (by rw [e])⟩
    go_enter Tryz.func15, Tryz.ntmps15
    go_wp2_with fail
    go_ret
    exact ⟨ret_bool (by rw [decide_eq_false HN.out]), HB0.out⟩
end Go.Proofs.YtipedgkampafjaaGreatDoor.Rf
/- Tells what the reference's union with the empty set computes. -/
namespace Go.Proofs.YtipedgkampafjaaGreatDoor.Rf
open Go.Shelf Go.RowKit Go.Sort Go.Proofs.YtipedgkampafjaaGreatDoorW.PrintWords Go.Proofs.YtipedgkampafjaaGreatDoorW.PrintLast Go.Proofs.YtipedgkampafjaaGreatDoorW.PrintMore

theorem grownBy_of_below {w w' : World} (h : Below w.heap.size w w') : w.grownBy w' none := ⟨h.os, h.tape, h.output, h.size, fun i hi _ => h.block i hi⟩
theorem RowR.below {w w' : World} {base : Nat} {v : Value} {l : List RR} (h : RowR w base v l) (hb : Below w.heap.size w w') : RowR w' base v l :=
  World.ownsRow.kept h (grownBy_of_below hb) (by cases hv : v.ownBlock <;> simp)
theorem cutsS_len (l : List Int) (rs : List RR) : (cutsS l rs).length ≤ l.length + 2 * rs.length + 1 := by
  suffices ∀ (rs : List RR) (l : List Int), (rs.foldl cutStep l).length ≤ l.length + 2 * rs.length by
    have h1 := this rs l
    have h2 := placeS_len (rs.foldl cutStep l) 0
    unfold cutsS
    omega
  intro rs
  induction rs with
  | nil => intro l; simp
  | cons r rs ih => intro l; have h1 := ih (cutStep l r); have h2 := cutStep_len l r; simp only [List.foldl_cons, List.length_cons]; omega
theorem cbFold_cons (p : Int → Bool) (s : List RR × Bool) (c hi : Int) (l : List Int) (h : hi = match l with | [] => 1114111 | d :: _ => d - 1) : cbFold p s (c :: l) = cbFold p (cbStep p s c hi) l := by
  cases l with
  | nil => subst h; rfl
  | cons d l => subst h; rfl
theorem cbStep_len (p : Int → Bool) (s : List RR × Bool) (c hi : Int) : (cbStep p s c hi).1.length ≤ s.1.length + 1 := by
  unfold cbStep
  split
  · split
    · split
      · simp
      · simp
    · simp
  · simp

set_option maxRecDepth 100000 in
set_option maxHeartbeats 16000000 in
theorem refUnion_any (A : Option Addr) (ca : Nat) (rs : List RR) (w : World) (hr : Kd.C k52 w A rs.length rs) (hl : rs.length ≤ 1000) :
    Calls Tryz.prog 51 #[.agg #[.slice A rs.length ca], .agg #[.slice none 0 0], .int .i64 1] w fun e w' => (∃ v, e = .returned (.agg #[v]) ∧ (mkS rs).length ≤ 1000000 ∧ RowR w' w.heap.size v (mkS rs)) ∧ Below w.heap.size w w' := by
  have HB0 : Aside0 (Below w.heap.size w (((w.alloc (.cells #[.slice A rs.length ca] 26)).alloc (.cells #[.slice none 0 0] 26)).alloc (.cells #[.slice none 0 0] 26))) := ⟨below_alloc (below_alloc (below_alloc (Below.refl _ _) _) _) _⟩
  have HC : Aside0 ((((w.alloc (.cells #[.slice A rs.length ca] 26)).alloc (.cells #[.slice none 0 0] 26)).alloc (.cells #[.slice none 0 0] 26)).cell? ⟨w.heap.size, 0, none⟩ = some (.slice A rs.length ca) ∧
      (((w.alloc (.cells #[.slice A rs.length ca] 26)).alloc (.cells #[.slice none 0 0] 26)).alloc (.cells #[.slice none 0 0] 26)).cell? ⟨w.heap.size + 1, 0, none⟩ = some (.slice none 0 0) ∧
      (((w.alloc (.cells #[.slice A rs.length ca] 26)).alloc (.cells #[.slice none 0 0] 26)).alloc (.cells #[.slice none 0 0] 26)).heap[w.heap.size + 2]? = some (.cells #[.slice none 0 0] 26)) := ⟨by
    refine ⟨cell_keep (cell_keep (cell_new_sl _ _ _) _) _, cell_keep ?_ _, ?_⟩
    · have h := cell_new_sl (w.alloc (.cells #[.slice A rs.length ca] 26)) (.slice none 0 0) 26
      rw [show (w.alloc (.cells #[.slice A rs.length ca] 26)).heap.size = w.heap.size + 1 by simp] at h
      exact h
    · have h := heap_alloc_new ((w.alloc (.cells #[.slice A rs.length ca] 26)).alloc (.cells #[.slice none 0 0] 26)) (.cells #[.slice none 0 0] 26)
      rw [show ((w.alloc (.cells #[.slice A rs.length ca] 26)).alloc (.cells #[.slice none 0 0] 26)).heap.size = w.heap.size + 2 by simp] at h
      exact h⟩
  have HR := Aside0.mk hr
  have HL := Aside0.mk hl
  clear hr
  go_enter Tryz.func51, Tryz.ntmps51
  go_wp2_with fail
  obtain ⟨w1, hw1⟩ : ∃ x, x = (((w.alloc (.cells #[.slice A rs.length ca] 26)).alloc (.cells #[.slice none 0 0] 26)).alloc (.cells #[.slice none 0 0] 26)) := ⟨_, rfl⟩
  rw [← hw1] at HB0 HC ⊢
  clear hw1
  have k0 := HC.out.1
  have k1 := HC.out.2.1
  have HKeep : Aside0 (∀ W, Below w1.heap.size w1 W → W.cell? ⟨w.heap.size, 0, none⟩ = some (.slice A rs.length ca) ∧ W.cell? ⟨w.heap.size + 1, 0, none⟩ = some (.slice none 0 0)) := ⟨fun W hW => ⟨by rw [hW.cell (cell_lt HC.out.1)]; exact HC.out.1, by rw [hW.cell (cell_lt HC.out.2.1)]; exact HC.out.2.1⟩⟩
  have HT1 : Aside0 (∀ W, Below w1.heap.size w1 W → Calls Tryz.prog 77 #[.slice none 0 0, .agg #[.slice A rs.length ca]] W fun e w' => RetI w' e (cutsS [] rs) ∧ Below W.heap.size W w') := ⟨fun W hW =>
    refCuts_any none A 0 ca [] rs W (Kd.C_nil _ _) (Kd.C_below HR.out (below_step HB0.out hW)) (by simp) (by omega)⟩
  have HOk := Aside0.mk (cutsS_ok (cutsS_ok cuts_nil rs).1 []).1
  have hlen1 : (cutsS [] rs).length ≤ 2 * rs.length + 1 := by have := cutsS_len [] rs; simpa using this
  have hlen2 : (cutsS (cutsS [] rs) []).length ≤ (cutsS [] rs).length + 1 := by have := cutsS_len (cutsS [] rs) []; simpa using this
  have HMk : Aside0 (mkS rs = (cbFold (hasS rs) ([], false) (cutsS (cutsS [] rs) [])).1) := ⟨rfl⟩
  have HT2 : Aside0 (∀ W P c, Kd.C (Kd.int .i64) W P (cutsS [] rs).length (cutsS [] rs) → Calls Tryz.prog 77 #[.slice P (cutsS [] rs).length c, .agg #[.slice none 0 0]] W fun e w' => RetI w' e (cutsS (cutsS [] rs) []) ∧ Below W.heap.size W w') := ⟨fun W P c h =>
    refCuts_any P none c 0 (cutsS [] rs) [] W h (Kd.C_nil _ _) (by omega) (by simp)⟩
  generalize cutsS (cutsS [] rs) [] = l2 at HOk hlen2 HMk HT2
  generalize cutsS [] rs = l1 at hlen1 hlen2 HT1 HT2
  go_region_held3 (fun w' => w'.cell? ⟨w.heap.size, 0, none⟩ = some (.slice A rs.length ca) ∧ w'.cell? ⟨w.heap.size + 1, 0, none⟩ = some (.slice none 0 0))
    (first | go_keep | exact HKeep.out _ HW1.out | exact HKeep.out _ HW2.out)
    (first
      | (go_at_call 77; (with_reducible refine (HT1.out _ ?_).mono ?_); exact below_drew (Below.refl _ _); rintro e w3 ⟨⟨A1, c1, rfl, hl1, hC1⟩, hb3⟩; have HC1 := Aside0.mk hC1; have HW1 := Aside0.mk (below_step (below_drew (Below.refl w1.heap.size w1)) hb3); clear hl1 hC1 hb3)
      | (go_at_call 77; (with_reducible refine (HT2.out _ _ _ HC1.out).mono ?_); rintro e w4 ⟨⟨A2, c2, rfl, hl2, hC2⟩, hb4⟩; have HC2 := Aside0.mk hC2; have HW2 := Aside0.mk (below_step HW1.out hb4); clear hl2 hC2 hb4))
  go_wp2_with fail
  clear k0 k1 HT1 HT2 HKeep HC1
  have HN2 : Aside0 (l2.length ≤ 2002) := ⟨by omega⟩
  clear hlen1 hlen2 hl
  have HB4 := Aside0.mk (below_step HB0.out HW2.out)
  have HC4 : Aside0 (w4.cell? ⟨w.heap.size, 0, none⟩ = some (.slice A rs.length ca) ∧ w4.cell? ⟨w.heap.size + 1, 0, none⟩ = some (.slice none 0 0) ∧ w4.heap[w.heap.size + 2]? = some (.cells #[.slice none 0 0] 26)) := ⟨by rw [HW2.out.cell (cell_lt HC.out.1)]; exact HC.out.1, by rw [HW2.out.cell (cell_lt HC.out.2.1)]; exact HC.out.2.1, by rw [HW2.out.block _ (Array.getElem?_eq_some_iff.1 HC.out.2.2).1]; exact HC.out.2.2⟩
  have HLt : Aside0 (w.heap.size + 2 < w4.heap.size) := ⟨(Array.getElem?_eq_some_iff.1 HC4.out.2.2).1⟩
  clear HC HW1 HW2 HB0
  go_loopw [9, 10] (fun vo vi wr => ∃ (i : Nat) (o : Bool) (v : Value) (out : List RR), vo = .bool o ∧ vi = .int .i64 i ∧ i ≤ l2.length ∧ out.length ≤ i ∧ Aside0 (cbFold (hasS rs) (out, o) (l2.drop i) = cbFold (hasS rs) ([], false) l2) ∧ Aside0 (o = true → ∃ l0 z, out = l0 ++ [z]) ∧ Aside0 (wr.heap[w4.heap.size]? = some (.cells #[v] 26)) ∧ Aside0 (RowR wr (w4.heap.size + 1) v out) ∧ Aside0 (Below w4.heap.size w4 wr)) (fun _ vi _ => l2.length - (intOf vi).toNat)
  case atStart => exact ⟨0, false, _, [], rfl, rfl, Nat.zero_le _, Nat.le_refl _, ⟨rfl⟩, ⟨by simp⟩, ⟨heap_alloc_new _ _⟩, ⟨RowR.nil _ _⟩, ⟨below_alloc (Below.refl _ _) _⟩⟩
  case round =>
    obtain ⟨i, o, v, out, rfl, rfl, hi, hol, HF, HOp, HH, HRow, HB⟩ := hrel
    have HOl := Aside0.mk hol
    clear hol
    by_cases hlt : i < l2.length
    · have hltz : (i : Int) < (l2.length : Int) := by omega
      have HG : Aside0 (l2.drop i = l2.getD i 0 :: l2.drop (i + 1)) := ⟨by rw [List.drop_eq_getElem_cons hlt, List.getD_eq_getElem?_getD, List.getElem?_eq_getElem hlt]; rfl⟩
      obtain ⟨ad, e, hx⟩ := ReadsInt.at_ (ReadsInt.of_C (Kd.C_below HC2.out HB.out)) (i : Int) (by omega) (by omega)
      subst e
      rw [show Go.Proofs.YtipedgkampafjaaGreatDoorW.PrintWords.rd l2 (i : Int) = l2.getD i 0 by simp [Go.Proofs.YtipedgkampafjaaGreatDoorW.PrintWords.rd], Int.toNat_natCast] at hx
      have HRg : Aside0 (0 ≤ l2.getD i 0 ∧ l2.getD i 0 ≤ 1114111) := ⟨HOk.out.rng _ (getD_mem l2 _ _ hlt)⟩
      have HFc : Aside0 (∀ hv, (hv = match l2.drop (i + 1) with | [] => 1114111 | d :: _ => d - 1) → cbFold (hasS rs) (cbStep (hasS rs) (out, o) (l2.getD i 0) hv) (l2.drop (i + 1)) = cbFold (hasS rs) ([], false) l2) := ⟨fun hv h => by
        rw [← HF.out, HG.out, cbFold_cons (hasS rs) (out, o) (l2.getD i 0) hv _ h]⟩
      have kx := cell_regrown hx
      have HXa := Aside0.mk (fun x b (hb : hasS rs x = b) dq osq => show Calls Tryz.prog 17 #[.agg #[.slice A rs.length ca], .int .i64 x] (grow (redrawn wr dq) osq) fun e w' => e = .returned (.bool b) ∧ Below (grow (redrawn wr dq) osq).heap.size (grow (redrawn wr dq) osq) w' by
        have h := refHas_any A ca rs x (grow (redrawn wr dq) osq) (Kd.C_below HR.out (below_step HB4.out (below_step HB.out (below_regrown wr dq osq)))) (by have := HL.out; omega)
        rw [hb] at h
        exact h)
      have HXb := Aside0.mk (fun x dq osq => show Calls Tryz.prog 17 #[.agg #[.slice none 0 0], .int .i64 x] (grow (redrawn wr dq) osq) fun e w' => e = .returned (.bool false) ∧ Below (grow (redrawn wr dq) osq).heap.size (grow (redrawn wr dq) osq) w' by
        exact refHas_any none 0 [] x (grow (redrawn wr dq) osq) (Kd.C_nil _ _) (by simp))
      have HXk := Aside0.mk (fun a b dq osq => show Calls Tryz.prog 78 #[.int .i64 1, .bool a, .bool b] (grow (redrawn wr dq) osq) fun e w' => e = .returned (.bool (a || b)) ∧ Below (grow (redrawn wr dq) osq).heap.size (grow (redrawn wr dq) osq) w' by
        refine (refKeeps_any a b _).mono ?_
        rintro e w' ⟨h1, rfl⟩
        exact ⟨h1, Below.refl _ _⟩)
      have ka := cell_regrown (show wr.cell? ⟨w.heap.size, 0, none⟩ = some (.slice A rs.length ca) by rw [HB.out.cell (cell_lt HC4.out.1)]; exact HC4.out.1)
      have kb := cell_regrown (show wr.cell? ⟨w.heap.size + 1, 0, none⟩ = some (.slice none 0 0) by rw [HB.out.cell (cell_lt HC4.out.2.1)]; exact HC4.out.2.1)
      have HNx : Aside0 (∀ hh : i + 1 < l2.length, wr.cell? (ad.add (i + 1)) = some (.int .i64 (l2.getD (i + 1) 0)) ∧ (0 ≤ l2.getD (i + 1) 0 ∧ l2.getD (i + 1) 0 ≤ 1114111) ∧ l2.drop (i + 1) = l2.getD (i + 1) 0 :: l2.drop (i + 2)) := ⟨fun hh => by
        obtain ⟨ad', e', hx'⟩ := ReadsInt.at_ (ReadsInt.of_C (Kd.C_below HC2.out HB.out)) ((i + 1 : Nat) : Int) (by omega) (by omega)
        rw [show Go.Proofs.YtipedgkampafjaaGreatDoorW.PrintWords.rd l2 ((i + 1 : Nat) : Int) = l2.getD (i + 1) 0 by rw [Go.Proofs.YtipedgkampafjaaGreatDoorW.PrintWords.rd, Int.toNat_natCast], Int.toNat_natCast] at hx'
        cases e'
        exact ⟨hx', HOk.out.rng _ (getD_mem l2 _ _ hh), by rw [List.drop_eq_getElem_cons hh, List.getD_eq_getElem?_getD, List.getElem?_eq_getElem hh]; rfl⟩⟩
      have HNo : Aside0 (¬ i + 1 < l2.length → l2.drop (i + 1) = []) := ⟨fun hh => List.drop_eq_nil_of_le (by omega)⟩
      have p1 : IntKind.i64.wrap ((i : Int) + 1) = (i : Int) + 1 := IntWalk.i64_in _ (by have := HN2.out; omega)
      clear HF HG
      generalize l2.getD i 0 = c at hx kx HRg HFc
      by_cases hd : i + 1 < l2.length
      case' neg =>
        have hdz : ¬ (i : Int) + 1 < (l2.length : Int) := by omega
        have HV : Aside0 (∃ hv : Int, 1114111 = hv ∧ -1 ≤ hv ∧ hv ≤ 1114111 ∧ cbFold (hasS rs) (cbStep (hasS rs) (out, o) c hv) (l2.drop (i + 1)) = cbFold (hasS rs) ([], false) l2) := ⟨1114111, rfl, by omega, by omega, HFc.out _ (by rw [HNo.out hd])⟩
        clear HFc HNx HNo
        go_wp2_with fail
        obtain ⟨hv, ev, hv0, hv1, HFv⟩ := HV.out
        rw [ev]
        have HFv := Aside0.mk HFv
        have HVr := Aside0.mk (And.intro hv0 hv1)
        clear HV ev hv0 hv1
      case' pos =>
        have hdz : (i : Int) + 1 < (l2.length : Int) := by omega
        have q0 : (0 : Int) ≤ (i : Int) + 1 := by omega
        have q1 : ((i : Int) + 1).toNat = i + 1 := by omega
        obtain ⟨hx1, hr1, hd1⟩ := HNx.out hd
        have HV : Aside0 (∃ hv : Int, l2.getD (i + 1) 0 - 1 = hv ∧ -1 ≤ hv ∧ hv ≤ 1114111 ∧ cbFold (hasS rs) (cbStep (hasS rs) (out, o) c hv) (l2.drop (i + 1)) = cbFold (hasS rs) ([], false) l2) := ⟨_, rfl, by omega, by omega, HFc.out _ (by rw [hd1])⟩
        have q2 : IntKind.i64.wrap (l2.getD (i + 1) 0 - 1) = l2.getD (i + 1) 0 - 1 := IntWalk.i64_in _ (by omega)
        clear HFc HNx HNo hd1 hr1
        generalize l2.getD (i + 1) 0 = d at hx1 HV q2
        simp [Addr.add] at hx1
        go_wp2_with fail
        obtain ⟨hv, ev, hv0, hv1, HFv⟩ := HV.out
        rw [ev]
        have HFv := Aside0.mk HFv
        have HVr := Aside0.mk (And.intro hv0 hv1)
        clear HV ev hv0 hv1 hx1 q2 q0 q1
      all_goals
        cases hin : hasS rs c with
        | false =>
          have HIn := Aside0.mk hin
          have ha := HXa.out c false hin
          have hb := HXb.out c
          have hk := HXk.out false false
          refine wp_region_quiet_below (by kernel_rfl) (by kernel_rfl) ?_
          iterate 7 (quiet_step (exact Calls.regrown_of (ha _ _)))
          iterate 6 (quiet_step (exact Calls.regrown_of (hb _ _)))
          iterate 2 (quiet_step (exact Calls.regrown_of (hk _ _)))
          refine wpQuiet_nil ?_
          intro _ hw'
          obtain ⟨⟨dq, osq⟩, hw''⟩ := hw'
          subst hw''
          have HB2 : Aside0 (Below w4.heap.size w4 (grow (redrawn wr dq) osq)) := ⟨below_step HB.out (below_regrown wr dq osq)⟩
          have HR2 := Aside0.mk (RowR.below HRow.out (below_regrown wr dq osq))
          have HH2 : Aside0 ((grow (redrawn wr dq) osq).heap[w4.heap.size]? = some (.cells #[v] 26)) := ⟨by rw [(below_regrown wr dq osq).block _ (Array.getElem?_eq_some_iff.1 HH.out).1]; exact HH.out⟩
          have HF2 : Aside0 (cbFold (hasS rs) (out, false) (l2.drop (i + 1)) = cbFold (hasS rs) ([], false) l2) := ⟨by rw [← HFv.out]; simp [cbStep, HIn.out]⟩
          clear ha hb hk kx ka kb HRow HH HB HFv hin
          generalize grow (redrawn wr dq) osq = W2 at HB2 HR2 HH2 ⊢
          go_wp2_with fail
          go_roundw
          case rel => exact ⟨i + 1, false, v, out, rfl, by first | rfl | go_num, by omega, by have := HOl.out; omega, HF2, ⟨by simp⟩, HH2, HR2, HB2⟩
          case measure => simp [intOf]; omega
        | true =>
          have HIn := Aside0.mk hin
          have ha := HXa.out c true hin
          have hb := HXb.out c
          have hk := HXk.out true false
          refine wp_region_quiet_below (by kernel_rfl) (by kernel_rfl) ?_
          iterate 7 (quiet_step (exact Calls.regrown_of (ha _ _)))
          iterate 6 (quiet_step (exact Calls.regrown_of (hb _ _)))
          iterate 2 (quiet_step (exact Calls.regrown_of (hk _ _)))
          refine wpQuiet_nil ?_
          intro _ hw'
          obtain ⟨⟨dq, osq⟩, hw''⟩ := hw'
          subst hw''
          have HB2 : Aside0 (Below w4.heap.size w4 (grow (redrawn wr dq) osq)) := ⟨below_step HB.out (below_regrown wr dq osq)⟩
          have HR2 := Aside0.mk (RowR.below HRow.out (below_regrown wr dq osq))
          have HH2 : Aside0 ((grow (redrawn wr dq) osq).heap[w4.heap.size]? = some (.cells #[v] 26)) := ⟨by rw [(below_regrown wr dq osq).block _ (Array.getElem?_eq_some_iff.1 HH.out).1]; exact HH.out⟩
          have hx2 := kx dq osq
          clear ha hb hk kx ka kb HRow HH HB hin hx
          generalize grow (redrawn wr dq) osq = W2 at HB2 HR2 HH2 hx2 ⊢
          have hz4 : w4.heap.size < W2.heap.size := (Array.getElem?_eq_some_iff.1 HH2.out).1
          have hbx : W2.cell? ⟨w4.heap.size, 0, none⟩ = some v := by simp [World.cell?, HH2.out]
          have hbf : W2.frozen? ⟨w4.heap.size, 0, none⟩ = false := by simp [World.frozen?, HH2.out]
          cases o with
          | true =>
            obtain ⟨l0, z, e0⟩ := HOp.out (by first | rfl | trivial)
            subst e0
            obtain ⟨g, capC, hv6, hgb, hgl, hz0, hz1, hfz⟩ := rowR_last HR2.out
            subst hv6
            have HN0 : Aside0 (l0.length + 1 ≤ 2002) := ⟨by have := HOl.out; have := HN2.out; simp at *; omega⟩
            have HF2 : Aside0 (cbFold (hasS rs) (l0 ++ [⟨z.f0, hv⟩], true) (l2.drop (i + 1)) = cbFold (hasS rs) ([], false) l2) := ⟨by rw [← HFv.out]; simp [cbStep, HIn.out]⟩
            have HO2 : Aside0 ((l0 ++ [(⟨z.f0, hv⟩ : RR)]).length ≤ i + 1) := ⟨by have := HOl.out; simp at *; omega⟩
            clear HFv hbf hx2 hz0
            generalize hn : l0.length = n at hz1 hfz HR2 HH2 hbx HN0
            have hn := Aside0.mk hn
            have hwn : IntKind.i64.wrap (n : Int) = (n : Int) := IntWalk.i64_in _ (by have := HN0.out; omega)
            have qn : (n : Int) < (n : Int) + 1 := by omega
            clear hgl
            have hgb := Aside0.mk hgb
            go_wp2_with fail
            go_roundw
            case rel =>
              have hset := rowR_set HR2.out hv
              rw [hn.out] at hset
              refine ⟨i + 1, true, _, _, rfl, by first | rfl | go_num, by omega, HO2.out, HF2, ⟨fun _ => ⟨_, _, rfl⟩⟩, ⟨?_⟩, ⟨hset.1⟩, ⟨HB2.out.grown hset.2 HB2.out.size (fun k hk => by cases hk; have := hgb.out; omega)⟩⟩
              rw [hset.2.block _ hz4 (by have := hgb.out; intro e; injection e with e; omega)]
              exact HH2.out
            case measure => simp [intOf]; omega
          | false =>
            have HF2 : Aside0 (cbFold (hasS rs) (out ++ [⟨c, hv⟩], true) (l2.drop (i + 1)) = cbFold (hasS rs) ([], false) l2) := ⟨by rw [← HFv.out]; simp [cbStep, HIn.out]⟩
            have HO2 : Aside0 ((out ++ [(⟨c, hv⟩ : RR)]).length ≤ i + 1) := ⟨by have := HOl.out; simp at *; omega⟩
            have HLen : Aside0 ((out.length + 1) * 16 ≤ 140737488355328) := ⟨by have := HOl.out; have := HN2.out; omega⟩
            have HL6 : Aside0 ((out ++ [(⟨c, hv⟩ : RR)]).length ≤ 1000000) := ⟨by have := HO2.out; have := HN2.out; omega⟩
            have HSz : Aside0 (w4.heap.size + 1 ≤ W2.heap.size) := ⟨by omega⟩
            have HSt : Aside0 (∀ v1 w1, w1.ownsRow (w4.heap.size + 1) 52 2 v1 (out.length + 1) (flatR out ++ [.int .i64 c, .int .i64 hv]) → Below (w4.heap.size + 1) W2 w1 → ∃ C cap, v1 = .slice C (out.length + 1) cap ∧ w1.frozen? ⟨w4.heap.size, 0, none⟩ = false ∧ w1.cell? ⟨w4.heap.size, 0, none⟩ = some v ∧ RowR (w1.setCell ⟨w4.heap.size, 0, none⟩ (.slice C (out.length + 1) cap)) (w4.heap.size + 1) (.slice C (out.length + 1) cap) (out ++ [⟨c, hv⟩]) ∧ (w1.setCell ⟨w4.heap.size, 0, none⟩ (.slice C (out.length + 1) cap)).heap[w4.heap.size]? = some (.cells #[.slice C (out.length + 1) cap] 26) ∧ Below w4.heap.size w4 (w1.setCell ⟨w4.heap.size, 0, none⟩ (.slice C (out.length + 1) cap))) := ⟨by
              intro v1 w1 h1 h2
              have hrow : RowR w1 (w4.heap.size + 1) v1 (out ++ [⟨c, hv⟩]) := by
                have e1 : flatR (out ++ [(⟨c, hv⟩ : RR)]) = flatR out ++ [.int .i64 c, .int .i64 hv] := by simp [flatR, encR2]
                have e2 : (out ++ [(⟨c, hv⟩ : RR)]).length = out.length + 1 := by simp
                unfold RowR
                rw [e1, e2]
                exact h1
              obtain ⟨C, cap, rfl, hcap, hC⟩ := rowR_C hrow HL6.out
              have e2 : (out ++ [(⟨c, hv⟩ : RR)]).length = out.length + 1 := by simp
              rw [e2] at hrow
              have hh : w1.heap[w4.heap.size]? = some (.cells #[v] 26) := by rw [h2.block _ (by omega)]; exact HH2.out
              have hg9 : w1.grownBy (w1.setCell ⟨w4.heap.size, 0, none⟩ (.slice C (out.length + 1) cap)) (some w4.heap.size) := ⟨rfl, rfl, rfl, by simp [World.setCell], fun i hi hne => Below.heap_setCell _ _ _ _ (fun e => hne (by rw [e]))⟩
              have hb9 : Below w4.heap.size w4 w1 := HB2.out.trans ⟨h2.os, h2.tape, h2.output, h2.size, fun k hk => h2.block k (by omega)⟩
              refine ⟨C, cap, by rw [e2], by simp [World.frozen?, hh], by simp [World.cell?, hh], ?_, ?_, ?_⟩
              · refine World.ownsRow.kept hrow hg9 ?_
                cases hB : (Value.slice C (out.length + 1) cap).ownBlock with
                | none => exact Or.inl rfl
                | some k =>
                  refine Or.inr fun e => ?_
                  have h1 := hrow.ge k hB
                  cases e
                  omega
              · rw [Sort.setCell_eq]
                simp [Sort.mapBlock, Array.getElem?_modify, hh, Sort.onCells]
              · exact hb9.grown hg9 hb9.size (fun k hk => by cases hk; exact Nat.le_refl _)⟩
            clear HFv hz4
            have hba : (W2.alloc (.cells #[.int .i64 c, .int .i64 hv] 52)).cell? ⟨w4.heap.size, 0, none⟩ = some v := cell_keep hbx _
            go_wp2_with fail
            go_region_law (refine step_append_cells (w0 := W2) (W := W2.drew) (w4.heap.size + 1) rfl (.tmp 67) (.tmp 74) 24 52 (.agg #[.int .i64 0, .int .i64 0]) 2 16 rfl Tryz.underlying24 infoR rfl (by decide) (by decide) v out.length (flatR out) [.int .i64 c, .int .i64 hv] rfl rfl rfl (by intro u hu; simp at hu; rcases hu with rfl | rfl <;> rfl) HR2.out (below_drew (Below.refl _ _)) HSz.out HLen.out ?_; intro v1 w3 h1 h2 h3 h4; obtain ⟨C, cap, ev, hf3, hc3, hr3, hh3, hb3⟩ := HSt.out v1 w3 h1 h2; subst ev; have hr3 := Aside0.mk hr3; have hh3 := Aside0.mk hh3; have hb3 := Aside0.mk hb3; clear h1 h2 h3 h4 hbx hbf hba)
            all_goals
              go_wp2_with fail
              go_roundw
              case rel => exact ⟨i + 1, true, _, _, rfl, by first | rfl | go_num, by omega, HO2.out, HF2, ⟨fun _ => ⟨_, _, rfl⟩⟩, hh3, hr3, hb3⟩
              case measure => simp [intOf]; omega
    · have hltz : ¬ (i : Int) < (l2.length : Int) := by omega
      have HF2 : Aside0 (out = mkS rs) := ⟨by
        have h := HF.out
        rw [List.drop_eq_nil_of_le (by omega)] at h
        rw [HMk.out, ← h]; rfl⟩
      have HL6 : Aside0 (out.length ≤ 1000000) := ⟨by have := HOl.out; have := HN2.out; omega⟩
      have h3 : wr.heap[w.heap.size + 2]? = some (.cells #[.slice none 0 0] 26) := by rw [HB.out.block _ HLt.out]; exact HC4.out.2.2
      have hbx : wr.cell? ⟨w4.heap.size, 0, none⟩ = some v := by simp [World.cell?, HH.out]
      have hcw : wr.cell? ⟨w.heap.size + 2, 0, none⟩ = some (.slice none 0 0) := by simp [World.cell?, h3]
      have hfw : wr.frozen? ⟨w.heap.size + 2, 0, none⟩ = false := by simp [World.frozen?, h3]
      obtain ⟨C, capC, hv6, hcapC, hCC⟩ := rowR_C HRow.out HL6.out
      subst hv6
      have HHeap := Aside0.mk h3
      have HBw := Aside0.mk (below_step HB4.out HB.out)
      clear h3 hCC
      go_wp2_with fail
      (try simp only [Exit.inBlock, Exit.then])
      have hg9 : wr.grownBy (wr.setCell ⟨w.heap.size + 2, 0, none⟩ (.slice C out.length capC)) (some (w.heap.size + 2)) := ⟨rfl, rfl, rfl, by simp [World.setCell], fun i hi hne => Below.heap_setCell _ _ _ _ (fun e => hne (by rw [e]))⟩
      refine bodyPost_ret (results_cell_row rfl _ _ (w.heap.size + 2) 26 #[.slice C out.length capC] (0, 0) _ rfl (by
        rw [Sort.setCell_eq]
        simp [Sort.mapBlock, Array.getElem?_modify, HHeap.out, Sort.onCells]) Tryz.underlying26 rfl (by kernel_rfl)) rfl ?_
      have hro : RowR (wr.setCell ⟨w.heap.size + 2, 0, none⟩ (.slice C out.length capC)) (w4.heap.size + 1) (.slice C out.length capC) out := World.ownsRow.kept HRow.out hg9 (by
        cases hC : (Value.slice C out.length capC).ownBlock with
        | none => exact Or.inl rfl
        | some k =>
          refine Or.inr fun e => ?_
          have h1 := HRow.out.ge k hC
          have h2 := HLt.out
          cases e
          omega)
      have hfin := HF2.out
      rw [← hfin]
      exact ⟨⟨_, rfl, HL6.out, own_weaken hro (by have := HLt.out; omega)⟩, HBw.out.grown hg9 HBw.out.size (fun k hk => by cases hk; omega)⟩
end Go.Proofs.YtipedgkampafjaaGreatDoor.Rf
