import Derived.Test.YtipedgkampafjaaGreatDoorGC4
import Derived.Test.YtipedgkampafjaaGreatDoorRf0
import Derived.Deep.Slices
import Derived.Deep.Fields
import Derived.ChangeSame
import Derived.Test.YtipedgkampafjaaGreatDoorGC1
import Derived.Test.YtipedgkampafjaaGreatDoorTie
import Derived.ProofKit
import Derived.LaidMore
import Derived.OpenShut
import Derived.Stop.Joined
import Derived.Test.YtipedgkampafjaaGreatDoorCards
import Derived.SevenTiedAt
import Derived.Carry
/- Tells that the example is alive. -/
namespace Go.Proofs.YtipedgkampafjaaGreatDoor.Rf
open Go.Shelf Go.RowKit Go.Proofs.YtipedgkampafjaaGreatDoorW.PrintWords Go.Proofs.YtipedgkampafjaaGreatDoorW.PrintLast Go.Proofs.YtipedgkampafjaaGreatDoorW.PrintMore

theorem C_two {w : World} {b : Nat} {x y : Int} (h0 : w.cell? ⟨b, 0, none⟩ = some (.int .i64 x)) (h1 : w.cell? ⟨b, 1, none⟩ = some (.int .i64 y)) : (Kd.int .i64).C w (some ⟨b, 0, none⟩) 2 [x, y] :=
  C_row (l := [x, y]) (by simp) fun j hj => by
    simp only [List.length_cons, List.length_nil] at hj
    obtain rfl | rfl : j = 0 ∨ j = 1 := by omega
    · simpa [Addr.add] using h0
    · simpa [Addr.add] using h1
theorem C_three {w : World} {b : Nat} {x y z : Int} (h0 : w.cell? ⟨b, 0, none⟩ = some (.int .i64 x)) (h1 : w.cell? ⟨b, 1, none⟩ = some (.int .i64 y)) (h2 : w.cell? ⟨b, 2, none⟩ = some (.int .i64 z)) : (Kd.int .i64).C w (some ⟨b, 0, none⟩) 3 [x, y, z] :=
  C_row (l := [x, y, z]) (by simp) fun j hj => by
    simp only [List.length_cons, List.length_nil] at hj
    obtain rfl | rfl | rfl : j = 0 ∨ j = 1 ∨ j = 2 := by omega
    · simpa [Addr.add] using h0
    · simpa [Addr.add] using h1
    · simpa [Addr.add] using h2
/-- The world in which the example's data lies. -/
def aliveW (w : World) : World :=
  (((w.alloc (.cells #[.int .i64 97, .int .i64 770] 3)).alloc (.cells #[.int .i64 226, .int .i64 769] 3)).alloc
    (.cells #[.int .i64 226, .slice (some ⟨w.heap.size, 0, none⟩) 2 2, .string ⟨#[]⟩, .int .i64 7845, .slice (some ⟨w.heap.size + 1, 0, none⟩) 2 2, .string ⟨#[]⟩] 61)).alloc
    (.cells #[.slice none 0 0, .slice (some ⟨w.heap.size + 1 + 1, 0, none⟩) 2 2, .slice none 0 0] 28)
theorem aliveW_below (w : World) : Below w.heap.size w (aliveW w) := by
  unfold aliveW; exact below_alloc (below_alloc (below_alloc (below_alloc (Below.refl _ _) _) _) _) _
theorem aliveW_0 (w : World) (i : Nat) (v : Value) (h : (#[.int .i64 97, .int .i64 770] : Array Value)[i]? = some v) : (aliveW w).cell? ⟨w.heap.size, i, none⟩ = some v := by
  unfold aliveW
  refine cell_keep (cell_keep (cell_keep ?_ _) _) _
  rw [World.cell?_alloc_new]; exact h
theorem aliveW_1 (w : World) (i : Nat) (v : Value) (h : (#[.int .i64 226, .int .i64 769] : Array Value)[i]? = some v) : (aliveW w).cell? ⟨w.heap.size + 1, i, none⟩ = some v := by
  unfold aliveW
  refine cell_keep (cell_keep ?_ _) _
  rw [cell_new2]; exact h
theorem aliveW_2 (w : World) (i : Nat) (v : Value) (h : (#[.int .i64 226, .slice (some ⟨w.heap.size, 0, none⟩) 2 2, .string ⟨#[]⟩, .int .i64 7845, .slice (some ⟨w.heap.size + 1, 0, none⟩) 2 2, .string ⟨#[]⟩] : Array Value)[i]? = some v) : (aliveW w).cell? ⟨w.heap.size + 1 + 1, i, none⟩ = some v := by
  unfold aliveW
  refine cell_keep ?_ _
  rw [show w.heap.size + 1 + 1 = ((w.alloc (.cells #[.int .i64 97, .int .i64 770] 3)).alloc (.cells #[.int .i64 226, .int .i64 769] 3)).heap.size by simp, World.cell?_alloc_new]; exact h
theorem aliveW_3 (w : World) (i : Nat) (v : Value) (h : (#[.slice none 0 0, .slice (some ⟨w.heap.size + 1 + 1, 0, none⟩) 2 2, .slice none 0 0] : Array Value)[i]? = some v) : (aliveW w).cell? ⟨w.heap.size + 1 + 1 + 1, i, none⟩ = some v := by
  unfold aliveW
  rw [show w.heap.size + 1 + 1 + 1 = (((w.alloc (.cells #[.int .i64 97, .int .i64 770] 3)).alloc (.cells #[.int .i64 226, .int .i64 769] 3)).alloc
    (.cells #[.int .i64 226, .slice (some ⟨w.heap.size, 0, none⟩) 2 2, .string ⟨#[]⟩, .int .i64 7845, .slice (some ⟨w.heap.size + 1, 0, none⟩) 2 2, .string ⟨#[]⟩] 61)).heap.size by simp, World.cell?_alloc_new]; exact h
theorem aliveW_C (w : World) : Kd.C k61 (aliveW w) (some ⟨w.heap.size + 1 + 1, 0, none⟩) 2 dmA := by
  have c1 : (Kd.int .i64).C (aliveW w) (some ⟨w.heap.size, 0, none⟩) 2 [97, 770] := C_two (aliveW_0 w 0 _ rfl) (aliveW_0 w 1 _ rfl)
  have c2 : (Kd.int .i64).C (aliveW w) (some ⟨w.heap.size + 1, 0, none⟩) 2 [226, 769] := C_two (aliveW_1 w 0 _ rfl) (aliveW_1 w 1 _ rfl)
  have hz : Kd.sz k61 = 3 := rfl
  refine ⟨rfl, by omega, fun _ => ⟨⟨w.heap.size + 1 + 1, 0, none⟩, rfl, fun j p hj => ?_⟩⟩
  match j, hj with
  | 0, hj =>
    cases hj
    refine ⟨_, rfl, k61_mk (aliveW w) dm1 (A1 := some ⟨w.heap.size, 0, none⟩) (c1 := 2) (by simp [dm1]) c1, fun i u hu => ?_⟩
    rw [hz, Addr.add_lit]
    match i, hu with
    | 0, hu => cases hu; exact aliveW_2 w 0 _ rfl
    | 1, hu => cases hu; exact aliveW_2 w 1 _ rfl
    | 2, hu => cases hu; exact aliveW_2 w 2 _ rfl
  | 1, hj =>
    cases hj
    refine ⟨_, rfl, k61_mk (aliveW w) dm2 (A1 := some ⟨w.heap.size + 1, 0, none⟩) (c1 := 2) (by simp [dm2]) c2, fun i u hu => ?_⟩
    rw [hz, Addr.add_lit]
    match i, hu with
    | 0, hu => cases hu; exact aliveW_2 w 3 _ rfl
    | 1, hu => cases hu; exact aliveW_2 w 4 _ rfl
    | 2, hu => cases hu; exact aliveW_2 w 5 _ rfl
set_option maxRecDepth 100000 in
set_option maxHeartbeats 8000000 in
theorem alive_any (w : World) (hG : GL w) : Calls Tryz.prog 11 #[] w fun e w' => e = .returned (.bool true) ∧ Below w.heap.size w w' := by
  have HG := Aside0.mk (GL.below hG (aliveW_below w))
  have HB := Aside0.mk (aliveW_below w)
  have HC := Aside0.mk (aliveW_C w)
  have HX : Aside0 (∀ i v, (#[.slice none 0 0, .slice (some ⟨w.heap.size + 1 + 1, 0, none⟩) 2 2, .slice none 0 0] : Array Value)[i]? = some v → (aliveW w).cell? ⟨w.heap.size + 1 + 1 + 1, i, none⟩ = some v) := ⟨aliveW_3 w⟩
  have hW : aliveW w = (((w.alloc (.cells #[.int .i64 97, .int .i64 770] 3)).alloc (.cells #[.int .i64 226, .int .i64 769] 3)).alloc
    (.cells #[.int .i64 226, .slice (some ⟨w.heap.size, 0, none⟩) 2 2, .string ⟨#[]⟩, .int .i64 7845, .slice (some ⟨w.heap.size + 1, 0, none⟩) 2 2, .string ⟨#[]⟩] 61)).alloc
    (.cells #[.slice none 0 0, .slice (some ⟨w.heap.size + 1 + 1, 0, none⟩) 2 2, .slice none 0 0] 28) := rfl
  have HWW := Aside0.mk hW
  clear hG hW
  generalize aliveW w = W at HG HB HC HX HWW
  go_enter Tryz.func11, Tryz.ntmps11
  go_wp2_with fail
  rw [← HWW.out]
  refine (decCheck_any none (some ⟨w.heap.size + 1 + 1, 0, none⟩) none 0 2 0 [] dmA [] W HG.out (Kd.C_nil _ _) (by simp) (by simp) HC.out (by simp [dmA]) (by simp [dmA]) (Kd.C_nil _ _) (by simp) (by simp)).mono ?_
  rintro e w1 ⟨rfl, hb1⟩
  rw [chkA]
  have a0 : w1.cell? ⟨w.heap.size + 1 + 1 + 1, 0, none⟩ = some (.slice none 0 0) := by rw [hb1.cell (cell_lt (HX.out 0 _ rfl))]; exact HX.out 0 _ rfl
  have a1 : w1.cell? ⟨w.heap.size + 1 + 1 + 1, 1, none⟩ = some (.slice (some ⟨w.heap.size + 1 + 1, 0, none⟩) 2 2) := by rw [hb1.cell (cell_lt (HX.out 1 _ rfl))]; exact HX.out 1 _ rfl
  have a2 : w1.cell? ⟨w.heap.size + 1 + 1 + 1, 2, none⟩ = some (.slice none 0 0) := by rw [hb1.cell (cell_lt (HX.out 2 _ rfl))]; exact HX.out 2 _ rfl
  have HB1 := Aside0.mk (below_step HB.out hb1)
  have HG1 := Aside0.mk (GL.below HG.out hb1)
  have HC1 := Aside0.mk (Kd.C_below HC.out hb1)
  clear hb1
  go_wp2_with fail
  refine (dchar_any none (some ⟨w.heap.size + 1 + 1, 0, none⟩) none 0 2 0 [] dmA [] 7845 false w1 HG1.out (Kd.C_nil _ _) (by simp) (by simp) HC1.out (by simp [dmA]) (by simp [dmA]) (Kd.C_nil _ _) (by simp) (by simp) (by unfold inR; omega)).mono ?_
  rintro e w2 ⟨⟨A2, c2, rfl, hl2, hC2⟩, hb2⟩
  rw [fullA1] at hl2 hC2 ⊢
  have b0 : w2.cell? ⟨w.heap.size + 1 + 1 + 1, 0, none⟩ = some (.slice none 0 0) := by rw [hb2.cell (cell_lt a0)]; exact a0
  have b1 : w2.cell? ⟨w.heap.size + 1 + 1 + 1, 1, none⟩ = some (.slice (some ⟨w.heap.size + 1 + 1, 0, none⟩) 2 2) := by rw [hb2.cell (cell_lt a1)]; exact a1
  have b2 : w2.cell? ⟨w.heap.size + 1 + 1 + 1, 2, none⟩ = some (.slice none 0 0) := by rw [hb2.cell (cell_lt a2)]; exact a2
  have HB2 := Aside0.mk (below_step HB1.out hb2)
  have HG2 := Aside0.mk (GL.below HG1.out hb2)
  have HC2 := Aside0.mk (Kd.C_below HC1.out hb2)
  have HR2 := Aside0.mk hC2
  clear hl2 hC2 hb2
  go_wp2_with fail
  refine (refEqual_any A2 (some ⟨w2.heap.size, 0, none⟩) c2 3 [97, 770, 769] [97, 770, 769] _ (Kd.C_alloc HR2.out _) (C_three (by simp) (by simp) (by simp)) (by simp) (by simp)).mono ?_
  rintro e w3 ⟨rfl, hb3⟩
  rw [show decide (([97, 770, 769] : List Int) = [97, 770, 769]) = true from rfl]
  have hb3' := below_step (below_alloc (Below.refl w2.heap.size w2) (.cells #[.int .i64 97, .int .i64 770, .int .i64 769] 3)) hb3
  have d0 : w3.cell? ⟨w.heap.size + 1 + 1 + 1, 0, none⟩ = some (.slice none 0 0) := by rw [hb3'.cell (cell_lt b0)]; exact b0
  have d1 : w3.cell? ⟨w.heap.size + 1 + 1 + 1, 1, none⟩ = some (.slice (some ⟨w.heap.size + 1 + 1, 0, none⟩) 2 2) := by rw [hb3'.cell (cell_lt b1)]; exact b1
  have d2 : w3.cell? ⟨w.heap.size + 1 + 1 + 1, 2, none⟩ = some (.slice none 0 0) := by rw [hb3'.cell (cell_lt b2)]; exact b2
  have HB3 := Aside0.mk (below_step HB2.out hb3')
  have HG3 := Aside0.mk (GL.below HG2.out hb3')
  have HC3 := Aside0.mk (Kd.C_below HC2.out hb3')
  clear hb3 hb3'
  go_wp2_with fail
  refine (dchar_any none (some ⟨w.heap.size + 1 + 1, 0, none⟩) none 0 2 0 [] dmA [] 44033 true w3 HG3.out (Kd.C_nil _ _) (by simp) (by simp) HC3.out (by simp [dmA]) (by simp [dmA]) (Kd.C_nil _ _) (by simp) (by simp) (by unfold inR; omega)).mono ?_
  rintro e w4 ⟨⟨A4, c4, rfl, hl4, hC4⟩, hb4⟩
  rw [fullA2] at hl4 hC4 ⊢
  have HB4 := Aside0.mk (below_step HB3.out hb4)
  have HR4 := Aside0.mk hC4
  clear hl4 hC4 hb4
  go_wp2_with fail
  refine (refEqual_any A4 (some ⟨w4.heap.size, 0, none⟩) c4 3 [4352, 4449, 4520] [4352, 4449, 4520] _ (Kd.C_alloc HR4.out _) (C_three (by simp) (by simp) (by simp)) (by simp) (by simp)).mono ?_
  rintro e w5 ⟨rfl, hb5⟩
  rw [show decide (([4352, 4449, 4520] : List Int) = [4352, 4449, 4520]) = true from rfl]
  go_wp2_with fail
  go_ret
  exact ⟨rfl, below_step (below_alloc HB4.out _) hb5⟩
end Go.Proofs.YtipedgkampafjaaGreatDoor.Rf
/- Tells what Small computes. -/
namespace Go.Proofs.YtipedgkampafjaaGreatDoor.Rf
open Go.Shelf Go.RowKit Go.Sort Go.Proofs.YtipedgkampafjaaGreatDoorW.PrintWords Go.Proofs.YtipedgkampafjaaGreatDoorW.PrintLast Go.Proofs.YtipedgkampafjaaGreatDoorW.PrintMore

def bigM (m : S61) : Bool := decide ((65 : Int) < (m.f1.length : Int)) || decide ((40 : Int) < (m.f2.size : Int))
def small11S (xs : List S61) : Bool := !(xs.take 30).any bigM && decide ((xs.length : Int) ≤ 20)
def smallS (cl : List S71) (dm : List S61) (ex : List RR) : Bool := decide ((cl.length : Int) ≤ 16) && (small11S dm && decide ((ex.length : Int) ≤ 12))
theorem smallS_ok {cl : List S71} {dm : List S61} {ex : List RR} (h : smallS cl dm ex = true) : cl.length ≤ 16 ∧ dm.length ≤ 20 ∧ ex.length ≤ 12 ∧ ∀ x ∈ dm, x.f1.length ≤ 65 ∧ x.f2.size ≤ 40 := by
  unfold smallS small11S at h
  simp only [Bool.and_eq_true, decide_eq_true_eq, Bool.not_eq_true'] at h
  obtain ⟨h1, ⟨h2, h3⟩, h4⟩ := h
  refine ⟨by omega, by omega, by omega, fun x hx => ?_⟩
  rw [List.take_of_length_le (by omega)] at h2
  have := not_any _ _ h2 x hx
  simp only [bigM, Bool.or_eq_false_iff, decide_eq_false_iff_not] at this
  omega

set_option maxRecDepth 100000 in
set_option maxHeartbeats 8000000 in
theorem small11x_any (A : Option Addr) (c : Nat) (xs : List S61) (w : World) (hr : Kd.C k61 w A xs.length xs) (hl : xs.length ≤ 9223372036854775807) :
    Calls Tryz.prog 27 #[.slice A xs.length c] w fun e w' => e = .returned (.bool (small11S xs)) ∧ Below w.heap.size w w' := by
  have HR := Aside0.mk hr
  have HF : Aside0 (small11S xs = (!(xs.take 30).any bigM && decide ((xs.length : Int) ≤ 20))) := ⟨rfl⟩
  have HBig : Aside0 (∀ m, bigM m = (decide ((65 : Int) < (m.f1.length : Int)) || decide ((40 : Int) < (m.f2.size : Int)))) := ⟨fun _ => rfl⟩
  generalize small11S xs = res at HF ⊢
  clear hr
  go_enter Tryz.func27, Tryz.ntmps27
  go_wp2_with fail
  go_loopw [3] (fun v wr => ∃ j : Nat, v = .int .i64 (j : Int) ∧ j ≤ 30 ∧ j ≤ xs.length ∧ Aside0 ((xs.take j).any bigM = false) ∧ Aside0 (Below w.heap.size w wr)) (fun v _ => 30 - (intOf v).toNat)
  case atStart => exact ⟨0, rfl, by omega, by omega, ⟨rfl⟩, ⟨Below.refl _ _⟩⟩
  case round =>
    obtain ⟨j, rfl, hj, hj2, HA, HB⟩ := hrel
    by_cases hlt : j < xs.length
    · by_cases h30 : j < 30
      · obtain ⟨ad, A1, c1, e, hx0, hx1, hx2, hl1, hi1⟩ := at_T61 (Kd.C_below HR.out HB.out) (j : Int) (by omega) (by omega)
        subst e
        clear hl1 hi1
        have HY : Aside0 (rd_T61 xs j = xs.getD j z61) := ⟨by simp [rd_T61]⟩
        have HT : Aside0 (bigM (rd_T61 xs j) = false → (xs.take (j + 1)).any bigM = false) := ⟨fun h => any_take_succ bigM xs z61 j hlt HA.out (by rw [← HY.out]; exact h)⟩
        have HS : Aside0 (bigM (rd_T61 xs j) = true → res = false) := ⟨fun h => by
          rw [HF.out, List.any_eq_true.2 ⟨xs.getD j z61, by
            rw [List.getD_eq_getElem?_getD, List.getElem?_eq_getElem hlt, Option.getD_some]
            exact List.mem_take_iff_getElem.2 ⟨j, by omega, rfl⟩, by rw [← HY.out]; exact h⟩]; rfl⟩
        rw [HBig.out] at HT HS
        simp only [Int.toNat_natCast] at hx0 hx1 hx2
        generalize rd_T61 xs (j : Int) = x at hx0 hx1 hx2 HT HS HY
        have hlz : (j : Int) < (xs.length : Int) := by omega
        cases h1 : decide ((65 : Int) < (x.f1.length : Int)) with
        | true =>
          have HE := Aside0.mk (HS.out (by rw [h1]; rfl))
          go_wp2_with fail
          go_ret
          exact ⟨ret_bool HE.out.symm, HB.out⟩
        | false =>
          cases h2 : decide ((40 : Int) < (x.f2.size : Int)) with
          | true =>
            have HE := Aside0.mk (HS.out (by rw [h1, h2]; rfl))
            go_wp2_with fail
            go_ret
            exact ⟨ret_bool HE.out.symm, HB.out⟩
          | false =>
            have HE := Aside0.mk (HT.out (by rw [h1, h2]; rfl))
            go_wp2_with fail
            go_roundw
            case rel => exact ⟨j + 1, by first | rfl | go_num, by omega, by omega, HE, HB⟩
            case measure => simp [intOf]; omega
      · have h30' : ¬ (j : Int) < 30 := by omega
        have HE : Aside0 (res = decide ((xs.length : Int) ≤ 20)) := ⟨by
          have := HA.out
          rw [show j = 30 by omega] at this
          rw [HF.out, this]; rfl⟩
        go_wp2_with fail
        go_ret
        exact ⟨ret_bool HE.out.symm, HB.out⟩
    · have HE : Aside0 (res = decide ((xs.length : Int) ≤ 20)) := ⟨by
        have := HA.out
        rw [List.take_of_length_le (by omega)] at this
        rw [HF.out, List.take_of_length_le (by omega), this]; rfl⟩
      have hlz : ¬ (j : Int) < (xs.length : Int) := by omega
      go_wp2_with fail
      go_ret
      exact ⟨ret_bool HE.out.symm, HB.out⟩

set_option maxRecDepth 100000 in
set_option maxHeartbeats 8000000 in
theorem smallx_any (Ac Ad Ax : Option Addr) (cc cd cx : Nat) (cl : List S71) (dm : List S61) (ex : List RR) (w : World)
    (hrd : Kd.C k61 w Ad dm.length dm) (hld : dm.length ≤ 9223372036854775807) :
    Calls Tryz.prog 8 #[.agg #[.slice Ac cl.length cc, .slice Ad dm.length cd, .slice Ax ex.length cx]] w fun e w' => e = .returned (.bool (smallS cl dm ex)) ∧ Below w.heap.size w w' := by
  have HR := Aside0.mk hrd
  have HL := Aside0.mk hld
  have HF : Aside0 (smallS cl dm ex = (decide ((cl.length : Int) ≤ 16) && (small11S dm && decide ((ex.length : Int) ≤ 12)))) := ⟨rfl⟩
  generalize smallS cl dm ex = res at HF ⊢
  clear hrd hld
  have hb : Below w.heap.size w (w.alloc (.cells #[.slice Ac cl.length cc, .slice Ad dm.length cd, .slice Ax ex.length cx] 28)) := below_alloc (Below.refl _ _) _
  have x1 : (w.alloc (.cells #[.slice Ac cl.length cc, .slice Ad dm.length cd, .slice Ax ex.length cx] 28)).cell? ⟨w.heap.size, 1, none⟩ = some (.slice Ad dm.length cd) := by simp
  have x2 : (w.alloc (.cells #[.slice Ac cl.length cc, .slice Ad dm.length cd, .slice Ax ex.length cx] 28)).cell? ⟨w.heap.size, 2, none⟩ = some (.slice Ax ex.length cx) := by simp
  have HB := Aside0.mk hb
  clear hb
  cases h1 : decide ((cl.length : Int) ≤ 16) with
  | false =>
    have HE : Aside0 (res = false) := ⟨by rw [HF.out, h1]; rfl⟩
    go_enter Tryz.func8, Tryz.ntmps8
    go_wp2_with fail
    refine (small20_any Ac cc cl.length _).mono ?_
    rintro e w1 ⟨rfl, hb1⟩
    rw [h1]
    go_wp2_with fail
    go_ret
    exact ⟨ret_bool HE.out.symm, below_step HB.out hb1⟩
  | true =>
    rw [h1, Bool.true_and] at HF
    go_enter Tryz.func8, Tryz.ntmps8
    go_wp2_with fail
    refine (small20_any Ac cc cl.length _).mono ?_
    rintro e w1 ⟨rfl, hb1⟩
    rw [h1]
    have k1 : w1.cell? ⟨w.heap.size, 1, none⟩ = some (.slice Ad dm.length cd) := by rw [hb1.cell (cell_lt x1)]; exact x1
    have k2 : w1.cell? ⟨w.heap.size, 2, none⟩ = some (.slice Ax ex.length cx) := by rw [hb1.cell (cell_lt x2)]; exact x2
    have HB1 := Aside0.mk (below_step HB.out hb1)
    clear hb1
    go_wp2_with fail
    refine (small11x_any Ad cd dm w1 (Kd.C_below HR.out HB1.out) HL.out).mono ?_
    rintro e w2 ⟨rfl, hb2⟩
    have m2 : w2.cell? ⟨w.heap.size, 2, none⟩ = some (.slice Ax ex.length cx) := by rw [hb2.cell (cell_lt k2)]; exact k2
    have HB2 := Aside0.mk (below_step HB1.out hb2)
    clear hb2
    generalize small11S dm = b at HF ⊢
    cases b with
    | false =>
      have HE : Aside0 (res = false) := ⟨by rw [HF.out]; rfl⟩
      go_wp2_with fail
      go_ret
      exact ⟨ret_bool HE.out.symm, HB2.out⟩
    | true =>
      rw [Bool.true_and] at HF
      go_wp2_with fail
      refine (small02_any Ax cx ex.length _).mono ?_
      rintro e w3 ⟨rfl, hb3⟩
      have HB3 := Aside0.mk (below_step HB2.out hb3)
      clear hb3
      go_wp2_with fail
      go_ret
      exact ⟨ret_bool HF.out.symm, HB3.out⟩
end Go.Proofs.YtipedgkampafjaaGreatDoor.Rf
/- Tells what the reference's Data hands back. -/
namespace Go.Proofs.YtipedgkampafjaaGreatDoor.Rf
open Go.Shelf Go.RowKit Go.Proofs.YtipedgkampafjaaGreatDoorW.PrintWords Go.Proofs.YtipedgkampafjaaGreatDoorW.PrintLast Go.Proofs.YtipedgkampafjaaGreatDoorW.PrintMore

open Classical in
set_option maxRecDepth 100000 in
set_option maxHeartbeats 16000000 in
theorem refData_base (Ac Ad Ax : Option Addr) (cc cd cx : Nat) (cl : List S71) (dm : List S61) (ex : List RR) (w : World)
    (hrc : Kd.C k71 w Ac cl.length cl) (hcc : cl.length ≤ cc) (hlc : cl.length ≤ 1000000)
    (hrd : Kd.C k61 w Ad dm.length dm) (hcd : dm.length ≤ cd) (hld : dm.length ≤ 1000000)
    (hrx : Kd.C k52 w Ax ex.length ex) (hcx : ex.length ≤ cx) (hlx : ex.length ≤ 1000) (hsm : ∀ x ∈ dm, x.f1.length ≤ 1000000 ∧ x.f2.size ≤ 1000000000) :
    Calls Tryz.prog 21 #[.agg #[.slice Ac cl.length cc, .slice Ad dm.length cd, .slice Ax ex.length cx]] w fun e w' => ValidB Ac Ad Ax cl dm ex e (vcl cl dm ex) (vdm cl dm ex) (vex cl dm ex) ∧ Below w.heap.size w w' := by
  have hb : ∀ o1 o2 : Obj, Below w.heap.size w ((w.alloc o1).alloc o2) := fun o1 o2 => below_alloc (below_alloc (Below.refl _ _) _) _
  have HCk := Aside0.mk (fun o1 o2 => ref21Check_any Ac Ad Ax cc cd cx cl dm ex ((w.alloc o1).alloc o2) (Kd.C_below hrc (hb o1 o2)) hlc (Kd.C_below hrd (hb o1 o2)) hld (Kd.C_below hrx (hb o1 o2)) hlx hsm)
  have HB := Aside0.mk hb
  have HRc := Aside0.mk hrc
  have HRd := Aside0.mk hrd
  have HRx := Aside0.mk hrx
  have HL : Aside0 (cl.length ≤ cc ∧ dm.length ≤ cd ∧ ex.length ≤ cx) := ⟨hcc, hcd, hcx⟩
  clear hsm hrc hrd hrx hb hcc hcd hcx hlc hld hlx
  cases hok : (decChk cl dm ex != 0) with
  | true =>
    have hne : ¬ decChk cl dm ex = 0 := by simpa using hok
    have HV : Aside0 (vcl cl dm ex = [] ∧ vdm cl dm ex = [] ∧ vex cl dm ex = []) := ⟨by simp [vcl, vdm, vex, hne]⟩
    rw [HV.out.1, HV.out.2.1, HV.out.2.2]
    generalize decChk cl dm ex = r at HCk hok
    go_enter Tryz.func21, Tryz.ntmps21
    go_wp2_with fail
    refine (HCk.out _ _).mono ?_
    rintro e w1 ⟨rfl, hb1⟩
    have hheap : w1.heap[w.heap.size + 1]? = some (.cells #[.slice none 0 0, .slice none 0 0, .slice none 0 0] 28) := by
      rw [hb1.block _ (by simp)]; exact heap2_new _ _ _
    have hlt1 : w.heap.size + 1 < w1.heap.size := (Array.getElem?_eq_some_iff.1 hheap).1
    have q0 : w1.cell? ⟨w.heap.size + 1, 0, none⟩ = some (.slice none 0 0) := by simp [World.cell?, hheap]
    have q1 : w1.cell? ⟨w.heap.size + 1, 1, none⟩ = some (.slice none 0 0) := by simp [World.cell?, hheap]
    have q2 : w1.cell? ⟨w.heap.size + 1, 2, none⟩ = some (.slice none 0 0) := by simp [World.cell?, hheap]
    have r0 : ∀ i, w1.frozen? ⟨w.heap.size + 1, i, none⟩ = false := fun i => by simp [World.frozen?, hheap]
    have HHeap := Aside0.mk hheap
    have HBB := Aside0.mk (below_step (HB.out _ _) hb1)
    have p0 : w1.cell? ⟨w.heap.size, 0, none⟩ = some (.slice Ac cl.length cc) := by
      rw [hb1.cell (by simp; omega)]; exact cell_keep (by simp) _
    have p1 : w1.cell? ⟨w.heap.size, 1, none⟩ = some (.slice Ad dm.length cd) := by
      rw [hb1.cell (by simp; omega)]; exact cell_keep (by simp) _
    have p2 : w1.cell? ⟨w.heap.size, 2, none⟩ = some (.slice Ax ex.length cx) := by
      rw [hb1.cell (by simp; omega)]; exact cell_keep (by simp) _
    clear hheap hb1
    go_wp2_with fail
    (try simp only [Exit.inBlock, Exit.then])
    refine bodyPost_ret (results_cell_row rfl _ _ (w.heap.size + 1) 28 _ (0, 0) _ rfl (heap_set3 HHeap.out) Tryz.underlying28 rfl (by kernel_rfl)) rfl ?_
    exact ⟨⟨none, none, none, 0, 0, 0, rfl, ⟨Nat.le_refl _, fun _ _ => Kd.C_nil _ _⟩, ⟨Nat.le_refl _, fun _ _ => Kd.C_nil _ _⟩, ⟨Nat.le_refl _, fun _ _ => Kd.C_nil _ _⟩⟩, HBB.out.grown (grown_set3 _ _ _ _ _) HBB.out.size (fun k hk => by cases hk; omega)⟩
  | false =>
    have hne : decChk cl dm ex = 0 := by simpa using hok
    have HV : Aside0 (vcl cl dm ex = cl ∧ vdm cl dm ex = dm ∧ vex cl dm ex = ex) := ⟨by simp [vcl, vdm, vex, hne]⟩
    rw [HV.out.1, HV.out.2.1, HV.out.2.2]
    clear hne
    generalize decChk cl dm ex = r at HCk hok
    go_enter Tryz.func21, Tryz.ntmps21
    go_wp2_with fail
    refine (HCk.out _ _).mono ?_
    rintro e w1 ⟨rfl, hb1⟩
    have hheap : w1.heap[w.heap.size + 1]? = some (.cells #[.slice none 0 0, .slice none 0 0, .slice none 0 0] 28) := by
      rw [hb1.block _ (by simp)]; exact heap2_new _ _ _
    have hlt1 : w.heap.size + 1 < w1.heap.size := (Array.getElem?_eq_some_iff.1 hheap).1
    have q0 : w1.cell? ⟨w.heap.size + 1, 0, none⟩ = some (.slice none 0 0) := by simp [World.cell?, hheap]
    have q1 : w1.cell? ⟨w.heap.size + 1, 1, none⟩ = some (.slice none 0 0) := by simp [World.cell?, hheap]
    have q2 : w1.cell? ⟨w.heap.size + 1, 2, none⟩ = some (.slice none 0 0) := by simp [World.cell?, hheap]
    have r0 : ∀ i, w1.frozen? ⟨w.heap.size + 1, i, none⟩ = false := fun i => by simp [World.frozen?, hheap]
    have HHeap := Aside0.mk hheap
    have HBB := Aside0.mk (below_step (HB.out _ _) hb1)
    have p0 : w1.cell? ⟨w.heap.size, 0, none⟩ = some (.slice Ac cl.length cc) := by
      rw [hb1.cell (by simp; omega)]; exact cell_keep (by simp) _
    have p1 : w1.cell? ⟨w.heap.size, 1, none⟩ = some (.slice Ad dm.length cd) := by
      rw [hb1.cell (by simp; omega)]; exact cell_keep (by simp) _
    have p2 : w1.cell? ⟨w.heap.size, 2, none⟩ = some (.slice Ax ex.length cx) := by
      rw [hb1.cell (by simp; omega)]; exact cell_keep (by simp) _
    clear hheap hb1
    go_wp2_with fail
    (try simp only [Exit.inBlock, Exit.then])
    have HF := Aside0.mk (HBB.out.grown (grown_set3 w1 (w.heap.size + 1) (.slice Ac cl.length cc) (.slice Ad dm.length cd) (.slice Ax ex.length cx)) HBB.out.size (fun k hk => by cases hk; omega))
    refine bodyPost_ret (results_cell_row rfl _ _ (w.heap.size + 1) 28 _ (0, 0) _ rfl (heap_set3 HHeap.out) Tryz.underlying28 rfl (by kernel_rfl)) rfl ?_
    exact ⟨⟨Ac, Ad, Ax, cc, cd, cx, rfl, ⟨HL.out.1, fun _ h => h⟩, ⟨HL.out.2.1, fun _ h => h⟩, ⟨HL.out.2.2, fun _ h => h⟩⟩, HF.out⟩
theorem refData_any (Ac Ad Ax : Option Addr) (cc cd cx : Nat) (cl : List S71) (dm : List S61) (ex : List RR) (w : World)
    (hrc : Kd.C k71 w Ac cl.length cl) (hcc : cl.length ≤ cc) (hlc : cl.length ≤ 1000000)
    (hrd : Kd.C k61 w Ad dm.length dm) (hcd : dm.length ≤ cd) (hld : dm.length ≤ 1000000)
    (hrx : Kd.C k52 w Ax ex.length ex) (hcx : ex.length ≤ cx) (hlx : ex.length ≤ 1000) (hsm : ∀ x ∈ dm, x.f1.length ≤ 1000000 ∧ x.f2.size ≤ 1000000000) :
    Calls Tryz.prog 21 #[.agg #[.slice Ac cl.length cc, .slice Ad dm.length cd, .slice Ax ex.length cx]] w fun e w' => ValidR w' e (vcl cl dm ex) (vdm cl dm ex) (vex cl dm ex) ∧ Below w.heap.size w w' :=
  (refData_base Ac Ad Ax cc cd cx cl dm ex w hrc hcc hlc hrd hcd hld hrx hcx hlx hsm).mono fun _ _ h => by
    obtain ⟨⟨Ac, Ad, Ax, cc, cd, cx, h1, h2, h3, h4⟩, hb⟩ := h
    exact ⟨⟨Ac, Ad, Ax, cc, cd, cx, h1, ⟨h2.1, Kd.C_below (h2.2 _ hrc) hb⟩, ⟨h3.1, Kd.C_below (h3.2 _ hrd) hb⟩, ⟨h4.1, Kd.C_below (h4.2 _ hrx) hb⟩⟩, hb⟩
end Go.Proofs.YtipedgkampafjaaGreatDoor.Rf
/- What the program's Make makes is what the reference's makes; the ranges of the code points that have a mapping (plain). -/
namespace Go.Proofs.YtipedgkampafjaaGreatDoor.Rf
open Go.Shelf Go.RowKit Go.Proofs.YtipedgkampafjaaGreatDoorW.PrintWords Go.Proofs.YtipedgkampafjaaGreatDoorW.PrintLast Go.Proofs.YtipedgkampafjaaGreatDoorW.PrintMore

theorem memR_append (a b : List RR) (c : Int) : memR (a ++ b) c ↔ memR a c ∨ memR b c := by
  unfold memR
  constructor
  · rintro ⟨r, hr, h⟩
    rcases List.mem_append.1 hr with q | q
    · exact .inl ⟨r, q, h⟩
    · exact .inr ⟨r, q, h⟩
  · rintro (⟨r, hr, h⟩ | ⟨r, hr, h⟩)
    · exact ⟨r, List.mem_append_left _ hr, h⟩
    · exact ⟨r, List.mem_append_right _ hr, h⟩
theorem memR_one (x : RR) (c : Int) : memR [x] c ↔ x.f0 ≤ c ∧ c ≤ x.f1 := by simp [memR]
theorem memR_cons (x : RR) (l : List RR) (c : Int) : memR (x :: l) c ↔ (x.f0 ≤ c ∧ c ≤ x.f1) ∨ memR l c := by rw [show x :: l = [x] ++ l from rfl, memR_append, memR_one]
theorem stepR_mem (o : List RR) (r : RR) (hs : ∀ z, o.getLast? = some z → z.f0 ≤ r.f0) (hz : ∀ z ∈ o, z.f0 ≤ z.f1) (hr : r.f0 ≤ r.f1) (c : Int) : memR (stepR o r) c ↔ memR o c ∨ (r.f0 ≤ c ∧ c ≤ r.f1) := by
  rcases List.eq_nil_or_concat o with rfl | ⟨l0, z, rfl⟩
  · simp [stepR, memR]
  · rw [List.concat_eq_append] at *
    have h1 := hs z (by simp)
    have h2 := hz z (by simp)
    unfold stepR
    simp only [List.getLast?_concat, List.dropLast_concat]
    split
    · rename_i h
      rw [memR_append, memR_append, memR_one, memR_one, mx_max]
      constructor
      · rintro (q | q)
        · exact .inl (.inl q)
        · simp only at q; omega
      · rintro ((q | q) | q)
        · exact .inl q
        · right; simp only; omega
        · right; simp only; omega
    · rw [memR_append, memR_append, memR_one, memR_one]
theorem joinR_mem {l : List RR} (hg : ∀ r ∈ l, badR r = false) (hp : l.Pairwise fun a b => a.f0 ≤ b.f0) (c : Int) : memR (joinR l) c ↔ memR l c := by
  suffices ∀ (l o : List RR), (∀ r ∈ l, badR r = false) → l.Pairwise (fun a b => a.f0 ≤ b.f0) → canonR o = true → (∀ z, o.getLast? = some z → ∀ r ∈ l, z.f0 ≤ r.f0) → (memR (l.foldl stepR o) c ↔ memR o c ∨ memR l c) by
    have := this l [] hg hp (by simp [canonR, pairAny]) (by simp)
    rw [joinR, this]
    simp [memR]
  intro l
  induction l with
  | nil => intro o _ _ _ _; simp [memR]
  | cons x l ih =>
    intro o h1 h2 h3 h4
    rw [List.pairwise_cons] at h2
    have hb := h1 x List.mem_cons_self
    have hx : x.f0 ≤ x.f1 := by simp [badR] at hb; omega
    have h6 : ∀ z, o.getLast? = some z → z.f0 ≤ x.f0 := fun z hz => h4 z hz x List.mem_cons_self
    rw [List.foldl_cons, ih _ (fun r hr => h1 r (List.mem_cons_of_mem _ hr)) h2.2 (stepR_canon h3 hb h6) (fun z hz r hr => by
      have h5 := stepR_last o x h6 z hz
      have h6 := h2.1 r hr
      omega), stepR_mem o x h6 (fun z hz => (canon_range h3 z hz).2.1) hx, memR_cons]
    constructor
    · rintro ((q | q) | q)
      · exact .inl q
      · exact .inr (.inl q)
      · exact .inr (.inr q)
    · rintro (q | q | q)
      · exact .inl (.inl q)
      · exact .inl (.inr q)
      · exact .inr q
theorem gathR_mem (l : List RR) (c : Int) : memR (gathR l) c ↔ (0 ≤ c ∧ c ≤ 1114111) ∧ memR l c := by
  unfold memR
  constructor
  · rintro ⟨r, hr, h1, h2⟩
    have h3 := gathR_in hr
    obtain ⟨h4, _⟩ := List.mem_filter.1 hr
    obtain ⟨x, hx, rfl⟩ := List.mem_map.1 h4
    simp only [inB] at h3
    refine ⟨by omega, x, hx, ?_⟩
    simp only [clampR, mx_max, mn_min] at h1 h2
    omega
  · rintro ⟨h0, r, hr, h1, h2⟩
    refine ⟨clampR r, List.mem_filter.2 ⟨List.mem_map.2 ⟨r, hr, rfl⟩, ?_⟩, ?_⟩
    · simp only [goodR, clampR, mx_max, mn_min, decide_eq_true_eq]; omega
    · simp only [clampR, mx_max, mn_min]; omega
/-- What the program may make of ranges is what the reference makes. -/
theorem made_mkS {xs out : List RR} (h : MadeR xs out) : out = mkS xs := by
  obtain ⟨l', hp, hs, rfl⟩ := h
  have hg : ∀ r ∈ l', badR r = false := fun r hr => goodR_bad (hp.mem_iff.1 hr)
  obtain ⟨h1, h2⟩ := mkS_ok xs
  refine canon_unique _ _ (joinR_canon hg hs) h1 (fun c => ?_)
  rw [joinR_mem hg hs, h2, ← gathR_mem]
  unfold memR
  constructor
  · rintro ⟨r, hr, q⟩; exact ⟨r, hp.mem_iff.1 hr, q⟩
  · rintro ⟨r, hr, q⟩; exact ⟨r, hp.mem_iff.2 hr, q⟩
theorem mkS_len (xs : List RR) : (mkS xs).length ≤ xs.length := by
  obtain ⟨l', hp, hs⟩ : ∃ l' : List RR, l'.Perm (gathR xs) ∧ l'.Pairwise (fun a b => a.f0 ≤ b.f0) := by
    refine ⟨(gathR xs).mergeSort (fun a b => decide (a.f0 ≤ b.f0)), List.mergeSort_perm _ _, ?_⟩
    have h := List.pairwise_mergeSort (le := fun a b : RR => decide (a.f0 ≤ b.f0)) (fun a b c h1 h2 => by simp at *; omega) (fun a b => by simp; omega) (gathR xs)
    exact h.imp fun h => by simpa using h
  have h1 : joinR l' = mkS xs := made_mkS ⟨l', hp, hs, rfl⟩
  rw [← h1]
  exact Nat.le_trans (joinR_len l') (by rw [hp.length_eq]; exact gathR_len xs)
theorem made_len {xs out : List RR} (h : MadeR xs out) : out.length ≤ xs.length := by
  obtain ⟨l2, h1, _, h3⟩ := h
  rw [h3]
  exact Nat.le_trans (joinR_len l2) (by rw [h1.length_eq]; exact gathR_len xs)

/-! ### the ranges of the code points that have a mapping -/
def chgP (cp : Bool) (m : S61) : Bool := cp || m.f2.toList.isEmpty
def chgL (dm : List S61) (cp : Bool) : List RR := (⟨44032, 55203⟩ : RR) :: (dm.filter (chgP cp)).map fun m => (⟨m.f0, m.f0⟩ : RR)
theorem chgL_snoc (dm : List S61) (cp : Bool) (m : S61) : chgL (dm ++ [m]) cp = if chgP cp m then chgL dm cp ++ [⟨m.f0, m.f0⟩] else chgL dm cp := by
  unfold chgL
  rw [List.filter_append]
  cases h : chgP cp m <;> simp [List.filter, h]
theorem chgL_len (dm : List S61) (cp : Bool) : (chgL dm cp).length ≤ dm.length + 1 := by
  unfold chgL
  have := List.length_filter_le (chgP cp) dm
  simp only [List.length_cons, List.length_map]; omega
theorem hk_ge4 {c : Int} (h : 44032 ≤ c ∧ c ≤ 55203) : ¬ hk c < 4 := by
  unfold hk
  rw [if_pos (by omega)]
  split <;> omega
/-- A code point is in the set of the changed exactly if it has a mapping. -/
theorem chg_once {dm : List S61} (g : Good dm) (h1 : OneEach dm) (cp : Bool) (c : Int) : hasS (mkS (chgL dm cp)) c = (onceS dm cp c).isSome := by
  rw [Bool.eq_iff_iff, hasS_iff, (mkS_ok _).2]
  have key : ((0 ≤ c ∧ c ≤ 1114111) ∧ memR (chgL dm cp) c) ↔ (onceS dm cp c).isSome = true := by
    constructor
    · rintro ⟨hr, r, hm, h3, h4⟩
      rcases List.mem_cons.1 hm with rfl | hm
      · unfold onceS; rw [if_neg (hk_ge4 ⟨h3, h4⟩)]; rfl
      · obtain ⟨m, hm2, rfl⟩ := List.mem_map.1 hm
        obtain ⟨hm, hp⟩ := List.mem_filter.1 hm2
        simp only at h3 h4
        have hc : m.f0 = c := by omega
        obtain ⟨j, hj, e⟩ := List.getElem_of_mem hm
        have e2 : dm.getD j z61 = m := by rw [List.getD_eq_getElem?_getD, List.getElem?_eq_getElem hj]; exact e
        have hl := last_at h1 hj
        rw [e2, hc] at hl
        unfold onceS
        have hk0 := g.kinds m hm
        rw [hc] at hk0
        rw [if_pos (by omega), hl]
        simp only
        rw [if_neg (by unfold chgP at hp; cases cp <;> simp_all)]
        rfl
    · intro h
      unfold onceS at h
      split at h
      · rename_i h4
        cases hl : lastM dm c with
        | none => rw [hl] at h; cases h
        | some m =>
          rw [hl] at h
          simp only at h
          split at h
          · cases h
          · rename_i hp
            obtain ⟨hm, hc⟩ := lastM_mem hl
            have hv := g.codes m hm
            simp only [badCodes, Bool.or_eq_false_iff, Bool.not_eq_false', validC, Bool.and_eq_true, decide_eq_true_eq] at hv
            refine ⟨by rw [← hc]; exact hv.1, ⟨m.f0, m.f0⟩, List.mem_cons_of_mem _ (List.mem_map.2 ⟨m, List.mem_filter.2 ⟨hm, ?_⟩, rfl⟩), by simp only; omega, by simp only; omega⟩
            unfold chgP
            cases cp <;> simp_all
      · rename_i h4
        have := hk_syl h4
        exact ⟨by omega, ⟨44032, 55203⟩, List.mem_cons_self, by simp only; omega, by simp only; omega⟩
  exact ⟨fun ⟨q1, q2⟩ => key.1 q2, fun q => ⟨(key.2 q).1, key.2 q⟩⟩
theorem vdm_one (cl : List S71) (dm : List S61) (ex : List RR) : OneEach (vdm cl dm ex) := by
  unfold vdm
  split
  · rename_i h
    by_cases h0 : ordChk cl = 0
    · by_cases h1 : mapChkO dm = 0
      · cases h2 : canonR ex with
        | false => rw [dec_ex h0 h1 h2] at h; cases h
        | true =>
          have p : PreD cl dm ex := ⟨h0, h1, h2⟩
          refine pair_one h1 ?_
          cases hp : pairAny sameFrom dm with
          | false => rfl
          | true =>
            obtain ⟨i, k, hi, hk, hpl⟩ := pair_first hp
            rw [st_twice p hi hk (by rw [placeC_true]; exact hpl)] at h
            cases h
      · rw [dec_map h0 h1] at h; exact absurd h h1
    · rw [dec_ord h0] at h; exact absurd h h0
  · intro i j hi; cases hi
end Go.Proofs.YtipedgkampafjaaGreatDoor.Rf
/- Tells what decompose.Changed makes. -/
namespace Go.Proofs.YtipedgkampafjaaGreatDoor.Rf
open Go.Shelf Go.RowKit Go.Proofs.YtipedgkampafjaaGreatDoorW.PrintWords Go.Proofs.YtipedgkampafjaaGreatDoorW.PrintLast Go.Proofs.YtipedgkampafjaaGreatDoorW.PrintMore

/-- A set that a call hands back. -/
def RetS (w' : World) (e : Ending) (l : List RR) : Prop := ∃ B cap, e = .returned (.agg #[.slice B l.length cap]) ∧ l.length ≤ cap ∧ Kd.C k52 w' B l.length l
theorem row_one (wa : World) (a b : Int) : RowR (wa.alloc (.cells #[.int .i64 a, .int .i64 b] 52)) wa.heap.size (.slice (some ⟨wa.heap.size, 0, none⟩) 1 1) [⟨a, b⟩] := by
  have h := World.ownsRow_lit (base := wa.heap.size) (e := 52) (size := 2) wa #[.int .i64 a, .int .i64 b] 1 (Nat.le_refl _) (by simp [maxLen]) (by simp)
  exact h

set_option maxRecDepth 100000 in
theorem C_aside {w w' : World} {A : Option Addr} {l : List RR} {g : Nat} {T : TypeId} (h : Kd.C k52 w A l.length l) (hg : w.heap[g]? = some (.cells #[.slice none 0 0] T)) (hk : w.grownBy w' (some g)) : Kd.C k52 w' A l.length l := by
  refine Kd.C_foot_ne (g := g) (fun h => h) h (fun ad e hn hb => ?_) w' ⟨hk.size, fun i hi hne _ => hk.block i hi (fun e => hne (by cases e; rfl))⟩
  obtain ⟨ad', e', _, h1⟩ := at_T52 h 0 (by omega) (by omega)
  rw [e] at e'
  cases e'
  have hb2 : (ad.add (Int.toNat 0 * 2)).block = g := by rw [add_block]; exact hb
  simp only [World.cell?] at h1
  rw [hb2, hg] at h1
  simp at h1

set_option maxRecDepth 100000 in
set_option maxHeartbeats 16000000 in
theorem dchanged_any (Ac Ad Ax : Option Addr) (cc cd cx : Nat) (cl : List S71) (dm : List S61) (ex : List RR) (cp : Bool) (w : World) (hG : GL w)
    (hrc : Kd.C k71 w Ac cl.length cl) (hcc : cl.length ≤ cc) (hlc : cl.length ≤ 1000000)
    (hrd : Kd.C k61 w Ad dm.length dm) (hcd : dm.length ≤ cd) (hld : dm.length ≤ 100000)
    (hrx : Kd.C k52 w Ax ex.length ex) (hcx : ex.length ≤ cx) (hlx : ex.length ≤ 1000000) :
    Calls Tryz.prog 12 #[.agg #[.slice Ac cl.length cc, .slice Ad dm.length cd, .slice Ax ex.length cx], .bool cp] w fun e w' => RetS w' e (mkS (chgL (vdm cl dm ex) cp)) ∧ Below w.heap.size w w' := by
  obtain ⟨wa, hwa⟩ : ∃ wa, (w.alloc (.cells #[.slice Ac cl.length cc, .slice Ad dm.length cd, .slice Ax ex.length cx] 28)).alloc (.cells #[.slice none 0 0] 26) = wa := ⟨_, rfl⟩
  have hsa : wa.heap.size = w.heap.size + 1 + 1 := by rw [← hwa]; simp
  have HWa : Aside0 (Below w.heap.size w wa) := ⟨hwa ▸ below_alloc (below_alloc (Below.refl _ _) _) _⟩
  have HSet : Aside0 (wa.heap[w.heap.size + 1]? = some (.cells #[.slice none 0 0] 26)) := ⟨by rw [← hwa]; exact heap2_new _ _ _⟩
  have hq0 : wa.cell? ⟨w.heap.size, 0, none⟩ = some (.slice Ac cl.length cc) := by rw [← hwa]; exact cell_keep (by simp) _
  have hq1 : wa.cell? ⟨w.heap.size, 1, none⟩ = some (.slice Ad dm.length cd) := by rw [← hwa]; exact cell_keep (by simp) _
  have hq2 : wa.cell? ⟨w.heap.size, 2, none⟩ = some (.slice Ax ex.length cx) := by rw [← hwa]; exact cell_keep (by simp) _
  have hx0 := cell_keep hq0 (.cells #[.int .i64 44032, .int .i64 55203] 52)
  have hx1 := cell_keep hq1 (.cells #[.int .i64 44032, .int .i64 55203] 52)
  have hx2 := cell_keep hq2 (.cells #[.int .i64 44032, .int .i64 55203] 52)
  clear hq0 hq1 hq2
  have HRow0 := Aside0.mk (row_one wa 44032 55203)
  rw [hsa] at HRow0
  have HBb : Aside0 (Below wa.heap.size wa (wa.alloc (.cells #[.int .i64 44032, .int .i64 55203] 52))) := ⟨below_alloc (Below.refl _ _) _⟩
  have HRd := Aside0.mk hrd
  have HV := Aside0.mk (fun W hW => valid_base Ac Ad Ax cc cd cx cl dm ex W (GL.below hG hW) (Kd.C_below hrc hW) hcc hlc (Kd.C_below hrd hW) hcd (by omega) (Kd.C_below hrx hW) hcx hlx)
  have HL : Aside0 ((vdm cl dm ex).length ≤ 100000) := ⟨by
    unfold vdm
    split
    · omega
    · simp⟩
  generalize vdm cl dm ex = vd at HV HL ⊢
  generalize vcl cl dm ex = vc at HV
  generalize vex cl dm ex = vx at HV
  clear hG hrc hrd hrx hcc hcd hcx hlc hld hlx
  go_enter Tryz.func12, Tryz.ntmps12
  go_wp2_with fail
  obtain ⟨wb, hwb⟩ : ∃ x, x = wa.alloc (.cells #[.int .i64 44032, .int .i64 55203] 52) := ⟨_, rfl⟩
  rw [← hwb] at HRow0 HBb ⊢
  have HWb : Aside0 (Below w.heap.size w wb) := ⟨below_step HWa.out HBb.out⟩
  clear hwa hwb hx0 hx1 hx2
  refine (HV.out _ HWb.out).mono ?_
  rintro e w1 ⟨⟨A1, A2, A3, c1, c2, c3, rfl, _, ⟨hc2, hC2⟩, _⟩, hb1⟩
  have HR : Aside0 (∀ W, Below w.heap.size w W → Kd.C k61 W A2 vd.length vd) := ⟨fun W hW => hC2 W (Kd.C_below HRd.out hW)⟩
  have hfd : ∀ W, (Instr.field 28 (.agg #[.slice A1 vc.length c1, .slice A2 vd.length c2, .slice A3 vx.length c3]) 1).run Tryz.prog W = .ok (.slice A2 vd.length c2) W := fun W => by kernel_rfl
  have HRow1 := Aside0.mk (pw_own_below HRow0.out hb1)
  have HB1 := Aside0.mk (below_step HBb.out hb1)
  clear hC2 hb1 HRow0 HBb
  go_wp2_with fail
  clear hfd
  go_loopw [5, 7, 14] (fun v _ t wr => ∃ j : Nat, t = .int .i64 (j : Int) ∧ j ≤ vd.length ∧ Aside0 (RowR wr wa.heap.size v (chgL (vd.take j) cp)) ∧ Aside0 (Below wa.heap.size wa wr)) (fun _ _ t _ => vd.length - (intOf t).toNat)
  case atStart => exact ⟨0, rfl, by omega, ⟨by rw [hsa]; exact HRow1.out⟩, HB1⟩
  case round =>
    clear HRow1 HB1
    obtain ⟨j, rfl, hj, HO, HB⟩ := hrel
    by_cases hlt : j < vd.length
    · have hltz : (j : Int) < (vd.length : Int) := by omega
      obtain ⟨ad, a1, k1, e, hx0, hx1, hx2, hl1, hi1⟩ := at_T61 (HR.out _ (below_step HWa.out HB.out)) (j : Int) (by omega) (by omega)
      subst e
      clear hl1 hi1
      simp only [Int.toNat_natCast] at hx0 hx1 hx2
      have HX : Aside0 (rd_T61 vd (j : Int) = vd.getD j z61) := ⟨rfl⟩
      have HT : Aside0 (chgL (vd.take (j + 1)) cp = if chgP cp (rd_T61 vd (j : Int)) then chgL (vd.take j) cp ++ [⟨(rd_T61 vd (j : Int)).f0, (rd_T61 vd (j : Int)).f0⟩] else chgL (vd.take j) cp) := ⟨by
        rw [List.take_succ_eq_append_getElem hlt, chgL_snoc, HX.out, List.getD_eq_getElem?_getD, List.getElem?_eq_getElem hlt]; rfl⟩
      have HLen : Aside0 (((chgL (vd.take j) cp).length + 1) * 16 ≤ 140737488355328) := ⟨by
        have := chgL_len (vd.take j) cp
        have := HL.out
        simp only [List.length_take] at *; omega⟩
      generalize rd_T61 vd (j : Int) = x at hx0 hx1 hx2 HT HX
      generalize chgL (vd.take j) cp = l at HT HO HLen
      have HO2 := Aside0.mk (RowR.alloc HO.out (.cells #[.int .i64 x.f0, .slice a1 x.f1.length k1, .string x.f2] 61))
      have HB2 := Aside0.mk (below_alloc HB.out (.cells #[.int .i64 x.f0, .slice a1 x.f1.length k1, .string x.f2] 61))
      have HSz : Aside0 ((wr.alloc (.cells #[.int .i64 x.f0, .slice a1 x.f1.length k1, .string x.f2] 61)).heap.size = wr.heap.size + 1) := ⟨by simp⟩
      have hvl := HL.out
      have HPg : Aside0 (chgP cp x = (cp || x.f2.toList.isEmpty)) := ⟨rfl⟩
      cases cp with
      | true =>
        have HT2 : Aside0 (chgL (vd.take (j + 1)) true = l ++ [⟨x.f0, x.f0⟩]) := ⟨by rw [HT.out, HPg.out]; rfl⟩
        go_wp2_with (at_builtin; refine print_append_cells (w0 := wa) wa.heap.size rfl (.tmp 24) (.tmp 30) 24 52 (.agg #[.int .i64 0, .int .i64 0]) 2 16 rfl Tryz.underlying24 infoR rfl (by decide) (by decide) _ l.length (flatR l) [.int .i64 x.f0, .int .i64 x.f0] rfl (by rw [HSz.out]; rfl) rfl (by intro u hu; simp at hu; rcases hu with rfl | rfl <;> rfl) HO2.out HB2.out HB2.out.size HLen.out ?_; intro v1 w2 h1 h2 h3 h4)
        go_roundw
        case rel => exact ⟨j + 1, by first | rfl | go_num, by omega, ⟨by rw [HT2.out]; simpa [RowR, flatR, encR2] using h1⟩, ⟨h2⟩⟩
        case measure => simp [intOf]; omega
      | false =>
        cases hg : x.f2.toList.isEmpty with
        | true =>
          have HT2 : Aside0 (chgL (vd.take (j + 1)) false = l ++ [⟨x.f0, x.f0⟩]) := ⟨by rw [HT.out, HPg.out, hg]; rfl⟩
          go_wp2_with (at_builtin; refine print_append_cells (w0 := wa) wa.heap.size rfl (.tmp 24) (.tmp 30) 24 52 (.agg #[.int .i64 0, .int .i64 0]) 2 16 rfl Tryz.underlying24 infoR rfl (by decide) (by decide) _ l.length (flatR l) [.int .i64 x.f0, .int .i64 x.f0] rfl (by rw [HSz.out]; rfl) rfl (by intro u hu; simp at hu; rcases hu with rfl | rfl <;> rfl) HO2.out HB2.out HB2.out.size HLen.out ?_; intro v1 w2 h1 h2 h3 h4)
          go_roundw
          case rel => exact ⟨j + 1, by first | rfl | go_num, by omega, ⟨by rw [HT2.out]; simpa [RowR, flatR, encR2] using h1⟩, ⟨h2⟩⟩
          case measure => simp [intOf]; omega
        | false =>
          have HT2 : Aside0 (chgL (vd.take (j + 1)) false = l) := ⟨by rw [HT.out, HPg.out, hg]; rfl⟩
          go_wp2_with fail
          go_roundw
          case rel => exact ⟨j + 1, by first | rfl | go_num, by omega, ⟨by rw [HT2.out]; exact HO.out.alloc _⟩, ⟨below_alloc HB.out _⟩⟩
          case measure => simp [intOf]; omega
    · have hltz : ¬ (j : Int) < (vd.length : Int) := by omega
      have HO2 : Aside0 (RowR wr wa.heap.size u5 (chgL vd cp)) := ⟨by have h := HO.out; rwa [List.take_of_length_le (by omega)] at h⟩
      have HLen : Aside0 ((chgL vd cp).length ≤ 1000000) := ⟨by have := chgL_len vd cp; have := HL.out; omega⟩
      obtain ⟨B, capB, hv3, hcapB, hCB⟩ := rowR_C HO2.out HLen.out
      subst hv3
      have HCB := Aside0.mk hCB
      clear HO HO2 hCB
      go_wp2_with fail
      refine (cpMake_any B capB (chgL vd cp) _ HCB.out HLen.out).mono ?_
      rintro e w2 ⟨⟨out, B2, cap2, hm, rfl, hcap2, hC2⟩, hb2⟩
      have HMk := Aside0.mk (made_mkS hm)
      have HOl : Aside0 (out.length ≤ 1000000) := ⟨Nat.le_trans (made_len hm) HLen.out⟩
      have hb3 := below_step HB.out hb2
      have hheap : w2.heap[w.heap.size + 1]? = some (.cells #[.slice none 0 0] 26) := by rw [hb3.block _ (by omega)]; exact HSet.out
      have hcw : w2.cell? ⟨w.heap.size + 1, 0, none⟩ = some (.slice none 0 0) := by simp [World.cell?, hheap]
      have hfw : w2.frozen? ⟨w.heap.size + 1, 0, none⟩ = false := by simp [World.frozen?, hheap]
      have HHeap := Aside0.mk hheap
      have HB3 := Aside0.mk (below_step HWa.out hb3)
      have HC2 := Aside0.mk hC2
      clear hm hb2 hb3 hheap hC2 hlt hltz hj
      go_wp2_with fail
      (try simp only [Exit.inBlock, Exit.then])
      have hg9 : w2.grownBy (w2.setCell ⟨w.heap.size + 1, 0, none⟩ (.slice B2 out.length cap2)) (some (w.heap.size + 1)) := ⟨rfl, rfl, rfl, by simp [World.setCell], fun i hi hne => Below.heap_setCell _ _ _ _ (fun e => hne (by rw [e]))⟩
      refine bodyPost_ret (results_cell_row rfl _ _ (w.heap.size + 1) 26 #[.slice B2 out.length cap2] (0, 0) _ rfl (by
        rw [Sort.setCell_eq]
        simp [Sort.mapBlock, Array.getElem?_modify, HHeap.out, Sort.onCells]) Tryz.underlying26 rfl (by kernel_rfl)) rfl ?_
      rw [← HMk.out]
      refine ⟨⟨B2, cap2, rfl, hcap2, C_aside HC2.out HHeap.out hg9⟩, HB3.out.grown hg9 HB3.out.size (fun k hk => by cases hk; omega)⟩
end Go.Proofs.YtipedgkampafjaaGreatDoor.Rf
/- Tells what the reference's Changed makes. -/
namespace Go.Proofs.YtipedgkampafjaaGreatDoor.Rf
open Go.Shelf Go.RowKit Go.Proofs.YtipedgkampafjaaGreatDoorW.PrintWords Go.Proofs.YtipedgkampafjaaGreatDoorW.PrintLast Go.Proofs.YtipedgkampafjaaGreatDoorW.PrintMore

set_option maxRecDepth 100000 in
set_option maxHeartbeats 16000000 in
theorem refChanged_any (Ac Ad Ax : Option Addr) (cc cd cx : Nat) (cl : List S71) (dm : List S61) (ex : List RR) (cp : Bool) (w : World)
    (hrc : Kd.C k71 w Ac cl.length cl) (hcc : cl.length ≤ cc) (hlc : cl.length ≤ 1000000)
    (hrd : Kd.C k61 w Ad dm.length dm) (hcd : dm.length ≤ cd) (hld : dm.length ≤ 900)
    (hrx : Kd.C k52 w Ax ex.length ex) (hcx : ex.length ≤ cx) (hlx : ex.length ≤ 1000) (hsm : ∀ x ∈ dm, x.f1.length ≤ 1000000 ∧ x.f2.size ≤ 1000000000) :
    Calls Tryz.prog 16 #[.agg #[.slice Ac cl.length cc, .slice Ad dm.length cd, .slice Ax ex.length cx], .bool cp] w fun e w' => RetS w' e (mkS (chgL (vdm cl dm ex) cp)) ∧ Below w.heap.size w w' := by
  have HB0 : Aside0 (Below w.heap.size w ((w.alloc (.cells #[.slice Ac cl.length cc, .slice Ad dm.length cd, .slice Ax ex.length cx] 28)).alloc (.cells #[.slice none 0 0] 26))) := ⟨below_alloc (below_alloc (Below.refl _ _) _) _⟩
  have HSet0 : Aside0 (((w.alloc (.cells #[.slice Ac cl.length cc, .slice Ad dm.length cd, .slice Ax ex.length cx] 28)).alloc (.cells #[.slice none 0 0] 26)).heap[w.heap.size + 1]? = some (.cells #[.slice none 0 0] 26)) := ⟨heap2_new _ _ _⟩
  have HRd := Aside0.mk hrd
  have HV := Aside0.mk (fun W hW => refData_base Ac Ad Ax cc cd cx cl dm ex W (Kd.C_below hrc hW) hcc hlc (Kd.C_below hrd hW) hcd (by omega) (Kd.C_below hrx hW) hcx hlx hsm)
  have HL : Aside0 ((vdm cl dm ex).length ≤ 900) := ⟨by
    unfold vdm
    split
    · omega
    · simp⟩
  generalize vdm cl dm ex = vd at HV HL ⊢
  generalize vcl cl dm ex = vc at HV
  generalize vex cl dm ex = vx at HV
  clear hrc hrd hrx hcc hcd hcx hlc hld hlx hsm
  go_enter Tryz.func16, Tryz.ntmps16
  go_wp2_with fail
  refine (HV.out _ HB0.out).mono ?_
  rintro e w1 ⟨⟨A1, A2, A3, c1, c2, c3, rfl, _, ⟨hc2, hC2⟩, _⟩, hb1⟩
  have HSet : Aside0 (w1.heap[w.heap.size + 1]? = some (.cells #[.slice none 0 0] 26)) := ⟨by rw [hb1.block _ (by simp)]; exact HSet0.out⟩
  have HB1 := Aside0.mk (below_step HB0.out hb1)
  have HR : Aside0 (∀ W, Below w.heap.size w W → Kd.C k61 W A2 vd.length vd) := ⟨fun W hW => hC2 W (Kd.C_below HRd.out hW)⟩
  have hsz1 : w.heap.size + 1 < w1.heap.size := (Array.getElem?_eq_some_iff.1 HSet.out).1
  clear hC2 hb1 HB0 HSet0
  obtain ⟨wa, hwa⟩ : ∃ wa, w1.alloc (.cells #[.slice A1 vc.length c1, .slice A2 vd.length c2, .slice A3 vx.length c3] 28) = wa := ⟨_, rfl⟩
  have hsa : wa.heap.size = w1.heap.size + 1 := by rw [← hwa]; simp
  have HWa : Aside0 (Below w.heap.size w wa) := ⟨hwa ▸ below_alloc HB1.out _⟩
  have HSetA : Aside0 (wa.heap[w.heap.size + 1]? = some (.cells #[.slice none 0 0] 26)) := ⟨by rw [← hwa, Below.heap_alloc _ _ _ hsz1]; exact HSet.out⟩
  have HCA : Aside0 (wa.cell? ⟨w1.heap.size, 1, none⟩ = some (.slice A2 vd.length c2)) := ⟨by rw [← hwa]; simp⟩
  have HRow0 := Aside0.mk (row_one wa 44032 55203)
  rw [hsa] at HRow0
  have HBb : Aside0 (Below wa.heap.size wa (wa.alloc (.cells #[.int .i64 44032, .int .i64 55203] 52))) := ⟨below_alloc (Below.refl _ _) _⟩
  go_wp2_with fail
  obtain ⟨wb, hwb⟩ : ∃ x, x = wa.alloc (.cells #[.int .i64 44032, .int .i64 55203] 52) := ⟨_, rfl⟩
  rw [← hwb] at HRow0 HBb ⊢
  clear hwa hwb HB1 HSet
  go_loopw [6, 7] (fun v t wr => ∃ j : Nat, t = .int .i64 (j : Int) ∧ j ≤ vd.length ∧ Aside0 (RowR wr wa.heap.size v (chgL (vd.take j) cp)) ∧ Aside0 (Below wa.heap.size wa wr)) (fun _ t _ => vd.length - (intOf t).toNat)
  case atStart => exact ⟨0, rfl, by omega, ⟨by rw [hsa]; exact HRow0.out⟩, HBb⟩
  case round =>
    clear HRow0 HBb
    obtain ⟨j, rfl, hj, HO, HB⟩ := hrel
    have hk1 : wr.cell? ⟨w1.heap.size, 1, none⟩ = some (.slice A2 vd.length c2) := by rw [HB.out.cell (by simp; omega)]; exact HCA.out
    by_cases hlt : j < vd.length
    · have hltz : (j : Int) < (vd.length : Int) := by omega
      obtain ⟨ad, a1, k1, e, hx0, hx1, hx2, hl1, hi1⟩ := at_T61 (HR.out _ (below_step HWa.out HB.out)) (j : Int) (by omega) (by omega)
      subst e
      clear hl1 hi1 hx1
      simp only [Int.toNat_natCast] at hx0 hx2
      have HX : Aside0 (rd_T61 vd (j : Int) = vd.getD j z61) := ⟨rfl⟩
      have HT : Aside0 (chgL (vd.take (j + 1)) cp = if chgP cp (rd_T61 vd (j : Int)) then chgL (vd.take j) cp ++ [⟨(rd_T61 vd (j : Int)).f0, (rd_T61 vd (j : Int)).f0⟩] else chgL (vd.take j) cp) := ⟨by
        rw [List.take_succ_eq_append_getElem hlt, chgL_snoc, HX.out, List.getD_eq_getElem?_getD, List.getElem?_eq_getElem hlt]; rfl⟩
      have HLen : Aside0 (((chgL (vd.take j) cp).length + 1) * 16 ≤ 140737488355328) := ⟨by
        have := chgL_len (vd.take j) cp
        have := HL.out
        simp only [List.length_take] at *; omega⟩
      generalize rd_T61 vd (j : Int) = x at hx0 hx2 HT HX
      generalize chgL (vd.take j) cp = l at HT HO HLen
      have hka := cell_keep hk1 (.cells #[.int .i64 x.f0, .int .i64 x.f0] 52)
      have hxa := cell_keep hx0 (.cells #[.int .i64 x.f0, .int .i64 x.f0] 52)
      have HSz : Aside0 (wa.heap.size ≤ wr.heap.size) := ⟨HB.out.size⟩
      have hvl := HL.out
      have HSt : Aside0 (∀ v1 w3, World.ownsRow w3 wa.heap.size 52 2 v1 (l.length + 1) (flatR l ++ [.int .i64 x.f0, .int .i64 x.f0]) → Below wa.heap.size wr w3 → Aside0 (RowR w3 wa.heap.size v1 (l ++ [⟨x.f0, x.f0⟩])) ∧ Aside0 (Below wa.heap.size wa w3)) := ⟨fun v1 w3 h1 h2 => ⟨⟨by simpa [RowR, flatR, encR2] using h1⟩, ⟨HB.out.trans h2⟩⟩⟩
      have HPg : Aside0 (chgP cp x = (cp || x.f2.toList.isEmpty)) := ⟨rfl⟩
      cases hp : (cp || x.f2.toList.isEmpty) with
      | true =>
        have HT2 : Aside0 (chgL (vd.take (j + 1)) cp = l ++ [⟨x.f0, x.f0⟩]) := ⟨by rw [HT.out, HPg.out, hp]; rfl⟩
        have hcase : cp = true ∨ (cp = false ∧ x.f2.toList.isEmpty = true) := by cases cp <;> simp_all
        clear hp HPg HT
        rcases hcase with rfl | ⟨rfl, hg⟩
        all_goals
          go_wp2_with fail
          go_region_law (refine step_append_cells (w0 := wr) (W := wr.drew) wa.heap.size rfl (.tmp 29) (.tmp 43) 24 52 (.agg #[.int .i64 0, .int .i64 0]) 2 16 rfl Tryz.underlying24 infoR rfl (by decide) (by decide) _ l.length (flatR l) [.int .i64 x.f0, .int .i64 x.f0] rfl rfl rfl (by intro u hu; simp at hu; rcases hu with rfl | rfl <;> rfl) HO.out (below_drew (Below.refl _ _)) HSz.out HLen.out ?_; intro v1 w3 h1 h2 h3 h4; obtain ⟨HO3, HB3⟩ := HSt.out v1 w3 h1 h2; clear h1 h2 h3 h4 hka hxa hk1 hx0 hx2)
          all_goals
            go_wp2_with fail
            go_roundw
            case rel => exact ⟨j + 1, by first | rfl | go_num, by omega, ⟨by rw [HT2.out]; exact HO3.out⟩, HB3⟩
            case measure => simp [intOf]; omega
      | false =>
        have HT2 : Aside0 (chgL (vd.take (j + 1)) cp = l) := ⟨by rw [HT.out, HPg.out, hp]; rfl⟩
        have hcase : cp = false ∧ x.f2.toList.isEmpty = false := by cases cp <;> simp_all
        clear hp HPg HT
        obtain ⟨rfl, hg⟩ := hcase
        go_wp2_with fail
        go_roundw
        case rel => exact ⟨j + 1, by first | rfl | go_num, by omega, ⟨by rw [HT2.out]; exact HO.out⟩, HB⟩
        case measure => simp [intOf]; omega
    · have hltz : ¬ (j : Int) < (vd.length : Int) := by omega
      have HO2 : Aside0 (RowR wr wa.heap.size u6 (chgL vd cp)) := ⟨by have h := HO.out; rwa [List.take_of_length_le (by omega)] at h⟩
      have HLen : Aside0 ((chgL vd cp).length ≤ 1000) := ⟨by have := chgL_len vd cp; have := HL.out; omega⟩
      obtain ⟨B, capB, hv3, hcapB, hCB⟩ := rowR_C HO2.out (by have := HLen.out; omega)
      subst hv3
      have HCB := Aside0.mk hCB
      clear HO HO2 hCB
      go_wp2_with fail
      refine (refMake_any B capB (chgL vd cp) _ HCB.out HLen.out).mono ?_
      rintro e w2 ⟨⟨v9, rfl, hl9, hr9⟩, hb2⟩
      obtain ⟨B2, cap2, hv9, hcap2, hC2⟩ := rowR_C hr9 hl9
      subst hv9
      have hb3 := below_step HB.out hb2
      have hheap : w2.heap[w.heap.size + 1]? = some (.cells #[.slice none 0 0] 26) := by rw [hb3.block _ (by omega)]; exact HSetA.out
      have hcw : w2.cell? ⟨w.heap.size + 1, 0, none⟩ = some (.slice none 0 0) := by simp [World.cell?, hheap]
      have hfw : w2.frozen? ⟨w.heap.size + 1, 0, none⟩ = false := by simp [World.frozen?, hheap]
      have HHeap := Aside0.mk hheap
      have HB3 := Aside0.mk (below_step HWa.out hb3)
      have HC2 := Aside0.mk hC2
      clear hr9 hl9 hb2 hb3 hheap hC2 hlt hltz hj hk1
      generalize hout : mkS (chgL vd cp) = out at HC2 hcap2 ⊢
      have HOut := Aside0.mk hout
      clear hout
      go_wp2_with fail
      (try simp only [Exit.inBlock, Exit.then])
      have hg9 : w2.grownBy (w2.setCell ⟨w.heap.size + 1, 0, none⟩ (.slice B2 out.length cap2)) (some (w.heap.size + 1)) := ⟨rfl, rfl, rfl, by simp [World.setCell], fun i hi hne => Below.heap_setCell _ _ _ _ (fun e => hne (by rw [e]))⟩
      refine bodyPost_ret (results_cell_row rfl _ _ (w.heap.size + 1) 26 #[.slice B2 out.length cap2] (0, 0) _ rfl (by
        rw [Sort.setCell_eq]
        simp [Sort.mapBlock, Array.getElem?_modify, HHeap.out, Sort.onCells]) Tryz.underlying26 rfl (by kernel_rfl)) rfl ?_
      rw [HOut.out]
      refine ⟨⟨B2, cap2, rfl, hcap2, C_aside HC2.out HHeap.out hg9⟩, HB3.out.grown hg9 HB3.out.size (fun k hk => by cases hk; omega)⟩
end Go.Proofs.YtipedgkampafjaaGreatDoor.Rf
/- Opens what came in into rows that are read. -/
namespace Go.Proofs.YtipedgkampafjaaGreatDoor.Rf
open Go.ChangeShapes Go.WideShapes Go.Deep Go.RowKit Go.Proofs.YtipedgkampafjaaGreatDoorW.PrintWords Go.Proofs.YtipedgkampafjaaGreatDoorW.PrintLast Go.Proofs.YtipedgkampafjaaGreatDoorW.PrintMore

section
variable {H : Type} {enc : TypeId × Value → H} {P : Program} {w : World} {base : Nat} {spare : Nat → Bool} {held : Bool}
theorem C_of_trod {α : Type} (d : Kd α) {t e : TypeId} (ht : P.underlying t = some (.slice e)) (hsz : P.cellsOf e = d.sz) (hK : ∀ n cs' y, DataW.trod enc P w base spare held n e cs' = some y → ∃ x, d.K w x cs') {fuel : Nat} {v : Value} {x : DataW H × List MemPlace} (h : DataW.trod enc P w base spare held fuel t [v] = some x) :
    ∃ (A : Option Addr) (xs : List α) (cap : Nat), v = .slice A xs.length cap ∧ xs.length ≤ cap ∧ d.C w A xs.length xs := by
  rcases open_slice ht h with ⟨h0, _⟩ | ⟨a, len, cap, m, n, D, Pl, hcs, hb, hl, hm, hmm, hx, hi⟩
  · simp only [List.cons.injEq, and_true] at h0
    exact ⟨none, [], 0, h0, Nat.le_refl _, Kd.C_nil _ _⟩
  · simp only [List.cons.injEq, and_true] at hcs
    have hlm : len ≤ m := by rw [hmm]; split <;> omega
    have key : ∀ k, k ≤ len → ∃ xs : List α, xs.length = k ∧ ∀ j p, xs[j]? = some p → ∃ c, c.length = d.sz ∧ d.K w p c ∧ ∀ i u, c[i]? = some u → w.cell? (a.add (j * d.sz + i)) = some u := by
      intro k
      induction k with
      | zero => intro _; exact ⟨[], rfl, fun j p hj => by simp at hj⟩
      | succ k ih =>
        intro hk
        obtain ⟨xs, hxl, hxs⟩ := ih (by omega)
        obtain ⟨cs', hc, ht'⟩ := hi k (by omega)
        obtain ⟨p0, hp0⟩ := hK _ _ _ ht'
        obtain ⟨_, hcl, hat⟩ := World.cells?_some hc
        refine ⟨xs ++ [p0], by simp [hxl], fun j p hj => ?_⟩
        by_cases hjk : j < k
        · rw [List.getElem?_append_left (by omega)] at hj
          exact hxs j p hj
        · have hjl : j < (xs ++ [p0]).length := (List.getElem?_eq_some_iff.1 hj).1
          have hje : j = k := by simp [hxl] at hjl; omega
          subst hje
          rw [List.getElem?_append_right (by omega), hxl, Nat.sub_self] at hj
          cases hj
          refine ⟨cs', by rw [hcl, hsz], hp0, fun i u hu => ?_⟩
          have hil : i < cs'.length := (List.getElem?_eq_some_iff.1 hu).1
          have h1 := hat i (by omega)
          rw [hsz] at h1
          rw [← Go.Deep.add_add, h1, hu]
    obtain ⟨xs, hxl, hxs⟩ := key len (Nat.le_refl _)
    refine ⟨some a, xs, cap, by rw [hcs, hxl], by omega, rfl, by simp [maxLen] at hm; omega, fun _ => ⟨a, rfl, hxs⟩⟩
theorem K_int {k : IntKind} {t : TypeId} (ht : P.underlying t = some (.int k)) {n : Nat} {cs : List Value} {y : DataW H × List MemPlace} (h : DataW.trod enc P w base spare held n t cs = some y) : ∃ x, (Kd.int k).K w x cs := by
  obtain ⟨a, rfl, _, _⟩ := DataW.trod_int ht h
  exact ⟨a, rfl⟩
end
section
variable {H : Type} {enc : TypeId × Value → H} {w : World} {base : Nat} {spare : Nat → Bool} {held : Bool}
theorem cells3 : Tryz.prog.cellsOf 3 = 1 := by kernel_rfl
theorem cellsI : Tryz.prog.cellsOf 34 = 1 := by kernel_rfl
theorem cellsS : Tryz.prog.cellsOf 9 = 1 := by kernel_rfl
set_option maxRecDepth 100000 in
theorem K_range {n : Nat} {cs : List Value} {y : DataW H × List MemPlace} (h : DataW.trod enc Tryz.prog w base spare held n 52 cs = some y) : ∃ x, (k52).K w x cs := by
  obtain ⟨ys, n', _, _, hl, hyl, hf⟩ := DataW.trod_struct Tryz.underlying52 h
  have hc : Tryz.prog.cellsOf 52 = 2 := by kernel_rfl
  rw [hc] at hl
  match cs, hl with
  | [a, b], _ =>
    have h0 := hf 0 _ rfl
    have h1 := hf 1 _ rfl
    simp only [List.getElem_toArray, List.getElem_cons_zero, List.getElem_cons_succ] at h0 h1
    rw [cells3] at h0 h1
    simp only [List.drop_zero, List.drop_succ_cons, List.take_succ_cons, List.take_zero] at h0 h1
    have q : ∀ i, i < 2 → ∃ z, ys[i]? = some z := fun i hi => ⟨_, List.getElem?_eq_getElem (by rw [hyl]; exact hi)⟩
    obtain ⟨z0, e0⟩ := q 0 (by omega)
    obtain ⟨z1, e1⟩ := q 1 (by omega)
    obtain ⟨x0, r0, _⟩ := DataW.trod_int Tryz.underlying3 (h0.trans e0)
    obtain ⟨x1, r1, _⟩ := DataW.trod_int Tryz.underlying3 (h1.trans e1)
    simp at r0 r1
    subst r0; subst r1
    exact ⟨⟨x0, x1⟩, k52_mk w ⟨x0, x1⟩⟩
set_option maxRecDepth 100000 in
theorem K_span {n : Nat} {cs : List Value} {y : DataW H × List MemPlace} (h : DataW.trod enc Tryz.prog w base spare held n 71 cs = some y) : ∃ x, (k71).K w x cs := by
  obtain ⟨ys, n', _, _, hl, hyl, hf⟩ := DataW.trod_struct Tryz.underlying71 h
  have hc : Tryz.prog.cellsOf 71 = 3 := by kernel_rfl
  rw [hc] at hl
  match cs, hl with
  | [a, b, c], _ =>
    have h0 := hf 0 _ rfl
    have h1 := hf 1 _ rfl
    have h2 := hf 2 _ rfl
    simp only [List.getElem_toArray, List.getElem_cons_zero, List.getElem_cons_succ] at h0 h1 h2
    rw [cells3] at h0 h1 h2
    simp only [List.drop_zero, List.drop_succ_cons, List.take_succ_cons, List.take_zero] at h0 h1 h2
    have q : ∀ i, i < 3 → ∃ z, ys[i]? = some z := fun i hi => ⟨_, List.getElem?_eq_getElem (by rw [hyl]; exact hi)⟩
    obtain ⟨z0, e0⟩ := q 0 (by omega)
    obtain ⟨z1, e1⟩ := q 1 (by omega)
    obtain ⟨z2, e2⟩ := q 2 (by omega)
    obtain ⟨x0, r0, _⟩ := DataW.trod_int Tryz.underlying3 (h0.trans e0)
    obtain ⟨x1, r1, _⟩ := DataW.trod_int Tryz.underlying3 (h1.trans e1)
    obtain ⟨x2, r2, _⟩ := DataW.trod_int Tryz.underlying3 (h2.trans e2)
    simp at r0 r1 r2
    subst r0; subst r1; subst r2
    exact ⟨⟨x0, x1, x2⟩, k71_mk w ⟨x0, x1, x2⟩⟩
set_option maxRecDepth 100000 in
theorem K_mapping {n : Nat} {cs : List Value} {y : DataW H × List MemPlace} (h : DataW.trod enc Tryz.prog w base spare held n 61 cs = some y) : ∃ x, (k61).K w x cs := by
  obtain ⟨ys, n', _, _, hl, hyl, hf⟩ := DataW.trod_struct Tryz.underlying61 h
  have hc : Tryz.prog.cellsOf 61 = 3 := by kernel_rfl
  rw [hc] at hl
  match cs, hl with
  | [a, b, c], _ =>
    have h0 := hf 0 _ rfl
    have h1 := hf 1 _ rfl
    have h2 := hf 2 _ rfl
    simp only [List.getElem_toArray, List.getElem_cons_zero, List.getElem_cons_succ] at h0 h1 h2
    rw [cells3] at h0
    rw [cellsI] at h1
    rw [cellsS] at h2
    simp only [List.drop_zero, List.drop_succ_cons, List.take_succ_cons, List.take_zero] at h0 h1 h2
    have q : ∀ i, i < 3 → ∃ z, ys[i]? = some z := fun i hi => ⟨_, List.getElem?_eq_getElem (by rw [hyl]; exact hi)⟩
    obtain ⟨z0, e0⟩ := q 0 (by omega)
    obtain ⟨z1, e1⟩ := q 1 (by omega)
    obtain ⟨z2, e2⟩ := q 2 (by omega)
    obtain ⟨x0, r0, _⟩ := DataW.trod_int Tryz.underlying3 (h0.trans e0)
    obtain ⟨x2, r2, _⟩ := DataW.trod_string Tryz.underlying9 (h2.trans e2)
    obtain ⟨A, xs, cap, rb, hcap, hC⟩ := C_of_trod (Kd.int .i64) Tryz.underlying34 cells3 (fun n cs y h => K_int Tryz.underlying3 h) (h1.trans e1)
    simp at r0 r2
    subst r0; subst r2; subst rb
    exact ⟨⟨x0, xs, x2⟩, k61_mk w ⟨x0, xs, x2⟩ hcap hC⟩
end
end Go.Proofs.YtipedgkampafjaaGreatDoor.Rf
/- What the laid variable holds. -/
namespace Go.Proofs.YtipedgkampafjaaGreatDoor
open Go.ChangeShapes Go.WideShapes Go.ChangeAt Go.WideMaps Go.WideElems Go.RowKit

namespace Rf
section
variable {H : Type} {enc : TypeId × Value → H} {w : World} {base : Nat} {spare : Nat → Bool} {held : Bool}
set_option maxRecDepth 100000 in
theorem range_vals {n : Nat} {cs : List Value} {y : DataW H × List MemPlace} {a b : Int} (h : DataW.trod enc Tryz.prog w base spare held n 52 cs = some y) (hy : y.1 = .agg [.lit (.int .i64 a), .lit (.int .i64 b)]) : cs = [.int .i64 a, .int .i64 b] := by
  obtain ⟨ys, n', _, hyy, hl, hyl, hf⟩ := DataW.trod_struct Tryz.underlying52 h
  have hc : Tryz.prog.cellsOf 52 = 2 := by kernel_rfl
  rw [hc] at hl
  match cs, hl with
  | [a', b'], _ =>
    have h0 := hf 0 _ rfl
    have h1 := hf 1 _ rfl
    simp only [List.getElem_toArray, List.getElem_cons_zero, List.getElem_cons_succ] at h0 h1
    rw [cells3] at h0 h1
    simp only [List.drop_zero, List.drop_succ_cons, List.take_succ_cons, List.take_zero] at h0 h1
    match ys, hyl with
    | [z0, z1], _ =>
      obtain ⟨x0, r0, s0, _⟩ := DataW.trod_int Tryz.underlying3 (x := z0) h0
      obtain ⟨x1, r1, s1, _⟩ := DataW.trod_int Tryz.underlying3 (x := z1) h1
      simp at r0 r1
      subst r0; subst r1; subst s0; subst s1
      rw [hyy] at hy
      simp at hy
      rw [hy.1, hy.2]
end
end Rf

theorem gRanges : Tryz.prog.globalNamed "unicodetext/ordering.ranges" = some 0 := by kernel_rfl
theorem tRanges : (Tryz.prog.globals[0]?).map (·.type) = some 103 := by kernel_rfl
set_option maxRecDepth 100000 in
theorem of_laid {W : World} (h : laidMetH Tryz.prog [("unicodetext/ordering.ranges", Rows.laid_unicodetext_ordering_ranges)] W) : Rf.GL W := by
  rw [MakeChecks.laidMetH_plain _ _ _ (by kernel_rfl)] at h
  obtain ⟨ps, ⟨g0, t0, cs0, f0, p0, q0, hg0, ht0, hv0, hd0, _, _⟩, _, _⟩ := h
  obtain rfl := Option.some.inj (gRanges.symm.trans hg0)
  obtain rfl := Option.some.inj (tRanges.symm.trans ht0)
  obtain ⟨xs, m1, rfl, hx1, hlen, hn4, hel⟩ := DataW.trod_array Tryz.underlying103 hd0
  have c2 : Tryz.prog.cellsOf 52 = 2 := by kernel_rfl
  have c8 : Tryz.prog.cellsOf 103 = 8 := by kernel_rfl
  rw [c8] at hlen
  rw [c2] at hel
  simp only [Prod.mk.injEq, Rows.laid_unicodetext_ordering_ranges, DataW.agg.injEq] at hx1
  obtain ⟨l⟩ := cs0
  have hc := fun i => World.var?_cell hg0 hv0 i
  simp only at hlen hel
  match l, hlen, xs, hn4, hx1.1 with
  | [a0, a1, a2, a3, a4, a5, a6, a7], _, [x0, x1, x2, x3], _, hx =>
    simp only [List.map_cons, List.map_nil, List.cons.injEq, and_true] at hx
    have e0 := Rf.range_vals (hel 0 (by decide)) hx.1.symm
    have e1 := Rf.range_vals (hel 1 (by decide)) hx.2.1.symm
    have e2 := Rf.range_vals (hel 2 (by decide)) hx.2.2.1.symm
    have e3 := Rf.range_vals (hel 3 (by decide)) hx.2.2.2.symm
    simp at e0 e1 e2 e3
    obtain ⟨rfl, rfl⟩ := e0
    obtain ⟨rfl, rfl⟩ := e1
    obtain ⟨rfl, rfl⟩ := e2
    obtain ⟨rfl, rfl⟩ := e3
    exact ⟨by simpa using hc 0, by simpa using hc 1, by simpa using hc 2, by simpa using hc 3, by simpa using hc 4, by simpa using hc 5, by simpa using hc 6, by simpa using hc 7⟩
end Go.Proofs.YtipedgkampafjaaGreatDoor
/- Opens data and texts that came in. -/
namespace Go.Proofs.YtipedgkampafjaaGreatDoor

namespace Rf
open Go.ChangeShapes Go.WideShapes Go.Deep Go.RowKit Go.Proofs.YtipedgkampafjaaGreatDoorW.PrintWords Go.Proofs.YtipedgkampafjaaGreatDoorW.PrintLast Go.Proofs.YtipedgkampafjaaGreatDoorW.PrintMore
section
variable {H : Type} {enc : TypeId × Value → H} {P : Program} {w : World} {base : Nat} {spare : Nat → Bool} {held : Bool}
theorem C_of_trodQ {α : Type} (d : Kd α) (Q : α → Prop) {t e : TypeId} (ht : P.underlying t = some (.slice e)) (hsz : P.cellsOf e = d.sz) (hK : ∀ n cs' y, DataW.trod enc P w base spare held n e cs' = some y → ∃ x, d.K w x cs' ∧ Q x) {fuel : Nat} {v : Value} {x : DataW H × List MemPlace} (h : DataW.trod enc P w base spare held fuel t [v] = some x) :
    ∃ (A : Option Addr) (xs : List α) (cap : Nat), v = .slice A xs.length cap ∧ xs.length ≤ cap ∧ d.C w A xs.length xs ∧ ∀ x ∈ xs, Q x := by
  rcases open_slice ht h with ⟨h0, _⟩ | ⟨a, len, cap, m, n, D, Pl, hcs, hb, hl, hm, hmm, hx, hi⟩
  · simp only [List.cons.injEq, and_true] at h0
    exact ⟨none, [], 0, h0, Nat.le_refl _, Kd.C_nil _ _, fun x hx => (by cases hx)⟩
  · simp only [List.cons.injEq, and_true] at hcs
    have hlm : len ≤ m := by rw [hmm]; split <;> omega
    have key : ∀ k, k ≤ len → ∃ xs : List α, xs.length = k ∧ (∀ x ∈ xs, Q x) ∧ ∀ j p, xs[j]? = some p → ∃ c, c.length = d.sz ∧ d.K w p c ∧ ∀ i u, c[i]? = some u → w.cell? (a.add (j * d.sz + i)) = some u := by
      intro k
      induction k with
      | zero => intro _; exact ⟨[], rfl, fun x hx => (by cases hx), fun j p hj => by simp at hj⟩
      | succ k ih =>
        intro hk
        obtain ⟨xs, hxl, hxq, hxs⟩ := ih (by omega)
        obtain ⟨cs', hc, ht'⟩ := hi k (by omega)
        obtain ⟨p0, hp0, hq0⟩ := hK _ _ _ ht'
        obtain ⟨_, hcl, hat⟩ := World.cells?_some hc
        refine ⟨xs ++ [p0], by simp [hxl], fun x hx => (by rcases List.mem_append.1 hx with h | h; exact hxq x h; simp only [List.mem_singleton] at h; rw [h]; exact hq0), fun j p hj => ?_⟩
        by_cases hjk : j < k
        · rw [List.getElem?_append_left (by omega)] at hj
          exact hxs j p hj
        · have hjl : j < (xs ++ [p0]).length := (List.getElem?_eq_some_iff.1 hj).1
          have hje : j = k := by simp [hxl] at hjl; omega
          subst hje
          rw [List.getElem?_append_right (by omega), hxl, Nat.sub_self] at hj
          cases hj
          refine ⟨cs', by rw [hcl, hsz], hp0, fun i u hu => ?_⟩
          have hil : i < cs'.length := (List.getElem?_eq_some_iff.1 hu).1
          have h1 := hat i (by omega)
          rw [hsz] at h1
          rw [← Go.Deep.add_add, h1, hu]
    obtain ⟨xs, hxl, hxq, hxs⟩ := key len (Nat.le_refl _)
    refine ⟨some a, xs, cap, by rw [hcs, hxl], by omega, ⟨rfl, by simp [maxLen] at hm; omega, fun _ => ⟨a, rfl, hxs⟩⟩, hxq⟩
end
set_option maxRecDepth 100000 in
theorem openText {H : Type} {enc : TypeId × Value → H} {w : World} {base : Nat} {spare : Nat → Bool} {held : Bool} {v : Value} {d : DataW H} {p : List MemPlace} (h : ∃ fuel, DataW.trod enc Tryz.prog w base spare held fuel 34 [v] = some (d, p)) :
    ∃ (A : Option Addr) (xs : List Int) (cap : Nat), v = .slice A xs.length cap ∧ xs.length ≤ cap ∧ (Kd.int .i64).C w A xs.length xs ∧ ∀ x ∈ xs, inR x := by
  obtain ⟨fuel, h⟩ := h
  refine C_of_trodQ (Kd.int .i64) inR Tryz.underlying34 cells3 (fun n cs y h => ?_) h
  obtain ⟨a, rfl, _, hw⟩ := DataW.trod_int Tryz.underlying3 h
  refine ⟨a, rfl, ?_⟩
  simp [Lit.wf, IntKind.min, IntKind.max, IntKind.signed, IntKind.bits] at hw
  unfold inR; omega
end Rf

open Go.ChangeShapes Go.WideShapes Go.ChangeAt Go.WideMaps Go.WideElems Go.RowKit

abbrev laidL : List (String × DataW Unit) := [("unicodetext/ordering.ranges", Rows.laid_unicodetext_ordering_ranges)]
theorem ownK : ownKnob Tryz.prog.godebug = none := by kernel_rfl
theorem laidOutA : laidOutB Tryz.prog = true := by kernel_rfl
theorem door_met (os : Os) (args : Array Value) : laidMetH Tryz.prog laidL ((World.doorLaid Tryz.prog 400 os).forCall (fun _ _ => 0) ⟨#[], args, []⟩).memory :=
  laidMetH_of_parts3 (fuel := 8) (laidMet_of_run' 8 (by kernel_rfl) (by kernel_rfl)) (by kernel_rfl) (by kernel_rfl)

set_option maxRecDepth 100000 in
theorem openNorm {H : Type} {enc : TypeId × Value → H} {w : World} {base : Nat} {spare : Nat → Bool} {held : Bool} {cs : Array Value} {d : DataW H} {p : List MemPlace} (h : DataW.Trod enc Tryz.prog w base spare held 28 (.agg cs) d p) :
    ∃ (Ac Ad Ax : Option Addr) (cc cd cx : Nat) (cl : List Rf.S71) (dm : List Rf.S61) (ex : List Rf.S52), cs = #[.slice Ac cl.length cc, .slice Ad dm.length cd, .slice Ax ex.length cx] ∧
      (cl.length ≤ cc ∧ Rf.k71.C w Ac cl.length cl) ∧ (dm.length ≤ cd ∧ Rf.k61.C w Ad dm.length dm) ∧ (ex.length ≤ cx ∧ Rf.k52.C w Ax ex.length ex) := by
  obtain ⟨fuel, hf⟩ := h
  obtain ⟨ys, n', _, _, hl, hyl, hff⟩ := DataW.trod_struct Tryz.underlying28 hf
  have hc : Tryz.prog.cellsOf 28 = 3 := by kernel_rfl
  rw [hc] at hl
  obtain ⟨l⟩ := cs
  have hl' : l.length = 3 := by simpa [Value.cells] using hl
  match l, hl' with
  | [a, b, c], _ =>
    have h0 := hff 0 _ rfl
    have h1 := hff 1 _ rfl
    have h2 := hff 2 _ rfl
    simp only [List.getElem_toArray, List.getElem_cons_zero, List.getElem_cons_succ, Value.cells] at h0 h1 h2
    have k0 : Tryz.prog.cellsOf 22 = 1 := by kernel_rfl
    have k1 : Tryz.prog.cellsOf 23 = 1 := by kernel_rfl
    have k2 : Tryz.prog.cellsOf 26 = 1 := by kernel_rfl
    have k3 : Tryz.prog.cellsOf 24 = 1 := by kernel_rfl
    rw [k0] at h0
    rw [k1] at h1
    rw [k2] at h2
    simp only [List.drop_zero, List.drop_succ_cons, List.take_succ_cons, List.take_zero] at h0 h1 h2
    match ys, hyl with
    | [z0, z1, z2], _ =>
      obtain ⟨Ac, cl, cc, ea, hca, hCa⟩ := Rf.C_of_trod Rf.k71 Tryz.underlying22 (by kernel_rfl) (fun n cs y h => Rf.K_span h) (x := z0) h0
      obtain ⟨Ad, dm, cd, eb, hcb, hCb⟩ := Rf.C_of_trod Rf.k61 Tryz.underlying23 (by kernel_rfl) (fun n cs y h => Rf.K_mapping h) (x := z1) h1
      obtain ⟨zs, m', _, _, hl3, hzl, hg⟩ := DataW.trod_struct Tryz.underlying26 (x := z2) h2
      have h3 := hg 0 _ rfl
      simp only [List.getElem_toArray, List.getElem_cons_zero] at h3
      rw [k3] at h3
      simp only [List.drop_zero, List.take_succ_cons, List.take_zero] at h3
      match zs, hzl with
      | [u0], _ =>
        obtain ⟨Ax, ex, cx, ec, hcc, hCc⟩ := Rf.C_of_trod Rf.k52 Tryz.underlying24 (by kernel_rfl) (fun n cs y h => Rf.K_range h) (x := u0) h3
        subst ea; subst eb; subst ec
        exact ⟨Ac, Ad, Ax, cc, cd, cx, cl, dm, ex, rfl, ⟨hca, hCa⟩, ⟨hcb, hCb⟩, ⟨hcc, hCc⟩⟩

end Go.Proofs.YtipedgkampafjaaGreatDoor
/- Tells that the law DecomposeChanges comes to true. -/
namespace Go.Proofs.YtipedgkampafjaaGreatDoor.Rf
open Go.Shelf Go.RowKit Go.Proofs.YtipedgkampafjaaGreatDoorW.PrintWords Go.Proofs.YtipedgkampafjaaGreatDoorW.PrintLast Go.Proofs.YtipedgkampafjaaGreatDoorW.PrintMore

theorem onceV_ok {w' : World} {e : Ending} {o : Option (List Int)} (h : OnceV w' e o) : ∃ A n c, e = .returned (.tuple #[.slice A n c, .bool o.isSome]) := by
  cases o with
  | none => exact ⟨none, 0, 0, h⟩
  | some l => obtain ⟨A, c, h1, _⟩ := h; exact ⟨A, l.length, c, h1⟩

set_option maxRecDepth 100000 in
set_option maxHeartbeats 16000000 in
theorem changes_law_any (Ac Ad Ax : Option Addr) (cc cd cx : Nat) (cl : List S71) (dm : List S61) (ex : List RR) (c : Int) (cp : Bool) (w : World) (hG : GL w)
    (hrc : Kd.C k71 w Ac cl.length cl) (hcc : cl.length ≤ cc) (hrd : Kd.C k61 w Ad dm.length dm) (hcd : dm.length ≤ cd) (hrx : Kd.C k52 w Ax ex.length ex) (hcx : ex.length ≤ cx) (hc : inR c) :
    Calls Tryz.prog 4 #[.agg #[.slice Ac cl.length cc, .slice Ad dm.length cd, .slice Ax ex.length cx], .int .i64 c, .bool cp] w fun e w' => e = .returned (.bool true) ∧ Below w.heap.size w w' := by
  have HB0 : Aside0 (Below w.heap.size w (w.alloc (.cells #[.slice Ac cl.length cc, .slice Ad dm.length cd, .slice Ax ex.length cx] 28))) := ⟨below_alloc (Below.refl _ _) _⟩
  have hx0 : (w.alloc (.cells #[.slice Ac cl.length cc, .slice Ad dm.length cd, .slice Ax ex.length cx] 28)).cell? ⟨w.heap.size, 0, none⟩ = some (.slice Ac cl.length cc) := by simp
  have hx1 : (w.alloc (.cells #[.slice Ac cl.length cc, .slice Ad dm.length cd, .slice Ax ex.length cx] 28)).cell? ⟨w.heap.size, 1, none⟩ = some (.slice Ad dm.length cd) := by simp
  have hx2 : (w.alloc (.cells #[.slice Ac cl.length cc, .slice Ad dm.length cd, .slice Ax ex.length cx] 28)).cell? ⟨w.heap.size, 2, none⟩ = some (.slice Ax ex.length cx) := by simp
  have HS : Aside0 (∀ W, Below w.heap.size w W → Calls Tryz.prog 8 #[.agg #[.slice Ac cl.length cc, .slice Ad dm.length cd, .slice Ax ex.length cx]] W fun e w' => e = .returned (.bool (smallS cl dm ex)) ∧ Below W.heap.size W w') :=
    ⟨fun W hW => smallx_any Ac Ad Ax cc cd cx cl dm ex W (Kd.C_below hrd hW) (by have := Kd.C_max hrd; omega)⟩
  have HCh : Aside0 (smallS cl dm ex = true → ∀ W, Below w.heap.size w W → Calls Tryz.prog 12 #[.agg #[.slice Ac cl.length cc, .slice Ad dm.length cd, .slice Ax ex.length cx], .bool cp] W fun e w' => RetS w' e (mkS (chgL (vdm cl dm ex) cp)) ∧ Below W.heap.size W w') :=
    ⟨fun h W hW => by
      obtain ⟨q1, q2, q3, _⟩ := smallS_ok h
      exact dchanged_any Ac Ad Ax cc cd cx cl dm ex cp W (GL.below hG hW) (Kd.C_below hrc hW) hcc (by omega) (Kd.C_below hrd hW) hcd (by omega) (Kd.C_below hrx hW) hcx (by omega)⟩
  have HRf : Aside0 (smallS cl dm ex = true → ∀ W, Below w.heap.size w W → Calls Tryz.prog 16 #[.agg #[.slice Ac cl.length cc, .slice Ad dm.length cd, .slice Ax ex.length cx], .bool cp] W fun e w' => RetS w' e (mkS (chgL (vdm cl dm ex) cp)) ∧ Below W.heap.size W w') :=
    ⟨fun h W hW => by
      obtain ⟨q1, q2, q3, q4⟩ := smallS_ok h
      exact refChanged_any Ac Ad Ax cc cd cx cl dm ex cp W (Kd.C_below hrc hW) hcc (by omega) (Kd.C_below hrd hW) hcd (by omega) (Kd.C_below hrx hW) hcx (by omega) (fun x hx => by have := q4 x hx; omega)⟩
  have HOn : Aside0 (smallS cl dm ex = true → ∀ W, Below w.heap.size w W → Calls Tryz.prog 13 #[.agg #[.slice Ac cl.length cc, .slice Ad dm.length cd, .slice Ax ex.length cx], .int .i64 c, .bool cp] W fun e w' => (∃ A n k, e = .returned (.tuple #[.slice A n k, .bool (onceS (vdm cl dm ex) cp c).isSome])) ∧ Below W.heap.size W w') :=
    ⟨fun h W hW => by
      obtain ⟨q1, q2, q3, _⟩ := smallS_ok h
      exact (donce_any Ac Ad Ax cc cd cx cl dm ex c cp W (GL.below hG hW) (Kd.C_below hrc hW) hcc (by omega) (Kd.C_below hrd hW) hcd (by omega) (Kd.C_below hrx hW) hcx (by omega) hc).mono fun e w' ⟨h1, h2⟩ => ⟨onceV_ok h1, h2⟩⟩
  have HA : Aside0 (∀ W, Below w.heap.size w W → Calls Tryz.prog 11 #[] W fun e w' => e = .returned (.bool true) ∧ Below W.heap.size W w') := ⟨fun W hW => alive_any W (GL.below hG hW)⟩
  have HHas : Aside0 (hasS (mkS (chgL (vdm cl dm ex) cp)) c = (onceS (vdm cl dm ex) cp c).isSome) := ⟨chg_once (vdm_good cl dm ex) (vdm_one cl dm ex) cp c⟩
  have HCan : Aside0 (canonR (mkS (chgL (vdm cl dm ex) cp)) = true) := ⟨(mkS_ok _).1⟩
  have HLen : Aside0 (smallS cl dm ex = true → (mkS (chgL (vdm cl dm ex) cp)).length ≤ 1000) := ⟨fun h => by
    obtain ⟨q1, q2, q3, _⟩ := smallS_ok h
    have h2 := mkS_len (chgL (vdm cl dm ex) cp)
    have h3 := chgL_len (vdm cl dm ex) cp
    have h4 : (vdm cl dm ex).length ≤ dm.length := by
      unfold vdm
      split
      · exact Nat.le_refl _
      · simp
    omega⟩
  clear hG hrc hcc hrd hcd hrx hcx hc
  generalize (onceS (vdm cl dm ex) cp c).isSome = ok at HOn HHas
  generalize mkS (chgL (vdm cl dm ex) cp) = out at HCh HRf HHas HCan HLen
  generalize smallS cl dm ex = b at HS HCh HRf HOn HLen
  go_enter Tryz.func4, Tryz.ntmps4
  go_wp2_with fail
  obtain ⟨w0, hw0⟩ : ∃ x, x = w.alloc (.cells #[.slice Ac cl.length cc, .slice Ad dm.length cd, .slice Ax ex.length cx] 28) := ⟨_, rfl⟩
  rw [← hw0] at HB0 hx0 hx1 hx2 ⊢
  clear hw0
  have HKp : Aside0 (∀ W, Below w0.heap.size w0 W → W.cell? ⟨w.heap.size, 0, none⟩ = some (.slice Ac cl.length cc) ∧ W.cell? ⟨w.heap.size, 1, none⟩ = some (.slice Ad dm.length cd) ∧ W.cell? ⟨w.heap.size, 2, none⟩ = some (.slice Ax ex.length cx)) := ⟨fun W hW => ⟨by rw [hW.cell (cell_lt hx0)]; exact hx0, by rw [hW.cell (cell_lt hx1)]; exact hx1, by rw [hW.cell (cell_lt hx2)]; exact hx2⟩⟩
  clear hx0 hx1 hx2
  refine (HS.out _ HB0.out).mono ?_
  rintro e w1 ⟨rfl, hb1⟩
  have HB1 := Aside0.mk hb1
  have HT1 := Aside0.mk (below_step HB0.out hb1)
  clear hb1
  cases b with
  | false =>
    go_wp2_with fail
    refine (HA.out _ HT1.out).mono ?_
    rintro e w2 ⟨rfl, hb2⟩
    go_wp2_with fail
    go_ret
    exact ⟨rfl, below_step HT1.out hb2⟩
  | true =>
    have HCh2 := Aside0.mk (HCh.out rfl)
    have HRf2 := Aside0.mk (HRf.out rfl)
    have HOn2 := Aside0.mk (HOn.out rfl)
    have HLen2 := Aside0.mk (HLen.out rfl)
    clear HCh HRf HOn HLen
    obtain ⟨y0, y1, y2⟩ := HKp.out _ HB1.out
    go_wp2_with fail
    refine (HCh2.out _ HT1.out).mono ?_
    rintro e w2 ⟨⟨B, cap, rfl, hcap, hC⟩, hb2⟩
    have HB2 := Aside0.mk (below_step HB1.out hb2)
    have HT2 := Aside0.mk (below_step HT1.out hb2)
    have HCB := Aside0.mk hC
    clear hb2 hC hcap y0 y1 y2
    have HB3 : Aside0 (Below w0.heap.size w0 (w2.alloc (.cells #[.slice B out.length cap] 26))) := ⟨below_alloc HB2.out _⟩
    have HT3 : Aside0 (Below w.heap.size w (w2.alloc (.cells #[.slice B out.length cap] 26))) := ⟨below_alloc HT2.out _⟩
    have HC3 : Aside0 ((w2.alloc (.cells #[.slice B out.length cap] 26)).cell? ⟨w2.heap.size, 0, none⟩ = some (.slice B out.length cap)) := ⟨cell_new_sl _ _ _⟩
    have HCB3 := Aside0.mk (Kd.C_alloc HCB.out (.cells #[.slice B out.length cap] 26))
    obtain ⟨y0, y1, y2⟩ := HKp.out _ HB3.out
    go_wp2_with fail
    obtain ⟨w3, hw3⟩ : ∃ x, x = w2.alloc (.cells #[.slice B out.length cap] 26) := ⟨_, rfl⟩
    rw [← hw3] at HB3 HT3 HC3 HCB3 y0 y1 y2 ⊢
    clear hw3 HCB
    refine (HOn2.out _ HT3.out).mono ?_
    rintro e w4 ⟨⟨A4, n4, c4, rfl⟩, hb4⟩
    have HT4 := Aside0.mk (below_step HT3.out hb4)
    have HC4 : Aside0 (w4.cell? ⟨w2.heap.size, 0, none⟩ = some (.slice B out.length cap)) := ⟨by rw [hb4.cell (cell_lt HC3.out)]; exact HC3.out⟩
    have HB4 := Aside0.mk (below_step HB3.out hb4)
    have HCB4 := Aside0.mk (Kd.C_below HCB3.out hb4)
    clear hb4 y0 y1 y2 HC3 HCB3 HB3 HT3 HB2 HT2 HB1 HT1
    have HKeep : Aside0 (∀ W, Below w4.heap.size w4 W → W.cell? ⟨w.heap.size, 0, none⟩ = some (.slice Ac cl.length cc) ∧ W.cell? ⟨w.heap.size, 1, none⟩ = some (.slice Ad dm.length cd) ∧ W.cell? ⟨w.heap.size, 2, none⟩ = some (.slice Ax ex.length cx) ∧ W.cell? ⟨w2.heap.size, 0, none⟩ = some (.slice B out.length cap)) := ⟨fun W hW => by
      obtain ⟨y0, y1, y2⟩ := HKp.out W (below_step HB4.out hW)
      exact ⟨y0, y1, y2, by rw [hW.cell (cell_lt HC4.out)]; exact HC4.out⟩⟩
    have HVd : Aside0 (∀ W, Below w4.heap.size w4 W → Calls Tryz.prog 14 #[.agg #[.slice B out.length cap]] W fun e w' => e = .returned (.bool true) ∧ Below W.heap.size W w') := ⟨fun W hW => by
      have h := refSetValid_any B cap out W (Kd.C_below HCB4.out hW) HLen2.out
      rw [HCan.out] at h
      exact h⟩
    have HSa : Aside0 (∀ W (Q : Option Addr) (d : Nat), Below w4.heap.size w4 W → Kd.C k52 W Q out.length out → Calls Tryz.prog 15 #[.agg #[.slice B out.length cap], .agg #[.slice Q out.length d]] W fun e w' => e = .returned (.bool true) ∧ Below W.heap.size W w') := ⟨fun W Q d hW hQ => by
      have h := refSame_any B Q cap d out out W (Kd.C_below HCB4.out hW) hQ (by have := HLen2.out; omega) (by have := HLen2.out; omega)
      rw [decide_eq_true (rfl : out = out)] at h
      exact h⟩
    have HHs : Aside0 (∀ W, Below w4.heap.size w4 W → Calls Tryz.prog 17 #[.agg #[.slice B out.length cap], .int .i64 c] W fun e w' => e = .returned (.bool ok) ∧ Below W.heap.size W w') := ⟨fun W hW => by
      have h := refHas_any B cap out c W (Kd.C_below HCB4.out hW) (by have := HLen2.out; omega)
      rw [HHas.out] at h
      exact h⟩
    obtain ⟨y0, y1, y2, y3⟩ := HKeep.out _ (Below.refl _ _)
    go_wp2_with fail
    cases ok
    all_goals
      go_region_held3 (fun w' => w'.cell? ⟨w.heap.size, 0, none⟩ = some (.slice Ac cl.length cc) ∧ w'.cell? ⟨w.heap.size, 1, none⟩ = some (.slice Ad dm.length cd) ∧ w'.cell? ⟨w.heap.size, 2, none⟩ = some (.slice Ax ex.length cx) ∧ w'.cell? ⟨w2.heap.size, 0, none⟩ = some (.slice B out.length cap))
        (first | go_keep | exact HKeep.out _ HW1.out | exact HKeep.out _ HW2.out | exact HKeep.out _ HW3.out | exact HKeep.out _ HW4.out | exact HKeep.out _ HW5.out)
        (first
          | (go_at_call 14; (with_reducible refine (HVd.out _ ?_).mono ?_); exact below_drew (Below.refl _ _); rintro e w5 ⟨rfl, hb5⟩; have HW1 := Aside0.mk (below_step (below_drew (Below.refl w4.heap.size w4)) hb5); clear hb5)
          | (go_at_call 16; (with_reducible refine (HRf2.out _ ?_).mono ?_); exact below_step HT4.out HW1.out; rintro e w6 ⟨⟨B6, c6, rfl, hl6, hC6⟩, hb6⟩; have HC6 := Aside0.mk hC6; have HW2 := Aside0.mk (below_step HW1.out hb6); clear hl6 hC6 hb6)
          | (go_at_call 15; (with_reducible refine (HSa.out _ _ _ HW2.out HC6.out).mono ?_); rintro e w7 ⟨rfl, hb7⟩; have HW3 := Aside0.mk (below_step HW2.out hb7); clear hb7)
          | (go_at_call 17; (with_reducible refine (HHs.out _ HW3.out).mono ?_); rintro e w8 ⟨rfl, hb8⟩; have HW4 := Aside0.mk (below_step HW3.out hb8); clear hb8)
          | (go_at_call 11; (with_reducible refine (HA.out _ ?_).mono ?_); exact below_step HT4.out HW4.out; rintro e w9 ⟨rfl, hb9⟩; have HW5 := Aside0.mk (below_step HW4.out hb9); clear hb9))
      go_wp2_with fail
      go_ret
      exact ⟨rfl, below_step HT4.out HW5.out⟩
end Go.Proofs.YtipedgkampafjaaGreatDoor.Rf
/- The row and the tied card of DecomposeChanges. -/
namespace Go.Proofs.YtipedgkampafjaaGreatDoor
open Go.ChangeShapes Go.WideShapes Go.ChangeAt Go.WideMaps Go.WideElems Go.RowKit

set_option maxRecDepth 100000 in
set_option maxHeartbeats 2000000 in
theorem decomposeChanges_lifted (os : Os) (started : os.Started) (H : Type) (enc : TypeId × Value → H) :
    ReturnsInHanded {} Tryz.checked os 4 .any (fun w args => (Rows.decomposeChangesSpec.pre enc Tryz.prog Tryz.f4 [] false w args ∧ laidMetH Tryz.prog laidL w) ∧ sizedMet enc Tryz.prog Tryz.f4 (OpenSpec.ofChange Rows.decomposeChangesSpec) false w args)
      (Rows.decomposeChangesSpec.post enc Tryz.prog Tryz.f4 false true false false) := by
  refine returnsInHanded_of_change_and (C := Tryz.checked) (X := fun w _ => laidMetH Tryz.prog laidL w) (fun _ _ _ hh h => h.of_heap hh) ownK started (by kernel_rfl) Tryz.func4
    (ChangeSpec.witness_shaped (enc := enc) (C := Tryz.checked) (os := os) (X := fun w _ => laidMetH Tryz.prog laidL w) false (World.doorLaid Tryz.prog 400 os) #[.agg #[.slice none 0 0, .slice none 0 0, .slice none 0 0], .int .i64 0, .bool false] 8 rfl (World.shaped_of_RefB (by kernel_rfl) (by kernel_rfl)) (by kernel_rfl) (by kernel_rfl) (by kernel_rfl) (door_met os _)) ?_
  intro W base args ds gs before hval0 hW _ _ hL _
  have hval : ∀ (j : Nat) t v, Tryz.f4.params[j]? = some t → args[j]? = some v → Value.okWide Tryz.prog W .any base t v := hval0
  have hW' := hW
  obtain ⟨p, q, hA0, hV, rfl, hfz, hnd⟩ := hW
  have hA : DataW.TrodAll enc Tryz.prog W 0 (fun _ => true) true Tryz.f4.params.toList args.toList ds p := hA0
  rw [Tryz.params4] at hA hval
  obtain ⟨v0, v1, v2, d0, d1, d2, p0, p1, p2, rfl, rfl, rfl, h0, h1, h2⟩ := trodAll_three hA
  obtain ⟨rfl, rfl⟩ := trodVars_none hV
  obtain ⟨cs, rfl, _⟩ := okWide_struct Tryz.underlying28 (hval 0 28 v0 rfl rfl)
  have k0 := h0
  have lt0 : ∀ x ∈ p0, x.block < W.heap.size := by obtain ⟨m, hm⟩ := k0; exact DataW.trod_lt m _ _ _ hm
  obtain ⟨Ac, Ad, Ax, cc, cd, cx, cl, dm, ex, rfl, ⟨hcc, hC⟩, ⟨hcd, hD⟩, ⟨hcx, hX⟩⟩ := openNorm h0
  obtain ⟨a1, rfl, rfl, rfl, wa1⟩ := open_int Tryz.underlying3 (hval 1 3 v1 rfl rfl) h1
  have hi1 : Rf.inR a1 := by
    simp [Lit.wf, IntKind.min, IntKind.max, IntKind.signed, IntKind.bits] at wa1
    unfold Rf.inR; omega
  obtain ⟨b2, rfl, rfl, rfl⟩ := open_bool Tryz.underlying4 (hval 2 4 v2 rfl rfl) h2
  refine (Rf.changes_law_any Ac Ad Ax cc cd cx cl dm ex a1 b2 W (of_laid hL) hC hcc hD hcd hX hcx hi1).mono fun e W' ⟨he, bel⟩ => ?_
  subst he
  exact ⟨_, rfl, _, _, _, [], _, [], hW', trodAll_mk1 (shut_bool Tryz.underlying4 _), (trodAll_cons_mk (Below.trod laidOutA (by kernel_rfl) (of_decide_eq_true (by kernel_rfl)) k0 bel lt0) (trodAll_cons_mk (shut_int Tryz.underlying3 wa1) (trodAll_cons_mk (shut_bool Tryz.underlying4 _) trodAll_mk0))), rfl, bel.frame _, fun h => by cases h⟩

theorem decomposeChanges_holds : Rows.DecomposeChangesSaid :=
  OpenClaim.holds_of_wide 4 Tryz.f4 rfl rfl rfl rfl rfl rfl rfl ⟨rfl, rfl, rfl, rfl, rfl⟩ rfl rfl rfl rfl rfl (by kernel_rfl) Tryz.func4 (by kernel_rfl)
    (of_decide_eq_true (by kernel_rfl)) (by unfold Func.isWrapper; first | (rw [if_pos (by decide +kernel)]; kernel_rfl) | (rw [if_neg (by decide +kernel)]; exact ⟨rfl, rfl⟩))
    (fun os started H enc _ => decomposeChanges_lifted os started H enc)

theorem decomposeChanges_card : Rows.DecomposeChangesCardSaid :=
  Claim7.holds_tied_plain_at .later [] [.data] true Rows.decomposeChangesCard.stood.harness false
    decomposeChanges_holds (fun _ h => by cases h) (by kernel_rfl) (fun _ h => by cases h) decomposeChanges_row_tie rfl ⟨rfl, rfl⟩ (by kernel_rfl) rfl
    (fun f fn hf hfn => by
      obtain rfl : f = 4 := Option.some.inj ((show Tryz.prog.funcNamed "unicodetext/unicodetextlaw21.DecomposeChanges" = some 4 by kernel_rfl).symm.trans hf) |>.symm
      obtain rfl : fn = Tryz.f4 := (Option.some.inj (Tryz.func4.symm.trans hfn)).symm
      exact ⟨by kernel_rfl, fun j t ht => by
        rw [Tryz.params4] at ht
        have hm : t ∈ [28, 3, 4] := by simpa using Array.mem_of_getElem? ht
        have hall : ([28, 3, 4].all fun u => !Tryz.prog.wantsStandIn u) = true := by kernel_rfl
        exact (show Tryz.prog.wantsStandIn t = false by simpa using List.all_eq_true.1 hall t hm)⟩)
    (by kernel_rfl)
end Go.Proofs.YtipedgkampafjaaGreatDoor
