import Derived.Test.YtipedgkampafjaaGreatDoorGC4
import Derived.BigQuiet
import Derived.Lib.QuietBelow
import Derived.Test.YtipedgkampafjaaGreatDoorRf0
import Derived.Deep.Slices
import Derived.Deep.Fields
import Derived.ChangeSame
import Derived.Test.YtipedgkampafjaaGreatDoorGC1
import Derived.Test.YtipedgkampafjaaGreatDoorTie
import Derived.ProofKit
import Derived.LaidMore
import Derived.OpenShut
import Derived.Stop.Joined
import Derived.Test.YtipedgkampafjaaGreatDoorCards
import Derived.SevenTiedAt
import Derived.Carry
/- Tells that the example is alive. -/
namespace Go.Proofs.YtipedgkampafjaaGreatDoor.Rf
open Go.Shelf Go.RowKit Go.Proofs.YtipedgkampafjaaGreatDoorW.PrintWords Go.Proofs.YtipedgkampafjaaGreatDoorW.PrintLast Go.Proofs.YtipedgkampafjaaGreatDoorW.PrintMore

theorem C_two {w : World} {b : Nat} {x y : Int} (h0 : w.cell? ⟨b, 0, none⟩ = some (.int .i64 x)) (h1 : w.cell? ⟨b, 1, none⟩ = some (.int .i64 y)) : (Kd.int .i64).C w (some ⟨b, 0, none⟩) 2 [x, y] :=
  C_row (l := [x, y]) (by simp) fun j hj => by
    simp only [List.length_cons, List.length_nil] at hj
    obtain rfl | rfl : j = 0 ∨ j = 1 := by omega
    · simpa [Addr.add] using h0
    · simpa [Addr.add] using h1
theorem C_three {w : World} {b : Nat} {x y z : Int} (h0 : w.cell? ⟨b, 0, none⟩ = some (.int .i64 x)) (h1 : w.cell? ⟨b, 1, none⟩ = some (.int .i64 y)) (h2 : w.cell? ⟨b, 2, none⟩ = some (.int .i64 z)) : (Kd.int .i64).C w (some ⟨b, 0, none⟩) 3 [x, y, z] :=
  C_row (l := [x, y, z]) (by simp) fun j hj => by
    simp only [List.length_cons, List.length_nil] at hj
    obtain rfl | rfl | rfl : j = 0 ∨ j = 1 ∨ j = 2 := by omega
    · simpa [Addr.add] using h0
    · simpa [Addr.add] using h1
    · simpa [Addr.add] using h2
/-- The world in which the example's data lies. -/
def aliveW (w : World) : World :=
  (((w.alloc (.cells #[.int .i64 97, .int .i64 770] 3)).alloc (.cells #[.int .i64 226, .int .i64 769] 3)).alloc
    (.cells #[.int .i64 226, .slice (some ⟨w.heap.size, 0, none⟩) 2 2, .string ⟨#[]⟩, .int .i64 7845, .slice (some ⟨w.heap.size + 1, 0, none⟩) 2 2, .string ⟨#[]⟩] 61)).alloc
    (.cells #[.slice none 0 0, .slice (some ⟨w.heap.size + 1 + 1, 0, none⟩) 2 2, .slice none 0 0] 28)
theorem aliveW_below (w : World) : Below w.heap.size w (aliveW w) := by
  unfold aliveW; exact below_alloc (below_alloc (below_alloc (below_alloc (Below.refl _ _) _) _) _) _
theorem aliveW_0 (w : World) (i : Nat) (v : Value) (h : (#[.int .i64 97, .int .i64 770] : Array Value)[i]? = some v) : (aliveW w).cell? ⟨w.heap.size, i, none⟩ = some v := by
  unfold aliveW
  refine cell_keep (cell_keep (cell_keep ?_ _) _) _
  rw [World.cell?_alloc_new]; exact h
theorem aliveW_1 (w : World) (i : Nat) (v : Value) (h : (#[.int .i64 226, .int .i64 769] : Array Value)[i]? = some v) : (aliveW w).cell? ⟨w.heap.size + 1, i, none⟩ = some v := by
  unfold aliveW
  refine cell_keep (cell_keep ?_ _) _
  rw [cell_new2]; exact h
theorem aliveW_2 (w : World) (i : Nat) (v : Value) (h : (#[.int .i64 226, .slice (some ⟨w.heap.size, 0, none⟩) 2 2, .string ⟨#[]⟩, .int .i64 7845, .slice (some ⟨w.heap.size + 1, 0, none⟩) 2 2, .string ⟨#[]⟩] : Array Value)[i]? = some v) : (aliveW w).cell? ⟨w.heap.size + 1 + 1, i, none⟩ = some v := by
  unfold aliveW
  refine cell_keep ?_ _
  rw [show w.heap.size + 1 + 1 = ((w.alloc (.cells #[.int .i64 97, .int .i64 770] 3)).alloc (.cells #[.int .i64 226, .int .i64 769] 3)).heap.size by simp, World.cell?_alloc_new]; exact h
theorem aliveW_3 (w : World) (i : Nat) (v : Value) (h : (#[.slice none 0 0, .slice (some ⟨w.heap.size + 1 + 1, 0, none⟩) 2 2, .slice none 0 0] : Array Value)[i]? = some v) : (aliveW w).cell? ⟨w.heap.size + 1 + 1 + 1, i, none⟩ = some v := by
  unfold aliveW
  rw [show w.heap.size + 1 + 1 + 1 = (((w.alloc (.cells #[.int .i64 97, .int .i64 770] 3)).alloc (.cells #[.int .i64 226, .int .i64 769] 3)).alloc
    (.cells #[.int .i64 226, .slice (some ⟨w.heap.size, 0, none⟩) 2 2, .string ⟨#[]⟩, .int .i64 7845, .slice (some ⟨w.heap.size + 1, 0, none⟩) 2 2, .string ⟨#[]⟩] 61)).heap.size by simp, World.cell?_alloc_new]; exact h
theorem aliveW_C (w : World) : Kd.C k61 (aliveW w) (some ⟨w.heap.size + 1 + 1, 0, none⟩) 2 dmA := by
  have c1 : (Kd.int .i64).C (aliveW w) (some ⟨w.heap.size, 0, none⟩) 2 [97, 770] := C_two (aliveW_0 w 0 _ rfl) (aliveW_0 w 1 _ rfl)
  have c2 : (Kd.int .i64).C (aliveW w) (some ⟨w.heap.size + 1, 0, none⟩) 2 [226, 769] := C_two (aliveW_1 w 0 _ rfl) (aliveW_1 w 1 _ rfl)
  have hz : Kd.sz k61 = 3 := rfl
  refine ⟨rfl, by omega, fun _ => ⟨⟨w.heap.size + 1 + 1, 0, none⟩, rfl, fun j p hj => ?_⟩⟩
  match j, hj with
  | 0, hj =>
    cases hj
    refine ⟨_, rfl, k61_mk (aliveW w) dm1 (A1 := some ⟨w.heap.size, 0, none⟩) (c1 := 2) (by simp [dm1]) c1, fun i u hu => ?_⟩
    rw [hz, Addr.add_lit]
    match i, hu with
    | 0, hu => cases hu; exact aliveW_2 w 0 _ rfl
    | 1, hu => cases hu; exact aliveW_2 w 1 _ rfl
    | 2, hu => cases hu; exact aliveW_2 w 2 _ rfl
  | 1, hj =>
    cases hj
    refine ⟨_, rfl, k61_mk (aliveW w) dm2 (A1 := some ⟨w.heap.size + 1, 0, none⟩) (c1 := 2) (by simp [dm2]) c2, fun i u hu => ?_⟩
    rw [hz, Addr.add_lit]
    match i, hu with
    | 0, hu => cases hu; exact aliveW_2 w 3 _ rfl
    | 1, hu => cases hu; exact aliveW_2 w 4 _ rfl
    | 2, hu => cases hu; exact aliveW_2 w 5 _ rfl
set_option maxRecDepth 100000 in
set_option maxHeartbeats 8000000 in
theorem alive_any (w : World) (hG : GL w) : Calls Tryz.prog 11 #[] w fun e w' => e = .returned (.bool true) ∧ Below w.heap.size w w' := by
  have HG := Aside0.mk (GL.below hG (aliveW_below w))
  have HB := Aside0.mk (aliveW_below w)
  have HC := Aside0.mk (aliveW_C w)
  have HX : Aside0 (∀ i v, (#[.slice none 0 0, .slice (some ⟨w.heap.size + 1 + 1, 0, none⟩) 2 2, .slice none 0 0] : Array Value)[i]? = some v → (aliveW w).cell? ⟨w.heap.size + 1 + 1 + 1, i, none⟩ = some v) := ⟨aliveW_3 w⟩
  have hW : aliveW w = (((w.alloc (.cells #[.int .i64 97, .int .i64 770] 3)).alloc (.cells #[.int .i64 226, .int .i64 769] 3)).alloc
    (.cells #[.int .i64 226, .slice (some ⟨w.heap.size, 0, none⟩) 2 2, .string ⟨#[]⟩, .int .i64 7845, .slice (some ⟨w.heap.size + 1, 0, none⟩) 2 2, .string ⟨#[]⟩] 61)).alloc
    (.cells #[.slice none 0 0, .slice (some ⟨w.heap.size + 1 + 1, 0, none⟩) 2 2, .slice none 0 0] 28) := rfl
  have HWW := Aside0.mk hW
  clear hG hW
  generalize aliveW w = W at HG HB HC HX HWW
  go_enter Tryz.func11, Tryz.ntmps11
  go_wp2_with fail
  rw [← HWW.out]
  refine (decCheck_any none (some ⟨w.heap.size + 1 + 1, 0, none⟩) none 0 2 0 [] dmA [] W HG.out (Kd.C_nil _ _) (by simp) (by simp) HC.out (by simp [dmA]) (by simp [dmA]) (Kd.C_nil _ _) (by simp) (by simp)).mono ?_
  rintro e w1 ⟨rfl, hb1⟩
  rw [chkA]
  have a0 : w1.cell? ⟨w.heap.size + 1 + 1 + 1, 0, none⟩ = some (.slice none 0 0) := by rw [hb1.cell (cell_lt (HX.out 0 _ rfl))]; exact HX.out 0 _ rfl
  have a1 : w1.cell? ⟨w.heap.size + 1 + 1 + 1, 1, none⟩ = some (.slice (some ⟨w.heap.size + 1 + 1, 0, none⟩) 2 2) := by rw [hb1.cell (cell_lt (HX.out 1 _ rfl))]; exact HX.out 1 _ rfl
  have a2 : w1.cell? ⟨w.heap.size + 1 + 1 + 1, 2, none⟩ = some (.slice none 0 0) := by rw [hb1.cell (cell_lt (HX.out 2 _ rfl))]; exact HX.out 2 _ rfl
  have HB1 := Aside0.mk (below_step HB.out hb1)
  have HG1 := Aside0.mk (GL.below HG.out hb1)
  have HC1 := Aside0.mk (Kd.C_below HC.out hb1)
  clear hb1
  go_wp2_with fail
  refine (dchar_any none (some ⟨w.heap.size + 1 + 1, 0, none⟩) none 0 2 0 [] dmA [] 7845 false w1 HG1.out (Kd.C_nil _ _) (by simp) (by simp) HC1.out (by simp [dmA]) (by simp [dmA]) (Kd.C_nil _ _) (by simp) (by simp) (by unfold inR; omega)).mono ?_
  rintro e w2 ⟨⟨A2, c2, rfl, hl2, hC2⟩, hb2⟩
  rw [fullA1] at hl2 hC2 ⊢
  have b0 : w2.cell? ⟨w.heap.size + 1 + 1 + 1, 0, none⟩ = some (.slice none 0 0) := by rw [hb2.cell (cell_lt a0)]; exact a0
  have b1 : w2.cell? ⟨w.heap.size + 1 + 1 + 1, 1, none⟩ = some (.slice (some ⟨w.heap.size + 1 + 1, 0, none⟩) 2 2) := by rw [hb2.cell (cell_lt a1)]; exact a1
  have b2 : w2.cell? ⟨w.heap.size + 1 + 1 + 1, 2, none⟩ = some (.slice none 0 0) := by rw [hb2.cell (cell_lt a2)]; exact a2
  have HB2 := Aside0.mk (below_step HB1.out hb2)
  have HG2 := Aside0.mk (GL.below HG1.out hb2)
  have HC2 := Aside0.mk (Kd.C_below HC1.out hb2)
  have HR2 := Aside0.mk hC2
  clear hl2 hC2 hb2
  go_wp2_with fail
  refine (refEqual_any A2 (some ⟨w2.heap.size, 0, none⟩) c2 3 [97, 770, 769] [97, 770, 769] _ (Kd.C_alloc HR2.out _) (C_three (by simp) (by simp) (by simp)) (by simp) (by simp)).mono ?_
  rintro e w3 ⟨rfl, hb3⟩
  rw [show decide (([97, 770, 769] : List Int) = [97, 770, 769]) = true from rfl]
  have hb3' := below_step (below_alloc (Below.refl w2.heap.size w2) (.cells #[.int .i64 97, .int .i64 770, .int .i64 769] 3)) hb3
  have d0 : w3.cell? ⟨w.heap.size + 1 + 1 + 1, 0, none⟩ = some (.slice none 0 0) := by rw [hb3'.cell (cell_lt b0)]; exact b0
  have d1 : w3.cell? ⟨w.heap.size + 1 + 1 + 1, 1, none⟩ = some (.slice (some ⟨w.heap.size + 1 + 1, 0, none⟩) 2 2) := by rw [hb3'.cell (cell_lt b1)]; exact b1
  have d2 : w3.cell? ⟨w.heap.size + 1 + 1 + 1, 2, none⟩ = some (.slice none 0 0) := by rw [hb3'.cell (cell_lt b2)]; exact b2
  have HB3 := Aside0.mk (below_step HB2.out hb3')
  have HG3 := Aside0.mk (GL.below HG2.out hb3')
  have HC3 := Aside0.mk (Kd.C_below HC2.out hb3')
  clear hb3 hb3'
  go_wp2_with fail
  refine (dchar_any none (some ⟨w.heap.size + 1 + 1, 0, none⟩) none 0 2 0 [] dmA [] 44033 true w3 HG3.out (Kd.C_nil _ _) (by simp) (by simp) HC3.out (by simp [dmA]) (by simp [dmA]) (Kd.C_nil _ _) (by simp) (by simp) (by unfold inR; omega)).mono ?_
  rintro e w4 ⟨⟨A4, c4, rfl, hl4, hC4⟩, hb4⟩
  rw [fullA2] at hl4 hC4 ⊢
  have HB4 := Aside0.mk (below_step HB3.out hb4)
  have HR4 := Aside0.mk hC4
  clear hl4 hC4 hb4
  go_wp2_with fail
  refine (refEqual_any A4 (some ⟨w4.heap.size, 0, none⟩) c4 3 [4352, 4449, 4520] [4352, 4449, 4520] _ (Kd.C_alloc HR4.out _) (C_three (by simp) (by simp) (by simp)) (by simp) (by simp)).mono ?_
  rintro e w5 ⟨rfl, hb5⟩
  rw [show decide (([4352, 4449, 4520] : List Int) = [4352, 4449, 4520]) = true from rfl]
  go_wp2_with fail
  go_ret
  exact ⟨rfl, below_step (below_alloc HB4.out _) hb5⟩
end Go.Proofs.YtipedgkampafjaaGreatDoor.Rf
/- Tells what Small computes. -/
namespace Go.Proofs.YtipedgkampafjaaGreatDoor.Rf
open Go.Shelf Go.RowKit Go.Sort Go.Proofs.YtipedgkampafjaaGreatDoorW.PrintWords Go.Proofs.YtipedgkampafjaaGreatDoorW.PrintLast Go.Proofs.YtipedgkampafjaaGreatDoorW.PrintMore

def bigM (m : S61) : Bool := decide ((65 : Int) < (m.f1.length : Int)) || decide ((40 : Int) < (m.f2.size : Int))
def small11S (xs : List S61) : Bool := !(xs.take 30).any bigM && decide ((xs.length : Int) ≤ 20)
def smallS (cl : List S71) (dm : List S61) (ex : List RR) : Bool := decide ((cl.length : Int) ≤ 16) && (small11S dm && decide ((ex.length : Int) ≤ 12))
theorem smallS_ok {cl : List S71} {dm : List S61} {ex : List RR} (h : smallS cl dm ex = true) : cl.length ≤ 16 ∧ dm.length ≤ 20 ∧ ex.length ≤ 12 ∧ ∀ x ∈ dm, x.f1.length ≤ 65 ∧ x.f2.size ≤ 40 := by
  unfold smallS small11S at h
  simp only [Bool.and_eq_true, decide_eq_true_eq, Bool.not_eq_true'] at h
  obtain ⟨h1, ⟨h2, h3⟩, h4⟩ := h
  refine ⟨by omega, by omega, by omega, fun x hx => ?_⟩
  rw [List.take_of_length_le (by omega)] at h2
  have := not_any _ _ h2 x hx
  simp only [bigM, Bool.or_eq_false_iff, decide_eq_false_iff_not] at this
  omega

set_option maxRecDepth 100000 in
set_option maxHeartbeats 8000000 in
theorem small11x_any (A : Option Addr) (c : Nat) (xs : List S61) (w : World) (hr : Kd.C k61 w A xs.length xs) (hl : xs.length ≤ 9223372036854775807) :
    Calls Tryz.prog 27 #[.slice A xs.length c] w fun e w' => e = .returned (.bool (small11S xs)) ∧ Below w.heap.size w w' := by
  have HR := Aside0.mk hr
  have HF : Aside0 (small11S xs = (!(xs.take 30).any bigM && decide ((xs.length : Int) ≤ 20))) := ⟨rfl⟩
  have HBig : Aside0 (∀ m, bigM m = (decide ((65 : Int) < (m.f1.length : Int)) || decide ((40 : Int) < (m.f2.size : Int)))) := ⟨fun _ => rfl⟩
  generalize small11S xs = res at HF ⊢
  clear hr
  go_enter Tryz.func27, Tryz.ntmps27
  go_wp2_with fail
  go_loopw [3] (fun v wr => ∃ j : Nat, v = .int .i64 (j : Int) ∧ j ≤ 30 ∧ j ≤ xs.length ∧ Aside0 ((xs.take j).any bigM = false) ∧ Aside0 (Below w.heap.size w wr)) (fun v _ => 30 - (intOf v).toNat)
  case atStart => exact ⟨0, rfl, by omega, by omega, ⟨rfl⟩, ⟨Below.refl _ _⟩⟩
  case round =>
    obtain ⟨j, rfl, hj, hj2, HA, HB⟩ := hrel
    by_cases hlt : j < xs.length
    · by_cases h30 : j < 30
      · obtain ⟨ad, A1, c1, e, hx0, hx1, hx2, hl1, hi1⟩ := at_T61 (Kd.C_below HR.out HB.out) (j : Int) (by omega) (by omega)
        subst e
        clear hl1 hi1
        have HY : Aside0 (rd_T61 xs j = xs.getD j z61) := ⟨by simp [rd_T61]⟩
        have HT : Aside0 (bigM (rd_T61 xs j) = false → (xs.take (j + 1)).any bigM = false) := ⟨fun h => any_take_succ bigM xs z61 j hlt HA.out (by rw [← HY.out]; exact h)⟩
        have HS : Aside0 (bigM (rd_T61 xs j) = true → res = false) := ⟨fun h => by
          rw [HF.out, List.any_eq_true.2 ⟨xs.getD j z61, by
            rw [List.getD_eq_getElem?_getD, List.getElem?_eq_getElem hlt, Option.getD_some]
            exact List.mem_take_iff_getElem.2 ⟨j, by omega, rfl⟩, by rw [← HY.out]; exact h⟩]; rfl⟩
        rw [HBig.out] at HT HS
        simp only [Int.toNat_natCast] at hx0 hx1 hx2
        generalize rd_T61 xs (j : Int) = x at hx0 hx1 hx2 HT HS HY
        have hlz : (j : Int) < (xs.length : Int) := by omega
        cases h1 : decide ((65 : Int) < (x.f1.length : Int)) with
        | true =>
          have HE := Aside0.mk (HS.out (by rw [h1]; rfl))
          go_wp2_with fail
          go_ret
          exact ⟨ret_bool HE.out.symm, HB.out⟩
        | false =>
          cases h2 : decide ((40 : Int) < (x.f2.size : Int)) with
          | true =>
            have HE := Aside0.mk (HS.out (by rw [h1, h2]; rfl))
            go_wp2_with fail
            go_ret
            exact ⟨ret_bool HE.out.symm, HB.out⟩
          | false =>
            have HE := Aside0.mk (HT.out (by rw [h1, h2]; rfl))
            go_wp2_with fail
            go_roundw
            case rel => exact ⟨j + 1, by first | rfl | go_num, by omega, by omega, HE, HB⟩
            case measure => simp [intOf]; omega
      · have h30' : ¬ (j : Int) < 30 := by omega
        have HE : Aside0 (res = decide ((xs.length : Int) ≤ 20)) := ⟨by
          have := HA.out
          rw [show j = 30 by omega] at this
          rw [HF.out, this]; rfl⟩
        go_wp2_with fail
        go_ret
        exact ⟨ret_bool HE.out.symm, HB.out⟩
    · have HE : Aside0 (res = decide ((xs.length : Int) ≤ 20)) := ⟨by
        have := HA.out
        rw [List.take_of_length_le (by omega)] at this
        rw [HF.out, List.take_of_length_le (by omega), this]; rfl⟩
      have hlz : ¬ (j : Int) < (xs.length : Int) := by omega
      go_wp2_with fail
      go_ret
      exact ⟨ret_bool HE.out.symm, HB.out⟩

set_option maxRecDepth 100000 in
set_option maxHeartbeats 8000000 in
theorem smallx_any (Ac Ad Ax : Option Addr) (cc cd cx : Nat) (cl : List S71) (dm : List S61) (ex : List RR) (w : World)
    (hrd : Kd.C k61 w Ad dm.length dm) (hld : dm.length ≤ 9223372036854775807) :
    Calls Tryz.prog 8 #[.agg #[.slice Ac cl.length cc, .slice Ad dm.length cd, .slice Ax ex.length cx]] w fun e w' => e = .returned (.bool (smallS cl dm ex)) ∧ Below w.heap.size w w' := by
  have HR := Aside0.mk hrd
  have HL := Aside0.mk hld
  have HF : Aside0 (smallS cl dm ex = (decide ((cl.length : Int) ≤ 16) && (small11S dm && decide ((ex.length : Int) ≤ 12)))) := ⟨rfl⟩
  generalize smallS cl dm ex = res at HF ⊢
  clear hrd hld
  have hb : Below w.heap.size w (w.alloc (.cells #[.slice Ac cl.length cc, .slice Ad dm.length cd, .slice Ax ex.length cx] 28)) := below_alloc (Below.refl _ _) _
  have x1 : (w.alloc (.cells #[.slice Ac cl.length cc, .slice Ad dm.length cd, .slice Ax ex.length cx] 28)).cell? ⟨w.heap.size, 1, none⟩ = some (.slice Ad dm.length cd) := by simp
  have x2 : (w.alloc (.cells #[.slice Ac cl.length cc, .slice Ad dm.length cd, .slice Ax ex.length cx] 28)).cell? ⟨w.heap.size, 2, none⟩ = some (.slice Ax ex.length cx) := by simp
  have HB := Aside0.mk hb
  clear hb
  cases h1 : decide ((cl.length : Int) ≤ 16) with
  | false =>
    have HE : Aside0 (res = false) := ⟨by rw [HF.out, h1]; rfl⟩
    go_enter Tryz.func8, Tryz.ntmps8
    go_wp2_with fail
    refine (small20_any Ac cc cl.length _).mono ?_
    rintro e w1 ⟨rfl, hb1⟩
    rw [h1]
    go_wp2_with fail
    go_ret
    exact ⟨ret_bool HE.out.symm, below_step HB.out hb1⟩
  | true =>
    rw [h1, Bool.true_and] at HF
    go_enter Tryz.func8, Tryz.ntmps8
    go_wp2_with fail
    refine (small20_any Ac cc cl.length _).mono ?_
    rintro e w1 ⟨rfl, hb1⟩
    rw [h1]
    have k1 : w1.cell? ⟨w.heap.size, 1, none⟩ = some (.slice Ad dm.length cd) := by rw [hb1.cell (cell_lt x1)]; exact x1
    have k2 : w1.cell? ⟨w.heap.size, 2, none⟩ = some (.slice Ax ex.length cx) := by rw [hb1.cell (cell_lt x2)]; exact x2
    have HB1 := Aside0.mk (below_step HB.out hb1)
    clear hb1
    go_wp2_with fail
    refine (small11x_any Ad cd dm w1 (Kd.C_below HR.out HB1.out) HL.out).mono ?_
    rintro e w2 ⟨rfl, hb2⟩
    have m2 : w2.cell? ⟨w.heap.size, 2, none⟩ = some (.slice Ax ex.length cx) := by rw [hb2.cell (cell_lt k2)]; exact k2
    have HB2 := Aside0.mk (below_step HB1.out hb2)
    clear hb2
    generalize small11S dm = b at HF ⊢
    cases b with
    | false =>
      have HE : Aside0 (res = false) := ⟨by rw [HF.out]; rfl⟩
      go_wp2_with fail
      go_ret
      exact ⟨ret_bool HE.out.symm, HB2.out⟩
    | true =>
      rw [Bool.true_and] at HF
      go_wp2_with fail
      refine (small02_any Ax cx ex.length _).mono ?_
      rintro e w3 ⟨rfl, hb3⟩
      have HB3 := Aside0.mk (below_step HB2.out hb3)
      clear hb3
      go_wp2_with fail
      go_ret
      exact ⟨ret_bool HF.out.symm, HB3.out⟩
end Go.Proofs.YtipedgkampafjaaGreatDoor.Rf
/- Tells that the law DecomposeChecks comes to true. -/
namespace Go.Proofs.YtipedgkampafjaaGreatDoor.Rf
open Go.Shelf Go.RowKit Go.Sort Go.Proofs.YtipedgkampafjaaGreatDoorW.PrintWords Go.Proofs.YtipedgkampafjaaGreatDoorW.PrintLast Go.Proofs.YtipedgkampafjaaGreatDoorW.PrintMore

set_option maxRecDepth 100000 in
set_option maxHeartbeats 8000000 in
theorem checks_law_any (Ac Ad Ax : Option Addr) (cc cd cx : Nat) (cl : List S71) (dm : List S61) (ex : List RR) (w : World) (hG : GL w)
    (hrc : Kd.C k71 w Ac cl.length cl) (hcc : cl.length ≤ cc) (hrd : Kd.C k61 w Ad dm.length dm) (hcd : dm.length ≤ cd) (hrx : Kd.C k52 w Ax ex.length ex) (hcx : ex.length ≤ cx) :
    Calls Tryz.prog 3 #[.agg #[.slice Ac cl.length cc, .slice Ad dm.length cd, .slice Ax ex.length cx]] w fun e w' => e = .returned (.bool true) ∧ Below w.heap.size w w' := by
  have HB0 : Aside0 (Below w.heap.size w (w.alloc (.cells #[.slice Ac cl.length cc, .slice Ad dm.length cd, .slice Ax ex.length cx] 28))) := ⟨below_alloc (Below.refl _ _) _⟩
  have hx0 : (w.alloc (.cells #[.slice Ac cl.length cc, .slice Ad dm.length cd, .slice Ax ex.length cx] 28)).cell? ⟨w.heap.size, 0, none⟩ = some (.slice Ac cl.length cc) := by simp
  have hx1 : (w.alloc (.cells #[.slice Ac cl.length cc, .slice Ad dm.length cd, .slice Ax ex.length cx] 28)).cell? ⟨w.heap.size, 1, none⟩ = some (.slice Ad dm.length cd) := by simp
  have hx2 : (w.alloc (.cells #[.slice Ac cl.length cc, .slice Ad dm.length cd, .slice Ax ex.length cx] 28)).cell? ⟨w.heap.size, 2, none⟩ = some (.slice Ax ex.length cx) := by simp
  have HS : Aside0 (∀ W, Below w.heap.size w W → Calls Tryz.prog 8 #[.agg #[.slice Ac cl.length cc, .slice Ad dm.length cd, .slice Ax ex.length cx]] W fun e w' => e = .returned (.bool (smallS cl dm ex)) ∧ Below W.heap.size W w') :=
    ⟨fun W hW => smallx_any Ac Ad Ax cc cd cx cl dm ex W (Kd.C_below hrd hW) (by have := Kd.C_max hrd; omega)⟩
  have HD : Aside0 (smallS cl dm ex = true → ∀ W, Below w.heap.size w W → Calls Tryz.prog 9 #[.agg #[.slice Ac cl.length cc, .slice Ad dm.length cd, .slice Ax ex.length cx]] W fun e w' => e = .returned (.int .i64 (decChk cl dm ex)) ∧ Below W.heap.size W w') :=
    ⟨fun h W hW => by
      obtain ⟨q1, q2, q3, _⟩ := smallS_ok h
      exact decCheck_any Ac Ad Ax cc cd cx cl dm ex W (GL.below hG hW) (Kd.C_below hrc hW) hcc (by omega) (Kd.C_below hrd hW) hcd (by omega) (Kd.C_below hrx hW) hcx (by omega)⟩
  have HRf : Aside0 (smallS cl dm ex = true → ∀ W, Below w.heap.size w W → Calls Tryz.prog 10 #[.agg #[.slice Ac cl.length cc, .slice Ad dm.length cd, .slice Ax ex.length cx]] W fun e w' => e = .returned (.int .i64 (decChk cl dm ex)) ∧ Below W.heap.size W w') :=
    ⟨fun h W hW => by
      obtain ⟨q1, q2, q3, q4⟩ := smallS_ok h
      exact ref21Check_any Ac Ad Ax cc cd cx cl dm ex W (Kd.C_below hrc hW) (by omega) (Kd.C_below hrd hW) (by omega) (Kd.C_below hrx hW) (by omega) (fun x hx => by have := q4 x hx; omega)⟩
  have HA : Aside0 (∀ W, Below w.heap.size w W → Calls Tryz.prog 11 #[] W fun e w' => e = .returned (.bool true) ∧ Below W.heap.size W w') := ⟨fun W hW => alive_any W (GL.below hG hW)⟩
  clear hG hrc hcc hrd hcd hrx hcx
  generalize decChk cl dm ex = v at HD HRf
  generalize smallS cl dm ex = b at HS HD HRf
  go_enter Tryz.func3, Tryz.ntmps3
  go_wp2_with fail
  obtain ⟨w1, hw1⟩ : ∃ x, x = w.alloc (.cells #[.slice Ac cl.length cc, .slice Ad dm.length cd, .slice Ax ex.length cx] 28) := ⟨_, rfl⟩
  rw [← hw1] at HB0 hx0 hx1 hx2 ⊢
  clear hw1
  have kx0 := cell_regrown hx0
  have kx1 := cell_regrown hx1
  have kx2 := cell_regrown hx2
  have HQ : Aside0 (∀ d os, Below w.heap.size w (grow (redrawn w1 d) os)) := ⟨fun d os => below_step HB0.out (below_regrown w1 d os)⟩
  clear hx0 hx1 hx2
  cases b with
  | false =>
    clear HD HRf
    refine wp_region_quiet_below (by kernel_rfl) (by kernel_rfl) ?_
    iterate 2 (quiet_step (exact Calls.regrown_of (HS.out _ (HQ.out _ _))))
    clear HS
    repeat (first | go_big_quiet_skip | quiet_step (exact Calls.regrown_of (HA.out _ (HQ.out _ _))))
    refine wpQuiet_nil ?_
    intro _ hw'
    obtain ⟨⟨dq, osq⟩, hw''⟩ := hw'
    subst hw''
    have HB2 := Aside0.mk (HQ.out dq osq)
    clear kx0 kx1 kx2
    go_wp2_with fail
    go_ret
    exact ⟨rfl, HB2.out⟩
  | true =>
    have HD2 := Aside0.mk (HD.out rfl)
    have HRf2 := Aside0.mk (HRf.out rfl)
    clear HD HRf
    refine wp_region_quiet_below (by kernel_rfl) (by kernel_rfl) ?_
    iterate 2 (quiet_step (exact Calls.regrown_of (HS.out _ (HQ.out _ _))))
    iterate 4 (quiet_step (exact Calls.regrown_of (HD2.out _ (HQ.out _ _))))
    iterate 2 (quiet_step (exact Calls.regrown_of (HRf2.out _ (HQ.out _ _))))
    repeat (first | go_big_quiet_skip | quiet_step (exact Calls.regrown_of (HA.out _ (HQ.out _ _))))
    refine wpQuiet_nil ?_
    intro _ hw'
    obtain ⟨⟨dq, osq⟩, hw''⟩ := hw'
    subst hw''
    have HB2 := Aside0.mk (HQ.out dq osq)
    clear kx0 kx1 kx2
    go_wp2_with fail
    go_ret
    exact ⟨rfl, HB2.out⟩
end Go.Proofs.YtipedgkampafjaaGreatDoor.Rf
/- Opens what came in into rows that are read. -/
namespace Go.Proofs.YtipedgkampafjaaGreatDoor.Rf
open Go.ChangeShapes Go.WideShapes Go.Deep Go.RowKit Go.Proofs.YtipedgkampafjaaGreatDoorW.PrintWords Go.Proofs.YtipedgkampafjaaGreatDoorW.PrintLast Go.Proofs.YtipedgkampafjaaGreatDoorW.PrintMore

section
variable {H : Type} {enc : TypeId × Value → H} {P : Program} {w : World} {base : Nat} {spare : Nat → Bool} {held : Bool}
theorem C_of_trod {α : Type} (d : Kd α) {t e : TypeId} (ht : P.underlying t = some (.slice e)) (hsz : P.cellsOf e = d.sz) (hK : ∀ n cs' y, DataW.trod enc P w base spare held n e cs' = some y → ∃ x, d.K w x cs') {fuel : Nat} {v : Value} {x : DataW H × List MemPlace} (h : DataW.trod enc P w base spare held fuel t [v] = some x) :
    ∃ (A : Option Addr) (xs : List α) (cap : Nat), v = .slice A xs.length cap ∧ xs.length ≤ cap ∧ d.C w A xs.length xs := by
  rcases open_slice ht h with ⟨h0, _⟩ | ⟨a, len, cap, m, n, D, Pl, hcs, hb, hl, hm, hmm, hx, hi⟩
  · simp only [List.cons.injEq, and_true] at h0
    exact ⟨none, [], 0, h0, Nat.le_refl _, Kd.C_nil _ _⟩
  · simp only [List.cons.injEq, and_true] at hcs
    have hlm : len ≤ m := by rw [hmm]; split <;> omega
    have key : ∀ k, k ≤ len → ∃ xs : List α, xs.length = k ∧ ∀ j p, xs[j]? = some p → ∃ c, c.length = d.sz ∧ d.K w p c ∧ ∀ i u, c[i]? = some u → w.cell? (a.add (j * d.sz + i)) = some u := by
      intro k
      induction k with
      | zero => intro _; exact ⟨[], rfl, fun j p hj => by simp at hj⟩
      | succ k ih =>
        intro hk
        obtain ⟨xs, hxl, hxs⟩ := ih (by omega)
        obtain ⟨cs', hc, ht'⟩ := hi k (by omega)
        obtain ⟨p0, hp0⟩ := hK _ _ _ ht'
        obtain ⟨_, hcl, hat⟩ := World.cells?_some hc
        refine ⟨xs ++ [p0], by simp [hxl], fun j p hj => ?_⟩
        by_cases hjk : j < k
        · rw [List.getElem?_append_left (by omega)] at hj
          exact hxs j p hj
        · have hjl : j < (xs ++ [p0]).length := (List.getElem?_eq_some_iff.1 hj).1
          have hje : j = k := by simp [hxl] at hjl; omega
          subst hje
          rw [List.getElem?_append_right (by omega), hxl, Nat.sub_self] at hj
          cases hj
          refine ⟨cs', by rw [hcl, hsz], hp0, fun i u hu => ?_⟩
          have hil : i < cs'.length := (List.getElem?_eq_some_iff.1 hu).1
          have h1 := hat i (by omega)
          rw [hsz] at h1
          rw [← Go.Deep.add_add, h1, hu]
    obtain ⟨xs, hxl, hxs⟩ := key len (Nat.le_refl _)
    refine ⟨some a, xs, cap, by rw [hcs, hxl], by omega, rfl, by simp [maxLen] at hm; omega, fun _ => ⟨a, rfl, hxs⟩⟩
theorem K_int {k : IntKind} {t : TypeId} (ht : P.underlying t = some (.int k)) {n : Nat} {cs : List Value} {y : DataW H × List MemPlace} (h : DataW.trod enc P w base spare held n t cs = some y) : ∃ x, (Kd.int k).K w x cs := by
  obtain ⟨a, rfl, _, _⟩ := DataW.trod_int ht h
  exact ⟨a, rfl⟩
end
section
variable {H : Type} {enc : TypeId × Value → H} {w : World} {base : Nat} {spare : Nat → Bool} {held : Bool}
theorem cells3 : Tryz.prog.cellsOf 3 = 1 := by kernel_rfl
theorem cellsI : Tryz.prog.cellsOf 34 = 1 := by kernel_rfl
theorem cellsS : Tryz.prog.cellsOf 9 = 1 := by kernel_rfl
set_option maxRecDepth 100000 in
theorem K_range {n : Nat} {cs : List Value} {y : DataW H × List MemPlace} (h : DataW.trod enc Tryz.prog w base spare held n 52 cs = some y) : ∃ x, (k52).K w x cs := by
  obtain ⟨ys, n', _, _, hl, hyl, hf⟩ := DataW.trod_struct Tryz.underlying52 h
  have hc : Tryz.prog.cellsOf 52 = 2 := by kernel_rfl
  rw [hc] at hl
  match cs, hl with
  | [a, b], _ =>
    have h0 := hf 0 _ rfl
    have h1 := hf 1 _ rfl
    simp only [List.getElem_toArray, List.getElem_cons_zero, List.getElem_cons_succ] at h0 h1
    rw [cells3] at h0 h1
    simp only [List.drop_zero, List.drop_succ_cons, List.take_succ_cons, List.take_zero] at h0 h1
    have q : ∀ i, i < 2 → ∃ z, ys[i]? = some z := fun i hi => ⟨_, List.getElem?_eq_getElem (by rw [hyl]; exact hi)⟩
    obtain ⟨z0, e0⟩ := q 0 (by omega)
    obtain ⟨z1, e1⟩ := q 1 (by omega)
    obtain ⟨x0, r0, _⟩ := DataW.trod_int Tryz.underlying3 (h0.trans e0)
    obtain ⟨x1, r1, _⟩ := DataW.trod_int Tryz.underlying3 (h1.trans e1)
    simp at r0 r1
    subst r0; subst r1
    exact ⟨⟨x0, x1⟩, k52_mk w ⟨x0, x1⟩⟩
set_option maxRecDepth 100000 in
theorem K_span {n : Nat} {cs : List Value} {y : DataW H × List MemPlace} (h : DataW.trod enc Tryz.prog w base spare held n 71 cs = some y) : ∃ x, (k71).K w x cs := by
  obtain ⟨ys, n', _, _, hl, hyl, hf⟩ := DataW.trod_struct Tryz.underlying71 h
  have hc : Tryz.prog.cellsOf 71 = 3 := by kernel_rfl
  rw [hc] at hl
  match cs, hl with
  | [a, b, c], _ =>
    have h0 := hf 0 _ rfl
    have h1 := hf 1 _ rfl
    have h2 := hf 2 _ rfl
    simp only [List.getElem_toArray, List.getElem_cons_zero, List.getElem_cons_succ] at h0 h1 h2
    rw [cells3] at h0 h1 h2
    simp only [List.drop_zero, List.drop_succ_cons, List.take_succ_cons, List.take_zero] at h0 h1 h2
    have q : ∀ i, i < 3 → ∃ z, ys[i]? = some z := fun i hi => ⟨_, List.getElem?_eq_getElem (by rw [hyl]; exact hi)⟩
    obtain ⟨z0, e0⟩ := q 0 (by omega)
    obtain ⟨z1, e1⟩ := q 1 (by omega)
    obtain ⟨z2, e2⟩ := q 2 (by omega)
    obtain ⟨x0, r0, _⟩ := DataW.trod_int Tryz.underlying3 (h0.trans e0)
    obtain ⟨x1, r1, _⟩ := DataW.trod_int Tryz.underlying3 (h1.trans e1)
    obtain ⟨x2, r2, _⟩ := DataW.trod_int Tryz.underlying3 (h2.trans e2)
    simp at r0 r1 r2
    subst r0; subst r1; subst r2
    exact ⟨⟨x0, x1, x2⟩, k71_mk w ⟨x0, x1, x2⟩⟩
set_option maxRecDepth 100000 in
theorem K_mapping {n : Nat} {cs : List Value} {y : DataW H × List MemPlace} (h : DataW.trod enc Tryz.prog w base spare held n 61 cs = some y) : ∃ x, (k61).K w x cs := by
  obtain ⟨ys, n', _, _, hl, hyl, hf⟩ := DataW.trod_struct Tryz.underlying61 h
  have hc : Tryz.prog.cellsOf 61 = 3 := by kernel_rfl
  rw [hc] at hl
  match cs, hl with
  | [a, b, c], _ =>
    have h0 := hf 0 _ rfl
    have h1 := hf 1 _ rfl
    have h2 := hf 2 _ rfl
    simp only [List.getElem_toArray, List.getElem_cons_zero, List.getElem_cons_succ] at h0 h1 h2
    rw [cells3] at h0
    rw [cellsI] at h1
    rw [cellsS] at h2
    simp only [List.drop_zero, List.drop_succ_cons, List.take_succ_cons, List.take_zero] at h0 h1 h2
    have q : ∀ i, i < 3 → ∃ z, ys[i]? = some z := fun i hi => ⟨_, List.getElem?_eq_getElem (by rw [hyl]; exact hi)⟩
    obtain ⟨z0, e0⟩ := q 0 (by omega)
    obtain ⟨z1, e1⟩ := q 1 (by omega)
    obtain ⟨z2, e2⟩ := q 2 (by omega)
    obtain ⟨x0, r0, _⟩ := DataW.trod_int Tryz.underlying3 (h0.trans e0)
    obtain ⟨x2, r2, _⟩ := DataW.trod_string Tryz.underlying9 (h2.trans e2)
    obtain ⟨A, xs, cap, rb, hcap, hC⟩ := C_of_trod (Kd.int .i64) Tryz.underlying34 cells3 (fun n cs y h => K_int Tryz.underlying3 h) (h1.trans e1)
    simp at r0 r2
    subst r0; subst r2; subst rb
    exact ⟨⟨x0, xs, x2⟩, k61_mk w ⟨x0, xs, x2⟩ hcap hC⟩
end
end Go.Proofs.YtipedgkampafjaaGreatDoor.Rf
/- What the laid variable holds. -/
namespace Go.Proofs.YtipedgkampafjaaGreatDoor
open Go.ChangeShapes Go.WideShapes Go.ChangeAt Go.WideMaps Go.WideElems Go.RowKit

namespace Rf
section
variable {H : Type} {enc : TypeId × Value → H} {w : World} {base : Nat} {spare : Nat → Bool} {held : Bool}
set_option maxRecDepth 100000 in
theorem range_vals {n : Nat} {cs : List Value} {y : DataW H × List MemPlace} {a b : Int} (h : DataW.trod enc Tryz.prog w base spare held n 52 cs = some y) (hy : y.1 = .agg [.lit (.int .i64 a), .lit (.int .i64 b)]) : cs = [.int .i64 a, .int .i64 b] := by
  obtain ⟨ys, n', _, hyy, hl, hyl, hf⟩ := DataW.trod_struct Tryz.underlying52 h
  have hc : Tryz.prog.cellsOf 52 = 2 := by kernel_rfl
  rw [hc] at hl
  match cs, hl with
  | [a', b'], _ =>
    have h0 := hf 0 _ rfl
    have h1 := hf 1 _ rfl
    simp only [List.getElem_toArray, List.getElem_cons_zero, List.getElem_cons_succ] at h0 h1
    rw [cells3] at h0 h1
    simp only [List.drop_zero, List.drop_succ_cons, List.take_succ_cons, List.take_zero] at h0 h1
    match ys, hyl with
    | [z0, z1], _ =>
      obtain ⟨x0, r0, s0, _⟩ := DataW.trod_int Tryz.underlying3 (x := z0) h0
      obtain ⟨x1, r1, s1, _⟩ := DataW.trod_int Tryz.underlying3 (x := z1) h1
      simp at r0 r1
      subst r0; subst r1; subst s0; subst s1
      rw [hyy] at hy
      simp at hy
      rw [hy.1, hy.2]
end
end Rf

theorem gRanges : Tryz.prog.globalNamed "unicodetext/ordering.ranges" = some 0 := by kernel_rfl
theorem tRanges : (Tryz.prog.globals[0]?).map (·.type) = some 103 := by kernel_rfl
set_option maxRecDepth 100000 in
theorem of_laid {W : World} (h : laidMetH Tryz.prog [("unicodetext/ordering.ranges", Rows.laid_unicodetext_ordering_ranges)] W) : Rf.GL W := by
  rw [MakeChecks.laidMetH_plain _ _ _ (by kernel_rfl)] at h
  obtain ⟨ps, ⟨g0, t0, cs0, f0, p0, q0, hg0, ht0, hv0, hd0, _, _⟩, _, _⟩ := h
  obtain rfl := Option.some.inj (gRanges.symm.trans hg0)
  obtain rfl := Option.some.inj (tRanges.symm.trans ht0)
  obtain ⟨xs, m1, rfl, hx1, hlen, hn4, hel⟩ := DataW.trod_array Tryz.underlying103 hd0
  have c2 : Tryz.prog.cellsOf 52 = 2 := by kernel_rfl
  have c8 : Tryz.prog.cellsOf 103 = 8 := by kernel_rfl
  rw [c8] at hlen
  rw [c2] at hel
  simp only [Prod.mk.injEq, Rows.laid_unicodetext_ordering_ranges, DataW.agg.injEq] at hx1
  obtain ⟨l⟩ := cs0
  have hc := fun i => World.var?_cell hg0 hv0 i
  simp only at hlen hel
  match l, hlen, xs, hn4, hx1.1 with
  | [a0, a1, a2, a3, a4, a5, a6, a7], _, [x0, x1, x2, x3], _, hx =>
    simp only [List.map_cons, List.map_nil, List.cons.injEq, and_true] at hx
    have e0 := Rf.range_vals (hel 0 (by decide)) hx.1.symm
    have e1 := Rf.range_vals (hel 1 (by decide)) hx.2.1.symm
    have e2 := Rf.range_vals (hel 2 (by decide)) hx.2.2.1.symm
    have e3 := Rf.range_vals (hel 3 (by decide)) hx.2.2.2.symm
    simp at e0 e1 e2 e3
    obtain ⟨rfl, rfl⟩ := e0
    obtain ⟨rfl, rfl⟩ := e1
    obtain ⟨rfl, rfl⟩ := e2
    obtain ⟨rfl, rfl⟩ := e3
    exact ⟨by simpa using hc 0, by simpa using hc 1, by simpa using hc 2, by simpa using hc 3, by simpa using hc 4, by simpa using hc 5, by simpa using hc 6, by simpa using hc 7⟩
end Go.Proofs.YtipedgkampafjaaGreatDoor
/- Opens data and texts that came in. -/
namespace Go.Proofs.YtipedgkampafjaaGreatDoor

namespace Rf
open Go.ChangeShapes Go.WideShapes Go.Deep Go.RowKit Go.Proofs.YtipedgkampafjaaGreatDoorW.PrintWords Go.Proofs.YtipedgkampafjaaGreatDoorW.PrintLast Go.Proofs.YtipedgkampafjaaGreatDoorW.PrintMore
section
variable {H : Type} {enc : TypeId × Value → H} {P : Program} {w : World} {base : Nat} {spare : Nat → Bool} {held : Bool}
theorem C_of_trodQ {α : Type} (d : Kd α) (Q : α → Prop) {t e : TypeId} (ht : P.underlying t = some (.slice e)) (hsz : P.cellsOf e = d.sz) (hK : ∀ n cs' y, DataW.trod enc P w base spare held n e cs' = some y → ∃ x, d.K w x cs' ∧ Q x) {fuel : Nat} {v : Value} {x : DataW H × List MemPlace} (h : DataW.trod enc P w base spare held fuel t [v] = some x) :
    ∃ (A : Option Addr) (xs : List α) (cap : Nat), v = .slice A xs.length cap ∧ xs.length ≤ cap ∧ d.C w A xs.length xs ∧ ∀ x ∈ xs, Q x := by
  rcases open_slice ht h with ⟨h0, _⟩ | ⟨a, len, cap, m, n, D, Pl, hcs, hb, hl, hm, hmm, hx, hi⟩
  · simp only [List.cons.injEq, and_true] at h0
    exact ⟨none, [], 0, h0, Nat.le_refl _, Kd.C_nil _ _, fun x hx => (by cases hx)⟩
  · simp only [List.cons.injEq, and_true] at hcs
    have hlm : len ≤ m := by rw [hmm]; split <;> omega
    have key : ∀ k, k ≤ len → ∃ xs : List α, xs.length = k ∧ (∀ x ∈ xs, Q x) ∧ ∀ j p, xs[j]? = some p → ∃ c, c.length = d.sz ∧ d.K w p c ∧ ∀ i u, c[i]? = some u → w.cell? (a.add (j * d.sz + i)) = some u := by
      intro k
      induction k with
      | zero => intro _; exact ⟨[], rfl, fun x hx => (by cases hx), fun j p hj => by simp at hj⟩
      | succ k ih =>
        intro hk
        obtain ⟨xs, hxl, hxq, hxs⟩ := ih (by omega)
        obtain ⟨cs', hc, ht'⟩ := hi k (by omega)
        obtain ⟨p0, hp0, hq0⟩ := hK _ _ _ ht'
        obtain ⟨_, hcl, hat⟩ := World.cells?_some hc
        refine ⟨xs ++ [p0], by simp [hxl], fun x hx => (by rcases List.mem_append.1 hx with h | h; exact hxq x h; simp only [List.mem_singleton] at h; rw [h]; exact hq0), fun j p hj => ?_⟩
        by_cases hjk : j < k
        · rw [List.getElem?_append_left (by omega)] at hj
          exact hxs j p hj
        · have hjl : j < (xs ++ [p0]).length := (List.getElem?_eq_some_iff.1 hj).1
          have hje : j = k := by simp [hxl] at hjl; omega
          subst hje
          rw [List.getElem?_append_right (by omega), hxl, Nat.sub_self] at hj
          cases hj
          refine ⟨cs', by rw [hcl, hsz], hp0, fun i u hu => ?_⟩
          have hil : i < cs'.length := (List.getElem?_eq_some_iff.1 hu).1
          have h1 := hat i (by omega)
          rw [hsz] at h1
          rw [← Go.Deep.add_add, h1, hu]
    obtain ⟨xs, hxl, hxq, hxs⟩ := key len (Nat.le_refl _)
    refine ⟨some a, xs, cap, by rw [hcs, hxl], by omega, ⟨rfl, by simp [maxLen] at hm; omega, fun _ => ⟨a, rfl, hxs⟩⟩, hxq⟩
end
set_option maxRecDepth 100000 in
theorem openText {H : Type} {enc : TypeId × Value → H} {w : World} {base : Nat} {spare : Nat → Bool} {held : Bool} {v : Value} {d : DataW H} {p : List MemPlace} (h : ∃ fuel, DataW.trod enc Tryz.prog w base spare held fuel 34 [v] = some (d, p)) :
    ∃ (A : Option Addr) (xs : List Int) (cap : Nat), v = .slice A xs.length cap ∧ xs.length ≤ cap ∧ (Kd.int .i64).C w A xs.length xs ∧ ∀ x ∈ xs, inR x := by
  obtain ⟨fuel, h⟩ := h
  refine C_of_trodQ (Kd.int .i64) inR Tryz.underlying34 cells3 (fun n cs y h => ?_) h
  obtain ⟨a, rfl, _, hw⟩ := DataW.trod_int Tryz.underlying3 h
  refine ⟨a, rfl, ?_⟩
  simp [Lit.wf, IntKind.min, IntKind.max, IntKind.signed, IntKind.bits] at hw
  unfold inR; omega
end Rf

open Go.ChangeShapes Go.WideShapes Go.ChangeAt Go.WideMaps Go.WideElems Go.RowKit

abbrev laidL : List (String × DataW Unit) := [("unicodetext/ordering.ranges", Rows.laid_unicodetext_ordering_ranges)]
theorem ownK : ownKnob Tryz.prog.godebug = none := by kernel_rfl
theorem laidOutA : laidOutB Tryz.prog = true := by kernel_rfl
theorem door_met (os : Os) (args : Array Value) : laidMetH Tryz.prog laidL ((World.doorLaid Tryz.prog 400 os).forCall (fun _ _ => 0) ⟨#[], args, []⟩).memory :=
  laidMetH_of_parts3 (fuel := 8) (laidMet_of_run' 8 (by kernel_rfl) (by kernel_rfl)) (by kernel_rfl) (by kernel_rfl)

set_option maxRecDepth 100000 in
theorem openNorm {H : Type} {enc : TypeId × Value → H} {w : World} {base : Nat} {spare : Nat → Bool} {held : Bool} {cs : Array Value} {d : DataW H} {p : List MemPlace} (h : DataW.Trod enc Tryz.prog w base spare held 28 (.agg cs) d p) :
    ∃ (Ac Ad Ax : Option Addr) (cc cd cx : Nat) (cl : List Rf.S71) (dm : List Rf.S61) (ex : List Rf.S52), cs = #[.slice Ac cl.length cc, .slice Ad dm.length cd, .slice Ax ex.length cx] ∧
      (cl.length ≤ cc ∧ Rf.k71.C w Ac cl.length cl) ∧ (dm.length ≤ cd ∧ Rf.k61.C w Ad dm.length dm) ∧ (ex.length ≤ cx ∧ Rf.k52.C w Ax ex.length ex) := by
  obtain ⟨fuel, hf⟩ := h
  obtain ⟨ys, n', _, _, hl, hyl, hff⟩ := DataW.trod_struct Tryz.underlying28 hf
  have hc : Tryz.prog.cellsOf 28 = 3 := by kernel_rfl
  rw [hc] at hl
  obtain ⟨l⟩ := cs
  have hl' : l.length = 3 := by simpa [Value.cells] using hl
  match l, hl' with
  | [a, b, c], _ =>
    have h0 := hff 0 _ rfl
    have h1 := hff 1 _ rfl
    have h2 := hff 2 _ rfl
    simp only [List.getElem_toArray, List.getElem_cons_zero, List.getElem_cons_succ, Value.cells] at h0 h1 h2
    have k0 : Tryz.prog.cellsOf 22 = 1 := by kernel_rfl
    have k1 : Tryz.prog.cellsOf 23 = 1 := by kernel_rfl
    have k2 : Tryz.prog.cellsOf 26 = 1 := by kernel_rfl
    have k3 : Tryz.prog.cellsOf 24 = 1 := by kernel_rfl
    rw [k0] at h0
    rw [k1] at h1
    rw [k2] at h2
    simp only [List.drop_zero, List.drop_succ_cons, List.take_succ_cons, List.take_zero] at h0 h1 h2
    match ys, hyl with
    | [z0, z1, z2], _ =>
      obtain ⟨Ac, cl, cc, ea, hca, hCa⟩ := Rf.C_of_trod Rf.k71 Tryz.underlying22 (by kernel_rfl) (fun n cs y h => Rf.K_span h) (x := z0) h0
      obtain ⟨Ad, dm, cd, eb, hcb, hCb⟩ := Rf.C_of_trod Rf.k61 Tryz.underlying23 (by kernel_rfl) (fun n cs y h => Rf.K_mapping h) (x := z1) h1
      obtain ⟨zs, m', _, _, hl3, hzl, hg⟩ := DataW.trod_struct Tryz.underlying26 (x := z2) h2
      have h3 := hg 0 _ rfl
      simp only [List.getElem_toArray, List.getElem_cons_zero] at h3
      rw [k3] at h3
      simp only [List.drop_zero, List.take_succ_cons, List.take_zero] at h3
      match zs, hzl with
      | [u0], _ =>
        obtain ⟨Ax, ex, cx, ec, hcc, hCc⟩ := Rf.C_of_trod Rf.k52 Tryz.underlying24 (by kernel_rfl) (fun n cs y h => Rf.K_range h) (x := u0) h3
        subst ea; subst eb; subst ec
        exact ⟨Ac, Ad, Ax, cc, cd, cx, cl, dm, ex, rfl, ⟨hca, hCa⟩, ⟨hcb, hCb⟩, ⟨hcc, hCc⟩⟩

end Go.Proofs.YtipedgkampafjaaGreatDoor
/- The row and the tied card of DecomposeChecks. -/
namespace Go.Proofs.YtipedgkampafjaaGreatDoor
open Go.ChangeShapes Go.WideShapes Go.ChangeAt Go.WideMaps Go.WideElems Go.RowKit

set_option maxRecDepth 100000 in
set_option maxHeartbeats 2000000 in
theorem decomposeChecks_lifted (os : Os) (started : os.Started) (H : Type) (enc : TypeId × Value → H) :
    ReturnsInHanded {} Tryz.checked os 3 .any (fun w args => (Rows.decomposeChecksSpec.pre enc Tryz.prog Tryz.f3 [] false w args ∧ laidMetH Tryz.prog laidL w) ∧ sizedMet enc Tryz.prog Tryz.f3 (OpenSpec.ofChange Rows.decomposeChecksSpec) false w args)
      (Rows.decomposeChecksSpec.post enc Tryz.prog Tryz.f3 false true false false) := by
  refine returnsInHanded_of_change_and (C := Tryz.checked) (X := fun w _ => laidMetH Tryz.prog laidL w) (fun _ _ _ hh h => h.of_heap hh) ownK started (by kernel_rfl) Tryz.func3
    (ChangeSpec.witness_shaped (enc := enc) (C := Tryz.checked) (os := os) (X := fun w _ => laidMetH Tryz.prog laidL w) false (World.doorLaid Tryz.prog 400 os) #[.agg #[.slice none 0 0, .slice none 0 0, .slice none 0 0]] 8 rfl (World.shaped_of_RefB (by kernel_rfl) (by kernel_rfl)) (by kernel_rfl) (by kernel_rfl) (by kernel_rfl) (door_met os _)) ?_
  intro W base args ds gs before hval0 hW _ _ hL _
  have hval : ∀ (j : Nat) t v, Tryz.f3.params[j]? = some t → args[j]? = some v → Value.okWide Tryz.prog W .any base t v := hval0
  have hW' := hW
  obtain ⟨p, q, hA0, hV, rfl, hfz, hnd⟩ := hW
  have hA : DataW.TrodAll enc Tryz.prog W 0 (fun _ => true) true Tryz.f3.params.toList args.toList ds p := hA0
  rw [Tryz.params3] at hA hval
  obtain ⟨v0, d0, rfl, rfl, h0⟩ := trodAll_one hA
  obtain ⟨rfl, rfl⟩ := trodVars_none hV
  obtain ⟨cs, rfl, _⟩ := okWide_struct Tryz.underlying28 (hval 0 28 v0 rfl rfl)
  have k0 := h0
  have lt0 : ∀ x ∈ p, x.block < W.heap.size := by obtain ⟨m, hm⟩ := k0; exact DataW.trod_lt m _ _ _ hm
  obtain ⟨Ac, Ad, Ax, cc, cd, cx, cl, dm, ex, rfl, ⟨hcc, hC⟩, ⟨hcd, hD⟩, ⟨hcx, hX⟩⟩ := openNorm h0
  refine (Rf.checks_law_any Ac Ad Ax cc cd cx cl dm ex W (of_laid hL) hC hcc hD hcd hX hcx).mono fun e W' ⟨he, bel⟩ => ?_
  subst he
  exact ⟨_, rfl, _, _, _, [], _, [], hW', trodAll_mk1 (shut_bool Tryz.underlying4 _), (trodAll_mk1 (Below.trod laidOutA (by kernel_rfl) (of_decide_eq_true (by kernel_rfl)) k0 bel lt0)), rfl, bel.frame _, fun h => by cases h⟩

theorem decomposeChecks_holds : Rows.DecomposeChecksSaid :=
  OpenClaim.holds_of_wide 3 Tryz.f3 rfl rfl rfl rfl rfl rfl rfl ⟨rfl, rfl, rfl, rfl, rfl⟩ rfl rfl rfl rfl rfl (by kernel_rfl) Tryz.func3 (by kernel_rfl)
    (of_decide_eq_true (by kernel_rfl)) (by unfold Func.isWrapper; first | (rw [if_pos (by decide +kernel)]; kernel_rfl) | (rw [if_neg (by decide +kernel)]; exact ⟨rfl, rfl⟩))
    (fun os started H enc _ => decomposeChecks_lifted os started H enc)

theorem decomposeChecks_card : Rows.DecomposeChecksCardSaid :=
  Claim7.holds_tied_plain_at .later [] [.data] true Rows.decomposeChecksCard.stood.harness false
    decomposeChecks_holds (fun _ h => by cases h) (by kernel_rfl) (fun _ h => by cases h) decomposeChecks_row_tie rfl ⟨rfl, rfl⟩ (by kernel_rfl) rfl
    (fun f fn hf hfn => by
      obtain rfl : f = 3 := Option.some.inj ((show Tryz.prog.funcNamed "unicodetext/unicodetextlaw21.DecomposeChecks" = some 3 by kernel_rfl).symm.trans hf) |>.symm
      obtain rfl : fn = Tryz.f3 := (Option.some.inj (Tryz.func3.symm.trans hfn)).symm
      exact ⟨by kernel_rfl, fun j t ht => by
        rw [Tryz.params3] at ht
        have hm : t ∈ [28] := by simpa using Array.mem_of_getElem? ht
        have hall : ([28].all fun u => !Tryz.prog.wantsStandIn u) = true := by kernel_rfl
        exact (show Tryz.prog.wantsStandIn t = false by simpa using List.all_eq_true.1 hall t hm)⟩)
    (by kernel_rfl)
end Go.Proofs.YtipedgkampafjaaGreatDoor
