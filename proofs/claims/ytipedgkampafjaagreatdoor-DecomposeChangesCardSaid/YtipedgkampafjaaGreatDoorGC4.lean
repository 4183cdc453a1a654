import Derived.Test.YtipedgkampafjaaGreatDoorGC3
import Derived.Test.YtipedgkampafjaaGreatDoorGC2
import Derived.Outline
import Derived.Test.YtipedgkampafjaaGreatDoorGC1
import Derived.Lib.QuietBelow
import Derived.BigQuiet
/- Tells what the reference's Make and Valid (of sets) compute. -/
namespace Go.Proofs.YtipedgkampafjaaGreatDoor.Rf
open Go.Shelf Go.RowKit Go.Proofs.YtipedgkampafjaaGreatDoorW.PrintWords Go.Proofs.YtipedgkampafjaaGreatDoorW.PrintLast Go.Proofs.YtipedgkampafjaaGreatDoorW.PrintMore

set_option maxRecDepth 100000 in
set_option maxHeartbeats 16000000 in
theorem refMake_any (A : Option Addr) (ca : Nat) (rs : List RR) (w : World) (hr : Kd.C k52 w A rs.length rs) (hl : rs.length ≤ 1000) :
    Calls Tryz.prog 25 #[.slice A rs.length ca] w fun e w' => (∃ v, e = .returned (.agg #[v]) ∧ (mkS rs).length ≤ 1000000 ∧ RowR w' w.heap.size v (mkS rs)) ∧ Below w.heap.size w w' := by
  have HB0 : Aside0 (Below w.heap.size w (w.alloc (.cells #[.slice none 0 0] 26))) := ⟨below_alloc (Below.refl _ _) _⟩
  have HC0 : Aside0 ((w.alloc (.cells #[.slice none 0 0] 26)).heap[w.heap.size]? = some (.cells #[.slice none 0 0] 26)) := ⟨heap_alloc_new _ _⟩
  have HU := Aside0.mk (refUnion_any A ca rs _ (Kd.C_below hr HB0.out) hl)
  generalize mkS rs = out at HU ⊢
  clear hr hl
  go_enter Tryz.func25, Tryz.ntmps25
  go_wp2_with fail
  refine HU.out.mono ?_
  rintro e w1 ⟨⟨v, rfl, hlen, hC⟩, hb⟩
  have HB := Aside0.mk (below_step HB0.out hb)
  have HLs := Aside0.mk hlen
  rw [show (w.alloc (.cells #[.slice none 0 0] 26)).heap.size = w.heap.size + 1 by simp] at hC
  have HCB := Aside0.mk hC
  obtain ⟨C, cap, ev, hcap, hC2⟩ := rowR_C hC hlen
  subst ev
  have h3 : w1.heap[w.heap.size]? = some (.cells #[.slice none 0 0] 26) := by rw [hb.block _ (Array.getElem?_eq_some_iff.1 HC0.out).1]; exact HC0.out
  have hcw : w1.cell? ⟨w.heap.size, 0, none⟩ = some (.slice none 0 0) := by simp [World.cell?, h3]
  have hfw : w1.frozen? ⟨w.heap.size, 0, none⟩ = false := by simp [World.frozen?, h3]
  have HHeap := Aside0.mk h3
  clear hb hC h3 hcap hlen hC2
  go_wp2_with fail
  (try simp only [Exit.inBlock, Exit.then])
  have hg9 : w1.grownBy (w1.setCell ⟨w.heap.size, 0, none⟩ (.slice C out.length cap)) (some w.heap.size) := ⟨rfl, rfl, rfl, by simp [World.setCell], fun i hi hne => Below.heap_setCell _ _ _ _ (fun e => hne (by rw [e]))⟩
  refine bodyPost_ret (results_cell_row rfl _ _ w.heap.size 26 #[.slice C out.length cap] (0, 0) _ rfl (by
    rw [Sort.setCell_eq]
    simp [Sort.mapBlock, Array.getElem?_modify, HHeap.out, Sort.onCells]) Tryz.underlying26 rfl (by kernel_rfl)) rfl ?_
  have hro : RowR (w1.setCell ⟨w.heap.size, 0, none⟩ (.slice C out.length cap)) (w.heap.size + 1) (.slice C out.length cap) out := World.ownsRow.kept HCB.out hg9 (by
    cases hC : (Value.slice C out.length cap).ownBlock with
    | none => exact Or.inl rfl
    | some k =>
      refine Or.inr fun e => ?_
      have h1 := HCB.out.ge k hC
      cases e
      omega)
  exact ⟨⟨_, rfl, HLs.out, own_weaken hro (by omega)⟩, HB.out.grown hg9 HB.out.size (fun k hk => by cases hk; exact Nat.le_refl _)⟩

set_option maxRecDepth 100000 in
set_option maxHeartbeats 16000000 in
theorem refSetValid_any (A : Option Addr) (ca : Nat) (rs : List RR) (w : World) (hr : Kd.C k52 w A rs.length rs) (hl : rs.length ≤ 1000) :
    Calls Tryz.prog 14 #[.agg #[.slice A rs.length ca]] w fun e w' => e = .returned (.bool (canonR rs)) ∧ Below w.heap.size w w' := by
  rw [← mkS_valid]
  have HB0 : Aside0 (Below w.heap.size w (w.alloc (.cells #[.slice A rs.length ca] 26))) := ⟨below_alloc (Below.refl _ _) _⟩
  have HC0 : Aside0 ((w.alloc (.cells #[.slice A rs.length ca] 26)).cell? ⟨w.heap.size, 0, none⟩ = some (.slice A rs.length ca)) := ⟨cell_new_sl _ _ _⟩
  have HR := Aside0.mk hr
  have HL := Aside0.mk hl
  clear hr hl
  go_enter Tryz.func14, Tryz.ntmps14
  go_wp2_with fail
  obtain ⟨w1, hw1⟩ : ∃ x, x = w.alloc (.cells #[.slice A rs.length ca] 26) := ⟨_, rfl⟩
  rw [← hw1] at HB0 HC0 ⊢
  clear hw1
  have k0 := HC0.out
  have HKeep : Aside0 (∀ W, Below w1.heap.size w1 W → W.cell? ⟨w.heap.size, 0, none⟩ = some (.slice A rs.length ca)) := ⟨fun W hW => by rw [hW.cell (cell_lt HC0.out)]; exact HC0.out⟩
  have HT1 : Aside0 (∀ W, Below w1.heap.size w1 W → Calls Tryz.prog 25 #[.slice A rs.length ca] W fun e w' => (∃ v, e = .returned (.agg #[v]) ∧ (mkS rs).length ≤ 1000000 ∧ RowR w' W.heap.size v (mkS rs)) ∧ Below W.heap.size W w') := ⟨fun W hW =>
    refMake_any A ca rs W (Kd.C_below HR.out (below_step HB0.out hW)) HL.out⟩
  have HT2 : Aside0 (∀ W B cap, Below w1.heap.size w1 W → (mkS rs).length ≤ 1000000 → Kd.C k52 W B (mkS rs).length (mkS rs) → Calls Tryz.prog 15 #[.agg #[.slice A rs.length ca], .agg #[.slice B (mkS rs).length cap]] W fun e w' => e = .returned (.bool (decide (rs = mkS rs))) ∧ Below W.heap.size W w') := ⟨fun W B cap hW h1 h2 =>
    refSame_any A B ca cap rs (mkS rs) W (Kd.C_below HR.out (below_step HB0.out hW)) h2 (by have := HL.out; omega) (by omega)⟩
  obtain ⟨res, hdv⟩ : ∃ res, decide (rs = mkS rs) = res := ⟨_, rfl⟩
  rw [hdv] at HT2
  have HDv := Aside0.mk hdv
  clear hdv
  generalize mkS rs = out at HT1 HT2
  go_region_held3 (fun w' => w'.cell? ⟨w.heap.size, 0, none⟩ = some (.slice A rs.length ca))
    (first | go_keep | exact HKeep.out _ HW1.out | exact HKeep.out _ HW2.out)
    (first
      | (go_at_call 25; (with_reducible refine (HT1.out _ ?_).mono ?_); exact below_drew (Below.refl _ _); rintro e w3 ⟨⟨v, rfl, hlen, hC⟩, hb3⟩; obtain ⟨B, cap, ev, hcap, hC2⟩ := rowR_C hC hlen; subst ev; have HCB := Aside0.mk hC2; have HLn := Aside0.mk hlen; have HW1 := Aside0.mk (below_step (below_drew (Below.refl w1.heap.size w1)) hb3); clear hcap hlen hC hC2 hb3)
      | (go_at_call 15; (with_reducible refine (HT2.out _ _ _ HW1.out HLn.out HCB.out).mono ?_); rintro e w4 ⟨rfl, hb4⟩; have HW2 := Aside0.mk (below_step HW1.out hb4); clear hb4))
  go_wp2_with fail
  go_ret
  exact ⟨ret_bool HDv.out.symm, below_step HB0.out HW2.out⟩
end Go.Proofs.YtipedgkampafjaaGreatDoor.Rf
/- Tells what the reference's find finds. -/
namespace Go.Proofs.YtipedgkampafjaaGreatDoor.Rf
open Go.Shelf Go.RowKit Go.Proofs.YtipedgkampafjaaGreatDoorW.PrintWords Go.Proofs.YtipedgkampafjaaGreatDoorW.PrintLast Go.Proofs.YtipedgkampafjaaGreatDoorW.PrintMore

/-- What find looks for. -/
def fndP (x : Int) (b : Bool) (m : S61) : Bool := (m.f0 == x) && (b || m.f2.toList.isEmpty)
/-- The first place of a list that meets p, else -1. -/
def FindR (p : S61 → Bool) (l : List S61) (r : Int) : Prop := (r = -1 ∧ l.any p = false) ∨ ∃ j : Nat, r = (j : Int) ∧ j < l.length ∧ p (l.getD j z61) = true ∧ (l.take j).any p = false

set_option maxRecDepth 100000 in
set_option maxHeartbeats 16000000 in
theorem refFind_any (A : Option Addr) (ca : Nat) (l : List S61) (x : Int) (b : Bool) (w : World) (hr : Kd.C k61 w A l.length l) (hl : l.length ≤ 1000000000) :
    Calls Tryz.prog 38 #[.slice A l.length ca, .int .i64 x, .bool b] w fun e w' => (∃ r, e = .returned (.int .i64 r) ∧ FindR (fndP x b) l r) ∧ w' = w := by
  have HR := Aside0.mk hr
  have HP : Aside0 (∀ m, fndP x b m = ((m.f0 == x) && (b || m.f2.toList.isEmpty))) := ⟨fun _ => rfl⟩
  generalize fndP x b = p at HP ⊢
  clear hr
  go_enter Tryz.func38, Tryz.ntmps38
  go_wp2_with fail
  go_loop [7] (fun t => ∃ i : Nat, t = .int .i64 i ∧ i ≤ l.length ∧ Aside0 ((l.take i).any p = false)) (fun t => l.length - (intOf t).toNat)
  case atStart => exact ⟨0, rfl, Nat.zero_le _, ⟨rfl⟩⟩
  case round =>
    obtain ⟨i, rfl, hi, HA⟩ := hrel
    by_cases hlt : i < l.length
    · have hltz : (i : Int) < (l.length : Int) := by omega
      obtain ⟨ad, A1, c1, e, hx0, hx1, hx2, hl1, hi1⟩ := at_T61 HR.out i (by omega) (by omega)
      subst e
      clear hl1 hi1 hx1
      simp only [Int.toNat_natCast] at hx0 hx2
      have HY : Aside0 (rd_T61 l i = l.getD i z61) := ⟨by simp [rd_T61]⟩
      have HYes : Aside0 (p (rd_T61 l i) = true → FindR p l (i : Int)) := ⟨fun h => .inr ⟨i, rfl, hlt, by rw [← HY.out]; exact h, HA.out⟩⟩
      have HNo : Aside0 (p (rd_T61 l i) = false → (l.take (i + 1)).any p = false) := ⟨fun h =>
        any_take_succ p l z61 i hlt HA.out (by rw [← HY.out]; exact h)⟩
      rw [HP.out] at HYes HNo
      generalize rd_T61 l i = r at hx0 hx2 HY HYes HNo
      cases g0 : (r.f0 == x) with
      | false =>
        have HN := Aside0.mk (HNo.out (by rw [g0]; rfl))
        go_wp2_with fail
        go_round
        case rel => exact ⟨i + 1, by first | rfl | go_num, by omega, HN⟩
        case measure => simp [intOf]; omega
      | true =>
        cases b with
        | true =>
          have HN := Aside0.mk (HYes.out (by rw [g0]; rfl))
          go_wp2_with fail
          go_ret
          exact ⟨⟨_, rfl, HN.out⟩, rfl⟩
        | false =>
          cases g2 : r.f2.toList.isEmpty with
          | false =>
            have HN := Aside0.mk (HNo.out (by rw [g0, g2]; rfl))
            go_wp2_with fail
            go_round
            case rel => exact ⟨i + 1, by first | rfl | go_num, by omega, HN⟩
            case measure => simp [intOf]; omega
          | true =>
            have HN := Aside0.mk (HYes.out (by rw [g0, g2]; rfl))
            go_wp2_with fail
            go_ret
            exact ⟨⟨_, rfl, HN.out⟩, rfl⟩
    · have hltz : ¬ (i : Int) < (l.length : Int) := by omega
      have HF : Aside0 (FindR p l (-1)) := ⟨.inl ⟨rfl, by have := HA.out; rwa [List.take_of_length_le (by omega)] at this⟩⟩
      go_wp2_with fail
      go_ret
      exact ⟨⟨_, rfl, HF.out⟩, rfl⟩
end Go.Proofs.YtipedgkampafjaaGreatDoor.Rf
/- Tells what the reference's Kind (of Hangul) computes. -/
namespace Go.Proofs.YtipedgkampafjaaGreatDoor.Rf
open Go.Shelf Go.RowKit Go.Proofs.YtipedgkampafjaaGreatDoorW.PrintWords Go.Proofs.YtipedgkampafjaaGreatDoorW.PrintLast Go.Proofs.YtipedgkampafjaaGreatDoorW.PrintMore

set_option maxRecDepth 100000 in
set_option maxHeartbeats 16000000 in
theorem refKind_any (c : Int) (w : World) :
    Calls Tryz.prog 39 #[.int .i64 c] w fun e w' => e = .returned (.int .i64 (hk c)) ∧ w' = w := by
  obtain ⟨r, HE⟩ : ∃ r, Aside0 (hk c = r) := ⟨_, ⟨rfl⟩⟩
  have HK : Aside0 (hk c = if 44032 ≤ c ∧ c < 55204 then (if (c - 44032) % 28 = 0 then 4 else 5) else if 4352 ≤ c ∧ c < 4371 then 1 else if 4449 ≤ c ∧ c < 4470 then 2 else if 4520 ≤ c ∧ c < 4547 then 3 else 0) := ⟨rfl⟩
  by_cases h1 : 4352 ≤ c ∧ c ≤ 4370
  · obtain ⟨a1, a2⟩ := h1
    have HF : Aside0 (1 = hk c) := ⟨by rw [HK.out, if_neg (by omega), if_pos (by omega)]⟩
    go_enter Tryz.func39, Tryz.ntmps39
    go_wp2_with fail
    go_ret
    exact ⟨ret_int HF.out, rfl⟩
  · have d1 : (if 4352 ≤ c then decide (c ≤ 4370) else false) = false := by split <;> simp <;> omega
    by_cases h2 : 4449 ≤ c ∧ c ≤ 4469
    · obtain ⟨a1, a2⟩ := h2
      have HF : Aside0 (2 = hk c) := ⟨by rw [HK.out, if_neg (by omega), if_neg (by omega), if_pos (by omega)]⟩
      have b1 : 4352 ≤ c := by omega
      have b2 : ¬ c ≤ 4370 := by omega
      clear h1 d1
      go_enter Tryz.func39, Tryz.ntmps39
      go_wp2_with fail
      go_ret
      exact ⟨ret_int HF.out, rfl⟩
    · by_cases h3 : 4520 ≤ c ∧ c ≤ 4546
      · obtain ⟨a1, a2⟩ := h3
        have HF : Aside0 (3 = hk c) := ⟨by rw [HK.out, if_neg (by omega), if_neg (by omega), if_neg (by omega), if_pos (by omega)]⟩
        have b1 : 4352 ≤ c := by omega
        have b2 : ¬ c ≤ 4370 := by omega
        have b3 : 4449 ≤ c := by omega
        have b4 : ¬ c ≤ 4469 := by omega
        clear h1 d1 h2
        go_enter Tryz.func39, Tryz.ntmps39
        go_wp2_with fail
        go_ret
        exact ⟨ret_int HF.out, rfl⟩
      · by_cases h4 : 44032 ≤ c ∧ c ≤ 55203
        · obtain ⟨a1, a2⟩ := h4
          have b1 : 4352 ≤ c := by omega
          have b2 : ¬ c ≤ 4370 := by omega
          have b3 : 4449 ≤ c := by omega
          have b4 : ¬ c ≤ 4469 := by omega
          have b5 : 4520 ≤ c := by omega
          have b6 : ¬ c ≤ 4546 := by omega
          have hw : IntKind.i64.wrap (c - 44032) = c - 44032 := IntWalk.i64_in _ (by omega)
          clear h1 d1 h2 h3
          by_cases h5 : (c - 44032) % 28 = 0
          · have HF : Aside0 (4 = hk c) := ⟨by rw [HK.out, if_pos (by omega), if_pos h5]⟩
            have ht : (c - 44032).tmod 28 = 0 := by rw [Int.tmod_eq_emod_of_nonneg (by omega)]; exact h5
            have h5 := Aside0.mk h5
            go_enter Tryz.func39, Tryz.ntmps39
            go_wp2_with fail
            go_ret
            exact ⟨ret_int HF.out, rfl⟩
          · have HF : Aside0 (5 = hk c) := ⟨by rw [HK.out, if_pos (by omega), if_neg h5]⟩
            have ht : ((c - 44032).tmod 28 == 0) = false := by rw [Int.tmod_eq_emod_of_nonneg (by omega)]; simpa using h5
            have h5 := Aside0.mk h5
            go_enter Tryz.func39, Tryz.ntmps39
            go_wp2_with fail
            go_ret
            exact ⟨ret_int HF.out, rfl⟩
        · have HF : Aside0 (0 = hk c) := ⟨by rw [HK.out, if_neg (by omega), if_neg (by omega), if_neg (by omega), if_neg (by omega)]⟩
          have G1 := Aside0.mk h1
          have G2 := Aside0.mk h2
          have G3 := Aside0.mk h3
          have G4 := Aside0.mk h4
          clear d1 h1 h2 h3 h4
          cases q1 : decide (4352 ≤ c) <;> cases q2 : decide (c ≤ 4370) <;> cases q3 : decide (4449 ≤ c) <;> cases q4 : decide (c ≤ 4469) <;> cases q5 : decide (4520 ≤ c) <;> cases q6 : decide (c ≤ 4546) <;> cases q7 : decide (44032 ≤ c) <;> cases q8 : decide (c ≤ 55203)
          all_goals
            first
              | (exfalso; have h1 := G1.out; have h2 := G2.out; have h3 := G3.out; have h4 := G4.out; simp only [decide_eq_true_eq, decide_eq_false_iff_not] at q1 q2 q3 q4 q5 q6 q7 q8; omega)
              | (go_enter Tryz.func39, Tryz.ntmps39
                 go_wp2_with fail
                 go_ret
                 exact ⟨ret_int HF.out, rfl⟩)
end Go.Proofs.YtipedgkampafjaaGreatDoor.Rf
/- Tells that the reference's Check of classes is the program's. -/
namespace Go.Proofs.YtipedgkampafjaaGreatDoor.Rf
open Go.Shelf Go.RowKit Go.Proofs.YtipedgkampafjaaGreatDoorW.PrintWords Go.Proofs.YtipedgkampafjaaGreatDoorW.PrintLast Go.Proofs.YtipedgkampafjaaGreatDoorW.PrintMore

theorem spBad_cases (s : S71) : (spBad s = true ∧ (okC s.f0 = false ∨ (okC s.f0 = true ∧ okC s.f1 = false) ∨ (okC s.f0 = true ∧ okC s.f1 = true ∧ s.f1 < s.f0) ∨ (okC s.f0 = true ∧ okC s.f1 = true ∧ ¬ s.f1 < s.f0 ∧ s.f2 < 1) ∨ (okC s.f0 = true ∧ okC s.f1 = true ∧ ¬ s.f1 < s.f0 ∧ ¬ s.f2 < 1 ∧ 254 < s.f2))) ∨ (spBad s = false ∧ okC s.f0 = true ∧ okC s.f1 = true ∧ ¬ s.f1 < s.f0 ∧ ¬ s.f2 < 1 ∧ ¬ 254 < s.f2) := by
  cases h : spBad s with
  | true =>
    refine .inl ⟨rfl, ?_⟩
    unfold spBad at h
    simp only [Bool.or_eq_true, decide_eq_true_eq] at h
    simp only [okC_true, okC_false]
    omega
  | false =>
    have := spBad_no h
    refine .inr ⟨rfl, ?_⟩
    simp only [okC_true]
    omega
/-- A span meets a range. -/
def meets (s : S71) (r : S52) : Bool := decide (s.f0 ≤ r.f1) && decide (r.f0 ≤ s.f1)
theorem kor_meets (s : S71) (h : s.f0 ≤ s.f1) : kor s = hgL.any (meets s) := by
  have e : ∀ lo hi : Int, lo ≤ hi → korR s lo hi = meets s ⟨lo, hi⟩ := fun lo hi hl => by
    rw [Bool.eq_iff_iff]
    simp only [korR, meets, decide_eq_true_eq, Bool.and_eq_true]
    unfold mx mn
    split <;> split <;> omega
  unfold kor hgL
  rw [e _ _ (by decide), e _ _ (by decide), e _ _ (by decide), e _ _ (by decide)]
  simp [List.any_cons, Bool.or_assoc]

set_option maxRecDepth 100000 in
set_option maxHeartbeats 16000000 in
theorem ref20Check_any (A : Option Addr) (c : Nat) (xs : List S71) (w : World) (hr : Kd.C k71 w A xs.length xs) (hl : xs.length ≤ 1000000000) :
    Calls Tryz.prog 36 #[.slice A xs.length c] w fun e w' => e = .returned (.int .i64 (ordChk xs)) ∧ Below w.heap.size w w' := by
  have HR := Aside0.mk hr
  clear hr
  go_enter Tryz.func36, Tryz.ntmps36
  go_wp2_with fail
  go_loopw [3] (fun v wr => ∃ k : Nat, v = .int .i64 k ∧ k ≤ xs.length ∧ Aside0 ((xs.take k).any spBad = false) ∧ Aside0 (Below w.heap.size w wr)) (fun v _ => xs.length - (intOf v).toNat)
  case atStart => exact ⟨0, rfl, Nat.zero_le _, ⟨rfl⟩, ⟨Below.refl _ _⟩⟩
  case round =>
    obtain ⟨k, rfl, hk, HA, HB⟩ := hrel
    by_cases hlt : k < xs.length
    · have hltz : (k : Int) < (xs.length : Int) := by omega
      obtain ⟨ad, e, hx0, hx1, hx2⟩ := at_T71 (Kd.C_below HR.out HB.out) k (by omega) (by omega)
      subst e
      simp only [Int.toNat_natCast] at hx0 hx1 hx2
      have HX : Aside0 (rd_T71 xs k = xs.getD k z71) := ⟨by simp [rd_T71]⟩
      generalize rd_T71 xs k = x at hx0 hx1 hx2 HX
      rcases spBad_cases x with ⟨hb, hcs⟩ | ⟨hb, g0, g1, g2, g3, g4⟩
      · have HBad := Aside0.mk hb
        clear hb
        rcases hcs with g0 | ⟨g0, g1⟩ | ⟨g0, g1, g2⟩ | ⟨g0, g1, g2, g3⟩ | ⟨g0, g1, g2, g3, g4⟩
        all_goals
          go_wp2_with fail
          go_quiet (exact Calls.quiet_of_same (refValid_any _ _))
          go_wp2_with fail
          go_ret
          exact ⟨ret_int (by rw [ordChk, if_pos (any_of_take spBad xs z71 k hlt (by rw [← HX.out]; exact HBad.out))]), pw_below_drewN HB.out _⟩
      · have HBad := Aside0.mk hb
        clear hb
        go_wp2_with fail
        go_quiet (exact Calls.quiet_of_same (refValid_any _ _))
        go_wp2_with fail
        go_roundw
        case rel => exact ⟨k + 1, by first | rfl | go_num, by omega, ⟨any_take_succ spBad xs z71 k hlt HA.out (by rw [← HX.out]; exact HBad.out)⟩, ⟨pw_below_drewN HB.out _⟩⟩
        case measure => simp [intOf]; omega
    · have HN : Aside0 (xs.any spBad = false) := ⟨by
        have : k = xs.length := by omega
        subst this
        simpa using HA.out⟩
      have hltz : ¬ (k : Int) < (xs.length : Int) := by omega
      clear HA
      go_wp2_with fail
      go_loopw [4] (fun v wr => ∃ k : Nat, v = .int .i64 k ∧ 1 ≤ k ∧ (k ≤ xs.length ∨ k = 1) ∧ Aside0 (pairAny spAdj (xs.take k) = false) ∧ Aside0 (Below w.heap.size w wr)) (fun v _ => xs.length - (intOf v).toNat)
      case atStart => exact ⟨1, rfl, Nat.le_refl _, .inr rfl, ⟨by cases xs <;> simp [pairAny]⟩, HB⟩
      case round =>
        clear HB hk hlt hltz
        obtain ⟨k, rfl, hk1, hk, HA, HB⟩ := hrel
        by_cases hlt : k < xs.length
        · have hltz : (k : Int) < (xs.length : Int) := by omega
          have hb0 := spBad_no (all_of_any spBad xs z71 (k - 1) (by omega) HN.out)
          have hb1 := spBad_no (all_of_any spBad xs z71 k hlt HN.out)
          have HT := Aside0.mk (pairAny_take spAdj xs z71 k (by omega) hlt)
          obtain ⟨ad, e, hx0, hx1, hx2⟩ := at_T71 (Kd.C_below HR.out HB.out) ((k : Int) - 1) (by omega) (by omega)
          obtain ⟨ad', e', hy0, hy1, hy2⟩ := at_T71 (Kd.C_below HR.out HB.out) k (by omega) (by omega)
          subst e
          cases e'
          have hk' : ((k : Int) - 1).toNat = k - 1 := by omega
          have HX : Aside0 (rd_T71 xs ((k : Int) - 1) = xs.getD (k - 1) z71) := ⟨by simp [rd_T71, hk']⟩
          have HY : Aside0 (rd_T71 xs k = xs.getD k z71) := ⟨by simp [rd_T71]⟩
          rw [← HX.out] at hb0
          rw [← HY.out] at hb1
          simp only [Int.toNat_natCast, hk'] at hx0 hx1 hx2 hy0 hy1 hy2
          clear hk'
          generalize rd_T71 xs ((k : Int) - 1) = x at hx0 hx1 hx2 HX hb0
          generalize rd_T71 xs k = y at hy0 hy1 hy2 HY hb1
          rw [← HX.out, ← HY.out] at HT
          obtain ⟨kp, hkp⟩ : ∃ q, q + 1 = k := ⟨k - 1, by omega⟩
          have zk : (k : Int) = (kp : Int) + 1 := by omega
          rw [show k - 1 = kp by omega] at hx0 hx1 hx2
          have hw1 : IntKind.i64.wrap ((kp : Int) + 1) = (kp : Int) + 1 := IntWalk.i64_in _ (by omega)
          have hw2 : IntKind.i64.wrap (kp : Int) = (kp : Int) := IntWalk.i64_in _ (by omega)
          have hw3 : IntKind.i64.wrap (x.f1 + 1) = x.f1 + 1 := IntWalk.i64_in _ (by omega)
          have hn1 : ((kp : Int) + 1).toNat = k := by omega
          have hn2 : (0 : Int) ≤ (kp : Int) + 1 := by omega
          have hn3 : (kp : Int) + 1 < (xs.length : Int) := by omega
          have hn4 : (kp : Int) < (xs.length : Int) := by omega
          have HKP := Aside0.mk hkp
          clear hkp
          have hz : spAdj x y = (decide (y.f0 ≤ x.f1) || ((x.f1 + 1 == y.f0) && (x.f2 == y.f2))) := rfl
          have HQ := Aside0.mk hz
          clear hz
          have cs : (y.f0 ≤ x.f1) ∨ (¬ y.f0 ≤ x.f1 ∧ (y.f0 == x.f1 + 1) = false) ∨ (¬ y.f0 ≤ x.f1 ∧ (y.f0 == x.f1 + 1) = true ∧ (y.f2 == x.f2) = false) ∨ (¬ y.f0 ≤ x.f1 ∧ (y.f0 == x.f1 + 1) = true ∧ (y.f2 == x.f2) = true) := by
            by_cases h1 : y.f0 ≤ x.f1
            · exact .inl h1
            · cases h2 : (y.f0 == x.f1 + 1) <;> cases h3 : (y.f2 == x.f2) <;> simp [h1]
          have HS : Aside0 (spAdj x y = true ↔ (y.f0 ≤ x.f1) ∨ ((y.f0 == x.f1 + 1) = true ∧ (y.f2 == x.f2) = true)) := ⟨by
            rw [HQ.out]; simp only [Bool.or_eq_true, decide_eq_true_eq, Bool.and_eq_true, beq_iff_eq]; constructor <;> (rintro (h | ⟨h, h'⟩); exact .inl h; exact .inr ⟨by omega, by omega⟩)⟩
          clear HQ
          rcases cs with g1 | ⟨g1, g2⟩ | ⟨g1, g2, g3⟩ | ⟨g1, g2, g3⟩
          · have HE := Aside0.mk (HS.out.2 (.inl g1))
            go_wp2_with fail
            go_quiet (fail)
            go_wp2_with fail
            go_ret
            exact ⟨ret_int (by rw [ordChk, if_neg (by rw [HN.out]; simp), if_pos (pairAny_prefix spAdj xs (k + 1) (by rw [HT.out, HE.out, Bool.or_true]))]), pw_below_drewN HB.out _⟩
          · have g1d : decide (y.f0 ≤ x.f1) = false := decide_eq_false g1
            have HE : Aside0 (spAdj x y = false) := ⟨by rw [← Bool.not_eq_true, HS.out]; rintro (h | ⟨h, _⟩); exact g1 h; rw [g2] at h; cases h⟩
            go_wp2_with fail
            go_quiet (fail)
            go_wp2_with fail
            go_roundw
            case rel => exact ⟨k + 1, by congr 1; omega, by omega, .inl (by omega), ⟨by rw [HT.out, HE.out, HA.out]; rfl⟩, ⟨pw_below_drewN HB.out _⟩⟩
            case measure => simp [intOf]; omega
          · have g1d : decide (y.f0 ≤ x.f1) = false := decide_eq_false g1
            have HE : Aside0 (spAdj x y = false) := ⟨by rw [← Bool.not_eq_true, HS.out]; rintro (h | ⟨_, h⟩); exact g1 h; rw [g3] at h; cases h⟩
            go_wp2_with fail
            go_quiet (fail)
            go_wp2_with fail
            go_roundw
            case rel => exact ⟨k + 1, by congr 1; omega, by omega, .inl (by omega), ⟨by rw [HT.out, HE.out, HA.out]; rfl⟩, ⟨pw_below_drewN HB.out _⟩⟩
            case measure => simp [intOf]; omega
          · have g1d : decide (y.f0 ≤ x.f1) = false := decide_eq_false g1
            have HE := Aside0.mk (HS.out.2 (.inr ⟨g2, g3⟩))
            go_wp2_with fail
            go_quiet (fail)
            go_wp2_with fail
            go_ret
            exact ⟨ret_int (by rw [ordChk, if_neg (by rw [HN.out]; simp), if_pos (pairAny_prefix spAdj xs (k + 1) (by rw [HT.out, HE.out, Bool.or_true]))]), pw_below_drewN HB.out _⟩
        · have hltz : ¬ (k : Int) < (xs.length : Int) := by omega
          have HS : Aside0 (pairAny spAdj xs = false) := ⟨by
            rcases hk with hk | hk
            · have : k = xs.length := by omega
              subst this
              simpa using HA.out
            · subst hk
              match xs, hlt with
              | [], _ => rfl
              | [a], _ => rfl
              | a :: b :: l, h => simp at h⟩
          clear HA
          go_wp2_with fail
          refine (refHangul_any _).mono ?_
          rintro e w2 ⟨⟨A4, rfl, hC4⟩, hb4⟩
          have HC4 := Aside0.mk hC4
          have HB2 := Aside0.mk (below_step HB.out hb4)
          clear hC4 hb4 HB hk hk1 hlt hltz
          go_wp2_with fail
          go_loopw [6] (fun v wr => ∃ i : Nat, v = .int .i64 i ∧ i ≤ xs.length ∧ Aside0 ((xs.take i).any kor = false) ∧ Aside0 (Below w2.heap.size w2 wr)) (fun v _ => xs.length - (intOf v).toNat)
          case atStart => exact ⟨0, rfl, Nat.zero_le _, ⟨rfl⟩, ⟨Below.refl _ _⟩⟩
          case round =>
            obtain ⟨i, rfl, hi, HA, HB⟩ := hrel
            by_cases hlt : i < xs.length
            · have hltz : (i : Int) < (xs.length : Int) := by omega
              have hb1 := spBad_no (all_of_any spBad xs z71 i hlt HN.out)
              have HK := Aside0.mk (kor_meets (xs.getD i z71) hb1.2.1)
              clear hb1
              go_wp2_with fail
              go_loopw [7] (fun v wr => ∃ k : Nat, v = .int .i64 k ∧ k ≤ 4 ∧ Aside0 ((hgL.take k).any (meets (xs.getD i z71)) = false) ∧ Aside0 (Below w2.heap.size w2 wr)) (fun v _ => 4 - (intOf v).toNat)
              case atStart => exact ⟨0, rfl, Nat.zero_le _, ⟨rfl⟩, HB⟩
              case round =>
                clear HB
                obtain ⟨k, rfl, hk, HM, HB⟩ := hrel
                by_cases hk4 : k < 4
                · have hk4z : (k : Int) < 4 := by omega
                  obtain ⟨ad, e, hx0, hx1, hx2⟩ := at_T71 (Kd.C_below (Kd.C_below HR.out HB2.out) HB.out) i (by omega) (by omega)
                  obtain ⟨ad', e', hy0, hy1⟩ := at_T52 (Kd.C_below HC4.out HB.out) k (by omega) (by omega)
                  subst e
                  subst e'
                  simp only [Int.toNat_natCast] at hx0 hx1 hx2 hy0 hy1
                  have HX : Aside0 (rd_T71 xs i = xs.getD i z71) := ⟨by simp [rd_T71]⟩
                  have HY : Aside0 (rd_T52 hgL k = hgL.getD k z52) := ⟨by simp [rd_T52]⟩
                  have hkl : k < hgL.length := hk4
                  have HMe : Aside0 (meets (xs.getD i z71) (hgL.getD k z52) = (decide ((rd_T71 xs i).f0 ≤ (rd_T52 hgL k).f1) && decide ((rd_T52 hgL k).f0 ≤ (rd_T71 xs i).f1))) := ⟨by rw [HX.out, HY.out]; rfl⟩
                  have HKL := Aside0.mk hkl
                  clear hkl
                  generalize rd_T71 xs i = x at hx0 hx1 hx2 HX HMe
                  generalize rd_T52 hgL k = y at hy0 hy1 HY HMe
                  by_cases g1 : x.f0 ≤ y.f1
                  · by_cases g2 : y.f0 ≤ x.f1
                    · have HT : Aside0 (xs.any kor = true) := ⟨any_of_take kor xs z71 i hlt (by rw [HK.out]; exact any_of_take _ hgL z52 k HKL.out (by rw [HMe.out]; simp [g1, g2]))⟩
                      go_wp2_with fail
                      go_quiet (fail)
                      go_wp2_with fail
                      go_ret
                      exact ⟨ret_int (by rw [ordChk, if_neg (by rw [HN.out]; simp), if_neg (by rw [HS.out]; simp), if_pos HT.out]), pw_below_drewN (below_step HB2.out HB.out) _⟩
                    · have HF : Aside0 (meets (xs.getD i z71) (hgL.getD k z52) = false) := ⟨by rw [HMe.out]; simp [g2]⟩
                      go_wp2_with fail
                      go_quiet (fail)
                      go_wp2_with fail
                      go_roundw
                      case rel => exact ⟨k + 1, by first | rfl | go_num, by omega, ⟨any_take_succ _ hgL z52 k HKL.out HM.out HF.out⟩, ⟨pw_below_drewN HB.out _⟩⟩
                      case measure => simp [intOf]; omega
                  · have HF : Aside0 (meets (xs.getD i z71) (hgL.getD k z52) = false) := ⟨by rw [HMe.out]; simp [g1]⟩
                    have g1d : decide (x.f0 ≤ y.f1) = false := decide_eq_false g1
                    go_wp2_with fail
                    go_quiet (fail)
                    go_wp2_with fail
                    go_roundw
                    case rel => exact ⟨k + 1, by first | rfl | go_num, by omega, ⟨any_take_succ _ hgL z52 k HKL.out HM.out HF.out⟩, ⟨pw_below_drewN HB.out _⟩⟩
                    case measure => simp [intOf]; omega
                · have hk4z : ¬ (k : Int) < 4 := by omega
                  have HF : Aside0 (kor (xs.getD i z71) = false) := ⟨by
                    rw [HK.out]
                    have := HM.out
                    rwa [List.take_of_length_le (by show 4 ≤ k; omega)] at this⟩
                  go_wp2_with fail
                  go_roundw
                  case rel => exact ⟨i + 1, by first | rfl | go_num, by omega, ⟨any_take_succ kor xs z71 i hlt HA.out HF.out⟩, HB⟩
                  case measure => simp [intOf]; omega
            · have hltz : ¬ (i : Int) < (xs.length : Int) := by omega
              have HF : Aside0 (xs.any kor = false) := ⟨by
                have : i = xs.length := by omega
                subst this
                simpa using HA.out⟩
              go_wp2_with fail
              go_ret
              exact ⟨ret_int (by rw [ordChk, if_neg (by rw [HN.out]; simp), if_neg (by rw [HS.out]; simp), if_neg (by rw [HF.out]; simp)]), below_step HB2.out HB.out⟩
end Go.Proofs.YtipedgkampafjaaGreatDoor.Rf
/- Tells what the reference's Class computes. -/
namespace Go.Proofs.YtipedgkampafjaaGreatDoor.Rf
open Go.Shelf Go.RowKit Go.Proofs.YtipedgkampafjaaGreatDoorW.PrintWords Go.Proofs.YtipedgkampafjaaGreatDoorW.PrintLast Go.Proofs.YtipedgkampafjaaGreatDoorW.PrintMore

theorem countP_seg (p : Nat → Bool) (j : Nat) : ∀ n, j ≤ n → (∀ i, i < n → (p i = true ↔ i < j)) → (List.range n).countP p = j
  | 0, h, _ => by simp; omega
  | n + 1, h, hp => by
    rw [List.range_succ, List.countP_append]
    by_cases e : j = n + 1
    · subst e
      have h1 := countP_seg p n n (Nat.le_refl _) (fun i hi => ⟨fun _ => hi, fun _ => (hp i (by omega)).2 (by omega)⟩)
      rw [h1]
      simp [(hp n (by omega)).2 (by omega)]
    · have h1 := countP_seg p j n (by omega) (fun i hi => hp i (by omega))
      rw [h1]
      have h2 : p n = false := Bool.eq_false_iff.2 (fun q => by have := (hp n (by omega)).1 q; omega)
      simp [h2]
theorem seg_exists (p : Nat → Bool) : ∀ n, (∀ a b, a ≤ b → b < n → p b = true → p a = true) → ∃ j, j ≤ n ∧ ∀ i, i < n → (p i = true ↔ i < j)
  | 0, _ => ⟨0, Nat.le_refl _, fun i hi => by omega⟩
  | n + 1, h => by
    obtain ⟨j, hj, hp⟩ := seg_exists p n (fun a b h1 h2 h3 => h a b h1 (by omega) h3)
    cases hn : p n with
    | true => exact ⟨n + 1, Nat.le_refl _, fun i hi => ⟨fun _ => hi, fun _ => h i n (by omega) (by omega) hn⟩⟩
    | false =>
      refine ⟨j, by omega, fun i hi => ?_⟩
      rcases Nat.lt_or_ge i n with h1 | h1
      · exact hp i h1
      · have e : i = n := by omega
        subst e
        exact ⟨fun q => (by rw [hn] at q; cases q), fun q => (by omega)⟩
/-- Does a span hold a number? -/
def holdP (c : Int) (s : S71) : Bool := decide (s.f0 ≤ c) && decide (c ≤ s.f1)
theorem srch_seg {xs : List S71} (h : ordChk xs = 0) (c : Int) : srch xs c ≤ xs.length ∧ ∀ i, i < xs.length → (decide (c ≤ (xs.getD i z71).f1) = false ↔ i < srch xs c) := by
  obtain ⟨j, hj, hp⟩ := seg_exists (fun i => !decide (c ≤ (xs.getD i z71).f1)) xs.length (fun a b h1 h2 h3 => by
    cases hq : decide (c ≤ (xs.getD a z71).f1) with
    | true => have := spans_mono h c a b h1 h2 hq; rw [this] at h3; cases h3
    | false => rfl)
  have e : srch xs c = j := countP_seg _ j xs.length hj hp
  rw [e]
  exact ⟨hj, fun i hi => by rw [← hp i hi]; simp⟩
theorem cls_hit {xs : List S71} (h : ordChk xs = 0) (c : Int) (j : Nat) (hj : j < xs.length) (hc : holdP c (xs.getD j z71) = true) : cls xs c = (xs.getD j z71).f2 := by
  obtain ⟨h1, h2⟩ := srch_seg h c
  simp only [holdP, Bool.and_eq_true, decide_eq_true_eq] at hc
  have e : srch xs c = j := by
    rcases Nat.lt_trichotomy (srch xs c) j with g | g | g
    · have := spans_less h (srch xs c) j g hj
      have := (h2 (srch xs c) (by omega)).1 (decide_eq_false (by omega))
      omega
    · exact g
    · have := (h2 j hj).2 g
      simp at this
      simp only [List.getD_eq_getElem?_getD] at hc
      omega
  rw [cls, if_pos h, e, if_pos hj, if_pos hc.1]
theorem cls_miss {xs : List S71} (h : ordChk xs = 0) (c : Int) (hc : xs.any (holdP c) = false) : cls xs c = 0 := by
  obtain ⟨h1, h2⟩ := srch_seg h c
  rw [cls, if_pos h]
  split
  · rename_i hk
    split
    · rename_i hlo
      have h3 : holdP c (xs.getD (srch xs c) z71) = false := not_any _ _ hc _ (getD_mem xs _ _ hk)
      have h4 : ¬ decide (c ≤ (xs.getD (srch xs c) z71).f1) = false := fun q => by have := (h2 _ hk).1 q; omega
      have h5 := Bool.not_eq_false _ |>.mp h4
      rw [holdP, h5, decide_eq_true hlo] at h3
      cases h3
    · rfl
  · rfl

set_option maxRecDepth 100000 in
set_option maxHeartbeats 16000000 in
theorem refClass_any (A : Option Addr) (ca : Nat) (xs : List S71) (c : Int) (w : World) (hr : Kd.C k71 w A xs.length xs) (hl : xs.length ≤ 1000000000) :
    Calls Tryz.prog 20 #[.slice A xs.length ca, .int .i64 c] w fun e w' => e = .returned (.int .i64 (cls xs c)) ∧ Below w.heap.size w w' := by
  have HR := Aside0.mk hr
  have HU := Aside0.mk (ref20Check_any A ca xs w hr hl)
  have HL := Aside0.mk hl
  have H0 : Aside0 (ordChk xs ≠ 0 → cls xs c = 0) := ⟨fun h => by rw [cls, if_neg h]⟩
  have H1 : Aside0 (ordChk xs = 0 → (∀ j, j < xs.length → holdP c (xs.getD j z71) = true → cls xs c = (xs.getD j z71).f2) ∧ (xs.any (holdP c) = false → cls xs c = 0)) := ⟨fun h => ⟨fun j hj hc => cls_hit h c j hj hc, fun hc => cls_miss h c hc⟩⟩
  have HP : Aside0 (∀ s, holdP c s = (decide (s.f0 ≤ c) && decide (c ≤ s.f1))) := ⟨fun _ => rfl⟩
  generalize cls xs c = res at H0 H1 ⊢
  generalize holdP c = p at H1 HP
  generalize ordChk xs = v at HU H0 H1
  clear hr
  by_cases hv : v = 0
  · subst hv
    have H2 := Aside0.mk (H1.out rfl)
    clear H0 H1
    go_enter Tryz.func20, Tryz.ntmps20
    go_wp2_with fail
    refine HU.out.mono ?_
    rintro e w1 ⟨rfl, hb1⟩
    have HB1 := Aside0.mk hb1
    clear hb1
    go_wp2_with fail
    go_loop [5] (fun t => ∃ i : Nat, t = .int .i64 i ∧ i ≤ xs.length ∧ Aside0 ((xs.take i).any p = false)) (fun t => xs.length - (intOf t).toNat)
    case atStart => exact ⟨0, rfl, Nat.zero_le _, ⟨rfl⟩⟩
    case round =>
      obtain ⟨i, rfl, hi, HA⟩ := hrel
      by_cases hlt : i < xs.length
      · have hltz : (i : Int) < (xs.length : Int) := by omega
        obtain ⟨ad, e, hx0, hx1, hx2⟩ := at_T71 (Kd.C_below HR.out HB1.out) i (by omega) (by omega)
        subst e
        simp only [Int.toNat_natCast] at hx0 hx1 hx2
        have HY : Aside0 (rd_T71 xs i = xs.getD i z71) := ⟨by simp [rd_T71]⟩
        have HYes : Aside0 (p (rd_T71 xs i) = true → res = (rd_T71 xs i).f2) := ⟨fun h => by rw [HY.out] at h ⊢; exact H2.out.1 i hlt h⟩
        have HNo : Aside0 (p (rd_T71 xs i) = false → (xs.take (i + 1)).any p = false) := ⟨fun h =>
          any_take_succ p xs z71 i hlt HA.out (by rw [← HY.out]; exact h)⟩
        rw [HP.out] at HYes HNo
        generalize rd_T71 xs i = r at hx0 hx1 hx2 HY HYes HNo
        cases g0 : decide (r.f0 ≤ c) with
        | false =>
          have HN := Aside0.mk (HNo.out (by rw [g0]; rfl))
          go_wp2_with fail
          go_round
          case rel => exact ⟨i + 1, by first | rfl | go_num, by omega, HN⟩
          case measure => simp [intOf]; omega
        | true =>
          cases g2 : decide (c ≤ r.f1) with
          | false =>
            have HN := Aside0.mk (HNo.out (by rw [g0, g2]; rfl))
            go_wp2_with fail
            go_round
            case rel => exact ⟨i + 1, by first | rfl | go_num, by omega, HN⟩
            case measure => simp [intOf]; omega
          | true =>
            have HN := Aside0.mk (HYes.out (by rw [g0, g2]; rfl))
            go_wp2_with fail
            go_ret
            exact ⟨ret_int HN.out.symm, HB1.out⟩
      · have hltz : ¬ (i : Int) < (xs.length : Int) := by omega
        have HF : Aside0 (res = 0) := ⟨H2.out.2 (by have := HA.out; rwa [List.take_of_length_le (by omega)] at this)⟩
        go_wp2_with fail
        go_ret
        exact ⟨ret_int HF.out.symm, HB1.out⟩
  · have hne : (v != 0) = true := by simpa using hv
    have HF := Aside0.mk (H0.out hv)
    clear H0 H1 hv
    go_enter Tryz.func20, Tryz.ntmps20
    go_wp2_with fail
    refine HU.out.mono ?_
    rintro e w1 ⟨rfl, hb1⟩
    have HB1 := Aside0.mk hb1
    clear hb1
    go_wp2_with fail
    go_ret
    exact ⟨ret_int HF.out.symm, HB1.out⟩
end Go.Proofs.YtipedgkampafjaaGreatDoor.Rf
/- Rounds of passes find all that ends (plain). -/
namespace Go.Proofs.YtipedgkampafjaaGreatDoor.Rf

def updE (ch : Nat → List Nat) (s : Nat → Bool) (i : Nat) : Nat → Bool := fun j => if j = i then (ch i).all s else s j
def passE (ch : Nat → List Nat) (l : List Nat) (s : Nat → Bool) : Nat → Bool := l.foldl (updE ch) s
def roundsE (ch : Nat → List Nat) (n : Nat) : Nat → (Nat → Bool) → (Nat → Bool)
  | 0, s => s
  | r + 1, s => roundsE ch n r (passE ch (List.range n) s)
structure PassOk (ch : Nat → List Nat) (s : Nat → Bool) : Prop where
  snd : ∀ i, s i = true → Acc (fun y x => y ∈ ch x) i
  cl : ∀ i, s i = true → (ch i).all s = true
variable {ch : Nat → List Nat}
theorem updE_mono {s : Nat → Bool} (h : PassOk ch s) (i j : Nat) (hj : s j = true) : updE ch s i j = true := by
  unfold updE
  split
  · rename_i e; subst e; exact h.cl j hj
  · exact hj
theorem all_mono {l : List Nat} {s t : Nat → Bool} (h : ∀ j, s j = true → t j = true) (hs : l.all s = true) : l.all t = true := by
  rw [List.all_eq_true] at hs ⊢
  exact fun x hx => h x (hs x hx)
theorem updE_ok {s : Nat → Bool} (h : PassOk ch s) (i : Nat) : PassOk ch (updE ch s i) := by
  refine ⟨fun j hj => ?_, fun j hj => ?_⟩
  · unfold updE at hj
    split at hj
    · rename_i e; subst e
      exact Acc.intro j fun y hy => h.snd y (by rw [List.all_eq_true] at hj; exact hj y hy)
    · exact h.snd j hj
  · refine all_mono (s := s) (fun k hk => updE_mono h i k hk) ?_
    unfold updE at hj
    split at hj
    · rename_i e; subst e; exact hj
    · exact h.cl j hj
theorem passE_ok : ∀ (l : List Nat) {s : Nat → Bool}, PassOk ch s → PassOk ch (passE ch l s) ∧ ∀ j, s j = true → passE ch l s j = true
  | [], _, h => ⟨h, fun _ hj => hj⟩
  | i :: l, s, h => by
    obtain ⟨h1, h2⟩ := passE_ok l (updE_ok h i)
    exact ⟨h1, fun j hj => h2 j (updE_mono h i j hj)⟩
theorem passE_hit : ∀ (l : List Nat) {s : Nat → Bool}, PassOk ch s → ∀ i, i ∈ l → (ch i).all s = true → passE ch l s i = true
  | [], _, _, _, hi, _ => by cases hi
  | k :: l, s, h, i, hi, ha => by
    by_cases e : i = k
    · subst e
      exact (passE_ok l (updE_ok h i)).2 i (by unfold updE; rw [if_pos rfl]; exact ha)
    · exact passE_hit l (updE_ok h k) i (by rcases List.mem_cons.1 hi with q | q; exact absurd q e; exact q) (all_mono (fun j hj => updE_mono h k j hj) ha)
/-- All that ends has been found. -/
def DoneE (ch : Nat → List Nat) (n : Nat) (s : Nat → Bool) : Prop := ∀ i, i < n → Acc (fun y x => y ∈ ch x) i → s i = true
def cntE (n : Nat) (s : Nat → Bool) : Nat := (List.range n).countP s
theorem cntE_lt : ∀ (n : Nat) {s t : Nat → Bool}, (∀ j, s j = true → t j = true) → ∀ i, i < n → s i = false → t i = true → cntE n s < cntE n t
  | 0, _, _, _, _, hi, _, _ => by omega
  | n + 1, s, t, h, i, hi, h0, h1 => by
    unfold cntE
    rw [List.range_succ, List.countP_append, List.countP_append]
    have hle : (List.range n).countP s ≤ (List.range n).countP t := List.countP_mono_left fun x _ hx => h x hx
    by_cases e : i = n
    · subst e
      simp only [List.countP_singleton, h0, h1]
      simp
      omega
    · have h2 := cntE_lt n h i (by omega) h0 h1
      unfold cntE at h2
      have h3 : List.countP s [n] ≤ List.countP t [n] := List.countP_mono_left fun x _ hx => h x hx
      omega
theorem first_false (n : Nat) (hch : ∀ i, i < n → ∀ y ∈ ch i, y < n) (s : Nat → Bool) (i : Nat) (ha : Acc (fun y x => y ∈ ch x) i) : i < n → s i = false → ∃ j, j < n ∧ s j = false ∧ (ch j).all s = true := by
  induction ha with
  | intro x _ ih =>
    intro hi h0
    cases hall : (ch x).all s with
    | true => exact ⟨x, hi, h0, hall⟩
    | false =>
      rw [List.all_eq_false] at hall
      obtain ⟨y, hy, h1⟩ := hall
      exact ih y hy (hch x hi y hy) (by simpa using h1)
theorem roundsE_ok (n : Nat) (hch : ∀ i, i < n → ∀ y ∈ ch i, y < n) : ∀ (r : Nat) {s : Nat → Bool}, PassOk ch s → PassOk ch (roundsE ch n r s) ∧ (n ≤ r + cntE n s → DoneE ch n (roundsE ch n r s))
  | 0, s, h => ⟨h, fun hc i hi _ => by
      cases h0 : s i with
      | true => exact h0
      | false =>
        have h1 := cntE_lt n (s := s) (t := fun _ => true) (fun _ _ => rfl) i hi h0 rfl
        have h2 : cntE n (fun _ => true) ≤ n := by simp [cntE]
        omega⟩
  | r + 1, s, h => by
    obtain ⟨h1, h2⟩ := passE_ok (List.range n) h
    obtain ⟨h3, h4⟩ := roundsE_ok n hch r h1
    refine ⟨h3, fun hc => ?_⟩
    have key : ∀ (r : Nat) (t : Nat → Bool), PassOk ch t → DoneE ch n t → DoneE ch n (roundsE ch n r t) := by
      intro r
      induction r with
      | zero => intro t _ hd; exact hd
      | succ r ih => intro t ht hd; exact ih _ (passE_ok _ ht).1 (fun i hi ha => (passE_ok _ ht).2 i (hd i hi ha))
    by_cases hd : DoneE ch n s
    · exact key r _ h1 (fun i hi ha => h2 i (hd i hi ha))
    · have hx : ∃ i, i < n ∧ Acc (fun y x => y ∈ ch x) i ∧ s i = false := by
        apply Classical.byContradiction
        intro hn
        refine hd fun i hi ha => ?_
        cases h0 : s i with
        | true => rfl
        | false => exact absurd ⟨i, hi, ha, h0⟩ hn
      obtain ⟨i, hi, ha, h0⟩ := hx
      obtain ⟨j, hj, g0, g1⟩ := first_false n hch s i ha hi h0
      have := cntE_lt n h2 j hj g0 (passE_hit (List.range n) h j (List.mem_range.2 hj) g1)
      exact h4 (by omega)
/-- After as many rounds as there are places: true exactly where it ends. -/
theorem roundsE_iff (n : Nat) (hch : ∀ i, i < n → ∀ y ∈ ch i, y < n) (i : Nat) (hi : i < n) : roundsE ch n n (fun _ => false) i = true ↔ Acc (fun y x => y ∈ ch x) i := by
  have h := roundsE_ok n hch n (s := fun _ => false) ⟨fun i h => (by simp at h), fun i h => (by simp at h)⟩
  exact ⟨fun q => h.1.snd i q, fun q => h.2 (by omega) i hi q⟩
end Go.Proofs.YtipedgkampafjaaGreatDoor.Rf
/- Places of mappings end where their code points end (plain). -/
namespace Go.Proofs.YtipedgkampafjaaGreatDoor.Rf
open Go.Shelf Go.RowKit Go.Proofs.YtipedgkampafjaaGreatDoorW.PrintWords Go.Proofs.YtipedgkampafjaaGreatDoorW.PrintLast Go.Proofs.YtipedgkampafjaaGreatDoorW.PrintMore

variable {dm : List S61}
/-- The first place of a code point's mapping. -/
def placeOf (dm : List S61) (x : Int) : Option Nat := if dm.any (fun m => m.f0 == x) then some (dm.findIdx (fun m => m.f0 == x)) else none
/-- The places that a place's target names. -/
def chD (dm : List S61) (i : Nat) : List Nat := (dm.getD i z61).f1.filterMap (placeOf dm)
theorem placeOf_some {x : Int} {j : Nat} (h : placeOf dm x = some j) : j < dm.length ∧ (dm.getD j z61).f0 = x := by
  unfold placeOf at h
  split at h
  · rename_i ha
    rw [List.any_eq_true] at ha
    cases h
    have hlt : dm.findIdx (fun m => m.f0 == x) < dm.length := List.findIdx_lt_length_of_exists ha
    refine ⟨hlt, ?_⟩
    have := List.findIdx_getElem (w := hlt)
    rw [List.getD_eq_getElem?_getD, List.getElem?_eq_getElem hlt]
    simpa using this
  · cases h
theorem placeOf_none {x : Int} (h : placeOf dm x = none) : ∀ m, lastM dm x ≠ some m := by
  intro m hm
  obtain ⟨h1, h2⟩ := lastM_mem hm
  unfold placeOf at h
  rw [if_pos (List.any_eq_true.2 ⟨m, h1, by simp [h2]⟩)] at h
  cases h
theorem ends_bare (hkd : ∀ m ∈ dm, hk m.f0 = 0) {c : Int} (hc : ∀ m, lastM dm c ≠ some m) : Ends dm true c := by
  by_cases h4 : hk c < 4
  · exact Acc.intro c fun y ⟨tl, h1, _⟩ => (by rw [once_none h4 hc] at h1; cases h1)
  · refine Acc.intro c fun y ⟨tl, h1, h2⟩ => ?_
    unfold onceS at h1
    rw [if_neg h4] at h1
    cases h1
    obtain ⟨h5, h6⟩ := hk_parts h4 h2
    refine Acc.intro y fun z ⟨tl, h7, _⟩ => ?_
    rw [once_none h5 (fun m hm => h6 (by obtain ⟨h8, h9⟩ := lastM_mem hm; rw [← h9]; exact hkd m h8))] at h7
    cases h7
/-- No code point has two mappings. -/
def OneEach (dm : List S61) : Prop := ∀ i j, i < dm.length → j < dm.length → (dm.getD i z61).f0 = (dm.getD j z61).f0 → i = j
theorem last_at (h1 : OneEach dm) {i : Nat} (hi : i < dm.length) : lastM dm (dm.getD i z61).f0 = some (dm.getD i z61) := by
  have hmem := getD_mem dm z61 i hi
  cases hl : lastM dm (dm.getD i z61).f0 with
  | none =>
    unfold lastM at hl
    rw [List.find?_eq_none] at hl
    exact absurd (beq_self_eq_true _) (hl _ (List.mem_reverse.2 hmem))
  | some m =>
    obtain ⟨h2, h3⟩ := lastM_mem hl
    obtain ⟨j, hj, e⟩ := List.getElem_of_mem h2
    have e2 : dm.getD j z61 = m := by rw [List.getD_eq_getElem?_getD, List.getElem?_eq_getElem hj]; exact e
    have := h1 i j hi hj (by rw [e2, h3])
    subst this
    rw [← e2]
theorem edge_at (hkd : ∀ m ∈ dm, hk m.f0 = 0) (h1 : OneEach dm) {i : Nat} (hi : i < dm.length) (x : Int) : Edge dm true x (dm.getD i z61).f0 ↔ x ∈ (dm.getD i z61).f1 := by
  have hl := last_at h1 hi
  have hk0 := hkd _ (getD_mem dm z61 i hi)
  have ho : onceS dm true (dm.getD i z61).f0 = some (dm.getD i z61).f1 := by
    unfold onceS
    rw [if_pos (by omega), hl]
    simp
  unfold Edge
  rw [ho]
  constructor
  · rintro ⟨tl, e, h⟩; cases e; exact h
  · exact fun h => ⟨_, rfl, h⟩
theorem ends_place (hkd : ∀ m ∈ dm, hk m.f0 = 0) (h1 : OneEach dm) {i : Nat} (hi : i < dm.length) : Ends dm true (dm.getD i z61).f0 ↔ Acc (fun y x => y ∈ chD dm x) i := by
  constructor
  · intro h
    unfold Ends at h
    generalize hc : (dm.getD i z61).f0 = c at h
    induction h generalizing i with
    | intro c _ ih =>
      refine Acc.intro i fun y hy => ?_
      obtain ⟨x, hx, hp⟩ := List.mem_filterMap.1 hy
      obtain ⟨hy1, hy2⟩ := placeOf_some hp
      exact ih x (by rw [← hc]; exact (edge_at hkd h1 hi x).2 hx) hy1 hy2
  · intro h
    induction h with
    | intro i _ ih =>
      refine Acc.intro _ fun x hx => ?_
      have hx2 := (edge_at hkd h1 hi x).1 hx
      cases hp : placeOf dm x with
      | none => exact ends_bare hkd (placeOf_none hp)
      | some y =>
        obtain ⟨hy1, hy2⟩ := placeOf_some hp
        have := ih y (List.mem_filterMap.2 ⟨x, hx2, hp⟩) hy1
        rw [hy2] at this
        exact this
theorem allEnds_places (hkd : ∀ m ∈ dm, hk m.f0 = 0) (h1 : OneEach dm) : AllEnds dm ↔ ∀ i, i < dm.length → roundsE (chD dm) dm.length dm.length (fun _ => false) i = true := by
  have hch : ∀ i, i < dm.length → ∀ y ∈ chD dm i, y < dm.length := fun i _ y hy => by
    obtain ⟨x, _, hp⟩ := List.mem_filterMap.1 hy
    exact (placeOf_some hp).1
  constructor
  · exact fun h i hi => (roundsE_iff _ hch i hi).2 ((ends_place hkd h1 hi).1 (h _ _ (last_at h1 hi)))
  · intro h c m hm
    obtain ⟨h2, h3⟩ := lastM_mem hm
    obtain ⟨j, hj, e⟩ := List.getElem_of_mem h2
    have e2 : dm.getD j z61 = m := by rw [List.getD_eq_getElem?_getD, List.getElem?_eq_getElem hj]; exact e
    have := (ends_place hkd h1 hj).2 ((roundsE_iff _ hch j hj).1 (h j hj))
    rw [e2, h3] at this
    exact this
end Go.Proofs.YtipedgkampafjaaGreatDoor.Rf
/- Rounds of passes count the lengths of full decompositions (plain). -/
namespace Go.Proofs.YtipedgkampafjaaGreatDoor.Rf
open Go.Shelf Go.RowKit Go.Proofs.YtipedgkampafjaaGreatDoorW.PrintWords Go.Proofs.YtipedgkampafjaaGreatDoorW.PrintLast Go.Proofs.YtipedgkampafjaaGreatDoorW.PrintMore

variable {dm : List S61} {cp : Bool}
/-- The first place of a mapping of a number, with or without tags. -/
def placeC (dm : List S61) (cp : Bool) (x : Int) : Option Nat := if dm.any (fndP x cp) then some (dm.findIdx (fndP x cp)) else none
theorem any_take_false {p : S61 → Bool} {l : List S61} {j : Nat} (h : (l.take j).any p = false) (i : Nat) (hi : i < j) (hl : i < l.length) : p (l.getD i z61) = false := by
  have hm : l.getD i z61 ∈ l.take j := by
    rw [List.getD_eq_getElem?_getD, List.getElem?_eq_getElem hl, Option.getD_some]
    exact List.mem_take_iff_getElem.2 ⟨i, by omega, rfl⟩
  rw [List.any_eq_false] at h
  simpa using h _ hm
theorem findIdx_first {p : S61 → Bool} {l : List S61} {j : Nat} (hj : j < l.length) (h1 : p (l.getD j z61) = true) (h2 : (l.take j).any p = false) : l.findIdx p = j := by
  have hx : ∃ x ∈ l, p x = true := ⟨_, getD_mem l z61 j hj, h1⟩
  have hlt : l.findIdx p < l.length := List.findIdx_lt_length_of_exists hx
  have hp : p (l.getD (l.findIdx p) z61) = true := by
    have := List.findIdx_getElem (w := hlt)
    rw [List.getD_eq_getElem?_getD, List.getElem?_eq_getElem hlt]
    simpa using this
  rcases Nat.lt_trichotomy (l.findIdx p) j with h | h | h
  · rw [any_take_false h2 _ h hlt] at hp; cases hp
  · exact h
  · have := List.not_of_lt_findIdx h
    rw [List.getD_eq_getElem?_getD, List.getElem?_eq_getElem hj, Option.getD_some] at h1
    rw [h1] at this; simp at this
theorem findR_place {x r : Int} (h : FindR (fndP x cp) dm r) : (r = -1 ∧ placeC dm cp x = none) ∨ ∃ j : Nat, r = (j : Int) ∧ j < dm.length ∧ placeC dm cp x = some j := by
  rcases h with ⟨h1, h2⟩ | ⟨j, h1, h2, h3, h4⟩
  · exact .inl ⟨h1, by unfold placeC; rw [h2]; rfl⟩
  · refine .inr ⟨j, h1, h2, ?_⟩
    unfold placeC
    rw [if_pos (List.any_eq_true.2 ⟨_, getD_mem dm z61 j h2, h3⟩), findIdx_first h2 h3 h4]
theorem fndP_true (x : Int) : fndP x true = fun m => m.f0 == x := by funext m; simp [fndP]
theorem placeC_true (x : Int) : placeC dm true x = placeOf dm x := by unfold placeC placeOf; rw [fndP_true]
theorem placeC_some {x : Int} {j : Nat} (h : placeC dm cp x = some j) : j < dm.length ∧ (dm.getD j z61).f0 = x ∧ (cp || (dm.getD j z61).f2.toList.isEmpty) = true := by
  unfold placeC at h
  split at h
  · rename_i ha
    rw [List.any_eq_true] at ha
    cases h
    have hlt : dm.findIdx (fndP x cp) < dm.length := List.findIdx_lt_length_of_exists ha
    have := List.findIdx_getElem (w := hlt)
    rw [List.getD_eq_getElem?_getD, List.getElem?_eq_getElem hlt]
    simp only [fndP, Bool.and_eq_true, beq_iff_eq] at this
    exact ⟨hlt, this.1, this.2⟩
  · cases h
theorem placeC_none {x : Int} (h : placeC dm cp x = none) : ∀ m, lastM dm x = some m → (!m.f2.toList.isEmpty && !cp) = true := by
  intro m hm
  obtain ⟨h1, h2⟩ := lastM_mem hm
  unfold placeC at h
  split at h
  · cases h
  · rename_i ha
    have : fndP x cp m = false := by
      cases hf : fndP x cp m with
      | false => rfl
      | true => exact absurd (List.any_eq_true.2 ⟨m, h1, hf⟩) ha
    simp only [fndP, h2, beq_self_eq_true, Bool.true_and, Bool.or_eq_false_iff] at this
    simp [this.1, this.2]
theorem placeC_of (h1 : OneEach dm) {x : Int} {j : Nat} (h : placeC dm cp x = some j) : placeOf dm x = some j := by
  obtain ⟨hj, hx, _⟩ := placeC_some h
  cases hp : placeOf dm x with
  | none =>
    have := placeOf_none hp (dm.getD j z61)
    rw [← hx, last_at h1 hj] at this
    exact absurd rfl this
  | some k =>
    obtain ⟨hk, hkx⟩ := placeOf_some hp
    rw [h1 k j hk hj (by rw [hkx, hx])]
/-- What a number counts, if the places count s. -/
def valL (dm : List S61) (cp : Bool) (s : Nat → Int) (x : Int) : Int := match placeC dm cp x with | some j => s j | none => ((hdec x).length : Int)
def sumL (l : List Int) : Int := l.foldl (fun a b => a + b) 0
/-- What a place counts. -/
def stepLn (dm : List S61) (cp : Bool) (s : Nat → Int) (i : Nat) : Int :=
  if (!(dm.getD i z61).f2.toList.isEmpty && !cp) = true then 1 else min (max (sumL ((dm.getD i z61).f1.map (valL dm cp s))) 1) 65
def updLn (dm : List S61) (cp : Bool) (s : Nat → Int) (i : Nat) : Nat → Int := fun j => if j = i then stepLn dm cp s i else s j
def passLn (dm : List S61) (cp : Bool) (l : List Nat) (s : Nat → Int) : Nat → Int := l.foldl (updLn dm cp) s
def roundsLn (dm : List S61) (cp : Bool) (n : Nat) : Nat → (Nat → Int) → (Nat → Int)
  | 0, s => s
  | r + 1, s => roundsLn dm cp n r (passLn dm cp (List.range n) s)
theorem sat_sum (l : List Int) (h : ∀ v ∈ l, 1 ≤ v) : sat l = min (sumL l) 65 := by
  suffices ∀ (l : List Int) (a b : Int), (∀ v ∈ l, 1 ≤ v) → a = min b 65 → l.foldl (fun n v => min (n + v) 65) a = min (l.foldl (fun a b => a + b) b) 65 from this l 0 0 h (by omega)
  intro l
  induction l with
  | nil => intro a b _ h; exact h
  | cons x l ih =>
    intro a b hv hab
    have hx := hv x (List.mem_cons_self)
    exact ih (min (a + x) 65) (b + x) (fun v hv' => hv v (List.mem_cons_of_mem _ hv')) (by omega)
theorem val_none {L : Int → Int} (hkd : ∀ m ∈ dm, hk m.f0 = 0) (hL : IsLen dm cp L) {x : Int} (h : placeC dm cp x = none) : ((hdec x).length : Int) = L x := by
  by_cases h4 : hk x < 4
  · have ho : onceS dm cp x = none := by
      unfold onceS
      rw [if_pos h4]
      cases hl : lastM dm x with
      | none => rfl
      | some m => simp only; rw [if_pos (placeC_none h m hl)]
    rw [hL.1 x ho, hdec, if_pos h4]; rfl
  · have ho : onceS dm cp x = some (hdec x) := by unfold onceS; rw [if_neg h4]
    have h1 : ∀ y ∈ hdec x, L y = 1 := fun y hy => hL.1 y (once_part hkd h4 hy)
    rw [hL.2.1 x _ ho, List.map_congr_left h1]
    unfold hdec
    rw [if_neg h4]
    split <;> simp [sat]
    all_goals omega
/-- Where E says so, s tells the length. -/
def InvL (dm : List S61) (L : Int → Int) (E : Nat → Bool) (s : Nat → Int) : Prop := ∀ i, i < dm.length → E i = true → s i = L (dm.getD i z61).f0
variable {L : Int → Int}
theorem invL_upd (hkd : ∀ m ∈ dm, hk m.f0 = 0) (h1 : OneEach dm) (hL : IsLen dm cp L) {E : Nat → Bool} {s : Nat → Int} (h : InvL dm L E s) (i : Nat) : InvL dm L (updE (chD dm) E i) (updLn dm cp s i) := by
  intro j hj hE
  unfold updE at hE
  unfold updLn
  split at hE
  · rename_i e; subst e
    rw [if_pos rfl]
    have hval : ∀ x ∈ (dm.getD j z61).f1, valL dm cp s x = L x := by
      intro x hx
      unfold valL
      cases hp : placeC dm cp x with
      | none => exact val_none hkd hL hp
      | some k =>
        obtain ⟨hk1, hk2, _⟩ := placeC_some hp
        have hch : k ∈ chD dm j := List.mem_filterMap.2 ⟨x, hx, placeC_of h1 hp⟩
        rw [List.all_eq_true] at hE
        have := h k hk1 (hE k hch)
        rw [hk2] at this
        exact this
    unfold stepLn
    have hl := last_at h1 hj
    have hk0 := hkd _ (getD_mem dm z61 j hj)
    split
    · rename_i ht
      have ho : onceS dm cp (dm.getD j z61).f0 = none := by
        unfold onceS; rw [if_pos (by omega), hl]; simp only; rw [if_pos ht]
      exact (hL.1 _ ho).symm
    · rename_i ht
      have ho : onceS dm cp (dm.getD j z61).f0 = some (dm.getD j z61).f1 := by
        unfold onceS; rw [if_pos (by omega), hl]; simp only; rw [if_neg ht]
      rw [hL.2.1 _ _ ho, List.map_congr_left hval, sat_sum _ (fun v hv => by obtain ⟨y, _, rfl⟩ := List.mem_map.1 hv; exact (hL.2.2 y).1)]
      omega
  · rename_i e
    rw [if_neg e]
    exact h j hj hE
theorem invL_pass (hkd : ∀ m ∈ dm, hk m.f0 = 0) (h1 : OneEach dm) (hL : IsLen dm cp L) : ∀ (l : List Nat) {E : Nat → Bool} {s : Nat → Int}, InvL dm L E s → InvL dm L (passE (chD dm) l E) (passLn dm cp l s)
  | [], _, _, h => h
  | i :: l, _, _, h => invL_pass hkd h1 hL l (invL_upd hkd h1 hL h i)
theorem invL_rounds (hkd : ∀ m ∈ dm, hk m.f0 = 0) (h1 : OneEach dm) (hL : IsLen dm cp L) (n : Nat) : ∀ (r : Nat) {E : Nat → Bool} {s : Nat → Int}, InvL dm L E s → InvL dm L (roundsE (chD dm) n r E) (roundsLn dm cp n r s)
  | 0, _, _, h => h
  | r + 1, _, _, h => invL_rounds hkd h1 hL n r (invL_pass hkd h1 hL _ h)
/-- As many rounds as there are mappings tell all lengths. -/
theorem lens_rounds (hkd : ∀ m ∈ dm, hk m.f0 = 0) (h1 : OneEach dm) (hA : AllEnds dm) (hL : IsLen dm cp L) (i : Nat) (hi : i < dm.length) : roundsLn dm cp dm.length dm.length (fun _ => 0) i = L (dm.getD i z61).f0 :=
  invL_rounds hkd h1 hL dm.length dm.length (E := fun _ => false) (fun _ _ h => by simp at h) i hi ((allEnds_places hkd h1).1 hA i hi)
/-- Some length is too great exactly if one that the rounds tell is. -/
theorem tooLong_rounds (hkd : ∀ m ∈ dm, hk m.f0 = 0) (h1 : OneEach dm) (hA : AllEnds dm) (hwf : ∀ c, Ends dm cp c) : TooLong dm cp ↔ ∃ i, i < dm.length ∧ 64 < roundsLn dm cp dm.length dm.length (fun _ => 0) i := by
  constructor
  · rintro ⟨L, hL, c, m, hl, hc⟩
    obtain ⟨h2, h3⟩ := lastM_mem hl
    obtain ⟨j, hj, e⟩ := List.getElem_of_mem h2
    have e2 : dm.getD j z61 = m := by rw [List.getD_eq_getElem?_getD, List.getElem?_eq_getElem hj]; exact e
    exact ⟨j, hj, by rw [lens_rounds hkd h1 hA hL j hj, e2, h3]; exact hc⟩
  · rintro ⟨i, hi, hc⟩
    have hL := len_exists hwf
    rw [lens_rounds hkd h1 hA hL i hi] at hc
    exact ⟨_, hL, _, _, last_at h1 hi, hc⟩
theorem stepLn_range (s : Nat → Int) (i : Nat) : 1 ≤ stepLn dm cp s i ∧ stepLn dm cp s i ≤ 65 := by
  unfold stepLn; split <;> omega
end Go.Proofs.YtipedgkampafjaaGreatDoor.Rf
/- Two mappings of one code point stand side by side in sorted mappings (plain). -/
namespace Go.Proofs.YtipedgkampafjaaGreatDoor.Rf
open Go.Shelf Go.RowKit Go.Proofs.YtipedgkampafjaaGreatDoorW.PrintWords Go.Proofs.YtipedgkampafjaaGreatDoorW.PrintLast Go.Proofs.YtipedgkampafjaaGreatDoorW.PrintMore

variable {dm : List S61}
theorem pairAny_iff {α : Type} (p : α → α → Bool) (d : α) : ∀ (l : List α), pairAny p l = true ↔ ∃ i, i + 1 < l.length ∧ p (l.getD i d) (l.getD (i + 1) d) = true
  | [] => by simp [pairAny]
  | [x] => by simp [pairAny]
  | x :: y :: l => by
    have ih := pairAny_iff p d (y :: l)
    simp only [pairAny, Bool.or_eq_true, ih]
    constructor
    · rintro (h | ⟨i, hi, h⟩)
      · exact ⟨0, by simp, by simpa using h⟩
      · exact ⟨i + 1, by simpa using hi, by simpa using h⟩
    · rintro ⟨i, hi, h⟩
      cases i with
      | zero => left; simpa using h
      | succ i => right; exact ⟨i, by simpa using hi, by simpa using h⟩
theorem mapChkO_sorted (h : mapChkO dm = 0) : sortedB ltMap dm = true := by
  unfold mapChkO at h
  split at h
  · split at h
    · assumption
    · cases h
  · rename_i h1; exact absurd h h1
theorem sorted_step (h : mapChkO dm = 0) (i : Nat) (hi : i + 1 < dm.length) : (dm.getD i z61).f0 ≤ (dm.getD (i + 1) z61).f0 := by
  have h1 := mapChkO_sorted h
  unfold sortedB at h1
  rw [Bool.not_eq_true'] at h1
  have h2 : ltMap (dm.getD (i + 1) z61) (dm.getD i z61) = false := by
    cases h3 : ltMap (dm.getD (i + 1) z61) (dm.getD i z61) with
    | false => rfl
    | true =>
      rw [(pairAny_iff (fun a b => ltMap b a) z61 dm).2 ⟨i, hi, h3⟩] at h1
      cases h1
  rw [ltMap_iff] at h2
  simp only [Bool.or_eq_false_iff, decide_eq_false_iff_not] at h2
  have := h2.1
  omega
theorem sorted_le (h : mapChkO dm = 0) (i : Nat) : ∀ (k : Nat), i + k < dm.length → (dm.getD i z61).f0 ≤ (dm.getD (i + k) z61).f0
  | 0, _ => by simp
  | k + 1, hk => by
    have h1 := sorted_le h i k (by omega)
    have h2 := sorted_step h (i + k) (by omega)
    rw [show i + (k + 1) = i + k + 1 by omega]
    omega
theorem pair_one (h : mapChkO dm = 0) (hp : pairAny sameFrom dm = false) : OneEach dm := by
  have key : ∀ i k, i + (k + 1) < dm.length → (dm.getD i z61).f0 ≠ (dm.getD (i + (k + 1)) z61).f0 := by
    intro i k hk he
    have h1 := sorted_step h i (by omega)
    have h2 := sorted_le h (i + 1) k (by omega)
    rw [show i + 1 + k = i + (k + 1) by omega] at h2
    have h3 : sameFrom (dm.getD i z61) (dm.getD (i + 1) z61) = true := by unfold sameFrom; rw [beq_iff_eq]; omega
    rw [(pairAny_iff sameFrom z61 dm).2 ⟨i, by omega, h3⟩] at hp
    cases hp
  intro i j hi hj he
  rcases Nat.lt_trichotomy i j with hl | hl | hl
  · exact absurd he (by have := key i (j - i - 1) (by omega); rwa [show i + (j - i - 1 + 1) = j by omega] at this)
  · exact hl
  · exact absurd he.symm (by have := key j (i - j - 1) (by omega); rwa [show j + (i - j - 1 + 1) = i by omega] at this)
theorem place_self (h1 : OneEach dm) {i : Nat} (hi : i < dm.length) : placeOf dm (dm.getD i z61).f0 = some i := by
  cases hp : placeOf dm (dm.getD i z61).f0 with
  | none => exact absurd (last_at h1 hi) (placeOf_none hp _)
  | some k =>
    obtain ⟨hk, hkx⟩ := placeOf_some hp
    rw [h1 k i hk hi hkx]
/-- A pair that stands side by side has a first place before its second. -/
theorem pair_first (hp : pairAny sameFrom dm = true) : ∃ i k, i < dm.length ∧ k < i ∧ placeOf dm (dm.getD i z61).f0 = some k := by
  obtain ⟨i, hi, h⟩ := (pairAny_iff sameFrom z61 dm).1 hp
  unfold sameFrom at h
  rw [beq_iff_eq] at h
  have hany : dm.any (fun m => m.f0 == (dm.getD (i + 1) z61).f0) = true := List.any_eq_true.2 ⟨_, getD_mem dm z61 i (by omega), by rw [h, beq_self_eq_true]⟩
  refine ⟨i + 1, dm.findIdx (fun m => m.f0 == (dm.getD (i + 1) z61).f0), hi, ?_, by unfold placeOf; rw [if_pos hany]⟩
  apply Classical.byContradiction
  intro hn
  have h2 : i < dm.findIdx (fun m => m.f0 == (dm.getD (i + 1) z61).f0) := by omega
  have h3 := List.not_of_lt_findIdx h2
  rw [List.getD_eq_getElem?_getD, List.getElem?_eq_getElem (by omega : i < dm.length), Option.getD_some] at h
  rw [h] at h3
  simp at h3
end Go.Proofs.YtipedgkampafjaaGreatDoor.Rf
/- Tells what the reference's ends computes. -/
namespace Go.Proofs.YtipedgkampafjaaGreatDoor.Rf
open Go.Shelf Go.RowKit Go.Proofs.YtipedgkampafjaaGreatDoorW.PrintWords Go.Proofs.YtipedgkampafjaaGreatDoorW.PrintLast Go.Proofs.YtipedgkampafjaaGreatDoorW.PrintMore

theorem infoB : (Tryz.prog.info? 4).map (fun i => (i.zero, i.size, i.bytes)) = some (some (.bool false), 1, 1) := by kernel_rfl
/-- A row of bools that the call made. -/
abbrev MadeB (W : World) (base g n : Nat) (xs : List Bool) : Prop := W.ownsRow base 4 1 (.slice (some ⟨g, 0, none⟩) n n) n (encs Value.bool xs)
theorem MadeB.len {W : World} {base g n : Nat} {xs : List Bool} (h : MadeB W base g n xs) : xs.length = n := by have := h.1; simp [encs] at this; exact this
theorem MadeB.at {W : World} {base g n : Nat} {xs : List Bool} (h : MadeB W base g n xs) (j : Nat) (hj : j < n) : W.cell? ⟨g, j, none⟩ = some (.bool (xs.getD j false)) ∧ W.frozen? ⟨g, j, none⟩ = false := by
  have h1 := own_at_of (d := false) h (j : Int) (by omega) (by omega)
  simpa [rdOf] using h1
theorem MadeB.set {W : World} {base g n : Nat} {xs : List Bool} (h : MadeB W base g n xs) (j : Nat) (b : Bool) : MadeB (W.setCell ⟨g, j, none⟩ (.bool b)) base g n (xs.set j b) := by
  have h1 := (own_store_of (enc := Value.bool) h (j : Int) b).1
  simpa using h1
/-- What one number says, if the places say s. -/
def valE (dm : List S61) (s : Nat → Bool) (x : Int) : Bool := match placeOf dm x with | some j => s j | none => true
theorem chD_all (dm : List S61) (s : Nat → Bool) (i : Nat) : (chD dm i).all s = ((dm.getD i z61).f1).all (valE dm s) := by
  unfold chD
  generalize (dm.getD i z61).f1 = l
  induction l with
  | nil => rfl
  | cons x l ih =>
    rw [List.all_cons, ← ih, List.filterMap_cons]
    unfold valE
    cases placeOf dm x with
    | none => simp
    | some j => simp
theorem valE_find {dm : List S61} {x r : Int} (h : FindR (fndP x true) dm r) (s : Nat → Bool) : (r = -1 ∧ valE dm s x = true) ∨ ∃ j : Nat, r = (j : Int) ∧ j < dm.length ∧ valE dm s x = s j := by
  rcases findR_place h with ⟨h1, h2⟩ | ⟨j, h1, h2, h3⟩
  · rw [placeC_true] at h2; exact .inl ⟨h1, by unfold valE; rw [h2]⟩
  · rw [placeC_true] at h3; exact .inr ⟨j, h1, h2, by unfold valE; rw [h3]⟩
theorem all_take_succ {α : Type} (p : α → Bool) (l : List α) (d : α) (k : Nat) (hk : k < l.length) : (l.take (k + 1)).all p = ((l.take k).all p && p (l.getD k d)) := by
  rw [List.take_succ_eq_append_getElem hk, List.all_append, List.getD_eq_getElem?_getD, List.getElem?_eq_getElem hk]; simp
theorem set_fun (xs : List Bool) (i : Nat) (b : Bool) (hi : i < xs.length) : (fun j => (xs.set i b).getD j false) = fun j => if j = i then b else xs.getD j false := by
  funext j
  rw [List.getD_eq_getElem?_getD, List.getElem?_set, List.getD_eq_getElem?_getD]
  by_cases h : i = j
  · subst h; simp [hi]
  · rw [if_neg h, if_neg (fun e => h e.symm)]

/-- A row that the call made, of n elements that s tells. -/
def RetMB (w' : World) (base : Nat) (e : Ending) (n : Nat) (s : Nat → Bool) : Prop := ∃ g xs, e = .returned (.slice (some ⟨g, 0, none⟩) n n) ∧ MadeB w' base g n xs ∧ (fun j => xs.getD j false) = s

set_option maxRecDepth 100000 in
set_option maxHeartbeats 16000000 in
theorem refEnds_any (A : Option Addr) (ca : Nat) (l : List S61) (w : World) (hr : Kd.C k61 w A l.length l) (hl : l.length ≤ 1000000) (hs : ∀ m ∈ l, m.f1.length ≤ 1000000) :
    Calls Tryz.prog 40 #[.slice A l.length ca] w fun e w' => RetMB w' w.heap.size e l.length (roundsE (chD l) l.length l.length (fun _ => false)) ∧ Below w.heap.size w w' := by
  have HR := Aside0.mk hr
  have HS := Aside0.mk hs
  have hmk := print_make_of (P := Tryz.prog) 63 4 (.bool false) 1 Tryz.underlying63 infoB rfl (by decide) l.length (by omega)
  clear hr hs
  go_enter Tryz.func40, Tryz.ntmps40
  go_wp2_with fail
  have HM0 : Aside0 (MadeB (w.alloc (.cells (madeCells #[.bool false] l.length) 4)) w.heap.size w.heap.size l.length (List.replicate l.length false)) := ⟨own_made_of (enc := Value.bool) (d := false) w w.heap.size 4 l.length (Nat.le_refl _) (by omega)⟩
  have HB0 : Aside0 (Below w.heap.size w (w.alloc (.cells (madeCells #[.bool false] l.length) 4))) := ⟨below_alloc (Below.refl _ _) _⟩
  obtain ⟨fin, HFin⟩ : ∃ f, Aside0 (roundsE (chD l) l.length l.length (fun _ => false) = f) := ⟨_, ⟨rfl⟩⟩
  have HF0 : Aside0 (roundsE (chD l) l.length (l.length - 0) (fun j => (List.replicate l.length false).getD j false) = fin) := ⟨by
    rw [← HFin.out, show (fun j => (List.replicate l.length false).getD j false) = fun _ => false from by
      funext j; rw [List.getD_eq_getElem?_getD, List.getElem?_replicate]; split <;> rfl]; rfl⟩
  clear hmk
  generalize w.alloc (.cells (madeCells #[.bool false] l.length) 4) = w1 at HM0 HB0 ⊢
  generalize hx : List.replicate l.length false = xs0 at HM0 HF0
  clear hx
  go_loopw [4] (fun t wr => ∃ (r : Nat) (xs : List Bool), t = .int .i64 r ∧ r ≤ l.length ∧ Aside0 (MadeB wr w.heap.size w.heap.size l.length xs) ∧ Aside0 (roundsE (chD l) l.length (l.length - r) (fun j => xs.getD j false) = fin) ∧ Aside0 (Below w.heap.size w wr)) (fun t _ => l.length - (intOf t).toNat)
  case atStart => exact ⟨0, xs0, rfl, Nat.zero_le _, HM0, HF0, HB0⟩
  case round =>
    clear HM0 HF0 HB0
    obtain ⟨r, xs, rfl, hrl, HM, HF, HB⟩ := hrel
    by_cases hlt : r < l.length
    · have hltz : (r : Int) < (l.length : Int) := by omega
      obtain ⟨S0, HS0⟩ : ∃ s, Aside0 ((fun j => xs.getD j false) = s) := ⟨_, ⟨rfl⟩⟩
      have HF1 : Aside0 (roundsE (chD l) l.length (l.length - (r + 1)) (passE (chD l) (List.range l.length) S0) = fin) := ⟨by
        have := HF.out
        rw [show l.length - r = (l.length - (r + 1)) + 1 by omega, HS0.out] at this
        exact this⟩
      clear HF
      go_wp2_with fail
      go_loopw [5] (fun t wr2 => ∃ (i : Nat) (xs2 : List Bool), t = .int .i64 i ∧ i ≤ l.length ∧ Aside0 (MadeB wr2 w.heap.size w.heap.size l.length xs2) ∧ Aside0 ((fun j => xs2.getD j false) = passE (chD l) (List.range i) S0) ∧ Aside0 (Below w.heap.size w wr2)) (fun t _ => l.length - (intOf t).toNat)
      case atStart => exact ⟨0, xs, rfl, Nat.zero_le _, HM, ⟨HS0.out⟩, HB⟩
      case round =>
        clear HM HB HS0
        obtain ⟨i, xs2, rfl, hi, HM2, HE2, HB2⟩ := hrel
        by_cases hlt2 : i < l.length
        · have hltz2 : (i : Int) < (l.length : Int) := by omega
          obtain ⟨S2, HS2⟩ : ∃ s, Aside0 ((fun j => xs2.getD j false) = s) := ⟨_, ⟨rfl⟩⟩
          obtain ⟨y, HY⟩ : ∃ y, Aside0 (l.getD i z61 = y) := ⟨_, ⟨rfl⟩⟩
          have HYl : Aside0 (y.f1.length ≤ 1000000) := ⟨by rw [← HY.out]; exact HS.out _ (getD_mem l z61 i hlt2)⟩
          go_wp2_with fail
          go_loopw [6, 7, 8] (fun u t _ wr3 => ∃ (k : Nat) (b : Bool), u = .bool b ∧ t = .int .i64 k ∧ k ≤ y.f1.length ∧ Aside0 (b = (y.f1.take k).all (valE l S2)) ∧ Aside0 (MadeB wr3 w.heap.size w.heap.size l.length xs2) ∧ Aside0 (Below w.heap.size w wr3)) (fun _ t _ _ => y.f1.length - (intOf t).toNat)
          case atStart => exact ⟨0, true, rfl, rfl, Nat.zero_le _, ⟨rfl⟩, HM2, HB2⟩
          case round =>
            clear HM2 HB2
            obtain ⟨k, b, rfl, rfl, hk, HAll, HM3, HB3⟩ := hrel
            obtain ⟨ad, A1, c1, e, hx0, hx1, hx2, hl1, hi1⟩ := at_T61 (Kd.C_below HR.out HB3.out) i (by omega) (by omega)
            subst e
            have hrd : rd_T61 l i = y := by rw [← HY.out]; simp [rd_T61]
            rw [hrd] at hx1 hl1 hi1
            simp only [Int.toNat_natCast] at hx1
            clear hx0 hx2 hrd
            have hyl := HYl.out
            by_cases hlt3 : k < y.f1.length
            · have hltz3 : (k : Int) < (y.f1.length : Int) := by omega
              obtain ⟨ad1, e1, hy0⟩ := ReadsInt.at_ (ReadsInt.of_C hi1) k (by omega) (by omega)
              subst e1
              have hrd : rd y.f1 (k : Int) = y.f1.getD k 0 := by rw [rd, Int.toNat_natCast]
              rw [hrd] at hy0
              simp only [Int.toNat_natCast] at hy0
              have HT := Aside0.mk (all_take_succ (valE l S2) y.f1 0 k hlt3)
              clear hrd hl1 hi1
              generalize y.f1.getD k 0 = x at hy0 HT
              go_wp2_with fail
              refine (refFind_any (some ad) ca l x true _ (Kd.C_below HR.out (by repeat (first | exact HB3.out | apply pw_below_drewN | apply below_drew))) (by omega)).mono ?_
              rintro e w4 ⟨⟨m, rfl, hF⟩, rfl⟩
              have HV := valE_find hF S2
              clear hF
              cases b with
              | false =>
                have HV2 : Aside0 (false = (y.f1.take (k + 1)).all (valE l S2)) := ⟨by rw [HT.out, ← HAll.out]; rfl⟩
                clear HV
                go_wp2_with fail
                go_roundw
                case rel => exact ⟨k + 1, false, rfl, by first | rfl | go_num, by omega, HV2, HM3, HB3⟩
                case measure => simp [intOf]; omega
              | true =>
                rcases HV with ⟨rfl, hv⟩ | ⟨j, rfl, hj, hv⟩
                · have HV2 : Aside0 (true = (y.f1.take (k + 1)).all (valE l S2)) := ⟨by rw [HT.out, ← HAll.out, hv]; rfl⟩
                  clear hv
                  go_wp2_with fail
                  go_roundw
                  case rel => exact ⟨k + 1, true, rfl, by first | rfl | go_num, by omega, HV2, HM3, HB3⟩
                  case measure => simp [intOf]; omega
                · have hc := (HM3.out.at j hj).1
                  have HV2 : Aside0 (xs2.getD j false = (y.f1.take (k + 1)).all (valE l S2)) := ⟨by rw [HT.out, ← HAll.out, hv, ← HS2.out]; rfl⟩
                  have hjz : ¬ (j : Int) < 0 := by omega
                  clear hv
                  generalize xs2.getD j false = bj at hc HV2
                  go_wp2_with fail
                  go_roundw
                  case rel => exact ⟨k + 1, bj, rfl, by first | rfl | go_num, by omega, HV2, HM3, HB3⟩
                  case measure => simp [intOf]; omega
            · have hltz3 : ¬ (k : Int) < (y.f1.length : Int) := by omega
              have HE3 : Aside0 ((fun j => (xs2.set i b).getD j false) = passE (chD l) (List.range (i + 1)) S0) := ⟨by
                rw [set_fun xs2 i b (by rw [HM3.out.len]; exact hlt2), List.range_succ, passE, List.foldl_append]
                have e2 := HE2.out
                rw [passE] at e2
                rw [← e2]
                have e3 : b = (chD l i).all (fun j => xs2.getD j false) := by
                  rw [chD_all, HY.out, HS2.out, HAll.out, List.take_of_length_le (by omega)]
                rw [e3]
                rfl⟩
              obtain ⟨hc, hf⟩ := HM3.out.at i hlt2
              have HM4 := Aside0.mk (HM3.out.set i b)
              have HB4 : Aside0 (Below w.heap.size w (wr.setCell ⟨w.heap.size, i, none⟩ (.bool b))) := ⟨below_set HB3.out (Nat.le_refl _)⟩
              clear HAll hl1 hi1
              go_wp2_with fail
              go_roundw
              case rel => exact ⟨i + 1, xs2.set i b, by first | rfl | go_num, by omega, HM4, HE3, HB4⟩
              case measure => simp [intOf]; omega
        · have hltz2 : ¬ (i : Int) < (l.length : Int) := by omega
          have HF2 : Aside0 (roundsE (chD l) l.length (l.length - (r + 1)) (fun j => xs2.getD j false) = fin) := ⟨by
            rw [HE2.out, show i = l.length by omega]; exact HF1.out⟩
          clear HE2 HF1
          go_wp2_with fail
          go_roundw
          case rel => exact ⟨r + 1, xs2, by first | rfl | go_num, by omega, HM2, HF2, HB2⟩
          case measure => simp [intOf]; omega
    · have hltz : ¬ (r : Int) < (l.length : Int) := by omega
      go_wp2_with fail
      go_ret
      have := HF.out
      rw [show l.length - r = 0 by omega] at this
      exact ⟨⟨_, xs, rfl, HM.out, this.trans HFin.out.symm⟩, HB.out⟩
end Go.Proofs.YtipedgkampafjaaGreatDoor.Rf
/- Tells what the reference's Decompose (of Hangul) computes. -/
namespace Go.Proofs.YtipedgkampafjaaGreatDoor.Rf
open Go.Shelf Go.RowKit Go.Proofs.YtipedgkampafjaaGreatDoorW.PrintWords Go.Proofs.YtipedgkampafjaaGreatDoorW.PrintLast Go.Proofs.YtipedgkampafjaaGreatDoorW.PrintMore

set_option maxRecDepth 100000 in
set_option maxHeartbeats 16000000 in
theorem refDecomp_any (c : Int) (w : World) :
    Calls Tryz.prog 68 #[.int .i64 c] w fun e w' => RetI w' e (hdec c) ∧ Below w.heap.size w w' := by
  have HK := Aside0.mk (refKind_any c w)
  cases hlt : decide (hk c < 4) with
  | true =>
    have HD : Aside0 (hdec c = [c]) := ⟨by rw [hdec, if_pos (of_decide_eq_true hlt)]⟩
    rw [HD.out]
    generalize hk c = k at HK hlt
    go_enter Tryz.func68, Tryz.ntmps68
    go_wp2_with fail
    refine HK.out.mono ?_
    rintro e w' ⟨rfl, rfl⟩
    go_wp2_with fail
    go_ret
    exact ⟨⟨_, _, rfl, Nat.le_refl _, C_one (by simp)⟩, below_alloc (Below.refl _ _) _⟩
  | false =>
    have hs := hk_syl (of_decide_eq_false hlt)
    obtain ⟨hs1, hs2⟩ := hs
    have HDe : Aside0 (hdec c = if (c - 44032) % 28 = 0 then [hp0 c, hp1 c] else [hp0 c, hp1 c, hp2 c]) := ⟨by rw [hdec, if_neg (of_decide_eq_false hlt)]⟩
    have HP : Aside0 (hp0 c = 4352 + (c - 44032) / 28 / 21 ∧ hp1 c = 4449 + (c - 44032) / 28 % 21 ∧ (¬ (c - 44032) % 28 = 0 → hp2 c = 4520 + (c - 44032) % 28 - 1)) := ⟨rfl, rfl, fun h => by rw [hp2, if_neg h]⟩
    generalize hdec c = l at HDe
    generalize hp0 c = p0 at HP HDe
    generalize hp1 c = p1 at HP HDe
    generalize hp2 c = p2 at HP HDe
    generalize hk c = k at HK hlt
    by_cases hm : (c - 44032) % 28 = 0
    · rw [if_pos hm] at HDe
      rw [HDe.out, HP.out.1, HP.out.2.1]
      have hm2 : ¬ 0 < (c - 44032) % 28 := by omega
      clear hm HP HDe
      go_enter Tryz.func68, Tryz.ntmps68
      go_wp2_with fail
      refine HK.out.mono ?_
      rintro e w' ⟨rfl, rfl⟩
      go_wp2_with fail
      go_ret
      refine ⟨⟨_, _, rfl, by simp, C_row (by simp) (fun j hj => ?_)⟩, below_alloc (Below.refl _ _) _⟩
      simp only [List.length_cons, List.length_nil] at hj
      obtain rfl | rfl : j = 0 ∨ j = 1 := by omega
      all_goals simp [Addr.add]
    · rw [if_neg hm] at HDe
      rw [HDe.out, HP.out.1, HP.out.2.1, HP.out.2.2 hm]
      have hm2 : 0 < (c - 44032) % 28 := by omega
      clear hm HP HDe
      obtain ⟨q0, hq0⟩ : ∃ q, q = 4352 + (c - 44032) / 28 / 21 := ⟨_, rfl⟩
      obtain ⟨q1, hq1⟩ : ∃ q, q = 4449 + (c - 44032) / 28 % 21 := ⟨_, rfl⟩
      obtain ⟨q2, hq2⟩ : ∃ q, q = 4520 + (c - 44032) % 28 - 1 := ⟨_, rfl⟩
      rw [← hq0, ← hq1, ← hq2]
      have HRow : Aside0 (RowI (w.alloc (.cells #[.int .i64 q0, .int .i64 q1] 3)) w.heap.size (.slice (some ⟨w.heap.size, 0, none⟩) 2 2) [q0, q1]) := ⟨own_lit w w.heap.size 3 .i64 [q0, q1] (Nat.le_refl _) (by simp)⟩
      have HC1 : Aside0 (∀ x : Int, ((w.alloc (.cells #[.int .i64 q0, .int .i64 q1] 3)).alloc (.cells #[.int .i64 x] 3)).cell? ⟨w.heap.size + 1, 0, none⟩ = some (.int .i64 x)) := ⟨fun x => by simp⟩
      have HBW : Aside0 (Below w.heap.size w (w.alloc (.cells #[.int .i64 q0, .int .i64 q1] 3))) := ⟨below_alloc (Below.refl _ _) _⟩
      have e0 := hq0.symm
      have e1 := hq1.symm
      have e2 := hq2.symm
      clear hq0 hq1 hq2
      go_enter Tryz.func68, Tryz.ntmps68
      go_wp2_with fail
      refine HK.out.mono ?_
      rintro e w' ⟨rfl, hw⟩
      have hw2 := hw.symm
      subst hw2
      clear hw
      go_wp2_with (at_builtin; refine print_append_row (w0 := w) w.heap.size rfl (.tmp 24) (.tmp 29) 34 3 .i64 8 rfl Tryz.underlying34 infoI (by decide) _ [q0, q1] [q2] _ _ _ rfl rfl (own_alloc HRow.out _) (ReadsInt.of_C (C_one (HC1.out q2))) (below_alloc HBW.out _) (by simp; omega) (by simp) ?_; intro v1 w3 h1 h2 h3 h4)
      obtain ⟨A9, cap9, hv9, hcap9, hC9, _⟩ := rowI_C h1 (by simp)
      subst hv9
      have HC9 := Aside0.mk hC9
      have HCap := Aside0.mk hcap9
      have HB3 := Aside0.mk h2
      clear hC9 hcap9 h1 h2 h3 h4
      go_wp2_with fail
      go_ret
      exact ⟨⟨A9, cap9, rfl, HCap.out, HC9.out⟩, HB3.out⟩
end Go.Proofs.YtipedgkampafjaaGreatDoor.Rf
/- Tells what the reference's lengths computes. -/
namespace Go.Proofs.YtipedgkampafjaaGreatDoor.Rf
open Go.Shelf Go.RowKit Go.Proofs.YtipedgkampafjaaGreatDoorW.PrintWords Go.Proofs.YtipedgkampafjaaGreatDoorW.PrintLast Go.Proofs.YtipedgkampafjaaGreatDoorW.PrintMore

/-- A row of numbers that the call made. -/
abbrev MadeI (W : World) (base g n : Nat) (xs : List Int) : Prop := W.ownsRow base 3 1 (.slice (some ⟨g, 0, none⟩) n n) n (nums .i64 xs)
theorem MadeI.len {W : World} {base g n : Nat} {xs : List Int} (h : MadeI W base g n xs) : xs.length = n := by have := h.1; simp [nums] at this; exact this
theorem MadeI.at {W : World} {base g n : Nat} {xs : List Int} (h : MadeI W base g n xs) (j : Nat) (hj : j < n) : W.cell? ⟨g, j, none⟩ = some (.int .i64 (xs.getD j 0)) ∧ W.frozen? ⟨g, j, none⟩ = false := by
  have h1 := own_at h (j : Int) (by omega) (by omega)
  simpa [rd] using h1
theorem MadeI.set {W : World} {base g n : Nat} {xs : List Int} (h : MadeI W base g n xs) (j : Nat) (b : Int) : MadeI (W.setCell ⟨g, j, none⟩ (.int .i64 b)) base g n (xs.set j b) := by
  have h1 := (own_store h (j : Int) b).1
  simpa using h1
theorem MadeI.block {W : World} {base g n : Nat} {xs : List Int} (h : MadeI W base g n xs) : g < W.heap.size := by
  rcases h.2 with ⟨h1, _⟩ | ⟨g', cap, cur, h1, _, h2, _⟩
  · cases h1
  · cases h1; exact blk_lt h2
theorem MadeI.below {W W' : World} {base g n : Nat} {xs : List Int} (h : MadeI W base g n xs) (hb : Below W.heap.size W W') : MadeI W' base g n xs := pw_own_below h hb
theorem sumL_snoc (l : List Int) (v : Int) : sumL (l ++ [v]) = sumL l + v := by simp [sumL, List.foldl_append]
theorem sum_take (f : Int → Int) (l : List Int) (k : Nat) (hk : k < l.length) : sumL ((l.take (k + 1)).map f) = sumL ((l.take k).map f) + f (l.getD k 0) := by
  rw [List.take_succ_eq_append_getElem hk, List.map_append, List.getD_eq_getElem?_getD, List.getElem?_eq_getElem hk, List.map_cons, List.map_nil, sumL_snoc]; rfl
theorem setI_fun (xs : List Int) (i : Nat) (b : Int) (hi : i < xs.length) : (fun j => (xs.set i b).getD j 0) = fun j => if j = i then b else xs.getD j 0 := by
  funext j
  rw [List.getD_eq_getElem?_getD, List.getElem?_set, List.getD_eq_getElem?_getD]
  by_cases h : i = j
  · subst h; simp [hi]
  · rw [if_neg h, if_neg (fun e => h e.symm)]
theorem hdec_len (c : Int) : 1 ≤ (hdec c).length ∧ (hdec c).length ≤ 3 := by
  unfold hdec; split
  · simp
  · split <;> simp
theorem valL_find {dm : List S61} {cp : Bool} {x r : Int} (h : FindR (fndP x cp) dm r) (s : Nat → Int) : (r = -1 ∧ valL dm cp s x = ((hdec x).length : Int)) ∨ ∃ j : Nat, r = (j : Int) ∧ j < dm.length ∧ valL dm cp s x = s j := by
  rcases findR_place h with ⟨h1, h2⟩ | ⟨j, h1, h2, h3⟩
  · exact .inl ⟨h1, by unfold valL; rw [h2]⟩
  · exact .inr ⟨j, h1, h2, by unfold valL; rw [h3]⟩
def Small65 (xs : List Int) : Prop := ∀ j, 0 ≤ xs.getD j 0 ∧ xs.getD j 0 ≤ 65
theorem Small65.set {xs : List Int} (h : Small65 xs) (i : Nat) (v : Int) (h0 : 0 ≤ v) (h1 : v ≤ 65) : Small65 (xs.set i v) := by
  intro j
  rw [List.getD_eq_getElem?_getD, List.getElem?_set]
  have := h j
  rw [List.getD_eq_getElem?_getD] at this
  split
  · split
    · simp; omega
    · simp
  · exact this

/-- A row that the call made, of n elements that s tells. -/
def RetMI (w' : World) (base : Nat) (e : Ending) (n : Nat) (s : Nat → Int) : Prop := ∃ g xs, e = .returned (.slice (some ⟨g, 0, none⟩) n n) ∧ MadeI w' base g n xs ∧ (fun j => xs.getD j 0) = s

attribute [local go_sem] max2_mx min2_mn max_two min_two
set_option maxRecDepth 100000 in
set_option maxHeartbeats 16000000 in
theorem refLengths_any (A : Option Addr) (ca : Nat) (l : List S61) (cp : Bool) (w : World) (hr : Kd.C k61 w A l.length l) (hl : l.length ≤ 1000000) (hs : ∀ m ∈ l, m.f1.length ≤ 1000000) :
    Calls Tryz.prog 41 #[.slice A l.length ca, .bool cp] w fun e w' => RetMI w' w.heap.size e l.length (roundsLn l cp l.length l.length (fun _ => 0)) ∧ Below w.heap.size w w' := by
  have HR := Aside0.mk hr
  have HS := Aside0.mk hs
  have hmk := print_make_of (P := Tryz.prog) 34 3 (.int .i64 0) 8 Tryz.underlying34 infoI rfl (by decide) l.length (by omega)
  clear hr hs
  go_enter Tryz.func41, Tryz.ntmps41
  go_wp2_with fail
  have HM0 : Aside0 (MadeI (w.alloc (.cells (madeCells #[.int .i64 0] l.length) 3)) w.heap.size w.heap.size l.length (List.replicate l.length 0)) := ⟨own_made w w.heap.size 3 .i64 l.length (Nat.le_refl _) (by omega)⟩
  have HB0 : Aside0 (Below w.heap.size w (w.alloc (.cells (madeCells #[.int .i64 0] l.length) 3))) := ⟨below_alloc (Below.refl _ _) _⟩
  obtain ⟨fin, HFin⟩ : ∃ f, Aside0 (roundsLn l cp l.length l.length (fun _ => 0) = f) := ⟨_, ⟨rfl⟩⟩
  have HZ : (fun j => (List.replicate l.length (0 : Int)).getD j 0) = fun _ => 0 := by
    funext j; rw [List.getD_eq_getElem?_getD, List.getElem?_replicate]; split <;> rfl
  have HF0 : Aside0 (roundsLn l cp l.length (l.length - 0) (fun j => (List.replicate l.length (0 : Int)).getD j 0) = fin) := ⟨by rw [← HFin.out, HZ]; rfl⟩
  have HL0 : Aside0 (Small65 (List.replicate l.length (0 : Int))) := ⟨fun j => by have e : (List.replicate l.length (0 : Int)).getD j 0 = 0 := congrFun HZ j; omega⟩
  clear hmk HZ
  generalize w.alloc (.cells (madeCells #[.int .i64 0] l.length) 3) = w1 at HM0 HB0 ⊢
  generalize hx : List.replicate l.length (0 : Int) = xs0 at HM0 HF0 HL0
  clear hx
  go_loopw [6] (fun t wr => ∃ (r : Nat) (xs : List Int), t = .int .i64 r ∧ r ≤ l.length ∧ Aside0 (MadeI wr w.heap.size w.heap.size l.length xs) ∧ Aside0 (Small65 xs) ∧ Aside0 (roundsLn l cp l.length (l.length - r) (fun j => xs.getD j 0) = fin) ∧ Aside0 (Below w.heap.size w wr)) (fun t _ => l.length - (intOf t).toNat)
  case atStart => exact ⟨0, xs0, rfl, Nat.zero_le _, HM0, HL0, HF0, HB0⟩
  case round =>
    clear HM0 HF0 HB0 HL0
    obtain ⟨r, xs, rfl, hrl, HM, HL, HF, HB⟩ := hrel
    by_cases hlt : r < l.length
    · have hltz : (r : Int) < (l.length : Int) := by omega
      obtain ⟨S0, HS0⟩ : ∃ s, Aside0 ((fun j => xs.getD j 0) = s) := ⟨_, ⟨rfl⟩⟩
      have HF1 : Aside0 (roundsLn l cp l.length (l.length - (r + 1)) (passLn l cp (List.range l.length) S0) = fin) := ⟨by
        have := HF.out
        rw [show l.length - r = (l.length - (r + 1)) + 1 by omega, HS0.out] at this
        exact this⟩
      clear HF
      go_wp2_with fail
      go_loopw [7] (fun t wr2 => ∃ (i : Nat) (xs2 : List Int), t = .int .i64 i ∧ i ≤ l.length ∧ Aside0 (MadeI wr2 w.heap.size w.heap.size l.length xs2) ∧ Aside0 (Small65 xs2) ∧ Aside0 ((fun j => xs2.getD j 0) = passLn l cp (List.range i) S0) ∧ Aside0 (Below w.heap.size w wr2)) (fun t _ => l.length - (intOf t).toNat)
      case atStart => exact ⟨0, xs, rfl, Nat.zero_le _, HM, HL, ⟨HS0.out⟩, HB⟩
      case round =>
        clear HM HB HS0 HL
        obtain ⟨i, xs2, rfl, hi, HM2, HL2, HE2, HB2⟩ := hrel
        by_cases hlt2 : i < l.length
        · have hltz2 : (i : Int) < (l.length : Int) := by omega
          obtain ⟨S2, HS2⟩ : ∃ s, Aside0 ((fun j => xs2.getD j 0) = s) := ⟨_, ⟨rfl⟩⟩
          obtain ⟨y, HY⟩ : ∃ y, Aside0 (l.getD i z61 = y) := ⟨_, ⟨rfl⟩⟩
          have HYl : Aside0 (y.f1.length ≤ 1000000) := ⟨by rw [← HY.out]; exact HS.out _ (getD_mem l z61 i hlt2)⟩
          go_wp2_with fail
          go_loopw [8, 9, 10] (fun u t _ wr3 => ∃ (k : Nat) (v : Int), u = .int .i64 v ∧ t = .int .i64 k ∧ k ≤ y.f1.length ∧ 0 ≤ v ∧ v ≤ 65 * (k : Int) ∧ Aside0 (v = sumL ((y.f1.take k).map (valL l cp S2))) ∧ Aside0 (MadeI wr3 w.heap.size w.heap.size l.length xs2) ∧ Aside0 (Below w.heap.size w wr3)) (fun _ t _ _ => y.f1.length - (intOf t).toNat)
          case atStart => exact ⟨0, 0, rfl, rfl, Nat.zero_le _, by omega, by omega, ⟨rfl⟩, HM2, HB2⟩
          case round =>
            clear HM2 HB2
            obtain ⟨k, v, rfl, rfl, hk, hv0, hv1, HAll, HM3, HB3⟩ := hrel
            obtain ⟨ad, A1, c1, e, hx0, hx1, hx2, hl1, hi1⟩ := at_T61 (Kd.C_below HR.out HB3.out) i (by omega) (by omega)
            subst e
            have hrd : rd_T61 l i = y := by rw [← HY.out]; simp [rd_T61]
            rw [hrd] at hx1 hl1 hi1 hx2
            simp only [Int.toNat_natCast] at hx1 hx2
            clear hx0 hrd
            have hyl := HYl.out
            by_cases hlt3 : k < y.f1.length
            · have hltz3 : (k : Int) < (y.f1.length : Int) := by omega
              obtain ⟨ad1, e1, hy0⟩ := ReadsInt.at_ (ReadsInt.of_C hi1) k (by omega) (by omega)
              subst e1
              have hrd : rd y.f1 (k : Int) = y.f1.getD k 0 := by rw [rd, Int.toNat_natCast]
              rw [hrd] at hy0
              simp only [Int.toNat_natCast] at hy0
              have HT := Aside0.mk (sum_take (valL l cp S2) y.f1 k hlt3)
              clear hrd hl1 hi1 hx2
              generalize y.f1.getD k 0 = x at hy0 HT
              go_wp2_with fail
              refine (refFind_any (some ad) ca l x cp _ (Kd.C_below HR.out (by repeat (first | exact HB3.out | apply pw_below_drewN | apply below_drew))) (by omega)).mono ?_
              rintro e w4 ⟨⟨m, rfl, hF⟩, rfl⟩
              have HV := valL_find hF S2
              clear hF
              rcases HV with ⟨rfl, hv⟩ | ⟨j, rfl, hj, hv⟩
              · have hh := hdec_len x
                have HV2 : Aside0 (v + ((hdec x).length : Int) = sumL ((y.f1.take (k + 1)).map (valL l cp S2))) := ⟨by rw [HT.out, ← HAll.out, hv]⟩
                clear hv
                have hhz : ((hdec x).length : Int) ≤ 3 := by omega
                have hhy : (0 : Int) ≤ ((hdec x).length : Int) := by omega
                clear hh
                go_wp2_with fail
                refine (refDecomp_any x _).mono ?_
                rintro e w5 ⟨⟨A5, c5, rfl, _, _⟩, hb5⟩
                have HM5 := Aside0.mk (HM3.out.below hb5)
                have HB5 := Aside0.mk (below_step HB3.out hb5)
                clear hb5
                go_wp2_with fail
                go_roundw
                case rel => exact ⟨k + 1, _, rfl, by first | rfl | go_num, by omega, by omega, by omega, HV2, HM5, HB5⟩
                case measure => simp [intOf]; omega
              · have hc := (HM3.out.at j hj).1
                have HV2 : Aside0 (v + xs2.getD j 0 = sumL ((y.f1.take (k + 1)).map (valL l cp S2))) := ⟨by rw [HT.out, ← HAll.out, hv, ← HS2.out]⟩
                have hjz : (0 : Int) ≤ (j : Int) := by omega
                obtain ⟨hb0, hb1⟩ := HL2.out j
                clear hv
                generalize xs2.getD j 0 = bj at hc HV2 hb0 hb1
                go_wp2_with fail
                go_roundw
                case rel => exact ⟨k + 1, _, rfl, by first | rfl | go_num, by omega, by omega, by omega, HV2, HM3, HB3⟩
                case measure => simp [intOf]; omega
            · have hltz3 : ¬ (k : Int) < (y.f1.length : Int) := by omega
              have HN : Aside0 (v = sumL (y.f1.map (valL l cp S2))) := ⟨by have := HAll.out; rwa [List.take_of_length_le (by omega)] at this⟩
              have HE3 : Aside0 (∀ b, b = stepLn l cp S2 i → (fun j => (xs2.set i b).getD j 0) = passLn l cp (List.range (i + 1)) S0) := ⟨fun b hb => by
                rw [setI_fun xs2 i b (by rw [HM3.out.len]; exact hlt2), List.range_succ, passLn, List.foldl_append]
                have e2 := HE2.out
                rw [passLn] at e2
                rw [← e2, hb, ← HS2.out]
                rfl⟩
              have HSt : Aside0 (stepLn l cp S2 i = if (!y.f2.toList.isEmpty && !cp) = true then 1 else mn (mx v 1) 65) := ⟨by
                rw [stepLn, HY.out, ← HN.out, mn_min, mx_max]⟩
              have HV65 : Aside0 (0 ≤ mn (mx v 1) 65 ∧ mn (mx v 1) 65 ≤ 65) := ⟨by rw [mn_min, mx_max]; omega⟩
              obtain ⟨hc, hf⟩ := HM3.out.at i hlt2
              have HM4 := Aside0.mk (HM3.out.set i (mn (mx v 1) 65))
              have HB4 : Aside0 (Below w.heap.size w (wr.setCell ⟨w.heap.size, i, none⟩ (.int .i64 (mn (mx v 1) 65)))) := ⟨below_set HB3.out (Nat.le_refl _)⟩
              have HM5 := Aside0.mk (HM4.out.set i 1)
              have HB5 : Aside0 (Below w.heap.size w ((wr.setCell ⟨w.heap.size, i, none⟩ (.int .i64 (mn (mx v 1) 65))).setCell ⟨w.heap.size, i, none⟩ (.int .i64 1))) := ⟨below_set HB4.out (Nat.le_refl _)⟩
              have hc4 := (HM4.out.at i hlt2).1
              have hf4 := (HM4.out.at i hlt2).2
              obtain ⟨ad2, A2, c2, e2, _, _, hx2b, _, _⟩ := at_T61 (Kd.C_below HR.out HB4.out) i (by omega) (by omega)
              cases e2
              have hrd : rd_T61 l i = y := by rw [← HY.out]; simp [rd_T61]
              rw [hrd] at hx2b
              simp only [Int.toNat_natCast] at hx2b
              clear HAll hl1 hi1 hv1 hrd
              cases htag : y.f2.toList.isEmpty with
              | true =>
                have HE4 : Aside0 (mn (mx v 1) 65 = stepLn l cp S2 i) := ⟨by rw [HSt.out, htag]; rfl⟩
                go_wp2_with fail
                go_roundw
                case rel => exact ⟨i + 1, _, by first | rfl | go_num, by omega, HM4, ⟨HL2.out.set i _ HV65.out.1 HV65.out.2⟩, ⟨HE3.out _ HE4.out⟩, HB4⟩
                case measure => simp [intOf]; omega
              | false =>
                cases cp with
                | true =>
                  have HE4 : Aside0 (mn (mx v 1) 65 = stepLn l true S2 i) := ⟨by rw [HSt.out, htag]; rfl⟩
                  go_wp2_with fail
                  go_roundw
                  case rel => exact ⟨i + 1, _, by first | rfl | go_num, by omega, HM4, ⟨HL2.out.set i _ HV65.out.1 HV65.out.2⟩, ⟨HE3.out _ HE4.out⟩, HB4⟩
                  case measure => simp [intOf]; omega
                | false =>
                  have HE4 : Aside0 (1 = stepLn l false S2 i) := ⟨by rw [HSt.out, htag]; rfl⟩
                  have HSS : Aside0 ((xs2.set i (mn (mx v 1) 65)).set i 1 = xs2.set i 1) := ⟨List.set_set ..⟩
                  rw [HSS.out] at HM5
                  go_wp2_with fail
                  go_roundw
                  case rel => exact ⟨i + 1, _, by first | rfl | go_num, by omega, HM5, ⟨HL2.out.set i 1 (by omega) (by omega)⟩, ⟨HE3.out _ HE4.out⟩, HB5⟩
                  case measure => simp [intOf]; omega
        · have hltz2 : ¬ (i : Int) < (l.length : Int) := by omega
          have HF2 : Aside0 (roundsLn l cp l.length (l.length - (r + 1)) (fun j => xs2.getD j 0) = fin) := ⟨by
            rw [HE2.out, show i = l.length by omega]; exact HF1.out⟩
          clear HE2 HF1
          go_wp2_with fail
          go_roundw
          case rel => exact ⟨r + 1, xs2, by first | rfl | go_num, by omega, HM2, HL2, HF2, HB2⟩
          case measure => simp [intOf]; omega
    · have hltz : ¬ (r : Int) < (l.length : Int) := by omega
      go_wp2_with fail
      go_ret
      have := HF.out
      rw [show l.length - r = 0 by omega] at this
      exact ⟨⟨_, xs, rfl, HM.out, this.trans HFin.out.symm⟩, HB.out⟩
end Go.Proofs.YtipedgkampafjaaGreatDoor.Rf
/- The steps of the reference's Check, told by the program's first error (plain). -/
namespace Go.Proofs.YtipedgkampafjaaGreatDoor.Rf
open Go.Shelf Go.RowKit Go.Proofs.YtipedgkampafjaaGreatDoorW.PrintWords Go.Proofs.YtipedgkampafjaaGreatDoorW.PrintLast Go.Proofs.YtipedgkampafjaaGreatDoorW.PrintMore

variable {cl : List S71} {dm : List S61} {ex : List RR}
theorem dec_ord (h : ordChk cl ≠ 0) : decChk cl dm ex = ordChk cl := by unfold decChk; rw [if_pos h]
theorem dec_map (h0 : ordChk cl = 0) (h : mapChkO dm ≠ 0) : decChk cl dm ex = mapChkO dm := by unfold decChk; rw [if_neg (by simpa using h0), if_pos h]
theorem dec_ex (h0 : ordChk cl = 0) (h1 : mapChkO dm = 0) (h : canonR ex = false) : decChk cl dm ex = 11 := by
  unfold decChk; rw [if_neg (by simpa using h0), if_neg (by simpa using h1), if_pos h]
/-- The first three tests are passed. -/
structure PreD (cl : List S71) (dm : List S61) (ex : List RR) : Prop where
  o : ordChk cl = 0
  m : mapChkO dm = 0
  x : canonR ex = true
theorem dec_kinds (p : PreD cl dm ex) (h : kindsE cl dm ≠ 0) : decChk cl dm ex = kindsE cl dm := by
  unfold decChk; rw [if_neg (by simpa using p.o), if_neg (by simpa using p.m), if_neg (by simp [p.x]), if_pos h]
theorem st_twice (p : PreD cl dm ex) {i k : Nat} (hi : i < dm.length) (hk : k < i) (hp : placeC dm true (dm.getD i z61).f0 = some k) : decChk cl dm ex = 5 := by
  have h1 : pairAny sameFrom dm = true := by
    cases h : pairAny sameFrom dm with
    | true => rfl
    | false =>
      have := place_self (pair_one p.m h) hi
      rw [placeC_true, this] at hp
      cases hp; omega
  have h2 : kindsE cl dm = 5 := by unfold kindsE; rw [h1]; rfl
  rw [dec_kinds p (by rw [h2]; decide), h2]
theorem st_none (h : ∀ i, i < dm.length → ∀ k, placeC dm true (dm.getD i z61).f0 = some k → i ≤ k) : pairAny sameFrom dm = false := by
  cases h1 : pairAny sameFrom dm with
  | false => rfl
  | true =>
    obtain ⟨i, k, hi, hk, hp⟩ := pair_first h1
    have := h i hi k (by rw [placeC_true]; exact hp)
    omega
theorem st_kind (p : PreD cl dm ex) (hp : pairAny sameFrom dm = false) (h : dm.any badKind = true) : decChk cl dm ex = 8 := by
  have h2 : kindsE cl dm = 8 := by unfold kindsE; rw [hp, h]; rfl
  rw [dec_kinds p (by rw [h2]; decide), h2]
theorem st_data (p : PreD cl dm ex) (hp : pairAny sameFrom dm = false) (hk : dm.any badKind = false) (h : dm.any (badData cl) = true) : decChk cl dm ex = 11 := by
  have h2 : kindsE cl dm = 11 := by unfold kindsE; rw [hp, hk, h]; rfl
  rw [dec_kinds p (by rw [h2]; decide), h2]
/-- The tests of single mappings are passed, too. -/
structure PreE (cl : List S71) (dm : List S61) (ex : List RR) : Prop where
  p : PreD cl dm ex
  k : kindsE cl dm = 0
  one : OneEach dm
  hkd : ∀ m ∈ dm, hk m.f0 = 0
theorem st_pre (p : PreD cl dm ex) (hp : pairAny sameFrom dm = false) (hk : dm.any badKind = false) (h : dm.any (badData cl) = false) : PreE cl dm ex := by
  have h2 : kindsE cl dm = 0 := by unfold kindsE; rw [hp, hk, h]; rfl
  exact ⟨p, h2, pair_one p.m hp, kindsE_ok h2⟩
theorem st_ends (q : PreE cl dm ex) {i : Nat} (hi : i < dm.length) (h : roundsE (chD dm) dm.length dm.length (fun _ => false) i = false) : decChk cl dm ex = 12 := by
  unfold decChk
  rw [if_neg (by simpa using q.p.o), if_neg (by simpa using q.p.m), if_neg (by simp [q.p.x]), if_neg (by simpa using q.k), if_pos]
  intro hA
  rw [(allEnds_places q.hkd q.one).1 hA i hi] at h
  cases h
theorem st_all (q : PreE cl dm ex) (h : ∀ i, i < dm.length → roundsE (chD dm) dm.length dm.length (fun _ => false) i = true) : AllEnds dm := (allEnds_places q.hkd q.one).2 h
theorem st_long (q : PreE cl dm ex) (hA : AllEnds dm) {i : Nat} (hi : i < dm.length) (cp : Bool) (h : 64 < roundsLn dm cp dm.length dm.length (fun _ => 0) i) : decChk cl dm ex = 13 := by
  have hwt := ends_all q.hkd hA
  unfold decChk
  rw [if_neg (by simpa using q.p.o), if_neg (by simpa using q.p.m), if_neg (by simp [q.p.x]), if_neg (by simpa using q.k), if_neg (fun hn => hn hA), if_pos]
  cases cp with
  | true => exact .inl ((tooLong_rounds q.hkd q.one hA hwt).2 ⟨i, hi, h⟩)
  | false => exact .inr ((tooLong_rounds q.hkd q.one hA (fun c => ends_false (hwt c))).2 ⟨i, hi, h⟩)
theorem st_ok (q : PreE cl dm ex) (hA : AllEnds dm) (h : ∀ i, i < dm.length → ∀ cp, roundsLn dm cp dm.length dm.length (fun _ => 0) i ≤ 64) : decChk cl dm ex = 0 := by
  have hwt := ends_all q.hkd hA
  unfold decChk
  rw [if_neg (by simpa using q.p.o), if_neg (by simpa using q.p.m), if_neg (by simp [q.p.x]), if_neg (by simpa using q.k), if_neg (fun hn => hn hA), if_neg]
  rintro (ht | ht)
  · obtain ⟨i, hi, h1⟩ := (tooLong_rounds q.hkd q.one hA hwt).1 ht
    have := h i hi true; omega
  · obtain ⟨i, hi, h1⟩ := (tooLong_rounds q.hkd q.one hA (fun c => ends_false (hwt c))).1 ht
    have := h i hi false; omega
end Go.Proofs.YtipedgkampafjaaGreatDoor.Rf
/- Tells that the reference's Check of data computes the program's first error. -/
namespace Go.Proofs.YtipedgkampafjaaGreatDoor.Rf
open Go.Shelf Go.RowKit Go.Sort Go.Proofs.YtipedgkampafjaaGreatDoorW.PrintWords Go.Proofs.YtipedgkampafjaaGreatDoorW.PrintLast Go.Proofs.YtipedgkampafjaaGreatDoorW.PrintMore

set_option maxRecDepth 100000 in
set_option maxHeartbeats 64000000 in
theorem ref21Check_any (Ac Ad Ax : Option Addr) (cc cd cx : Nat) (cl : List S71) (dm : List S61) (ex : List RR) (w : World)
    (hrc : Kd.C k71 w Ac cl.length cl) (hlc : cl.length ≤ 1000000)
    (hrd : Kd.C k61 w Ad dm.length dm) (hld : dm.length ≤ 1000000)
    (hrx : Kd.C k52 w Ax ex.length ex) (hlx : ex.length ≤ 1000) (hsm : ∀ x ∈ dm, x.f1.length ≤ 1000000 ∧ x.f2.size ≤ 1000000000) :
    Calls Tryz.prog 10 #[.agg #[.slice Ac cl.length cc, .slice Ad dm.length cd, .slice Ax ex.length cx]] w fun e w' => e = .returned (.int .i64 (decChk cl dm ex)) ∧ Below w.heap.size w w' := by
  have HB0 : Aside0 (Below w.heap.size w (w.alloc (.cells #[.slice Ac cl.length cc, .slice Ad dm.length cd, .slice Ax ex.length cx] 28))) := ⟨below_alloc (Below.refl _ _) _⟩
  have hx0 : (w.alloc (.cells #[.slice Ac cl.length cc, .slice Ad dm.length cd, .slice Ax ex.length cx] 28)).cell? ⟨w.heap.size, 0, none⟩ = some (.slice Ac cl.length cc) := by simp
  have hx1 : (w.alloc (.cells #[.slice Ac cl.length cc, .slice Ad dm.length cd, .slice Ax ex.length cx] 28)).cell? ⟨w.heap.size, 1, none⟩ = some (.slice Ad dm.length cd) := by simp
  have hx2 : (w.alloc (.cells #[.slice Ac cl.length cc, .slice Ad dm.length cd, .slice Ax ex.length cx] 28)).cell? ⟨w.heap.size, 2, none⟩ = some (.slice Ax ex.length cx) := by simp
  have HRC := Aside0.mk hrc
  have HRD := Aside0.mk hrd
  have HRX := Aside0.mk hrx
  have HSM := Aside0.mk hsm
  clear hrc hrd hrx hsm
  go_enter Tryz.func10, Tryz.ntmps10
  go_wp2_with fail
  obtain ⟨w1, hw1⟩ : ∃ x, x = w.alloc (.cells #[.slice Ac cl.length cc, .slice Ad dm.length cd, .slice Ax ex.length cx] 28) := ⟨_, rfl⟩
  rw [← hw1] at HB0 hx0 hx1 hx2 ⊢
  clear hw1
  have HC0 : Aside0 (∀ W, Below w1.heap.size w1 W → W.cell? ⟨w.heap.size, 0, none⟩ = some (.slice Ac cl.length cc)) := ⟨fun W hW => by rw [hW.cell (cell_lt hx0)]; exact hx0⟩
  have HC1 : Aside0 (∀ W, Below w1.heap.size w1 W → W.cell? ⟨w.heap.size, 1, none⟩ = some (.slice Ad dm.length cd)) := ⟨fun W hW => by rw [hW.cell (cell_lt hx1)]; exact hx1⟩
  have HC2 : Aside0 (∀ W, Below w1.heap.size w1 W → W.cell? ⟨w.heap.size, 2, none⟩ = some (.slice Ax ex.length cx)) := ⟨fun W hW => by rw [hW.cell (cell_lt hx2)]; exact hx2⟩
  have HRc : Aside0 (∀ W, Below w1.heap.size w1 W → Kd.C k71 W Ac cl.length cl) := ⟨fun W hW => Kd.C_below HRC.out (below_step HB0.out hW)⟩
  have HRd : Aside0 (∀ W, Below w1.heap.size w1 W → Kd.C k61 W Ad dm.length dm) := ⟨fun W hW => Kd.C_below HRD.out (below_step HB0.out hW)⟩
  have HRx : Aside0 (∀ W, Below w1.heap.size w1 W → Kd.C k52 W Ax ex.length ex) := ⟨fun W hW => Kd.C_below HRX.out (below_step HB0.out hW)⟩
  clear HRC HRD HRX hx1 hx2
  refine (ref20Check_any Ac cc cl _ (HRc.out _ (Below.refl _ _)) (by omega)).mono ?_
  rintro e w2 ⟨rfl, hb2⟩
  have HB2 := Aside0.mk hb2
  clear hb2 hx0
  by_cases h0 : ordChk cl = 0
  · rw [h0]
    have hk1 := HC1.out _ HB2.out
    go_wp2_with fail
    refine (ref11Check_any Ad cd dm _ (HRd.out _ HB2.out) (by omega) (fun x hx => ⟨by have := (HSM.out x hx).1; omega, (HSM.out x hx).2⟩)).mono ?_
    rintro e w3 ⟨rfl, hb3⟩
    have HB3 := Aside0.mk (below_step HB2.out hb3)
    clear hb3 hk1
    by_cases h1 : mapChkO dm = 0
    · rw [h1]
      have hk2 := HC2.out _ HB3.out
      go_wp2_with fail
      refine (refSetValid_any Ax cx ex _ (HRx.out _ HB3.out) hlx).mono ?_
      rintro e w4 ⟨rfl, hb4⟩
      have HB4 := Aside0.mk (below_step HB3.out hb4)
      clear hb4 hk2
      cases h2 : canonR ex with
      | false =>
        have HE := Aside0.mk (dec_ex (ex := ex) h0 h1 h2)
        clear h0 h1
        go_wp2_with fail
        go_ret
        exact ⟨ret_int HE.out.symm, below_step HB0.out HB4.out⟩
      | true =>
        have HPre : Aside0 (PreD cl dm ex) := ⟨⟨h0, h1, h2⟩⟩
        have hk1 := HC1.out _ HB4.out
        clear h0 h1 h2
        go_wp2_with fail
        clear hk1
        go_loopw [6] (fun t wr => ∃ i : Nat, t = .int .i64 i ∧ i ≤ dm.length ∧ Aside0 (∀ j, j < i → ∀ k, placeC dm true (dm.getD j z61).f0 = some k → j ≤ k) ∧ Aside0 (Below w1.heap.size w1 wr)) (fun t _ => dm.length - (intOf t).toNat)
        case atStart => exact ⟨0, rfl, Nat.zero_le _, ⟨fun j hj => by omega⟩, HB4⟩
        case round =>
          clear HB2 HB3 HB4
          obtain ⟨i, rfl, hi, HA, HB⟩ := hrel
          by_cases hlt : i < dm.length
          · have hltz : (i : Int) < (dm.length : Int) := by omega
            obtain ⟨ad, A1, c1, e, hy0, hy1, hy2, hl1, hi1⟩ := at_T61 (HRd.out _ HB.out) i (by omega) (by omega)
            subst e
            have hrd : rd_T61 dm i = dm.getD i z61 := by simp [rd_T61]
            rw [hrd] at hy0
            simp only [Int.toNat_natCast] at hy0
            clear hy1 hy2 hl1 hi1 hrd
            obtain ⟨x, hx⟩ : ∃ x, x = (dm.getD i z61).f0 := ⟨_, rfl⟩
            rw [← hx] at hy0
            have HX := Aside0.mk hx
            clear hx
            go_wp2_with fail
            refine (refFind_any (some ad) cd dm x true _ (HRd.out _ (by repeat (first | exact HB.out | apply pw_below_drewN | apply below_drew))) (by omega)).mono ?_
            rintro e w5 ⟨⟨m, rfl, hF⟩, rfl⟩
            rcases findR_place hF with ⟨rfl, hp⟩ | ⟨k, rfl, hk, hp⟩
            · have HE : Aside0 (decChk cl dm ex = 5) := ⟨by
                rw [HX.out] at hp
                rw [placeC_true] at hp
                exact absurd hp (fun hp => by
                  unfold placeOf at hp
                  rw [if_pos (List.any_eq_true.2 ⟨_, getD_mem dm z61 i hlt, by simp⟩)] at hp
                  cases hp)⟩
              have hm1 : (-1 : Int) < (i : Int) := by omega
              clear hF hp
              go_wp2_with fail
              go_ret
              exact ⟨ret_int HE.out.symm, below_step HB0.out HB.out⟩
            · by_cases hki : k < i
              · have HE : Aside0 (decChk cl dm ex = 5) := ⟨st_twice HPre.out hlt hki (by rw [← HX.out]; exact hp)⟩
                have hkz : (k : Int) < (i : Int) := by omega
                clear hF hp
                go_wp2_with fail
                go_ret
                exact ⟨ret_int HE.out.symm, below_step HB0.out HB.out⟩
              · have HA2 : Aside0 (∀ j, j < i + 1 → ∀ k, placeC dm true (dm.getD j z61).f0 = some k → j ≤ k) := ⟨fun j hj k' hk' => by
                  by_cases hji : j < i
                  · exact HA.out j hji k' hk'
                  · have : j = i := by omega
                    subst this
                    rw [← HX.out, hp] at hk'
                    cases hk'; omega⟩
                have hkz : ¬ (k : Int) < (i : Int) := by omega
                clear hF hp
                go_wp2_with fail
                go_roundw
                case rel => exact ⟨i + 1, by first | rfl | go_num, by omega, HA2, HB⟩
                case measure => simp [intOf]; omega
          · have hltz : ¬ (i : Int) < (dm.length : Int) := by omega
            have HPair : Aside0 (pairAny sameFrom dm = false) := ⟨st_none (fun j hj => HA.out j (by omega))⟩
            clear HA
            go_wp2_with fail
            go_loopw [7] (fun t wr => ∃ i : Nat, t = .int .i64 i ∧ i ≤ dm.length ∧ Aside0 ((dm.take i).any badKind = false) ∧ Aside0 (Below w1.heap.size w1 wr)) (fun t _ => dm.length - (intOf t).toNat)
            case atStart => exact ⟨0, rfl, Nat.zero_le _, ⟨rfl⟩, HB⟩
            case round =>
              clear HB hltz hi hlt
              obtain ⟨i, rfl, hi, HA, HB⟩ := hrel
              by_cases hlt : i < dm.length
              · have hltz : (i : Int) < (dm.length : Int) := by omega
                obtain ⟨ad, A1, c1, e, hy0, hy1, hy2, hl1, hi1⟩ := at_T61 (HRd.out _ HB.out) i (by omega) (by omega)
                subst e
                have hrd : rd_T61 dm i = dm.getD i z61 := by simp [rd_T61]
                rw [hrd] at hy1 hy2
                simp only [Int.toNat_natCast] at hy1 hy2
                clear hy0 hl1 hi1 hrd
                have HYes : Aside0 (badKind (dm.getD i z61) = true → decChk cl dm ex = 8) := ⟨fun h => st_kind HPre.out HPair.out (List.any_eq_true.2 ⟨_, getD_mem dm z61 i hlt, h⟩)⟩
                have HNo : Aside0 (badKind (dm.getD i z61) = false → (dm.take (i + 1)).any badKind = false) := ⟨fun h => any_take_succ badKind dm z61 i hlt HA.out h⟩
                have HK : Aside0 (∀ x, badKind x = (x.f2.toList.isEmpty && ((x.f1.length : Int) != 1) && ((x.f1.length : Int) != 2))) := ⟨fun _ => rfl⟩
                rw [HK.out] at HYes HNo
                generalize dm.getD i z61 = x at hy1 hy2 HYes HNo
                cases g1 : x.f2.toList.isEmpty <;> cases g2 : ((x.f1.length : Int) != 1) <;> cases g3 : ((x.f1.length : Int) != 2)
                all_goals rw [g1, g2, g3] at HYes HNo
                all_goals
                  first
                    | (have HE := Aside0.mk (HYes.out rfl)
                       go_wp2_with fail
                       go_ret
                       exact ⟨ret_int HE.out.symm, below_step HB0.out HB.out⟩)
                    | (have HA2 := Aside0.mk (HNo.out rfl)
                       go_wp2_with fail
                       go_roundw
                       case rel => exact ⟨i + 1, by first | rfl | go_num, by omega, HA2, HB⟩
                       case measure => simp [intOf]; omega)
              · have hltz : ¬ (i : Int) < (dm.length : Int) := by omega
                have HKind : Aside0 (dm.any badKind = false) := ⟨by have := HA.out; rwa [List.take_of_length_le (by omega)] at this⟩
                clear HA
                go_wp2_with fail
                go_loopw [8] (fun t wr => ∃ i : Nat, t = .int .i64 i ∧ i ≤ dm.length ∧ Aside0 ((dm.take i).any (badData cl) = false) ∧ Aside0 (Below w1.heap.size w1 wr)) (fun t _ => dm.length - (intOf t).toNat)
                case atStart => exact ⟨0, rfl, Nat.zero_le _, ⟨rfl⟩, HB⟩
                case round =>
                  clear HB hltz hi hlt
                  obtain ⟨i, rfl, hi, HA, HB⟩ := hrel
                  by_cases hlt : i < dm.length
                  · have hltz : (i : Int) < (dm.length : Int) := by omega
                    obtain ⟨ad, A1, c1, e, hy0, hy1, hy2, hl1, hi1⟩ := at_T61 (HRd.out _ HB.out) i (by omega) (by omega)
                    subst e
                    have hrd : rd_T61 dm i = dm.getD i z61 := by simp [rd_T61]
                    rw [hrd] at hy0 hy2
                    simp only [Int.toNat_natCast] at hy0 hy2
                    clear hy1 hl1 hi1 hrd
                    have HYes : Aside0 (badData cl (dm.getD i z61) = true → decChk cl dm ex = 11) := ⟨fun h => st_data HPre.out HPair.out HKind.out (List.any_eq_true.2 ⟨_, getD_mem dm z61 i hlt, h⟩)⟩
                    have HNo : Aside0 (badData cl (dm.getD i z61) = false → (dm.take (i + 1)).any (badData cl) = false) := ⟨fun h => any_take_succ (badData cl) dm z61 i hlt HA.out h⟩
                    have HK : Aside0 (∀ x, badData cl x = ((hk x.f0 != 0) || (!x.f2.toList.isEmpty && !(cls cl x.f0 == 0)))) := ⟨fun _ => rfl⟩
                    rw [HK.out] at HYes HNo
                    generalize dm.getD i z61 = x at hy0 hy2 HYes HNo
                    have HKd : Aside0 (∀ W, Calls Tryz.prog 39 #[.int .i64 x.f0] W fun e w' => e = .returned (.int .i64 (hk x.f0)) ∧ Below W.heap.size W w') := ⟨fun W => (refKind_any _ W).mono fun e w' ⟨q1, q2⟩ => ⟨q1, by rw [q2]; exact Below.refl _ _⟩⟩
                    have HCl : Aside0 (∀ W, Below w1.heap.size w1 W → Calls Tryz.prog 20 #[.slice Ac cl.length cc, .int .i64 x.f0] W fun e w' => e = .returned (.int .i64 (cls cl x.f0)) ∧ Below W.heap.size W w') := ⟨fun W hW => refClass_any Ac cc cl x.f0 W (HRc.out W hW) (by omega)⟩
                    generalize hk x.f0 = kv at HKd HYes HNo
                    generalize cls cl x.f0 = cv at HCl HYes HNo
                    have ky0 := cell_regrown hy0
                    have ky2 := cell_regrown hy2
                    have kc0 := cell_regrown (HC0.out _ HB.out)
                    have hK := fun d os => HKd.out (grow (redrawn wr d) os)
                    have hC := fun d os => HCl.out (grow (redrawn wr d) os) (below_step HB.out (below_regrown wr d os))
                    clear hy0 hy2
                    cases g1 : (kv != 0) with
                    | true =>
                        have HE := Aside0.mk (HYes.out (by rw [g1]; rfl))
                        clear hC HCl
                        go_wp2_with fail
                        refine wp_region_quiet_below (by kernel_rfl) (by kernel_rfl) ?_
                        iterate 6 (quiet_step (exact Calls.regrown_of (hK _ _)))
                        repeat (go_big_quiet_step (fail))
                        refine wpQuiet_nil ?_
                        intro _ hw'
                        obtain ⟨⟨dq, osq⟩, hw''⟩ := hw'
                        subst hw''
                        have HB2 : Aside0 (Below w1.heap.size w1 (grow (redrawn wr dq) osq)) := ⟨below_step HB.out (below_regrown wr dq osq)⟩
                        clear ky0 ky2 kc0 hK
                        generalize grow (redrawn wr dq) osq = W2 at HB2 ⊢
                        go_wp2_with fail
                        go_ret
                        exact ⟨ret_int HE.out.symm, below_step HB0.out HB2.out⟩
                    | false =>
                      cases g2 : x.f2.toList.isEmpty with
                      | true =>
                        have HA2 := Aside0.mk (HNo.out (by rw [g1, g2]; rfl))
                        clear hC HCl
                        go_wp2_with fail
                        refine wp_region_quiet_below (by kernel_rfl) (by kernel_rfl) ?_
                        iterate 6 (quiet_step (exact Calls.regrown_of (hK _ _)))
                        repeat (go_big_quiet_step (fail))
                        refine wpQuiet_nil ?_
                        intro _ hw'
                        obtain ⟨⟨dq, osq⟩, hw''⟩ := hw'
                        subst hw''
                        have HB2 : Aside0 (Below w1.heap.size w1 (grow (redrawn wr dq) osq)) := ⟨below_step HB.out (below_regrown wr dq osq)⟩
                        clear ky0 ky2 kc0 hK
                        generalize grow (redrawn wr dq) osq = W2 at HB2 ⊢
                        go_wp2_with fail
                        go_roundw
                        case rel => exact ⟨i + 1, by first | rfl | go_num, by omega, HA2, HB2⟩
                        case measure => simp [intOf]; omega
                      | false =>
                        cases g3 : (cv == 0) with
                        | true =>
                        have HA2 := Aside0.mk (HNo.out (by rw [g1, g2, g3]; rfl))
                        have g4 : (cv != 0) = false := by rw [bne, g3]; rfl
                        go_wp2_with fail
                        refine wp_region_quiet_below (by kernel_rfl) (by kernel_rfl) ?_
                        iterate 6 (quiet_step (exact Calls.regrown_of (hK _ _)))
                        repeat (quiet_step (exact Calls.regrown_of (hC _ _)))
                        refine wpQuiet_nil ?_
                        intro _ hw'
                        obtain ⟨⟨dq, osq⟩, hw''⟩ := hw'
                        subst hw''
                        have HB2 : Aside0 (Below w1.heap.size w1 (grow (redrawn wr dq) osq)) := ⟨below_step HB.out (below_regrown wr dq osq)⟩
                        clear ky0 ky2 kc0 hK hC
                        generalize grow (redrawn wr dq) osq = W2 at HB2 ⊢
                        go_wp2_with fail
                        go_roundw
                        case rel => exact ⟨i + 1, by first | rfl | go_num, by omega, HA2, HB2⟩
                        case measure => simp [intOf]; omega
                        | false =>
                        have HE := Aside0.mk (HYes.out (by rw [g1, g2, g3]; rfl))
                        have g4 : (cv != 0) = true := by rw [bne, g3]; rfl
                        go_wp2_with fail
                        refine wp_region_quiet_below (by kernel_rfl) (by kernel_rfl) ?_
                        iterate 6 (quiet_step (exact Calls.regrown_of (hK _ _)))
                        repeat (quiet_step (exact Calls.regrown_of (hC _ _)))
                        refine wpQuiet_nil ?_
                        intro _ hw'
                        obtain ⟨⟨dq, osq⟩, hw''⟩ := hw'
                        subst hw''
                        have HB2 : Aside0 (Below w1.heap.size w1 (grow (redrawn wr dq) osq)) := ⟨below_step HB.out (below_regrown wr dq osq)⟩
                        clear ky0 ky2 kc0 hK hC
                        generalize grow (redrawn wr dq) osq = W2 at HB2 ⊢
                        go_wp2_with fail
                        go_ret
                        exact ⟨ret_int HE.out.symm, below_step HB0.out HB2.out⟩
                  · have hltz : ¬ (i : Int) < (dm.length : Int) := by omega
                    have HPE : Aside0 (PreE cl dm ex) := ⟨st_pre HPre.out HPair.out HKind.out (by have := HA.out; rwa [List.take_of_length_le (by omega)] at this)⟩
                    have hkd := HRd.out _ HB.out
                    clear HA HKind HPair HPre
                    go_wp2_with fail
                    refine (refEnds_any Ad cd dm _ (HRd.out _ HB.out) hld (fun x hx => (HSM.out x hx).1)).mono ?_
                    rintro e w5 ⟨⟨ge, xe, rfl, hme, hfe⟩, hb5⟩
                    have HME := Aside0.mk hme
                    have HFE := Aside0.mk hfe
                    have HBs5 := Aside0.mk hb5
                    have HB5 := Aside0.mk (below_step HB.out hb5)
                    clear hme hfe hb5 hkd
                    go_wp2_with fail
                    go_loopw [10] (fun t wr => ∃ i : Nat, t = .int .i64 i ∧ i ≤ dm.length ∧ Aside0 (∀ j, j < i → xe.getD j false = true) ∧ Aside0 (Below w5.heap.size w5 wr)) (fun t _ => dm.length - (intOf t).toNat)
                    case atStart => exact ⟨0, rfl, Nat.zero_le _, ⟨fun j hj => by omega⟩, ⟨Below.refl _ _⟩⟩
                    case round =>
                      clear hltz hi hlt
                      obtain ⟨i, rfl, hi, HA, HB6⟩ := hrel
                      by_cases hlt : i < dm.length
                      · have hltz : (i : Int) < (dm.length : Int) := by omega
                        have hc := (MadeB.at (pw_own_below HME.out HB6.out) i hlt).1
                        have HFi : Aside0 (xe.getD i false = roundsE (chD dm) dm.length dm.length (fun _ => false) i) := ⟨congrFun HFE.out i⟩
                        have HA2 : Aside0 (xe.getD i false = true → ∀ j, j < i + 1 → xe.getD j false = true) := ⟨fun h j hj => by
                          by_cases hji : j < i
                          · exact HA.out j hji
                          · rw [show j = i by omega]; exact h⟩
                        have HE : Aside0 (xe.getD i false = false → decChk cl dm ex = 12) := ⟨fun h => st_ends HPE.out hlt (by rw [← HFi.out]; exact h)⟩
                        clear HFi
                        generalize xe.getD i false = b at hc HA2 HE
                        cases b with
                        | false =>
                          have HE3 := Aside0.mk (HE.out rfl)
                          clear HA2 HE
                          go_wp2_with fail
                          go_ret
                          exact ⟨ret_int HE3.out.symm, below_step HB0.out (below_step HB5.out HB6.out)⟩
                        | true =>
                          have HA3 := Aside0.mk (HA2.out rfl)
                          clear HA2 HE
                          go_wp2_with fail
                          go_roundw
                          case rel => exact ⟨i + 1, by first | rfl | go_num, by omega, HA3, HB6⟩
                          case measure => simp [intOf]; omega
                      · have hltz : ¬ (i : Int) < (dm.length : Int) := by omega
                        have HAll : Aside0 (AllEnds dm) := ⟨st_all HPE.out (fun j hj => by
                          rw [← HFE.out]; exact HA.out j (by omega))⟩
                        have HB7 := Aside0.mk (below_step HB5.out HB6.out)
                        clear HA HME HFE HBs5 HB5 HB6 HB
                        go_wp2_with fail
                        refine (refLengths_any Ad cd dm false _ (HRd.out _ HB7.out) hld (fun x hx => (HSM.out x hx).1)).mono ?_
                        rintro e w6 ⟨⟨ga, xa, rfl, hma, hfa⟩, hb6⟩
                        have HMA := Aside0.mk hma
                        have HFA := Aside0.mk hfa
                        have HB8 := Aside0.mk (below_step HB7.out hb6)
                        clear hma hfa hb6
                        go_wp2_with fail
                        refine (refLengths_any Ad cd dm true _ (HRd.out _ HB8.out) hld (fun x hx => (HSM.out x hx).1)).mono ?_
                        rintro e w7 ⟨⟨gb, xb, rfl, hmb, hfb⟩, hb7⟩
                        have HMA7 := Aside0.mk (MadeI.below HMA.out hb7)
                        have HMB := Aside0.mk hmb
                        have HFB := Aside0.mk hfb
                        have HB9 := Aside0.mk (below_step HB8.out hb7)
                        clear hmb hfb hb7
                        go_wp2_with fail
                        go_loopw [13] (fun t wr => ∃ i : Nat, t = .int .i64 i ∧ i ≤ dm.length ∧ Aside0 (∀ j, j < i → xa.getD j 0 ≤ 64 ∧ xb.getD j 0 ≤ 64) ∧ Aside0 (Below w7.heap.size w7 wr)) (fun t _ => dm.length - (intOf t).toNat)
                        case atStart => exact ⟨0, rfl, Nat.zero_le _, ⟨fun j hj => by omega⟩, ⟨Below.refl _ _⟩⟩
                        case round =>
                          clear hltz hi hlt
                          obtain ⟨i, rfl, hi, HA, HB6⟩ := hrel
                          by_cases hlt : i < dm.length
                          · have hltz : (i : Int) < (dm.length : Int) := by omega
                            have hca := (MadeI.at (MadeI.below HMA7.out HB6.out) i hlt).1
                            have hcb := (MadeI.at (MadeI.below HMB.out HB6.out) i hlt).1
                            have HA2 : Aside0 (xa.getD i 0 ≤ 64 → xb.getD i 0 ≤ 64 → ∀ j, j < i + 1 → xa.getD j 0 ≤ 64 ∧ xb.getD j 0 ≤ 64) := ⟨fun h h' j hj => by
                              by_cases hji : j < i
                              · exact HA.out j hji
                              · rw [show j = i by omega]; exact ⟨h, h'⟩⟩
                            have HE : Aside0 (64 < xa.getD i 0 ∨ 64 < xb.getD i 0 → decChk cl dm ex = 13) := ⟨fun h => by
                              rcases h with h | h
                              · exact st_long HPE.out HAll.out hlt false (by rw [← HFA.out]; exact h)
                              · exact st_long HPE.out HAll.out hlt true (by rw [← HFB.out]; exact h)⟩
                            generalize xa.getD i 0 = va at hca HA2 HE
                            generalize xb.getD i 0 = vb at hcb HA2 HE
                            by_cases ha : 64 < va
                            · have HE3 := Aside0.mk (HE.out (.inl ha))
                              clear HA2 HE hcb
                              go_wp2_with fail
                              go_ret
                              exact ⟨ret_int HE3.out.symm, below_step HB0.out (below_step HB9.out HB6.out)⟩
                            · have gda : decide (64 < va) = false := decide_eq_false ha
                              by_cases hb : 64 < vb
                              · have HE3 := Aside0.mk (HE.out (.inr hb))
                                clear HA2 HE
                                go_wp2_with fail
                                go_ret
                                exact ⟨ret_int HE3.out.symm, below_step HB0.out (below_step HB9.out HB6.out)⟩
                              · have HA3 := Aside0.mk (HA2.out (by omega) (by omega))
                                have gdb : decide (64 < vb) = false := decide_eq_false hb
                                clear HA2 HE
                                go_wp2_with fail
                                go_roundw
                                case rel => exact ⟨i + 1, by first | rfl | go_num, by omega, HA3, HB6⟩
                                case measure => simp [intOf]; omega
                          · have hltz : ¬ (i : Int) < (dm.length : Int) := by omega
                            have HE : Aside0 (decChk cl dm ex = 0) := ⟨st_ok HPE.out HAll.out (fun j hj cp => by
                              cases cp with
                              | false => rw [← HFA.out]; exact (HA.out j (by omega)).1
                              | true => rw [← HFB.out]; exact (HA.out j (by omega)).2)⟩
                            go_wp2_with fail
                            go_ret
                            exact ⟨ret_int HE.out.symm, below_step HB0.out (below_step HB9.out HB6.out)⟩
    · have HE := Aside0.mk (dec_map (ex := ex) h0 h1)
      have hne : (mapChkO dm != 0) = true := by simpa using h1
      clear h0 h1
      go_wp2_with fail
      go_ret
      exact ⟨ret_int HE.out.symm, below_step HB0.out HB3.out⟩
  · have HE := Aside0.mk (dec_ord (dm := dm) (ex := ex) h0)
    have hne : (ordChk cl != 0) = true := by simpa using h0
    clear h0
    go_wp2_with fail
    go_ret
    exact ⟨ret_int HE.out.symm, below_step HB0.out HB2.out⟩
end Go.Proofs.YtipedgkampafjaaGreatDoor.Rf
/- Tells what the reference's Equal and Small tell. -/
namespace Go.Proofs.YtipedgkampafjaaGreatDoor.Rf
open Go.Shelf Go.RowKit Go.Proofs.YtipedgkampafjaaGreatDoorW.PrintWords Go.Proofs.YtipedgkampafjaaGreatDoorW.PrintLast Go.Proofs.YtipedgkampafjaaGreatDoorW.PrintMore

theorem take_next {a b : List Int} {j : Nat} (ha : j < a.length) (hb : j < b.length) (h : a.take j = b.take j) : a.take (j + 1) = b.take (j + 1) ↔ a.getD j 0 = b.getD j 0 := by
  rw [List.take_succ_eq_append_getElem ha, List.take_succ_eq_append_getElem hb, h, List.getD_eq_getElem?_getD, List.getD_eq_getElem?_getD, List.getElem?_eq_getElem ha, List.getElem?_eq_getElem hb]
  exact ⟨fun h => by simpa using List.append_cancel_left h, fun h => by simp only [Option.getD_some] at h; rw [h]⟩

set_option maxRecDepth 100000 in
set_option maxHeartbeats 8000000 in
theorem refCompare_any (A B : Option Addr) (ca cb : Nat) (a b : List Int) (w : World) (ha : Kd.C (Kd.int .i64) w A a.length a) (hb : Kd.C (Kd.int .i64) w B b.length b) (hl : a.length ≤ 1000000000) (hl2 : b.length ≤ 1000000000) :
    Calls Tryz.prog 49 #[.slice A a.length ca, .slice B b.length cb] w fun e w' => (∃ v : Int, e = .returned (.int .i64 v) ∧ (v = 0 ↔ a = b)) ∧ Below w.heap.size w w' := by
  have HA := Aside0.mk ha
  have HB := Aside0.mk hb
  clear ha hb
  go_enter Tryz.func49, Tryz.ntmps49
  go_wp2_with fail
  go_loopw [5] (fun v wr => ∃ j : Nat, v = .int .i64 (j : Int) ∧ j ≤ a.length ∧ j ≤ b.length ∧ Aside0 (a.take j = b.take j) ∧ Aside0 (Below w.heap.size w wr)) (fun v _ => a.length - (intOf v).toNat)
  case atStart => exact ⟨0, rfl, by omega, by omega, ⟨rfl⟩, ⟨Below.refl _ _⟩⟩
  case round =>
    obtain ⟨j, rfl, hj, hj2, HE, HW⟩ := hrel
    by_cases hlt : j < a.length
    · by_cases hlt2 : j < b.length
      · obtain ⟨ad, e, hx0⟩ := ReadsInt.at_ (ReadsInt.of_C (Kd.C_below HA.out HW.out)) j (by omega) (by omega)
        obtain ⟨bd, e2, hy0⟩ := ReadsInt.at_ (ReadsInt.of_C (Kd.C_below HB.out HW.out)) j (by omega) (by omega)
        subst e; subst e2
        simp only [Int.toNat_natCast] at hx0 hy0
        have HT := Aside0.mk (take_next hlt hlt2 HE.out)
        have h1 : rd a (j : Int) = a.getD j 0 := by rw [rd, Int.toNat_natCast]
        have h2 : rd b (j : Int) = b.getD j 0 := by rw [rd, Int.toNat_natCast]
        rw [h1] at hx0
        rw [h2] at hy0
        have HNE : Aside0 (a.getD j 0 ≠ b.getD j 0 → a ≠ b) := ⟨fun h e => h (by rw [e])⟩
        clear h1 h2
        generalize a.getD j 0 = x at hx0 HT HNE
        generalize b.getD j 0 = y at hy0 HT HNE
        have hlz : (j : Int) < (a.length : Int) := by omega
        have hlz2 : (j : Int) < (b.length : Int) := by omega
        cases hxy : decide (x < y) with
        | true =>
          have HN : Aside0 (a ≠ b) := ⟨HNE.out (by have := of_decide_eq_true hxy; omega)⟩
          go_wp2_with fail
          go_quiet (fail)
          go_wp2_with fail
          go_ret
          exact ⟨⟨-1, rfl, ⟨fun h => by omega, fun h => absurd h HN.out⟩⟩, pw_below_drewN HW.out _⟩
        | false =>
          cases hyx : decide (y < x) with
          | true =>
            have HN : Aside0 (a ≠ b) := ⟨HNE.out (by have := of_decide_eq_true hyx; omega)⟩
            go_wp2_with fail
            go_quiet (fail)
            go_wp2_with fail
            go_quiet (fail)
            go_wp2_with fail
            go_ret
            exact ⟨⟨1, rfl, ⟨fun h => by omega, fun h => absurd h HN.out⟩⟩, pw_below_drewN (pw_below_drewN HW.out _) _⟩
          | false =>
            have HQ : Aside0 (a.take (j + 1) = b.take (j + 1)) := ⟨HT.out.2 (by have := of_decide_eq_false hxy; have := of_decide_eq_false hyx; omega)⟩
            go_wp2_with fail
            go_quiet (fail)
            go_wp2_with fail
            go_quiet (fail)
            go_wp2_with fail
            go_roundw
            case rel => exact ⟨j + 1, by first | rfl | go_num, by omega, by omega, HQ, ⟨by first | exact pw_below_drewN HW.out _ | exact pw_below_drewN (pw_below_drewN HW.out _) _⟩⟩
            case measure => simp [intOf]; omega
      · have HN : Aside0 (a ≠ b) := ⟨fun h => by rw [h] at hlt; omega⟩
        have hlz : (b.length : Int) < (a.length : Int) := by omega
        go_wp2_with fail
        go_ret
        exact ⟨⟨1, rfl, ⟨fun h => by omega, fun h => absurd h HN.out⟩⟩, HW.out⟩
    · by_cases hlt2 : a.length < b.length
      · have HN : Aside0 (a ≠ b) := ⟨fun h => by rw [h] at hlt2; omega⟩
        have hlz : (a.length : Int) < (b.length : Int) := by omega
        go_wp2_with fail
        go_ret
        exact ⟨⟨-1, rfl, ⟨fun h => by omega, fun h => absurd h HN.out⟩⟩, HW.out⟩
      · have HQ : Aside0 (a = b) := ⟨by
          have h := HE.out
          rwa [List.take_of_length_le (by omega), List.take_of_length_le (by omega)] at h⟩
        have hge : ¬ (b.length : Int) < (a.length : Int) := by omega
        go_wp2_with fail
        go_ret
        exact ⟨⟨0, rfl, ⟨fun _ => HQ.out, fun _ => rfl⟩⟩, HW.out⟩

set_option maxRecDepth 100000 in
set_option maxHeartbeats 8000000 in
theorem refEqual_any (A B : Option Addr) (ca cb : Nat) (a b : List Int) (w : World) (ha : Kd.C (Kd.int .i64) w A a.length a) (hb : Kd.C (Kd.int .i64) w B b.length b) (hl : a.length ≤ 1000000000) (hl2 : b.length ≤ 1000000000) :
    Calls Tryz.prog 23 #[.slice A a.length ca, .slice B b.length cb] w fun e w' => e = .returned (.bool (decide (a = b))) ∧ Below w.heap.size w w' := by
  have HC := Aside0.mk (refCompare_any A B ca cb a b w ha hb hl hl2)
  clear ha hb
  go_enter Tryz.func23, Tryz.ntmps23
  go_wp2_with fail
  refine HC.out.mono ?_
  rintro e w' ⟨⟨v, rfl, hv⟩, hb1⟩
  have HV : Aside0 (decide (a = b) = (v == 0)) := ⟨by rw [Bool.eq_iff_iff]; simp [hv]⟩
  clear hv
  go_wp2_with fail
  go_ret
  exact ⟨by rw [HV.out]; rfl, hb1⟩
end Go.Proofs.YtipedgkampafjaaGreatDoor.Rf
/- Tells what Small means for the lengths. -/
namespace Go.Proofs.YtipedgkampafjaaGreatDoor.Rf
open Go.Shelf Go.RowKit Go.Proofs.YtipedgkampafjaaGreatDoorW.PrintWords Go.Proofs.YtipedgkampafjaaGreatDoorW.PrintLast Go.Proofs.YtipedgkampafjaaGreatDoorW.PrintMore

/-- A Bool that, if true, says p. -/
def BoolImp (e : Ending) (p : Prop) : Prop := ∃ b, e = .returned (.bool b) ∧ (b = true → p)
set_option maxRecDepth 100000 in
set_option maxHeartbeats 8000000 in
theorem small11_any (A : Option Addr) (c : Nat) (xs : List S61) (w : World) (hr : Kd.C k61 w A xs.length xs) (hl : xs.length ≤ 9223372036854775807) :
    Calls Tryz.prog 27 #[.slice A xs.length c] w fun e w' => BoolImp e (xs.length ≤ 20) ∧ Below w.heap.size w w' := by
  have HR := Aside0.mk hr
  clear hr
  go_enter Tryz.func27, Tryz.ntmps27
  go_wp2_with fail
  go_loopw [3] (fun v wr => ∃ j : Nat, v = .int .i64 (j : Int) ∧ j ≤ 30 ∧ j ≤ xs.length ∧ Aside0 (Below w.heap.size w wr)) (fun v _ => 30 - (intOf v).toNat)
  case atStart => exact ⟨0, rfl, by omega, by omega, ⟨Below.refl _ _⟩⟩
  case round =>
    obtain ⟨j, rfl, hj, hj2, HB⟩ := hrel
    by_cases hlt : j < xs.length
    · by_cases h30 : j < 30
      · obtain ⟨ad, A1, c1, e, hx0, hx1, hx2, hl1, hi1⟩ := at_T61 (Kd.C_below HR.out HB.out) (j : Int) (by omega) (by omega)
        subst e
        clear hl1 hi1
        simp only [Int.toNat_natCast] at hx0 hx1 hx2
        generalize rd_T61 xs (j : Int) = x at hx0 hx1 hx2
        have hlz : (j : Int) < (xs.length : Int) := by omega
        cases h1 : decide ((65 : Int) < (x.f1.length : Int)) with
        | true =>
          go_wp2_with fail
          go_ret
          exact ⟨⟨false, rfl, fun h => by cases h⟩, HB.out⟩
        | false =>
          cases h2 : decide ((40 : Int) < (x.f2.size : Int)) with
          | true =>
            go_wp2_with fail
            go_ret
            exact ⟨⟨false, rfl, fun h => by cases h⟩, HB.out⟩
          | false =>
            go_wp2_with fail
            go_roundw
            case rel => exact ⟨j + 1, by first | rfl | go_num, by omega, by omega, HB⟩
            case measure => simp [intOf]; omega
      · have h30' : ¬ (j : Int) < 30 := by omega
        go_wp2_with fail
        go_ret
        exact ⟨⟨decide ((xs.length : Int) ≤ 20), rfl, fun h => by have := of_decide_eq_true h; omega⟩, HB.out⟩
    · go_wp2_with fail
      go_ret
      exact ⟨⟨decide ((xs.length : Int) ≤ 20), rfl, fun h => by have := of_decide_eq_true h; omega⟩, HB.out⟩

theorem small20_any (A : Option Addr) (c n : Nat) (w : World) : Calls Tryz.prog 26 #[.slice A n c] w fun e w' => e = .returned (.bool (decide ((n : Int) ≤ 16))) ∧ Below w.heap.size w w' := by
  go_enter Tryz.func26, Tryz.ntmps26
  go_wp2_with fail
  go_ret
  exact ⟨rfl, Below.refl _ _⟩
theorem small02_any (A : Option Addr) (c n : Nat) (w : World) : Calls Tryz.prog 28 #[.agg #[.slice A n c]] w fun e w' => e = .returned (.bool (decide ((n : Int) ≤ 12))) ∧ Below w.heap.size w w' := by
  go_enter Tryz.func28, Tryz.ntmps28
  go_wp2_with fail
  go_ret
  exact ⟨rfl, below_alloc (Below.refl _ _) _⟩

set_option maxRecDepth 100000 in
set_option maxHeartbeats 8000000 in
theorem small_any (Ac Ad Ax : Option Addr) (cc cd cx : Nat) (cl : List S71) (dm : List S61) (ex : List RR) (w : World)
    (hrd : Kd.C k61 w Ad dm.length dm) (hld : dm.length ≤ 9223372036854775807) :
    Calls Tryz.prog 8 #[.agg #[.slice Ac cl.length cc, .slice Ad dm.length cd, .slice Ax ex.length cx]] w fun e w' => BoolImp e (cl.length ≤ 16 ∧ dm.length ≤ 20 ∧ ex.length ≤ 12) ∧ Below w.heap.size w w' := by
  have HR := Aside0.mk hrd
  have HL := Aside0.mk hld
  clear hrd hld
  have hb : Below w.heap.size w (w.alloc (.cells #[.slice Ac cl.length cc, .slice Ad dm.length cd, .slice Ax ex.length cx] 28)) := below_alloc (Below.refl _ _) _
  have x1 : (w.alloc (.cells #[.slice Ac cl.length cc, .slice Ad dm.length cd, .slice Ax ex.length cx] 28)).cell? ⟨w.heap.size, 1, none⟩ = some (.slice Ad dm.length cd) := by simp
  have x2 : (w.alloc (.cells #[.slice Ac cl.length cc, .slice Ad dm.length cd, .slice Ax ex.length cx] 28)).cell? ⟨w.heap.size, 2, none⟩ = some (.slice Ax ex.length cx) := by simp
  have HB := Aside0.mk hb
  clear hb
  cases h1 : decide ((cl.length : Int) ≤ 16) with
  | false =>
    go_enter Tryz.func8, Tryz.ntmps8
    go_wp2_with fail
    refine (small20_any Ac cc cl.length _).mono ?_
    rintro e w1 ⟨rfl, hb1⟩
    rw [h1]
    go_wp2_with fail
    go_ret
    exact ⟨⟨false, rfl, fun h => by cases h⟩, below_step HB.out hb1⟩
  | true =>
    go_enter Tryz.func8, Tryz.ntmps8
    go_wp2_with fail
    refine (small20_any Ac cc cl.length _).mono ?_
    rintro e w1 ⟨rfl, hb1⟩
    rw [h1]
    have k1 : w1.cell? ⟨w.heap.size, 1, none⟩ = some (.slice Ad dm.length cd) := by rw [hb1.cell (cell_lt x1)]; exact x1
    have k2 : w1.cell? ⟨w.heap.size, 2, none⟩ = some (.slice Ax ex.length cx) := by rw [hb1.cell (cell_lt x2)]; exact x2
    have HB1 := Aside0.mk (below_step HB.out hb1)
    clear hb1
    go_wp2_with fail
    refine (small11_any Ad cd dm w1 (Kd.C_below HR.out HB1.out) HL.out).mono ?_
    rintro e w2 ⟨⟨b, rfl, hbt⟩, hb2⟩
    have HBT := Aside0.mk hbt
    have m2 : w2.cell? ⟨w.heap.size, 2, none⟩ = some (.slice Ax ex.length cx) := by rw [hb2.cell (cell_lt k2)]; exact k2
    have HB2 := Aside0.mk (below_step HB1.out hb2)
    clear hbt hb2
    cases b with
    | false =>
      go_wp2_with fail
      go_ret
      exact ⟨⟨false, rfl, fun h => by cases h⟩, HB2.out⟩
    | true =>
      go_wp2_with fail
      refine (small02_any Ax cx ex.length _).mono ?_
      rintro e w3 ⟨rfl, hb3⟩
      have HB3 := Aside0.mk (below_step HB2.out hb3)
      clear hb3
      go_wp2_with fail
      go_ret
      exact ⟨⟨decide ((ex.length : Int) ≤ 12), rfl, fun h => ⟨by have := of_decide_eq_true h1; omega, HBT.out (by simp), by first | (have := of_decide_eq_true h; omega) | (simp at h; omega)⟩⟩, HB3.out⟩
end Go.Proofs.YtipedgkampafjaaGreatDoor.Rf
/- The data of the chapter's first example. -/
namespace Go.Proofs.YtipedgkampafjaaGreatDoor.Rf
open Go.Shelf Go.RowKit Go.Proofs.YtipedgkampafjaaGreatDoorW.PrintWords Go.Proofs.YtipedgkampafjaaGreatDoorW.PrintLast Go.Proofs.YtipedgkampafjaaGreatDoorW.PrintMore

def dm1 : S61 := ⟨226, [97, 770], ⟨#[]⟩⟩
def dm2 : S61 := ⟨7845, [226, 769], ⟨#[]⟩⟩
def dmA : List S61 := [dm1, dm2]

theorem lastA (c : Int) : lastM dmA c = if c = 7845 then some dm2 else if c = 226 then some dm1 else none := by
  show lastM ([dm1] ++ [dm2]) c = _
  rw [lastM_snoc]
  show (if c = 7845 then _ else lastM ([] ++ [dm1]) c) = _
  rw [lastM_snoc]
  rfl
theorem emptyA : dm1.f2.toList.isEmpty = true ∧ dm2.f2.toList.isEmpty = true := by
  constructor <;> (show (ByteArray.toList ⟨#[]⟩).isEmpty = true; rw [Lib.toList_data]; rfl)
theorem onceA (cp : Bool) (c : Int) : onceS dmA cp c = if hk c < 4 then (if c = 7845 then some [226, 769] else if c = 226 then some [97, 770] else none) else some (hdec c) := by
  unfold onceS
  rw [lastA]
  split
  · by_cases h1 : c = 7845
    · rw [if_pos h1, if_pos h1]; simp only [emptyA.2]; rfl
    · rw [if_neg h1, if_neg h1]
      by_cases h2 : c = 226
      · rw [if_pos h2, if_pos h2]; simp only [emptyA.1]; rfl
      · rw [if_neg h2, if_neg h2]
  · rfl
theorem leafA (cp : Bool) {c : Int} (h : hk c < 4) (h1 : c ≠ 7845) (h2 : c ≠ 226) : onceS dmA cp c = none := by
  rw [onceA, if_pos h, if_neg h1, if_neg h2]
theorem once226 (cp : Bool) : onceS dmA cp 226 = some [97, 770] := by rw [onceA, if_pos (by decide)]; rfl
theorem once7845 (cp : Bool) : onceS dmA cp 7845 = some [226, 769] := by rw [onceA, if_pos (by decide)]; rfl
theorem endLeaf (cp : Bool) {c : Int} (h : hk c < 4) (h1 : c ≠ 7845) (h2 : c ≠ 226) : Ends dmA cp c :=
  Acc.intro c fun y ⟨tl, hy, _⟩ => by rw [leafA cp h h1 h2] at hy; cases hy
theorem end226 (cp : Bool) : Ends dmA cp 226 := Acc.intro _ fun y ⟨tl, hy, hm⟩ => by
  rw [once226] at hy
  cases hy
  simp only [List.mem_cons, List.not_mem_nil, or_false] at hm
  rcases hm with rfl | rfl
  · exact endLeaf cp (by decide) (by decide) (by decide)
  · exact endLeaf cp (by decide) (by decide) (by decide)
theorem end7845 (cp : Bool) : Ends dmA cp 7845 := Acc.intro _ fun y ⟨tl, hy, hm⟩ => by
  rw [once7845] at hy
  cases hy
  simp only [List.mem_cons, List.not_mem_nil, or_false] at hm
  rcases hm with rfl | rfl
  · exact end226 cp
  · exact endLeaf cp (by decide) (by decide) (by decide)
theorem keysA {c : Int} {m : S61} (h : lastM dmA c = some m) : c = 7845 ∨ c = 226 := by
  rw [lastA] at h
  by_cases h1 : c = 7845
  · exact Or.inl h1
  · rw [if_neg h1] at h
    by_cases h2 : c = 226
    · exact Or.inr h2
    · rw [if_neg h2] at h; cases h
theorem allEndsA : AllEnds dmA := fun c m h => by
  rcases keysA h with rfl | rfl
  · exact end7845 true
  · exact end226 true
theorem shortA (cp : Bool) : ¬ TooLong dmA cp := by
  rintro ⟨L, hL, c, m, h, h2⟩
  have l97 : L 97 = 1 := hL.1 _ (leafA cp (by decide) (by decide) (by decide))
  have l770 : L 770 = 1 := hL.1 _ (leafA cp (by decide) (by decide) (by decide))
  have l769 : L 769 = 1 := hL.1 _ (leafA cp (by decide) (by decide) (by decide))
  have l226 : L 226 = 2 := by rw [hL.2.1 226 _ (once226 cp)]; simp [sat, l97, l770]; omega
  have l7845 : L 7845 = 3 := by rw [hL.2.1 7845 _ (once7845 cp)]; simp [sat, l226, l769]; omega
  rcases keysA h with rfl | rfl <;> omega
theorem mapA : mapChkO dmA = 0 := by
  have h1 : dmA.any badCodes = false := by decide
  have h2 : dmA.any badSize = false := by decide
  have h3 : dmA.any badName = false := by simp [dmA, badName, emptyA.1, emptyA.2]
  have h4 : twice (dmA.map keyM) = false := by
    simp [dmA, twice, keyM, hasB, dm1, dm2]
  have h5 : mapChk dmA = 0 := by unfold mapChk; rw [h1, h2, h3, h4]; rfl
  have h6 : sortedB ltMap dmA = true := by
    have : ordM dm2 dm1 = 1 := by
      unfold ordM orI
      rw [show cmpI dm2.f0 dm1.f0 = 1 by decide]
      rfl
    simp [dmA, sortedB, pairAny, ltMap, this]
  unfold mapChkO
  rw [h5, h6]; rfl
theorem kindsA : kindsE [] dmA = 0 := by
  have h1 : pairAny sameFrom dmA = false := by decide
  have h2 : dmA.any badKind = false := by simp [dmA, badKind, dm1, dm2]
  have h3 : dmA.any (badData []) = false := by
    simp only [dmA, List.any_cons, List.any_nil, badData, emptyA.1, emptyA.2, Bool.not_true, Bool.false_and, Bool.or_false]
    decide
  unfold kindsE; rw [h1, h2, h3]; rfl
theorem chkA : decChk [] dmA [] = 0 := by
  unfold decChk
  rw [if_neg (by decide), if_neg (by rw [mapA]; decide), if_neg (by decide), if_neg (by rw [kindsA]; decide), if_neg (fun h => h allEndsA), if_neg (fun h => h.elim (shortA true) (shortA false))]
theorem vdmA : vdm [] dmA [] = dmA := by unfold vdm; rw [if_pos chkA]
theorem goodA : Good dmA := by have := vdm_good [] dmA []; rwa [vdmA] at this
theorem fullA1 : fullS (vdm [] dmA []) false 7845 = [97, 770, 769] := by
  rw [vdmA]
  have h := goodA.full false
  have l97 := h.1 97 (leafA false (by decide) (by decide) (by decide))
  have l770 := h.1 770 (leafA false (by decide) (by decide) (by decide))
  have l769 := h.1 769 (leafA false (by decide) (by decide) (by decide))
  rw [h.2.1 7845 _ (once7845 false)]
  simp only [List.flatMap_cons, List.flatMap_nil, l769, h.2.1 226 _ (once226 false), l97, l770]
  rfl
theorem fullA2 : fullS (vdm [] dmA []) true 44033 = [4352, 4449, 4520] := by
  rw [vdmA]
  have h := goodA.full true
  have l0 := h.1 4352 (leafA true (by decide) (by decide) (by decide))
  have l1 := h.1 4449 (leafA true (by decide) (by decide) (by decide))
  have l2 := h.1 4520 (leafA true (by decide) (by decide) (by decide))
  have ho : onceS dmA true 44033 = some [4352, 4449, 4520] := by rw [onceA, if_neg (by decide)]; rfl
  rw [h.2.1 44033 _ ho]
  simp only [List.flatMap_cons, List.flatMap_nil, l0, l1, l2]
  rfl
end Go.Proofs.YtipedgkampafjaaGreatDoor.Rf
