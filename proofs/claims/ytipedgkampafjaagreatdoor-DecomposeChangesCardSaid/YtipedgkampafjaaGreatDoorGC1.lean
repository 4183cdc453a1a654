import Derived.Test.YtipedgkampafjaaGreatDoorRf0
import Derived.Handy
import Derived.Outline
import Derived.Lib.Hide
import Derived.Shelf.Abstract
import Derived.StillTailTactics
import Derived.IntWalk
import Derived.Lib.Strings
import Derived.Lib.Bytealg
import Derived.Test.YtipedgkampafjaaGreatDoorSh
import Derived.Maps.RangeWalk
import Derived.Maps.OwnSet
import Derived.DeepKeys4
import Derived.Below
import Derived.Laws.RangeString
namespace Go.Proofs.YtipedgkampafjaaGreatDoor.Rf
open Go.RowKit Go.Proofs.YtipedgkampafjaaGreatDoorW.PrintWords Go.Proofs.YtipedgkampafjaaGreatDoorW.PrintLast Go.Proofs.YtipedgkampafjaaGreatDoorW.PrintMore

/-- The kind of a code point. -/
def hk (c : Int) : Int :=
  if 44032 ≤ c ∧ c < 55204 then (if (c - 44032) % 28 = 0 then 4 else 5)
  else if 4352 ≤ c ∧ c < 4371 then 1 else if 4449 ≤ c ∧ c < 4470 then 2 else if 4520 ≤ c ∧ c < 4547 then 3 else 0

theorem ret_int {k : IntKind} {a b : Int} (h : a = b) : Ending.returned (.int k a) = .returned (.int k b) := by rw [h]

theorem index_in (c from_ n : Int) (w : World) (h0 : 0 ≤ from_) (hn : 0 ≤ n) (hb : from_ + n ≤ 1000000) (h1 : from_ ≤ c) (h2 : c < from_ + n) :
    Calls Tryz.prog 85 #[.int .i64 c, .int .i64 from_, .int .i64 n] w fun e w' => e = .returned (.int .i64 (c - from_)) ∧ w = w' := by
  go_enter Tryz.func85, Tryz.ntmps85
  go_wp2
  go_ret
  exact ⟨rfl, rfl⟩
theorem index_out (c from_ n : Int) (w : World) (h0 : 0 ≤ from_) (hn : 0 ≤ n) (hb : from_ + n ≤ 1000000) (h : c < from_ ∨ from_ + n ≤ c) :
    Calls Tryz.prog 85 #[.int .i64 c, .int .i64 from_, .int .i64 n] w fun e w' => e = .returned (.int .i64 (-1)) ∧ w = w' := by
  rcases h with h | h
  · go_enter Tryz.func85, Tryz.ntmps85
    go_wp2
    go_ret
    exact ⟨rfl, rfl⟩
  · by_cases h' : c < from_
    · go_enter Tryz.func85, Tryz.ntmps85
      go_wp2
      go_ret
      exact ⟨rfl, rfl⟩
    · go_enter Tryz.func85, Tryz.ntmps85
      go_wp2
      go_ret
      exact ⟨rfl, rfl⟩

def hix (c f n : Int) : Int := if f ≤ c ∧ c < f + n then c - f else -1
theorem index_any (c from_ n : Int) (w : World) (h0 : 0 ≤ from_) (hn : 0 ≤ n) (hb : from_ + n ≤ 1000000) :
    Calls Tryz.prog 85 #[.int .i64 c, .int .i64 from_, .int .i64 n] w fun e w' => e = .returned (.int .i64 (hix c from_ n)) ∧ w = w' := by
  by_cases h : from_ ≤ c ∧ c < from_ + n
  · refine (index_in c from_ n w h0 hn hb h.1 h.2).mono ?_
    rintro e w' ⟨rfl, rfl⟩
    exact ⟨by rw [hix, if_pos h], rfl⟩
  · refine (index_out c from_ n w h0 hn hb (by omega)).mono ?_
    rintro e w' ⟨rfl, rfl⟩
    exact ⟨by rw [hix, if_neg h], rfl⟩

set_option maxHeartbeats 4000000 in
theorem kind_syl (c : Int) (w : World) (h1 : 44032 ≤ c) (h2 : c < 55204) :
    Calls Tryz.prog 60 #[.int .i64 c] w fun e w' => e = .returned (.int .i64 (hk c)) ∧ Below w.heap.size w w' := by
  by_cases h : (c - 44032) % 28 = 0
  all_goals
    go_enter Tryz.func60, Tryz.ntmps60
    go_wp2_with (go_at_call 85; refine (index_in c 44032 11172 _ (by omega) (by omega) (by omega) (by omega) (by omega)).mono ?_; rintro e w' ⟨rfl, rfl⟩)
    go_ret
    exact ⟨ret_int (by unfold hk; rw [if_pos ⟨h1, h2⟩]; simp [h]), Below.refl _ _⟩

theorem hix_in (c f n : Int) (h : f ≤ c ∧ c < f + n) : hix c f n = c - f := if_pos h
theorem hix_out (c f n : Int) (h : ¬ (f ≤ c ∧ c < f + n)) : hix c f n = -1 := if_neg h

theorem kidx0 (w : World) : (Instr.index 114 (.agg #[.int .i64 4352, .int .i64 19, .int .i64 4449, .int .i64 21, .int .i64 4520, .int .i64 27]) (.int .i64 0)).run Tryz.prog w = .ok (.agg #[.int .i64 4352, .int .i64 19]) w := by kernel_rfl
theorem kidx1 (w : World) : (Instr.index 114 (.agg #[.int .i64 4352, .int .i64 19, .int .i64 4449, .int .i64 21, .int .i64 4520, .int .i64 27]) (.int .i64 1)).run Tryz.prog w = .ok (.agg #[.int .i64 4449, .int .i64 21]) w := by kernel_rfl
theorem kidx2 (w : World) : (Instr.index 114 (.agg #[.int .i64 4352, .int .i64 19, .int .i64 4449, .int .i64 21, .int .i64 4520, .int .i64 27]) (.int .i64 2)).run Tryz.prog w = .ok (.agg #[.int .i64 4520, .int .i64 27]) w := by kernel_rfl
set_option maxRecDepth 100000 in
set_option maxHeartbeats 4000000 in
theorem kind_lead (c : Int) (w : World) (h1 : 4352 ≤ c) (h2 : c < 4371) :
    Calls Tryz.prog 60 #[.int .i64 c] w fun e w' => e = .returned (.int .i64 (hk c)) ∧ Below w.heap.size w w' := by
  have e0 := hix_out c 44032 11172 (by omega)
  have e1 := hix_in c 4352 19 (by omega)
  have i0 := kidx0
  have i1 := kidx1
  have i2 := kidx2
  go_enter Tryz.func60, Tryz.ntmps60
  go_wp2_with (go_at_call 85; refine (index_any c _ _ _ (by omega) (by omega) (by omega)).mono ?_; rintro e w' ⟨rfl, rfl⟩)
  refine wp_loop_rounds 4 ?_
  rw [rounds_succ]
  go_wp2_with (go_at_call 85; refine (index_any c _ _ _ (by omega) (by omega) (by omega)).mono ?_; rintro e w' ⟨rfl, rfl⟩)
  go_ret
  exact ⟨ret_int (by unfold hk; rw [if_neg (by omega), if_pos ⟨h1, h2⟩]), by repeat (first | exact Below.refl _ _ | apply below_alloc | refine below_set ?_ (by simp))⟩
set_option maxRecDepth 100000 in
set_option maxHeartbeats 4000000 in
theorem kind_vowel (c : Int) (w : World) (h1 : 4449 ≤ c) (h2 : c < 4470) :
    Calls Tryz.prog 60 #[.int .i64 c] w fun e w' => e = .returned (.int .i64 (hk c)) ∧ Below w.heap.size w w' := by
  have e0 := hix_out c 44032 11172 (by omega)
  have e1 := hix_out c 4352 19 (by omega)
  have e2 := hix_in c 4449 21 (by omega)
  have i0 := kidx0
  have i1 := kidx1
  have i2 := kidx2
  go_enter Tryz.func60, Tryz.ntmps60
  go_wp2_with (go_at_call 85; refine (index_any c _ _ _ (by omega) (by omega) (by omega)).mono ?_; rintro e w' ⟨rfl, rfl⟩)
  refine wp_loop_rounds 4 ?_
  rw [rounds_succ]
  go_wp2_with (go_at_call 85; refine (index_any c _ _ _ (by omega) (by omega) (by omega)).mono ?_; rintro e w' ⟨rfl, rfl⟩)
  rw [rounds_succ]
  go_wp2_with (go_at_call 85; refine (index_any c _ _ _ (by omega) (by omega) (by omega)).mono ?_; rintro e w' ⟨rfl, rfl⟩)
  go_ret
  exact ⟨ret_int (by unfold hk; rw [if_neg (by omega), if_neg (by omega), if_pos ⟨h1, h2⟩]), by repeat (first | exact Below.refl _ _ | apply below_alloc | refine below_set ?_ (by simp))⟩
set_option maxRecDepth 100000 in
set_option maxHeartbeats 4000000 in
theorem kind_trail (c : Int) (w : World) (h1 : 4520 ≤ c) (h2 : c < 4547) :
    Calls Tryz.prog 60 #[.int .i64 c] w fun e w' => e = .returned (.int .i64 (hk c)) ∧ Below w.heap.size w w' := by
  have e0 := hix_out c 44032 11172 (by omega)
  have e1 := hix_out c 4352 19 (by omega)
  have e2 := hix_out c 4449 21 (by omega)
  have e3 := hix_in c 4520 27 (by omega)
  have i0 := kidx0
  have i1 := kidx1
  have i2 := kidx2
  go_enter Tryz.func60, Tryz.ntmps60
  go_wp2_with (go_at_call 85; refine (index_any c _ _ _ (by omega) (by omega) (by omega)).mono ?_; rintro e w' ⟨rfl, rfl⟩)
  refine wp_loop_rounds 4 ?_
  rw [rounds_succ]
  go_wp2_with (go_at_call 85; refine (index_any c _ _ _ (by omega) (by omega) (by omega)).mono ?_; rintro e w' ⟨rfl, rfl⟩)
  rw [rounds_succ]
  go_wp2_with (go_at_call 85; refine (index_any c _ _ _ (by omega) (by omega) (by omega)).mono ?_; rintro e w' ⟨rfl, rfl⟩)
  rw [rounds_succ]
  go_wp2_with (go_at_call 85; refine (index_any c _ _ _ (by omega) (by omega) (by omega)).mono ?_; rintro e w' ⟨rfl, rfl⟩)
  go_ret
  exact ⟨ret_int (by unfold hk; rw [if_neg (by omega), if_neg (by omega), if_neg (by omega), if_pos ⟨h1, h2⟩]), by repeat (first | exact Below.refl _ _ | apply below_alloc | refine below_set ?_ (by simp))⟩
set_option maxRecDepth 100000 in
set_option maxHeartbeats 4000000 in
theorem kind_none (c : Int) (w : World) (h1 : ¬ (44032 ≤ c ∧ c < 55204)) (h2 : ¬ (4352 ≤ c ∧ c < 4371)) (h3 : ¬ (4449 ≤ c ∧ c < 4470)) (h4 : ¬ (4520 ≤ c ∧ c < 4547)) :
    Calls Tryz.prog 60 #[.int .i64 c] w fun e w' => e = .returned (.int .i64 (hk c)) ∧ Below w.heap.size w w' := by
  have e0 := hix_out c 44032 11172 (by omega)
  have e1 := hix_out c 4352 19 (by omega)
  have e2 := hix_out c 4449 21 (by omega)
  have e3 := hix_out c 4520 27 (by omega)
  have i0 := kidx0
  have i1 := kidx1
  have i2 := kidx2
  go_enter Tryz.func60, Tryz.ntmps60
  go_wp2_with (go_at_call 85; refine (index_any c _ _ _ (by omega) (by omega) (by omega)).mono ?_; rintro e w' ⟨rfl, rfl⟩)
  refine wp_loop_rounds 4 ?_
  rw [rounds_succ]
  go_wp2_with (go_at_call 85; refine (index_any c _ _ _ (by omega) (by omega) (by omega)).mono ?_; rintro e w' ⟨rfl, rfl⟩)
  rw [rounds_succ]
  go_wp2_with (go_at_call 85; refine (index_any c _ _ _ (by omega) (by omega) (by omega)).mono ?_; rintro e w' ⟨rfl, rfl⟩)
  rw [rounds_succ]
  go_wp2_with (go_at_call 85; refine (index_any c _ _ _ (by omega) (by omega) (by omega)).mono ?_; rintro e w' ⟨rfl, rfl⟩)
  rw [rounds_succ]
  go_wp2_with (go_at_call 85; refine (index_any c _ _ _ (by omega) (by omega) (by omega)).mono ?_; rintro e w' ⟨rfl, rfl⟩)
  go_ret
  exact ⟨ret_int (by unfold hk; rw [if_neg h1, if_neg h2, if_neg h3, if_neg h4]), by repeat (first | exact Below.refl _ _ | apply below_alloc | refine below_set ?_ (by simp))⟩
theorem kind_any (c : Int) (w : World) :
    Calls Tryz.prog 60 #[.int .i64 c] w fun e w' => e = .returned (.int .i64 (hk c)) ∧ Below w.heap.size w w' := by
  by_cases h1 : 44032 ≤ c ∧ c < 55204
  · exact kind_syl c w h1.1 h1.2
  · by_cases h2 : 4352 ≤ c ∧ c < 4371
    · exact kind_lead c w h2.1 h2.2
    · by_cases h3 : 4449 ≤ c ∧ c < 4470
      · exact kind_vowel c w h3.1 h3.2
      · by_cases h4 : 4520 ≤ c ∧ c < 4547
        · exact kind_trail c w h4.1 h4.2
        · exact kind_none c w h1 h2 h3 h4
end Go.Proofs.YtipedgkampafjaaGreatDoor.Rf
namespace Go.Proofs.YtipedgkampafjaaGreatDoor.Rf
open Go.RowKit Go.Proofs.YtipedgkampafjaaGreatDoorW.PrintWords Go.Proofs.YtipedgkampafjaaGreatDoorW.PrintLast Go.Proofs.YtipedgkampafjaaGreatDoorW.PrintMore
theorem max2_mx (k k' : IntKind) (x y : Int) : Builtin.max2 (.int k x) (.int k' y) = pure (.int k (mx x y)) := max2_int k k' x y
theorem min2_mn (k k' : IntKind) (x y : Int) : Builtin.min2 (.int k x) (.int k' y) = pure (.int k (mn x y)) := min2_int k k' x y
attribute [local go_sem] max2_mx min2_mn max_two min_two max_three min_three max_four min_four
/-- The package-level variable ordering.ranges as its initialiser lays it. -/
def GL (w : World) : Prop :=
  w.cell? ⟨0, 0, none⟩ = some (.int .i64 4352) ∧ w.cell? ⟨0, 1, none⟩ = some (.int .i64 4370) ∧ w.cell? ⟨0, 2, none⟩ = some (.int .i64 4449) ∧ w.cell? ⟨0, 3, none⟩ = some (.int .i64 4469) ∧
  w.cell? ⟨0, 4, none⟩ = some (.int .i64 4520) ∧ w.cell? ⟨0, 5, none⟩ = some (.int .i64 4546) ∧ w.cell? ⟨0, 6, none⟩ = some (.int .i64 44032) ∧ w.cell? ⟨0, 7, none⟩ = some (.int .i64 55203)
theorem GL.below {w w1 : World} (h : GL w) (hb : Below w.heap.size w w1) : GL w1 := by
  obtain ⟨h0, h1, h2, h3, h4, h5, h6, h7⟩ := h
  exact ⟨pw_cell_below hb h0, pw_cell_below hb h1, pw_cell_below hb h2, pw_cell_below hb h3, pw_cell_below hb h4, pw_cell_below hb h5, pw_cell_below hb h6, pw_cell_below hb h7⟩
abbrev gtab : Value := .agg #[.int .i64 4352, .int .i64 4370, .int .i64 4449, .int .i64 4469, .int .i64 4520, .int .i64 4546, .int .i64 44032, .int .i64 55203]
theorem gidx0 (w : World) : (Instr.index 103 gtab (.int .i64 0)).run Tryz.prog w = .ok (.agg #[.int .i64 4352, .int .i64 4370]) w := by kernel_rfl
theorem gidx1 (w : World) : (Instr.index 103 gtab (.int .i64 1)).run Tryz.prog w = .ok (.agg #[.int .i64 4449, .int .i64 4469]) w := by kernel_rfl
theorem gidx2 (w : World) : (Instr.index 103 gtab (.int .i64 2)).run Tryz.prog w = .ok (.agg #[.int .i64 4520, .int .i64 4546]) w := by kernel_rfl
theorem gidx3 (w : World) : (Instr.index 103 gtab (.int .i64 3)).run Tryz.prog w = .ok (.agg #[.int .i64 44032, .int .i64 55203]) w := by kernel_rfl

/-- Does a span meet a range of Hangul parts or syllables? -/
def korR (s : S71) (lo hi : Int) : Bool := decide (mx s.f0 lo ≤ mn s.f1 hi)
def kor (s : S71) : Bool := korR s 4352 4370 || korR s 4449 4469 || korR s 4520 4546 || korR s 44032 55203
theorem hk_part (s : S71) (lo hi : Int) (h : korR s lo hi = true) (hr : (lo = 4352 ∧ hi = 4370) ∨ (lo = 4449 ∧ hi = 4469) ∨ (lo = 4520 ∧ hi = 4546) ∨ (lo = 44032 ∧ hi = 55203)) : (hk (mx s.f0 lo) == 0) = false := by
  have h' := of_decide_eq_true h
  have hm : lo ≤ mx s.f0 lo := by unfold mx; split <;> omega
  have hn : mn s.f1 hi ≤ hi := by unfold mn; split <;> omega
  generalize mx s.f0 lo = m at *
  generalize mn s.f1 hi = q at *
  unfold hk
  rw [beq_eq_false_iff_ne]
  rcases hr with ⟨rfl, rfl⟩ | ⟨rfl, rfl⟩ | ⟨rfl, rfl⟩ | ⟨rfl, rfl⟩ <;> (repeat' split) <;> omega

set_option maxRecDepth 100000 in
set_option maxHeartbeats 8000000 in
theorem korean_any (s : S71) (w : World) (hG : GL w) :
    Calls Tryz.prog 53 #[.agg #[.int .i64 s.f0, .int .i64 s.f1, .int .i64 s.f2]] w fun e w' => e = .returned (.bool (kor s)) ∧ Below w.heap.size w w' := by
  obtain ⟨h0, h1, h2, h3, h4, h5, h6, h7⟩ := hG
  have hz : 0 < w.heap.size := World.block_lt_of_cell? w _ h0
  have i0 := gidx0
  have i1 := gidx1
  have i2 := gidx2
  have i3 := gidx3
  by_cases hk0 : korR s 4352 4370 = true
  · have hq := hk_part s _ _ hk0 (by simp)
    have hd0 : decide (mx s.f0 4352 ≤ mn s.f1 4370) = true := hk0
    have Hk0 := Lib.hid hk0
    clear hk0
    go_enter Tryz.func53, Tryz.ntmps53
    go_wp2_with fail
    refine wp_loop_rounds 5 ?_
    rw [rounds_succ]
    go_wp2_with fail
    go_quiet (fail)
    go_wp2_with (go_at_call 60; refine (kind_any _ _).mono ?_; rintro e w' ⟨rfl, hb0⟩)
    go_ret
    exact ⟨by rw [kor]; simp [Hk0.out], below_step (by repeat (first | exact Below.refl _ _ | apply below_alloc | apply pw_below_drewN | refine below_set ?_ (by simp))) hb0⟩
  have hk0' := Bool.eq_false_iff.mpr hk0
  have hd0 : decide (mx s.f0 4352 ≤ mn s.f1 4370) = false := hk0'
  have Hk0 := Lib.hid hk0'
  clear hk0 hk0'
  by_cases hk1 : korR s 4449 4469 = true
  · have hq := hk_part s _ _ hk1 (by simp)
    have hd1 : decide (mx s.f0 4449 ≤ mn s.f1 4469) = true := hk1
    have Hk1 := Lib.hid hk1
    clear hk1
    go_enter Tryz.func53, Tryz.ntmps53
    go_wp2_with fail
    refine wp_loop_rounds 5 ?_
    rw [rounds_succ]
    go_wp2_with fail
    go_quiet (fail)
    go_wp2_with (go_at_call 60; refine (kind_any _ _).mono ?_; rintro e w' ⟨rfl, hb0⟩)
    rw [rounds_succ]
    go_wp2_with fail
    go_quiet (fail)
    go_wp2_with (go_at_call 60; refine (kind_any _ _).mono ?_; rintro e w' ⟨rfl, hb1⟩)
    go_ret
    exact ⟨by rw [kor]; simp [Hk0.out, Hk1.out], below_step (by repeat (first | exact Below.refl _ _ | apply below_alloc | apply pw_below_drewN | refine below_set ?_ (by simp))) hb1⟩
  have hk1' := Bool.eq_false_iff.mpr hk1
  have hd1 : decide (mx s.f0 4449 ≤ mn s.f1 4469) = false := hk1'
  have Hk1 := Lib.hid hk1'
  clear hk1 hk1'
  by_cases hk2 : korR s 4520 4546 = true
  · have hq := hk_part s _ _ hk2 (by simp)
    have hd2 : decide (mx s.f0 4520 ≤ mn s.f1 4546) = true := hk2
    have Hk2 := Lib.hid hk2
    clear hk2
    go_enter Tryz.func53, Tryz.ntmps53
    go_wp2_with fail
    refine wp_loop_rounds 5 ?_
    rw [rounds_succ]
    go_wp2_with fail
    go_quiet (fail)
    go_wp2_with (go_at_call 60; refine (kind_any _ _).mono ?_; rintro e w' ⟨rfl, hb0⟩)
    rw [rounds_succ]
    go_wp2_with fail
    go_quiet (fail)
    go_wp2_with (go_at_call 60; refine (kind_any _ _).mono ?_; rintro e w' ⟨rfl, hb1⟩)
    rw [rounds_succ]
    go_wp2_with fail
    go_quiet (fail)
    go_wp2_with (go_at_call 60; refine (kind_any _ _).mono ?_; rintro e w' ⟨rfl, hb2⟩)
    go_ret
    exact ⟨by rw [kor]; simp [Hk0.out, Hk1.out, Hk2.out], below_step (by repeat (first | exact Below.refl _ _ | apply below_alloc | apply pw_below_drewN | refine below_set ?_ (by simp))) hb2⟩
  have hk2' := Bool.eq_false_iff.mpr hk2
  have hd2 : decide (mx s.f0 4520 ≤ mn s.f1 4546) = false := hk2'
  have Hk2 := Lib.hid hk2'
  clear hk2 hk2'
  by_cases hk3 : korR s 44032 55203 = true
  · have hq := hk_part s _ _ hk3 (by simp)
    have hd3 : decide (mx s.f0 44032 ≤ mn s.f1 55203) = true := hk3
    have Hk3 := Lib.hid hk3
    clear hk3
    go_enter Tryz.func53, Tryz.ntmps53
    go_wp2_with fail
    refine wp_loop_rounds 5 ?_
    rw [rounds_succ]
    go_wp2_with fail
    go_quiet (fail)
    go_wp2_with (go_at_call 60; refine (kind_any _ _).mono ?_; rintro e w' ⟨rfl, hb0⟩)
    rw [rounds_succ]
    go_wp2_with fail
    go_quiet (fail)
    go_wp2_with (go_at_call 60; refine (kind_any _ _).mono ?_; rintro e w' ⟨rfl, hb1⟩)
    rw [rounds_succ]
    go_wp2_with fail
    go_quiet (fail)
    go_wp2_with (go_at_call 60; refine (kind_any _ _).mono ?_; rintro e w' ⟨rfl, hb2⟩)
    rw [rounds_succ]
    go_wp2_with fail
    go_quiet (fail)
    go_wp2_with (go_at_call 60; refine (kind_any _ _).mono ?_; rintro e w' ⟨rfl, hb3⟩)
    go_ret
    exact ⟨by rw [kor]; simp [Hk0.out, Hk1.out, Hk2.out, Hk3.out], below_step (by repeat (first | exact Below.refl _ _ | apply below_alloc | apply pw_below_drewN | refine below_set ?_ (by simp))) hb3⟩
  have hk3' := Bool.eq_false_iff.mpr hk3
  have hd3 : decide (mx s.f0 44032 ≤ mn s.f1 55203) = false := hk3'
  have Hk3 := Lib.hid hk3'
  clear hk3 hk3'
  go_enter Tryz.func53, Tryz.ntmps53
  go_wp2_with fail
  refine wp_loop_rounds 5 ?_
  rw [rounds_succ]
  go_wp2_with fail
  go_quiet (fail)
  go_wp2_with (go_at_call 60; refine (kind_any _ _).mono ?_; rintro e w' ⟨rfl, hb0⟩)
  rw [rounds_succ]
  go_wp2_with fail
  go_quiet (fail)
  go_wp2_with (go_at_call 60; refine (kind_any _ _).mono ?_; rintro e w' ⟨rfl, hb1⟩)
  rw [rounds_succ]
  go_wp2_with fail
  go_quiet (fail)
  go_wp2_with (go_at_call 60; refine (kind_any _ _).mono ?_; rintro e w' ⟨rfl, hb2⟩)
  rw [rounds_succ]
  go_wp2_with fail
  go_quiet (fail)
  go_wp2_with (go_at_call 60; refine (kind_any _ _).mono ?_; rintro e w' ⟨rfl, hb3⟩)
  rw [rounds_succ]
  go_wp2_with fail
  go_ret
  exact ⟨by rw [kor]; simp [Hk0.out, Hk1.out, Hk2.out, Hk3.out], by repeat (first | exact Below.refl _ _ | apply below_alloc | apply pw_below_drewN | refine below_set ?_ (by simp))⟩
end Go.Proofs.YtipedgkampafjaaGreatDoor.Rf
namespace Go.Proofs.YtipedgkampafjaaGreatDoor.Rf
open Go.RowKit Go.Proofs.YtipedgkampafjaaGreatDoorW.PrintWords Go.Proofs.YtipedgkampafjaaGreatDoorW.PrintLast Go.Proofs.YtipedgkampafjaaGreatDoorW.PrintMore

/-- The first place at which p holds, or -1. -/
def fst_ {α : Type} (p : α → Bool) : List α → Int → Int
  | [], _ => -1
  | x :: l, i => if p x = true then i else fst_ p l (i + 1)
theorem fst_ge {α : Type} (p : α → Bool) (l : List α) (i : Int) (hi : 0 ≤ i) : decide (0 ≤ fst_ p l i) = l.any p := by
  induction l generalizing i with
  | nil => simp [fst_]
  | cons x l ih =>
    unfold fst_
    cases hx : p x with
    | true => simp [hx, hi]
    | false => simp [hx]; simpa using ih (i + 1) (by omega)
/-- Behind k elements at which p fails. -/
theorem fst_skip {α : Type} (p : α → Bool) (l : List α) (k : Nat) (hk : k ≤ l.length) (h : (l.take k).any p = false) : fst_ p l 0 = fst_ p (l.drop k) k := by
  have : ∀ (l : List α) (i : Int) (k : Nat), (l.take k).any p = false → k ≤ l.length → fst_ p l i = fst_ p (l.drop k) (i + k) := by
    intro l i k
    induction k generalizing l i with
    | zero => intro _ _; simp
    | succ k ih =>
      intro h hk
      cases l with
      | nil => simp at hk
      | cons x l =>
        simp only [List.take_succ_cons, List.any_cons, Bool.or_eq_false_iff] at h
        rw [List.drop_succ_cons, fst_, if_neg (by simp [h.1]), ih l (i + 1) h.2 (by simpa using hk)]
        congr 1
        push_cast
        omega
  simpa using this l 0 k h hk
theorem fst_at {α : Type} (p : α → Bool) (l : List α) (d : α) (k : Nat) (hk : k < l.length) (h : (l.take k).any p = false) (hp : p (l.getD k d) = true) : fst_ p l 0 = k := by
  rw [fst_skip p l k (by omega) h, List.drop_eq_getElem_cons hk, fst_, if_pos (by simpa [List.getD_eq_getElem?_getD, List.getElem?_eq_getElem hk] using hp)]
theorem any_take_succ {α : Type} (p : α → Bool) (l : List α) (d : α) (k : Nat) (hk : k < l.length) (h : (l.take k).any p = false) (hp : p (l.getD k d) = false) : (l.take (k + 1)).any p = false := by
  rw [List.take_succ_eq_append_getElem hk, List.any_append, h]
  simpa [List.getD_eq_getElem?_getD, List.getElem?_eq_getElem hk] using hp

set_option maxRecDepth 100000 in
set_option maxHeartbeats 4000000 in
theorem idxSpan_ (p : S71 → Bool) (g : Nat) (cb : Array Value) (eg : ∀ args w, (callFunc g args).run Tryz.prog w = .ok (.enter g args) w) (A : Option Addr) (c : Nat) (xs : List S71) (w : World)
    (hr : Kd.C k71 w A xs.length xs) (hc : xs.length ≤ c) (hl : xs.length ≤ 9223372036854775807)
    (hp : ∀ (x : S71) (W : World), Below w.heap.size w W → Calls Tryz.prog g (#[.agg #[.int .i64 x.f0, .int .i64 x.f1, .int .i64 x.f2]] ++ cb) W fun e w' => e = .returned (.bool (p x)) ∧ Below W.heap.size W w') :
    Calls Tryz.prog 79 #[.slice A xs.length c, .func (.func g) #[] cb] w fun e w' => e = .returned (.int .i64 (fst_ p xs 0)) ∧ Below w.heap.size w w' := by
  have HP := Aside0.mk hp
  have HR := Aside0.mk hr
  clear hp hr hc
  go_enter Tryz.func79, Tryz.ntmps79
  go_wp2_with fail
  go_loopw [8] (fun v wr => ∃ k : Nat, v = .int .i64 k ∧ k ≤ xs.length ∧ Aside0 ((xs.take k).any p = false) ∧ Aside0 (Below w.heap.size w wr)) (fun v _ => xs.length - (intOf v).toNat)
  case atStart => exact ⟨0, rfl, Nat.zero_le _, ⟨rfl⟩, ⟨Below.refl _ _⟩⟩
  case round =>
    obtain ⟨k, rfl, hk, HA, HB⟩ := hrel
    by_cases hlt : k < xs.length
    · obtain ⟨ad, e, hx0, hx1, hx2⟩ := at_T71 (Kd.C_below HR.out HB.out) k (by omega) (by omega)
      subst e
      simp only [Int.toNat_natCast] at hx0 hx1 hx2
      have HP' := Aside0.mk (HP.out (rd_T71 xs k))
      cases hpx : p (rd_T71 xs k) with
      | true =>
        rw [hpx] at HP'
        have HPX := Lib.hid hpx
        clear hpx
        go_wp2_with fail
        refine (HP'.out _ HB.out).mono ?_
        rintro e w' ⟨rfl, hb1⟩
        go_wp2_with fail
        go_ret
        exact ⟨ret_int (fst_at p xs z71 k hlt HA.out HPX.out).symm, below_step HB.out hb1⟩
      | false =>
        rw [hpx] at HP'
        have HPX := Lib.hid hpx
        clear hpx
        go_wp2_with fail
        refine (HP'.out _ HB.out).mono ?_
        rintro e w' ⟨rfl, hb1⟩
        go_wp2_with fail
        go_roundw
        case rel => exact ⟨k + 1, by go_num, by omega, ⟨any_take_succ p xs z71 k hlt HA.out HPX.out⟩, ⟨below_step HB.out hb1⟩⟩
        case measure => simp [intOf]; omega
    · go_wp2_with fail
      go_ret
      exact ⟨ret_int (by have : k = xs.length := by omega
                         subst this; rw [fst_skip p xs _ (Nat.le_refl _) HA.out, List.drop_length]; rfl), HB.out⟩

set_option maxHeartbeats 4000000 in
theorem hasSpan_ (p : S71 → Bool) (g : Nat) (cb : Array Value) (eg : ∀ args w, (callFunc g args).run Tryz.prog w = .ok (.enter g args) w) (A : Option Addr) (c : Nat) (xs : List S71) (w : World)
    (hr : Kd.C k71 w A xs.length xs) (hc : xs.length ≤ c) (hl : xs.length ≤ 9223372036854775807)
    (hp : ∀ (x : S71) (W : World), Below w.heap.size w W → Calls Tryz.prog g (#[.agg #[.int .i64 x.f0, .int .i64 x.f1, .int .i64 x.f2]] ++ cb) W fun e w' => e = .returned (.bool (p x)) ∧ Below W.heap.size W w') :
    Calls Tryz.prog 52 #[.slice A xs.length c, .func (.func g) #[] cb] w fun e w' => e = .returned (.bool (xs.any p)) ∧ Below w.heap.size w w' := by
  have HC := Lib.hid (idxSpan_ p g cb eg A c xs w hr hc hl hp)
  have HF := Lib.hid (fst_ge p xs 0 (by omega))
  clear hr hc hl hp
  go_enter Tryz.func52, Tryz.ntmps52
  go_wp2_with (go_at_call 79; refine (HC.out).mono ?_; rintro e w' ⟨rfl, hb1⟩)
  go_ret
  exact ⟨by rw [← HF.out]; rfl, hb1⟩
end Go.Proofs.YtipedgkampafjaaGreatDoor.Rf
namespace Go.Proofs.YtipedgkampafjaaGreatDoor.Rf
open Go.Shelf Go.RowKit Go.Proofs.YtipedgkampafjaaGreatDoorW.PrintWords Go.Proofs.YtipedgkampafjaaGreatDoorW.PrintLast Go.Proofs.YtipedgkampafjaaGreatDoorW.PrintMore

/-- A span out of range. -/
def spBad (s : S71) : Bool := decide (s.f0 < 0) || decide (s.f1 < s.f0) || decide (1114111 < s.f1) || decide (s.f2 < 1) || decide (254 < s.f2)
/-- Two neighbours that are not in order. -/
def spAdj (a b : S71) : Bool := decide (b.f0 ≤ a.f1) || ((a.f1 + 1 == b.f0) && (a.f2 == b.f2))
/-- Some two neighbours for which p holds. -/
def pairAny {α : Type} (p : α → α → Bool) : List α → Bool
  | a :: b :: l => p a b || pairAny p (b :: l)
  | _ => false
/-- The first error of classes. -/
def ordChk (l : List S71) : Int := if l.any spBad = true then 1 else if pairAny spAdj l = true then 4 else if l.any kor = true then 11 else 0

theorem pairAny_snoc {α : Type} (p : α → α → Bool) (l : List α) (a b : α) : pairAny p (l ++ [a] ++ [b]) = (pairAny p (l ++ [a]) || p a b) := by
  induction l with
  | nil => simp [pairAny]
  | cons x l ih =>
    cases l with
    | nil => simp [pairAny]
    | cons y l => simp only [List.cons_append, pairAny] at ih ⊢; rw [ih, Bool.or_assoc]
theorem pairAny_take {α : Type} (p : α → α → Bool) (l : List α) (d : α) (k : Nat) (h0 : 0 < k) (hk : k < l.length) : pairAny p (l.take (k + 1)) = (pairAny p (l.take k) || p (l.getD (k - 1) d) (l.getD k d)) := by
  obtain ⟨j, rfl⟩ : ∃ j, k = j + 1 := ⟨k - 1, by omega⟩
  rw [List.take_succ_eq_append_getElem hk, List.take_succ_eq_append_getElem (by omega : j < l.length), pairAny_snoc]
  simp [List.getD_eq_getElem?_getD, List.getElem?_eq_getElem hk, List.getElem?_eq_getElem (show j < l.length by omega)]
theorem pairAny_prefix {α : Type} (p : α → α → Bool) (l : List α) (k : Nat) (h : pairAny p (l.take k) = true) : pairAny p l = true := by
  induction l generalizing k with
  | nil => simp [pairAny] at h
  | cons x l ih =>
    match k with
    | 0 => simp [pairAny] at h
    | 1 => simp [pairAny] at h
    | k + 2 =>
      cases l with
      | nil => simp [pairAny] at h
      | cons y l =>
        simp only [List.take_succ_cons, pairAny, Bool.or_eq_true] at h ⊢
        rcases h with h | h
        · exact .inl h
        · exact .inr (ih (k + 1) (by simpa using h))
theorem any_of_take {α : Type} (p : α → Bool) (l : List α) (d : α) (k : Nat) (hk : k < l.length) (hp : p (l.getD k d) = true) : l.any p = true := by
  rw [List.any_eq_true]
  refine ⟨l.getD k d, ?_, hp⟩
  rw [List.getD_eq_getElem?_getD, List.getElem?_eq_getElem hk]
  exact List.getElem_mem hk
theorem all_of_any {α : Type} (p : α → Bool) (l : List α) (d : α) (k : Nat) (hk : k < l.length) (h : l.any p = false) : p (l.getD k d) = false := by
  cases hp : p (l.getD k d) with
  | false => rfl
  | true => rw [any_of_take p l d k hk hp] at h; cases h
theorem spBad_no {s : S71} (h : spBad s = false) : 0 ≤ s.f0 ∧ s.f0 ≤ s.f1 ∧ s.f1 ≤ 1114111 ∧ 1 ≤ s.f2 ∧ s.f2 ≤ 254 := by
  unfold spBad at h
  simp at h
  omega

def ordering_Check.f (l : List S71) : Option Int := some (ordChk l)

set_option maxRecDepth 100000 in
set_option maxHeartbeats 8000000 in
theorem ordCheck_any (A : Option Addr) (c : Nat) (xs : List S71) (w : World) (hG : GL w) (hr : Kd.C k71 w A xs.length xs) (hc : xs.length ≤ c) (hl : xs.length ≤ 9223372036854775807) :
    Calls Tryz.prog 29 #[.slice A xs.length c] w fun e w' => e = .returned (.int .i64 (ordChk xs)) ∧ Below w.heap.size w w' := by
  have eg : ∀ args w, (callFunc 53 args).run Tryz.prog w = .ok (.enter 53 args) w := enters_of Tryz.func53 (by kernel_rfl) rfl
  have EG := Aside0.mk eg
  have HR := Aside0.mk hr
  have HC := Aside0.mk hc
  have HG := Aside0.mk hG
  clear hr hc hG eg
  go_enter Tryz.func29, Tryz.ntmps29
  go_wp2_with fail
  go_loopw [10, 4] (fun v _ wr => ∃ k : Nat, v = .int .i64 k ∧ k ≤ xs.length ∧ Aside0 ((xs.take k).any spBad = false) ∧ Aside0 (Below w.heap.size w wr)) (fun v _ _ => xs.length - (intOf v).toNat)
  case atStart => exact ⟨0, rfl, Nat.zero_le _, ⟨rfl⟩, ⟨Below.refl _ _⟩⟩
  case round =>
    obtain ⟨k, rfl, hk, HA, HB⟩ := hrel
    by_cases hlt : k < xs.length
    · obtain ⟨ad, e, hx0, hx1, hx2⟩ := at_T71 (Kd.C_below HR.out HB.out) k (by omega) (by omega)
      subst e
      simp only [Int.toNat_natCast] at hx0 hx1 hx2
      have HX : Aside0 (rd_T71 xs k = xs.getD k z71) := ⟨by simp [rd_T71]⟩
      generalize rd_T71 xs k = x at hx0 hx1 hx2 HX
      go_wp2_with fail
      all_goals first
        | (have hb : spBad x = true := (by unfold spBad; simp; omega)
           go_ret
           exact ⟨ret_int (by rw [ordChk, if_pos (any_of_take spBad xs z71 k hlt (by rw [← HX.out]; exact hb))]), by repeat (first | exact HB.out | apply below_alloc | apply pw_below_drewN)⟩)
        | (have hb : spBad x = false := (by unfold spBad; simp; omega)
           go_roundw
           case rel => exact ⟨k + 1, by go_num, by omega, ⟨any_take_succ spBad xs z71 k hlt HA.out (by rw [← HX.out]; exact hb)⟩, ⟨by repeat (first | exact HB.out | apply below_alloc | apply pw_below_drewN)⟩⟩
           case measure => simp [intOf]; omega)
    · have HN : Aside0 (xs.any spBad = false) := ⟨by
        have : k = xs.length := by omega
        subst this
        simpa using HA.out⟩
      clear HA
      go_wp2_with fail
      go_loopw [5, 6, 7] (fun v _ _ wr => ∃ k : Nat, v = .int .i64 k ∧ 1 ≤ k ∧ (k ≤ xs.length ∨ k = 1) ∧ Aside0 (pairAny spAdj (xs.take k) = false) ∧ Aside0 (Below w.heap.size w wr)) (fun v _ _ _ => xs.length - (intOf v).toNat)
      case atStart => exact ⟨1, rfl, Nat.le_refl _, .inr rfl, ⟨by cases xs <;> simp [pairAny]⟩, HB⟩
      case round =>
        rename_i wr0
        clear HB hk hlt
        obtain ⟨k, rfl, hk1, hk, HA, HB⟩ := hrel
        by_cases hlt : k < xs.length
        · have hb0 := spBad_no (all_of_any spBad xs z71 (k - 1) (by omega) HN.out)
          have hb1 := spBad_no (all_of_any spBad xs z71 k hlt HN.out)
          have HT := Aside0.mk (pairAny_take spAdj xs z71 k (by omega) hlt)
          obtain ⟨ad, e, hx0, hx1, hx2⟩ := at_T71 (Kd.C_below HR.out HB.out) ((k : Int) - 1) (by omega) (by omega)
          obtain ⟨ad', e', hy0, hy1, hy2⟩ := at_T71 (Kd.C_below HR.out HB.out) k (by omega) (by omega)
          subst e
          cases e'
          have hk' : ((k : Int) - 1).toNat = k - 1 := by omega
          have HX : Aside0 (rd_T71 xs ((k : Int) - 1) = xs.getD (k - 1) z71) := ⟨by simp [rd_T71, hk']⟩
          have HY : Aside0 (rd_T71 xs k = xs.getD k z71) := ⟨by simp [rd_T71]⟩
          rw [← HX.out] at hb0
          rw [← HY.out] at hb1
          simp only [Int.toNat_natCast, hk'] at hx0 hx1 hx2 hy0 hy1 hy2
          clear hk'
          have hz0 : (ad.add ((k - 1) * 3)).block < wr.heap.size := World.block_lt_of_cell? wr _ hx0
          have hz1 : (ad.add (k * 3)).block < wr.heap.size := World.block_lt_of_cell? wr _ hy0
          generalize rd_T71 xs ((k : Int) - 1) = x at hx0 hx1 hx2 HX hb0
          generalize rd_T71 xs k = y at hy0 hy1 hy2 HY hb1
          rw [← HX.out, ← HY.out] at HT
          have HQ := Aside0.mk (show spAdj x y = (decide (y.f0 ≤ x.f1) || ((x.f1 + 1 == y.f0) && (x.f2 == y.f2))) from rfl)
          cases h1 : decide (y.f0 ≤ x.f1) <;> cases h2 : (x.f1 + 1 == y.f0) <;> cases h3 : (x.f2 == y.f2)
          all_goals
            rw [h1, h2, h3] at HQ
            go_wp2_with fail
            go_region
            all_goals go_wp2_with fail
            all_goals first
              | (have hb : spAdj x y = true := HQ.out
                 go_ret
                 exact ⟨ret_int (by rw [ordChk, if_neg (by rw [HN.out]; simp), if_pos (pairAny_prefix spAdj xs (k + 1) (by rw [HT.out, hb, Bool.or_true]))]), by repeat (first | exact HB.out | apply below_alloc | apply pw_below_drewN | apply below_drew)⟩)
              | (have hb : spAdj x y = false := HQ.out
                 go_roundw
                 case rel => exact ⟨k + 1, by go_num, by omega, .inl (by omega), ⟨by rw [HT.out, hb, HA.out]; rfl⟩, ⟨by repeat (first | exact HB.out | apply below_alloc | apply pw_below_drewN | apply below_drew)⟩⟩
                 case measure => simp [intOf]; omega)
        · have HS : Aside0 (pairAny spAdj xs = false) := ⟨by
            rcases hk with hk | hk
            · have : k = xs.length := by omega
              subst this
              simpa using HA.out
            · subst hk
              match xs, hlt with
              | [], _ => rfl
              | [a], _ => rfl
              | a :: b :: l, h => simp at h⟩
          clear HA
          have HC3 := Lib.hid (hasSpan_ kor 53 #[] EG.out A c xs wr (Kd.C_below HR.out HB.out) HC.out hl (fun x W hb => korean_any x W ((HG.out.below HB.out).below hb)))
          have HF := Aside0.mk (show xs.any kor = true → ordChk xs = 11 from fun h => by rw [ordChk, if_neg (by rw [HN.out]; simp), if_neg (by rw [HS.out]; simp), if_pos h])
          have HF' := Aside0.mk (show xs.any kor = false → ordChk xs = 0 from fun h => by rw [ordChk, if_neg (by rw [HN.out]; simp), if_neg (by rw [HS.out]; simp), if_neg (by rw [h]; simp)])
          cases hko : xs.any kor with
          | true =>
            rw [hko] at HC3 HF
            clear hko
            go_wp2_with (go_at_call 52; refine (HC3.out).mono ?_; rintro e w' ⟨rfl, hb1⟩)
            go_ret
            exact ⟨ret_int (HF.out (by simp)).symm, below_step HB.out hb1⟩
          | false =>
            rw [hko] at HC3 HF'
            clear hko
            go_wp2_with (go_at_call 52; refine (HC3.out).mono ?_; rintro e w' ⟨rfl, hb1⟩)
            go_ret
            exact ⟨ret_int (HF'.out (by simp)).symm, below_step HB.out hb1⟩

theorem ordering_Check.calls (A0 : Option Addr) (c0 : Nat) (l0 : List S71) (r : Int) (w : World) (hG : GL w) (hr0 : Kd.C k71 w A0 l0.length l0) (hc0 : l0.length ≤ c0) (h : ordering_Check.f l0 = some r) (hl : l0.length ≤ 9223372036854775807) :
    Calls Tryz.prog 29 #[.slice A0 l0.length c0] w fun e w' => e = .returned (.int .i64 r) ∧ Below w.heap.size w w' := by
  obtain rfl := Option.some.inj h
  exact ordCheck_any A0 c0 l0 w hG hr0 hc0 hl
end Go.Proofs.YtipedgkampafjaaGreatDoor.Rf
namespace Go.Proofs.YtipedgkampafjaaGreatDoor.Rf
open Go.RowKit Go.Proofs.YtipedgkampafjaaGreatDoorW.PrintWords Go.Proofs.YtipedgkampafjaaGreatDoorW.PrintLast Go.Proofs.YtipedgkampafjaaGreatDoorW.PrintMore

theorem ReadsInt.of_C {w : World} {A : Option Addr} {xs : List Int} (h : Kd.C (Kd.int .i64) w A xs.length xs) : ReadsInt w .i64 A xs.length xs := Kd.reads_of_C (d := (0 : Int)) (h1 := fun _ => rfl) h

set_option maxRecDepth 100000 in
set_option maxHeartbeats 4000000 in
theorem idxMap_ (p : S61 → Bool) (g : Nat) (cb : Array Value) (eg : ∀ args w, (callFunc g args).run Tryz.prog w = .ok (.enter g args) w) (A : Option Addr) (c : Nat) (xs : List S61) (w : World)
    (hr : Kd.C k61 w A xs.length xs) (hc : xs.length ≤ c) (hl : xs.length ≤ 9223372036854775807)
    (hp : ∀ (x : S61) (A1 : Option Addr) (c1 : Nat) (W : World), x ∈ xs → x.f1.length ≤ c1 → (Kd.int .i64).C W A1 x.f1.length x.f1 → Below w.heap.size w W → Calls Tryz.prog g (#[.agg #[.int .i64 x.f0, .slice A1 x.f1.length c1, .string x.f2]] ++ cb) W fun e w' => e = .returned (.bool (p x)) ∧ Below W.heap.size W w') :
    Calls Tryz.prog 84 #[.slice A xs.length c, .func (.func g) #[] cb] w fun e w' => e = .returned (.int .i64 (fst_ p xs 0)) ∧ Below w.heap.size w w' := by
  have HP := Aside0.mk hp
  have HR := Aside0.mk hr
  clear hp hr hc
  go_enter Tryz.func84, Tryz.ntmps84
  go_wp2_with fail
  go_loopw [8] (fun v wr => ∃ k : Nat, v = .int .i64 k ∧ k ≤ xs.length ∧ Aside0 ((xs.take k).any p = false) ∧ Aside0 (Below w.heap.size w wr)) (fun v _ => xs.length - (intOf v).toNat)
  case atStart => exact ⟨0, rfl, Nat.zero_le _, ⟨rfl⟩, ⟨Below.refl _ _⟩⟩
  case round =>
    obtain ⟨k, rfl, hk, HA, HB⟩ := hrel
    by_cases hlt : k < xs.length
    · obtain ⟨ad, A1, c1, e, hx0, hx1, hx2, hl1, hi1⟩ := at_T61 (Kd.C_below HR.out HB.out) k (by omega) (by omega)
      subst e
      simp only [Int.toNat_natCast] at hx0 hx1 hx2
      have HP' := Aside0.mk (HP.out (rd_T61 xs k) A1 c1 wr (by rw [rd_T61, Int.toNat_natCast, List.getD_eq_getElem?_getD, List.getElem?_eq_getElem hlt]; exact List.getElem_mem hlt) hl1 hi1)
      clear hl1 hi1
      cases hpx : p (rd_T61 xs k) with
      | true =>
        rw [hpx] at HP'
        have HPX := Lib.hid hpx
        clear hpx
        go_wp2_with fail
        refine (HP'.out HB.out).mono ?_
        rintro e w' ⟨rfl, hb1⟩
        go_wp2_with fail
        go_ret
        exact ⟨ret_int (fst_at p xs z61 k hlt HA.out HPX.out).symm, below_step HB.out hb1⟩
      | false =>
        rw [hpx] at HP'
        have HPX := Lib.hid hpx
        clear hpx
        go_wp2_with fail
        refine (HP'.out HB.out).mono ?_
        rintro e w' ⟨rfl, hb1⟩
        go_wp2_with fail
        go_roundw
        case rel => exact ⟨k + 1, by go_num, by omega, ⟨any_take_succ p xs z61 k hlt HA.out HPX.out⟩, ⟨below_step HB.out hb1⟩⟩
        case measure => simp [intOf]; omega
    · go_wp2_with fail
      go_ret
      exact ⟨ret_int (by have : k = xs.length := by omega
                         subst this; rw [fst_skip p xs _ (Nat.le_refl _) HA.out, List.drop_length]; rfl), HB.out⟩

set_option maxHeartbeats 4000000 in
theorem hasMap_ (p : S61 → Bool) (g : Nat) (cb : Array Value) (eg : ∀ args w, (callFunc g args).run Tryz.prog w = .ok (.enter g args) w) (A : Option Addr) (c : Nat) (xs : List S61) (w : World)
    (hr : Kd.C k61 w A xs.length xs) (hc : xs.length ≤ c) (hl : xs.length ≤ 9223372036854775807)
    (hp : ∀ (x : S61) (A1 : Option Addr) (c1 : Nat) (W : World), x ∈ xs → x.f1.length ≤ c1 → (Kd.int .i64).C W A1 x.f1.length x.f1 → Below w.heap.size w W → Calls Tryz.prog g (#[.agg #[.int .i64 x.f0, .slice A1 x.f1.length c1, .string x.f2]] ++ cb) W fun e w' => e = .returned (.bool (p x)) ∧ Below W.heap.size W w') :
    Calls Tryz.prog 57 #[.slice A xs.length c, .func (.func g) #[] cb] w fun e w' => e = .returned (.bool (xs.any p)) ∧ Below w.heap.size w w' := by
  have HC := Lib.hid (idxMap_ p g cb eg A c xs w hr hc hl hp)
  have HF := Lib.hid (fst_ge p xs 0 (by omega))
  clear hr hc hl hp
  go_enter Tryz.func57, Tryz.ntmps57
  go_wp2_with (go_at_call 84; refine (HC.out).mono ?_; rintro e w' ⟨rfl, hb1⟩)
  go_ret
  exact ⟨by rw [← HF.out]; rfl, hb1⟩

set_option maxRecDepth 100000 in
set_option maxHeartbeats 4000000 in
theorem idxInt_ (p : Int → Bool) (g : Nat) (cb : Array Value) (eg : ∀ args w, (callFunc g args).run Tryz.prog w = .ok (.enter g args) w) (A : Option Addr) (c : Nat) (xs : List Int) (w : World)
    (hr : Kd.C (Kd.int .i64) w A xs.length xs) (hc : xs.length ≤ c) (hl : xs.length ≤ 9223372036854775807)
    (hp : ∀ (x : Int) (W : World), x ∈ xs → Below w.heap.size w W → Calls Tryz.prog g (#[.int .i64 x] ++ cb) W fun e w' => e = .returned (.bool (p x)) ∧ Below W.heap.size W w') :
    Calls Tryz.prog 87 #[.slice A xs.length c, .func (.func g) #[] cb] w fun e w' => e = .returned (.int .i64 (fst_ p xs 0)) ∧ Below w.heap.size w w' := by
  have HP := Aside0.mk hp
  have HR := Aside0.mk hr
  clear hp hr hc
  go_enter Tryz.func87, Tryz.ntmps87
  go_wp2_with fail
  go_loopw [8] (fun v wr => ∃ k : Nat, v = .int .i64 k ∧ k ≤ xs.length ∧ Aside0 ((xs.take k).any p = false) ∧ Aside0 (Below w.heap.size w wr)) (fun v _ => xs.length - (intOf v).toNat)
  case atStart => exact ⟨0, rfl, Nat.zero_le _, ⟨rfl⟩, ⟨Below.refl _ _⟩⟩
  case round =>
    obtain ⟨k, rfl, hk, HA, HB⟩ := hrel
    by_cases hlt : k < xs.length
    · obtain ⟨ad, e, hx0⟩ := ReadsInt.at_ (ReadsInt.of_C (Kd.C_below HR.out HB.out)) k (by omega) (by omega)
      subst e
      simp only [Int.toNat_natCast] at hx0
      have HP' := Aside0.mk (HP.out (rd xs k) wr (by rw [rd, Int.toNat_natCast, List.getD_eq_getElem?_getD, List.getElem?_eq_getElem hlt]; exact List.getElem_mem hlt))
      cases hpx : p (rd xs k) with
      | true =>
        rw [hpx] at HP'
        have HPX := Lib.hid hpx
        clear hpx
        go_wp2_with fail
        refine (HP'.out HB.out).mono ?_
        rintro e w' ⟨rfl, hb1⟩
        go_wp2_with fail
        go_ret
        exact ⟨ret_int (fst_at p xs (0 : Int) k hlt HA.out HPX.out).symm, below_step HB.out hb1⟩
      | false =>
        rw [hpx] at HP'
        have HPX := Lib.hid hpx
        clear hpx
        go_wp2_with fail
        refine (HP'.out HB.out).mono ?_
        rintro e w' ⟨rfl, hb1⟩
        go_wp2_with fail
        go_roundw
        case rel => exact ⟨k + 1, by go_num, by omega, ⟨any_take_succ p xs (0 : Int) k hlt HA.out HPX.out⟩, ⟨below_step HB.out hb1⟩⟩
        case measure => simp [intOf]; omega
    · go_wp2_with fail
      go_ret
      exact ⟨ret_int (by have : k = xs.length := by omega
                         subst this; rw [fst_skip p xs _ (Nat.le_refl _) HA.out, List.drop_length]; rfl), HB.out⟩

set_option maxHeartbeats 4000000 in
theorem hasInt_ (p : Int → Bool) (g : Nat) (cb : Array Value) (eg : ∀ args w, (callFunc g args).run Tryz.prog w = .ok (.enter g args) w) (A : Option Addr) (c : Nat) (xs : List Int) (w : World)
    (hr : Kd.C (Kd.int .i64) w A xs.length xs) (hc : xs.length ≤ c) (hl : xs.length ≤ 9223372036854775807)
    (hp : ∀ (x : Int) (W : World), x ∈ xs → Below w.heap.size w W → Calls Tryz.prog g (#[.int .i64 x] ++ cb) W fun e w' => e = .returned (.bool (p x)) ∧ Below W.heap.size W w') :
    Calls Tryz.prog 63 #[.slice A xs.length c, .func (.func g) #[] cb] w fun e w' => e = .returned (.bool (xs.any p)) ∧ Below w.heap.size w w' := by
  have HC := Lib.hid (idxInt_ p g cb eg A c xs w hr hc hl hp)
  have HF := Lib.hid (fst_ge p xs 0 (by omega))
  clear hr hc hl hp
  go_enter Tryz.func63, Tryz.ntmps63
  go_wp2_with (go_at_call 87; refine (HC.out).mono ?_; rintro e w' ⟨rfl, hb1⟩)
  go_ret
  exact ⟨by rw [← HF.out]; rfl, hb1⟩
end Go.Proofs.YtipedgkampafjaaGreatDoor.Rf
namespace Go.Proofs.YtipedgkampafjaaGreatDoor.Rf
open Go.Shelf Go.RowKit Go.Proofs.YtipedgkampafjaaGreatDoorW.PrintWords Go.Proofs.YtipedgkampafjaaGreatDoorW.PrintLast Go.Proofs.YtipedgkampafjaaGreatDoorW.PrintMore

def cmpI (a b : Int) : Int := if a < b then -1 else if b < a then 1 else 0
set_option maxHeartbeats 4000000 in
theorem cmpInt_any (a b : Int) (w : World) : Calls Tryz.prog 71 #[.int .i64 a, .int .i64 b] w fun e w' => e = .returned (.int .i64 (cmpI a b)) ∧ w = w' := by
  rcases Int.lt_trichotomy a b with h | h | h
  · go_enter Tryz.func71, Tryz.ntmps71
    go_wp2
    go_ret
    exact ⟨ret_int (by rw [cmpI, if_pos h]), rfl⟩
  · subst h
    go_enter Tryz.func71, Tryz.ntmps71
    go_wp2
    go_ret
    exact ⟨ret_int (by simp [cmpI]), rfl⟩
  · go_enter Tryz.func71, Tryz.ntmps71
    go_wp2
    go_ret
    exact ⟨ret_int (by rw [cmpI, if_neg (by omega), if_pos h]), rfl⟩

/-- Is a number a code point? -/
def validC (c : Int) : Bool := decide (0 ≤ c) && decide (c ≤ 1114111)
theorem cpValid_any (c : Int) (w : World) : Calls Tryz.prog 103 #[.int .i64 c] w fun e w' => e = .returned (.bool (validC c)) ∧ w = w' := by
  go_enter Tryz.func103, Tryz.ntmps103
  go_wp2
  all_goals
    go_ret
    exact ⟨by simp [validC]; omega, rfl⟩

def invalidC (c : Int) : Bool := !validC c
set_option maxHeartbeats 4000000 in
theorem codes1_any (c : Int) (W : World) : Calls Tryz.prog 102 #[.int .i64 c] W fun e w' => e = .returned (.bool (invalidC c)) ∧ Below W.heap.size W w' := by
  have HI := Lib.hid (show invalidC c = !validC c from rfl)
  cases hv : validC c with
  | true =>
    go_enter Tryz.func102, Tryz.ntmps102
    go_wp2_with (go_at_call 103; refine (cpValid_any c _).mono ?_; rintro e w' ⟨rfl, rfl⟩)
    go_ret
    exact ⟨by rw [HI.out, hv]; rfl, Below.refl _ _⟩
  | false =>
    go_enter Tryz.func102, Tryz.ntmps102
    go_wp2_with (go_at_call 103; refine (cpValid_any c _).mono ?_; rintro e w' ⟨rfl, rfl⟩)
    go_ret
    exact ⟨by rw [HI.out, hv]; rfl, Below.refl _ _⟩

theorem codes_any (A : Option Addr) (c : Nat) (xs : List Int) (w : World) (hr : Kd.C (Kd.int .i64) w A xs.length xs) (hc : xs.length ≤ c) (hl : xs.length ≤ 9223372036854775807) :
    Calls Tryz.prog 80 #[.slice A xs.length c] w fun e w' => e = .returned (.bool (xs.all validC)) ∧ Below w.heap.size w w' := by
  have eg : ∀ args w, (callFunc 102 args).run Tryz.prog w = .ok (.enter 102 args) w := enters_of Tryz.func102 (by kernel_rfl) rfl
  have HC := Lib.hid (hasInt_ invalidC 102 #[] eg A c xs w hr hc hl (fun x W _ _ => codes1_any x W))
  have HF := Lib.hid (show xs.all validC = !(xs.any invalidC) by rw [List.any_eq_not_all_not]; simp [invalidC])
  clear eg hr hc hl
  cases hv : xs.any invalidC with
  | true =>
    rw [hv] at HC HF
    go_enter Tryz.func80, Tryz.ntmps80
    go_wp2_with (go_at_call 63; refine (HC.out).mono ?_; rintro e w' ⟨rfl, hb1⟩)
    go_ret
    exact ⟨by rw [HF.out]; rfl, hb1⟩
  | false =>
    rw [hv] at HC HF
    go_enter Tryz.func80, Tryz.ntmps80
    go_wp2_with (go_at_call 63; refine (HC.out).mono ?_; rintro e w' ⟨rfl, hb1⟩)
    go_ret
    exact ⟨by rw [HF.out]; rfl, hb1⟩

def orI : List Int → Int
  | [] => 0
  | x :: l => if x = 0 then orI l else x
set_option maxRecDepth 100000 in
set_option maxHeartbeats 4000000 in
theorem cmpOr2 (A : Addr) (c : Nat) (x y : Int) (w : World) (h0 : w.cell? A = some (.int .i64 x)) (h1 : w.cell? ⟨A.block, A.off + 1, none⟩ = some (.int .i64 y)) :
    Calls Tryz.prog 82 #[.slice (some A) 2 c] w fun e w' => e = .returned (.int .i64 (orI [x, y])) ∧ Below w.heap.size w w' := by
  have HO := Lib.hid (show orI [x, y] = if x = 0 then (if y = 0 then 0 else y) else x from rfl)
  cases hx : (x == 0) with
  | false =>
    have hx' : x ≠ 0 := by simpa using hx
    go_enter Tryz.func82, Tryz.ntmps82
    go_wp2_with fail
    refine wp_loop_rounds 3 ?_
    rw [rounds_succ]
    go_wp2_with fail
    go_ret
    exact ⟨ret_int (by rw [HO.out, if_neg hx']), Below.refl _ _⟩
  | true =>
    obtain rfl : x = 0 := by simpa using hx
    clear hx
    cases hy : (y == 0) with
    | false =>
      have hy' : y ≠ 0 := by simpa using hy
      go_enter Tryz.func82, Tryz.ntmps82
      go_wp2_with fail
      refine wp_loop_rounds 3 ?_
      rw [rounds_succ]
      go_wp2_with fail
      rw [rounds_succ]
      go_wp2_with fail
      go_ret
      exact ⟨ret_int (by rw [HO.out]; simp [hy']), Below.refl _ _⟩
    | true =>
      obtain rfl : y = 0 := by simpa using hy
      clear hy
      go_enter Tryz.func82, Tryz.ntmps82
      go_wp2_with fail
      refine wp_loop_rounds 3 ?_
      rw [rounds_succ]
      go_wp2_with fail
      rw [rounds_succ]
      go_wp2_with fail
      rw [rounds_succ]
      go_wp2_with fail
      go_ret
      exact ⟨ret_int (by rw [HO.out]; simp), Below.refl _ _⟩

def cmpS (a b : ByteArray) : Int := Lib.compareBytes a.data.toList b.data.toList
def ordM (x y : S61) : Int := orI [cmpI x.f0 y.f0, cmpS x.f2 y.f2]
set_option maxRecDepth 100000 in
set_option maxHeartbeats 4000000 in
theorem mapOrder_any (x y : S61) (A1 A2 : Option Addr) (c1 c2 : Nat) (w : World)
    (hS : ∀ (a b : ByteArray) (w : World), Calls Tryz.prog 83 #[.string a, .string b] w fun e w' => e = .returned (.int .i64 (cmpS a b)) ∧ w = w') :
    Calls Tryz.prog 56 #[.agg #[.int .i64 x.f0, .slice A1 x.f1.length c1, .string x.f2], .agg #[.int .i64 y.f0, .slice A2 y.f1.length c2, .string y.f2]] w fun e w' => e = .returned (.int .i64 (ordM x y)) ∧ Below w.heap.size w w' := by
  have HS := Aside0.mk hS
  have HO := Lib.hid (show ordM x y = orI [cmpI x.f0 y.f0, cmpS x.f2 y.f2] from rfl)
  clear hS
  generalize x.f1.length = n1
  generalize y.f1.length = n2
  go_enter Tryz.func56, Tryz.ntmps56
  go_wp2_with fail
  obtain ⟨W, hW⟩ : ∃ W, (w.alloc (.cells #[.int .i64 x.f0, .slice A1 n1 c1, .string x.f2] 61)).alloc (.cells #[.int .i64 y.f0, .slice A2 n2 c2, .string y.f2] 61) = W := ⟨_, rfl⟩
  rw [hW]
  have hB : Below w.heap.size w W := by rw [← hW]; exact below_alloc (below_alloc (Below.refl _ _) _) _
  have x0 : W.cell? ⟨w.heap.size, 0, none⟩ = some (.int .i64 x.f0) := by rw [← hW]; simp
  have x2 : W.cell? ⟨w.heap.size, 2, none⟩ = some (.string x.f2) := by rw [← hW]; simp
  have y0 : W.cell? ⟨w.heap.size + 1, 0, none⟩ = some (.int .i64 y.f0) := by rw [← hW, show w.heap.size + 1 = (w.alloc (.cells #[.int .i64 x.f0, .slice A1 n1 c1, .string x.f2] 61)).heap.size by simp]; simp only [World.cell?_alloc_new]; rfl
  have y2 : W.cell? ⟨w.heap.size + 1, 2, none⟩ = some (.string y.f2) := by rw [← hW, show w.heap.size + 1 = (w.alloc (.cells #[.int .i64 x.f0, .slice A1 n1 c1, .string x.f2] 61)).heap.size by simp]; simp only [World.cell?_alloc_new]; rfl
  have HB := Aside0.mk hB
  clear hW hB
  refine wp_region_still_tail 10 (by kernel_rfl) (by kernel_rfl) ?_
  simp only [List.take_succ_cons, List.take_zero, List.drop_succ_cons, List.drop_zero]
  change wpStill _ _ W.drew _ _ _
  repeat still_step
  still_call ((cmpInt_any _ _ _).mono (by rintro e w' ⟨rfl, rfl⟩; exact ⟨rfl, rfl⟩))
  repeat still_step
  still_call ((HS.out _ _ _).mono (by rintro e w' ⟨rfl, rfl⟩; exact ⟨rfl, rfl⟩))
  refine wpStill_nil ?_
  go_wp2_with fail
  refine (cmpOr2 ⟨W.heap.size, 0, none⟩ _ (cmpI x.f0 y.f0) (cmpS x.f2 y.f2) _ (by simp) (by simp)).mono ?_
  rintro e w' ⟨rfl, hb1⟩
  go_wp2_with fail
  go_ret
  exact ⟨ret_int HO.out.symm, below_step (by repeat (first | exact HB.out | apply below_alloc | apply below_drew)) hb1⟩
/-- No neighbours out of order. -/
def sortedB {α : Type} (lt : α → α → Bool) (l : List α) : Bool := !pairAny (fun a b => lt b a) l
theorem pairAny_drop {α : Type} (p : α → α → Bool) (l : List α) (d : α) (k : Nat) (hk : k + 1 < l.length) : pairAny p (l.drop k) = (p (l.getD k d) (l.getD (k + 1) d) || pairAny p (l.drop (k + 1))) := by
  rw [List.drop_eq_getElem_cons (show k < l.length by omega), List.drop_eq_getElem_cons hk]
  simp [pairAny, List.getD_eq_getElem?_getD, List.getElem?_eq_getElem hk, List.getElem?_eq_getElem (show k < l.length by omega)]
theorem pairAny_drop_true {α : Type} (p : α → α → Bool) (l : List α) (k : Nat) (h : pairAny p (l.drop k) = true) : pairAny p l = true := by
  induction k generalizing l with
  | zero => simpa using h
  | succ k ih =>
    cases l with
    | nil => simp [pairAny] at h
    | cons x l =>
      have := ih l (by simpa using h)
      cases l with
      | nil => simp [pairAny] at this
      | cons y l => simp [pairAny, this]
theorem pairAny_short {α : Type} (p : α → α → Bool) (l : List α) (h : l.length ≤ 1) : pairAny p l = false := by
  match l, h with
  | [], _ => rfl
  | [a], _ => rfl
set_option maxRecDepth 100000 in
set_option maxHeartbeats 8000000 in
theorem mapSorted_any (A : Option Addr) (c : Nat) (xs : List S61) (w : World) (hr : Kd.C k61 w A xs.length xs) (hc : xs.length ≤ c) (hl : xs.length ≤ 9223372036854775807)
    (hS : ∀ (a b : ByteArray) (w : World), Calls Tryz.prog 83 #[.string a, .string b] w fun e w' => e = .returned (.int .i64 (cmpS a b)) ∧ w = w') :
    Calls Tryz.prog 55 #[.slice A xs.length c, .func (.func 56) #[] #[]] w fun e w' => e = .returned (.bool (sortedB (fun a b => decide (ordM a b < 0)) xs)) ∧ Below w.heap.size w w' := by
  have eg : ∀ args w, (callFunc 56 args).run Tryz.prog w = .ok (.enter 56 args) w := enters_of Tryz.func56 (by kernel_rfl) rfl
  have HR := Aside0.mk hr
  have HS := Aside0.mk hS
  clear hr hc hS
  go_enter Tryz.func55, Tryz.ntmps55
  go_wp2_with fail
  go_loopw [5] (fun v wr => ∃ j : Nat, v = .int .i64 ((j : Int) - 1) ∧ j ≤ xs.length ∧ Aside0 (pairAny (fun a b => decide (ordM b a < 0)) (xs.drop (j - 1)) = false) ∧ Aside0 (Below w.heap.size w wr)) (fun v _ => (intOf v).toNat)
  case atStart => exact ⟨xs.length, rfl, by omega, ⟨pairAny_short _ _ (by simp; omega)⟩, ⟨Below.refl _ _⟩⟩
  case round =>
    obtain ⟨j, rfl, hj, HA, HB⟩ := hrel
    by_cases hlt : 2 ≤ j
    · obtain ⟨i, rfl⟩ : ∃ i, j = i + 2 := ⟨j - 2, by omega⟩
      have ei : ((i + 2 : Nat) : Int) - 1 = (i : Int) + 1 := by omega
      rw [ei]
      clear ei
      obtain ⟨ad, A1, c1, e, hx0, hx1, hx2, hl1, hi1⟩ := at_T61 (Kd.C_below HR.out HB.out) ((i : Int) + 1) (by omega) (by omega)
      obtain ⟨ad', A2, c2, e', hy0, hy1, hy2, hl2, hi2⟩ := at_T61 (Kd.C_below HR.out HB.out) (i : Int) (by omega) (by omega)
      subst e
      cases e'
      clear hl1 hi1 hl2 hi2
      have HD := Aside0.mk (pairAny_drop (fun a b => decide (ordM b a < 0)) xs z61 i (by omega))
      have ei : ((i : Int) + 1).toNat = i + 1 := by omega
      have HX : Aside0 (rd_T61 xs ((i : Int) + 1) = xs.getD (i + 1) z61) := ⟨by rw [rd_T61, ei]⟩
      have HY : Aside0 (rd_T61 xs (i : Int) = xs.getD i z61) := ⟨rfl⟩
      simp only [ei, Int.toNat_natCast] at hx0 hx1 hx2 hy0 hy1 hy2
      clear ei
      generalize rd_T61 xs ((i : Int) + 1) = x at hx0 hx1 hx2 HX
      generalize rd_T61 xs (i : Int) = y at hy0 hy1 hy2 HY
      rw [← HX.out, ← HY.out] at HD
      have HO := Aside0.mk (mapOrder_any x y A1 A2 c1 c2 wr.drew HS.out)
      have p0 : (0 : Int) ≤ (i : Int) + 1 := by omega
      have p1 : (i : Int) + 1 < (xs.length : Int) := by omega
      have p2 : ((i : Int) + 1).toNat = i + 1 := by omega
      have p3 : (i : Int) < (xs.length : Int) := by omega
      have p4 : i < xs.length := by omega
      have p5 : i + 1 < xs.length := by omega
      have hw : IntKind.i64.wrap (i : Int) = (i : Int) := IntWalk.i64_in _ (by omega)
      cases ho : decide (ordM x y < 0) with
      | true =>
        have Ho := Lib.hid ho
        go_wp2_with fail
        refine wp_region_still_tail 10 (by kernel_rfl) (by kernel_rfl) ?_
        simp only [List.take_succ_cons, List.take_zero, List.drop_succ_cons, List.drop_zero]
        change wpStill _ _ wr.drew _ _ _
        repeat still_step
        refine wpStill_nil ?_
        go_wp2_with fail
        refine HO.out.mono ?_
        rintro e w' ⟨rfl, hb1⟩
        go_wp2_with fail
        go_ret
        exact ⟨by rw [sortedB, pairAny_drop_true _ xs i (by rw [HD.out, Ho.out, Bool.true_or])]; rfl, below_step (below_drew HB.out) hb1⟩
      | false =>
        have Ho := Lib.hid ho
        go_wp2_with fail
        refine wp_region_still_tail 10 (by kernel_rfl) (by kernel_rfl) ?_
        simp only [List.take_succ_cons, List.take_zero, List.drop_succ_cons, List.drop_zero]
        change wpStill _ _ wr.drew _ _ _
        repeat still_step
        refine wpStill_nil ?_
        go_wp2_with fail
        refine HO.out.mono ?_
        rintro e w' ⟨rfl, hb1⟩
        go_wp2_with fail
        go_roundw
        case rel => exact ⟨i + 1, by first | rfl | go_num, by omega, ⟨by have h := HD.out; rw [Ho.out, Bool.false_or] at h; exact h.trans HA.out⟩, ⟨below_step (below_drew HB.out) hb1⟩⟩
        case measure => simp [intOf]
    · have HN : Aside0 (sortedB (fun a b => decide (ordM a b < 0)) xs = true) := ⟨by
        have : j - 1 = 0 := by omega
        have h := HA.out
        rw [this] at h
        rw [sortedB]
        simpa using h⟩
      go_wp2_with fail
      go_ret
      exact ⟨by rw [HN.out]; rfl, HB.out⟩
end Go.Proofs.YtipedgkampafjaaGreatDoor.Rf
namespace Go.Proofs.YtipedgkampafjaaGreatDoor.Rf
open Go.Shelf Go.RowKit Go.Proofs.YtipedgkampafjaaGreatDoorW.PrintWords Go.Proofs.YtipedgkampafjaaGreatDoorW.PrintLast Go.Proofs.YtipedgkampafjaaGreatDoorW.PrintMore

theorem ret_bool {a b : Bool} (h : a = b) : Ending.returned (.bool a) = .returned (.bool b) := by rw [h]
/-- A character of a name. -/
def nameCh (n : Nat) : Bool := (decide (65 ≤ n) && decide (n ≤ 90)) || (decide (97 ≤ n) && decide (n ≤ 122)) || (decide (48 ≤ n) && decide (n ≤ 57)) || (n == 95)
def notNameCh (n : Nat) : Bool := !nameCh n
theorem strCmp_any (a b : ByteArray) (w : World) : Calls Tryz.prog 83 #[.string a, .string b] w fun e w' => e = .returned (.int .i64 (cmpS a b)) ∧ w = w' :=
  (Tryz.strings_Compare a b w).mono fun _ _ ⟨h1, h2⟩ => ⟨h1, h2.symm⟩

set_option maxRecDepth 100000 in
set_option maxHeartbeats 4000000 in
theorem isName1_any (w : World) : PredAt Tryz.prog 105 #[] encR notNameCh w := fun W r _ => by
  unfold FnGives
  have HI := Lib.hid (show notNameCh r = !((decide (65 ≤ r) && decide (r ≤ 90)) || (decide (97 ≤ r) && decide (r ≤ 122)) || (decide (48 ≤ r) && decide (r ≤ 57)) || (r == 95)) from rfl)
  generalize notNameCh r = b at HI ⊢
  go_enter Tryz.func105, Tryz.ntmps105
  go_wp2
  all_goals
    go_ret
    exact ⟨ret_bool (by rw [HI.out, Bool.eq_iff_iff]; simp; omega), 0, rfl⟩

/-- A name, as the program tells it. -/
def nameP (s : ByteArray) : Bool := !(s.toList.isEmpty || decide ((32 : Int) < (s.size : Int))) && !decide (0 ≤ Lib.idxFunc notNameCh true s)
set_option maxRecDepth 100000 in
set_option maxHeartbeats 4000000 in
theorem isName_any (s : ByteArray) (w : World) : Calls Tryz.prog 81 #[.string s] w fun e w' => e = .returned (.bool (nameP s)) ∧ Below w.heap.size w w' := by
  have eg : ∀ args w, (callFunc 105 args).run Tryz.prog w = .ok (.enter 105 args) w := enters_of Tryz.func105 (by kernel_rfl) rfl
  have HC := Aside0.mk (Tryz.strings_ContainsFunc 105 #[] eg notNameCh s w (isName1_any w))
  have HN := Aside0.mk (show nameP s = (!(s.toList.isEmpty || decide ((32 : Int) < (s.size : Int))) && !decide (0 ≤ Lib.idxFunc notNameCh true s)) from rfl)
  clear eg
  generalize decide (0 ≤ Lib.idxFunc notNameCh true s) = b at HC HN
  cases h1 : s.toList.isEmpty <;> cases h2 : decide ((32 : Int) < (s.size : Int)) <;> cases b
  all_goals
    rw [h1, h2] at HN
    go_enter Tryz.func81, Tryz.ntmps81
    go_wp2_with (go_at_call 104; refine (HC.out).mono ?_; rintro e w' ⟨rfl, hb1⟩)
    go_ret
    exact ⟨by rw [HN.out]; rfl, by first | assumption | exact Below.refl _ _⟩
end Go.Proofs.YtipedgkampafjaaGreatDoor.Rf
/- Maps as functions. -/
namespace Go.Proofs.YtipedgkampafjaaGreatDoor.Rf
open Go Go.RowKit Go.ChangeMaps Go.MapKept

/-- How an element reads: as itself. -/
def selfR : Value → Option (DataW Value × List MemPlace) := fun v => some (.held v, [])
/-- Block b is a map that holds f. -/
def MapF {α : Type} (P : Program) (k : TypeId) (enc : α → Value) (w : World) (b n : Nat) (f : α → Option Value) : Prop :=
  ∃ D : DataW Value, w.ownsMap P k selfR b n D ∧ ∀ (x : α) (kl : Lit), keyOf P k (enc x) = some kl → (Maps.has D kl = (f x).isSome ∧ ∀ v, f x = some v → ∀ z, D.atKey kl z = .held v)

variable {α : Type} {P : Program} {k : TypeId} {enc : α → Value} {w : World} {b n : Nat} {f : α → Option Value}

theorem MapF.made (w : World) (P : Program) (k : TypeId) (enc : α → Value) : MapF P k enc (w.alloc (.map #[] 0)) w.heap.size 0 (fun _ => none) :=
  ⟨_, World.ownsMap_made w P k selfR, fun x kl _ => ⟨by simp [Maps.has], fun v h => by cases h⟩⟩
theorem MapF.lt (h : MapF P k enc w b n f) : b < w.heap.size := by obtain ⟨D, h, _⟩ := h; exact h.lt
theorem MapF.kept {w' : World} {row : Option Nat} (h : MapF P k enc w b n f) (hg : w.grownBy w' row) (hne : some b ≠ row) : MapF P k enc w' b n f := by
  obtain ⟨D, h, h2⟩ := h; exact ⟨D, h.kept hg hne, h2⟩
theorem MapF.below {w' : World} {B : Nat} (h : MapF P k enc w b n f) (hb : Below B w w') (hB : b < B) : MapF P k enc w' b n f := by
  obtain ⟨D, ⟨es, clock, h1, h3⟩, h2⟩ := h
  exact ⟨D, ⟨es, clock, (hb.block b hB).trans h1, h3⟩, h2⟩
theorem MapF.alloc (h : MapF P k enc w b n f) (o : Obj) : MapF P k enc (w.alloc o) b n f := by obtain ⟨D, h, h2⟩ := h; exact ⟨D, h.alloc o, h2⟩
theorem MapF.drew (h : MapF P k enc w b n f) : MapF P k enc w.drew b n f := h
theorem MapF.mono (h : MapF P k enc w b n f) {n' : Nat} (hn : n ≤ n') : MapF P k enc w b n' f := by obtain ⟨D, h, h2⟩ := h; exact ⟨D, h.mono hn, h2⟩
theorem MapF.setCell (h : MapF P k enc w b n f) {a : Addr} (ha : b ≠ a.block) (u : Value) : MapF P k enc (w.setCell a u) b n f := by obtain ⟨D, h, h2⟩ := h; exact ⟨D, h.setCell ha u, h2⟩

theorem MapF.look {t e : TypeId} (h : MapF P k enc w b n f) (K : Maps.Keyed P k) (ht : P.underlying t = some (.map k e)) {z : Value} (hz : (zeroValue e).run P w = .ok z w) {x : α} {kl : Lit} (hkey : keyOf P k (enc x) = some kl) :
    (Instr.lookup t (.map (some b)) (enc x) false).run P w = .ok ((f x).getD z) w := by
  obtain ⟨D, h, h2⟩ := h
  have h3 := h2 x kl hkey
  obtain ⟨v, ps, hrun, hv⟩ := h.lookup K ht hz (zd := .held z) (zp := []) rfl hkey
  simp only [selfR, Option.some.injEq, Prod.mk.injEq] at hv
  cases hf : f x with
  | none =>
    rw [Maps.atKey_of_not_has (by rw [h3.1, hf]; rfl)] at hv
    cases hv.1; exact hrun
  | some u =>
    rw [h3.2 u hf] at hv
    cases hv.1; exact hrun

theorem MapF.lookOk {t e : TypeId} (h : MapF P k enc w b n f) (K : Maps.Keyed P k) (ht : P.underlying t = some (.map k e)) {z : Value} (hz : (zeroValue e).run P w = .ok z w) {x : α} {kl : Lit} (hkey : keyOf P k (enc x) = some kl) :
    (Instr.lookup t (.map (some b)) (enc x) true).run P w = .ok (.tuple #[(f x).getD z, .bool (f x).isSome]) w := by
  obtain ⟨D, h, h2⟩ := h
  have h3 := h2 x kl hkey
  obtain ⟨v, ps, hrun, hv⟩ := h.look_ok K ht hz (zd := .held z) (zp := []) rfl hkey
  simp only [selfR, Option.some.injEq, Prod.mk.injEq] at hv
  rw [h3.1] at hrun
  cases hf : f x with
  | none =>
    rw [Maps.atKey_of_not_has (by rw [h3.1, hf]; rfl)] at hv
    cases hv.1; rw [hf] at hrun; exact hrun
  | some u =>
    rw [h3.2 u hf] at hv
    cases hv.1; rw [hf] at hrun; exact hrun

theorem MapF.update [DecidableEq α] {t e : TypeId} (h : MapF P k enc w b n f) (K : Maps.Keyed P k) (hinj : ∀ x y, enc x = enc y → x = y) (ht : P.underlying t = some (.map k e)) (hn : n < maxLen) {x : α} {v : Value} {kl : Lit} (hkey : keyOf P k (enc x) = some kl) :
    ∃ w', (Instr.mapUpdate t (.map (some b)) (enc x) v).run P w = .ok () w' ∧ MapF P k enc w' b (n + 1) (fun y => if y = x then some v else f y) ∧ w.grownBy w' (some b) := by
  obtain ⟨D, h, h2⟩ := h
  obtain ⟨w', hrun, ho, hg⟩ := h.update (val := v) K ht hn hkey (d := .held v) (ps := []) rfl
  refine ⟨w', hrun, ⟨_, ho, fun y kl' hk' => ?_⟩, hg⟩
  by_cases hy : y = x
  · subst hy
    rw [hkey] at hk'; cases hk'
    refine ⟨by rw [Maps.has_put_same h.isMap (K.key hkey)]; simp, fun u hu z => ?_⟩
    simp only [if_pos] at hu; cases hu
    exact Maps.atKey_put_same h.isMap (K.key hkey) _ _
  · have hne : kl' ≠ kl := fun e => hy (hinj _ _ (K.inj (e ▸ hk') hkey))
    simp only [if_neg hy]
    refine ⟨by rw [Maps.has_put_other hne]; exact (h2 y kl' hk').1, fun u hu z => ?_⟩
    rw [Maps.atKey_put_other hne]
    exact (h2 y kl' hk').2 u hu z

theorem below_turned {B : Nat} {w0 w w' : World} {b : Nat} (h : Below B w0 w) (hg : w.grownBy w' (some b)) (hb : B ≤ b) (hb2 : b < w.heap.size) : Below B w0 w' :=
  h.grown hg (by omega) (fun k e => by cases e; exact hb)

/-! ### keys that are numbers -/
abbrev encI : Int → Value := fun x => .int .i64 x
theorem encI_inj (x y : Int) (h : encI x = encI y) : x = y := by cases h; rfl
theorem keyI {P : Program} {k : TypeId} (hk : P.underlying k = some (.int .i64)) {x : Int} (hx : -9223372036854775808 ≤ x ∧ x ≤ 9223372036854775807) : keyOf P k (encI x) = some (.int .i64 x) := Maps.keyOf_int_mk hk (by simp [Lit.wf, IntKind.min, IntKind.max, IntKind.signed, IntKind.bits]; omega)

/-! ### the range over a map whose keys are numbers -/
/-- The loop under way: left says which keys are still to come. -/
def RangeF (P : Program) (k : TypeId) (w : World) (b r n : Nat) (f : Int → Option Value) (left : Int → Bool) (cnt : Nat) : Prop :=
  ∃ D : DataW Value, ∃ lf : Lit → Bool, w.ranges P k selfR b r n D lf cnt ∧ (∀ x : Int, keyOf P k (encI x) = some (.int .i64 x) → (Maps.has D (.int .i64 x) = (f x).isSome ∧ lf (.int .i64 x) = left x ∧ ∀ v, f x = some v → ∀ z, D.atKey (.int .i64 x) z = .held v))

theorem keyI_inv {P : Program} {k : TypeId} (hk : P.underlying k = some (.int .i64)) {x : Int} {kl : Lit} (h : keyOf P k (encI x) = some kl) : kl = .int .i64 x ∧ (-9223372036854775808 ≤ x ∧ x ≤ 9223372036854775807) := by
  obtain ⟨y, h1, h2, h3⟩ := Maps.keyOf_int_inv hk h
  cases h1
  refine ⟨h2, ?_⟩
  simp [Lit.wf, IntKind.min, IntKind.max, IntKind.signed, IntKind.bits] at h3
  omega
section
variable {g : Int → Option Value} {left : Int → Bool} {r cnt : Nat}
theorem RangeF.map (hk : P.underlying k = some (.int .i64)) (h : RangeF P k w b r n g left cnt) : MapF P k encI w b n g := by
  obtain ⟨D, lf, h, h2⟩ := h
  refine ⟨D, h.owns, fun x kl hkl => ?_⟩
  obtain ⟨rfl, _⟩ := keyI_inv hk hkl
  exact ⟨(h2 x hkl).1, (h2 x hkl).2.2⟩
theorem RangeF.kept {w' : World} {row : Option Nat} (h : RangeF P k w b r n g left cnt) (hg : w.grownBy w' row) (hb' : some b ≠ row) (hr' : some r ≠ row) : RangeF P k w' b r n g left cnt := by
  obtain ⟨D, lf, h, h2⟩ := h; exact ⟨D, lf, h.kept hg hb' hr', h2⟩
theorem RangeF.lt (h : RangeF P k w b r n g left cnt) : b < w.heap.size ∧ r < w.heap.size ∧ r ≠ b := by
  obtain ⟨D, lf, h, h2⟩ := h; exact ⟨h.owns.lt, h.lt, h.ne⟩
theorem RangeF.below {w' : World} {B : Nat} (h : RangeF P k w b r n g left cnt) (hb : Below B w w') (hB : b < B) (hr : r < B) : RangeF P k w' b r n g left cnt := by
  obtain ⟨D, lf, ⟨es, clock, since, seen, c0, h1, F, hs, hD, hr', rest⟩, h2⟩ := h
  exact ⟨D, lf, ⟨es, clock, since, seen, c0, (hb.block b hB).trans h1, F, hs, hD, (hb.block r hr).trans hr', rest⟩, h2⟩
theorem RangeF.start {t e : TypeId} (hk : P.underlying k = some (.int .i64)) (h : MapF P k encI w b n g) (ht : P.underlying t = some (.map k e)) :
    ∃ w' cnt, (Instr.range t (.map (some b))).run P w = .ok (.pointer (some ⟨w.heap.size, 0, none⟩)) w' ∧ RangeF P k w' b w.heap.size n g (fun x => (g x).isSome) cnt ∧ w.grownBy w' none ∧ w'.heap.size = w.heap.size + 1 := by
  obtain ⟨D, h, h2⟩ := h
  obtain ⟨w', hrun, hr, hg, hs⟩ := h.range (Maps.int_keyed hk) ht
  exact ⟨w', _, hrun, ⟨D, _, hr, fun x hx => ⟨(h2 x _ hx).1, (h2 x _ hx).1, (h2 x _ hx).2⟩⟩, hg, hs⟩
theorem RangeF.next (hk : P.underlying k = some (.int .i64)) (h : RangeF P k w b r n g left cnt) (ty : TypeId) :
    ((∀ x : Int, (-9223372036854775808 ≤ x ∧ x ≤ 9223372036854775807) → left x = false) ∧ (Instr.next (.pointer (some ⟨r, 0, none⟩)) false ty).run P w = .ok (.tuple #[.bool false]) w) ∨
    ∃ x v w' cnt', (-9223372036854775808 ≤ x ∧ x ≤ 9223372036854775807) ∧ left x = true ∧ g x = some v ∧ (Instr.next (.pointer (some ⟨r, 0, none⟩)) false ty).run P w = .ok (.tuple #[.bool true, .int .i64 x, v]) w' ∧
      RangeF P k w' b r n g (fun y => left y && !(y == x)) cnt' ∧ cnt' < cnt ∧ w.grownBy w' (some r) ∧ w'.heap.size = w.heap.size ∧ (Instr.entry (.pointer (some ⟨r, 0, none⟩))).run P w' = .ok (.tuple #[.int .i64 x, v]) w' := by
  obtain ⟨D, lf, h, h2⟩ := h
  rcases h.next (Maps.int_keyed hk) ty with ⟨_, hl, hrun⟩ | ⟨key, v, kl, y, w', cnt', hkey, hlk, hv, hat, hrun, hrg, hlt, hgr, hsz, hen⟩
  · exact Or.inl ⟨fun x hx => by rw [← (h2 x (keyI hk hx)).2.1]; exact hl _, hrun⟩
  · obtain ⟨x, rfl, rfl, hwx⟩ := Maps.keyOf_int_inv hk hkey
    have h3 := h2 x hkey
    have hx := (keyI_inv hk hkey).2
    simp only [selfR, Option.some.injEq] at hv
    subst hv
    have hg : g x = some v := by
      cases hgx : g x with
      | none =>
        have h5 := hat (.held (.bool true))
        have h6 := hat (.held (.bool false))
        have h7 : Maps.has D (.int .i64 x) = false := by rw [h3.1, hgx]; rfl
        rw [Maps.atKey_of_not_has h7] at h5 h6
        rw [← h5] at h6; cases h6
      | some u => have := (h3.2.2 u hgx (.nil)).symm.trans (hat .nil); cases this; rfl
    refine Or.inr ⟨x, v, w', cnt', hx, by rw [← h3.2.1]; exact hlk, hg, hrun, ⟨D, _, hrg, fun y hy => ⟨(h2 y hy).1, ?_, (h2 y hy).2.2⟩⟩, hlt, hgr, hsz, hen⟩
    show (lf (.int .i64 y) && !(Lit.int .i64 y).sameKey (.int .i64 x)) = _
    rw [(h2 y hy).2.1]
    congr 2
    by_cases hyx : y = x
    · subst hyx; rw [WideAt.sameKey_self (show WideAt.IsKeyLit (Lit.int .i64 y) from trivial)]; simp
    · rw [Maps.sameKey_ne (by intro e; cases e; exact hyx rfl)]; simp [hyx]
end
end Go.Proofs.YtipedgkampafjaaGreatDoor.Rf
/- The keys of mappings in a map. -/
namespace Go.Proofs.YtipedgkampafjaaGreatDoor.Rf
open Go Go.WideMaps Go.Proofs.YtipedgkampafjaaGreatDoorW.PrintWords Go.Proofs.YtipedgkampafjaaGreatDoorW.PrintLast Go.Proofs.YtipedgkampafjaaGreatDoorW.PrintMore

set_option maxRecDepth 100000
theorem keyRow : (108 : TypeId) < Tryz.prog.types.size := of_decide_eq_true (by kernel_rfl)
theorem keyWide : (match Tryz.prog.underlying 108 with | some (.array _ _) | some (.struct _) => true | _ => false) = true := by rw [Tryz.underlying108]
theorem laidOutP : laidOutB Tryz.prog = true := by kernel_rfl
theorem keyed_key : Maps.Keyed Tryz.prog 108 := Maps.Keyed.of_law (deep_law_laid laidOutP (m := 2) (by omega) keyRow (by kernel_rfl) keyWide)
theorem keyed_int : Maps.Keyed Tryz.prog 3 := Maps.int_keyed Tryz.underlying3

def encM (k : Int × ByteArray) : Value := .agg #[.int .i64 k.1, .string k.2]
theorem encM_inj (x y : Int × ByteArray) (h : encM x = encM y) : x = y := by
  obtain ⟨a, b⟩ := x
  obtain ⟨c, d⟩ := y
  simp [encM] at h
  simp [h.1, h.2]
theorem keyM_of (k : Int × ByteArray) (h1 : -9223372036854775808 ≤ k.1 ∧ k.1 ≤ 9223372036854775807) (h2 : k.2.size ≤ maxLen) : ∃ kl, keyOf Tryz.prog 108 (encM k) = some kl := by
  have hkt : Tryz.prog.keyType 108 = true := by kernel_rfl
  have hsz : ∃ m, Tryz.prog.types.size = m + 2 := ⟨Tryz.prog.types.size - 2, by kernel_rfl⟩
  obtain ⟨m, hm⟩ := hsz
  have hw : (Lit.int .i64 k.1).wf = true := by simp [Lit.wf, IntKind.min, IntKind.max, IntKind.signed, IntKind.bits]; omega
  have hc : Tryz.prog.cellsOf 108 = 2 := by kernel_rfl
  have hci : Tryz.prog.cellsOf 3 = 1 := by kernel_rfl
  have hcs : Tryz.prog.cellsOf 9 = 1 := by kernel_rfl
  rw [← Option.isSome_iff_exists]
  unfold keyOf
  simp only [Tryz.underlying108]
  rw [if_pos (by simp [hkt, Value.formed, encM, Tryz.underlying108, hc]), hm]
  unfold Program.keyLits
  simp only [Tryz.underlying108, Value.cells, encM]
  rw [if_pos (by rw [hc]; simp)]
  simp [Program.keyLits, Tryz.underlying3, Tryz.underlying9, hci, hcs, hw, h2]
end Go.Proofs.YtipedgkampafjaaGreatDoor.Rf
/- Tells what mapping.check computes. -/
namespace Go.Proofs.YtipedgkampafjaaGreatDoor.Rf
open Go.Shelf Go.RowKit Go.Proofs.YtipedgkampafjaaGreatDoorW.PrintWords Go.Proofs.YtipedgkampafjaaGreatDoorW.PrintLast Go.Proofs.YtipedgkampafjaaGreatDoorW.PrintMore

theorem C_one {w : World} {A : Addr} {x : Int} (h : w.cell? A = some (.int .i64 x)) : (Kd.int .i64).C w (some A) 1 [x] :=
  Kd.C_of_reads (d := (0 : Int)) (h1 := fun _ => rfl) ⟨rfl, by omega, fun _ => ⟨A, rfl, fun j hj => by
    obtain rfl : j = 0 := by omega
    simpa [Addr.add] using h⟩⟩
theorem codesOne (A : Addr) (x : Int) (w : World) (b : Bool) (hb : validC x = b) (h : w.cell? A = some (.int .i64 x)) :
    Calls Tryz.prog 80 #[.slice (some A) 1 1] w fun e w' => e = .returned (.bool b) ∧ Below w.heap.size w w' :=
  (codes_any (some A) 1 [x] w (C_one h) (by simp) (by simp)).mono fun e w' ⟨h1, h2⟩ => ⟨by rw [h1]; simp [hb], h2⟩

def badCodes (m : S61) : Bool := !validC m.f0 || !m.f1.all validC
def badSize (m : S61) : Bool := decide ((64 : Int) < (m.f1.length : Int))
def badName (m : S61) : Bool := !m.f2.toList.isEmpty && !nameP m.f2
def keyM (m : S61) : Int × ByteArray := (m.f0, m.f2)
/-- Does a list hold an element? -/
def hasB {α : Type} [DecidableEq α] (x : α) (l : List α) : Bool := decide (x ∈ l)
theorem hasB_iff {α : Type} [DecidableEq α] {x : α} {l : List α} : hasB x l = true ↔ x ∈ l := by simp [hasB]
theorem hasB_snoc {α : Type} [DecidableEq α] (x y : α) (l : List α) : hasB x (l ++ [y]) = (decide (x = y) || hasB x l) := by
  rw [Bool.eq_iff_iff]; simp [hasB]; exact or_comm
/-- Does a list hold an element twice? -/
def twice {α : Type} [DecidableEq α] : List α → Bool
  | [] => false
  | x :: l => hasB x l || twice l
def mapChk (xs : List S61) : Int := if xs.any badCodes then 1 else if xs.any badSize then 2 else if xs.any badName then 6 else if twice (xs.map keyM) then 5 else 0

theorem any_of_getD {α : Type} (p : α → Bool) (xs : List α) (z : α) (j : Nat) (hj : j < xs.length) (h : p (xs.getD j z) = true) : xs.any p = true :=
  List.any_eq_true.2 ⟨_, by rw [List.getD_eq_getElem?_getD, List.getElem?_eq_getElem hj]; exact List.getElem_mem hj, h⟩
theorem any_full {α : Type} (p : α → Bool) (xs : List α) (j : Nat) (hj : ¬ j < xs.length) (h : (xs.take j).any p = false) : xs.any p = false := by
  rwa [List.take_of_length_le (by omega)] at h
theorem getD_mem {α : Type} (xs : List α) (z : α) (j : Nat) (hj : j < xs.length) : xs.getD j z ∈ xs := by
  rw [List.getD_eq_getElem?_getD, List.getElem?_eq_getElem hj]; exact List.getElem_mem hj
theorem not_any {α : Type} (p : α → Bool) (xs : List α) (h : xs.any p = false) (x : α) (hx : x ∈ xs) : p x = false := by
  cases hp : p x with
  | false => rfl
  | true => rw [List.any_eq_true.2 ⟨x, hx, hp⟩] at h; cases h
theorem twice_take {α : Type} [DecidableEq α] (l : List α) (z : α) : ∀ j, j < l.length → l.getD j z ∈ l.take j → twice l = true := by
  induction l with
  | nil => intro j hj; simp at hj
  | cons x l ih =>
    intro j hj h
    cases j with
    | zero => simp at h
    | succ j =>
      simp only [List.getD_cons_succ, List.take_succ_cons, List.mem_cons] at h
      rcases h with h | h
      · simp only [twice, Bool.or_eq_true, hasB_iff]
        exact Or.inl (h ▸ getD_mem l z j (by simpa using hj))
      · simp only [twice, Bool.or_eq_true]
        exact Or.inr (ih j (by simpa using hj) h)
theorem twice_snoc {α : Type} [DecidableEq α] (l : List α) (x : α) : twice (l ++ [x]) = (twice l || hasB x l) := by
  induction l with
  | nil => simp [twice]
  | cons y l ih =>
    simp only [List.cons_append, twice, ih, hasB_snoc]
    rw [Bool.eq_iff_iff]
    simp only [hasB, Bool.or_eq_true, decide_eq_true_eq, List.mem_cons]
    constructor
    · rintro ((h | h) | h | h)
      · exact Or.inr (Or.inl h.symm)
      · exact Or.inl (Or.inl h)
      · exact Or.inl (Or.inr h)
      · exact Or.inr (Or.inr h)
    · rintro ((h | h) | h | h)
      · exact Or.inl (Or.inr h)
      · exact Or.inr (Or.inl h)
      · exact Or.inl (Or.inl h.symm)
      · exact Or.inr (Or.inr h)
theorem cell_new2 (w : World) (o : Obj) (cs : Array Value) (t : TypeId) (i : Nat) : ((w.alloc o).alloc (.cells cs t)).cell? ⟨w.heap.size + 1, i, none⟩ = cs[i]? := by
  rw [show w.heap.size + 1 = (w.alloc o).heap.size by simp]; simp only [World.cell?_alloc_new]
theorem valid_range {x : Int} (h : validC x = true) : -9223372036854775808 ≤ x ∧ x ≤ 9223372036854775807 := by
  simp [validC] at h; omega

theorem nameP_size {s : ByteArray} (h : nameP s = true) : s.size ≤ 32 := by
  simp [nameP] at h; omega
theorem zeroBool (w : World) : (zeroValue 4).run Tryz.prog w = .ok (.bool false) w := by kernel_rfl
theorem key_ok (x : S61) (h1 : badCodes x = false) (h2 : badName x = false) : ∃ kl, keyOf Tryz.prog 108 (encM (keyM x)) = some kl := by
  refine keyM_of _ (valid_range (x := x.f0) (by simp [badCodes] at h1; exact h1.1)) ?_
  simp only [badName, Bool.and_eq_false_iff, Bool.not_eq_false'] at h2
  rcases h2 with h | h
  · have : x.f2.size = 0 := by
      have h' : x.f2.toList = [] := by simpa using h
      rw [Lib.toList_data] at h'
      have h2 := congrArg List.length h'
      simpa using h2
    rw [show (keyM x).2 = x.f2 from rfl, this]; simp [maxLen]
  · have := nameP_size (by simpa using h)
    exact Nat.le_trans this (by simp [maxLen])
set_option maxRecDepth 100000 in
theorem seenLook {w : World} {b n : Nat} {f : Int × ByteArray → Option Value} (h : MapF Tryz.prog 108 encM w b n f) (x : S61) (hk : ∃ kl, keyOf Tryz.prog 108 (encM (keyM x)) = some kl) (v : Bool) (hf : (f (keyM x)).getD (.bool false) = .bool v) :
    (Instr.lookup 106 (.map (some b)) (.agg #[.int .i64 x.f0, .string x.f2]) false).run Tryz.prog w = .ok (.bool v) w := by
  obtain ⟨kl, hkl⟩ := hk
  rw [← hf]
  exact h.look keyed_key Tryz.underlying106 (zeroBool w) hkl
set_option maxRecDepth 100000 in
theorem seenPut {w : World} {b n : Nat} {f : Int × ByteArray → Option Value} (h : MapF Tryz.prog 108 encM w b n f) (x : S61) (hk : ∃ kl, keyOf Tryz.prog 108 (encM (keyM x)) = some kl) (hn : n < 9223372036854775807) :
    ∃ w', (Instr.mapUpdate 106 (.map (some b)) (.agg #[.int .i64 x.f0, .string x.f2]) (.bool true)).run Tryz.prog w = .ok () w' ∧ MapF Tryz.prog 108 encM w' b (n + 1) (fun y => if y = keyM x then some (.bool true) else f y) ∧ w.grownBy w' (some b) := by
  obtain ⟨kl, hkl⟩ := hk
  exact h.update keyed_key encM_inj Tryz.underlying106 (by simp [maxLen]; omega) hkl

set_option maxRecDepth 100000 in
set_option maxHeartbeats 16000000 in
theorem mapcheck_any (A : Option Addr) (c : Nat) (xs : List S61) (w : World) (hr : Kd.C k61 w A xs.length xs) (hc : xs.length ≤ c) (hl : xs.length ≤ 9223372036854775807) :
    Calls Tryz.prog 54 #[.slice A xs.length c] w fun e w' => e = .returned (.int .i64 (mapChk xs)) ∧ Below w.heap.size w w' := by
  have HR := Aside0.mk hr
  have HC := Lib.hid (show mapChk xs = if xs.any badCodes then 1 else if xs.any badSize then 2 else if xs.any badName then 6 else if twice (xs.map keyM) then 5 else 0 from rfl)
  have hmm := @run_makeMap Tryz.prog
  clear hr hc
  go_enter Tryz.func54, Tryz.ntmps54
  go_wp2_with fail
  go_loopw [15] (fun v wr => ∃ j : Nat, v = .int .i64 (j : Int) ∧ j ≤ xs.length ∧ Aside0 ((xs.take j).any badCodes = false) ∧ Aside0 (Below w.heap.size w wr)) (fun v _ => xs.length - (intOf v).toNat)
  case atStart => exact ⟨0, rfl, by omega, ⟨rfl⟩, ⟨Below.refl _ _⟩⟩
  case round =>
    obtain ⟨j, rfl, hj, HA, HB⟩ := hrel
    by_cases hlt : j < xs.length
    · obtain ⟨ad, A1, c1, e, hx0, hx1, hx2, hl1, hi1⟩ := at_T61 (Kd.C_below HR.out HB.out) (j : Int) (by omega) (by omega)
      subst e
      simp only [Int.toNat_natCast] at hx0 hx1 hx2
      have HX : Aside0 (rd_T61 xs (j : Int) = xs.getD j z61) := ⟨rfl⟩
      generalize rd_T61 xs (j : Int) = x at hx0 hx1 hx2 hl1 hi1 HX
      have HL := Aside0.mk hl1
      have HI := Aside0.mk hi1
      clear hl1 hi1
      have HE : Aside0 (badCodes x = (!validC x.f0 || !x.f1.all validC)) := ⟨rfl⟩
      have hlen : x.f1.length ≤ 9223372036854775807 := Kd.C_max HI.out
      cases hv : validC x.f0 with
      | false =>
        go_wp2_with fail
        refine (codesOne ⟨wr.heap.size + 1, 0, none⟩ x.f0 _ false hv (by rw [cell_new2]; rfl)).mono ?_
        rintro e w' ⟨rfl, hb1⟩
        go_wp2_with fail
        go_ret
        exact ⟨ret_int (by rw [HC.out, any_of_getD badCodes xs _ j hlt (by rw [← HX.out, HE.out, hv]; rfl)]; rfl), below_step (below_alloc (below_alloc HB.out _) _) hb1⟩
      | true =>
        cases hv2 : x.f1.all validC with
        | false =>
          go_wp2_with fail
          refine (codesOne ⟨wr.heap.size + 1, 0, none⟩ x.f0 _ true hv (by rw [cell_new2]; rfl)).mono ?_
          rintro e w' ⟨rfl, hb1⟩
          have HB1 := Aside0.mk hb1
          have HI2 := Aside0.mk (Kd.C_below HI.out (below_step (below_alloc (below_alloc (Below.refl _ _) _) _) hb1))
          clear hb1
          have k1 : w'.cell? ⟨wr.heap.size, 1, none⟩ = some (.slice A1 x.f1.length c1) := by
            rw [Below.cell HB1.out (by simp; omega)]; simp
          go_wp2_with fail
          refine (codes_any A1 c1 x.f1 _ HI2.out HL.out hlen).mono ?_
          rintro e w2 ⟨rfl, hb2⟩
          rw [hv2]
          go_wp2_with fail
          go_ret
          exact ⟨ret_int (by rw [HC.out, any_of_getD badCodes xs _ j hlt (by rw [← HX.out, HE.out, hv, hv2]; rfl)]; rfl), below_step (below_step (below_alloc (below_alloc HB.out _) _) HB1.out) hb2⟩
        | true =>
          go_wp2_with fail
          refine (codesOne ⟨wr.heap.size + 1, 0, none⟩ x.f0 _ true hv (by rw [cell_new2]; rfl)).mono ?_
          rintro e w' ⟨rfl, hb1⟩
          have HB1 := Aside0.mk hb1
          have HI2 := Aside0.mk (Kd.C_below HI.out (below_step (below_alloc (below_alloc (Below.refl _ _) _) _) hb1))
          clear hb1
          have k1 : w'.cell? ⟨wr.heap.size, 1, none⟩ = some (.slice A1 x.f1.length c1) := by
            rw [Below.cell HB1.out (by simp; omega)]; simp
          go_wp2_with fail
          refine (codes_any A1 c1 x.f1 _ HI2.out HL.out hlen).mono ?_
          rintro e w2 ⟨rfl, hb2⟩
          rw [hv2]
          go_wp2_with fail
          go_roundw
          case rel => exact ⟨j + 1, by first | rfl | go_num, by omega, ⟨any_take_succ badCodes xs z61 j hlt HA.out (by rw [← HX.out, HE.out, hv, hv2]; rfl)⟩, ⟨below_step (below_step (below_alloc (below_alloc HB.out _) _) HB1.out) hb2⟩⟩
          case measure => simp [intOf]; omega
    · have H1 := Aside0.mk (any_full badCodes xs j hlt HA.out)
      rw [H1.out, if_neg (by decide)] at HC
      go_wp2_with fail
      clear HA hlt hj
      go_loopw [33] (fun v wr => ∃ j : Nat, v = .int .i64 (j : Int) ∧ j ≤ xs.length ∧ Aside0 ((xs.take j).any badSize = false) ∧ Aside0 (Below w.heap.size w wr)) (fun v _ => xs.length - (intOf v).toNat)
      case atStart => exact ⟨0, rfl, by omega, ⟨rfl⟩, HB⟩
      case round =>
        clear HB
        obtain ⟨j, rfl, hj, HA, HB⟩ := hrel
        by_cases hlt : j < xs.length
        · obtain ⟨ad, A1, c1, e, hx0, hx1, hx2, hl1, hi1⟩ := at_T61 (Kd.C_below HR.out HB.out) (j : Int) (by omega) (by omega)
          subst e
          clear hl1 hi1
          simp only [Int.toNat_natCast] at hx0 hx1 hx2
          have HX : Aside0 (rd_T61 xs (j : Int) = xs.getD j z61) := ⟨rfl⟩
          generalize rd_T61 xs (j : Int) = x at hx0 hx1 hx2 HX
          have HE : Aside0 (badSize x = decide ((64 : Int) < (x.f1.length : Int))) := ⟨rfl⟩
          cases hv : decide ((64 : Int) < (x.f1.length : Int)) with
          | true =>
            go_wp2_with fail
            go_ret
            exact ⟨ret_int (by rw [HC.out, any_of_getD badSize xs _ j hlt (by rw [← HX.out, HE.out, hv])]; rfl), below_alloc HB.out _⟩
          | false =>
            go_wp2_with fail
            go_roundw
            case rel => exact ⟨j + 1, by first | rfl | go_num, by omega, ⟨any_take_succ badSize xs z61 j hlt HA.out (by rw [← HX.out, HE.out, hv])⟩, ⟨below_alloc HB.out _⟩⟩
            case measure => simp [intOf]; omega
        · have H2 := Aside0.mk (any_full badSize xs j hlt HA.out)
          rw [H2.out, if_neg (by decide)] at HC
          go_wp2_with fail
          clear HA hlt hj
          go_loopw [44] (fun v wr => ∃ j : Nat, v = .int .i64 (j : Int) ∧ j ≤ xs.length ∧ Aside0 ((xs.take j).any badName = false) ∧ Aside0 (Below w.heap.size w wr)) (fun v _ => xs.length - (intOf v).toNat)
          case atStart => exact ⟨0, rfl, by omega, ⟨rfl⟩, HB⟩
          case round =>
            clear HB
            obtain ⟨j, rfl, hj, HA, HB⟩ := hrel
            by_cases hlt : j < xs.length
            · obtain ⟨ad, A1, c1, e, hx0, hx1, hx2, hl1, hi1⟩ := at_T61 (Kd.C_below HR.out HB.out) (j : Int) (by omega) (by omega)
              subst e
              clear hl1 hi1
              simp only [Int.toNat_natCast] at hx0 hx1 hx2
              have HX : Aside0 (rd_T61 xs (j : Int) = xs.getD j z61) := ⟨rfl⟩
              generalize rd_T61 xs (j : Int) = x at hx0 hx1 hx2 HX
              have HE : Aside0 (badName x = (!x.f2.toList.isEmpty && !nameP x.f2)) := ⟨rfl⟩
              have HN := Aside0.mk (isName_any x.f2)
              cases hv : x.f2.toList.isEmpty with
              | true =>
                go_wp2_with fail
                go_roundw
                case rel => exact ⟨j + 1, by first | rfl | go_num, by omega, ⟨any_take_succ badName xs z61 j hlt HA.out (by rw [← HX.out, HE.out, hv]; rfl)⟩, ⟨below_alloc HB.out _⟩⟩
                case measure => simp [intOf]; omega
              | false =>
                cases hn : nameP x.f2 with
                | true =>
                  go_wp2_with fail
                  refine (HN.out _).mono ?_
                  rintro e w2 ⟨rfl, hb2⟩
                  rw [hn]
                  go_wp2_with fail
                  go_roundw
                  case rel => exact ⟨j + 1, by first | rfl | go_num, by omega, ⟨any_take_succ badName xs z61 j hlt HA.out (by rw [← HX.out, HE.out, hv, hn]; rfl)⟩, ⟨below_step (below_alloc HB.out _) hb2⟩⟩
                  case measure => simp [intOf]; omega
                | false =>
                  go_wp2_with fail
                  refine (HN.out _).mono ?_
                  rintro e w2 ⟨rfl, hb2⟩
                  rw [hn]
                  go_wp2_with fail
                  go_ret
                  exact ⟨ret_int (by rw [HC.out, any_of_getD badName xs _ j hlt (by rw [← HX.out, HE.out, hv, hn]; rfl)]; rfl), below_step (below_alloc HB.out _) hb2⟩
            · have H3 := Aside0.mk (any_full badName xs j hlt HA.out)
              rw [H3.out, if_neg (by decide)] at HC
              have HM := Aside0.mk (MapF.made wr Tryz.prog 108 encM)
              obtain ⟨b, hbs⟩ : ∃ b, wr.heap.size = b := ⟨_, rfl⟩
              have hbw : w.heap.size ≤ b := hbs ▸ HB.out.size
              go_wp2_with fail
              clear HA hlt hj
              rw [hbs] at HM
              have HW := Aside0.mk hbw
              clear hbs hbw
              go_loopw [61] (fun v wr => ∃ j : Nat, v = .int .i64 (j : Int) ∧ j ≤ xs.length ∧ Aside0 (twice ((xs.take j).map keyM) = false) ∧ Aside0 (MapF Tryz.prog 108 encM wr b j (fun k : Int × ByteArray => if hasB k ((xs.take j).map keyM) then some (.bool true) else none)) ∧ Aside0 (Below w.heap.size w wr)) (fun v _ => xs.length - (intOf v).toNat)
              case atStart => exact ⟨0, rfl, by omega, ⟨rfl⟩, ⟨by simpa [hasB] using HM.out⟩, ⟨below_alloc HB.out _⟩⟩
              case round =>
                clear HB HM
                obtain ⟨j, rfl, hj, HA, HM, HB⟩ := hrel
                by_cases hlt : j < xs.length
                · obtain ⟨ad, A1, c1, e, hx0, hx1, hx2, hl1, hi1⟩ := at_T61 (Kd.C_below HR.out HB.out) (j : Int) (by omega) (by omega)
                  subst e
                  clear hl1 hi1
                  simp only [Int.toNat_natCast] at hx0 hx1 hx2
                  have HX : Aside0 (rd_T61 xs (j : Int) = xs.getD j z61) := ⟨rfl⟩
                  generalize rd_T61 xs (j : Int) = x at hx0 hx1 hx2 HX
                  have hmem : x ∈ xs := HX.out ▸ getD_mem xs z61 j hlt
                  have HK := Aside0.mk (key_ok x (not_any _ _ H1.out x hmem) (not_any _ _ H3.out x hmem))
                  clear hmem
                  have HG : Aside0 ((xs.map keyM).getD j (keyM z61) = keyM x) := ⟨by rw [HX.out]; simp [List.getD_eq_getElem?_getD, List.getElem?_eq_getElem hlt]⟩
                  cases hm : hasB (keyM x) ((xs.take j).map keyM) with
                  | true =>
                    have hlook := seenLook ((HM.out.alloc (.cells #[.int .i64 x.f0, .slice A1 x.f1.length c1, .string x.f2] 61)).alloc (.cells #[.int .i64 x.f0, .string x.f2] 108)) x HK.out true (by simp only [hm]; rfl)
                    go_wp2_with fail
                    go_ret
                    exact ⟨ret_int (by rw [HC.out, twice_take (xs.map keyM) (keyM z61) j (by simpa using hlt) (by rw [HG.out, ← List.map_take]; exact hasB_iff.1 hm)]; rfl), below_alloc (below_alloc HB.out _) _⟩
                  | false =>
                    have hlook := seenLook ((HM.out.alloc (.cells #[.int .i64 x.f0, .slice A1 x.f1.length c1, .string x.f2] 61)).alloc (.cells #[.int .i64 x.f0, .string x.f2] 108)) x HK.out false (by simp only [hm]; rfl)
                    obtain ⟨w', hup, hmf, hg⟩ := seenPut ((HM.out.alloc (.cells #[.int .i64 x.f0, .slice A1 x.f1.length c1, .string x.f2] 61)).alloc (.cells #[.int .i64 x.f0, .string x.f2] 108)) x HK.out (by omega)
                    have HMF := Aside0.mk hmf
                    have HGR := Aside0.mk (below_turned (below_alloc (below_alloc HB.out _) _) hg HW.out (by simp; have := HM.out.lt; omega))
                    clear hmf hg
                    go_wp2_with fail
                    go_roundw
                    case rel =>
                      have htk : (xs.take (j + 1)).map keyM = (xs.take j).map keyM ++ [keyM x] := by
                        rw [List.take_succ_eq_append_getElem hlt, List.map_append, HX.out, List.getD_eq_getElem?_getD, List.getElem?_eq_getElem hlt]; rfl
                      refine ⟨j + 1, by first | rfl | go_num, by omega, ⟨by rw [htk, twice_snoc, HA.out, hm]; rfl⟩, ⟨?_⟩, ⟨HGR.out⟩⟩
                      have e : (fun k : Int × ByteArray => if hasB k ((xs.take (j + 1)).map keyM) then some (Value.bool true) else none) = fun y => if y = keyM x then some (.bool true) else (if hasB y ((xs.take j).map keyM) then some (.bool true) else none) := by
                        funext y
                        rw [htk, hasB_snoc]
                        by_cases h1 : y = keyM x <;> simp [h1]
                      rw [e]
                      exact HMF.out
                    case measure => simp [intOf]; omega
                · go_wp2_with fail
                  go_ret
                  exact ⟨ret_int (by rw [HC.out, ← List.take_of_length_le (l := xs) (show xs.length ≤ j by omega), HA.out]; rfl), HB.out⟩
end Go.Proofs.YtipedgkampafjaaGreatDoor.Rf
/- Tells what mapping.Check and a class finder compute. -/
namespace Go.Proofs.YtipedgkampafjaaGreatDoor.Rf
open Go.Shelf Go.RowKit Go.Proofs.YtipedgkampafjaaGreatDoorW.PrintWords Go.Proofs.YtipedgkampafjaaGreatDoorW.PrintLast Go.Proofs.YtipedgkampafjaaGreatDoorW.PrintMore

def ltMap (a b : S61) : Bool := decide (ordM a b < 0)
def mapChkO (xs : List S61) : Int := if mapChk xs = 0 then (if sortedB ltMap xs then 0 else 4) else mapChk xs

theorem mapChk_cases (xs : List S61) : mapChk xs = 0 ∨ mapChk xs = 1 ∨ mapChk xs = 2 ∨ mapChk xs = 6 ∨ mapChk xs = 5 := by
  unfold mapChk; repeat' split
  all_goals simp

set_option maxRecDepth 100000 in
set_option maxHeartbeats 8000000 in
theorem mapCheck_any (A : Option Addr) (c : Nat) (xs : List S61) (w : World) (hr : Kd.C k61 w A xs.length xs) (hc : xs.length ≤ c) (hl : xs.length ≤ 9223372036854775807) :
    Calls Tryz.prog 30 #[.slice A xs.length c] w fun e w' => e = .returned (.int .i64 (mapChkO xs)) ∧ Below w.heap.size w w' := by
  have HC := Lib.hid (show mapChkO xs = if mapChk xs = 0 then (if sortedB ltMap xs then 0 else 4) else mapChk xs from rfl)
  have H1 := Aside0.mk (mapcheck_any A c xs w hr hc hl)
  have HR := Aside0.mk hr
  have hcs := mapChk_cases xs
  generalize mapChk xs = v at HC H1 hcs
  clear hr
  by_cases hv : v = 0
  · subst hv
    rw [if_pos rfl] at HC
    cases hs : sortedB ltMap xs with
    | true =>
      go_enter Tryz.func30, Tryz.ntmps30
      go_wp2_with fail
      refine H1.out.mono ?_
      rintro e w' ⟨rfl, hb1⟩
      go_wp2_with fail
      refine (mapSorted_any A c xs w' (Kd.C_below HR.out hb1) hc hl strCmp_any).mono ?_
      rintro e w2 ⟨rfl, hb2⟩
      rw [show sortedB (fun a b => decide (ordM a b < 0)) xs = true from hs]
      go_wp2_with fail
      go_ret
      exact ⟨ret_int (by rw [HC.out, if_pos hs]), below_step hb1 hb2⟩
    | false =>
      go_enter Tryz.func30, Tryz.ntmps30
      go_wp2_with fail
      refine H1.out.mono ?_
      rintro e w' ⟨rfl, hb1⟩
      go_wp2_with fail
      refine (mapSorted_any A c xs w' (Kd.C_below HR.out hb1) hc hl strCmp_any).mono ?_
      rintro e w2 ⟨rfl, hb2⟩
      rw [show sortedB (fun a b => decide (ordM a b < 0)) xs = false from hs]
      go_wp2_with fail
      go_ret
      exact ⟨ret_int (by rw [HC.out, if_neg (by rw [hs]; decide)]), below_step hb1 hb2⟩
  · rw [if_neg hv] at HC
    go_enter Tryz.func30, Tryz.ntmps30
    go_wp2_with fail
    refine H1.out.mono ?_
    rintro e w' ⟨rfl, hb1⟩
    rcases hcs with h | h | h | h | h
    · exact absurd h hv
    all_goals
      subst h
      go_wp2_with fail
      go_ret
      exact ⟨ret_int (by rw [HC.out]), hb1⟩

/-- Where the search for a number ends: how many spans end ahead of it. -/
def srch (xs : List S71) (c : Int) : Nat := (List.range xs.length).countP fun i => !decide (c ≤ (xs.getD i z71).f1)
/-- The class that a finder tells. -/
def cls (xs : List S71) (c : Int) : Int := if ordChk xs = 0 then (if srch xs c < xs.length then (if (xs.getD (srch xs c) z71).f0 ≤ c then (xs.getD (srch xs c) z71).f2 else 0) else 0) else 0

set_option maxRecDepth 100000 in
set_option maxHeartbeats 4000000 in
theorem finder21_any (A : Option Addr) (cp : Nat) (xs : List S71) (c : Int) (i : Nat) (p q : Addr) (w : World) (hi : i < xs.length) (hr : Kd.C k71 w A xs.length xs) (hl : xs.length ≤ 9223372036854775807) (hp : w.cell? p = some (.slice A xs.length cp)) (hq : w.cell? q = some (.int .i64 c)) :
    Calls Tryz.prog 98 #[.int .i64 i, .pointer (some p), .pointer (some q)] w fun e w' => e = .returned (.bool (decide (c ≤ (xs.getD i z71).f1))) ∧ ∃ q, w' = w.drewN q := by
  obtain ⟨ad, e, hx0, hx1, hx2⟩ := at_T71 hr (i : Int) (by omega) (by omega)
  subst e
  simp only [Int.toNat_natCast] at hx0 hx1 hx2
  have HX : Aside0 (rd_T71 xs (i : Int) = xs.getD i z71) := ⟨rfl⟩
  rw [← HX.out]
  generalize rd_T71 xs (i : Int) = x at hx0 hx1 hx2 HX
  clear hr
  go_enter Tryz.func98, Tryz.ntmps98
  go_wp2_with fail
  go_quiet (fail)
  go_wp2_with fail
  go_ret
  exact ⟨rfl, _, rfl⟩

theorem grow_nil (w : World) : Sort.grow w #[] = w := by cases w; simp [Sort.grow]
theorem cell_lt {w : World} {a : Addr} {v : Value} (h : w.cell? a = some v) : a.block < w.heap.size := by
  apply Classical.byContradiction
  intro hn
  have : w.heap[a.block]? = none := Array.getElem?_eq_none_iff.2 (by omega)
  simp [World.cell?, this] at h
theorem ordChk_no {xs : List S71} (h : ordChk xs = 0) : xs.any spBad = false ∧ pairAny spAdj xs = false ∧ xs.any kor = false := by
  unfold ordChk at h
  cases h1 : xs.any spBad <;> cases h2 : pairAny spAdj xs <;> cases h3 : xs.any kor <;> simp [h1, h2, h3] at h ⊢
theorem spans_step {xs : List S71} (h : ordChk xs = 0) (i : Nat) (hi : i + 1 < xs.length) : (xs.getD i z71).f1 < (xs.getD (i + 1) z71).f0 := by
  obtain ⟨_, h2, _⟩ := ordChk_no h
  have h3 := pairAny_take spAdj xs z71 (i + 1) (by omega) hi
  have h4 : pairAny spAdj (xs.take (i + 1 + 1)) = false := by
    cases h5 : pairAny spAdj (xs.take (i + 1 + 1)) with
    | false => rfl
    | true => rw [pairAny_prefix spAdj xs _ h5] at h2; cases h2
  rw [h4] at h3
  have h6 : spAdj (xs.getD i z71) (xs.getD (i + 1) z71) = false := by
    cases h7 : spAdj (xs.getD i z71) (xs.getD (i + 1) z71) with
    | false => rfl
    | true => rw [show i + 1 - 1 = i from rfl, h7, Bool.or_true] at h3; cases h3
  simp only [spAdj, Bool.or_eq_false_iff, decide_eq_false_iff_not] at h6
  omega
theorem spans_in {xs : List S71} (h : ordChk xs = 0) (i : Nat) (hi : i < xs.length) : 0 ≤ (xs.getD i z71).f0 ∧ (xs.getD i z71).f0 ≤ (xs.getD i z71).f1 ∧ (xs.getD i z71).f1 ≤ 1114111 ∧ 1 ≤ (xs.getD i z71).f2 ∧ (xs.getD i z71).f2 ≤ 254 :=
  spBad_no (all_of_any spBad xs z71 i hi (ordChk_no h).1)
theorem spans_less {xs : List S71} (h : ordChk xs = 0) (i j : Nat) (hij : i < j) (hj : j < xs.length) : (xs.getD i z71).f1 < (xs.getD j z71).f0 := by
  induction j with
  | zero => omega
  | succ j ih =>
    have h1 := spans_step h j hj
    by_cases he : i = j
    · subst he; exact h1
    · have h2 := ih (by omega) (by omega)
      have h3 := spans_in h j (by omega)
      omega
theorem spans_mono {xs : List S71} (h : ordChk xs = 0) (c : Int) (a b : Nat) (hab : a ≤ b) (hb : b < xs.length) (ha : decide (c ≤ (xs.getD a z71).f1) = true) : decide (c ≤ (xs.getD b z71).f1) = true := by
  by_cases he : a = b
  · subst he; exact ha
  · have h1 := spans_less h a b (by omega) hb
    have h2 := spans_in h b hb
    simp only [decide_eq_true_eq] at ha ⊢
    omega

set_option maxRecDepth 100000 in
set_option maxHeartbeats 8000000 in
theorem finder2_any (A : Option Addr) (cp : Nat) (xs : List S71) (c : Int) (p : Addr) (w : World) (h0 : ordChk xs = 0) (hr : Kd.C k71 w A xs.length xs) (hl : xs.length < 4611686018427387904) (hp : w.cell? p = some (.slice A xs.length cp)) :
    Calls Tryz.prog 96 #[.int .i64 c, .pointer (some p)] w fun e w' => e = .returned (.int .i64 (cls xs c)) ∧ Below w.heap.size w w' := by
  have eg : ∀ args w, (callFunc 98 args).run Tryz.prog w = .ok (.enter 98 args) w := enters_of Tryz.func98 (by kernel_rfl) rfl
  have HCL := Lib.hid (show cls xs c = (if srch xs c < xs.length then (if (xs.getD (srch xs c) z71).f0 ≤ c then (xs.getD (srch xs c) z71).f2 else 0) else 0) by rw [cls, if_pos h0])
  have HR := Aside0.mk hr
  have HP := Aside0.mk hp
  have hpb : p.block < w.heap.size := cell_lt hp
  have hS : Calls Tryz.prog 97 #[.int .i64 xs.length, .func (.func 98) #[] #[.pointer (some p), .pointer (some ⟨w.heap.size, 0, none⟩)]] (w.alloc (.cells #[.int .i64 c] 3)) fun e w' => e = .returned (.int .i64 (srch xs c : Nat)) ∧ Below w.heap.size w w' ∧ w'.cell? ⟨w.heap.size, 0, none⟩ = some (.int .i64 c) := by
    refine (Any.sort_Search Tryz.search 98 #[.pointer (some p), .pointer (some ⟨w.heap.size, 0, none⟩)] xs.length (fun i => decide (c ≤ (xs.getD i z71).f1)) (w.alloc (.cells #[.int .i64 c] 3)) eg hl (fun m os i hi => ?_) (spans_mono h0 c)).mono ?_
    · have hb : Below (w.alloc (.cells #[.int .i64 c] 3)).heap.size (w.alloc (.cells #[.int .i64 c] 3)) (Sort.grow ((w.alloc (.cells #[.int .i64 c] 3)).drewN m) os) := below_grown_sl _ _ _ _ (Nat.le_refl _)
      refine (finder21_any A cp xs c i p ⟨w.heap.size, 0, none⟩ _ hi (Kd.C_below (Kd.C_alloc HR.out _) hb) (by omega) ?_ ?_).mono ?_
      · rw [hb.cell (by simp; omega), ← HP.out]; exact (below_alloc (Below.refl w.heap.size w) _).cell hpb
      · rw [hb.cell (by simp)]; simp
      · rintro e w' ⟨h1, q, h2⟩
        exact ⟨h1, q, #[], by rw [h2, grow_nil]⟩
    · rintro e w' ⟨h1, q, os, h2⟩
      have hb : Below (w.alloc (.cells #[.int .i64 c] 3)).heap.size (w.alloc (.cells #[.int .i64 c] 3)) w' := by rw [h2]; exact below_grown_sl _ _ _ _ (Nat.le_refl _)
      exact ⟨h1, below_step (below_alloc (Below.refl _ _) _) hb, by rw [hb.cell (by simp)]; simp⟩
  have HS := Aside0.mk hS
  clear hS eg hr hp
  generalize srch xs c = k at HCL HS
  have k1 : (w.alloc (.cells #[.int .i64 c] 3)).cell? p = some (.slice A xs.length cp) := by
    rw [← HP.out]; exact (below_alloc (Below.refl w.heap.size w) _).cell hpb
  have HB := Aside0.mk hpb
  clear hpb
  by_cases h1 : k < xs.length
  · rw [if_pos h1] at HCL
    go_enter Tryz.func96, Tryz.ntmps96
    go_wp2_with fail
    refine HS.out.mono ?_
    rintro e w' ⟨rfl, hb1, hq⟩
    have HB1 := Aside0.mk hb1
    have k2 : w'.cell? p = some (.slice A xs.length cp) := by rw [HB1.out.cell HB.out, HP.out]
    obtain ⟨ad, e, hx0, hx1, hx2⟩ := at_T71 (Kd.C_below HR.out hb1) (k : Int) (by omega) (by omega)
    subst e
    clear hb1
    simp only [Int.toNat_natCast] at hx0 hx1 hx2
    have HX : Aside0 (rd_T71 xs (k : Int) = xs.getD k z71) := ⟨rfl⟩
    rw [← HX.out] at HCL
    generalize rd_T71 xs (k : Int) = x at hx0 hx1 hx2 HX HCL
    cases h2 : decide (x.f0 ≤ c) with
    | true =>
      rw [if_pos (of_decide_eq_true h2)] at HCL
      go_wp2_with fail
      go_quiet (fail)
      go_wp2_with fail
      go_ret
      exact ⟨ret_int (by rw [HCL.out]), pw_below_drewN HB1.out _⟩
    | false =>
      rw [if_neg (of_decide_eq_false h2)] at HCL
      go_wp2_with fail
      go_quiet (fail)
      go_wp2_with fail
      go_ret
      exact ⟨ret_int (by rw [HCL.out]), pw_below_drewN HB1.out _⟩
  · rw [if_neg h1] at HCL
    go_enter Tryz.func96, Tryz.ntmps96
    go_wp2_with fail
    refine HS.out.mono ?_
    rintro e w' ⟨rfl, hb1, hq⟩
    have HB1 := Aside0.mk hb1
    have k2 : w'.cell? p = some (.slice A xs.length cp) := by rw [HB1.out.cell HB.out, HP.out]
    clear hb1
    go_wp2_with fail
    go_quiet (fail)
    go_wp2_with fail
    go_ret
    exact ⟨ret_int (by rw [HCL.out]), pw_below_drewN HB1.out _⟩

theorem finder1_any (c : Int) (w : World) : Calls Tryz.prog 95 #[.int .i64 c] w fun e w' => e = .returned (.int .i64 0) ∧ Below w.heap.size w w' := by
  go_enter Tryz.func95, Tryz.ntmps95
  go_wp2_with fail
  go_ret
  exact ⟨rfl, Below.refl _ _⟩

/-- A function value that tells classes, from a world on. -/
def ClassFn (w : World) (v : Value) (cl : Int → Int) : Prop :=
  ∃ g cb, v = .func (.func g) #[] cb ∧ (∀ args w, (callFunc g args).run Tryz.prog w = .ok (.enter g args) w) ∧ ∀ (W : World) (c : Int), Below w.heap.size w W → Calls Tryz.prog g (#[.int .i64 c] ++ cb) W fun e w' => e = .returned (.int .i64 (cl c)) ∧ Below W.heap.size W w'
theorem ClassFn.below {w w' : World} {v : Value} {cl : Int → Int} (h : ClassFn w v cl) (hb : Below w.heap.size w w') : ClassFn w' v cl := by
  obtain ⟨g, cb, h1, h2, h3⟩ := h
  exact ⟨g, cb, h1, h2, fun W c hW => h3 W c (below_step hb hW)⟩

set_option maxRecDepth 100000 in
set_option maxHeartbeats 8000000 in
theorem finder_any (A : Option Addr) (cp : Nat) (xs : List S71) (w : World) (hG : GL w) (hr : Kd.C k71 w A xs.length xs) (hc : xs.length ≤ cp) (hl : xs.length < 4611686018427387904) :
    Calls Tryz.prog 73 #[.slice A xs.length cp] w fun e w' => (∃ v, e = .returned v ∧ ClassFn w' v (cls xs)) ∧ Below w.heap.size w w' := by
  have HR := Aside0.mk hr
  have HO := Aside0.mk (ordCheck_any A cp xs (w.alloc (.cells #[.slice A xs.length cp] 22)) (GL.below hG (below_alloc (Below.refl _ _) _)) (Kd.C_alloc hr _) hc (by omega))
  clear hr hG
  by_cases h0 : ordChk xs = 0
  · rw [h0] at HO
    go_enter Tryz.func73, Tryz.ntmps73
    go_wp2_with fail
    refine HO.out.mono ?_
    rintro e w' ⟨rfl, hb1⟩
    go_wp2_with fail
    go_ret
    refine ⟨⟨_, rfl, 96, _, rfl, enters_of Tryz.func96 (by kernel_rfl) rfl, fun W c hW => ?_⟩, below_step (below_alloc (Below.refl _ _) _) hb1⟩
    have hb2 := below_step hb1 hW
    refine finder2_any A cp xs c ⟨w.heap.size, 0, none⟩ W h0 (Kd.C_below (Kd.C_alloc HR.out _) hb2) hl ?_
    rw [hb2.cell (by simp)]; simp
  · have hcases : ordChk xs = 1 ∨ ordChk xs = 4 ∨ ordChk xs = 11 := by
      unfold ordChk at h0 ⊢; repeat' split
      all_goals simp_all
    have HCL := Aside0.mk (show cls xs = fun _ => 0 by funext c; rw [cls, if_neg h0])
    generalize cls xs = cl at HCL ⊢
    clear h0
    go_enter Tryz.func73, Tryz.ntmps73
    go_wp2_with fail
    refine HO.out.mono ?_
    rintro e w' ⟨rfl, hb1⟩
    rcases hcases with h | h | h
    all_goals
      rw [h]
      go_wp2_with fail
      go_ret
      refine ⟨⟨_, rfl, 95, _, rfl, enters_of Tryz.func95 (by kernel_rfl) rfl, fun W c hW => ?_⟩, below_step (below_alloc (Below.refl _ _) _) hb1⟩
      rw [HCL.out]
      exact finder1_any c W

set_option maxRecDepth 100000 in
set_option maxHeartbeats 8000000 in
theorem class_any (A : Option Addr) (cp : Nat) (xs : List S71) (c : Int) (w : World) (hG : GL w) (hr : Kd.C k71 w A xs.length xs) (hc : xs.length ≤ cp) (hl : xs.length < 4611686018427387904) :
    Calls Tryz.prog 86 #[.slice A xs.length cp, .int .i64 c] w fun e w' => e = .returned (.int .i64 (cls xs c)) ∧ Below w.heap.size w w' := by
  have HF := Aside0.mk (finder_any A cp xs w hG hr hc hl)
  clear hr hG
  go_enter Tryz.func86, Tryz.ntmps86
  go_wp2_with fail
  refine HF.out.mono ?_
  rintro e w' ⟨⟨v, rfl, g, cb, rfl, eg, h3⟩, hb1⟩
  have H3 := Aside0.mk (h3 w' c (Below.refl _ _))
  clear h3
  go_wp2_with fail
  refine H3.out.mono ?_
  rintro e w2 ⟨rfl, hb2⟩
  go_wp2_with fail
  go_ret
  exact ⟨rfl, below_step hb1 hb2⟩

/-- Is a number a starter? -/
def starter (xs : List S71) (c : Int) : Bool := cls xs c == 0
set_option maxRecDepth 100000 in
set_option maxHeartbeats 8000000 in
theorem starter_any (A : Option Addr) (cp : Nat) (xs : List S71) (c : Int) (w : World) (hG : GL w) (hr : Kd.C k71 w A xs.length xs) (hc : xs.length ≤ cp) (hl : xs.length < 4611686018427387904) :
    Calls Tryz.prog 61 #[.slice A xs.length cp, .int .i64 c] w fun e w' => e = .returned (.bool (starter xs c)) ∧ Below w.heap.size w w' := by
  have HF := Aside0.mk (class_any A cp xs c w hG hr hc hl)
  have HS := Lib.hid (show starter xs c = (cls xs c == 0) from rfl)
  generalize cls xs c = k at HF HS
  clear hr hG
  cases hk : (k == 0) <;>
  · rw [hk] at HS
    go_enter Tryz.func61, Tryz.ntmps61
    go_wp2_with fail
    refine HF.out.mono ?_
    rintro e w' ⟨rfl, hb1⟩
    go_wp2_with fail
    go_ret
    exact ⟨ret_bool (by rw [HS.out]), hb1⟩
end Go.Proofs.YtipedgkampafjaaGreatDoor.Rf
/- Tells, in plain Lean, what a name is byte by byte, and how strings are compared. -/
namespace Go.Proofs.YtipedgkampafjaaGreatDoor.Rf
open Go.Shelf Go.RowKit Go.Proofs.YtipedgkampafjaaGreatDoorW.PrintWords Go.Proofs.YtipedgkampafjaaGreatDoorW.PrintLast Go.Proofs.YtipedgkampafjaaGreatDoorW.PrintMore

theorem bytesLess_cmp : ∀ (a b : List UInt8), Op.bytesLess a b = decide (Lib.compareBytes a b < 0)
  | [], [] => rfl
  | [], _ :: _ => rfl
  | _ :: _, [] => rfl
  | x :: a, y :: b => by
    have ih := bytesLess_cmp a b
    simp only [Op.bytesLess, Lib.compareBytes]
    by_cases h1 : x < y
    · simp [h1]
    · by_cases h2 : y < x
      · have h3 : ¬ x = y := fun e => by subst e; exact h1 h2
        simp [h1, h2, h3]
      · have h3 : x = y := UInt8.le_antisymm (UInt8.not_lt.1 h2) (UInt8.not_lt.1 h1)
        subst h3
        simp [h1, ih]
set_option maxRecDepth 100000 in
theorem decode_big (s : ByteArray) (pos : Nat) (h : pos < s.size) (ha : ¬ (s[pos]'h).toNat < 128) : 128 ≤ (Utf8.decode s pos).1 := by
  have e : s.get! (pos + 0) = s[pos]'h := by
    show s.get! pos = _
    simp [ByteArray.get!, getElem!_pos, h]
    rfl
  unfold Utf8.decode
  simp only [e, ha, if_false]
  split
  · split
    · assumption
    · decide
  · split
    · split
      · rename_i h3; simp at h3; omega
      · decide
    · split
      · split
        · rename_i h3; simp at h3; omega
        · decide
      · decide
theorem nameCh_big {n : Nat} (h : 128 ≤ n) : notNameCh n = true := by
  unfold notNameCh nameCh
  simp
  omega
theorem idx_name (s : ByteArray) : ∀ (f pos : Nat), s.size ≤ pos + f → (0 ≤ Lib.idxFuncFrom notNameCh true s f pos ↔ ∃ i, ∃ h : i < s.size, pos ≤ i ∧ nameCh (s[i]'h).toNat = false)
  | 0, pos, hf => by
    simp only [Lib.idxFuncFrom]
    constructor
    · intro h; omega
    · rintro ⟨i, h, h1, _⟩; omega
  | f + 1, pos, hf => by
    unfold Lib.idxFuncFrom
    by_cases hp : pos < s.size
    · rw [if_pos hp]
      by_cases ha : (s[pos]'hp).toNat < 128
      · rw [decode_ascii s pos hp ha]
        cases hn : nameCh (s[pos]'hp).toNat with
        | false =>
          have : notNameCh (s[pos]'hp).toNat = true := by simp [notNameCh, hn]
          simp only [this, if_true]
          exact ⟨fun _ => ⟨pos, hp, Nat.le_refl _, hn⟩, fun _ => by omega⟩
        | true =>
          have : notNameCh (s[pos]'hp).toNat = false := by simp [notNameCh, hn]
          simp only [this, Bool.false_eq_true, if_false]
          rw [idx_name s f (pos + 1) (by omega)]
          constructor
          · rintro ⟨i, h, h1, h2⟩; exact ⟨i, h, by omega, h2⟩
          · rintro ⟨i, h, h1, h2⟩
            refine ⟨i, h, ?_, h2⟩
            apply Classical.byContradiction
            intro hc
            have : i = pos := by omega
            subst this
            rw [hn] at h2; cases h2
      · have hb := nameCh_big (decode_big s pos hp ha)
        rw [if_pos hb]
        have hn : nameCh (s[pos]'hp).toNat = false := by
          have := nameCh_big (n := (s[pos]'hp).toNat) (by omega)
          simpa [notNameCh] using this
        exact ⟨fun _ => ⟨pos, hp, Nat.le_refl _, hn⟩, fun _ => by omega⟩
    · rw [if_neg hp]
      constructor
      · intro h; omega
      · rintro ⟨i, h, h1, _⟩; omega
theorem nameP_iff (s : ByteArray) : nameP s = true ↔ 1 ≤ s.size ∧ s.size ≤ 32 ∧ ∀ i (h : i < s.size), nameCh (s[i]'h).toNat = true := by
  have h := idx_name s s.size 0 (by omega)
  have e : Lib.idxFunc notNameCh true s = Lib.idxFuncFrom notNameCh true s s.size 0 := rfl
  have hs : s.toList.isEmpty = decide (s.size = 0) := by
    rw [Lib.toList_data]
    cases hd : s.data.toList with
    | nil => rw [decide_eq_true (show s.size = 0 by show s.data.size = 0; rw [← Array.length_toList, hd]; rfl)]; rfl
    | cons x l => rw [decide_eq_false (show ¬ s.size = 0 by show ¬ s.data.size = 0; rw [← Array.length_toList, hd]; simp)]; rfl
  unfold nameP
  rw [hs, e]
  simp only [Bool.and_eq_true, Bool.not_eq_true', Bool.or_eq_false_iff, decide_eq_false_iff_not, h]
  constructor
  · rintro ⟨⟨h1, h2⟩, h3⟩
    refine ⟨by omega, by omega, fun i hi => ?_⟩
    cases hn : nameCh (s[i]'hi).toNat with
    | true => rfl
    | false => exact absurd ⟨i, hi, by omega, hn⟩ h3
  · rintro ⟨h1, h2, h3⟩
    exact ⟨⟨by omega, by omega⟩, fun ⟨i, hi, _, hn⟩ => by rw [h3 i hi] at hn; cases hn⟩
end Go.Proofs.YtipedgkampafjaaGreatDoor.Rf
/- Tells what decompose.kinds computes. -/
namespace Go.Proofs.YtipedgkampafjaaGreatDoor.Rf
open Go.Shelf Go.RowKit Go.Proofs.YtipedgkampafjaaGreatDoorW.PrintWords Go.Proofs.YtipedgkampafjaaGreatDoorW.PrintLast Go.Proofs.YtipedgkampafjaaGreatDoorW.PrintMore

def badKind (m : S61) : Bool := m.f2.toList.isEmpty && ((m.f1.length : Int) != 1) && ((m.f1.length : Int) != 2)
def badData (cl : List S71) (m : S61) : Bool := (hk m.f0 != 0) || (!m.f2.toList.isEmpty && !starter cl m.f0)
def sameFrom (a b : S61) : Bool := a.f0 == b.f0
def kindsE (cl : List S71) (l : List S61) : Int := if pairAny sameFrom l then 5 else if l.any badKind then 8 else if l.any (badData cl) then 11 else 0

set_option maxRecDepth 100000 in
set_option maxHeartbeats 8000000 in
theorem kinds1_any (x : S61) (A : Option Addr) (c : Nat) (w : World) :
    Calls Tryz.prog 58 #[.agg #[.int .i64 x.f0, .slice A x.f1.length c, .string x.f2]] w fun e w' => e = .returned (.bool (badKind x)) ∧ Below w.heap.size w w' := by
  have HB := Lib.hid (show badKind x = (x.f2.toList.isEmpty && ((x.f1.length : Int) != 1) && ((x.f1.length : Int) != 2)) from rfl)
  cases h1 : x.f2.toList.isEmpty <;> cases h2 : ((x.f1.length : Int) != 1) <;> cases h3 : ((x.f1.length : Int) != 2)
  all_goals
    rw [h1, h2, h3] at HB
    generalize badKind x = r at HB
    go_enter Tryz.func58, Tryz.ntmps58
    go_wp2_with fail
    go_ret
    exact ⟨ret_bool (by rw [HB.out]; rfl), below_alloc (Below.refl _ _) _⟩

set_option maxRecDepth 100000 in
set_option maxHeartbeats 8000000 in
theorem kinds2_any (Ac : Option Addr) (cc : Nat) (cl : List S71) (x : S61) (A : Option Addr) (c : Nat) (p : Addr) (w : World) (hG : GL w) (hr : Kd.C k71 w Ac cl.length cl) (hc : cl.length ≤ cc) (hl : cl.length < 4611686018427387904)
    (hp : w.cell? p = some (.slice Ac cl.length cc)) :
    Calls Tryz.prog 59 #[.agg #[.int .i64 x.f0, .slice A x.f1.length c, .string x.f2], .pointer (some p)] w fun e w' => e = .returned (.bool (badData cl x)) ∧ Below w.heap.size w w' := by
  have HB := Lib.hid (show badData cl x = ((hk x.f0 != 0) || (!x.f2.toList.isEmpty && !starter cl x.f0)) from rfl)
  have HP := Aside0.mk hp
  have HG := Aside0.mk hG
  have HR := Aside0.mk hr
  have hpb := cell_lt hp
  have HK := Aside0.mk (fun w => kind_any x.f0 w)
  have HS := Aside0.mk (fun w hG hr => starter_any Ac cc cl x.f0 w hG hr hc hl)
  clear hp hG hr
  generalize hk x.f0 = h at HB HK
  generalize starter cl x.f0 = s at HB HS
  generalize badData cl x = r at HB
  cases h1 : (h != 0) with
  | true =>
    rw [h1] at HB
    go_enter Tryz.func59, Tryz.ntmps59
    go_wp2_with fail
    refine (HK.out _).mono ?_
    rintro e w' ⟨rfl, hb1⟩
    go_wp2_with fail
    go_ret
    exact ⟨ret_bool (by rw [HB.out]; rfl), below_step (below_alloc (Below.refl _ _) _) hb1⟩
  | false =>
    cases h2 : x.f2.toList.isEmpty with
    | true =>
      rw [h1, h2] at HB
      go_enter Tryz.func59, Tryz.ntmps59
      go_wp2_with fail
      refine (HK.out _).mono ?_
      rintro e w' ⟨rfl, hb1⟩
      have k2 : w'.cell? ⟨w.heap.size, 2, none⟩ = some (.string x.f2) := by rw [hb1.cell (by simp)]; simp
      have HB1 := Aside0.mk hb1
      clear hb1
      go_wp2_with fail
      go_ret
      exact ⟨ret_bool (by rw [HB.out]; rfl), below_step (below_alloc (Below.refl _ _) _) HB1.out⟩
    | false =>
      rw [h1, h2] at HB
      go_enter Tryz.func59, Tryz.ntmps59
      go_wp2_with fail
      refine (HK.out _).mono ?_
      rintro e w' ⟨rfl, hb1⟩
      have k2 : w'.cell? ⟨w.heap.size, 2, none⟩ = some (.string x.f2) := by rw [hb1.cell (by simp)]; simp
      have k0 : w'.cell? ⟨w.heap.size, 0, none⟩ = some (.int .i64 x.f0) := by rw [hb1.cell (by simp)]; simp
      have HB1 := Aside0.mk (below_step (below_alloc (Below.refl w.heap.size w) _) hb1)
      have kp : w'.cell? p = some (.slice Ac cl.length cc) := by rw [HB1.out.cell hpb]; exact HP.out
      clear hb1
      cases s <;>
      · go_wp2_with fail
        refine (HS.out w' (GL.below HG.out HB1.out) (Kd.C_below HR.out HB1.out)).mono ?_
        rintro e w2 ⟨rfl, hb2⟩
        go_wp2_with fail
        go_ret
        exact ⟨ret_bool (by rw [HB.out]; rfl), below_step HB1.out hb2⟩
end Go.Proofs.YtipedgkampafjaaGreatDoor.Rf
/- Tells what decompose.kinds computes, whole. -/
namespace Go.Proofs.YtipedgkampafjaaGreatDoor.Rf
open Go.Shelf Go.RowKit Go.Proofs.YtipedgkampafjaaGreatDoorW.PrintWords Go.Proofs.YtipedgkampafjaaGreatDoorW.PrintLast Go.Proofs.YtipedgkampafjaaGreatDoorW.PrintMore

set_option maxRecDepth 100000 in
set_option maxHeartbeats 8000000 in
theorem kinds_any (Ac Ad Ax : Option Addr) (cc cd nx cx : Nat) (cl : List S71) (dm : List S61) (w : World) (hG : GL w) (hrc : Kd.C k71 w Ac cl.length cl) (hcc : cl.length ≤ cc) (hlc : cl.length < 4611686018427387904)
    (hrd : Kd.C k61 w Ad dm.length dm) (hcd : dm.length ≤ cd) (hld : dm.length < 4611686018427387904) :
    Calls Tryz.prog 32 #[.agg #[.slice Ac cl.length cc, .slice Ad dm.length cd, .slice Ax nx cx]] w fun e w' => e = .returned (.int .i64 (kindsE cl dm)) ∧ Below w.heap.size w w' := by
  have eg1 : ∀ args w, (callFunc 58 args).run Tryz.prog w = .ok (.enter 58 args) w := enters_of Tryz.func58 (by kernel_rfl) rfl
  have eg2 : ∀ args w, (callFunc 59 args).run Tryz.prog w = .ok (.enter 59 args) w := enters_of Tryz.func59 (by kernel_rfl) rfl
  have HK := Lib.hid (show kindsE cl dm = if pairAny sameFrom dm then 5 else if dm.any badKind then 8 else if dm.any (badData cl) then 11 else 0 from rfl)
  have HG := Aside0.mk hG
  have HC := Aside0.mk hrc
  have HD := Aside0.mk hrd
  have HA1 : Aside0 (∀ W : World, Below w.heap.size w W → Calls Tryz.prog 57 #[.slice Ad dm.length cd, .func (.func 58) #[] #[]] W fun e w' => e = .returned (.bool (dm.any badKind)) ∧ Below W.heap.size W w') :=
    ⟨fun W hW => hasMap_ badKind 58 #[] eg1 Ad cd dm W (Kd.C_below HD.out hW) hcd (by omega) (fun x A1 c1 W2 _ _ _ _ => kinds1_any x A1 c1 W2)⟩
  have HA2 : Aside0 (∀ W : World, Below w.heap.size w W → W.cell? ⟨w.heap.size, 0, none⟩ = some (.slice Ac cl.length cc) → Calls Tryz.prog 57 #[.slice Ad dm.length cd, .func (.func 59) #[] #[.pointer (some ⟨w.heap.size, 0, none⟩)]] W fun e w' => e = .returned (.bool (dm.any (badData cl))) ∧ Below W.heap.size W w') :=
    ⟨fun W hW hcell => hasMap_ (badData cl) 59 #[.pointer (some ⟨w.heap.size, 0, none⟩)] eg2 Ad cd dm W (Kd.C_below HD.out hW) hcd (by omega) (fun x A1 c1 W2 _ _ _ hb =>
      kinds2_any Ac cc cl x A1 c1 ⟨w.heap.size, 0, none⟩ W2 (GL.below HG.out (below_step hW hb)) (Kd.C_below HC.out (below_step hW hb)) hcc hlc (by rw [hb.cell (cell_lt hcell)]; exact hcell))⟩
  clear hG hrc hrd eg1 eg2
  go_enter Tryz.func32, Tryz.ntmps32
  go_wp2_with fail
  have hb0 : Below w.heap.size w (w.alloc (.cells #[.slice Ac cl.length cc, .slice Ad dm.length cd, .slice Ax nx cx] 28)) := below_alloc (Below.refl _ _) _
  have hk0 : (w.alloc (.cells #[.slice Ac cl.length cc, .slice Ad dm.length cd, .slice Ax nx cx] 28)).cell? ⟨w.heap.size, 0, none⟩ = some (.slice Ac cl.length cc) := by simp
  go_loopw [4] (fun v wr => ∃ j : Nat, v = .int .i64 ((j : Int) + 1) ∧ (j = 0 ∨ j < dm.length) ∧ Aside0 (pairAny sameFrom (dm.take (j + 1)) = false) ∧ Aside0 (wr.cell? ⟨w.heap.size, 0, none⟩ = some (.slice Ac cl.length cc)) ∧ Aside0 (Below w.heap.size w wr)) (fun v _ => dm.length - (intOf v).toNat)
  case atStart => exact ⟨0, rfl, Or.inl rfl, ⟨pairAny_short _ _ (by simp; omega)⟩, ⟨hk0⟩, ⟨hb0⟩⟩
  case round =>
    clear hb0 hk0
    obtain ⟨j, rfl, hj, HA, HX, HB⟩ := hrel
    by_cases hlt : j + 1 < dm.length
    · obtain ⟨ad, A1, c1, e, hx0, hx1, hx2, hl1, hi1⟩ := at_T61 (Kd.C_below HD.out HB.out) (j : Int) (by omega) (by omega)
      obtain ⟨ad', A2, c2, e', hy0, hy1, hy2, hl2, hi2⟩ := at_T61 (Kd.C_below HD.out HB.out) ((j : Int) + 1) (by omega) (by omega)
      subst e
      cases e'
      clear hl1 hi1 hl2 hi2
      have ei : ((j : Int) + 1).toNat = j + 1 := by omega
      simp only [ei, Int.toNat_natCast] at hx0 hx1 hx2 hy0 hy1 hy2
      have HT := Aside0.mk (pairAny_take sameFrom dm z61 (j + 1) (by omega) hlt)
      have H1 : Aside0 (rd_T61 dm (j : Int) = dm.getD (j + 1 - 1) z61) := ⟨rfl⟩
      have H2 : Aside0 (rd_T61 dm ((j : Int) + 1) = dm.getD (j + 1) z61) := ⟨by rw [rd_T61, ei]⟩
      rw [HA.out, ← H1.out, ← H2.out, Bool.false_or] at HT
      generalize rd_T61 dm ((j : Int) + 1) = y at hy0 hy1 hy2 HT H2
      generalize rd_T61 dm (j : Int) = x at hx0 hx1 hx2 HT H1
      have p0 : (0 : Int) ≤ (j : Int) + 1 := by omega
      have p1 : (j : Int) + 1 < (dm.length : Int) := by omega
      have p3 : (j : Int) < (dm.length : Int) := by omega
      have p4 : j < dm.length := by omega
      have hw : IntKind.i64.wrap (j : Int) = (j : Int) := IntWalk.i64_in _ (by omega)
      have hw2 : IntKind.i64.wrap ((j : Int) + 1 + 1) = (j : Int) + 1 + 1 := IntWalk.i64_in _ (by omega)
      cases hq : (x.f0 == y.f0) with
      | true =>
        go_wp2_with fail
        go_quiet (fail)
        go_wp2_with fail
        go_ret
        exact ⟨ret_int (by rw [HK.out, pairAny_prefix sameFrom dm _ (HT.out.trans hq)]; rfl), pw_below_drewN HB.out _⟩
      | false =>
        go_wp2_with fail
        go_quiet (fail)
        go_wp2_with fail
        go_roundw
        case rel => exact ⟨j + 1, by first | rfl | go_num, Or.inr hlt, ⟨HT.out.trans hq⟩, HX, ⟨pw_below_drewN HB.out _⟩⟩
        case measure => simp [intOf]; omega
    · have HN : Aside0 (pairAny sameFrom dm = false) := ⟨by have h := HA.out; rwa [List.take_of_length_le (by omega)] at h⟩
      rw [HN.out, if_neg (by decide)] at HK
      cases h1 : dm.any badKind with
      | true =>
        go_wp2_with fail
        refine (HA1.out _ HB.out).mono ?_
        rintro e w1 ⟨rfl, hb1⟩
        rw [h1]
        go_wp2_with fail
        go_ret
        exact ⟨ret_int (by rw [HK.out, h1]; rfl), below_step HB.out hb1⟩
      | false =>
        rw [h1, if_neg (by decide)] at HK
        cases h2 : dm.any (badData cl) with
        | true =>
          go_wp2_with fail
          refine (HA1.out _ HB.out).mono ?_
          rintro e w1 ⟨rfl, hb1⟩
          rw [h1]
          have HB1 := Aside0.mk (below_step HB.out hb1)
          have hcell : w1.cell? ⟨w.heap.size, 0, none⟩ = some (.slice Ac cl.length cc) := by rw [hb1.cell (cell_lt HX.out)]; exact HX.out
          clear hb1
          go_wp2_with fail
          refine (HA2.out _ HB1.out hcell).mono ?_
          rintro e w2 ⟨rfl, hb2⟩
          rw [h2]
          go_wp2_with fail
          go_ret
          exact ⟨ret_int (by rw [HK.out, h2]; rfl), below_step HB1.out hb2⟩
        | false =>
          go_wp2_with fail
          refine (HA1.out _ HB.out).mono ?_
          rintro e w1 ⟨rfl, hb1⟩
          rw [h1]
          have HB1 := Aside0.mk (below_step HB.out hb1)
          have hcell : w1.cell? ⟨w.heap.size, 0, none⟩ = some (.slice Ac cl.length cc) := by rw [hb1.cell (cell_lt HX.out)]; exact HX.out
          clear hb1
          go_wp2_with fail
          refine (HA2.out _ HB1.out hcell).mono ?_
          rintro e w2 ⟨rfl, hb2⟩
          rw [h2]
          go_wp2_with fail
          go_ret
          exact ⟨ret_int (by rw [HK.out, h2]; rfl), below_step HB1.out hb2⟩
end Go.Proofs.YtipedgkampafjaaGreatDoor.Rf
/- Tells what decompose.load makes. -/
namespace Go.Proofs.YtipedgkampafjaaGreatDoor.Rf
open Go.Shelf Go.RowKit Go.Proofs.YtipedgkampafjaaGreatDoorW.PrintWords Go.Proofs.YtipedgkampafjaaGreatDoorW.PrintLast Go.Proofs.YtipedgkampafjaaGreatDoorW.PrintMore

/-- A value that stands for a mapping whose target lies in the world w0. -/
def RepM (w0 : World) (v : Value) (m : S61) : Prop := ∃ A c, v = .agg #[.int .i64 m.f0, .slice A m.f1.length c, .string m.f2] ∧ m.f1.length ≤ c ∧ (Kd.int .i64).C w0 A m.f1.length m.f1
def RelM (w0 : World) : Option Value → Option S61 → Prop
  | none, none => True
  | some v, some m => RepM w0 v m
  | _, _ => False
/-- The last mapping of a number. -/
def lastM (l : List S61) (x : Int) : Option S61 := l.reverse.find? fun m => m.f0 == x
theorem lastM_snoc (l : List S61) (m : S61) (x : Int) : lastM (l ++ [m]) x = if x = m.f0 then some m else lastM l x := by
  simp only [lastM, List.reverse_append, List.reverse_cons, List.reverse_nil, List.nil_append, List.singleton_append, List.find?_cons]
  by_cases h : x = m.f0
  · simp [h]
  · have : (m.f0 == x) = false := by simpa using fun e => h e.symm
    simp [h, this]
theorem lastM_mem {l : List S61} {x : Int} {m : S61} (h : lastM l x = some m) : m ∈ l ∧ m.f0 = x := by
  have h1 := List.mem_of_find?_eq_some h
  have h2 := List.find?_some h
  exact ⟨by simpa using h1, by simpa using h2⟩

/-- Block p of w holds the data of mappings dm: the maps lie in the blocks b1 and b2; the mappings' targets in the world w0. -/
structure DataM (w0 w : World) (p b1 b2 : Nat) (dm : List S61) (compat : Bool) : Prop where
  c0 : w.cell? ⟨p, 0, none⟩ = some (.map (some b1))
  c1 : w.cell? ⟨p, 1, none⟩ = some (.bool compat)
  c2 : w.cell? ⟨p, 2, none⟩ = some (.map (some b2))
  low : w0.heap.size ≤ p ∧ w0.heap.size ≤ b1 ∧ w0.heap.size ≤ b2
  ne : b1 ≠ b2 ∧ p ≠ b1 ∧ p ≠ b2
  maps : ∃ f, MapF Tryz.prog 3 encI w b1 dm.length f ∧ ∀ x, RelM w0 (f x) (lastM dm x)
  below : Below w0.heap.size w0 w

theorem zeroInt (w : World) : (zeroValue 3).run Tryz.prog w = .ok (.int .i64 0) w := by kernel_rfl

set_option maxRecDepth 100000 in
theorem putM {w : World} {b n : Nat} {f : Int → Option Value} (h : MapF Tryz.prog 3 encI w b n f) (x : Int) (v : Value) (hx : -9223372036854775808 ≤ x ∧ x ≤ 9223372036854775807) (hn : n < 9223372036854775807) :
    ∃ w', (Instr.mapUpdate 82 (.map (some b)) (.int .i64 x) v).run Tryz.prog w = .ok () w' ∧ MapF Tryz.prog 3 encI w' b (n + 1) (fun y => if y = x then some v else f y) ∧ w.grownBy w' (some b) :=
  h.update keyed_int encI_inj Tryz.underlying82 (by simp [maxLen]; omega) (keyI Tryz.underlying3 hx)

theorem cell_grown {W W' : World} {b : Nat} {a : Addr} {v : Value} (hg : W.grownBy W' (some b)) (ha : a.block ≠ b) (h : W.cell? a = some v) : W'.cell? a = some v := by
  have hl := cell_lt h
  rw [World.cell?_of_block (w := W) (hg.block a.block hl (by intro e; cases e; exact ha rfl)), h]
theorem RelM.below {w w' : World} (hb : Below w.heap.size w w') {v : Option Value} {m : Option S61} (h : RelM w v m) : RelM w' v m := by
  match v, m, h with
  | none, none, _ => trivial
  | some v, some m, ⟨A, c, h1, h2, h3⟩ => exact ⟨A, c, h1, h2, Kd.C_below h3 hb⟩

/-- Whatever changes nothing below the present size keeps the data. -/
theorem DataM.mono {w0 w w' : World} {p b1 b2 : Nat} {dm : List S61} {compat : Bool} (h : DataM w0 w p b1 b2 dm compat) (hb : Below w.heap.size w w') : DataM w0 w' p b1 b2 dm compat where
  c0 := by rw [hb.cell (cell_lt h.c0)]; exact h.c0
  c1 := by rw [hb.cell (cell_lt h.c1)]; exact h.c1
  c2 := by rw [hb.cell (cell_lt h.c2)]; exact h.c2
  low := h.low
  ne := h.ne
  maps := by obtain ⟨f, h1, h2⟩ := h.maps; exact ⟨f, h1.below hb h1.lt, h2⟩
  below := below_step h.below hb
/-- So does an update of another map of the call's own. -/
theorem DataM.turned {w0 w w' : World} {p b1 b2 b : Nat} {dm : List S61} {compat : Bool} (h : DataM w0 w p b1 b2 dm compat) (hg : w.grownBy w' (some b)) (hp : p ≠ b) (h1 : b1 ≠ b) (hb : w0.heap.size ≤ b) (hlt : b < w.heap.size) : DataM w0 w' p b1 b2 dm compat where
  c0 := cell_grown hg hp h.c0
  c1 := cell_grown hg hp h.c1
  c2 := cell_grown hg hp h.c2
  low := h.low
  ne := h.ne
  maps := by obtain ⟨f, hf, h2⟩ := h.maps; exact ⟨f, hf.kept hg (by intro e; cases e; exact h1 rfl), h2⟩
  below := below_turned h.below hg hb hlt

set_option maxRecDepth 100000 in
set_option maxHeartbeats 8000000 in
theorem load_any (A : Option Addr) (c : Nat) (dm : List S61) (compat : Bool) (w : World) (hr : Kd.C k61 w A dm.length dm) (hl : dm.length < 4611686018427387904) (hv : ∀ m ∈ dm, -9223372036854775808 ≤ m.f0 ∧ m.f0 ≤ 9223372036854775807) :
    Calls Tryz.prog 33 #[.slice A dm.length c, .bool compat] w fun e w' => e = .returned (.pointer (some ⟨w.heap.size + 1 + 1, 0, none⟩)) ∧ DataM w w' (w.heap.size + 1 + 1) w.heap.size (w.heap.size + 1) dm compat ∧ MapF Tryz.prog 3 encI w' (w.heap.size + 1) 0 (fun _ => none) := by
  have HR := Aside0.mk hr
  have HV := Aside0.mk hv
  have hmm := @run_makeMap Tryz.prog
  clear hr hv
  have HD0 : Aside0 (DataM w (((w.alloc (.map #[] 0)).alloc (.map #[] 0)).alloc (.cells #[.map (some w.heap.size), .bool compat, .map (some (w.heap.size + 1))] 85)) (w.heap.size + 1 + 1) w.heap.size (w.heap.size + 1) [] compat) := ⟨by
    refine ⟨?_, ?_, ?_, by omega, by omega, ⟨fun _ => none, ((MapF.made w Tryz.prog 3 encI).alloc _).alloc _, fun x => trivial⟩, below_alloc (below_alloc (below_alloc (Below.refl _ _) _) _) _⟩
    all_goals
      rw [show w.heap.size + 1 + 1 = ((w.alloc (.map #[] 0)).alloc (.map #[] 0)).heap.size by simp, World.cell?_alloc_new]
      rfl⟩
  have HE0 : Aside0 (MapF Tryz.prog 3 encI (((w.alloc (.map #[] 0)).alloc (.map #[] 0)).alloc (.cells #[.map (some w.heap.size), .bool compat, .map (some (w.heap.size + 1))] 85)) (w.heap.size + 1) 0 (fun _ => none)) := ⟨by
    have h := (MapF.made (w.alloc (.map #[] 0)) Tryz.prog 3 encI)
    rw [show (w.alloc (.map #[] 0)).heap.size = w.heap.size + 1 by simp] at h
    exact h.alloc _⟩
  go_enter Tryz.func33, Tryz.ntmps33
  go_wp2_with fail
  go_loopw [15] (fun v wr => ∃ j : Nat, v = .int .i64 (j : Int) ∧ j ≤ dm.length ∧ Aside0 (DataM w wr (w.heap.size + 1 + 1) w.heap.size (w.heap.size + 1) (dm.take j) compat) ∧ Aside0 (MapF Tryz.prog 3 encI wr (w.heap.size + 1) 0 (fun _ => none))) (fun v _ => dm.length - (intOf v).toNat)
  case atStart => exact ⟨0, rfl, by omega, HD0, HE0⟩
  case round =>
    clear HD0 HE0
    obtain ⟨j, rfl, hj, HD, HE⟩ := hrel
    by_cases hlt : j < dm.length
    · obtain ⟨ad, A1, c1, e, hy0, hy1, hy2, hl1, hi1⟩ := at_T61 HR.out (j : Int) (by omega) (by omega)
      subst e
      simp only [Int.toNat_natCast] at hy0 hy1 hy2
      have hx0 := HD.out.below.cell (cell_lt hy0)
      have hx1 := HD.out.below.cell (cell_lt hy1)
      have hx2 := HD.out.below.cell (cell_lt hy2)
      rw [hy0] at hx0
      rw [hy1] at hx1
      rw [hy2] at hx2
      clear hy0 hy1 hy2
      have HX : Aside0 (rd_T61 dm (j : Int) = dm.getD j z61) := ⟨rfl⟩
      generalize rd_T61 dm (j : Int) = x at hx0 hx1 hx2 hl1 hi1 HX
      have HM : Aside0 (RepM w (.agg #[.int .i64 x.f0, .slice A1 x.f1.length c1, .string x.f2]) x) := ⟨A1, c1, rfl, hl1, hi1⟩
      clear hl1 hi1
      have HT : Aside0 (dm.take (j + 1) = dm.take j ++ [x]) := ⟨by
        rw [List.take_succ_eq_append_getElem hlt, HX.out, List.getD_eq_getElem?_getD, List.getElem?_eq_getElem hlt]; rfl⟩
      have hk0 := HD.out.c0
      obtain ⟨f, hf, hrel⟩ := HD.out.maps
      obtain ⟨w', hup, hmf, hg⟩ := putM (hf.alloc (.cells #[.int .i64 x.f0, .slice A1 x.f1.length c1, .string x.f2] 61)).drew x.f0 (.agg #[.int .i64 x.f0, .slice A1 x.f1.length c1, .string x.f2]) (HV.out x (HX.out ▸ getD_mem dm _ j hlt)) (by simp; omega)
      have HF := Aside0.mk hrel
      have HMF := Aside0.mk hmf
      have HGR := Aside0.mk hg
      clear hf hrel hmf hg
      go_wp2_with fail
      refine wp_region_still_tail 7 (by kernel_rfl) (by kernel_rfl) ?_
      simp only [List.take_succ_cons, List.take_zero, List.drop_succ_cons, List.drop_zero]
      generalize hW : wr.alloc (.cells #[.int .i64 x.f0, .slice A1 x.f1.length c1, .string x.f2] 61) = W at hup HMF HGR
      change wpStill _ _ W.drew _ _ _
      have e0 : W.cell? ⟨w.heap.size + 1 + 1, 0, none⟩ = some (.map (some w.heap.size)) := by
        rw [← hW, (below_alloc (Below.refl wr.heap.size wr) _).cell (cell_lt hk0)]; exact hk0
      have m0 : W.cell? ⟨wr.heap.size, 0, none⟩ = some (.int .i64 x.f0) := by rw [← hW]; simp
      have m1 : W.cell? ⟨wr.heap.size, 1, none⟩ = some (.slice A1 x.f1.length c1) := by rw [← hW]; simp
      have m2 : W.cell? ⟨wr.heap.size, 2, none⟩ = some (.string x.f2) := by rw [← hW]; simp
      have HWD : Aside0 (DataM w W.drew (w.heap.size + 1 + 1) w.heap.size (w.heap.size + 1) (dm.take j) compat) := ⟨by
        rw [← hW]; exact HD.out.mono (below_drew (below_alloc (Below.refl wr.heap.size wr) _))⟩
      have HWE : Aside0 (MapF Tryz.prog 3 encI W.drew (w.heap.size + 1) 0 (fun _ => none)) := ⟨by
        rw [← hW]; exact (HE.out.alloc _).drew⟩
      clear hW
      repeat still_step
      refine wpStill_nil ?_
      go_wp2_with fail
      go_roundw
      case rel =>
        refine ⟨j + 1, by first | rfl | go_num, by omega, ⟨?_⟩, ⟨HWE.out.kept HGR.out (by simp)⟩⟩
        rw [HT.out]
        have hd := HWD.out
        refine ⟨cell_grown HGR.out (by simp; omega) hd.c0, cell_grown HGR.out (by simp; omega) hd.c1, cell_grown HGR.out (by simp; omega) hd.c2, hd.low, hd.ne, ⟨_, HMF.out.mono (by simp), fun y => ?_⟩, below_turned hd.below HGR.out (Nat.le_refl _) (by obtain ⟨g, hg, _⟩ := hd.maps; exact hg.lt)⟩
        rw [lastM_snoc]
        by_cases hy : y = x.f0
        · simp only [hy, if_true]; exact HM.out
        · simp only [hy, if_false]; exact HF.out y
      case measure => simp [intOf]; omega
    · go_wp2_with fail
      go_ret
      exact ⟨rfl, by have h := HD.out; rwa [List.take_of_length_le (by omega)] at h, HE.out⟩
end Go.Proofs.YtipedgkampafjaaGreatDoor.Rf
/- Tells what hangul.Decompose gives. -/
namespace Go.Proofs.YtipedgkampafjaaGreatDoor.Rf
open Go.Shelf Go.RowKit Go.Proofs.YtipedgkampafjaaGreatDoorW.PrintWords Go.Proofs.YtipedgkampafjaaGreatDoorW.PrintLast Go.Proofs.YtipedgkampafjaaGreatDoorW.PrintMore

def hp0 (c : Int) : Int := 4352 + (c - 44032) / 28 / 21
def hp1 (c : Int) : Int := 4449 + (c - 44032) / 28 % 21
def hp2 (c : Int) : Int := if (c - 44032) % 28 = 0 then 0 else 4520 + (c - 44032) % 28 - 1
/-- The parts of a syllable, or the number alone. -/
def hdec (c : Int) : List Int := if hk c < 4 then [c] else if (c - 44032) % 28 = 0 then [hp0 c, hp1 c] else [hp0 c, hp1 c, hp2 c]

theorem heap2_old (w : World) (o1 o2 : Obj) : ((w.alloc o1).alloc o2).heap[w.heap.size]? = some o1 := by
  rw [Below.heap_alloc _ _ _ (by simp)]
  show (w.heap.push o1)[w.heap.size]? = some o1
  simp
set_option maxRecDepth 100000 in
set_option maxHeartbeats 8000000 in
theorem parts_any (c : Int) (w : World) (h1 : 44032 ≤ c) (h2 : c < 55204) :
    Calls Tryz.prog 94 #[.int .i64 c] w fun e w' => e = .returned (.agg #[.int .i64 (hp0 c), .int .i64 (hp1 c), .int .i64 (hp2 c)]) ∧ Below w.heap.size w w' := by
  go_enter Tryz.func94, Tryz.ntmps94
  go_wp2_with fail
  · (try simp only [Exit.inBlock, Exit.then])
    refine bodyPost_ret (results_cell_row rfl _ _ w.heap.size 119 _ (0, 0) _ rfl (heap2_old _ _ _) Tryz.underlying119 rfl (by kernel_rfl)) rfl ?_
    refine ⟨?_, by repeat (first | exact Below.refl _ _ | apply below_alloc)⟩
    rw [hp0, hp1, hp2, if_neg (by omega)]
  · (try simp only [Exit.inBlock, Exit.then])
    refine bodyPost_ret (results_cell_row rfl _ _ w.heap.size 119 _ (0, 0) _ rfl (heap2_old _ _ _) Tryz.underlying119 rfl (by kernel_rfl)) rfl ?_
    refine ⟨?_, by repeat (first | exact Below.refl _ _ | apply below_alloc)⟩
    rw [hp0, hp1, hp2, if_pos (by omega)]

theorem hk_syl {c : Int} (h : ¬ hk c < 4) : 44032 ≤ c ∧ c < 55204 := by
  apply Classical.byContradiction
  intro hn
  apply h
  unfold hk
  rw [if_neg hn]
  repeat' split
  all_goals omega
theorem hp_pos (c : Int) (h1 : 44032 ≤ c) (h2 : c < 55204) : ((c - 44032) % 28 = 0 → hp2 c = 0) ∧ (¬ (c - 44032) % 28 = 0 → 0 < hp2 c) := by
  unfold hp2
  refine ⟨fun h => by rw [if_pos h], fun h => by rw [if_neg h]; omega⟩

theorem infoInt : ∃ i, Tryz.prog.info? 3 = some i := Option.isSome_iff_exists.1 (by kernel_rfl)
theorem part0 (a b c : Int) (w : World) : (part 3 #[.int .i64 a, .int .i64 b, .int .i64 c] 0).run Tryz.prog w = .ok (.int .i64 a) w := by kernel_rfl
theorem part1 (a b c : Int) (w : World) : (part 3 #[.int .i64 a, .int .i64 b, .int .i64 c] 1).run Tryz.prog w = .ok (.int .i64 b) w := by kernel_rfl
theorem part2 (a b c : Int) (w : World) : (part 3 #[.int .i64 a, .int .i64 b, .int .i64 c] 2).run Tryz.prog w = .ok (.int .i64 c) w := by kernel_rfl
set_option maxRecDepth 100000 in
theorem eq3 (a b c a' b' c' : Int) (w : World) : (Op.equalIn 10000 119 (.agg #[.int .i64 a, .int .i64 b, .int .i64 c]) (.agg #[.int .i64 a', .int .i64 b', .int .i64 c'])).run Tryz.prog w = .ok (a == a' && b == b' && c == c') w := by
  obtain ⟨i, hi⟩ := infoInt
  have hc : Tryz.prog.cellsOf 3 = 1 := by kernel_rfl
  have e : ∀ x y : Int, (Op.equalIn 9999 3 (.int .i64 x) (.int .i64 y)).run Tryz.prog w = .ok (x == y) w := fun x y => run_equalIn_int w 9998 3 .i64 .i64 x y Tryz.underlying3
  rw [run_equalIn_array w 9999 _ _ Tryz.underlying119 hi, hc, show List.range 3 = [0, 1, 2] from rfl]
  simp only [Op.eqItems, Nat.mul_one, Sem.run_bind, part0, part1, part2, Result.andThen_ok, e]
  by_cases h1 : a = a' <;> by_cases h2 : b = b' <;> by_cases h3 : c = c' <;> simp [part1, part2, e, h1, h2, h3]
/-- A row of cells of one block. -/
theorem C_row {w : World} {A : Addr} {l : List Int} (hl : l.length ≤ 9223372036854775807) (h : ∀ j, j < l.length → w.cell? (A.add j) = some (.int .i64 (l.getD j 0))) : (Kd.int .i64).C w (some A) l.length l :=
  Kd.C_of_reads (d := (0 : Int)) (h1 := fun _ => rfl) ⟨rfl, hl, fun _ => ⟨A, rfl, h⟩⟩

set_option maxRecDepth 100000 in
set_option maxHeartbeats 8000000 in
theorem hdec_any (c : Int) (w : World) :
    Calls Tryz.prog 72 #[.int .i64 c] w fun e w' => (∃ ad cp, e = .returned (.slice (some ad) (hdec c).length cp) ∧ (hdec c).length ≤ cp ∧ (Kd.int .i64).C w' (some ad) (hdec c).length (hdec c)) ∧ Below w.heap.size w w' := by
  have HK := Aside0.mk (kind_any c)
  cases hlt : decide (hk c < 4) with
  | true =>
    have HD : Aside0 (hdec c = [c]) := ⟨by rw [hdec, if_pos (of_decide_eq_true hlt)]⟩
    rw [HD.out]
    generalize hk c = k at HK hlt
    go_enter Tryz.func72, Tryz.ntmps72
    go_wp2_with fail
    refine (HK.out _).mono ?_
    rintro e w' ⟨rfl, hb1⟩
    go_wp2_with fail
    go_ret
    exact ⟨⟨_, _, rfl, Nat.le_refl _, C_one (by simp)⟩, below_alloc hb1 _⟩
  | false =>
    have hs := hk_syl (of_decide_eq_false hlt)
    have HPA := Aside0.mk (fun w => parts_any c w hs.1 hs.2)
    have hpp := hp_pos c hs.1 hs.2
    have HDe : Aside0 (hdec c = if (c - 44032) % 28 = 0 then [hp0 c, hp1 c] else [hp0 c, hp1 c, hp2 c]) := ⟨by rw [hdec, if_neg (of_decide_eq_false hlt)]⟩
    generalize hdec c = l at HDe
    clear hs
    generalize hp0 c = p0 at HPA HDe
    generalize hp1 c = p1 at HPA HDe
    generalize hp2 c = p2 at HPA HDe hpp
    generalize hk c = k at HK hlt
    by_cases hm : (c - 44032) % 28 = 0
    · rw [if_pos hm] at HDe
      obtain rfl := hpp.1 hm
      rw [HDe.out]
      clear hpp hm
      go_enter Tryz.func72, Tryz.ntmps72
      go_wp2_with fail
      refine (HK.out _).mono ?_
      rintro e w' ⟨rfl, hb1⟩
      go_wp2_with fail
      refine (HPA.out _).mono ?_
      rintro e w2 ⟨rfl, hb2⟩
      have he := eq3 p0 p1 0 p0 p1 0 (w2.alloc (.cells #[.int .i64 p0, .int .i64 p1, .int .i64 0] 119))
      simp only [beq_self_eq_true, Bool.and_self] at he
      go_wp2_with fail
      go_ret
      refine ⟨⟨_, _, rfl, by simp, C_row (by simp) (fun j hj => ?_)⟩, below_alloc (below_step hb1 hb2) _⟩
      simp only [List.length_cons, List.length_nil] at hj
      obtain rfl | rfl : j = 0 ∨ j = 1 := by omega
      all_goals simp [Addr.add]
    · rw [if_neg hm] at HDe
      have hz := hpp.2 hm
      rw [HDe.out]
      clear hpp hm
      go_enter Tryz.func72, Tryz.ntmps72
      go_wp2_with fail
      refine (HK.out _).mono ?_
      rintro e w' ⟨rfl, hb1⟩
      go_wp2_with fail
      refine (HPA.out _).mono ?_
      rintro e w2 ⟨rfl, hb2⟩
      have he := eq3 p0 p1 p2 p0 p1 0 (w2.alloc (.cells #[.int .i64 p0, .int .i64 p1, .int .i64 p2] 119))
      have hz0 : (p2 == 0) = false := by simpa using (by omega : ¬ p2 = 0)
      simp only [beq_self_eq_true, Bool.and_self, hz0, Bool.and_false] at he
      go_wp2_with fail
      go_ret
      refine ⟨⟨_, _, rfl, by simp, C_row (by simp) (fun j hj => ?_)⟩, below_alloc (below_step hb1 hb2) _⟩
      simp only [List.length_cons, List.length_nil] at hj
      obtain rfl | rfl | rfl : j = 0 ∨ j = 1 ∨ j = 2 := by omega
      all_goals simp [Addr.add]
end Go.Proofs.YtipedgkampafjaaGreatDoor.Rf
/- Tells what once finds. -/
namespace Go.Proofs.YtipedgkampafjaaGreatDoor.Rf
open Go.Shelf Go.RowKit Go.Proofs.YtipedgkampafjaaGreatDoorW.PrintWords Go.Proofs.YtipedgkampafjaaGreatDoorW.PrintLast Go.Proofs.YtipedgkampafjaaGreatDoorW.PrintMore

/-- The mapping of a number. -/
def onceS (dm : List S61) (compat : Bool) (c : Int) : Option (List Int) :=
  if hk c < 4 then (match lastM dm c with
    | none => none
    | some m => if !m.f2.toList.isEmpty && !compat then none else some m.f1)
  else some (hdec c)
/-- What once hands back. -/
def OnceRet (w : World) (e : Ending) : Option (List Int) → Prop
  | none => e = .returned (.tuple #[.slice none 0 0, .bool false])
  | some l => ∃ A cp, e = .returned (.tuple #[.slice A l.length cp, .bool true]) ∧ l.length ≤ cp ∧ (Kd.int .i64).C w A l.length l

theorem zeroMap (w : World) : (zeroValue 61).run Tryz.prog w = .ok (.agg #[.int .i64 0, .slice none 0 0, .string ⟨#[]⟩]) w := by kernel_rfl
set_option maxRecDepth 100000 in
theorem lookM {w : World} {b n : Nat} {f : Int → Option Value} (h : MapF Tryz.prog 3 encI w b n f) (x : Int) (hx : -9223372036854775808 ≤ x ∧ x ≤ 9223372036854775807) :
    (Instr.lookup 82 (.map (some b)) (.int .i64 x) true).run Tryz.prog w = .ok (.tuple #[(f x).getD (.agg #[.int .i64 0, .slice none 0 0, .string ⟨#[]⟩]), .bool (f x).isSome]) w :=
  h.lookOk keyed_int Tryz.underlying82 (zeroMap w) (keyI Tryz.underlying3 hx)

set_option maxRecDepth 100000 in
set_option maxHeartbeats 8000000 in
theorem once_any {w0 w : World} {p b1 b2 : Nat} {dm : List S61} {compat : Bool} (h : DataM w0 w p b1 b2 dm compat) (c : Int) (hc : -9223372036854775808 ≤ c ∧ c ≤ 9223372036854775807) :
    Calls Tryz.prog 44 #[.pointer (some ⟨p, 0, none⟩), .int .i64 c] w fun e w' => OnceRet w' e (onceS dm compat c) ∧ Below w.heap.size w w' := by
  have HD := Aside0.mk h
  have HC := Aside0.mk hc
  clear h hc
  have HH := Aside0.mk (hdec_any c w)
  cases hlt : decide (hk c < 4) with
  | false =>
    have HO : Aside0 (onceS dm compat c = some (hdec c)) := ⟨by rw [onceS, if_neg (of_decide_eq_false hlt)]⟩
    have hlen : (1 : Int) < ((hdec c).length : Int) := by
      rw [hdec, if_neg (of_decide_eq_false hlt)]; split <;> simp
    rw [HO.out]
    generalize hdec c = l at HH hlen HO
    clear hlt HO
    go_enter Tryz.func44, Tryz.ntmps44
    go_wp2_with fail
    refine HH.out.mono ?_
    rintro e w' ⟨⟨ad, cp, rfl, h1, h2⟩, hb1⟩
    have H1 := Aside0.mk h1
    have H2 := Aside0.mk h2
    clear h1 h2
    go_wp2_with fail
    go_ret2
    exact ⟨⟨_, _, rfl, H1.out, H2.out⟩, hb1⟩
  | true =>
    have hde : hdec c = [c] := by rw [hdec, if_pos (of_decide_eq_true hlt)]
    rw [hde] at HH
    clear hde
    obtain ⟨f, hf, hrel⟩ := HD.out.maps
    have HR := Aside0.mk (hrel c)
    have HF := Aside0.mk hf
    clear hrel hf
    cases hfc : f c with
    | none =>
      have HO : Aside0 (onceS dm compat c = none) := ⟨by
        rw [onceS, if_pos (of_decide_eq_true hlt)]
        have := HR.out
        rw [hfc] at this
        cases hl : lastM dm c with
        | none => rfl
        | some m => rw [hl] at this; exact this.elim⟩
      rw [HO.out]
      clear hlt HO HR
      go_enter Tryz.func44, Tryz.ntmps44
      go_wp2_with fail
      refine HH.out.mono ?_
      rintro e w' ⟨⟨ad, cp, rfl, h1, h2⟩, hb1⟩
      clear h1 h2
      have hk0 := (HD.out.mono hb1).c0
      have hlook := lookM (HF.out.below hb1 HF.out.lt) c HC.out
      rw [hfc] at hlook
      simp only [Option.getD_none, Option.isSome_none] at hlook
      go_wp2_with fail
      go_ret2
      exact ⟨rfl, below_alloc hb1 _⟩
    | some v =>
      cases hl : lastM dm c with
      | none => have := HR.out; rw [hfc, hl] at this; exact this.elim
      | some m =>
        have hv := HR.out
        rw [hfc, hl] at hv
        obtain ⟨A1, c1, rfl, hl1, hi1⟩ := hv
        have HI := Aside0.mk hi1
        have HL := Aside0.mk hl1
        clear hi1 hl1 HR
        cases hq : (!m.f2.toList.isEmpty && !compat) with
        | true =>
          have HO : Aside0 (onceS dm compat c = none) := ⟨by rw [onceS, if_pos (of_decide_eq_true hlt), hl]; simp only [hq]; rfl⟩
          rw [HO.out]
          clear HO
          rw [Bool.and_eq_true] at hq
          have hq1 : m.f2.toList.isEmpty = false := by simpa using hq.1
          have hq2 : compat = false := by simpa using hq.2
          subst hq2
          clear hq
          go_enter Tryz.func44, Tryz.ntmps44
          go_wp2_with fail
          refine HH.out.mono ?_
          rintro e w' ⟨⟨ad, cp, rfl, h1, h2⟩, hb1⟩
          clear h1 h2
          have hk0 := (HD.out.mono hb1).c0
          have hk1 := (HD.out.mono hb1).c1
          have hlook := lookM (HF.out.below hb1 HF.out.lt) c HC.out
          rw [hfc] at hlook
          simp only [Option.getD_some, Option.isSome_some] at hlook
          have hk2 : (w'.alloc (.cells #[.int .i64 m.f0, .slice A1 m.f1.length c1, .string m.f2] 61)).cell? ⟨p, 1, none⟩ = some (.bool false) := by
            rw [(below_alloc (Below.refl w'.heap.size w') _).cell (cell_lt hk1)]; exact hk1
          go_wp2_with fail
          go_ret2
          exact ⟨rfl, below_alloc hb1 _⟩
        | false =>
          have HO : Aside0 (onceS dm compat c = some m.f1) := ⟨by rw [onceS, if_pos (of_decide_eq_true hlt), hl]; simp only [hq]; rfl⟩
          rw [HO.out]
          clear HO
          cases hq1 : m.f2.toList.isEmpty with
          | true =>
            go_enter Tryz.func44, Tryz.ntmps44
            go_wp2_with fail
            refine HH.out.mono ?_
            rintro e w' ⟨⟨ad, cp, rfl, h1, h2⟩, hb1⟩
            clear h1 h2
            have hk0 := (HD.out.mono hb1).c0
            have hlook := lookM (HF.out.below hb1 HF.out.lt) c HC.out
            rw [hfc] at hlook
            simp only [Option.getD_some, Option.isSome_some] at hlook
            go_wp2_with fail
            go_ret2
            exact ⟨⟨A1, c1, rfl, HL.out, Kd.C_below HI.out (below_alloc (below_step HD.out.below hb1) _)⟩, below_alloc hb1 _⟩
          | false =>
            have hq2 : compat = true := by simpa [hq1] using hq
            subst hq2
            clear hq
            go_enter Tryz.func44, Tryz.ntmps44
            go_wp2_with fail
            refine HH.out.mono ?_
            rintro e w' ⟨⟨ad, cp, rfl, h1, h2⟩, hb1⟩
            clear h1 h2
            have hk0 := (HD.out.mono hb1).c0
            have hk1 := (HD.out.mono hb1).c1
            have hlook := lookM (HF.out.below hb1 HF.out.lt) c HC.out
            rw [hfc] at hlook
            simp only [Option.getD_some, Option.isSome_some] at hlook
            have hk2 : (w'.alloc (.cells #[.int .i64 m.f0, .slice A1 m.f1.length c1, .string m.f2] 61)).cell? ⟨p, 1, none⟩ = some (.bool true) := by
              rw [(below_alloc (Below.refl w'.heap.size w') _).cell (cell_lt hk1)]; exact hk1
            go_wp2_with fail
            go_ret2
            exact ⟨⟨A1, c1, rfl, HL.out, Kd.C_below HI.out (below_alloc (below_step HD.out.below hb1) _)⟩, below_alloc hb1 _⟩
end Go.Proofs.YtipedgkampafjaaGreatDoor.Rf
/- Tells what slices.ContainsFunc does with a predicate that keeps a state. -/
namespace Go.Proofs.YtipedgkampafjaaGreatDoor.Rf
open Go.Shelf Go.RowKit Go.Proofs.YtipedgkampafjaaGreatDoorW.PrintWords Go.Proofs.YtipedgkampafjaaGreatDoorW.PrintLast Go.Proofs.YtipedgkampafjaaGreatDoorW.PrintMore

set_option maxRecDepth 100000 in
set_option maxHeartbeats 4000000 in
theorem idxIntS (I : Nat → World → Prop) (T : World → Prop) (g : Nat) (cb : Array Value) (eg : ∀ args w, (callFunc g args).run Tryz.prog w = .ok (.enter g args) w) (A : Option Addr) (c : Nat) (xs : List Int) (w : World)
    (hI0 : I 0 w) (hl : xs.length ≤ 9223372036854775807) (hI : ∀ k W, I k W → Kd.C (Kd.int .i64) W A xs.length xs)
    (hp : ∀ (k : Nat) (W : World), k < xs.length → I k W → Calls Tryz.prog g (#[.int .i64 (xs.getD k 0)] ++ cb) W fun e w' => (e = .returned (.bool true) ∧ T w') ∨ (e = .returned (.bool false) ∧ I (k + 1) w')) :
    Calls Tryz.prog 87 #[.slice A xs.length c, .func (.func g) #[] cb] w fun e w' => (∃ i : Nat, e = .returned (.int .i64 i) ∧ T w') ∨ (e = .returned (.int .i64 (-1)) ∧ I xs.length w') := by
  have HP := Aside0.mk hp
  have HI := Aside0.mk hI
  have H0 := Aside0.mk hI0
  clear hp hI hI0
  go_enter Tryz.func87, Tryz.ntmps87
  go_wp2_with fail
  go_loopw [8] (fun v wr => ∃ k : Nat, v = .int .i64 k ∧ k ≤ xs.length ∧ Aside0 (I k wr)) (fun v _ => xs.length - (intOf v).toNat)
  case atStart => exact ⟨0, rfl, Nat.zero_le _, H0⟩
  case round =>
    clear H0
    obtain ⟨k, rfl, hk, HA⟩ := hrel
    by_cases hlt : k < xs.length
    · obtain ⟨ad, e, hx0⟩ := ReadsInt.at_ (ReadsInt.of_C (HI.out k wr HA.out)) k (by omega) (by omega)
      subst e
      simp only [Int.toNat_natCast] at hx0
      have HP' : Aside0 (Calls Tryz.prog g (#[.int .i64 (rd xs k)] ++ cb) wr fun e w' => (e = .returned (.bool true) ∧ T w') ∨ (e = .returned (.bool false) ∧ I (k + 1) w')) := ⟨by
        rw [rd, Int.toNat_natCast]; exact HP.out k wr hlt HA.out⟩
      go_wp2_with fail
      refine HP'.out.mono ?_
      rintro e w' (⟨rfl, ht⟩ | ⟨rfl, hi⟩)
      · have HT := Aside0.mk ht
        clear ht
        go_wp2_with fail
        go_ret
        exact Or.inl ⟨k, rfl, HT.out⟩
      · have HT := Aside0.mk hi
        clear hi
        go_wp2_with fail
        go_roundw
        case rel => exact ⟨k + 1, by go_num, by omega, HT⟩
        case measure => simp [intOf]; omega
    · go_wp2_with fail
      go_ret
      exact Or.inr ⟨rfl, by have : k = xs.length := by omega
                            subst this; exact HA.out⟩

set_option maxHeartbeats 4000000 in
theorem hasIntS (I : Nat → World → Prop) (T : World → Prop) (g : Nat) (cb : Array Value) (eg : ∀ args w, (callFunc g args).run Tryz.prog w = .ok (.enter g args) w) (A : Option Addr) (c : Nat) (xs : List Int) (w : World)
    (hI0 : I 0 w) (hl : xs.length ≤ 9223372036854775807) (hI : ∀ k W, I k W → Kd.C (Kd.int .i64) W A xs.length xs)
    (hp : ∀ (k : Nat) (W : World), k < xs.length → I k W → Calls Tryz.prog g (#[.int .i64 (xs.getD k 0)] ++ cb) W fun e w' => (e = .returned (.bool true) ∧ T w') ∨ (e = .returned (.bool false) ∧ I (k + 1) w')) :
    Calls Tryz.prog 63 #[.slice A xs.length c, .func (.func g) #[] cb] w fun e w' => (e = .returned (.bool true) ∧ T w') ∨ (e = .returned (.bool false) ∧ I xs.length w') := by
  have HC := Lib.hid (idxIntS I T g cb eg A c xs w hI0 hl hI hp)
  clear hI0 hI hp
  go_enter Tryz.func63, Tryz.ntmps63
  go_wp2_with fail
  refine HC.out.mono ?_
  rintro e w' (⟨i, rfl, ht⟩ | ⟨rfl, hi⟩)
  · have hT := Aside0.mk ht
    have h0 : decide ((0 : Int) ≤ (i : Int)) = true := by simp
    clear ht
    go_wp2_with fail
    go_ret
    exact Or.inl ⟨ret_bool (by first | rfl | exact h0 | simp), hT.out⟩
  · have hT := Aside0.mk hi
    clear hi
    go_wp2_with fail
    go_ret
    exact Or.inr ⟨rfl, hT.out⟩
end Go.Proofs.YtipedgkampafjaaGreatDoor.Rf
