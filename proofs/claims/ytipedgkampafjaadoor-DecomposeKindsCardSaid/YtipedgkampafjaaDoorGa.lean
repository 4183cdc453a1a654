import Derived.Test.YtipedgkampafjaaDoorRf0
import Derived.Handy
import Derived.Outline
import Derived.Lib.Hide
import Derived.Shelf.Abstract
import Derived.StillTailTactics
import Derived.IntWalk
import Derived.Lib.Strings
import Derived.Lib.Bytealg
namespace Go.Proofs.YtipedgkampafjaaDoor.Rf
open Go.RowKit Go.Proofs.YtipedgkampafjaaDoorW.PrintWords Go.Proofs.YtipedgkampafjaaDoorW.PrintLast Go.Proofs.YtipedgkampafjaaDoorW.PrintMore

/-- The kind of a code point. -/
def hk (c : Int) : Int :=
  if 44032 ≤ c ∧ c < 55204 then (if (c - 44032) % 28 = 0 then 4 else 5)
  else if 4352 ≤ c ∧ c < 4371 then 1 else if 4449 ≤ c ∧ c < 4470 then 2 else if 4520 ≤ c ∧ c < 4547 then 3 else 0

theorem ret_int {k : IntKind} {a b : Int} (h : a = b) : Ending.returned (.int k a) = .returned (.int k b) := by rw [h]

theorem index_in (c from_ n : Int) (w : World) (h0 : 0 ≤ from_) (hn : 0 ≤ n) (hb : from_ + n ≤ 1000000) (h1 : from_ ≤ c) (h2 : c < from_ + n) :
    Calls Tryd.prog 65 #[.int .i64 c, .int .i64 from_, .int .i64 n] w fun e w' => e = .returned (.int .i64 (c - from_)) ∧ w = w' := by
  go_enter Tryd.func65, Tryd.ntmps65
  go_wp2
  go_ret
  exact ⟨rfl, rfl⟩
theorem index_out (c from_ n : Int) (w : World) (h0 : 0 ≤ from_) (hn : 0 ≤ n) (hb : from_ + n ≤ 1000000) (h : c < from_ ∨ from_ + n ≤ c) :
    Calls Tryd.prog 65 #[.int .i64 c, .int .i64 from_, .int .i64 n] w fun e w' => e = .returned (.int .i64 (-1)) ∧ w = w' := by
  rcases h with h | h
  · go_enter Tryd.func65, Tryd.ntmps65
    go_wp2
    go_ret
    exact ⟨rfl, rfl⟩
  · by_cases h' : c < from_
    · go_enter Tryd.func65, Tryd.ntmps65
      go_wp2
      go_ret
      exact ⟨rfl, rfl⟩
    · go_enter Tryd.func65, Tryd.ntmps65
      go_wp2
      go_ret
      exact ⟨rfl, rfl⟩

def hix (c f n : Int) : Int := if f ≤ c ∧ c < f + n then c - f else -1
theorem index_any (c from_ n : Int) (w : World) (h0 : 0 ≤ from_) (hn : 0 ≤ n) (hb : from_ + n ≤ 1000000) :
    Calls Tryd.prog 65 #[.int .i64 c, .int .i64 from_, .int .i64 n] w fun e w' => e = .returned (.int .i64 (hix c from_ n)) ∧ w = w' := by
  by_cases h : from_ ≤ c ∧ c < from_ + n
  · refine (index_in c from_ n w h0 hn hb h.1 h.2).mono ?_
    rintro e w' ⟨rfl, rfl⟩
    exact ⟨by rw [hix, if_pos h], rfl⟩
  · refine (index_out c from_ n w h0 hn hb (by omega)).mono ?_
    rintro e w' ⟨rfl, rfl⟩
    exact ⟨by rw [hix, if_neg h], rfl⟩

set_option maxHeartbeats 4000000 in
theorem kind_syl (c : Int) (w : World) (h1 : 44032 ≤ c) (h2 : c < 55204) :
    Calls Tryd.prog 44 #[.int .i64 c] w fun e w' => e = .returned (.int .i64 (hk c)) ∧ Below w.heap.size w w' := by
  by_cases h : (c - 44032) % 28 = 0
  all_goals
    go_enter Tryd.func44, Tryd.ntmps44
    go_wp2_with (go_at_call 65; refine (index_in c 44032 11172 _ (by omega) (by omega) (by omega) (by omega) (by omega)).mono ?_; rintro e w' ⟨rfl, rfl⟩)
    go_ret
    exact ⟨ret_int (by unfold hk; rw [if_pos ⟨h1, h2⟩]; simp [h]), Below.refl _ _⟩

theorem hix_in (c f n : Int) (h : f ≤ c ∧ c < f + n) : hix c f n = c - f := if_pos h
theorem hix_out (c f n : Int) (h : ¬ (f ≤ c ∧ c < f + n)) : hix c f n = -1 := if_neg h

theorem kidx0 (w : World) : (Instr.index 103 (.agg #[.int .i64 4352, .int .i64 19, .int .i64 4449, .int .i64 21, .int .i64 4520, .int .i64 27]) (.int .i64 0)).run Tryd.prog w = .ok (.agg #[.int .i64 4352, .int .i64 19]) w := by kernel_rfl
theorem kidx1 (w : World) : (Instr.index 103 (.agg #[.int .i64 4352, .int .i64 19, .int .i64 4449, .int .i64 21, .int .i64 4520, .int .i64 27]) (.int .i64 1)).run Tryd.prog w = .ok (.agg #[.int .i64 4449, .int .i64 21]) w := by kernel_rfl
theorem kidx2 (w : World) : (Instr.index 103 (.agg #[.int .i64 4352, .int .i64 19, .int .i64 4449, .int .i64 21, .int .i64 4520, .int .i64 27]) (.int .i64 2)).run Tryd.prog w = .ok (.agg #[.int .i64 4520, .int .i64 27]) w := by kernel_rfl
set_option maxRecDepth 100000 in
set_option maxHeartbeats 4000000 in
theorem kind_lead (c : Int) (w : World) (h1 : 4352 ≤ c) (h2 : c < 4371) :
    Calls Tryd.prog 44 #[.int .i64 c] w fun e w' => e = .returned (.int .i64 (hk c)) ∧ Below w.heap.size w w' := by
  have e0 := hix_out c 44032 11172 (by omega)
  have e1 := hix_in c 4352 19 (by omega)
  have i0 := kidx0
  have i1 := kidx1
  have i2 := kidx2
  go_enter Tryd.func44, Tryd.ntmps44
  go_wp2_with (go_at_call 65; refine (index_any c _ _ _ (by omega) (by omega) (by omega)).mono ?_; rintro e w' ⟨rfl, rfl⟩)
  refine wp_loop_rounds 4 ?_
  rw [rounds_succ]
  go_wp2_with (go_at_call 65; refine (index_any c _ _ _ (by omega) (by omega) (by omega)).mono ?_; rintro e w' ⟨rfl, rfl⟩)
  go_ret
  exact ⟨ret_int (by unfold hk; rw [if_neg (by omega), if_pos ⟨h1, h2⟩]), by repeat (first | exact Below.refl _ _ | apply below_alloc | refine below_set ?_ (by simp))⟩
set_option maxRecDepth 100000 in
set_option maxHeartbeats 4000000 in
theorem kind_vowel (c : Int) (w : World) (h1 : 4449 ≤ c) (h2 : c < 4470) :
    Calls Tryd.prog 44 #[.int .i64 c] w fun e w' => e = .returned (.int .i64 (hk c)) ∧ Below w.heap.size w w' := by
  have e0 := hix_out c 44032 11172 (by omega)
  have e1 := hix_out c 4352 19 (by omega)
  have e2 := hix_in c 4449 21 (by omega)
  have i0 := kidx0
  have i1 := kidx1
  have i2 := kidx2
  go_enter Tryd.func44, Tryd.ntmps44
  go_wp2_with (go_at_call 65; refine (index_any c _ _ _ (by omega) (by omega) (by omega)).mono ?_; rintro e w' ⟨rfl, rfl⟩)
  refine wp_loop_rounds 4 ?_
  rw [rounds_succ]
  go_wp2_with (go_at_call 65; refine (index_any c _ _ _ (by omega) (by omega) (by omega)).mono ?_; rintro e w' ⟨rfl, rfl⟩)
  rw [rounds_succ]
  go_wp2_with (go_at_call 65; refine (index_any c _ _ _ (by omega) (by omega) (by omega)).mono ?_; rintro e w' ⟨rfl, rfl⟩)
  go_ret
  exact ⟨ret_int (by unfold hk; rw [if_neg (by omega), if_neg (by omega), if_pos ⟨h1, h2⟩]), by repeat (first | exact Below.refl _ _ | apply below_alloc | refine below_set ?_ (by simp))⟩
set_option maxRecDepth 100000 in
set_option maxHeartbeats 4000000 in
theorem kind_trail (c : Int) (w : World) (h1 : 4520 ≤ c) (h2 : c < 4547) :
    Calls Tryd.prog 44 #[.int .i64 c] w fun e w' => e = .returned (.int .i64 (hk c)) ∧ Below w.heap.size w w' := by
  have e0 := hix_out c 44032 11172 (by omega)
  have e1 := hix_out c 4352 19 (by omega)
  have e2 := hix_out c 4449 21 (by omega)
  have e3 := hix_in c 4520 27 (by omega)
  have i0 := kidx0
  have i1 := kidx1
  have i2 := kidx2
  go_enter Tryd.func44, Tryd.ntmps44
  go_wp2_with (go_at_call 65; refine (index_any c _ _ _ (by omega) (by omega) (by omega)).mono ?_; rintro e w' ⟨rfl, rfl⟩)
  refine wp_loop_rounds 4 ?_
  rw [rounds_succ]
  go_wp2_with (go_at_call 65; refine (index_any c _ _ _ (by omega) (by omega) (by omega)).mono ?_; rintro e w' ⟨rfl, rfl⟩)
  rw [rounds_succ]
  go_wp2_with (go_at_call 65; refine (index_any c _ _ _ (by omega) (by omega) (by omega)).mono ?_; rintro e w' ⟨rfl, rfl⟩)
  rw [rounds_succ]
  go_wp2_with (go_at_call 65; refine (index_any c _ _ _ (by omega) (by omega) (by omega)).mono ?_; rintro e w' ⟨rfl, rfl⟩)
  go_ret
  exact ⟨ret_int (by unfold hk; rw [if_neg (by omega), if_neg (by omega), if_neg (by omega), if_pos ⟨h1, h2⟩]), by repeat (first | exact Below.refl _ _ | apply below_alloc | refine below_set ?_ (by simp))⟩
set_option maxRecDepth 100000 in
set_option maxHeartbeats 4000000 in
theorem kind_none (c : Int) (w : World) (h1 : ¬ (44032 ≤ c ∧ c < 55204)) (h2 : ¬ (4352 ≤ c ∧ c < 4371)) (h3 : ¬ (4449 ≤ c ∧ c < 4470)) (h4 : ¬ (4520 ≤ c ∧ c < 4547)) :
    Calls Tryd.prog 44 #[.int .i64 c] w fun e w' => e = .returned (.int .i64 (hk c)) ∧ Below w.heap.size w w' := by
  have e0 := hix_out c 44032 11172 (by omega)
  have e1 := hix_out c 4352 19 (by omega)
  have e2 := hix_out c 4449 21 (by omega)
  have e3 := hix_out c 4520 27 (by omega)
  have i0 := kidx0
  have i1 := kidx1
  have i2 := kidx2
  go_enter Tryd.func44, Tryd.ntmps44
  go_wp2_with (go_at_call 65; refine (index_any c _ _ _ (by omega) (by omega) (by omega)).mono ?_; rintro e w' ⟨rfl, rfl⟩)
  refine wp_loop_rounds 4 ?_
  rw [rounds_succ]
  go_wp2_with (go_at_call 65; refine (index_any c _ _ _ (by omega) (by omega) (by omega)).mono ?_; rintro e w' ⟨rfl, rfl⟩)
  rw [rounds_succ]
  go_wp2_with (go_at_call 65; refine (index_any c _ _ _ (by omega) (by omega) (by omega)).mono ?_; rintro e w' ⟨rfl, rfl⟩)
  rw [rounds_succ]
  go_wp2_with (go_at_call 65; refine (index_any c _ _ _ (by omega) (by omega) (by omega)).mono ?_; rintro e w' ⟨rfl, rfl⟩)
  rw [rounds_succ]
  go_wp2_with (go_at_call 65; refine (index_any c _ _ _ (by omega) (by omega) (by omega)).mono ?_; rintro e w' ⟨rfl, rfl⟩)
  go_ret
  exact ⟨ret_int (by unfold hk; rw [if_neg h1, if_neg h2, if_neg h3, if_neg h4]), by repeat (first | exact Below.refl _ _ | apply below_alloc | refine below_set ?_ (by simp))⟩
theorem kind_any (c : Int) (w : World) :
    Calls Tryd.prog 44 #[.int .i64 c] w fun e w' => e = .returned (.int .i64 (hk c)) ∧ Below w.heap.size w w' := by
  by_cases h1 : 44032 ≤ c ∧ c < 55204
  · exact kind_syl c w h1.1 h1.2
  · by_cases h2 : 4352 ≤ c ∧ c < 4371
    · exact kind_lead c w h2.1 h2.2
    · by_cases h3 : 4449 ≤ c ∧ c < 4470
      · exact kind_vowel c w h3.1 h3.2
      · by_cases h4 : 4520 ≤ c ∧ c < 4547
        · exact kind_trail c w h4.1 h4.2
        · exact kind_none c w h1 h2 h3 h4
end Go.Proofs.YtipedgkampafjaaDoor.Rf
namespace Go.Proofs.YtipedgkampafjaaDoor.Rf
open Go.RowKit Go.Proofs.YtipedgkampafjaaDoorW.PrintWords Go.Proofs.YtipedgkampafjaaDoorW.PrintLast Go.Proofs.YtipedgkampafjaaDoorW.PrintMore
theorem max2_mx (k k' : IntKind) (x y : Int) : Builtin.max2 (.int k x) (.int k' y) = pure (.int k (mx x y)) := max2_int k k' x y
theorem min2_mn (k k' : IntKind) (x y : Int) : Builtin.min2 (.int k x) (.int k' y) = pure (.int k (mn x y)) := min2_int k k' x y
attribute [local go_sem] max2_mx min2_mn max_two min_two max_three min_three max_four min_four
/-- The package-level variable ordering.ranges as its initialiser lays it. -/
def GL (w : World) : Prop :=
  w.cell? ⟨0, 0, none⟩ = some (.int .i64 4352) ∧ w.cell? ⟨0, 1, none⟩ = some (.int .i64 4370) ∧ w.cell? ⟨0, 2, none⟩ = some (.int .i64 4449) ∧ w.cell? ⟨0, 3, none⟩ = some (.int .i64 4469) ∧
  w.cell? ⟨0, 4, none⟩ = some (.int .i64 4520) ∧ w.cell? ⟨0, 5, none⟩ = some (.int .i64 4546) ∧ w.cell? ⟨0, 6, none⟩ = some (.int .i64 44032) ∧ w.cell? ⟨0, 7, none⟩ = some (.int .i64 55203)
theorem GL.below {w w1 : World} (h : GL w) (hb : Below w.heap.size w w1) : GL w1 := by
  obtain ⟨h0, h1, h2, h3, h4, h5, h6, h7⟩ := h
  exact ⟨pw_cell_below hb h0, pw_cell_below hb h1, pw_cell_below hb h2, pw_cell_below hb h3, pw_cell_below hb h4, pw_cell_below hb h5, pw_cell_below hb h6, pw_cell_below hb h7⟩
abbrev gtab : Value := .agg #[.int .i64 4352, .int .i64 4370, .int .i64 4449, .int .i64 4469, .int .i64 4520, .int .i64 4546, .int .i64 44032, .int .i64 55203]
theorem gidx0 (w : World) : (Instr.index 90 gtab (.int .i64 0)).run Tryd.prog w = .ok (.agg #[.int .i64 4352, .int .i64 4370]) w := by kernel_rfl
theorem gidx1 (w : World) : (Instr.index 90 gtab (.int .i64 1)).run Tryd.prog w = .ok (.agg #[.int .i64 4449, .int .i64 4469]) w := by kernel_rfl
theorem gidx2 (w : World) : (Instr.index 90 gtab (.int .i64 2)).run Tryd.prog w = .ok (.agg #[.int .i64 4520, .int .i64 4546]) w := by kernel_rfl
theorem gidx3 (w : World) : (Instr.index 90 gtab (.int .i64 3)).run Tryd.prog w = .ok (.agg #[.int .i64 44032, .int .i64 55203]) w := by kernel_rfl

/-- Does a span meet a range of Hangul parts or syllables? -/
def korR (s : S71) (lo hi : Int) : Bool := decide (mx s.f0 lo ≤ mn s.f1 hi)
def kor (s : S71) : Bool := korR s 4352 4370 || korR s 4449 4469 || korR s 4520 4546 || korR s 44032 55203
theorem hk_part (s : S71) (lo hi : Int) (h : korR s lo hi = true) (hr : (lo = 4352 ∧ hi = 4370) ∨ (lo = 4449 ∧ hi = 4469) ∨ (lo = 4520 ∧ hi = 4546) ∨ (lo = 44032 ∧ hi = 55203)) : (hk (mx s.f0 lo) == 0) = false := by
  have h' := of_decide_eq_true h
  have hm : lo ≤ mx s.f0 lo := by unfold mx; split <;> omega
  have hn : mn s.f1 hi ≤ hi := by unfold mn; split <;> omega
  generalize mx s.f0 lo = m at *
  generalize mn s.f1 hi = q at *
  unfold hk
  rw [beq_eq_false_iff_ne]
  rcases hr with ⟨rfl, rfl⟩ | ⟨rfl, rfl⟩ | ⟨rfl, rfl⟩ | ⟨rfl, rfl⟩ <;> (repeat' split) <;> omega

set_option maxRecDepth 100000 in
set_option maxHeartbeats 8000000 in
theorem korean_any (s : S71) (w : World) (hG : GL w) :
    Calls Tryd.prog 36 #[.agg #[.int .i64 s.f0, .int .i64 s.f1, .int .i64 s.f2]] w fun e w' => e = .returned (.bool (kor s)) ∧ Below w.heap.size w w' := by
  obtain ⟨h0, h1, h2, h3, h4, h5, h6, h7⟩ := hG
  have hz : 0 < w.heap.size := World.block_lt_of_cell? w _ h0
  have i0 := gidx0
  have i1 := gidx1
  have i2 := gidx2
  have i3 := gidx3
  by_cases hk0 : korR s 4352 4370 = true
  · have hq := hk_part s _ _ hk0 (by simp)
    have hd0 : decide (mx s.f0 4352 ≤ mn s.f1 4370) = true := hk0
    have Hk0 := Lib.hid hk0
    clear hk0
    go_enter Tryd.func36, Tryd.ntmps36
    go_wp2_with fail
    refine wp_loop_rounds 5 ?_
    rw [rounds_succ]
    go_wp2_with fail
    go_quiet (fail)
    go_wp2_with (go_at_call 44; refine (kind_any _ _).mono ?_; rintro e w' ⟨rfl, hb0⟩)
    go_ret
    exact ⟨by rw [kor]; simp [Hk0.out], below_step (by repeat (first | exact Below.refl _ _ | apply below_alloc | apply pw_below_drewN | refine below_set ?_ (by simp))) hb0⟩
  have hk0' := Bool.eq_false_iff.mpr hk0
  have hd0 : decide (mx s.f0 4352 ≤ mn s.f1 4370) = false := hk0'
  have Hk0 := Lib.hid hk0'
  clear hk0 hk0'
  by_cases hk1 : korR s 4449 4469 = true
  · have hq := hk_part s _ _ hk1 (by simp)
    have hd1 : decide (mx s.f0 4449 ≤ mn s.f1 4469) = true := hk1
    have Hk1 := Lib.hid hk1
    clear hk1
    go_enter Tryd.func36, Tryd.ntmps36
    go_wp2_with fail
    refine wp_loop_rounds 5 ?_
    rw [rounds_succ]
    go_wp2_with fail
    go_quiet (fail)
    go_wp2_with (go_at_call 44; refine (kind_any _ _).mono ?_; rintro e w' ⟨rfl, hb0⟩)
    rw [rounds_succ]
    go_wp2_with fail
    go_quiet (fail)
    go_wp2_with (go_at_call 44; refine (kind_any _ _).mono ?_; rintro e w' ⟨rfl, hb1⟩)
    go_ret
    exact ⟨by rw [kor]; simp [Hk0.out, Hk1.out], below_step (by repeat (first | exact Below.refl _ _ | apply below_alloc | apply pw_below_drewN | refine below_set ?_ (by simp))) hb1⟩
  have hk1' := Bool.eq_false_iff.mpr hk1
  have hd1 : decide (mx s.f0 4449 ≤ mn s.f1 4469) = false := hk1'
  have Hk1 := Lib.hid hk1'
  clear hk1 hk1'
  by_cases hk2 : korR s 4520 4546 = true
  · have hq := hk_part s _ _ hk2 (by simp)
    have hd2 : decide (mx s.f0 4520 ≤ mn s.f1 4546) = true := hk2
    have Hk2 := Lib.hid hk2
    clear hk2
    go_enter Tryd.func36, Tryd.ntmps36
    go_wp2_with fail
    refine wp_loop_rounds 5 ?_
    rw [rounds_succ]
    go_wp2_with fail
    go_quiet (fail)
    go_wp2_with (go_at_call 44; refine (kind_any _ _).mono ?_; rintro e w' ⟨rfl, hb0⟩)
    rw [rounds_succ]
    go_wp2_with fail
    go_quiet (fail)
    go_wp2_with (go_at_call 44; refine (kind_any _ _).mono ?_; rintro e w' ⟨rfl, hb1⟩)
    rw [rounds_succ]
    go_wp2_with fail
    go_quiet (fail)
    go_wp2_with (go_at_call 44; refine (kind_any _ _).mono ?_; rintro e w' ⟨rfl, hb2⟩)
    go_ret
    exact ⟨by rw [kor]; simp [Hk0.out, Hk1.out, Hk2.out], below_step (by repeat (first | exact Below.refl _ _ | apply below_alloc | apply pw_below_drewN | refine below_set ?_ (by simp))) hb2⟩
  have hk2' := Bool.eq_false_iff.mpr hk2
  have hd2 : decide (mx s.f0 4520 ≤ mn s.f1 4546) = false := hk2'
  have Hk2 := Lib.hid hk2'
  clear hk2 hk2'
  by_cases hk3 : korR s 44032 55203 = true
  · have hq := hk_part s _ _ hk3 (by simp)
    have hd3 : decide (mx s.f0 44032 ≤ mn s.f1 55203) = true := hk3
    have Hk3 := Lib.hid hk3
    clear hk3
    go_enter Tryd.func36, Tryd.ntmps36
    go_wp2_with fail
    refine wp_loop_rounds 5 ?_
    rw [rounds_succ]
    go_wp2_with fail
    go_quiet (fail)
    go_wp2_with (go_at_call 44; refine (kind_any _ _).mono ?_; rintro e w' ⟨rfl, hb0⟩)
    rw [rounds_succ]
    go_wp2_with fail
    go_quiet (fail)
    go_wp2_with (go_at_call 44; refine (kind_any _ _).mono ?_; rintro e w' ⟨rfl, hb1⟩)
    rw [rounds_succ]
    go_wp2_with fail
    go_quiet (fail)
    go_wp2_with (go_at_call 44; refine (kind_any _ _).mono ?_; rintro e w' ⟨rfl, hb2⟩)
    rw [rounds_succ]
    go_wp2_with fail
    go_quiet (fail)
    go_wp2_with (go_at_call 44; refine (kind_any _ _).mono ?_; rintro e w' ⟨rfl, hb3⟩)
    go_ret
    exact ⟨by rw [kor]; simp [Hk0.out, Hk1.out, Hk2.out, Hk3.out], below_step (by repeat (first | exact Below.refl _ _ | apply below_alloc | apply pw_below_drewN | refine below_set ?_ (by simp))) hb3⟩
  have hk3' := Bool.eq_false_iff.mpr hk3
  have hd3 : decide (mx s.f0 44032 ≤ mn s.f1 55203) = false := hk3'
  have Hk3 := Lib.hid hk3'
  clear hk3 hk3'
  go_enter Tryd.func36, Tryd.ntmps36
  go_wp2_with fail
  refine wp_loop_rounds 5 ?_
  rw [rounds_succ]
  go_wp2_with fail
  go_quiet (fail)
  go_wp2_with (go_at_call 44; refine (kind_any _ _).mono ?_; rintro e w' ⟨rfl, hb0⟩)
  rw [rounds_succ]
  go_wp2_with fail
  go_quiet (fail)
  go_wp2_with (go_at_call 44; refine (kind_any _ _).mono ?_; rintro e w' ⟨rfl, hb1⟩)
  rw [rounds_succ]
  go_wp2_with fail
  go_quiet (fail)
  go_wp2_with (go_at_call 44; refine (kind_any _ _).mono ?_; rintro e w' ⟨rfl, hb2⟩)
  rw [rounds_succ]
  go_wp2_with fail
  go_quiet (fail)
  go_wp2_with (go_at_call 44; refine (kind_any _ _).mono ?_; rintro e w' ⟨rfl, hb3⟩)
  rw [rounds_succ]
  go_wp2_with fail
  go_ret
  exact ⟨by rw [kor]; simp [Hk0.out, Hk1.out, Hk2.out, Hk3.out], by repeat (first | exact Below.refl _ _ | apply below_alloc | apply pw_below_drewN | refine below_set ?_ (by simp))⟩
end Go.Proofs.YtipedgkampafjaaDoor.Rf
namespace Go.Proofs.YtipedgkampafjaaDoor.Rf
open Go.RowKit Go.Proofs.YtipedgkampafjaaDoorW.PrintWords Go.Proofs.YtipedgkampafjaaDoorW.PrintLast Go.Proofs.YtipedgkampafjaaDoorW.PrintMore

/-- The first place at which p holds, or -1. -/
def fst_ {α : Type} (p : α → Bool) : List α → Int → Int
  | [], _ => -1
  | x :: l, i => if p x = true then i else fst_ p l (i + 1)
theorem fst_ge {α : Type} (p : α → Bool) (l : List α) (i : Int) (hi : 0 ≤ i) : decide (0 ≤ fst_ p l i) = l.any p := by
  induction l generalizing i with
  | nil => simp [fst_]
  | cons x l ih =>
    unfold fst_
    cases hx : p x with
    | true => simp [hx, hi]
    | false => simp [hx]; simpa using ih (i + 1) (by omega)
/-- Behind k elements at which p fails. -/
theorem fst_skip {α : Type} (p : α → Bool) (l : List α) (k : Nat) (hk : k ≤ l.length) (h : (l.take k).any p = false) : fst_ p l 0 = fst_ p (l.drop k) k := by
  have : ∀ (l : List α) (i : Int) (k : Nat), (l.take k).any p = false → k ≤ l.length → fst_ p l i = fst_ p (l.drop k) (i + k) := by
    intro l i k
    induction k generalizing l i with
    | zero => intro _ _; simp
    | succ k ih =>
      intro h hk
      cases l with
      | nil => simp at hk
      | cons x l =>
        simp only [List.take_succ_cons, List.any_cons, Bool.or_eq_false_iff] at h
        rw [List.drop_succ_cons, fst_, if_neg (by simp [h.1]), ih l (i + 1) h.2 (by simpa using hk)]
        congr 1
        push_cast
        omega
  simpa using this l 0 k h hk
theorem fst_at {α : Type} (p : α → Bool) (l : List α) (d : α) (k : Nat) (hk : k < l.length) (h : (l.take k).any p = false) (hp : p (l.getD k d) = true) : fst_ p l 0 = k := by
  rw [fst_skip p l k (by omega) h, List.drop_eq_getElem_cons hk, fst_, if_pos (by simpa [List.getD_eq_getElem?_getD, List.getElem?_eq_getElem hk] using hp)]
theorem any_take_succ {α : Type} (p : α → Bool) (l : List α) (d : α) (k : Nat) (hk : k < l.length) (h : (l.take k).any p = false) (hp : p (l.getD k d) = false) : (l.take (k + 1)).any p = false := by
  rw [List.take_succ_eq_append_getElem hk, List.any_append, h]
  simpa [List.getD_eq_getElem?_getD, List.getElem?_eq_getElem hk] using hp

set_option maxRecDepth 100000 in
set_option maxHeartbeats 4000000 in
theorem idxSpan_ (p : S71 → Bool) (g : Nat) (cb : Array Value) (eg : ∀ args w, (callFunc g args).run Tryd.prog w = .ok (.enter g args) w) (A : Option Addr) (c : Nat) (xs : List S71) (w : World)
    (hr : Kd.C k71 w A xs.length xs) (hc : xs.length ≤ c) (hl : xs.length ≤ 9223372036854775807)
    (hp : ∀ (x : S71) (W : World), Below w.heap.size w W → Calls Tryd.prog g (#[.agg #[.int .i64 x.f0, .int .i64 x.f1, .int .i64 x.f2]] ++ cb) W fun e w' => e = .returned (.bool (p x)) ∧ Below W.heap.size W w') :
    Calls Tryd.prog 57 #[.slice A xs.length c, .func (.func g) #[] cb] w fun e w' => e = .returned (.int .i64 (fst_ p xs 0)) ∧ Below w.heap.size w w' := by
  have HP := Aside0.mk hp
  have HR := Aside0.mk hr
  clear hp hr hc
  go_enter Tryd.func57, Tryd.ntmps57
  go_wp2_with fail
  go_loopw [8] (fun v wr => ∃ k : Nat, v = .int .i64 k ∧ k ≤ xs.length ∧ Aside0 ((xs.take k).any p = false) ∧ Aside0 (Below w.heap.size w wr)) (fun v _ => xs.length - (intOf v).toNat)
  case atStart => exact ⟨0, rfl, Nat.zero_le _, ⟨rfl⟩, ⟨Below.refl _ _⟩⟩
  case round =>
    obtain ⟨k, rfl, hk, HA, HB⟩ := hrel
    by_cases hlt : k < xs.length
    · obtain ⟨ad, e, hx0, hx1, hx2⟩ := at_T71 (Kd.C_below HR.out HB.out) k (by omega) (by omega)
      subst e
      simp only [Int.toNat_natCast] at hx0 hx1 hx2
      have HP' := Aside0.mk (HP.out (rd_T71 xs k))
      cases hpx : p (rd_T71 xs k) with
      | true =>
        rw [hpx] at HP'
        have HPX := Lib.hid hpx
        clear hpx
        go_wp2_with fail
        refine (HP'.out _ HB.out).mono ?_
        rintro e w' ⟨rfl, hb1⟩
        go_wp2_with fail
        go_ret
        exact ⟨ret_int (fst_at p xs z71 k hlt HA.out HPX.out).symm, below_step HB.out hb1⟩
      | false =>
        rw [hpx] at HP'
        have HPX := Lib.hid hpx
        clear hpx
        go_wp2_with fail
        refine (HP'.out _ HB.out).mono ?_
        rintro e w' ⟨rfl, hb1⟩
        go_wp2_with fail
        go_roundw
        case rel => exact ⟨k + 1, by go_num, by omega, ⟨any_take_succ p xs z71 k hlt HA.out HPX.out⟩, ⟨below_step HB.out hb1⟩⟩
        case measure => simp [intOf]; omega
    · go_wp2_with fail
      go_ret
      exact ⟨ret_int (by have : k = xs.length := by omega
                         subst this; rw [fst_skip p xs _ (Nat.le_refl _) HA.out, List.drop_length]; rfl), HB.out⟩

set_option maxHeartbeats 4000000 in
theorem hasSpan_ (p : S71 → Bool) (g : Nat) (cb : Array Value) (eg : ∀ args w, (callFunc g args).run Tryd.prog w = .ok (.enter g args) w) (A : Option Addr) (c : Nat) (xs : List S71) (w : World)
    (hr : Kd.C k71 w A xs.length xs) (hc : xs.length ≤ c) (hl : xs.length ≤ 9223372036854775807)
    (hp : ∀ (x : S71) (W : World), Below w.heap.size w W → Calls Tryd.prog g (#[.agg #[.int .i64 x.f0, .int .i64 x.f1, .int .i64 x.f2]] ++ cb) W fun e w' => e = .returned (.bool (p x)) ∧ Below W.heap.size W w') :
    Calls Tryd.prog 35 #[.slice A xs.length c, .func (.func g) #[] cb] w fun e w' => e = .returned (.bool (xs.any p)) ∧ Below w.heap.size w w' := by
  have HC := Lib.hid (idxSpan_ p g cb eg A c xs w hr hc hl hp)
  have HF := Lib.hid (fst_ge p xs 0 (by omega))
  clear hr hc hl hp
  go_enter Tryd.func35, Tryd.ntmps35
  go_wp2_with (go_at_call 57; refine (HC.out).mono ?_; rintro e w' ⟨rfl, hb1⟩)
  go_ret
  exact ⟨by rw [← HF.out]; rfl, hb1⟩
end Go.Proofs.YtipedgkampafjaaDoor.Rf
namespace Go.Proofs.YtipedgkampafjaaDoor.Rf
open Go.Shelf Go.RowKit Go.Proofs.YtipedgkampafjaaDoorW.PrintWords Go.Proofs.YtipedgkampafjaaDoorW.PrintLast Go.Proofs.YtipedgkampafjaaDoorW.PrintMore

/-- A span out of range. -/
def spBad (s : S71) : Bool := decide (s.f0 < 0) || decide (s.f1 < s.f0) || decide (1114111 < s.f1) || decide (s.f2 < 1) || decide (254 < s.f2)
/-- Two neighbours that are not in order. -/
def spAdj (a b : S71) : Bool := decide (b.f0 ≤ a.f1) || ((a.f1 + 1 == b.f0) && (a.f2 == b.f2))
/-- Some two neighbours for which p holds. -/
def pairAny {α : Type} (p : α → α → Bool) : List α → Bool
  | a :: b :: l => p a b || pairAny p (b :: l)
  | _ => false
/-- The first error of classes. -/
def ordChk (l : List S71) : Int := if l.any spBad = true then 1 else if pairAny spAdj l = true then 4 else if l.any kor = true then 11 else 0

theorem pairAny_snoc {α : Type} (p : α → α → Bool) (l : List α) (a b : α) : pairAny p (l ++ [a] ++ [b]) = (pairAny p (l ++ [a]) || p a b) := by
  induction l with
  | nil => simp [pairAny]
  | cons x l ih =>
    cases l with
    | nil => simp [pairAny]
    | cons y l => simp only [List.cons_append, pairAny] at ih ⊢; rw [ih, Bool.or_assoc]
theorem pairAny_take {α : Type} (p : α → α → Bool) (l : List α) (d : α) (k : Nat) (h0 : 0 < k) (hk : k < l.length) : pairAny p (l.take (k + 1)) = (pairAny p (l.take k) || p (l.getD (k - 1) d) (l.getD k d)) := by
  obtain ⟨j, rfl⟩ : ∃ j, k = j + 1 := ⟨k - 1, by omega⟩
  rw [List.take_succ_eq_append_getElem hk, List.take_succ_eq_append_getElem (by omega : j < l.length), pairAny_snoc]
  simp [List.getD_eq_getElem?_getD, List.getElem?_eq_getElem hk, List.getElem?_eq_getElem (show j < l.length by omega)]
theorem pairAny_prefix {α : Type} (p : α → α → Bool) (l : List α) (k : Nat) (h : pairAny p (l.take k) = true) : pairAny p l = true := by
  induction l generalizing k with
  | nil => simp [pairAny] at h
  | cons x l ih =>
    match k with
    | 0 => simp [pairAny] at h
    | 1 => simp [pairAny] at h
    | k + 2 =>
      cases l with
      | nil => simp [pairAny] at h
      | cons y l =>
        simp only [List.take_succ_cons, pairAny, Bool.or_eq_true] at h ⊢
        rcases h with h | h
        · exact .inl h
        · exact .inr (ih (k + 1) (by simpa using h))
theorem any_of_take {α : Type} (p : α → Bool) (l : List α) (d : α) (k : Nat) (hk : k < l.length) (hp : p (l.getD k d) = true) : l.any p = true := by
  rw [List.any_eq_true]
  refine ⟨l.getD k d, ?_, hp⟩
  rw [List.getD_eq_getElem?_getD, List.getElem?_eq_getElem hk]
  exact List.getElem_mem hk
theorem all_of_any {α : Type} (p : α → Bool) (l : List α) (d : α) (k : Nat) (hk : k < l.length) (h : l.any p = false) : p (l.getD k d) = false := by
  cases hp : p (l.getD k d) with
  | false => rfl
  | true => rw [any_of_take p l d k hk hp] at h; cases h
theorem spBad_no {s : S71} (h : spBad s = false) : 0 ≤ s.f0 ∧ s.f0 ≤ s.f1 ∧ s.f1 ≤ 1114111 ∧ 1 ≤ s.f2 ∧ s.f2 ≤ 254 := by
  unfold spBad at h
  simp at h
  omega

def ordering_Check.f (l : List S71) : Option Int := some (ordChk l)

set_option maxRecDepth 100000 in
set_option maxHeartbeats 8000000 in
theorem ordCheck_any (A : Option Addr) (c : Nat) (xs : List S71) (w : World) (hG : GL w) (hr : Kd.C k71 w A xs.length xs) (hc : xs.length ≤ c) (hl : xs.length ≤ 9223372036854775807) :
    Calls Tryd.prog 23 #[.slice A xs.length c] w fun e w' => e = .returned (.int .i64 (ordChk xs)) ∧ Below w.heap.size w w' := by
  have eg : ∀ args w, (callFunc 36 args).run Tryd.prog w = .ok (.enter 36 args) w := enters_of Tryd.func36 (by kernel_rfl) rfl
  have EG := Aside0.mk eg
  have HR := Aside0.mk hr
  have HC := Aside0.mk hc
  have HG := Aside0.mk hG
  clear hr hc hG eg
  go_enter Tryd.func23, Tryd.ntmps23
  go_wp2_with fail
  go_loopw [10, 4] (fun v _ wr => ∃ k : Nat, v = .int .i64 k ∧ k ≤ xs.length ∧ Aside0 ((xs.take k).any spBad = false) ∧ Aside0 (Below w.heap.size w wr)) (fun v _ _ => xs.length - (intOf v).toNat)
  case atStart => exact ⟨0, rfl, Nat.zero_le _, ⟨rfl⟩, ⟨Below.refl _ _⟩⟩
  case round =>
    obtain ⟨k, rfl, hk, HA, HB⟩ := hrel
    by_cases hlt : k < xs.length
    · obtain ⟨ad, e, hx0, hx1, hx2⟩ := at_T71 (Kd.C_below HR.out HB.out) k (by omega) (by omega)
      subst e
      simp only [Int.toNat_natCast] at hx0 hx1 hx2
      have HX : Aside0 (rd_T71 xs k = xs.getD k z71) := ⟨by simp [rd_T71]⟩
      generalize rd_T71 xs k = x at hx0 hx1 hx2 HX
      go_wp2_with fail
      all_goals first
        | (have hb : spBad x = true := (by unfold spBad; simp; omega)
           go_ret
           exact ⟨ret_int (by rw [ordChk, if_pos (any_of_take spBad xs z71 k hlt (by rw [← HX.out]; exact hb))]), by repeat (first | exact HB.out | apply below_alloc | apply pw_below_drewN)⟩)
        | (have hb : spBad x = false := (by unfold spBad; simp; omega)
           go_roundw
           case rel => exact ⟨k + 1, by go_num, by omega, ⟨any_take_succ spBad xs z71 k hlt HA.out (by rw [← HX.out]; exact hb)⟩, ⟨by repeat (first | exact HB.out | apply below_alloc | apply pw_below_drewN)⟩⟩
           case measure => simp [intOf]; omega)
    · have HN : Aside0 (xs.any spBad = false) := ⟨by
        have : k = xs.length := by omega
        subst this
        simpa using HA.out⟩
      clear HA
      go_wp2_with fail
      go_loopw [5, 6, 7] (fun v _ _ wr => ∃ k : Nat, v = .int .i64 k ∧ 1 ≤ k ∧ (k ≤ xs.length ∨ k = 1) ∧ Aside0 (pairAny spAdj (xs.take k) = false) ∧ Aside0 (Below w.heap.size w wr)) (fun v _ _ _ => xs.length - (intOf v).toNat)
      case atStart => exact ⟨1, rfl, Nat.le_refl _, .inr rfl, ⟨by cases xs <;> simp [pairAny]⟩, HB⟩
      case round =>
        rename_i wr0
        clear HB hk hlt
        obtain ⟨k, rfl, hk1, hk, HA, HB⟩ := hrel
        by_cases hlt : k < xs.length
        · have hb0 := spBad_no (all_of_any spBad xs z71 (k - 1) (by omega) HN.out)
          have hb1 := spBad_no (all_of_any spBad xs z71 k hlt HN.out)
          have HT := Aside0.mk (pairAny_take spAdj xs z71 k (by omega) hlt)
          obtain ⟨ad, e, hx0, hx1, hx2⟩ := at_T71 (Kd.C_below HR.out HB.out) ((k : Int) - 1) (by omega) (by omega)
          obtain ⟨ad', e', hy0, hy1, hy2⟩ := at_T71 (Kd.C_below HR.out HB.out) k (by omega) (by omega)
          subst e
          cases e'
          have hk' : ((k : Int) - 1).toNat = k - 1 := by omega
          have HX : Aside0 (rd_T71 xs ((k : Int) - 1) = xs.getD (k - 1) z71) := ⟨by simp [rd_T71, hk']⟩
          have HY : Aside0 (rd_T71 xs k = xs.getD k z71) := ⟨by simp [rd_T71]⟩
          rw [← HX.out] at hb0
          rw [← HY.out] at hb1
          simp only [Int.toNat_natCast, hk'] at hx0 hx1 hx2 hy0 hy1 hy2
          clear hk'
          have hz0 : (ad.add ((k - 1) * 3)).block < wr.heap.size := World.block_lt_of_cell? wr _ hx0
          have hz1 : (ad.add (k * 3)).block < wr.heap.size := World.block_lt_of_cell? wr _ hy0
          generalize rd_T71 xs ((k : Int) - 1) = x at hx0 hx1 hx2 HX hb0
          generalize rd_T71 xs k = y at hy0 hy1 hy2 HY hb1
          rw [← HX.out, ← HY.out] at HT
          have HQ := Aside0.mk (show spAdj x y = (decide (y.f0 ≤ x.f1) || ((x.f1 + 1 == y.f0) && (x.f2 == y.f2))) from rfl)
          cases h1 : decide (y.f0 ≤ x.f1) <;> cases h2 : (x.f1 + 1 == y.f0) <;> cases h3 : (x.f2 == y.f2)
          all_goals
            rw [h1, h2, h3] at HQ
            go_wp2_with fail
            go_region
            all_goals go_wp2_with fail
            all_goals first
              | (have hb : spAdj x y = true := HQ.out
                 go_ret
                 exact ⟨ret_int (by rw [ordChk, if_neg (by rw [HN.out]; simp), if_pos (pairAny_prefix spAdj xs (k + 1) (by rw [HT.out, hb, Bool.or_true]))]), by repeat (first | exact HB.out | apply below_alloc | apply pw_below_drewN | apply below_drew)⟩)
              | (have hb : spAdj x y = false := HQ.out
                 go_roundw
                 case rel => exact ⟨k + 1, by go_num, by omega, .inl (by omega), ⟨by rw [HT.out, hb, HA.out]; rfl⟩, ⟨by repeat (first | exact HB.out | apply below_alloc | apply pw_below_drewN | apply below_drew)⟩⟩
                 case measure => simp [intOf]; omega)
        · have HS : Aside0 (pairAny spAdj xs = false) := ⟨by
            rcases hk with hk | hk
            · have : k = xs.length := by omega
              subst this
              simpa using HA.out
            · subst hk
              match xs, hlt with
              | [], _ => rfl
              | [a], _ => rfl
              | a :: b :: l, h => simp at h⟩
          clear HA
          have HC3 := Lib.hid (hasSpan_ kor 36 #[] EG.out A c xs wr (Kd.C_below HR.out HB.out) HC.out hl (fun x W hb => korean_any x W ((HG.out.below HB.out).below hb)))
          have HF := Aside0.mk (show xs.any kor = true → ordChk xs = 11 from fun h => by rw [ordChk, if_neg (by rw [HN.out]; simp), if_neg (by rw [HS.out]; simp), if_pos h])
          have HF' := Aside0.mk (show xs.any kor = false → ordChk xs = 0 from fun h => by rw [ordChk, if_neg (by rw [HN.out]; simp), if_neg (by rw [HS.out]; simp), if_neg (by rw [h]; simp)])
          cases hko : xs.any kor with
          | true =>
            rw [hko] at HC3 HF
            clear hko
            go_wp2_with (go_at_call 35; refine (HC3.out).mono ?_; rintro e w' ⟨rfl, hb1⟩)
            go_ret
            exact ⟨ret_int (HF.out (by simp)).symm, below_step HB.out hb1⟩
          | false =>
            rw [hko] at HC3 HF'
            clear hko
            go_wp2_with (go_at_call 35; refine (HC3.out).mono ?_; rintro e w' ⟨rfl, hb1⟩)
            go_ret
            exact ⟨ret_int (HF'.out (by simp)).symm, below_step HB.out hb1⟩

theorem ordering_Check.calls (A0 : Option Addr) (c0 : Nat) (l0 : List S71) (r : Int) (w : World) (hG : GL w) (hr0 : Kd.C k71 w A0 l0.length l0) (hc0 : l0.length ≤ c0) (h : ordering_Check.f l0 = some r) (hl : l0.length ≤ 9223372036854775807) :
    Calls Tryd.prog 23 #[.slice A0 l0.length c0] w fun e w' => e = .returned (.int .i64 r) ∧ Below w.heap.size w w' := by
  obtain rfl := Option.some.inj h
  exact ordCheck_any A0 c0 l0 w hG hr0 hc0 hl
end Go.Proofs.YtipedgkampafjaaDoor.Rf
namespace Go.Proofs.YtipedgkampafjaaDoor.Rf
open Go.RowKit Go.Proofs.YtipedgkampafjaaDoorW.PrintWords Go.Proofs.YtipedgkampafjaaDoorW.PrintLast Go.Proofs.YtipedgkampafjaaDoorW.PrintMore

theorem ReadsInt.of_C {w : World} {A : Option Addr} {xs : List Int} (h : Kd.C (Kd.int .i64) w A xs.length xs) : ReadsInt w .i64 A xs.length xs := Kd.reads_of_C (d := (0 : Int)) (h1 := fun _ => rfl) h

set_option maxRecDepth 100000 in
set_option maxHeartbeats 4000000 in
theorem idxMap_ (p : S43 → Bool) (g : Nat) (cb : Array Value) (eg : ∀ args w, (callFunc g args).run Tryd.prog w = .ok (.enter g args) w) (A : Option Addr) (c : Nat) (xs : List S43) (w : World)
    (hr : Kd.C k43 w A xs.length xs) (hc : xs.length ≤ c) (hl : xs.length ≤ 9223372036854775807)
    (hp : ∀ (x : S43) (A1 : Option Addr) (c1 : Nat) (W : World), x ∈ xs → x.f1.length ≤ c1 → (Kd.int .i64).C W A1 x.f1.length x.f1 → Below w.heap.size w W → Calls Tryd.prog g (#[.agg #[.int .i64 x.f0, .slice A1 x.f1.length c1, .string x.f2]] ++ cb) W fun e w' => e = .returned (.bool (p x)) ∧ Below W.heap.size W w') :
    Calls Tryd.prog 64 #[.slice A xs.length c, .func (.func g) #[] cb] w fun e w' => e = .returned (.int .i64 (fst_ p xs 0)) ∧ Below w.heap.size w w' := by
  have HP := Aside0.mk hp
  have HR := Aside0.mk hr
  clear hp hr hc
  go_enter Tryd.func64, Tryd.ntmps64
  go_wp2_with fail
  go_loopw [8] (fun v wr => ∃ k : Nat, v = .int .i64 k ∧ k ≤ xs.length ∧ Aside0 ((xs.take k).any p = false) ∧ Aside0 (Below w.heap.size w wr)) (fun v _ => xs.length - (intOf v).toNat)
  case atStart => exact ⟨0, rfl, Nat.zero_le _, ⟨rfl⟩, ⟨Below.refl _ _⟩⟩
  case round =>
    obtain ⟨k, rfl, hk, HA, HB⟩ := hrel
    by_cases hlt : k < xs.length
    · obtain ⟨ad, A1, c1, e, hx0, hx1, hx2, hl1, hi1⟩ := at_T43 (Kd.C_below HR.out HB.out) k (by omega) (by omega)
      subst e
      simp only [Int.toNat_natCast] at hx0 hx1 hx2
      have HP' := Aside0.mk (HP.out (rd_T43 xs k) A1 c1 wr (by rw [rd_T43, Int.toNat_natCast, List.getD_eq_getElem?_getD, List.getElem?_eq_getElem hlt]; exact List.getElem_mem hlt) hl1 hi1)
      clear hl1 hi1
      cases hpx : p (rd_T43 xs k) with
      | true =>
        rw [hpx] at HP'
        have HPX := Lib.hid hpx
        clear hpx
        go_wp2_with fail
        refine (HP'.out HB.out).mono ?_
        rintro e w' ⟨rfl, hb1⟩
        go_wp2_with fail
        go_ret
        exact ⟨ret_int (fst_at p xs z43 k hlt HA.out HPX.out).symm, below_step HB.out hb1⟩
      | false =>
        rw [hpx] at HP'
        have HPX := Lib.hid hpx
        clear hpx
        go_wp2_with fail
        refine (HP'.out HB.out).mono ?_
        rintro e w' ⟨rfl, hb1⟩
        go_wp2_with fail
        go_roundw
        case rel => exact ⟨k + 1, by go_num, by omega, ⟨any_take_succ p xs z43 k hlt HA.out HPX.out⟩, ⟨below_step HB.out hb1⟩⟩
        case measure => simp [intOf]; omega
    · go_wp2_with fail
      go_ret
      exact ⟨ret_int (by have : k = xs.length := by omega
                         subst this; rw [fst_skip p xs _ (Nat.le_refl _) HA.out, List.drop_length]; rfl), HB.out⟩

set_option maxHeartbeats 4000000 in
theorem hasMap_ (p : S43 → Bool) (g : Nat) (cb : Array Value) (eg : ∀ args w, (callFunc g args).run Tryd.prog w = .ok (.enter g args) w) (A : Option Addr) (c : Nat) (xs : List S43) (w : World)
    (hr : Kd.C k43 w A xs.length xs) (hc : xs.length ≤ c) (hl : xs.length ≤ 9223372036854775807)
    (hp : ∀ (x : S43) (A1 : Option Addr) (c1 : Nat) (W : World), x ∈ xs → x.f1.length ≤ c1 → (Kd.int .i64).C W A1 x.f1.length x.f1 → Below w.heap.size w W → Calls Tryd.prog g (#[.agg #[.int .i64 x.f0, .slice A1 x.f1.length c1, .string x.f2]] ++ cb) W fun e w' => e = .returned (.bool (p x)) ∧ Below W.heap.size W w') :
    Calls Tryd.prog 41 #[.slice A xs.length c, .func (.func g) #[] cb] w fun e w' => e = .returned (.bool (xs.any p)) ∧ Below w.heap.size w w' := by
  have HC := Lib.hid (idxMap_ p g cb eg A c xs w hr hc hl hp)
  have HF := Lib.hid (fst_ge p xs 0 (by omega))
  clear hr hc hl hp
  go_enter Tryd.func41, Tryd.ntmps41
  go_wp2_with (go_at_call 64; refine (HC.out).mono ?_; rintro e w' ⟨rfl, hb1⟩)
  go_ret
  exact ⟨by rw [← HF.out]; rfl, hb1⟩

set_option maxRecDepth 100000 in
set_option maxHeartbeats 4000000 in
theorem idxInt_ (p : Int → Bool) (g : Nat) (cb : Array Value) (eg : ∀ args w, (callFunc g args).run Tryd.prog w = .ok (.enter g args) w) (A : Option Addr) (c : Nat) (xs : List Int) (w : World)
    (hr : Kd.C (Kd.int .i64) w A xs.length xs) (hc : xs.length ≤ c) (hl : xs.length ≤ 9223372036854775807)
    (hp : ∀ (x : Int) (W : World), x ∈ xs → Below w.heap.size w W → Calls Tryd.prog g (#[.int .i64 x] ++ cb) W fun e w' => e = .returned (.bool (p x)) ∧ Below W.heap.size W w') :
    Calls Tryd.prog 67 #[.slice A xs.length c, .func (.func g) #[] cb] w fun e w' => e = .returned (.int .i64 (fst_ p xs 0)) ∧ Below w.heap.size w w' := by
  have HP := Aside0.mk hp
  have HR := Aside0.mk hr
  clear hp hr hc
  go_enter Tryd.func67, Tryd.ntmps67
  go_wp2_with fail
  go_loopw [8] (fun v wr => ∃ k : Nat, v = .int .i64 k ∧ k ≤ xs.length ∧ Aside0 ((xs.take k).any p = false) ∧ Aside0 (Below w.heap.size w wr)) (fun v _ => xs.length - (intOf v).toNat)
  case atStart => exact ⟨0, rfl, Nat.zero_le _, ⟨rfl⟩, ⟨Below.refl _ _⟩⟩
  case round =>
    obtain ⟨k, rfl, hk, HA, HB⟩ := hrel
    by_cases hlt : k < xs.length
    · obtain ⟨ad, e, hx0⟩ := ReadsInt.at_ (ReadsInt.of_C (Kd.C_below HR.out HB.out)) k (by omega) (by omega)
      subst e
      simp only [Int.toNat_natCast] at hx0
      have HP' := Aside0.mk (HP.out (rd xs k) wr (by rw [rd, Int.toNat_natCast, List.getD_eq_getElem?_getD, List.getElem?_eq_getElem hlt]; exact List.getElem_mem hlt))
      cases hpx : p (rd xs k) with
      | true =>
        rw [hpx] at HP'
        have HPX := Lib.hid hpx
        clear hpx
        go_wp2_with fail
        refine (HP'.out HB.out).mono ?_
        rintro e w' ⟨rfl, hb1⟩
        go_wp2_with fail
        go_ret
        exact ⟨ret_int (fst_at p xs (0 : Int) k hlt HA.out HPX.out).symm, below_step HB.out hb1⟩
      | false =>
        rw [hpx] at HP'
        have HPX := Lib.hid hpx
        clear hpx
        go_wp2_with fail
        refine (HP'.out HB.out).mono ?_
        rintro e w' ⟨rfl, hb1⟩
        go_wp2_with fail
        go_roundw
        case rel => exact ⟨k + 1, by go_num, by omega, ⟨any_take_succ p xs (0 : Int) k hlt HA.out HPX.out⟩, ⟨below_step HB.out hb1⟩⟩
        case measure => simp [intOf]; omega
    · go_wp2_with fail
      go_ret
      exact ⟨ret_int (by have : k = xs.length := by omega
                         subst this; rw [fst_skip p xs _ (Nat.le_refl _) HA.out, List.drop_length]; rfl), HB.out⟩

set_option maxHeartbeats 4000000 in
theorem hasInt_ (p : Int → Bool) (g : Nat) (cb : Array Value) (eg : ∀ args w, (callFunc g args).run Tryd.prog w = .ok (.enter g args) w) (A : Option Addr) (c : Nat) (xs : List Int) (w : World)
    (hr : Kd.C (Kd.int .i64) w A xs.length xs) (hc : xs.length ≤ c) (hl : xs.length ≤ 9223372036854775807)
    (hp : ∀ (x : Int) (W : World), x ∈ xs → Below w.heap.size w W → Calls Tryd.prog g (#[.int .i64 x] ++ cb) W fun e w' => e = .returned (.bool (p x)) ∧ Below W.heap.size W w') :
    Calls Tryd.prog 47 #[.slice A xs.length c, .func (.func g) #[] cb] w fun e w' => e = .returned (.bool (xs.any p)) ∧ Below w.heap.size w w' := by
  have HC := Lib.hid (idxInt_ p g cb eg A c xs w hr hc hl hp)
  have HF := Lib.hid (fst_ge p xs 0 (by omega))
  clear hr hc hl hp
  go_enter Tryd.func47, Tryd.ntmps47
  go_wp2_with (go_at_call 67; refine (HC.out).mono ?_; rintro e w' ⟨rfl, hb1⟩)
  go_ret
  exact ⟨by rw [← HF.out]; rfl, hb1⟩
end Go.Proofs.YtipedgkampafjaaDoor.Rf
namespace Go.Proofs.YtipedgkampafjaaDoor.Rf
open Go.Shelf Go.RowKit Go.Proofs.YtipedgkampafjaaDoorW.PrintWords Go.Proofs.YtipedgkampafjaaDoorW.PrintLast Go.Proofs.YtipedgkampafjaaDoorW.PrintMore

def cmpI (a b : Int) : Int := if a < b then -1 else if b < a then 1 else 0
set_option maxHeartbeats 4000000 in
theorem cmpInt_any (a b : Int) (w : World) : Calls Tryd.prog 34 #[.int .i64 a, .int .i64 b] w fun e w' => e = .returned (.int .i64 (cmpI a b)) ∧ w = w' := by
  rcases Int.lt_trichotomy a b with h | h | h
  · go_enter Tryd.func34, Tryd.ntmps34
    go_wp2
    go_ret
    exact ⟨ret_int (by rw [cmpI, if_pos h]), rfl⟩
  · subst h
    go_enter Tryd.func34, Tryd.ntmps34
    go_wp2
    go_ret
    exact ⟨ret_int (by simp [cmpI]), rfl⟩
  · go_enter Tryd.func34, Tryd.ntmps34
    go_wp2
    go_ret
    exact ⟨ret_int (by rw [cmpI, if_neg (by omega), if_pos h]), rfl⟩

/-- Is a number a code point? -/
def validC (c : Int) : Bool := decide (0 ≤ c) && decide (c ≤ 1114111)
theorem cpValid_any (c : Int) (w : World) : Calls Tryd.prog 71 #[.int .i64 c] w fun e w' => e = .returned (.bool (validC c)) ∧ w = w' := by
  go_enter Tryd.func71, Tryd.ntmps71
  go_wp2
  all_goals
    go_ret
    exact ⟨by simp [validC]; omega, rfl⟩

def invalidC (c : Int) : Bool := !validC c
set_option maxHeartbeats 4000000 in
theorem codes1_any (c : Int) (W : World) : Calls Tryd.prog 70 #[.int .i64 c] W fun e w' => e = .returned (.bool (invalidC c)) ∧ Below W.heap.size W w' := by
  have HI := Lib.hid (show invalidC c = !validC c from rfl)
  cases hv : validC c with
  | true =>
    go_enter Tryd.func70, Tryd.ntmps70
    go_wp2_with (go_at_call 71; refine (cpValid_any c _).mono ?_; rintro e w' ⟨rfl, rfl⟩)
    go_ret
    exact ⟨by rw [HI.out, hv]; rfl, Below.refl _ _⟩
  | false =>
    go_enter Tryd.func70, Tryd.ntmps70
    go_wp2_with (go_at_call 71; refine (cpValid_any c _).mono ?_; rintro e w' ⟨rfl, rfl⟩)
    go_ret
    exact ⟨by rw [HI.out, hv]; rfl, Below.refl _ _⟩

theorem codes_any (A : Option Addr) (c : Nat) (xs : List Int) (w : World) (hr : Kd.C (Kd.int .i64) w A xs.length xs) (hc : xs.length ≤ c) (hl : xs.length ≤ 9223372036854775807) :
    Calls Tryd.prog 58 #[.slice A xs.length c] w fun e w' => e = .returned (.bool (xs.all validC)) ∧ Below w.heap.size w w' := by
  have eg : ∀ args w, (callFunc 70 args).run Tryd.prog w = .ok (.enter 70 args) w := enters_of Tryd.func70 (by kernel_rfl) rfl
  have HC := Lib.hid (hasInt_ invalidC 70 #[] eg A c xs w hr hc hl (fun x W _ _ => codes1_any x W))
  have HF := Lib.hid (show xs.all validC = !(xs.any invalidC) by rw [List.any_eq_not_all_not]; simp [invalidC])
  clear eg hr hc hl
  cases hv : xs.any invalidC with
  | true =>
    rw [hv] at HC HF
    go_enter Tryd.func58, Tryd.ntmps58
    go_wp2_with (go_at_call 47; refine (HC.out).mono ?_; rintro e w' ⟨rfl, hb1⟩)
    go_ret
    exact ⟨by rw [HF.out]; rfl, hb1⟩
  | false =>
    rw [hv] at HC HF
    go_enter Tryd.func58, Tryd.ntmps58
    go_wp2_with (go_at_call 47; refine (HC.out).mono ?_; rintro e w' ⟨rfl, hb1⟩)
    go_ret
    exact ⟨by rw [HF.out]; rfl, hb1⟩

def orI : List Int → Int
  | [] => 0
  | x :: l => if x = 0 then orI l else x
set_option maxRecDepth 100000 in
set_option maxHeartbeats 4000000 in
theorem cmpOr2 (A : Addr) (c : Nat) (x y : Int) (w : World) (h0 : w.cell? A = some (.int .i64 x)) (h1 : w.cell? ⟨A.block, A.off + 1, none⟩ = some (.int .i64 y)) :
    Calls Tryd.prog 60 #[.slice (some A) 2 c] w fun e w' => e = .returned (.int .i64 (orI [x, y])) ∧ Below w.heap.size w w' := by
  have HO := Lib.hid (show orI [x, y] = if x = 0 then (if y = 0 then 0 else y) else x from rfl)
  cases hx : (x == 0) with
  | false =>
    have hx' : x ≠ 0 := by simpa using hx
    go_enter Tryd.func60, Tryd.ntmps60
    go_wp2_with fail
    refine wp_loop_rounds 3 ?_
    rw [rounds_succ]
    go_wp2_with fail
    go_ret
    exact ⟨ret_int (by rw [HO.out, if_neg hx']), Below.refl _ _⟩
  | true =>
    obtain rfl : x = 0 := by simpa using hx
    clear hx
    cases hy : (y == 0) with
    | false =>
      have hy' : y ≠ 0 := by simpa using hy
      go_enter Tryd.func60, Tryd.ntmps60
      go_wp2_with fail
      refine wp_loop_rounds 3 ?_
      rw [rounds_succ]
      go_wp2_with fail
      rw [rounds_succ]
      go_wp2_with fail
      go_ret
      exact ⟨ret_int (by rw [HO.out]; simp [hy']), Below.refl _ _⟩
    | true =>
      obtain rfl : y = 0 := by simpa using hy
      clear hy
      go_enter Tryd.func60, Tryd.ntmps60
      go_wp2_with fail
      refine wp_loop_rounds 3 ?_
      rw [rounds_succ]
      go_wp2_with fail
      rw [rounds_succ]
      go_wp2_with fail
      rw [rounds_succ]
      go_wp2_with fail
      go_ret
      exact ⟨ret_int (by rw [HO.out]; simp), Below.refl _ _⟩

def cmpS (a b : ByteArray) : Int := Lib.compareBytes a.data.toList b.data.toList
def ordM (x y : S43) : Int := orI [cmpI x.f0 y.f0, cmpS x.f2 y.f2]
set_option maxRecDepth 100000 in
set_option maxHeartbeats 4000000 in
theorem mapOrder_any (x y : S43) (A1 A2 : Option Addr) (c1 c2 : Nat) (w : World)
    (hS : ∀ (a b : ByteArray) (w : World), Calls Tryd.prog 61 #[.string a, .string b] w fun e w' => e = .returned (.int .i64 (cmpS a b)) ∧ w = w') :
    Calls Tryd.prog 39 #[.agg #[.int .i64 x.f0, .slice A1 x.f1.length c1, .string x.f2], .agg #[.int .i64 y.f0, .slice A2 y.f1.length c2, .string y.f2]] w fun e w' => e = .returned (.int .i64 (ordM x y)) ∧ Below w.heap.size w w' := by
  have HS := Aside0.mk hS
  have HO := Lib.hid (show ordM x y = orI [cmpI x.f0 y.f0, cmpS x.f2 y.f2] from rfl)
  clear hS
  generalize x.f1.length = n1
  generalize y.f1.length = n2
  go_enter Tryd.func39, Tryd.ntmps39
  go_wp2_with fail
  obtain ⟨W, hW⟩ : ∃ W, (w.alloc (.cells #[.int .i64 x.f0, .slice A1 n1 c1, .string x.f2] 43)).alloc (.cells #[.int .i64 y.f0, .slice A2 n2 c2, .string y.f2] 43) = W := ⟨_, rfl⟩
  rw [hW]
  have hB : Below w.heap.size w W := by rw [← hW]; exact below_alloc (below_alloc (Below.refl _ _) _) _
  have x0 : W.cell? ⟨w.heap.size, 0, none⟩ = some (.int .i64 x.f0) := by rw [← hW]; simp
  have x2 : W.cell? ⟨w.heap.size, 2, none⟩ = some (.string x.f2) := by rw [← hW]; simp
  have y0 : W.cell? ⟨w.heap.size + 1, 0, none⟩ = some (.int .i64 y.f0) := by rw [← hW, show w.heap.size + 1 = (w.alloc (.cells #[.int .i64 x.f0, .slice A1 n1 c1, .string x.f2] 43)).heap.size by simp]; simp only [World.cell?_alloc_new]; rfl
  have y2 : W.cell? ⟨w.heap.size + 1, 2, none⟩ = some (.string y.f2) := by rw [← hW, show w.heap.size + 1 = (w.alloc (.cells #[.int .i64 x.f0, .slice A1 n1 c1, .string x.f2] 43)).heap.size by simp]; simp only [World.cell?_alloc_new]; rfl
  have HB := Aside0.mk hB
  clear hW hB
  refine wp_region_still_tail 10 (by kernel_rfl) (by kernel_rfl) ?_
  simp only [List.take_succ_cons, List.take_zero, List.drop_succ_cons, List.drop_zero]
  change wpStill _ _ W.drew _ _ _
  repeat still_step
  still_call ((cmpInt_any _ _ _).mono (by rintro e w' ⟨rfl, rfl⟩; exact ⟨rfl, rfl⟩))
  repeat still_step
  still_call ((HS.out _ _ _).mono (by rintro e w' ⟨rfl, rfl⟩; exact ⟨rfl, rfl⟩))
  refine wpStill_nil ?_
  go_wp2_with fail
  refine (cmpOr2 ⟨W.heap.size, 0, none⟩ _ (cmpI x.f0 y.f0) (cmpS x.f2 y.f2) _ (by simp) (by simp)).mono ?_
  rintro e w' ⟨rfl, hb1⟩
  go_wp2_with fail
  go_ret
  exact ⟨ret_int HO.out.symm, below_step (by repeat (first | exact HB.out | apply below_alloc | apply below_drew)) hb1⟩
/-- No neighbours out of order. -/
def sortedB {α : Type} (lt : α → α → Bool) (l : List α) : Bool := !pairAny (fun a b => lt b a) l
theorem pairAny_drop {α : Type} (p : α → α → Bool) (l : List α) (d : α) (k : Nat) (hk : k + 1 < l.length) : pairAny p (l.drop k) = (p (l.getD k d) (l.getD (k + 1) d) || pairAny p (l.drop (k + 1))) := by
  rw [List.drop_eq_getElem_cons (show k < l.length by omega), List.drop_eq_getElem_cons hk]
  simp [pairAny, List.getD_eq_getElem?_getD, List.getElem?_eq_getElem hk, List.getElem?_eq_getElem (show k < l.length by omega)]
theorem pairAny_drop_true {α : Type} (p : α → α → Bool) (l : List α) (k : Nat) (h : pairAny p (l.drop k) = true) : pairAny p l = true := by
  induction k generalizing l with
  | zero => simpa using h
  | succ k ih =>
    cases l with
    | nil => simp [pairAny] at h
    | cons x l =>
      have := ih l (by simpa using h)
      cases l with
      | nil => simp [pairAny] at this
      | cons y l => simp [pairAny, this]
theorem pairAny_short {α : Type} (p : α → α → Bool) (l : List α) (h : l.length ≤ 1) : pairAny p l = false := by
  match l, h with
  | [], _ => rfl
  | [a], _ => rfl
set_option maxRecDepth 100000 in
set_option maxHeartbeats 8000000 in
theorem mapSorted_any (A : Option Addr) (c : Nat) (xs : List S43) (w : World) (hr : Kd.C k43 w A xs.length xs) (hc : xs.length ≤ c) (hl : xs.length ≤ 9223372036854775807)
    (hS : ∀ (a b : ByteArray) (w : World), Calls Tryd.prog 61 #[.string a, .string b] w fun e w' => e = .returned (.int .i64 (cmpS a b)) ∧ w = w') :
    Calls Tryd.prog 38 #[.slice A xs.length c, .func (.func 39) #[] #[]] w fun e w' => e = .returned (.bool (sortedB (fun a b => decide (ordM a b < 0)) xs)) ∧ Below w.heap.size w w' := by
  have eg : ∀ args w, (callFunc 39 args).run Tryd.prog w = .ok (.enter 39 args) w := enters_of Tryd.func39 (by kernel_rfl) rfl
  have HR := Aside0.mk hr
  have HS := Aside0.mk hS
  clear hr hc hS
  go_enter Tryd.func38, Tryd.ntmps38
  go_wp2_with fail
  go_loopw [5] (fun v wr => ∃ j : Nat, v = .int .i64 ((j : Int) - 1) ∧ j ≤ xs.length ∧ Aside0 (pairAny (fun a b => decide (ordM b a < 0)) (xs.drop (j - 1)) = false) ∧ Aside0 (Below w.heap.size w wr)) (fun v _ => (intOf v).toNat)
  case atStart => exact ⟨xs.length, rfl, by omega, ⟨pairAny_short _ _ (by simp; omega)⟩, ⟨Below.refl _ _⟩⟩
  case round =>
    obtain ⟨j, rfl, hj, HA, HB⟩ := hrel
    by_cases hlt : 2 ≤ j
    · obtain ⟨i, rfl⟩ : ∃ i, j = i + 2 := ⟨j - 2, by omega⟩
      have ei : ((i + 2 : Nat) : Int) - 1 = (i : Int) + 1 := by omega
      rw [ei]
      clear ei
      obtain ⟨ad, A1, c1, e, hx0, hx1, hx2, hl1, hi1⟩ := at_T43 (Kd.C_below HR.out HB.out) ((i : Int) + 1) (by omega) (by omega)
      obtain ⟨ad', A2, c2, e', hy0, hy1, hy2, hl2, hi2⟩ := at_T43 (Kd.C_below HR.out HB.out) (i : Int) (by omega) (by omega)
      subst e
      cases e'
      clear hl1 hi1 hl2 hi2
      have HD := Aside0.mk (pairAny_drop (fun a b => decide (ordM b a < 0)) xs z43 i (by omega))
      have ei : ((i : Int) + 1).toNat = i + 1 := by omega
      have HX : Aside0 (rd_T43 xs ((i : Int) + 1) = xs.getD (i + 1) z43) := ⟨by rw [rd_T43, ei]⟩
      have HY : Aside0 (rd_T43 xs (i : Int) = xs.getD i z43) := ⟨rfl⟩
      simp only [ei, Int.toNat_natCast] at hx0 hx1 hx2 hy0 hy1 hy2
      clear ei
      generalize rd_T43 xs ((i : Int) + 1) = x at hx0 hx1 hx2 HX
      generalize rd_T43 xs (i : Int) = y at hy0 hy1 hy2 HY
      rw [← HX.out, ← HY.out] at HD
      have HO := Aside0.mk (mapOrder_any x y A1 A2 c1 c2 wr.drew HS.out)
      have p0 : (0 : Int) ≤ (i : Int) + 1 := by omega
      have p1 : (i : Int) + 1 < (xs.length : Int) := by omega
      have p2 : ((i : Int) + 1).toNat = i + 1 := by omega
      have p3 : (i : Int) < (xs.length : Int) := by omega
      have p4 : i < xs.length := by omega
      have p5 : i + 1 < xs.length := by omega
      have hw : IntKind.i64.wrap (i : Int) = (i : Int) := IntWalk.i64_in _ (by omega)
      cases ho : decide (ordM x y < 0) with
      | true =>
        have Ho := Lib.hid ho
        go_wp2_with fail
        refine wp_region_still_tail 10 (by kernel_rfl) (by kernel_rfl) ?_
        simp only [List.take_succ_cons, List.take_zero, List.drop_succ_cons, List.drop_zero]
        change wpStill _ _ wr.drew _ _ _
        repeat still_step
        refine wpStill_nil ?_
        go_wp2_with fail
        refine HO.out.mono ?_
        rintro e w' ⟨rfl, hb1⟩
        go_wp2_with fail
        go_ret
        exact ⟨by rw [sortedB, pairAny_drop_true _ xs i (by rw [HD.out, Ho.out, Bool.true_or])]; rfl, below_step (below_drew HB.out) hb1⟩
      | false =>
        have Ho := Lib.hid ho
        go_wp2_with fail
        refine wp_region_still_tail 10 (by kernel_rfl) (by kernel_rfl) ?_
        simp only [List.take_succ_cons, List.take_zero, List.drop_succ_cons, List.drop_zero]
        change wpStill _ _ wr.drew _ _ _
        repeat still_step
        refine wpStill_nil ?_
        go_wp2_with fail
        refine HO.out.mono ?_
        rintro e w' ⟨rfl, hb1⟩
        go_wp2_with fail
        go_roundw
        case rel => exact ⟨i + 1, by first | rfl | go_num, by omega, ⟨by have h := HD.out; rw [Ho.out, Bool.false_or] at h; exact h.trans HA.out⟩, ⟨below_step (below_drew HB.out) hb1⟩⟩
        case measure => simp [intOf]
    · have HN : Aside0 (sortedB (fun a b => decide (ordM a b < 0)) xs = true) := ⟨by
        have : j - 1 = 0 := by omega
        have h := HA.out
        rw [this] at h
        rw [sortedB]
        simpa using h⟩
      go_wp2_with fail
      go_ret
      exact ⟨by rw [HN.out]; rfl, HB.out⟩
end Go.Proofs.YtipedgkampafjaaDoor.Rf
