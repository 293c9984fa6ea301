/- yearbookref10.times, Less; slide.less at this program. -/
import Derived.Test.YtpimkigbdjfjoaaDoorP3
set_option linter.unusedSimpArgs false
set_option linter.unusedVariables false
namespace Go.Proofs.YtpimkigbdjfjoaaDoor
open Go.RowKit

set_option maxHeartbeats 1000000 in
theorem ref10_times (a b : Int) (h1 : -9223372036854775808 ≤ a) (h2 : a < 9223372036854775808) (h3 : 0 ≤ b) (h4 : b < 9223372036854775808) (w : World) :
    Calls Tryd.prog 85 #[.int .i64 a, .int .i64 b] w fun e w' => e = .returned (.tuple #[.int .i64 (hi (a * b)), .int .u64 (lo (a * b))]) ∧ Below w.heap.size w w' := by
  obtain ⟨m1, m2, m3, m4⟩ := mul_math a b h1 h2 (by omega) h4
  by_cases ha : 0 ≤ a
  · have d := mul64 a b ha (by omega) h3 (by omega)
    have M := m1 ha h3
    clear m1 m2 m3 m4
    obtain ⟨H, hH⟩ : ∃ H, a * b / 18446744073709551616 = H := ⟨_, rfl⟩
    rw [hH] at d M
    rw [show a * b % 18446744073709551616 = lo (a * b) from rfl] at d
    clear hH
    go_enter Tryd.func85, Tryd.ntmps85
    go_wp2_with (go_at_call 65; refine (d _).mono ?_; rintro e w1 ⟨rfl, rfl⟩)
    go_ret2
    exact ⟨by rw [← M]; rfl, b0 w⟩
  · have wa : IntKind.u64.wrap a = a + 18446744073709551616 := by rw [IntKind.wrap_u64]; omega
    have d := mul64 (a + 18446744073709551616) b (by omega) (by omega) h3 (by omega)
    obtain ⟨M, M2⟩ := m2 (by omega) h3
    clear m1 m2 m3 m4
    obtain ⟨H, hH⟩ : ∃ H, (a + 18446744073709551616) * b / 18446744073709551616 = H := ⟨_, rfl⟩
    rw [hH] at d M
    rw [M2, ← wa] at d
    clear hH M2 wa
    go_enter Tryd.func85, Tryd.ntmps85
    go_wp2_with (go_at_call 65; refine (d _).mono ?_; rintro e w1 ⟨rfl, rfl⟩)
    go_ret2
    exact ⟨by rw [← M]; rfl, b0 w⟩

theorem hl_lt (x y : Int) : (decide (hi x < hi y) || (hi x == hi y && decide (lo x < lo y))) = decide (x < y) := by
  have h1 := hi_lo x
  have h2 := hi_lo y
  have h3 := lo_lo x
  have h4 := lo_lo y
  rw [Bool.eq_iff_iff]
  simp only [Bool.or_eq_true, Bool.and_eq_true, decide_eq_true_eq, beq_iff_eq]
  omega

set_option maxHeartbeats 1000000 in
theorem ref10_Less (a b c d : Int) (h1 : slB a b = true) (h2 : slB c d = true) (w : World) :
    Calls Tryd.prog 48 #[.agg #[.int .i64 a, .int .i64 b], .agg #[.int .i64 c, .int .i64 d]] w fun e w' => e = .returned (.bool (decide (a * d < c * b))) ∧ Below w.heap.size w w' := by
  obtain ⟨q1, q2, q3, q4⟩ := slB_spec h1
  obtain ⟨p1, p2, p3, p4⟩ := slB_spec h2
  have c1 := ref10_times a d (by omega) (by omega) (by omega) (by omega)
  have c2 := ref10_times c b (by omega) (by omega) (by omega) (by omega)
  have hh := hl_lt (a * d) (c * b)
  have H := hide hh
  clear h1 h2 q1 q2 q3 q4 p1 p2 p3 p4 hh
  generalize decide (a * d < c * b) = E at *
  generalize hi (a * d) = x1 at *
  generalize lo (a * d) = x2 at *
  generalize hi (c * b) = y1 at *
  generalize lo (c * b) = y2 at *
  go_enter Tryd.func48, Tryd.ntmps48
  go_wp2_with fail
  refine (c1 _).mono ?_
  rintro e w1 ⟨rfl, hb1⟩
  have f_p1 := kp hb1 (ka (na w #[.int .i64 a, .int .i64 b] 26) (.cells #[.int .i64 c, .int .i64 d] 26))
  have f_q1 := kp hb1 (na1 w (.cells #[.int .i64 a, .int .i64 b] 26) #[.int .i64 c, .int .i64 d] 26)
  have hB1 := bB (bA (bA (b0 w) (.cells #[.int .i64 a, .int .i64 b] 26)) (.cells #[.int .i64 c, .int .i64 d] 26)) hb1
  obtain ⟨zp_a, zp_b, lp1⟩ := rcell f_p1
  obtain ⟨zq_a, zq_b, lq1⟩ := rcell f_q1
  go_wp2_with fail
  refine (c2 _).mono ?_
  rintro e w2 ⟨rfl, hb2⟩
  have f_p2 := kp hb2 (f_p1)
  have f_q2 := kp hb2 (f_q1)
  have hB2 := bB hB1 hb2
  clear zp_a zp_b zq_a zq_b
  obtain ⟨zp_a, zp_b, lp2⟩ := rcell f_p2
  obtain ⟨zq_a, zq_b, lq2⟩ := rcell f_q2
  cases e1 : decide (x1 < y1)
  · cases e2 : (x1 == y1)
    · obtain rfl : E = false := by rw [← H.out, e1, e2]; rfl
      go_wp2
      go_ret
      exact ⟨rfl, hB2⟩
    · cases e3 : decide (x2 < y2)
      · obtain rfl : E = false := by rw [← H.out, e1, e2, e3]; rfl
        go_wp2
        go_ret
        exact ⟨rfl, hB2⟩
      · obtain rfl : E = true := by rw [← H.out, e1, e2, e3]; rfl
        go_wp2
        go_ret
        exact ⟨rfl, hB2⟩
  · obtain rfl : E = true := by rw [← H.out, e1]; rfl
    go_wp2
    go_ret
    exact ⟨rfl, hB2⟩

set_option maxHeartbeats 1000000 in
theorem slide_less (a b c d : Int) (h1 : slB a b = true) (h2 : slB c d = true) (w : World) :
    Calls Tryd.prog 121 #[.agg #[.int .i64 a, .int .i64 b], .agg #[.int .i64 c, .int .i64 d]] w fun e w' => e = .returned (.bool (decide (a * d < c * b))) ∧ Below w.heap.size w w' := by
  have c1 := line_Compare_yes a b c d h1 h2
  have hq : (cmpI (a * d) (c * b) < 0) = (a * d < c * b) := by
    apply propext
    unfold cmpI
    by_cases e : a * d < c * b
    · simp [e]
    · by_cases e2 : a * d = c * b
      · simp [e2]
      · simp [e, e2]
  have hd : decide (a * d < c * b) = decide (cmpI (a * d) (c * b) < 0) := by simp only [hq]
  rw [hd]
  generalize cmpI (a * d) (c * b) = o at *
  clear hq hd h1 h2
  go_enter Tryd.func121, Tryd.ntmps121
  go_wp2_with fail
  refine (c1 _).mono ?_
  rintro e w1 ⟨rfl, hb1⟩
  have f_p1 := kp hb1 (ka (na w #[.int .i64 a, .int .i64 b] 26) (.cells #[.int .i64 c, .int .i64 d] 26))
  have f_q1 := kp hb1 (na1 w (.cells #[.int .i64 a, .int .i64 b] 26) #[.int .i64 c, .int .i64 d] 26)
  have hB1 := bB (bA (bA (b0 w) (.cells #[.int .i64 a, .int .i64 b] 26)) (.cells #[.int .i64 c, .int .i64 d] 26)) hb1
  obtain ⟨zp_a, zp_b, lp1⟩ := rcell f_p1
  obtain ⟨zq_a, zq_b, lq1⟩ := rcell f_q1
  go_wp2
  go_ret
  exact ⟨rfl, hB1⟩
end Go.Proofs.YtpimkigbdjfjoaaDoor
