/- The package wide at this program, on: parts, Div, Int, Compare, Mul. -/
import Derived.Test.YtfdaabdibpcjeaaWide3
set_option linter.unusedSimpArgs false
set_option linter.unusedVariables false
namespace Go.Proofs.Ytfdaabdibpcjeaa
open Go.RowKit

theorem parts_math (h l m q r q0 s : Int) (_hm : 0 < m) (hl : 0 ≤ l) (hl' : l < 18446744073709551616) (e1 : h = q * m + r) (r0 : 0 ≤ r) (r1 : r < m) (e2 : r * 18446744073709551616 + l = q0 * m + s) (s0 : 0 ≤ s) (s1 : s < m) (q00 : 0 ≤ q0) :
    hi ((h * 18446744073709551616 + l) / m) = q ∧ lo ((h * 18446744073709551616 + l) / m) = q0 ∧ (h * 18446744073709551616 + l) % m = s := by
  have key : h * 18446744073709551616 + l = (q * 18446744073709551616 + q0) * m + s := by
    rw [e1, Int.add_mul, Int.add_mul, Int.mul_right_comm]
    omega
  obtain ⟨g1, g2⟩ := Knuth.quo s0 s1 key
  have hq0 : q0 < 18446744073709551616 := by
    have h1 : q0 * m < 18446744073709551616 * m := by omega
    exact Int.lt_of_mul_lt_mul_right h1 (by omega)
  rw [g1]
  obtain ⟨g3, g4⟩ := hi_eq (x := q * 18446744073709551616 + q0) rfl q00 hq0
  exact ⟨g3.symm, g4.symm, g2⟩

set_option maxHeartbeats 1000000 in
theorem wide_parts (n m : Int) (h0 : 0 ≤ n) (h1 : n < 340282366920938463463374607431768211456) (hm : 0 < m) (hm' : m < 18446744073709551616) (w : World) :
    Calls Try.prog 95 #[.int .u64 (hi n), .int .u64 (lo n), .int .u64 m] w fun e w' => e = .returned (.tuple #[.int .u64 (hi (n / m)), .int .u64 (lo (n / m)), .int .u64 (n % m)]) ∧ Below w.heap.size w w' := by
  obtain ⟨l0, l1⟩ := lo_lo n
  have hn := hi_lo n
  have a0 : 0 ≤ hi n := by unfold hi; omega
  have a1 : hi n < 18446744073709551616 := by unfold hi; omega
  obtain ⟨r, hr⟩ : ∃ r, hi n % m = r := ⟨_, rfl⟩
  obtain ⟨q, hq⟩ : ∃ q, hi n / m = q := ⟨_, rfl⟩
  have r0 : 0 ≤ r := by rw [← hr]; exact Int.emod_nonneg _ (by omega)
  have r1 : r < m := by rw [← hr]; exact Int.emod_lt_of_pos _ hm
  have q0 : 0 ≤ q := by rw [← hq]; exact Int.ediv_nonneg a0 (by omega)
  have q1 : q < 18446744073709551616 := by
    have : q ≤ hi n := by rw [← hq]; exact Int.ediv_le_self _ a0
    omega
  have ht : (hi n).tmod m = r := by rw [← hr]; exact Int.tmod_eq_emod_of_nonneg a0
  have hd : (hi n).tdiv m = q := by rw [← hq]; exact Int.tdiv_eq_ediv_of_nonneg a0
  have e1 : hi n = q * m + r := by
    have := Int.mul_ediv_add_emod (hi n) m
    rw [hr, hq, Int.mul_comm] at this
    exact this.symm
  have s0 : 0 ≤ (r * 18446744073709551616 + lo n) % m := Int.emod_nonneg _ (by omega)
  have s1 : (r * 18446744073709551616 + lo n) % m < m := Int.emod_lt_of_pos _ hm
  have p0 : 0 ≤ (r * 18446744073709551616 + lo n) / m := Int.ediv_nonneg (by omega) (by omega)
  have e2 : r * 18446744073709551616 + lo n = (r * 18446744073709551616 + lo n) / m * m + (r * 18446744073709551616 + lo n) % m := by
    have := Int.mul_ediv_add_emod (r * 18446744073709551616 + lo n) m
    rw [Int.mul_comm] at this
    exact this.symm
  obtain ⟨g1, g2, g3⟩ := parts_math (hi n) (lo n) m q r _ _ hm l0 l1 e1 r0 r1 e2 s0 s1 p0
  rw [hn] at g1 g2 g3
  have d := div64 r (lo n) m r0 r1 l0 l1 hm'
  rw [← g2, ← g3] at d
  have G1 := hide g1
  clear g1 g2 g3 e1 e2 s0 s1 p0 hn
  have nz : ¬ m = 0 := by omega
  go_enter Try.func95, Try.ntmps95
  go_wp2_with (go_at_call 101; refine (d _).mono ?_; rintro e w1 ⟨rfl, hb1⟩)
  go_ret3
  rw [G1.out]
  exact ⟨rfl, hb1⟩

theorem wide_Int (x : Int) (h : Rng x) (w : World) :
    Calls Try.prog 83 #[.agg #[.int .i64 (hi x), .int .u64 (lo x)]] w fun e w' =>
      e = .returned (.tuple #[.int .i64 (if -9223372036854775808 ≤ x ∧ x < 9223372036854775808 then x else 0), .int .i64 (if -9223372036854775808 ≤ x ∧ x < 9223372036854775808 then 0 else 5)]) ∧ Below w.heap.size w w' := by
  obtain ⟨a1, a2⟩ := lo_lo x
  have v0 : -9223372036854775808 ≤ wrap64 (lo x) ∧ wrap64 (lo x) < 9223372036854775808 := by simp only [wrap64]; omega
  obtain ⟨v1, v2⟩ := v0
  have k1 : lo x = lo (wrap64 (lo x)) := by simp only [wrap64]; unfold lo; omega
  have k2 : (hi x = hi (wrap64 (lo x))) ↔ (-9223372036854775808 ≤ x ∧ x < 9223372036854775808) := by simp only [wrap64]; unfold hi lo; omega
  have K1 := eq_true k1
  by_cases hx : -9223372036854775808 ≤ x ∧ x < 9223372036854775808
  · have K2 := eq_true (k2.2 hx)
    have e : wrap64 (lo x) = x := by simp only [wrap64]; unfold lo; omega
    rw [if_pos hx, if_pos hx]
    have E := hide e
    clear k1 k2 e hx
    go_enter Try.func83, Try.ntmps83
    go_wp2
    have q0 := na w #[.int .i64 (hi x), .int .u64 (lo x)] 90
    refine Abs.wp_region_abs (Abs.cls0 _) [0, 1, 2, 3, 4, 5, 6, 7, 8, 9, 10, 11, 12, 13] (by kernel_rfl) (by kernel_rfl) (Below.refl _ _).drew ?_
    repeat (first | (refine Abs.step_pure rfl rfl (fun K hK => ?_); go_simp; (try go_bits); (first | refine hK _ _ ?_ | (simp only [↓IntWalk.iteOmega]; go_simp; (try go_bits); refine hK _ _ ?_)); clear hK K) | (refine Abs.step_load (v := ?_) rfl rfl (by kernel_rfl) rfl (fun w0 hI => ?_) (fun K hK => ?_); rotate_left; (· have z0 := (rcell (kp hI q0)).1; go_simp; rfl); (simp only [Act.put, List.setIfInBounds_toArray, List.set_cons_zero, List.set_cons_succ]; refine hK _ _ ?_; clear hK K)) | (refine Abs.step_skip rfl rfl (fun K hK => ?_); (simp only [Act.put, List.setIfInBounds_toArray, List.set_cons_zero, List.set_cons_succ]; refine hK _ _ ?_; clear hK K)))
    (refine Abs.step_call_val (f := ?_) (args := ?_) (v := ?_) rfl rfl rfl rfl (fun w0 => ?_) (fun w0 hI => ?_) (fun K hK => ?_); rotate_left 3; (· go_simp; (constructor <;> rfl)); (· exact wide_Of _ v1 v2 _); (simp only [Act.put, List.setIfInBounds_toArray, List.set_cons_zero, List.set_cons_succ]; refine hK _ _ ?_; clear hK K))
    repeat (first | (refine Abs.step_pure rfl rfl (fun K hK => ?_); go_simp; (try go_bits); (first | refine hK _ _ ?_ | (simp only [↓IntWalk.iteOmega]; go_simp; (try go_bits); refine hK _ _ ?_)); clear hK K) | (refine Abs.step_load (v := ?_) rfl rfl (by kernel_rfl) rfl (fun w0 hI => ?_) (fun K hK => ?_); rotate_left; (· have z0 := (rcell (kp hI q0)).1; go_simp; rfl); (simp only [Act.put, List.setIfInBounds_toArray, List.set_cons_zero, List.set_cons_succ]; refine hK _ _ ?_; clear hK K)) | (refine Abs.step_skip rfl rfl (fun K hK => ?_); (simp only [Act.put, List.setIfInBounds_toArray, List.set_cons_zero, List.set_cons_succ]; refine hK _ _ ?_; clear hK K)))
    (refine Abs.step_call_val (f := ?_) (args := ?_) (v := ?_) rfl rfl rfl rfl (fun w0 => ?_) (fun w0 hI => ?_) (fun K hK => ?_); rotate_left 3; (· go_simp; (constructor <;> rfl)); (· exact told_int _ _ _); (simp only [Act.put, List.setIfInBounds_toArray, List.set_cons_zero, List.set_cons_succ]; refine hK _ _ ?_; clear hK K))
    repeat (first | (refine Abs.step_pure rfl rfl (fun K hK => ?_); go_simp; (try go_bits); (first | refine hK _ _ ?_ | (simp only [↓IntWalk.iteOmega]; go_simp; (try go_bits); refine hK _ _ ?_)); clear hK K) | (refine Abs.step_load (v := ?_) rfl rfl (by kernel_rfl) rfl (fun w0 hI => ?_) (fun K hK => ?_); rotate_left; (· have z0 := (rcell (kp hI q0)).1; go_simp; rfl); (simp only [Act.put, List.setIfInBounds_toArray, List.set_cons_zero, List.set_cons_succ]; refine hK _ _ ?_; clear hK K)) | (refine Abs.step_skip rfl rfl (fun K hK => ?_); (simp only [Act.put, List.setIfInBounds_toArray, List.set_cons_zero, List.set_cons_succ]; refine hK _ _ ?_; clear hK K)))
    (intro w0 hI hx0 hx1 hx2; clear hx0 hx1 hx2; simp only [Abs.T_setF, Abs.T_addA, Abs.T_push, Abs.T_start])
    go_wp2
    go_ret2
    exact ⟨by simp [E.out], bB (bA (b0 w) _) hI⟩
  · have K2 := eq_false (fun h => hx (k2.1 h))
    rw [if_neg hx, if_neg hx]
    clear k1 k2 hx
    go_enter Try.func83, Try.ntmps83
    go_wp2
    have q0 := na w #[.int .i64 (hi x), .int .u64 (lo x)] 90
    refine Abs.wp_region_abs (Abs.cls0 _) [0, 1, 2, 3, 4, 5, 6, 7, 8, 9, 10, 11, 12, 13] (by kernel_rfl) (by kernel_rfl) (Below.refl _ _).drew ?_
    repeat (first | (refine Abs.step_pure rfl rfl (fun K hK => ?_); go_simp; (try go_bits); (first | refine hK _ _ ?_ | (simp only [↓IntWalk.iteOmega]; go_simp; (try go_bits); refine hK _ _ ?_)); clear hK K) | (refine Abs.step_load (v := ?_) rfl rfl (by kernel_rfl) rfl (fun w0 hI => ?_) (fun K hK => ?_); rotate_left; (· have z0 := (rcell (kp hI q0)).1; go_simp; rfl); (simp only [Act.put, List.setIfInBounds_toArray, List.set_cons_zero, List.set_cons_succ]; refine hK _ _ ?_; clear hK K)) | (refine Abs.step_skip rfl rfl (fun K hK => ?_); (simp only [Act.put, List.setIfInBounds_toArray, List.set_cons_zero, List.set_cons_succ]; refine hK _ _ ?_; clear hK K)))
    (refine Abs.step_call_val (f := ?_) (args := ?_) (v := ?_) rfl rfl rfl rfl (fun w0 => ?_) (fun w0 hI => ?_) (fun K hK => ?_); rotate_left 3; (· go_simp; (constructor <;> rfl)); (· exact wide_Of _ v1 v2 _); (simp only [Act.put, List.setIfInBounds_toArray, List.set_cons_zero, List.set_cons_succ]; refine hK _ _ ?_; clear hK K))
    repeat (first | (refine Abs.step_pure rfl rfl (fun K hK => ?_); go_simp; (try go_bits); (first | refine hK _ _ ?_ | (simp only [↓IntWalk.iteOmega]; go_simp; (try go_bits); refine hK _ _ ?_)); clear hK K) | (refine Abs.step_load (v := ?_) rfl rfl (by kernel_rfl) rfl (fun w0 hI => ?_) (fun K hK => ?_); rotate_left; (· have z0 := (rcell (kp hI q0)).1; go_simp; rfl); (simp only [Act.put, List.setIfInBounds_toArray, List.set_cons_zero, List.set_cons_succ]; refine hK _ _ ?_; clear hK K)) | (refine Abs.step_skip rfl rfl (fun K hK => ?_); (simp only [Act.put, List.setIfInBounds_toArray, List.set_cons_zero, List.set_cons_succ]; refine hK _ _ ?_; clear hK K)))
    (refine Abs.step_call_val (f := ?_) (args := ?_) (v := ?_) rfl rfl rfl rfl (fun w0 => ?_) (fun w0 hI => ?_) (fun K hK => ?_); rotate_left 3; (· go_simp; (constructor <;> rfl)); (· exact told_int _ _ _); (simp only [Act.put, List.setIfInBounds_toArray, List.set_cons_zero, List.set_cons_succ]; refine hK _ _ ?_; clear hK K))
    repeat (first | (refine Abs.step_pure rfl rfl (fun K hK => ?_); go_simp; (try go_bits); (first | refine hK _ _ ?_ | (simp only [↓IntWalk.iteOmega]; go_simp; (try go_bits); refine hK _ _ ?_)); clear hK K) | (refine Abs.step_load (v := ?_) rfl rfl (by kernel_rfl) rfl (fun w0 hI => ?_) (fun K hK => ?_); rotate_left; (· have z0 := (rcell (kp hI q0)).1; go_simp; rfl); (simp only [Act.put, List.setIfInBounds_toArray, List.set_cons_zero, List.set_cons_succ]; refine hK _ _ ?_; clear hK K)) | (refine Abs.step_skip rfl rfl (fun K hK => ?_); (simp only [Act.put, List.setIfInBounds_toArray, List.set_cons_zero, List.set_cons_succ]; refine hK _ _ ?_; clear hK K)))
    (intro w0 hI hx0 hx1 hx2; clear hx0 hx1 hx2; simp only [Abs.T_setF, Abs.T_addA, Abs.T_push, Abs.T_start])
    go_wp2
    go_ret2
    exact ⟨by simp, bB (bA (b0 w) _) hI⟩

theorem div_neg_math (x m : Int) (hm : 0 < m) : (0 < (-x) % m → x / m = -((-x) / m) - 1 ∧ x % m = m - (-x) % m) ∧ (¬ 0 < (-x) % m → x / m = -((-x) / m) ∧ x % m = 0) := by
  have h0 : 0 ≤ (-x) % m := Int.emod_nonneg _ (by omega)
  have h1 : (-x) % m < m := Int.emod_lt_of_pos _ hm
  have h2 : x = -((-x) / m * m) - (-x) % m := by
    have := Int.mul_ediv_add_emod (-x) m
    rw [Int.mul_comm] at this
    omega
  constructor
  · intro hp
    have key : x = (-((-x) / m) - 1) * m + (m - (-x) % m) := by
      rw [Int.sub_mul, Int.neg_mul, Int.one_mul]
      omega
    exact Knuth.quo (by omega) (by omega) key
  · intro hp
    have key : x = (-((-x) / m)) * m + 0 := by
      rw [Int.neg_mul]
      omega
    exact Knuth.quo (by omega) (by omega) key

set_option maxRecDepth 100000 in
set_option maxHeartbeats 1000000 in
theorem wide_Div (x m : Int) (h : Rng x) (hm : 1 ≤ m) (hm' : m < 9223372036854775808) (w : World) :
    Calls Try.prog 87 #[.agg #[.int .i64 (hi x), .int .u64 (lo x)], .int .i64 m] w fun e w' => e = .returned (.tuple #[.agg #[.int .i64 (hi (x / m)), .int .u64 (lo (x / m))], .int .i64 (x % m), .int .i64 0]) ∧ Below w.heap.size w w' := by
  obtain ⟨h1, h2⟩ := h
  obtain ⟨b1, b2⟩ := hi_of x ⟨h1, h2⟩
  have M0 : ¬ m < 1 := by omega
  by_cases hx : 0 ≤ x
  · have hh : 0 ≤ hi x := by unfold hi; omega
    have hq0 : 0 ≤ x / m := Int.ediv_nonneg hx (by omega)
    have hq1 : x / m ≤ x := Int.ediv_le_self _ hx
    have hr0 : 0 ≤ x % m := Int.emod_nonneg _ (by omega)
    have hr1 : x % m < m := Int.emod_lt_of_pos _ (by omega)
    have d1 := wide_parts x m hx (by omega) (by omega) (by omega)
    have d2 := signed_f (x / m) hq0 (by omega)
    go_enter Try.func87, Try.ntmps87
    go_wp2_with fail
    refine (size_nn x ⟨h1, h2⟩ hx _).mono ?_
    rintro e w1 ⟨rfl, hb1⟩
    have a1 := kp hb1 (ka (na w #[.int .i64 (hi x), .int .u64 (lo x)] 90) (.cells #[.int .i64 0, .int .u64 0] 90))
    have r1 := kp hb1 (na1 w (.cells #[.int .i64 (hi x), .int .u64 (lo x)] 90) #[.int .i64 0, .int .u64 0] 90)
    go_wp2_with fail
    refine (d1 _).mono ?_
    rintro e w2 ⟨rfl, hb2⟩
    have a2 := kp hb2 a1
    have r2 := kp hb2 r1
    obtain ⟨z1, -, z3⟩ := rcell a2
    have hd : decide (hi x < 0) = false := decide_eq_false (by omega)
    go_wp2_with fail
    refine (d2 _).mono ?_
    rintro e w3 ⟨rfl, hb3⟩
    have a3 := kp hb3 a2
    have r3 := kp hb3 r2
    obtain ⟨y1, y2, y3⟩ := rcell a3
    obtain ⟨x1, x2, x3⟩ := rcell r3
    go_wp2
    (rw [row2 r3]; generalize hT : setRow _ _ _ = wE; obtain ⟨hbE, hgE⟩ := ret_row (bB (bB (bB (bA (bA (b0 w) _) _) hb1) hb2) hb3) (by omega) r3 hT; have zE := (rcell hgE).1; have zL := (rcell hgE).2.2; clear hT; refine bodyPost_ret (by simp [results, Try.results87, go_sem, zE, zL]; try rfl) rfl ?_)
    exact ⟨rfl, bA hbE _⟩
  · have hh : hi x < 0 := by unfold hi; omega
    have hq0 : 0 ≤ (-x) / m := Int.ediv_nonneg (by omega) (by omega)
    have hq1 : (-x) / m ≤ -x := Int.ediv_le_self _ (by omega)
    have hq2 : (-x) / m ≤ -x - (-x) % m := by
      have e := Int.mul_ediv_add_emod (-x) m
      have : 1 * ((-x) / m) ≤ m * ((-x) / m) := Int.mul_le_mul_of_nonneg_right hm hq0
      omega
    have hr0 : 0 ≤ (-x) % m := Int.emod_nonneg _ (by omega)
    have hr1 : (-x) % m < m := Int.emod_lt_of_pos _ (by omega)
    obtain ⟨p1, p2⟩ := div_neg_math x m (by omega)
    have d1 := wide_parts (-x) m (by omega) (by omega) (by omega) (by omega)
    have d2 := signed_t ((-x) / m) hq0 (by omega)
    have d3 := wide_difference (-((-x) / m)) 1 ⟨by omega, by omega⟩ ⟨by decide, by decide⟩
    generalize (-x) / m = q at *
    generalize (-x) % m = r at *
    have go : ∀ w, Calls Try.prog 87 #[.agg #[.int .i64 (hi x), .int .u64 (lo x)], .int .i64 m] w fun e w' => e = .returned (.tuple #[.agg #[.int .i64 (hi (if 0 < r then -q - 1 else -q)), .int .u64 (lo (if 0 < r then -q - 1 else -q))], .int .i64 (if 0 < r then m - r else r), .int .i64 0]) ∧ Below w.heap.size w w' := by
      intro w
      clear p1 p2
      by_cases hr : 0 < r
      · rw [if_pos hr, if_pos hr]
        rw [W128_in ⟨by omega, by omega⟩] at d3
        go_enter Try.func87, Try.ntmps87
        go_wp2_with fail
        refine (size_neg x ⟨h1, h2⟩ (by omega) _).mono ?_
        rintro e w1 ⟨rfl, hb1⟩
        have a1 := kp hb1 (ka (na w #[.int .i64 (hi x), .int .u64 (lo x)] 90) (.cells #[.int .i64 0, .int .u64 0] 90))
        have r1 := kp hb1 (na1 w (.cells #[.int .i64 (hi x), .int .u64 (lo x)] 90) #[.int .i64 0, .int .u64 0] 90)
        go_wp2_with fail
        refine (d1 _).mono ?_
        rintro e w2 ⟨rfl, hb2⟩
        have a2 := kp hb2 a1
        have r2 := kp hb2 r1
        obtain ⟨z1, -, z3⟩ := rcell a2
        have hd : decide (hi x < 0) = true := decide_eq_true hh
        go_wp2_with fail
        refine (d2 _).mono ?_
        rintro e w3 ⟨rfl, hb3⟩
        have a3 := kp hb3 a2
        have r3 := kp hb3 r2
        obtain ⟨y1, y2, y3⟩ := rcell a3
        obtain ⟨x1, x2, x3⟩ := rcell r3
        go_wp2_with fail
        have n3 := na w3 #[.int .i64 (hi (-q)), .int .u64 (lo (-q))] 90
        have a4 := ka a3 (.cells #[.int .i64 (hi (-q)), .int .u64 (lo (-q))] 90)
        have r4 := ka r3 (.cells #[.int .i64 (hi (-q)), .int .u64 (lo (-q))] 90)
        have hne : w.heap.size + 1 ≠ w3.heap.size := by omega
        refine Abs.wp_region_abs (Abs.cls0 _) [0, 1, 2, 3, 4, 5, 6] (by kernel_rfl) (by kernel_rfl) (Below.refl _ _).drew ?_
        repeat (first | (refine Abs.step_pure rfl rfl (fun K hK => ?_); go_simp; (try go_bits); (first | refine hK _ _ ?_ | (simp only [↓IntWalk.iteOmega]; go_simp; (try go_bits); refine hK _ _ ?_)); clear hK K) | (refine Abs.step_load (v := ?_) rfl rfl (by kernel_rfl) rfl (fun w0 hI => ?_) (fun K hK => ?_); rotate_left; (· have z0 := (rcell (kp hI n3)).1; go_simp; rfl); (simp only [Act.put, List.setIfInBounds_toArray, List.set_cons_zero, List.set_cons_succ]; refine hK _ _ ?_; clear hK K)) | (refine Abs.step_skip rfl rfl (fun K hK => ?_); (simp only [Act.put, List.setIfInBounds_toArray, List.set_cons_zero, List.set_cons_succ]; refine hK _ _ ?_; clear hK K)))
        (refine Abs.step_call_val (f := ?_) (args := ?_) (v := ?_) rfl rfl rfl rfl (fun w0 => ?_) (fun w0 hI => ?_) (fun K hK => ?_); rotate_left 3; (· go_simp; (constructor <;> rfl)); (· exact wide_Of 1 (by decide) (by decide) _); (simp only [Act.put, List.setIfInBounds_toArray, List.set_cons_zero, List.set_cons_succ]; refine hK _ _ ?_; clear hK K))
        repeat (first | (refine Abs.step_pure rfl rfl (fun K hK => ?_); go_simp; (try go_bits); (first | refine hK _ _ ?_ | (simp only [↓IntWalk.iteOmega]; go_simp; (try go_bits); refine hK _ _ ?_)); clear hK K) | (refine Abs.step_load (v := ?_) rfl rfl (by kernel_rfl) rfl (fun w0 hI => ?_) (fun K hK => ?_); rotate_left; (· have z0 := (rcell (kp hI n3)).1; go_simp; rfl); (simp only [Act.put, List.setIfInBounds_toArray, List.set_cons_zero, List.set_cons_succ]; refine hK _ _ ?_; clear hK K)) | (refine Abs.step_skip rfl rfl (fun K hK => ?_); (simp only [Act.put, List.setIfInBounds_toArray, List.set_cons_zero, List.set_cons_succ]; refine hK _ _ ?_; clear hK K)))
        (refine Abs.step_call (f := ?_) (args := ?_) rfl rfl rfl rfl (fun v _ => ∃ f : Bool, v = .tuple #[.agg #[.int .i64 (hi (-q - 1)), .int .u64 (lo (-q - 1))], .bool f]) (fun _ _ _ h _ => h) (fun w0 => ?_) (fun w0 hI _ => ?_) (fun K hK v wv hv => ?_); rotate_left 2; (· go_simp; (constructor <;> rfl)); (· exact (d3 _).mono (by rintro e w' ⟨⟨f, rfl⟩, hb⟩; exact ⟨_, rfl, hb, f, rfl⟩)); (obtain ⟨f, rfl⟩ := hv; simp only [Act.put, List.setIfInBounds_toArray, List.set_cons_zero, List.set_cons_succ]; refine hK _ _ ?_; clear hK K))
        repeat (first | (refine Abs.step_pure rfl rfl (fun K hK => ?_); go_simp; (try go_bits); (first | refine hK _ _ ?_ | (simp only [↓IntWalk.iteOmega]; go_simp; (try go_bits); refine hK _ _ ?_)); clear hK K) | (refine Abs.step_load (v := ?_) rfl rfl (by kernel_rfl) rfl (fun w0 hI => ?_) (fun K hK => ?_); rotate_left; (· have z0 := (rcell (kp hI n3)).1; go_simp; rfl); (simp only [Act.put, List.setIfInBounds_toArray, List.set_cons_zero, List.set_cons_succ]; refine hK _ _ ?_; clear hK K)) | (refine Abs.step_skip rfl rfl (fun K hK => ?_); (simp only [Act.put, List.setIfInBounds_toArray, List.set_cons_zero, List.set_cons_succ]; refine hK _ _ ?_; clear hK K)))
        (refine Abs.step_store (T := ?_) rfl rfl rfl (fun w0 hI hF hU => ?_) (fun w0 hI hU hJ => ?_) (fun K hK => ?_); rotate_left; (· have hR := kp hI n3; have hg0 := (rcell hR).1; have hg1 := (rcell hR).2.1; simp only [Abs.T_setF, Abs.T_addA, Abs.T_push, Abs.T_start]; go_simp; exact row2 hR _ _); (· first | exact trivial | exact js hJ rfl _ | exact js hJ (Or.inl rfl) _ | exact js hJ (Or.inr rfl) _); (simp only [Act.put, List.setIfInBounds_toArray, List.set_cons_zero, List.set_cons_succ]; refine hK _ _ ?_; clear hK K))
        repeat (first | (refine Abs.step_pure rfl rfl (fun K hK => ?_); go_simp; (try go_bits); (first | refine hK _ _ ?_ | (simp only [↓IntWalk.iteOmega]; go_simp; (try go_bits); refine hK _ _ ?_)); clear hK K) | (refine Abs.step_load (v := ?_) rfl rfl (by kernel_rfl) rfl (fun w0 hI => ?_) (fun K hK => ?_); rotate_left; (· have z0 := (rcell (kp hI n3)).1; go_simp; rfl); (simp only [Act.put, List.setIfInBounds_toArray, List.set_cons_zero, List.set_cons_succ]; refine hK _ _ ?_; clear hK K)) | (refine Abs.step_skip rfl rfl (fun K hK => ?_); (simp only [Act.put, List.setIfInBounds_toArray, List.set_cons_zero, List.set_cons_succ]; refine hK _ _ ?_; clear hK K)))
        (intro w0 hI hF hx1 hx2; clear hx1 hx2 hF; simp only [Abs.T_push]; generalize hT : setRow w0 _ _ = w4; obtain ⟨hO, hN, hS, hG⟩ := fin_old hI n3 hT; clear hT hI w0)
        have r5 := ko hO r4 hne
        obtain ⟨v1, v2, v3⟩ := rcell hN
        obtain ⟨t1, t2, t3⟩ := rcell r5
        go_wp2
        (rw [row2 r5]; generalize hT : setRow _ _ _ = wE; obtain ⟨hbE, hgE⟩ := ret_row (bG (bA (bB (bB (bB (bA (bA (b0 w) _) _) hb1) hb2) hb3) _) hG (by omega)) (by omega) r5 hT; have zE := (rcell hgE).1; clear hT; refine bodyPost_ret (by simp [results, Try.results87, go_sem, zE]; try rfl) rfl ?_)
        exact ⟨rfl, hbE⟩
      · rw [if_neg hr, if_neg hr]
        go_enter Try.func87, Try.ntmps87
        go_wp2_with fail
        refine (size_neg x ⟨h1, h2⟩ (by omega) _).mono ?_
        rintro e w1 ⟨rfl, hb1⟩
        have a1 := kp hb1 (ka (na w #[.int .i64 (hi x), .int .u64 (lo x)] 90) (.cells #[.int .i64 0, .int .u64 0] 90))
        have r1 := kp hb1 (na1 w (.cells #[.int .i64 (hi x), .int .u64 (lo x)] 90) #[.int .i64 0, .int .u64 0] 90)
        go_wp2_with fail
        refine (d1 _).mono ?_
        rintro e w2 ⟨rfl, hb2⟩
        have a2 := kp hb2 a1
        have r2 := kp hb2 r1
        obtain ⟨z1, -, z3⟩ := rcell a2
        have hd : decide (hi x < 0) = true := decide_eq_true hh
        go_wp2_with fail
        refine (d2 _).mono ?_
        rintro e w3 ⟨rfl, hb3⟩
        have a3 := kp hb3 a2
        have r3 := kp hb3 r2
        obtain ⟨y1, y2, y3⟩ := rcell a3
        obtain ⟨x1, x2, x3⟩ := rcell r3
        go_wp2
        (rw [row2 r3]; generalize hT : setRow _ _ _ = wE; obtain ⟨hbE, hgE⟩ := ret_row (bB (bB (bB (bA (bA (b0 w) _) _) hb1) hb2) hb3) (by omega) r3 hT; have zE := (rcell hgE).1; have zL := (rcell hgE).2.2; clear hT; refine bodyPost_ret (by simp [results, Try.results87, go_sem, zE, zL]; try rfl) rfl ?_)
        exact ⟨rfl, bA hbE _⟩
    have := go w
    by_cases hr : 0 < r
    · obtain ⟨e1, e2⟩ := p1 hr
      rw [e1, e2]
      simpa [hr] using this
    · obtain ⟨e1, e2⟩ := p2 hr
      rw [e1, e2]
      have e3 : r = 0 := by omega
      simpa [e3] using this
end Go.Proofs.Ytfdaabdibpcjeaa
