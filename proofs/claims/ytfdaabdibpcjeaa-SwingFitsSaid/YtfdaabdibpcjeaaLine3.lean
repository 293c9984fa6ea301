/- The package line at this program, on: over, value, At, Check, Within, Lowest, Compare. -/
import Derived.Test.YtfdaabdibpcjeaaLine2
set_option linter.unusedSimpArgs false
set_option linter.unusedVariables false
namespace Go.Proofs.Ytfdaabdibpcjeaa
open Go.RowKit

set_option maxHeartbeats 1000000 in
theorem line_over (A R N D dt : Int) (w : World) (hD : 1 ≤ D) (hD' : D < 9223372036854775808) (n1 : -9223372036854775808 ≤ N) (n2 : N < 9223372036854775808) (t1 : -9223372036854775808 ≤ dt) (t2 : dt < 9223372036854775808)
    (r1 : -9223372036854775808 ≤ R) (r2 : R < 9223372036854775808) (a1' : -9223372036854775808 ≤ A) (a2' : A < 9223372036854775808)
    (x1 : Rng (N * dt)) (x2 : Rng R) (x3 : Rng (N * dt + R)) (x4 : Rng ((N * dt + R) / D)) (x5 : Rng A) (x6 : Rng ((N * dt + R) / D + A)) :
    Calls Try.prog 64 #[.agg #[.int .i64 A, .int .i64 R, .int .i64 N, .int .i64 D], .int .i64 dt] w fun e w' => e = .returned (.tuple #[.agg #[.int .i64 (hi ((N * dt + R) / D + A)), .int .u64 (lo ((N * dt + R) / D + A))], .int .i64 ((N * dt + R) % D)]) ∧ Below w.heap.size w w' := by
  go_enter Try.func64, Try.ntmps64
  go_wp2_with fail
  have a0 := ka (na w #[.int .i64 A, .int .i64 R, .int .i64 N, .int .i64 D] 102) (.cells #[.int .i64 0, .int .u64 0] 90)
  refine Abs.wp_region_abs (Abs.cls0 _) [0, 1, 2, 3, 4, 5, 6, 7, 8, 9, 10, 11, 12, 13, 14, 15] (by kernel_rfl) (by kernel_rfl) (Below.refl _ _).drew ?_
  repeat (first | (refine Abs.step_pure rfl rfl (fun K hK => ?_); go_simp; (try go_bits); (first | refine hK _ _ ?_ | (simp only [↓IntWalk.iteOmega]; go_simp; (try go_bits); refine hK _ _ ?_)); clear hK K) | (refine Abs.step_load (v := ?_) rfl rfl (by kernel_rfl) rfl (fun w0 hI => ?_) (fun K hK => ?_); rotate_left; (· have z0 := (rcell (kp hI a0)).1; go_simp; rfl); (simp only [Act.put, List.setIfInBounds_toArray, List.set_cons_zero, List.set_cons_succ]; refine hK _ _ ?_; clear hK K)) | (refine Abs.step_skip rfl rfl (fun K hK => ?_); (simp only [Act.put, List.setIfInBounds_toArray, List.set_cons_zero, List.set_cons_succ]; refine hK _ _ ?_; clear hK K)))
  (refine Abs.step_call_val (f := ?_) (args := ?_) (v := ?_) rfl rfl rfl rfl (fun w0 => ?_) (fun w0 hI => ?_) (fun K hK => ?_); rotate_left 3; (· go_simp; (constructor <;> rfl)); (· exact wide_Mul N dt n1 n2 t1 t2 _); (simp only [Act.put, List.setIfInBounds_toArray, List.set_cons_zero, List.set_cons_succ]; refine hK _ _ ?_; clear hK K))
  repeat (first | (refine Abs.step_pure rfl rfl (fun K hK => ?_); go_simp; (try go_bits); (first | refine hK _ _ ?_ | (simp only [↓IntWalk.iteOmega]; go_simp; (try go_bits); refine hK _ _ ?_)); clear hK K) | (refine Abs.step_load (v := ?_) rfl rfl (by kernel_rfl) rfl (fun w0 hI => ?_) (fun K hK => ?_); rotate_left; (· have z0 := (rcell (kp hI a0)).1; go_simp; rfl); (simp only [Act.put, List.setIfInBounds_toArray, List.set_cons_zero, List.set_cons_succ]; refine hK _ _ ?_; clear hK K)) | (refine Abs.step_skip rfl rfl (fun K hK => ?_); (simp only [Act.put, List.setIfInBounds_toArray, List.set_cons_zero, List.set_cons_succ]; refine hK _ _ ?_; clear hK K)))
  (refine Abs.step_call_val (f := ?_) (args := ?_) (v := ?_) rfl rfl rfl rfl (fun w0 => ?_) (fun w0 hI => ?_) (fun K hK => ?_); rotate_left 3; (· go_simp; (constructor <;> rfl)); (· exact wide_Of R r1 r2 _); (simp only [Act.put, List.setIfInBounds_toArray, List.set_cons_zero, List.set_cons_succ]; refine hK _ _ ?_; clear hK K))
  repeat (first | (refine Abs.step_pure rfl rfl (fun K hK => ?_); go_simp; (try go_bits); (first | refine hK _ _ ?_ | (simp only [↓IntWalk.iteOmega]; go_simp; (try go_bits); refine hK _ _ ?_)); clear hK K) | (refine Abs.step_load (v := ?_) rfl rfl (by kernel_rfl) rfl (fun w0 hI => ?_) (fun K hK => ?_); rotate_left; (· go_simp; rfl); (simp only [Act.put, List.setIfInBounds_toArray, List.set_cons_zero, List.set_cons_succ]; refine hK _ _ ?_; clear hK K)) | (refine Abs.step_skip rfl rfl (fun K hK => ?_); (simp only [Act.put, List.setIfInBounds_toArray, List.set_cons_zero, List.set_cons_succ]; refine hK _ _ ?_; clear hK K)))
  (refine Abs.step_call_val (f := ?_) (args := ?_) (v := ?_) rfl rfl rfl rfl (fun w0 => ?_) (fun w0 hI => ?_) (fun K hK => ?_); rotate_left 3; (· go_simp; (constructor <;> rfl)); (· exact wide_Add _ _ x1 x2 x3 _); (simp only [Act.put, List.setIfInBounds_toArray, List.set_cons_zero, List.set_cons_succ]; refine hK _ _ ?_; clear hK K))
  repeat (first | (refine Abs.step_pure rfl rfl (fun K hK => ?_); go_simp; (try go_bits); (first | refine hK _ _ ?_ | (simp only [↓IntWalk.iteOmega]; go_simp; (try go_bits); refine hK _ _ ?_)); clear hK K) | (refine Abs.step_load (v := ?_) rfl rfl (by kernel_rfl) rfl (fun w0 hI => ?_) (fun K hK => ?_); rotate_left; (· go_simp; rfl); (simp only [Act.put, List.setIfInBounds_toArray, List.set_cons_zero, List.set_cons_succ]; refine hK _ _ ?_; clear hK K)) | (refine Abs.step_skip rfl rfl (fun K hK => ?_); (simp only [Act.put, List.setIfInBounds_toArray, List.set_cons_zero, List.set_cons_succ]; refine hK _ _ ?_; clear hK K)))
  (refine Abs.step_var (obj := ?_) rfl rfl rfl rfl (fun w0 => ?_) (fun K hK g hB hU => ?_); rotate_left; (· go_simp; rfl); (simp only [Act.put, List.setIfInBounds_toArray, List.set_cons_zero, List.set_cons_succ]; refine hK _ _ ?_; clear hK K))
  (refine Abs.step_store (T := ?_) rfl rfl rfl (fun w0 hI hF hU => ?_) (fun _ _ _ _ => trivial) (fun K hK => ?_); rotate_left; (· simp only [Abs.F_setF, Abs.F_addA, Abs.F_push, Abs.F_start, true_and] at hF; have hg0 := (rcell hF).1; have hg1 := (rcell hF).2.1; simp only [Abs.T_setF, Abs.T_addA, Abs.T_push, Abs.T_start]; go_simp; exact row2 hF _ _); (simp only [Act.put, List.setIfInBounds_toArray, List.set_cons_zero, List.set_cons_succ]; refine hK _ _ ?_; clear hK K))
  repeat (first | (refine Abs.step_pure rfl rfl (fun K hK => ?_); go_simp; (try go_bits); (first | refine hK _ _ ?_ | (simp only [↓IntWalk.iteOmega]; go_simp; (try go_bits); refine hK _ _ ?_)); clear hK K) | (refine Abs.step_load (v := ?_) rfl rfl (by kernel_rfl) rfl (fun w0 hI => ?_) (fun K hK => ?_); rotate_left; (· go_simp; rfl); (simp only [Act.put, List.setIfInBounds_toArray, List.set_cons_zero, List.set_cons_succ]; refine hK _ _ ?_; clear hK K)) | (refine Abs.step_skip rfl rfl (fun K hK => ?_); (simp only [Act.put, List.setIfInBounds_toArray, List.set_cons_zero, List.set_cons_succ]; refine hK _ _ ?_; clear hK K)))
  (intro w0 hI hF hx1 hx2; clear hx1 hx2; simp only [Abs.F_setF, Abs.F_addA, Abs.F_push, Abs.F_start, true_and, Abs.T_push] at hF ⊢; generalize hT : setRow w0 _ _ = w1; obtain ⟨hb, hg⟩ := fin1 hI hB hF hT; clear hT hI hF w0)
  have a1 := kp hb a0
  have rr1 := kp hb (na1 w _ _ _)
  obtain ⟨q1, -, l1⟩ := rcell a1
  obtain ⟨q2, -, l2⟩ := rcell hg
  go_wp2_with (go_at_call 87; refine (wide_Div _ D x3 hD hD' _).mono ?_; rintro e w2 ⟨rfl, hb2⟩)
  have a2 := ka (kp hb2 a1) (.cells #[.int .i64 (hi ((N * dt + R) / D)), .int .u64 (lo ((N * dt + R) / D))] 90)
  have n2 := na w2 #[.int .i64 (hi ((N * dt + R) / D)), .int .u64 (lo ((N * dt + R) / D))] 90
  have r2 := ka (kp hb2 rr1) (.cells #[.int .i64 (hi ((N * dt + R) / D)), .int .u64 (lo ((N * dt + R) / D))] 90)
  refine Abs.wp_region_abs (Abs.cls0 _) [0, 1, 2, 3, 4, 5, 6, 7, 8, 9, 10, 11] (by kernel_rfl) (by kernel_rfl) (Below.refl _ _).drew ?_
  repeat (first | (refine Abs.step_pure rfl rfl (fun K hK => ?_); go_simp; (try go_bits); (first | refine hK _ _ ?_ | (simp only [↓IntWalk.iteOmega]; go_simp; (try go_bits); refine hK _ _ ?_)); clear hK K) | (refine Abs.step_load (v := ?_) rfl rfl (by kernel_rfl) rfl (fun w0 hI => ?_) (fun K hK => ?_); rotate_left; (· have z0 := (rcell (kp hI a2)).1; have z1 := (rcell (kp hI n2)).1; go_simp; rfl); (simp only [Act.put, List.setIfInBounds_toArray, List.set_cons_zero, List.set_cons_succ]; refine hK _ _ ?_; clear hK K)) | (refine Abs.step_skip rfl rfl (fun K hK => ?_); (simp only [Act.put, List.setIfInBounds_toArray, List.set_cons_zero, List.set_cons_succ]; refine hK _ _ ?_; clear hK K)))
  (refine Abs.step_call_val (f := ?_) (args := ?_) (v := ?_) rfl rfl rfl rfl (fun w0 => ?_) (fun w0 hI => ?_) (fun K hK => ?_); rotate_left 3; (· go_simp; (constructor <;> rfl)); (· exact wide_Of A a1' a2' _); (simp only [Act.put, List.setIfInBounds_toArray, List.set_cons_zero, List.set_cons_succ]; refine hK _ _ ?_; clear hK K))
  repeat (first | (refine Abs.step_pure rfl rfl (fun K hK => ?_); go_simp; (try go_bits); (first | refine hK _ _ ?_ | (simp only [↓IntWalk.iteOmega]; go_simp; (try go_bits); refine hK _ _ ?_)); clear hK K) | (refine Abs.step_load (v := ?_) rfl rfl (by kernel_rfl) rfl (fun w0 hI => ?_) (fun K hK => ?_); rotate_left; (· go_simp; rfl); (simp only [Act.put, List.setIfInBounds_toArray, List.set_cons_zero, List.set_cons_succ]; refine hK _ _ ?_; clear hK K)) | (refine Abs.step_skip rfl rfl (fun K hK => ?_); (simp only [Act.put, List.setIfInBounds_toArray, List.set_cons_zero, List.set_cons_succ]; refine hK _ _ ?_; clear hK K)))
  (refine Abs.step_call_val (f := ?_) (args := ?_) (v := ?_) rfl rfl rfl rfl (fun w0 => ?_) (fun w0 hI => ?_) (fun K hK => ?_); rotate_left 3; (· go_simp; (constructor <;> rfl)); (· exact wide_Add _ _ x4 x5 x6 _); (simp only [Act.put, List.setIfInBounds_toArray, List.set_cons_zero, List.set_cons_succ]; refine hK _ _ ?_; clear hK K))
  repeat (first | (refine Abs.step_pure rfl rfl (fun K hK => ?_); go_simp; (try go_bits); (first | refine hK _ _ ?_ | (simp only [↓IntWalk.iteOmega]; go_simp; (try go_bits); refine hK _ _ ?_)); clear hK K) | (refine Abs.step_load (v := ?_) rfl rfl (by kernel_rfl) rfl (fun w0 hI => ?_) (fun K hK => ?_); rotate_left; (· go_simp; rfl); (simp only [Act.put, List.setIfInBounds_toArray, List.set_cons_zero, List.set_cons_succ]; refine hK _ _ ?_; clear hK K)) | (refine Abs.step_skip rfl rfl (fun K hK => ?_); (simp only [Act.put, List.setIfInBounds_toArray, List.set_cons_zero, List.set_cons_succ]; refine hK _ _ ?_; clear hK K)))
  (refine Abs.step_var (obj := ?_) rfl rfl rfl rfl (fun w0 => ?_) (fun K hK g' hB' hU => ?_); rotate_left; (· go_simp; rfl); (simp only [Act.put, List.setIfInBounds_toArray, List.set_cons_zero, List.set_cons_succ]; refine hK _ _ ?_; clear hK K))
  (refine Abs.step_store (T := ?_) rfl rfl rfl (fun w0 hI hF hU => ?_) (fun _ _ _ _ => trivial) (fun K hK => ?_); rotate_left; (· simp only [Abs.F_setF, Abs.F_addA, Abs.F_push, Abs.F_start, true_and] at hF; have hg0 := (rcell hF).1; have hg1 := (rcell hF).2.1; simp only [Abs.T_setF, Abs.T_addA, Abs.T_push, Abs.T_start]; go_simp; exact row2 hF _ _); (simp only [Act.put, List.setIfInBounds_toArray, List.set_cons_zero, List.set_cons_succ]; refine hK _ _ ?_; clear hK K))
  repeat (first | (refine Abs.step_pure rfl rfl (fun K hK => ?_); go_simp; (try go_bits); (first | refine hK _ _ ?_ | (simp only [↓IntWalk.iteOmega]; go_simp; (try go_bits); refine hK _ _ ?_)); clear hK K) | (refine Abs.step_load (v := ?_) rfl rfl (by kernel_rfl) rfl (fun w0 hI => ?_) (fun K hK => ?_); rotate_left; (· go_simp; rfl); (simp only [Act.put, List.setIfInBounds_toArray, List.set_cons_zero, List.set_cons_succ]; refine hK _ _ ?_; clear hK K)) | (refine Abs.step_skip rfl rfl (fun K hK => ?_); (simp only [Act.put, List.setIfInBounds_toArray, List.set_cons_zero, List.set_cons_succ]; refine hK _ _ ?_; clear hK K)))
  (intro w0 hI hF hx1 hx2; clear hx1 hx2; simp only [Abs.F_setF, Abs.F_addA, Abs.F_push, Abs.F_start, true_and, Abs.T_push] at hF ⊢; generalize hT : setRow w0 _ _ = w3; obtain ⟨hb3, hg'⟩ := fin1 hI hB' hF hT; clear hT hI hF w0)
  obtain ⟨y1, y2, -⟩ := rcell hg'
  obtain ⟨y3, y4, -⟩ := rcell (kp hb3 r2)
  go_wp2
  (rw [row2 (kp hb3 r2)]; generalize hT : setRow _ _ _ = wE; obtain ⟨hbE, hgE⟩ := ret_row (bB (bA (bB (bB (bA (bA (b0 w) _) _) hb) hb2) _) hb3) (by omega) (kp hb3 r2) hT; have zE := (rcell hgE).1; clear hT; refine bodyPost_ret (by simp [results, Try.results64, go_sem, zE]; try rfl) rfl ?_)
  exact ⟨rfl, hbE⟩

/-- a line's value, not yet held against what may be told -/
def lnQ (A R N D dt : Int) : Int := (N * dt + R) / D + A

theorem isB_spec {A R N D : Int} (h : isB A R N D = true) : (-2305844108725321728 ≤ A ∧ A ≤ 2305844108725321728) ∧ (1 ≤ D ∧ D ≤ 281474976710656 ∧ -4611688217450643456 ≤ N ∧ N ≤ 4611688217450643456) ∧ (lwN N D = N ∧ lwD N D = D) ∧ 0 ≤ R ∧ R < D := by
  obtain ⟨h1, h2, h3, h4, h5⟩ := of_decide_eq_true h
  exact ⟨of_decide_eq_true h1, of_decide_eq_true h2, h3, h4, h5⟩

theorem ln_bd {A R N D dt : Int} (h : isB A R N D = true) (ht : tmB dt = true) : (-1298074214633706907132624082305024 * 1024 ≤ N * dt ∧ N * dt ≤ 1298074214633706907132624082305024 * 1024) ∧
    (-1298074214633706907132624082305024 * 1024 ≤ (N * dt + R) / D ∧ (N * dt + R) / D ≤ 1298074214633706907132624082305024 * 1024 + 281474976710656) := by
  obtain ⟨_, ⟨d1, d2, d3, d4⟩, _, r1, r2⟩ := isB_spec h
  obtain ⟨t1, t2⟩ : 0 ≤ dt ∧ dt ≤ 281474976710656 := of_decide_eq_true ht
  have k1 : N * dt ≤ 4611688217450643456 * 281474976710656 := Int.le_trans (Int.mul_le_mul_of_nonneg_right d4 t1) (Int.mul_le_mul_of_nonneg_left t2 (by decide))
  have k2 : -4611688217450643456 * 281474976710656 ≤ N * dt := Int.le_trans (by have := Int.mul_le_mul_of_nonneg_left t2 (show (0 : Int) ≤ 4611688217450643456 by decide); omega) (Int.mul_le_mul_of_nonneg_right d3 t1)
  refine ⟨⟨by omega, by omega⟩, ?_, ?_⟩
  · refine (Int.le_ediv_iff_mul_le (by omega)).2 ?_
    have : (-1298074214633706907132624082305024 * 1024 : Int) * D ≤ (-1298074214633706907132624082305024 * 1024) * 1 := Int.mul_le_mul_of_nonpos_left (by decide) d1
    omega
  · have h6 : (N * dt + R) / D < 1298074214633706907132624082305024 * 1024 + 281474976710657 := by
      refine (Int.ediv_lt_iff_lt_mul (by omega)).2 ?_
      have : (1298074214633706907132624082305024 * 1024 + 281474976710657 : Int) * 1 ≤ (1298074214633706907132624082305024 * 1024 + 281474976710657) * D := Int.mul_le_mul_of_nonneg_left d1 (by decide)
      omega
    omega

theorem line_overB (A R N D dt : Int) (h : isB A R N D = true) (ht : tmB dt = true) (w : World) :
    Calls Try.prog 64 #[.agg #[.int .i64 A, .int .i64 R, .int .i64 N, .int .i64 D], .int .i64 dt] w fun e w' => e = .returned (.tuple #[.agg #[.int .i64 (hi (lnQ A R N D dt)), .int .u64 (lo (lnQ A R N D dt))], .int .i64 ((N * dt + R) % D)]) ∧ Below w.heap.size w w' := by
  obtain ⟨⟨a1, a2⟩, ⟨d1, d2, d3, d4⟩, _, r1, r2⟩ := isB_spec h
  obtain ⟨t1, t2⟩ : 0 ≤ dt ∧ dt ≤ 281474976710656 := of_decide_eq_true ht
  obtain ⟨⟨b1, b2⟩, b3, b4⟩ := ln_bd h ht
  exact line_over A R N D dt w d1 (by omega) (by omega) (by omega) (by omega) (by omega) (by omega) (by omega) (by omega) (by omega)
    ⟨by omega, by omega⟩ ⟨by omega, by omega⟩ ⟨by omega, by omega⟩ ⟨by omega, by omega⟩ ⟨by omega, by omega⟩ ⟨by omega, by omega⟩
theorem lnQ_rng {A R N D dt : Int} (h : isB A R N D = true) (ht : tmB dt = true) : Rng (lnQ A R N D dt) := by
  obtain ⟨⟨a1, a2⟩, _⟩ := isB_spec h
  obtain ⟨_, b3, b4⟩ := ln_bd h ht
  unfold lnQ
  exact ⟨by omega, by omega⟩

set_option maxHeartbeats 1000000 in
theorem line_value (A R N D dt : Int) (h : isB A R N D = true) (ht : tmB dt = true) (w : World) :
    Calls Try.prog 60 #[.agg #[.int .i64 A, .int .i64 R, .int .i64 N, .int .i64 D], .int .i64 dt] w fun e w' =>
      e = .returned (.tuple #[.int .i64 (if bkB (lnQ A R N D dt) then lnQ A R N D dt else 0), .int .i64 (if bkB (lnQ A R N D dt) then 0 else 5)]) ∧ Below w.heap.size w w' := by
  have c1 := line_overB A R N D dt h ht
  have c2 := wide_Int _ (lnQ_rng h ht)
  generalize lnQ A R N D dt = Q at *
  generalize (N * dt + R) % D = rr at *
  have c3 := line_back Q
  clear h ht
  by_cases hb : bkB Q = true
  · obtain ⟨q1, q2⟩ : -2305844108725321728 ≤ Q ∧ Q ≤ 2305844108725321728 := of_decide_eq_true hb
    have q3 : -9223372036854775808 ≤ Q ∧ Q < 9223372036854775808 := ⟨by omega, by omega⟩
    rw [if_pos q3, if_pos q3] at c2
    rw [hb] at c3
    rw [if_pos hb, if_pos hb]
    clear hb q3
    go_enter Try.func60, Try.ntmps60
    go_wp2_with (first | (go_at_call 64; refine (c1 _).mono ?_; rintro e w1 ⟨rfl, hb1⟩) | (go_at_call 83; refine (c2 _).mono ?_; rintro e w2 ⟨rfl, hb2⟩) | (go_at_call 49; refine (c3 _).mono ?_; rintro e w3 ⟨rfl, rfl⟩))
    go_ret2
    exact ⟨rfl, bB (bA (bB (bA (b0 w) _) hb1) _) hb2⟩
  · rw [if_neg hb, if_neg hb]
    have hb' : bkB Q = false := by simpa using hb
    rw [hb'] at c3
    clear hb hb'
    by_cases q3 : -9223372036854775808 ≤ Q ∧ Q < 9223372036854775808
    · rw [if_pos q3, if_pos q3] at c2
      clear q3
      go_enter Try.func60, Try.ntmps60
      go_wp2_with (first | (go_at_call 64; refine (c1 _).mono ?_; rintro e w1 ⟨rfl, hb1⟩) | (go_at_call 83; refine (c2 _).mono ?_; rintro e w2 ⟨rfl, hb2⟩) | (go_at_call 49; refine (c3 _).mono ?_; rintro e w3 ⟨rfl, rfl⟩))
      go_ret2
      exact ⟨rfl, bB (bA (bB (bA (b0 w) _) hb1) _) hb2⟩
    · rw [if_neg q3, if_neg q3] at c2
      clear q3
      go_enter Try.func60, Try.ntmps60
      go_wp2_with (first | (go_at_call 64; refine (c1 _).mono ?_; rintro e w1 ⟨rfl, hb1⟩) | (go_at_call 83; refine (c2 _).mono ?_; rintro e w2 ⟨rfl, hb2⟩))
      go_ret2
      exact ⟨rfl, bB (bA (bB (bA (b0 w) _) hb1) _) hb2⟩

/-- what line.At tells -/
def atV (A R N D dt : Int) : Int := if isB A R N D = true ∧ tmB dt = true ∧ bkB (lnQ A R N D dt) = true then lnQ A R N D dt else 0
def atE (A R N D dt : Int) : Int := if isB A R N D = true then (if tmB dt = true then (if bkB (lnQ A R N D dt) = true then 0 else 5) else 2) else 150

theorem line_At (A R N D dt : Int) (w : World) :
    Calls Try.prog 32 #[.agg #[.int .i64 A, .int .i64 R, .int .i64 N, .int .i64 D], .int .i64 dt] w fun e w' =>
      e = .returned (.tuple #[.int .i64 (atV A R N D dt), .int .i64 (atE A R N D dt)]) ∧ Below w.heap.size w w' := by
  have c1 := line_is A R N D
  have c2 := line_timeIs dt
  by_cases h1 : isB A R N D = true
  · rw [h1] at c1
    by_cases h2 : tmB dt = true
    · rw [h2] at c2
      have c3 := line_value A R N D dt h1 h2
      have e1 : atV A R N D dt = if bkB (lnQ A R N D dt) then lnQ A R N D dt else 0 := by unfold atV; simp [h1, h2]
      have e2 : atE A R N D dt = if bkB (lnQ A R N D dt) then 0 else 5 := by unfold atE; simp [h1, h2]
      rw [← e1, ← e2] at c3
      clear h1 h2 e1 e2
      go_enter Try.func32, Try.ntmps32
      go_wp2_with (first | (go_at_call 58; refine (c1 _).mono ?_; rintro e w1 ⟨rfl, hb1⟩; have zz := (rcell (kp hb1 (na1 w (.cells #[.int .i64 A, .int .i64 R, .int .i64 N, .int .i64 D] 23) #[.int .i64 A, .int .i64 R, .int .i64 N, .int .i64 D] 102))).1) | (go_at_call 59; refine (c2 _).mono ?_; rintro e w2 ⟨rfl, rfl⟩) | (go_at_call 60; refine (c3 _).mono ?_; rintro e w3 ⟨rfl, hb3⟩))
      go_ret2
      exact ⟨rfl, bB (bB (bA (bA (b0 w) _) _) hb1) hb3⟩
    · have h2' : tmB dt = false := by simpa using h2
      rw [h2'] at c2
      have e1 : atV A R N D dt = 0 := by unfold atV; simp [h2']
      have e2 : atE A R N D dt = 2 := by unfold atE; simp [h1, h2']
      rw [e1, e2]
      clear h1 h2 h2' e1 e2
      go_enter Try.func32, Try.ntmps32
      go_wp2_with (first | (go_at_call 58; refine (c1 _).mono ?_; rintro e w1 ⟨rfl, hb1⟩) | (go_at_call 59; refine (c2 _).mono ?_; rintro e w2 ⟨rfl, rfl⟩))
      go_ret2
      exact ⟨rfl, bB (bA (bA (b0 w) _) _) hb1⟩
  · have h1' : isB A R N D = false := by simpa using h1
    rw [h1'] at c1
    have e1 : atV A R N D dt = 0 := by unfold atV; simp [h1']
    have e2 : atE A R N D dt = 150 := by unfold atE; simp [h1']
    rw [e1, e2]
    clear h1 h1' e1 e2
    go_enter Try.func32, Try.ntmps32
    go_wp2_with (go_at_call 58; refine (c1 _).mono ?_; rintro e w1 ⟨rfl, hb1⟩)
    go_ret2
    exact ⟨rfl, bB (bA (bA (b0 w) _) _) hb1⟩

end Go.Proofs.Ytfdaabdibpcjeaa
