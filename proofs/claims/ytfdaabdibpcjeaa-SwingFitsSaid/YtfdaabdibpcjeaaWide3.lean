/- The package wide at this program, on: size, signed, Mul, Compare. -/
import Derived.Test.YtfdaabdibpcjeaaWide2
set_option linter.unusedSimpArgs false
set_option linter.unusedVariables false
namespace Go.Proofs.Ytfdaabdibpcjeaa
open Go.RowKit

theorem wrap64_i64 (x : Int) : IntKind.i64.wrap x = wrap64 x := by rw [IntKind.wrap_i64]; simp only [wrap64]

theorem size_nn (x : Int) (h : Rng x) (h0 : 0 ≤ x) (w : World) :
    Calls Try.prog 94 #[.agg #[.int .i64 (hi x), .int .u64 (lo x)]] w fun e w' => e = .returned (.tuple #[.int .u64 (hi x), .int .u64 (lo x)]) ∧ Below w.heap.size w w' := by
  have h1 : 0 ≤ hi x := by unfold hi; omega
  obtain ⟨h2, h3⟩ := hi_of x h
  go_enter Try.func94, Try.ntmps94
  go_wp2
  have q0 := na w #[.int .i64 (hi x), .int .u64 (lo x)] 90
  refine Abs.wp_region_abs (Abs.cls0 _) [0, 1, 2, 3, 4, 5, 6] (by kernel_rfl) (by kernel_rfl) (Below.refl _ _).drew ?_
  repeat (first | (refine Abs.step_pure rfl rfl (fun K hK => ?_); go_simp; (try go_bits); (first | refine hK _ _ ?_ | (simp only [↓IntWalk.iteOmega]; go_simp; (try go_bits); refine hK _ _ ?_)); clear hK K) | (refine Abs.step_load (v := ?_) rfl rfl (by kernel_rfl) rfl (fun w0 hI => ?_) (fun K hK => ?_); rotate_left; (· have z0 := (rcell (kp hI q0)).1; go_simp; rfl); (simp only [Act.put, List.setIfInBounds_toArray, List.set_cons_zero, List.set_cons_succ]; refine hK _ _ ?_; clear hK K)) | (refine Abs.step_skip rfl rfl (fun K hK => ?_); (simp only [Act.put, List.setIfInBounds_toArray, List.set_cons_zero, List.set_cons_succ]; refine hK _ _ ?_; clear hK K)))
  (intro w0 hI hx0 hx1 hx2; clear hx0 hx1 hx2; simp only [Abs.T_setF, Abs.T_addA, Abs.T_push, Abs.T_start])
  go_wp2
  go_ret2
  exact ⟨rfl, bB (bA (b0 w) _) hI⟩

theorem size_neg (x : Int) (h : Rng x) (h0 : x < 0) (w : World) :
    Calls Try.prog 94 #[.agg #[.int .i64 (hi x), .int .u64 (lo x)]] w fun e w' => e = .returned (.tuple #[.int .u64 (hi (-x)), .int .u64 (lo (-x))]) ∧ Below w.heap.size w w' := by
  have h1 : hi x < 0 := by unfold hi; omega
  obtain ⟨a1, a2⟩ := lo_lo x
  obtain ⟨h2, h3⟩ := hi_of x h
  have k1 := sub64_0 0 (lo x) (by decide) a1 a2
  obtain ⟨c0, c1⟩ := bor_lo 0 (lo x)
  have k2 := sub64 0 (IntKind.u64.wrap (hi x)) (bor 0 (lo x)) (by decide) (by rw [IntKind.wrap_u64]; omega) (by rw [IntKind.wrap_u64]; omega) c0 c1
  have e1 : (0 - lo x) % 18446744073709551616 = lo (-x) := by unfold lo; omega
  have e2 : (0 - IntKind.u64.wrap (hi x) - bor 0 (lo x)) % 18446744073709551616 = hi (-x) := by
    obtain ⟨r1, r2⟩ := h
    rw [IntKind.wrap_u64]
    unfold bor hi lo
    split <;> omega
  rw [e1] at k1
  rw [e2] at k2
  obtain ⟨c, hc⟩ : ∃ c, bor 0 (lo x) = c := ⟨_, rfl⟩
  obtain ⟨c', hc'⟩ : ∃ c', bor 0 (IntKind.u64.wrap (hi x) + bor 0 (lo x)) = c' := ⟨_, rfl⟩
  rw [hc', hc] at k2
  rw [hc] at k1
  clear e1 e2 hc hc' c0 c1
  go_enter Try.func94, Try.ntmps94
  go_wp2
  go_ret2
  exact ⟨rfl, bA (b0 w) _⟩

theorem signed_f (m : Int) (h0 : 0 ≤ m) (h1 : m < 170141183460469231731687303715884105728) (w : World) :
    Calls Try.prog 96 #[.bool false, .int .u64 (hi m), .int .u64 (lo m)] w fun e w' => e = .returned (.tuple #[.agg #[.int .i64 (hi m), .int .u64 (lo m)], .bool true]) ∧ Below w.heap.size w w' := by
  have k0 : 0 ≤ hi m := by unfold hi; omega
  have k1 : hi m < 9223372036854775808 := by unfold hi; omega
  go_enter Try.func96, Try.ntmps96
  go_wp2
  refine bodyPost_ret (by simp [results, Try.results96, go_sem]; try rfl) rfl ⟨?_, bA (b0 w) _⟩
  simp [k1]

set_option maxRecDepth 100000 in
set_option maxHeartbeats 1000000 in
theorem signed_t (m : Int) (h0 : 0 ≤ m) (h1 : m ≤ 170141183460469231731687303715884105728) (w : World) :
    Calls Try.prog 96 #[.bool true, .int .u64 (hi m), .int .u64 (lo m)] w fun e w' => e = .returned (.tuple #[.agg #[.int .i64 (hi (-m)), .int .u64 (lo (-m))], .bool true]) ∧ Below w.heap.size w w' := by
  have k0 : 0 ≤ hi m := by unfold hi; omega
  have k1 : hi m < 9223372036854775808 ∨ hi m = 9223372036854775808 ∧ lo m = 0 := by unfold hi lo; omega
  have e1 : IntKind.i64.wrap (hi m) = hi (W128 m) := by rw [IntKind.wrap_i64]; unfold W128 hi; omega
  have e2 : lo m = lo (W128 m) := by unfold W128 lo; omega
  have e3 : W128 (0 - W128 m) = -m := by unfold W128; omega
  have d := wide_difference 0 (W128 m) ⟨by decide, by decide⟩ (W128_rng m)
  rw [e3, ← e2, ← e1, show hi 0 = 0 from rfl, show lo 0 = 0 from rfl] at d
  clear e1 e2 e3
  rcases k1 with k1 | ⟨k1, k2⟩
  · have kw : IntKind.i64.wrap (hi m) = hi m := by rw [IntKind.wrap_i64]; omega
    rw [kw] at d
    clear kw
    go_enter Try.func96, Try.ntmps96
    go_wp2_with (go_at_call 97; refine (d _).mono ?_; rintro e w1 ⟨⟨f, rfl⟩, hb1⟩; have r1 := kp hb1 (na w #[.int .i64 0, .int .u64 0] 90); obtain ⟨z1, z2, z3⟩ := rcell r1)
    (rw [row2 r1]; generalize hT : setRow _ _ _ = wE; obtain ⟨hbE, hgE⟩ := ret_row (bB (bA (b0 w) _) hb1) (by omega) r1 hT; have zE := (rcell hgE).1; have zL := (rcell hgE).2.2; clear hT; refine bodyPost_ret (by simp [results, Try.results96, go_sem, zE, zL]; try rfl) rfl ?_)
    exact ⟨by simp [k1], bA hbE _⟩
  · have kb : 9223372036854775808 ≤ hi m := by omega
    have kb2 : (hi m == 9223372036854775808) = true := by rw [k1]; rfl
    have kb3 : (lo m == 0) = true := by rw [k2]; rfl
    clear k1 k2 h0 h1
    rw [wrap64_i64] at d
    go_enter Try.func96, Try.ntmps96
    go_wp2_with (go_at_call 97; refine (d _).mono ?_; rintro e w1 ⟨⟨f, rfl⟩, hb1⟩; have r1 := kp hb1 (na w #[.int .i64 0, .int .u64 0] 90); obtain ⟨z1, z2, z3⟩ := rcell r1)
    (rw [row2 r1]; generalize hT : setRow _ _ _ = wE; obtain ⟨hbE, hgE⟩ := ret_row (bB (bA (b0 w) _) hb1) (by omega) r1 hT; have zE := (rcell hgE).1; have zL := (rcell hgE).2.2; clear hT; refine bodyPost_ret (by simp [results, Try.results96, go_sem, zE, zL]; try rfl) rfl ?_)
    exact ⟨by simp [kb2, kb3], bA hbE _⟩
end Go.Proofs.Ytfdaabdibpcjeaa
