/- The package wide at this program: what its functions come to, in whole numbers. -/
import Derived.Test.YtfdaabdibpcjeaaDiv64
set_option linter.unusedSimpArgs false
set_option linter.unusedVariables false
namespace Go.Proofs.Ytfdaabdibpcjeaa
open Go.RowKit

def hi (x : Int) : Int := x / 18446744073709551616
def lo (x : Int) : Int := x % 18446744073709551616
def Rng (x : Int) : Prop := -170141183460469231731687303715884105728 ≤ x ∧ x < 170141183460469231731687303715884105728
theorem hi_lo (x : Int) : hi x * 18446744073709551616 + lo x = x := by unfold hi lo; omega
theorem lo_lo (x : Int) : 0 ≤ lo x ∧ lo x < 18446744073709551616 := by unfold lo; omega
theorem hi_of (x : Int) (h : Rng x) : -9223372036854775808 ≤ hi x ∧ hi x < 9223372036854775808 := by unfold hi; obtain ⟨h1, h2⟩ := h; omega
theorem hi_eq {x a b : Int} (h : a * 18446744073709551616 + b = x) (h0 : 0 ≤ b) (h1 : b < 18446744073709551616) : a = hi x ∧ b = lo x := by unfold hi lo; omega
/-- every pair of words is a number's -/
theorem wide_any (a b : Int) (h1 : -9223372036854775808 ≤ a) (h2 : a < 9223372036854775808) (h3 : 0 ≤ b) (h4 : b < 18446744073709551616) : ∃ x, Rng x ∧ a = hi x ∧ b = lo x :=
  ⟨a * 18446744073709551616 + b, ⟨by omega, by omega⟩, (hi_eq rfl h3 h4).1, (hi_eq rfl h3 h4).2⟩

theorem wide_Of (x : Int) (h1 : -9223372036854775808 ≤ x) (h2 : x < 9223372036854775808) (w : World) :
    Calls Try.prog 65 #[.int .i64 x] w fun e w' => e = .returned (.agg #[.int .i64 (hi x), .int .u64 (lo x)]) ∧ Below w.heap.size w w' := by
  go_enter Try.func65, Try.ntmps65
  go_wp2
  refine bodyPost_ret (by simp [results, Try.results65, go_sem]; try rfl) rfl ⟨?_, bA (b0 w) _⟩
  have e1 : x / 9223372036854775808 = hi x := by unfold hi; omega
  have e2 : IntKind.u64.wrap x = lo x := by rw [IntKind.wrap_u64]; rfl
  rw [e1, e2]

set_option maxRecDepth 100000 in
set_option maxHeartbeats 1000000 in
theorem wide_sum (a b : Int) (ha : Rng a) (hb : Rng b) (w : World) (h : Rng (a + b)) :
    Calls Try.prog 93 #[.agg #[.int .i64 (hi a), .int .u64 (lo a)], .agg #[.int .i64 (hi b), .int .u64 (lo b)]] w fun e w' =>
      e = .returned (.tuple #[.agg #[.int .i64 (hi (a + b)), .int .u64 (lo (a + b))], .bool true]) ∧ Below w.heap.size w w' := by
  obtain ⟨a1, a2⟩ := lo_lo a
  obtain ⟨b1, b2⟩ := lo_lo b
  obtain ⟨a3, a4⟩ := hi_of a ha
  obtain ⟨b3, b4⟩ := hi_of b hb
  have k1 := add64_0 (lo a) (lo b) a1 b1
  have c0 : 0 ≤ (lo a + lo b) / 18446744073709551616 := by omega
  have c1 : (lo a + lo b) / 18446744073709551616 ≤ 1 := by omega
  have k2 := add64 (IntKind.u64.wrap (hi a)) (IntKind.u64.wrap (hi b)) ((lo a + lo b) / 18446744073709551616) (by rw [IntKind.wrap_u64]; omega) (by rw [IntKind.wrap_u64]; omega) c0 c1
  have el : (lo a + lo b) % 18446744073709551616 = lo (a + b) := by unfold lo; omega
  rw [el] at k1
  obtain ⟨c, hc⟩ : ∃ c, (lo a + lo b) / 18446744073709551616 = c := ⟨_, rfl⟩
  obtain ⟨g, hg⟩ : ∃ g, (IntKind.u64.wrap (hi a) + IntKind.u64.wrap (hi b) + (lo a + lo b) / 18446744073709551616) % 18446744073709551616 = g := ⟨_, rfl⟩
  obtain ⟨g', hg'⟩ : ∃ g', (IntKind.u64.wrap (hi a) + IntKind.u64.wrap (hi b) + (lo a + lo b) / 18446744073709551616) / 18446744073709551616 = g' := ⟨_, rfl⟩
  rw [hg, hg', hc] at k2
  rw [hc] at k1
  have e1 : wrap64 g = hi (a + b) := by
    rw [← hg]
    simp only [IntKind.wrap_u64, wrap64]
    obtain ⟨r1, r2⟩ := h
    unfold hi lo at *
    omega
  have hs : (hi a < 0 ∧ hi b < 0 → hi (a + b) < 0) ∧ (0 ≤ hi a ∧ 0 ≤ hi b → 0 ≤ hi (a + b)) := by unfold hi; omega
  obtain ⟨hs1, hs2⟩ := hs
  have HS := hide (show (hi a < 0 ∧ hi b < 0 → hi (a + b) < 0) ∧ (0 ≤ hi a ∧ 0 ≤ hi b → 0 ≤ hi (a + b)) from ⟨hs1, hs2⟩)
  clear c0 c1 hc hg hg' el
  by_cases sa : hi a < 0 <;> by_cases sb : hi b < 0
  all_goals
    first | (have hs3 := hs1 ⟨sa, sb⟩) | (have hs3 := hs2 ⟨by omega, by omega⟩) | skip
    clear hs1 hs2
    try (have wa : IntKind.u64.wrap (hi a) = hi a := (by rw [IntKind.wrap_u64]; omega); rw [wa] at k2; clear wa)
    try (have wb : IntKind.u64.wrap (hi b) = hi b := (by rw [IntKind.wrap_u64]; omega); rw [wb] at k2; clear wb)
    go_enter Try.func93, Try.ntmps93
    go_wp2_with fail
    have q0 := ka (ka (ka (na w #[.int .i64 (hi a), .int .u64 (lo a)] 90) (.cells #[.int .i64 (hi b), .int .u64 (lo b)] 90)) (.cells #[.int .i64 0, .int .u64 0] 90)) (.cells #[.int .i64 (hi (a + b)), .int .u64 (lo (a + b))] 90)
    have q1 := ka (ka (na1 w (.cells #[.int .i64 (hi a), .int .u64 (lo a)] 90) #[.int .i64 (hi b), .int .u64 (lo b)] 90) (.cells #[.int .i64 0, .int .u64 0] 90)) (.cells #[.int .i64 (hi (a + b)), .int .u64 (lo (a + b))] 90)
    have q2 := ka (na2 w (.cells #[.int .i64 (hi a), .int .u64 (lo a)] 90) (.cells #[.int .i64 (hi b), .int .u64 (lo b)] 90) #[.int .i64 0, .int .u64 0] 90) (.cells #[.int .i64 (hi (a + b)), .int .u64 (lo (a + b))] 90)
    have q3 := na (((w.alloc (.cells #[.int .i64 (hi a), .int .u64 (lo a)] 90)).alloc (.cells #[.int .i64 (hi b), .int .u64 (lo b)] 90)).alloc (.cells #[.int .i64 0, .int .u64 0] 90)) #[.int .i64 (hi (a + b)), .int .u64 (lo (a + b))] 90
    simp only [World.size_alloc] at q3
    first | (have da : decide (hi a < 0) = true := decide_eq_true (by omega)) | (have da : decide (hi a < 0) = false := decide_eq_false (by omega))
    first | (have db : decide (hi b < 0) = true := decide_eq_true (by omega)) | (have db : decide (hi b < 0) = false := decide_eq_false (by omega))
    first | (have ds : decide (hi (a + b) < 0) = true := decide_eq_true (by omega)) | (have ds : decide (hi (a + b) < 0) = false := decide_eq_false (by omega)) | skip
    refine Abs.wp_region_abs (Abs.cls _ (fun k => k = w.heap.size + 1 + 1)) [0, 1, 2, 3, 4, 5, 6, 7, 8, 9, 10, 11, 12, 13, 14, 15, 16, 17, 18] (by kernel_rfl) (by kernel_rfl) (Below.refl _ _).drew ?_
    repeat (first | (refine Abs.step_pure rfl rfl (fun K hK => ?_); go_simp; (try go_bits); (first | refine hK _ _ ?_ | (simp only [↓IntWalk.iteOmega]; go_simp; (try go_bits); refine hK _ _ ?_)); clear hK K) | (refine Abs.step_late (v := ?_) rfl rfl (fun w0 hI => ?_) (fun K hK => ?_); rotate_left; (· have z0 := (rcell (kj hI q0 (by omega))).1; have z1 := (rcell (kj hI q1 (by omega))).1; have z2 := (rcell (kj hI q3 (by omega))).1; go_simp; rfl); (simp only [Act.put, List.setIfInBounds_toArray, List.set_cons_zero, List.set_cons_succ]; refine hK _ _ ?_; clear hK K)) | (refine Abs.step_skip rfl rfl (fun K hK => ?_); (simp only [Act.put, List.setIfInBounds_toArray, List.set_cons_zero, List.set_cons_succ]; refine hK _ _ ?_; clear hK K)))
    (refine Abs.step_store (T := ?_) rfl rfl rfl (fun w0 hI hF hU => ?_) (fun w0 hI hU hJ => ?_) (fun K hK => ?_); rotate_left; (· have hR := kp hI q2; have hg0 := (rcell hR).1; have hg1 := (rcell hR).2.1; simp only [Abs.T_setF, Abs.T_addA, Abs.T_push, Abs.T_start]; go_simp; exact row2 hR _ _); (· first | exact trivial | exact js hJ rfl _ | exact js hJ (Or.inl rfl) _ | exact js hJ (Or.inr rfl) _); (simp only [Act.put, List.setIfInBounds_toArray, List.set_cons_zero, List.set_cons_succ]; refine hK _ _ ?_; clear hK K))
    repeat (first | (refine Abs.step_pure rfl rfl (fun K hK => ?_); go_simp; (try go_bits); (first | refine hK _ _ ?_ | (simp only [↓IntWalk.iteOmega]; go_simp; (try go_bits); refine hK _ _ ?_)); clear hK K) | (refine Abs.step_late (v := ?_) rfl rfl (fun w0 hI => ?_) (fun K hK => ?_); rotate_left; (· have z0 := (rcell (kj hI q0 (by omega))).1; have z1 := (rcell (kj hI q1 (by omega))).1; have z2 := (rcell (kj hI q3 (by omega))).1; go_simp; rfl); (simp only [Act.put, List.setIfInBounds_toArray, List.set_cons_zero, List.set_cons_succ]; refine hK _ _ ?_; clear hK K)) | (refine Abs.step_skip rfl rfl (fun K hK => ?_); (simp only [Act.put, List.setIfInBounds_toArray, List.set_cons_zero, List.set_cons_succ]; refine hK _ _ ?_; clear hK K)))
    (intro w0 hI hF hx1 hx2; clear hx1 hx2 hF; simp only [Abs.T_push]; generalize hT : setRow w0 _ _ = w1; obtain ⟨hO, hN, hS, hG⟩ := fin_old hI q2 hT; clear hT hI w0)
    go_wp2
    have zE := (rcell hN).1
    refine bodyPost_ret (by simp [results, Try.results93, go_sem, zE]; try rfl) rfl ⟨rfl, bG (bA (bA (bA (bA (b0 w) _) _) _) _) hG (by omega)⟩
end Go.Proofs.Ytfdaabdibpcjeaa
