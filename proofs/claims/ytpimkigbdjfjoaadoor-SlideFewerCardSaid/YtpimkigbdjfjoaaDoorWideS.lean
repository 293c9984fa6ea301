/- wide.difference and wide.Sub where the difference fits. -/
import Derived.Test.YtpimkigbdjfjoaaDoorP2
set_option linter.unusedSimpArgs false
set_option linter.unusedVariables false
namespace Go.Proofs.YtpimkigbdjfjoaaDoor
open Go.RowKit

set_option maxRecDepth 100000 in
set_option maxHeartbeats 2000000 in
theorem wide_diff (a b : Int) (ha : Rng a) (hb : Rng b) (h : Rng (a - b)) (w : World) :
    Calls Tryd.prog 106 #[.agg #[.int .i64 (hi a), .int .u64 (lo a)], .agg #[.int .i64 (hi b), .int .u64 (lo b)]] w fun e w' =>
      e = .returned (.tuple #[.agg #[.int .i64 (hi (a - b)), .int .u64 (lo (a - b))], .bool true]) ∧ Below w.heap.size w w' := by
  obtain ⟨a1, a2⟩ := lo_lo a
  obtain ⟨b1, b2⟩ := lo_lo b
  obtain ⟨a3, a4⟩ := hi_of a ha
  obtain ⟨b3, b4⟩ := hi_of b hb
  obtain ⟨e1, el⟩ := diff_math a b ha hb
  rw [W128_in h] at e1 el
  have k1 := sub64_0 (lo a) (lo b) a1 b1 b2
  obtain ⟨c0, c1⟩ := bor_lo (lo a) (lo b)
  have k2 := sub64 (IntKind.u64.wrap (hi a)) (IntKind.u64.wrap (hi b)) (bor (lo a) (lo b)) (by rw [IntKind.wrap_u64]; omega) (by rw [IntKind.wrap_u64]; omega) (by rw [IntKind.wrap_u64]; omega) c0 c1
  rw [el] at k1
  obtain ⟨c, hc⟩ : ∃ c, bor (lo a) (lo b) = c := ⟨_, rfl⟩
  obtain ⟨g, hg⟩ : ∃ g, (IntKind.u64.wrap (hi a) - IntKind.u64.wrap (hi b) - bor (lo a) (lo b)) % 18446744073709551616 = g := ⟨_, rfl⟩
  obtain ⟨g', hg'⟩ : ∃ g', bor (IntKind.u64.wrap (hi a)) (IntKind.u64.wrap (hi b) + bor (lo a) (lo b)) = g' := ⟨_, rfl⟩
  rw [hg] at e1
  rw [hg, hg', hc] at k2
  rw [hc] at k1
  have hv1 : ¬ (hi a < 0 ∧ ¬ hi b < 0 ∧ ¬ hi (a - b) < 0) := by unfold hi; omega
  have hv2 : ¬ (¬ hi a < 0 ∧ hi b < 0 ∧ hi (a - b) < 0) := by unfold hi; omega
  generalize a - b = v at *
  clear c0 c1 hc hg hg' el
  by_cases sa : hi a < 0 <;> by_cases sb : hi b < 0 <;> by_cases sv : hi v < 0
  all_goals first | (exfalso; omega) | skip
  all_goals
    clear hv1 hv2
    try (have wa : IntKind.u64.wrap (hi a) = hi a := (by rw [IntKind.wrap_u64]; omega); rw [wa] at k2; clear wa)
    try (have wb : IntKind.u64.wrap (hi b) = hi b := (by rw [IntKind.wrap_u64]; omega); rw [wb] at k2; clear wb)
    go_enter Tryd.func106, Tryd.ntmps106
    go_wp2_with fail
    have q0 := ka (ka (ka (na w #[.int .i64 (hi a), .int .u64 (lo a)] 57) (.cells #[.int .i64 (hi b), .int .u64 (lo b)] 57)) (.cells #[.int .i64 0, .int .u64 0] 57)) (.cells #[.int .i64 (hi v), .int .u64 (lo v)] 57)
    have q1 := ka (ka (na1 w (.cells #[.int .i64 (hi a), .int .u64 (lo a)] 57) #[.int .i64 (hi b), .int .u64 (lo b)] 57) (.cells #[.int .i64 0, .int .u64 0] 57)) (.cells #[.int .i64 (hi v), .int .u64 (lo v)] 57)
    have q2 := ka (na2 w (.cells #[.int .i64 (hi a), .int .u64 (lo a)] 57) (.cells #[.int .i64 (hi b), .int .u64 (lo b)] 57) #[.int .i64 0, .int .u64 0] 57) (.cells #[.int .i64 (hi v), .int .u64 (lo v)] 57)
    have q3 := na (((w.alloc (.cells #[.int .i64 (hi a), .int .u64 (lo a)] 57)).alloc (.cells #[.int .i64 (hi b), .int .u64 (lo b)] 57)).alloc (.cells #[.int .i64 0, .int .u64 0] 57)) #[.int .i64 (hi v), .int .u64 (lo v)] 57
    simp only [World.size_alloc] at q3
    first | (have da : decide (hi a < 0) = true := decide_eq_true (by omega)) | (have da : decide (hi a < 0) = false := decide_eq_false (by omega))
    first | (have db : decide (hi b < 0) = true := decide_eq_true (by omega)) | (have db : decide (hi b < 0) = false := decide_eq_false (by omega))
    first | (have ds : decide (hi v < 0) = true := decide_eq_true (by omega)) | (have ds : decide (hi v < 0) = false := decide_eq_false (by omega))
    refine Abs.wp_region_abs (Abs.cls _ (fun k => k = w.heap.size + 1 + 1)) [0, 1, 2, 3, 4, 5, 6, 7, 8, 9, 10, 11, 12, 13, 14, 15, 16, 17, 18] (by kernel_rfl) (by kernel_rfl) (Below.refl _ _).drew ?_
    repeat (first | (refine Abs.step_pure rfl rfl (fun K hK => ?_); go_simp; (try go_bits); (first | refine hK _ _ ?_ | (simp only [↓IntWalk.iteOmega]; go_simp; (try go_bits); refine hK _ _ ?_)); clear hK K) | (refine Abs.step_late (v := ?_) rfl rfl (fun w0 hI => ?_) (fun K hK => ?_); rotate_left; (· have z0 := (rcell (kj hI q0 (by omega))).1; have z1 := (rcell (kj hI q1 (by omega))).1; have z2 := (rcell (kj hI q3 (by omega))).1; go_simp; rfl); (simp only [Act.put, List.setIfInBounds_toArray, List.set_cons_zero, List.set_cons_succ]; refine hK _ _ ?_; clear hK K)) | (refine Abs.step_skip rfl rfl (fun K hK => ?_); (simp only [Act.put, List.setIfInBounds_toArray, List.set_cons_zero, List.set_cons_succ]; refine hK _ _ ?_; clear hK K)))
    (refine Abs.step_store (T := ?_) rfl rfl rfl (fun w0 hI hF hU => ?_) (fun w0 hI hU hJ => ?_) (fun K hK => ?_); rotate_left; (· have hR := kp hI q2; have hg0 := (rcell hR).1; have hg1 := (rcell hR).2.1; simp only [Abs.T_setF, Abs.T_addA, Abs.T_push, Abs.T_start]; go_simp; exact row2 hR _ _); (· first | exact trivial | exact js hJ rfl _ | exact js hJ (Or.inl rfl) _ | exact js hJ (Or.inr rfl) _); (simp only [Act.put, List.setIfInBounds_toArray, List.set_cons_zero, List.set_cons_succ]; refine hK _ _ ?_; clear hK K))
    repeat (first | (refine Abs.step_pure rfl rfl (fun K hK => ?_); go_simp; (try go_bits); (first | refine hK _ _ ?_ | (simp only [↓IntWalk.iteOmega]; go_simp; (try go_bits); refine hK _ _ ?_)); clear hK K) | (refine Abs.step_late (v := ?_) rfl rfl (fun w0 hI => ?_) (fun K hK => ?_); rotate_left; (· have z0 := (rcell (kj hI q0 (by omega))).1; have z1 := (rcell (kj hI q1 (by omega))).1; have z2 := (rcell (kj hI q3 (by omega))).1; go_simp; rfl); (simp only [Act.put, List.setIfInBounds_toArray, List.set_cons_zero, List.set_cons_succ]; refine hK _ _ ?_; clear hK K)) | (refine Abs.step_skip rfl rfl (fun K hK => ?_); (simp only [Act.put, List.setIfInBounds_toArray, List.set_cons_zero, List.set_cons_succ]; refine hK _ _ ?_; clear hK K)))
    (intro w0 hI hF hx1 hx2; clear hx1 hx2 hF; simp only [Abs.T_push]; generalize hT : setRow w0 _ _ = w1; obtain ⟨hO, hN, hS, hG⟩ := fin_old hI q2 hT; clear hT hI w0)
    go_wp2
    have zE := (rcell hN).1
    refine bodyPost_ret (by simp [results, Tryd.results106, go_sem, zE]; try rfl) rfl ⟨rfl, bG (bA (bA (bA (bA (b0 w) _) _) _) _) hG (by omega)⟩

theorem wide_Sub (a b : Int) (ha : Rng a) (hb : Rng b) (h : Rng (a - b)) (w : World) :
    Calls Tryd.prog 84 #[.agg #[.int .i64 (hi a), .int .u64 (lo a)], .agg #[.int .i64 (hi b), .int .u64 (lo b)]] w fun e w' =>
      e = .returned (.tuple #[.agg #[.int .i64 (hi (a - b)), .int .u64 (lo (a - b))], .int .i64 0]) ∧ Below w.heap.size w w' := by
  go_enter Tryd.func84, Tryd.ntmps84
  go_wp2_with fail
  refine (wide_diff a b ha hb h _).mono ?_
  rintro e w1 ⟨rfl, hb1⟩
  have r1 := kp hb1 (na2 w (.cells #[.int .i64 (hi a), .int .u64 (lo a)] 57) (.cells #[.int .i64 (hi b), .int .u64 (lo b)] 57) #[.int .i64 0, .int .u64 0] 57)
  go_wp2_with fail
  refine (wide_told _ _ _).mono ?_
  rintro e w2 ⟨rfl, hb2⟩
  have r2 := kp hb2 r1
  obtain ⟨z1, z2, -⟩ := rcell r2
  go_wp2
  (rw [row2 r2]; generalize hT : setRow _ _ _ = wE; obtain ⟨hbE, hgE⟩ := ret_row (bB (bB (bA (bA (bA (b0 w) _) _) _) hb1) hb2) (by omega) r2 hT; have zE := (rcell hgE).1; clear hT; refine bodyPost_ret (by simp [results, Tryd.results84, go_sem, zE]; try rfl) rfl ?_)
  exact ⟨rfl, hbE⟩
end Go.Proofs.YtpimkigbdjfjoaaDoor
