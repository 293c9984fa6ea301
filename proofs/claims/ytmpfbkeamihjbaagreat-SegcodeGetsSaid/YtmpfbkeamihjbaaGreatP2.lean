/- The package wide at this program: what its functions come to, in whole numbers. The package wide at this program, on: difference, told, Add, size, signed. The package wide at this program, on: size, signed, Mul, Compare. The package wide at this program, on: parts, Div, Int, Compare, Mul. The package wide at this program, on: Compare, Mul. -/
import Derived.Test.YtmpfbkeamihjbaaGreatP1
set_option linter.unusedSimpArgs false
set_option linter.unusedVariables false
namespace Go.Proofs.YtmpfbkeamihjbaaGreat
open Go.RowKit

def hi (x : Int) : Int := x / 18446744073709551616
def lo (x : Int) : Int := x % 18446744073709551616
def Rng (x : Int) : Prop := -170141183460469231731687303715884105728 ≤ x ∧ x < 170141183460469231731687303715884105728
theorem hi_lo (x : Int) : hi x * 18446744073709551616 + lo x = x := by unfold hi lo; omega
theorem lo_lo (x : Int) : 0 ≤ lo x ∧ lo x < 18446744073709551616 := by unfold lo; omega
theorem hi_of (x : Int) (h : Rng x) : -9223372036854775808 ≤ hi x ∧ hi x < 9223372036854775808 := by unfold hi; obtain ⟨h1, h2⟩ := h; omega
theorem hi_eq {x a b : Int} (h : a * 18446744073709551616 + b = x) (h0 : 0 ≤ b) (h1 : b < 18446744073709551616) : a = hi x ∧ b = lo x := by unfold hi lo; omega
theorem wide_Of (x : Int) (h1 : -9223372036854775808 ≤ x) (h2 : x < 9223372036854775808) (w : World) :
    Calls Tryz.prog 126 #[.int .i64 x] w fun e w' => e = .returned (.agg #[.int .i64 (hi x), .int .u64 (lo x)]) ∧ Below w.heap.size w w' := by
  go_enter Tryz.func126, Tryz.ntmps126
  go_wp2
  refine bodyPost_ret (by simp [results, Tryz.results126, go_sem]; try rfl) rfl ⟨?_, bA (b0 w) _⟩
  have e1 : x / 9223372036854775808 = hi x := by unfold hi; omega
  have e2 : IntKind.u64.wrap x = lo x := by rw [IntKind.wrap_u64]; rfl
  rw [e1, e2]

set_option maxRecDepth 100000 in
set_option maxHeartbeats 1000000 in
theorem wide_sum (a b : Int) (ha : Rng a) (hb : Rng b) (w : World) (h : Rng (a + b)) :
    Calls Tryz.prog 146 #[.agg #[.int .i64 (hi a), .int .u64 (lo a)], .agg #[.int .i64 (hi b), .int .u64 (lo b)]] w fun e w' =>
      e = .returned (.tuple #[.agg #[.int .i64 (hi (a + b)), .int .u64 (lo (a + b))], .bool true]) ∧ Below w.heap.size w w' := by
  obtain ⟨a1, a2⟩ := lo_lo a
  obtain ⟨b1, b2⟩ := lo_lo b
  obtain ⟨a3, a4⟩ := hi_of a ha
  obtain ⟨b3, b4⟩ := hi_of b hb
  have k1 := add64_0 (lo a) (lo b) a1 b1
  have c0 : 0 ≤ (lo a + lo b) / 18446744073709551616 := by omega
  have c1 : (lo a + lo b) / 18446744073709551616 ≤ 1 := by omega
  have k2 := add64 (IntKind.u64.wrap (hi a)) (IntKind.u64.wrap (hi b)) ((lo a + lo b) / 18446744073709551616) (by rw [IntKind.wrap_u64]; omega) (by rw [IntKind.wrap_u64]; omega) c0 c1
  have el : (lo a + lo b) % 18446744073709551616 = lo (a + b) := by unfold lo; omega
  rw [el] at k1
  obtain ⟨c, hc⟩ : ∃ c, (lo a + lo b) / 18446744073709551616 = c := ⟨_, rfl⟩
  obtain ⟨g, hg⟩ : ∃ g, (IntKind.u64.wrap (hi a) + IntKind.u64.wrap (hi b) + (lo a + lo b) / 18446744073709551616) % 18446744073709551616 = g := ⟨_, rfl⟩
  obtain ⟨g', hg'⟩ : ∃ g', (IntKind.u64.wrap (hi a) + IntKind.u64.wrap (hi b) + (lo a + lo b) / 18446744073709551616) / 18446744073709551616 = g' := ⟨_, rfl⟩
  rw [hg, hg', hc] at k2
  rw [hc] at k1
  have e1 : wrap64 g = hi (a + b) := by
    rw [← hg]
    simp only [IntKind.wrap_u64, wrap64]
    obtain ⟨r1, r2⟩ := h
    unfold hi lo at *
    omega
  have hs : (hi a < 0 ∧ hi b < 0 → hi (a + b) < 0) ∧ (0 ≤ hi a ∧ 0 ≤ hi b → 0 ≤ hi (a + b)) := by unfold hi; omega
  obtain ⟨hs1, hs2⟩ := hs
  have HS := hide (show (hi a < 0 ∧ hi b < 0 → hi (a + b) < 0) ∧ (0 ≤ hi a ∧ 0 ≤ hi b → 0 ≤ hi (a + b)) from ⟨hs1, hs2⟩)
  clear c0 c1 hc hg hg' el
  by_cases sa : hi a < 0 <;> by_cases sb : hi b < 0
  all_goals
    first | (have hs3 := hs1 ⟨sa, sb⟩) | (have hs3 := hs2 ⟨by omega, by omega⟩) | skip
    clear hs1 hs2
    try (have wa : IntKind.u64.wrap (hi a) = hi a := (by rw [IntKind.wrap_u64]; omega); rw [wa] at k2; clear wa)
    try (have wb : IntKind.u64.wrap (hi b) = hi b := (by rw [IntKind.wrap_u64]; omega); rw [wb] at k2; clear wb)
    go_enter Tryz.func146, Tryz.ntmps146
    go_wp2_with fail
    have q0 := ka (ka (ka (na w #[.int .i64 (hi a), .int .u64 (lo a)] 160) (.cells #[.int .i64 (hi b), .int .u64 (lo b)] 160)) (.cells #[.int .i64 0, .int .u64 0] 160)) (.cells #[.int .i64 (hi (a + b)), .int .u64 (lo (a + b))] 160)
    have q1 := ka (ka (na1 w (.cells #[.int .i64 (hi a), .int .u64 (lo a)] 160) #[.int .i64 (hi b), .int .u64 (lo b)] 160) (.cells #[.int .i64 0, .int .u64 0] 160)) (.cells #[.int .i64 (hi (a + b)), .int .u64 (lo (a + b))] 160)
    have q2 := ka (na2 w (.cells #[.int .i64 (hi a), .int .u64 (lo a)] 160) (.cells #[.int .i64 (hi b), .int .u64 (lo b)] 160) #[.int .i64 0, .int .u64 0] 160) (.cells #[.int .i64 (hi (a + b)), .int .u64 (lo (a + b))] 160)
    have q3 := na (((w.alloc (.cells #[.int .i64 (hi a), .int .u64 (lo a)] 160)).alloc (.cells #[.int .i64 (hi b), .int .u64 (lo b)] 160)).alloc (.cells #[.int .i64 0, .int .u64 0] 160)) #[.int .i64 (hi (a + b)), .int .u64 (lo (a + b))] 160
    simp only [World.size_alloc] at q3
    first | (have da : decide (hi a < 0) = true := decide_eq_true (by omega)) | (have da : decide (hi a < 0) = false := decide_eq_false (by omega))
    first | (have db : decide (hi b < 0) = true := decide_eq_true (by omega)) | (have db : decide (hi b < 0) = false := decide_eq_false (by omega))
    first | (have ds : decide (hi (a + b) < 0) = true := decide_eq_true (by omega)) | (have ds : decide (hi (a + b) < 0) = false := decide_eq_false (by omega)) | skip
    refine Abs.wp_region_abs (Abs.cls _ (fun k => k = w.heap.size + 1 + 1)) [0, 1, 2, 3, 4, 5, 6, 7, 8, 9, 10, 11, 12, 13, 14, 15, 16, 17, 18] (by kernel_rfl) (by kernel_rfl) (Below.refl _ _).drew ?_
    repeat (first | (refine Abs.step_pure rfl rfl (fun K hK => ?_); go_simp; (try go_bits); (first | refine hK _ _ ?_ | (simp only [↓IntWalk.iteOmega]; go_simp; (try go_bits); refine hK _ _ ?_)); clear hK K) | (refine Abs.step_late (v := ?_) rfl rfl (fun w0 hI => ?_) (fun K hK => ?_); rotate_left; (· have z0 := (rcell (kj hI q0 (by omega))).1; have z1 := (rcell (kj hI q1 (by omega))).1; have z2 := (rcell (kj hI q3 (by omega))).1; go_simp; rfl); (simp only [Act.put, List.setIfInBounds_toArray, List.set_cons_zero, List.set_cons_succ]; refine hK _ _ ?_; clear hK K)) | (refine Abs.step_skip rfl rfl (fun K hK => ?_); (simp only [Act.put, List.setIfInBounds_toArray, List.set_cons_zero, List.set_cons_succ]; refine hK _ _ ?_; clear hK K)))
    (refine Abs.step_store (T := ?_) rfl rfl rfl (fun w0 hI hF hU => ?_) (fun w0 hI hU hJ => ?_) (fun K hK => ?_); rotate_left; (· have hR := kp hI q2; have hg0 := (rcell hR).1; have hg1 := (rcell hR).2.1; simp only [Abs.T_setF, Abs.T_addA, Abs.T_push, Abs.T_start]; go_simp; exact row2 hR _ _); (· first | exact trivial | exact js hJ rfl _ | exact js hJ (Or.inl rfl) _ | exact js hJ (Or.inr rfl) _); (simp only [Act.put, List.setIfInBounds_toArray, List.set_cons_zero, List.set_cons_succ]; refine hK _ _ ?_; clear hK K))
    repeat (first | (refine Abs.step_pure rfl rfl (fun K hK => ?_); go_simp; (try go_bits); (first | refine hK _ _ ?_ | (simp only [↓IntWalk.iteOmega]; go_simp; (try go_bits); refine hK _ _ ?_)); clear hK K) | (refine Abs.step_late (v := ?_) rfl rfl (fun w0 hI => ?_) (fun K hK => ?_); rotate_left; (· have z0 := (rcell (kj hI q0 (by omega))).1; have z1 := (rcell (kj hI q1 (by omega))).1; have z2 := (rcell (kj hI q3 (by omega))).1; go_simp; rfl); (simp only [Act.put, List.setIfInBounds_toArray, List.set_cons_zero, List.set_cons_succ]; refine hK _ _ ?_; clear hK K)) | (refine Abs.step_skip rfl rfl (fun K hK => ?_); (simp only [Act.put, List.setIfInBounds_toArray, List.set_cons_zero, List.set_cons_succ]; refine hK _ _ ?_; clear hK K)))
    (intro w0 hI hF hx1 hx2; clear hx1 hx2 hF; simp only [Abs.T_push]; generalize hT : setRow w0 _ _ = w1; obtain ⟨hO, hN, hS, hG⟩ := fin_old hI q2 hT; clear hT hI w0)
    go_wp2
    have zE := (rcell hN).1
    refine bodyPost_ret (by simp [results, Tryz.results146, go_sem, zE]; try rfl) rfl ⟨rfl, bG (bA (bA (bA (bA (b0 w) _) _) _) _) hG (by omega)⟩
end Go.Proofs.YtmpfbkeamihjbaaGreat

namespace Go.Proofs.YtmpfbkeamihjbaaGreat
open Go.RowKit

/-- a whole number as one of 128 bits -/
def W128 (x : Int) : Int := (x + 170141183460469231731687303715884105728) % 340282366920938463463374607431768211456 - 170141183460469231731687303715884105728
theorem W128_in {x : Int} (h : Rng x) : W128 x = x := by obtain ⟨h1, h2⟩ := h; unfold W128; omega
theorem W128_rng (x : Int) : Rng (W128 x) := by unfold W128 Rng; omega

theorem diff_math (a b : Int) (ha : Rng a) (hb : Rng b) : wrap64 ((IntKind.u64.wrap (hi a) - IntKind.u64.wrap (hi b) - bor (lo a) (lo b)) % 18446744073709551616) = hi (W128 (a - b)) ∧ (lo a - lo b) % 18446744073709551616 = lo (W128 (a - b)) := by
  obtain ⟨a1, a2⟩ := ha
  obtain ⟨b1, b2⟩ := hb
  simp only [IntKind.wrap_u64, wrap64]
  unfold bor W128 hi lo
  constructor
  · split <;> omega
  · omega

set_option maxRecDepth 100000 in
set_option maxHeartbeats 2000000 in
theorem wide_difference (a b : Int) (ha : Rng a) (hb : Rng b) (w : World) :
    Calls Tryz.prog 168 #[.agg #[.int .i64 (hi a), .int .u64 (lo a)], .agg #[.int .i64 (hi b), .int .u64 (lo b)]] w fun e w' =>
      (∃ f : Bool, e = .returned (.tuple #[.agg #[.int .i64 (hi (W128 (a - b))), .int .u64 (lo (W128 (a - b)))], .bool f])) ∧ Below w.heap.size w w' := by
  obtain ⟨a1, a2⟩ := lo_lo a
  obtain ⟨b1, b2⟩ := lo_lo b
  obtain ⟨a3, a4⟩ := hi_of a ha
  obtain ⟨b3, b4⟩ := hi_of b hb
  obtain ⟨e1, el⟩ := diff_math a b ha hb
  have k1 := sub64_0 (lo a) (lo b) a1 b1 b2
  obtain ⟨c0, c1⟩ := bor_lo (lo a) (lo b)
  have k2 := sub64 (IntKind.u64.wrap (hi a)) (IntKind.u64.wrap (hi b)) (bor (lo a) (lo b)) (by rw [IntKind.wrap_u64]; omega) (by rw [IntKind.wrap_u64]; omega) (by rw [IntKind.wrap_u64]; omega) c0 c1
  rw [el] at k1
  obtain ⟨c, hc⟩ : ∃ c, bor (lo a) (lo b) = c := ⟨_, rfl⟩
  obtain ⟨g, hg⟩ : ∃ g, (IntKind.u64.wrap (hi a) - IntKind.u64.wrap (hi b) - bor (lo a) (lo b)) % 18446744073709551616 = g := ⟨_, rfl⟩
  obtain ⟨g', hg'⟩ : ∃ g', bor (IntKind.u64.wrap (hi a)) (IntKind.u64.wrap (hi b) + bor (lo a) (lo b)) = g' := ⟨_, rfl⟩
  rw [hg] at e1
  rw [hg, hg', hc] at k2
  rw [hc] at k1
  generalize W128 (a - b) = v at *
  clear c0 c1 hc hg hg' el
  by_cases sa : hi a < 0 <;> by_cases sb : hi b < 0 <;> by_cases sv : hi v < 0
  all_goals
    try (have wa : IntKind.u64.wrap (hi a) = hi a := (by rw [IntKind.wrap_u64]; omega); rw [wa] at k2; clear wa)
    try (have wb : IntKind.u64.wrap (hi b) = hi b := (by rw [IntKind.wrap_u64]; omega); rw [wb] at k2; clear wb)
    go_enter Tryz.func168, Tryz.ntmps168
    go_wp2_with fail
    have q0 := ka (ka (ka (na w #[.int .i64 (hi a), .int .u64 (lo a)] 160) (.cells #[.int .i64 (hi b), .int .u64 (lo b)] 160)) (.cells #[.int .i64 0, .int .u64 0] 160)) (.cells #[.int .i64 (hi v), .int .u64 (lo v)] 160)
    have q1 := ka (ka (na1 w (.cells #[.int .i64 (hi a), .int .u64 (lo a)] 160) #[.int .i64 (hi b), .int .u64 (lo b)] 160) (.cells #[.int .i64 0, .int .u64 0] 160)) (.cells #[.int .i64 (hi v), .int .u64 (lo v)] 160)
    have q2 := ka (na2 w (.cells #[.int .i64 (hi a), .int .u64 (lo a)] 160) (.cells #[.int .i64 (hi b), .int .u64 (lo b)] 160) #[.int .i64 0, .int .u64 0] 160) (.cells #[.int .i64 (hi v), .int .u64 (lo v)] 160)
    have q3 := na (((w.alloc (.cells #[.int .i64 (hi a), .int .u64 (lo a)] 160)).alloc (.cells #[.int .i64 (hi b), .int .u64 (lo b)] 160)).alloc (.cells #[.int .i64 0, .int .u64 0] 160)) #[.int .i64 (hi v), .int .u64 (lo v)] 160
    simp only [World.size_alloc] at q3
    first | (have da : decide (hi a < 0) = true := decide_eq_true (by omega)) | (have da : decide (hi a < 0) = false := decide_eq_false (by omega))
    first | (have db : decide (hi b < 0) = true := decide_eq_true (by omega)) | (have db : decide (hi b < 0) = false := decide_eq_false (by omega))
    first | (have ds : decide (hi v < 0) = true := decide_eq_true (by omega)) | (have ds : decide (hi v < 0) = false := decide_eq_false (by omega))
    refine Abs.wp_region_abs (Abs.cls _ (fun k => k = w.heap.size + 1 + 1)) [0, 1, 2, 3, 4, 5, 6, 7, 8, 9, 10, 11, 12, 13, 14, 15, 16, 17, 18] (by kernel_rfl) (by kernel_rfl) (Below.refl _ _).drew ?_
    repeat (first | (refine Abs.step_pure rfl rfl (fun K hK => ?_); go_simp; (try go_bits); (first | refine hK _ _ ?_ | (simp only [↓IntWalk.iteOmega]; go_simp; (try go_bits); refine hK _ _ ?_)); clear hK K) | (refine Abs.step_late (v := ?_) rfl rfl (fun w0 hI => ?_) (fun K hK => ?_); rotate_left; (· have z0 := (rcell (kj hI q0 (by omega))).1; have z1 := (rcell (kj hI q1 (by omega))).1; have z2 := (rcell (kj hI q3 (by omega))).1; go_simp; rfl); (simp only [Act.put, List.setIfInBounds_toArray, List.set_cons_zero, List.set_cons_succ]; refine hK _ _ ?_; clear hK K)) | (refine Abs.step_skip rfl rfl (fun K hK => ?_); (simp only [Act.put, List.setIfInBounds_toArray, List.set_cons_zero, List.set_cons_succ]; refine hK _ _ ?_; clear hK K)))
    (refine Abs.step_store (T := ?_) rfl rfl rfl (fun w0 hI hF hU => ?_) (fun w0 hI hU hJ => ?_) (fun K hK => ?_); rotate_left; (· have hR := kp hI q2; have hg0 := (rcell hR).1; have hg1 := (rcell hR).2.1; simp only [Abs.T_setF, Abs.T_addA, Abs.T_push, Abs.T_start]; go_simp; exact row2 hR _ _); (· first | exact trivial | exact js hJ rfl _ | exact js hJ (Or.inl rfl) _ | exact js hJ (Or.inr rfl) _); (simp only [Act.put, List.setIfInBounds_toArray, List.set_cons_zero, List.set_cons_succ]; refine hK _ _ ?_; clear hK K))
    repeat (first | (refine Abs.step_pure rfl rfl (fun K hK => ?_); go_simp; (try go_bits); (first | refine hK _ _ ?_ | (simp only [↓IntWalk.iteOmega]; go_simp; (try go_bits); refine hK _ _ ?_)); clear hK K) | (refine Abs.step_late (v := ?_) rfl rfl (fun w0 hI => ?_) (fun K hK => ?_); rotate_left; (· have z0 := (rcell (kj hI q0 (by omega))).1; have z1 := (rcell (kj hI q1 (by omega))).1; have z2 := (rcell (kj hI q3 (by omega))).1; go_simp; rfl); (simp only [Act.put, List.setIfInBounds_toArray, List.set_cons_zero, List.set_cons_succ]; refine hK _ _ ?_; clear hK K)) | (refine Abs.step_skip rfl rfl (fun K hK => ?_); (simp only [Act.put, List.setIfInBounds_toArray, List.set_cons_zero, List.set_cons_succ]; refine hK _ _ ?_; clear hK K)))
    (intro w0 hI hF hx1 hx2; clear hx1 hx2 hF; simp only [Abs.T_push]; generalize hT : setRow w0 _ _ = w1; obtain ⟨hO, hN, hS, hG⟩ := fin_old hI q2 hT; clear hT hI w0)
    go_wp2
    have zE := (rcell hN).1
    refine bodyPost_ret (by simp [results, Tryz.results168, go_sem, zE]; try rfl) rfl ⟨⟨_, rfl⟩, bG (bA (bA (bA (bA (b0 w) _) _) _) _) hG (by omega)⟩

theorem wide_told (a b : Int) (w : World) :
    Calls Tryz.prog 145 #[.agg #[.int .i64 a, .int .u64 b], .bool true] w fun e w' =>
      e = .returned (.tuple #[.agg #[.int .i64 a, .int .u64 b], .int .i64 0]) ∧ Below w.heap.size w w' := by
  go_enter Tryz.func145, Tryz.ntmps145
  go_wp2
  refine bodyPost_ret (by simp [results, Tryz.results145, go_sem]; try rfl) rfl ⟨rfl, bA (bA (b0 w) _) _⟩
theorem told_int (a : Int) (b : Bool) (w : World) :
    Calls Tryz.prog 161 #[.int .i64 a, .bool b] w fun e w' =>
      e = .returned (.tuple #[.int .i64 (if b then a else 0), .int .i64 (if b then 0 else 5)]) ∧ Below w.heap.size w w' := by
  cases b
  all_goals
    go_enter Tryz.func161, Tryz.ntmps161
    go_wp2
    go_returns
    exact ⟨rfl, by go_grown⟩

theorem wide_Add (a b : Int) (ha : Rng a) (hb : Rng b) (h : Rng (a + b)) (w : World) :
    Calls Tryz.prog 120 #[.agg #[.int .i64 (hi a), .int .u64 (lo a)], .agg #[.int .i64 (hi b), .int .u64 (lo b)]] w fun e w' =>
      e = .returned (.tuple #[.agg #[.int .i64 (hi (a + b)), .int .u64 (lo (a + b))], .int .i64 0]) ∧ Below w.heap.size w w' := by
  go_enter Tryz.func120, Tryz.ntmps120
  go_wp2_with fail
  refine (wide_sum a b ha hb _ h).mono ?_
  rintro e w1 ⟨rfl, hb1⟩
  have r1 := kp hb1 (na2 w (.cells #[.int .i64 (hi a), .int .u64 (lo a)] 160) (.cells #[.int .i64 (hi b), .int .u64 (lo b)] 160) #[.int .i64 0, .int .u64 0] 160)
  go_wp2_with fail
  refine (wide_told _ _ _).mono ?_
  rintro e w2 ⟨rfl, hb2⟩
  have r2 := kp hb2 r1
  obtain ⟨z1, z2, -⟩ := rcell r2
  go_wp2
  (rw [row2 r2]; generalize hT : setRow _ _ _ = wE; obtain ⟨hbE, hgE⟩ := ret_row (bB (bB (bA (bA (bA (b0 w) _) _) _) hb1) hb2) (by omega) r2 hT; have zE := (rcell hgE).1; clear hT; refine bodyPost_ret (by simp [results, Tryz.results120, go_sem, zE]; try rfl) rfl ?_)
  exact ⟨rfl, hbE⟩
end Go.Proofs.YtmpfbkeamihjbaaGreat

namespace Go.Proofs.YtmpfbkeamihjbaaGreat
open Go.RowKit

theorem wrap64_i64 (x : Int) : IntKind.i64.wrap x = wrap64 x := by rw [IntKind.wrap_i64]; simp only [wrap64]

theorem size_nn (x : Int) (h : Rng x) (h0 : 0 ≤ x) (w : World) :
    Calls Tryz.prog 165 #[.agg #[.int .i64 (hi x), .int .u64 (lo x)]] w fun e w' => e = .returned (.tuple #[.int .u64 (hi x), .int .u64 (lo x)]) ∧ Below w.heap.size w w' := by
  have h1 : 0 ≤ hi x := by unfold hi; omega
  obtain ⟨h2, h3⟩ := hi_of x h
  go_enter Tryz.func165, Tryz.ntmps165
  go_wp2
  have q0 := na w #[.int .i64 (hi x), .int .u64 (lo x)] 160
  refine Abs.wp_region_abs (Abs.cls0 _) [0, 1, 2, 3, 4, 5, 6] (by kernel_rfl) (by kernel_rfl) (Below.refl _ _).drew ?_
  repeat (first | (refine Abs.step_pure rfl rfl (fun K hK => ?_); go_simp; (try go_bits); (first | refine hK _ _ ?_ | (simp only [↓IntWalk.iteOmega]; go_simp; (try go_bits); refine hK _ _ ?_)); clear hK K) | (refine Abs.step_load (v := ?_) rfl rfl (by kernel_rfl) rfl (fun w0 hI => ?_) (fun K hK => ?_); rotate_left; (· have z0 := (rcell (kp hI q0)).1; go_simp; rfl); (simp only [Act.put, List.setIfInBounds_toArray, List.set_cons_zero, List.set_cons_succ]; refine hK _ _ ?_; clear hK K)) | (refine Abs.step_skip rfl rfl (fun K hK => ?_); (simp only [Act.put, List.setIfInBounds_toArray, List.set_cons_zero, List.set_cons_succ]; refine hK _ _ ?_; clear hK K)))
  (intro w0 hI hx0 hx1 hx2; clear hx0 hx1 hx2; simp only [Abs.T_setF, Abs.T_addA, Abs.T_push, Abs.T_start])
  go_wp2
  go_ret2
  exact ⟨rfl, bB (bA (b0 w) _) hI⟩

theorem size_neg (x : Int) (h : Rng x) (h0 : x < 0) (w : World) :
    Calls Tryz.prog 165 #[.agg #[.int .i64 (hi x), .int .u64 (lo x)]] w fun e w' => e = .returned (.tuple #[.int .u64 (hi (-x)), .int .u64 (lo (-x))]) ∧ Below w.heap.size w w' := by
  have h1 : hi x < 0 := by unfold hi; omega
  obtain ⟨a1, a2⟩ := lo_lo x
  obtain ⟨h2, h3⟩ := hi_of x h
  have k1 := sub64_0 0 (lo x) (by decide) a1 a2
  obtain ⟨c0, c1⟩ := bor_lo 0 (lo x)
  have k2 := sub64 0 (IntKind.u64.wrap (hi x)) (bor 0 (lo x)) (by decide) (by rw [IntKind.wrap_u64]; omega) (by rw [IntKind.wrap_u64]; omega) c0 c1
  have e1 : (0 - lo x) % 18446744073709551616 = lo (-x) := by unfold lo; omega
  have e2 : (0 - IntKind.u64.wrap (hi x) - bor 0 (lo x)) % 18446744073709551616 = hi (-x) := by
    obtain ⟨r1, r2⟩ := h
    rw [IntKind.wrap_u64]
    unfold bor hi lo
    split <;> omega
  rw [e1] at k1
  rw [e2] at k2
  obtain ⟨c, hc⟩ : ∃ c, bor 0 (lo x) = c := ⟨_, rfl⟩
  obtain ⟨c', hc'⟩ : ∃ c', bor 0 (IntKind.u64.wrap (hi x) + bor 0 (lo x)) = c' := ⟨_, rfl⟩
  rw [hc', hc] at k2
  rw [hc] at k1
  clear e1 e2 hc hc' c0 c1
  go_enter Tryz.func165, Tryz.ntmps165
  go_wp2
  go_ret2
  exact ⟨rfl, bA (b0 w) _⟩

theorem signed_f (m : Int) (h0 : 0 ≤ m) (h1 : m < 170141183460469231731687303715884105728) (w : World) :
    Calls Tryz.prog 166 #[.bool false, .int .u64 (hi m), .int .u64 (lo m)] w fun e w' => e = .returned (.tuple #[.agg #[.int .i64 (hi m), .int .u64 (lo m)], .bool true]) ∧ Below w.heap.size w w' := by
  have k0 : 0 ≤ hi m := by unfold hi; omega
  have k1 : hi m < 9223372036854775808 := by unfold hi; omega
  go_enter Tryz.func166, Tryz.ntmps166
  go_wp2
  refine bodyPost_ret (by simp [results, Tryz.results166, go_sem]; try rfl) rfl ⟨?_, bA (b0 w) _⟩
  simp [k1]

set_option maxRecDepth 100000 in
set_option maxHeartbeats 1000000 in
theorem signed_t (m : Int) (h0 : 0 ≤ m) (h1 : m ≤ 170141183460469231731687303715884105728) (w : World) :
    Calls Tryz.prog 166 #[.bool true, .int .u64 (hi m), .int .u64 (lo m)] w fun e w' => e = .returned (.tuple #[.agg #[.int .i64 (hi (-m)), .int .u64 (lo (-m))], .bool true]) ∧ Below w.heap.size w w' := by
  have k0 : 0 ≤ hi m := by unfold hi; omega
  have k1 : hi m < 9223372036854775808 ∨ hi m = 9223372036854775808 ∧ lo m = 0 := by unfold hi lo; omega
  have e1 : IntKind.i64.wrap (hi m) = hi (W128 m) := by rw [IntKind.wrap_i64]; unfold W128 hi; omega
  have e2 : lo m = lo (W128 m) := by unfold W128 lo; omega
  have e3 : W128 (0 - W128 m) = -m := by unfold W128; omega
  have d := wide_difference 0 (W128 m) ⟨by decide, by decide⟩ (W128_rng m)
  rw [e3, ← e2, ← e1, show hi 0 = 0 from rfl, show lo 0 = 0 from rfl] at d
  clear e1 e2 e3
  rcases k1 with k1 | ⟨k1, k2⟩
  · have kw : IntKind.i64.wrap (hi m) = hi m := by rw [IntKind.wrap_i64]; omega
    rw [kw] at d
    clear kw
    go_enter Tryz.func166, Tryz.ntmps166
    go_wp2_with (go_at_call 168; refine (d _).mono ?_; rintro e w1 ⟨⟨f, rfl⟩, hb1⟩; have r1 := kp hb1 (na w #[.int .i64 0, .int .u64 0] 160); obtain ⟨z1, z2, z3⟩ := rcell r1)
    (rw [row2 r1]; generalize hT : setRow _ _ _ = wE; obtain ⟨hbE, hgE⟩ := ret_row (bB (bA (b0 w) _) hb1) (by omega) r1 hT; have zE := (rcell hgE).1; have zL := (rcell hgE).2.2; clear hT; refine bodyPost_ret (by simp [results, Tryz.results166, go_sem, zE, zL]; try rfl) rfl ?_)
    exact ⟨by simp [k1], bA hbE _⟩
  · have kb : 9223372036854775808 ≤ hi m := by omega
    have kb2 : (hi m == 9223372036854775808) = true := by rw [k1]; rfl
    have kb3 : (lo m == 0) = true := by rw [k2]; rfl
    clear k1 k2 h0 h1
    rw [wrap64_i64] at d
    go_enter Tryz.func166, Tryz.ntmps166
    go_wp2_with (go_at_call 168; refine (d _).mono ?_; rintro e w1 ⟨⟨f, rfl⟩, hb1⟩; have r1 := kp hb1 (na w #[.int .i64 0, .int .u64 0] 160); obtain ⟨z1, z2, z3⟩ := rcell r1)
    (rw [row2 r1]; generalize hT : setRow _ _ _ = wE; obtain ⟨hbE, hgE⟩ := ret_row (bB (bA (b0 w) _) hb1) (by omega) r1 hT; have zE := (rcell hgE).1; have zL := (rcell hgE).2.2; clear hT; refine bodyPost_ret (by simp [results, Tryz.results166, go_sem, zE, zL]; try rfl) rfl ?_)
    exact ⟨by simp [kb2, kb3], bA hbE _⟩
end Go.Proofs.YtmpfbkeamihjbaaGreat

namespace Go.Proofs.YtmpfbkeamihjbaaGreat
open Go.RowKit

theorem parts_math (h l m q r q0 s : Int) (_hm : 0 < m) (hl : 0 ≤ l) (hl' : l < 18446744073709551616) (e1 : h = q * m + r) (r0 : 0 ≤ r) (r1 : r < m) (e2 : r * 18446744073709551616 + l = q0 * m + s) (s0 : 0 ≤ s) (s1 : s < m) (q00 : 0 ≤ q0) :
    hi ((h * 18446744073709551616 + l) / m) = q ∧ lo ((h * 18446744073709551616 + l) / m) = q0 ∧ (h * 18446744073709551616 + l) % m = s := by
  have key : h * 18446744073709551616 + l = (q * 18446744073709551616 + q0) * m + s := by
    rw [e1, Int.add_mul, Int.add_mul, Int.mul_right_comm]
    omega
  obtain ⟨g1, g2⟩ := Knuth.quo s0 s1 key
  have hq0 : q0 < 18446744073709551616 := by
    have h1 : q0 * m < 18446744073709551616 * m := by omega
    exact Int.lt_of_mul_lt_mul_right h1 (by omega)
  rw [g1]
  obtain ⟨g3, g4⟩ := hi_eq (x := q * 18446744073709551616 + q0) rfl q00 hq0
  exact ⟨g3.symm, g4.symm, g2⟩

set_option maxHeartbeats 1000000 in
theorem wide_parts (n m : Int) (h0 : 0 ≤ n) (h1 : n < 340282366920938463463374607431768211456) (hm : 0 < m) (hm' : m < 18446744073709551616) (w : World) :
    Calls Tryz.prog 167 #[.int .u64 (hi n), .int .u64 (lo n), .int .u64 m] w fun e w' => e = .returned (.tuple #[.int .u64 (hi (n / m)), .int .u64 (lo (n / m)), .int .u64 (n % m)]) ∧ Below w.heap.size w w' := by
  obtain ⟨l0, l1⟩ := lo_lo n
  have hn := hi_lo n
  have a0 : 0 ≤ hi n := by unfold hi; omega
  have a1 : hi n < 18446744073709551616 := by unfold hi; omega
  obtain ⟨r, hr⟩ : ∃ r, hi n % m = r := ⟨_, rfl⟩
  obtain ⟨q, hq⟩ : ∃ q, hi n / m = q := ⟨_, rfl⟩
  have r0 : 0 ≤ r := by rw [← hr]; exact Int.emod_nonneg _ (by omega)
  have r1 : r < m := by rw [← hr]; exact Int.emod_lt_of_pos _ hm
  have q0 : 0 ≤ q := by rw [← hq]; exact Int.ediv_nonneg a0 (by omega)
  have q1 : q < 18446744073709551616 := by
    have : q ≤ hi n := by rw [← hq]; exact Int.ediv_le_self _ a0
    omega
  have ht : (hi n).tmod m = r := by rw [← hr]; exact Int.tmod_eq_emod_of_nonneg a0
  have hd : (hi n).tdiv m = q := by rw [← hq]; exact Int.tdiv_eq_ediv_of_nonneg a0
  have e1 : hi n = q * m + r := by
    have := Int.mul_ediv_add_emod (hi n) m
    rw [hr, hq, Int.mul_comm] at this
    exact this.symm
  have s0 : 0 ≤ (r * 18446744073709551616 + lo n) % m := Int.emod_nonneg _ (by omega)
  have s1 : (r * 18446744073709551616 + lo n) % m < m := Int.emod_lt_of_pos _ hm
  have p0 : 0 ≤ (r * 18446744073709551616 + lo n) / m := Int.ediv_nonneg (by omega) (by omega)
  have e2 : r * 18446744073709551616 + lo n = (r * 18446744073709551616 + lo n) / m * m + (r * 18446744073709551616 + lo n) % m := by
    have := Int.mul_ediv_add_emod (r * 18446744073709551616 + lo n) m
    rw [Int.mul_comm] at this
    exact this.symm
  obtain ⟨g1, g2, g3⟩ := parts_math (hi n) (lo n) m q r _ _ hm l0 l1 e1 r0 r1 e2 s0 s1 p0
  rw [hn] at g1 g2 g3
  have d := div64 r (lo n) m r0 r1 l0 l1 hm'
  rw [← g2, ← g3] at d
  have G1 := hide g1
  clear g1 g2 g3 e1 e2 s0 s1 p0 hn
  have nz : ¬ m = 0 := by omega
  go_enter Tryz.func167, Tryz.ntmps167
  go_wp2_with (go_at_call 170; refine (d _).mono ?_; rintro e w1 ⟨rfl, hb1⟩)
  go_ret3
  rw [G1.out]
  exact ⟨rfl, hb1⟩

theorem wide_Int (x : Int) (h : Rng x) (w : World) :
    Calls Tryz.prog 153 #[.agg #[.int .i64 (hi x), .int .u64 (lo x)]] w fun e w' =>
      e = .returned (.tuple #[.int .i64 (if -9223372036854775808 ≤ x ∧ x < 9223372036854775808 then x else 0), .int .i64 (if -9223372036854775808 ≤ x ∧ x < 9223372036854775808 then 0 else 5)]) ∧ Below w.heap.size w w' := by
  obtain ⟨a1, a2⟩ := lo_lo x
  have v0 : -9223372036854775808 ≤ wrap64 (lo x) ∧ wrap64 (lo x) < 9223372036854775808 := by simp only [wrap64]; omega
  obtain ⟨v1, v2⟩ := v0
  have k1 : lo x = lo (wrap64 (lo x)) := by simp only [wrap64]; unfold lo; omega
  have k2 : (hi x = hi (wrap64 (lo x))) ↔ (-9223372036854775808 ≤ x ∧ x < 9223372036854775808) := by simp only [wrap64]; unfold hi lo; omega
  have K1 := eq_true k1
  by_cases hx : -9223372036854775808 ≤ x ∧ x < 9223372036854775808
  · have K2 := eq_true (k2.2 hx)
    have e : wrap64 (lo x) = x := by simp only [wrap64]; unfold lo; omega
    rw [if_pos hx, if_pos hx]
    have E := hide e
    clear k1 k2 e hx
    go_enter Tryz.func153, Tryz.ntmps153
    go_wp2
    have q0 := na w #[.int .i64 (hi x), .int .u64 (lo x)] 160
    refine Abs.wp_region_abs (Abs.cls0 _) [0, 1, 2, 3, 4, 5, 6, 7, 8, 9, 10, 11, 12, 13] (by kernel_rfl) (by kernel_rfl) (Below.refl _ _).drew ?_
    repeat (first | (refine Abs.step_pure rfl rfl (fun K hK => ?_); go_simp; (try go_bits); (first | refine hK _ _ ?_ | (simp only [↓IntWalk.iteOmega]; go_simp; (try go_bits); refine hK _ _ ?_)); clear hK K) | (refine Abs.step_load (v := ?_) rfl rfl (by kernel_rfl) rfl (fun w0 hI => ?_) (fun K hK => ?_); rotate_left; (· have z0 := (rcell (kp hI q0)).1; go_simp; rfl); (simp only [Act.put, List.setIfInBounds_toArray, List.set_cons_zero, List.set_cons_succ]; refine hK _ _ ?_; clear hK K)) | (refine Abs.step_skip rfl rfl (fun K hK => ?_); (simp only [Act.put, List.setIfInBounds_toArray, List.set_cons_zero, List.set_cons_succ]; refine hK _ _ ?_; clear hK K)))
    (refine Abs.step_call_val (f := ?_) (args := ?_) (v := ?_) rfl rfl rfl rfl (fun w0 => ?_) (fun w0 hI => ?_) (fun K hK => ?_); rotate_left 3; (· go_simp; (constructor <;> rfl)); (· exact wide_Of _ v1 v2 _); (simp only [Act.put, List.setIfInBounds_toArray, List.set_cons_zero, List.set_cons_succ]; refine hK _ _ ?_; clear hK K))
    repeat (first | (refine Abs.step_pure rfl rfl (fun K hK => ?_); go_simp; (try go_bits); (first | refine hK _ _ ?_ | (simp only [↓IntWalk.iteOmega]; go_simp; (try go_bits); refine hK _ _ ?_)); clear hK K) | (refine Abs.step_load (v := ?_) rfl rfl (by kernel_rfl) rfl (fun w0 hI => ?_) (fun K hK => ?_); rotate_left; (· have z0 := (rcell (kp hI q0)).1; go_simp; rfl); (simp only [Act.put, List.setIfInBounds_toArray, List.set_cons_zero, List.set_cons_succ]; refine hK _ _ ?_; clear hK K)) | (refine Abs.step_skip rfl rfl (fun K hK => ?_); (simp only [Act.put, List.setIfInBounds_toArray, List.set_cons_zero, List.set_cons_succ]; refine hK _ _ ?_; clear hK K)))
    (refine Abs.step_call_val (f := ?_) (args := ?_) (v := ?_) rfl rfl rfl rfl (fun w0 => ?_) (fun w0 hI => ?_) (fun K hK => ?_); rotate_left 3; (· go_simp; (constructor <;> rfl)); (· exact told_int _ _ _); (simp only [Act.put, List.setIfInBounds_toArray, List.set_cons_zero, List.set_cons_succ]; refine hK _ _ ?_; clear hK K))
    repeat (first | (refine Abs.step_pure rfl rfl (fun K hK => ?_); go_simp; (try go_bits); (first | refine hK _ _ ?_ | (simp only [↓IntWalk.iteOmega]; go_simp; (try go_bits); refine hK _ _ ?_)); clear hK K) | (refine Abs.step_load (v := ?_) rfl rfl (by kernel_rfl) rfl (fun w0 hI => ?_) (fun K hK => ?_); rotate_left; (· have z0 := (rcell (kp hI q0)).1; go_simp; rfl); (simp only [Act.put, List.setIfInBounds_toArray, List.set_cons_zero, List.set_cons_succ]; refine hK _ _ ?_; clear hK K)) | (refine Abs.step_skip rfl rfl (fun K hK => ?_); (simp only [Act.put, List.setIfInBounds_toArray, List.set_cons_zero, List.set_cons_succ]; refine hK _ _ ?_; clear hK K)))
    (intro w0 hI hx0 hx1 hx2; clear hx0 hx1 hx2; simp only [Abs.T_setF, Abs.T_addA, Abs.T_push, Abs.T_start])
    go_wp2
    go_ret2
    exact ⟨by simp [E.out], bB (bA (b0 w) _) hI⟩
  · have K2 := eq_false (fun h => hx (k2.1 h))
    rw [if_neg hx, if_neg hx]
    clear k1 k2 hx
    go_enter Tryz.func153, Tryz.ntmps153
    go_wp2
    have q0 := na w #[.int .i64 (hi x), .int .u64 (lo x)] 160
    refine Abs.wp_region_abs (Abs.cls0 _) [0, 1, 2, 3, 4, 5, 6, 7, 8, 9, 10, 11, 12, 13] (by kernel_rfl) (by kernel_rfl) (Below.refl _ _).drew ?_
    repeat (first | (refine Abs.step_pure rfl rfl (fun K hK => ?_); go_simp; (try go_bits); (first | refine hK _ _ ?_ | (simp only [↓IntWalk.iteOmega]; go_simp; (try go_bits); refine hK _ _ ?_)); clear hK K) | (refine Abs.step_load (v := ?_) rfl rfl (by kernel_rfl) rfl (fun w0 hI => ?_) (fun K hK => ?_); rotate_left; (· have z0 := (rcell (kp hI q0)).1; go_simp; rfl); (simp only [Act.put, List.setIfInBounds_toArray, List.set_cons_zero, List.set_cons_succ]; refine hK _ _ ?_; clear hK K)) | (refine Abs.step_skip rfl rfl (fun K hK => ?_); (simp only [Act.put, List.setIfInBounds_toArray, List.set_cons_zero, List.set_cons_succ]; refine hK _ _ ?_; clear hK K)))
    (refine Abs.step_call_val (f := ?_) (args := ?_) (v := ?_) rfl rfl rfl rfl (fun w0 => ?_) (fun w0 hI => ?_) (fun K hK => ?_); rotate_left 3; (· go_simp; (constructor <;> rfl)); (· exact wide_Of _ v1 v2 _); (simp only [Act.put, List.setIfInBounds_toArray, List.set_cons_zero, List.set_cons_succ]; refine hK _ _ ?_; clear hK K))
    repeat (first | (refine Abs.step_pure rfl rfl (fun K hK => ?_); go_simp; (try go_bits); (first | refine hK _ _ ?_ | (simp only [↓IntWalk.iteOmega]; go_simp; (try go_bits); refine hK _ _ ?_)); clear hK K) | (refine Abs.step_load (v := ?_) rfl rfl (by kernel_rfl) rfl (fun w0 hI => ?_) (fun K hK => ?_); rotate_left; (· have z0 := (rcell (kp hI q0)).1; go_simp; rfl); (simp only [Act.put, List.setIfInBounds_toArray, List.set_cons_zero, List.set_cons_succ]; refine hK _ _ ?_; clear hK K)) | (refine Abs.step_skip rfl rfl (fun K hK => ?_); (simp only [Act.put, List.setIfInBounds_toArray, List.set_cons_zero, List.set_cons_succ]; refine hK _ _ ?_; clear hK K)))
    (refine Abs.step_call_val (f := ?_) (args := ?_) (v := ?_) rfl rfl rfl rfl (fun w0 => ?_) (fun w0 hI => ?_) (fun K hK => ?_); rotate_left 3; (· go_simp; (constructor <;> rfl)); (· exact told_int _ _ _); (simp only [Act.put, List.setIfInBounds_toArray, List.set_cons_zero, List.set_cons_succ]; refine hK _ _ ?_; clear hK K))
    repeat (first | (refine Abs.step_pure rfl rfl (fun K hK => ?_); go_simp; (try go_bits); (first | refine hK _ _ ?_ | (simp only [↓IntWalk.iteOmega]; go_simp; (try go_bits); refine hK _ _ ?_)); clear hK K) | (refine Abs.step_load (v := ?_) rfl rfl (by kernel_rfl) rfl (fun w0 hI => ?_) (fun K hK => ?_); rotate_left; (· have z0 := (rcell (kp hI q0)).1; go_simp; rfl); (simp only [Act.put, List.setIfInBounds_toArray, List.set_cons_zero, List.set_cons_succ]; refine hK _ _ ?_; clear hK K)) | (refine Abs.step_skip rfl rfl (fun K hK => ?_); (simp only [Act.put, List.setIfInBounds_toArray, List.set_cons_zero, List.set_cons_succ]; refine hK _ _ ?_; clear hK K)))
    (intro w0 hI hx0 hx1 hx2; clear hx0 hx1 hx2; simp only [Abs.T_setF, Abs.T_addA, Abs.T_push, Abs.T_start])
    go_wp2
    go_ret2
    exact ⟨by simp, bB (bA (b0 w) _) hI⟩

theorem div_neg_math (x m : Int) (hm : 0 < m) : (0 < (-x) % m → x / m = -((-x) / m) - 1 ∧ x % m = m - (-x) % m) ∧ (¬ 0 < (-x) % m → x / m = -((-x) / m) ∧ x % m = 0) := by
  have h0 : 0 ≤ (-x) % m := Int.emod_nonneg _ (by omega)
  have h1 : (-x) % m < m := Int.emod_lt_of_pos _ hm
  have h2 : x = -((-x) / m * m) - (-x) % m := by
    have := Int.mul_ediv_add_emod (-x) m
    rw [Int.mul_comm] at this
    omega
  constructor
  · intro hp
    have key : x = (-((-x) / m) - 1) * m + (m - (-x) % m) := by
      rw [Int.sub_mul, Int.neg_mul, Int.one_mul]
      omega
    exact Knuth.quo (by omega) (by omega) key
  · intro hp
    have key : x = (-((-x) / m)) * m + 0 := by
      rw [Int.neg_mul]
      omega
    exact Knuth.quo (by omega) (by omega) key

set_option maxRecDepth 100000 in
set_option maxHeartbeats 1000000 in
theorem wide_Div (x m : Int) (h : Rng x) (hm : 1 ≤ m) (hm' : m < 9223372036854775808) (w : World) :
    Calls Tryz.prog 160 #[.agg #[.int .i64 (hi x), .int .u64 (lo x)], .int .i64 m] w fun e w' => e = .returned (.tuple #[.agg #[.int .i64 (hi (x / m)), .int .u64 (lo (x / m))], .int .i64 (x % m), .int .i64 0]) ∧ Below w.heap.size w w' := by
  obtain ⟨h1, h2⟩ := h
  obtain ⟨b1, b2⟩ := hi_of x ⟨h1, h2⟩
  have M0 : ¬ m < 1 := by omega
  by_cases hx : 0 ≤ x
  · have hh : 0 ≤ hi x := by unfold hi; omega
    have hq0 : 0 ≤ x / m := Int.ediv_nonneg hx (by omega)
    have hq1 : x / m ≤ x := Int.ediv_le_self _ hx
    have hr0 : 0 ≤ x % m := Int.emod_nonneg _ (by omega)
    have hr1 : x % m < m := Int.emod_lt_of_pos _ (by omega)
    have d1 := wide_parts x m hx (by omega) (by omega) (by omega)
    have d2 := signed_f (x / m) hq0 (by omega)
    go_enter Tryz.func160, Tryz.ntmps160
    go_wp2_with fail
    refine (size_nn x ⟨h1, h2⟩ hx _).mono ?_
    rintro e w1 ⟨rfl, hb1⟩
    have a1 := kp hb1 (ka (na w #[.int .i64 (hi x), .int .u64 (lo x)] 160) (.cells #[.int .i64 0, .int .u64 0] 160))
    have r1 := kp hb1 (na1 w (.cells #[.int .i64 (hi x), .int .u64 (lo x)] 160) #[.int .i64 0, .int .u64 0] 160)
    go_wp2_with fail
    refine (d1 _).mono ?_
    rintro e w2 ⟨rfl, hb2⟩
    have a2 := kp hb2 a1
    have r2 := kp hb2 r1
    obtain ⟨z1, -, z3⟩ := rcell a2
    have hd : decide (hi x < 0) = false := decide_eq_false (by omega)
    go_wp2_with fail
    refine (d2 _).mono ?_
    rintro e w3 ⟨rfl, hb3⟩
    have a3 := kp hb3 a2
    have r3 := kp hb3 r2
    obtain ⟨y1, y2, y3⟩ := rcell a3
    obtain ⟨x1, x2, x3⟩ := rcell r3
    go_wp2
    (rw [row2 r3]; generalize hT : setRow _ _ _ = wE; obtain ⟨hbE, hgE⟩ := ret_row (bB (bB (bB (bA (bA (b0 w) _) _) hb1) hb2) hb3) (by omega) r3 hT; have zE := (rcell hgE).1; have zL := (rcell hgE).2.2; clear hT; refine bodyPost_ret (by simp [results, Tryz.results160, go_sem, zE, zL]; try rfl) rfl ?_)
    exact ⟨rfl, bA hbE _⟩
  · have hh : hi x < 0 := by unfold hi; omega
    have hq0 : 0 ≤ (-x) / m := Int.ediv_nonneg (by omega) (by omega)
    have hq1 : (-x) / m ≤ -x := Int.ediv_le_self _ (by omega)
    have hq2 : (-x) / m ≤ -x - (-x) % m := by
      have e := Int.mul_ediv_add_emod (-x) m
      have : 1 * ((-x) / m) ≤ m * ((-x) / m) := Int.mul_le_mul_of_nonneg_right hm hq0
      omega
    have hr0 : 0 ≤ (-x) % m := Int.emod_nonneg _ (by omega)
    have hr1 : (-x) % m < m := Int.emod_lt_of_pos _ (by omega)
    obtain ⟨p1, p2⟩ := div_neg_math x m (by omega)
    have d1 := wide_parts (-x) m (by omega) (by omega) (by omega) (by omega)
    have d2 := signed_t ((-x) / m) hq0 (by omega)
    have d3 := wide_difference (-((-x) / m)) 1 ⟨by omega, by omega⟩ ⟨by decide, by decide⟩
    generalize (-x) / m = q at *
    generalize (-x) % m = r at *
    have go : ∀ w, Calls Tryz.prog 160 #[.agg #[.int .i64 (hi x), .int .u64 (lo x)], .int .i64 m] w fun e w' => e = .returned (.tuple #[.agg #[.int .i64 (hi (if 0 < r then -q - 1 else -q)), .int .u64 (lo (if 0 < r then -q - 1 else -q))], .int .i64 (if 0 < r then m - r else r), .int .i64 0]) ∧ Below w.heap.size w w' := by
      intro w
      clear p1 p2
      by_cases hr : 0 < r
      · rw [if_pos hr, if_pos hr]
        rw [W128_in ⟨by omega, by omega⟩] at d3
        go_enter Tryz.func160, Tryz.ntmps160
        go_wp2_with fail
        refine (size_neg x ⟨h1, h2⟩ (by omega) _).mono ?_
        rintro e w1 ⟨rfl, hb1⟩
        have a1 := kp hb1 (ka (na w #[.int .i64 (hi x), .int .u64 (lo x)] 160) (.cells #[.int .i64 0, .int .u64 0] 160))
        have r1 := kp hb1 (na1 w (.cells #[.int .i64 (hi x), .int .u64 (lo x)] 160) #[.int .i64 0, .int .u64 0] 160)
        go_wp2_with fail
        refine (d1 _).mono ?_
        rintro e w2 ⟨rfl, hb2⟩
        have a2 := kp hb2 a1
        have r2 := kp hb2 r1
        obtain ⟨z1, -, z3⟩ := rcell a2
        have hd : decide (hi x < 0) = true := decide_eq_true hh
        go_wp2_with fail
        refine (d2 _).mono ?_
        rintro e w3 ⟨rfl, hb3⟩
        have a3 := kp hb3 a2
        have r3 := kp hb3 r2
        obtain ⟨y1, y2, y3⟩ := rcell a3
        obtain ⟨x1, x2, x3⟩ := rcell r3
        go_wp2_with fail
        have n3 := na w3 #[.int .i64 (hi (-q)), .int .u64 (lo (-q))] 160
        have a4 := ka a3 (.cells #[.int .i64 (hi (-q)), .int .u64 (lo (-q))] 160)
        have r4 := ka r3 (.cells #[.int .i64 (hi (-q)), .int .u64 (lo (-q))] 160)
        have hne : w.heap.size + 1 ≠ w3.heap.size := by omega
        refine Abs.wp_region_abs (Abs.cls0 _) [0, 1, 2, 3, 4, 5, 6] (by kernel_rfl) (by kernel_rfl) (Below.refl _ _).drew ?_
        repeat (first | (refine Abs.step_pure rfl rfl (fun K hK => ?_); go_simp; (try go_bits); (first | refine hK _ _ ?_ | (simp only [↓IntWalk.iteOmega]; go_simp; (try go_bits); refine hK _ _ ?_)); clear hK K) | (refine Abs.step_load (v := ?_) rfl rfl (by kernel_rfl) rfl (fun w0 hI => ?_) (fun K hK => ?_); rotate_left; (· have z0 := (rcell (kp hI n3)).1; go_simp; rfl); (simp only [Act.put, List.setIfInBounds_toArray, List.set_cons_zero, List.set_cons_succ]; refine hK _ _ ?_; clear hK K)) | (refine Abs.step_skip rfl rfl (fun K hK => ?_); (simp only [Act.put, List.setIfInBounds_toArray, List.set_cons_zero, List.set_cons_succ]; refine hK _ _ ?_; clear hK K)))
        (refine Abs.step_call_val (f := ?_) (args := ?_) (v := ?_) rfl rfl rfl rfl (fun w0 => ?_) (fun w0 hI => ?_) (fun K hK => ?_); rotate_left 3; (· go_simp; (constructor <;> rfl)); (· exact wide_Of 1 (by decide) (by decide) _); (simp only [Act.put, List.setIfInBounds_toArray, List.set_cons_zero, List.set_cons_succ]; refine hK _ _ ?_; clear hK K))
        repeat (first | (refine Abs.step_pure rfl rfl (fun K hK => ?_); go_simp; (try go_bits); (first | refine hK _ _ ?_ | (simp only [↓IntWalk.iteOmega]; go_simp; (try go_bits); refine hK _ _ ?_)); clear hK K) | (refine Abs.step_load (v := ?_) rfl rfl (by kernel_rfl) rfl (fun w0 hI => ?_) (fun K hK => ?_); rotate_left; (· have z0 := (rcell (kp hI n3)).1; go_simp; rfl); (simp only [Act.put, List.setIfInBounds_toArray, List.set_cons_zero, List.set_cons_succ]; refine hK _ _ ?_; clear hK K)) | (refine Abs.step_skip rfl rfl (fun K hK => ?_); (simp only [Act.put, List.setIfInBounds_toArray, List.set_cons_zero, List.set_cons_succ]; refine hK _ _ ?_; clear hK K)))
        (refine Abs.step_call (f := ?_) (args := ?_) rfl rfl rfl rfl (fun v _ => ∃ f : Bool, v = .tuple #[.agg #[.int .i64 (hi (-q - 1)), .int .u64 (lo (-q - 1))], .bool f]) (fun _ _ _ h _ => h) (fun w0 => ?_) (fun w0 hI _ => ?_) (fun K hK v wv hv => ?_); rotate_left 2; (· go_simp; (constructor <;> rfl)); (· exact (d3 _).mono (by rintro e w' ⟨⟨f, rfl⟩, hb⟩; exact ⟨_, rfl, hb, f, rfl⟩)); (obtain ⟨f, rfl⟩ := hv; simp only [Act.put, List.setIfInBounds_toArray, List.set_cons_zero, List.set_cons_succ]; refine hK _ _ ?_; clear hK K))
        repeat (first | (refine Abs.step_pure rfl rfl (fun K hK => ?_); go_simp; (try go_bits); (first | refine hK _ _ ?_ | (simp only [↓IntWalk.iteOmega]; go_simp; (try go_bits); refine hK _ _ ?_)); clear hK K) | (refine Abs.step_load (v := ?_) rfl rfl (by kernel_rfl) rfl (fun w0 hI => ?_) (fun K hK => ?_); rotate_left; (· have z0 := (rcell (kp hI n3)).1; go_simp; rfl); (simp only [Act.put, List.setIfInBounds_toArray, List.set_cons_zero, List.set_cons_succ]; refine hK _ _ ?_; clear hK K)) | (refine Abs.step_skip rfl rfl (fun K hK => ?_); (simp only [Act.put, List.setIfInBounds_toArray, List.set_cons_zero, List.set_cons_succ]; refine hK _ _ ?_; clear hK K)))
        (refine Abs.step_store (T := ?_) rfl rfl rfl (fun w0 hI hF hU => ?_) (fun w0 hI hU hJ => ?_) (fun K hK => ?_); rotate_left; (· have hR := kp hI n3; have hg0 := (rcell hR).1; have hg1 := (rcell hR).2.1; simp only [Abs.T_setF, Abs.T_addA, Abs.T_push, Abs.T_start]; go_simp; exact row2 hR _ _); (· first | exact trivial | exact js hJ rfl _ | exact js hJ (Or.inl rfl) _ | exact js hJ (Or.inr rfl) _); (simp only [Act.put, List.setIfInBounds_toArray, List.set_cons_zero, List.set_cons_succ]; refine hK _ _ ?_; clear hK K))
        repeat (first | (refine Abs.step_pure rfl rfl (fun K hK => ?_); go_simp; (try go_bits); (first | refine hK _ _ ?_ | (simp only [↓IntWalk.iteOmega]; go_simp; (try go_bits); refine hK _ _ ?_)); clear hK K) | (refine Abs.step_load (v := ?_) rfl rfl (by kernel_rfl) rfl (fun w0 hI => ?_) (fun K hK => ?_); rotate_left; (· have z0 := (rcell (kp hI n3)).1; go_simp; rfl); (simp only [Act.put, List.setIfInBounds_toArray, List.set_cons_zero, List.set_cons_succ]; refine hK _ _ ?_; clear hK K)) | (refine Abs.step_skip rfl rfl (fun K hK => ?_); (simp only [Act.put, List.setIfInBounds_toArray, List.set_cons_zero, List.set_cons_succ]; refine hK _ _ ?_; clear hK K)))
        (intro w0 hI hF hx1 hx2; clear hx1 hx2 hF; simp only [Abs.T_push]; generalize hT : setRow w0 _ _ = w4; obtain ⟨hO, hN, hS, hG⟩ := fin_old hI n3 hT; clear hT hI w0)
        have r5 := ko hO r4 hne
        obtain ⟨v1, v2, v3⟩ := rcell hN
        obtain ⟨t1, t2, t3⟩ := rcell r5
        go_wp2
        (rw [row2 r5]; generalize hT : setRow _ _ _ = wE; obtain ⟨hbE, hgE⟩ := ret_row (bG (bA (bB (bB (bB (bA (bA (b0 w) _) _) hb1) hb2) hb3) _) hG (by omega)) (by omega) r5 hT; have zE := (rcell hgE).1; clear hT; refine bodyPost_ret (by simp [results, Tryz.results160, go_sem, zE]; try rfl) rfl ?_)
        exact ⟨rfl, hbE⟩
      · rw [if_neg hr, if_neg hr]
        go_enter Tryz.func160, Tryz.ntmps160
        go_wp2_with fail
        refine (size_neg x ⟨h1, h2⟩ (by omega) _).mono ?_
        rintro e w1 ⟨rfl, hb1⟩
        have a1 := kp hb1 (ka (na w #[.int .i64 (hi x), .int .u64 (lo x)] 160) (.cells #[.int .i64 0, .int .u64 0] 160))
        have r1 := kp hb1 (na1 w (.cells #[.int .i64 (hi x), .int .u64 (lo x)] 160) #[.int .i64 0, .int .u64 0] 160)
        go_wp2_with fail
        refine (d1 _).mono ?_
        rintro e w2 ⟨rfl, hb2⟩
        have a2 := kp hb2 a1
        have r2 := kp hb2 r1
        obtain ⟨z1, -, z3⟩ := rcell a2
        have hd : decide (hi x < 0) = true := decide_eq_true hh
        go_wp2_with fail
        refine (d2 _).mono ?_
        rintro e w3 ⟨rfl, hb3⟩
        have a3 := kp hb3 a2
        have r3 := kp hb3 r2
        obtain ⟨y1, y2, y3⟩ := rcell a3
        obtain ⟨x1, x2, x3⟩ := rcell r3
        go_wp2
        (rw [row2 r3]; generalize hT : setRow _ _ _ = wE; obtain ⟨hbE, hgE⟩ := ret_row (bB (bB (bB (bA (bA (b0 w) _) _) hb1) hb2) hb3) (by omega) r3 hT; have zE := (rcell hgE).1; have zL := (rcell hgE).2.2; clear hT; refine bodyPost_ret (by simp [results, Tryz.results160, go_sem, zE, zL]; try rfl) rfl ?_)
        exact ⟨rfl, bA hbE _⟩
    have := go w
    by_cases hr : 0 < r
    · obtain ⟨e1, e2⟩ := p1 hr
      rw [e1, e2]
      simpa [hr] using this
    · obtain ⟨e1, e2⟩ := p2 hr
      rw [e1, e2]
      have e3 : r = 0 := by omega
      simpa [e3] using this
end Go.Proofs.YtmpfbkeamihjbaaGreat

namespace Go.Proofs.YtmpfbkeamihjbaaGreat
open Go.RowKit

theorem mul_bound (a b : Int) (h1 : -9223372036854775808 ≤ a) (h2 : a < 9223372036854775808) (h3 : -9223372036854775808 ≤ b) (h4 : b < 9223372036854775808) : -85070591730234615865843651857942052864 ≤ a * b ∧ a * b ≤ 85070591730234615865843651857942052864 := by
  have k1 : (a + 9223372036854775808) * (b + 9223372036854775808) ≥ 0 := Int.mul_nonneg (by omega) (by omega)
  have k2 : (9223372036854775808 - a) * (9223372036854775808 - b) ≥ 0 := Int.mul_nonneg (by omega) (by omega)
  have k3 : (a + 9223372036854775808) * (9223372036854775808 - b) ≥ 0 := Int.mul_nonneg (by omega) (by omega)
  have k4 : (9223372036854775808 - a) * (b + 9223372036854775808) ≥ 0 := Int.mul_nonneg (by omega) (by omega)
  simp only [Int.add_mul, Int.mul_add, Int.sub_mul, Int.mul_sub] at k1 k2 k3 k4
  omega

theorem mul_math (a b : Int) (h1 : -9223372036854775808 ≤ a) (h2 : a < 9223372036854775808) (h3 : -9223372036854775808 ≤ b) (h4 : b < 9223372036854775808) :
    (0 ≤ a → 0 ≤ b → wrap64 (a * b / 18446744073709551616) = hi (a * b)) ∧
    (a < 0 → 0 ≤ b → wrap64 (IntKind.u64.wrap ((a + 18446744073709551616) * b / 18446744073709551616 - b)) = hi (a * b) ∧ (a + 18446744073709551616) * b % 18446744073709551616 = lo (a * b)) ∧
    (0 ≤ a → b < 0 → wrap64 (IntKind.u64.wrap (a * (b + 18446744073709551616) / 18446744073709551616 - a)) = hi (a * b) ∧ a * (b + 18446744073709551616) % 18446744073709551616 = lo (a * b)) ∧
    (a < 0 → b < 0 → wrap64 (IntKind.u64.wrap (IntKind.u64.wrap ((a + 18446744073709551616) * (b + 18446744073709551616) / 18446744073709551616 - (b + 18446744073709551616)) - (a + 18446744073709551616))) = hi (a * b) ∧ (a + 18446744073709551616) * (b + 18446744073709551616) % 18446744073709551616 = lo (a * b)) := by
  obtain ⟨k1, k2⟩ := mul_bound a b h1 h2 h3 h4
  simp only [Int.add_mul, Int.mul_add, IntKind.wrap_u64, wrap64]
  generalize a * b = p at *
  unfold hi lo
  refine ⟨fun _ _ => by omega, fun _ _ => ⟨by omega, by omega⟩, fun _ _ => ⟨by omega, by omega⟩, fun _ _ => ⟨by omega, by omega⟩⟩

set_option maxHeartbeats 1000000 in
theorem wide_Mul (a b : Int) (h1 : -9223372036854775808 ≤ a) (h2 : a < 9223372036854775808) (h3 : -9223372036854775808 ≤ b) (h4 : b < 9223372036854775808) (w : World) :
    Calls Tryz.prog 141 #[.int .i64 a, .int .i64 b] w fun e w' => e = .returned (.agg #[.int .i64 (hi (a * b)), .int .u64 (lo (a * b))]) ∧ Below w.heap.size w w' := by
  obtain ⟨m1, m2, m3, m4⟩ := mul_math a b h1 h2 h3 h4
  by_cases ha : 0 ≤ a <;> by_cases hb : 0 ≤ b
  · have d := mul64 a b ha (by omega) hb (by omega)
    have M := m1 ha hb
    clear m1 m2 m3 m4
    obtain ⟨H, hH⟩ : ∃ H, a * b / 18446744073709551616 = H := ⟨_, rfl⟩
    rw [hH] at d M
    rw [show a * b % 18446744073709551616 = lo (a * b) from rfl] at d
    clear hH
    go_enter Tryz.func141, Tryz.ntmps141
    go_wp2_with (go_at_call 154; refine (d _).mono ?_; rintro e w1 ⟨rfl, rfl⟩)
    refine bodyPost_ret (by simp [results, Tryz.results141, go_sem]; try rfl) rfl ⟨rfl, bA (b0 w) _⟩
  · have wb : IntKind.u64.wrap b = b + 18446744073709551616 := by rw [IntKind.wrap_u64]; omega
    have d := mul64 a (b + 18446744073709551616) ha (by omega) (by omega) (by omega)
    obtain ⟨M, M2⟩ := m3 ha (by omega)
    clear m1 m2 m3 m4
    obtain ⟨H, hH⟩ : ∃ H, a * (b + 18446744073709551616) / 18446744073709551616 = H := ⟨_, rfl⟩
    rw [hH] at d M
    rw [M2, ← wb] at d
    clear hH M2 wb
    go_enter Tryz.func141, Tryz.ntmps141
    go_wp2_with (go_at_call 154; refine (d _).mono ?_; rintro e w1 ⟨rfl, rfl⟩)
    refine bodyPost_ret (by simp [results, Tryz.results141, go_sem]; try rfl) rfl ⟨rfl, bA (b0 w) _⟩
  · have wa : IntKind.u64.wrap a = a + 18446744073709551616 := by rw [IntKind.wrap_u64]; omega
    have d := mul64 (a + 18446744073709551616) b (by omega) (by omega) hb (by omega)
    obtain ⟨M, M2⟩ := m2 (by omega) hb
    clear m1 m2 m3 m4
    obtain ⟨H, hH⟩ : ∃ H, (a + 18446744073709551616) * b / 18446744073709551616 = H := ⟨_, rfl⟩
    rw [hH] at d M
    rw [M2, ← wa] at d
    clear hH M2 wa
    go_enter Tryz.func141, Tryz.ntmps141
    go_wp2_with (go_at_call 154; refine (d _).mono ?_; rintro e w1 ⟨rfl, rfl⟩)
    refine bodyPost_ret (by simp [results, Tryz.results141, go_sem]; try rfl) rfl ⟨rfl, bA (b0 w) _⟩
  · have wa : IntKind.u64.wrap a = a + 18446744073709551616 := by rw [IntKind.wrap_u64]; omega
    have wb : IntKind.u64.wrap b = b + 18446744073709551616 := by rw [IntKind.wrap_u64]; omega
    have d := mul64 (a + 18446744073709551616) (b + 18446744073709551616) (by omega) (by omega) (by omega) (by omega)
    obtain ⟨M, M2⟩ := m4 (by omega) (by omega)
    clear m1 m2 m3 m4
    obtain ⟨H, hH⟩ : ∃ H, (a + 18446744073709551616) * (b + 18446744073709551616) / 18446744073709551616 = H := ⟨_, rfl⟩
    rw [hH] at d M
    rw [← wa, ← wb] at M
    rw [M2, ← wa, ← wb] at d
    clear hH M2 wa wb
    go_enter Tryz.func141, Tryz.ntmps141
    go_wp2_with (go_at_call 154; refine (d _).mono ?_; rintro e w1 ⟨rfl, rfl⟩)
    refine bodyPost_ret (by simp [results, Tryz.results141, go_sem]; try rfl) rfl ⟨rfl, bA (b0 w) _⟩
end Go.Proofs.YtmpfbkeamihjbaaGreat
