/- The package line at this program, on: Lowest, Compare, Within. -/
import Derived.Test.YtfdaabdibpcjeaaLine3
set_option linter.unusedSimpArgs false
set_option linter.unusedVariables false
namespace Go.Proofs.Ytfdaabdibpcjeaa
open Go.RowKit

theorem line_Lowest_yes (N D : Int) (h : slB N D = true) (w : World) :
    Calls Try.prog 98 #[.agg #[.int .i64 N, .int .i64 D]] w fun e w' => e = .returned (.tuple #[.agg #[.int .i64 (lwN N D), .int .i64 (lwD N D)], .int .i64 0]) ∧ Below w.heap.size w w' := by
  obtain ⟨d1, d2, d3, d4⟩ := slB_spec h
  have c1 := line_slopeIs N D
  have c2 := line_lowest N D d1 (by omega) (by omega) (by omega)
  rw [h] at c1
  generalize lwN N D = n' at *
  generalize lwD N D = d' at *
  clear h d1 d2 d3 d4
  go_enter Try.func98, Try.ntmps98
  go_wp2_with (first | (go_at_call 48; refine (c1 _).mono ?_; rintro e w1 ⟨rfl, hb1⟩; have a1 := kp hb1 (ka (na w #[.int .i64 N, .int .i64 D] 52) (.cells #[.int .i64 0, .int .i64 0] 52)); have r1 := kp hb1 (na1 w (.cells #[.int .i64 N, .int .i64 D] 52) #[.int .i64 0, .int .i64 0] 52); obtain ⟨z1, z2, z3⟩ := rcell a1) | (go_at_call 50; refine (c2 _).mono ?_; rintro e w2 ⟨rfl, hb2⟩; have r2 := kp hb2 r1; obtain ⟨y1, y2, y3⟩ := rcell r2))
  (rw [row2 r2]; generalize hT : setRow _ _ _ = wE; obtain ⟨hbE, hgE⟩ := ret_row (bB (bB (bA (bA (b0 w) _) _) hb1) hb2) (by omega) r2 hT; have zE := (rcell hgE).1; clear hT; refine bodyPost_ret (by simp [results, Try.results98, go_sem, zE]; try rfl) rfl ?_)
  exact ⟨rfl, hbE⟩

theorem line_Lowest_no (N D : Int) (h : slB N D = false) (w : World) :
    Calls Try.prog 98 #[.agg #[.int .i64 N, .int .i64 D]] w fun e w' => e = .returned (.tuple #[.agg #[.int .i64 0, .int .i64 0], .int .i64 151]) ∧ Below w.heap.size w w' := by
  have c1 := line_slopeIs N D
  rw [h] at c1
  clear h
  go_enter Try.func98, Try.ntmps98
  go_wp2_with (go_at_call 48; refine (c1 _).mono ?_; rintro e w1 ⟨rfl, hb1⟩; have r1 := kp hb1 (na1 w (.cells #[.int .i64 N, .int .i64 D] 52) #[.int .i64 0, .int .i64 0] 52); obtain ⟨z1, z2, z3⟩ := rcell r1)
  (rw [row2 r1]; generalize hT : setRow _ _ _ = wE; obtain ⟨hbE, hgE⟩ := ret_row (bB (bA (bA (b0 w) _) _) hb1) (by omega) r1 hT; have zE := (rcell hgE).1; clear hT; refine bodyPost_ret (by simp [results, Try.results98, go_sem, zE]; try rfl) rfl ?_)
  exact ⟨rfl, hbE⟩

theorem sl_mul {N D N' D' : Int} (h : slB N D = true) (h' : slB N' D' = true) : Rng (N * D') := by
  obtain ⟨_, _, d3, d4⟩ := slB_spec h
  obtain ⟨e1, e2, _, _⟩ := slB_spec h'
  obtain ⟨k1, k2⟩ := mul_bound N D' (by omega) (by omega) (by omega) (by omega)
  exact ⟨by omega, by omega⟩

set_option maxRecDepth 100000 in
set_option maxHeartbeats 1000000 in
theorem line_Compare_yes (N D N' D' : Int) (h : slB N D = true) (h' : slB N' D' = true) (w : World) :
    Calls Try.prog 27 #[.agg #[.int .i64 N, .int .i64 D], .agg #[.int .i64 N', .int .i64 D']] w fun e w' => e = .returned (.tuple #[.int .i64 (cmpI (N * D') (N' * D)), .bool true]) ∧ Below w.heap.size w w' := by
  obtain ⟨d1, d2, d3, d4⟩ := slB_spec h
  obtain ⟨e1, e2, e3, e4⟩ := slB_spec h'
  have c1 := line_slopeIs N D
  have c2 := line_slopeIs N' D'
  rw [h] at c1
  rw [h'] at c2
  have c3 := wide_Mul N D' (by omega) (by omega) (by omega) (by omega)
  have c4 := wide_Mul N' D (by omega) (by omega) (by omega) (by omega)
  have c5 := wide_Compare (N * D') (N' * D) (sl_mul h h') (sl_mul h' h)
  clear h h' d1 d2 d3 d4 e1 e2 e3 e4
  go_enter Try.func27, Try.ntmps27
  go_wp2_with fail
  refine (c1 _).mono ?_
  rintro e w1 ⟨rfl, hb1⟩
  have a1 := kp hb1 (ka (na w #[.int .i64 N, .int .i64 D] 52) (.cells #[.int .i64 N', .int .i64 D'] 52))
  have b1 := kp hb1 (na1 w (.cells #[.int .i64 N, .int .i64 D] 52) #[.int .i64 N', .int .i64 D'] 52)
  obtain ⟨z1, -, z3⟩ := rcell b1
  go_wp2_with fail
  refine (c2 _).mono ?_
  rintro e w2 ⟨rfl, hb2⟩
  have a2 := kp hb2 a1
  have b2 := kp hb2 b1
  go_wp2_with fail
  refine Abs.wp_region_abs (Abs.cls0 _) [0, 1, 2, 3, 4, 5, 6, 7, 8, 9, 10, 11, 12] (by kernel_rfl) (by kernel_rfl) (Below.refl _ _).drew ?_
  repeat (first | (refine Abs.step_pure rfl rfl (fun K hK => ?_); go_simp; (try go_bits); (first | refine hK _ _ ?_ | (simp only [↓IntWalk.iteOmega]; go_simp; (try go_bits); refine hK _ _ ?_)); clear hK K) | (refine Abs.step_load (v := ?_) rfl rfl (by kernel_rfl) rfl (fun w0 hI => ?_) (fun K hK => ?_); rotate_left; (· have z0 := (rcell (kp hI a2)).1; have z1 := (rcell (kp hI b2)).1; go_simp; rfl); (simp only [Act.put, List.setIfInBounds_toArray, List.set_cons_zero, List.set_cons_succ]; refine hK _ _ ?_; clear hK K)) | (refine Abs.step_skip rfl rfl (fun K hK => ?_); (simp only [Act.put, List.setIfInBounds_toArray, List.set_cons_zero, List.set_cons_succ]; refine hK _ _ ?_; clear hK K)))
  (refine Abs.step_call_val (f := ?_) (args := ?_) (v := ?_) rfl rfl rfl rfl (fun w0 => ?_) (fun w0 hI => ?_) (fun K hK => ?_); rotate_left 3; (· go_simp; (constructor <;> rfl)); (· exact c3 _); (simp only [Act.put, List.setIfInBounds_toArray, List.set_cons_zero, List.set_cons_succ]; refine hK _ _ ?_; clear hK K))
  repeat (first | (refine Abs.step_pure rfl rfl (fun K hK => ?_); go_simp; (try go_bits); (first | refine hK _ _ ?_ | (simp only [↓IntWalk.iteOmega]; go_simp; (try go_bits); refine hK _ _ ?_)); clear hK K) | (refine Abs.step_load (v := ?_) rfl rfl (by kernel_rfl) rfl (fun w0 hI => ?_) (fun K hK => ?_); rotate_left; (· have z0 := (rcell (kp hI a2)).1; have z1 := (rcell (kp hI b2)).1; go_simp; rfl); (simp only [Act.put, List.setIfInBounds_toArray, List.set_cons_zero, List.set_cons_succ]; refine hK _ _ ?_; clear hK K)) | (refine Abs.step_skip rfl rfl (fun K hK => ?_); (simp only [Act.put, List.setIfInBounds_toArray, List.set_cons_zero, List.set_cons_succ]; refine hK _ _ ?_; clear hK K)))
  (refine Abs.step_call_val (f := ?_) (args := ?_) (v := ?_) rfl rfl rfl rfl (fun w0 => ?_) (fun w0 hI => ?_) (fun K hK => ?_); rotate_left 3; (· go_simp; (constructor <;> rfl)); (· exact c4 _); (simp only [Act.put, List.setIfInBounds_toArray, List.set_cons_zero, List.set_cons_succ]; refine hK _ _ ?_; clear hK K))
  repeat (first | (refine Abs.step_pure rfl rfl (fun K hK => ?_); go_simp; (try go_bits); (first | refine hK _ _ ?_ | (simp only [↓IntWalk.iteOmega]; go_simp; (try go_bits); refine hK _ _ ?_)); clear hK K) | (refine Abs.step_load (v := ?_) rfl rfl (by kernel_rfl) rfl (fun w0 hI => ?_) (fun K hK => ?_); rotate_left; (· have z0 := (rcell (kp hI a2)).1; have z1 := (rcell (kp hI b2)).1; go_simp; rfl); (simp only [Act.put, List.setIfInBounds_toArray, List.set_cons_zero, List.set_cons_succ]; refine hK _ _ ?_; clear hK K)) | (refine Abs.step_skip rfl rfl (fun K hK => ?_); (simp only [Act.put, List.setIfInBounds_toArray, List.set_cons_zero, List.set_cons_succ]; refine hK _ _ ?_; clear hK K)))
  (refine Abs.step_call_val (f := ?_) (args := ?_) (v := ?_) rfl rfl rfl rfl (fun w0 => ?_) (fun w0 hI => ?_) (fun K hK => ?_); rotate_left 3; (· go_simp; (constructor <;> rfl)); (· exact c5 _); (simp only [Act.put, List.setIfInBounds_toArray, List.set_cons_zero, List.set_cons_succ]; refine hK _ _ ?_; clear hK K))
  repeat (first | (refine Abs.step_pure rfl rfl (fun K hK => ?_); go_simp; (try go_bits); (first | refine hK _ _ ?_ | (simp only [↓IntWalk.iteOmega]; go_simp; (try go_bits); refine hK _ _ ?_)); clear hK K) | (refine Abs.step_load (v := ?_) rfl rfl (by kernel_rfl) rfl (fun w0 hI => ?_) (fun K hK => ?_); rotate_left; (· have z0 := (rcell (kp hI a2)).1; have z1 := (rcell (kp hI b2)).1; go_simp; rfl); (simp only [Act.put, List.setIfInBounds_toArray, List.set_cons_zero, List.set_cons_succ]; refine hK _ _ ?_; clear hK K)) | (refine Abs.step_skip rfl rfl (fun K hK => ?_); (simp only [Act.put, List.setIfInBounds_toArray, List.set_cons_zero, List.set_cons_succ]; refine hK _ _ ?_; clear hK K)))
  (intro w0 hI hx0 hx1 hx2; clear hx0 hx1 hx2; simp only [Abs.T_setF, Abs.T_addA, Abs.T_push, Abs.T_start])
  go_wp2
  go_ret2
  exact ⟨rfl, bB (bB (bB (bA (bA (b0 w) _) _) hb1) hb2) hI⟩

theorem line_Compare_no (N D N' D' : Int) (h : ¬ (slB N D = true ∧ slB N' D' = true)) (w : World) :
    Calls Try.prog 27 #[.agg #[.int .i64 N, .int .i64 D], .agg #[.int .i64 N', .int .i64 D']] w fun e w' => e = .returned (.tuple #[.int .i64 0, .bool false]) ∧ Below w.heap.size w w' := by
  have c1 := line_slopeIs N D
  have c2 := line_slopeIs N' D'
  by_cases h1 : slB N D = true
  · have h2 : slB N' D' = false := by cases h2 : slB N' D' <;> simp_all
    rw [h1] at c1
    rw [h2] at c2
    clear h h1 h2
    go_enter Try.func27, Try.ntmps27
    go_wp2_with fail
    refine (c1 _).mono ?_
    rintro e w1 ⟨rfl, hb1⟩
    have b1 := kp hb1 (na1 w (.cells #[.int .i64 N, .int .i64 D] 52) #[.int .i64 N', .int .i64 D'] 52)
    obtain ⟨z1, -, z3⟩ := rcell b1
    go_wp2_with fail
    refine (c2 _).mono ?_
    rintro e w2 ⟨rfl, hb2⟩
    go_wp2
    go_ret2
    exact ⟨rfl, bB (bB (bA (bA (b0 w) _) _) hb1) hb2⟩
  · have h1' : slB N D = false := by simpa using h1
    rw [h1'] at c1
    clear h h1 h1'
    go_enter Try.func27, Try.ntmps27
    go_wp2_with fail
    refine (c1 _).mono ?_
    rintro e w1 ⟨rfl, hb1⟩
    go_wp2
    go_ret2
    exact ⟨rfl, bB (bA (bA (b0 w) _) _) hb1⟩

def winB (A R N D dt l h : Int) : Bool := decide (isB A R N D = true ∧ tmB dt = true ∧ l ≤ lnQ A R N D dt ∧ (lnQ A R N D dt < h ∨ lnQ A R N D dt = h ∧ (N * dt + R) % D = 0))

theorem line_Within_no (A R N D dt l h : Int) (hn : ¬ (isB A R N D = true ∧ tmB dt = true)) (w : World) :
    Calls Try.prog 36 #[.agg #[.int .i64 A, .int .i64 R, .int .i64 N, .int .i64 D], .int .i64 dt, .int .i64 l, .int .i64 h] w fun e w' => e = .returned (.bool false) ∧ Below w.heap.size w w' := by
  have c1 := line_is A R N D
  have c2 := line_timeIs dt
  by_cases h1 : isB A R N D = true
  · have h2 : tmB dt = false := by cases h2 : tmB dt <;> simp_all
    rw [h1] at c1
    rw [h2] at c2
    clear hn h1 h2
    go_enter Try.func36, Try.ntmps36
    go_wp2_with (first | (go_at_call 58; refine (c1 _).mono ?_; rintro e w1 ⟨rfl, hb1⟩) | (go_at_call 59; refine (c2 _).mono ?_; rintro e w2 ⟨rfl, rfl⟩))
    go_ret
    exact ⟨rfl, bB (bA (bA (b0 w) _) _) hb1⟩
  · have h1' : isB A R N D = false := by simpa using h1
    rw [h1'] at c1
    clear hn h1 h1'
    go_enter Try.func36, Try.ntmps36
    go_wp2_with (go_at_call 58; refine (c1 _).mono ?_; rintro e w1 ⟨rfl, hb1⟩)
    go_ret
    exact ⟨rfl, bB (bA (bA (b0 w) _) _) hb1⟩

theorem within_ok6 : ((Try.f36.body.bind (Abs.findR 6)).map fun o => Abs.okB o [0, 1, 2, 3, 4, 5, 6, 7, 8, 9, 10, 11, 12, 13, 14, 15, 16, 17]) = some true := by kernel_rfl

set_option maxRecDepth 100000 in
set_option maxHeartbeats 2000000 in
theorem line_Within_yes (A R N D dt l h Q rr c d : Int) (b : Bool) (c1 : ∀ w, Calls Try.prog 58 #[.agg #[.int .i64 A, .int .i64 R, .int .i64 N, .int .i64 D]] w fun e w' => e = .returned (.bool true) ∧ Below w.heap.size w w')
    (c2 : ∀ w, Calls Try.prog 59 #[.int .i64 dt] w fun e w' => e = .returned (.bool true) ∧ w = w')
    (c3 : ∀ w, Calls Try.prog 64 #[.agg #[.int .i64 A, .int .i64 R, .int .i64 N, .int .i64 D], .int .i64 dt] w fun e w' => e = .returned (.tuple #[.agg #[.int .i64 (hi Q), .int .u64 (lo Q)], .int .i64 rr]) ∧ Below w.heap.size w w')
    (c4 : ∀ w, Calls Try.prog 65 #[.int .i64 h] w fun e w' => e = .returned (.agg #[.int .i64 (hi h), .int .u64 (lo h)]) ∧ Below w.heap.size w w')
    (c5 : ∀ w, Calls Try.prog 65 #[.int .i64 l] w fun e w' => e = .returned (.agg #[.int .i64 (hi l), .int .u64 (lo l)]) ∧ Below w.heap.size w w')
    (c6 : ∀ w, Calls Try.prog 51 #[.agg #[.int .i64 (hi Q), .int .u64 (lo Q)], .agg #[.int .i64 (hi h), .int .u64 (lo h)]] w fun e w' => e = .returned (.int .i64 c) ∧ Below w.heap.size w w')
    (c7 : ∀ w, Calls Try.prog 51 #[.agg #[.int .i64 (hi Q), .int .u64 (lo Q)], .agg #[.int .i64 (hi l), .int .u64 (lo l)]] w fun e w' => e = .returned (.int .i64 d) ∧ Below w.heap.size w w')
    (hd : decide (0 ≤ d) = false ∧ b = false ∨ decide (0 ≤ d) = true ∧ decide (c < 0) = true ∧ b = true ∨ decide (0 ≤ d) = true ∧ decide (c < 0) = false ∧ (c == 0) = false ∧ b = false ∨ decide (0 ≤ d) = true ∧ decide (c < 0) = false ∧ (c == 0) = true ∧ (rr == 0) = b) (w : World) :
    Calls Try.prog 36 #[.agg #[.int .i64 A, .int .i64 R, .int .i64 N, .int .i64 D], .int .i64 dt, .int .i64 l, .int .i64 h] w fun e w' => e = .returned (.bool b) ∧ Below w.heap.size w w' := by
  rcases hd with ⟨q1, rfl⟩ | ⟨q1, q2, rfl⟩ | ⟨q1, q2, q3, rfl⟩ | ⟨q1, q2, q3, q4⟩
  all_goals
    go_enter Try.func36, Try.ntmps36
    go_wp2_with (first | (go_at_call 58; refine (c1 _).mono ?_; rintro e w1 ⟨rfl, hb1⟩; have a1 := kp hb1 (na1 w (.cells #[.int .i64 A, .int .i64 R, .int .i64 N, .int .i64 D] 23) #[.int .i64 A, .int .i64 R, .int .i64 N, .int .i64 D] 102); have zz := (rcell a1).1) | (go_at_call 59; refine (c2 _).mono ?_; rintro e w2 ⟨rfl, rfl⟩) | (go_at_call 64; refine (c3 _).mono ?_; rintro e w3 ⟨rfl, hb3⟩; have g3 := na w3 #[.int .i64 (hi Q), .int .u64 (lo Q)] 90))
    refine Abs.wp_region_abs (Abs.cls0 _) [0, 1, 2, 3, 4] (by kernel_rfl) (by kernel_rfl) (Below.refl _ _).drew ?_
    repeat (first | (refine Abs.step_pure rfl rfl (fun K hK => ?_); go_simp; (try go_bits); (first | refine hK _ _ ?_ | (simp only [↓IntWalk.iteOmega]; go_simp; (try go_bits); refine hK _ _ ?_)); clear hK K) | (refine Abs.step_load (v := ?_) rfl rfl (by kernel_rfl) rfl (fun w0 hI => ?_) (fun K hK => ?_); rotate_left; (· have z0 := (rcell (kp hI g3)).1; go_simp; rfl); (simp only [Act.put, List.setIfInBounds_toArray, List.set_cons_zero, List.set_cons_succ]; refine hK _ _ ?_; clear hK K)) | (refine Abs.step_skip rfl rfl (fun K hK => ?_); (simp only [Act.put, List.setIfInBounds_toArray, List.set_cons_zero, List.set_cons_succ]; refine hK _ _ ?_; clear hK K)))
    (refine Abs.step_call_val (f := ?_) (args := ?_) (v := ?_) rfl rfl rfl rfl (fun w0 => ?_) (fun w0 hI => ?_) (fun K hK => ?_); rotate_left 3; (· go_simp; (constructor <;> rfl)); (· exact c4 _); (simp only [Act.put, List.setIfInBounds_toArray, List.set_cons_zero, List.set_cons_succ]; refine hK _ _ ?_; clear hK K))
    repeat (first | (refine Abs.step_pure rfl rfl (fun K hK => ?_); go_simp; (try go_bits); (first | refine hK _ _ ?_ | (simp only [↓IntWalk.iteOmega]; go_simp; (try go_bits); refine hK _ _ ?_)); clear hK K) | (refine Abs.step_load (v := ?_) rfl rfl (by kernel_rfl) rfl (fun w0 hI => ?_) (fun K hK => ?_); rotate_left; (· have z0 := (rcell (kp hI g3)).1; go_simp; rfl); (simp only [Act.put, List.setIfInBounds_toArray, List.set_cons_zero, List.set_cons_succ]; refine hK _ _ ?_; clear hK K)) | (refine Abs.step_skip rfl rfl (fun K hK => ?_); (simp only [Act.put, List.setIfInBounds_toArray, List.set_cons_zero, List.set_cons_succ]; refine hK _ _ ?_; clear hK K)))
    (refine Abs.step_call_val (f := ?_) (args := ?_) (v := ?_) rfl rfl rfl rfl (fun w0 => ?_) (fun w0 hI => ?_) (fun K hK => ?_); rotate_left 3; (· go_simp; (constructor <;> rfl)); (· exact c6 _); (simp only [Act.put, List.setIfInBounds_toArray, List.set_cons_zero, List.set_cons_succ]; refine hK _ _ ?_; clear hK K))
    repeat (first | (refine Abs.step_pure rfl rfl (fun K hK => ?_); go_simp; (try go_bits); (first | refine hK _ _ ?_ | (simp only [↓IntWalk.iteOmega]; go_simp; (try go_bits); refine hK _ _ ?_)); clear hK K) | (refine Abs.step_load (v := ?_) rfl rfl (by kernel_rfl) rfl (fun w0 hI => ?_) (fun K hK => ?_); rotate_left; (· have z0 := (rcell (kp hI g3)).1; go_simp; rfl); (simp only [Act.put, List.setIfInBounds_toArray, List.set_cons_zero, List.set_cons_succ]; refine hK _ _ ?_; clear hK K)) | (refine Abs.step_skip rfl rfl (fun K hK => ?_); (simp only [Act.put, List.setIfInBounds_toArray, List.set_cons_zero, List.set_cons_succ]; refine hK _ _ ?_; clear hK K)))
    (intro w4 hI4 hx0 hx1 hx2; clear hx0 hx1 hx2; simp only [Abs.T_setF, Abs.T_addA, Abs.T_push, Abs.T_start])
    have g4 := kp hI4 g3
    go_wp2
    refine Abs.wp_region_abs (Abs.cls0 _) [0, 1, 2, 3, 4, 5, 6, 7, 8, 9, 10, 11, 12, 13, 14, 15, 16, 17] (by kernel_rfl) (Abs.ok_of within_ok6 (by kernel_rfl)) (Below.refl _ _).drew ?_
    repeat (first | (refine Abs.step_pure rfl rfl (fun K hK => ?_); go_simp; (try go_bits); (first | refine hK _ _ ?_ | (simp only [↓IntWalk.iteOmega]; go_simp; (try go_bits); refine hK _ _ ?_)); clear hK K) | (refine Abs.step_load (v := ?_) rfl rfl (by kernel_rfl) rfl (fun w0 hI => ?_) (fun K hK => ?_); rotate_left; (· have z0 := (rcell (kp hI g4)).1; go_simp; rfl); (simp only [Act.put, List.setIfInBounds_toArray, List.set_cons_zero, List.set_cons_succ]; refine hK _ _ ?_; clear hK K)) | (refine Abs.step_skip rfl rfl (fun K hK => ?_); (simp only [Act.put, List.setIfInBounds_toArray, List.set_cons_zero, List.set_cons_succ]; refine hK _ _ ?_; clear hK K)))
    (refine Abs.step_call_val (f := ?_) (args := ?_) (v := ?_) rfl rfl rfl rfl (fun w0 => ?_) (fun w0 hI => ?_) (fun K hK => ?_); rotate_left 3; (· go_simp; (constructor <;> rfl)); (· exact c5 _); (simp only [Act.put, List.setIfInBounds_toArray, List.set_cons_zero, List.set_cons_succ]; refine hK _ _ ?_; clear hK K))
    repeat (first | (refine Abs.step_pure rfl rfl (fun K hK => ?_); go_simp; (try go_bits); (first | refine hK _ _ ?_ | (simp only [↓IntWalk.iteOmega]; go_simp; (try go_bits); refine hK _ _ ?_)); clear hK K) | (refine Abs.step_load (v := ?_) rfl rfl (by kernel_rfl) rfl (fun w0 hI => ?_) (fun K hK => ?_); rotate_left; (· have z0 := (rcell (kp hI g4)).1; go_simp; rfl); (simp only [Act.put, List.setIfInBounds_toArray, List.set_cons_zero, List.set_cons_succ]; refine hK _ _ ?_; clear hK K)) | (refine Abs.step_skip rfl rfl (fun K hK => ?_); (simp only [Act.put, List.setIfInBounds_toArray, List.set_cons_zero, List.set_cons_succ]; refine hK _ _ ?_; clear hK K)))
    (refine Abs.step_call_val (f := ?_) (args := ?_) (v := ?_) rfl rfl rfl rfl (fun w0 => ?_) (fun w0 hI => ?_) (fun K hK => ?_); rotate_left 3; (· go_simp; (constructor <;> rfl)); (· exact c7 _); (simp only [Act.put, List.setIfInBounds_toArray, List.set_cons_zero, List.set_cons_succ]; refine hK _ _ ?_; clear hK K))
    repeat (first | (refine Abs.step_pure rfl rfl (fun K hK => ?_); go_simp; (try go_bits); (first | refine hK _ _ ?_ | (simp only [↓IntWalk.iteOmega]; go_simp; (try go_bits); refine hK _ _ ?_)); clear hK K) | (refine Abs.step_load (v := ?_) rfl rfl (by kernel_rfl) rfl (fun w0 hI => ?_) (fun K hK => ?_); rotate_left; (· have z0 := (rcell (kp hI g4)).1; go_simp; rfl); (simp only [Act.put, List.setIfInBounds_toArray, List.set_cons_zero, List.set_cons_succ]; refine hK _ _ ?_; clear hK K)) | (refine Abs.step_skip rfl rfl (fun K hK => ?_); (simp only [Act.put, List.setIfInBounds_toArray, List.set_cons_zero, List.set_cons_succ]; refine hK _ _ ?_; clear hK K)))
    (intro w0 hI hx0 hx1 hx2; clear hx0 hx1 hx2; simp only [Abs.T_setF, Abs.T_addA, Abs.T_push, Abs.T_start])
    go_wp2
    go_ret
    exact ⟨by simp, bB (bB (bA (bB (bB (bA (bA (b0 w) _) _) hb1) hb3) _) hI4) hI⟩
end Go.Proofs.Ytfdaabdibpcjeaa
