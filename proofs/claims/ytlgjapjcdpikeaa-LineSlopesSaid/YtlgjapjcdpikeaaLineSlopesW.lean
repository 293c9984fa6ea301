/- LineSlopes (yearbooklaw05): its walk. -/
import Derived.Test.YtlgjapjcdpikeaaRef7
set_option linter.unusedSimpArgs false
set_option linter.unusedVariables false
namespace Go.Proofs.Ytlgjapjcdpikeaa
open Go.RowKit

set_option maxRecDepth 100000 in
set_option maxHeartbeats 2000000 in
theorem slopes_1 (N D N' D' : Int) (h : slB N D = false) (w : World) :
    Calls Try.prog 7 #[.agg #[.int .i64 N, .int .i64 D], .agg #[.int .i64 N', .int .i64 D']] w fun e w' => e = .returned (.bool true) ∧ Below w.heap.size w w' := by
  have c1 := line_Lowest_no N D h
  have c2 := line_Compare_no N D N' D' (fun hh => by rw [h] at hh; cases hh.1)
  have c3 := line_Nearest_no N D N' D' (fun hh => by rw [h] at hh; cases hh.1)
  have c4 := ref_Slope N D
  rw [h] at c4
  clear h
  go_enter Try.func7, Try.ntmps7
  go_wp2_with fail
  refine (wakes5 _).mono ?_
  rintro e w1 ⟨rfl, hb1⟩
  have f_a1 := kp hb1 (ka (na w #[.int .i64 N, .int .i64 D] 33) (.cells #[.int .i64 N', .int .i64 D'] 33))
  have f_b1 := kp hb1 (na1 w (.cells #[.int .i64 N, .int .i64 D] 33) #[.int .i64 N', .int .i64 D'] 33)
  have hB1 := bB (bA (bA (b0 w) (.cells #[.int .i64 N, .int .i64 D] 33)) (.cells #[.int .i64 N', .int .i64 D'] 33)) hb1
  obtain ⟨za_a, za_b, la1⟩ := rcell f_a1
  obtain ⟨zb_a, zb_b, lb1⟩ := rcell f_b1
  go_wp2_with fail
  refine (c1 _).mono ?_
  rintro e w2 ⟨rfl, hb2⟩
  have f_a2 := kp hb2 (f_a1)
  have f_b2 := kp hb2 (f_b1)
  have hB2 := bB hB1 hb2
  clear za_a za_b zb_a zb_b
  obtain ⟨za_a, za_b, la2⟩ := rcell f_a2
  obtain ⟨zb_a, zb_b, lb2⟩ := rcell f_b2
  go_wp2_with fail
  refine (c2 _).mono ?_
  rintro e w3 ⟨rfl, hb3⟩
  have f_a3 := kp hb3 (ka (f_a2) (.cells #[.int .i64 0, .int .i64 0] 33))
  have f_b3 := kp hb3 (ka (f_b2) (.cells #[.int .i64 0, .int .i64 0] 33))
  have f_x3 := kp hb3 (na w2 #[.int .i64 0, .int .i64 0] 33)
  have hB3 := bB (bA hB2 (.cells #[.int .i64 0, .int .i64 0] 33)) hb3
  clear za_a za_b zb_a zb_b
  obtain ⟨za_a, za_b, la3⟩ := rcell f_a3
  obtain ⟨zb_a, zb_b, lb3⟩ := rcell f_b3
  obtain ⟨zx_a, zx_b, lx3⟩ := rcell f_x3
  go_wp2_with fail
  refine (c3 _).mono ?_
  rintro e w4 ⟨rfl, hb4⟩
  have f_a4 := kp hb4 (f_a3)
  have f_b4 := kp hb4 (f_b3)
  have f_x4 := kp hb4 (f_x3)
  have hB4 := bB hB3 hb4
  clear za_a za_b zb_a zb_b zx_a zx_b
  obtain ⟨za_a, za_b, la4⟩ := rcell f_a4
  obtain ⟨zb_a, zb_b, lb4⟩ := rcell f_b4
  obtain ⟨zx_a, zx_b, lx4⟩ := rcell f_x4
  go_wp2_with fail
  refine (c4 _).mono ?_
  rintro e w5 ⟨rfl, hb5⟩
  have f_a5 := kp hb5 (ka (f_a4) (.cells #[.int .i64 0, .int .i64 0] 33))
  have f_b5 := kp hb5 (ka (f_b4) (.cells #[.int .i64 0, .int .i64 0] 33))
  have f_x5 := kp hb5 (ka (f_x4) (.cells #[.int .i64 0, .int .i64 0] 33))
  have f_c5 := kp hb5 (na w4 #[.int .i64 0, .int .i64 0] 33)
  have hB5 := bB (bA hB4 (.cells #[.int .i64 0, .int .i64 0] 33)) hb5
  clear za_a za_b zb_a zb_b zx_a zx_b
  obtain ⟨za_a, za_b, la5⟩ := rcell f_a5
  obtain ⟨zb_a, zb_b, lb5⟩ := rcell f_b5
  obtain ⟨zx_a, zx_b, lx5⟩ := rcell f_x5
  obtain ⟨zc_a, zc_b, lc5⟩ := rcell f_c5
  go_wp2
  go_ret
  exact ⟨by simp, hB5⟩

set_option maxRecDepth 100000 in
set_option maxHeartbeats 2000000 in
theorem slopes_2 (N D N' D' : Int) (h : slB N D = true) (h' : slB N' D' = false) (w : World) :
    Calls Try.prog 7 #[.agg #[.int .i64 N, .int .i64 D], .agg #[.int .i64 N', .int .i64 D']] w fun e w' => e = .returned (.bool true) ∧ Below w.heap.size w w' := by
  obtain ⟨d1, d2, d3, d4⟩ := slB_spec h
  have c1 := line_Lowest_yes N D h
  have c2 := line_Compare_no N D N' D' (fun hh => by rw [h'] at hh; cases hh.2)
  have c3 := line_Nearest_no N D N' D' (fun hh => by rw [h'] at hh; cases hh.2)
  have c4 := ref_Slope N D
  have c5 := ref_Lowest N D d1 (by omega) (by omega) (by omega)
  have c6 := ref_Slope N' D'
  rw [h] at c4
  rw [h'] at c6
  clear h h'
  generalize lwN N D = n at *
  generalize lwD N D = d at *
  go_enter Try.func7, Try.ntmps7
  go_wp2_with fail
  refine (wakes5 _).mono ?_
  rintro e w1 ⟨rfl, hb1⟩
  have f_a1 := kp hb1 (ka (na w #[.int .i64 N, .int .i64 D] 33) (.cells #[.int .i64 N', .int .i64 D'] 33))
  have f_b1 := kp hb1 (na1 w (.cells #[.int .i64 N, .int .i64 D] 33) #[.int .i64 N', .int .i64 D'] 33)
  have hB1 := bB (bA (bA (b0 w) (.cells #[.int .i64 N, .int .i64 D] 33)) (.cells #[.int .i64 N', .int .i64 D'] 33)) hb1
  obtain ⟨za_a, za_b, la1⟩ := rcell f_a1
  obtain ⟨zb_a, zb_b, lb1⟩ := rcell f_b1
  go_wp2_with fail
  refine (c1 _).mono ?_
  rintro e w2 ⟨rfl, hb2⟩
  have f_a2 := kp hb2 (f_a1)
  have f_b2 := kp hb2 (f_b1)
  have hB2 := bB hB1 hb2
  clear za_a za_b zb_a zb_b
  obtain ⟨za_a, za_b, la2⟩ := rcell f_a2
  obtain ⟨zb_a, zb_b, lb2⟩ := rcell f_b2
  go_wp2_with fail
  refine (c2 _).mono ?_
  rintro e w3 ⟨rfl, hb3⟩
  have f_a3 := kp hb3 (ka (f_a2) (.cells #[.int .i64 n, .int .i64 d] 33))
  have f_b3 := kp hb3 (ka (f_b2) (.cells #[.int .i64 n, .int .i64 d] 33))
  have f_x3 := kp hb3 (na w2 #[.int .i64 n, .int .i64 d] 33)
  have hB3 := bB (bA hB2 (.cells #[.int .i64 n, .int .i64 d] 33)) hb3
  clear za_a za_b zb_a zb_b
  obtain ⟨za_a, za_b, la3⟩ := rcell f_a3
  obtain ⟨zb_a, zb_b, lb3⟩ := rcell f_b3
  obtain ⟨zx_a, zx_b, lx3⟩ := rcell f_x3
  go_wp2_with fail
  refine (c3 _).mono ?_
  rintro e w4 ⟨rfl, hb4⟩
  have f_a4 := kp hb4 (f_a3)
  have f_b4 := kp hb4 (f_b3)
  have f_x4 := kp hb4 (f_x3)
  have hB4 := bB hB3 hb4
  clear za_a za_b zb_a zb_b zx_a zx_b
  obtain ⟨za_a, za_b, la4⟩ := rcell f_a4
  obtain ⟨zb_a, zb_b, lb4⟩ := rcell f_b4
  obtain ⟨zx_a, zx_b, lx4⟩ := rcell f_x4
  go_wp2_with fail
  refine (c4 _).mono ?_
  rintro e w5 ⟨rfl, hb5⟩
  have f_a5 := kp hb5 (ka (f_a4) (.cells #[.int .i64 0, .int .i64 0] 33))
  have f_b5 := kp hb5 (ka (f_b4) (.cells #[.int .i64 0, .int .i64 0] 33))
  have f_x5 := kp hb5 (ka (f_x4) (.cells #[.int .i64 0, .int .i64 0] 33))
  have f_c5 := kp hb5 (na w4 #[.int .i64 0, .int .i64 0] 33)
  have hB5 := bB (bA hB4 (.cells #[.int .i64 0, .int .i64 0] 33)) hb5
  clear za_a za_b zb_a zb_b zx_a zx_b
  obtain ⟨za_a, za_b, la5⟩ := rcell f_a5
  obtain ⟨zb_a, zb_b, lb5⟩ := rcell f_b5
  obtain ⟨zx_a, zx_b, lx5⟩ := rcell f_x5
  obtain ⟨zc_a, zc_b, lc5⟩ := rcell f_c5
  go_wp2_with fail
  refine Abs.wp_region_abs (Abs.cls0 _) [0, 1, 2, 3, 4, 5, 6, 7] (by kernel_rfl) (by kernel_rfl) (Below.refl _ _).drew ?_
  repeat (first | (refine Abs.step_pure rfl rfl (fun K hK => ?_); go_simp; (try go_bits); (first | refine hK _ _ ?_ | (simp only [↓IntWalk.iteOmega]; go_simp; (try go_bits); refine hK _ _ ?_)); clear hK K) | (refine Abs.step_load (v := ?_) rfl rfl (by kernel_rfl) rfl (fun w0 hI => ?_) (fun K hK => ?_); rotate_left; (· have z0 := (rcell (kp hI (f_a5))).1; have z1 := (rcell (kp hI (f_x5))).1; go_simp; rfl); (simp only [Act.put, List.setIfInBounds_toArray, List.set_cons_zero, List.set_cons_succ]; refine hK _ _ ?_; clear hK K)) | (refine Abs.step_skip rfl rfl (fun K hK => ?_); (simp only [Act.put, List.setIfInBounds_toArray, List.set_cons_zero, List.set_cons_succ]; refine hK _ _ ?_; clear hK K)))
  (refine Abs.step_call_val (f := ?_) (args := ?_) (v := ?_) rfl rfl rfl rfl (fun w0 => ?_) (fun w0 hI => ?_) (fun K hK => ?_); rotate_left 3; (· go_simp; (constructor <;> rfl)); (· exact c5 _); (simp only [Act.put, List.setIfInBounds_toArray, List.set_cons_zero, List.set_cons_succ]; refine hK _ _ ?_; clear hK K))
  repeat (first | (refine Abs.step_pure rfl rfl (fun K hK => ?_); go_simp; (try go_bits); (first | refine hK _ _ ?_ | (simp only [↓IntWalk.iteOmega]; go_simp; (try go_bits); refine hK _ _ ?_)); clear hK K) | (refine Abs.step_load (v := ?_) rfl rfl (by kernel_rfl) rfl (fun w0 hI => ?_) (fun K hK => ?_); rotate_left; (· have z0 := (rcell (kp hI (f_a5))).1; have z1 := (rcell (kp hI (f_x5))).1; go_simp; rfl); (simp only [Act.put, List.setIfInBounds_toArray, List.set_cons_zero, List.set_cons_succ]; refine hK _ _ ?_; clear hK K)) | (refine Abs.step_skip rfl rfl (fun K hK => ?_); (simp only [Act.put, List.setIfInBounds_toArray, List.set_cons_zero, List.set_cons_succ]; refine hK _ _ ?_; clear hK K)))
  intro w7 hb7 hx0 hx1 hx2
  clear hx0 hx1 hx2
  simp only [Abs.T_setF, Abs.T_addA, Abs.T_push, Abs.T_start]
  have f_a7 := kp hb7 (f_a5)
  have f_b7 := kp hb7 (f_b5)
  have f_x7 := kp hb7 (f_x5)
  have f_c7 := kp hb7 (f_c5)
  have hB7 := bB hB5 hb7
  clear za_a za_b zb_a zb_b zc_a zc_b zx_a zx_b
  obtain ⟨za_a, za_b, la7⟩ := rcell f_a7
  obtain ⟨zb_a, zb_b, lb7⟩ := rcell f_b7
  obtain ⟨zx_a, zx_b, lx7⟩ := rcell f_x7
  obtain ⟨zc_a, zc_b, lc7⟩ := rcell f_c7
  go_wp2_with fail
  refine (c6 _).mono ?_
  rintro e w8 ⟨rfl, hb8⟩
  have f_a8 := kp hb8 (f_a7)
  have f_b8 := kp hb8 (f_b7)
  have f_x8 := kp hb8 (f_x7)
  have f_c8 := kp hb8 (f_c7)
  have hB8 := bB hB7 hb8
  clear za_a za_b zb_a zb_b zc_a zc_b zx_a zx_b
  obtain ⟨za_a, za_b, la8⟩ := rcell f_a8
  obtain ⟨zb_a, zb_b, lb8⟩ := rcell f_b8
  obtain ⟨zx_a, zx_b, lx8⟩ := rcell f_x8
  obtain ⟨zc_a, zc_b, lc8⟩ := rcell f_c8
  go_wp2
  go_ret
  exact ⟨by simp, hB8⟩

set_option maxRecDepth 100000 in
set_option maxHeartbeats 2000000 in
theorem slopes_3 (N D N' D' : Int) (h : slB N D = true) (h' : slB N' D' = true) (ho : N * D' < N' * D) (w : World) :
    Calls Try.prog 7 #[.agg #[.int .i64 N, .int .i64 D], .agg #[.int .i64 N', .int .i64 D']] w fun e w' => e = .returned (.bool true) ∧ Below w.heap.size w w' := by
  obtain ⟨d1, d2, d3, d4⟩ := slB_spec h
  have c1 := line_Lowest_yes N D h
  have c2 := line_Compare_yes N D N' D' h h'
  rw [cmpI_lt ho] at c2
  have c3 := line_Nearest_yes N D N' D' h h' (by omega)
  have c4 := ref_Slope N D
  have c5 := ref_Lowest N D d1 (by omega) (by omega) (by omega)
  have c6 := ref_Slope N' D'
  have c7 := ref_LessS N D N' D' h h'
  have c8 := ref_LessS N' D' N D h' h
  have c9 := ref_Nearest N D N' D' h h'
  rw [show decide (N * D' < N' * D) = true by simp; omega] at c7
  rw [show decide (N' * D < N * D') = false by simp; omega] at c8
  rw [h] at c4
  rw [h'] at c6
  clear h h' ho
  generalize lwN N D = n at *
  generalize lwD N D = d at *
  generalize nrN N D N' D' = p at *
  generalize nrD N D N' D' = q at *
  go_enter Try.func7, Try.ntmps7
  go_wp2_with fail
  refine (wakes5 _).mono ?_
  rintro e w1 ⟨rfl, hb1⟩
  have f_a1 := kp hb1 (ka (na w #[.int .i64 N, .int .i64 D] 33) (.cells #[.int .i64 N', .int .i64 D'] 33))
  have f_b1 := kp hb1 (na1 w (.cells #[.int .i64 N, .int .i64 D] 33) #[.int .i64 N', .int .i64 D'] 33)
  have hB1 := bB (bA (bA (b0 w) (.cells #[.int .i64 N, .int .i64 D] 33)) (.cells #[.int .i64 N', .int .i64 D'] 33)) hb1
  obtain ⟨za_a, za_b, la1⟩ := rcell f_a1
  obtain ⟨zb_a, zb_b, lb1⟩ := rcell f_b1
  go_wp2_with fail
  refine (c1 _).mono ?_
  rintro e w2 ⟨rfl, hb2⟩
  have f_a2 := kp hb2 (f_a1)
  have f_b2 := kp hb2 (f_b1)
  have hB2 := bB hB1 hb2
  clear za_a za_b zb_a zb_b
  obtain ⟨za_a, za_b, la2⟩ := rcell f_a2
  obtain ⟨zb_a, zb_b, lb2⟩ := rcell f_b2
  go_wp2_with fail
  refine (c2 _).mono ?_
  rintro e w3 ⟨rfl, hb3⟩
  have f_a3 := kp hb3 (ka (f_a2) (.cells #[.int .i64 n, .int .i64 d] 33))
  have f_b3 := kp hb3 (ka (f_b2) (.cells #[.int .i64 n, .int .i64 d] 33))
  have f_x3 := kp hb3 (na w2 #[.int .i64 n, .int .i64 d] 33)
  have hB3 := bB (bA hB2 (.cells #[.int .i64 n, .int .i64 d] 33)) hb3
  clear za_a za_b zb_a zb_b
  obtain ⟨za_a, za_b, la3⟩ := rcell f_a3
  obtain ⟨zb_a, zb_b, lb3⟩ := rcell f_b3
  obtain ⟨zx_a, zx_b, lx3⟩ := rcell f_x3
  go_wp2_with fail
  refine (c3 _).mono ?_
  rintro e w4 ⟨rfl, hb4⟩
  have f_a4 := kp hb4 (f_a3)
  have f_b4 := kp hb4 (f_b3)
  have f_x4 := kp hb4 (f_x3)
  have hB4 := bB hB3 hb4
  clear za_a za_b zb_a zb_b zx_a zx_b
  obtain ⟨za_a, za_b, la4⟩ := rcell f_a4
  obtain ⟨zb_a, zb_b, lb4⟩ := rcell f_b4
  obtain ⟨zx_a, zx_b, lx4⟩ := rcell f_x4
  go_wp2_with fail
  refine (c4 _).mono ?_
  rintro e w5 ⟨rfl, hb5⟩
  have f_a5 := kp hb5 (ka (f_a4) (.cells #[.int .i64 p, .int .i64 q] 33))
  have f_b5 := kp hb5 (ka (f_b4) (.cells #[.int .i64 p, .int .i64 q] 33))
  have f_x5 := kp hb5 (ka (f_x4) (.cells #[.int .i64 p, .int .i64 q] 33))
  have f_c5 := kp hb5 (na w4 #[.int .i64 p, .int .i64 q] 33)
  have hB5 := bB (bA hB4 (.cells #[.int .i64 p, .int .i64 q] 33)) hb5
  clear za_a za_b zb_a zb_b zx_a zx_b
  obtain ⟨za_a, za_b, la5⟩ := rcell f_a5
  obtain ⟨zb_a, zb_b, lb5⟩ := rcell f_b5
  obtain ⟨zx_a, zx_b, lx5⟩ := rcell f_x5
  obtain ⟨zc_a, zc_b, lc5⟩ := rcell f_c5
  go_wp2_with fail
  refine Abs.wp_region_abs (Abs.cls0 _) [0, 1, 2, 3, 4, 5, 6, 7] (by kernel_rfl) (by kernel_rfl) (Below.refl _ _).drew ?_
  repeat (first | (refine Abs.step_pure rfl rfl (fun K hK => ?_); go_simp; (try go_bits); (first | refine hK _ _ ?_ | (simp only [↓IntWalk.iteOmega]; go_simp; (try go_bits); refine hK _ _ ?_)); clear hK K) | (refine Abs.step_load (v := ?_) rfl rfl (by kernel_rfl) rfl (fun w0 hI => ?_) (fun K hK => ?_); rotate_left; (· have z0 := (rcell (kp hI (f_a5))).1; have z1 := (rcell (kp hI (f_x5))).1; go_simp; rfl); (simp only [Act.put, List.setIfInBounds_toArray, List.set_cons_zero, List.set_cons_succ]; refine hK _ _ ?_; clear hK K)) | (refine Abs.step_skip rfl rfl (fun K hK => ?_); (simp only [Act.put, List.setIfInBounds_toArray, List.set_cons_zero, List.set_cons_succ]; refine hK _ _ ?_; clear hK K)))
  (refine Abs.step_call_val (f := ?_) (args := ?_) (v := ?_) rfl rfl rfl rfl (fun w0 => ?_) (fun w0 hI => ?_) (fun K hK => ?_); rotate_left 3; (· go_simp; (constructor <;> rfl)); (· exact c5 _); (simp only [Act.put, List.setIfInBounds_toArray, List.set_cons_zero, List.set_cons_succ]; refine hK _ _ ?_; clear hK K))
  repeat (first | (refine Abs.step_pure rfl rfl (fun K hK => ?_); go_simp; (try go_bits); (first | refine hK _ _ ?_ | (simp only [↓IntWalk.iteOmega]; go_simp; (try go_bits); refine hK _ _ ?_)); clear hK K) | (refine Abs.step_load (v := ?_) rfl rfl (by kernel_rfl) rfl (fun w0 hI => ?_) (fun K hK => ?_); rotate_left; (· have z0 := (rcell (kp hI (f_a5))).1; have z1 := (rcell (kp hI (f_x5))).1; go_simp; rfl); (simp only [Act.put, List.setIfInBounds_toArray, List.set_cons_zero, List.set_cons_succ]; refine hK _ _ ?_; clear hK K)) | (refine Abs.step_skip rfl rfl (fun K hK => ?_); (simp only [Act.put, List.setIfInBounds_toArray, List.set_cons_zero, List.set_cons_succ]; refine hK _ _ ?_; clear hK K)))
  intro w7 hb7 hx0 hx1 hx2
  clear hx0 hx1 hx2
  simp only [Abs.T_setF, Abs.T_addA, Abs.T_push, Abs.T_start]
  have f_a7 := kp hb7 (f_a5)
  have f_b7 := kp hb7 (f_b5)
  have f_x7 := kp hb7 (f_x5)
  have f_c7 := kp hb7 (f_c5)
  have hB7 := bB hB5 hb7
  clear za_a za_b zb_a zb_b zc_a zc_b zx_a zx_b
  obtain ⟨za_a, za_b, la7⟩ := rcell f_a7
  obtain ⟨zb_a, zb_b, lb7⟩ := rcell f_b7
  obtain ⟨zx_a, zx_b, lx7⟩ := rcell f_x7
  obtain ⟨zc_a, zc_b, lc7⟩ := rcell f_c7
  go_wp2_with fail
  refine (c6 _).mono ?_
  rintro e w8 ⟨rfl, hb8⟩
  have f_a8 := kp hb8 (f_a7)
  have f_b8 := kp hb8 (f_b7)
  have f_x8 := kp hb8 (f_x7)
  have f_c8 := kp hb8 (f_c7)
  have hB8 := bB hB7 hb8
  clear za_a za_b zb_a zb_b zc_a zc_b zx_a zx_b
  obtain ⟨za_a, za_b, la8⟩ := rcell f_a8
  obtain ⟨zb_a, zb_b, lb8⟩ := rcell f_b8
  obtain ⟨zx_a, zx_b, lx8⟩ := rcell f_x8
  obtain ⟨zc_a, zc_b, lc8⟩ := rcell f_c8
  go_wp2_with fail
  refine (c7 _).mono ?_
  rintro e w9 ⟨rfl, hb9⟩
  have f_a9 := kp hb9 (f_a8)
  have f_b9 := kp hb9 (f_b8)
  have f_x9 := kp hb9 (f_x8)
  have f_c9 := kp hb9 (f_c8)
  have hB9 := bB hB8 hb9
  clear za_a za_b zb_a zb_b zc_a zc_b zx_a zx_b
  obtain ⟨za_a, za_b, la9⟩ := rcell f_a9
  obtain ⟨zb_a, zb_b, lb9⟩ := rcell f_b9
  obtain ⟨zx_a, zx_b, lx9⟩ := rcell f_x9
  obtain ⟨zc_a, zc_b, lc9⟩ := rcell f_c9
  go_wp2_with fail
  refine (c8 _).mono ?_
  rintro e w10 ⟨rfl, hb10⟩
  have f_a10 := kp hb10 (f_a9)
  have f_b10 := kp hb10 (f_b9)
  have f_x10 := kp hb10 (f_x9)
  have f_c10 := kp hb10 (f_c9)
  have hB10 := bB hB9 hb10
  clear za_a za_b zb_a zb_b zc_a zc_b zx_a zx_b
  obtain ⟨za_a, za_b, la10⟩ := rcell f_a10
  obtain ⟨zb_a, zb_b, lb10⟩ := rcell f_b10
  obtain ⟨zx_a, zx_b, lx10⟩ := rcell f_x10
  obtain ⟨zc_a, zc_b, lc10⟩ := rcell f_c10
  go_wp2_with fail
  refine Abs.wp_region_abs (Abs.cls0 _) [0, 1, 2, 3, 4, 5, 6, 7, 8, 9, 10, 11, 12, 13, 14, 15, 16, 17] (by kernel_rfl) (by kernel_rfl) (Below.refl _ _).drew ?_
  repeat (first | (refine Abs.step_pure rfl rfl (fun K hK => ?_); go_simp; (try go_bits); (first | refine hK _ _ ?_ | (simp only [↓IntWalk.iteOmega]; go_simp; (try go_bits); refine hK _ _ ?_)); clear hK K) | (refine Abs.step_load (v := ?_) rfl rfl (by kernel_rfl) rfl (fun w0 hI => ?_) (fun K hK => ?_); rotate_left; (· have z0 := (rcell (kp hI (f_a10))).1; have z1 := (rcell (kp hI (f_b10))).1; have z2 := (rcell (kp hI (f_c10))).1; go_simp; rfl); (simp only [Act.put, List.setIfInBounds_toArray, List.set_cons_zero, List.set_cons_succ]; refine hK _ _ ?_; clear hK K)) | (refine Abs.step_skip rfl rfl (fun K hK => ?_); (simp only [Act.put, List.setIfInBounds_toArray, List.set_cons_zero, List.set_cons_succ]; refine hK _ _ ?_; clear hK K)))
  (refine Abs.step_call_val (f := ?_) (args := ?_) (v := ?_) rfl rfl rfl rfl (fun w0 => ?_) (fun w0 hI => ?_) (fun K hK => ?_); rotate_left 3; (· go_simp; (constructor <;> rfl)); (· exact c9 _); (simp only [Act.put, List.setIfInBounds_toArray, List.set_cons_zero, List.set_cons_succ]; refine hK _ _ ?_; clear hK K))
  repeat (first | (refine Abs.step_pure rfl rfl (fun K hK => ?_); go_simp; (try go_bits); (first | refine hK _ _ ?_ | (simp only [↓IntWalk.iteOmega]; go_simp; (try go_bits); refine hK _ _ ?_)); clear hK K) | (refine Abs.step_load (v := ?_) rfl rfl (by kernel_rfl) rfl (fun w0 hI => ?_) (fun K hK => ?_); rotate_left; (· have z0 := (rcell (kp hI (f_a10))).1; have z1 := (rcell (kp hI (f_b10))).1; have z2 := (rcell (kp hI (f_c10))).1; go_simp; rfl); (simp only [Act.put, List.setIfInBounds_toArray, List.set_cons_zero, List.set_cons_succ]; refine hK _ _ ?_; clear hK K)) | (refine Abs.step_skip rfl rfl (fun K hK => ?_); (simp only [Act.put, List.setIfInBounds_toArray, List.set_cons_zero, List.set_cons_succ]; refine hK _ _ ?_; clear hK K)))
  intro w12 hb12 hx0 hx1 hx2
  clear hx0 hx1 hx2
  simp only [Abs.T_setF, Abs.T_addA, Abs.T_push, Abs.T_start]
  have f_a12 := kp hb12 (f_a10)
  have f_b12 := kp hb12 (f_b10)
  have f_x12 := kp hb12 (f_x10)
  have f_c12 := kp hb12 (f_c10)
  have hB12 := bB hB10 hb12
  clear za_a za_b zb_a zb_b zc_a zc_b zx_a zx_b
  obtain ⟨za_a, za_b, la12⟩ := rcell f_a12
  obtain ⟨zb_a, zb_b, lb12⟩ := rcell f_b12
  obtain ⟨zx_a, zx_b, lx12⟩ := rcell f_x12
  obtain ⟨zc_a, zc_b, lc12⟩ := rcell f_c12
  go_wp2
  go_ret
  exact ⟨by simp, hB12⟩

set_option maxRecDepth 100000 in
set_option maxHeartbeats 2000000 in
theorem slopes_4 (N D N' D' : Int) (h : slB N D = true) (h' : slB N' D' = true) (ho : N * D' = N' * D) (w : World) :
    Calls Try.prog 7 #[.agg #[.int .i64 N, .int .i64 D], .agg #[.int .i64 N', .int .i64 D']] w fun e w' => e = .returned (.bool true) ∧ Below w.heap.size w w' := by
  obtain ⟨d1, d2, d3, d4⟩ := slB_spec h
  have c1 := line_Lowest_yes N D h
  have c2 := line_Compare_yes N D N' D' h h'
  rw [cmpI_eq ho] at c2
  have c3 := line_Nearest_yes N D N' D' h h' (by omega)
  have c4 := ref_Slope N D
  have c5 := ref_Lowest N D d1 (by omega) (by omega) (by omega)
  have c6 := ref_Slope N' D'
  have c7 := ref_LessS N D N' D' h h'
  have c8 := ref_LessS N' D' N D h' h
  have c9 := ref_Nearest N D N' D' h h'
  rw [show decide (N * D' < N' * D) = false by simp; omega] at c7
  rw [show decide (N' * D < N * D') = false by simp; omega] at c8
  rw [h] at c4
  rw [h'] at c6
  clear h h' ho
  generalize lwN N D = n at *
  generalize lwD N D = d at *
  generalize nrN N D N' D' = p at *
  generalize nrD N D N' D' = q at *
  go_enter Try.func7, Try.ntmps7
  go_wp2_with fail
  refine (wakes5 _).mono ?_
  rintro e w1 ⟨rfl, hb1⟩
  have f_a1 := kp hb1 (ka (na w #[.int .i64 N, .int .i64 D] 33) (.cells #[.int .i64 N', .int .i64 D'] 33))
  have f_b1 := kp hb1 (na1 w (.cells #[.int .i64 N, .int .i64 D] 33) #[.int .i64 N', .int .i64 D'] 33)
  have hB1 := bB (bA (bA (b0 w) (.cells #[.int .i64 N, .int .i64 D] 33)) (.cells #[.int .i64 N', .int .i64 D'] 33)) hb1
  obtain ⟨za_a, za_b, la1⟩ := rcell f_a1
  obtain ⟨zb_a, zb_b, lb1⟩ := rcell f_b1
  go_wp2_with fail
  refine (c1 _).mono ?_
  rintro e w2 ⟨rfl, hb2⟩
  have f_a2 := kp hb2 (f_a1)
  have f_b2 := kp hb2 (f_b1)
  have hB2 := bB hB1 hb2
  clear za_a za_b zb_a zb_b
  obtain ⟨za_a, za_b, la2⟩ := rcell f_a2
  obtain ⟨zb_a, zb_b, lb2⟩ := rcell f_b2
  go_wp2_with fail
  refine (c2 _).mono ?_
  rintro e w3 ⟨rfl, hb3⟩
  have f_a3 := kp hb3 (ka (f_a2) (.cells #[.int .i64 n, .int .i64 d] 33))
  have f_b3 := kp hb3 (ka (f_b2) (.cells #[.int .i64 n, .int .i64 d] 33))
  have f_x3 := kp hb3 (na w2 #[.int .i64 n, .int .i64 d] 33)
  have hB3 := bB (bA hB2 (.cells #[.int .i64 n, .int .i64 d] 33)) hb3
  clear za_a za_b zb_a zb_b
  obtain ⟨za_a, za_b, la3⟩ := rcell f_a3
  obtain ⟨zb_a, zb_b, lb3⟩ := rcell f_b3
  obtain ⟨zx_a, zx_b, lx3⟩ := rcell f_x3
  go_wp2_with fail
  refine (c3 _).mono ?_
  rintro e w4 ⟨rfl, hb4⟩
  have f_a4 := kp hb4 (f_a3)
  have f_b4 := kp hb4 (f_b3)
  have f_x4 := kp hb4 (f_x3)
  have hB4 := bB hB3 hb4
  clear za_a za_b zb_a zb_b zx_a zx_b
  obtain ⟨za_a, za_b, la4⟩ := rcell f_a4
  obtain ⟨zb_a, zb_b, lb4⟩ := rcell f_b4
  obtain ⟨zx_a, zx_b, lx4⟩ := rcell f_x4
  go_wp2_with fail
  refine (c4 _).mono ?_
  rintro e w5 ⟨rfl, hb5⟩
  have f_a5 := kp hb5 (ka (f_a4) (.cells #[.int .i64 p, .int .i64 q] 33))
  have f_b5 := kp hb5 (ka (f_b4) (.cells #[.int .i64 p, .int .i64 q] 33))
  have f_x5 := kp hb5 (ka (f_x4) (.cells #[.int .i64 p, .int .i64 q] 33))
  have f_c5 := kp hb5 (na w4 #[.int .i64 p, .int .i64 q] 33)
  have hB5 := bB (bA hB4 (.cells #[.int .i64 p, .int .i64 q] 33)) hb5
  clear za_a za_b zb_a zb_b zx_a zx_b
  obtain ⟨za_a, za_b, la5⟩ := rcell f_a5
  obtain ⟨zb_a, zb_b, lb5⟩ := rcell f_b5
  obtain ⟨zx_a, zx_b, lx5⟩ := rcell f_x5
  obtain ⟨zc_a, zc_b, lc5⟩ := rcell f_c5
  go_wp2_with fail
  refine Abs.wp_region_abs (Abs.cls0 _) [0, 1, 2, 3, 4, 5, 6, 7] (by kernel_rfl) (by kernel_rfl) (Below.refl _ _).drew ?_
  repeat (first | (refine Abs.step_pure rfl rfl (fun K hK => ?_); go_simp; (try go_bits); (first | refine hK _ _ ?_ | (simp only [↓IntWalk.iteOmega]; go_simp; (try go_bits); refine hK _ _ ?_)); clear hK K) | (refine Abs.step_load (v := ?_) rfl rfl (by kernel_rfl) rfl (fun w0 hI => ?_) (fun K hK => ?_); rotate_left; (· have z0 := (rcell (kp hI (f_a5))).1; have z1 := (rcell (kp hI (f_x5))).1; go_simp; rfl); (simp only [Act.put, List.setIfInBounds_toArray, List.set_cons_zero, List.set_cons_succ]; refine hK _ _ ?_; clear hK K)) | (refine Abs.step_skip rfl rfl (fun K hK => ?_); (simp only [Act.put, List.setIfInBounds_toArray, List.set_cons_zero, List.set_cons_succ]; refine hK _ _ ?_; clear hK K)))
  (refine Abs.step_call_val (f := ?_) (args := ?_) (v := ?_) rfl rfl rfl rfl (fun w0 => ?_) (fun w0 hI => ?_) (fun K hK => ?_); rotate_left 3; (· go_simp; (constructor <;> rfl)); (· exact c5 _); (simp only [Act.put, List.setIfInBounds_toArray, List.set_cons_zero, List.set_cons_succ]; refine hK _ _ ?_; clear hK K))
  repeat (first | (refine Abs.step_pure rfl rfl (fun K hK => ?_); go_simp; (try go_bits); (first | refine hK _ _ ?_ | (simp only [↓IntWalk.iteOmega]; go_simp; (try go_bits); refine hK _ _ ?_)); clear hK K) | (refine Abs.step_load (v := ?_) rfl rfl (by kernel_rfl) rfl (fun w0 hI => ?_) (fun K hK => ?_); rotate_left; (· have z0 := (rcell (kp hI (f_a5))).1; have z1 := (rcell (kp hI (f_x5))).1; go_simp; rfl); (simp only [Act.put, List.setIfInBounds_toArray, List.set_cons_zero, List.set_cons_succ]; refine hK _ _ ?_; clear hK K)) | (refine Abs.step_skip rfl rfl (fun K hK => ?_); (simp only [Act.put, List.setIfInBounds_toArray, List.set_cons_zero, List.set_cons_succ]; refine hK _ _ ?_; clear hK K)))
  intro w7 hb7 hx0 hx1 hx2
  clear hx0 hx1 hx2
  simp only [Abs.T_setF, Abs.T_addA, Abs.T_push, Abs.T_start]
  have f_a7 := kp hb7 (f_a5)
  have f_b7 := kp hb7 (f_b5)
  have f_x7 := kp hb7 (f_x5)
  have f_c7 := kp hb7 (f_c5)
  have hB7 := bB hB5 hb7
  clear za_a za_b zb_a zb_b zc_a zc_b zx_a zx_b
  obtain ⟨za_a, za_b, la7⟩ := rcell f_a7
  obtain ⟨zb_a, zb_b, lb7⟩ := rcell f_b7
  obtain ⟨zx_a, zx_b, lx7⟩ := rcell f_x7
  obtain ⟨zc_a, zc_b, lc7⟩ := rcell f_c7
  go_wp2_with fail
  refine (c6 _).mono ?_
  rintro e w8 ⟨rfl, hb8⟩
  have f_a8 := kp hb8 (f_a7)
  have f_b8 := kp hb8 (f_b7)
  have f_x8 := kp hb8 (f_x7)
  have f_c8 := kp hb8 (f_c7)
  have hB8 := bB hB7 hb8
  clear za_a za_b zb_a zb_b zc_a zc_b zx_a zx_b
  obtain ⟨za_a, za_b, la8⟩ := rcell f_a8
  obtain ⟨zb_a, zb_b, lb8⟩ := rcell f_b8
  obtain ⟨zx_a, zx_b, lx8⟩ := rcell f_x8
  obtain ⟨zc_a, zc_b, lc8⟩ := rcell f_c8
  go_wp2_with fail
  refine (c7 _).mono ?_
  rintro e w9 ⟨rfl, hb9⟩
  have f_a9 := kp hb9 (f_a8)
  have f_b9 := kp hb9 (f_b8)
  have f_x9 := kp hb9 (f_x8)
  have f_c9 := kp hb9 (f_c8)
  have hB9 := bB hB8 hb9
  clear za_a za_b zb_a zb_b zc_a zc_b zx_a zx_b
  obtain ⟨za_a, za_b, la9⟩ := rcell f_a9
  obtain ⟨zb_a, zb_b, lb9⟩ := rcell f_b9
  obtain ⟨zx_a, zx_b, lx9⟩ := rcell f_x9
  obtain ⟨zc_a, zc_b, lc9⟩ := rcell f_c9
  go_wp2_with fail
  refine (c8 _).mono ?_
  rintro e w10 ⟨rfl, hb10⟩
  have f_a10 := kp hb10 (f_a9)
  have f_b10 := kp hb10 (f_b9)
  have f_x10 := kp hb10 (f_x9)
  have f_c10 := kp hb10 (f_c9)
  have hB10 := bB hB9 hb10
  clear za_a za_b zb_a zb_b zc_a zc_b zx_a zx_b
  obtain ⟨za_a, za_b, la10⟩ := rcell f_a10
  obtain ⟨zb_a, zb_b, lb10⟩ := rcell f_b10
  obtain ⟨zx_a, zx_b, lx10⟩ := rcell f_x10
  obtain ⟨zc_a, zc_b, lc10⟩ := rcell f_c10
  go_wp2_with fail
  refine Abs.wp_region_abs (Abs.cls0 _) [0, 1, 2, 3, 4, 5, 6, 7, 8, 9, 10, 11, 12, 13, 14, 15, 16, 17] (by kernel_rfl) (by kernel_rfl) (Below.refl _ _).drew ?_
  repeat (first | (refine Abs.step_pure rfl rfl (fun K hK => ?_); go_simp; (try go_bits); (first | refine hK _ _ ?_ | (simp only [↓IntWalk.iteOmega]; go_simp; (try go_bits); refine hK _ _ ?_)); clear hK K) | (refine Abs.step_load (v := ?_) rfl rfl (by kernel_rfl) rfl (fun w0 hI => ?_) (fun K hK => ?_); rotate_left; (· have z0 := (rcell (kp hI (f_a10))).1; have z1 := (rcell (kp hI (f_b10))).1; have z2 := (rcell (kp hI (f_c10))).1; go_simp; rfl); (simp only [Act.put, List.setIfInBounds_toArray, List.set_cons_zero, List.set_cons_succ]; refine hK _ _ ?_; clear hK K)) | (refine Abs.step_skip rfl rfl (fun K hK => ?_); (simp only [Act.put, List.setIfInBounds_toArray, List.set_cons_zero, List.set_cons_succ]; refine hK _ _ ?_; clear hK K)))
  (refine Abs.step_call_val (f := ?_) (args := ?_) (v := ?_) rfl rfl rfl rfl (fun w0 => ?_) (fun w0 hI => ?_) (fun K hK => ?_); rotate_left 3; (· go_simp; (constructor <;> rfl)); (· exact c9 _); (simp only [Act.put, List.setIfInBounds_toArray, List.set_cons_zero, List.set_cons_succ]; refine hK _ _ ?_; clear hK K))
  repeat (first | (refine Abs.step_pure rfl rfl (fun K hK => ?_); go_simp; (try go_bits); (first | refine hK _ _ ?_ | (simp only [↓IntWalk.iteOmega]; go_simp; (try go_bits); refine hK _ _ ?_)); clear hK K) | (refine Abs.step_load (v := ?_) rfl rfl (by kernel_rfl) rfl (fun w0 hI => ?_) (fun K hK => ?_); rotate_left; (· have z0 := (rcell (kp hI (f_a10))).1; have z1 := (rcell (kp hI (f_b10))).1; have z2 := (rcell (kp hI (f_c10))).1; go_simp; rfl); (simp only [Act.put, List.setIfInBounds_toArray, List.set_cons_zero, List.set_cons_succ]; refine hK _ _ ?_; clear hK K)) | (refine Abs.step_skip rfl rfl (fun K hK => ?_); (simp only [Act.put, List.setIfInBounds_toArray, List.set_cons_zero, List.set_cons_succ]; refine hK _ _ ?_; clear hK K)))
  intro w12 hb12 hx0 hx1 hx2
  clear hx0 hx1 hx2
  simp only [Abs.T_setF, Abs.T_addA, Abs.T_push, Abs.T_start]
  have f_a12 := kp hb12 (f_a10)
  have f_b12 := kp hb12 (f_b10)
  have f_x12 := kp hb12 (f_x10)
  have f_c12 := kp hb12 (f_c10)
  have hB12 := bB hB10 hb12
  clear za_a za_b zb_a zb_b zc_a zc_b zx_a zx_b
  obtain ⟨za_a, za_b, la12⟩ := rcell f_a12
  obtain ⟨zb_a, zb_b, lb12⟩ := rcell f_b12
  obtain ⟨zx_a, zx_b, lx12⟩ := rcell f_x12
  obtain ⟨zc_a, zc_b, lc12⟩ := rcell f_c12
  go_wp2
  go_ret
  exact ⟨by simp, hB12⟩

set_option maxRecDepth 100000 in
set_option maxHeartbeats 2000000 in
theorem slopes_5 (N D N' D' : Int) (h : slB N D = true) (h' : slB N' D' = true) (ho : N' * D < N * D') (w : World) :
    Calls Try.prog 7 #[.agg #[.int .i64 N, .int .i64 D], .agg #[.int .i64 N', .int .i64 D']] w fun e w' => e = .returned (.bool true) ∧ Below w.heap.size w w' := by
  obtain ⟨d1, d2, d3, d4⟩ := slB_spec h
  have c1 := line_Lowest_yes N D h
  have c2 := line_Compare_yes N D N' D' h h'
  rw [cmpI_gt ho] at c2
  have c3 := line_Nearest_gt N D N' D' h h' ho
  have c4 := ref_Slope N D
  have c5 := ref_Lowest N D d1 (by omega) (by omega) (by omega)
  have c6 := ref_Slope N' D'
  have c7 := ref_LessS N D N' D' h h'
  have c8 := ref_LessS N' D' N D h' h
  have c9 := ref_Nearest N D N' D' h h'
  rw [show decide (N * D' < N' * D) = false by simp; omega] at c7
  rw [show decide (N' * D < N * D') = true by simp; omega] at c8
  rw [h] at c4
  rw [h'] at c6
  clear h h' ho
  generalize lwN N D = n at *
  generalize lwD N D = d at *
  generalize nrN N D N' D' = p at *
  generalize nrD N D N' D' = q at *
  go_enter Try.func7, Try.ntmps7
  go_wp2_with fail
  refine (wakes5 _).mono ?_
  rintro e w1 ⟨rfl, hb1⟩
  have f_a1 := kp hb1 (ka (na w #[.int .i64 N, .int .i64 D] 33) (.cells #[.int .i64 N', .int .i64 D'] 33))
  have f_b1 := kp hb1 (na1 w (.cells #[.int .i64 N, .int .i64 D] 33) #[.int .i64 N', .int .i64 D'] 33)
  have hB1 := bB (bA (bA (b0 w) (.cells #[.int .i64 N, .int .i64 D] 33)) (.cells #[.int .i64 N', .int .i64 D'] 33)) hb1
  obtain ⟨za_a, za_b, la1⟩ := rcell f_a1
  obtain ⟨zb_a, zb_b, lb1⟩ := rcell f_b1
  go_wp2_with fail
  refine (c1 _).mono ?_
  rintro e w2 ⟨rfl, hb2⟩
  have f_a2 := kp hb2 (f_a1)
  have f_b2 := kp hb2 (f_b1)
  have hB2 := bB hB1 hb2
  clear za_a za_b zb_a zb_b
  obtain ⟨za_a, za_b, la2⟩ := rcell f_a2
  obtain ⟨zb_a, zb_b, lb2⟩ := rcell f_b2
  go_wp2_with fail
  refine (c2 _).mono ?_
  rintro e w3 ⟨rfl, hb3⟩
  have f_a3 := kp hb3 (ka (f_a2) (.cells #[.int .i64 n, .int .i64 d] 33))
  have f_b3 := kp hb3 (ka (f_b2) (.cells #[.int .i64 n, .int .i64 d] 33))
  have f_x3 := kp hb3 (na w2 #[.int .i64 n, .int .i64 d] 33)
  have hB3 := bB (bA hB2 (.cells #[.int .i64 n, .int .i64 d] 33)) hb3
  clear za_a za_b zb_a zb_b
  obtain ⟨za_a, za_b, la3⟩ := rcell f_a3
  obtain ⟨zb_a, zb_b, lb3⟩ := rcell f_b3
  obtain ⟨zx_a, zx_b, lx3⟩ := rcell f_x3
  go_wp2_with fail
  refine (c3 _).mono ?_
  rintro e w4 ⟨rfl, hb4⟩
  have f_a4 := kp hb4 (f_a3)
  have f_b4 := kp hb4 (f_b3)
  have f_x4 := kp hb4 (f_x3)
  have hB4 := bB hB3 hb4
  clear za_a za_b zb_a zb_b zx_a zx_b
  obtain ⟨za_a, za_b, la4⟩ := rcell f_a4
  obtain ⟨zb_a, zb_b, lb4⟩ := rcell f_b4
  obtain ⟨zx_a, zx_b, lx4⟩ := rcell f_x4
  go_wp2_with fail
  refine (c4 _).mono ?_
  rintro e w5 ⟨rfl, hb5⟩
  have f_a5 := kp hb5 (ka (f_a4) (.cells #[.int .i64 0, .int .i64 0] 33))
  have f_b5 := kp hb5 (ka (f_b4) (.cells #[.int .i64 0, .int .i64 0] 33))
  have f_x5 := kp hb5 (ka (f_x4) (.cells #[.int .i64 0, .int .i64 0] 33))
  have f_c5 := kp hb5 (na w4 #[.int .i64 0, .int .i64 0] 33)
  have hB5 := bB (bA hB4 (.cells #[.int .i64 0, .int .i64 0] 33)) hb5
  clear za_a za_b zb_a zb_b zx_a zx_b
  obtain ⟨za_a, za_b, la5⟩ := rcell f_a5
  obtain ⟨zb_a, zb_b, lb5⟩ := rcell f_b5
  obtain ⟨zx_a, zx_b, lx5⟩ := rcell f_x5
  obtain ⟨zc_a, zc_b, lc5⟩ := rcell f_c5
  go_wp2_with fail
  refine Abs.wp_region_abs (Abs.cls0 _) [0, 1, 2, 3, 4, 5, 6, 7] (by kernel_rfl) (by kernel_rfl) (Below.refl _ _).drew ?_
  repeat (first | (refine Abs.step_pure rfl rfl (fun K hK => ?_); go_simp; (try go_bits); (first | refine hK _ _ ?_ | (simp only [↓IntWalk.iteOmega]; go_simp; (try go_bits); refine hK _ _ ?_)); clear hK K) | (refine Abs.step_load (v := ?_) rfl rfl (by kernel_rfl) rfl (fun w0 hI => ?_) (fun K hK => ?_); rotate_left; (· have z0 := (rcell (kp hI (f_a5))).1; have z1 := (rcell (kp hI (f_x5))).1; go_simp; rfl); (simp only [Act.put, List.setIfInBounds_toArray, List.set_cons_zero, List.set_cons_succ]; refine hK _ _ ?_; clear hK K)) | (refine Abs.step_skip rfl rfl (fun K hK => ?_); (simp only [Act.put, List.setIfInBounds_toArray, List.set_cons_zero, List.set_cons_succ]; refine hK _ _ ?_; clear hK K)))
  (refine Abs.step_call_val (f := ?_) (args := ?_) (v := ?_) rfl rfl rfl rfl (fun w0 => ?_) (fun w0 hI => ?_) (fun K hK => ?_); rotate_left 3; (· go_simp; (constructor <;> rfl)); (· exact c5 _); (simp only [Act.put, List.setIfInBounds_toArray, List.set_cons_zero, List.set_cons_succ]; refine hK _ _ ?_; clear hK K))
  repeat (first | (refine Abs.step_pure rfl rfl (fun K hK => ?_); go_simp; (try go_bits); (first | refine hK _ _ ?_ | (simp only [↓IntWalk.iteOmega]; go_simp; (try go_bits); refine hK _ _ ?_)); clear hK K) | (refine Abs.step_load (v := ?_) rfl rfl (by kernel_rfl) rfl (fun w0 hI => ?_) (fun K hK => ?_); rotate_left; (· have z0 := (rcell (kp hI (f_a5))).1; have z1 := (rcell (kp hI (f_x5))).1; go_simp; rfl); (simp only [Act.put, List.setIfInBounds_toArray, List.set_cons_zero, List.set_cons_succ]; refine hK _ _ ?_; clear hK K)) | (refine Abs.step_skip rfl rfl (fun K hK => ?_); (simp only [Act.put, List.setIfInBounds_toArray, List.set_cons_zero, List.set_cons_succ]; refine hK _ _ ?_; clear hK K)))
  intro w7 hb7 hx0 hx1 hx2
  clear hx0 hx1 hx2
  simp only [Abs.T_setF, Abs.T_addA, Abs.T_push, Abs.T_start]
  have f_a7 := kp hb7 (f_a5)
  have f_b7 := kp hb7 (f_b5)
  have f_x7 := kp hb7 (f_x5)
  have f_c7 := kp hb7 (f_c5)
  have hB7 := bB hB5 hb7
  clear za_a za_b zb_a zb_b zc_a zc_b zx_a zx_b
  obtain ⟨za_a, za_b, la7⟩ := rcell f_a7
  obtain ⟨zb_a, zb_b, lb7⟩ := rcell f_b7
  obtain ⟨zx_a, zx_b, lx7⟩ := rcell f_x7
  obtain ⟨zc_a, zc_b, lc7⟩ := rcell f_c7
  go_wp2_with fail
  refine (c6 _).mono ?_
  rintro e w8 ⟨rfl, hb8⟩
  have f_a8 := kp hb8 (f_a7)
  have f_b8 := kp hb8 (f_b7)
  have f_x8 := kp hb8 (f_x7)
  have f_c8 := kp hb8 (f_c7)
  have hB8 := bB hB7 hb8
  clear za_a za_b zb_a zb_b zc_a zc_b zx_a zx_b
  obtain ⟨za_a, za_b, la8⟩ := rcell f_a8
  obtain ⟨zb_a, zb_b, lb8⟩ := rcell f_b8
  obtain ⟨zx_a, zx_b, lx8⟩ := rcell f_x8
  obtain ⟨zc_a, zc_b, lc8⟩ := rcell f_c8
  go_wp2_with fail
  refine (c7 _).mono ?_
  rintro e w9 ⟨rfl, hb9⟩
  have f_a9 := kp hb9 (f_a8)
  have f_b9 := kp hb9 (f_b8)
  have f_x9 := kp hb9 (f_x8)
  have f_c9 := kp hb9 (f_c8)
  have hB9 := bB hB8 hb9
  clear za_a za_b zb_a zb_b zc_a zc_b zx_a zx_b
  obtain ⟨za_a, za_b, la9⟩ := rcell f_a9
  obtain ⟨zb_a, zb_b, lb9⟩ := rcell f_b9
  obtain ⟨zx_a, zx_b, lx9⟩ := rcell f_x9
  obtain ⟨zc_a, zc_b, lc9⟩ := rcell f_c9
  go_wp2_with fail
  refine (c8 _).mono ?_
  rintro e w10 ⟨rfl, hb10⟩
  have f_a10 := kp hb10 (f_a9)
  have f_b10 := kp hb10 (f_b9)
  have f_x10 := kp hb10 (f_x9)
  have f_c10 := kp hb10 (f_c9)
  have hB10 := bB hB9 hb10
  clear za_a za_b zb_a zb_b zc_a zc_b zx_a zx_b
  obtain ⟨za_a, za_b, la10⟩ := rcell f_a10
  obtain ⟨zb_a, zb_b, lb10⟩ := rcell f_b10
  obtain ⟨zx_a, zx_b, lx10⟩ := rcell f_x10
  obtain ⟨zc_a, zc_b, lc10⟩ := rcell f_c10
  go_wp2
  go_ret
  exact ⟨by simp, hB10⟩

theorem line_slopes (N D N' D' : Int) (w : World) :
    Calls Try.prog 7 #[.agg #[.int .i64 N, .int .i64 D], .agg #[.int .i64 N', .int .i64 D']] w fun e w' => e = .returned (.bool true) ∧ Below w.heap.size w w' := by
  cases h : slB N D
  · exact slopes_1 N D N' D' h w
  · cases h' : slB N' D'
    · exact slopes_2 N D N' D' h h' w
    · rcases Int.lt_trichotomy (N * D') (N' * D) with ho | ho | ho
      · exact slopes_3 N D N' D' h h' ho w
      · exact slopes_4 N D N' D' h h' ho w
      · exact slopes_5 N D N' D' h h' ho w
end Go.Proofs.Ytlgjapjcdpikeaa
