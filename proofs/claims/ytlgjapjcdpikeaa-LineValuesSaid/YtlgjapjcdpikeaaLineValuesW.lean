/- LineValues (yearbooklaw05): its walk. -/
import Derived.Test.YtlgjapjcdpikeaaRef12
import Derived.Test.YtlgjapjcdpikeaaRef13
import Derived.Test.YtlgjapjcdpikeaaEnds2
import Derived.Test.YtlgjapjcdpikeaaFrame
set_option linter.unusedSimpArgs false
set_option linter.unusedVariables false
namespace Go.Proofs.Ytlgjapjcdpikeaa
open Go.RowKit

set_option maxRecDepth 100000 in
set_option maxHeartbeats 2000000 in
theorem lvalues_a (A R N D f t a b : Int) (c1 : ∀ w, Calls Try.prog 35 #[.agg #[.int .i64 A, .int .i64 R, .int .i64 N, .int .i64 D]] w fun e w' => e = .returned (.bool false) ∧ Below w.heap.size w w') (c2 : ∀ w, Calls Try.prog 21 #[.agg #[.int .i64 A, .int .i64 R, .int .i64 N, .int .i64 D]] w fun e w' => e = .returned (.int .i64 150) ∧ Below w.heap.size w w') (c3 : ∀ w, Calls Try.prog 20 #[.agg #[.int .i64 A, .int .i64 R, .int .i64 N, .int .i64 D], .int .i64 f] w fun e w' => e = .returned (.tuple #[.int .i64 0, .int .i64 150]) ∧ Below w.heap.size w w') (c4 : ∀ w, Calls Try.prog 36 #[.agg #[.int .i64 A, .int .i64 R, .int .i64 N, .int .i64 D], .int .i64 f, .int .i64 t] w fun e w' => e = .returned (.tuple #[.agg #[.int .i64 0, .int .i64 0], .int .i64 150]) ∧ Below w.heap.size w w') (c5 : ∀ w, Calls Try.prog 22 #[.agg #[.int .i64 A, .int .i64 R, .int .i64 N, .int .i64 D], .int .i64 f, .int .i64 a, .int .i64 b] w fun e w' => e = .returned (.bool false) ∧ Below w.heap.size w w') (w : World) :
    Calls Try.prog 9 #[.agg #[.int .i64 A, .int .i64 R, .int .i64 N, .int .i64 D], .int .i64 f, .int .i64 t, .int .i64 a, .int .i64 b] w fun e w' => e = .returned (.bool true) ∧ Below w.heap.size w w' := by
  go_enter Try.func9, Try.ntmps9
  go_wp2_with fail
  refine (wakes5 _).mono ?_
  rintro e w1 ⟨rfl, hb1⟩
  have f_l1 := kp hb1 (na w #[.int .i64 A, .int .i64 R, .int .i64 N, .int .i64 D] 23)
  have hB1 := bB (bA (b0 w) (.cells #[.int .i64 A, .int .i64 R, .int .i64 N, .int .i64 D] 23)) hb1
  obtain ⟨zl_a, zl_b, ll1⟩ := rcell f_l1
  go_wp2_with fail
  refine (c1 _).mono ?_
  rintro e w2 ⟨rfl, hb2⟩
  have f_l2 := kp hb2 (f_l1)
  have hB2 := bB hB1 hb2
  clear zl_a zl_b
  obtain ⟨zl_a, zl_b, ll2⟩ := rcell f_l2
  go_wp2_with fail
  refine (c2 _).mono ?_
  rintro e w3 ⟨rfl, hb3⟩
  have f_l3 := kp hb3 (f_l2)
  have hB3 := bB hB2 hb3
  clear zl_a zl_b
  obtain ⟨zl_a, zl_b, ll3⟩ := rcell f_l3
  go_wp2_with fail
  refine (c3 _).mono ?_
  rintro e w4 ⟨rfl, hb4⟩
  have f_l4 := kp hb4 (f_l3)
  have hB4 := bB hB3 hb4
  clear zl_a zl_b
  obtain ⟨zl_a, zl_b, ll4⟩ := rcell f_l4
  go_wp2_with fail
  refine (c4 _).mono ?_
  rintro e w5 ⟨rfl, hb5⟩
  have f_l5 := kp hb5 (f_l4)
  have hB5 := bB hB4 hb5
  clear zl_a zl_b
  obtain ⟨zl_a, zl_b, ll5⟩ := rcell f_l5
  go_wp2_with fail
  refine (c5 _).mono ?_
  rintro e w6 ⟨rfl, hb6⟩
  have f_l6 := kp hb6 (ka (f_l5) (.cells #[.int .i64 0, .int .i64 0] 60))
  have f_s6 := kp hb6 (na w5 #[.int .i64 0, .int .i64 0] 60)
  have hB6 := bB (bA hB5 (.cells #[.int .i64 0, .int .i64 0] 60)) hb6
  clear zl_a zl_b
  obtain ⟨zl_a, zl_b, ll6⟩ := rcell f_l6
  obtain ⟨zs_a, zs_b, ls6⟩ := rcell f_s6
  go_wp2
  go_ret
  exact ⟨by simp, hB6⟩

set_option maxRecDepth 100000 in
set_option maxHeartbeats 2000000 in
theorem lvalues_b (A R N D f t a b : Int) (c1 : ∀ w, Calls Try.prog 35 #[.agg #[.int .i64 A, .int .i64 R, .int .i64 N, .int .i64 D]] w fun e w' => e = .returned (.bool true) ∧ Below w.heap.size w w') (c2 : ∀ w, Calls Try.prog 21 #[.agg #[.int .i64 A, .int .i64 R, .int .i64 N, .int .i64 D]] w fun e w' => e = .returned (.int .i64 0) ∧ Below w.heap.size w w') (c3 : ∀ w, Calls Try.prog 20 #[.agg #[.int .i64 A, .int .i64 R, .int .i64 N, .int .i64 D], .int .i64 f] w fun e w' => e = .returned (.tuple #[.int .i64 0, .int .i64 2]) ∧ Below w.heap.size w w') (c4 : ∀ w, Calls Try.prog 36 #[.agg #[.int .i64 A, .int .i64 R, .int .i64 N, .int .i64 D], .int .i64 f, .int .i64 t] w fun e w' => e = .returned (.tuple #[.agg #[.int .i64 0, .int .i64 0], .int .i64 2]) ∧ Below w.heap.size w w') (c5 : ∀ w, Calls Try.prog 22 #[.agg #[.int .i64 A, .int .i64 R, .int .i64 N, .int .i64 D], .int .i64 f, .int .i64 a, .int .i64 b] w fun e w' => e = .returned (.bool false) ∧ Below w.heap.size w w') (c6 : ∀ w, Calls Try.prog 37 #[.int .i64 f] w fun e w' => e = .returned (.bool false) ∧ Below w.heap.size w w') (w : World) :
    Calls Try.prog 9 #[.agg #[.int .i64 A, .int .i64 R, .int .i64 N, .int .i64 D], .int .i64 f, .int .i64 t, .int .i64 a, .int .i64 b] w fun e w' => e = .returned (.bool true) ∧ Below w.heap.size w w' := by
  go_enter Try.func9, Try.ntmps9
  go_wp2_with fail
  refine (wakes5 _).mono ?_
  rintro e w1 ⟨rfl, hb1⟩
  have f_l1 := kp hb1 (na w #[.int .i64 A, .int .i64 R, .int .i64 N, .int .i64 D] 23)
  have hB1 := bB (bA (b0 w) (.cells #[.int .i64 A, .int .i64 R, .int .i64 N, .int .i64 D] 23)) hb1
  obtain ⟨zl_a, zl_b, ll1⟩ := rcell f_l1
  go_wp2_with fail
  refine (c1 _).mono ?_
  rintro e w2 ⟨rfl, hb2⟩
  have f_l2 := kp hb2 (f_l1)
  have hB2 := bB hB1 hb2
  clear zl_a zl_b
  obtain ⟨zl_a, zl_b, ll2⟩ := rcell f_l2
  go_wp2_with fail
  refine (c2 _).mono ?_
  rintro e w3 ⟨rfl, hb3⟩
  have f_l3 := kp hb3 (f_l2)
  have hB3 := bB hB2 hb3
  clear zl_a zl_b
  obtain ⟨zl_a, zl_b, ll3⟩ := rcell f_l3
  go_wp2_with fail
  refine (c3 _).mono ?_
  rintro e w4 ⟨rfl, hb4⟩
  have f_l4 := kp hb4 (f_l3)
  have hB4 := bB hB3 hb4
  clear zl_a zl_b
  obtain ⟨zl_a, zl_b, ll4⟩ := rcell f_l4
  go_wp2_with fail
  refine (c4 _).mono ?_
  rintro e w5 ⟨rfl, hb5⟩
  have f_l5 := kp hb5 (f_l4)
  have hB5 := bB hB4 hb5
  clear zl_a zl_b
  obtain ⟨zl_a, zl_b, ll5⟩ := rcell f_l5
  go_wp2_with fail
  refine (c6 _).mono ?_
  rintro e w6 ⟨rfl, hb6⟩
  have f_l6 := kp hb6 (ka (f_l5) (.cells #[.int .i64 0, .int .i64 0] 60))
  have f_s6 := kp hb6 (na w5 #[.int .i64 0, .int .i64 0] 60)
  have hB6 := bB (bA hB5 (.cells #[.int .i64 0, .int .i64 0] 60)) hb6
  clear zl_a zl_b
  obtain ⟨zl_a, zl_b, ll6⟩ := rcell f_l6
  obtain ⟨zs_a, zs_b, ls6⟩ := rcell f_s6
  go_wp2_with fail
  refine (c5 _).mono ?_
  rintro e w7 ⟨rfl, hb7⟩
  have f_l7 := kp hb7 (f_l6)
  have f_s7 := kp hb7 (f_s6)
  have hB7 := bB hB6 hb7
  clear zl_a zl_b zs_a zs_b
  obtain ⟨zl_a, zl_b, ll7⟩ := rcell f_l7
  obtain ⟨zs_a, zs_b, ls7⟩ := rcell f_s7
  go_wp2
  go_ret
  exact ⟨by simp, hB7⟩

set_option maxRecDepth 100000 in
set_option maxHeartbeats 2000000 in
theorem lvalues_Tt (A R N D f t a b q u : Int) (g : Bool) (c1 : ∀ w, Calls Try.prog 35 #[.agg #[.int .i64 A, .int .i64 R, .int .i64 N, .int .i64 D]] w fun e w' => e = .returned (.bool true) ∧ Below w.heap.size w w') (c2 : ∀ w, Calls Try.prog 21 #[.agg #[.int .i64 A, .int .i64 R, .int .i64 N, .int .i64 D]] w fun e w' => e = .returned (.int .i64 0) ∧ Below w.heap.size w w') (c3 : ∀ w, Calls Try.prog 20 #[.agg #[.int .i64 A, .int .i64 R, .int .i64 N, .int .i64 D], .int .i64 f] w fun e w' => e = .returned (.tuple #[.int .i64 q, .int .i64 0]) ∧ Below w.heap.size w w') (c4 : ∀ w, Calls Try.prog 36 #[.agg #[.int .i64 A, .int .i64 R, .int .i64 N, .int .i64 D], .int .i64 f, .int .i64 t] w fun e w' => e = .returned (.tuple #[.agg #[.int .i64 0, .int .i64 0], .int .i64 2]) ∧ Below w.heap.size w w') (c5 : ∀ w, Calls Try.prog 22 #[.agg #[.int .i64 A, .int .i64 R, .int .i64 N, .int .i64 D], .int .i64 f, .int .i64 a, .int .i64 b] w fun e w' => e = .returned (.bool g) ∧ Below w.heap.size w w') (c6 : ∀ w, Calls Try.prog 37 #[.int .i64 f] w fun e w' => e = .returned (.bool true) ∧ Below w.heap.size w w') (c7 : ∀ w, Calls Try.prog 38 #[.agg #[.int .i64 A, .int .i64 R, .int .i64 N, .int .i64 D], .int .i64 f] w fun e w' => e = .returned (.tuple #[.int .i64 q, .bool true]) ∧ Below w.heap.size w w') (c8 : ∀ w, Calls Try.prog 39 #[.agg #[.int .i64 A, .int .i64 R, .int .i64 N, .int .i64 D], .int .i64 f, .int .i64 a, .int .i64 b] w fun e w' => e = .returned (.bool g) ∧ Below w.heap.size w w') (c9 : ∀ w, Calls Try.prog 37 #[.int .i64 t] w fun e w' => e = .returned (.bool false) ∧ Below w.heap.size w w') (w : World) :
    Calls Try.prog 9 #[.agg #[.int .i64 A, .int .i64 R, .int .i64 N, .int .i64 D], .int .i64 f, .int .i64 t, .int .i64 a, .int .i64 b] w fun e w' => e = .returned (.bool true) ∧ Below w.heap.size w w' := by
  go_enter Try.func9, Try.ntmps9
  go_wp2_with fail
  refine (wakes5 _).mono ?_
  rintro e w1 ⟨rfl, hb1⟩
  have f_l1 := kp hb1 (na w #[.int .i64 A, .int .i64 R, .int .i64 N, .int .i64 D] 23)
  have hB1 := bB (bA (b0 w) (.cells #[.int .i64 A, .int .i64 R, .int .i64 N, .int .i64 D] 23)) hb1
  obtain ⟨zl_a, zl_b, ll1⟩ := rcell f_l1
  go_wp2_with fail
  refine (c1 _).mono ?_
  rintro e w2 ⟨rfl, hb2⟩
  have f_l2 := kp hb2 (f_l1)
  have hB2 := bB hB1 hb2
  clear zl_a zl_b
  obtain ⟨zl_a, zl_b, ll2⟩ := rcell f_l2
  go_wp2_with fail
  refine (c2 _).mono ?_
  rintro e w3 ⟨rfl, hb3⟩
  have f_l3 := kp hb3 (f_l2)
  have hB3 := bB hB2 hb3
  clear zl_a zl_b
  obtain ⟨zl_a, zl_b, ll3⟩ := rcell f_l3
  go_wp2_with fail
  refine (c3 _).mono ?_
  rintro e w4 ⟨rfl, hb4⟩
  have f_l4 := kp hb4 (f_l3)
  have hB4 := bB hB3 hb4
  clear zl_a zl_b
  obtain ⟨zl_a, zl_b, ll4⟩ := rcell f_l4
  go_wp2_with fail
  refine (c4 _).mono ?_
  rintro e w5 ⟨rfl, hb5⟩
  have f_l5 := kp hb5 (f_l4)
  have hB5 := bB hB4 hb5
  clear zl_a zl_b
  obtain ⟨zl_a, zl_b, ll5⟩ := rcell f_l5
  go_wp2_with fail
  refine (c6 _).mono ?_
  rintro e w6 ⟨rfl, hb6⟩
  have f_l6 := kp hb6 (ka (f_l5) (.cells #[.int .i64 0, .int .i64 0] 60))
  have f_s6 := kp hb6 (na w5 #[.int .i64 0, .int .i64 0] 60)
  have hB6 := bB (bA hB5 (.cells #[.int .i64 0, .int .i64 0] 60)) hb6
  clear zl_a zl_b
  obtain ⟨zl_a, zl_b, ll6⟩ := rcell f_l6
  obtain ⟨zs_a, zs_b, ls6⟩ := rcell f_s6
  go_wp2_with fail
  refine (c7 _).mono ?_
  rintro e w7 ⟨rfl, hb7⟩
  have f_l7 := kp hb7 (f_l6)
  have f_s7 := kp hb7 (f_s6)
  have hB7 := bB hB6 hb7
  clear zl_a zl_b zs_a zs_b
  obtain ⟨zl_a, zl_b, ll7⟩ := rcell f_l7
  obtain ⟨zs_a, zs_b, ls7⟩ := rcell f_s7
  go_wp2_with fail
  refine Abs.wp_region_abs (Abs.cls0 _) [0, 1, 2, 3, 4, 5, 6, 7, 8, 9, 10, 11, 12, 13, 14, 15, 16, 17, 18, 19, 20, 21, 22, 23, 24, 25, 26, 27, 28, 29] (by kernel_rfl) (by kernel_rfl) (Below.refl _ _).drew ?_
  repeat (first | (refine Abs.step_pure rfl rfl (fun K hK => ?_); go_simp; (try go_bits); (first | refine hK _ _ ?_ | (simp only [↓IntWalk.iteOmega]; go_simp; (try go_bits); refine hK _ _ ?_)); clear hK K) | (refine Abs.step_load (v := ?_) rfl rfl (by kernel_rfl) rfl (fun w0 hI => ?_) (fun K hK => ?_); rotate_left; (· have z0 := (rcell (kp hI (f_l7))).1; go_simp; rfl); (simp only [Act.put, List.setIfInBounds_toArray, List.set_cons_zero, List.set_cons_succ]; refine hK _ _ ?_; clear hK K)) | (refine Abs.step_skip rfl rfl (fun K hK => ?_); (simp only [Act.put, List.setIfInBounds_toArray, List.set_cons_zero, List.set_cons_succ]; refine hK _ _ ?_; clear hK K)))
  (refine Abs.step_call_val (f := ?_) (args := ?_) (v := ?_) rfl rfl rfl rfl (fun w0 => ?_) (fun w0 hI => ?_) (fun K hK => ?_); rotate_left 3; (· go_simp; (constructor <;> rfl)); (· exact c5 _); (simp only [Act.put, List.setIfInBounds_toArray, List.set_cons_zero, List.set_cons_succ]; refine hK _ _ ?_; clear hK K))
  repeat (first | (refine Abs.step_pure rfl rfl (fun K hK => ?_); go_simp; (try go_bits); (first | refine hK _ _ ?_ | (simp only [↓IntWalk.iteOmega]; go_simp; (try go_bits); refine hK _ _ ?_)); clear hK K) | (refine Abs.step_load (v := ?_) rfl rfl (by kernel_rfl) rfl (fun w0 hI => ?_) (fun K hK => ?_); rotate_left; (· have z0 := (rcell (kp hI (f_l7))).1; go_simp; rfl); (simp only [Act.put, List.setIfInBounds_toArray, List.set_cons_zero, List.set_cons_succ]; refine hK _ _ ?_; clear hK K)) | (refine Abs.step_skip rfl rfl (fun K hK => ?_); (simp only [Act.put, List.setIfInBounds_toArray, List.set_cons_zero, List.set_cons_succ]; refine hK _ _ ?_; clear hK K)))
  (refine Abs.step_call_val (f := ?_) (args := ?_) (v := ?_) rfl rfl rfl rfl (fun w0 => ?_) (fun w0 hI => ?_) (fun K hK => ?_); rotate_left 3; (· go_simp; (constructor <;> rfl)); (· exact c8 _); (simp only [Act.put, List.setIfInBounds_toArray, List.set_cons_zero, List.set_cons_succ]; refine hK _ _ ?_; clear hK K))
  repeat (first | (refine Abs.step_pure rfl rfl (fun K hK => ?_); go_simp; (try go_bits); (first | refine hK _ _ ?_ | (simp only [↓IntWalk.iteOmega]; go_simp; (try go_bits); refine hK _ _ ?_)); clear hK K) | (refine Abs.step_load (v := ?_) rfl rfl (by kernel_rfl) rfl (fun w0 hI => ?_) (fun K hK => ?_); rotate_left; (· have z0 := (rcell (kp hI (f_l7))).1; go_simp; rfl); (simp only [Act.put, List.setIfInBounds_toArray, List.set_cons_zero, List.set_cons_succ]; refine hK _ _ ?_; clear hK K)) | (refine Abs.step_skip rfl rfl (fun K hK => ?_); (simp only [Act.put, List.setIfInBounds_toArray, List.set_cons_zero, List.set_cons_succ]; refine hK _ _ ?_; clear hK K)))
  intro w9 hb9 hx0 hx1 hx2
  clear hx0 hx1 hx2
  simp only [Abs.T_setF, Abs.T_addA, Abs.T_push, Abs.T_start]
  have f_l9 := kp hb9 (f_l7)
  have f_s9 := kp hb9 (f_s7)
  have hB9 := bB hB7 hb9
  clear zl_a zl_b zs_a zs_b
  obtain ⟨zl_a, zl_b, ll9⟩ := rcell f_l9
  obtain ⟨zs_a, zs_b, ls9⟩ := rcell f_s9
  go_wp2_with fail
  refine (c9 _).mono ?_
  rintro e w10 ⟨rfl, hb10⟩
  have f_l10 := kp hb10 (f_l9)
  have f_s10 := kp hb10 (f_s9)
  have hB10 := bB hB9 hb10
  clear zl_a zl_b zs_a zs_b
  obtain ⟨zl_a, zl_b, ll10⟩ := rcell f_l10
  obtain ⟨zs_a, zs_b, ls10⟩ := rcell f_s10
  go_wp2
  go_ret
  exact ⟨by simp, hB10⟩

set_option maxRecDepth 100000 in
set_option maxHeartbeats 2000000 in
theorem lvalues_Gt (A R N D f t a b q u : Int) (g : Bool) (ht : t < f) (c1 : ∀ w, Calls Try.prog 35 #[.agg #[.int .i64 A, .int .i64 R, .int .i64 N, .int .i64 D]] w fun e w' => e = .returned (.bool true) ∧ Below w.heap.size w w') (c2 : ∀ w, Calls Try.prog 21 #[.agg #[.int .i64 A, .int .i64 R, .int .i64 N, .int .i64 D]] w fun e w' => e = .returned (.int .i64 0) ∧ Below w.heap.size w w') (c3 : ∀ w, Calls Try.prog 20 #[.agg #[.int .i64 A, .int .i64 R, .int .i64 N, .int .i64 D], .int .i64 f] w fun e w' => e = .returned (.tuple #[.int .i64 q, .int .i64 0]) ∧ Below w.heap.size w w') (c4 : ∀ w, Calls Try.prog 36 #[.agg #[.int .i64 A, .int .i64 R, .int .i64 N, .int .i64 D], .int .i64 f, .int .i64 t] w fun e w' => e = .returned (.tuple #[.agg #[.int .i64 0, .int .i64 0], .int .i64 2]) ∧ Below w.heap.size w w') (c5 : ∀ w, Calls Try.prog 22 #[.agg #[.int .i64 A, .int .i64 R, .int .i64 N, .int .i64 D], .int .i64 f, .int .i64 a, .int .i64 b] w fun e w' => e = .returned (.bool g) ∧ Below w.heap.size w w') (c6 : ∀ w, Calls Try.prog 37 #[.int .i64 f] w fun e w' => e = .returned (.bool true) ∧ Below w.heap.size w w') (c7 : ∀ w, Calls Try.prog 38 #[.agg #[.int .i64 A, .int .i64 R, .int .i64 N, .int .i64 D], .int .i64 f] w fun e w' => e = .returned (.tuple #[.int .i64 q, .bool true]) ∧ Below w.heap.size w w') (c8 : ∀ w, Calls Try.prog 39 #[.agg #[.int .i64 A, .int .i64 R, .int .i64 N, .int .i64 D], .int .i64 f, .int .i64 a, .int .i64 b] w fun e w' => e = .returned (.bool g) ∧ Below w.heap.size w w') (c9 : ∀ w, Calls Try.prog 37 #[.int .i64 t] w fun e w' => e = .returned (.bool true) ∧ Below w.heap.size w w') (w : World) :
    Calls Try.prog 9 #[.agg #[.int .i64 A, .int .i64 R, .int .i64 N, .int .i64 D], .int .i64 f, .int .i64 t, .int .i64 a, .int .i64 b] w fun e w' => e = .returned (.bool true) ∧ Below w.heap.size w w' := by
  go_enter Try.func9, Try.ntmps9
  go_wp2_with fail
  refine (wakes5 _).mono ?_
  rintro e w1 ⟨rfl, hb1⟩
  have f_l1 := kp hb1 (na w #[.int .i64 A, .int .i64 R, .int .i64 N, .int .i64 D] 23)
  have hB1 := bB (bA (b0 w) (.cells #[.int .i64 A, .int .i64 R, .int .i64 N, .int .i64 D] 23)) hb1
  obtain ⟨zl_a, zl_b, ll1⟩ := rcell f_l1
  go_wp2_with fail
  refine (c1 _).mono ?_
  rintro e w2 ⟨rfl, hb2⟩
  have f_l2 := kp hb2 (f_l1)
  have hB2 := bB hB1 hb2
  clear zl_a zl_b
  obtain ⟨zl_a, zl_b, ll2⟩ := rcell f_l2
  go_wp2_with fail
  refine (c2 _).mono ?_
  rintro e w3 ⟨rfl, hb3⟩
  have f_l3 := kp hb3 (f_l2)
  have hB3 := bB hB2 hb3
  clear zl_a zl_b
  obtain ⟨zl_a, zl_b, ll3⟩ := rcell f_l3
  go_wp2_with fail
  refine (c3 _).mono ?_
  rintro e w4 ⟨rfl, hb4⟩
  have f_l4 := kp hb4 (f_l3)
  have hB4 := bB hB3 hb4
  clear zl_a zl_b
  obtain ⟨zl_a, zl_b, ll4⟩ := rcell f_l4
  go_wp2_with fail
  refine (c4 _).mono ?_
  rintro e w5 ⟨rfl, hb5⟩
  have f_l5 := kp hb5 (f_l4)
  have hB5 := bB hB4 hb5
  clear zl_a zl_b
  obtain ⟨zl_a, zl_b, ll5⟩ := rcell f_l5
  go_wp2_with fail
  refine (c6 _).mono ?_
  rintro e w6 ⟨rfl, hb6⟩
  have f_l6 := kp hb6 (ka (f_l5) (.cells #[.int .i64 0, .int .i64 0] 60))
  have f_s6 := kp hb6 (na w5 #[.int .i64 0, .int .i64 0] 60)
  have hB6 := bB (bA hB5 (.cells #[.int .i64 0, .int .i64 0] 60)) hb6
  clear zl_a zl_b
  obtain ⟨zl_a, zl_b, ll6⟩ := rcell f_l6
  obtain ⟨zs_a, zs_b, ls6⟩ := rcell f_s6
  go_wp2_with fail
  refine (c7 _).mono ?_
  rintro e w7 ⟨rfl, hb7⟩
  have f_l7 := kp hb7 (f_l6)
  have f_s7 := kp hb7 (f_s6)
  have hB7 := bB hB6 hb7
  clear zl_a zl_b zs_a zs_b
  obtain ⟨zl_a, zl_b, ll7⟩ := rcell f_l7
  obtain ⟨zs_a, zs_b, ls7⟩ := rcell f_s7
  go_wp2_with fail
  refine Abs.wp_region_abs (Abs.cls0 _) [0, 1, 2, 3, 4, 5, 6, 7, 8, 9, 10, 11, 12, 13, 14, 15, 16, 17, 18, 19, 20, 21, 22, 23, 24, 25, 26, 27, 28, 29] (by kernel_rfl) (by kernel_rfl) (Below.refl _ _).drew ?_
  repeat (first | (refine Abs.step_pure rfl rfl (fun K hK => ?_); go_simp; (try go_bits); (first | refine hK _ _ ?_ | (simp only [↓IntWalk.iteOmega]; go_simp; (try go_bits); refine hK _ _ ?_)); clear hK K) | (refine Abs.step_load (v := ?_) rfl rfl (by kernel_rfl) rfl (fun w0 hI => ?_) (fun K hK => ?_); rotate_left; (· have z0 := (rcell (kp hI (f_l7))).1; go_simp; rfl); (simp only [Act.put, List.setIfInBounds_toArray, List.set_cons_zero, List.set_cons_succ]; refine hK _ _ ?_; clear hK K)) | (refine Abs.step_skip rfl rfl (fun K hK => ?_); (simp only [Act.put, List.setIfInBounds_toArray, List.set_cons_zero, List.set_cons_succ]; refine hK _ _ ?_; clear hK K)))
  (refine Abs.step_call_val (f := ?_) (args := ?_) (v := ?_) rfl rfl rfl rfl (fun w0 => ?_) (fun w0 hI => ?_) (fun K hK => ?_); rotate_left 3; (· go_simp; (constructor <;> rfl)); (· exact c5 _); (simp only [Act.put, List.setIfInBounds_toArray, List.set_cons_zero, List.set_cons_succ]; refine hK _ _ ?_; clear hK K))
  repeat (first | (refine Abs.step_pure rfl rfl (fun K hK => ?_); go_simp; (try go_bits); (first | refine hK _ _ ?_ | (simp only [↓IntWalk.iteOmega]; go_simp; (try go_bits); refine hK _ _ ?_)); clear hK K) | (refine Abs.step_load (v := ?_) rfl rfl (by kernel_rfl) rfl (fun w0 hI => ?_) (fun K hK => ?_); rotate_left; (· have z0 := (rcell (kp hI (f_l7))).1; go_simp; rfl); (simp only [Act.put, List.setIfInBounds_toArray, List.set_cons_zero, List.set_cons_succ]; refine hK _ _ ?_; clear hK K)) | (refine Abs.step_skip rfl rfl (fun K hK => ?_); (simp only [Act.put, List.setIfInBounds_toArray, List.set_cons_zero, List.set_cons_succ]; refine hK _ _ ?_; clear hK K)))
  (refine Abs.step_call_val (f := ?_) (args := ?_) (v := ?_) rfl rfl rfl rfl (fun w0 => ?_) (fun w0 hI => ?_) (fun K hK => ?_); rotate_left 3; (· go_simp; (constructor <;> rfl)); (· exact c8 _); (simp only [Act.put, List.setIfInBounds_toArray, List.set_cons_zero, List.set_cons_succ]; refine hK _ _ ?_; clear hK K))
  repeat (first | (refine Abs.step_pure rfl rfl (fun K hK => ?_); go_simp; (try go_bits); (first | refine hK _ _ ?_ | (simp only [↓IntWalk.iteOmega]; go_simp; (try go_bits); refine hK _ _ ?_)); clear hK K) | (refine Abs.step_load (v := ?_) rfl rfl (by kernel_rfl) rfl (fun w0 hI => ?_) (fun K hK => ?_); rotate_left; (· have z0 := (rcell (kp hI (f_l7))).1; go_simp; rfl); (simp only [Act.put, List.setIfInBounds_toArray, List.set_cons_zero, List.set_cons_succ]; refine hK _ _ ?_; clear hK K)) | (refine Abs.step_skip rfl rfl (fun K hK => ?_); (simp only [Act.put, List.setIfInBounds_toArray, List.set_cons_zero, List.set_cons_succ]; refine hK _ _ ?_; clear hK K)))
  intro w9 hb9 hx0 hx1 hx2
  clear hx0 hx1 hx2
  simp only [Abs.T_setF, Abs.T_addA, Abs.T_push, Abs.T_start]
  have f_l9 := kp hb9 (f_l7)
  have f_s9 := kp hb9 (f_s7)
  have hB9 := bB hB7 hb9
  clear zl_a zl_b zs_a zs_b
  obtain ⟨zl_a, zl_b, ll9⟩ := rcell f_l9
  obtain ⟨zs_a, zs_b, ls9⟩ := rcell f_s9
  go_wp2_with fail
  refine (c9 _).mono ?_
  rintro e w10 ⟨rfl, hb10⟩
  have f_l10 := kp hb10 (f_l9)
  have f_s10 := kp hb10 (f_s9)
  have hB10 := bB hB9 hb10
  clear zl_a zl_b zs_a zs_b
  obtain ⟨zl_a, zl_b, ll10⟩ := rcell f_l10
  obtain ⟨zs_a, zs_b, ls10⟩ := rcell f_s10
  go_wp2
  go_ret
  exact ⟨by simp, hB10⟩

set_option maxRecDepth 100000 in
set_option maxHeartbeats 2000000 in
theorem lvalues_Ft (A R N D f t a b q u : Int) (g : Bool) (k : Bool) (ht : f ≤ t) (c1 : ∀ w, Calls Try.prog 35 #[.agg #[.int .i64 A, .int .i64 R, .int .i64 N, .int .i64 D]] w fun e w' => e = .returned (.bool true) ∧ Below w.heap.size w w') (c2 : ∀ w, Calls Try.prog 21 #[.agg #[.int .i64 A, .int .i64 R, .int .i64 N, .int .i64 D]] w fun e w' => e = .returned (.int .i64 0) ∧ Below w.heap.size w w') (c3 : ∀ w, Calls Try.prog 20 #[.agg #[.int .i64 A, .int .i64 R, .int .i64 N, .int .i64 D], .int .i64 f] w fun e w' => e = .returned (.tuple #[.int .i64 q, .int .i64 0]) ∧ Below w.heap.size w w') (c4 : ∀ w, Calls Try.prog 36 #[.agg #[.int .i64 A, .int .i64 R, .int .i64 N, .int .i64 D], .int .i64 f, .int .i64 t] w fun e w' => e = .returned (.tuple #[.agg #[.int .i64 0, .int .i64 0], .int .i64 5]) ∧ Below w.heap.size w w') (c5 : ∀ w, Calls Try.prog 22 #[.agg #[.int .i64 A, .int .i64 R, .int .i64 N, .int .i64 D], .int .i64 f, .int .i64 a, .int .i64 b] w fun e w' => e = .returned (.bool g) ∧ Below w.heap.size w w') (c6 : ∀ w, Calls Try.prog 37 #[.int .i64 f] w fun e w' => e = .returned (.bool true) ∧ Below w.heap.size w w') (c7 : ∀ w, Calls Try.prog 38 #[.agg #[.int .i64 A, .int .i64 R, .int .i64 N, .int .i64 D], .int .i64 f] w fun e w' => e = .returned (.tuple #[.int .i64 q, .bool true]) ∧ Below w.heap.size w w') (c8 : ∀ w, Calls Try.prog 39 #[.agg #[.int .i64 A, .int .i64 R, .int .i64 N, .int .i64 D], .int .i64 f, .int .i64 a, .int .i64 b] w fun e w' => e = .returned (.bool g) ∧ Below w.heap.size w w') (c9 : ∀ w, Calls Try.prog 37 #[.int .i64 t] w fun e w' => e = .returned (.bool true) ∧ Below w.heap.size w w') (c10 : ∀ w, Calls Try.prog 38 #[.agg #[.int .i64 A, .int .i64 R, .int .i64 N, .int .i64 D], .int .i64 t] w fun e w' => e = .returned (.tuple #[.int .i64 0, .bool false]) ∧ Below w.heap.size w w') (w : World) :
    Calls Try.prog 9 #[.agg #[.int .i64 A, .int .i64 R, .int .i64 N, .int .i64 D], .int .i64 f, .int .i64 t, .int .i64 a, .int .i64 b] w fun e w' => e = .returned (.bool true) ∧ Below w.heap.size w w' := by
  go_enter Try.func9, Try.ntmps9
  go_wp2_with fail
  refine (wakes5 _).mono ?_
  rintro e w1 ⟨rfl, hb1⟩
  have f_l1 := kp hb1 (na w #[.int .i64 A, .int .i64 R, .int .i64 N, .int .i64 D] 23)
  have hB1 := bB (bA (b0 w) (.cells #[.int .i64 A, .int .i64 R, .int .i64 N, .int .i64 D] 23)) hb1
  obtain ⟨zl_a, zl_b, ll1⟩ := rcell f_l1
  go_wp2_with fail
  refine (c1 _).mono ?_
  rintro e w2 ⟨rfl, hb2⟩
  have f_l2 := kp hb2 (f_l1)
  have hB2 := bB hB1 hb2
  clear zl_a zl_b
  obtain ⟨zl_a, zl_b, ll2⟩ := rcell f_l2
  go_wp2_with fail
  refine (c2 _).mono ?_
  rintro e w3 ⟨rfl, hb3⟩
  have f_l3 := kp hb3 (f_l2)
  have hB3 := bB hB2 hb3
  clear zl_a zl_b
  obtain ⟨zl_a, zl_b, ll3⟩ := rcell f_l3
  go_wp2_with fail
  refine (c3 _).mono ?_
  rintro e w4 ⟨rfl, hb4⟩
  have f_l4 := kp hb4 (f_l3)
  have hB4 := bB hB3 hb4
  clear zl_a zl_b
  obtain ⟨zl_a, zl_b, ll4⟩ := rcell f_l4
  go_wp2_with fail
  refine (c4 _).mono ?_
  rintro e w5 ⟨rfl, hb5⟩
  have f_l5 := kp hb5 (f_l4)
  have hB5 := bB hB4 hb5
  clear zl_a zl_b
  obtain ⟨zl_a, zl_b, ll5⟩ := rcell f_l5
  go_wp2_with fail
  refine (c6 _).mono ?_
  rintro e w6 ⟨rfl, hb6⟩
  have f_l6 := kp hb6 (ka (f_l5) (.cells #[.int .i64 0, .int .i64 0] 60))
  have f_s6 := kp hb6 (na w5 #[.int .i64 0, .int .i64 0] 60)
  have hB6 := bB (bA hB5 (.cells #[.int .i64 0, .int .i64 0] 60)) hb6
  clear zl_a zl_b
  obtain ⟨zl_a, zl_b, ll6⟩ := rcell f_l6
  obtain ⟨zs_a, zs_b, ls6⟩ := rcell f_s6
  go_wp2_with fail
  refine (c7 _).mono ?_
  rintro e w7 ⟨rfl, hb7⟩
  have f_l7 := kp hb7 (f_l6)
  have f_s7 := kp hb7 (f_s6)
  have hB7 := bB hB6 hb7
  clear zl_a zl_b zs_a zs_b
  obtain ⟨zl_a, zl_b, ll7⟩ := rcell f_l7
  obtain ⟨zs_a, zs_b, ls7⟩ := rcell f_s7
  go_wp2_with fail
  refine Abs.wp_region_abs (Abs.cls0 _) [0, 1, 2, 3, 4, 5, 6, 7, 8, 9, 10, 11, 12, 13, 14, 15, 16, 17, 18, 19, 20, 21, 22, 23, 24, 25, 26, 27, 28, 29] (by kernel_rfl) (by kernel_rfl) (Below.refl _ _).drew ?_
  repeat (first | (refine Abs.step_pure rfl rfl (fun K hK => ?_); go_simp; (try go_bits); (first | refine hK _ _ ?_ | (simp only [↓IntWalk.iteOmega]; go_simp; (try go_bits); refine hK _ _ ?_)); clear hK K) | (refine Abs.step_load (v := ?_) rfl rfl (by kernel_rfl) rfl (fun w0 hI => ?_) (fun K hK => ?_); rotate_left; (· have z0 := (rcell (kp hI (f_l7))).1; go_simp; rfl); (simp only [Act.put, List.setIfInBounds_toArray, List.set_cons_zero, List.set_cons_succ]; refine hK _ _ ?_; clear hK K)) | (refine Abs.step_skip rfl rfl (fun K hK => ?_); (simp only [Act.put, List.setIfInBounds_toArray, List.set_cons_zero, List.set_cons_succ]; refine hK _ _ ?_; clear hK K)))
  (refine Abs.step_call_val (f := ?_) (args := ?_) (v := ?_) rfl rfl rfl rfl (fun w0 => ?_) (fun w0 hI => ?_) (fun K hK => ?_); rotate_left 3; (· go_simp; (constructor <;> rfl)); (· exact c5 _); (simp only [Act.put, List.setIfInBounds_toArray, List.set_cons_zero, List.set_cons_succ]; refine hK _ _ ?_; clear hK K))
  repeat (first | (refine Abs.step_pure rfl rfl (fun K hK => ?_); go_simp; (try go_bits); (first | refine hK _ _ ?_ | (simp only [↓IntWalk.iteOmega]; go_simp; (try go_bits); refine hK _ _ ?_)); clear hK K) | (refine Abs.step_load (v := ?_) rfl rfl (by kernel_rfl) rfl (fun w0 hI => ?_) (fun K hK => ?_); rotate_left; (· have z0 := (rcell (kp hI (f_l7))).1; go_simp; rfl); (simp only [Act.put, List.setIfInBounds_toArray, List.set_cons_zero, List.set_cons_succ]; refine hK _ _ ?_; clear hK K)) | (refine Abs.step_skip rfl rfl (fun K hK => ?_); (simp only [Act.put, List.setIfInBounds_toArray, List.set_cons_zero, List.set_cons_succ]; refine hK _ _ ?_; clear hK K)))
  (refine Abs.step_call_val (f := ?_) (args := ?_) (v := ?_) rfl rfl rfl rfl (fun w0 => ?_) (fun w0 hI => ?_) (fun K hK => ?_); rotate_left 3; (· go_simp; (constructor <;> rfl)); (· exact c8 _); (simp only [Act.put, List.setIfInBounds_toArray, List.set_cons_zero, List.set_cons_succ]; refine hK _ _ ?_; clear hK K))
  repeat (first | (refine Abs.step_pure rfl rfl (fun K hK => ?_); go_simp; (try go_bits); (first | refine hK _ _ ?_ | (simp only [↓IntWalk.iteOmega]; go_simp; (try go_bits); refine hK _ _ ?_)); clear hK K) | (refine Abs.step_load (v := ?_) rfl rfl (by kernel_rfl) rfl (fun w0 hI => ?_) (fun K hK => ?_); rotate_left; (· have z0 := (rcell (kp hI (f_l7))).1; go_simp; rfl); (simp only [Act.put, List.setIfInBounds_toArray, List.set_cons_zero, List.set_cons_succ]; refine hK _ _ ?_; clear hK K)) | (refine Abs.step_skip rfl rfl (fun K hK => ?_); (simp only [Act.put, List.setIfInBounds_toArray, List.set_cons_zero, List.set_cons_succ]; refine hK _ _ ?_; clear hK K)))
  intro w9 hb9 hx0 hx1 hx2
  clear hx0 hx1 hx2
  simp only [Abs.T_setF, Abs.T_addA, Abs.T_push, Abs.T_start]
  have f_l9 := kp hb9 (f_l7)
  have f_s9 := kp hb9 (f_s7)
  have hB9 := bB hB7 hb9
  clear zl_a zl_b zs_a zs_b
  obtain ⟨zl_a, zl_b, ll9⟩ := rcell f_l9
  obtain ⟨zs_a, zs_b, ls9⟩ := rcell f_s9
  go_wp2_with fail
  refine (c9 _).mono ?_
  rintro e w10 ⟨rfl, hb10⟩
  have f_l10 := kp hb10 (f_l9)
  have f_s10 := kp hb10 (f_s9)
  have hB10 := bB hB9 hb10
  clear zl_a zl_b zs_a zs_b
  obtain ⟨zl_a, zl_b, ll10⟩ := rcell f_l10
  obtain ⟨zs_a, zs_b, ls10⟩ := rcell f_s10
  go_wp2_with fail
  refine (c10 _).mono ?_
  rintro e w11 ⟨rfl, hb11⟩
  have f_l11 := kp hb11 (f_l10)
  have f_s11 := kp hb11 (f_s10)
  have hB11 := bB hB10 hb11
  clear zl_a zl_b zs_a zs_b
  obtain ⟨zl_a, zl_b, ll11⟩ := rcell f_l11
  obtain ⟨zs_a, zs_b, ls11⟩ := rcell f_s11
  go_wp2
  go_ret
  exact ⟨by simp, hB11⟩

set_option maxRecDepth 100000 in
set_option maxHeartbeats 2000000 in
theorem lvalues_Tf (A R N D f t a b q u : Int) (g : Bool) (c1 : ∀ w, Calls Try.prog 35 #[.agg #[.int .i64 A, .int .i64 R, .int .i64 N, .int .i64 D]] w fun e w' => e = .returned (.bool true) ∧ Below w.heap.size w w') (c2 : ∀ w, Calls Try.prog 21 #[.agg #[.int .i64 A, .int .i64 R, .int .i64 N, .int .i64 D]] w fun e w' => e = .returned (.int .i64 0) ∧ Below w.heap.size w w') (c3 : ∀ w, Calls Try.prog 20 #[.agg #[.int .i64 A, .int .i64 R, .int .i64 N, .int .i64 D], .int .i64 f] w fun e w' => e = .returned (.tuple #[.int .i64 0, .int .i64 5]) ∧ Below w.heap.size w w') (c4 : ∀ w, Calls Try.prog 36 #[.agg #[.int .i64 A, .int .i64 R, .int .i64 N, .int .i64 D], .int .i64 f, .int .i64 t] w fun e w' => e = .returned (.tuple #[.agg #[.int .i64 0, .int .i64 0], .int .i64 2]) ∧ Below w.heap.size w w') (c5 : ∀ w, Calls Try.prog 22 #[.agg #[.int .i64 A, .int .i64 R, .int .i64 N, .int .i64 D], .int .i64 f, .int .i64 a, .int .i64 b] w fun e w' => e = .returned (.bool g) ∧ Below w.heap.size w w') (c6 : ∀ w, Calls Try.prog 37 #[.int .i64 f] w fun e w' => e = .returned (.bool true) ∧ Below w.heap.size w w') (c7 : ∀ w, Calls Try.prog 38 #[.agg #[.int .i64 A, .int .i64 R, .int .i64 N, .int .i64 D], .int .i64 f] w fun e w' => e = .returned (.tuple #[.int .i64 0, .bool false]) ∧ Below w.heap.size w w') (c8 : ∀ w, Calls Try.prog 39 #[.agg #[.int .i64 A, .int .i64 R, .int .i64 N, .int .i64 D], .int .i64 f, .int .i64 a, .int .i64 b] w fun e w' => e = .returned (.bool g) ∧ Below w.heap.size w w') (c9 : ∀ w, Calls Try.prog 37 #[.int .i64 t] w fun e w' => e = .returned (.bool false) ∧ Below w.heap.size w w') (w : World) :
    Calls Try.prog 9 #[.agg #[.int .i64 A, .int .i64 R, .int .i64 N, .int .i64 D], .int .i64 f, .int .i64 t, .int .i64 a, .int .i64 b] w fun e w' => e = .returned (.bool true) ∧ Below w.heap.size w w' := by
  go_enter Try.func9, Try.ntmps9
  go_wp2_with fail
  refine (wakes5 _).mono ?_
  rintro e w1 ⟨rfl, hb1⟩
  have f_l1 := kp hb1 (na w #[.int .i64 A, .int .i64 R, .int .i64 N, .int .i64 D] 23)
  have hB1 := bB (bA (b0 w) (.cells #[.int .i64 A, .int .i64 R, .int .i64 N, .int .i64 D] 23)) hb1
  obtain ⟨zl_a, zl_b, ll1⟩ := rcell f_l1
  go_wp2_with fail
  refine (c1 _).mono ?_
  rintro e w2 ⟨rfl, hb2⟩
  have f_l2 := kp hb2 (f_l1)
  have hB2 := bB hB1 hb2
  clear zl_a zl_b
  obtain ⟨zl_a, zl_b, ll2⟩ := rcell f_l2
  go_wp2_with fail
  refine (c2 _).mono ?_
  rintro e w3 ⟨rfl, hb3⟩
  have f_l3 := kp hb3 (f_l2)
  have hB3 := bB hB2 hb3
  clear zl_a zl_b
  obtain ⟨zl_a, zl_b, ll3⟩ := rcell f_l3
  go_wp2_with fail
  refine (c3 _).mono ?_
  rintro e w4 ⟨rfl, hb4⟩
  have f_l4 := kp hb4 (f_l3)
  have hB4 := bB hB3 hb4
  clear zl_a zl_b
  obtain ⟨zl_a, zl_b, ll4⟩ := rcell f_l4
  go_wp2_with fail
  refine (c4 _).mono ?_
  rintro e w5 ⟨rfl, hb5⟩
  have f_l5 := kp hb5 (f_l4)
  have hB5 := bB hB4 hb5
  clear zl_a zl_b
  obtain ⟨zl_a, zl_b, ll5⟩ := rcell f_l5
  go_wp2_with fail
  refine (c6 _).mono ?_
  rintro e w6 ⟨rfl, hb6⟩
  have f_l6 := kp hb6 (ka (f_l5) (.cells #[.int .i64 0, .int .i64 0] 60))
  have f_s6 := kp hb6 (na w5 #[.int .i64 0, .int .i64 0] 60)
  have hB6 := bB (bA hB5 (.cells #[.int .i64 0, .int .i64 0] 60)) hb6
  clear zl_a zl_b
  obtain ⟨zl_a, zl_b, ll6⟩ := rcell f_l6
  obtain ⟨zs_a, zs_b, ls6⟩ := rcell f_s6
  go_wp2_with fail
  refine (c7 _).mono ?_
  rintro e w7 ⟨rfl, hb7⟩
  have f_l7 := kp hb7 (f_l6)
  have f_s7 := kp hb7 (f_s6)
  have hB7 := bB hB6 hb7
  clear zl_a zl_b zs_a zs_b
  obtain ⟨zl_a, zl_b, ll7⟩ := rcell f_l7
  obtain ⟨zs_a, zs_b, ls7⟩ := rcell f_s7
  go_wp2_with fail
  refine Abs.wp_region_abs (Abs.cls0 _) [0, 1, 2, 3, 4, 5, 6, 7, 8, 9, 10, 11, 12, 13, 14, 15, 16, 17, 18, 19, 20, 21, 22, 23, 24, 25, 26, 27, 28, 29] (by kernel_rfl) (by kernel_rfl) (Below.refl _ _).drew ?_
  repeat (first | (refine Abs.step_pure rfl rfl (fun K hK => ?_); go_simp; (try go_bits); (first | refine hK _ _ ?_ | (simp only [↓IntWalk.iteOmega]; go_simp; (try go_bits); refine hK _ _ ?_)); clear hK K) | (refine Abs.step_load (v := ?_) rfl rfl (by kernel_rfl) rfl (fun w0 hI => ?_) (fun K hK => ?_); rotate_left; (· have z0 := (rcell (kp hI (f_l7))).1; go_simp; rfl); (simp only [Act.put, List.setIfInBounds_toArray, List.set_cons_zero, List.set_cons_succ]; refine hK _ _ ?_; clear hK K)) | (refine Abs.step_skip rfl rfl (fun K hK => ?_); (simp only [Act.put, List.setIfInBounds_toArray, List.set_cons_zero, List.set_cons_succ]; refine hK _ _ ?_; clear hK K)))
  (refine Abs.step_call_val (f := ?_) (args := ?_) (v := ?_) rfl rfl rfl rfl (fun w0 => ?_) (fun w0 hI => ?_) (fun K hK => ?_); rotate_left 3; (· go_simp; (constructor <;> rfl)); (· exact c5 _); (simp only [Act.put, List.setIfInBounds_toArray, List.set_cons_zero, List.set_cons_succ]; refine hK _ _ ?_; clear hK K))
  repeat (first | (refine Abs.step_pure rfl rfl (fun K hK => ?_); go_simp; (try go_bits); (first | refine hK _ _ ?_ | (simp only [↓IntWalk.iteOmega]; go_simp; (try go_bits); refine hK _ _ ?_)); clear hK K) | (refine Abs.step_load (v := ?_) rfl rfl (by kernel_rfl) rfl (fun w0 hI => ?_) (fun K hK => ?_); rotate_left; (· have z0 := (rcell (kp hI (f_l7))).1; go_simp; rfl); (simp only [Act.put, List.setIfInBounds_toArray, List.set_cons_zero, List.set_cons_succ]; refine hK _ _ ?_; clear hK K)) | (refine Abs.step_skip rfl rfl (fun K hK => ?_); (simp only [Act.put, List.setIfInBounds_toArray, List.set_cons_zero, List.set_cons_succ]; refine hK _ _ ?_; clear hK K)))
  (refine Abs.step_call_val (f := ?_) (args := ?_) (v := ?_) rfl rfl rfl rfl (fun w0 => ?_) (fun w0 hI => ?_) (fun K hK => ?_); rotate_left 3; (· go_simp; (constructor <;> rfl)); (· exact c8 _); (simp only [Act.put, List.setIfInBounds_toArray, List.set_cons_zero, List.set_cons_succ]; refine hK _ _ ?_; clear hK K))
  repeat (first | (refine Abs.step_pure rfl rfl (fun K hK => ?_); go_simp; (try go_bits); (first | refine hK _ _ ?_ | (simp only [↓IntWalk.iteOmega]; go_simp; (try go_bits); refine hK _ _ ?_)); clear hK K) | (refine Abs.step_load (v := ?_) rfl rfl (by kernel_rfl) rfl (fun w0 hI => ?_) (fun K hK => ?_); rotate_left; (· have z0 := (rcell (kp hI (f_l7))).1; go_simp; rfl); (simp only [Act.put, List.setIfInBounds_toArray, List.set_cons_zero, List.set_cons_succ]; refine hK _ _ ?_; clear hK K)) | (refine Abs.step_skip rfl rfl (fun K hK => ?_); (simp only [Act.put, List.setIfInBounds_toArray, List.set_cons_zero, List.set_cons_succ]; refine hK _ _ ?_; clear hK K)))
  intro w9 hb9 hx0 hx1 hx2
  clear hx0 hx1 hx2
  simp only [Abs.T_setF, Abs.T_addA, Abs.T_push, Abs.T_start]
  have f_l9 := kp hb9 (f_l7)
  have f_s9 := kp hb9 (f_s7)
  have hB9 := bB hB7 hb9
  clear zl_a zl_b zs_a zs_b
  obtain ⟨zl_a, zl_b, ll9⟩ := rcell f_l9
  obtain ⟨zs_a, zs_b, ls9⟩ := rcell f_s9
  go_wp2_with fail
  refine (c9 _).mono ?_
  rintro e w10 ⟨rfl, hb10⟩
  have f_l10 := kp hb10 (f_l9)
  have f_s10 := kp hb10 (f_s9)
  have hB10 := bB hB9 hb10
  clear zl_a zl_b zs_a zs_b
  obtain ⟨zl_a, zl_b, ll10⟩ := rcell f_l10
  obtain ⟨zs_a, zs_b, ls10⟩ := rcell f_s10
  go_wp2
  go_ret
  exact ⟨by simp, hB10⟩

set_option maxRecDepth 100000 in
set_option maxHeartbeats 2000000 in
theorem lvalues_Gf (A R N D f t a b q u : Int) (g : Bool) (ht : t < f) (c1 : ∀ w, Calls Try.prog 35 #[.agg #[.int .i64 A, .int .i64 R, .int .i64 N, .int .i64 D]] w fun e w' => e = .returned (.bool true) ∧ Below w.heap.size w w') (c2 : ∀ w, Calls Try.prog 21 #[.agg #[.int .i64 A, .int .i64 R, .int .i64 N, .int .i64 D]] w fun e w' => e = .returned (.int .i64 0) ∧ Below w.heap.size w w') (c3 : ∀ w, Calls Try.prog 20 #[.agg #[.int .i64 A, .int .i64 R, .int .i64 N, .int .i64 D], .int .i64 f] w fun e w' => e = .returned (.tuple #[.int .i64 0, .int .i64 5]) ∧ Below w.heap.size w w') (c4 : ∀ w, Calls Try.prog 36 #[.agg #[.int .i64 A, .int .i64 R, .int .i64 N, .int .i64 D], .int .i64 f, .int .i64 t] w fun e w' => e = .returned (.tuple #[.agg #[.int .i64 0, .int .i64 0], .int .i64 2]) ∧ Below w.heap.size w w') (c5 : ∀ w, Calls Try.prog 22 #[.agg #[.int .i64 A, .int .i64 R, .int .i64 N, .int .i64 D], .int .i64 f, .int .i64 a, .int .i64 b] w fun e w' => e = .returned (.bool g) ∧ Below w.heap.size w w') (c6 : ∀ w, Calls Try.prog 37 #[.int .i64 f] w fun e w' => e = .returned (.bool true) ∧ Below w.heap.size w w') (c7 : ∀ w, Calls Try.prog 38 #[.agg #[.int .i64 A, .int .i64 R, .int .i64 N, .int .i64 D], .int .i64 f] w fun e w' => e = .returned (.tuple #[.int .i64 0, .bool false]) ∧ Below w.heap.size w w') (c8 : ∀ w, Calls Try.prog 39 #[.agg #[.int .i64 A, .int .i64 R, .int .i64 N, .int .i64 D], .int .i64 f, .int .i64 a, .int .i64 b] w fun e w' => e = .returned (.bool g) ∧ Below w.heap.size w w') (c9 : ∀ w, Calls Try.prog 37 #[.int .i64 t] w fun e w' => e = .returned (.bool true) ∧ Below w.heap.size w w') (w : World) :
    Calls Try.prog 9 #[.agg #[.int .i64 A, .int .i64 R, .int .i64 N, .int .i64 D], .int .i64 f, .int .i64 t, .int .i64 a, .int .i64 b] w fun e w' => e = .returned (.bool true) ∧ Below w.heap.size w w' := by
  go_enter Try.func9, Try.ntmps9
  go_wp2_with fail
  refine (wakes5 _).mono ?_
  rintro e w1 ⟨rfl, hb1⟩
  have f_l1 := kp hb1 (na w #[.int .i64 A, .int .i64 R, .int .i64 N, .int .i64 D] 23)
  have hB1 := bB (bA (b0 w) (.cells #[.int .i64 A, .int .i64 R, .int .i64 N, .int .i64 D] 23)) hb1
  obtain ⟨zl_a, zl_b, ll1⟩ := rcell f_l1
  go_wp2_with fail
  refine (c1 _).mono ?_
  rintro e w2 ⟨rfl, hb2⟩
  have f_l2 := kp hb2 (f_l1)
  have hB2 := bB hB1 hb2
  clear zl_a zl_b
  obtain ⟨zl_a, zl_b, ll2⟩ := rcell f_l2
  go_wp2_with fail
  refine (c2 _).mono ?_
  rintro e w3 ⟨rfl, hb3⟩
  have f_l3 := kp hb3 (f_l2)
  have hB3 := bB hB2 hb3
  clear zl_a zl_b
  obtain ⟨zl_a, zl_b, ll3⟩ := rcell f_l3
  go_wp2_with fail
  refine (c3 _).mono ?_
  rintro e w4 ⟨rfl, hb4⟩
  have f_l4 := kp hb4 (f_l3)
  have hB4 := bB hB3 hb4
  clear zl_a zl_b
  obtain ⟨zl_a, zl_b, ll4⟩ := rcell f_l4
  go_wp2_with fail
  refine (c4 _).mono ?_
  rintro e w5 ⟨rfl, hb5⟩
  have f_l5 := kp hb5 (f_l4)
  have hB5 := bB hB4 hb5
  clear zl_a zl_b
  obtain ⟨zl_a, zl_b, ll5⟩ := rcell f_l5
  go_wp2_with fail
  refine (c6 _).mono ?_
  rintro e w6 ⟨rfl, hb6⟩
  have f_l6 := kp hb6 (ka (f_l5) (.cells #[.int .i64 0, .int .i64 0] 60))
  have f_s6 := kp hb6 (na w5 #[.int .i64 0, .int .i64 0] 60)
  have hB6 := bB (bA hB5 (.cells #[.int .i64 0, .int .i64 0] 60)) hb6
  clear zl_a zl_b
  obtain ⟨zl_a, zl_b, ll6⟩ := rcell f_l6
  obtain ⟨zs_a, zs_b, ls6⟩ := rcell f_s6
  go_wp2_with fail
  refine (c7 _).mono ?_
  rintro e w7 ⟨rfl, hb7⟩
  have f_l7 := kp hb7 (f_l6)
  have f_s7 := kp hb7 (f_s6)
  have hB7 := bB hB6 hb7
  clear zl_a zl_b zs_a zs_b
  obtain ⟨zl_a, zl_b, ll7⟩ := rcell f_l7
  obtain ⟨zs_a, zs_b, ls7⟩ := rcell f_s7
  go_wp2_with fail
  refine Abs.wp_region_abs (Abs.cls0 _) [0, 1, 2, 3, 4, 5, 6, 7, 8, 9, 10, 11, 12, 13, 14, 15, 16, 17, 18, 19, 20, 21, 22, 23, 24, 25, 26, 27, 28, 29] (by kernel_rfl) (by kernel_rfl) (Below.refl _ _).drew ?_
  repeat (first | (refine Abs.step_pure rfl rfl (fun K hK => ?_); go_simp; (try go_bits); (first | refine hK _ _ ?_ | (simp only [↓IntWalk.iteOmega]; go_simp; (try go_bits); refine hK _ _ ?_)); clear hK K) | (refine Abs.step_load (v := ?_) rfl rfl (by kernel_rfl) rfl (fun w0 hI => ?_) (fun K hK => ?_); rotate_left; (· have z0 := (rcell (kp hI (f_l7))).1; go_simp; rfl); (simp only [Act.put, List.setIfInBounds_toArray, List.set_cons_zero, List.set_cons_succ]; refine hK _ _ ?_; clear hK K)) | (refine Abs.step_skip rfl rfl (fun K hK => ?_); (simp only [Act.put, List.setIfInBounds_toArray, List.set_cons_zero, List.set_cons_succ]; refine hK _ _ ?_; clear hK K)))
  (refine Abs.step_call_val (f := ?_) (args := ?_) (v := ?_) rfl rfl rfl rfl (fun w0 => ?_) (fun w0 hI => ?_) (fun K hK => ?_); rotate_left 3; (· go_simp; (constructor <;> rfl)); (· exact c5 _); (simp only [Act.put, List.setIfInBounds_toArray, List.set_cons_zero, List.set_cons_succ]; refine hK _ _ ?_; clear hK K))
  repeat (first | (refine Abs.step_pure rfl rfl (fun K hK => ?_); go_simp; (try go_bits); (first | refine hK _ _ ?_ | (simp only [↓IntWalk.iteOmega]; go_simp; (try go_bits); refine hK _ _ ?_)); clear hK K) | (refine Abs.step_load (v := ?_) rfl rfl (by kernel_rfl) rfl (fun w0 hI => ?_) (fun K hK => ?_); rotate_left; (· have z0 := (rcell (kp hI (f_l7))).1; go_simp; rfl); (simp only [Act.put, List.setIfInBounds_toArray, List.set_cons_zero, List.set_cons_succ]; refine hK _ _ ?_; clear hK K)) | (refine Abs.step_skip rfl rfl (fun K hK => ?_); (simp only [Act.put, List.setIfInBounds_toArray, List.set_cons_zero, List.set_cons_succ]; refine hK _ _ ?_; clear hK K)))
  (refine Abs.step_call_val (f := ?_) (args := ?_) (v := ?_) rfl rfl rfl rfl (fun w0 => ?_) (fun w0 hI => ?_) (fun K hK => ?_); rotate_left 3; (· go_simp; (constructor <;> rfl)); (· exact c8 _); (simp only [Act.put, List.setIfInBounds_toArray, List.set_cons_zero, List.set_cons_succ]; refine hK _ _ ?_; clear hK K))
  repeat (first | (refine Abs.step_pure rfl rfl (fun K hK => ?_); go_simp; (try go_bits); (first | refine hK _ _ ?_ | (simp only [↓IntWalk.iteOmega]; go_simp; (try go_bits); refine hK _ _ ?_)); clear hK K) | (refine Abs.step_load (v := ?_) rfl rfl (by kernel_rfl) rfl (fun w0 hI => ?_) (fun K hK => ?_); rotate_left; (· have z0 := (rcell (kp hI (f_l7))).1; go_simp; rfl); (simp only [Act.put, List.setIfInBounds_toArray, List.set_cons_zero, List.set_cons_succ]; refine hK _ _ ?_; clear hK K)) | (refine Abs.step_skip rfl rfl (fun K hK => ?_); (simp only [Act.put, List.setIfInBounds_toArray, List.set_cons_zero, List.set_cons_succ]; refine hK _ _ ?_; clear hK K)))
  intro w9 hb9 hx0 hx1 hx2
  clear hx0 hx1 hx2
  simp only [Abs.T_setF, Abs.T_addA, Abs.T_push, Abs.T_start]
  have f_l9 := kp hb9 (f_l7)
  have f_s9 := kp hb9 (f_s7)
  have hB9 := bB hB7 hb9
  clear zl_a zl_b zs_a zs_b
  obtain ⟨zl_a, zl_b, ll9⟩ := rcell f_l9
  obtain ⟨zs_a, zs_b, ls9⟩ := rcell f_s9
  go_wp2_with fail
  refine (c9 _).mono ?_
  rintro e w10 ⟨rfl, hb10⟩
  have f_l10 := kp hb10 (f_l9)
  have f_s10 := kp hb10 (f_s9)
  have hB10 := bB hB9 hb10
  clear zl_a zl_b zs_a zs_b
  obtain ⟨zl_a, zl_b, ll10⟩ := rcell f_l10
  obtain ⟨zs_a, zs_b, ls10⟩ := rcell f_s10
  go_wp2
  go_ret
  exact ⟨by simp, hB10⟩

set_option maxRecDepth 100000 in
set_option maxHeartbeats 2000000 in
theorem lvalues_Ff (A R N D f t a b q u : Int) (g : Bool) (k : Bool) (ht : f ≤ t) (c1 : ∀ w, Calls Try.prog 35 #[.agg #[.int .i64 A, .int .i64 R, .int .i64 N, .int .i64 D]] w fun e w' => e = .returned (.bool true) ∧ Below w.heap.size w w') (c2 : ∀ w, Calls Try.prog 21 #[.agg #[.int .i64 A, .int .i64 R, .int .i64 N, .int .i64 D]] w fun e w' => e = .returned (.int .i64 0) ∧ Below w.heap.size w w') (c3 : ∀ w, Calls Try.prog 20 #[.agg #[.int .i64 A, .int .i64 R, .int .i64 N, .int .i64 D], .int .i64 f] w fun e w' => e = .returned (.tuple #[.int .i64 0, .int .i64 5]) ∧ Below w.heap.size w w') (c4 : ∀ w, Calls Try.prog 36 #[.agg #[.int .i64 A, .int .i64 R, .int .i64 N, .int .i64 D], .int .i64 f, .int .i64 t] w fun e w' => e = .returned (.tuple #[.agg #[.int .i64 0, .int .i64 0], .int .i64 5]) ∧ Below w.heap.size w w') (c5 : ∀ w, Calls Try.prog 22 #[.agg #[.int .i64 A, .int .i64 R, .int .i64 N, .int .i64 D], .int .i64 f, .int .i64 a, .int .i64 b] w fun e w' => e = .returned (.bool g) ∧ Below w.heap.size w w') (c6 : ∀ w, Calls Try.prog 37 #[.int .i64 f] w fun e w' => e = .returned (.bool true) ∧ Below w.heap.size w w') (c7 : ∀ w, Calls Try.prog 38 #[.agg #[.int .i64 A, .int .i64 R, .int .i64 N, .int .i64 D], .int .i64 f] w fun e w' => e = .returned (.tuple #[.int .i64 0, .bool false]) ∧ Below w.heap.size w w') (c8 : ∀ w, Calls Try.prog 39 #[.agg #[.int .i64 A, .int .i64 R, .int .i64 N, .int .i64 D], .int .i64 f, .int .i64 a, .int .i64 b] w fun e w' => e = .returned (.bool g) ∧ Below w.heap.size w w') (c9 : ∀ w, Calls Try.prog 37 #[.int .i64 t] w fun e w' => e = .returned (.bool true) ∧ Below w.heap.size w w') (c10 : ∀ w, Calls Try.prog 38 #[.agg #[.int .i64 A, .int .i64 R, .int .i64 N, .int .i64 D], .int .i64 t] w fun e w' => e = .returned (.tuple #[.int .i64 u, .bool k]) ∧ Below w.heap.size w w') (w : World) :
    Calls Try.prog 9 #[.agg #[.int .i64 A, .int .i64 R, .int .i64 N, .int .i64 D], .int .i64 f, .int .i64 t, .int .i64 a, .int .i64 b] w fun e w' => e = .returned (.bool true) ∧ Below w.heap.size w w' := by
  go_enter Try.func9, Try.ntmps9
  go_wp2_with fail
  refine (wakes5 _).mono ?_
  rintro e w1 ⟨rfl, hb1⟩
  have f_l1 := kp hb1 (na w #[.int .i64 A, .int .i64 R, .int .i64 N, .int .i64 D] 23)
  have hB1 := bB (bA (b0 w) (.cells #[.int .i64 A, .int .i64 R, .int .i64 N, .int .i64 D] 23)) hb1
  obtain ⟨zl_a, zl_b, ll1⟩ := rcell f_l1
  go_wp2_with fail
  refine (c1 _).mono ?_
  rintro e w2 ⟨rfl, hb2⟩
  have f_l2 := kp hb2 (f_l1)
  have hB2 := bB hB1 hb2
  clear zl_a zl_b
  obtain ⟨zl_a, zl_b, ll2⟩ := rcell f_l2
  go_wp2_with fail
  refine (c2 _).mono ?_
  rintro e w3 ⟨rfl, hb3⟩
  have f_l3 := kp hb3 (f_l2)
  have hB3 := bB hB2 hb3
  clear zl_a zl_b
  obtain ⟨zl_a, zl_b, ll3⟩ := rcell f_l3
  go_wp2_with fail
  refine (c3 _).mono ?_
  rintro e w4 ⟨rfl, hb4⟩
  have f_l4 := kp hb4 (f_l3)
  have hB4 := bB hB3 hb4
  clear zl_a zl_b
  obtain ⟨zl_a, zl_b, ll4⟩ := rcell f_l4
  go_wp2_with fail
  refine (c4 _).mono ?_
  rintro e w5 ⟨rfl, hb5⟩
  have f_l5 := kp hb5 (f_l4)
  have hB5 := bB hB4 hb5
  clear zl_a zl_b
  obtain ⟨zl_a, zl_b, ll5⟩ := rcell f_l5
  go_wp2_with fail
  refine (c6 _).mono ?_
  rintro e w6 ⟨rfl, hb6⟩
  have f_l6 := kp hb6 (ka (f_l5) (.cells #[.int .i64 0, .int .i64 0] 60))
  have f_s6 := kp hb6 (na w5 #[.int .i64 0, .int .i64 0] 60)
  have hB6 := bB (bA hB5 (.cells #[.int .i64 0, .int .i64 0] 60)) hb6
  clear zl_a zl_b
  obtain ⟨zl_a, zl_b, ll6⟩ := rcell f_l6
  obtain ⟨zs_a, zs_b, ls6⟩ := rcell f_s6
  go_wp2_with fail
  refine (c7 _).mono ?_
  rintro e w7 ⟨rfl, hb7⟩
  have f_l7 := kp hb7 (f_l6)
  have f_s7 := kp hb7 (f_s6)
  have hB7 := bB hB6 hb7
  clear zl_a zl_b zs_a zs_b
  obtain ⟨zl_a, zl_b, ll7⟩ := rcell f_l7
  obtain ⟨zs_a, zs_b, ls7⟩ := rcell f_s7
  go_wp2_with fail
  refine Abs.wp_region_abs (Abs.cls0 _) [0, 1, 2, 3, 4, 5, 6, 7, 8, 9, 10, 11, 12, 13, 14, 15, 16, 17, 18, 19, 20, 21, 22, 23, 24, 25, 26, 27, 28, 29] (by kernel_rfl) (by kernel_rfl) (Below.refl _ _).drew ?_
  repeat (first | (refine Abs.step_pure rfl rfl (fun K hK => ?_); go_simp; (try go_bits); (first | refine hK _ _ ?_ | (simp only [↓IntWalk.iteOmega]; go_simp; (try go_bits); refine hK _ _ ?_)); clear hK K) | (refine Abs.step_load (v := ?_) rfl rfl (by kernel_rfl) rfl (fun w0 hI => ?_) (fun K hK => ?_); rotate_left; (· have z0 := (rcell (kp hI (f_l7))).1; go_simp; rfl); (simp only [Act.put, List.setIfInBounds_toArray, List.set_cons_zero, List.set_cons_succ]; refine hK _ _ ?_; clear hK K)) | (refine Abs.step_skip rfl rfl (fun K hK => ?_); (simp only [Act.put, List.setIfInBounds_toArray, List.set_cons_zero, List.set_cons_succ]; refine hK _ _ ?_; clear hK K)))
  (refine Abs.step_call_val (f := ?_) (args := ?_) (v := ?_) rfl rfl rfl rfl (fun w0 => ?_) (fun w0 hI => ?_) (fun K hK => ?_); rotate_left 3; (· go_simp; (constructor <;> rfl)); (· exact c5 _); (simp only [Act.put, List.setIfInBounds_toArray, List.set_cons_zero, List.set_cons_succ]; refine hK _ _ ?_; clear hK K))
  repeat (first | (refine Abs.step_pure rfl rfl (fun K hK => ?_); go_simp; (try go_bits); (first | refine hK _ _ ?_ | (simp only [↓IntWalk.iteOmega]; go_simp; (try go_bits); refine hK _ _ ?_)); clear hK K) | (refine Abs.step_load (v := ?_) rfl rfl (by kernel_rfl) rfl (fun w0 hI => ?_) (fun K hK => ?_); rotate_left; (· have z0 := (rcell (kp hI (f_l7))).1; go_simp; rfl); (simp only [Act.put, List.setIfInBounds_toArray, List.set_cons_zero, List.set_cons_succ]; refine hK _ _ ?_; clear hK K)) | (refine Abs.step_skip rfl rfl (fun K hK => ?_); (simp only [Act.put, List.setIfInBounds_toArray, List.set_cons_zero, List.set_cons_succ]; refine hK _ _ ?_; clear hK K)))
  (refine Abs.step_call_val (f := ?_) (args := ?_) (v := ?_) rfl rfl rfl rfl (fun w0 => ?_) (fun w0 hI => ?_) (fun K hK => ?_); rotate_left 3; (· go_simp; (constructor <;> rfl)); (· exact c8 _); (simp only [Act.put, List.setIfInBounds_toArray, List.set_cons_zero, List.set_cons_succ]; refine hK _ _ ?_; clear hK K))
  repeat (first | (refine Abs.step_pure rfl rfl (fun K hK => ?_); go_simp; (try go_bits); (first | refine hK _ _ ?_ | (simp only [↓IntWalk.iteOmega]; go_simp; (try go_bits); refine hK _ _ ?_)); clear hK K) | (refine Abs.step_load (v := ?_) rfl rfl (by kernel_rfl) rfl (fun w0 hI => ?_) (fun K hK => ?_); rotate_left; (· have z0 := (rcell (kp hI (f_l7))).1; go_simp; rfl); (simp only [Act.put, List.setIfInBounds_toArray, List.set_cons_zero, List.set_cons_succ]; refine hK _ _ ?_; clear hK K)) | (refine Abs.step_skip rfl rfl (fun K hK => ?_); (simp only [Act.put, List.setIfInBounds_toArray, List.set_cons_zero, List.set_cons_succ]; refine hK _ _ ?_; clear hK K)))
  intro w9 hb9 hx0 hx1 hx2
  clear hx0 hx1 hx2
  simp only [Abs.T_setF, Abs.T_addA, Abs.T_push, Abs.T_start]
  have f_l9 := kp hb9 (f_l7)
  have f_s9 := kp hb9 (f_s7)
  have hB9 := bB hB7 hb9
  clear zl_a zl_b zs_a zs_b
  obtain ⟨zl_a, zl_b, ll9⟩ := rcell f_l9
  obtain ⟨zs_a, zs_b, ls9⟩ := rcell f_s9
  go_wp2_with fail
  refine (c9 _).mono ?_
  rintro e w10 ⟨rfl, hb10⟩
  have f_l10 := kp hb10 (f_l9)
  have f_s10 := kp hb10 (f_s9)
  have hB10 := bB hB9 hb10
  clear zl_a zl_b zs_a zs_b
  obtain ⟨zl_a, zl_b, ll10⟩ := rcell f_l10
  obtain ⟨zs_a, zs_b, ls10⟩ := rcell f_s10
  go_wp2_with fail
  refine (c10 _).mono ?_
  rintro e w11 ⟨rfl, hb11⟩
  have f_l11 := kp hb11 (f_l10)
  have f_s11 := kp hb11 (f_s10)
  have hB11 := bB hB10 hb11
  clear zl_a zl_b zs_a zs_b
  obtain ⟨zl_a, zl_b, ll11⟩ := rcell f_l11
  obtain ⟨zs_a, zs_b, ls11⟩ := rcell f_s11
  go_wp2
  go_ret
  exact ⟨by simp, hB11⟩

set_option maxRecDepth 100000 in
set_option maxHeartbeats 2000000 in
theorem lvalues_ok (A R N D f t a b q u : Int) (g : Bool) (ht : f ≤ t) (c1 : ∀ w, Calls Try.prog 35 #[.agg #[.int .i64 A, .int .i64 R, .int .i64 N, .int .i64 D]] w fun e w' => e = .returned (.bool true) ∧ Below w.heap.size w w') (c2 : ∀ w, Calls Try.prog 21 #[.agg #[.int .i64 A, .int .i64 R, .int .i64 N, .int .i64 D]] w fun e w' => e = .returned (.int .i64 0) ∧ Below w.heap.size w w') (c3 : ∀ w, Calls Try.prog 20 #[.agg #[.int .i64 A, .int .i64 R, .int .i64 N, .int .i64 D], .int .i64 f] w fun e w' => e = .returned (.tuple #[.int .i64 q, .int .i64 0]) ∧ Below w.heap.size w w') (c4 : ∀ w, Calls Try.prog 36 #[.agg #[.int .i64 A, .int .i64 R, .int .i64 N, .int .i64 D], .int .i64 f, .int .i64 t] w fun e w' => e = .returned (.tuple #[.agg #[.int .i64 (min q u), .int .i64 (max q u)], .int .i64 0]) ∧ Below w.heap.size w w') (c5 : ∀ w, Calls Try.prog 22 #[.agg #[.int .i64 A, .int .i64 R, .int .i64 N, .int .i64 D], .int .i64 f, .int .i64 a, .int .i64 b] w fun e w' => e = .returned (.bool g) ∧ Below w.heap.size w w') (c6 : ∀ w, Calls Try.prog 37 #[.int .i64 f] w fun e w' => e = .returned (.bool true) ∧ Below w.heap.size w w') (c7 : ∀ w, Calls Try.prog 38 #[.agg #[.int .i64 A, .int .i64 R, .int .i64 N, .int .i64 D], .int .i64 f] w fun e w' => e = .returned (.tuple #[.int .i64 q, .bool true]) ∧ Below w.heap.size w w') (c8 : ∀ w, Calls Try.prog 39 #[.agg #[.int .i64 A, .int .i64 R, .int .i64 N, .int .i64 D], .int .i64 f, .int .i64 a, .int .i64 b] w fun e w' => e = .returned (.bool g) ∧ Below w.heap.size w w') (c9 : ∀ w, Calls Try.prog 37 #[.int .i64 t] w fun e w' => e = .returned (.bool true) ∧ Below w.heap.size w w') (c10 : ∀ w, Calls Try.prog 38 #[.agg #[.int .i64 A, .int .i64 R, .int .i64 N, .int .i64 D], .int .i64 t] w fun e w' => e = .returned (.tuple #[.int .i64 u, .bool true]) ∧ Below w.heap.size w w') (w : World) :
    Calls Try.prog 9 #[.agg #[.int .i64 A, .int .i64 R, .int .i64 N, .int .i64 D], .int .i64 f, .int .i64 t, .int .i64 a, .int .i64 b] w fun e w' => e = .returned (.bool true) ∧ Below w.heap.size w w' := by
  go_enter Try.func9, Try.ntmps9
  go_wp2_with fail
  refine (wakes5 _).mono ?_
  rintro e w1 ⟨rfl, hb1⟩
  have f_l1 := kp hb1 (na w #[.int .i64 A, .int .i64 R, .int .i64 N, .int .i64 D] 23)
  have hB1 := bB (bA (b0 w) (.cells #[.int .i64 A, .int .i64 R, .int .i64 N, .int .i64 D] 23)) hb1
  obtain ⟨zl_a, zl_b, ll1⟩ := rcell f_l1
  go_wp2_with fail
  refine (c1 _).mono ?_
  rintro e w2 ⟨rfl, hb2⟩
  have f_l2 := kp hb2 (f_l1)
  have hB2 := bB hB1 hb2
  clear zl_a zl_b
  obtain ⟨zl_a, zl_b, ll2⟩ := rcell f_l2
  go_wp2_with fail
  refine (c2 _).mono ?_
  rintro e w3 ⟨rfl, hb3⟩
  have f_l3 := kp hb3 (f_l2)
  have hB3 := bB hB2 hb3
  clear zl_a zl_b
  obtain ⟨zl_a, zl_b, ll3⟩ := rcell f_l3
  go_wp2_with fail
  refine (c3 _).mono ?_
  rintro e w4 ⟨rfl, hb4⟩
  have f_l4 := kp hb4 (f_l3)
  have hB4 := bB hB3 hb4
  clear zl_a zl_b
  obtain ⟨zl_a, zl_b, ll4⟩ := rcell f_l4
  go_wp2_with fail
  refine (c4 _).mono ?_
  rintro e w5 ⟨rfl, hb5⟩
  have f_l5 := kp hb5 (f_l4)
  have hB5 := bB hB4 hb5
  clear zl_a zl_b
  obtain ⟨zl_a, zl_b, ll5⟩ := rcell f_l5
  go_wp2_with fail
  refine (c6 _).mono ?_
  rintro e w6 ⟨rfl, hb6⟩
  have f_l6 := kp hb6 (ka (f_l5) (.cells #[.int .i64 (min q u), .int .i64 (max q u)] 60))
  have f_s6 := kp hb6 (na w5 #[.int .i64 (min q u), .int .i64 (max q u)] 60)
  have hB6 := bB (bA hB5 (.cells #[.int .i64 (min q u), .int .i64 (max q u)] 60)) hb6
  clear zl_a zl_b
  obtain ⟨zl_a, zl_b, ll6⟩ := rcell f_l6
  obtain ⟨zs_a, zs_b, ls6⟩ := rcell f_s6
  go_wp2_with fail
  refine (c7 _).mono ?_
  rintro e w7 ⟨rfl, hb7⟩
  have f_l7 := kp hb7 (f_l6)
  have f_s7 := kp hb7 (f_s6)
  have hB7 := bB hB6 hb7
  clear zl_a zl_b zs_a zs_b
  obtain ⟨zl_a, zl_b, ll7⟩ := rcell f_l7
  obtain ⟨zs_a, zs_b, ls7⟩ := rcell f_s7
  go_wp2_with fail
  refine Abs.wp_region_abs (Abs.cls0 _) [0, 1, 2, 3, 4, 5, 6, 7, 8, 9, 10, 11, 12, 13, 14, 15, 16, 17, 18, 19, 20, 21, 22, 23, 24, 25, 26, 27, 28, 29] (by kernel_rfl) (by kernel_rfl) (Below.refl _ _).drew ?_
  repeat (first | (refine Abs.step_pure rfl rfl (fun K hK => ?_); go_simp; (try go_bits); (first | refine hK _ _ ?_ | (simp only [↓IntWalk.iteOmega]; go_simp; (try go_bits); refine hK _ _ ?_)); clear hK K) | (refine Abs.step_load (v := ?_) rfl rfl (by kernel_rfl) rfl (fun w0 hI => ?_) (fun K hK => ?_); rotate_left; (· have z0 := (rcell (kp hI (f_l7))).1; go_simp; rfl); (simp only [Act.put, List.setIfInBounds_toArray, List.set_cons_zero, List.set_cons_succ]; refine hK _ _ ?_; clear hK K)) | (refine Abs.step_skip rfl rfl (fun K hK => ?_); (simp only [Act.put, List.setIfInBounds_toArray, List.set_cons_zero, List.set_cons_succ]; refine hK _ _ ?_; clear hK K)))
  (refine Abs.step_call_val (f := ?_) (args := ?_) (v := ?_) rfl rfl rfl rfl (fun w0 => ?_) (fun w0 hI => ?_) (fun K hK => ?_); rotate_left 3; (· go_simp; (constructor <;> rfl)); (· exact c5 _); (simp only [Act.put, List.setIfInBounds_toArray, List.set_cons_zero, List.set_cons_succ]; refine hK _ _ ?_; clear hK K))
  repeat (first | (refine Abs.step_pure rfl rfl (fun K hK => ?_); go_simp; (try go_bits); (first | refine hK _ _ ?_ | (simp only [↓IntWalk.iteOmega]; go_simp; (try go_bits); refine hK _ _ ?_)); clear hK K) | (refine Abs.step_load (v := ?_) rfl rfl (by kernel_rfl) rfl (fun w0 hI => ?_) (fun K hK => ?_); rotate_left; (· have z0 := (rcell (kp hI (f_l7))).1; go_simp; rfl); (simp only [Act.put, List.setIfInBounds_toArray, List.set_cons_zero, List.set_cons_succ]; refine hK _ _ ?_; clear hK K)) | (refine Abs.step_skip rfl rfl (fun K hK => ?_); (simp only [Act.put, List.setIfInBounds_toArray, List.set_cons_zero, List.set_cons_succ]; refine hK _ _ ?_; clear hK K)))
  (refine Abs.step_call_val (f := ?_) (args := ?_) (v := ?_) rfl rfl rfl rfl (fun w0 => ?_) (fun w0 hI => ?_) (fun K hK => ?_); rotate_left 3; (· go_simp; (constructor <;> rfl)); (· exact c8 _); (simp only [Act.put, List.setIfInBounds_toArray, List.set_cons_zero, List.set_cons_succ]; refine hK _ _ ?_; clear hK K))
  repeat (first | (refine Abs.step_pure rfl rfl (fun K hK => ?_); go_simp; (try go_bits); (first | refine hK _ _ ?_ | (simp only [↓IntWalk.iteOmega]; go_simp; (try go_bits); refine hK _ _ ?_)); clear hK K) | (refine Abs.step_load (v := ?_) rfl rfl (by kernel_rfl) rfl (fun w0 hI => ?_) (fun K hK => ?_); rotate_left; (· have z0 := (rcell (kp hI (f_l7))).1; go_simp; rfl); (simp only [Act.put, List.setIfInBounds_toArray, List.set_cons_zero, List.set_cons_succ]; refine hK _ _ ?_; clear hK K)) | (refine Abs.step_skip rfl rfl (fun K hK => ?_); (simp only [Act.put, List.setIfInBounds_toArray, List.set_cons_zero, List.set_cons_succ]; refine hK _ _ ?_; clear hK K)))
  intro w9 hb9 hx0 hx1 hx2
  clear hx0 hx1 hx2
  simp only [Abs.T_setF, Abs.T_addA, Abs.T_push, Abs.T_start]
  have f_l9 := kp hb9 (f_l7)
  have f_s9 := kp hb9 (f_s7)
  have hB9 := bB hB7 hb9
  clear zl_a zl_b zs_a zs_b
  obtain ⟨zl_a, zl_b, ll9⟩ := rcell f_l9
  obtain ⟨zs_a, zs_b, ls9⟩ := rcell f_s9
  go_wp2_with fail
  refine (c9 _).mono ?_
  rintro e w10 ⟨rfl, hb10⟩
  have f_l10 := kp hb10 (f_l9)
  have f_s10 := kp hb10 (f_s9)
  have hB10 := bB hB9 hb10
  clear zl_a zl_b zs_a zs_b
  obtain ⟨zl_a, zl_b, ll10⟩ := rcell f_l10
  obtain ⟨zs_a, zs_b, ls10⟩ := rcell f_s10
  go_wp2_with fail
  refine (c10 _).mono ?_
  rintro e w11 ⟨rfl, hb11⟩
  have f_l11 := kp hb11 (f_l10)
  have f_s11 := kp hb11 (f_s10)
  have hB11 := bB hB10 hb11
  clear zl_a zl_b zs_a zs_b
  obtain ⟨zl_a, zl_b, ll11⟩ := rcell f_l11
  obtain ⟨zs_a, zs_b, ls11⟩ := rcell f_s11
  go_wp2
  all_goals
    go_ret
    exact ⟨by first | simp | (simp; omega) | (simp [Int.min_def, Int.max_def]; omega), hB11⟩

theorem line_values (A R N D f t a b : Int) (a1 : -9223372036854775808 ≤ a) (a2 : a < 9223372036854775808) (b1 : -9223372036854775808 ≤ b) (b2 : b < 9223372036854775808) (w : World) :
    Calls Try.prog 9 #[.agg #[.int .i64 A, .int .i64 R, .int .i64 N, .int .i64 D], .int .i64 f, .int .i64 t, .int .i64 a, .int .i64 b] w fun e w' => e = .returned (.bool true) ∧ Below w.heap.size w w' := by
  have c1 := ref_Right A R N D
  have c2 := line_Check A R N D
  have c3 := line_At A R N D f
  have c4 := line_Ends_no A R N D f t
  have c5 := line_Within A R N D f a b a1 a2 b1 b2
  have c6 := ref_Time f
  have c9 := ref_Time t
  by_cases h : isB A R N D = true
  case neg =>
    have h' : isB A R N D = false := by simpa using h
    have w0 : winB A R N D f a b = false := decide_eq_false fun hh => h hh.1
    have e4 : enE A R N D f t = 150 := by unfold enE; rw [if_neg h]
    have v0 : atV A R N D f = 0 := by unfold atV; rw [if_neg fun hh => h hh.1]
    have v1 : atE A R N D f = 150 := by unfold atE; rw [if_neg h]
    rw [h'] at c1
    rw [if_neg h] at c2
    rw [v0, v1] at c3
    rw [e4] at c4
    rw [w0] at c5
    exact lvalues_a A R N D f t a b c1 c2 c3 (c4 (by omega)) c5 w
  rw [h] at c1
  rw [if_pos h] at c2
  by_cases hf : tmB f = true
  case neg =>
    have hf' : tmB f = false := by simpa using hf
    have w0 : winB A R N D f a b = false := decide_eq_false fun hh => hf hh.2.1
    have e4 : enE A R N D f t = 2 := by unfold enE; rw [if_pos h, if_neg fun hh => hf hh.1]
    have v0 : atV A R N D f = 0 := by unfold atV; rw [if_neg fun hh => hf hh.2.1]
    have v1 : atE A R N D f = 2 := by unfold atE; rw [if_pos h, if_neg hf]
    rw [v0, v1] at c3
    rw [e4] at c4
    rw [w0] at c5
    rw [hf'] at c6
    exact lvalues_b A R N D f t a b c1 c2 c3 (c4 (by omega)) c5 c6 w
  rw [hf] at c6
  have c7 := ref_At A R N D f h hf
  have c8 := ref_WithinL A R N D f a b h hf a1 a2 b1 b2
  have e2 : ¬ (tmB t = true ∧ f ≤ t) → enE A R N D f t = 2 := fun hn => by unfold enE; rw [if_pos h, if_neg fun hh => hn hh.2]
  have e5 : tmB t = true → f ≤ t → ¬ (bkB (lnQ A R N D f) = true ∧ bkB (lnQ A R N D t) = true) → enE A R N D f t = 5 := fun x1 x2 hn => by unfold enE; rw [if_pos h, if_pos ⟨hf, x1, x2⟩, if_neg hn]
  cases hb : bkB (lnQ A R N D f)
  · have v0 : atV A R N D f = 0 := by unfold atV; rw [if_neg fun hh => by rw [hb] at hh; cases hh.2.2]
    have v1 : atE A R N D f = 5 := by unfold atE; rw [if_pos h, if_pos hf, if_neg (by rw [hb]; decide)]
    rw [v0, v1] at c3
    rw [if_neg (by rw [hb]; decide), hb] at c7
    cases ht : tmB t
    · rw [ht] at c9
      rw [e2 (fun hh => by rw [ht] at hh; cases hh.1)] at c4
      exact lvalues_Tf A R N D f t a b 0 0 _ c1 c2 c3 (c4 (by omega)) c5 c6 c7 c8 c9 w
    · rw [ht] at c9
      rcases Int.lt_or_le t f with hlt | hle
      · rw [e2 (fun hh => by omega)] at c4
        exact lvalues_Gf A R N D f t a b 0 0 _ hlt c1 c2 c3 (c4 (by omega)) c5 c6 c7 c8 c9 w
      · rw [e5 ht hle (fun hh => by rw [hb] at hh; cases hh.1)] at c4
        exact lvalues_Ff A R N D f t a b 0 _ _ _ hle c1 c2 c3 (c4 (by omega)) c5 c6 c7 c8 c9 (ref_At A R N D t h ht) w
  · have v0 : atV A R N D f = lnQ A R N D f := by unfold atV; rw [if_pos ⟨h, hf, hb⟩]
    have v1 : atE A R N D f = 0 := by unfold atE; rw [if_pos h, if_pos hf, if_pos hb]
    rw [v0, v1] at c3
    rw [if_pos hb, hb] at c7
    cases ht : tmB t
    · rw [ht] at c9
      rw [e2 (fun hh => by rw [ht] at hh; cases hh.1)] at c4
      exact lvalues_Tt A R N D f t a b _ 0 _ c1 c2 c3 (c4 (by omega)) c5 c6 c7 c8 c9 w
    · rw [ht] at c9
      rcases Int.lt_or_le t f with hlt | hle
      · rw [e2 (fun hh => by omega)] at c4
        exact lvalues_Gt A R N D f t a b _ 0 _ hlt c1 c2 c3 (c4 (by omega)) c5 c6 c7 c8 c9 w
      · have c10 := ref_At A R N D t h ht
        cases hb2 : bkB (lnQ A R N D t)
        · rw [if_neg (by rw [hb2]; decide), hb2] at c10
          rw [e5 ht hle (fun hh => by rw [hb2] at hh; cases hh.2)] at c4
          exact lvalues_Ft A R N D f t a b _ 0 _ false hle c1 c2 c3 (c4 (by omega)) c5 c6 c7 c8 c9 c10 w
        · rw [if_pos hb2, hb2] at c10
          exact lvalues_ok A R N D f t a b _ _ _ hle c1 c2 c3 (line_Ends_yes A R N D f t h hf ht hle hb hb2) c5 c6 c7 c8 c9 c10 w

theorem line_values2 (A R N D f t a b : Int) (wa : (Lit.int .i64 a).wf = true) (wb : (Lit.int .i64 b).wf = true) (w : World) :
    Calls Try.prog 9 #[.agg #[.int .i64 A, .int .i64 R, .int .i64 N, .int .i64 D], .int .i64 f, .int .i64 t, .int .i64 a, .int .i64 b] w fun e w' => e = .returned (.bool true) ∧ Below w.heap.size w w' := by
  exact line_values A R N D f t a b (wf_i64 wa).1 (wf_i64 wa).2 (wf_i64 wb).1 (wf_i64 wb).2 w
end Go.Proofs.Ytlgjapjcdpikeaa
