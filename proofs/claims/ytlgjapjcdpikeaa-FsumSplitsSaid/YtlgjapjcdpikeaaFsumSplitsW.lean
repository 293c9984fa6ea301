/- FsumSplits (yearbooklaw06): its walk, and the plain law. -/
import Derived.Test.YtlgjapjcdpikeaaFsum7
import Derived.Deep.DeepCutAuto
set_option linter.unusedSimpArgs false
set_option linter.unusedVariables false
namespace Go.Proofs.Ytlgjapjcdpikeaa
open Go.RowKit

set_option maxRecDepth 100000 in
set_option maxHeartbeats 1000000 in
theorem splits_p (n0' ah al bh bl m0 at_ N A B M k c F F1 F2 : Int) (N0 : 0 ≤ N) (N1 : N ≤ 256) (h2 : at_ < 9223372036854775808) (h0 : 0 ≤ at_) (hk : at_ % (N + 1) = k) (k0 : 0 ≤ k) (k1 : k ≤ N)
    (cn : ∀ w : World, Calls Try.prog 47 #[.agg #[.int .i64 n0', .int .i64 ah, .int .u64 al, .int .i64 bh, .int .u64 bl, .int .i64 m0]] w fun e w' => e = .returned (.agg #[.int .i64 N, .int .i64 (hi A), .int .u64 (lo A), .int .i64 (hi B), .int .u64 (lo B), .int .i64 M]) ∧ Below w.heap.size w w')
    (c1 : ∀ w : World, Calls Try.prog 48 #[.agg #[.int .i64 N, .int .i64 (hi A), .int .u64 (lo A), .int .i64 (hi B), .int .u64 (lo B), .int .i64 M]] w fun e w' => e = .returned (.tuple #[.agg #[.int .i64 (hi F), .int .u64 (lo F)], .bool true]) ∧ Below w.heap.size w w')
    (c2 : ∀ w : World, Calls Try.prog 48 #[.agg #[.int .i64 k, .int .i64 (hi A), .int .u64 (lo A), .int .i64 (hi B), .int .u64 (lo B), .int .i64 M]] w fun e w' => e = .returned (.tuple #[.agg #[.int .i64 (hi F1), .int .u64 (lo F1)], .bool true]) ∧ Below w.heap.size w w')
    (c3 : ∀ w : World, Calls Try.prog 49 #[.agg #[.int .i64 (hi B), .int .u64 (lo B)], .agg #[.int .i64 (hi A), .int .u64 (lo A)], .int .i64 k] w fun e w' => e = .returned (.agg #[.int .i64 (hi c), .int .u64 (lo c)]) ∧ Below w.heap.size w w')
    (c4 : ∀ w : World, Calls Try.prog 48 #[.agg #[.int .i64 (N - k), .int .i64 (hi A), .int .u64 (lo A), .int .i64 (hi c), .int .u64 (lo c), .int .i64 M]] w fun e w' => e = .returned (.tuple #[.agg #[.int .i64 (hi F2), .int .u64 (lo F2)], .bool true]) ∧ Below w.heap.size w w')
    (c5 : ∀ w : World, Calls Try.prog 49 #[.agg #[.int .i64 (hi F1), .int .u64 (lo F1)], .agg #[.int .i64 (hi F2), .int .u64 (lo F2)], .int .i64 1] w fun e w' => e = .returned (.agg #[.int .i64 (hi F), .int .u64 (lo F)]) ∧ Below w.heap.size w w')
    (w : World) :
    Calls Try.prog 13 #[.agg #[.int .i64 n0', .int .i64 ah, .int .u64 al, .int .i64 bh, .int .u64 bl, .int .i64 m0], .int .i64 at_] w fun e w' => e = .returned (.bool true) ∧ Below w.heap.size w w' := by
  go_enter Try.func13, Try.ntmps13
  go_wp2_with fail
  refine (wakes6 _).mono ?_
  rintro e w1 ⟨rfl, hb1⟩
  have f_x1 := kp hb1 (na _ _ _)
  have hB1 := bB (bA (b0 w) _) hb1
  obtain ⟨zx_a, zx_b, lx1⟩ := rcell f_x1
  go_wp2_with fail
  refine (cn _).mono ?_
  rintro e w2 ⟨rfl, hb2⟩
  have f_x2 := kp hb2 (f_x1)
  have hB2 := bB hB1 hb2
  clear zx_a zx_b
  obtain ⟨zx_a, zx_b, lx2⟩ := rcell f_x2
  go_wp2_with fail
  rw [row6 f_x2]
  generalize hT3 : setRow _ _ _ = w3
  obtain ⟨hx3, f_x3⟩ := fin_x (b0 _) f_x2 hT3
  clear hT3
  have hB3 := bX hB2 hx3 (by omega)
  clear zx_a zx_b
  obtain ⟨zx_a, zx_b, lx3⟩ := rcell f_x3
  go_wp2_with fail
  refine (c1 _).mono ?_
  rintro e w4 ⟨rfl, hb4⟩
  have f_x4 := kp hb4 (f_x3)
  have hB4 := bB hB3 hb4
  clear zx_a zx_b
  obtain ⟨zx_a, zx_b, lx4⟩ := rcell f_x4
  go_wp2_with fail
  refine (c2 _).mono ?_
  rintro e w5 ⟨rfl, hb5⟩
  have f_x5 := kp hb5 (ka (f_x4) _)
  have f_s15 := kp hb5 (na _ _ _)
  have hB5 := bB (bA hB4 _) hb5
  clear zx_a zx_b
  obtain ⟨zx_a, zx_b, lx5⟩ := rcell f_x5
  obtain ⟨zs1_a, zs1_b, ls15⟩ := rcell f_s15
  go_wp2_with fail
  have f_x6 := (ka (f_x5) (.cells #[.int .i64 (hi F1), .int .u64 (lo F1)] 46))
  have f_s16 := (ka (f_s15) (.cells #[.int .i64 (hi F1), .int .u64 (lo F1)] 46))
  have f_s26 := (na w5 #[.int .i64 (hi F1), .int .u64 (lo F1)] 46)
  have hB6 := (bA hB5 (.cells #[.int .i64 (hi F1), .int .u64 (lo F1)] 46))
  clear zs1_a zs1_b zx_a zx_b
  have lx6 := (rcell f_x6).2.2
  have ls16 := (rcell f_s16).2.2
  have ls26 := (rcell f_s26).2.2
  refine Abs.wp_region_abs (Abs.cls0 _) [0, 1, 2, 3, 4, 5, 6, 7, 8, 9, 10, 11, 12, 13, 14, 15, 16, 17, 18, 19, 20, 21] (by kernel_rfl) (by kernel_rfl) (Below.refl _ _).drew ?_
  repeat (first | (refine Abs.step_pure rfl rfl (fun K hK => ?_); go_simp; (try go_bits); (first | refine hK _ _ ?_ | (simp only [↓IntWalk.iteOmega]; go_simp; (try go_bits); refine hK _ _ ?_)); clear hK K) | (refine Abs.step_load (v := ?_) rfl rfl (by kernel_rfl) rfl (fun w0 hI => ?_) (fun K hK => ?_); rotate_left; (· have z0 := (rcell (kp hI (f_x6))).1; go_simp; rfl); (simp only [Act.put, List.setIfInBounds_toArray, List.set_cons_zero, List.set_cons_succ]; refine hK _ _ ?_; clear hK K)) | (refine Abs.step_skip rfl rfl (fun K hK => ?_); (simp only [Act.put, List.setIfInBounds_toArray, List.set_cons_zero, List.set_cons_succ]; refine hK _ _ ?_; clear hK K)))
  (refine Abs.step_call_val (f := ?_) (args := ?_) (v := ?_) rfl rfl rfl rfl (fun w0 => ?_) (fun w0 hI => ?_) (fun K hK => ?_); rotate_left 3; (· go_simp; (constructor <;> rfl)); (· exact c3 _); (simp only [Act.put, List.setIfInBounds_toArray, List.set_cons_zero, List.set_cons_succ]; refine hK _ _ ?_; clear hK K))
  repeat (first | (refine Abs.step_pure rfl rfl (fun K hK => ?_); go_simp; (try go_bits); (first | refine hK _ _ ?_ | (simp only [↓IntWalk.iteOmega]; go_simp; (try go_bits); refine hK _ _ ?_)); clear hK K) | (refine Abs.step_load (v := ?_) rfl rfl (by kernel_rfl) rfl (fun w0 hI => ?_) (fun K hK => ?_); rotate_left; (· have z0 := (rcell (kp hI (f_x6))).1; go_simp; rfl); (simp only [Act.put, List.setIfInBounds_toArray, List.set_cons_zero, List.set_cons_succ]; refine hK _ _ ?_; clear hK K)) | (refine Abs.step_skip rfl rfl (fun K hK => ?_); (simp only [Act.put, List.setIfInBounds_toArray, List.set_cons_zero, List.set_cons_succ]; refine hK _ _ ?_; clear hK K)))
  (refine Abs.step_call_val (f := ?_) (args := ?_) (v := ?_) rfl rfl rfl rfl (fun w0 => ?_) (fun w0 hI => ?_) (fun K hK => ?_); rotate_left 3; (· go_simp; (constructor <;> rfl)); (· exact c4 _); (simp only [Act.put, List.setIfInBounds_toArray, List.set_cons_zero, List.set_cons_succ]; refine hK _ _ ?_; clear hK K))
  repeat (first | (refine Abs.step_pure rfl rfl (fun K hK => ?_); go_simp; (try go_bits); (first | refine hK _ _ ?_ | (simp only [↓IntWalk.iteOmega]; go_simp; (try go_bits); refine hK _ _ ?_)); clear hK K) | (refine Abs.step_load (v := ?_) rfl rfl (by kernel_rfl) rfl (fun w0 hI => ?_) (fun K hK => ?_); rotate_left; (· have z0 := (rcell (kp hI (f_x6))).1; go_simp; rfl); (simp only [Act.put, List.setIfInBounds_toArray, List.set_cons_zero, List.set_cons_succ]; refine hK _ _ ?_; clear hK K)) | (refine Abs.step_skip rfl rfl (fun K hK => ?_); (simp only [Act.put, List.setIfInBounds_toArray, List.set_cons_zero, List.set_cons_succ]; refine hK _ _ ?_; clear hK K)))
  (refine Abs.step_var (obj := ?_) rfl rfl rfl rfl (fun w0 => ?_) (fun K hK g_s3 hv_s3 hu_s3 => ?_); rotate_left; (· go_simp; rfl); (simp only [Act.put, List.setIfInBounds_toArray, List.set_cons_zero, List.set_cons_succ]; refine hK _ _ ?_; clear hK K))
  (refine Abs.step_store (T := ?_) rfl rfl rfl (fun w0 hI hF hU => ?_) (fun _ _ _ _ => trivial) (fun K hK => ?_); rotate_left; (· simp only [Abs.F_setF, Abs.F_addA, Abs.F_push, Abs.F_start, true_and] at hF; have hg0 := (rcell hF).1; have hg1 := (rcell hF).2.1; simp only [Abs.T_setF, Abs.T_addA, Abs.T_push, Abs.T_start]; go_simp; exact row2 hF _ _); (simp only [Act.put, List.setIfInBounds_toArray, List.set_cons_zero, List.set_cons_succ]; refine hK _ _ ?_; clear hK K))
  repeat (first | (refine Abs.step_pure rfl rfl (fun K hK => ?_); go_simp; (try go_bits); (first | refine hK _ _ ?_ | (simp only [↓IntWalk.iteOmega]; go_simp; (try go_bits); refine hK _ _ ?_)); clear hK K) | (refine Abs.step_load (v := ?_) rfl rfl (by kernel_rfl) rfl (fun w0 hI => ?_) (fun K hK => ?_); rotate_left; (· have z0 := (rcell (kp hI (f_x6))).1; go_simp; rfl); (simp only [Act.put, List.setIfInBounds_toArray, List.set_cons_zero, List.set_cons_succ]; refine hK _ _ ?_; clear hK K)) | (refine Abs.step_skip rfl rfl (fun K hK => ?_); (simp only [Act.put, List.setIfInBounds_toArray, List.set_cons_zero, List.set_cons_succ]; refine hK _ _ ?_; clear hK K)))
  have hs_s3 := leB hv_s3
  try simp only [World.size_alloc] at hs_s3
  intro w0 hI hF hx1 hx2
  clear hx1 hx2
  simp only [Abs.F_setF, Abs.F_addA, Abs.F_push, Abs.F_start, true_and, Abs.T_push] at hF ⊢
  generalize hT7 : setRow w0 _ _ = w7
  obtain ⟨hb7, f_s37⟩ := fin1 hI hv_s3 hF hT7
  clear hT7 hI hF w0
  have f_x7 := kp hb7 (f_x6)
  have f_s17 := kp hb7 (f_s16)
  have f_s27 := kp hb7 (f_s26)
  have hB7 := bB hB6 hb7
  obtain ⟨zx_a, zx_b, lx7⟩ := rcell f_x7
  obtain ⟨zs1_a, zs1_b, ls17⟩ := rcell f_s17
  obtain ⟨zs2_a, zs2_b, ls27⟩ := rcell f_s27
  obtain ⟨zs3_a, zs3_b, ls37⟩ := rcell f_s37
  go_wp2_with fail
  refine Abs.wp_region_abs (Abs.cls0 _) [0, 1, 2, 3, 4, 5, 6, 7, 8, 9, 10, 11, 12, 13, 14] (by kernel_rfl) (by kernel_rfl) (Below.refl _ _).drew ?_
  repeat (first | (refine Abs.step_pure rfl rfl (fun K hK => ?_); go_simp; (try go_bits); (first | refine hK _ _ ?_ | (simp only [↓IntWalk.iteOmega]; go_simp; (try go_bits); refine hK _ _ ?_)); clear hK K) | (refine Abs.step_load (v := ?_) rfl rfl (by kernel_rfl) rfl (fun w0 hI => ?_) (fun K hK => ?_); rotate_left; (· have z0 := (rcell (kp hI (f_s17))).1; have z1 := (rcell (kp hI (f_s27))).1; have z2 := (rcell (kp hI (f_s37))).1; go_simp; rfl); (simp only [Act.put, List.setIfInBounds_toArray, List.set_cons_zero, List.set_cons_succ]; refine hK _ _ ?_; clear hK K)) | (refine Abs.step_skip rfl rfl (fun K hK => ?_); (simp only [Act.put, List.setIfInBounds_toArray, List.set_cons_zero, List.set_cons_succ]; refine hK _ _ ?_; clear hK K)))
  (refine Abs.step_call_val (f := ?_) (args := ?_) (v := ?_) rfl rfl rfl rfl (fun w0 => ?_) (fun w0 hI => ?_) (fun K hK => ?_); rotate_left 3; (· go_simp; (constructor <;> rfl)); (· exact c5 _); (simp only [Act.put, List.setIfInBounds_toArray, List.set_cons_zero, List.set_cons_succ]; refine hK _ _ ?_; clear hK K))
  repeat (first | (refine Abs.step_pure rfl rfl (fun K hK => ?_); go_simp; (try go_bits); (first | refine hK _ _ ?_ | (simp only [↓IntWalk.iteOmega]; go_simp; (try go_bits); refine hK _ _ ?_)); clear hK K) | (refine Abs.step_load (v := ?_) rfl rfl (by kernel_rfl) rfl (fun w0 hI => ?_) (fun K hK => ?_); rotate_left; (· have z0 := (rcell (kp hI (f_s17))).1; have z1 := (rcell (kp hI (f_s27))).1; have z2 := (rcell (kp hI (f_s37))).1; go_simp; rfl); (simp only [Act.put, List.setIfInBounds_toArray, List.set_cons_zero, List.set_cons_succ]; refine hK _ _ ?_; clear hK K)) | (refine Abs.step_skip rfl rfl (fun K hK => ?_); (simp only [Act.put, List.setIfInBounds_toArray, List.set_cons_zero, List.set_cons_succ]; refine hK _ _ ?_; clear hK K)))
  intro w9 hb9 hx0 hx1 hx2
  clear hx0 hx1 hx2
  simp only [Abs.T_setF, Abs.T_addA, Abs.T_push, Abs.T_start]
  have f_x9 := kp hb9 (f_x7)
  have f_s19 := kp hb9 (f_s17)
  have f_s29 := kp hb9 (f_s27)
  have f_s39 := kp hb9 (f_s37)
  have hB9 := bB hB7 hb9
  clear zs1_a zs1_b zs2_a zs2_b zs3_a zs3_b zx_a zx_b
  obtain ⟨zx_a, zx_b, lx9⟩ := rcell f_x9
  obtain ⟨zs1_a, zs1_b, ls19⟩ := rcell f_s19
  obtain ⟨zs2_a, zs2_b, ls29⟩ := rcell f_s29
  obtain ⟨zs3_a, zs3_b, ls39⟩ := rcell f_s39
  go_wp2
  go_ret
  exact ⟨by simp, hB9⟩

set_option maxRecDepth 100000 in
set_option maxHeartbeats 1000000 in
theorem splits_z (n0' ah al bh bl m0 at_ N A B M c F F1 F2 : Int) (N0 : 0 ≤ N) (N1 : N ≤ 256) (h2 : at_ < 9223372036854775808) (h0 : at_ < 0)
    (cn : ∀ w : World, Calls Try.prog 47 #[.agg #[.int .i64 n0', .int .i64 ah, .int .u64 al, .int .i64 bh, .int .u64 bl, .int .i64 m0]] w fun e w' => e = .returned (.agg #[.int .i64 N, .int .i64 (hi A), .int .u64 (lo A), .int .i64 (hi B), .int .u64 (lo B), .int .i64 M]) ∧ Below w.heap.size w w')
    (c1 : ∀ w : World, Calls Try.prog 48 #[.agg #[.int .i64 N, .int .i64 (hi A), .int .u64 (lo A), .int .i64 (hi B), .int .u64 (lo B), .int .i64 M]] w fun e w' => e = .returned (.tuple #[.agg #[.int .i64 (hi F), .int .u64 (lo F)], .bool true]) ∧ Below w.heap.size w w')
    (c2 : ∀ w : World, Calls Try.prog 48 #[.agg #[.int .i64 0, .int .i64 (hi A), .int .u64 (lo A), .int .i64 (hi B), .int .u64 (lo B), .int .i64 M]] w fun e w' => e = .returned (.tuple #[.agg #[.int .i64 (hi F1), .int .u64 (lo F1)], .bool true]) ∧ Below w.heap.size w w')
    (c3 : ∀ w : World, Calls Try.prog 49 #[.agg #[.int .i64 (hi B), .int .u64 (lo B)], .agg #[.int .i64 (hi A), .int .u64 (lo A)], .int .i64 0] w fun e w' => e = .returned (.agg #[.int .i64 (hi c), .int .u64 (lo c)]) ∧ Below w.heap.size w w')
    (c4 : ∀ w : World, Calls Try.prog 48 #[.agg #[.int .i64 N, .int .i64 (hi A), .int .u64 (lo A), .int .i64 (hi c), .int .u64 (lo c), .int .i64 M]] w fun e w' => e = .returned (.tuple #[.agg #[.int .i64 (hi F2), .int .u64 (lo F2)], .bool true]) ∧ Below w.heap.size w w')
    (c5 : ∀ w : World, Calls Try.prog 49 #[.agg #[.int .i64 (hi F1), .int .u64 (lo F1)], .agg #[.int .i64 (hi F2), .int .u64 (lo F2)], .int .i64 1] w fun e w' => e = .returned (.agg #[.int .i64 (hi F), .int .u64 (lo F)]) ∧ Below w.heap.size w w')
    (w : World) :
    Calls Try.prog 13 #[.agg #[.int .i64 n0', .int .i64 ah, .int .u64 al, .int .i64 bh, .int .u64 bl, .int .i64 m0], .int .i64 at_] w fun e w' => e = .returned (.bool true) ∧ Below w.heap.size w w' := by
  go_enter Try.func13, Try.ntmps13
  go_wp2_with fail
  refine (wakes6 _).mono ?_
  rintro e w1 ⟨rfl, hb1⟩
  have f_x1 := kp hb1 (na _ _ _)
  have hB1 := bB (bA (b0 w) _) hb1
  obtain ⟨zx_a, zx_b, lx1⟩ := rcell f_x1
  go_wp2_with fail
  refine (cn _).mono ?_
  rintro e w2 ⟨rfl, hb2⟩
  have f_x2 := kp hb2 (f_x1)
  have hB2 := bB hB1 hb2
  clear zx_a zx_b
  obtain ⟨zx_a, zx_b, lx2⟩ := rcell f_x2
  go_wp2_with fail
  rw [row6 f_x2]
  generalize hT3 : setRow _ _ _ = w3
  obtain ⟨hx3, f_x3⟩ := fin_x (b0 _) f_x2 hT3
  clear hT3
  have hB3 := bX hB2 hx3 (by omega)
  clear zx_a zx_b
  obtain ⟨zx_a, zx_b, lx3⟩ := rcell f_x3
  go_wp2_with fail
  refine (c1 _).mono ?_
  rintro e w4 ⟨rfl, hb4⟩
  have f_x4 := kp hb4 (f_x3)
  have hB4 := bB hB3 hb4
  clear zx_a zx_b
  obtain ⟨zx_a, zx_b, lx4⟩ := rcell f_x4
  go_wp2_with fail
  refine (c2 _).mono ?_
  rintro e w5 ⟨rfl, hb5⟩
  have f_x5 := kp hb5 (ka (f_x4) _)
  have f_s15 := kp hb5 (na _ _ _)
  have hB5 := bB (bA hB4 _) hb5
  clear zx_a zx_b
  obtain ⟨zx_a, zx_b, lx5⟩ := rcell f_x5
  obtain ⟨zs1_a, zs1_b, ls15⟩ := rcell f_s15
  go_wp2_with fail
  have f_x6 := (ka (f_x5) (.cells #[.int .i64 (hi F1), .int .u64 (lo F1)] 46))
  have f_s16 := (ka (f_s15) (.cells #[.int .i64 (hi F1), .int .u64 (lo F1)] 46))
  have f_s26 := (na w5 #[.int .i64 (hi F1), .int .u64 (lo F1)] 46)
  have hB6 := (bA hB5 (.cells #[.int .i64 (hi F1), .int .u64 (lo F1)] 46))
  clear zs1_a zs1_b zx_a zx_b
  have lx6 := (rcell f_x6).2.2
  have ls16 := (rcell f_s16).2.2
  have ls26 := (rcell f_s26).2.2
  refine Abs.wp_region_abs (Abs.cls0 _) [0, 1, 2, 3, 4, 5, 6, 7, 8, 9, 10, 11, 12, 13, 14, 15, 16, 17, 18, 19, 20, 21] (by kernel_rfl) (by kernel_rfl) (Below.refl _ _).drew ?_
  repeat (first | (refine Abs.step_pure rfl rfl (fun K hK => ?_); go_simp; (try go_bits); (first | refine hK _ _ ?_ | (simp only [↓IntWalk.iteOmega]; go_simp; (try go_bits); refine hK _ _ ?_)); clear hK K) | (refine Abs.step_load (v := ?_) rfl rfl (by kernel_rfl) rfl (fun w0 hI => ?_) (fun K hK => ?_); rotate_left; (· have z0 := (rcell (kp hI (f_x6))).1; go_simp; rfl); (simp only [Act.put, List.setIfInBounds_toArray, List.set_cons_zero, List.set_cons_succ]; refine hK _ _ ?_; clear hK K)) | (refine Abs.step_skip rfl rfl (fun K hK => ?_); (simp only [Act.put, List.setIfInBounds_toArray, List.set_cons_zero, List.set_cons_succ]; refine hK _ _ ?_; clear hK K)))
  (refine Abs.step_call_val (f := ?_) (args := ?_) (v := ?_) rfl rfl rfl rfl (fun w0 => ?_) (fun w0 hI => ?_) (fun K hK => ?_); rotate_left 3; (· go_simp; (constructor <;> rfl)); (· exact c3 _); (simp only [Act.put, List.setIfInBounds_toArray, List.set_cons_zero, List.set_cons_succ]; refine hK _ _ ?_; clear hK K))
  repeat (first | (refine Abs.step_pure rfl rfl (fun K hK => ?_); go_simp; (try go_bits); (first | refine hK _ _ ?_ | (simp only [↓IntWalk.iteOmega]; go_simp; (try go_bits); refine hK _ _ ?_)); clear hK K) | (refine Abs.step_load (v := ?_) rfl rfl (by kernel_rfl) rfl (fun w0 hI => ?_) (fun K hK => ?_); rotate_left; (· have z0 := (rcell (kp hI (f_x6))).1; go_simp; rfl); (simp only [Act.put, List.setIfInBounds_toArray, List.set_cons_zero, List.set_cons_succ]; refine hK _ _ ?_; clear hK K)) | (refine Abs.step_skip rfl rfl (fun K hK => ?_); (simp only [Act.put, List.setIfInBounds_toArray, List.set_cons_zero, List.set_cons_succ]; refine hK _ _ ?_; clear hK K)))
  (refine Abs.step_call_val (f := ?_) (args := ?_) (v := ?_) rfl rfl rfl rfl (fun w0 => ?_) (fun w0 hI => ?_) (fun K hK => ?_); rotate_left 3; (· go_simp; (constructor <;> rfl)); (· exact c4 _); (simp only [Act.put, List.setIfInBounds_toArray, List.set_cons_zero, List.set_cons_succ]; refine hK _ _ ?_; clear hK K))
  repeat (first | (refine Abs.step_pure rfl rfl (fun K hK => ?_); go_simp; (try go_bits); (first | refine hK _ _ ?_ | (simp only [↓IntWalk.iteOmega]; go_simp; (try go_bits); refine hK _ _ ?_)); clear hK K) | (refine Abs.step_load (v := ?_) rfl rfl (by kernel_rfl) rfl (fun w0 hI => ?_) (fun K hK => ?_); rotate_left; (· have z0 := (rcell (kp hI (f_x6))).1; go_simp; rfl); (simp only [Act.put, List.setIfInBounds_toArray, List.set_cons_zero, List.set_cons_succ]; refine hK _ _ ?_; clear hK K)) | (refine Abs.step_skip rfl rfl (fun K hK => ?_); (simp only [Act.put, List.setIfInBounds_toArray, List.set_cons_zero, List.set_cons_succ]; refine hK _ _ ?_; clear hK K)))
  (refine Abs.step_var (obj := ?_) rfl rfl rfl rfl (fun w0 => ?_) (fun K hK g_s3 hv_s3 hu_s3 => ?_); rotate_left; (· go_simp; rfl); (simp only [Act.put, List.setIfInBounds_toArray, List.set_cons_zero, List.set_cons_succ]; refine hK _ _ ?_; clear hK K))
  (refine Abs.step_store (T := ?_) rfl rfl rfl (fun w0 hI hF hU => ?_) (fun _ _ _ _ => trivial) (fun K hK => ?_); rotate_left; (· simp only [Abs.F_setF, Abs.F_addA, Abs.F_push, Abs.F_start, true_and] at hF; have hg0 := (rcell hF).1; have hg1 := (rcell hF).2.1; simp only [Abs.T_setF, Abs.T_addA, Abs.T_push, Abs.T_start]; go_simp; exact row2 hF _ _); (simp only [Act.put, List.setIfInBounds_toArray, List.set_cons_zero, List.set_cons_succ]; refine hK _ _ ?_; clear hK K))
  repeat (first | (refine Abs.step_pure rfl rfl (fun K hK => ?_); go_simp; (try go_bits); (first | refine hK _ _ ?_ | (simp only [↓IntWalk.iteOmega]; go_simp; (try go_bits); refine hK _ _ ?_)); clear hK K) | (refine Abs.step_load (v := ?_) rfl rfl (by kernel_rfl) rfl (fun w0 hI => ?_) (fun K hK => ?_); rotate_left; (· have z0 := (rcell (kp hI (f_x6))).1; go_simp; rfl); (simp only [Act.put, List.setIfInBounds_toArray, List.set_cons_zero, List.set_cons_succ]; refine hK _ _ ?_; clear hK K)) | (refine Abs.step_skip rfl rfl (fun K hK => ?_); (simp only [Act.put, List.setIfInBounds_toArray, List.set_cons_zero, List.set_cons_succ]; refine hK _ _ ?_; clear hK K)))
  have hs_s3 := leB hv_s3
  try simp only [World.size_alloc] at hs_s3
  intro w0 hI hF hx1 hx2
  clear hx1 hx2
  simp only [Abs.F_setF, Abs.F_addA, Abs.F_push, Abs.F_start, true_and, Abs.T_push] at hF ⊢
  generalize hT7 : setRow w0 _ _ = w7
  obtain ⟨hb7, f_s37⟩ := fin1 hI hv_s3 hF hT7
  clear hT7 hI hF w0
  have f_x7 := kp hb7 (f_x6)
  have f_s17 := kp hb7 (f_s16)
  have f_s27 := kp hb7 (f_s26)
  have hB7 := bB hB6 hb7
  obtain ⟨zx_a, zx_b, lx7⟩ := rcell f_x7
  obtain ⟨zs1_a, zs1_b, ls17⟩ := rcell f_s17
  obtain ⟨zs2_a, zs2_b, ls27⟩ := rcell f_s27
  obtain ⟨zs3_a, zs3_b, ls37⟩ := rcell f_s37
  go_wp2_with fail
  refine Abs.wp_region_abs (Abs.cls0 _) [0, 1, 2, 3, 4, 5, 6, 7, 8, 9, 10, 11, 12, 13, 14] (by kernel_rfl) (by kernel_rfl) (Below.refl _ _).drew ?_
  repeat (first | (refine Abs.step_pure rfl rfl (fun K hK => ?_); go_simp; (try go_bits); (first | refine hK _ _ ?_ | (simp only [↓IntWalk.iteOmega]; go_simp; (try go_bits); refine hK _ _ ?_)); clear hK K) | (refine Abs.step_load (v := ?_) rfl rfl (by kernel_rfl) rfl (fun w0 hI => ?_) (fun K hK => ?_); rotate_left; (· have z0 := (rcell (kp hI (f_s17))).1; have z1 := (rcell (kp hI (f_s27))).1; have z2 := (rcell (kp hI (f_s37))).1; go_simp; rfl); (simp only [Act.put, List.setIfInBounds_toArray, List.set_cons_zero, List.set_cons_succ]; refine hK _ _ ?_; clear hK K)) | (refine Abs.step_skip rfl rfl (fun K hK => ?_); (simp only [Act.put, List.setIfInBounds_toArray, List.set_cons_zero, List.set_cons_succ]; refine hK _ _ ?_; clear hK K)))
  (refine Abs.step_call_val (f := ?_) (args := ?_) (v := ?_) rfl rfl rfl rfl (fun w0 => ?_) (fun w0 hI => ?_) (fun K hK => ?_); rotate_left 3; (· go_simp; (constructor <;> rfl)); (· exact c5 _); (simp only [Act.put, List.setIfInBounds_toArray, List.set_cons_zero, List.set_cons_succ]; refine hK _ _ ?_; clear hK K))
  repeat (first | (refine Abs.step_pure rfl rfl (fun K hK => ?_); go_simp; (try go_bits); (first | refine hK _ _ ?_ | (simp only [↓IntWalk.iteOmega]; go_simp; (try go_bits); refine hK _ _ ?_)); clear hK K) | (refine Abs.step_load (v := ?_) rfl rfl (by kernel_rfl) rfl (fun w0 hI => ?_) (fun K hK => ?_); rotate_left; (· have z0 := (rcell (kp hI (f_s17))).1; have z1 := (rcell (kp hI (f_s27))).1; have z2 := (rcell (kp hI (f_s37))).1; go_simp; rfl); (simp only [Act.put, List.setIfInBounds_toArray, List.set_cons_zero, List.set_cons_succ]; refine hK _ _ ?_; clear hK K)) | (refine Abs.step_skip rfl rfl (fun K hK => ?_); (simp only [Act.put, List.setIfInBounds_toArray, List.set_cons_zero, List.set_cons_succ]; refine hK _ _ ?_; clear hK K)))
  intro w9 hb9 hx0 hx1 hx2
  clear hx0 hx1 hx2
  simp only [Abs.T_setF, Abs.T_addA, Abs.T_push, Abs.T_start]
  have f_x9 := kp hb9 (f_x7)
  have f_s19 := kp hb9 (f_s17)
  have f_s29 := kp hb9 (f_s27)
  have f_s39 := kp hb9 (f_s37)
  have hB9 := bB hB7 hb9
  clear zs1_a zs1_b zs2_a zs2_b zs3_a zs3_b zx_a zx_b
  obtain ⟨zx_a, zx_b, lx9⟩ := rcell f_x9
  obtain ⟨zs1_a, zs1_b, ls19⟩ := rcell f_s19
  obtain ⟨zs2_a, zs2_b, ls29⟩ := rcell f_s29
  obtain ⟨zs3_a, zs3_b, ls39⟩ := rcell f_s39
  go_wp2
  go_ret
  exact ⟨by simp, hB9⟩

theorem near_bd {n a b m k : Int} (h : NearOk n a b m) (k0 : 0 ≤ k) (k1 : k ≤ 256) : -324518553658426726783156020576256 ≤ a * k ∧ a * k ≤ 324518553658426726783156020576256 := by
  obtain ⟨n0, n1, a0, a1, b0, b1, m1, m2⟩ := h
  have := mul_bd a k 1267650600228229401496703205376 256 (by omega) (by omega) k0 k1
  omega

theorem fsum_splits (n ah al bh bl m t : Int) (hn2 : n < 9223372036854775808) (hm2 : m < 9223372036854775808) (a0 : 0 ≤ al) (a1 : al < 18446744073709551616) (b0' : 0 ≤ bl) (b1 : bl < 18446744073709551616) (t2 : t < 9223372036854775808) (w : World) :
    Calls Try.prog 13 #[.agg #[.int .i64 n, .int .i64 ah, .int .u64 al, .int .i64 bh, .int .u64 bl, .int .i64 m], .int .i64 t] w fun e w' => e = .returned (.bool true) ∧ Below w.heap.size w w' := by
  obtain ⟨N, A, B, M, hok, -, cn⟩ := law6_near n ah al bh bl m hn2 hm2 a0 a1 b0' b1
  have hr := hok.row
  have N0 := hok.n0
  have N1 := hok.n1
  have hA := hok.a0
  have hA1 := hok.a1
  have hB := hok.b0
  have hB1 := hok.b1
  have f := fl_bd hr
  have key : ∀ k : Int, 0 ≤ k → k ≤ N → RowOk k A B M ∧ RowOk (N - k) A (B + A * k) M ∧ (Rng (A * k) ∧ Rng (B + A * k)) ∧ (∀ w : World, Calls Try.prog 49 #[.agg #[.int .i64 (hi (fl k.toNat A B M)), .int .u64 (lo (fl k.toNat A B M))], .agg #[.int .i64 (hi (fl (N - k).toNat A (B + A * k) M)), .int .u64 (lo (fl (N - k).toNat A (B + A * k) M))], .int .i64 1] w fun e w' => e = .returned (.agg #[.int .i64 (hi (fl N.toNat A B M)), .int .u64 (lo (fl N.toNat A B M))]) ∧ Below w.heap.size w w') := by
    intro k k0 k1
    have bd := near_bd hok k0 (by omega)
    have hr1 : RowOk k A B M := ⟨k0, by omega, hr.a0, hr.a1, hr.b0, hr.b1, hr.m1, hr.m2⟩
    have hr2 : RowOk (N - k) A (B + A * k) M := ⟨by omega, by omega, hr.a0, hr.a1, by omega, by omega, hr.m1, hr.m2⟩
    have f1 := fl_bd hr1
    have f2 := fl_bd hr2
    have e : fl k.toNat A B M + fl (N - k).toNat A (B + A * k) M * 1 = fl N.toNat A B M := by
      have := fl_split k.toNat (N - k).toNat A B M
      rw [show k.toNat + (N - k).toNat = N.toNat by omega, show ((k.toNat : Nat) : Int) = k by omega] at this
      omega
    have c5 := law6_plus (fl k.toNat A B M) (fl (N - k).toNat A (B + A * k) M) 1 ⟨by omega, by omega⟩ ⟨by omega, by omega⟩ (by decide) (by decide) ⟨by omega, by omega⟩ ⟨by omega, by omega⟩
    rw [e] at c5
    exact ⟨hr1, hr2, ⟨⟨by omega, by omega⟩, ⟨by omega, by omega⟩⟩, c5⟩
  by_cases h0 : 0 ≤ t
  · have k0 : 0 ≤ t % (N + 1) := Int.emod_nonneg _ (by omega)
    have k1 : t % (N + 1) ≤ N := by have := Int.emod_lt_of_pos t (show 0 < N + 1 by omega); omega
    obtain ⟨hr1, hr2, ⟨q1, q2⟩, c5⟩ := key _ k0 k1
    exact splits_p n ah al bh bl m t N A B M _ _ _ _ _ N0 N1 t2 h0 rfl k0 k1 cn (law6_asks N A B M hr) (law6_asks _ A B M hr1) (law6_plus B A _ ⟨by omega, by omega⟩ ⟨by omega, by omega⟩ (by omega) (by omega) q1 q2) (law6_asks _ A _ M hr2) c5 w
  · obtain ⟨hr1, hr2, ⟨q1, q2⟩, c5⟩ := key 0 (by omega) N0
    have c4 := law6_asks _ A _ M hr2
    rw [Int.sub_zero] at c4 c5
    exact splits_z n ah al bh bl m t N A B M _ _ _ _ N0 N1 t2 (by omega) cn (law6_asks N A B M hr) (law6_asks _ A B M hr1) (law6_plus B A 0 ⟨by omega, by omega⟩ ⟨by omega, by omega⟩ (by decide) (by decide) q1 q2) c4 c5 w
end Go.Proofs.Ytlgjapjcdpikeaa
