/- FsumGreater (yearbooklaw06): its walk, and the plain law. -/
import Derived.Test.YtlgjapjcdpikeaaFsum7
set_option linter.unusedSimpArgs false
set_option linter.unusedVariables false
namespace Go.Proofs.Ytlgjapjcdpikeaa
open Go.RowKit

set_option maxRecDepth 100000 in
set_option maxHeartbeats 2000000 in
theorem greater_p (n0' ah al bh bl m0 N A B M A1 B1 A2 B2 F Fa Fb R x y : Int) (M1 : 1 ≤ M) (M2 : M ≤ 281474976710656) (R0 : 0 ≤ R) (N0 : 0 < N) (N1 : N ≤ 256) (hx : N * (M - 1) = x) (x0 : -9223372036854775808 ≤ x) (x1 : x < 9223372036854775808) (rx : R ≤ x) (hy : N * (N - 1) = y) (y0 : 0 ≤ y) (y1 : y ≤ 65536)
    (cn : ∀ w : World, Calls Try.prog 47 #[.agg #[.int .i64 n0', .int .i64 ah, .int .u64 al, .int .i64 bh, .int .u64 bl, .int .i64 m0]] w fun e w' => e = .returned (.agg #[.int .i64 N, .int .i64 (hi A), .int .u64 (lo A), .int .i64 (hi B), .int .u64 (lo B), .int .i64 M]) ∧ Below w.heap.size w w')
    (c1 : ∀ w : World, Calls Try.prog 48 #[.agg #[.int .i64 N, .int .i64 (hi A), .int .u64 (lo A), .int .i64 (hi B), .int .u64 (lo B), .int .i64 M]] w fun e w' => e = .returned (.tuple #[.agg #[.int .i64 (hi F), .int .u64 (lo F)], .bool true]) ∧ Below w.heap.size w w')
    (cl : ∀ w : World, Calls Try.prog 50 #[.int .i64 M] w fun e w' => e = .returned (.agg #[.int .i64 (hi M), .int .u64 (lo M)]) ∧ Below w.heap.size w w')
    (c2 : ∀ w : World, Calls Try.prog 49 #[.agg #[.int .i64 (hi A), .int .u64 (lo A)], .agg #[.int .i64 (hi M), .int .u64 (lo M)], .int .i64 1] w fun e w' => e = .returned (.agg #[.int .i64 (hi A1), .int .u64 (lo A1)]) ∧ Below w.heap.size w w')
    (c3 : ∀ w : World, Calls Try.prog 48 #[.agg #[.int .i64 N, .int .i64 (hi A1), .int .u64 (lo A1), .int .i64 (hi B), .int .u64 (lo B), .int .i64 M]] w fun e w' => e = .returned (.tuple #[.agg #[.int .i64 (hi Fa), .int .u64 (lo Fa)], .bool true]) ∧ Below w.heap.size w w')
    (c4 : ∀ w : World, Calls Try.prog 49 #[.agg #[.int .i64 (hi B), .int .u64 (lo B)], .agg #[.int .i64 (hi M), .int .u64 (lo M)], .int .i64 (-1)] w fun e w' => e = .returned (.agg #[.int .i64 (hi B1), .int .u64 (lo B1)]) ∧ Below w.heap.size w w')
    (c5 : ∀ w : World, Calls Try.prog 48 #[.agg #[.int .i64 N, .int .i64 (hi A), .int .u64 (lo A), .int .i64 (hi B1), .int .u64 (lo B1), .int .i64 M]] w fun e w' => e = .returned (.tuple #[.agg #[.int .i64 (hi Fb), .int .u64 (lo Fb)], .bool true]) ∧ Below w.heap.size w w')
    (c6 : ∀ w : World, Calls Try.prog 42 #[.int .i64 N, .agg #[.int .i64 (hi A), .int .u64 (lo A)], .agg #[.int .i64 (hi B), .int .u64 (lo B)], .int .i64 M] w fun e w' => e = .returned (.tuple #[.int .i64 R, .int .i64 0]) ∧ Below w.heap.size w w')
    (c7 : ∀ w : World, Calls Try.prog 49 #[.agg #[.int .i64 (hi A), .int .u64 (lo A)], .agg #[.int .i64 (hi M), .int .u64 (lo M)], .int .i64 (-1)] w fun e w' => e = .returned (.agg #[.int .i64 (hi A2), .int .u64 (lo A2)]) ∧ Below w.heap.size w w')
    (c8 : ∀ w : World, Calls Try.prog 49 #[.agg #[.int .i64 (hi B), .int .u64 (lo B)], .agg #[.int .i64 (hi M), .int .u64 (lo M)], .int .i64 1] w fun e w' => e = .returned (.agg #[.int .i64 (hi B2), .int .u64 (lo B2)]) ∧ Below w.heap.size w w')
    (c9 : ∀ w : World, Calls Try.prog 42 #[.int .i64 N, .agg #[.int .i64 (hi A2), .int .u64 (lo A2)], .agg #[.int .i64 (hi B2), .int .u64 (lo B2)], .int .i64 M] w fun e w' => e = .returned (.tuple #[.int .i64 R, .int .i64 0]) ∧ Below w.heap.size w w')
    (d1 : ∀ w : World, Calls Try.prog 50 #[.int .i64 (y / 2)] w fun e w' => e = .returned (.agg #[.int .i64 (hi (y / 2)), .int .u64 (lo (y / 2))]) ∧ Below w.heap.size w w')
    (d2 : ∀ w : World, Calls Try.prog 49 #[.agg #[.int .i64 (hi F), .int .u64 (lo F)], .agg #[.int .i64 (hi (y / 2)), .int .u64 (lo (y / 2))], .int .i64 1] w fun e w' => e = .returned (.agg #[.int .i64 (hi Fa), .int .u64 (lo Fa)]) ∧ Below w.heap.size w w')
    (d3 : ∀ w : World, Calls Try.prog 50 #[.int .i64 N] w fun e w' => e = .returned (.agg #[.int .i64 (hi N), .int .u64 (lo N)]) ∧ Below w.heap.size w w')
    (d4 : ∀ w : World, Calls Try.prog 49 #[.agg #[.int .i64 (hi F), .int .u64 (lo F)], .agg #[.int .i64 (hi N), .int .u64 (lo N)], .int .i64 (-1)] w fun e w' => e = .returned (.agg #[.int .i64 (hi Fb), .int .u64 (lo Fb)]) ∧ Below w.heap.size w w')
    (w : World) :
    Calls Try.prog 15 #[.agg #[.int .i64 n0', .int .i64 ah, .int .u64 al, .int .i64 bh, .int .u64 bl, .int .i64 m0]] w fun e w' => e = .returned (.bool true) ∧ Below w.heap.size w w' := by
  go_enter Try.func15, Try.ntmps15
  go_wp2_with fail
  refine (wakes6 _).mono ?_
  rintro e w1 ⟨rfl, hb1⟩
  have f_x1 := kp hb1 (na _ _ _)
  have hB1 := bB (bA (b0 w) _) hb1
  obtain ⟨zx_a, zx_b, lx1⟩ := rcell f_x1
  go_wp2_with fail
  refine (cn _).mono ?_
  rintro e w2 ⟨rfl, hb2⟩
  have f_x2 := kp hb2 (f_x1)
  have hB2 := bB hB1 hb2
  clear zx_a zx_b
  obtain ⟨zx_a, zx_b, lx2⟩ := rcell f_x2
  go_wp2_with fail
  rw [row6 f_x2]
  generalize hT3 : setRow _ _ _ = w3
  obtain ⟨hx3, f_x3⟩ := fin_x (b0 _) f_x2 hT3
  clear hT3
  have hB3 := bX hB2 hx3 (by omega)
  clear zx_a zx_b
  obtain ⟨zx_a, zx_b, lx3⟩ := rcell f_x3
  go_wp2_with fail
  refine (c1 _).mono ?_
  rintro e w4 ⟨rfl, hb4⟩
  have f_x4 := kp hb4 (f_x3)
  have hB4 := bB hB3 hb4
  clear zx_a zx_b
  obtain ⟨zx_a, zx_b, lx4⟩ := rcell f_x4
  go_wp2_with fail
  have f_x5 := (ka (f_x4) (.cells #[.int .i64 (hi F), .int .u64 (lo F)] 46))
  have f_s15 := (na w4 #[.int .i64 (hi F), .int .u64 (lo F)] 46)
  have hB5 := (bA hB4 (.cells #[.int .i64 (hi F), .int .u64 (lo F)] 46))
  clear zx_a zx_b
  have lx5 := (rcell f_x5).2.2
  have ls15 := (rcell f_s15).2.2
  refine Abs.wp_region_abs (Abs.cls0 _) [0, 1, 2, 3, 4, 5, 6, 7, 8, 9, 10, 11, 12, 13, 14, 15, 16, 17, 18, 19] (by kernel_rfl) (by kernel_rfl) (Below.refl _ _).drew ?_
  repeat (first | (refine Abs.step_pure rfl rfl (fun K hK => ?_); go_simp; (try go_bits); (first | refine hK _ _ ?_ | (simp only [↓IntWalk.iteOmega]; go_simp; (try go_bits); refine hK _ _ ?_)); clear hK K) | (refine Abs.step_load (v := ?_) rfl rfl (by kernel_rfl) rfl (fun w0 hI => ?_) (fun K hK => ?_); rotate_left; (· have z0 := (rcell (kp hI (f_x5))).1; go_simp; rfl); (simp only [Act.put, List.setIfInBounds_toArray, List.set_cons_zero, List.set_cons_succ]; refine hK _ _ ?_; clear hK K)) | (refine Abs.step_skip rfl rfl (fun K hK => ?_); (simp only [Act.put, List.setIfInBounds_toArray, List.set_cons_zero, List.set_cons_succ]; refine hK _ _ ?_; clear hK K)))
  (refine Abs.step_call_val (f := ?_) (args := ?_) (v := ?_) rfl rfl rfl rfl (fun w0 => ?_) (fun w0 hI => ?_) (fun K hK => ?_); rotate_left 3; (· go_simp; (constructor <;> rfl)); (· exact cl _); (simp only [Act.put, List.setIfInBounds_toArray, List.set_cons_zero, List.set_cons_succ]; refine hK _ _ ?_; clear hK K))
  repeat (first | (refine Abs.step_pure rfl rfl (fun K hK => ?_); go_simp; (try go_bits); (first | refine hK _ _ ?_ | (simp only [↓IntWalk.iteOmega]; go_simp; (try go_bits); refine hK _ _ ?_)); clear hK K) | (refine Abs.step_load (v := ?_) rfl rfl (by kernel_rfl) rfl (fun w0 hI => ?_) (fun K hK => ?_); rotate_left; (· have z0 := (rcell (kp hI (f_x5))).1; go_simp; rfl); (simp only [Act.put, List.setIfInBounds_toArray, List.set_cons_zero, List.set_cons_succ]; refine hK _ _ ?_; clear hK K)) | (refine Abs.step_skip rfl rfl (fun K hK => ?_); (simp only [Act.put, List.setIfInBounds_toArray, List.set_cons_zero, List.set_cons_succ]; refine hK _ _ ?_; clear hK K)))
  (refine Abs.step_call_val (f := ?_) (args := ?_) (v := ?_) rfl rfl rfl rfl (fun w0 => ?_) (fun w0 hI => ?_) (fun K hK => ?_); rotate_left 3; (· go_simp; (constructor <;> rfl)); (· exact c2 _); (simp only [Act.put, List.setIfInBounds_toArray, List.set_cons_zero, List.set_cons_succ]; refine hK _ _ ?_; clear hK K))
  repeat (first | (refine Abs.step_pure rfl rfl (fun K hK => ?_); go_simp; (try go_bits); (first | refine hK _ _ ?_ | (simp only [↓IntWalk.iteOmega]; go_simp; (try go_bits); refine hK _ _ ?_)); clear hK K) | (refine Abs.step_load (v := ?_) rfl rfl (by kernel_rfl) rfl (fun w0 hI => ?_) (fun K hK => ?_); rotate_left; (· have z0 := (rcell (kp hI (f_x5))).1; go_simp; rfl); (simp only [Act.put, List.setIfInBounds_toArray, List.set_cons_zero, List.set_cons_succ]; refine hK _ _ ?_; clear hK K)) | (refine Abs.step_skip rfl rfl (fun K hK => ?_); (simp only [Act.put, List.setIfInBounds_toArray, List.set_cons_zero, List.set_cons_succ]; refine hK _ _ ?_; clear hK K)))
  (refine Abs.step_call_val (f := ?_) (args := ?_) (v := ?_) rfl rfl rfl rfl (fun w0 => ?_) (fun w0 hI => ?_) (fun K hK => ?_); rotate_left 3; (· go_simp; (constructor <;> rfl)); (· exact c3 _); (simp only [Act.put, List.setIfInBounds_toArray, List.set_cons_zero, List.set_cons_succ]; refine hK _ _ ?_; clear hK K))
  repeat (first | (refine Abs.step_pure rfl rfl (fun K hK => ?_); go_simp; (try go_bits); (first | refine hK _ _ ?_ | (simp only [↓IntWalk.iteOmega]; go_simp; (try go_bits); refine hK _ _ ?_)); clear hK K) | (refine Abs.step_load (v := ?_) rfl rfl (by kernel_rfl) rfl (fun w0 hI => ?_) (fun K hK => ?_); rotate_left; (· have z0 := (rcell (kp hI (f_x5))).1; go_simp; rfl); (simp only [Act.put, List.setIfInBounds_toArray, List.set_cons_zero, List.set_cons_succ]; refine hK _ _ ?_; clear hK K)) | (refine Abs.step_skip rfl rfl (fun K hK => ?_); (simp only [Act.put, List.setIfInBounds_toArray, List.set_cons_zero, List.set_cons_succ]; refine hK _ _ ?_; clear hK K)))
  (refine Abs.step_var (obj := ?_) rfl rfl rfl rfl (fun w0 => ?_) (fun K hK g_s2 hv_s2 hu_s2 => ?_); rotate_left; (· go_simp; rfl); (simp only [Act.put, List.setIfInBounds_toArray, List.set_cons_zero, List.set_cons_succ]; refine hK _ _ ?_; clear hK K))
  (refine Abs.step_store (T := ?_) rfl rfl rfl (fun w0 hI hF hU => ?_) (fun _ _ _ _ => trivial) (fun K hK => ?_); rotate_left; (· simp only [Abs.F_setF, Abs.F_addA, Abs.F_push, Abs.F_start, true_and] at hF; have hg0 := (rcell hF).1; have hg1 := (rcell hF).2.1; simp only [Abs.T_setF, Abs.T_addA, Abs.T_push, Abs.T_start]; go_simp; exact row2 hF _ _); (simp only [Act.put, List.setIfInBounds_toArray, List.set_cons_zero, List.set_cons_succ]; refine hK _ _ ?_; clear hK K))
  repeat (first | (refine Abs.step_pure rfl rfl (fun K hK => ?_); go_simp; (try go_bits); (first | refine hK _ _ ?_ | (simp only [↓IntWalk.iteOmega]; go_simp; (try go_bits); refine hK _ _ ?_)); clear hK K) | (refine Abs.step_load (v := ?_) rfl rfl (by kernel_rfl) rfl (fun w0 hI => ?_) (fun K hK => ?_); rotate_left; (· have z0 := (rcell (kp hI (f_x5))).1; go_simp; rfl); (simp only [Act.put, List.setIfInBounds_toArray, List.set_cons_zero, List.set_cons_succ]; refine hK _ _ ?_; clear hK K)) | (refine Abs.step_skip rfl rfl (fun K hK => ?_); (simp only [Act.put, List.setIfInBounds_toArray, List.set_cons_zero, List.set_cons_succ]; refine hK _ _ ?_; clear hK K)))
  have hs_s2 := leB hv_s2
  try simp only [World.size_alloc] at hs_s2
  intro w0 hI hF hx1 hx2
  clear hx1 hx2
  simp only [Abs.F_setF, Abs.F_addA, Abs.F_push, Abs.F_start, true_and, Abs.T_push] at hF ⊢
  generalize hT6 : setRow w0 _ _ = w6
  obtain ⟨hb6, f_s26⟩ := fin1 hI hv_s2 hF hT6
  clear hT6 hI hF w0
  have f_x6 := kp hb6 (f_x5)
  have f_s16 := kp hb6 (f_s15)
  have hB6 := bB hB5 hb6
  obtain ⟨zx_a, zx_b, lx6⟩ := rcell f_x6
  obtain ⟨zs1_a, zs1_b, ls16⟩ := rcell f_s16
  obtain ⟨zs2_a, zs2_b, ls26⟩ := rcell f_s26
  go_wp2_with fail
  refine Abs.wp_region_abs (Abs.cls0 _) [0, 1, 2, 3, 4, 5, 6, 7, 8, 9, 10, 11, 12, 13, 14, 15, 16, 17, 18, 19] (by kernel_rfl) (by kernel_rfl) (Below.refl _ _).drew ?_
  repeat (first | (refine Abs.step_pure rfl rfl (fun K hK => ?_); go_simp; (try go_bits); (first | refine hK _ _ ?_ | (simp only [↓IntWalk.iteOmega]; go_simp; (try go_bits); refine hK _ _ ?_)); clear hK K) | (refine Abs.step_load (v := ?_) rfl rfl (by kernel_rfl) rfl (fun w0 hI => ?_) (fun K hK => ?_); rotate_left; (· have z0 := (rcell (kp hI (f_x6))).1; go_simp; rfl); (simp only [Act.put, List.setIfInBounds_toArray, List.set_cons_zero, List.set_cons_succ]; refine hK _ _ ?_; clear hK K)) | (refine Abs.step_skip rfl rfl (fun K hK => ?_); (simp only [Act.put, List.setIfInBounds_toArray, List.set_cons_zero, List.set_cons_succ]; refine hK _ _ ?_; clear hK K)))
  (refine Abs.step_call_val (f := ?_) (args := ?_) (v := ?_) rfl rfl rfl rfl (fun w0 => ?_) (fun w0 hI => ?_) (fun K hK => ?_); rotate_left 3; (· go_simp; (constructor <;> rfl)); (· exact cl _); (simp only [Act.put, List.setIfInBounds_toArray, List.set_cons_zero, List.set_cons_succ]; refine hK _ _ ?_; clear hK K))
  repeat (first | (refine Abs.step_pure rfl rfl (fun K hK => ?_); go_simp; (try go_bits); (first | refine hK _ _ ?_ | (simp only [↓IntWalk.iteOmega]; go_simp; (try go_bits); refine hK _ _ ?_)); clear hK K) | (refine Abs.step_load (v := ?_) rfl rfl (by kernel_rfl) rfl (fun w0 hI => ?_) (fun K hK => ?_); rotate_left; (· have z0 := (rcell (kp hI (f_x6))).1; go_simp; rfl); (simp only [Act.put, List.setIfInBounds_toArray, List.set_cons_zero, List.set_cons_succ]; refine hK _ _ ?_; clear hK K)) | (refine Abs.step_skip rfl rfl (fun K hK => ?_); (simp only [Act.put, List.setIfInBounds_toArray, List.set_cons_zero, List.set_cons_succ]; refine hK _ _ ?_; clear hK K)))
  (refine Abs.step_call_val (f := ?_) (args := ?_) (v := ?_) rfl rfl rfl rfl (fun w0 => ?_) (fun w0 hI => ?_) (fun K hK => ?_); rotate_left 3; (· go_simp; (constructor <;> rfl)); (· exact c4 _); (simp only [Act.put, List.setIfInBounds_toArray, List.set_cons_zero, List.set_cons_succ]; refine hK _ _ ?_; clear hK K))
  repeat (first | (refine Abs.step_pure rfl rfl (fun K hK => ?_); go_simp; (try go_bits); (first | refine hK _ _ ?_ | (simp only [↓IntWalk.iteOmega]; go_simp; (try go_bits); refine hK _ _ ?_)); clear hK K) | (refine Abs.step_load (v := ?_) rfl rfl (by kernel_rfl) rfl (fun w0 hI => ?_) (fun K hK => ?_); rotate_left; (· have z0 := (rcell (kp hI (f_x6))).1; go_simp; rfl); (simp only [Act.put, List.setIfInBounds_toArray, List.set_cons_zero, List.set_cons_succ]; refine hK _ _ ?_; clear hK K)) | (refine Abs.step_skip rfl rfl (fun K hK => ?_); (simp only [Act.put, List.setIfInBounds_toArray, List.set_cons_zero, List.set_cons_succ]; refine hK _ _ ?_; clear hK K)))
  (refine Abs.step_call_val (f := ?_) (args := ?_) (v := ?_) rfl rfl rfl rfl (fun w0 => ?_) (fun w0 hI => ?_) (fun K hK => ?_); rotate_left 3; (· go_simp; (constructor <;> rfl)); (· exact c5 _); (simp only [Act.put, List.setIfInBounds_toArray, List.set_cons_zero, List.set_cons_succ]; refine hK _ _ ?_; clear hK K))
  repeat (first | (refine Abs.step_pure rfl rfl (fun K hK => ?_); go_simp; (try go_bits); (first | refine hK _ _ ?_ | (simp only [↓IntWalk.iteOmega]; go_simp; (try go_bits); refine hK _ _ ?_)); clear hK K) | (refine Abs.step_load (v := ?_) rfl rfl (by kernel_rfl) rfl (fun w0 hI => ?_) (fun K hK => ?_); rotate_left; (· have z0 := (rcell (kp hI (f_x6))).1; go_simp; rfl); (simp only [Act.put, List.setIfInBounds_toArray, List.set_cons_zero, List.set_cons_succ]; refine hK _ _ ?_; clear hK K)) | (refine Abs.step_skip rfl rfl (fun K hK => ?_); (simp only [Act.put, List.setIfInBounds_toArray, List.set_cons_zero, List.set_cons_succ]; refine hK _ _ ?_; clear hK K)))
  (refine Abs.step_var (obj := ?_) rfl rfl rfl rfl (fun w0 => ?_) (fun K hK g_s3 hv_s3 hu_s3 => ?_); rotate_left; (· go_simp; rfl); (simp only [Act.put, List.setIfInBounds_toArray, List.set_cons_zero, List.set_cons_succ]; refine hK _ _ ?_; clear hK K))
  (refine Abs.step_store (T := ?_) rfl rfl rfl (fun w0 hI hF hU => ?_) (fun _ _ _ _ => trivial) (fun K hK => ?_); rotate_left; (· simp only [Abs.F_setF, Abs.F_addA, Abs.F_push, Abs.F_start, true_and] at hF; have hg0 := (rcell hF).1; have hg1 := (rcell hF).2.1; simp only [Abs.T_setF, Abs.T_addA, Abs.T_push, Abs.T_start]; go_simp; exact row2 hF _ _); (simp only [Act.put, List.setIfInBounds_toArray, List.set_cons_zero, List.set_cons_succ]; refine hK _ _ ?_; clear hK K))
  repeat (first | (refine Abs.step_pure rfl rfl (fun K hK => ?_); go_simp; (try go_bits); (first | refine hK _ _ ?_ | (simp only [↓IntWalk.iteOmega]; go_simp; (try go_bits); refine hK _ _ ?_)); clear hK K) | (refine Abs.step_load (v := ?_) rfl rfl (by kernel_rfl) rfl (fun w0 hI => ?_) (fun K hK => ?_); rotate_left; (· have z0 := (rcell (kp hI (f_x6))).1; go_simp; rfl); (simp only [Act.put, List.setIfInBounds_toArray, List.set_cons_zero, List.set_cons_succ]; refine hK _ _ ?_; clear hK K)) | (refine Abs.step_skip rfl rfl (fun K hK => ?_); (simp only [Act.put, List.setIfInBounds_toArray, List.set_cons_zero, List.set_cons_succ]; refine hK _ _ ?_; clear hK K)))
  have hs_s3 := leB hv_s3
  try simp only [World.size_alloc] at hs_s3
  intro w0 hI hF hx1 hx2
  clear hx1 hx2
  simp only [Abs.F_setF, Abs.F_addA, Abs.F_push, Abs.F_start, true_and, Abs.T_push] at hF ⊢
  generalize hT8 : setRow w0 _ _ = w8
  obtain ⟨hb8, f_s38⟩ := fin1 hI hv_s3 hF hT8
  clear hT8 hI hF w0
  have f_x8 := kp hb8 (f_x6)
  have f_s18 := kp hb8 (f_s16)
  have f_s28 := kp hb8 (f_s26)
  have hB8 := bB hB6 hb8
  clear zs1_a zs1_b zs2_a zs2_b zx_a zx_b
  obtain ⟨zx_a, zx_b, lx8⟩ := rcell f_x8
  obtain ⟨zs1_a, zs1_b, ls18⟩ := rcell f_s18
  obtain ⟨zs2_a, zs2_b, ls28⟩ := rcell f_s28
  obtain ⟨zs3_a, zs3_b, ls38⟩ := rcell f_s38
  go_wp2_with fail
  refine (c6 _).mono ?_
  rintro e w9 ⟨rfl, hb9⟩
  have f_x9 := kp hb9 (f_x8)
  have f_s19 := kp hb9 (f_s18)
  have f_s29 := kp hb9 (f_s28)
  have f_s39 := kp hb9 (f_s38)
  have hB9 := bB hB8 hb9
  clear zs1_a zs1_b zs2_a zs2_b zs3_a zs3_b zx_a zx_b
  obtain ⟨zx_a, zx_b, lx9⟩ := rcell f_x9
  obtain ⟨zs1_a, zs1_b, ls19⟩ := rcell f_s19
  obtain ⟨zs2_a, zs2_b, ls29⟩ := rcell f_s29
  obtain ⟨zs3_a, zs3_b, ls39⟩ := rcell f_s39
  go_wp2_with fail
  refine Abs.wp_region_abs (Abs.cls0 _) [0, 1, 2, 3, 4, 5, 6, 7, 8, 9, 10, 11, 12, 13, 14, 15, 16, 17, 18, 19, 20, 21] (by kernel_rfl) (by kernel_rfl) (Below.refl _ _).drew ?_
  repeat (first | (refine Abs.step_pure rfl rfl (fun K hK => ?_); go_simp; (try go_bits); (first | refine hK _ _ ?_ | (simp only [↓IntWalk.iteOmega]; go_simp; (try go_bits); refine hK _ _ ?_)); clear hK K) | (refine Abs.step_load (v := ?_) rfl rfl (by kernel_rfl) rfl (fun w0 hI => ?_) (fun K hK => ?_); rotate_left; (· have z0 := (rcell (kp hI (f_x9))).1; go_simp; rfl); (simp only [Act.put, List.setIfInBounds_toArray, List.set_cons_zero, List.set_cons_succ]; refine hK _ _ ?_; clear hK K)) | (refine Abs.step_skip rfl rfl (fun K hK => ?_); (simp only [Act.put, List.setIfInBounds_toArray, List.set_cons_zero, List.set_cons_succ]; refine hK _ _ ?_; clear hK K)))
  (refine Abs.step_call_val (f := ?_) (args := ?_) (v := ?_) rfl rfl rfl rfl (fun w0 => ?_) (fun w0 hI => ?_) (fun K hK => ?_); rotate_left 3; (· go_simp; (constructor <;> rfl)); (· exact cl _); (simp only [Act.put, List.setIfInBounds_toArray, List.set_cons_zero, List.set_cons_succ]; refine hK _ _ ?_; clear hK K))
  repeat (first | (refine Abs.step_pure rfl rfl (fun K hK => ?_); go_simp; (try go_bits); (first | refine hK _ _ ?_ | (simp only [↓IntWalk.iteOmega]; go_simp; (try go_bits); refine hK _ _ ?_)); clear hK K) | (refine Abs.step_load (v := ?_) rfl rfl (by kernel_rfl) rfl (fun w0 hI => ?_) (fun K hK => ?_); rotate_left; (· have z0 := (rcell (kp hI (f_x9))).1; go_simp; rfl); (simp only [Act.put, List.setIfInBounds_toArray, List.set_cons_zero, List.set_cons_succ]; refine hK _ _ ?_; clear hK K)) | (refine Abs.step_skip rfl rfl (fun K hK => ?_); (simp only [Act.put, List.setIfInBounds_toArray, List.set_cons_zero, List.set_cons_succ]; refine hK _ _ ?_; clear hK K)))
  (refine Abs.step_call_val (f := ?_) (args := ?_) (v := ?_) rfl rfl rfl rfl (fun w0 => ?_) (fun w0 hI => ?_) (fun K hK => ?_); rotate_left 3; (· go_simp; (constructor <;> rfl)); (· exact c7 _); (simp only [Act.put, List.setIfInBounds_toArray, List.set_cons_zero, List.set_cons_succ]; refine hK _ _ ?_; clear hK K))
  repeat (first | (refine Abs.step_pure rfl rfl (fun K hK => ?_); go_simp; (try go_bits); (first | refine hK _ _ ?_ | (simp only [↓IntWalk.iteOmega]; go_simp; (try go_bits); refine hK _ _ ?_)); clear hK K) | (refine Abs.step_load (v := ?_) rfl rfl (by kernel_rfl) rfl (fun w0 hI => ?_) (fun K hK => ?_); rotate_left; (· have z0 := (rcell (kp hI (f_x9))).1; go_simp; rfl); (simp only [Act.put, List.setIfInBounds_toArray, List.set_cons_zero, List.set_cons_succ]; refine hK _ _ ?_; clear hK K)) | (refine Abs.step_skip rfl rfl (fun K hK => ?_); (simp only [Act.put, List.setIfInBounds_toArray, List.set_cons_zero, List.set_cons_succ]; refine hK _ _ ?_; clear hK K)))
  (refine Abs.step_call_val (f := ?_) (args := ?_) (v := ?_) rfl rfl rfl rfl (fun w0 => ?_) (fun w0 hI => ?_) (fun K hK => ?_); rotate_left 3; (· go_simp; (constructor <;> rfl)); (· exact cl _); (simp only [Act.put, List.setIfInBounds_toArray, List.set_cons_zero, List.set_cons_succ]; refine hK _ _ ?_; clear hK K))
  repeat (first | (refine Abs.step_pure rfl rfl (fun K hK => ?_); go_simp; (try go_bits); (first | refine hK _ _ ?_ | (simp only [↓IntWalk.iteOmega]; go_simp; (try go_bits); refine hK _ _ ?_)); clear hK K) | (refine Abs.step_load (v := ?_) rfl rfl (by kernel_rfl) rfl (fun w0 hI => ?_) (fun K hK => ?_); rotate_left; (· have z0 := (rcell (kp hI (f_x9))).1; go_simp; rfl); (simp only [Act.put, List.setIfInBounds_toArray, List.set_cons_zero, List.set_cons_succ]; refine hK _ _ ?_; clear hK K)) | (refine Abs.step_skip rfl rfl (fun K hK => ?_); (simp only [Act.put, List.setIfInBounds_toArray, List.set_cons_zero, List.set_cons_succ]; refine hK _ _ ?_; clear hK K)))
  (refine Abs.step_call_val (f := ?_) (args := ?_) (v := ?_) rfl rfl rfl rfl (fun w0 => ?_) (fun w0 hI => ?_) (fun K hK => ?_); rotate_left 3; (· go_simp; (constructor <;> rfl)); (· exact c8 _); (simp only [Act.put, List.setIfInBounds_toArray, List.set_cons_zero, List.set_cons_succ]; refine hK _ _ ?_; clear hK K))
  repeat (first | (refine Abs.step_pure rfl rfl (fun K hK => ?_); go_simp; (try go_bits); (first | refine hK _ _ ?_ | (simp only [↓IntWalk.iteOmega]; go_simp; (try go_bits); refine hK _ _ ?_)); clear hK K) | (refine Abs.step_load (v := ?_) rfl rfl (by kernel_rfl) rfl (fun w0 hI => ?_) (fun K hK => ?_); rotate_left; (· have z0 := (rcell (kp hI (f_x9))).1; go_simp; rfl); (simp only [Act.put, List.setIfInBounds_toArray, List.set_cons_zero, List.set_cons_succ]; refine hK _ _ ?_; clear hK K)) | (refine Abs.step_skip rfl rfl (fun K hK => ?_); (simp only [Act.put, List.setIfInBounds_toArray, List.set_cons_zero, List.set_cons_succ]; refine hK _ _ ?_; clear hK K)))
  (refine Abs.step_call_val (f := ?_) (args := ?_) (v := ?_) rfl rfl rfl rfl (fun w0 => ?_) (fun w0 hI => ?_) (fun K hK => ?_); rotate_left 3; (· go_simp; (constructor <;> rfl)); (· exact c9 _); (simp only [Act.put, List.setIfInBounds_toArray, List.set_cons_zero, List.set_cons_succ]; refine hK _ _ ?_; clear hK K))
  repeat (first | (refine Abs.step_pure rfl rfl (fun K hK => ?_); go_simp; (try go_bits); (first | refine hK _ _ ?_ | (simp only [↓IntWalk.iteOmega]; go_simp; (try go_bits); refine hK _ _ ?_)); clear hK K) | (refine Abs.step_load (v := ?_) rfl rfl (by kernel_rfl) rfl (fun w0 hI => ?_) (fun K hK => ?_); rotate_left; (· have z0 := (rcell (kp hI (f_x9))).1; go_simp; rfl); (simp only [Act.put, List.setIfInBounds_toArray, List.set_cons_zero, List.set_cons_succ]; refine hK _ _ ?_; clear hK K)) | (refine Abs.step_skip rfl rfl (fun K hK => ?_); (simp only [Act.put, List.setIfInBounds_toArray, List.set_cons_zero, List.set_cons_succ]; refine hK _ _ ?_; clear hK K)))
  intro w11 hb11 hx0 hx1 hx2
  clear hx0 hx1 hx2
  simp only [Abs.T_setF, Abs.T_addA, Abs.T_push, Abs.T_start]
  have f_x11 := kp hb11 (f_x9)
  have f_s111 := kp hb11 (f_s19)
  have f_s211 := kp hb11 (f_s29)
  have f_s311 := kp hb11 (f_s39)
  have hB11 := bB hB9 hb11
  clear zs1_a zs1_b zs2_a zs2_b zs3_a zs3_b zx_a zx_b
  obtain ⟨zx_a, zx_b, lx11⟩ := rcell f_x11
  obtain ⟨zs1_a, zs1_b, ls111⟩ := rcell f_s111
  obtain ⟨zs2_a, zs2_b, ls211⟩ := rcell f_s211
  obtain ⟨zs3_a, zs3_b, ls311⟩ := rcell f_s311
  go_wp2_with fail
  refine Abs.wp_region_abs (Abs.cls0 _) [0, 1, 2, 3, 4, 5, 6, 7, 8, 9, 10, 11, 12, 13, 14, 15, 16, 17, 18] (by kernel_rfl) (by kernel_rfl) (Below.refl _ _).drew ?_
  repeat (first | (refine Abs.step_pure rfl rfl (fun K hK => ?_); go_simp; (try go_bits); (first | refine hK _ _ ?_ | (simp only [↓IntWalk.iteOmega]; go_simp; (try go_bits); refine hK _ _ ?_)); clear hK K) | (refine Abs.step_load (v := ?_) rfl rfl (by kernel_rfl) rfl (fun w0 hI => ?_) (fun K hK => ?_); rotate_left; (· have z0 := (rcell (kp hI (f_s111))).1; have z1 := (rcell (kp hI (f_s211))).1; have z2 := (rcell (kp hI (f_s311))).1; go_simp; rfl); (simp only [Act.put, List.setIfInBounds_toArray, List.set_cons_zero, List.set_cons_succ]; refine hK _ _ ?_; clear hK K)) | (refine Abs.step_skip rfl rfl (fun K hK => ?_); (simp only [Act.put, List.setIfInBounds_toArray, List.set_cons_zero, List.set_cons_succ]; refine hK _ _ ?_; clear hK K)))
  (refine Abs.step_call_val (f := ?_) (args := ?_) (v := ?_) rfl rfl rfl rfl (fun w0 => ?_) (fun w0 hI => ?_) (fun K hK => ?_); rotate_left 3; (· go_simp; (constructor <;> rfl)); (· exact d1 _); (simp only [Act.put, List.setIfInBounds_toArray, List.set_cons_zero, List.set_cons_succ]; refine hK _ _ ?_; clear hK K))
  repeat (first | (refine Abs.step_pure rfl rfl (fun K hK => ?_); go_simp; (try go_bits); (first | refine hK _ _ ?_ | (simp only [↓IntWalk.iteOmega]; go_simp; (try go_bits); refine hK _ _ ?_)); clear hK K) | (refine Abs.step_load (v := ?_) rfl rfl (by kernel_rfl) rfl (fun w0 hI => ?_) (fun K hK => ?_); rotate_left; (· have z0 := (rcell (kp hI (f_s111))).1; have z1 := (rcell (kp hI (f_s211))).1; have z2 := (rcell (kp hI (f_s311))).1; go_simp; rfl); (simp only [Act.put, List.setIfInBounds_toArray, List.set_cons_zero, List.set_cons_succ]; refine hK _ _ ?_; clear hK K)) | (refine Abs.step_skip rfl rfl (fun K hK => ?_); (simp only [Act.put, List.setIfInBounds_toArray, List.set_cons_zero, List.set_cons_succ]; refine hK _ _ ?_; clear hK K)))
  (refine Abs.step_call_val (f := ?_) (args := ?_) (v := ?_) rfl rfl rfl rfl (fun w0 => ?_) (fun w0 hI => ?_) (fun K hK => ?_); rotate_left 3; (· go_simp; (constructor <;> rfl)); (· exact d2 _); (simp only [Act.put, List.setIfInBounds_toArray, List.set_cons_zero, List.set_cons_succ]; refine hK _ _ ?_; clear hK K))
  repeat (first | (refine Abs.step_pure rfl rfl (fun K hK => ?_); go_simp; (try go_bits); (first | refine hK _ _ ?_ | (simp only [↓IntWalk.iteOmega]; go_simp; (try go_bits); refine hK _ _ ?_)); clear hK K) | (refine Abs.step_load (v := ?_) rfl rfl (by kernel_rfl) rfl (fun w0 hI => ?_) (fun K hK => ?_); rotate_left; (· have z0 := (rcell (kp hI (f_s111))).1; have z1 := (rcell (kp hI (f_s211))).1; have z2 := (rcell (kp hI (f_s311))).1; go_simp; rfl); (simp only [Act.put, List.setIfInBounds_toArray, List.set_cons_zero, List.set_cons_succ]; refine hK _ _ ?_; clear hK K)) | (refine Abs.step_skip rfl rfl (fun K hK => ?_); (simp only [Act.put, List.setIfInBounds_toArray, List.set_cons_zero, List.set_cons_succ]; refine hK _ _ ?_; clear hK K)))
  (refine Abs.step_call_val (f := ?_) (args := ?_) (v := ?_) rfl rfl rfl rfl (fun w0 => ?_) (fun w0 hI => ?_) (fun K hK => ?_); rotate_left 3; (· go_simp; (constructor <;> rfl)); (· exact d3 _); (simp only [Act.put, List.setIfInBounds_toArray, List.set_cons_zero, List.set_cons_succ]; refine hK _ _ ?_; clear hK K))
  repeat (first | (refine Abs.step_pure rfl rfl (fun K hK => ?_); go_simp; (try go_bits); (first | refine hK _ _ ?_ | (simp only [↓IntWalk.iteOmega]; go_simp; (try go_bits); refine hK _ _ ?_)); clear hK K) | (refine Abs.step_load (v := ?_) rfl rfl (by kernel_rfl) rfl (fun w0 hI => ?_) (fun K hK => ?_); rotate_left; (· have z0 := (rcell (kp hI (f_s111))).1; have z1 := (rcell (kp hI (f_s211))).1; have z2 := (rcell (kp hI (f_s311))).1; go_simp; rfl); (simp only [Act.put, List.setIfInBounds_toArray, List.set_cons_zero, List.set_cons_succ]; refine hK _ _ ?_; clear hK K)) | (refine Abs.step_skip rfl rfl (fun K hK => ?_); (simp only [Act.put, List.setIfInBounds_toArray, List.set_cons_zero, List.set_cons_succ]; refine hK _ _ ?_; clear hK K)))
  (refine Abs.step_call_val (f := ?_) (args := ?_) (v := ?_) rfl rfl rfl rfl (fun w0 => ?_) (fun w0 hI => ?_) (fun K hK => ?_); rotate_left 3; (· go_simp; (constructor <;> rfl)); (· exact d4 _); (simp only [Act.put, List.setIfInBounds_toArray, List.set_cons_zero, List.set_cons_succ]; refine hK _ _ ?_; clear hK K))
  repeat (first | (refine Abs.step_pure rfl rfl (fun K hK => ?_); go_simp; (try go_bits); (first | refine hK _ _ ?_ | (simp only [↓IntWalk.iteOmega]; go_simp; (try go_bits); refine hK _ _ ?_)); clear hK K) | (refine Abs.step_load (v := ?_) rfl rfl (by kernel_rfl) rfl (fun w0 hI => ?_) (fun K hK => ?_); rotate_left; (· have z0 := (rcell (kp hI (f_s111))).1; have z1 := (rcell (kp hI (f_s211))).1; have z2 := (rcell (kp hI (f_s311))).1; go_simp; rfl); (simp only [Act.put, List.setIfInBounds_toArray, List.set_cons_zero, List.set_cons_succ]; refine hK _ _ ?_; clear hK K)) | (refine Abs.step_skip rfl rfl (fun K hK => ?_); (simp only [Act.put, List.setIfInBounds_toArray, List.set_cons_zero, List.set_cons_succ]; refine hK _ _ ?_; clear hK K)))
  intro w13 hb13 hx0 hx1 hx2
  clear hx0 hx1 hx2
  simp only [Abs.T_setF, Abs.T_addA, Abs.T_push, Abs.T_start]
  have f_x13 := kp hb13 (f_x11)
  have f_s113 := kp hb13 (f_s111)
  have f_s213 := kp hb13 (f_s211)
  have f_s313 := kp hb13 (f_s311)
  have hB13 := bB hB11 hb13
  clear zs1_a zs1_b zs2_a zs2_b zs3_a zs3_b zx_a zx_b
  obtain ⟨zx_a, zx_b, lx13⟩ := rcell f_x13
  obtain ⟨zs1_a, zs1_b, ls113⟩ := rcell f_s113
  obtain ⟨zs2_a, zs2_b, ls213⟩ := rcell f_s213
  obtain ⟨zs3_a, zs3_b, ls313⟩ := rcell f_s313
  go_wp2
  go_ret
  exact ⟨by simp, hB13⟩

set_option maxRecDepth 100000 in
set_option maxHeartbeats 2000000 in
theorem greater_z (n0' ah al bh bl m0 A B M A1 B1 A2 B2 F Fa Fb R : Int) (M1 : 1 ≤ M) (M2 : M ≤ 281474976710656) (R0 : 0 ≤ R) 
    (cn : ∀ w : World, Calls Try.prog 47 #[.agg #[.int .i64 n0', .int .i64 ah, .int .u64 al, .int .i64 bh, .int .u64 bl, .int .i64 m0]] w fun e w' => e = .returned (.agg #[.int .i64 0, .int .i64 (hi A), .int .u64 (lo A), .int .i64 (hi B), .int .u64 (lo B), .int .i64 M]) ∧ Below w.heap.size w w')
    (c1 : ∀ w : World, Calls Try.prog 48 #[.agg #[.int .i64 0, .int .i64 (hi A), .int .u64 (lo A), .int .i64 (hi B), .int .u64 (lo B), .int .i64 M]] w fun e w' => e = .returned (.tuple #[.agg #[.int .i64 (hi F), .int .u64 (lo F)], .bool true]) ∧ Below w.heap.size w w')
    (cl : ∀ w : World, Calls Try.prog 50 #[.int .i64 M] w fun e w' => e = .returned (.agg #[.int .i64 (hi M), .int .u64 (lo M)]) ∧ Below w.heap.size w w')
    (c2 : ∀ w : World, Calls Try.prog 49 #[.agg #[.int .i64 (hi A), .int .u64 (lo A)], .agg #[.int .i64 (hi M), .int .u64 (lo M)], .int .i64 1] w fun e w' => e = .returned (.agg #[.int .i64 (hi A1), .int .u64 (lo A1)]) ∧ Below w.heap.size w w')
    (c3 : ∀ w : World, Calls Try.prog 48 #[.agg #[.int .i64 0, .int .i64 (hi A1), .int .u64 (lo A1), .int .i64 (hi B), .int .u64 (lo B), .int .i64 M]] w fun e w' => e = .returned (.tuple #[.agg #[.int .i64 (hi Fa), .int .u64 (lo Fa)], .bool true]) ∧ Below w.heap.size w w')
    (c4 : ∀ w : World, Calls Try.prog 49 #[.agg #[.int .i64 (hi B), .int .u64 (lo B)], .agg #[.int .i64 (hi M), .int .u64 (lo M)], .int .i64 (-1)] w fun e w' => e = .returned (.agg #[.int .i64 (hi B1), .int .u64 (lo B1)]) ∧ Below w.heap.size w w')
    (c5 : ∀ w : World, Calls Try.prog 48 #[.agg #[.int .i64 0, .int .i64 (hi A), .int .u64 (lo A), .int .i64 (hi B1), .int .u64 (lo B1), .int .i64 M]] w fun e w' => e = .returned (.tuple #[.agg #[.int .i64 (hi Fb), .int .u64 (lo Fb)], .bool true]) ∧ Below w.heap.size w w')
    (c6 : ∀ w : World, Calls Try.prog 42 #[.int .i64 0, .agg #[.int .i64 (hi A), .int .u64 (lo A)], .agg #[.int .i64 (hi B), .int .u64 (lo B)], .int .i64 M] w fun e w' => e = .returned (.tuple #[.int .i64 R, .int .i64 0]) ∧ Below w.heap.size w w')
    (c7 : ∀ w : World, Calls Try.prog 49 #[.agg #[.int .i64 (hi A), .int .u64 (lo A)], .agg #[.int .i64 (hi M), .int .u64 (lo M)], .int .i64 (-1)] w fun e w' => e = .returned (.agg #[.int .i64 (hi A2), .int .u64 (lo A2)]) ∧ Below w.heap.size w w')
    (c8 : ∀ w : World, Calls Try.prog 49 #[.agg #[.int .i64 (hi B), .int .u64 (lo B)], .agg #[.int .i64 (hi M), .int .u64 (lo M)], .int .i64 1] w fun e w' => e = .returned (.agg #[.int .i64 (hi B2), .int .u64 (lo B2)]) ∧ Below w.heap.size w w')
    (c9 : ∀ w : World, Calls Try.prog 42 #[.int .i64 0, .agg #[.int .i64 (hi A2), .int .u64 (lo A2)], .agg #[.int .i64 (hi B2), .int .u64 (lo B2)], .int .i64 M] w fun e w' => e = .returned (.tuple #[.int .i64 R, .int .i64 0]) ∧ Below w.heap.size w w')
    (d1 : ∀ w : World, Calls Try.prog 50 #[.int .i64 0] w fun e w' => e = .returned (.agg #[.int .i64 0, .int .u64 0]) ∧ Below w.heap.size w w')
    (d2 : ∀ w : World, Calls Try.prog 49 #[.agg #[.int .i64 (hi F), .int .u64 (lo F)], .agg #[.int .i64 0, .int .u64 0], .int .i64 1] w fun e w' => e = .returned (.agg #[.int .i64 (hi Fa), .int .u64 (lo Fa)]) ∧ Below w.heap.size w w')
    (d3 : ∀ w : World, Calls Try.prog 50 #[.int .i64 0] w fun e w' => e = .returned (.agg #[.int .i64 0, .int .u64 0]) ∧ Below w.heap.size w w')
    (d4 : ∀ w : World, Calls Try.prog 49 #[.agg #[.int .i64 (hi F), .int .u64 (lo F)], .agg #[.int .i64 0, .int .u64 0], .int .i64 (-1)] w fun e w' => e = .returned (.agg #[.int .i64 (hi Fb), .int .u64 (lo Fb)]) ∧ Below w.heap.size w w')
    (w : World) :
    Calls Try.prog 15 #[.agg #[.int .i64 n0', .int .i64 ah, .int .u64 al, .int .i64 bh, .int .u64 bl, .int .i64 m0]] w fun e w' => e = .returned (.bool true) ∧ Below w.heap.size w w' := by
  go_enter Try.func15, Try.ntmps15
  go_wp2_with fail
  refine (wakes6 _).mono ?_
  rintro e w1 ⟨rfl, hb1⟩
  have f_x1 := kp hb1 (na _ _ _)
  have hB1 := bB (bA (b0 w) _) hb1
  obtain ⟨zx_a, zx_b, lx1⟩ := rcell f_x1
  go_wp2_with fail
  refine (cn _).mono ?_
  rintro e w2 ⟨rfl, hb2⟩
  have f_x2 := kp hb2 (f_x1)
  have hB2 := bB hB1 hb2
  clear zx_a zx_b
  obtain ⟨zx_a, zx_b, lx2⟩ := rcell f_x2
  go_wp2_with fail
  rw [row6 f_x2]
  generalize hT3 : setRow _ _ _ = w3
  obtain ⟨hx3, f_x3⟩ := fin_x (b0 _) f_x2 hT3
  clear hT3
  have hB3 := bX hB2 hx3 (by omega)
  clear zx_a zx_b
  obtain ⟨zx_a, zx_b, lx3⟩ := rcell f_x3
  go_wp2_with fail
  refine (c1 _).mono ?_
  rintro e w4 ⟨rfl, hb4⟩
  have f_x4 := kp hb4 (f_x3)
  have hB4 := bB hB3 hb4
  clear zx_a zx_b
  obtain ⟨zx_a, zx_b, lx4⟩ := rcell f_x4
  go_wp2_with fail
  have f_x5 := (ka (f_x4) (.cells #[.int .i64 (hi F), .int .u64 (lo F)] 46))
  have f_s15 := (na w4 #[.int .i64 (hi F), .int .u64 (lo F)] 46)
  have hB5 := (bA hB4 (.cells #[.int .i64 (hi F), .int .u64 (lo F)] 46))
  clear zx_a zx_b
  have lx5 := (rcell f_x5).2.2
  have ls15 := (rcell f_s15).2.2
  refine Abs.wp_region_abs (Abs.cls0 _) [0, 1, 2, 3, 4, 5, 6, 7, 8, 9, 10, 11, 12, 13, 14, 15, 16, 17, 18, 19] (by kernel_rfl) (by kernel_rfl) (Below.refl _ _).drew ?_
  repeat (first | (refine Abs.step_pure rfl rfl (fun K hK => ?_); go_simp; (try go_bits); (first | refine hK _ _ ?_ | (simp only [↓IntWalk.iteOmega]; go_simp; (try go_bits); refine hK _ _ ?_)); clear hK K) | (refine Abs.step_load (v := ?_) rfl rfl (by kernel_rfl) rfl (fun w0 hI => ?_) (fun K hK => ?_); rotate_left; (· have z0 := (rcell (kp hI (f_x5))).1; go_simp; rfl); (simp only [Act.put, List.setIfInBounds_toArray, List.set_cons_zero, List.set_cons_succ]; refine hK _ _ ?_; clear hK K)) | (refine Abs.step_skip rfl rfl (fun K hK => ?_); (simp only [Act.put, List.setIfInBounds_toArray, List.set_cons_zero, List.set_cons_succ]; refine hK _ _ ?_; clear hK K)))
  (refine Abs.step_call_val (f := ?_) (args := ?_) (v := ?_) rfl rfl rfl rfl (fun w0 => ?_) (fun w0 hI => ?_) (fun K hK => ?_); rotate_left 3; (· go_simp; (constructor <;> rfl)); (· exact cl _); (simp only [Act.put, List.setIfInBounds_toArray, List.set_cons_zero, List.set_cons_succ]; refine hK _ _ ?_; clear hK K))
  repeat (first | (refine Abs.step_pure rfl rfl (fun K hK => ?_); go_simp; (try go_bits); (first | refine hK _ _ ?_ | (simp only [↓IntWalk.iteOmega]; go_simp; (try go_bits); refine hK _ _ ?_)); clear hK K) | (refine Abs.step_load (v := ?_) rfl rfl (by kernel_rfl) rfl (fun w0 hI => ?_) (fun K hK => ?_); rotate_left; (· have z0 := (rcell (kp hI (f_x5))).1; go_simp; rfl); (simp only [Act.put, List.setIfInBounds_toArray, List.set_cons_zero, List.set_cons_succ]; refine hK _ _ ?_; clear hK K)) | (refine Abs.step_skip rfl rfl (fun K hK => ?_); (simp only [Act.put, List.setIfInBounds_toArray, List.set_cons_zero, List.set_cons_succ]; refine hK _ _ ?_; clear hK K)))
  (refine Abs.step_call_val (f := ?_) (args := ?_) (v := ?_) rfl rfl rfl rfl (fun w0 => ?_) (fun w0 hI => ?_) (fun K hK => ?_); rotate_left 3; (· go_simp; (constructor <;> rfl)); (· exact c2 _); (simp only [Act.put, List.setIfInBounds_toArray, List.set_cons_zero, List.set_cons_succ]; refine hK _ _ ?_; clear hK K))
  repeat (first | (refine Abs.step_pure rfl rfl (fun K hK => ?_); go_simp; (try go_bits); (first | refine hK _ _ ?_ | (simp only [↓IntWalk.iteOmega]; go_simp; (try go_bits); refine hK _ _ ?_)); clear hK K) | (refine Abs.step_load (v := ?_) rfl rfl (by kernel_rfl) rfl (fun w0 hI => ?_) (fun K hK => ?_); rotate_left; (· have z0 := (rcell (kp hI (f_x5))).1; go_simp; rfl); (simp only [Act.put, List.setIfInBounds_toArray, List.set_cons_zero, List.set_cons_succ]; refine hK _ _ ?_; clear hK K)) | (refine Abs.step_skip rfl rfl (fun K hK => ?_); (simp only [Act.put, List.setIfInBounds_toArray, List.set_cons_zero, List.set_cons_succ]; refine hK _ _ ?_; clear hK K)))
  (refine Abs.step_call_val (f := ?_) (args := ?_) (v := ?_) rfl rfl rfl rfl (fun w0 => ?_) (fun w0 hI => ?_) (fun K hK => ?_); rotate_left 3; (· go_simp; (constructor <;> rfl)); (· exact c3 _); (simp only [Act.put, List.setIfInBounds_toArray, List.set_cons_zero, List.set_cons_succ]; refine hK _ _ ?_; clear hK K))
  repeat (first | (refine Abs.step_pure rfl rfl (fun K hK => ?_); go_simp; (try go_bits); (first | refine hK _ _ ?_ | (simp only [↓IntWalk.iteOmega]; go_simp; (try go_bits); refine hK _ _ ?_)); clear hK K) | (refine Abs.step_load (v := ?_) rfl rfl (by kernel_rfl) rfl (fun w0 hI => ?_) (fun K hK => ?_); rotate_left; (· have z0 := (rcell (kp hI (f_x5))).1; go_simp; rfl); (simp only [Act.put, List.setIfInBounds_toArray, List.set_cons_zero, List.set_cons_succ]; refine hK _ _ ?_; clear hK K)) | (refine Abs.step_skip rfl rfl (fun K hK => ?_); (simp only [Act.put, List.setIfInBounds_toArray, List.set_cons_zero, List.set_cons_succ]; refine hK _ _ ?_; clear hK K)))
  (refine Abs.step_var (obj := ?_) rfl rfl rfl rfl (fun w0 => ?_) (fun K hK g_s2 hv_s2 hu_s2 => ?_); rotate_left; (· go_simp; rfl); (simp only [Act.put, List.setIfInBounds_toArray, List.set_cons_zero, List.set_cons_succ]; refine hK _ _ ?_; clear hK K))
  (refine Abs.step_store (T := ?_) rfl rfl rfl (fun w0 hI hF hU => ?_) (fun _ _ _ _ => trivial) (fun K hK => ?_); rotate_left; (· simp only [Abs.F_setF, Abs.F_addA, Abs.F_push, Abs.F_start, true_and] at hF; have hg0 := (rcell hF).1; have hg1 := (rcell hF).2.1; simp only [Abs.T_setF, Abs.T_addA, Abs.T_push, Abs.T_start]; go_simp; exact row2 hF _ _); (simp only [Act.put, List.setIfInBounds_toArray, List.set_cons_zero, List.set_cons_succ]; refine hK _ _ ?_; clear hK K))
  repeat (first | (refine Abs.step_pure rfl rfl (fun K hK => ?_); go_simp; (try go_bits); (first | refine hK _ _ ?_ | (simp only [↓IntWalk.iteOmega]; go_simp; (try go_bits); refine hK _ _ ?_)); clear hK K) | (refine Abs.step_load (v := ?_) rfl rfl (by kernel_rfl) rfl (fun w0 hI => ?_) (fun K hK => ?_); rotate_left; (· have z0 := (rcell (kp hI (f_x5))).1; go_simp; rfl); (simp only [Act.put, List.setIfInBounds_toArray, List.set_cons_zero, List.set_cons_succ]; refine hK _ _ ?_; clear hK K)) | (refine Abs.step_skip rfl rfl (fun K hK => ?_); (simp only [Act.put, List.setIfInBounds_toArray, List.set_cons_zero, List.set_cons_succ]; refine hK _ _ ?_; clear hK K)))
  have hs_s2 := leB hv_s2
  try simp only [World.size_alloc] at hs_s2
  intro w0 hI hF hx1 hx2
  clear hx1 hx2
  simp only [Abs.F_setF, Abs.F_addA, Abs.F_push, Abs.F_start, true_and, Abs.T_push] at hF ⊢
  generalize hT6 : setRow w0 _ _ = w6
  obtain ⟨hb6, f_s26⟩ := fin1 hI hv_s2 hF hT6
  clear hT6 hI hF w0
  have f_x6 := kp hb6 (f_x5)
  have f_s16 := kp hb6 (f_s15)
  have hB6 := bB hB5 hb6
  obtain ⟨zx_a, zx_b, lx6⟩ := rcell f_x6
  obtain ⟨zs1_a, zs1_b, ls16⟩ := rcell f_s16
  obtain ⟨zs2_a, zs2_b, ls26⟩ := rcell f_s26
  go_wp2_with fail
  refine Abs.wp_region_abs (Abs.cls0 _) [0, 1, 2, 3, 4, 5, 6, 7, 8, 9, 10, 11, 12, 13, 14, 15, 16, 17, 18, 19] (by kernel_rfl) (by kernel_rfl) (Below.refl _ _).drew ?_
  repeat (first | (refine Abs.step_pure rfl rfl (fun K hK => ?_); go_simp; (try go_bits); (first | refine hK _ _ ?_ | (simp only [↓IntWalk.iteOmega]; go_simp; (try go_bits); refine hK _ _ ?_)); clear hK K) | (refine Abs.step_load (v := ?_) rfl rfl (by kernel_rfl) rfl (fun w0 hI => ?_) (fun K hK => ?_); rotate_left; (· have z0 := (rcell (kp hI (f_x6))).1; go_simp; rfl); (simp only [Act.put, List.setIfInBounds_toArray, List.set_cons_zero, List.set_cons_succ]; refine hK _ _ ?_; clear hK K)) | (refine Abs.step_skip rfl rfl (fun K hK => ?_); (simp only [Act.put, List.setIfInBounds_toArray, List.set_cons_zero, List.set_cons_succ]; refine hK _ _ ?_; clear hK K)))
  (refine Abs.step_call_val (f := ?_) (args := ?_) (v := ?_) rfl rfl rfl rfl (fun w0 => ?_) (fun w0 hI => ?_) (fun K hK => ?_); rotate_left 3; (· go_simp; (constructor <;> rfl)); (· exact cl _); (simp only [Act.put, List.setIfInBounds_toArray, List.set_cons_zero, List.set_cons_succ]; refine hK _ _ ?_; clear hK K))
  repeat (first | (refine Abs.step_pure rfl rfl (fun K hK => ?_); go_simp; (try go_bits); (first | refine hK _ _ ?_ | (simp only [↓IntWalk.iteOmega]; go_simp; (try go_bits); refine hK _ _ ?_)); clear hK K) | (refine Abs.step_load (v := ?_) rfl rfl (by kernel_rfl) rfl (fun w0 hI => ?_) (fun K hK => ?_); rotate_left; (· have z0 := (rcell (kp hI (f_x6))).1; go_simp; rfl); (simp only [Act.put, List.setIfInBounds_toArray, List.set_cons_zero, List.set_cons_succ]; refine hK _ _ ?_; clear hK K)) | (refine Abs.step_skip rfl rfl (fun K hK => ?_); (simp only [Act.put, List.setIfInBounds_toArray, List.set_cons_zero, List.set_cons_succ]; refine hK _ _ ?_; clear hK K)))
  (refine Abs.step_call_val (f := ?_) (args := ?_) (v := ?_) rfl rfl rfl rfl (fun w0 => ?_) (fun w0 hI => ?_) (fun K hK => ?_); rotate_left 3; (· go_simp; (constructor <;> rfl)); (· exact c4 _); (simp only [Act.put, List.setIfInBounds_toArray, List.set_cons_zero, List.set_cons_succ]; refine hK _ _ ?_; clear hK K))
  repeat (first | (refine Abs.step_pure rfl rfl (fun K hK => ?_); go_simp; (try go_bits); (first | refine hK _ _ ?_ | (simp only [↓IntWalk.iteOmega]; go_simp; (try go_bits); refine hK _ _ ?_)); clear hK K) | (refine Abs.step_load (v := ?_) rfl rfl (by kernel_rfl) rfl (fun w0 hI => ?_) (fun K hK => ?_); rotate_left; (· have z0 := (rcell (kp hI (f_x6))).1; go_simp; rfl); (simp only [Act.put, List.setIfInBounds_toArray, List.set_cons_zero, List.set_cons_succ]; refine hK _ _ ?_; clear hK K)) | (refine Abs.step_skip rfl rfl (fun K hK => ?_); (simp only [Act.put, List.setIfInBounds_toArray, List.set_cons_zero, List.set_cons_succ]; refine hK _ _ ?_; clear hK K)))
  (refine Abs.step_call_val (f := ?_) (args := ?_) (v := ?_) rfl rfl rfl rfl (fun w0 => ?_) (fun w0 hI => ?_) (fun K hK => ?_); rotate_left 3; (· go_simp; (constructor <;> rfl)); (· exact c5 _); (simp only [Act.put, List.setIfInBounds_toArray, List.set_cons_zero, List.set_cons_succ]; refine hK _ _ ?_; clear hK K))
  repeat (first | (refine Abs.step_pure rfl rfl (fun K hK => ?_); go_simp; (try go_bits); (first | refine hK _ _ ?_ | (simp only [↓IntWalk.iteOmega]; go_simp; (try go_bits); refine hK _ _ ?_)); clear hK K) | (refine Abs.step_load (v := ?_) rfl rfl (by kernel_rfl) rfl (fun w0 hI => ?_) (fun K hK => ?_); rotate_left; (· have z0 := (rcell (kp hI (f_x6))).1; go_simp; rfl); (simp only [Act.put, List.setIfInBounds_toArray, List.set_cons_zero, List.set_cons_succ]; refine hK _ _ ?_; clear hK K)) | (refine Abs.step_skip rfl rfl (fun K hK => ?_); (simp only [Act.put, List.setIfInBounds_toArray, List.set_cons_zero, List.set_cons_succ]; refine hK _ _ ?_; clear hK K)))
  (refine Abs.step_var (obj := ?_) rfl rfl rfl rfl (fun w0 => ?_) (fun K hK g_s3 hv_s3 hu_s3 => ?_); rotate_left; (· go_simp; rfl); (simp only [Act.put, List.setIfInBounds_toArray, List.set_cons_zero, List.set_cons_succ]; refine hK _ _ ?_; clear hK K))
  (refine Abs.step_store (T := ?_) rfl rfl rfl (fun w0 hI hF hU => ?_) (fun _ _ _ _ => trivial) (fun K hK => ?_); rotate_left; (· simp only [Abs.F_setF, Abs.F_addA, Abs.F_push, Abs.F_start, true_and] at hF; have hg0 := (rcell hF).1; have hg1 := (rcell hF).2.1; simp only [Abs.T_setF, Abs.T_addA, Abs.T_push, Abs.T_start]; go_simp; exact row2 hF _ _); (simp only [Act.put, List.setIfInBounds_toArray, List.set_cons_zero, List.set_cons_succ]; refine hK _ _ ?_; clear hK K))
  repeat (first | (refine Abs.step_pure rfl rfl (fun K hK => ?_); go_simp; (try go_bits); (first | refine hK _ _ ?_ | (simp only [↓IntWalk.iteOmega]; go_simp; (try go_bits); refine hK _ _ ?_)); clear hK K) | (refine Abs.step_load (v := ?_) rfl rfl (by kernel_rfl) rfl (fun w0 hI => ?_) (fun K hK => ?_); rotate_left; (· have z0 := (rcell (kp hI (f_x6))).1; go_simp; rfl); (simp only [Act.put, List.setIfInBounds_toArray, List.set_cons_zero, List.set_cons_succ]; refine hK _ _ ?_; clear hK K)) | (refine Abs.step_skip rfl rfl (fun K hK => ?_); (simp only [Act.put, List.setIfInBounds_toArray, List.set_cons_zero, List.set_cons_succ]; refine hK _ _ ?_; clear hK K)))
  have hs_s3 := leB hv_s3
  try simp only [World.size_alloc] at hs_s3
  intro w0 hI hF hx1 hx2
  clear hx1 hx2
  simp only [Abs.F_setF, Abs.F_addA, Abs.F_push, Abs.F_start, true_and, Abs.T_push] at hF ⊢
  generalize hT8 : setRow w0 _ _ = w8
  obtain ⟨hb8, f_s38⟩ := fin1 hI hv_s3 hF hT8
  clear hT8 hI hF w0
  have f_x8 := kp hb8 (f_x6)
  have f_s18 := kp hb8 (f_s16)
  have f_s28 := kp hb8 (f_s26)
  have hB8 := bB hB6 hb8
  clear zs1_a zs1_b zs2_a zs2_b zx_a zx_b
  obtain ⟨zx_a, zx_b, lx8⟩ := rcell f_x8
  obtain ⟨zs1_a, zs1_b, ls18⟩ := rcell f_s18
  obtain ⟨zs2_a, zs2_b, ls28⟩ := rcell f_s28
  obtain ⟨zs3_a, zs3_b, ls38⟩ := rcell f_s38
  go_wp2_with fail
  refine (c6 _).mono ?_
  rintro e w9 ⟨rfl, hb9⟩
  have f_x9 := kp hb9 (f_x8)
  have f_s19 := kp hb9 (f_s18)
  have f_s29 := kp hb9 (f_s28)
  have f_s39 := kp hb9 (f_s38)
  have hB9 := bB hB8 hb9
  clear zs1_a zs1_b zs2_a zs2_b zs3_a zs3_b zx_a zx_b
  obtain ⟨zx_a, zx_b, lx9⟩ := rcell f_x9
  obtain ⟨zs1_a, zs1_b, ls19⟩ := rcell f_s19
  obtain ⟨zs2_a, zs2_b, ls29⟩ := rcell f_s29
  obtain ⟨zs3_a, zs3_b, ls39⟩ := rcell f_s39
  go_wp2_with fail
  refine Abs.wp_region_abs (Abs.cls0 _) [0, 1, 2, 3, 4, 5, 6, 7, 8, 9, 10, 11, 12, 13, 14, 15, 16, 17, 18, 19, 20, 21] (by kernel_rfl) (by kernel_rfl) (Below.refl _ _).drew ?_
  repeat (first | (refine Abs.step_pure rfl rfl (fun K hK => ?_); go_simp; (try go_bits); (first | refine hK _ _ ?_ | (simp only [↓IntWalk.iteOmega]; go_simp; (try go_bits); refine hK _ _ ?_)); clear hK K) | (refine Abs.step_load (v := ?_) rfl rfl (by kernel_rfl) rfl (fun w0 hI => ?_) (fun K hK => ?_); rotate_left; (· have z0 := (rcell (kp hI (f_x9))).1; go_simp; rfl); (simp only [Act.put, List.setIfInBounds_toArray, List.set_cons_zero, List.set_cons_succ]; refine hK _ _ ?_; clear hK K)) | (refine Abs.step_skip rfl rfl (fun K hK => ?_); (simp only [Act.put, List.setIfInBounds_toArray, List.set_cons_zero, List.set_cons_succ]; refine hK _ _ ?_; clear hK K)))
  (refine Abs.step_call_val (f := ?_) (args := ?_) (v := ?_) rfl rfl rfl rfl (fun w0 => ?_) (fun w0 hI => ?_) (fun K hK => ?_); rotate_left 3; (· go_simp; (constructor <;> rfl)); (· exact cl _); (simp only [Act.put, List.setIfInBounds_toArray, List.set_cons_zero, List.set_cons_succ]; refine hK _ _ ?_; clear hK K))
  repeat (first | (refine Abs.step_pure rfl rfl (fun K hK => ?_); go_simp; (try go_bits); (first | refine hK _ _ ?_ | (simp only [↓IntWalk.iteOmega]; go_simp; (try go_bits); refine hK _ _ ?_)); clear hK K) | (refine Abs.step_load (v := ?_) rfl rfl (by kernel_rfl) rfl (fun w0 hI => ?_) (fun K hK => ?_); rotate_left; (· have z0 := (rcell (kp hI (f_x9))).1; go_simp; rfl); (simp only [Act.put, List.setIfInBounds_toArray, List.set_cons_zero, List.set_cons_succ]; refine hK _ _ ?_; clear hK K)) | (refine Abs.step_skip rfl rfl (fun K hK => ?_); (simp only [Act.put, List.setIfInBounds_toArray, List.set_cons_zero, List.set_cons_succ]; refine hK _ _ ?_; clear hK K)))
  (refine Abs.step_call_val (f := ?_) (args := ?_) (v := ?_) rfl rfl rfl rfl (fun w0 => ?_) (fun w0 hI => ?_) (fun K hK => ?_); rotate_left 3; (· go_simp; (constructor <;> rfl)); (· exact c7 _); (simp only [Act.put, List.setIfInBounds_toArray, List.set_cons_zero, List.set_cons_succ]; refine hK _ _ ?_; clear hK K))
  repeat (first | (refine Abs.step_pure rfl rfl (fun K hK => ?_); go_simp; (try go_bits); (first | refine hK _ _ ?_ | (simp only [↓IntWalk.iteOmega]; go_simp; (try go_bits); refine hK _ _ ?_)); clear hK K) | (refine Abs.step_load (v := ?_) rfl rfl (by kernel_rfl) rfl (fun w0 hI => ?_) (fun K hK => ?_); rotate_left; (· have z0 := (rcell (kp hI (f_x9))).1; go_simp; rfl); (simp only [Act.put, List.setIfInBounds_toArray, List.set_cons_zero, List.set_cons_succ]; refine hK _ _ ?_; clear hK K)) | (refine Abs.step_skip rfl rfl (fun K hK => ?_); (simp only [Act.put, List.setIfInBounds_toArray, List.set_cons_zero, List.set_cons_succ]; refine hK _ _ ?_; clear hK K)))
  (refine Abs.step_call_val (f := ?_) (args := ?_) (v := ?_) rfl rfl rfl rfl (fun w0 => ?_) (fun w0 hI => ?_) (fun K hK => ?_); rotate_left 3; (· go_simp; (constructor <;> rfl)); (· exact cl _); (simp only [Act.put, List.setIfInBounds_toArray, List.set_cons_zero, List.set_cons_succ]; refine hK _ _ ?_; clear hK K))
  repeat (first | (refine Abs.step_pure rfl rfl (fun K hK => ?_); go_simp; (try go_bits); (first | refine hK _ _ ?_ | (simp only [↓IntWalk.iteOmega]; go_simp; (try go_bits); refine hK _ _ ?_)); clear hK K) | (refine Abs.step_load (v := ?_) rfl rfl (by kernel_rfl) rfl (fun w0 hI => ?_) (fun K hK => ?_); rotate_left; (· have z0 := (rcell (kp hI (f_x9))).1; go_simp; rfl); (simp only [Act.put, List.setIfInBounds_toArray, List.set_cons_zero, List.set_cons_succ]; refine hK _ _ ?_; clear hK K)) | (refine Abs.step_skip rfl rfl (fun K hK => ?_); (simp only [Act.put, List.setIfInBounds_toArray, List.set_cons_zero, List.set_cons_succ]; refine hK _ _ ?_; clear hK K)))
  (refine Abs.step_call_val (f := ?_) (args := ?_) (v := ?_) rfl rfl rfl rfl (fun w0 => ?_) (fun w0 hI => ?_) (fun K hK => ?_); rotate_left 3; (· go_simp; (constructor <;> rfl)); (· exact c8 _); (simp only [Act.put, List.setIfInBounds_toArray, List.set_cons_zero, List.set_cons_succ]; refine hK _ _ ?_; clear hK K))
  repeat (first | (refine Abs.step_pure rfl rfl (fun K hK => ?_); go_simp; (try go_bits); (first | refine hK _ _ ?_ | (simp only [↓IntWalk.iteOmega]; go_simp; (try go_bits); refine hK _ _ ?_)); clear hK K) | (refine Abs.step_load (v := ?_) rfl rfl (by kernel_rfl) rfl (fun w0 hI => ?_) (fun K hK => ?_); rotate_left; (· have z0 := (rcell (kp hI (f_x9))).1; go_simp; rfl); (simp only [Act.put, List.setIfInBounds_toArray, List.set_cons_zero, List.set_cons_succ]; refine hK _ _ ?_; clear hK K)) | (refine Abs.step_skip rfl rfl (fun K hK => ?_); (simp only [Act.put, List.setIfInBounds_toArray, List.set_cons_zero, List.set_cons_succ]; refine hK _ _ ?_; clear hK K)))
  (refine Abs.step_call_val (f := ?_) (args := ?_) (v := ?_) rfl rfl rfl rfl (fun w0 => ?_) (fun w0 hI => ?_) (fun K hK => ?_); rotate_left 3; (· go_simp; (constructor <;> rfl)); (· exact c9 _); (simp only [Act.put, List.setIfInBounds_toArray, List.set_cons_zero, List.set_cons_succ]; refine hK _ _ ?_; clear hK K))
  repeat (first | (refine Abs.step_pure rfl rfl (fun K hK => ?_); go_simp; (try go_bits); (first | refine hK _ _ ?_ | (simp only [↓IntWalk.iteOmega]; go_simp; (try go_bits); refine hK _ _ ?_)); clear hK K) | (refine Abs.step_load (v := ?_) rfl rfl (by kernel_rfl) rfl (fun w0 hI => ?_) (fun K hK => ?_); rotate_left; (· have z0 := (rcell (kp hI (f_x9))).1; go_simp; rfl); (simp only [Act.put, List.setIfInBounds_toArray, List.set_cons_zero, List.set_cons_succ]; refine hK _ _ ?_; clear hK K)) | (refine Abs.step_skip rfl rfl (fun K hK => ?_); (simp only [Act.put, List.setIfInBounds_toArray, List.set_cons_zero, List.set_cons_succ]; refine hK _ _ ?_; clear hK K)))
  intro w11 hb11 hx0 hx1 hx2
  clear hx0 hx1 hx2
  simp only [Abs.T_setF, Abs.T_addA, Abs.T_push, Abs.T_start]
  have f_x11 := kp hb11 (f_x9)
  have f_s111 := kp hb11 (f_s19)
  have f_s211 := kp hb11 (f_s29)
  have f_s311 := kp hb11 (f_s39)
  have hB11 := bB hB9 hb11
  clear zs1_a zs1_b zs2_a zs2_b zs3_a zs3_b zx_a zx_b
  obtain ⟨zx_a, zx_b, lx11⟩ := rcell f_x11
  obtain ⟨zs1_a, zs1_b, ls111⟩ := rcell f_s111
  obtain ⟨zs2_a, zs2_b, ls211⟩ := rcell f_s211
  obtain ⟨zs3_a, zs3_b, ls311⟩ := rcell f_s311
  go_wp2_with fail
  refine Abs.wp_region_abs (Abs.cls0 _) [0, 1, 2, 3, 4, 5, 6, 7, 8, 9, 10, 11, 12, 13, 14, 15, 16, 17, 18] (by kernel_rfl) (by kernel_rfl) (Below.refl _ _).drew ?_
  repeat (first | (refine Abs.step_pure rfl rfl (fun K hK => ?_); go_simp; (try go_bits); (first | refine hK _ _ ?_ | (simp only [↓IntWalk.iteOmega]; go_simp; (try go_bits); refine hK _ _ ?_)); clear hK K) | (refine Abs.step_load (v := ?_) rfl rfl (by kernel_rfl) rfl (fun w0 hI => ?_) (fun K hK => ?_); rotate_left; (· have z0 := (rcell (kp hI (f_s111))).1; have z1 := (rcell (kp hI (f_s211))).1; have z2 := (rcell (kp hI (f_s311))).1; go_simp; rfl); (simp only [Act.put, List.setIfInBounds_toArray, List.set_cons_zero, List.set_cons_succ]; refine hK _ _ ?_; clear hK K)) | (refine Abs.step_skip rfl rfl (fun K hK => ?_); (simp only [Act.put, List.setIfInBounds_toArray, List.set_cons_zero, List.set_cons_succ]; refine hK _ _ ?_; clear hK K)))
  (refine Abs.step_call_val (f := ?_) (args := ?_) (v := ?_) rfl rfl rfl rfl (fun w0 => ?_) (fun w0 hI => ?_) (fun K hK => ?_); rotate_left 3; (· go_simp; (constructor <;> rfl)); (· exact d1 _); (simp only [Act.put, List.setIfInBounds_toArray, List.set_cons_zero, List.set_cons_succ]; refine hK _ _ ?_; clear hK K))
  repeat (first | (refine Abs.step_pure rfl rfl (fun K hK => ?_); go_simp; (try go_bits); (first | refine hK _ _ ?_ | (simp only [↓IntWalk.iteOmega]; go_simp; (try go_bits); refine hK _ _ ?_)); clear hK K) | (refine Abs.step_load (v := ?_) rfl rfl (by kernel_rfl) rfl (fun w0 hI => ?_) (fun K hK => ?_); rotate_left; (· have z0 := (rcell (kp hI (f_s111))).1; have z1 := (rcell (kp hI (f_s211))).1; have z2 := (rcell (kp hI (f_s311))).1; go_simp; rfl); (simp only [Act.put, List.setIfInBounds_toArray, List.set_cons_zero, List.set_cons_succ]; refine hK _ _ ?_; clear hK K)) | (refine Abs.step_skip rfl rfl (fun K hK => ?_); (simp only [Act.put, List.setIfInBounds_toArray, List.set_cons_zero, List.set_cons_succ]; refine hK _ _ ?_; clear hK K)))
  (refine Abs.step_call_val (f := ?_) (args := ?_) (v := ?_) rfl rfl rfl rfl (fun w0 => ?_) (fun w0 hI => ?_) (fun K hK => ?_); rotate_left 3; (· go_simp; (constructor <;> rfl)); (· exact d2 _); (simp only [Act.put, List.setIfInBounds_toArray, List.set_cons_zero, List.set_cons_succ]; refine hK _ _ ?_; clear hK K))
  repeat (first | (refine Abs.step_pure rfl rfl (fun K hK => ?_); go_simp; (try go_bits); (first | refine hK _ _ ?_ | (simp only [↓IntWalk.iteOmega]; go_simp; (try go_bits); refine hK _ _ ?_)); clear hK K) | (refine Abs.step_load (v := ?_) rfl rfl (by kernel_rfl) rfl (fun w0 hI => ?_) (fun K hK => ?_); rotate_left; (· have z0 := (rcell (kp hI (f_s111))).1; have z1 := (rcell (kp hI (f_s211))).1; have z2 := (rcell (kp hI (f_s311))).1; go_simp; rfl); (simp only [Act.put, List.setIfInBounds_toArray, List.set_cons_zero, List.set_cons_succ]; refine hK _ _ ?_; clear hK K)) | (refine Abs.step_skip rfl rfl (fun K hK => ?_); (simp only [Act.put, List.setIfInBounds_toArray, List.set_cons_zero, List.set_cons_succ]; refine hK _ _ ?_; clear hK K)))
  (refine Abs.step_call_val (f := ?_) (args := ?_) (v := ?_) rfl rfl rfl rfl (fun w0 => ?_) (fun w0 hI => ?_) (fun K hK => ?_); rotate_left 3; (· go_simp; (constructor <;> rfl)); (· exact d3 _); (simp only [Act.put, List.setIfInBounds_toArray, List.set_cons_zero, List.set_cons_succ]; refine hK _ _ ?_; clear hK K))
  repeat (first | (refine Abs.step_pure rfl rfl (fun K hK => ?_); go_simp; (try go_bits); (first | refine hK _ _ ?_ | (simp only [↓IntWalk.iteOmega]; go_simp; (try go_bits); refine hK _ _ ?_)); clear hK K) | (refine Abs.step_load (v := ?_) rfl rfl (by kernel_rfl) rfl (fun w0 hI => ?_) (fun K hK => ?_); rotate_left; (· have z0 := (rcell (kp hI (f_s111))).1; have z1 := (rcell (kp hI (f_s211))).1; have z2 := (rcell (kp hI (f_s311))).1; go_simp; rfl); (simp only [Act.put, List.setIfInBounds_toArray, List.set_cons_zero, List.set_cons_succ]; refine hK _ _ ?_; clear hK K)) | (refine Abs.step_skip rfl rfl (fun K hK => ?_); (simp only [Act.put, List.setIfInBounds_toArray, List.set_cons_zero, List.set_cons_succ]; refine hK _ _ ?_; clear hK K)))
  (refine Abs.step_call_val (f := ?_) (args := ?_) (v := ?_) rfl rfl rfl rfl (fun w0 => ?_) (fun w0 hI => ?_) (fun K hK => ?_); rotate_left 3; (· go_simp; (constructor <;> rfl)); (· exact d4 _); (simp only [Act.put, List.setIfInBounds_toArray, List.set_cons_zero, List.set_cons_succ]; refine hK _ _ ?_; clear hK K))
  repeat (first | (refine Abs.step_pure rfl rfl (fun K hK => ?_); go_simp; (try go_bits); (first | refine hK _ _ ?_ | (simp only [↓IntWalk.iteOmega]; go_simp; (try go_bits); refine hK _ _ ?_)); clear hK K) | (refine Abs.step_load (v := ?_) rfl rfl (by kernel_rfl) rfl (fun w0 hI => ?_) (fun K hK => ?_); rotate_left; (· have z0 := (rcell (kp hI (f_s111))).1; have z1 := (rcell (kp hI (f_s211))).1; have z2 := (rcell (kp hI (f_s311))).1; go_simp; rfl); (simp only [Act.put, List.setIfInBounds_toArray, List.set_cons_zero, List.set_cons_succ]; refine hK _ _ ?_; clear hK K)) | (refine Abs.step_skip rfl rfl (fun K hK => ?_); (simp only [Act.put, List.setIfInBounds_toArray, List.set_cons_zero, List.set_cons_succ]; refine hK _ _ ?_; clear hK K)))
  intro w13 hb13 hx0 hx1 hx2
  clear hx0 hx1 hx2
  simp only [Abs.T_setF, Abs.T_addA, Abs.T_push, Abs.T_start]
  have f_x13 := kp hb13 (f_x11)
  have f_s113 := kp hb13 (f_s111)
  have f_s213 := kp hb13 (f_s211)
  have f_s313 := kp hb13 (f_s311)
  have hB13 := bB hB11 hb13
  clear zs1_a zs1_b zs2_a zs2_b zs3_a zs3_b zx_a zx_b
  obtain ⟨zx_a, zx_b, lx13⟩ := rcell f_x13
  obtain ⟨zs1_a, zs1_b, ls113⟩ := rcell f_s113
  obtain ⟨zs2_a, zs2_b, ls213⟩ := rcell f_s213
  obtain ⟨zs3_a, zs3_b, ls313⟩ := rcell f_s313
  go_wp2
  go_ret
  exact ⟨by simp, hB13⟩

theorem fsum_greater (n ah al bh bl m : Int) (hn2 : n < 9223372036854775808) (hm2 : m < 9223372036854775808) (a0 : 0 ≤ al) (a1 : al < 18446744073709551616) (b0' : 0 ≤ bl) (b1 : bl < 18446744073709551616) (w : World) :
    Calls Try.prog 15 #[.agg #[.int .i64 n, .int .i64 ah, .int .u64 al, .int .i64 bh, .int .u64 bl, .int .i64 m]] w fun e w' => e = .returned (.bool true) ∧ Below w.heap.size w w' := by
  obtain ⟨N, A, B, M, hok, -, cn⟩ := law6_near n ah al bh bl m hn2 hm2 a0 a1 b0' b1
  have hr := hok.row
  have hA := hok.a0
  have hA1 := hok.a1
  have hB := hok.b0
  have hB1 := hok.b1
  have N0 := hok.n0
  have N1 := hok.n1
  have M1 := hok.m1
  have M2 := hok.m2
  have hN : ((N.toNat : Nat) : Int) = N := by omega
  have ra : RowOk N (A + M * 1) B M := ⟨N0, N1, by omega, by omega, by omega, by omega, M1, M2⟩
  have rb : RowOk N A (B + M * (-1)) M := ⟨N0, N1, by omega, by omega, by omega, by omega, M1, M2⟩
  have rc : RowOk N (A + M * (-1)) (B + M * 1) M := ⟨N0, N1, by omega, by omega, by omega, by omega, M1, M2⟩
  have c1 := law6_asks N A B M hr
  have cl := law6_low M (by omega) (by omega)
  have c2 := law6_plus A M 1 ⟨by omega, by omega⟩ ⟨by omega, by omega⟩ (by decide) (by decide) ⟨by omega, by omega⟩ ⟨by omega, by omega⟩
  have c3 := law6_asks N (A + M * 1) B M ra
  have c4 := law6_plus B M (-1) ⟨by omega, by omega⟩ ⟨by omega, by omega⟩ (by decide) (by decide) ⟨by omega, by omega⟩ ⟨by omega, by omega⟩
  have c5 := law6_asks N A (B + M * (-1)) M rb
  have c6 := fsum_Rests N A B M hr
  have c7 := law6_plus A M (-1) ⟨by omega, by omega⟩ ⟨by omega, by omega⟩ (by decide) (by decide) ⟨by omega, by omega⟩ ⟨by omega, by omega⟩
  have c8 := law6_plus B M 1 ⟨by omega, by omega⟩ ⟨by omega, by omega⟩ (by decide) (by decide) ⟨by omega, by omega⟩ ⟨by omega, by omega⟩
  have c9 := fsum_Rests N (A + M * (-1)) (B + M * 1) M rc
  have e1 := fl_up N.toNat A B M (by omega)
  have e2 := fl_down N.toNat A B M (by omega)
  have e3 := rs_same N.toNat A B M (by omega)
  rw [hN] at e1 e2
  have R0 := rs_nn N.toNat A B M (by omega)
  have R1 := rs_top N.toNat A B M (by omega)
  rw [hN] at R1
  rw [show A + M * 1 = A + M by omega] at c3
  rw [e1] at c3
  rw [show B + M * (-1) = B - M by omega] at c5
  rw [e2] at c5
  rw [show A + M * (-1) = A - M by omega, show B + M * 1 = B + M by omega] at c9
  rw [e3] at c9
  rw [show A + M * 1 = A + M by omega] at c2
  rw [show B + M * (-1) = B - M by omega] at c4
  rw [show A + M * (-1) = A - M by omega] at c7
  rw [show B + M * 1 = B + M by omega] at c8
  have p := prs_bd N N0 N1
  have f := fl_bd hr
  have d1 := law6_low (prs N) (by omega) (by omega)
  have d2 := law6_plus (fl N.toNat A B M) (prs N) 1 ⟨by omega, by omega⟩ ⟨by omega, by omega⟩ (by decide) (by decide) ⟨by omega, by omega⟩ ⟨by omega, by omega⟩
  rw [show fl N.toNat A B M + prs N * 1 = fl N.toNat A B M + prs N by omega] at d2
  have d3 := law6_low N (by omega) (by omega)
  have d4 := law6_plus (fl N.toNat A B M) N (-1) ⟨by omega, by omega⟩ ⟨by omega, by omega⟩ (by decide) (by decide) ⟨by omega, by omega⟩ ⟨by omega, by omega⟩
  rw [show fl N.toNat A B M + N * (-1) = fl N.toNat A B M - N by omega] at d4
  by_cases hz : N = 0
  · subst hz
    rw [show prs 0 = 0 by decide +kernel] at d1 d2 c3
    rw [show hi 0 = 0 from rfl, show lo 0 = 0 from rfl] at d1 d2 d3 d4
    exact greater_z n ah al bh bl m A B M _ _ _ _ _ _ _ _ M1 M2 R0 cn c1 cl c2 c3 c4 c5 c6 c7 c8 c9 d1 d2 d3 d4 w
  · have xb : -9223372036854775808 ≤ N * (M - 1) ∧ N * (M - 1) < 9223372036854775808 := by
      have k1 : N * (M - 1) ≤ 256 * 281474976710656 := Int.mul_le_mul N1 (by omega) (by omega) (by omega)
      have k2 : 0 ≤ N * (M - 1) := Int.mul_nonneg N0 (by omega)
      omega
    have yb : 0 ≤ N * (N - 1) ∧ N * (N - 1) ≤ 65536 := by
      have k1 : N * (N - 1) ≤ 256 * 256 := Int.mul_le_mul N1 (by omega) (by omega) (by omega)
      have k2 : 0 ≤ N * (N - 1) := Int.mul_nonneg N0 (by omega)
      omega
    exact greater_p n ah al bh bl m N A B M _ _ _ _ _ _ _ _ _ _ M1 M2 R0 (by omega) N1 rfl xb.1 xb.2 R1 rfl yb.1 yb.2 cn c1 cl c2 c3 c4 c5 c6 c7 c8 c9 d1 d2 d3 d4 w
end Go.Proofs.Ytlgjapjcdpikeaa
