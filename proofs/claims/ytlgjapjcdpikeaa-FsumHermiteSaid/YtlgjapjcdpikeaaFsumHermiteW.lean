/- FsumHermite (yearbooklaw06): its walk, and the plain law. -/
import Derived.Test.YtlgjapjcdpikeaaFsum7
set_option linter.unusedSimpArgs false
set_option linter.unusedVariables false
namespace Go.Proofs.Ytlgjapjcdpikeaa
open Go.RowKit

set_option maxRecDepth 100000 in
set_option maxHeartbeats 1000000 in
theorem hermite_z (n0' bh bl N A B M : Int) (hN : N = 0)
    (cn : ∀ w : World, Calls Try.prog 47 #[.agg #[.int .i64 n0', .int .i64 0, .int .u64 0, .int .i64 bh, .int .u64 bl, .int .i64 0]] w fun e w' => e = .returned (.agg #[.int .i64 N, .int .i64 (hi A), .int .u64 (lo A), .int .i64 (hi B), .int .u64 (lo B), .int .i64 M]) ∧ Below w.heap.size w w')
    (c1 : ∀ w : World, Calls Try.prog 50 #[.int .i64 1] w fun e w' => e = .returned (.agg #[.int .i64 (hi 1), .int .u64 (lo 1)]) ∧ Below w.heap.size w w')
    (c2 : ∀ w : World, Calls Try.prog 48 #[.agg #[.int .i64 1, .int .i64 (hi 1), .int .u64 (lo 1), .int .i64 (hi B), .int .u64 (lo B), .int .i64 1]] w fun e w' => e = .returned (.tuple #[.agg #[.int .i64 (hi B), .int .u64 (lo B)], .bool true]) ∧ Below w.heap.size w w')
    (w : World) :
    Calls Try.prog 16 #[.int .i64 n0', .agg #[.int .i64 bh, .int .u64 bl]] w fun e w' => e = .returned (.bool true) ∧ Below w.heap.size w w' := by
  subst hN
  go_enter Try.func16, Try.ntmps16
  go_wp2_with fail
  refine (wakes6 _).mono ?_
  rintro e w1 ⟨rfl, hb1⟩
  have f_b1 := kp hb1 (na _ _ _)
  have hB1 := bB (bA (b0 w) _) hb1
  obtain ⟨zb_a, zb_b, lb1⟩ := rcell f_b1
  go_wp2_with fail
  refine (cn _).mono ?_
  rintro e w2 ⟨rfl, hb2⟩
  have f_b2 := kp hb2 (f_b1)
  have hB2 := bB hB1 hb2
  clear zb_a zb_b
  obtain ⟨zb_a, zb_b, lb2⟩ := rcell f_b2
  go_wp2_with fail
  have f_b3 := (ka (f_b2) (.cells #[.int .i64 1, .int .i64 (hi A), .int .u64 (lo A), .int .i64 (hi B), .int .u64 (lo B), .int .i64 M] 67))
  have f_x3 := (na w2 #[.int .i64 1, .int .i64 (hi A), .int .u64 (lo A), .int .i64 (hi B), .int .u64 (lo B), .int .i64 M] 67)
  have hB3 := (bA hB2 (.cells #[.int .i64 1, .int .i64 (hi A), .int .u64 (lo A), .int .i64 (hi B), .int .u64 (lo B), .int .i64 M] 67))
  clear zb_a zb_b
  have lb3 := (rcell f_b3).2.2
  have lx3 := (rcell f_x3).2.2
  refine Abs.wp_region_abs (Abs.cls0 _) [0, 1, 2, 3, 4, 5, 6, 7, 8, 9, 10, 11, 12, 13, 14] (by kernel_rfl) (by kernel_rfl) (Below.refl _ _).drew ?_
  repeat (first | (refine Abs.step_pure rfl rfl (fun K hK => ?_); go_simp; (try go_bits); (first | refine hK _ _ ?_ | (simp only [↓IntWalk.iteOmega]; go_simp; (try go_bits); refine hK _ _ ?_)); clear hK K) | (refine Abs.step_load (v := ?_) rfl rfl (by kernel_rfl) rfl (fun w0 hI => ?_) (fun K hK => ?_); rotate_left; (· have z0 := (rcell (kp hI (f_x3))).1; go_simp; rfl); (simp only [Act.put, List.setIfInBounds_toArray, List.set_cons_zero, List.set_cons_succ]; refine hK _ _ ?_; clear hK K)) | (refine Abs.step_skip rfl rfl (fun K hK => ?_); (simp only [Act.put, List.setIfInBounds_toArray, List.set_cons_zero, List.set_cons_succ]; refine hK _ _ ?_; clear hK K)))
  (refine Abs.step_call_val (f := ?_) (args := ?_) (v := ?_) rfl rfl rfl rfl (fun w0 => ?_) (fun w0 hI => ?_) (fun K hK => ?_); rotate_left 3; (· go_simp; (constructor <;> rfl)); (· exact c1 _); (simp only [Act.put, List.setIfInBounds_toArray, List.set_cons_zero, List.set_cons_succ]; refine hK _ _ ?_; clear hK K))
  repeat (first | (refine Abs.step_pure rfl rfl (fun K hK => ?_); go_simp; (try go_bits); (first | refine hK _ _ ?_ | (simp only [↓IntWalk.iteOmega]; go_simp; (try go_bits); refine hK _ _ ?_)); clear hK K) | (refine Abs.step_load (v := ?_) rfl rfl (by kernel_rfl) rfl (fun w0 hI => ?_) (fun K hK => ?_); rotate_left; (· have z0 := (rcell (kp hI (f_x3))).1; go_simp; rfl); (simp only [Act.put, List.setIfInBounds_toArray, List.set_cons_zero, List.set_cons_succ]; refine hK _ _ ?_; clear hK K)) | (refine Abs.step_skip rfl rfl (fun K hK => ?_); (simp only [Act.put, List.setIfInBounds_toArray, List.set_cons_zero, List.set_cons_succ]; refine hK _ _ ?_; clear hK K)))
  (refine Abs.step_call_val (f := ?_) (args := ?_) (v := ?_) rfl rfl rfl rfl (fun w0 => ?_) (fun w0 hI => ?_) (fun K hK => ?_); rotate_left 3; (· go_simp; (constructor <;> rfl)); (· exact c2 _); (simp only [Act.put, List.setIfInBounds_toArray, List.set_cons_zero, List.set_cons_succ]; refine hK _ _ ?_; clear hK K))
  repeat (first | (refine Abs.step_pure rfl rfl (fun K hK => ?_); go_simp; (try go_bits); (first | refine hK _ _ ?_ | (simp only [↓IntWalk.iteOmega]; go_simp; (try go_bits); refine hK _ _ ?_)); clear hK K) | (refine Abs.step_load (v := ?_) rfl rfl (by kernel_rfl) rfl (fun w0 hI => ?_) (fun K hK => ?_); rotate_left; (· have z0 := (rcell (kp hI (f_x3))).1; go_simp; rfl); (simp only [Act.put, List.setIfInBounds_toArray, List.set_cons_zero, List.set_cons_succ]; refine hK _ _ ?_; clear hK K)) | (refine Abs.step_skip rfl rfl (fun K hK => ?_); (simp only [Act.put, List.setIfInBounds_toArray, List.set_cons_zero, List.set_cons_succ]; refine hK _ _ ?_; clear hK K)))
  (refine Abs.step_var (obj := ?_) rfl rfl rfl rfl (fun w0 => ?_) (fun K hK g_s hv_s hu_s => ?_); rotate_left; (· go_simp; rfl); (simp only [Act.put, List.setIfInBounds_toArray, List.set_cons_zero, List.set_cons_succ]; refine hK _ _ ?_; clear hK K))
  (refine Abs.step_store (T := ?_) rfl rfl rfl (fun w0 hI hF hU => ?_) (fun _ _ _ _ => trivial) (fun K hK => ?_); rotate_left; (· simp only [Abs.F_setF, Abs.F_addA, Abs.F_push, Abs.F_start, true_and] at hF; have hg0 := (rcell hF).1; have hg1 := (rcell hF).2.1; simp only [Abs.T_setF, Abs.T_addA, Abs.T_push, Abs.T_start]; go_simp; exact row2 hF _ _); (simp only [Act.put, List.setIfInBounds_toArray, List.set_cons_zero, List.set_cons_succ]; refine hK _ _ ?_; clear hK K))
  repeat (first | (refine Abs.step_pure rfl rfl (fun K hK => ?_); go_simp; (try go_bits); (first | refine hK _ _ ?_ | (simp only [↓IntWalk.iteOmega]; go_simp; (try go_bits); refine hK _ _ ?_)); clear hK K) | (refine Abs.step_load (v := ?_) rfl rfl (by kernel_rfl) rfl (fun w0 hI => ?_) (fun K hK => ?_); rotate_left; (· have z0 := (rcell (kp hI (f_x3))).1; go_simp; rfl); (simp only [Act.put, List.setIfInBounds_toArray, List.set_cons_zero, List.set_cons_succ]; refine hK _ _ ?_; clear hK K)) | (refine Abs.step_skip rfl rfl (fun K hK => ?_); (simp only [Act.put, List.setIfInBounds_toArray, List.set_cons_zero, List.set_cons_succ]; refine hK _ _ ?_; clear hK K)))
  have hs_s := leB hv_s
  try simp only [World.size_alloc] at hs_s
  intro w0 hI hF hx1 hx2
  clear hx1 hx2
  simp only [Abs.F_setF, Abs.F_addA, Abs.F_push, Abs.F_start, true_and, Abs.T_push] at hF ⊢
  generalize hT4 : setRow w0 _ _ = w4
  obtain ⟨hb4, f_s4⟩ := fin1 hI hv_s hF hT4
  clear hT4 hI hF w0
  have f_b4 := kp hb4 (f_b3)
  have f_x4 := kp hb4 (f_x3)
  have hB4 := bB hB3 hb4
  obtain ⟨zb_a, zb_b, lb4⟩ := rcell f_b4
  obtain ⟨zx_a, zx_b, lx4⟩ := rcell f_x4
  obtain ⟨zs_a, zs_b, ls4⟩ := rcell f_s4
  go_wp2
  go_ret
  exact ⟨by simp, hB4⟩

set_option maxRecDepth 100000 in
set_option maxHeartbeats 1000000 in
theorem hermite_p (n0' bh bl N A B M : Int) (N0 : 0 < N) (N1 : N ≤ 256)
    (cn : ∀ w : World, Calls Try.prog 47 #[.agg #[.int .i64 n0', .int .i64 0, .int .u64 0, .int .i64 bh, .int .u64 bl, .int .i64 0]] w fun e w' => e = .returned (.agg #[.int .i64 N, .int .i64 (hi A), .int .u64 (lo A), .int .i64 (hi B), .int .u64 (lo B), .int .i64 M]) ∧ Below w.heap.size w w')
    (c1 : ∀ w : World, Calls Try.prog 50 #[.int .i64 1] w fun e w' => e = .returned (.agg #[.int .i64 (hi 1), .int .u64 (lo 1)]) ∧ Below w.heap.size w w')
    (c2 : ∀ w : World, Calls Try.prog 48 #[.agg #[.int .i64 N, .int .i64 (hi 1), .int .u64 (lo 1), .int .i64 (hi B), .int .u64 (lo B), .int .i64 N]] w fun e w' => e = .returned (.tuple #[.agg #[.int .i64 (hi B), .int .u64 (lo B)], .bool true]) ∧ Below w.heap.size w w')
    (w : World) :
    Calls Try.prog 16 #[.int .i64 n0', .agg #[.int .i64 bh, .int .u64 bl]] w fun e w' => e = .returned (.bool true) ∧ Below w.heap.size w w' := by
  have e1 : 1 ≤ N := by omega
  have e2 : max N 1 = N := by omega
  go_enter Try.func16, Try.ntmps16
  go_wp2_with fail
  refine (wakes6 _).mono ?_
  rintro e w1 ⟨rfl, hb1⟩
  have f_b1 := kp hb1 (na _ _ _)
  have hB1 := bB (bA (b0 w) _) hb1
  obtain ⟨zb_a, zb_b, lb1⟩ := rcell f_b1
  go_wp2_with fail
  refine (cn _).mono ?_
  rintro e w2 ⟨rfl, hb2⟩
  have f_b2 := kp hb2 (f_b1)
  have hB2 := bB hB1 hb2
  clear zb_a zb_b
  obtain ⟨zb_a, zb_b, lb2⟩ := rcell f_b2
  go_wp2_with fail
  have f_b3 := (ka (f_b2) (.cells #[.int .i64 N, .int .i64 (hi A), .int .u64 (lo A), .int .i64 (hi B), .int .u64 (lo B), .int .i64 M] 67))
  have f_x3 := (na w2 #[.int .i64 N, .int .i64 (hi A), .int .u64 (lo A), .int .i64 (hi B), .int .u64 (lo B), .int .i64 M] 67)
  have hB3 := (bA hB2 (.cells #[.int .i64 N, .int .i64 (hi A), .int .u64 (lo A), .int .i64 (hi B), .int .u64 (lo B), .int .i64 M] 67))
  clear zb_a zb_b
  have lb3 := (rcell f_b3).2.2
  have lx3 := (rcell f_x3).2.2
  refine Abs.wp_region_abs (Abs.cls0 _) [0, 1, 2, 3, 4, 5, 6, 7, 8, 9, 10, 11, 12, 13, 14] (by kernel_rfl) (by kernel_rfl) (Below.refl _ _).drew ?_
  repeat (first | (refine Abs.step_pure rfl rfl (fun K hK => ?_); go_simp; (try go_bits); (first | refine hK _ _ ?_ | (simp only [↓IntWalk.iteOmega]; go_simp; (try go_bits); refine hK _ _ ?_)); clear hK K) | (refine Abs.step_load (v := ?_) rfl rfl (by kernel_rfl) rfl (fun w0 hI => ?_) (fun K hK => ?_); rotate_left; (· have z0 := (rcell (kp hI (f_x3))).1; go_simp; rfl); (simp only [Act.put, List.setIfInBounds_toArray, List.set_cons_zero, List.set_cons_succ]; refine hK _ _ ?_; clear hK K)) | (refine Abs.step_skip rfl rfl (fun K hK => ?_); (simp only [Act.put, List.setIfInBounds_toArray, List.set_cons_zero, List.set_cons_succ]; refine hK _ _ ?_; clear hK K)))
  (refine Abs.step_call_val (f := ?_) (args := ?_) (v := ?_) rfl rfl rfl rfl (fun w0 => ?_) (fun w0 hI => ?_) (fun K hK => ?_); rotate_left 3; (· go_simp; (constructor <;> rfl)); (· exact c1 _); (simp only [Act.put, List.setIfInBounds_toArray, List.set_cons_zero, List.set_cons_succ]; refine hK _ _ ?_; clear hK K))
  repeat (first | (refine Abs.step_pure rfl rfl (fun K hK => ?_); go_simp; (try go_bits); (first | refine hK _ _ ?_ | (simp only [↓IntWalk.iteOmega]; go_simp; (try go_bits); refine hK _ _ ?_)); clear hK K) | (refine Abs.step_load (v := ?_) rfl rfl (by kernel_rfl) rfl (fun w0 hI => ?_) (fun K hK => ?_); rotate_left; (· have z0 := (rcell (kp hI (f_x3))).1; go_simp; rfl); (simp only [Act.put, List.setIfInBounds_toArray, List.set_cons_zero, List.set_cons_succ]; refine hK _ _ ?_; clear hK K)) | (refine Abs.step_skip rfl rfl (fun K hK => ?_); (simp only [Act.put, List.setIfInBounds_toArray, List.set_cons_zero, List.set_cons_succ]; refine hK _ _ ?_; clear hK K)))
  (refine Abs.step_call_val (f := ?_) (args := ?_) (v := ?_) rfl rfl rfl rfl (fun w0 => ?_) (fun w0 hI => ?_) (fun K hK => ?_); rotate_left 3; (· go_simp; (constructor <;> rfl)); (· exact c2 _); (simp only [Act.put, List.setIfInBounds_toArray, List.set_cons_zero, List.set_cons_succ]; refine hK _ _ ?_; clear hK K))
  repeat (first | (refine Abs.step_pure rfl rfl (fun K hK => ?_); go_simp; (try go_bits); (first | refine hK _ _ ?_ | (simp only [↓IntWalk.iteOmega]; go_simp; (try go_bits); refine hK _ _ ?_)); clear hK K) | (refine Abs.step_load (v := ?_) rfl rfl (by kernel_rfl) rfl (fun w0 hI => ?_) (fun K hK => ?_); rotate_left; (· have z0 := (rcell (kp hI (f_x3))).1; go_simp; rfl); (simp only [Act.put, List.setIfInBounds_toArray, List.set_cons_zero, List.set_cons_succ]; refine hK _ _ ?_; clear hK K)) | (refine Abs.step_skip rfl rfl (fun K hK => ?_); (simp only [Act.put, List.setIfInBounds_toArray, List.set_cons_zero, List.set_cons_succ]; refine hK _ _ ?_; clear hK K)))
  (refine Abs.step_var (obj := ?_) rfl rfl rfl rfl (fun w0 => ?_) (fun K hK g_s hv_s hu_s => ?_); rotate_left; (· go_simp; rfl); (simp only [Act.put, List.setIfInBounds_toArray, List.set_cons_zero, List.set_cons_succ]; refine hK _ _ ?_; clear hK K))
  (refine Abs.step_store (T := ?_) rfl rfl rfl (fun w0 hI hF hU => ?_) (fun _ _ _ _ => trivial) (fun K hK => ?_); rotate_left; (· simp only [Abs.F_setF, Abs.F_addA, Abs.F_push, Abs.F_start, true_and] at hF; have hg0 := (rcell hF).1; have hg1 := (rcell hF).2.1; simp only [Abs.T_setF, Abs.T_addA, Abs.T_push, Abs.T_start]; go_simp; exact row2 hF _ _); (simp only [Act.put, List.setIfInBounds_toArray, List.set_cons_zero, List.set_cons_succ]; refine hK _ _ ?_; clear hK K))
  repeat (first | (refine Abs.step_pure rfl rfl (fun K hK => ?_); go_simp; (try go_bits); (first | refine hK _ _ ?_ | (simp only [↓IntWalk.iteOmega]; go_simp; (try go_bits); refine hK _ _ ?_)); clear hK K) | (refine Abs.step_load (v := ?_) rfl rfl (by kernel_rfl) rfl (fun w0 hI => ?_) (fun K hK => ?_); rotate_left; (· have z0 := (rcell (kp hI (f_x3))).1; go_simp; rfl); (simp only [Act.put, List.setIfInBounds_toArray, List.set_cons_zero, List.set_cons_succ]; refine hK _ _ ?_; clear hK K)) | (refine Abs.step_skip rfl rfl (fun K hK => ?_); (simp only [Act.put, List.setIfInBounds_toArray, List.set_cons_zero, List.set_cons_succ]; refine hK _ _ ?_; clear hK K)))
  have hs_s := leB hv_s
  try simp only [World.size_alloc] at hs_s
  intro w0 hI hF hx1 hx2
  clear hx1 hx2
  simp only [Abs.F_setF, Abs.F_addA, Abs.F_push, Abs.F_start, true_and, Abs.T_push] at hF ⊢
  generalize hT4 : setRow w0 _ _ = w4
  obtain ⟨hb4, f_s4⟩ := fin1 hI hv_s hF hT4
  clear hT4 hI hF w0
  have f_b4 := kp hb4 (f_b3)
  have f_x4 := kp hb4 (f_x3)
  have hB4 := bB hB3 hb4
  obtain ⟨zb_a, zb_b, lb4⟩ := rcell f_b4
  obtain ⟨zx_a, zx_b, lx4⟩ := rcell f_x4
  obtain ⟨zs_a, zs_b, ls4⟩ := rcell f_s4
  go_wp2
  go_ret
  exact ⟨by simp, hB4⟩

theorem fsum_hermite (n bh bl : Int) (hn2 : n < 9223372036854775808) (b0' : 0 ≤ bl) (b1 : bl < 18446744073709551616) (w : World) :
    Calls Try.prog 16 #[.int .i64 n, .agg #[.int .i64 bh, .int .u64 bl]] w fun e w' => e = .returned (.bool true) ∧ Below w.heap.size w w' := by
  obtain ⟨N, A, B, M, hok, -, cn⟩ := law6_near n 0 0 bh bl 0 hn2 (by decide) (by decide) (by decide) b0' b1
  have hB := hok.b0
  have hB1 := hok.b1
  have N0 := hok.n0
  have N1 := hok.n1
  have c1 := law6_low 1 (by decide) (by decide)
  by_cases hz : N = 0
  · have c2 := law6_asks 1 1 B 1 ⟨by decide, by decide, by decide, by decide, by omega, by omega, by decide, by decide⟩
    have e := fl_hermite 1 B (by decide)
    rw [show fl (1 : Int).toNat 1 B 1 = B from e] at c2
    exact hermite_z n bh bl N A B M hz cn c1 c2 w
  · have c2 := law6_asks N 1 B N ⟨N0, N1, by decide, by decide, by omega, by omega, by omega, by omega⟩
    have e := fl_hermite N.toNat B (by omega)
    rw [show ((N.toNat : Nat) : Int) = N by omega] at e
    rw [e] at c2
    exact hermite_p n bh bl N A B M (by omega) N1 cn c1 c2 w
end Go.Proofs.Ytlgjapjcdpikeaa
