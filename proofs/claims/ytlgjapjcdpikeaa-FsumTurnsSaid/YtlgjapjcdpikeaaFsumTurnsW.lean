/- FsumTurns (yearbooklaw06): its walk, and the plain law. -/
import Derived.Test.YtlgjapjcdpikeaaFsum7
set_option linter.unusedSimpArgs false
set_option linter.unusedVariables false
namespace Go.Proofs.Ytlgjapjcdpikeaa
open Go.RowKit

set_option maxRecDepth 100000 in
set_option maxHeartbeats 1000000 in
theorem turns_z (n0' ah al bh bl m0 A B M : Int)
    (cn : ∀ w : World, Calls Try.prog 47 #[.agg #[.int .i64 n0', .int .i64 ah, .int .u64 al, .int .i64 bh, .int .u64 bl, .int .i64 m0]] w fun e w' => e = .returned (.agg #[.int .i64 0, .int .i64 (hi A), .int .u64 (lo A), .int .i64 (hi B), .int .u64 (lo B), .int .i64 M]) ∧ Below w.heap.size w w')
    (c1 : ∀ w : World, Calls Try.prog 48 #[.agg #[.int .i64 0, .int .i64 (hi A), .int .u64 (lo A), .int .i64 (hi B), .int .u64 (lo B), .int .i64 M]] w fun e w' => e = .returned (.tuple #[.agg #[.int .i64 0, .int .u64 0], .bool true]) ∧ Below w.heap.size w w')
    (w : World) :
    Calls Try.prog 14 #[.agg #[.int .i64 n0', .int .i64 ah, .int .u64 al, .int .i64 bh, .int .u64 bl, .int .i64 m0]] w fun e w' => e = .returned (.bool true) ∧ Below w.heap.size w w' := by
  go_enter Try.func14, Try.ntmps14
  go_wp2_with fail
  refine (wakes6 _).mono ?_
  rintro e w1 ⟨rfl, hb1⟩
  have f_x1 := kp hb1 (na _ _ _)
  have hB1 := bB (bA (b0 w) _) hb1
  obtain ⟨zx_a, zx_b, lx1⟩ := rcell f_x1
  go_wp2_with fail
  refine (cn _).mono ?_
  rintro e w2 ⟨rfl, hb2⟩
  have f_x2 := kp hb2 (f_x1)
  have hB2 := bB hB1 hb2
  clear zx_a zx_b
  obtain ⟨zx_a, zx_b, lx2⟩ := rcell f_x2
  go_wp2_with fail
  rw [row6 f_x2]
  generalize hT3 : setRow _ _ _ = w3
  obtain ⟨hx3, f_x3⟩ := fin_x (b0 _) f_x2 hT3
  clear hT3
  have hB3 := bX hB2 hx3 (by omega)
  clear zx_a zx_b
  obtain ⟨zx_a, zx_b, lx3⟩ := rcell f_x3
  go_wp2_with fail
  refine (c1 _).mono ?_
  rintro e w4 ⟨rfl, hb4⟩
  have f_x4 := kp hb4 (f_x3)
  have hB4 := bB hB3 hb4
  clear zx_a zx_b
  obtain ⟨zx_a, zx_b, lx4⟩ := rcell f_x4
  go_wp2
  go_ret
  exact ⟨by simp, (bA hB4 (.cells #[.int .i64 0, .int .u64 0] 46))⟩

set_option maxRecDepth 100000 in
set_option maxHeartbeats 1000000 in
theorem turns_p (n0' ah al bh bl m0 N A B M A1 B1 F : Int) (N0 : 0 < N) (N1 : N ≤ 256)
    (cn : ∀ w : World, Calls Try.prog 47 #[.agg #[.int .i64 n0', .int .i64 ah, .int .u64 al, .int .i64 bh, .int .u64 bl, .int .i64 m0]] w fun e w' => e = .returned (.agg #[.int .i64 N, .int .i64 (hi A), .int .u64 (lo A), .int .i64 (hi B), .int .u64 (lo B), .int .i64 M]) ∧ Below w.heap.size w w')
    (c1 : ∀ w : World, Calls Try.prog 48 #[.agg #[.int .i64 N, .int .i64 (hi A), .int .u64 (lo A), .int .i64 (hi B), .int .u64 (lo B), .int .i64 M]] w fun e w' => e = .returned (.tuple #[.agg #[.int .i64 (hi F), .int .u64 (lo F)], .bool true]) ∧ Below w.heap.size w w')
    (c2 : ∀ w : World, Calls Try.prog 49 #[.agg #[.int .i64 0, .int .u64 0], .agg #[.int .i64 (hi A), .int .u64 (lo A)], .int .i64 (-1)] w fun e w' => e = .returned (.agg #[.int .i64 (hi A1), .int .u64 (lo A1)]) ∧ Below w.heap.size w w')
    (c3 : ∀ w : World, Calls Try.prog 49 #[.agg #[.int .i64 (hi B), .int .u64 (lo B)], .agg #[.int .i64 (hi A), .int .u64 (lo A)], .int .i64 (N - 1)] w fun e w' => e = .returned (.agg #[.int .i64 (hi B1), .int .u64 (lo B1)]) ∧ Below w.heap.size w w')
    (c4 : ∀ w : World, Calls Try.prog 48 #[.agg #[.int .i64 N, .int .i64 (hi A1), .int .u64 (lo A1), .int .i64 (hi B1), .int .u64 (lo B1), .int .i64 M]] w fun e w' => e = .returned (.tuple #[.agg #[.int .i64 (hi F), .int .u64 (lo F)], .bool true]) ∧ Below w.heap.size w w')
    (w : World) :
    Calls Try.prog 14 #[.agg #[.int .i64 n0', .int .i64 ah, .int .u64 al, .int .i64 bh, .int .u64 bl, .int .i64 m0]] w fun e w' => e = .returned (.bool true) ∧ Below w.heap.size w w' := by
  have e1 : (N == 0) = false := by simp; omega
  have e2 : ¬ N = 0 := by omega
  go_enter Try.func14, Try.ntmps14
  go_wp2_with fail
  refine (wakes6 _).mono ?_
  rintro e w1 ⟨rfl, hb1⟩
  have f_x1 := kp hb1 (na _ _ _)
  have hB1 := bB (bA (b0 w) _) hb1
  obtain ⟨zx_a, zx_b, lx1⟩ := rcell f_x1
  go_wp2_with fail
  refine (cn _).mono ?_
  rintro e w2 ⟨rfl, hb2⟩
  have f_x2 := kp hb2 (f_x1)
  have hB2 := bB hB1 hb2
  clear zx_a zx_b
  obtain ⟨zx_a, zx_b, lx2⟩ := rcell f_x2
  go_wp2_with fail
  rw [row6 f_x2]
  generalize hT3 : setRow _ _ _ = w3
  obtain ⟨hx3, f_x3⟩ := fin_x (b0 _) f_x2 hT3
  clear hT3
  have hB3 := bX hB2 hx3 (by omega)
  clear zx_a zx_b
  obtain ⟨zx_a, zx_b, lx3⟩ := rcell f_x3
  go_wp2_with fail
  refine (c1 _).mono ?_
  rintro e w4 ⟨rfl, hb4⟩
  have f_x4 := kp hb4 (f_x3)
  have hB4 := bB hB3 hb4
  clear zx_a zx_b
  obtain ⟨zx_a, zx_b, lx4⟩ := rcell f_x4
  go_wp2_with fail
  have f_x5 := (ka (f_x4) (.cells #[.int .i64 (hi F), .int .u64 (lo F)] 46))
  have f_s15 := (na w4 #[.int .i64 (hi F), .int .u64 (lo F)] 46)
  have hB5 := (bA hB4 (.cells #[.int .i64 (hi F), .int .u64 (lo F)] 46))
  clear zx_a zx_b
  have lx5 := (rcell f_x5).2.2
  have ls15 := (rcell f_s15).2.2
  refine Abs.wp_region_abs (Abs.cls0 _) [0, 1, 2, 3, 4, 5, 6, 7, 8, 9, 10, 11, 12, 13, 14, 15, 16, 17, 18, 19, 20, 21, 22, 23] (by kernel_rfl) (by kernel_rfl) (Below.refl _ _).drew ?_
  repeat (first | (refine Abs.step_pure rfl rfl (fun K hK => ?_); go_simp; (try go_bits); (first | refine hK _ _ ?_ | (simp only [↓IntWalk.iteOmega]; go_simp; (try go_bits); refine hK _ _ ?_)); clear hK K) | (refine Abs.step_load (v := ?_) rfl rfl (by kernel_rfl) rfl (fun w0 hI => ?_) (fun K hK => ?_); rotate_left; (· have z0 := (rcell (kp hI (f_x5))).1; go_simp; rfl); (simp only [Act.put, List.setIfInBounds_toArray, List.set_cons_zero, List.set_cons_succ]; refine hK _ _ ?_; clear hK K)) | (refine Abs.step_skip rfl rfl (fun K hK => ?_); (simp only [Act.put, List.setIfInBounds_toArray, List.set_cons_zero, List.set_cons_succ]; refine hK _ _ ?_; clear hK K)))
  (refine Abs.step_call_val (f := ?_) (args := ?_) (v := ?_) rfl rfl rfl rfl (fun w0 => ?_) (fun w0 hI => ?_) (fun K hK => ?_); rotate_left 3; (· go_simp; (constructor <;> rfl)); (· exact c2 _); (simp only [Act.put, List.setIfInBounds_toArray, List.set_cons_zero, List.set_cons_succ]; refine hK _ _ ?_; clear hK K))
  repeat (first | (refine Abs.step_pure rfl rfl (fun K hK => ?_); go_simp; (try go_bits); (first | refine hK _ _ ?_ | (simp only [↓IntWalk.iteOmega]; go_simp; (try go_bits); refine hK _ _ ?_)); clear hK K) | (refine Abs.step_load (v := ?_) rfl rfl (by kernel_rfl) rfl (fun w0 hI => ?_) (fun K hK => ?_); rotate_left; (· have z0 := (rcell (kp hI (f_x5))).1; go_simp; rfl); (simp only [Act.put, List.setIfInBounds_toArray, List.set_cons_zero, List.set_cons_succ]; refine hK _ _ ?_; clear hK K)) | (refine Abs.step_skip rfl rfl (fun K hK => ?_); (simp only [Act.put, List.setIfInBounds_toArray, List.set_cons_zero, List.set_cons_succ]; refine hK _ _ ?_; clear hK K)))
  (refine Abs.step_call_val (f := ?_) (args := ?_) (v := ?_) rfl rfl rfl rfl (fun w0 => ?_) (fun w0 hI => ?_) (fun K hK => ?_); rotate_left 3; (· go_simp; (constructor <;> rfl)); (· exact c3 _); (simp only [Act.put, List.setIfInBounds_toArray, List.set_cons_zero, List.set_cons_succ]; refine hK _ _ ?_; clear hK K))
  repeat (first | (refine Abs.step_pure rfl rfl (fun K hK => ?_); go_simp; (try go_bits); (first | refine hK _ _ ?_ | (simp only [↓IntWalk.iteOmega]; go_simp; (try go_bits); refine hK _ _ ?_)); clear hK K) | (refine Abs.step_load (v := ?_) rfl rfl (by kernel_rfl) rfl (fun w0 hI => ?_) (fun K hK => ?_); rotate_left; (· have z0 := (rcell (kp hI (f_x5))).1; go_simp; rfl); (simp only [Act.put, List.setIfInBounds_toArray, List.set_cons_zero, List.set_cons_succ]; refine hK _ _ ?_; clear hK K)) | (refine Abs.step_skip rfl rfl (fun K hK => ?_); (simp only [Act.put, List.setIfInBounds_toArray, List.set_cons_zero, List.set_cons_succ]; refine hK _ _ ?_; clear hK K)))
  (refine Abs.step_call_val (f := ?_) (args := ?_) (v := ?_) rfl rfl rfl rfl (fun w0 => ?_) (fun w0 hI => ?_) (fun K hK => ?_); rotate_left 3; (· go_simp; (constructor <;> rfl)); (· exact c4 _); (simp only [Act.put, List.setIfInBounds_toArray, List.set_cons_zero, List.set_cons_succ]; refine hK _ _ ?_; clear hK K))
  repeat (first | (refine Abs.step_pure rfl rfl (fun K hK => ?_); go_simp; (try go_bits); (first | refine hK _ _ ?_ | (simp only [↓IntWalk.iteOmega]; go_simp; (try go_bits); refine hK _ _ ?_)); clear hK K) | (refine Abs.step_load (v := ?_) rfl rfl (by kernel_rfl) rfl (fun w0 hI => ?_) (fun K hK => ?_); rotate_left; (· have z0 := (rcell (kp hI (f_x5))).1; go_simp; rfl); (simp only [Act.put, List.setIfInBounds_toArray, List.set_cons_zero, List.set_cons_succ]; refine hK _ _ ?_; clear hK K)) | (refine Abs.step_skip rfl rfl (fun K hK => ?_); (simp only [Act.put, List.setIfInBounds_toArray, List.set_cons_zero, List.set_cons_succ]; refine hK _ _ ?_; clear hK K)))
  (refine Abs.step_var (obj := ?_) rfl rfl rfl rfl (fun w0 => ?_) (fun K hK g_s2 hv_s2 hu_s2 => ?_); rotate_left; (· go_simp; rfl); (simp only [Act.put, List.setIfInBounds_toArray, List.set_cons_zero, List.set_cons_succ]; refine hK _ _ ?_; clear hK K))
  (refine Abs.step_store (T := ?_) rfl rfl rfl (fun w0 hI hF hU => ?_) (fun _ _ _ _ => trivial) (fun K hK => ?_); rotate_left; (· simp only [Abs.F_setF, Abs.F_addA, Abs.F_push, Abs.F_start, true_and] at hF; have hg0 := (rcell hF).1; have hg1 := (rcell hF).2.1; simp only [Abs.T_setF, Abs.T_addA, Abs.T_push, Abs.T_start]; go_simp; exact row2 hF _ _); (simp only [Act.put, List.setIfInBounds_toArray, List.set_cons_zero, List.set_cons_succ]; refine hK _ _ ?_; clear hK K))
  repeat (first | (refine Abs.step_pure rfl rfl (fun K hK => ?_); go_simp; (try go_bits); (first | refine hK _ _ ?_ | (simp only [↓IntWalk.iteOmega]; go_simp; (try go_bits); refine hK _ _ ?_)); clear hK K) | (refine Abs.step_load (v := ?_) rfl rfl (by kernel_rfl) rfl (fun w0 hI => ?_) (fun K hK => ?_); rotate_left; (· have z0 := (rcell (kp hI (f_x5))).1; go_simp; rfl); (simp only [Act.put, List.setIfInBounds_toArray, List.set_cons_zero, List.set_cons_succ]; refine hK _ _ ?_; clear hK K)) | (refine Abs.step_skip rfl rfl (fun K hK => ?_); (simp only [Act.put, List.setIfInBounds_toArray, List.set_cons_zero, List.set_cons_succ]; refine hK _ _ ?_; clear hK K)))
  have hs_s2 := leB hv_s2
  try simp only [World.size_alloc] at hs_s2
  intro w0 hI hF hx1 hx2
  clear hx1 hx2
  simp only [Abs.F_setF, Abs.F_addA, Abs.F_push, Abs.F_start, true_and, Abs.T_push] at hF ⊢
  generalize hT6 : setRow w0 _ _ = w6
  obtain ⟨hb6, f_s26⟩ := fin1 hI hv_s2 hF hT6
  clear hT6 hI hF w0
  have f_x6 := kp hb6 (f_x5)
  have f_s16 := kp hb6 (f_s15)
  have hB6 := bB hB5 hb6
  obtain ⟨zx_a, zx_b, lx6⟩ := rcell f_x6
  obtain ⟨zs1_a, zs1_b, ls16⟩ := rcell f_s16
  obtain ⟨zs2_a, zs2_b, ls26⟩ := rcell f_s26
  go_wp2
  go_ret
  exact ⟨by simp, hB6⟩

theorem fsum_turns (n ah al bh bl m : Int) (hn2 : n < 9223372036854775808) (hm2 : m < 9223372036854775808) (a0 : 0 ≤ al) (a1 : al < 18446744073709551616) (b0' : 0 ≤ bl) (b1 : bl < 18446744073709551616) (w : World) :
    Calls Try.prog 14 #[.agg #[.int .i64 n, .int .i64 ah, .int .u64 al, .int .i64 bh, .int .u64 bl, .int .i64 m]] w fun e w' => e = .returned (.bool true) ∧ Below w.heap.size w w' := by
  obtain ⟨N, A, B, M, hok, -, cn⟩ := law6_near n ah al bh bl m hn2 hm2 a0 a1 b0' b1
  have hr := hok.row
  have c1 := law6_asks N A B M hr
  have N0 := hok.n0
  have N1 := hok.n1
  by_cases hz : N = 0
  · subst hz
    rw [show fl (0 : Int).toNat A B M = 0 from rfl, show hi 0 = 0 from rfl, show lo 0 = 0 from rfl] at c1
    exact turns_z n ah al bh bl m A B M cn c1 w
  · have hA := hok.a0
    have hA1 := hok.a1
    have hB := hok.b0
    have hB1 := hok.b1
    have bd : -324518553658426726783156020576256 ≤ A * (N - 1) ∧ A * (N - 1) ≤ 324518553658426726783156020576256 := by
      have := mul_bd A (N - 1) 1267650600228229401496703205376 256 (by omega) (by omega) (by omega) (by omega)
      omega
    have c2 := law6_plus 0 A (-1) ⟨by decide, by decide⟩ ⟨by omega, by omega⟩ (by decide) (by decide) ⟨by omega, by omega⟩ ⟨by omega, by omega⟩
    rw [show hi 0 = 0 from rfl, show lo 0 = 0 from rfl, show 0 + A * -1 = -A by omega] at c2
    have c3 := law6_plus B A (N - 1) ⟨by omega, by omega⟩ ⟨by omega, by omega⟩ (by omega) (by omega) ⟨by omega, by omega⟩ ⟨by omega, by omega⟩
    have c4 := law6_asks N (-A) (B + A * (N - 1)) M ⟨N0, N1, by omega, by omega, by omega, by omega, hr.m1, hr.m2⟩
    have e := fl_back N.toNat A B M
    rw [show ((N.toNat : Nat) : Int) = N by omega] at e
    rw [e] at c4
    exact turns_p n ah al bh bl m N A B M _ _ _ (by omega) N1 cn c1 c2 c3 c4 w
end Go.Proofs.Ytlgjapjcdpikeaa
