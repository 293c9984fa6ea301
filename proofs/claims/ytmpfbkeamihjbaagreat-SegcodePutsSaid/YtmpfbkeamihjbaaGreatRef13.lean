/- yearbookref05 at this program, on: Times, At, Within. -/
import Derived.Test.YtmpfbkeamihjbaaGreatRef11
set_option linter.unusedSimpArgs false
set_option linter.unusedVariables false
namespace Go.Proofs.YtmpfbkeamihjbaaGreat
open Go.RowKit

theorem times_bd (A R N D dt : Int) (a1 : -9223372036854775808 ≤ A) (a2 : A < 9223372036854775808) (r1 : -9223372036854775808 ≤ R) (r2 : R < 9223372036854775808) (n1 : -9223372036854775808 ≤ N) (n2 : N < 9223372036854775808) (d1 : -9223372036854775808 ≤ D) (d2 : D < 9223372036854775808) (t1 : -9223372036854775808 ≤ dt) (t2 : dt < 9223372036854775808) : (N * dt + R + A * D).natAbs < 2 ^ 129 := by
  have m1 := mul_bound N dt n1 n2 t1 t2
  have m2 := mul_bound A D a1 a2 d1 d2
  have e : (2 : Nat) ^ 129 = 680564733841876926926749214863536422912 := by decide
  rw [e]
  omega

set_option maxRecDepth 100000 in
set_option maxHeartbeats 2000000 in
theorem ref_Times (A R N D dt : Int) (a1 : -9223372036854775808 ≤ A) (a2 : A < 9223372036854775808) (r1 : -9223372036854775808 ≤ R) (r2 : R < 9223372036854775808) (n1 : -9223372036854775808 ≤ N) (n2 : N < 9223372036854775808) (d1 : -9223372036854775808 ≤ D) (d2 : D < 9223372036854775808) (t1 : -9223372036854775808 ≤ dt) (t2 : dt < 9223372036854775808) (w : World) :
    Calls Tryz.prog 82 #[.agg #[.int .i64 A, .int .i64 R, .int .i64 N, .int .i64 D], .int .i64 dt] w (GivesNum (N * dt + R + A * D) w) := by
  have q1 : N.natAbs * dt.natAbs < 2 ^ 127 := by
    have := Nat.mul_le_mul (show N.natAbs ≤ 9223372036854775808 by omega) (show dt.natAbs ≤ 9223372036854775808 by omega)
    exact Nat.lt_of_le_of_lt this (by decide)
  have q2 : A.natAbs * D.natAbs < 2 ^ 127 := by
    have := Nat.mul_le_mul (show A.natAbs ≤ 9223372036854775808 by omega) (show D.natAbs ≤ 9223372036854775808 by omega)
    exact Nat.lt_of_le_of_lt this (by decide)
  have e126 : (2 : Nat) ^ 127 = 170141183460469231731687303715884105728 := by decide
  have k1 : (N * dt).natAbs < 2 ^ 127 := by rw [Int.natAbs_mul]; exact q1
  have k2 : (A * D).natAbs < 2 ^ 127 := by rw [Int.natAbs_mul]; exact q2
  have s1 : (N * dt).natAbs + R.natAbs < 2 ^ 200 := Nat.lt_of_lt_of_le (show (N * dt).natAbs + R.natAbs < 2 ^ 127 + 9223372036854775809 by omega) (by decide)
  have s2 : (N * dt + R).natAbs + (A * D).natAbs < 2 ^ 200 := Nat.lt_of_lt_of_le (show (N * dt + R).natAbs + (A * D).natAbs < 2 ^ 127 + 9223372036854775809 + 2 ^ 127 by omega) (by decide)
  have cN := ref_Int N n1 n2
  have cT := ref_Int dt t1 t2
  have cR := ref_Int R r1 r2
  have cA := ref_Int A a1 a2
  have cD := ref_Int D d1 d2
  have m1 := fun A B c d w ha hb => ref_Mul N dt 127 A B c d (by decide) q1 (Nat.le_trans (sz_i64 (x := N) (by omega) (by omega)) (by decide)) (Nat.le_trans (sz_i64 (x := dt) (by omega) (by omega)) (by decide)) w ha hb
  have m2 := fun X B c d w ha hb => ref_Mul A D 127 X B c d (by decide) q2 (Nat.le_trans (sz_i64 (x := A) (by omega) (by omega)) (by decide)) (Nat.le_trans (sz_i64 (x := D) (by omega) (by omega)) (by decide)) w ha hb
  have p1 := fun A B c d w ha hb => ref_Add (N * dt) R 200 A B c d (by decide) s1 w ha hb
  have p2 := fun X B c d w ha hb => ref_Add (N * dt + R) (A * D) 200 X B c d (by decide) s2 w ha hb
  clear q1 q2 e126 k1 k2 s1 s2 a1 a2 r1 r2 n1 n2 d1 d2 t1 t2
  generalize N * dt + R + A * D = z at *
  generalize N * dt + R = y at *
  generalize N * dt = x at *
  generalize A * D = v at *
  go_enter Tryz.func82, Tryz.ntmps82
  go_wp2_with fail
  have f_l1 := (ka (na w #[.int .i64 A, .int .i64 R, .int .i64 N, .int .i64 D] 24) (.cells #[.bool false, .slice none 0 0] 127))
  have f_o1 := (na1 w (.cells #[.int .i64 A, .int .i64 R, .int .i64 N, .int .i64 D] 24) #[.bool false, .slice none 0 0] 127)
  have hB1 := (bA (bA (b0 w) (.cells #[.int .i64 A, .int .i64 R, .int .i64 N, .int .i64 D] 24)) (.cells #[.bool false, .slice none 0 0] 127))
  have ll1 := (rcell f_l1).2.2
  have lo1 := (rcell f_o1).2.2
  refine Abs.wp_region_abs (Abs.cls0 _) [0, 1, 2, 3, 4, 5, 6, 7, 8, 9, 10, 11] (by kernel_rfl) (by kernel_rfl) (Below.refl _ _).drew ?_
  repeat (first | (refine Abs.step_pure rfl rfl (fun K hK => ?_); go_simp; (try go_bits); (first | refine hK _ _ ?_ | (simp only [↓IntWalk.iteOmega]; go_simp; (try go_bits); refine hK _ _ ?_)); clear hK K) | (refine Abs.step_load (v := ?_) rfl rfl (by kernel_rfl) rfl (fun w0 hI => ?_) (fun K hK => ?_); rotate_left; (· have z0 := (rcell (kp hI (f_l1))).1; go_simp; rfl); (simp only [Act.put, List.setIfInBounds_toArray, List.set_cons_zero, List.set_cons_succ]; refine hK _ _ ?_; clear hK K)) | (refine Abs.step_skip rfl rfl (fun K hK => ?_); (simp only [Act.put, List.setIfInBounds_toArray, List.set_cons_zero, List.set_cons_succ]; refine hK _ _ ?_; clear hK K)))
  (refine Abs.step_call (f := ?_) (args := ?_) rfl rfl rfl rfl (NumIs (N)) (fun _ => Cl_NumIs _) (fun w0 => ?_) (fun w0 hI hF => ?_) (fun K hK v w0 hv => ?_); rotate_left 2; (· go_simp; (constructor <;> rfl)); (· exact (cN _).mono (fun _ _ h => h.num)); (obtain ⟨A1, e1, rfl, -⟩ := hv; clear w0; simp only [Act.put, List.setIfInBounds_toArray, List.set_cons_zero, List.set_cons_succ]; refine hK _ _ ?_; clear hK K))
  repeat (first | (refine Abs.step_pure rfl rfl (fun K hK => ?_); go_simp; (try go_bits); (first | refine hK _ _ ?_ | (simp only [↓IntWalk.iteOmega]; go_simp; (try go_bits); refine hK _ _ ?_)); clear hK K) | (refine Abs.step_load (v := ?_) rfl rfl (by kernel_rfl) rfl (fun w0 hI => ?_) (fun K hK => ?_); rotate_left; (· have z0 := (rcell (kp hI (f_l1))).1; go_simp; rfl); (simp only [Act.put, List.setIfInBounds_toArray, List.set_cons_zero, List.set_cons_succ]; refine hK _ _ ?_; clear hK K)) | (refine Abs.step_skip rfl rfl (fun K hK => ?_); (simp only [Act.put, List.setIfInBounds_toArray, List.set_cons_zero, List.set_cons_succ]; refine hK _ _ ?_; clear hK K)))
  (refine Abs.step_call (f := ?_) (args := ?_) rfl rfl rfl rfl (NumIs (dt)) (fun _ => Cl_NumIs _) (fun w0 => ?_) (fun w0 hI hF => ?_) (fun K hK v w0 hv => ?_); rotate_left 2; (· go_simp; (constructor <;> rfl)); (· exact (cT _).mono (fun _ _ h => h.num)); (obtain ⟨A2, e2, rfl, -⟩ := hv; clear w0; simp only [Act.put, List.setIfInBounds_toArray, List.set_cons_zero, List.set_cons_succ]; refine hK _ _ ?_; clear hK K))
  repeat (first | (refine Abs.step_pure rfl rfl (fun K hK => ?_); go_simp; (try go_bits); (first | refine hK _ _ ?_ | (simp only [↓IntWalk.iteOmega]; go_simp; (try go_bits); refine hK _ _ ?_)); clear hK K) | (refine Abs.step_load (v := ?_) rfl rfl (by kernel_rfl) rfl (fun w0 hI => ?_) (fun K hK => ?_); rotate_left; (· have z0 := (rcell (kp hI (f_l1))).1; go_simp; rfl); (simp only [Act.put, List.setIfInBounds_toArray, List.set_cons_zero, List.set_cons_succ]; refine hK _ _ ?_; clear hK K)) | (refine Abs.step_skip rfl rfl (fun K hK => ?_); (simp only [Act.put, List.setIfInBounds_toArray, List.set_cons_zero, List.set_cons_succ]; refine hK _ _ ?_; clear hK K)))
  (refine Abs.step_call (f := ?_) (args := ?_) rfl rfl rfl rfl (NumIs (x)) (fun _ => Cl_NumIs _) (fun w0 => ?_) (fun w0 hI hF => ?_) (fun K hK v w0 hv => ?_); rotate_left 2; (· go_simp; (constructor <;> rfl)); (· exact (m1 _ _ _ _ _ (((hF 2 (by kernel_rfl)).1).2 rfl).rd ((hF 4 (by kernel_rfl)).2 rfl).rd).mono (fun _ _ h => h.num)); (obtain ⟨A3, e3, rfl, -⟩ := hv; clear w0; simp only [Act.put, List.setIfInBounds_toArray, List.set_cons_zero, List.set_cons_succ]; refine hK _ _ ?_; clear hK K))
  repeat (first | (refine Abs.step_pure rfl rfl (fun K hK => ?_); go_simp; (try go_bits); (first | refine hK _ _ ?_ | (simp only [↓IntWalk.iteOmega]; go_simp; (try go_bits); refine hK _ _ ?_)); clear hK K) | (refine Abs.step_load (v := ?_) rfl rfl (by kernel_rfl) rfl (fun w0 hI => ?_) (fun K hK => ?_); rotate_left; (· have z0 := (rcell (kp hI (f_l1))).1; go_simp; rfl); (simp only [Act.put, List.setIfInBounds_toArray, List.set_cons_zero, List.set_cons_succ]; refine hK _ _ ?_; clear hK K)) | (refine Abs.step_skip rfl rfl (fun K hK => ?_); (simp only [Act.put, List.setIfInBounds_toArray, List.set_cons_zero, List.set_cons_succ]; refine hK _ _ ?_; clear hK K)))
  (refine Abs.step_call (f := ?_) (args := ?_) rfl rfl rfl rfl (NumIs (R)) (fun _ => Cl_NumIs _) (fun w0 => ?_) (fun w0 hI hF => ?_) (fun K hK v w0 hv => ?_); rotate_left 2; (· go_simp; (constructor <;> rfl)); (· exact (cR _).mono (fun _ _ h => h.num)); (obtain ⟨A4, e4, rfl, -⟩ := hv; clear w0; simp only [Act.put, List.setIfInBounds_toArray, List.set_cons_zero, List.set_cons_succ]; refine hK _ _ ?_; clear hK K))
  repeat (first | (refine Abs.step_pure rfl rfl (fun K hK => ?_); go_simp; (try go_bits); (first | refine hK _ _ ?_ | (simp only [↓IntWalk.iteOmega]; go_simp; (try go_bits); refine hK _ _ ?_)); clear hK K) | (refine Abs.step_load (v := ?_) rfl rfl (by kernel_rfl) rfl (fun w0 hI => ?_) (fun K hK => ?_); rotate_left; (· have z0 := (rcell (kp hI (f_l1))).1; go_simp; rfl); (simp only [Act.put, List.setIfInBounds_toArray, List.set_cons_zero, List.set_cons_succ]; refine hK _ _ ?_; clear hK K)) | (refine Abs.step_skip rfl rfl (fun K hK => ?_); (simp only [Act.put, List.setIfInBounds_toArray, List.set_cons_zero, List.set_cons_succ]; refine hK _ _ ?_; clear hK K)))
  (refine Abs.step_call (f := ?_) (args := ?_) rfl rfl rfl rfl (NumIs (y)) (fun _ => Cl_NumIs _) (fun w0 => ?_) (fun w0 hI hF => ?_) (fun K hK v w0 hv => ?_); rotate_left 2; (· go_simp; (constructor <;> rfl)); (· exact (p1 _ _ _ _ _ (((hF 5 (by kernel_rfl)).1).2 rfl).rd ((hF 8 (by kernel_rfl)).2 rfl).rd).mono (fun _ _ h => h.num)); (obtain ⟨A5, e5, rfl, -⟩ := hv; clear w0; simp only [Act.put, List.setIfInBounds_toArray, List.set_cons_zero, List.set_cons_succ]; refine hK _ _ ?_; clear hK K))
  repeat (first | (refine Abs.step_pure rfl rfl (fun K hK => ?_); go_simp; (try go_bits); (first | refine hK _ _ ?_ | (simp only [↓IntWalk.iteOmega]; go_simp; (try go_bits); refine hK _ _ ?_)); clear hK K) | (refine Abs.step_load (v := ?_) rfl rfl (by kernel_rfl) rfl (fun w0 hI => ?_) (fun K hK => ?_); rotate_left; (· have z0 := (rcell (kp hI (f_l1))).1; go_simp; rfl); (simp only [Act.put, List.setIfInBounds_toArray, List.set_cons_zero, List.set_cons_succ]; refine hK _ _ ?_; clear hK K)) | (refine Abs.step_skip rfl rfl (fun K hK => ?_); (simp only [Act.put, List.setIfInBounds_toArray, List.set_cons_zero, List.set_cons_succ]; refine hK _ _ ?_; clear hK K)))
  (refine Abs.step_var (obj := ?_) rfl rfl rfl rfl (fun w0 => ?_) (fun K hK g_u hv_u hu_u => ?_); rotate_left; (· go_simp; rfl); (simp only [Act.put, List.setIfInBounds_toArray, List.set_cons_zero, List.set_cons_succ]; refine hK _ _ ?_; clear hK K))
  (refine Abs.step_store (T := ?_) rfl rfl rfl (fun w0 hI hF hU => ?_) (fun _ _ _ _ => trivial) (fun K hK => ?_); rotate_left; (· have hR := (hF 10).2 rfl; have hg0 := (rcell hR).1; have hg1 := (rcell hR).2.1; simp only [Abs.T_setF, Abs.T_addA, Abs.T_push, Abs.T_start]; go_simp; exact row2 hR _ _); (simp only [Act.put, List.setIfInBounds_toArray, List.set_cons_zero, List.set_cons_succ]; refine hK _ _ ?_; clear hK K))
  have hs_u := leB hv_u
  try simp only [World.size_alloc] at hs_u
  intro w0 hI hF hx1 hx2
  clear hx1 hx2
  have q1 := (hF 10).2 rfl
  have rn_u := ((hF 9).1.2 rfl).rd
  clear hF
  simp only [Abs.T_push]
  generalize hT2 : setRow w0 _ _ = w2
  have ea := (fin_x (b0 _) q1 hT2).1
  replace rn_u := rn_u.exc ea q1 (by decide)
  obtain ⟨hb2, f_u2⟩ := fin1 hI hv_u q1 hT2
  clear hT2 hI ea q1 w0
  have f_l2 := kp hb2 (f_l1)
  have f_o2 := kp hb2 (f_o1)
  have hB2 := bB hB1 hb2
  obtain ⟨zl_a, zl_b, ll2⟩ := rcell f_l2
  obtain ⟨zo_a, zo_b, lo2⟩ := rcell f_o2
  obtain ⟨zu_a, zu_b, lu2⟩ := rcell f_u2
  go_wp2_with fail
  refine Abs.wp_region_abs (Abs.cls0 _) [0, 1, 2, 3, 4, 5, 6, 7, 8, 9] (by kernel_rfl) (by kernel_rfl) (Below.refl _ _).drew ?_
  repeat (first | (refine Abs.step_pure rfl rfl (fun K hK => ?_); go_simp; (try go_bits); (first | refine hK _ _ ?_ | (simp only [↓IntWalk.iteOmega]; go_simp; (try go_bits); refine hK _ _ ?_)); clear hK K) | (refine Abs.step_load (v := ?_) rfl rfl (by kernel_rfl) rfl (fun w0 hI => ?_) (fun K hK => ?_); rotate_left; (· have z0 := (rcell (kp hI (f_l2))).1; have z1 := (rcell (kp hI (f_u2))).1; go_simp; rfl); (simp only [Act.put, List.setIfInBounds_toArray, List.set_cons_zero, List.set_cons_succ]; refine hK _ _ ?_; clear hK K)) | (refine Abs.step_skip rfl rfl (fun K hK => ?_); (simp only [Act.put, List.setIfInBounds_toArray, List.set_cons_zero, List.set_cons_succ]; refine hK _ _ ?_; clear hK K)))
  (refine Abs.step_call (f := ?_) (args := ?_) rfl rfl rfl rfl (NumIs (A)) (fun _ => Cl_NumIs _) (fun w0 => ?_) (fun w0 hI hF => ?_) (fun K hK v w0 hv => ?_); rotate_left 2; (· go_simp; (constructor <;> rfl)); (· exact (cA _).mono (fun _ _ h => h.num)); (obtain ⟨B1, g1, rfl, -⟩ := hv; clear w0; simp only [Act.put, List.setIfInBounds_toArray, List.set_cons_zero, List.set_cons_succ]; refine hK _ _ ?_; clear hK K))
  repeat (first | (refine Abs.step_pure rfl rfl (fun K hK => ?_); go_simp; (try go_bits); (first | refine hK _ _ ?_ | (simp only [↓IntWalk.iteOmega]; go_simp; (try go_bits); refine hK _ _ ?_)); clear hK K) | (refine Abs.step_load (v := ?_) rfl rfl (by kernel_rfl) rfl (fun w0 hI => ?_) (fun K hK => ?_); rotate_left; (· have z0 := (rcell (kp hI (f_l2))).1; have z1 := (rcell (kp hI (f_u2))).1; go_simp; rfl); (simp only [Act.put, List.setIfInBounds_toArray, List.set_cons_zero, List.set_cons_succ]; refine hK _ _ ?_; clear hK K)) | (refine Abs.step_skip rfl rfl (fun K hK => ?_); (simp only [Act.put, List.setIfInBounds_toArray, List.set_cons_zero, List.set_cons_succ]; refine hK _ _ ?_; clear hK K)))
  (refine Abs.step_call (f := ?_) (args := ?_) rfl rfl rfl rfl (NumIs (D)) (fun _ => Cl_NumIs _) (fun w0 => ?_) (fun w0 hI hF => ?_) (fun K hK v w0 hv => ?_); rotate_left 2; (· go_simp; (constructor <;> rfl)); (· exact (cD _).mono (fun _ _ h => h.num)); (obtain ⟨B2, g2, rfl, -⟩ := hv; clear w0; simp only [Act.put, List.setIfInBounds_toArray, List.set_cons_zero, List.set_cons_succ]; refine hK _ _ ?_; clear hK K))
  repeat (first | (refine Abs.step_pure rfl rfl (fun K hK => ?_); go_simp; (try go_bits); (first | refine hK _ _ ?_ | (simp only [↓IntWalk.iteOmega]; go_simp; (try go_bits); refine hK _ _ ?_)); clear hK K) | (refine Abs.step_load (v := ?_) rfl rfl (by kernel_rfl) rfl (fun w0 hI => ?_) (fun K hK => ?_); rotate_left; (· have z0 := (rcell (kp hI (f_l2))).1; have z1 := (rcell (kp hI (f_u2))).1; go_simp; rfl); (simp only [Act.put, List.setIfInBounds_toArray, List.set_cons_zero, List.set_cons_succ]; refine hK _ _ ?_; clear hK K)) | (refine Abs.step_skip rfl rfl (fun K hK => ?_); (simp only [Act.put, List.setIfInBounds_toArray, List.set_cons_zero, List.set_cons_succ]; refine hK _ _ ?_; clear hK K)))
  (refine Abs.step_call (f := ?_) (args := ?_) rfl rfl rfl rfl (NumIs (v)) (fun _ => Cl_NumIs _) (fun w0 => ?_) (fun w0 hI hF => ?_) (fun K hK v w0 hv => ?_); rotate_left 2; (· go_simp; (constructor <;> rfl)); (· exact (m2 _ _ _ _ _ (((hF 3 (by kernel_rfl)).1).2 rfl).rd ((hF 6 (by kernel_rfl)).2 rfl).rd).mono (fun _ _ h => h.num)); (obtain ⟨B3, g3, rfl, -⟩ := hv; clear w0; simp only [Act.put, List.setIfInBounds_toArray, List.set_cons_zero, List.set_cons_succ]; refine hK _ _ ?_; clear hK K))
  repeat (first | (refine Abs.step_pure rfl rfl (fun K hK => ?_); go_simp; (try go_bits); (first | refine hK _ _ ?_ | (simp only [↓IntWalk.iteOmega]; go_simp; (try go_bits); refine hK _ _ ?_)); clear hK K) | (refine Abs.step_load (v := ?_) rfl rfl (by kernel_rfl) rfl (fun w0 hI => ?_) (fun K hK => ?_); rotate_left; (· have z0 := (rcell (kp hI (f_l2))).1; have z1 := (rcell (kp hI (f_u2))).1; go_simp; rfl); (simp only [Act.put, List.setIfInBounds_toArray, List.set_cons_zero, List.set_cons_succ]; refine hK _ _ ?_; clear hK K)) | (refine Abs.step_skip rfl rfl (fun K hK => ?_); (simp only [Act.put, List.setIfInBounds_toArray, List.set_cons_zero, List.set_cons_succ]; refine hK _ _ ?_; clear hK K)))
  (refine Abs.step_call (f := ?_) (args := ?_) rfl rfl rfl rfl (NumIs (z)) (fun _ => Cl_NumIs _) (fun w0 => ?_) (fun w0 hI hF => ?_) (fun K hK v w0 hv => ?_); rotate_left 2; (· go_simp; (constructor <;> rfl)); (· exact (p2 _ _ _ _ _ (rn_u.below hI) ((hF 7 (by kernel_rfl)).2 rfl).rd).mono (fun _ _ h => h.num)); (obtain ⟨B4, g4, rfl, -⟩ := hv; clear w0; simp only [Act.put, List.setIfInBounds_toArray, List.set_cons_zero, List.set_cons_succ]; refine hK _ _ ?_; clear hK K))
  repeat (first | (refine Abs.step_pure rfl rfl (fun K hK => ?_); go_simp; (try go_bits); (first | refine hK _ _ ?_ | (simp only [↓IntWalk.iteOmega]; go_simp; (try go_bits); refine hK _ _ ?_)); clear hK K) | (refine Abs.step_load (v := ?_) rfl rfl (by kernel_rfl) rfl (fun w0 hI => ?_) (fun K hK => ?_); rotate_left; (· have z0 := (rcell (kp hI (f_l2))).1; have z1 := (rcell (kp hI (f_u2))).1; go_simp; rfl); (simp only [Act.put, List.setIfInBounds_toArray, List.set_cons_zero, List.set_cons_succ]; refine hK _ _ ?_; clear hK K)) | (refine Abs.step_skip rfl rfl (fun K hK => ?_); (simp only [Act.put, List.setIfInBounds_toArray, List.set_cons_zero, List.set_cons_succ]; refine hK _ _ ?_; clear hK K)))
  (refine Abs.step_store (T := ?_) rfl rfl rfl (fun w0 hI hF hU => ?_) (fun w0 hI hU hJ => ?_) (fun K hK => ?_); rotate_left; (· have hR := kp hI (f_o2); have hg0 := (rcell hR).1; have hg1 := (rcell hR).2.1; simp only [Abs.T_setF, Abs.T_addA, Abs.T_push, Abs.T_start]; go_simp; exact row2 hR _ _); (· first | exact trivial | exact js hJ rfl _ | exact js hJ (Or.inl rfl) _ | exact js hJ (Or.inr rfl) _); (simp only [Act.put, List.setIfInBounds_toArray, List.set_cons_zero, List.set_cons_succ]; refine hK _ _ ?_; clear hK K))
  repeat (first | (refine Abs.step_pure rfl rfl (fun K hK => ?_); go_simp; (try go_bits); (first | refine hK _ _ ?_ | (simp only [↓IntWalk.iteOmega]; go_simp; (try go_bits); refine hK _ _ ?_)); clear hK K) | (refine Abs.step_load (v := ?_) rfl rfl (by kernel_rfl) rfl (fun w0 hI => ?_) (fun K hK => ?_); rotate_left; (· have z0 := (rcell (kp hI (f_l2))).1; have z1 := (rcell (kp hI (f_u2))).1; go_simp; rfl); (simp only [Act.put, List.setIfInBounds_toArray, List.set_cons_zero, List.set_cons_succ]; refine hK _ _ ?_; clear hK K)) | (refine Abs.step_skip rfl rfl (fun K hK => ?_); (simp only [Act.put, List.setIfInBounds_toArray, List.set_cons_zero, List.set_cons_succ]; refine hK _ _ ?_; clear hK K)))
  intro w0 hI hF hx1 hx2
  clear hx1 hx2
  simp only [Abs.T_push]
  have rn_s := (((hF 8).2 rfl)).rd
  clear hF
  have hQ := kp hI (f_o2)
  generalize hT4 : setRow w0 _ _ = w4
  have hy := (fin_x (b0 _) hQ hT4).1
  replace rn_s := rn_s.exc hy hQ (by decide)
  obtain ⟨hx4, f_o4⟩ := fin_x hI (f_o2) hT4
  clear hT4 hQ hy hI w0
  have f_l4 := kx hx4 (f_l2) (by omega)
  have f_u4 := kx hx4 (f_u2) (by omega)
  have rd_u4 := rn_u.exc hx4 (f_o2) (by decide)
  have hB4 := bX hB2 hx4 (by omega)
  clear zl_a zl_b zo_a zo_b zu_a zu_b
  obtain ⟨zl_a, zl_b, ll4⟩ := rcell f_l4
  obtain ⟨zu_a, zu_b, lu4⟩ := rcell f_u4
  obtain ⟨zo_a, zo_b, lo4⟩ := rcell f_o4
  go_wp2
  refine bodyPost_ret (by simp [results, Tryz.results82, go_sem, zo_a]; try rfl) rfl ⟨B4, g4, rfl, hB4, rn_s⟩

set_option maxRecDepth 100000 in
set_option maxHeartbeats 2000000 in
theorem at_big (A R N D dt x q r : Int) (c1 : ∀ w, Calls Tryz.prog 82 #[.agg #[.int .i64 A, .int .i64 R, .int .i64 N, .int .i64 D], .int .i64 dt] w (GivesNum x w)) (c2 : ∀ w, Calls Tryz.prog 83 #[.int .i64 D] w (GivesNum D w)) (c3 : ∀ A B c d w, Rd w A c (sz x.natAbs) → Rd w B d (sz D.natAbs) → Calls Tryz.prog 81 #[.agg #[.bool (decide (x < 0)), .slice A (sz x.natAbs).length c], .agg #[.bool (decide (D < 0)), .slice B (sz D.natAbs).length d]] w (GivesNum2 q r w)) (c4 : ∀ A c w, Rd w A c (sz q.natAbs) → Calls Tryz.prog 84 #[.agg #[.bool (decide (q < 0)), .slice A (sz q.natAbs).length c]] w fun e w' => e = .returned (.tuple #[.int .i64 0, .bool false]) ∧ Below w.heap.size w w')  (w : World) :
    Calls Tryz.prog 62 #[.agg #[.int .i64 A, .int .i64 R, .int .i64 N, .int .i64 D], .int .i64 dt] w fun e w' => e = .returned (.tuple #[.int .i64 0, .bool false]) ∧ Below w.heap.size w w' := by
  go_enter Tryz.func62, Tryz.ntmps62
  go_wp2_with fail
  have f_l1 := (na w #[.int .i64 A, .int .i64 R, .int .i64 N, .int .i64 D] 24)
  have hB1 := (bA (b0 w) (.cells #[.int .i64 A, .int .i64 R, .int .i64 N, .int .i64 D] 24))
  have ll1 := (rcell f_l1).2.2
  refine Abs.wp_region_abs (Abs.cls0 _) [0, 1, 2, 3, 4, 5, 6, 7, 8, 9, 10, 11, 12, 13] (by kernel_rfl) (by kernel_rfl) (Below.refl _ _).drew ?_
  repeat (first | (refine Abs.step_pure rfl rfl (fun K hK => ?_); go_simp; (try go_bits); (first | refine hK _ _ ?_ | (simp only [↓IntWalk.iteOmega]; go_simp; (try go_bits); refine hK _ _ ?_)); clear hK K) | (refine Abs.step_load (v := ?_) rfl rfl (by kernel_rfl) rfl (fun w0 hI => ?_) (fun K hK => ?_); rotate_left; (· have z0 := (rcell (kp hI (f_l1))).1; go_simp; rfl); (simp only [Act.put, List.setIfInBounds_toArray, List.set_cons_zero, List.set_cons_succ]; refine hK _ _ ?_; clear hK K)) | (refine Abs.step_skip rfl rfl (fun K hK => ?_); (simp only [Act.put, List.setIfInBounds_toArray, List.set_cons_zero, List.set_cons_succ]; refine hK _ _ ?_; clear hK K)))
  (refine Abs.step_call (f := ?_) (args := ?_) rfl rfl rfl rfl (NumIs (x)) (fun _ => Cl_NumIs _) (fun w0 => ?_) (fun w0 hI hF => ?_) (fun K hK v w0 hv => ?_); rotate_left 2; (· go_simp; (constructor <;> rfl)); (· exact (c1 _).mono (fun _ _ h => h.num)); (obtain ⟨A1, e1, rfl, -⟩ := hv; clear w0; simp only [Act.put, List.setIfInBounds_toArray, List.set_cons_zero, List.set_cons_succ]; refine hK _ _ ?_; clear hK K))
  repeat (first | (refine Abs.step_pure rfl rfl (fun K hK => ?_); go_simp; (try go_bits); (first | refine hK _ _ ?_ | (simp only [↓IntWalk.iteOmega]; go_simp; (try go_bits); refine hK _ _ ?_)); clear hK K) | (refine Abs.step_load (v := ?_) rfl rfl (by kernel_rfl) rfl (fun w0 hI => ?_) (fun K hK => ?_); rotate_left; (· have z0 := (rcell (kp hI (f_l1))).1; go_simp; rfl); (simp only [Act.put, List.setIfInBounds_toArray, List.set_cons_zero, List.set_cons_succ]; refine hK _ _ ?_; clear hK K)) | (refine Abs.step_skip rfl rfl (fun K hK => ?_); (simp only [Act.put, List.setIfInBounds_toArray, List.set_cons_zero, List.set_cons_succ]; refine hK _ _ ?_; clear hK K)))
  (refine Abs.step_call (f := ?_) (args := ?_) rfl rfl rfl rfl (NumIs (D)) (fun _ => Cl_NumIs _) (fun w0 => ?_) (fun w0 hI hF => ?_) (fun K hK v w0 hv => ?_); rotate_left 2; (· go_simp; (constructor <;> rfl)); (· exact (c2 _).mono (fun _ _ h => h.num)); (obtain ⟨A2, e2, rfl, -⟩ := hv; clear w0; simp only [Act.put, List.setIfInBounds_toArray, List.set_cons_zero, List.set_cons_succ]; refine hK _ _ ?_; clear hK K))
  repeat (first | (refine Abs.step_pure rfl rfl (fun K hK => ?_); go_simp; (try go_bits); (first | refine hK _ _ ?_ | (simp only [↓IntWalk.iteOmega]; go_simp; (try go_bits); refine hK _ _ ?_)); clear hK K) | (refine Abs.step_load (v := ?_) rfl rfl (by kernel_rfl) rfl (fun w0 hI => ?_) (fun K hK => ?_); rotate_left; (· have z0 := (rcell (kp hI (f_l1))).1; go_simp; rfl); (simp only [Act.put, List.setIfInBounds_toArray, List.set_cons_zero, List.set_cons_succ]; refine hK _ _ ?_; clear hK K)) | (refine Abs.step_skip rfl rfl (fun K hK => ?_); (simp only [Act.put, List.setIfInBounds_toArray, List.set_cons_zero, List.set_cons_succ]; refine hK _ _ ?_; clear hK K)))
  (refine Abs.step_call (f := ?_) (args := ?_) rfl rfl rfl rfl (Num2Is (q) (r)) (fun _ => Cl_Num2Is _ _) (fun w0 => ?_) (fun w0 hI hF => ?_) (fun K hK v w0 hv => ?_); rotate_left 2; (· go_simp; (constructor <;> rfl)); (· exact (c3 _ _ _ _ _ (((hF 2 (by kernel_rfl)).1).2 rfl).rd ((hF 5 (by kernel_rfl)).2 rfl).rd).mono (fun _ _ h => h.num2)); (obtain ⟨A3, e3, A4, e4, rfl, -, -⟩ := hv; clear w0; simp only [Act.put, List.setIfInBounds_toArray, List.set_cons_zero, List.set_cons_succ]; refine hK _ _ ?_; clear hK K))
  repeat (first | (refine Abs.step_pure rfl rfl (fun K hK => ?_); go_simp; (try go_bits); (first | refine hK _ _ ?_ | (simp only [↓IntWalk.iteOmega]; go_simp; (try go_bits); refine hK _ _ ?_)); clear hK K) | (refine Abs.step_load (v := ?_) rfl rfl (by kernel_rfl) rfl (fun w0 hI => ?_) (fun K hK => ?_); rotate_left; (· have z0 := (rcell (kp hI (f_l1))).1; go_simp; rfl); (simp only [Act.put, List.setIfInBounds_toArray, List.set_cons_zero, List.set_cons_succ]; refine hK _ _ ?_; clear hK K)) | (refine Abs.step_skip rfl rfl (fun K hK => ?_); (simp only [Act.put, List.setIfInBounds_toArray, List.set_cons_zero, List.set_cons_succ]; refine hK _ _ ?_; clear hK K)))
  (refine Abs.step_var (obj := ?_) rfl rfl rfl rfl (fun w0 => ?_) (fun K hK g_q hv_q hu_q => ?_); rotate_left; (· go_simp; rfl); (simp only [Act.put, List.setIfInBounds_toArray, List.set_cons_zero, List.set_cons_succ]; refine hK _ _ ?_; clear hK K))
  repeat (first | (refine Abs.step_pure rfl rfl (fun K hK => ?_); go_simp; (try go_bits); (first | refine hK _ _ ?_ | (simp only [↓IntWalk.iteOmega]; go_simp; (try go_bits); refine hK _ _ ?_)); clear hK K) | (refine Abs.step_load (v := ?_) rfl rfl (by kernel_rfl) rfl (fun w0 hI => ?_) (fun K hK => ?_); rotate_left; (· have z0 := (rcell (kp hI (f_l1))).1; go_simp; rfl); (simp only [Act.put, List.setIfInBounds_toArray, List.set_cons_zero, List.set_cons_succ]; refine hK _ _ ?_; clear hK K)) | (refine Abs.step_skip rfl rfl (fun K hK => ?_); (simp only [Act.put, List.setIfInBounds_toArray, List.set_cons_zero, List.set_cons_succ]; refine hK _ _ ?_; clear hK K)))
  (refine Abs.step_var (obj := ?_) rfl rfl rfl rfl (fun w0 => ?_) (fun K hK g_t hv_t hu_t => ?_); rotate_left; (· go_simp; rfl); (simp only [Act.put, List.setIfInBounds_toArray, List.set_cons_zero, List.set_cons_succ]; refine hK _ _ ?_; clear hK K))
  repeat (first | (refine Abs.step_pure rfl rfl (fun K hK => ?_); go_simp; (try go_bits); (first | refine hK _ _ ?_ | (simp only [↓IntWalk.iteOmega]; go_simp; (try go_bits); refine hK _ _ ?_)); clear hK K) | (refine Abs.step_load (v := ?_) rfl rfl (by kernel_rfl) rfl (fun w0 hI => ?_) (fun K hK => ?_); rotate_left; (· have z0 := (rcell (kp hI (f_l1))).1; go_simp; rfl); (simp only [Act.put, List.setIfInBounds_toArray, List.set_cons_zero, List.set_cons_succ]; refine hK _ _ ?_; clear hK K)) | (refine Abs.step_skip rfl rfl (fun K hK => ?_); (simp only [Act.put, List.setIfInBounds_toArray, List.set_cons_zero, List.set_cons_succ]; refine hK _ _ ?_; clear hK K)))
  (refine Abs.step_store (T := ?_) rfl rfl rfl (fun w0 hI hF hU => ?_) (fun _ _ _ _ => trivial) (fun K hK => ?_); rotate_left; (· have hR := (hF 10).1.2 rfl; have hg0 := (rcell hR).1; have hg1 := (rcell hR).2.1; simp only [Abs.T_setF, Abs.T_addA, Abs.T_push, Abs.T_start]; go_simp; exact row2 hR _ _); (simp only [Act.put, List.setIfInBounds_toArray, List.set_cons_zero, List.set_cons_succ]; refine hK _ _ ?_; clear hK K))
  (refine Abs.step_store (T := ?_) rfl rfl rfl (fun w0 hI hF hU => ?_) (fun _ _ _ _ => trivial) (fun K hK => ?_); rotate_left; (· have hR := fun cs => (setRow_other (w := w0) (g := g_q) cs (fun e => hu_t (Or.inl e))).trans ((hF 11).2 rfl); have hg0 := fun cs => (rcell (hR cs)).1; have hg1 := fun cs => (rcell (hR cs)).2.1; simp only [Abs.T_setF, Abs.T_addA, Abs.T_push, Abs.T_start]; go_simp; exact row2 (hR _) _ _); (simp only [Act.put, List.setIfInBounds_toArray, List.set_cons_zero, List.set_cons_succ]; refine hK _ _ ?_; clear hK K))
  have hs_q := leB hv_q
  try simp only [World.size_alloc] at hs_q
  have hs_t := leB hv_t
  try simp only [World.size_alloc] at hs_t
  have hn : g_t ≠ g_q := fun e => hu_t (Or.inl e)
  intro w0 hI hF hx1 hx2
  clear hx1 hx2
  have q1 := (hF 10).1.2 rfl
  have q2 := (hF 11).2 rfl
  have rn_q := ((hF 6).1.1.2 rfl).rds.1
  have rn_t := ((hF 6).1.1.2 rfl).rds.2
  clear hF
  simp only [Abs.T_push]
  generalize hTa : setRow w0 _ _ = wa
  have ea := (fin_x (b0 _) q1 hTa).1
  replace rn_q := rn_q.exc ea q1 (by decide)
  replace rn_t := rn_t.exc ea q1 (by decide)
  obtain ⟨ba, fa⟩ := fin1 hI hv_q q1 hTa
  have q3 : wa.heap[g_t]? = w0.heap[g_t]? := by rw [← hTa]; exact setRow_other _ hn
  replace q2 := q3.trans q2
  clear q3
  generalize hTb : setRow wa _ _ = w2
  have eb := (fin_x (b0 _) q2 hTb).1
  replace rn_q := rn_q.exc eb q2 (by decide)
  replace rn_t := rn_t.exc eb q2 (by decide)
  obtain ⟨hb2, f_t2⟩ := fin1 ba hv_t q2 hTb
  have q4 : w2.heap[g_q]? = wa.heap[g_q]? := by rw [← hTb]; exact setRow_other _ hn.symm
  have f_q2 := q4.trans fa
  clear q4
  clear hTa hTb ea eb q1 q2 fa ba hI w0
  have f_l2 := kp hb2 (f_l1)
  have hB2 := bB hB1 hb2
  obtain ⟨zl_a, zl_b, ll2⟩ := rcell f_l2
  obtain ⟨zq_a, zq_b, lq2⟩ := rcell f_q2
  obtain ⟨zt_a, zt_b, lt2⟩ := rcell f_t2
  go_wp2_with fail
  refine (c4 _ _ _ rn_q).mono ?_
  rintro e w3 ⟨rfl, hb3⟩
  have f_l3 := kp hb3 (f_l2)
  have f_q3 := kp hb3 (f_q2)
  have f_t3 := kp hb3 (f_t2)
  have rd_q3 := rn_q.below hb3
  have rd_t3 := rn_t.below hb3
  have hB3 := bB hB2 hb3
  clear zl_a zl_b zq_a zq_b zt_a zt_b
  obtain ⟨zl_a, zl_b, ll3⟩ := rcell f_l3
  obtain ⟨zq_a, zq_b, lq3⟩ := rcell f_q3
  obtain ⟨zt_a, zt_b, lt3⟩ := rcell f_t3
  go_wp2
  go_ret2
  exact ⟨by simp, hB3⟩

set_option maxRecDepth 100000 in
set_option maxHeartbeats 2000000 in
theorem at_far (A R N D dt x q r : Int) (c1 : ∀ w, Calls Tryz.prog 82 #[.agg #[.int .i64 A, .int .i64 R, .int .i64 N, .int .i64 D], .int .i64 dt] w (GivesNum x w)) (c2 : ∀ w, Calls Tryz.prog 83 #[.int .i64 D] w (GivesNum D w)) (c3 : ∀ A B c d w, Rd w A c (sz x.natAbs) → Rd w B d (sz D.natAbs) → Calls Tryz.prog 81 #[.agg #[.bool (decide (x < 0)), .slice A (sz x.natAbs).length c], .agg #[.bool (decide (D < 0)), .slice B (sz D.natAbs).length d]] w (GivesNum2 q r w)) (c4 : ∀ A c w, Rd w A c (sz q.natAbs) → Calls Tryz.prog 84 #[.agg #[.bool (decide (q < 0)), .slice A (sz q.natAbs).length c]] w fun e w' => e = .returned (.tuple #[.int .i64 q, .bool true]) ∧ Below w.heap.size w w') (c5 : ∀ w, Calls Tryz.prog 59 #[.int .i64 q] w fun e w' => e = .returned (.bool false) ∧ Below w.heap.size w w') (w : World) :
    Calls Tryz.prog 62 #[.agg #[.int .i64 A, .int .i64 R, .int .i64 N, .int .i64 D], .int .i64 dt] w fun e w' => e = .returned (.tuple #[.int .i64 0, .bool false]) ∧ Below w.heap.size w w' := by
  go_enter Tryz.func62, Tryz.ntmps62
  go_wp2_with fail
  have f_l1 := (na w #[.int .i64 A, .int .i64 R, .int .i64 N, .int .i64 D] 24)
  have hB1 := (bA (b0 w) (.cells #[.int .i64 A, .int .i64 R, .int .i64 N, .int .i64 D] 24))
  have ll1 := (rcell f_l1).2.2
  refine Abs.wp_region_abs (Abs.cls0 _) [0, 1, 2, 3, 4, 5, 6, 7, 8, 9, 10, 11, 12, 13] (by kernel_rfl) (by kernel_rfl) (Below.refl _ _).drew ?_
  repeat (first | (refine Abs.step_pure rfl rfl (fun K hK => ?_); go_simp; (try go_bits); (first | refine hK _ _ ?_ | (simp only [↓IntWalk.iteOmega]; go_simp; (try go_bits); refine hK _ _ ?_)); clear hK K) | (refine Abs.step_load (v := ?_) rfl rfl (by kernel_rfl) rfl (fun w0 hI => ?_) (fun K hK => ?_); rotate_left; (· have z0 := (rcell (kp hI (f_l1))).1; go_simp; rfl); (simp only [Act.put, List.setIfInBounds_toArray, List.set_cons_zero, List.set_cons_succ]; refine hK _ _ ?_; clear hK K)) | (refine Abs.step_skip rfl rfl (fun K hK => ?_); (simp only [Act.put, List.setIfInBounds_toArray, List.set_cons_zero, List.set_cons_succ]; refine hK _ _ ?_; clear hK K)))
  (refine Abs.step_call (f := ?_) (args := ?_) rfl rfl rfl rfl (NumIs (x)) (fun _ => Cl_NumIs _) (fun w0 => ?_) (fun w0 hI hF => ?_) (fun K hK v w0 hv => ?_); rotate_left 2; (· go_simp; (constructor <;> rfl)); (· exact (c1 _).mono (fun _ _ h => h.num)); (obtain ⟨A1, e1, rfl, -⟩ := hv; clear w0; simp only [Act.put, List.setIfInBounds_toArray, List.set_cons_zero, List.set_cons_succ]; refine hK _ _ ?_; clear hK K))
  repeat (first | (refine Abs.step_pure rfl rfl (fun K hK => ?_); go_simp; (try go_bits); (first | refine hK _ _ ?_ | (simp only [↓IntWalk.iteOmega]; go_simp; (try go_bits); refine hK _ _ ?_)); clear hK K) | (refine Abs.step_load (v := ?_) rfl rfl (by kernel_rfl) rfl (fun w0 hI => ?_) (fun K hK => ?_); rotate_left; (· have z0 := (rcell (kp hI (f_l1))).1; go_simp; rfl); (simp only [Act.put, List.setIfInBounds_toArray, List.set_cons_zero, List.set_cons_succ]; refine hK _ _ ?_; clear hK K)) | (refine Abs.step_skip rfl rfl (fun K hK => ?_); (simp only [Act.put, List.setIfInBounds_toArray, List.set_cons_zero, List.set_cons_succ]; refine hK _ _ ?_; clear hK K)))
  (refine Abs.step_call (f := ?_) (args := ?_) rfl rfl rfl rfl (NumIs (D)) (fun _ => Cl_NumIs _) (fun w0 => ?_) (fun w0 hI hF => ?_) (fun K hK v w0 hv => ?_); rotate_left 2; (· go_simp; (constructor <;> rfl)); (· exact (c2 _).mono (fun _ _ h => h.num)); (obtain ⟨A2, e2, rfl, -⟩ := hv; clear w0; simp only [Act.put, List.setIfInBounds_toArray, List.set_cons_zero, List.set_cons_succ]; refine hK _ _ ?_; clear hK K))
  repeat (first | (refine Abs.step_pure rfl rfl (fun K hK => ?_); go_simp; (try go_bits); (first | refine hK _ _ ?_ | (simp only [↓IntWalk.iteOmega]; go_simp; (try go_bits); refine hK _ _ ?_)); clear hK K) | (refine Abs.step_load (v := ?_) rfl rfl (by kernel_rfl) rfl (fun w0 hI => ?_) (fun K hK => ?_); rotate_left; (· have z0 := (rcell (kp hI (f_l1))).1; go_simp; rfl); (simp only [Act.put, List.setIfInBounds_toArray, List.set_cons_zero, List.set_cons_succ]; refine hK _ _ ?_; clear hK K)) | (refine Abs.step_skip rfl rfl (fun K hK => ?_); (simp only [Act.put, List.setIfInBounds_toArray, List.set_cons_zero, List.set_cons_succ]; refine hK _ _ ?_; clear hK K)))
  (refine Abs.step_call (f := ?_) (args := ?_) rfl rfl rfl rfl (Num2Is (q) (r)) (fun _ => Cl_Num2Is _ _) (fun w0 => ?_) (fun w0 hI hF => ?_) (fun K hK v w0 hv => ?_); rotate_left 2; (· go_simp; (constructor <;> rfl)); (· exact (c3 _ _ _ _ _ (((hF 2 (by kernel_rfl)).1).2 rfl).rd ((hF 5 (by kernel_rfl)).2 rfl).rd).mono (fun _ _ h => h.num2)); (obtain ⟨A3, e3, A4, e4, rfl, -, -⟩ := hv; clear w0; simp only [Act.put, List.setIfInBounds_toArray, List.set_cons_zero, List.set_cons_succ]; refine hK _ _ ?_; clear hK K))
  repeat (first | (refine Abs.step_pure rfl rfl (fun K hK => ?_); go_simp; (try go_bits); (first | refine hK _ _ ?_ | (simp only [↓IntWalk.iteOmega]; go_simp; (try go_bits); refine hK _ _ ?_)); clear hK K) | (refine Abs.step_load (v := ?_) rfl rfl (by kernel_rfl) rfl (fun w0 hI => ?_) (fun K hK => ?_); rotate_left; (· have z0 := (rcell (kp hI (f_l1))).1; go_simp; rfl); (simp only [Act.put, List.setIfInBounds_toArray, List.set_cons_zero, List.set_cons_succ]; refine hK _ _ ?_; clear hK K)) | (refine Abs.step_skip rfl rfl (fun K hK => ?_); (simp only [Act.put, List.setIfInBounds_toArray, List.set_cons_zero, List.set_cons_succ]; refine hK _ _ ?_; clear hK K)))
  (refine Abs.step_var (obj := ?_) rfl rfl rfl rfl (fun w0 => ?_) (fun K hK g_q hv_q hu_q => ?_); rotate_left; (· go_simp; rfl); (simp only [Act.put, List.setIfInBounds_toArray, List.set_cons_zero, List.set_cons_succ]; refine hK _ _ ?_; clear hK K))
  repeat (first | (refine Abs.step_pure rfl rfl (fun K hK => ?_); go_simp; (try go_bits); (first | refine hK _ _ ?_ | (simp only [↓IntWalk.iteOmega]; go_simp; (try go_bits); refine hK _ _ ?_)); clear hK K) | (refine Abs.step_load (v := ?_) rfl rfl (by kernel_rfl) rfl (fun w0 hI => ?_) (fun K hK => ?_); rotate_left; (· have z0 := (rcell (kp hI (f_l1))).1; go_simp; rfl); (simp only [Act.put, List.setIfInBounds_toArray, List.set_cons_zero, List.set_cons_succ]; refine hK _ _ ?_; clear hK K)) | (refine Abs.step_skip rfl rfl (fun K hK => ?_); (simp only [Act.put, List.setIfInBounds_toArray, List.set_cons_zero, List.set_cons_succ]; refine hK _ _ ?_; clear hK K)))
  (refine Abs.step_var (obj := ?_) rfl rfl rfl rfl (fun w0 => ?_) (fun K hK g_t hv_t hu_t => ?_); rotate_left; (· go_simp; rfl); (simp only [Act.put, List.setIfInBounds_toArray, List.set_cons_zero, List.set_cons_succ]; refine hK _ _ ?_; clear hK K))
  repeat (first | (refine Abs.step_pure rfl rfl (fun K hK => ?_); go_simp; (try go_bits); (first | refine hK _ _ ?_ | (simp only [↓IntWalk.iteOmega]; go_simp; (try go_bits); refine hK _ _ ?_)); clear hK K) | (refine Abs.step_load (v := ?_) rfl rfl (by kernel_rfl) rfl (fun w0 hI => ?_) (fun K hK => ?_); rotate_left; (· have z0 := (rcell (kp hI (f_l1))).1; go_simp; rfl); (simp only [Act.put, List.setIfInBounds_toArray, List.set_cons_zero, List.set_cons_succ]; refine hK _ _ ?_; clear hK K)) | (refine Abs.step_skip rfl rfl (fun K hK => ?_); (simp only [Act.put, List.setIfInBounds_toArray, List.set_cons_zero, List.set_cons_succ]; refine hK _ _ ?_; clear hK K)))
  (refine Abs.step_store (T := ?_) rfl rfl rfl (fun w0 hI hF hU => ?_) (fun _ _ _ _ => trivial) (fun K hK => ?_); rotate_left; (· have hR := (hF 10).1.2 rfl; have hg0 := (rcell hR).1; have hg1 := (rcell hR).2.1; simp only [Abs.T_setF, Abs.T_addA, Abs.T_push, Abs.T_start]; go_simp; exact row2 hR _ _); (simp only [Act.put, List.setIfInBounds_toArray, List.set_cons_zero, List.set_cons_succ]; refine hK _ _ ?_; clear hK K))
  (refine Abs.step_store (T := ?_) rfl rfl rfl (fun w0 hI hF hU => ?_) (fun _ _ _ _ => trivial) (fun K hK => ?_); rotate_left; (· have hR := fun cs => (setRow_other (w := w0) (g := g_q) cs (fun e => hu_t (Or.inl e))).trans ((hF 11).2 rfl); have hg0 := fun cs => (rcell (hR cs)).1; have hg1 := fun cs => (rcell (hR cs)).2.1; simp only [Abs.T_setF, Abs.T_addA, Abs.T_push, Abs.T_start]; go_simp; exact row2 (hR _) _ _); (simp only [Act.put, List.setIfInBounds_toArray, List.set_cons_zero, List.set_cons_succ]; refine hK _ _ ?_; clear hK K))
  have hs_q := leB hv_q
  try simp only [World.size_alloc] at hs_q
  have hs_t := leB hv_t
  try simp only [World.size_alloc] at hs_t
  have hn : g_t ≠ g_q := fun e => hu_t (Or.inl e)
  intro w0 hI hF hx1 hx2
  clear hx1 hx2
  have q1 := (hF 10).1.2 rfl
  have q2 := (hF 11).2 rfl
  have rn_q := ((hF 6).1.1.2 rfl).rds.1
  have rn_t := ((hF 6).1.1.2 rfl).rds.2
  clear hF
  simp only [Abs.T_push]
  generalize hTa : setRow w0 _ _ = wa
  have ea := (fin_x (b0 _) q1 hTa).1
  replace rn_q := rn_q.exc ea q1 (by decide)
  replace rn_t := rn_t.exc ea q1 (by decide)
  obtain ⟨ba, fa⟩ := fin1 hI hv_q q1 hTa
  have q3 : wa.heap[g_t]? = w0.heap[g_t]? := by rw [← hTa]; exact setRow_other _ hn
  replace q2 := q3.trans q2
  clear q3
  generalize hTb : setRow wa _ _ = w2
  have eb := (fin_x (b0 _) q2 hTb).1
  replace rn_q := rn_q.exc eb q2 (by decide)
  replace rn_t := rn_t.exc eb q2 (by decide)
  obtain ⟨hb2, f_t2⟩ := fin1 ba hv_t q2 hTb
  have q4 : w2.heap[g_q]? = wa.heap[g_q]? := by rw [← hTb]; exact setRow_other _ hn.symm
  have f_q2 := q4.trans fa
  clear q4
  clear hTa hTb ea eb q1 q2 fa ba hI w0
  have f_l2 := kp hb2 (f_l1)
  have hB2 := bB hB1 hb2
  obtain ⟨zl_a, zl_b, ll2⟩ := rcell f_l2
  obtain ⟨zq_a, zq_b, lq2⟩ := rcell f_q2
  obtain ⟨zt_a, zt_b, lt2⟩ := rcell f_t2
  go_wp2_with fail
  refine (c4 _ _ _ rn_q).mono ?_
  rintro e w3 ⟨rfl, hb3⟩
  have f_l3 := kp hb3 (f_l2)
  have f_q3 := kp hb3 (f_q2)
  have f_t3 := kp hb3 (f_t2)
  have rd_q3 := rn_q.below hb3
  have rd_t3 := rn_t.below hb3
  have hB3 := bB hB2 hb3
  clear zl_a zl_b zq_a zq_b zt_a zt_b
  obtain ⟨zl_a, zl_b, ll3⟩ := rcell f_l3
  obtain ⟨zq_a, zq_b, lq3⟩ := rcell f_q3
  obtain ⟨zt_a, zt_b, lt3⟩ := rcell f_t3
  go_wp2_with fail
  refine (c5 _).mono ?_
  rintro e w4 ⟨rfl, hb4⟩
  have f_l4 := kp hb4 (f_l3)
  have f_q4 := kp hb4 (f_q3)
  have f_t4 := kp hb4 (f_t3)
  have rd_q4 := rd_q3.below hb4
  have rd_t4 := rd_t3.below hb4
  have hB4 := bB hB3 hb4
  clear zl_a zl_b zq_a zq_b zt_a zt_b
  obtain ⟨zl_a, zl_b, ll4⟩ := rcell f_l4
  obtain ⟨zq_a, zq_b, lq4⟩ := rcell f_q4
  obtain ⟨zt_a, zt_b, lt4⟩ := rcell f_t4
  go_wp2
  go_ret2
  exact ⟨by simp, hB4⟩

set_option maxRecDepth 100000 in
set_option maxHeartbeats 2000000 in
theorem at_yes (A R N D dt x q r : Int) (c1 : ∀ w, Calls Tryz.prog 82 #[.agg #[.int .i64 A, .int .i64 R, .int .i64 N, .int .i64 D], .int .i64 dt] w (GivesNum x w)) (c2 : ∀ w, Calls Tryz.prog 83 #[.int .i64 D] w (GivesNum D w)) (c3 : ∀ A B c d w, Rd w A c (sz x.natAbs) → Rd w B d (sz D.natAbs) → Calls Tryz.prog 81 #[.agg #[.bool (decide (x < 0)), .slice A (sz x.natAbs).length c], .agg #[.bool (decide (D < 0)), .slice B (sz D.natAbs).length d]] w (GivesNum2 q r w)) (c4 : ∀ A c w, Rd w A c (sz q.natAbs) → Calls Tryz.prog 84 #[.agg #[.bool (decide (q < 0)), .slice A (sz q.natAbs).length c]] w fun e w' => e = .returned (.tuple #[.int .i64 q, .bool true]) ∧ Below w.heap.size w w') (c5 : ∀ w, Calls Tryz.prog 59 #[.int .i64 q] w fun e w' => e = .returned (.bool true) ∧ Below w.heap.size w w') (w : World) :
    Calls Tryz.prog 62 #[.agg #[.int .i64 A, .int .i64 R, .int .i64 N, .int .i64 D], .int .i64 dt] w fun e w' => e = .returned (.tuple #[.int .i64 q, .bool true]) ∧ Below w.heap.size w w' := by
  go_enter Tryz.func62, Tryz.ntmps62
  go_wp2_with fail
  have f_l1 := (na w #[.int .i64 A, .int .i64 R, .int .i64 N, .int .i64 D] 24)
  have hB1 := (bA (b0 w) (.cells #[.int .i64 A, .int .i64 R, .int .i64 N, .int .i64 D] 24))
  have ll1 := (rcell f_l1).2.2
  refine Abs.wp_region_abs (Abs.cls0 _) [0, 1, 2, 3, 4, 5, 6, 7, 8, 9, 10, 11, 12, 13] (by kernel_rfl) (by kernel_rfl) (Below.refl _ _).drew ?_
  repeat (first | (refine Abs.step_pure rfl rfl (fun K hK => ?_); go_simp; (try go_bits); (first | refine hK _ _ ?_ | (simp only [↓IntWalk.iteOmega]; go_simp; (try go_bits); refine hK _ _ ?_)); clear hK K) | (refine Abs.step_load (v := ?_) rfl rfl (by kernel_rfl) rfl (fun w0 hI => ?_) (fun K hK => ?_); rotate_left; (· have z0 := (rcell (kp hI (f_l1))).1; go_simp; rfl); (simp only [Act.put, List.setIfInBounds_toArray, List.set_cons_zero, List.set_cons_succ]; refine hK _ _ ?_; clear hK K)) | (refine Abs.step_skip rfl rfl (fun K hK => ?_); (simp only [Act.put, List.setIfInBounds_toArray, List.set_cons_zero, List.set_cons_succ]; refine hK _ _ ?_; clear hK K)))
  (refine Abs.step_call (f := ?_) (args := ?_) rfl rfl rfl rfl (NumIs (x)) (fun _ => Cl_NumIs _) (fun w0 => ?_) (fun w0 hI hF => ?_) (fun K hK v w0 hv => ?_); rotate_left 2; (· go_simp; (constructor <;> rfl)); (· exact (c1 _).mono (fun _ _ h => h.num)); (obtain ⟨A1, e1, rfl, -⟩ := hv; clear w0; simp only [Act.put, List.setIfInBounds_toArray, List.set_cons_zero, List.set_cons_succ]; refine hK _ _ ?_; clear hK K))
  repeat (first | (refine Abs.step_pure rfl rfl (fun K hK => ?_); go_simp; (try go_bits); (first | refine hK _ _ ?_ | (simp only [↓IntWalk.iteOmega]; go_simp; (try go_bits); refine hK _ _ ?_)); clear hK K) | (refine Abs.step_load (v := ?_) rfl rfl (by kernel_rfl) rfl (fun w0 hI => ?_) (fun K hK => ?_); rotate_left; (· have z0 := (rcell (kp hI (f_l1))).1; go_simp; rfl); (simp only [Act.put, List.setIfInBounds_toArray, List.set_cons_zero, List.set_cons_succ]; refine hK _ _ ?_; clear hK K)) | (refine Abs.step_skip rfl rfl (fun K hK => ?_); (simp only [Act.put, List.setIfInBounds_toArray, List.set_cons_zero, List.set_cons_succ]; refine hK _ _ ?_; clear hK K)))
  (refine Abs.step_call (f := ?_) (args := ?_) rfl rfl rfl rfl (NumIs (D)) (fun _ => Cl_NumIs _) (fun w0 => ?_) (fun w0 hI hF => ?_) (fun K hK v w0 hv => ?_); rotate_left 2; (· go_simp; (constructor <;> rfl)); (· exact (c2 _).mono (fun _ _ h => h.num)); (obtain ⟨A2, e2, rfl, -⟩ := hv; clear w0; simp only [Act.put, List.setIfInBounds_toArray, List.set_cons_zero, List.set_cons_succ]; refine hK _ _ ?_; clear hK K))
  repeat (first | (refine Abs.step_pure rfl rfl (fun K hK => ?_); go_simp; (try go_bits); (first | refine hK _ _ ?_ | (simp only [↓IntWalk.iteOmega]; go_simp; (try go_bits); refine hK _ _ ?_)); clear hK K) | (refine Abs.step_load (v := ?_) rfl rfl (by kernel_rfl) rfl (fun w0 hI => ?_) (fun K hK => ?_); rotate_left; (· have z0 := (rcell (kp hI (f_l1))).1; go_simp; rfl); (simp only [Act.put, List.setIfInBounds_toArray, List.set_cons_zero, List.set_cons_succ]; refine hK _ _ ?_; clear hK K)) | (refine Abs.step_skip rfl rfl (fun K hK => ?_); (simp only [Act.put, List.setIfInBounds_toArray, List.set_cons_zero, List.set_cons_succ]; refine hK _ _ ?_; clear hK K)))
  (refine Abs.step_call (f := ?_) (args := ?_) rfl rfl rfl rfl (Num2Is (q) (r)) (fun _ => Cl_Num2Is _ _) (fun w0 => ?_) (fun w0 hI hF => ?_) (fun K hK v w0 hv => ?_); rotate_left 2; (· go_simp; (constructor <;> rfl)); (· exact (c3 _ _ _ _ _ (((hF 2 (by kernel_rfl)).1).2 rfl).rd ((hF 5 (by kernel_rfl)).2 rfl).rd).mono (fun _ _ h => h.num2)); (obtain ⟨A3, e3, A4, e4, rfl, -, -⟩ := hv; clear w0; simp only [Act.put, List.setIfInBounds_toArray, List.set_cons_zero, List.set_cons_succ]; refine hK _ _ ?_; clear hK K))
  repeat (first | (refine Abs.step_pure rfl rfl (fun K hK => ?_); go_simp; (try go_bits); (first | refine hK _ _ ?_ | (simp only [↓IntWalk.iteOmega]; go_simp; (try go_bits); refine hK _ _ ?_)); clear hK K) | (refine Abs.step_load (v := ?_) rfl rfl (by kernel_rfl) rfl (fun w0 hI => ?_) (fun K hK => ?_); rotate_left; (· have z0 := (rcell (kp hI (f_l1))).1; go_simp; rfl); (simp only [Act.put, List.setIfInBounds_toArray, List.set_cons_zero, List.set_cons_succ]; refine hK _ _ ?_; clear hK K)) | (refine Abs.step_skip rfl rfl (fun K hK => ?_); (simp only [Act.put, List.setIfInBounds_toArray, List.set_cons_zero, List.set_cons_succ]; refine hK _ _ ?_; clear hK K)))
  (refine Abs.step_var (obj := ?_) rfl rfl rfl rfl (fun w0 => ?_) (fun K hK g_q hv_q hu_q => ?_); rotate_left; (· go_simp; rfl); (simp only [Act.put, List.setIfInBounds_toArray, List.set_cons_zero, List.set_cons_succ]; refine hK _ _ ?_; clear hK K))
  repeat (first | (refine Abs.step_pure rfl rfl (fun K hK => ?_); go_simp; (try go_bits); (first | refine hK _ _ ?_ | (simp only [↓IntWalk.iteOmega]; go_simp; (try go_bits); refine hK _ _ ?_)); clear hK K) | (refine Abs.step_load (v := ?_) rfl rfl (by kernel_rfl) rfl (fun w0 hI => ?_) (fun K hK => ?_); rotate_left; (· have z0 := (rcell (kp hI (f_l1))).1; go_simp; rfl); (simp only [Act.put, List.setIfInBounds_toArray, List.set_cons_zero, List.set_cons_succ]; refine hK _ _ ?_; clear hK K)) | (refine Abs.step_skip rfl rfl (fun K hK => ?_); (simp only [Act.put, List.setIfInBounds_toArray, List.set_cons_zero, List.set_cons_succ]; refine hK _ _ ?_; clear hK K)))
  (refine Abs.step_var (obj := ?_) rfl rfl rfl rfl (fun w0 => ?_) (fun K hK g_t hv_t hu_t => ?_); rotate_left; (· go_simp; rfl); (simp only [Act.put, List.setIfInBounds_toArray, List.set_cons_zero, List.set_cons_succ]; refine hK _ _ ?_; clear hK K))
  repeat (first | (refine Abs.step_pure rfl rfl (fun K hK => ?_); go_simp; (try go_bits); (first | refine hK _ _ ?_ | (simp only [↓IntWalk.iteOmega]; go_simp; (try go_bits); refine hK _ _ ?_)); clear hK K) | (refine Abs.step_load (v := ?_) rfl rfl (by kernel_rfl) rfl (fun w0 hI => ?_) (fun K hK => ?_); rotate_left; (· have z0 := (rcell (kp hI (f_l1))).1; go_simp; rfl); (simp only [Act.put, List.setIfInBounds_toArray, List.set_cons_zero, List.set_cons_succ]; refine hK _ _ ?_; clear hK K)) | (refine Abs.step_skip rfl rfl (fun K hK => ?_); (simp only [Act.put, List.setIfInBounds_toArray, List.set_cons_zero, List.set_cons_succ]; refine hK _ _ ?_; clear hK K)))
  (refine Abs.step_store (T := ?_) rfl rfl rfl (fun w0 hI hF hU => ?_) (fun _ _ _ _ => trivial) (fun K hK => ?_); rotate_left; (· have hR := (hF 10).1.2 rfl; have hg0 := (rcell hR).1; have hg1 := (rcell hR).2.1; simp only [Abs.T_setF, Abs.T_addA, Abs.T_push, Abs.T_start]; go_simp; exact row2 hR _ _); (simp only [Act.put, List.setIfInBounds_toArray, List.set_cons_zero, List.set_cons_succ]; refine hK _ _ ?_; clear hK K))
  (refine Abs.step_store (T := ?_) rfl rfl rfl (fun w0 hI hF hU => ?_) (fun _ _ _ _ => trivial) (fun K hK => ?_); rotate_left; (· have hR := fun cs => (setRow_other (w := w0) (g := g_q) cs (fun e => hu_t (Or.inl e))).trans ((hF 11).2 rfl); have hg0 := fun cs => (rcell (hR cs)).1; have hg1 := fun cs => (rcell (hR cs)).2.1; simp only [Abs.T_setF, Abs.T_addA, Abs.T_push, Abs.T_start]; go_simp; exact row2 (hR _) _ _); (simp only [Act.put, List.setIfInBounds_toArray, List.set_cons_zero, List.set_cons_succ]; refine hK _ _ ?_; clear hK K))
  have hs_q := leB hv_q
  try simp only [World.size_alloc] at hs_q
  have hs_t := leB hv_t
  try simp only [World.size_alloc] at hs_t
  have hn : g_t ≠ g_q := fun e => hu_t (Or.inl e)
  intro w0 hI hF hx1 hx2
  clear hx1 hx2
  have q1 := (hF 10).1.2 rfl
  have q2 := (hF 11).2 rfl
  have rn_q := ((hF 6).1.1.2 rfl).rds.1
  have rn_t := ((hF 6).1.1.2 rfl).rds.2
  clear hF
  simp only [Abs.T_push]
  generalize hTa : setRow w0 _ _ = wa
  have ea := (fin_x (b0 _) q1 hTa).1
  replace rn_q := rn_q.exc ea q1 (by decide)
  replace rn_t := rn_t.exc ea q1 (by decide)
  obtain ⟨ba, fa⟩ := fin1 hI hv_q q1 hTa
  have q3 : wa.heap[g_t]? = w0.heap[g_t]? := by rw [← hTa]; exact setRow_other _ hn
  replace q2 := q3.trans q2
  clear q3
  generalize hTb : setRow wa _ _ = w2
  have eb := (fin_x (b0 _) q2 hTb).1
  replace rn_q := rn_q.exc eb q2 (by decide)
  replace rn_t := rn_t.exc eb q2 (by decide)
  obtain ⟨hb2, f_t2⟩ := fin1 ba hv_t q2 hTb
  have q4 : w2.heap[g_q]? = wa.heap[g_q]? := by rw [← hTb]; exact setRow_other _ hn.symm
  have f_q2 := q4.trans fa
  clear q4
  clear hTa hTb ea eb q1 q2 fa ba hI w0
  have f_l2 := kp hb2 (f_l1)
  have hB2 := bB hB1 hb2
  obtain ⟨zl_a, zl_b, ll2⟩ := rcell f_l2
  obtain ⟨zq_a, zq_b, lq2⟩ := rcell f_q2
  obtain ⟨zt_a, zt_b, lt2⟩ := rcell f_t2
  go_wp2_with fail
  refine (c4 _ _ _ rn_q).mono ?_
  rintro e w3 ⟨rfl, hb3⟩
  have f_l3 := kp hb3 (f_l2)
  have f_q3 := kp hb3 (f_q2)
  have f_t3 := kp hb3 (f_t2)
  have rd_q3 := rn_q.below hb3
  have rd_t3 := rn_t.below hb3
  have hB3 := bB hB2 hb3
  clear zl_a zl_b zq_a zq_b zt_a zt_b
  obtain ⟨zl_a, zl_b, ll3⟩ := rcell f_l3
  obtain ⟨zq_a, zq_b, lq3⟩ := rcell f_q3
  obtain ⟨zt_a, zt_b, lt3⟩ := rcell f_t3
  go_wp2_with fail
  refine (c5 _).mono ?_
  rintro e w4 ⟨rfl, hb4⟩
  have f_l4 := kp hb4 (f_l3)
  have f_q4 := kp hb4 (f_q3)
  have f_t4 := kp hb4 (f_t3)
  have rd_q4 := rd_q3.below hb4
  have rd_t4 := rd_t3.below hb4
  have hB4 := bB hB3 hb4
  clear zl_a zl_b zq_a zq_b zt_a zt_b
  obtain ⟨zl_a, zl_b, ll4⟩ := rcell f_l4
  obtain ⟨zq_a, zq_b, lq4⟩ := rcell f_q4
  obtain ⟨zt_a, zt_b, lt4⟩ := rcell f_t4
  go_wp2
  go_ret2
  exact ⟨by simp, hB4⟩

theorem ref_At (A R N D dt : Int) (h : isB A R N D = true) (ht : tmB dt = true) (w : World) :
    Calls Tryz.prog 62 #[.agg #[.int .i64 A, .int .i64 R, .int .i64 N, .int .i64 D], .int .i64 dt] w fun e w' => e = .returned (.tuple #[.int .i64 (if bkB (lnQ A R N D dt) = true then lnQ A R N D dt else 0), .bool (bkB (lnQ A R N D dt))]) ∧ Below w.heap.size w w' := by
  obtain ⟨⟨a1, a2⟩, ⟨d1, d2, n1, n2⟩, _, r1, r2⟩ := isB_spec h
  have ht2 : 0 ≤ dt ∧ dt ≤ 281474976710656 := of_decide_eq_true ht
  have c1 := ref_Times A R N D dt (by omega) (by omega) (by omega) (by omega) (by omega) (by omega) (by omega) (by omega) (by omega) (by omega)
  have bx := times_bd A R N D dt (by omega) (by omega) (by omega) (by omega) (by omega) (by omega) (by omega) (by omega) (by omega) (by omega)
  have c2 := ref_Int D (by omega) (by omega)
  have hq : (N * dt + R + A * D) / D = lnQ A R N D dt := by
    unfold lnQ
    exact Int.add_mul_ediv_right _ _ (show D ≠ 0 by omega)
  generalize N * dt + R + A * D = x at *
  have lx : (sz x.natAbs).length ≤ 800 := Nat.le_trans (sz_len_lt bx) (by decide)
  have lD : (sz D.natAbs).length ≤ 800 := Nat.le_trans (sz_i64 (by omega) (by omega)) (by decide)
  have c3 := fun A B c d w ha hb => ref_Div x D A B c d (by omega) lx lD w ha hb
  rw [hq] at c3
  have lq := lnQ_rng h ht
  generalize lnQ A R N D dt = q at *
  have lq2 : (sz q.natAbs).length ≤ 900 := Nat.le_trans (sz_len_lt (k := 128) (by obtain ⟨x1, x2⟩ := lq; omega)) (by decide)
  by_cases h1 : -9223372036854775808 ≤ q ∧ q < 9223372036854775808
  · have c4 := fun A c w ha => ref_Value_yes q A c h1.1 h1.2 w ha
    have c5 := ref_Back q
    cases h2 : bkB q
    · rw [h2] at c5
      exact at_far A R N D dt x q _ c1 c2 c3 c4 c5 w
    · rw [h2] at c5
      exact at_yes A R N D dt x q _ c1 c2 c3 c4 c5 w
  · have h2 : bkB q = false := decide_eq_false (by omega)
    rw [h2]
    exact at_big A R N D dt x q _ c1 c2 c3 (fun A c w ha => ref_Value_no q A c lq2 h1 w ha) w

end Go.Proofs.YtmpfbkeamihjbaaGreat
