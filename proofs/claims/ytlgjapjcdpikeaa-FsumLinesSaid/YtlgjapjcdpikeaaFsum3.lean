/- The package fsum at this program, on: (*row).steps. -/
import Derived.Test.YtlgjapjcdpikeaaFsum2
set_option linter.unusedSimpArgs false
set_option linter.unusedVariables false
namespace Go.Proofs.Ytlgjapjcdpikeaa
open Go.RowKit

theorem prs_bd (n : Int) (n0 : 0 ≤ n) (n1 : n ≤ 256) : 0 ≤ prs n ∧ prs n ≤ 32640 := by
  have h1 : 0 ≤ n * (n - 1) := by
    by_cases hz : n = 0
    · subst hz; simp
    · exact Int.mul_nonneg n0 (by omega)
  have h2 : n * (n - 1) ≤ 256 * 255 := by
    by_cases hz : n = 0
    · subst hz; simp
    · exact Int.mul_le_mul n1 (by omega) (by omega) (by omega)
  unfold prs
  omega
theorem div_bd (a m T : Int) (h1 : -T ≤ a) (h2 : a ≤ T) (hm : 1 ≤ m) : -T ≤ a / m ∧ a / m ≤ T := by
  have hT : 0 ≤ T := by omega
  constructor
  · refine (Int.le_ediv_iff_mul_le (by omega)).2 ?_
    have : -T * m ≤ -T * 1 := Int.mul_le_mul_of_nonpos_left (by omega) hm
    omega
  · have h3 : a / m < T + 1 := by
      refine (Int.ediv_lt_iff_lt_mul (by omega)).2 ?_
      have : (T + 1) * 1 ≤ (T + 1) * m := Int.mul_le_mul_of_nonneg_left hm (by omega)
      omega
    omega
theorem mul_bd (a b A B : Int) (h1 : -A ≤ a) (h2 : a ≤ A) (h3 : 0 ≤ b) (h4 : b ≤ B) : -(A * B) ≤ a * b ∧ a * b ≤ A * B := by
  have k1 : a * b ≤ A * b := Int.mul_le_mul_of_nonneg_right h2 h3
  have k2 : -A * b ≤ a * b := Int.mul_le_mul_of_nonneg_right h1 h3
  have k3 : A * b ≤ A * B := Int.mul_le_mul_of_nonneg_left h4 (by omega)
  rw [Int.neg_mul] at k2
  omega

/-- a row that may be asked for -/
structure RowOk (n a b m : Int) : Prop where
  n0 : 0 ≤ n
  n1 : n ≤ 256
  a0 : -2596148429267413814265248164610048 ≤ a
  a1 : a ≤ 2596148429267413814265248164610048
  b0 : -2596148429267413814265248164610048 ≤ b
  b1 : b ≤ 2596148429267413814265248164610048
  m1 : 1 ≤ m
  m2 : m ≤ 281474976710656

theorem steps_math {n a b m : Int} (h : RowOk n a b m) : (Rng a ∧ Rng b) ∧ (Rng (a / m) ∧ Rng (b / m)) ∧ (0 ≤ prs n ∧ prs n ≤ 32640) ∧ (Rng (a / m * prs n) ∧ Rng (0 + a / m * prs n)) ∧ (Rng (b / m * n) ∧ Rng (0 + a / m * prs n + b / m * n)) ∧
    (0 ≤ a % m ∧ a % m < m) ∧ (0 ≤ b % m ∧ b % m < m) ∧ (0 ≤ fl n.toNat (a % m) (b % m) m ∧ fl n.toNat (a % m) (b % m) m ≤ 1099511627776) ∧
    Rng (0 + a / m * prs n + b / m * n + fl n.toNat (a % m) (b % m) m * 1) ∧ 0 + a / m * prs n + b / m * n + fl n.toNat (a % m) (b % m) m * 1 = fl n.toNat a b m := by
  obtain ⟨n0, n1, a0, a1, b0, b1, m1, m2⟩ := h
  have hn : ((n.toNat : Nat) : Int) = n := Int.toNat_of_nonneg n0
  have p := prs_bd n n0 n1
  have da := div_bd a m _ a0 a1 m1
  have db := div_bd b m _ b0 b1 m1
  have ka := mul_bd (a / m) (prs n) _ _ da.1 da.2 p.1 p.2
  have kb := mul_bd (b / m) n _ _ db.1 db.2 n0 n1
  have x1 : 0 ≤ a % m := Int.emod_nonneg _ (by omega)
  have x2 : a % m < m := Int.emod_lt_of_pos _ (by omega)
  have y1 : 0 ≤ b % m := Int.emod_nonneg _ (by omega)
  have y2 : b % m < m := Int.emod_lt_of_pos _ (by omega)
  have f0 := fl_nn n.toNat (a % m) (b % m) m (by omega) x1 y1
  have f1 := fl_top n.toNat (a % m) (b % m) m (by omega) x1 x2 y2
  have e := fl_mod n.toNat a b m (by omega)
  rw [hn] at e f1
  refine ⟨⟨⟨by omega, by omega⟩, ⟨by omega, by omega⟩⟩, ⟨⟨by omega, by omega⟩, ⟨by omega, by omega⟩⟩, p, ⟨⟨by omega, by omega⟩, ⟨by omega, by omega⟩⟩, ⟨⟨by omega, by omega⟩, ⟨by omega, by omega⟩⟩, ⟨x1, x2⟩, ⟨y1, y2⟩, ⟨f0, by omega⟩, ⟨by omega, by omega⟩, by omega⟩

set_option maxRecDepth 100000 in
set_option maxHeartbeats 4000000 in
theorem fsum_steps (g : Nat) (n a b m : Int) (h : RowOk n a b m) (w : World)
    (hg : w.heap[g]? = some (.cells #[.int .i64 (hi 0), .int .u64 (lo 0), .int .i64 n, .int .i64 (hi a), .int .u64 (lo a), .int .i64 (hi b), .int .u64 (lo b), .int .i64 m] 116 (0, 0))) :
    Calls Try.prog 104 #[.pointer (some ⟨g, 0, none⟩)] w fun e w' => e = .returned (.tuple #[]) ∧ Exc g w w' ∧ w'.heap[g]? = some (.cells #[.int .i64 (hi (fl n.toNat a b m)), .int .u64 (lo (fl n.toNat a b m)), .int .i64 n, .int .i64 (hi a), .int .u64 (lo a), .int .i64 (hi b), .int .u64 (lo b), .int .i64 m] 116 (0, 0)) := by
  obtain ⟨⟨ra, rb⟩, ⟨rqa, rqb⟩, ⟨p0, p1⟩, ⟨r1, r2⟩, ⟨r3, r4⟩, ⟨x1, x2⟩, ⟨y1, y2⟩, ⟨f0, f1⟩, r5, he⟩ := steps_math h
  obtain ⟨n0, n1, a0, a1, b0', b1, m1, m2⟩ := h
  have d1 := wide_Div a m ra m1 (by omega)
  have d2 := wide_Div b m rb m1 (by omega)
  have c1 := fsum_pairs n n0 n1
  have c2 := fsum_small n (a % m) (b % m) m _ n0 n1 x1 (by omega) y1 (by omega) m1 m2 rfl f1
  have c3 := wide_Of (fl n.toNat (a % m) (b % m) m) (by omega) (by omega)
  have k1 := fsum_add8 g 0 (a / m) (prs n) (.int .i64 n) (.int .i64 (hi a)) (.int .u64 (lo a)) (.int .i64 (hi b)) (.int .u64 (lo b)) (.int .i64 m) ⟨by decide, by decide⟩ rqa (by omega) (by omega) r1 r2
  have k2 := fsum_add8 g _ (b / m) n (.int .i64 n) (.int .i64 (hi a)) (.int .u64 (lo a)) (.int .i64 (hi b)) (.int .u64 (lo b)) (.int .i64 m) r2 rqb (by omega) (by omega) r3 r4
  have k3 := fsum_add8 g _ (fl n.toNat (a % m) (b % m) m) 1 (.int .i64 n) (.int .i64 (hi a)) (.int .u64 (lo a)) (.int .i64 (hi b)) (.int .u64 (lo b)) (.int .i64 m) r4 ⟨by omega, by omega⟩ (by decide) (by decide) ⟨by omega, by omega⟩ r5
  rw [he] at k3
  have hmf : ∀ (fn : Fn) (first cap : Array Value) (w : World), (Instr.makeFunc fn first cap).run Try.prog w = .ok (.func fn first cap) w := fun _ _ _ _ => rfl
  generalize fl n.toNat a b m = F at *
  generalize fl n.toNat (a % m) (b % m) m = S at *
  generalize 0 + a / m * prs n + b / m * n = s2 at *
  generalize 0 + a / m * prs n = s1 at *
  generalize prs n = pn at *
  generalize a / m = qa at *
  generalize b / m = qb at *
  generalize a % m = xa at *
  generalize b % m = xb at *
  clear ra rb rqa rqb r1 r2 r3 r4 r5 he
  have l_g := (rcell hg).2.2
  obtain ⟨zg_a, zg_b, -⟩ := rcell hg
  go_enter Try.func104, Try.ntmps104
  go_wp2_with fail
  refine Abs.wp_region_abs (Abs.cls0 _) [0, 1, 2, 3, 4, 5, 6, 7, 8, 9, 10, 11, 12, 13, 14, 15, 16] (by kernel_rfl) (by kernel_rfl) (Below.refl _ _).drew ?_
  repeat (first | (refine Abs.step_pure rfl rfl (fun K hK => ?_); go_simp; (try go_bits); (first | refine hK _ _ ?_ | (simp only [↓IntWalk.iteOmega]; go_simp; (try go_bits); refine hK _ _ ?_)); clear hK K) | (refine Abs.step_load (v := ?_) rfl rfl (by kernel_rfl) rfl (fun w0 hI => ?_) (fun K hK => ?_); rotate_left; (· have z0 := (rcell (kp hI (hg))).1; go_simp; rfl); (simp only [Act.put, List.setIfInBounds_toArray, List.set_cons_zero, List.set_cons_succ]; refine hK _ _ ?_; clear hK K)) | (refine Abs.step_skip rfl rfl (fun K hK => ?_); (simp only [Act.put, List.setIfInBounds_toArray, List.set_cons_zero, List.set_cons_succ]; refine hK _ _ ?_; clear hK K)))
  (refine Abs.step_call_val (f := ?_) (args := ?_) (v := ?_) rfl rfl rfl rfl (fun w0 => ?_) (fun w0 hI => ?_) (fun K hK => ?_); rotate_left 3; (· go_simp; (constructor <;> rfl)); (· exact d1 _); (simp only [Act.put, List.setIfInBounds_toArray, List.set_cons_zero, List.set_cons_succ]; refine hK _ _ ?_; clear hK K))
  repeat (first | (refine Abs.step_pure rfl rfl (fun K hK => ?_); go_simp; (try go_bits); (first | refine hK _ _ ?_ | (simp only [↓IntWalk.iteOmega]; go_simp; (try go_bits); refine hK _ _ ?_)); clear hK K) | (refine Abs.step_load (v := ?_) rfl rfl (by kernel_rfl) rfl (fun w0 hI => ?_) (fun K hK => ?_); rotate_left; (· have z0 := (rcell (kp hI (hg))).1; go_simp; rfl); (simp only [Act.put, List.setIfInBounds_toArray, List.set_cons_zero, List.set_cons_succ]; refine hK _ _ ?_; clear hK K)) | (refine Abs.step_skip rfl rfl (fun K hK => ?_); (simp only [Act.put, List.setIfInBounds_toArray, List.set_cons_zero, List.set_cons_succ]; refine hK _ _ ?_; clear hK K)))
  (refine Abs.step_var (obj := ?_) rfl rfl rfl rfl (fun w0 => ?_) (fun K hK g_q hv_q hu_q => ?_); rotate_left; (· go_simp; rfl); (simp only [Act.put, List.setIfInBounds_toArray, List.set_cons_zero, List.set_cons_succ]; refine hK _ _ ?_; clear hK K))
  (refine Abs.step_store (T := ?_) rfl rfl rfl (fun w0 hI hF hU => ?_) (fun _ _ _ _ => trivial) (fun K hK => ?_); rotate_left; (· simp only [Abs.F_setF, Abs.F_addA, Abs.F_push, Abs.F_start, true_and] at hF; have hg0 := (rcell hF).1; have hg1 := (rcell hF).2.1; simp only [Abs.T_setF, Abs.T_addA, Abs.T_push, Abs.T_start]; go_simp; exact row2 hF _ _); (simp only [Act.put, List.setIfInBounds_toArray, List.set_cons_zero, List.set_cons_succ]; refine hK _ _ ?_; clear hK K))
  repeat (first | (refine Abs.step_pure rfl rfl (fun K hK => ?_); go_simp; (try go_bits); (first | refine hK _ _ ?_ | (simp only [↓IntWalk.iteOmega]; go_simp; (try go_bits); refine hK _ _ ?_)); clear hK K) | (refine Abs.step_load (v := ?_) rfl rfl (by kernel_rfl) rfl (fun w0 hI => ?_) (fun K hK => ?_); rotate_left; (· have z0 := (rcell (kp hI (hg))).1; go_simp; rfl); (simp only [Act.put, List.setIfInBounds_toArray, List.set_cons_zero, List.set_cons_succ]; refine hK _ _ ?_; clear hK K)) | (refine Abs.step_skip rfl rfl (fun K hK => ?_); (simp only [Act.put, List.setIfInBounds_toArray, List.set_cons_zero, List.set_cons_succ]; refine hK _ _ ?_; clear hK K)))
  have hs_q := leB hv_q
  try simp only [World.size_alloc] at hs_q
  intro w0 hI hF hx1 hx2
  clear hx1 hx2
  simp only [Abs.F_setF, Abs.F_addA, Abs.F_push, Abs.F_start, true_and, Abs.T_push] at hF ⊢
  generalize hT2 : setRow w0 _ _ = w2
  obtain ⟨hb2, f_q2⟩ := fin1 hI hv_q hF hT2
  clear hT2 hI hF w0
  have f_g2 := kp hb2 (hg)
  have hB2 := xB (x0 g w (Nat.le_of_lt (rcell hg).2.2)) hb2
  clear zg_a zg_b
  obtain ⟨zg_a, zg_b, lg2⟩ := rcell f_g2
  obtain ⟨zq_a, zq_b, lq2⟩ := rcell f_q2
  go_wp2_with fail
  refine Abs.wp_region_tail (Abs.cls0 _) [0, 1, 2, 3, 4, 5, 6] 7 (by kernel_rfl) (by kernel_rfl) (Below.refl _ _).drew ?_
  repeat (first | (refine Abs.step_pure rfl rfl (fun K hK => ?_); go_simp; (try go_bits); (first | refine hK _ _ ?_ | (simp only [↓IntWalk.iteOmega]; go_simp; (try go_bits); refine hK _ _ ?_)); clear hK K) | (refine Abs.step_load (v := ?_) rfl rfl (by kernel_rfl) rfl (fun w0 hI => ?_) (fun K hK => ?_); rotate_left; (· have z0 := (rcell (kp hI (f_g2))).1; have z1 := (rcell (kp hI (f_q2))).1; go_simp; rfl); (simp only [Act.put, List.setIfInBounds_toArray, List.set_cons_zero, List.set_cons_succ]; refine hK _ _ ?_; clear hK K)) | (refine Abs.step_skip rfl rfl (fun K hK => ?_); (simp only [Act.put, List.setIfInBounds_toArray, List.set_cons_zero, List.set_cons_succ]; refine hK _ _ ?_; clear hK K)))
  (refine Abs.step_call_val (f := ?_) (args := ?_) (v := ?_) rfl rfl rfl rfl (fun w0 => ?_) (fun w0 hI => ?_) (fun K hK => ?_); rotate_left 3; (· go_simp; (constructor <;> rfl)); (· exact c1 _); (simp only [Act.put, List.setIfInBounds_toArray, List.set_cons_zero, List.set_cons_succ]; refine hK _ _ ?_; clear hK K))
  repeat (first | (refine Abs.step_pure rfl rfl (fun K hK => ?_); go_simp; (try go_bits); (first | refine hK _ _ ?_ | (simp only [↓IntWalk.iteOmega]; go_simp; (try go_bits); refine hK _ _ ?_)); clear hK K) | (refine Abs.step_load (v := ?_) rfl rfl (by kernel_rfl) rfl (fun w0 hI => ?_) (fun K hK => ?_); rotate_left; (· have z0 := (rcell (kp hI (f_g2))).1; have z1 := (rcell (kp hI (f_q2))).1; go_simp; rfl); (simp only [Act.put, List.setIfInBounds_toArray, List.set_cons_zero, List.set_cons_succ]; refine hK _ _ ?_; clear hK K)) | (refine Abs.step_skip rfl rfl (fun K hK => ?_); (simp only [Act.put, List.setIfInBounds_toArray, List.set_cons_zero, List.set_cons_succ]; refine hK _ _ ?_; clear hK K)))
  intro w4 hb4 hx0 hx1 hx2
  clear hx0 hx1 hx2
  simp only [Abs.T_setF, Abs.T_addA, Abs.T_push, Abs.T_start]
  have f_g4 := kp hb4 (f_g2)
  have f_q4 := kp hb4 (f_q2)
  have hB4 := xB hB2 hb4
  clear zg_a zg_b zq_a zq_b
  obtain ⟨zg_a, zg_b, lg4⟩ := rcell f_g4
  obtain ⟨zq_a, zq_b, lq4⟩ := rcell f_q4
  simp only [List.drop_succ_cons, List.drop_zero]
  go_wp2_with fail
  refine (k1 _ (f_g4)).mono ?_
  rintro e w5 ⟨rfl, hx5, f_g5⟩
  have f_q5 := kx hx5 (f_q4) (by omega)
  have hB5 := xX hB4 hx5 (by omega)
  clear zg_a zg_b zq_a zq_b
  obtain ⟨zq_a, zq_b, lq5⟩ := rcell f_q5
  obtain ⟨zg_a, zg_b, lg5⟩ := rcell f_g5
  go_wp2_with fail
  refine Abs.wp_region_abs (Abs.cls0 _) [0, 1, 2, 3, 4, 5, 6, 7, 8, 9, 10, 11, 12, 13, 14, 15] (by kernel_rfl) (by kernel_rfl) (Below.refl _ _).drew ?_
  repeat (first | (refine Abs.step_pure rfl rfl (fun K hK => ?_); go_simp; (try go_bits); (first | refine hK _ _ ?_ | (simp only [↓IntWalk.iteOmega]; go_simp; (try go_bits); refine hK _ _ ?_)); clear hK K) | (refine Abs.step_load (v := ?_) rfl rfl (by kernel_rfl) rfl (fun w0 hI => ?_) (fun K hK => ?_); rotate_left; (· have z0 := (rcell (kp hI (f_g5))).1; have z1 := (rcell (kp hI (f_q5))).1; go_simp; rfl); (simp only [Act.put, List.setIfInBounds_toArray, List.set_cons_zero, List.set_cons_succ]; refine hK _ _ ?_; clear hK K)) | (refine Abs.step_skip rfl rfl (fun K hK => ?_); (simp only [Act.put, List.setIfInBounds_toArray, List.set_cons_zero, List.set_cons_succ]; refine hK _ _ ?_; clear hK K)))
  (refine Abs.step_call_val (f := ?_) (args := ?_) (v := ?_) rfl rfl rfl rfl (fun w0 => ?_) (fun w0 hI => ?_) (fun K hK => ?_); rotate_left 3; (· go_simp; (constructor <;> rfl)); (· exact d2 _); (simp only [Act.put, List.setIfInBounds_toArray, List.set_cons_zero, List.set_cons_succ]; refine hK _ _ ?_; clear hK K))
  repeat (first | (refine Abs.step_pure rfl rfl (fun K hK => ?_); go_simp; (try go_bits); (first | refine hK _ _ ?_ | (simp only [↓IntWalk.iteOmega]; go_simp; (try go_bits); refine hK _ _ ?_)); clear hK K) | (refine Abs.step_load (v := ?_) rfl rfl (by kernel_rfl) rfl (fun w0 hI => ?_) (fun K hK => ?_); rotate_left; (· have z0 := (rcell (kp hI (f_g5))).1; have z1 := (rcell (kp hI (f_q5))).1; go_simp; rfl); (simp only [Act.put, List.setIfInBounds_toArray, List.set_cons_zero, List.set_cons_succ]; refine hK _ _ ?_; clear hK K)) | (refine Abs.step_skip rfl rfl (fun K hK => ?_); (simp only [Act.put, List.setIfInBounds_toArray, List.set_cons_zero, List.set_cons_succ]; refine hK _ _ ?_; clear hK K)))
  (refine Abs.step_store (T := ?_) rfl rfl rfl (fun w0 hI hF hU => ?_) (fun w0 hI hU hJ => ?_) (fun K hK => ?_); rotate_left; (· have hR := kp hI (f_q5); have hg0 := (rcell hR).1; have hg1 := (rcell hR).2.1; simp only [Abs.T_setF, Abs.T_addA, Abs.T_push, Abs.T_start]; go_simp; exact row2 hR _ _); (· first | exact trivial | exact js hJ rfl _); (simp only [Act.put, List.setIfInBounds_toArray, List.set_cons_zero, List.set_cons_succ]; refine hK _ _ ?_; clear hK K))
  repeat (first | (refine Abs.step_pure rfl rfl (fun K hK => ?_); go_simp; (try go_bits); (first | refine hK _ _ ?_ | (simp only [↓IntWalk.iteOmega]; go_simp; (try go_bits); refine hK _ _ ?_)); clear hK K) | (refine Abs.step_load (v := ?_) rfl rfl (by kernel_rfl) rfl (fun w0 hI => ?_) (fun K hK => ?_); rotate_left; (· have z0 := (rcell (kp hI (f_g5))).1; have z1 := (rcell (kp hI (f_q5))).1; go_simp; rfl); (simp only [Act.put, List.setIfInBounds_toArray, List.set_cons_zero, List.set_cons_succ]; refine hK _ _ ?_; clear hK K)) | (refine Abs.step_skip rfl rfl (fun K hK => ?_); (simp only [Act.put, List.setIfInBounds_toArray, List.set_cons_zero, List.set_cons_succ]; refine hK _ _ ?_; clear hK K)))
  intro w0 hI hF hx1 hx2
  clear hx1 hx2 hF
  simp only [Abs.T_push]
  generalize hT7 : setRow w0 _ _ = w7
  obtain ⟨hx7, f_q7⟩ := fin_x hI (f_q5) hT7
  clear hT7 hI w0
  have f_g7 := kx hx7 (f_g5) (by omega)
  have hB7 := xX hB5 hx7 (by omega)
  clear zg_a zg_b zq_a zq_b
  obtain ⟨zg_a, zg_b, lg7⟩ := rcell f_g7
  obtain ⟨zq_a, zq_b, lq7⟩ := rcell f_q7
  go_wp2_with fail
  refine Abs.wp_region_tail (Abs.cls0 _) [0, 1, 2, 3, 4, 5] 6 (by kernel_rfl) (by kernel_rfl) (Below.refl _ _).drew ?_
  repeat (first | (refine Abs.step_pure rfl rfl (fun K hK => ?_); go_simp; (try go_bits); (first | refine hK _ _ ?_ | (simp only [↓IntWalk.iteOmega]; go_simp; (try go_bits); refine hK _ _ ?_)); clear hK K) | (refine Abs.step_load (v := ?_) rfl rfl (by kernel_rfl) rfl (fun w0 hI => ?_) (fun K hK => ?_); rotate_left; (· have z0 := (rcell (kp hI (f_g7))).1; have z1 := (rcell (kp hI (f_q7))).1; go_simp; rfl); (simp only [Act.put, List.setIfInBounds_toArray, List.set_cons_zero, List.set_cons_succ]; refine hK _ _ ?_; clear hK K)) | (refine Abs.step_skip rfl rfl (fun K hK => ?_); (simp only [Act.put, List.setIfInBounds_toArray, List.set_cons_zero, List.set_cons_succ]; refine hK _ _ ?_; clear hK K)))
  intro w9 hb9 hx0 hx1 hx2
  clear hx0 hx1 hx2
  simp only [Abs.T_setF, Abs.T_addA, Abs.T_push, Abs.T_start]
  have f_g9 := kp hb9 (f_g7)
  have f_q9 := kp hb9 (f_q7)
  have hB9 := xB hB7 hb9
  clear zg_a zg_b zq_a zq_b
  obtain ⟨zg_a, zg_b, lg9⟩ := rcell f_g9
  obtain ⟨zq_a, zq_b, lq9⟩ := rcell f_q9
  simp only [List.drop_succ_cons, List.drop_zero]
  go_wp2_with fail
  refine (k2 _ (f_g9)).mono ?_
  rintro e w10 ⟨rfl, hx10, f_g10⟩
  have f_q10 := kx hx10 (f_q9) (by omega)
  have hB10 := xX hB9 hx10 (by omega)
  clear zg_a zg_b zq_a zq_b
  obtain ⟨zq_a, zq_b, lq10⟩ := rcell f_q10
  obtain ⟨zg_a, zg_b, lg10⟩ := rcell f_g10
  go_wp2_with fail
  refine Abs.wp_region_tail (Abs.cls0 _) [0, 1, 2, 3, 4, 5, 6, 7, 8, 9, 10, 11, 12] 13 (by kernel_rfl) (by kernel_rfl) (Below.refl _ _).drew ?_
  repeat (first | (refine Abs.step_pure rfl rfl (fun K hK => ?_); go_simp; (try go_bits); (first | refine hK _ _ ?_ | (simp only [↓IntWalk.iteOmega]; go_simp; (try go_bits); refine hK _ _ ?_)); clear hK K) | (refine Abs.step_load (v := ?_) rfl rfl (by kernel_rfl) rfl (fun w0 hI => ?_) (fun K hK => ?_); rotate_left; (· have z0 := (rcell (kp hI (f_g10))).1; go_simp; rfl); (simp only [Act.put, List.setIfInBounds_toArray, List.set_cons_zero, List.set_cons_succ]; refine hK _ _ ?_; clear hK K)) | (refine Abs.step_skip rfl rfl (fun K hK => ?_); (simp only [Act.put, List.setIfInBounds_toArray, List.set_cons_zero, List.set_cons_succ]; refine hK _ _ ?_; clear hK K)))
  (refine Abs.step_call_val (f := ?_) (args := ?_) (v := ?_) rfl rfl rfl rfl (fun w0 => ?_) (fun w0 hI => ?_) (fun K hK => ?_); rotate_left 3; (· go_simp; (constructor <;> rfl)); (· exact c2 _); (simp only [Act.put, List.setIfInBounds_toArray, List.set_cons_zero, List.set_cons_succ]; refine hK _ _ ?_; clear hK K))
  repeat (first | (refine Abs.step_pure rfl rfl (fun K hK => ?_); go_simp; (try go_bits); (first | refine hK _ _ ?_ | (simp only [↓IntWalk.iteOmega]; go_simp; (try go_bits); refine hK _ _ ?_)); clear hK K) | (refine Abs.step_load (v := ?_) rfl rfl (by kernel_rfl) rfl (fun w0 hI => ?_) (fun K hK => ?_); rotate_left; (· have z0 := (rcell (kp hI (f_g10))).1; go_simp; rfl); (simp only [Act.put, List.setIfInBounds_toArray, List.set_cons_zero, List.set_cons_succ]; refine hK _ _ ?_; clear hK K)) | (refine Abs.step_skip rfl rfl (fun K hK => ?_); (simp only [Act.put, List.setIfInBounds_toArray, List.set_cons_zero, List.set_cons_succ]; refine hK _ _ ?_; clear hK K)))
  (refine Abs.step_call_val (f := ?_) (args := ?_) (v := ?_) rfl rfl rfl rfl (fun w0 => ?_) (fun w0 hI => ?_) (fun K hK => ?_); rotate_left 3; (· go_simp; (constructor <;> rfl)); (· exact c3 _); (simp only [Act.put, List.setIfInBounds_toArray, List.set_cons_zero, List.set_cons_succ]; refine hK _ _ ?_; clear hK K))
  repeat (first | (refine Abs.step_pure rfl rfl (fun K hK => ?_); go_simp; (try go_bits); (first | refine hK _ _ ?_ | (simp only [↓IntWalk.iteOmega]; go_simp; (try go_bits); refine hK _ _ ?_)); clear hK K) | (refine Abs.step_load (v := ?_) rfl rfl (by kernel_rfl) rfl (fun w0 hI => ?_) (fun K hK => ?_); rotate_left; (· have z0 := (rcell (kp hI (f_g10))).1; go_simp; rfl); (simp only [Act.put, List.setIfInBounds_toArray, List.set_cons_zero, List.set_cons_succ]; refine hK _ _ ?_; clear hK K)) | (refine Abs.step_skip rfl rfl (fun K hK => ?_); (simp only [Act.put, List.setIfInBounds_toArray, List.set_cons_zero, List.set_cons_succ]; refine hK _ _ ?_; clear hK K)))
  intro w12 hb12 hx0 hx1 hx2
  clear hx0 hx1 hx2
  simp only [Abs.T_setF, Abs.T_addA, Abs.T_push, Abs.T_start]
  have f_q12 := kp hb12 (f_q10)
  have f_g12 := kp hb12 (f_g10)
  have hB12 := xB hB10 hb12
  clear zg_a zg_b zq_a zq_b
  obtain ⟨zq_a, zq_b, lq12⟩ := rcell f_q12
  obtain ⟨zg_a, zg_b, lg12⟩ := rcell f_g12
  simp only [List.drop_succ_cons, List.drop_zero]
  go_wp2_with fail
  refine (k3 _ (f_g12)).mono ?_
  rintro e w13 ⟨rfl, hx13, f_g13⟩
  have f_q13 := kx hx13 (f_q12) (by omega)
  have hB13 := xX hB12 hx13 (by omega)
  clear zg_a zg_b zq_a zq_b
  obtain ⟨zq_a, zq_b, lq13⟩ := rcell f_q13
  obtain ⟨zg_a, zg_b, lg13⟩ := rcell f_g13
  go_wp2
  refine bodyPost_end (by simp [results, Try.results104, go_sem]; try rfl) rfl ⟨rfl, hB13, (f_g13)⟩
end Go.Proofs.Ytlgjapjcdpikeaa
