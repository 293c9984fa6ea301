/- The package fsum at this program, on: what is done behind tells; Sum, Rests, Line where they tell. -/
import Derived.Test.YtlgjapjcdpikeaaFsum4
set_option linter.unusedSimpArgs false
set_option linter.unusedVariables false
namespace Go.Proofs.Ytlgjapjcdpikeaa
open Go.RowKit

theorem sum_fn (n a b m : Int) (k : Nat) (w : World) (hk : w.heap[k]? = some (.cells #[.int .i64 (hi (fl n.toNat a b m)), .int .u64 (lo (fl n.toNat a b m)), .int .i64 n, .int .i64 (hi a), .int .u64 (lo a), .int .i64 (hi b), .int .u64 (lo b), .int .i64 m] 116 (0, 0))) :
    Calls Try.prog 79 #[.pointer (some ⟨k, 0, none⟩)] w fun e w' => e = .returned (.agg #[.int .i64 (hi (fl n.toNat a b m)), .int .u64 (lo (fl n.toNat a b m))]) ∧ Exc k w w' := by
  generalize fl n.toNat a b m = F at *
  go_enter Try.func79, Try.ntmps79
  obtain ⟨zr_a, zr_b, lr0⟩ := rcell hk
  go_wp2
  refine bodyPost_ret (by simp [results, Try.results79, go_sem]; try rfl) rfl ⟨rfl, Exc.of_below (bA (b0 w) _) (by omega)⟩

theorem rests_math {n a b m : Int} (h : RowOk n a b m) : (Rng (a * prs n) ∧ Rng (0 + a * prs n)) ∧ (Rng (b * n) ∧ Rng (0 + a * prs n + b * n)) ∧ Rng (fl n.toNat a b m) ∧ (Rng ((fl n.toNat a b m) * -m) ∧ Rng (0 + a * prs n + b * n + (fl n.toNat a b m) * -m)) ∧ 0 + a * prs n + b * n + (fl n.toNat a b m) * -m = rs n.toNat a b m ∧ (0 ≤ rs n.toNat a b m ∧ rs n.toNat a b m ≤ 72057594037927936) := by
  have hs := steps_math h
  have r5 := hs.2.2.2.2.2.2.2.2.1
  have he := hs.2.2.2.2.2.2.2.2.2
  rw [he] at r5
  obtain ⟨n0, n1, a0, a1, b0, b1, m1, m2⟩ := h
  have hn : ((n.toNat : Nat) : Int) = n := Int.toNat_of_nonneg n0
  have p := prs_bd n n0 n1
  have ka := mul_bd a (prs n) _ _ a0 a1 p.1 p.2
  have kb := mul_bd b n _ _ b0 b1 n0 n1
  have e := rs_eq n.toNat a b m
  have q0 := rs_nn n.toNat a b m (by omega)
  have q1 := rs_top n.toNat a b m (by omega)
  rw [hn] at e q1
  have q2 : n * (m - 1) ≤ 256 * 281474976710656 := Int.mul_le_mul n1 (by omega) (by omega) (by omega)
  rw [Int.mul_neg]
  refine ⟨⟨⟨by omega, by omega⟩, ⟨by omega, by omega⟩⟩, ⟨⟨by omega, by omega⟩, ⟨by omega, by omega⟩⟩, r5, ⟨⟨by omega, by omega⟩, ⟨by omega, by omega⟩⟩, by omega, by omega, by omega⟩

set_option maxRecDepth 100000 in
set_option maxHeartbeats 4000000 in
theorem rests_fn (n a b m : Int) (h : RowOk n a b m) (k : Nat) (w : World) (hk : w.heap[k]? = some (.cells #[.int .i64 (hi (fl n.toNat a b m)), .int .u64 (lo (fl n.toNat a b m)), .int .i64 n, .int .i64 (hi a), .int .u64 (lo a), .int .i64 (hi b), .int .u64 (lo b), .int .i64 m] 116 (0, 0))) :
    Calls Try.prog 81 #[.pointer (some ⟨k, 0, none⟩)] w fun e w' => e = .returned (.int .i64 (rs n.toNat a b m)) ∧ Exc k w w' := by
  obtain ⟨⟨r1, r2⟩, ⟨r3, r4⟩, rF, ⟨r5, r6⟩, he, q0, q1⟩ := rests_math h
  obtain ⟨⟨ra, rb⟩, -⟩ := steps_math h
  obtain ⟨n0, n1, a0, a1, b0', b1, m1, m2⟩ := h
  have p := prs_bd n n0 n1
  have c1 := fsum_pairs n n0 n1
  have k1 := fun g => fsum_add2 g 0 a (prs n) ⟨by decide, by decide⟩ ra (by omega) (by omega) r1 r2
  have k2 := fun g => fsum_add2 g _ b n r2 rb (by omega) (by omega) r3 r4
  have k3 := fun g => fsum_add2 g _ (fl n.toNat a b m) (-m) r4 rF (by omega) (by omega) r5 r6
  rw [he] at k3
  have el := lo_self (rs n.toNat a b m) q0 (by omega)
  have l0 : 0 ≤ lo (rs n.toNat a b m) := by rw [el]; exact q0
  have l1 : lo (rs n.toNat a b m) < 9223372036854775808 := by rw [el]; omega
  have EL := hide el
  clear el
  generalize rs n.toNat a b m = R at *
  generalize (fl n.toNat a b m) = F at *
  generalize 0 + a * prs n + b * n = s2 at *
  generalize 0 + a * prs n = s1 at *
  generalize prs n = pn at *
  clear ra rb rF r1 r2 r3 r4 r5 r6 he
  go_enter Try.func81, Try.ntmps81
  obtain ⟨zr_a, zr_b, lr0⟩ := rcell hk
  go_wp2_with fail
  have f_r1 := (ka (hk) (.cells #[.int .i64 0, .int .u64 0] 114))
  have f_s1 := (na w #[.int .i64 0, .int .u64 0] 114)
  have hB1 := (bA (b0 w) (.cells #[.int .i64 0, .int .u64 0] 114))
  clear zr_a zr_b
  have lr1 := (rcell f_r1).2.2
  have ls1 := (rcell f_s1).2.2
  refine Abs.wp_region_tail (Abs.cls0 _) [0, 1, 2, 3, 4, 5, 6, 7, 8] 9 (by kernel_rfl) (by kernel_rfl) (Below.refl _ _).drew ?_
  repeat (first | (refine Abs.step_pure rfl rfl (fun K hK => ?_); go_simp; (try go_bits); (first | refine hK _ _ ?_ | (simp only [↓IntWalk.iteOmega]; go_simp; (try go_bits); refine hK _ _ ?_)); clear hK K) | (refine Abs.step_load (v := ?_) rfl rfl (by kernel_rfl) rfl (fun w0 hI => ?_) (fun K hK => ?_); rotate_left; (· have z0 := (rcell (kp hI (f_r1))).1; have z1 := (rcell (kp hI (f_s1))).1; go_simp; rfl); (simp only [Act.put, List.setIfInBounds_toArray, List.set_cons_zero, List.set_cons_succ]; refine hK _ _ ?_; clear hK K)) | (refine Abs.step_skip rfl rfl (fun K hK => ?_); (simp only [Act.put, List.setIfInBounds_toArray, List.set_cons_zero, List.set_cons_succ]; refine hK _ _ ?_; clear hK K)))
  (refine Abs.step_call_val (f := ?_) (args := ?_) (v := ?_) rfl rfl rfl rfl (fun w0 => ?_) (fun w0 hI => ?_) (fun K hK => ?_); rotate_left 3; (· go_simp; (constructor <;> rfl)); (· exact c1 _); (simp only [Act.put, List.setIfInBounds_toArray, List.set_cons_zero, List.set_cons_succ]; refine hK _ _ ?_; clear hK K))
  repeat (first | (refine Abs.step_pure rfl rfl (fun K hK => ?_); go_simp; (try go_bits); (first | refine hK _ _ ?_ | (simp only [↓IntWalk.iteOmega]; go_simp; (try go_bits); refine hK _ _ ?_)); clear hK K) | (refine Abs.step_load (v := ?_) rfl rfl (by kernel_rfl) rfl (fun w0 hI => ?_) (fun K hK => ?_); rotate_left; (· have z0 := (rcell (kp hI (f_r1))).1; have z1 := (rcell (kp hI (f_s1))).1; go_simp; rfl); (simp only [Act.put, List.setIfInBounds_toArray, List.set_cons_zero, List.set_cons_succ]; refine hK _ _ ?_; clear hK K)) | (refine Abs.step_skip rfl rfl (fun K hK => ?_); (simp only [Act.put, List.setIfInBounds_toArray, List.set_cons_zero, List.set_cons_succ]; refine hK _ _ ?_; clear hK K)))
  intro w2 hb2 hx0 hx1 hx2
  clear hx0 hx1 hx2
  simp only [Abs.T_setF, Abs.T_addA, Abs.T_push, Abs.T_start]
  have f_r2 := kp hb2 (f_r1)
  have f_s2 := kp hb2 (f_s1)
  have hB2 := bB hB1 hb2
  obtain ⟨zr_a, zr_b, lr2⟩ := rcell f_r2
  obtain ⟨zs_a, zs_b, ls2⟩ := rcell f_s2
  simp only [List.drop_succ_cons, List.drop_zero]
  go_wp2_with fail
  refine (k1 _ _ (f_s2)).mono ?_
  rintro e w3 ⟨rfl, hx3, f_s3⟩
  have f_r3 := kx hx3 (f_r2) (by omega)
  have hB3 := bX hB2 hx3 (by omega)
  clear zr_a zr_b zs_a zs_b
  obtain ⟨zr_a, zr_b, lr3⟩ := rcell f_r3
  obtain ⟨zs_a, zs_b, ls3⟩ := rcell f_s3
  go_wp2_with fail
  refine Abs.wp_region_tail (Abs.cls0 _) [0, 1, 2, 3, 4, 5, 6, 7] 8 (by kernel_rfl) (by kernel_rfl) (Below.refl _ _).drew ?_
  repeat (first | (refine Abs.step_pure rfl rfl (fun K hK => ?_); go_simp; (try go_bits); (first | refine hK _ _ ?_ | (simp only [↓IntWalk.iteOmega]; go_simp; (try go_bits); refine hK _ _ ?_)); clear hK K) | (refine Abs.step_load (v := ?_) rfl rfl (by kernel_rfl) rfl (fun w0 hI => ?_) (fun K hK => ?_); rotate_left; (· have z0 := (rcell (kp hI (f_r3))).1; have z1 := (rcell (kp hI (f_s3))).1; go_simp; rfl); (simp only [Act.put, List.setIfInBounds_toArray, List.set_cons_zero, List.set_cons_succ]; refine hK _ _ ?_; clear hK K)) | (refine Abs.step_skip rfl rfl (fun K hK => ?_); (simp only [Act.put, List.setIfInBounds_toArray, List.set_cons_zero, List.set_cons_succ]; refine hK _ _ ?_; clear hK K)))
  intro w5 hb5 hx0 hx1 hx2
  clear hx0 hx1 hx2
  simp only [Abs.T_setF, Abs.T_addA, Abs.T_push, Abs.T_start]
  have f_r5 := kp hb5 (f_r3)
  have f_s5 := kp hb5 (f_s3)
  have hB5 := bB hB3 hb5
  clear zr_a zr_b zs_a zs_b
  obtain ⟨zr_a, zr_b, lr5⟩ := rcell f_r5
  obtain ⟨zs_a, zs_b, ls5⟩ := rcell f_s5
  simp only [List.drop_succ_cons, List.drop_zero]
  go_wp2_with fail
  refine (k2 _ _ (f_s5)).mono ?_
  rintro e w6 ⟨rfl, hx6, f_s6⟩
  have f_r6 := kx hx6 (f_r5) (by omega)
  have hB6 := bX hB5 hx6 (by omega)
  clear zr_a zr_b zs_a zs_b
  obtain ⟨zr_a, zr_b, lr6⟩ := rcell f_r6
  obtain ⟨zs_a, zs_b, ls6⟩ := rcell f_s6
  go_wp2_with fail
  refine Abs.wp_region_tail (Abs.cls0 _) [0, 1, 2, 3, 4, 5, 6, 7, 8, 9] 10 (by kernel_rfl) (by kernel_rfl) (Below.refl _ _).drew ?_
  repeat (first | (refine Abs.step_pure rfl rfl (fun K hK => ?_); go_simp; (try go_bits); (first | refine hK _ _ ?_ | (simp only [↓IntWalk.iteOmega]; go_simp; (try go_bits); refine hK _ _ ?_)); clear hK K) | (refine Abs.step_load (v := ?_) rfl rfl (by kernel_rfl) rfl (fun w0 hI => ?_) (fun K hK => ?_); rotate_left; (· have z0 := (rcell (kp hI (f_r6))).1; have z1 := (rcell (kp hI (f_s6))).1; go_simp; rfl); (simp only [Act.put, List.setIfInBounds_toArray, List.set_cons_zero, List.set_cons_succ]; refine hK _ _ ?_; clear hK K)) | (refine Abs.step_skip rfl rfl (fun K hK => ?_); (simp only [Act.put, List.setIfInBounds_toArray, List.set_cons_zero, List.set_cons_succ]; refine hK _ _ ?_; clear hK K)))
  intro w8 hb8 hx0 hx1 hx2
  clear hx0 hx1 hx2
  simp only [Abs.T_setF, Abs.T_addA, Abs.T_push, Abs.T_start]
  have f_r8 := kp hb8 (f_r6)
  have f_s8 := kp hb8 (f_s6)
  have hB8 := bB hB6 hb8
  clear zr_a zr_b zs_a zs_b
  obtain ⟨zr_a, zr_b, lr8⟩ := rcell f_r8
  obtain ⟨zs_a, zs_b, ls8⟩ := rcell f_s8
  simp only [List.drop_succ_cons, List.drop_zero]
  go_wp2_with fail
  refine (k3 _ _ (f_s8)).mono ?_
  rintro e w9 ⟨rfl, hx9, f_s9⟩
  have f_r9 := kx hx9 (f_r8) (by omega)
  have hB9 := bX hB8 hx9 (by omega)
  clear zr_a zr_b zs_a zs_b
  obtain ⟨zr_a, zr_b, lr9⟩ := rcell f_r9
  obtain ⟨zs_a, zs_b, ls9⟩ := rcell f_s9
  go_wp2
  go_ret
  exact ⟨by simp [EL.out], Exc.of_below hB9 (by omega)⟩

set_option maxRecDepth 100000 in
set_option maxHeartbeats 4000000 in
theorem line_fn (n a b m : Int) (rF : Rng (fl n.toNat a b m)) (A R N D : Int) (n1 : -9223372036854775808 ≤ n) (n2 : n < 9223372036854775808) (A1 : -9223372036854775808 ≤ A) (A2 : A < 9223372036854775808) (rp : Rng (A * n)) (rs : Rng ((fl n.toNat a b m) + A * n)) (kl k : Nat) (w : World) (hne : k ≠ kl)
    (hl : w.heap[kl]? = some (.cells #[.int .i64 A, .int .i64 R, .int .i64 N, .int .i64 D] 23 (0, 0))) (hk : w.heap[k]? = some (.cells #[.int .i64 (hi (fl n.toNat a b m)), .int .u64 (lo (fl n.toNat a b m)), .int .i64 n, .int .i64 (hi a), .int .u64 (lo a), .int .i64 (hi b), .int .u64 (lo b), .int .i64 m] 116 (0, 0))) :
    Calls Try.prog 88 #[.pointer (some ⟨k, 0, none⟩), .pointer (some ⟨kl, 0, none⟩)] w fun e w' => e = .returned (.agg #[.int .i64 (hi ((fl n.toNat a b m) + A * n)), .int .u64 (lo ((fl n.toNat a b m) + A * n))]) ∧ Exc k w w' := by
  have c1 := wide_Of A A1 A2
  have k1 := fun w => fsum_add8 k (fl n.toNat a b m) A n (.int .i64 n) (.int .i64 (hi a)) (.int .u64 (lo a)) (.int .i64 (hi b)) (.int .u64 (lo b)) (.int .i64 m) rF ⟨by omega, by omega⟩ n1 n2 rp rs w
  generalize (fl n.toNat a b m) = F at *
  generalize F + A * n = S at *
  clear rp rs rF
  have l_g := (rcell hk).2.2
  obtain ⟨zg_a, zg_b, -⟩ := rcell hk
  go_enter Try.func88, Try.ntmps88
  obtain ⟨zl_a, zl_b, ll0⟩ := rcell hl
  go_wp2_with fail
  have f_g1 := (ka (hk) (.cells #[.int .i64 0, .int .u64 0] 46))
  have f_l1 := (ka (hl) (.cells #[.int .i64 0, .int .u64 0] 46))
  have f_o1 := (na w #[.int .i64 0, .int .u64 0] 46)
  have hB1 := (xA (x0 k w (Nat.le_of_lt (rcell hk).2.2)) (.cells #[.int .i64 0, .int .u64 0] 46))
  clear zg_a zg_b zl_a zl_b
  have lg1 := (rcell f_g1).2.2
  have ll1 := (rcell f_l1).2.2
  have lo1 := (rcell f_o1).2.2
  refine Abs.wp_region_tail (Abs.cls0 _) [0, 1, 2, 3, 4, 5, 6, 7, 8, 9] 10 (by kernel_rfl) (by kernel_rfl) (Below.refl _ _).drew ?_
  repeat (first | (refine Abs.step_pure rfl rfl (fun K hK => ?_); go_simp; (try go_bits); (first | refine hK _ _ ?_ | (simp only [↓IntWalk.iteOmega]; go_simp; (try go_bits); refine hK _ _ ?_)); clear hK K) | (refine Abs.step_load (v := ?_) rfl rfl (by kernel_rfl) rfl (fun w0 hI => ?_) (fun K hK => ?_); rotate_left; (· have z0 := (rcell (kp hI (f_g1))).1; have z1 := (rcell (kp hI (f_l1))).1; go_simp; rfl); (simp only [Act.put, List.setIfInBounds_toArray, List.set_cons_zero, List.set_cons_succ]; refine hK _ _ ?_; clear hK K)) | (refine Abs.step_skip rfl rfl (fun K hK => ?_); (simp only [Act.put, List.setIfInBounds_toArray, List.set_cons_zero, List.set_cons_succ]; refine hK _ _ ?_; clear hK K)))
  (refine Abs.step_call_val (f := ?_) (args := ?_) (v := ?_) rfl rfl rfl rfl (fun w0 => ?_) (fun w0 hI => ?_) (fun K hK => ?_); rotate_left 3; (· go_simp; (constructor <;> rfl)); (· exact c1 _); (simp only [Act.put, List.setIfInBounds_toArray, List.set_cons_zero, List.set_cons_succ]; refine hK _ _ ?_; clear hK K))
  repeat (first | (refine Abs.step_pure rfl rfl (fun K hK => ?_); go_simp; (try go_bits); (first | refine hK _ _ ?_ | (simp only [↓IntWalk.iteOmega]; go_simp; (try go_bits); refine hK _ _ ?_)); clear hK K) | (refine Abs.step_load (v := ?_) rfl rfl (by kernel_rfl) rfl (fun w0 hI => ?_) (fun K hK => ?_); rotate_left; (· have z0 := (rcell (kp hI (f_g1))).1; have z1 := (rcell (kp hI (f_l1))).1; go_simp; rfl); (simp only [Act.put, List.setIfInBounds_toArray, List.set_cons_zero, List.set_cons_succ]; refine hK _ _ ?_; clear hK K)) | (refine Abs.step_skip rfl rfl (fun K hK => ?_); (simp only [Act.put, List.setIfInBounds_toArray, List.set_cons_zero, List.set_cons_succ]; refine hK _ _ ?_; clear hK K)))
  intro w2 hb2 hx0 hx1 hx2
  clear hx0 hx1 hx2
  simp only [Abs.T_setF, Abs.T_addA, Abs.T_push, Abs.T_start]
  have f_g2 := kp hb2 (f_g1)
  have f_l2 := kp hb2 (f_l1)
  have f_o2 := kp hb2 (f_o1)
  have hB2 := xB hB1 hb2
  obtain ⟨zg_a, zg_b, lg2⟩ := rcell f_g2
  obtain ⟨zl_a, zl_b, ll2⟩ := rcell f_l2
  obtain ⟨zo_a, zo_b, lo2⟩ := rcell f_o2
  simp only [List.drop_succ_cons, List.drop_zero]
  go_wp2_with fail
  refine (k1 _ (f_g2)).mono ?_
  rintro e w3 ⟨rfl, hx3, f_g3⟩
  have f_l3 := kx hx3 (f_l2) (by omega)
  have f_o3 := kx hx3 (f_o2) (by omega)
  have hB3 := xX hB2 hx3 (by omega)
  clear zg_a zg_b zl_a zl_b zo_a zo_b
  obtain ⟨zl_a, zl_b, ll3⟩ := rcell f_l3
  obtain ⟨zo_a, zo_b, lo3⟩ := rcell f_o3
  obtain ⟨zg_a, zg_b, lg3⟩ := rcell f_g3
  go_wp2_with fail
  rw [row2 f_o3]
  generalize hT4 : setRow _ _ _ = w4
  obtain ⟨hx4, f_o4⟩ := fin_x (b0 _) f_o3 hT4
  clear hT4
  have f_l4 := kx hx4 (f_l3) (by omega)
  have f_g4 := kx hx4 (f_g3) (by omega)
  have hB4 := xX hB3 hx4 (by omega)
  clear zg_a zg_b zl_a zl_b zo_a zo_b
  obtain ⟨zl_a, zl_b, ll4⟩ := rcell f_l4
  obtain ⟨zg_a, zg_b, lg4⟩ := rcell f_g4
  obtain ⟨zo_a, zo_b, lo4⟩ := rcell f_o4
  obtain ⟨yo_a, -, -⟩ := rcell (f_o4)
  refine bodyPost_ret (by simp [results, Try.results88, go_sem, yo_a]; try rfl) rfl ⟨rfl, hB4⟩

set_option maxRecDepth 100000 in
theorem fsum_Sum_w (n a b m e yh yl : Int) (c : ∀ w, Calls Try.prog 78 #[.agg #[.int .i64 0, .int .u64 0, .int .i64 n, .int .i64 (hi a), .int .u64 (lo a), .int .i64 (hi b), .int .u64 (lo b), .int .i64 m], .func (Fn.func 79) #[] #[]] w fun e' w' => e' = .returned (.tuple #[.agg #[.int .i64 yh, .int .u64 yl], .int .i64 e]) ∧ Below w.heap.size w w') (w : World) :
    Calls Try.prog 41 #[.int .i64 n, .agg #[.int .i64 (hi a), .int .u64 (lo a)], .agg #[.int .i64 (hi b), .int .u64 (lo b)], .int .i64 m] w fun e' w' => e' = .returned (.tuple #[.agg #[.int .i64 yh, .int .u64 yl], .int .i64 e]) ∧ Below w.heap.size w w' := by
  go_enter Try.func41, Try.ntmps41
  go_wp2_with fail
  refine (c _).mono ?_
  rintro e w1 ⟨rfl, hb1⟩
  have f_a1 := kp hb1 (ka (ka (na _ _ _) _) _)
  have f_b1 := kp hb1 (ka (na1 _ _ _ _) _)
  have f_o1 := kp hb1 (na2 _ _ _ _ _)
  have hB1 := bB (bA (bA (bA (b0 w) _) _) _) hb1
  obtain ⟨za_a, za_b, la1⟩ := rcell f_a1
  obtain ⟨zb_a, zb_b, lb1⟩ := rcell f_b1
  obtain ⟨zo_a, zo_b, lo1⟩ := rcell f_o1
  go_wp2_with fail
  (rw [row2 (f_o1)]; generalize hT : setRow _ _ _ = wE; obtain ⟨hbE, hgE⟩ := ret_row hB1 (by omega) (f_o1) hT; have zE := (rcell hgE).1; clear hT; refine bodyPost_ret (by simp [results, Try.results41, go_sem, zE]; try rfl) rfl ?_)
  exact ⟨rfl, hbE⟩

set_option maxRecDepth 100000 in
theorem fsum_Rests_w (n a b m e y : Int) (c : ∀ w, Calls Try.prog 80 #[.agg #[.int .i64 0, .int .u64 0, .int .i64 n, .int .i64 (hi a), .int .u64 (lo a), .int .i64 (hi b), .int .u64 (lo b), .int .i64 m], .func (Fn.func 81) #[] #[]] w fun e' w' => e' = .returned (.tuple #[.int .i64 y, .int .i64 e]) ∧ Below w.heap.size w w') (w : World) :
    Calls Try.prog 42 #[.int .i64 n, .agg #[.int .i64 (hi a), .int .u64 (lo a)], .agg #[.int .i64 (hi b), .int .u64 (lo b)], .int .i64 m] w fun e' w' => e' = .returned (.tuple #[.int .i64 y, .int .i64 e]) ∧ Below w.heap.size w w' := by
  go_enter Try.func42, Try.ntmps42
  go_wp2_with fail
  refine (c _).mono ?_
  rintro e w1 ⟨rfl, hb1⟩
  have f_a1 := kp hb1 (ka (na _ _ _) _)
  have f_b1 := kp hb1 (na1 _ _ _ _)
  have hB1 := bB (bA (bA (b0 w) _) _) hb1
  obtain ⟨za_a, za_b, la1⟩ := rcell f_a1
  obtain ⟨zb_a, zb_b, lb1⟩ := rcell f_b1
  go_wp2
  go_ret2
  exact ⟨rfl, hB1⟩

theorem fsum_Sum (n a b m : Int) (h : RowOk n a b m) (w : World) :
    Calls Try.prog 41 #[.int .i64 n, .agg #[.int .i64 (hi a), .int .u64 (lo a)], .agg #[.int .i64 (hi b), .int .u64 (lo b)], .int .i64 m] w fun e w' => e = .returned (.tuple #[.agg #[.int .i64 (hi (fl n.toNat a b m)), .int .u64 (lo (fl n.toNat a b m))], .int .i64 0]) ∧ Below w.heap.size w w' :=
  fsum_Sum_w n a b m _ _ _ (fun w => tellsS n a b m _ _ h (fun k w hk => sum_fn n a b m k w hk) w) w
theorem fsum_Rests (n a b m : Int) (h : RowOk n a b m) (w : World) :
    Calls Try.prog 42 #[.int .i64 n, .agg #[.int .i64 (hi a), .int .u64 (lo a)], .agg #[.int .i64 (hi b), .int .u64 (lo b)], .int .i64 m] w fun e w' => e = .returned (.tuple #[.int .i64 (rs n.toNat a b m), .int .i64 0]) ∧ Below w.heap.size w w' :=
  fsum_Rests_w n a b m _ _ (fun w => tellsR n a b m _ h (fun k w hk => rests_fn n a b m h k w hk) w) w

/-- which of the conditions fails first -/
theorem row_no {n a b m : Int} (h : ¬ RowOk n a b m) : n < 0 ∨ (0 ≤ n ∧ 256 < n) ∨ (0 ≤ n ∧ n ≤ 256 ∧ trB a = false) ∨ (0 ≤ n ∧ n ≤ 256 ∧ trB a = true ∧ trB b = false) ∨ (0 ≤ n ∧ n ≤ 256 ∧ trB a = true ∧ trB b = true ∧ m < 1) ∨ (0 ≤ n ∧ n ≤ 256 ∧ trB a = true ∧ trB b = true ∧ 1 ≤ m ∧ 281474976710656 < m) := by
  by_cases h1 : n < 0
  · exact .inl h1
  by_cases h2 : 256 < n
  · exact .inr (.inl ⟨by omega, h2⟩)
  cases h3 : trB a
  · exact .inr (.inr (.inl ⟨by omega, by omega, rfl⟩))
  cases h4 : trB b
  · exact .inr (.inr (.inr (.inl ⟨by omega, by omega, rfl, rfl⟩)))
  by_cases h5 : m < 1
  · exact .inr (.inr (.inr (.inr (.inl ⟨by omega, by omega, rfl, rfl, h5⟩))))
  by_cases h6 : 281474976710656 < m
  · exact .inr (.inr (.inr (.inr (.inr ⟨by omega, by omega, rfl, rfl, by omega, h6⟩))))
  have g3 := of_decide_eq_true h3
  have g4 := of_decide_eq_true h4
  exact absurd ⟨by omega, by omega, g3.1, g3.2, g4.1, g4.2, by omega, by omega⟩ h
theorem fsum_Sum_no (n a b m : Int) (ra : Rng a) (rb : Rng b) (h : ¬ RowOk n a b m) (w : World) :
    Calls Try.prog 41 #[.int .i64 n, .agg #[.int .i64 (hi a), .int .u64 (lo a)], .agg #[.int .i64 (hi b), .int .u64 (lo b)], .int .i64 m] w fun e w' => e = .returned (.tuple #[.agg #[.int .i64 0, .int .u64 0], .int .i64 2]) ∧ Below w.heap.size w w' := by
  refine fsum_Sum_w n a b m 2 0 0 (fun w => ?_) w
  rcases row_no h with h1 | ⟨h1, h2⟩ | ⟨h1, h2, h3⟩ | ⟨h1, h2, h3, h4⟩ | ⟨h1, h2, h3, h4, h5⟩ | ⟨h1, h2, h3, h4, h5, h6⟩
  · exact tellsS_1 n a b m _ _ _ ra rb h1 w
  · exact tellsS_2 n a b m _ _ _ ra rb h1 h2 w
  · exact tellsS_3 n a b m _ _ _ ra rb h1 h2 h3 w
  · exact tellsS_4 n a b m _ _ _ ra rb h1 h2 h3 h4 w
  · exact tellsS_5 n a b m _ _ _ ra rb h1 h2 h3 h4 h5 w
  · exact tellsS_6 n a b m _ _ _ ra rb h1 h2 h3 h4 h5 h6 w
theorem fsum_Rests_no (n a b m : Int) (ra : Rng a) (rb : Rng b) (h : ¬ RowOk n a b m) (w : World) :
    Calls Try.prog 42 #[.int .i64 n, .agg #[.int .i64 (hi a), .int .u64 (lo a)], .agg #[.int .i64 (hi b), .int .u64 (lo b)], .int .i64 m] w fun e w' => e = .returned (.tuple #[.int .i64 0, .int .i64 2]) ∧ Below w.heap.size w w' := by
  refine fsum_Rests_w n a b m 2 0 (fun w => ?_) w
  rcases row_no h with h1 | ⟨h1, h2⟩ | ⟨h1, h2, h3⟩ | ⟨h1, h2, h3, h4⟩ | ⟨h1, h2, h3, h4, h5⟩ | ⟨h1, h2, h3, h4, h5, h6⟩
  · exact tellsR_1 n a b m _ _ _ ra rb h1 w
  · exact tellsR_2 n a b m _ _ _ ra rb h1 h2 w
  · exact tellsR_3 n a b m _ _ _ ra rb h1 h2 h3 w
  · exact tellsR_4 n a b m _ _ _ ra rb h1 h2 h3 h4 w
  · exact tellsR_5 n a b m _ _ _ ra rb h1 h2 h3 h4 h5 w
  · exact tellsR_6 n a b m _ _ _ ra rb h1 h2 h3 h4 h5 h6 w
end Go.Proofs.Ytlgjapjcdpikeaa
