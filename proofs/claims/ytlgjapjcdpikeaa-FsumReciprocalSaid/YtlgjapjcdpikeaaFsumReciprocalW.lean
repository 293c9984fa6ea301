/- FsumReciprocal (yearbooklaw06): its walk, and the plain law. -/
import Derived.Test.YtlgjapjcdpikeaaFsum7
import Derived.LoopTactic
set_option linter.unusedSimpArgs false
set_option linter.unusedVariables false
namespace Go.Proofs.Ytlgjapjcdpikeaa
open Go.RowKit

theorem gcd_pos (x y : Int) (h : 0 < x) : 0 < Int.gcd x y := by
  rw [Int.gcd]
  exact Nat.gcd_pos_of_pos_left _ (by omega)
theorem gcd_turn (x y : Int) (hx : 0 ≤ x) (hy : 0 < y) : Int.gcd y (x % y) = Int.gcd x y := by
  obtain ⟨a, rfl⟩ := Int.eq_ofNat_of_zero_le hx
  obtain ⟨b, rfl⟩ := Int.eq_ofNat_of_zero_le (show 0 ≤ y by omega)
  rw [← Int.natCast_emod]
  simp only [Int.gcd, Int.natAbs_natCast]
  rw [Nat.gcd_comm b, ← Nat.gcd_rec, Nat.gcd_comm]

set_option maxRecDepth 100000 in
set_option maxHeartbeats 1000000 in
theorem recip_pp (a0 m0 a n p q F y : Int) (G : Nat) (ha2 : a0 < 9223372036854775808) (hm2 : m0 < 9223372036854775808)
    (h1 : 0 ≤ a0) (ha : a = a0 % 1099511627776 + 1) (h2 : 0 ≤ m0) (hn : n = m0 % 256 + 1)
    (A0 : 1 ≤ a) (A1 : a ≤ 1099511627776) (N0 : 1 ≤ n) (N1 : n ≤ 256) (hG : Int.gcd a n = G) (G0 : 0 < G) (hp : a / (G : Int) = p) (hq : n / (G : Int) = q) (p0 : 1 ≤ p) (p1 : p ≤ 1099511627776) (q0 : 1 ≤ q) (q1 : q ≤ 256)
    (hy : (p - 1) * (q - 1) = y) (y0 : 0 ≤ y) (y1 : y ≤ 281474976710656)
    (c1 : ∀ w : World, Calls Try.prog 50 #[.int .i64 p] w fun e w' => e = .returned (.agg #[.int .i64 (hi p), .int .u64 (lo p)]) ∧ Below w.heap.size w w')
    (c2 : ∀ w : World, Calls Try.prog 50 #[.int .i64 0] w fun e w' => e = .returned (.agg #[.int .i64 (hi 0), .int .u64 (lo 0)]) ∧ Below w.heap.size w w')
    (c3 : ∀ w : World, Calls Try.prog 48 #[.agg #[.int .i64 q, .int .i64 (hi p), .int .u64 (lo p), .int .i64 (hi 0), .int .u64 (lo 0), .int .i64 q]] w fun e w' => e = .returned (.tuple #[.agg #[.int .i64 (hi F), .int .u64 (lo F)], .bool true]) ∧ Below w.heap.size w w')
    (c4 : ∀ w : World, Calls Try.prog 50 #[.int .i64 (y / 2)] w fun e w' => e = .returned (.agg #[.int .i64 (hi F), .int .u64 (lo F)]) ∧ Below w.heap.size w w')
    (w : World) :
    Calls Try.prog 17 #[.int .i64 a0, .int .i64 m0] w fun e w' => e = .returned (.bool true) ∧ Below w.heap.size w w' := by
  have HG := hide hG
  have HP := hide hp
  have HQ := hide hq
  have HY := hide hy
  clear hG hp hq hy
  have HA := hide ha
  have HN := hide hn
  clear ha hn
  go_enter Try.func17, Try.ntmps17
  go_wp2_with fail
  refine (wakes6 _).mono ?_
  rintro e w1 ⟨rfl, hb1⟩
  have hB1 := bB (b0 w) hb1
  go_wp2_with fail
  go_loopw [6, 7] (fun vc vd wr => ∃ c d : Int, vc = .int .i64 c ∧ vd = .int .i64 d ∧ 0 < c ∧ c ≤ 1099511627776 ∧ 0 ≤ d ∧ d ≤ 1099511627776 ∧ Hid (Int.gcd c d = G) ∧ Below w.heap.size w wr)
    (fun _ vd _ => (intOf vd).toNat)
  case atStart => exact ⟨a, n, by rw [HA.out], by rw [HN.out], by omega, A1, by omega, by omega, HG, hB1⟩
  case round =>
    obtain ⟨c, d, rfl, rfl, d0, d1, e0, e1, HC, hb0⟩ := hrel
    by_cases hd : 0 < d
    · have nz : ¬ d = 0 := by omega
      have r0 : 0 ≤ c % d := Int.emod_nonneg _ (by omega)
      have r1 : c % d < d := Int.emod_lt_of_pos _ hd
      have HT := hide (gcd_turn c d (by omega) hd)
      go_wp2_with fail
      refine Abs.wp_region_abs (Abs.cls0 _) [0, 1, 2, 3, 4, 5] (by kernel_rfl) (by kernel_rfl) (Below.refl _ _).drew ?_
      repeat (first | (refine Abs.step_pure rfl rfl (fun K hK => ?_); go_simp; (try go_bits); (first | refine hK _ _ ?_ | (simp only [↓IntWalk.iteOmega]; go_simp; (try go_bits); refine hK _ _ ?_)); clear hK K) | (refine Abs.step_load (v := ?_) rfl rfl (by kernel_rfl) rfl (fun w0 hI => ?_) (fun K hK => ?_); rotate_left; (· go_simp; rfl); (simp only [Act.put, List.setIfInBounds_toArray, List.set_cons_zero, List.set_cons_succ]; refine hK _ _ ?_; clear hK K)) | (refine Abs.step_skip rfl rfl (fun K hK => ?_); (simp only [Act.put, List.setIfInBounds_toArray, List.set_cons_zero, List.set_cons_succ]; refine hK _ _ ?_; clear hK K)))
      intro w3 hb3 hx0 hx1 hx2
      clear hx0 hx1 hx2
      simp only [Abs.T_setF, Abs.T_addA, Abs.T_push, Abs.T_start]
      have hB3 := bB hb0 hb3
      go_wp2
      go_roundw
      case rel => exact ⟨d, c % d, rfl, rfl, hd, e1, r0, by omega, HT.out.trans HC.out, hB3⟩
      case measure => simp [intOf]; omega
    · have hz : d = 0 := by omega
      subst hz
      have hc : c = G := by
        have := HC.out
        simp [Int.gcd] at this
        omega
      subst hc
      have nz : ¬ (G : Int) = 0 := by omega
      have hp := HP.out
      have hq := HQ.out
      rw [HA.out] at hp
      rw [HN.out] at hq
      have b1 : 0 ≤ a0 % 1099511627776 ∧ a0 % 1099511627776 < 1099511627776 := by omega
      have b2 : 0 ≤ m0 % 256 ∧ m0 % 256 < 256 := by omega
      obtain ⟨b1, b3⟩ := b1
      obtain ⟨b2, b4⟩ := b2
      go_wp2_with fail
      refine Abs.wp_region_abs (Abs.cls0 _) [0, 1, 2, 3, 4, 5, 6, 7] (by kernel_rfl) (by kernel_rfl) (Below.refl _ _).drew ?_
      repeat (first | (refine Abs.step_pure rfl rfl (fun K hK => ?_); go_simp; (try go_bits); (first | refine hK _ _ ?_ | (simp only [↓IntWalk.iteOmega]; go_simp; (try go_bits); refine hK _ _ ?_)); clear hK K) | (refine Abs.step_load (v := ?_) rfl rfl (by kernel_rfl) rfl (fun w0 hI => ?_) (fun K hK => ?_); rotate_left; (· go_simp; rfl); (simp only [Act.put, List.setIfInBounds_toArray, List.set_cons_zero, List.set_cons_succ]; refine hK _ _ ?_; clear hK K)) | (refine Abs.step_skip rfl rfl (fun K hK => ?_); (simp only [Act.put, List.setIfInBounds_toArray, List.set_cons_zero, List.set_cons_succ]; refine hK _ _ ?_; clear hK K)))
      intro w5 hb5 hx0 hx1 hx2
      clear hx0 hx1 hx2
      simp only [Abs.T_setF, Abs.T_addA, Abs.T_push, Abs.T_start]
      have hB5 := bB hb0 hb5
      clear hp hq
      go_wp2_with fail
      refine (c1 _).mono ?_
      rintro e w6 ⟨rfl, hb6⟩
      have hB6 := bB hB5 hb6
      go_wp2_with fail
      refine (c2 _).mono ?_
      rintro e w7 ⟨rfl, hb7⟩
      have hB7 := bB hB6 hb7
      go_wp2_with fail
      refine (c3 _).mono ?_
      rintro e w8 ⟨rfl, hb8⟩
      have hB8 := bB hB7 hb8
      have hy := HY.out
      go_wp2_with fail
      have f_s9 := (na w8 #[.int .i64 (hi F), .int .u64 (lo F)] 46)
      have hB9 := (bA hB8 (.cells #[.int .i64 (hi F), .int .u64 (lo F)] 46))
      have ls9 := (rcell f_s9).2.2
      refine Abs.wp_region_abs (Abs.cls0 _) [0, 1, 2, 3, 4, 5, 6, 7, 8, 9, 10, 11, 12] (by kernel_rfl) (by kernel_rfl) (Below.refl _ _).drew ?_
      repeat (first | (refine Abs.step_pure rfl rfl (fun K hK => ?_); go_simp; (try go_bits); (first | refine hK _ _ ?_ | (simp only [↓IntWalk.iteOmega]; go_simp; (try go_bits); refine hK _ _ ?_)); clear hK K) | (refine Abs.step_load (v := ?_) rfl rfl (by kernel_rfl) rfl (fun w0 hI => ?_) (fun K hK => ?_); rotate_left; (· have z0 := (rcell (kp hI (f_s9))).1; go_simp; rfl); (simp only [Act.put, List.setIfInBounds_toArray, List.set_cons_zero, List.set_cons_succ]; refine hK _ _ ?_; clear hK K)) | (refine Abs.step_skip rfl rfl (fun K hK => ?_); (simp only [Act.put, List.setIfInBounds_toArray, List.set_cons_zero, List.set_cons_succ]; refine hK _ _ ?_; clear hK K)))
      (refine Abs.step_call_val (f := ?_) (args := ?_) (v := ?_) rfl rfl rfl rfl (fun w0 => ?_) (fun w0 hI => ?_) (fun K hK => ?_); rotate_left 3; (· go_simp; (constructor <;> rfl)); (· exact c4 _); (simp only [Act.put, List.setIfInBounds_toArray, List.set_cons_zero, List.set_cons_succ]; refine hK _ _ ?_; clear hK K))
      repeat (first | (refine Abs.step_pure rfl rfl (fun K hK => ?_); go_simp; (try go_bits); (first | refine hK _ _ ?_ | (simp only [↓IntWalk.iteOmega]; go_simp; (try go_bits); refine hK _ _ ?_)); clear hK K) | (refine Abs.step_load (v := ?_) rfl rfl (by kernel_rfl) rfl (fun w0 hI => ?_) (fun K hK => ?_); rotate_left; (· have z0 := (rcell (kp hI (f_s9))).1; go_simp; rfl); (simp only [Act.put, List.setIfInBounds_toArray, List.set_cons_zero, List.set_cons_succ]; refine hK _ _ ?_; clear hK K)) | (refine Abs.step_skip rfl rfl (fun K hK => ?_); (simp only [Act.put, List.setIfInBounds_toArray, List.set_cons_zero, List.set_cons_succ]; refine hK _ _ ?_; clear hK K)))
      intro w10 hb10 hx0 hx1 hx2
      clear hx0 hx1 hx2
      simp only [Abs.T_setF, Abs.T_addA, Abs.T_push, Abs.T_start]
      have f_s10 := kp hb10 (f_s9)
      have hB10 := bB hB9 hb10
      obtain ⟨zs_a, zs_b, ls10⟩ := rcell f_s10
      go_wp2
      go_ret
      exact ⟨by simp, hB10⟩
set_option maxRecDepth 100000 in
set_option maxHeartbeats 1000000 in
theorem recip_pz (a0 m0 a n p q F y : Int) (G : Nat) (ha2 : a0 < 9223372036854775808) (hm2 : m0 < 9223372036854775808)
    (h1 : 0 ≤ a0) (ha : a = a0 % 1099511627776 + 1) (h2 : m0 < 0) (hn : n = 1)
    (A0 : 1 ≤ a) (A1 : a ≤ 1099511627776) (N0 : 1 ≤ n) (N1 : n ≤ 256) (hG : Int.gcd a n = G) (G0 : 0 < G) (hp : a / (G : Int) = p) (hq : n / (G : Int) = q) (p0 : 1 ≤ p) (p1 : p ≤ 1099511627776) (q0 : 1 ≤ q) (q1 : q ≤ 256)
    (hy : (p - 1) * (q - 1) = y) (y0 : 0 ≤ y) (y1 : y ≤ 281474976710656)
    (c1 : ∀ w : World, Calls Try.prog 50 #[.int .i64 p] w fun e w' => e = .returned (.agg #[.int .i64 (hi p), .int .u64 (lo p)]) ∧ Below w.heap.size w w')
    (c2 : ∀ w : World, Calls Try.prog 50 #[.int .i64 0] w fun e w' => e = .returned (.agg #[.int .i64 (hi 0), .int .u64 (lo 0)]) ∧ Below w.heap.size w w')
    (c3 : ∀ w : World, Calls Try.prog 48 #[.agg #[.int .i64 q, .int .i64 (hi p), .int .u64 (lo p), .int .i64 (hi 0), .int .u64 (lo 0), .int .i64 q]] w fun e w' => e = .returned (.tuple #[.agg #[.int .i64 (hi F), .int .u64 (lo F)], .bool true]) ∧ Below w.heap.size w w')
    (c4 : ∀ w : World, Calls Try.prog 50 #[.int .i64 (y / 2)] w fun e w' => e = .returned (.agg #[.int .i64 (hi F), .int .u64 (lo F)]) ∧ Below w.heap.size w w')
    (w : World) :
    Calls Try.prog 17 #[.int .i64 a0, .int .i64 m0] w fun e w' => e = .returned (.bool true) ∧ Below w.heap.size w w' := by
  have HG := hide hG
  have HP := hide hp
  have HQ := hide hq
  have HY := hide hy
  clear hG hp hq hy
  have HA := hide ha
  have HN := hide hn
  clear ha hn
  go_enter Try.func17, Try.ntmps17
  go_wp2_with fail
  refine (wakes6 _).mono ?_
  rintro e w1 ⟨rfl, hb1⟩
  have hB1 := bB (b0 w) hb1
  go_wp2_with fail
  go_loopw [6, 7] (fun vc vd wr => ∃ c d : Int, vc = .int .i64 c ∧ vd = .int .i64 d ∧ 0 < c ∧ c ≤ 1099511627776 ∧ 0 ≤ d ∧ d ≤ 1099511627776 ∧ Hid (Int.gcd c d = G) ∧ Below w.heap.size w wr)
    (fun _ vd _ => (intOf vd).toNat)
  case atStart => exact ⟨a, n, by rw [HA.out], by rw [HN.out], by omega, A1, by omega, by omega, HG, hB1⟩
  case round =>
    obtain ⟨c, d, rfl, rfl, d0, d1, e0, e1, HC, hb0⟩ := hrel
    by_cases hd : 0 < d
    · have nz : ¬ d = 0 := by omega
      have r0 : 0 ≤ c % d := Int.emod_nonneg _ (by omega)
      have r1 : c % d < d := Int.emod_lt_of_pos _ hd
      have HT := hide (gcd_turn c d (by omega) hd)
      go_wp2_with fail
      refine Abs.wp_region_abs (Abs.cls0 _) [0, 1, 2, 3, 4, 5] (by kernel_rfl) (by kernel_rfl) (Below.refl _ _).drew ?_
      repeat (first | (refine Abs.step_pure rfl rfl (fun K hK => ?_); go_simp; (try go_bits); (first | refine hK _ _ ?_ | (simp only [↓IntWalk.iteOmega]; go_simp; (try go_bits); refine hK _ _ ?_)); clear hK K) | (refine Abs.step_load (v := ?_) rfl rfl (by kernel_rfl) rfl (fun w0 hI => ?_) (fun K hK => ?_); rotate_left; (· go_simp; rfl); (simp only [Act.put, List.setIfInBounds_toArray, List.set_cons_zero, List.set_cons_succ]; refine hK _ _ ?_; clear hK K)) | (refine Abs.step_skip rfl rfl (fun K hK => ?_); (simp only [Act.put, List.setIfInBounds_toArray, List.set_cons_zero, List.set_cons_succ]; refine hK _ _ ?_; clear hK K)))
      intro w3 hb3 hx0 hx1 hx2
      clear hx0 hx1 hx2
      simp only [Abs.T_setF, Abs.T_addA, Abs.T_push, Abs.T_start]
      have hB3 := bB hb0 hb3
      go_wp2
      go_roundw
      case rel => exact ⟨d, c % d, rfl, rfl, hd, e1, r0, by omega, HT.out.trans HC.out, hB3⟩
      case measure => simp [intOf]; omega
    · have hz : d = 0 := by omega
      subst hz
      have hc : c = G := by
        have := HC.out
        simp [Int.gcd] at this
        omega
      subst hc
      have nz : ¬ (G : Int) = 0 := by omega
      have hp := HP.out
      have hq := HQ.out
      rw [HA.out] at hp
      rw [HN.out] at hq
      have b1 : 0 ≤ a0 % 1099511627776 ∧ a0 % 1099511627776 < 1099511627776 := by omega
      have b2 : 0 ≤ m0 % 256 ∧ m0 % 256 < 256 := by omega
      obtain ⟨b1, b3⟩ := b1
      obtain ⟨b2, b4⟩ := b2
      go_wp2_with fail
      refine Abs.wp_region_abs (Abs.cls0 _) [0, 1, 2, 3, 4, 5, 6, 7] (by kernel_rfl) (by kernel_rfl) (Below.refl _ _).drew ?_
      repeat (first | (refine Abs.step_pure rfl rfl (fun K hK => ?_); go_simp; (try go_bits); (first | refine hK _ _ ?_ | (simp only [↓IntWalk.iteOmega]; go_simp; (try go_bits); refine hK _ _ ?_)); clear hK K) | (refine Abs.step_load (v := ?_) rfl rfl (by kernel_rfl) rfl (fun w0 hI => ?_) (fun K hK => ?_); rotate_left; (· go_simp; rfl); (simp only [Act.put, List.setIfInBounds_toArray, List.set_cons_zero, List.set_cons_succ]; refine hK _ _ ?_; clear hK K)) | (refine Abs.step_skip rfl rfl (fun K hK => ?_); (simp only [Act.put, List.setIfInBounds_toArray, List.set_cons_zero, List.set_cons_succ]; refine hK _ _ ?_; clear hK K)))
      intro w5 hb5 hx0 hx1 hx2
      clear hx0 hx1 hx2
      simp only [Abs.T_setF, Abs.T_addA, Abs.T_push, Abs.T_start]
      have hB5 := bB hb0 hb5
      clear hp hq
      go_wp2_with fail
      refine (c1 _).mono ?_
      rintro e w6 ⟨rfl, hb6⟩
      have hB6 := bB hB5 hb6
      go_wp2_with fail
      refine (c2 _).mono ?_
      rintro e w7 ⟨rfl, hb7⟩
      have hB7 := bB hB6 hb7
      go_wp2_with fail
      refine (c3 _).mono ?_
      rintro e w8 ⟨rfl, hb8⟩
      have hB8 := bB hB7 hb8
      have hy := HY.out
      go_wp2_with fail
      have f_s9 := (na w8 #[.int .i64 (hi F), .int .u64 (lo F)] 46)
      have hB9 := (bA hB8 (.cells #[.int .i64 (hi F), .int .u64 (lo F)] 46))
      have ls9 := (rcell f_s9).2.2
      refine Abs.wp_region_abs (Abs.cls0 _) [0, 1, 2, 3, 4, 5, 6, 7, 8, 9, 10, 11, 12] (by kernel_rfl) (by kernel_rfl) (Below.refl _ _).drew ?_
      repeat (first | (refine Abs.step_pure rfl rfl (fun K hK => ?_); go_simp; (try go_bits); (first | refine hK _ _ ?_ | (simp only [↓IntWalk.iteOmega]; go_simp; (try go_bits); refine hK _ _ ?_)); clear hK K) | (refine Abs.step_load (v := ?_) rfl rfl (by kernel_rfl) rfl (fun w0 hI => ?_) (fun K hK => ?_); rotate_left; (· have z0 := (rcell (kp hI (f_s9))).1; go_simp; rfl); (simp only [Act.put, List.setIfInBounds_toArray, List.set_cons_zero, List.set_cons_succ]; refine hK _ _ ?_; clear hK K)) | (refine Abs.step_skip rfl rfl (fun K hK => ?_); (simp only [Act.put, List.setIfInBounds_toArray, List.set_cons_zero, List.set_cons_succ]; refine hK _ _ ?_; clear hK K)))
      (refine Abs.step_call_val (f := ?_) (args := ?_) (v := ?_) rfl rfl rfl rfl (fun w0 => ?_) (fun w0 hI => ?_) (fun K hK => ?_); rotate_left 3; (· go_simp; (constructor <;> rfl)); (· exact c4 _); (simp only [Act.put, List.setIfInBounds_toArray, List.set_cons_zero, List.set_cons_succ]; refine hK _ _ ?_; clear hK K))
      repeat (first | (refine Abs.step_pure rfl rfl (fun K hK => ?_); go_simp; (try go_bits); (first | refine hK _ _ ?_ | (simp only [↓IntWalk.iteOmega]; go_simp; (try go_bits); refine hK _ _ ?_)); clear hK K) | (refine Abs.step_load (v := ?_) rfl rfl (by kernel_rfl) rfl (fun w0 hI => ?_) (fun K hK => ?_); rotate_left; (· have z0 := (rcell (kp hI (f_s9))).1; go_simp; rfl); (simp only [Act.put, List.setIfInBounds_toArray, List.set_cons_zero, List.set_cons_succ]; refine hK _ _ ?_; clear hK K)) | (refine Abs.step_skip rfl rfl (fun K hK => ?_); (simp only [Act.put, List.setIfInBounds_toArray, List.set_cons_zero, List.set_cons_succ]; refine hK _ _ ?_; clear hK K)))
      intro w10 hb10 hx0 hx1 hx2
      clear hx0 hx1 hx2
      simp only [Abs.T_setF, Abs.T_addA, Abs.T_push, Abs.T_start]
      have f_s10 := kp hb10 (f_s9)
      have hB10 := bB hB9 hb10
      obtain ⟨zs_a, zs_b, ls10⟩ := rcell f_s10
      go_wp2
      go_ret
      exact ⟨by simp, hB10⟩
set_option maxRecDepth 100000 in
set_option maxHeartbeats 1000000 in
theorem recip_zp (a0 m0 a n p q F y : Int) (G : Nat) (ha2 : a0 < 9223372036854775808) (hm2 : m0 < 9223372036854775808)
    (h1 : a0 < 0) (ha : a = 1) (h2 : 0 ≤ m0) (hn : n = m0 % 256 + 1)
    (A0 : 1 ≤ a) (A1 : a ≤ 1099511627776) (N0 : 1 ≤ n) (N1 : n ≤ 256) (hG : Int.gcd a n = G) (G0 : 0 < G) (hp : a / (G : Int) = p) (hq : n / (G : Int) = q) (p0 : 1 ≤ p) (p1 : p ≤ 1099511627776) (q0 : 1 ≤ q) (q1 : q ≤ 256)
    (hy : (p - 1) * (q - 1) = y) (y0 : 0 ≤ y) (y1 : y ≤ 281474976710656)
    (c1 : ∀ w : World, Calls Try.prog 50 #[.int .i64 p] w fun e w' => e = .returned (.agg #[.int .i64 (hi p), .int .u64 (lo p)]) ∧ Below w.heap.size w w')
    (c2 : ∀ w : World, Calls Try.prog 50 #[.int .i64 0] w fun e w' => e = .returned (.agg #[.int .i64 (hi 0), .int .u64 (lo 0)]) ∧ Below w.heap.size w w')
    (c3 : ∀ w : World, Calls Try.prog 48 #[.agg #[.int .i64 q, .int .i64 (hi p), .int .u64 (lo p), .int .i64 (hi 0), .int .u64 (lo 0), .int .i64 q]] w fun e w' => e = .returned (.tuple #[.agg #[.int .i64 (hi F), .int .u64 (lo F)], .bool true]) ∧ Below w.heap.size w w')
    (c4 : ∀ w : World, Calls Try.prog 50 #[.int .i64 (y / 2)] w fun e w' => e = .returned (.agg #[.int .i64 (hi F), .int .u64 (lo F)]) ∧ Below w.heap.size w w')
    (w : World) :
    Calls Try.prog 17 #[.int .i64 a0, .int .i64 m0] w fun e w' => e = .returned (.bool true) ∧ Below w.heap.size w w' := by
  have HG := hide hG
  have HP := hide hp
  have HQ := hide hq
  have HY := hide hy
  clear hG hp hq hy
  have HA := hide ha
  have HN := hide hn
  clear ha hn
  go_enter Try.func17, Try.ntmps17
  go_wp2_with fail
  refine (wakes6 _).mono ?_
  rintro e w1 ⟨rfl, hb1⟩
  have hB1 := bB (b0 w) hb1
  go_wp2_with fail
  go_loopw [6, 7] (fun vc vd wr => ∃ c d : Int, vc = .int .i64 c ∧ vd = .int .i64 d ∧ 0 < c ∧ c ≤ 1099511627776 ∧ 0 ≤ d ∧ d ≤ 1099511627776 ∧ Hid (Int.gcd c d = G) ∧ Below w.heap.size w wr)
    (fun _ vd _ => (intOf vd).toNat)
  case atStart => exact ⟨a, n, by rw [HA.out], by rw [HN.out], by omega, A1, by omega, by omega, HG, hB1⟩
  case round =>
    obtain ⟨c, d, rfl, rfl, d0, d1, e0, e1, HC, hb0⟩ := hrel
    by_cases hd : 0 < d
    · have nz : ¬ d = 0 := by omega
      have r0 : 0 ≤ c % d := Int.emod_nonneg _ (by omega)
      have r1 : c % d < d := Int.emod_lt_of_pos _ hd
      have HT := hide (gcd_turn c d (by omega) hd)
      go_wp2_with fail
      refine Abs.wp_region_abs (Abs.cls0 _) [0, 1, 2, 3, 4, 5] (by kernel_rfl) (by kernel_rfl) (Below.refl _ _).drew ?_
      repeat (first | (refine Abs.step_pure rfl rfl (fun K hK => ?_); go_simp; (try go_bits); (first | refine hK _ _ ?_ | (simp only [↓IntWalk.iteOmega]; go_simp; (try go_bits); refine hK _ _ ?_)); clear hK K) | (refine Abs.step_load (v := ?_) rfl rfl (by kernel_rfl) rfl (fun w0 hI => ?_) (fun K hK => ?_); rotate_left; (· go_simp; rfl); (simp only [Act.put, List.setIfInBounds_toArray, List.set_cons_zero, List.set_cons_succ]; refine hK _ _ ?_; clear hK K)) | (refine Abs.step_skip rfl rfl (fun K hK => ?_); (simp only [Act.put, List.setIfInBounds_toArray, List.set_cons_zero, List.set_cons_succ]; refine hK _ _ ?_; clear hK K)))
      intro w3 hb3 hx0 hx1 hx2
      clear hx0 hx1 hx2
      simp only [Abs.T_setF, Abs.T_addA, Abs.T_push, Abs.T_start]
      have hB3 := bB hb0 hb3
      go_wp2
      go_roundw
      case rel => exact ⟨d, c % d, rfl, rfl, hd, e1, r0, by omega, HT.out.trans HC.out, hB3⟩
      case measure => simp [intOf]; omega
    · have hz : d = 0 := by omega
      subst hz
      have hc : c = G := by
        have := HC.out
        simp [Int.gcd] at this
        omega
      subst hc
      have nz : ¬ (G : Int) = 0 := by omega
      have hp := HP.out
      have hq := HQ.out
      rw [HA.out] at hp
      rw [HN.out] at hq
      have b1 : 0 ≤ a0 % 1099511627776 ∧ a0 % 1099511627776 < 1099511627776 := by omega
      have b2 : 0 ≤ m0 % 256 ∧ m0 % 256 < 256 := by omega
      obtain ⟨b1, b3⟩ := b1
      obtain ⟨b2, b4⟩ := b2
      go_wp2_with fail
      refine Abs.wp_region_abs (Abs.cls0 _) [0, 1, 2, 3, 4, 5, 6, 7] (by kernel_rfl) (by kernel_rfl) (Below.refl _ _).drew ?_
      repeat (first | (refine Abs.step_pure rfl rfl (fun K hK => ?_); go_simp; (try go_bits); (first | refine hK _ _ ?_ | (simp only [↓IntWalk.iteOmega]; go_simp; (try go_bits); refine hK _ _ ?_)); clear hK K) | (refine Abs.step_load (v := ?_) rfl rfl (by kernel_rfl) rfl (fun w0 hI => ?_) (fun K hK => ?_); rotate_left; (· go_simp; rfl); (simp only [Act.put, List.setIfInBounds_toArray, List.set_cons_zero, List.set_cons_succ]; refine hK _ _ ?_; clear hK K)) | (refine Abs.step_skip rfl rfl (fun K hK => ?_); (simp only [Act.put, List.setIfInBounds_toArray, List.set_cons_zero, List.set_cons_succ]; refine hK _ _ ?_; clear hK K)))
      intro w5 hb5 hx0 hx1 hx2
      clear hx0 hx1 hx2
      simp only [Abs.T_setF, Abs.T_addA, Abs.T_push, Abs.T_start]
      have hB5 := bB hb0 hb5
      clear hp hq
      go_wp2_with fail
      refine (c1 _).mono ?_
      rintro e w6 ⟨rfl, hb6⟩
      have hB6 := bB hB5 hb6
      go_wp2_with fail
      refine (c2 _).mono ?_
      rintro e w7 ⟨rfl, hb7⟩
      have hB7 := bB hB6 hb7
      go_wp2_with fail
      refine (c3 _).mono ?_
      rintro e w8 ⟨rfl, hb8⟩
      have hB8 := bB hB7 hb8
      have hy := HY.out
      go_wp2_with fail
      have f_s9 := (na w8 #[.int .i64 (hi F), .int .u64 (lo F)] 46)
      have hB9 := (bA hB8 (.cells #[.int .i64 (hi F), .int .u64 (lo F)] 46))
      have ls9 := (rcell f_s9).2.2
      refine Abs.wp_region_abs (Abs.cls0 _) [0, 1, 2, 3, 4, 5, 6, 7, 8, 9, 10, 11, 12] (by kernel_rfl) (by kernel_rfl) (Below.refl _ _).drew ?_
      repeat (first | (refine Abs.step_pure rfl rfl (fun K hK => ?_); go_simp; (try go_bits); (first | refine hK _ _ ?_ | (simp only [↓IntWalk.iteOmega]; go_simp; (try go_bits); refine hK _ _ ?_)); clear hK K) | (refine Abs.step_load (v := ?_) rfl rfl (by kernel_rfl) rfl (fun w0 hI => ?_) (fun K hK => ?_); rotate_left; (· have z0 := (rcell (kp hI (f_s9))).1; go_simp; rfl); (simp only [Act.put, List.setIfInBounds_toArray, List.set_cons_zero, List.set_cons_succ]; refine hK _ _ ?_; clear hK K)) | (refine Abs.step_skip rfl rfl (fun K hK => ?_); (simp only [Act.put, List.setIfInBounds_toArray, List.set_cons_zero, List.set_cons_succ]; refine hK _ _ ?_; clear hK K)))
      (refine Abs.step_call_val (f := ?_) (args := ?_) (v := ?_) rfl rfl rfl rfl (fun w0 => ?_) (fun w0 hI => ?_) (fun K hK => ?_); rotate_left 3; (· go_simp; (constructor <;> rfl)); (· exact c4 _); (simp only [Act.put, List.setIfInBounds_toArray, List.set_cons_zero, List.set_cons_succ]; refine hK _ _ ?_; clear hK K))
      repeat (first | (refine Abs.step_pure rfl rfl (fun K hK => ?_); go_simp; (try go_bits); (first | refine hK _ _ ?_ | (simp only [↓IntWalk.iteOmega]; go_simp; (try go_bits); refine hK _ _ ?_)); clear hK K) | (refine Abs.step_load (v := ?_) rfl rfl (by kernel_rfl) rfl (fun w0 hI => ?_) (fun K hK => ?_); rotate_left; (· have z0 := (rcell (kp hI (f_s9))).1; go_simp; rfl); (simp only [Act.put, List.setIfInBounds_toArray, List.set_cons_zero, List.set_cons_succ]; refine hK _ _ ?_; clear hK K)) | (refine Abs.step_skip rfl rfl (fun K hK => ?_); (simp only [Act.put, List.setIfInBounds_toArray, List.set_cons_zero, List.set_cons_succ]; refine hK _ _ ?_; clear hK K)))
      intro w10 hb10 hx0 hx1 hx2
      clear hx0 hx1 hx2
      simp only [Abs.T_setF, Abs.T_addA, Abs.T_push, Abs.T_start]
      have f_s10 := kp hb10 (f_s9)
      have hB10 := bB hB9 hb10
      obtain ⟨zs_a, zs_b, ls10⟩ := rcell f_s10
      go_wp2
      go_ret
      exact ⟨by simp, hB10⟩
set_option maxRecDepth 100000 in
set_option maxHeartbeats 1000000 in
theorem recip_zz (a0 m0 a n p F y : Int) (G : Nat) (ha2 : a0 < 9223372036854775808) (hm2 : m0 < 9223372036854775808)
    (h1 : a0 < 0) (ha : a = 1) (h2 : m0 < 0) (hn : n = 1)
    (A0 : 1 ≤ a) (A1 : a ≤ 1099511627776) (N0 : 1 ≤ n) (N1 : n ≤ 256) (hG : Int.gcd a n = G) (G0 : 0 < G) (hp : a / (G : Int) = p) (p0 : 1 ≤ p) (p1 : p ≤ 1099511627776) (q1 : p ≤ 256)
    (hy : (p - 1) * (p - 1) = y) (y0 : 0 ≤ y) (y1 : y ≤ 281474976710656)
    (c1 : ∀ w : World, Calls Try.prog 50 #[.int .i64 p] w fun e w' => e = .returned (.agg #[.int .i64 (hi p), .int .u64 (lo p)]) ∧ Below w.heap.size w w')
    (c2 : ∀ w : World, Calls Try.prog 50 #[.int .i64 0] w fun e w' => e = .returned (.agg #[.int .i64 (hi 0), .int .u64 (lo 0)]) ∧ Below w.heap.size w w')
    (c3 : ∀ w : World, Calls Try.prog 48 #[.agg #[.int .i64 p, .int .i64 (hi p), .int .u64 (lo p), .int .i64 (hi 0), .int .u64 (lo 0), .int .i64 p]] w fun e w' => e = .returned (.tuple #[.agg #[.int .i64 (hi F), .int .u64 (lo F)], .bool true]) ∧ Below w.heap.size w w')
    (c4 : ∀ w : World, Calls Try.prog 50 #[.int .i64 (y / 2)] w fun e w' => e = .returned (.agg #[.int .i64 (hi F), .int .u64 (lo F)]) ∧ Below w.heap.size w w')
    (w : World) :
    Calls Try.prog 17 #[.int .i64 a0, .int .i64 m0] w fun e w' => e = .returned (.bool true) ∧ Below w.heap.size w w' := by
  have HG := hide hG
  have HP := hide hp
  have HY := hide hy
  clear hG hp hy
  have HA := hide ha
  have HN := hide hn
  clear ha hn
  go_enter Try.func17, Try.ntmps17
  go_wp2_with fail
  refine (wakes6 _).mono ?_
  rintro e w1 ⟨rfl, hb1⟩
  have hB1 := bB (b0 w) hb1
  go_wp2_with fail
  go_loopw [6, 7] (fun vc vd wr => ∃ c d : Int, vc = .int .i64 c ∧ vd = .int .i64 d ∧ 0 < c ∧ c ≤ 1099511627776 ∧ 0 ≤ d ∧ d ≤ 1099511627776 ∧ Hid (Int.gcd c d = G) ∧ Below w.heap.size w wr)
    (fun _ vd _ => (intOf vd).toNat)
  case atStart => exact ⟨a, n, by rw [HA.out], by rw [HN.out], by omega, A1, by omega, by omega, HG, hB1⟩
  case round =>
    obtain ⟨c, d, rfl, rfl, d0, d1, e0, e1, HC, hb0⟩ := hrel
    by_cases hd : 0 < d
    · have nz : ¬ d = 0 := by omega
      have r0 : 0 ≤ c % d := Int.emod_nonneg _ (by omega)
      have r1 : c % d < d := Int.emod_lt_of_pos _ hd
      have HT := hide (gcd_turn c d (by omega) hd)
      go_wp2_with fail
      refine Abs.wp_region_abs (Abs.cls0 _) [0, 1, 2, 3, 4, 5] (by kernel_rfl) (by kernel_rfl) (Below.refl _ _).drew ?_
      repeat (first | (refine Abs.step_pure rfl rfl (fun K hK => ?_); go_simp; (try go_bits); (first | refine hK _ _ ?_ | (simp only [↓IntWalk.iteOmega]; go_simp; (try go_bits); refine hK _ _ ?_)); clear hK K) | (refine Abs.step_load (v := ?_) rfl rfl (by kernel_rfl) rfl (fun w0 hI => ?_) (fun K hK => ?_); rotate_left; (· go_simp; rfl); (simp only [Act.put, List.setIfInBounds_toArray, List.set_cons_zero, List.set_cons_succ]; refine hK _ _ ?_; clear hK K)) | (refine Abs.step_skip rfl rfl (fun K hK => ?_); (simp only [Act.put, List.setIfInBounds_toArray, List.set_cons_zero, List.set_cons_succ]; refine hK _ _ ?_; clear hK K)))
      intro w3 hb3 hx0 hx1 hx2
      clear hx0 hx1 hx2
      simp only [Abs.T_setF, Abs.T_addA, Abs.T_push, Abs.T_start]
      have hB3 := bB hb0 hb3
      go_wp2
      go_roundw
      case rel => exact ⟨d, c % d, rfl, rfl, hd, e1, r0, by omega, HT.out.trans HC.out, hB3⟩
      case measure => simp [intOf]; omega
    · have hz : d = 0 := by omega
      subst hz
      have hc : c = G := by
        have := HC.out
        simp [Int.gcd] at this
        omega
      subst hc
      have nz : ¬ (G : Int) = 0 := by omega
      have hp := HP.out
      
      rw [HA.out] at hp
      
      have b1 : 0 ≤ a0 % 1099511627776 ∧ a0 % 1099511627776 < 1099511627776 := by omega
      have b2 : 0 ≤ m0 % 256 ∧ m0 % 256 < 256 := by omega
      obtain ⟨b1, b3⟩ := b1
      obtain ⟨b2, b4⟩ := b2
      go_wp2_with fail
      refine Abs.wp_region_abs (Abs.cls0 _) [0, 1, 2, 3, 4, 5, 6, 7] (by kernel_rfl) (by kernel_rfl) (Below.refl _ _).drew ?_
      repeat (first | (refine Abs.step_pure rfl rfl (fun K hK => ?_); go_simp; (try go_bits); (first | refine hK _ _ ?_ | (simp only [↓IntWalk.iteOmega]; go_simp; (try go_bits); refine hK _ _ ?_)); clear hK K) | (refine Abs.step_load (v := ?_) rfl rfl (by kernel_rfl) rfl (fun w0 hI => ?_) (fun K hK => ?_); rotate_left; (· go_simp; rfl); (simp only [Act.put, List.setIfInBounds_toArray, List.set_cons_zero, List.set_cons_succ]; refine hK _ _ ?_; clear hK K)) | (refine Abs.step_skip rfl rfl (fun K hK => ?_); (simp only [Act.put, List.setIfInBounds_toArray, List.set_cons_zero, List.set_cons_succ]; refine hK _ _ ?_; clear hK K)))
      intro w5 hb5 hx0 hx1 hx2
      clear hx0 hx1 hx2
      simp only [Abs.T_setF, Abs.T_addA, Abs.T_push, Abs.T_start]
      have hB5 := bB hb0 hb5
      clear hp
      go_wp2_with fail
      refine (c1 _).mono ?_
      rintro e w6 ⟨rfl, hb6⟩
      have hB6 := bB hB5 hb6
      go_wp2_with fail
      refine (c2 _).mono ?_
      rintro e w7 ⟨rfl, hb7⟩
      have hB7 := bB hB6 hb7
      go_wp2_with fail
      refine (c3 _).mono ?_
      rintro e w8 ⟨rfl, hb8⟩
      have hB8 := bB hB7 hb8
      have hy := HY.out
      go_wp2_with fail
      have f_s9 := (na w8 #[.int .i64 (hi F), .int .u64 (lo F)] 46)
      have hB9 := (bA hB8 (.cells #[.int .i64 (hi F), .int .u64 (lo F)] 46))
      have ls9 := (rcell f_s9).2.2
      refine Abs.wp_region_abs (Abs.cls0 _) [0, 1, 2, 3, 4, 5, 6, 7, 8, 9, 10, 11, 12] (by kernel_rfl) (by kernel_rfl) (Below.refl _ _).drew ?_
      repeat (first | (refine Abs.step_pure rfl rfl (fun K hK => ?_); go_simp; (try go_bits); (first | refine hK _ _ ?_ | (simp only [↓IntWalk.iteOmega]; go_simp; (try go_bits); refine hK _ _ ?_)); clear hK K) | (refine Abs.step_load (v := ?_) rfl rfl (by kernel_rfl) rfl (fun w0 hI => ?_) (fun K hK => ?_); rotate_left; (· have z0 := (rcell (kp hI (f_s9))).1; go_simp; rfl); (simp only [Act.put, List.setIfInBounds_toArray, List.set_cons_zero, List.set_cons_succ]; refine hK _ _ ?_; clear hK K)) | (refine Abs.step_skip rfl rfl (fun K hK => ?_); (simp only [Act.put, List.setIfInBounds_toArray, List.set_cons_zero, List.set_cons_succ]; refine hK _ _ ?_; clear hK K)))
      (refine Abs.step_call_val (f := ?_) (args := ?_) (v := ?_) rfl rfl rfl rfl (fun w0 => ?_) (fun w0 hI => ?_) (fun K hK => ?_); rotate_left 3; (· go_simp; (constructor <;> rfl)); (· exact c4 _); (simp only [Act.put, List.setIfInBounds_toArray, List.set_cons_zero, List.set_cons_succ]; refine hK _ _ ?_; clear hK K))
      repeat (first | (refine Abs.step_pure rfl rfl (fun K hK => ?_); go_simp; (try go_bits); (first | refine hK _ _ ?_ | (simp only [↓IntWalk.iteOmega]; go_simp; (try go_bits); refine hK _ _ ?_)); clear hK K) | (refine Abs.step_load (v := ?_) rfl rfl (by kernel_rfl) rfl (fun w0 hI => ?_) (fun K hK => ?_); rotate_left; (· have z0 := (rcell (kp hI (f_s9))).1; go_simp; rfl); (simp only [Act.put, List.setIfInBounds_toArray, List.set_cons_zero, List.set_cons_succ]; refine hK _ _ ?_; clear hK K)) | (refine Abs.step_skip rfl rfl (fun K hK => ?_); (simp only [Act.put, List.setIfInBounds_toArray, List.set_cons_zero, List.set_cons_succ]; refine hK _ _ ?_; clear hK K)))
      intro w10 hb10 hx0 hx1 hx2
      clear hx0 hx1 hx2
      simp only [Abs.T_setF, Abs.T_addA, Abs.T_push, Abs.T_start]
      have f_s10 := kp hb10 (f_s9)
      have hB10 := bB hB9 hb10
      obtain ⟨zs_a, zs_b, ls10⟩ := rcell f_s10
      go_wp2
      go_ret
      exact ⟨by simp, hB10⟩
theorem fsum_reciprocal (a0 m0 : Int) (ha2 : a0 < 9223372036854775808) (hm2 : m0 < 9223372036854775808) (w : World) :
    Calls Try.prog 17 #[.int .i64 a0, .int .i64 m0] w fun e w' => e = .returned (.bool true) ∧ Below w.heap.size w w' := by
  have key : ∀ a n : Int, 1 ≤ a → a ≤ 1099511627776 → 1 ≤ n → n ≤ 256 → 0 < Int.gcd a n ∧ (1 ≤ a / (Int.gcd a n : Int) ∧ a / (Int.gcd a n : Int) ≤ 1099511627776) ∧ (1 ≤ n / (Int.gcd a n : Int) ∧ n / (Int.gcd a n : Int) ≤ 256) ∧
      (0 ≤ (a / (Int.gcd a n : Int) - 1) * (n / (Int.gcd a n : Int) - 1) ∧ (a / (Int.gcd a n : Int) - 1) * (n / (Int.gcd a n : Int) - 1) ≤ 281474976710656) ∧
      fl (n / (Int.gcd a n : Int)).toNat (a / (Int.gcd a n : Int)) 0 (n / (Int.gcd a n : Int)) = (a / (Int.gcd a n : Int) - 1) * (n / (Int.gcd a n : Int) - 1) / 2 := by
    intro a n A0 A1 N0 N1
    obtain ⟨x, rfl⟩ := Int.eq_ofNat_of_zero_le (show 0 ≤ a by omega)
    obtain ⟨y, rfl⟩ := Int.eq_ofNat_of_zero_le (show 0 ≤ n by omega)
    have e : Int.gcd (x : Int) (y : Int) = Nat.gcd x y := by simp [Int.gcd]
    rw [e]
    have G0 : 0 < Nat.gcd x y := Nat.gcd_pos_of_pos_left _ (by omega)
    have k1 : 0 < x / Nat.gcd x y := Nat.div_pos (Nat.le_of_dvd (by omega) (Nat.gcd_dvd_left x y)) G0
    have k2 : 0 < y / Nat.gcd x y := Nat.div_pos (Nat.le_of_dvd (by omega) (Nat.gcd_dvd_right x y)) G0
    have k3 : x / Nat.gcd x y ≤ x := Nat.div_le_self _ _
    have k4 : y / Nat.gcd x y ≤ y := Nat.div_le_self _ _
    have k5 : Nat.gcd (x / Nat.gcd x y) (y / Nat.gcd x y) = 1 := Nat.gcd_div_gcd_div_gcd_of_pos_left (by omega)
    rw [← Int.natCast_ediv, ← Int.natCast_ediv]
    generalize x / Nat.gcd x y = p at *
    generalize y / Nat.gcd x y = q at *
    have h := fl_recip q p k2 k5
    have z1 : 0 ≤ ((p : Int) - 1) * ((q : Int) - 1) := Int.mul_nonneg (by omega) (by omega)
    have z2 : ((p : Int) - 1) * ((q : Int) - 1) ≤ 1099511627776 * 256 := Int.mul_le_mul (by omega) (by omega) (by omega) (by omega)
    refine ⟨G0, ⟨by omega, by omega⟩, ⟨by omega, by omega⟩, ⟨z1, by omega⟩, ?_⟩
    rw [Int.toNat_natCast]
    omega
  have go : ∀ a n : Int, 1 ≤ a → a ≤ 1099511627776 → 1 ≤ n → n ≤ 256 → ∃ (p q F y : Int) (G : Nat), Int.gcd a n = G ∧ 0 < G ∧ a / (G : Int) = p ∧ n / (G : Int) = q ∧ 1 ≤ p ∧ p ≤ 1099511627776 ∧ 1 ≤ q ∧ q ≤ 256 ∧ (p - 1) * (q - 1) = y ∧ 0 ≤ y ∧ y ≤ 281474976710656 ∧
      (∀ w : World, Calls Try.prog 50 #[.int .i64 p] w fun e w' => e = .returned (.agg #[.int .i64 (hi p), .int .u64 (lo p)]) ∧ Below w.heap.size w w') ∧
      (∀ w : World, Calls Try.prog 48 #[.agg #[.int .i64 q, .int .i64 (hi p), .int .u64 (lo p), .int .i64 (hi 0), .int .u64 (lo 0), .int .i64 q]] w fun e w' => e = .returned (.tuple #[.agg #[.int .i64 (hi F), .int .u64 (lo F)], .bool true]) ∧ Below w.heap.size w w') ∧
      (∀ w : World, Calls Try.prog 50 #[.int .i64 (y / 2)] w fun e w' => e = .returned (.agg #[.int .i64 (hi F), .int .u64 (lo F)]) ∧ Below w.heap.size w w') := by
    intro a n A0 A1 N0 N1
    obtain ⟨g0, ⟨p0, p1⟩, ⟨q0, q1⟩, ⟨y0, y1⟩, hF⟩ := key a n A0 A1 N0 N1
    have c3 := law6_asks (n / (Int.gcd a n : Int)) (a / (Int.gcd a n : Int)) 0 (n / (Int.gcd a n : Int)) ⟨by omega, by omega, by omega, by omega, by decide, by decide, q0, by omega⟩
    rw [hF] at c3
    exact ⟨_, _, _, _, _, rfl, g0, rfl, rfl, p0, p1, q0, q1, rfl, y0, y1, law6_low _ (by omega) (by omega), c3, law6_low _ (by omega) (by omega)⟩
  have c2 := law6_low 0 (by decide) (by decide)
  by_cases h1 : 0 ≤ a0 <;> by_cases h2 : 0 ≤ m0
  · obtain ⟨p, q, F, y, G, hG, G0, hp, hq, p0, p1, q0, q1, hy, y0, y1, c1, c3, c4⟩ := go (a0 % 1099511627776 + 1) (m0 % 256 + 1) (by omega) (by omega) (by omega) (by omega)
    exact recip_pp a0 m0 _ _ p q F y G ha2 hm2 h1 rfl h2 rfl (by omega) (by omega) (by omega) (by omega) hG G0 hp hq p0 p1 q0 q1 hy y0 y1 c1 c2 c3 c4 w
  · obtain ⟨p, q, F, y, G, hG, G0, hp, hq, p0, p1, q0, q1, hy, y0, y1, c1, c3, c4⟩ := go (a0 % 1099511627776 + 1) 1 (by omega) (by omega) (by omega) (by omega)
    exact recip_pz a0 m0 _ _ p q F y G ha2 hm2 h1 rfl (by omega) rfl (by omega) (by omega) (by omega) (by omega) hG G0 hp hq p0 p1 q0 q1 hy y0 y1 c1 c2 c3 c4 w
  · obtain ⟨p, q, F, y, G, hG, G0, hp, hq, p0, p1, q0, q1, hy, y0, y1, c1, c3, c4⟩ := go 1 (m0 % 256 + 1) (by omega) (by omega) (by omega) (by omega)
    exact recip_zp a0 m0 _ _ p q F y G ha2 hm2 (by omega) rfl h2 rfl (by omega) (by omega) (by omega) (by omega) hG G0 hp hq p0 p1 q0 q1 hy y0 y1 c1 c2 c3 c4 w
  · obtain ⟨p, q, F, y, G, hG, G0, hp, hq, p0, p1, q0, q1, hy, y0, y1, c1, c3, c4⟩ := go 1 1 (by omega) (by omega) (by omega) (by omega)
    obtain rfl : q = p := hq.symm.trans hp
    exact recip_zz a0 m0 _ _ q F y G ha2 hm2 (by omega) rfl (by omega) rfl (by omega) (by omega) (by omega) (by omega) hG G0 hp p0 p1 q1 hy y0 y1 c1 c2 c3 c4 w
end Go.Proofs.Ytlgjapjcdpikeaa
