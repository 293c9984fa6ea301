/- math/bits.LeadingZeros64 and Div64 at this program: what they come to. -/
import Derived.Test.YtfdaabdibpcjeaaLen
import Derived.Test.YtfdaabdibpcjeaaKnuth
import Derived.Test.YtfdaabdibpcjeaaShift
set_option linter.unusedSimpArgs false
set_option linter.unusedVariables false
namespace Go.Proofs.Ytfdaabdibpcjeaa
open Go.RowKit

theorem lz64 (y : Int) (h0 : 1 ≤ y) (h1 : y < 18446744073709551616) (w : World) :
    Calls Try.prog 102 #[.int .u64 y] w fun e w' => ∃ s : Nat, e = .returned (.int .i64 s) ∧ s ≤ 63 ∧ 9223372036854775808 ≤ y * 2 ^ s ∧ y * 2 ^ s < 18446744073709551616 ∧ w = w' := by
  go_enter Try.func102, Try.ntmps102
  go_wp2_with (go_at_call 103; refine (len64 y h0 h1 _).mono ?_; rintro e w' ⟨n, rfl, n1, n2, n3, n4, rfl⟩; have N3 := hide n3; have N4 := hide n4; clear n3 n4)
  go_ret
  refine ⟨64 - n, ?_, by omega, ?_, ?_, rfl⟩
  · show Ending.returned (.int .i64 (64 - (n : Int))) = _
    rw [show (64 : Int) - n = ((64 - n : Nat) : Int) by omega]
  · have e : (9223372036854775808 : Int) = 2 ^ (n - 1) * 2 ^ (64 - n) := by
      rw [← Int.pow_add, show n - 1 + (64 - n) = 63 by omega]; rfl
    rw [e]
    exact Int.mul_le_mul_of_nonneg_right N3.out (Int.le_of_lt (Int.pow_pos (by decide)))
  · have e : (18446744073709551616 : Int) = 2 ^ n * 2 ^ (64 - n) := by
      rw [← Int.pow_add, show n + (64 - n) = 64 by omega]; rfl
    rw [e]
    exact Int.mul_lt_mul_of_pos_right N4.out (Int.pow_pos (by decide))

set_option maxHeartbeats 1000000 in
theorem div64_0 (x0 y : Int) (h0 : 0 ≤ x0) (h0' : x0 < 18446744073709551616) (hy : 0 < y) (hy' : y < 18446744073709551616) (w : World) :
    Calls Try.prog 101 #[.int .u64 0, .int .u64 x0, .int .u64 y] w fun e w' => e = .returned (.tuple #[.int .u64 (x0 / y), .int .u64 (x0 % y)]) ∧ Below w.heap.size w w' := by
  have b1 : (y == 0) = false := by simp; omega
  have b2 : ¬ y ≤ 0 := by omega
  have b4 : ¬ y = 0 := by omega
  go_enter Try.func101, Try.ntmps101
  go_wp2
  refine Abs.wp_region_abs (Abs.cls0 _) [0, 1, 2, 3, 4, 5, 6, 7] (by kernel_rfl) (by kernel_rfl) (Below.refl _ _).drew ?_
  repeat (first | (refine Abs.step_pure rfl rfl (fun K hK => ?_); go_simp; (try go_bits); (first | refine hK _ _ ?_ | (simp only [↓IntWalk.iteOmega]; go_simp; (try go_bits); refine hK _ _ ?_)); clear hK K) | (refine Abs.step_load (v := ?_) rfl rfl (by kernel_rfl) rfl (fun w0 hI => ?_) (fun K hK => ?_); rotate_left; (· go_simp; rfl); (simp only [Act.put, List.setIfInBounds_toArray, List.set_cons_zero, List.set_cons_succ]; refine hK _ _ ?_; clear hK K)) | (refine Abs.step_skip rfl rfl (fun K hK => ?_); (simp only [Act.put, List.setIfInBounds_toArray, List.set_cons_zero, List.set_cons_succ]; refine hK _ _ ?_; clear hK K)))
  (intro w0 hI hx0 hx1 hx2; clear hx0 hx1 hx2; simp only [Abs.T_setF, Abs.T_addA, Abs.T_push, Abs.T_start])
  go_wp2
  go_ret2
  exact ⟨rfl, hI⟩

theorem word_parts (L : Int) (h0 : 0 ≤ L) (h1 : L < 18446744073709551616) : ∃ a b : Int, L / 4294967296 = a ∧ bits .and .u64 L 4294967295 = b ∧ L = a * 4294967296 + b ∧ 0 ≤ a ∧ a < 4294967296 ∧ 0 ≤ b ∧ b < 4294967296 := by
  obtain ⟨n, rfl⟩ := Int.eq_ofNat_of_zero_le h0
  refine ⟨(n : Int) / 4294967296, ((n % 4294967296 : Nat) : Int), rfl, Mul64.maskN n (by omega), by omega, by omega, by omega, by omega, by omega⟩

theorem div_fin (N y Y U L L1 L0 Q1 Q2 R1 R2 : Int) (s : Nat) (hy : 0 < y) (hY : y * 2 ^ s = Y) (h3 : U * 18446744073709551616 + L = N * 2 ^ s) (hL : L = L1 * 4294967296 + L0)
    (e1 : U * 4294967296 + L1 = Q1 * Y + R1) (e0 : R1 * 4294967296 + L0 = Q2 * Y + R2) (hr : 0 ≤ R2) (hr' : R2 < Y) : N / y = Q1 * 4294967296 + Q2 ∧ N % y = R2 / 2 ^ s := by
  have hp : (0 : Int) < 2 ^ s := Int.pow_pos (by decide)
  obtain ⟨g1, g2⟩ := Knuth.quo (N := N * 2 ^ s) hr hr' (Knuth.two (un := U) (u1 := L1) (u0 := L0) (by rw [← h3, hL]; omega) e1 e0)
  rw [← hY] at g1 g2
  rw [Int.mul_ediv_mul_of_pos_left _ _ hp] at g1
  have g3 : N * 2 ^ s % (y * 2 ^ s) = N % y * 2 ^ s := by
    rw [Int.mul_comm N, Int.mul_comm y, Int.mul_emod_mul_of_pos _ _ hp, Int.mul_comm]
  rw [g3] at g2
  exact ⟨g1, by rw [← g2, Int.mul_ediv_cancel _ (by omega)]⟩

set_option maxHeartbeats 2000000 in
theorem div64_1 (x1 x0 y : Int) (h1 : 0 < x1) (h1' : x1 < y) (h0 : 0 ≤ x0) (h0' : x0 < 18446744073709551616) (hy' : y < 18446744073709551616) (w : World) :
    Calls Try.prog 101 #[.int .u64 x1, .int .u64 x0, .int .u64 y] w fun e w' => e = .returned (.tuple #[.int .u64 ((x1 * 18446744073709551616 + x0) / y), .int .u64 ((x1 * 18446744073709551616 + x0) % y)]) ∧ Below w.heap.size w w' := by
  have b1 : (y == 0) = false := by simp; omega
  have b2 : ¬ y ≤ x1 := by omega
  have b3 : (x1 == 0) = false := by simp; omega
  go_enter Try.func101, Try.ntmps101
  go_wp2_with fail
  refine (lz64 y (by omega) hy' _).mono ?_
  rintro e w' ⟨s, rfl, hs, m1, m2, rfl⟩
  obtain ⟨U, L, f1, f2, f3, f4, f5, f6, f7⟩ := shift_facts x1 x0 y s hs (by omega) h1' h0 h0' m2
  obtain ⟨Y, hYe⟩ : ∃ Y : Int, y * 2 ^ s = Y := ⟨_, rfl⟩
  rw [hYe] at m1 m2 f5
  have e1 : IntKind.u64.wrap (y * 2 ^ s) = Y := by rw [hYe, IntKind.wrap_u64]; omega
  obtain ⟨Y1, Y0, p1, p2, p3, p4, p5, p6, p7⟩ := word_parts Y (by omega) m2
  obtain ⟨L1, L0, l1, l2, l3, l4, l5, l6, l7⟩ := word_parts L f6 f7
  have c1 : 1 ≤ Y1 := by omega
  have cx : Knuth.Cx U L1 Y Y1 Y0 := ⟨p3, by omega, p5, p6, p7, f4, f5, l4, l5⟩
  have k1 := Knuth.start_top cx
  have k2 : U.tdiv Y1 = U / Y1 := Int.tdiv_eq_ediv_of_nonneg f4
  obtain ⟨q0, k3⟩ : ∃ q0, U / Y1 = q0 := ⟨_, rfl⟩
  have k4 : 0 ≤ q0 := by rw [← k3]; exact Int.ediv_nonneg f4 (by omega)
  obtain ⟨pr, k5⟩ : ∃ pr, q0 * Y1 = pr := ⟨_, rfl⟩
  have k6 : 0 ≤ pr := by rw [← k5]; exact Int.mul_nonneg k4 (by omega)
  have k7 : pr ≤ U := by rw [← k5, ← k3]; exact Int.ediv_mul_le _ (by omega)
  have k8 : U - pr < 4294967296 := by
    have e := Knuth.start_rest (u := U) (y1 := Y1)
    rw [k3, k5] at e
    have := Int.emod_lt_of_pos U (show 0 < Y1 by omega)
    omega
  rw [k3] at k1 k2
  have HY := hide hYe; have H3 := hide f3; have HP := hide p3; have HL := hide l3; have HC := hide cx; have HK3 := hide k3; have HK5 := hide k5
  clear hYe f3 p3 l3 cx
  go_upto_block 0 with fail
  obtain ⟨Q1, hQ1e⟩ : ∃ Q1, (U * 4294967296 + L1) / Y = Q1 := ⟨_, rfl⟩
  have HD1 := hide (Knuth.dig_div (u := U) (d := L1) (y := Y) (by omega))
  rw [hQ1e] at HD1
  have hs1 := Knuth.start_le HC.out HD1.out
  rw [HK3.out] at hs1
  have hQ10 := Knuth.q_nn HC.out HD1.out
  have hQ11 := Knuth.q_lt HC.out HD1.out
  have HQ1E := hide hQ1e
  clear hQ1e

  go_cut [15] (fun s15 wx => s15 = .int .u64 Q1 ∧ w = wx)
  case first =>
    go_wp2_with fail
    go_loopg [15, 16] q0.toNat (fun g s15 s16 wx => w = wx ∧ ∃ q r : Int, s15 = .int .u64 q ∧ s16 = .int .u64 r ∧ g = q.toNat ∧ Q1 ≤ q ∧ q ≤ 4294967297 ∧ 0 ≤ r ∧ r < 4294967296 ∧ Hid (r = U - q * Y1))
    case atStart => exact ⟨rfl, q0, U - pr, rfl, rfl, rfl, hs1, k1, by omega, k8, by rw [Hid, HK5.out]⟩
    case round =>
      obtain ⟨rfl, q, r, rfl, rfl, hg, hQq, hq1, hr0, hr1, HR⟩ := hrel
      have HG := hide hg
      clear hg
      have hq0 : 0 ≤ q := by omega
      by_cases hq : 4294967296 ≤ q
      · have hle : Q1 ≤ q - 1 := Knuth.step_le HC.out HD1.out HR.out (.inl hq) hQq
        go_wp2
        · go_meet
          exact ⟨congrArg (Value.int .u64) (Knuth.break_eq HC.out HD1.out (r := r + Y1) (by rw [HR.out, Int.sub_mul]; omega) (by assumption) hle (by omega)), rfl⟩
        · go_roundg (q - 1).toNat
          case measure => rw [HG.out]; omega
          case rel => exact ⟨rfl, q - 1, r + Y1, rfl, rfl, rfl, hle, by omega, by omega, by assumption, by rw [Hid, HR.out, Int.sub_mul]; omega⟩
      · obtain ⟨pp, hpp⟩ : ∃ pp, q * Y0 = pp := ⟨_, rfl⟩
        have hp0 : 0 ≤ pp := by rw [← hpp]; exact Int.mul_nonneg hq0 p6
        have hp1 : pp ≤ 4294967295 * 4294967295 := by rw [← hpp]; exact Int.mul_le_mul (by omega) (by omega) p6 (by decide)
        by_cases hgt : 4294967296 * r + L1 < pp
        · have hle : Q1 ≤ q - 1 := Knuth.step_le HC.out HD1.out HR.out (.inr (by rw [hpp]; exact hgt)) hQq
          go_wp2
          · go_meet
            exact ⟨congrArg (Value.int .u64) (Knuth.break_eq HC.out HD1.out (r := r + Y1) (by rw [HR.out, Int.sub_mul]; omega) (by assumption) hle (by omega)), rfl⟩
          · go_roundg (q - 1).toNat
            case measure => rw [HG.out]; omega
            case rel => exact ⟨rfl, q - 1, r + Y1, rfl, rfl, rfl, hle, by omega, by omega, by assumption, by rw [Hid, HR.out, Int.sub_mul]; omega⟩
        · have he : q = Q1 := Knuth.done_eq HC.out HD1.out HR.out (by rw [hpp]; omega) hQq
          have HE := hide he
          clear he
          go_wp2
          go_meet
          exact ⟨congrArg (Value.int .u64) HE.out, rfl⟩
  case rest =>
    obtain ⟨rfl, rfl⟩ := hcut
    obtain ⟨P1, hP1⟩ : ∃ P1, Q1 * Y = P1 := ⟨_, rfl⟩
    have hd1 := HD1.out.1
    have hd2 := HD1.out.2
    rw [Int.add_mul, Int.one_mul] at hd2
    rw [hP1] at hd1 hd2
    obtain ⟨R1, hR1⟩ : ∃ R1, U * 4294967296 + L1 - P1 = R1 := ⟨_, rfl⟩
    have r0 : 0 ≤ R1 := by omega
    have r1 : R1 < Y := by omega
    have eR : IntKind.u64.wrap (IntKind.u64.wrap (IntKind.u64.wrap (U * 4294967296) + L1) - IntKind.u64.wrap P1) = R1 := by simp only [IntKind.wrap_u64]; omega
    have hE1 : U * 4294967296 + L1 = Q1 * Y + R1 := by rw [hP1]; omega
    have HE1 := hide hE1
    have HR1 := hide hR1
    have cx2 : Knuth.Cx R1 L0 Y Y1 Y0 := ⟨HP.out, by omega, p5, p6, p7, r0, r1, l6, l7⟩
    have u1 := Knuth.start_top cx2
    have u2 : R1.tdiv Y1 = R1 / Y1 := Int.tdiv_eq_ediv_of_nonneg r0
    obtain ⟨q2, u3⟩ : ∃ q2, R1 / Y1 = q2 := ⟨_, rfl⟩
    have u4 : 0 ≤ q2 := by rw [← u3]; exact Int.ediv_nonneg r0 (by omega)
    obtain ⟨pr2, u5⟩ : ∃ pr2, q2 * Y1 = pr2 := ⟨_, rfl⟩
    have u6 : 0 ≤ pr2 := by rw [← u5]; exact Int.mul_nonneg u4 (by omega)
    have u7 : pr2 ≤ R1 := by rw [← u5, ← u3]; exact Int.ediv_mul_le _ (by omega)
    have u8 : R1 - pr2 < 4294967296 := by
      have e := Knuth.start_rest (u := R1) (y1 := Y1)
      rw [u3, u5] at e
      have := Int.emod_lt_of_pos R1 (show 0 < Y1 by omega)
      omega
    rw [u3] at u1 u2
    have HC2 := hide cx2; have HU3 := hide u3; have HU5 := hide u5
    clear hR1 hE1 cx2
    go_upto_block 2 with fail
    obtain ⟨Q2, hQ2e⟩ : ∃ Q2, (R1 * 4294967296 + L0) / Y = Q2 := ⟨_, rfl⟩
    have HD2 := hide (Knuth.dig_div (u := R1) (d := L0) (y := Y) (by omega))
    rw [hQ2e] at HD2
    have hs2 := Knuth.start_le HC2.out HD2.out
    rw [HU3.out] at hs2
    have hQ20 := Knuth.q_nn HC2.out HD2.out
    have hQ21 := Knuth.q_lt HC2.out HD2.out
    have HQ2E := hide hQ2e
    clear hQ2e

    go_cut [18] (fun s15 wx => s15 = .int .u64 Q2 ∧ w = wx)
    case first =>
      go_wp2_with fail
      go_loopg [18, 16] q2.toNat (fun g s15 s16 wx => w = wx ∧ ∃ q r : Int, s15 = .int .u64 q ∧ s16 = .int .u64 r ∧ g = q.toNat ∧ Q2 ≤ q ∧ q ≤ 4294967297 ∧ 0 ≤ r ∧ r < 4294967296 ∧ Hid (r = R1 - q * Y1))
      case atStart => exact ⟨rfl, q2, R1 - pr2, rfl, rfl, rfl, hs2, u1, by omega, u8, by rw [Hid, HU5.out]⟩
      case round =>
        obtain ⟨rfl, q, r, rfl, rfl, hg, hQq, hq1, hr0, hr1, HR⟩ := hrel
        have HG := hide hg
        clear hg
        have hq0 : 0 ≤ q := by omega
        by_cases hq : 4294967296 ≤ q
        · have hle : Q2 ≤ q - 1 := Knuth.step_le HC2.out HD2.out HR.out (.inl hq) hQq
          go_wp2
          · go_meet
            exact ⟨congrArg (Value.int .u64) (Knuth.break_eq HC2.out HD2.out (r := r + Y1) (by rw [HR.out, Int.sub_mul]; omega) (by assumption) hle (by omega)), rfl⟩
          · go_roundg (q - 1).toNat
            case measure => rw [HG.out]; omega
            case rel => exact ⟨rfl, q - 1, r + Y1, rfl, rfl, rfl, hle, by omega, by omega, by assumption, by rw [Hid, HR.out, Int.sub_mul]; omega⟩
        · obtain ⟨pp, hpp⟩ : ∃ pp, q * Y0 = pp := ⟨_, rfl⟩
          have hp0 : 0 ≤ pp := by rw [← hpp]; exact Int.mul_nonneg hq0 p6
          have hp1 : pp ≤ 4294967295 * 4294967295 := by rw [← hpp]; exact Int.mul_le_mul (by omega) (by omega) p6 (by decide)
          by_cases hgt : 4294967296 * r + L0 < pp
          · have hle : Q2 ≤ q - 1 := Knuth.step_le HC2.out HD2.out HR.out (.inr (by rw [hpp]; exact hgt)) hQq
            go_wp2
            · go_meet
              exact ⟨congrArg (Value.int .u64) (Knuth.break_eq HC2.out HD2.out (r := r + Y1) (by rw [HR.out, Int.sub_mul]; omega) (by assumption) hle (by omega)), rfl⟩
            · go_roundg (q - 1).toNat
              case measure => rw [HG.out]; omega
              case rel => exact ⟨rfl, q - 1, r + Y1, rfl, rfl, rfl, hle, by omega, by omega, by assumption, by rw [Hid, HR.out, Int.sub_mul]; omega⟩
          · have he : q = Q2 := Knuth.done_eq HC2.out HD2.out HR.out (by rw [hpp]; omega) hQq
            have HE := hide he
            clear he
            go_wp2
            go_meet
            exact ⟨congrArg (Value.int .u64) HE.out, rfl⟩
    case rest =>
      obtain ⟨rfl, rfl⟩ := hcut
      obtain ⟨P2, hP2⟩ : ∃ P2, Q2 * Y = P2 := ⟨_, rfl⟩
      have hd3 := HD2.out.1
      have hd4 := HD2.out.2
      rw [Int.add_mul, Int.one_mul] at hd4
      rw [hP2] at hd3 hd4
      obtain ⟨R2, hR2⟩ : ∃ R2, R1 * 4294967296 + L0 - P2 = R2 := ⟨_, rfl⟩
      have v0 : 0 ≤ R2 := by omega
      have v1 : R2 < Y := by omega
      have eR2 : IntKind.u64.wrap (IntKind.u64.wrap (IntKind.u64.wrap (R1 * 4294967296) + L0) - IntKind.u64.wrap P2) = R2 := by simp only [IntKind.wrap_u64]; omega
      have hE2 : R1 * 4294967296 + L0 = Q2 * Y + R2 := by rw [hP2]; omega
      obtain ⟨w1, w2⟩ := div_fin (x1 * 18446744073709551616 + x0) y Y U L L1 L0 Q1 Q2 R1 R2 s (by omega) HY.out H3.out HL.out HE1.out hE2 v0 v1
      have W1 := hide w1
      have W2 := hide w2
      clear hE2 hR2 w1 w2
      go_wp2
      go_ret2
      rw [W1.out, W2.out]
      exact ⟨rfl, Below.refl _ _⟩

theorem div64 (x1 x0 y : Int) (h1 : 0 ≤ x1) (h1' : x1 < y) (h0 : 0 ≤ x0) (h0' : x0 < 18446744073709551616) (hy' : y < 18446744073709551616) (w : World) :
    Calls Try.prog 101 #[.int .u64 x1, .int .u64 x0, .int .u64 y] w fun e w' => e = .returned (.tuple #[.int .u64 ((x1 * 18446744073709551616 + x0) / y), .int .u64 ((x1 * 18446744073709551616 + x0) % y)]) ∧ Below w.heap.size w w' := by
  by_cases hx : x1 = 0
  · subst hx
    have := div64_0 x0 y h0 h0' h1' hy' w
    simpa using this
  · exact div64_1 x1 x0 y (by omega) h1' h0 h0' hy' w
end Go.Proofs.Ytfdaabdibpcjeaa
