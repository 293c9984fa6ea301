/- Plain arithmetic: two words, shifted. -/
import Derived.Test.YtfdaabdibpcjeaaBits
set_option linter.unusedSimpArgs false
set_option linter.unusedVariables false
namespace Go.Proofs.Ytfdaabdibpcjeaa
open Go.RowKit

theorem shift_nat (X1 X0 s : Nat) (hs : s ≤ 64) (h1 : X1 * 2 ^ s < 18446744073709551616) (h0 : X0 < 18446744073709551616) :
    (X1 * 2 ^ s ||| X0 / 2 ^ (64 - s)) * 18446744073709551616 + X0 * 2 ^ s % 18446744073709551616 = (X1 * 18446744073709551616 + X0) * 2 ^ s ∧ X0 / 2 ^ (64 - s) < 2 ^ s := by
  have e64 : 18446744073709551616 = 2 ^ (64 - s) * 2 ^ s := by rw [← Nat.pow_add, show 64 - s + s = 64 by omega]
  have hlt : X0 / 2 ^ (64 - s) < 2 ^ s := by
    rw [Nat.div_lt_iff_lt_mul (Nat.two_pow_pos _), Nat.mul_comm, ← e64]
    exact h0
  refine ⟨?_, hlt⟩
  have e1 : X1 * 2 ^ s ||| X0 / 2 ^ (64 - s) = X1 * 2 ^ s + X0 / 2 ^ (64 - s) := by
    rw [← Nat.shiftLeft_eq, ← Nat.shiftLeft_add_eq_or_of_lt hlt]
  have e2 : X0 / 2 ^ (64 - s) = X0 * 2 ^ s / 18446744073709551616 := by
    conv => rhs; rw [e64]
    rw [Nat.mul_div_mul_right _ _ (Nat.two_pow_pos _)]
  rw [e1, e2]
  have e3 := Nat.div_add_mod (X0 * 2 ^ s) 18446744073709551616
  generalize X0 * 2 ^ s / 18446744073709551616 = a at *
  generalize X0 * 2 ^ s % 18446744073709551616 = b at *
  rw [Nat.add_mul (X1 * 18446744073709551616), Nat.mul_right_comm X1]
  omega

theorem shift_facts (x1 x0 y : Int) (s : Nat) (hs : s ≤ 63) (h1 : 0 ≤ x1) (h1' : x1 < y) (h0 : 0 ≤ x0) (h0' : x0 < 18446744073709551616) (hy : y * 2 ^ s < 18446744073709551616) :
    ∃ U L : Int, bits .or .u64 (IntKind.u64.wrap (x1 * 2 ^ s)) (x0 / 2 ^ (64 - s)) = U ∧ IntKind.u64.wrap (x0 * 2 ^ s) = L ∧
      U * 18446744073709551616 + L = (x1 * 18446744073709551616 + x0) * 2 ^ s ∧ 0 ≤ U ∧ U < y * 2 ^ s ∧ 0 ≤ L ∧ L < 18446744073709551616 := by
  have hp : (0 : Int) < 2 ^ s := Int.pow_pos (by decide)
  have hlt : x1 * 2 ^ s < y * 2 ^ s := Int.mul_lt_mul_of_pos_right h1' hp
  obtain ⟨X1, rfl⟩ := Int.eq_ofNat_of_zero_le h1
  obtain ⟨X0, rfl⟩ := Int.eq_ofNat_of_zero_le h0
  have c1 : (X1 : Int) * 2 ^ s = ((X1 * 2 ^ s : Nat) : Int) := by simp
  have c0 : (X0 : Int) * 2 ^ s = ((X0 * 2 ^ s : Nat) : Int) := by simp
  have c2 : (X0 : Int) / 2 ^ (64 - s) = ((X0 / 2 ^ (64 - s) : Nat) : Int) := by simp
  have n1 : X1 * 2 ^ s < 18446744073709551616 := by rw [c1] at hlt; omega
  obtain ⟨k1, k2⟩ := shift_nat X1 X0 s (by omega) n1 (by omega)
  have n2 : X0 / 2 ^ (64 - s) < 18446744073709551616 := by
    have : X0 / 2 ^ (64 - s) ≤ X0 := Nat.div_le_self _ _
    omega
  have w1 : IntKind.u64.wrap ((X1 * 2 ^ s : Nat) : Int) = ((X1 * 2 ^ s : Nat) : Int) := by rw [IntKind.wrap_u64]; omega
  have w0 : IntKind.u64.wrap ((X0 * 2 ^ s : Nat) : Int) = ((X0 * 2 ^ s % 18446744073709551616 : Nat) : Int) := by rw [IntKind.wrap_u64]; omega
  refine ⟨((X1 * 2 ^ s ||| X0 / 2 ^ (64 - s) : Nat) : Int), ((X0 * 2 ^ s % 18446744073709551616 : Nat) : Int), ?_, ?_, ?_, by omega, ?_, by omega, by omega⟩
  · rw [c1, c2, w1]
    exact bits_or_u64_nat _ _ n1 n2
  · rw [c0, w0]
  · have e : ((X1 : Int) * 18446744073709551616 + X0) * 2 ^ s = (((X1 * 18446744073709551616 + X0) * 2 ^ s : Nat) : Int) := by simp
    rw [e, ← k1]
    omega
  · -- U * 2^64 + L = N * 2^s < y * 2^64 * 2^s
    have e : ((X1 : Int) * 18446744073709551616 + X0) * 2 ^ s = (((X1 * 18446744073709551616 + X0) * 2 ^ s : Nat) : Int) := by simp
    have hN : ((X1 : Int) * 18446744073709551616 + X0) * 2 ^ s < (y * 18446744073709551616) * 2 ^ s := Int.mul_lt_mul_of_pos_right (by omega) hp
    rw [e, ← k1, Int.mul_right_comm y] at hN
    omega
end Go.Proofs.Ytfdaabdibpcjeaa
