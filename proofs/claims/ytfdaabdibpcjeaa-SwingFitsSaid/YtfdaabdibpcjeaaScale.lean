/- The package wide at this program, on: Scale where the product fits. -/
import Derived.Test.YtfdaabdibpcjeaaWakes5
set_option linter.unusedSimpArgs false
set_option linter.unusedVariables false
namespace Go.Proofs.Ytfdaabdibpcjeaa
open Go.RowKit

/-- the words of a product of sizes -/
theorem scale_math (p q : Int) (hp : 0 ≤ p) (hp2 : p ≤ 170141183460469231731687303715884105728) (hq : 0 ≤ q) (hq2 : q ≤ 9223372036854775808) (h : p * q ≤ 170141183460469231731687303715884105728) :
    lo p * q / 18446744073709551616 + hi p * q = hi (p * q) ∧ lo p * q % 18446744073709551616 = lo (p * q) ∧ hi p * q < 18446744073709551616 ∧ 0 ≤ hi p * q ∧ 0 ≤ lo p * q ∧ hi (p * q) < 18446744073709551616 := by
  have e : p * q = (hi p * q) * 18446744073709551616 + lo p * q := by
    have e1 : p = hi p * 18446744073709551616 + lo p := by unfold hi lo; omega
    conv => lhs; rw [e1]
    rw [Int.add_mul]
    ac_rfl
  have l1 : 0 ≤ lo p := by unfold lo; omega
  have l2 : 0 ≤ hi p := by unfold hi; omega
  have k1 : 0 ≤ hi p * q := Int.mul_nonneg l2 hq
  have k2 : 0 ≤ lo p * q := Int.mul_nonneg l1 hq
  generalize hi p * q = x at *
  generalize lo p * q = y at *
  unfold hi lo
  rw [e] at h ⊢
  refine ⟨by omega, by omega, by omega, k1, k2, by omega⟩

/-- the facts of the middle, named -/
theorem scale_mid (p q : Int) (hp : 0 ≤ p) (hp2 : p ≤ 170141183460469231731687303715884105728) (hq : 0 ≤ q) (hq2 : q ≤ 9223372036854775808) (h : p * q ≤ 170141183460469231731687303715884105728) :
    ∃ CA MI : Int, (∀ w, Calls Try.prog 72 #[.int .u64 (lo p), .int .u64 q] w fun e w' => e = .returned (.tuple #[.int .u64 CA, .int .u64 (lo (p * q))]) ∧ w = w') ∧
      (∀ w, Calls Try.prog 72 #[.int .u64 (hi p), .int .u64 q] w fun e w' => e = .returned (.tuple #[.int .u64 0, .int .u64 MI]) ∧ w = w') ∧
      (∀ w, (callFunc 99 #[.int .u64 MI, .int .u64 CA, .int .u64 0]).run Try.prog w = .ok (.value (.tuple #[.int .u64 (hi (p * q)), .int .u64 0])) w) := by
  obtain ⟨m1, m2, m3, m4, m5, m6⟩ := scale_math p q hp hp2 hq hq2 h
  have b1 := lo_lo p
  have b2 : 0 ≤ hi p ∧ hi p < 18446744073709551616 := by unfold hi; omega
  have b3 : 0 ≤ hi (p * q) := by have := Int.mul_nonneg hp hq; unfold hi; omega
  have c4 := mul64 (lo p) q b1.1 b1.2 hq (by omega)
  have c5 := mul64 (hi p) q b2.1 b2.2 hq (by omega)
  have d := add64_0 (hi p * q) (lo p * q / 18446744073709551616) m4 (Int.ediv_nonneg m5 (by decide))
  rw [m2] at c4
  generalize hi p * q = x at *
  generalize lo p * q / 18446744073709551616 = y at *
  generalize hi (p * q) = z at *
  rw [show x / 18446744073709551616 = 0 from Int.ediv_eq_zero_of_lt m4 m3, show x % 18446744073709551616 = x from Int.emod_eq_of_lt m4 m3] at c5
  have e : x + y = z := by omega
  rw [e, show z / 18446744073709551616 = 0 from Int.ediv_eq_zero_of_lt b3 m6, show z % 18446744073709551616 = z from Int.emod_eq_of_lt b3 m6] at d
  exact ⟨_, _, c4, c5, d⟩

theorem lo_self (q : Int) (h : 0 ≤ q) (h2 : q < 18446744073709551616) : lo q = q := Int.emod_eq_of_lt h h2

end Go.Proofs.Ytfdaabdibpcjeaa
