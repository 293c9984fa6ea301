/- The middle of two numbers by bits: plain arithmetic. -/
import Derived.Test.YtfdaabdibpcjeaaPmc
import Derived.IntWalk
set_option linter.unusedSimpArgs false
set_option linter.unusedVariables false
namespace Go.Proofs.Ytfdaabdibpcjeaa
open Go.RowKit

theorem nat_mid (n : Nat) : ∀ m : Nat, n + m = 2 * (n &&& m) + (n ^^^ m) := by
  induction n using Nat.strongRecOn with
  | _ n ih =>
    intro m
    by_cases h0 : n = 0
    · subst h0; simp
    · have h1 := ih (n / 2) (by omega) (m / 2)
      have e1 : (n &&& m) / 2 = n / 2 &&& m / 2 := Nat.and_div_two
      have e2 : (n ^^^ m) / 2 = n / 2 ^^^ m / 2 := Nat.xor_div_two
      have e3 : (n &&& m) % 2 = n % 2 &&& m % 2 := Nat.and_mod_two_pow (n := 1)
      have e4 : (n ^^^ m) % 2 = n % 2 ^^^ m % 2 := Nat.xor_mod_two_pow (n := 1)
      rw [← e1, ← e2] at h1
      have h2 : n % 2 + m % 2 = 2 * (n % 2 &&& m % 2) + (n % 2 ^^^ m % 2) := by
        rcases Nat.mod_two_eq_zero_or_one n with a | a <;> rcases Nat.mod_two_eq_zero_or_one m with b | b <;> rw [a, b] <;> rfl
      rw [← e3, ← e4] at h2
      omega

theorem wrap_toInt (x : BitVec 64) : IntKind.i64.wrap ((x.toNat : Nat) : Int) = x.toInt := by
  have h := x.isLt
  rw [BitVec.toInt_eq_toNat_cond]
  unfold IntKind.wrap
  have e : ((x.toNat : Int) % (2 ^ 64 : Int)) = (x.toNat : Int) := Int.emod_eq_of_lt (by omega) (by omega)
  simp only [IntKind.bits, IntKind.signed, e, Bool.true_and]
  split <;> split <;> simp_all <;> omega

theorem bv_mid (x y : BitVec 64) : x.toInt + y.toInt = 2 * (x &&& y).toInt + (x ^^^ y).toInt := by
  have h := nat_mid x.toNat y.toNat
  rw [BitVec.toInt_eq_msb_cond, BitVec.toInt_eq_msb_cond, BitVec.toInt_eq_msb_cond, BitVec.toInt_eq_msb_cond, BitVec.msb_and, BitVec.msb_xor, BitVec.toNat_and, BitVec.toNat_xor]
  cases x.msb <;> cases y.msb <;> simp <;> omega

theorem bits_mid (a b : Int) (a1 : -2305844108725321728 ≤ a) (a2 : a ≤ 2305844108725321728) (b1 : -2305844108725321728 ≤ b) (b2 : b ≤ 2305844108725321728) :
    wrap64 (bits BinOp.and IntKind.i64 a b + bits BinOp.xor IntKind.i64 a b / 2) = (a + b) / 2 := by
  have k := bv_mid (BitVec.ofInt 64 a) (BitVec.ofInt 64 b)
  rw [BitVec.toInt_ofInt_eq_self (by decide) (by simp; omega) (by simp; omega), BitVec.toInt_ofInt_eq_self (by decide) (by simp; omega) (by simp; omega)] at k
  have e1 : bits BinOp.and IntKind.i64 a b = (BitVec.ofInt 64 a &&& BitVec.ofInt 64 b).toInt := wrap_toInt _
  have e2 : bits BinOp.xor IntKind.i64 a b = (BitVec.ofInt 64 a ^^^ BitVec.ofInt 64 b).toInt := wrap_toInt _
  rw [e1, e2]
  have e3 : (BitVec.ofInt 64 a &&& BitVec.ofInt 64 b).toInt + (BitVec.ofInt 64 a ^^^ BitVec.ofInt 64 b).toInt / 2 = (a + b) / 2 := by omega
  rw [e3]
  exact IntWalk.wrap64_in _ ⟨by omega, by omega⟩
end Go.Proofs.Ytfdaabdibpcjeaa
