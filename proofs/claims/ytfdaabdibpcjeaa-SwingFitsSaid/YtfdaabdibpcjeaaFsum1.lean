/- The package fsum at this program: pairs, term, small. -/
import Derived.Test.YtfdaabdibpcjeaaFsumM
import Derived.ScopeJumps
set_option linter.unusedSimpArgs false
set_option linter.unusedVariables false
namespace Go.Proofs.Ytfdaabdibpcjeaa
open Go.RowKit

/-- may a number be a term? -/
def trB (x : Int) : Bool := decide (-2596148429267413814265248164610048 ≤ x ∧ x ≤ 2596148429267413814265248164610048)

/-- one turn, in numbers -/
theorem small_turn (n a b m t S : Int) (n0 : 0 ≤ n) (n1 : n ≤ 256) (a0 : 0 ≤ a) (b0 : 0 ≤ b) (m1 : 1 ≤ m) (m2 : m ≤ 281474976710656) (t0 : 0 ≤ t) (hS : t + fl n.toNat a b m = S) (S1 : S ≤ 1099511627776) :
    (0 ≤ a / m * prs n ∧ a / m * prs n ≤ 1099511627776) ∧ (0 ≤ b / m * n ∧ b / m * n ≤ 1099511627776) ∧ (0 ≤ t + (a / m * prs n + b / m * n) ∧ t + (a / m * prs n + b / m * n) ≤ 1099511627776) ∧ (0 ≤ a % m ∧ a % m < m) ∧ (0 ≤ b % m ∧ b % m < m) ∧ (0 ≤ a % m * n ∧ a % m * n ≤ 72057594037927936) ∧
    (a % m * n + b % m < m → t + (a / m * prs n + b / m * n) = S) ∧
    (¬ a % m * n + b % m < m → (0 ≤ (a % m * n + b % m) / m ∧ (a % m * n + b % m) / m ≤ n) ∧ (0 ≤ (a % m * n + b % m) % m ∧ (a % m * n + b % m) % m < m) ∧ 1 ≤ a % m ∧
      t + (a / m * prs n + b / m * n) + fl ((a % m * n + b % m) / m).toNat m ((a % m * n + b % m) % m) (a % m) = S) := by
  have hn : ((n.toNat : Nat) : Int) = n := Int.toNat_of_nonneg n0
  have hm := fl_mod n.toNat a b m (by omega)
  rw [hn] at hm
  have x1 : 0 ≤ a % m := Int.emod_nonneg _ (by omega)
  have x2 : a % m < m := Int.emod_lt_of_pos _ (by omega)
  have y1 : 0 ≤ b % m := Int.emod_nonneg _ (by omega)
  have y2 : b % m < m := Int.emod_lt_of_pos _ (by omega)
  have p0 : 0 ≤ prs n := by rw [← hn]; exact prs_nn _
  have q1 : 0 ≤ a / m * prs n := Int.mul_nonneg (Int.ediv_nonneg a0 (by omega)) p0
  have q2 : 0 ≤ b / m * n := Int.mul_nonneg (Int.ediv_nonneg b0 (by omega)) n0
  have f0 := fl_nn n.toNat (a % m) (b % m) m (by omega) x1 y1
  have z1 : 0 ≤ a % m * n := Int.mul_nonneg x1 n0
  have z2 : a % m * n ≤ 281474976710656 * 256 := Int.mul_le_mul (by omega) n1 n0 (by omega)
  refine ⟨⟨q1, by omega⟩, ⟨q2, by omega⟩, ⟨by omega, by omega⟩, ⟨x1, x2⟩, ⟨y1, y2⟩, ⟨z1, by omega⟩, fun h => ?_, fun h => ?_⟩
  · have := fl_small n.toNat (a % m) (b % m) m (by omega) x1 y1 (by rw [hn]; exact h)
    omega
  · have w1 : 0 ≤ (a % m * n + b % m) % m := Int.emod_nonneg _ (by omega)
    have w2 : (a % m * n + b % m) % m < m := Int.emod_lt_of_pos _ (by omega)
    have w3 : 0 ≤ (a % m * n + b % m) / m := Int.ediv_nonneg (by omega) (by omega)
    have w4 : (a % m * n + b % m) / m ≤ n := by
      have g : a % m * n ≤ (m - 1) * n := Int.mul_le_mul_of_nonneg_right (by omega) n0
      have : (a % m * n + b % m) / m < n + 1 := Int.ediv_lt_of_lt_mul (by omega) (by rw [Int.add_mul, Int.mul_comm n m]; rw [Int.sub_mul] at g; omega)
      omega
    have e1 : 1 ≤ a % m := by
      by_cases hz : a % m = 0
      · rw [hz] at h; omega
      · omega
    refine ⟨⟨w3, w4⟩, ⟨w1, w2⟩, e1, ?_⟩
    have key := fl_turn n.toNat ((a % m * n + b % m) / m).toNat (a % m) (b % m) m ((a % m * n + b % m) % m) (by omega) (by omega) y1 y2 w1 (by
      rw [hn, Int.toNat_of_nonneg w3]
      have := Int.mul_ediv_add_emod (a % m * n + b % m) m
      rw [Int.mul_comm] at this
      exact this.symm) w2
    rw [← key]
    omega

/-- what holds at the turn's head -/
def smallJ (w : World) (S : Int) (a' : Act) (w' : World) : Prop := Below w.heap.size w w' ∧ ∃ (n a b m t : Int) (u10 u11 u12 u13 u14 u15 u16 u17 u18 u19 u20 u21 u22 u23 u24 u25 u26 u27 u28 u29 u30 u31 u32 u33 u34 u35 u36 u37 u38 u39 u40 u41 u42 u43 u44 u45 u46 : Value), a' = { tmps := #[.int .i64 n, .int .i64 a, .int .i64 b, .int .i64 m, undef, undef, undef, undef, .int .i64 0, .int .i64 t, u10, u11, u12, u13, u14, u15, u16, u17, u18, u19, u20, u21, u22, u23, u24, u25, u26, u27, u28, u29, u30, u31, u32, u33, u34, u35, u36, u37, u38, u39, u40, u41, u42, u43, u44, u45, u46, undef], defers := [] } ∧ 0 ≤ n ∧ n ≤ 256 ∧ 0 ≤ a ∧ a ≤ 281474976710656 ∧ 0 ≤ b ∧ b ≤ 281474976710656 ∧ 1 ≤ m ∧ m ≤ 281474976710656 ∧ 0 ≤ t ∧ Hid (t + fl n.toNat a b m = S)

end Go.Proofs.Ytfdaabdibpcjeaa
