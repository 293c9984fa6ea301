/- The package wide at this program, on: Compare, Mul. -/
import Derived.Test.YtfdaabdibpcjeaaWide4
set_option linter.unusedSimpArgs false
set_option linter.unusedVariables false
namespace Go.Proofs.Ytfdaabdibpcjeaa
open Go.RowKit

def cmpI (a b : Int) : Int := if a < b then -1 else if a = b then 0 else 1

set_option maxRecDepth 100000 in
theorem wide_Compare (a b : Int) (_ha : Rng a) (_hb : Rng b) (w : World) :
    Calls Try.prog 51 #[.agg #[.int .i64 (hi a), .int .u64 (lo a)], .agg #[.int .i64 (hi b), .int .u64 (lo b)]] w fun e w' => e = .returned (.int .i64 (cmpI a b)) ∧ Below w.heap.size w w' := by
  obtain ⟨a1, a2⟩ := lo_lo a
  obtain ⟨b1, b2⟩ := lo_lo b
  have ea := hi_lo a
  have eb := hi_lo b
  by_cases h1 : hi a = hi b
  · by_cases h2 : lo a = lo b
    · have hab : a = b := by omega
      subst hab
      go_enter Try.func51, Try.ntmps51
      clear ea eb h1 h2
      go_wp2
      go_ret
      exact ⟨by simp [cmpI], bA (bA (b0 w) _) _⟩
    · have K1 := eq_true h1
      have K2 := eq_false h2
      have k3 : ¬ hi a < hi b := by omega
      have k4 : (hi a == hi b) = true := by rw [h1]; simp
      by_cases h3 : lo a < lo b
      · have hc : cmpI a b = -1 := by unfold cmpI; rw [if_pos (by omega)]
        rw [hc]
        clear ea eb h1 h2 hc
        go_enter Try.func51, Try.ntmps51
        go_wp2
        go_ret
        exact ⟨rfl, bA (bA (b0 w) _) _⟩
      · have hc : cmpI a b = 1 := by unfold cmpI; rw [if_neg (by omega), if_neg (by omega)]
        rw [hc]
        clear ea eb h1 h2 hc
        go_enter Try.func51, Try.ntmps51
        go_wp2
        go_ret
        exact ⟨rfl, bA (bA (b0 w) _) _⟩
  · have K1 := eq_false h1
    have k4 : (hi a == hi b) = false := by simp [h1]
    by_cases h3 : hi a < hi b
    · have hc : cmpI a b = -1 := by unfold cmpI; rw [if_pos (by omega)]
      rw [hc]
      clear ea eb h1 hc
      go_enter Try.func51, Try.ntmps51
      go_wp2
      go_ret
      exact ⟨rfl, bA (bA (b0 w) _) _⟩
    · have hc : cmpI a b = 1 := by unfold cmpI; rw [if_neg (by omega), if_neg (by omega)]
      rw [hc]
      clear ea eb h1 hc
      go_enter Try.func51, Try.ntmps51
      go_wp2
      go_ret
      exact ⟨rfl, bA (bA (b0 w) _) _⟩

theorem mul_bound (a b : Int) (h1 : -9223372036854775808 ≤ a) (h2 : a < 9223372036854775808) (h3 : -9223372036854775808 ≤ b) (h4 : b < 9223372036854775808) : -85070591730234615865843651857942052864 ≤ a * b ∧ a * b ≤ 85070591730234615865843651857942052864 := by
  have k1 : (a + 9223372036854775808) * (b + 9223372036854775808) ≥ 0 := Int.mul_nonneg (by omega) (by omega)
  have k2 : (9223372036854775808 - a) * (9223372036854775808 - b) ≥ 0 := Int.mul_nonneg (by omega) (by omega)
  have k3 : (a + 9223372036854775808) * (9223372036854775808 - b) ≥ 0 := Int.mul_nonneg (by omega) (by omega)
  have k4 : (9223372036854775808 - a) * (b + 9223372036854775808) ≥ 0 := Int.mul_nonneg (by omega) (by omega)
  simp only [Int.add_mul, Int.mul_add, Int.sub_mul, Int.mul_sub] at k1 k2 k3 k4
  omega

theorem mul_math (a b : Int) (h1 : -9223372036854775808 ≤ a) (h2 : a < 9223372036854775808) (h3 : -9223372036854775808 ≤ b) (h4 : b < 9223372036854775808) :
    (0 ≤ a → 0 ≤ b → wrap64 (a * b / 18446744073709551616) = hi (a * b)) ∧
    (a < 0 → 0 ≤ b → wrap64 (IntKind.u64.wrap ((a + 18446744073709551616) * b / 18446744073709551616 - b)) = hi (a * b) ∧ (a + 18446744073709551616) * b % 18446744073709551616 = lo (a * b)) ∧
    (0 ≤ a → b < 0 → wrap64 (IntKind.u64.wrap (a * (b + 18446744073709551616) / 18446744073709551616 - a)) = hi (a * b) ∧ a * (b + 18446744073709551616) % 18446744073709551616 = lo (a * b)) ∧
    (a < 0 → b < 0 → wrap64 (IntKind.u64.wrap (IntKind.u64.wrap ((a + 18446744073709551616) * (b + 18446744073709551616) / 18446744073709551616 - (b + 18446744073709551616)) - (a + 18446744073709551616))) = hi (a * b) ∧ (a + 18446744073709551616) * (b + 18446744073709551616) % 18446744073709551616 = lo (a * b)) := by
  obtain ⟨k1, k2⟩ := mul_bound a b h1 h2 h3 h4
  simp only [Int.add_mul, Int.mul_add, IntKind.wrap_u64, wrap64]
  generalize a * b = p at *
  unfold hi lo
  refine ⟨fun _ _ => by omega, fun _ _ => ⟨by omega, by omega⟩, fun _ _ => ⟨by omega, by omega⟩, fun _ _ => ⟨by omega, by omega⟩⟩

set_option maxHeartbeats 1000000 in
theorem wide_Mul (a b : Int) (h1 : -9223372036854775808 ≤ a) (h2 : a < 9223372036854775808) (h3 : -9223372036854775808 ≤ b) (h4 : b < 9223372036854775808) (w : World) :
    Calls Try.prog 52 #[.int .i64 a, .int .i64 b] w fun e w' => e = .returned (.agg #[.int .i64 (hi (a * b)), .int .u64 (lo (a * b))]) ∧ Below w.heap.size w w' := by
  obtain ⟨m1, m2, m3, m4⟩ := mul_math a b h1 h2 h3 h4
  by_cases ha : 0 ≤ a <;> by_cases hb : 0 ≤ b
  · have d := mul64 a b ha (by omega) hb (by omega)
    have M := m1 ha hb
    clear m1 m2 m3 m4
    obtain ⟨H, hH⟩ : ∃ H, a * b / 18446744073709551616 = H := ⟨_, rfl⟩
    rw [hH] at d M
    rw [show a * b % 18446744073709551616 = lo (a * b) from rfl] at d
    clear hH
    go_enter Try.func52, Try.ntmps52
    go_wp2_with (go_at_call 72; refine (d _).mono ?_; rintro e w1 ⟨rfl, rfl⟩)
    refine bodyPost_ret (by simp [results, Try.results52, go_sem]; try rfl) rfl ⟨rfl, bA (b0 w) _⟩
  · have wb : IntKind.u64.wrap b = b + 18446744073709551616 := by rw [IntKind.wrap_u64]; omega
    have d := mul64 a (b + 18446744073709551616) ha (by omega) (by omega) (by omega)
    obtain ⟨M, M2⟩ := m3 ha (by omega)
    clear m1 m2 m3 m4
    obtain ⟨H, hH⟩ : ∃ H, a * (b + 18446744073709551616) / 18446744073709551616 = H := ⟨_, rfl⟩
    rw [hH] at d M
    rw [M2, ← wb] at d
    clear hH M2 wb
    go_enter Try.func52, Try.ntmps52
    go_wp2_with (go_at_call 72; refine (d _).mono ?_; rintro e w1 ⟨rfl, rfl⟩)
    refine bodyPost_ret (by simp [results, Try.results52, go_sem]; try rfl) rfl ⟨rfl, bA (b0 w) _⟩
  · have wa : IntKind.u64.wrap a = a + 18446744073709551616 := by rw [IntKind.wrap_u64]; omega
    have d := mul64 (a + 18446744073709551616) b (by omega) (by omega) hb (by omega)
    obtain ⟨M, M2⟩ := m2 (by omega) hb
    clear m1 m2 m3 m4
    obtain ⟨H, hH⟩ : ∃ H, (a + 18446744073709551616) * b / 18446744073709551616 = H := ⟨_, rfl⟩
    rw [hH] at d M
    rw [M2, ← wa] at d
    clear hH M2 wa
    go_enter Try.func52, Try.ntmps52
    go_wp2_with (go_at_call 72; refine (d _).mono ?_; rintro e w1 ⟨rfl, rfl⟩)
    refine bodyPost_ret (by simp [results, Try.results52, go_sem]; try rfl) rfl ⟨rfl, bA (b0 w) _⟩
  · have wa : IntKind.u64.wrap a = a + 18446744073709551616 := by rw [IntKind.wrap_u64]; omega
    have wb : IntKind.u64.wrap b = b + 18446744073709551616 := by rw [IntKind.wrap_u64]; omega
    have d := mul64 (a + 18446744073709551616) (b + 18446744073709551616) (by omega) (by omega) (by omega) (by omega)
    obtain ⟨M, M2⟩ := m4 (by omega) (by omega)
    clear m1 m2 m3 m4
    obtain ⟨H, hH⟩ : ∃ H, (a + 18446744073709551616) * (b + 18446744073709551616) / 18446744073709551616 = H := ⟨_, rfl⟩
    rw [hH] at d M
    rw [← wa, ← wb] at M
    rw [M2, ← wa, ← wb] at d
    clear hH M2 wa wb
    go_enter Try.func52, Try.ntmps52
    go_wp2_with (go_at_call 72; refine (d _).mono ?_; rintro e w1 ⟨rfl, rfl⟩)
    refine bodyPost_ret (by simp [results, Try.results52, go_sem]; try rfl) rfl ⟨rfl, bA (b0 w) _⟩
end Go.Proofs.Ytfdaabdibpcjeaa
