/- math/bits.Len64 and LeadingZeros64 at this program. -/
import Derived.Test.YtfdaabdibpcjeaaBits
set_option linter.unusedSimpArgs false
set_option linter.unusedVariables false
namespace Go.Proofs.Ytfdaabdibpcjeaa
open Go.RowKit

def lens : List UInt8 := [0, 1, 2, 2, 3, 3, 3, 3, 4, 4, 4, 4, 4, 4, 4, 4, 5, 5, 5, 5, 5, 5, 5, 5, 5, 5, 5, 5, 5, 5, 5, 5, 6, 6, 6, 6, 6, 6, 6, 6, 6, 6, 6, 6, 6, 6, 6, 6, 6, 6, 6, 6, 6, 6, 6, 6, 6, 6, 6, 6, 6, 6, 6, 6, 7, 7, 7, 7, 7, 7, 7, 7, 7, 7, 7, 7, 7, 7, 7, 7, 7, 7, 7, 7, 7, 7, 7, 7, 7, 7, 7, 7, 7, 7, 7, 7, 7, 7, 7, 7, 7, 7, 7, 7, 7, 7, 7, 7, 7, 7, 7, 7, 7, 7, 7, 7, 7, 7, 7, 7, 7, 7, 7, 7, 7, 7, 7, 7, 8, 8, 8, 8, 8, 8, 8, 8, 8, 8, 8, 8, 8, 8, 8, 8, 8, 8, 8, 8, 8, 8, 8, 8, 8, 8, 8, 8, 8, 8, 8, 8, 8, 8, 8, 8, 8, 8, 8, 8, 8, 8, 8, 8, 8, 8, 8, 8, 8, 8, 8, 8, 8, 8, 8, 8, 8, 8, 8, 8, 8, 8, 8, 8, 8, 8, 8, 8, 8, 8, 8, 8, 8, 8, 8, 8, 8, 8, 8, 8, 8, 8, 8, 8, 8, 8, 8, 8, 8, 8, 8, 8, 8, 8, 8, 8, 8, 8, 8, 8, 8, 8, 8, 8, 8, 8, 8, 8, 8, 8, 8, 8, 8, 8, 8, 8, 8, 8, 8, 8, 8, 8, 8, 8, 8, 8, 8, 8]
def len8 : ByteArray := ⟨lens.toArray⟩
theorem len8_size : len8.size = 256 := by decide +kernel
def lensOk (k : Nat) : Bool := match lens[k]? with
  | some u => decide (u.toNat ≤ 8 ∧ k < 2 ^ u.toNat ∧ (1 ≤ k → 1 ≤ u.toNat ∧ 2 ^ (u.toNat - 1) ≤ k))
  | none => false
theorem lens_all : (List.range 256).all lensOk = true := by decide +kernel
theorem len8_at (k : Nat) (h : k < len8.size) : ∃ t : Nat, (len8[k]'h).toNat = t ∧ t ≤ 8 ∧ k < 2 ^ t ∧ (1 ≤ k → 1 ≤ t ∧ 2 ^ (t - 1) ≤ k) := by
  have h1 := List.all_eq_true.1 lens_all k (List.mem_range.2 (by rw [← len8_size]; exact h))
  have h2 : lens[k]? = some (len8[k]'h) := by
    have hl : k < lens.length := h
    rw [List.getElem?_eq_getElem hl]
    rfl
  unfold lensOk at h1
  rw [h2] at h1
  exact ⟨_, rfl, of_decide_eq_true h1⟩

theorem w64_nat (n : Nat) (h : n ≤ 1000) : wrap64 (n : Int) = n := IntWalk.wrap64_in _ ⟨by omega, by omega⟩
theorem len_fin0 (x : Int) (w : World) (b d t : Nat) (k : Int) (hd : 2 ^ b = d) (hk : x / d = k) (h1 : 1 ≤ k) (hb : b ≤ 56) (g1 : t ≤ 8) (g2 : k.toNat < 2 ^ t) (g3 : 1 ≤ t) (g4 : 2 ^ (t - 1) ≤ k.toNat) :
    ∃ n : Nat, Ending.returned (.int .i64 (wrap64 (b + wrap64 (t : Nat)))) = .returned (.int .i64 n) ∧ 1 ≤ n ∧ n ≤ 64 ∧ 2 ^ (n - 1) ≤ x ∧ x < 2 ^ n ∧ w = w := by
  have hp : (0 : Int) < 2 ^ b := Int.pow_pos (by decide)
  have hd' : (2 : Int) ^ b = (d : Int) := by rw [← hd]; simp
  have hd0 : (0 : Int) < d := by rw [← hd']; exact hp
  have hk0 : 0 ≤ k := Int.le_trans (by decide) h1
  refine ⟨b + t, ?_, by clear g2 g4 hd hd' hp hd0; omega, by clear g2 g4 hd hd' hp hd0; omega, ?_, ?_, rfl⟩
  · rw [w64_nat t (by clear g2 g4 hd hd' hp hd0; omega), ← Int.natCast_add, w64_nat (b + t) (by clear g2 g4 hd hd' hp hd0; omega)]
  · have e : b + t - 1 = b + (t - 1) := by clear g2 g4 hd hd' hp hd0; omega
    rw [e, Int.pow_add]
    have h5 : (2 : Int) ^ (t - 1) ≤ k := by
      have : ((2 ^ (t - 1) : Nat) : Int) ≤ (k.toNat : Int) := Int.ofNat_le.2 g4
      rw [Int.toNat_of_nonneg hk0] at this
      simpa using this
    have h6 : (2 : Int) ^ b * 2 ^ (t - 1) ≤ 2 ^ b * k := Int.mul_le_mul_of_nonneg_left h5 (Int.le_of_lt hp)
    have h7 : (d : Int) * (x / d) ≤ x := Int.mul_ediv_self_le (Int.ne_of_gt hd0)
    rw [hk, ← hd'] at h7
    exact Int.le_trans h6 h7
  · rw [Int.pow_add]
    have h5 : k + 1 ≤ (2 : Int) ^ t := by
      have : (k.toNat : Int) < ((2 ^ t : Nat) : Int) := Int.ofNat_lt.2 g2
      rw [Int.toNat_of_nonneg hk0] at this
      have e : ((2 ^ t : Nat) : Int) = 2 ^ t := by simp
      rw [e] at this
      exact this
    have h6 : (2 : Int) ^ b * (k + 1) ≤ 2 ^ b * 2 ^ t := Int.mul_le_mul_of_nonneg_left h5 (Int.le_of_lt hp)
    have h7 : x < (d : Int) * (x / d) + d := Int.lt_mul_ediv_self_add hd0
    rw [hk, ← hd'] at h7
    have h8 : (2 : Int) ^ b * (k + 1) = 2 ^ b * k + 2 ^ b := by rw [Int.mul_add, Int.mul_one]
    rw [h8] at h6
    exact Int.lt_of_lt_of_le h7 h6

theorem len_fin (x : Int) (w : World) (b d : Nat) (k : Int) (hd : 2 ^ b = d) (hk : x / d = k) (h1 : 1 ≤ k) (hb : b ≤ 56) (hs : k.toNat < len8.size) :
    ∃ n : Nat, Ending.returned (.int .i64 (wrap64 (b + wrap64 ((len8[k.toNat]'hs).toNat : Nat)))) = .returned (.int .i64 n) ∧ 1 ≤ n ∧ n ≤ 64 ∧ 2 ^ (n - 1) ≤ x ∧ x < 2 ^ n ∧ w = w := by
  obtain ⟨t, et, g1, g2, g3⟩ := len8_at k.toNat hs
  rw [et]
  exact len_fin0 x w b d t k hd hk h1 hb g1 g2 (g3 (by clear et; omega)).1 (g3 (by clear et; omega)).2

theorem len_fin1 (x : Int) (w : World) (h1 : 1 ≤ x) (hs : x.toNat < len8.size) :
    ∃ n : Nat, Ending.returned (.int .i64 (wrap64 (wrap64 ((len8[x.toNat]'hs).toNat : Nat)))) = .returned (.int .i64 n) ∧ 1 ≤ n ∧ n ≤ 64 ∧ 2 ^ (n - 1) ≤ x ∧ x < 2 ^ n ∧ w = w := by
  have := len_fin x w 0 1 x (by decide) (by simp) h1 (by decide) hs
  rw [show ((0 : Nat) : Int) = 0 from rfl, Int.zero_add] at this
  exact this

set_option maxRecDepth 100000 in
set_option maxHeartbeats 1000000 in
theorem len64 (x : Int) (h0 : 1 ≤ x) (h1 : x < 18446744073709551616) (w : World) :
    Calls Try.prog 103 #[.int .u64 x] w fun e w' => ∃ n : Nat, e = .returned (.int .i64 n) ∧ 1 ≤ n ∧ n ≤ 64 ∧ 2 ^ (n - 1) ≤ x ∧ x < 2 ^ n ∧ w = w' := by
  by_cases c1 : 4294967296 ≤ x
  · by_cases c2 : 65536 ≤ x / 4294967296
    · by_cases c3 : 256 ≤ x / 4294967296 / 65536
      · go_enter Try.func103, Try.ntmps103
        go_wp2
        go_ret
        exact len_fin x w 56 72057594037927936 (x / 4294967296 / 65536 / 256) (by decide) (by omega) (by omega) (by decide) (by rw [len8_size]; omega)
      · go_enter Try.func103, Try.ntmps103
        go_wp2
        go_ret
        exact len_fin x w 48 281474976710656 (x / 4294967296 / 65536) (by decide) (by omega) (by omega) (by decide) (by rw [len8_size]; omega)
    · by_cases c3 : 256 ≤ x / 4294967296
      · go_enter Try.func103, Try.ntmps103
        go_wp2
        go_ret
        exact len_fin x w 40 1099511627776 (x / 4294967296 / 256) (by decide) (by omega) (by omega) (by decide) (by rw [len8_size]; omega)
      · go_enter Try.func103, Try.ntmps103
        go_wp2
        go_ret
        exact len_fin x w 32 4294967296 (x / 4294967296) (by decide) (by omega) (by omega) (by decide) (by rw [len8_size]; omega)
  · by_cases c2 : 65536 ≤ x
    · by_cases c3 : 256 ≤ x / 65536
      · go_enter Try.func103, Try.ntmps103
        go_wp2
        go_ret
        exact len_fin x w 24 16777216 (x / 65536 / 256) (by decide) (by omega) (by omega) (by decide) (by rw [len8_size]; omega)
      · go_enter Try.func103, Try.ntmps103
        go_wp2
        go_ret
        exact len_fin x w 16 65536 (x / 65536) (by decide) (by omega) (by omega) (by decide) (by rw [len8_size]; omega)
    · by_cases c3 : 256 ≤ x
      · go_enter Try.func103, Try.ntmps103
        go_wp2
        go_ret
        exact len_fin x w 8 256 (x / 256) (by decide) (by omega) (by omega) (by decide) (by rw [len8_size]; omega)
      · go_enter Try.func103, Try.ntmps103
        go_wp2
        go_ret
        exact len_fin1 x w h0 (by rw [len8_size]; omega)
end Go.Proofs.Ytfdaabdibpcjeaa
