/- yearbookref01 at this program: word, Fits, Value, Of, Neg, Add, Pow. -/
import Derived.Test.YtlgjapjcdpikeaaRef7
set_option linter.unusedSimpArgs false
set_option linter.unusedVariables false
namespace Go.Proofs.Ytlgjapjcdpikeaa
open Go.RowKit

theorem drop_div {l : List Nat} (h : Bin l) (k : Nat) : bv (l.drop k) = bv l / 2 ^ k := by
  by_cases hk : k ≤ l.length
  · have h1 := bv_split l k hk
    have h2 := bv_lt (h.take k)
    rw [List.length_take, Nat.min_eq_left hk] at h2
    rw [h1, Nat.add_comm, Nat.mul_add_div (Nat.two_pow_pos k), Nat.div_eq_of_lt h2, Nat.add_zero]
  · rw [List.drop_eq_nil_of_le (by omega)]
    have h1 := bv_lt h
    have h2 := Nat.pow_le_pow_right (n := 2) (by decide) (show l.length ≤ k by omega)
    rw [Nat.div_eq_of_lt (by omega)]; rfl
theorem dg_div {l : List Nat} (h : Bin l) (k : Nat) : dg l k = bv l / 2 ^ k % 2 := by
  rw [← drop_div h k]
  by_cases hk : k < l.length
  · rw [bv_drop l k hk, dg_in hk]
    have := dg_lt h k
    omega
  · rw [dg_out hk, List.drop_eq_nil_of_le (by omega)]; rfl
theorem word_step (x p j : Nat) (hj : j < 64) : x / 2 ^ p % 2 ^ (64 - j) = 2 * (x / 2 ^ (p + 1) % 2 ^ (64 - (j + 1))) + x / 2 ^ p % 2 := by
  rw [Nat.pow_succ 2 p, ← Nat.div_div_eq_div_mul]
  generalize x / 2 ^ p = y
  rw [show 64 - j = (64 - (j + 1)) + 1 by omega, Nat.pow_succ, Nat.mul_comm (2 ^ (64 - (j + 1))) 2, Nat.mod_mul]
  omega

set_option maxRecDepth 100000 in
set_option maxHeartbeats 1000000 in
theorem ref_word (x f : Nat) (A : Option Addr) (c : Nat) (hx : (sz x).length ≤ 1000) (hf : f ≤ 1000) (w : World) (ha : Rd w A c (sz x)) :
    Calls Try.prog 101 #[.slice A (sz x).length c, .int .i64 (f : Int)] w fun e w' => e = .returned (.int .u64 ((x / 2 ^ f % 18446744073709551616 : Nat) : Int)) ∧ w = w' := by
  obtain ⟨l, el⟩ : ∃ l, l = sz x := ⟨_, rfl⟩
  have bl : Bin l := by rw [el]; exact Bin.sz x
  have vl : bv l = x := by rw [el, bv_sz]
  rw [← el] at ha hx ⊢
  clear el
  obtain ⟨m, hm⟩ : ∃ m, l.length = m := ⟨_, rfl⟩
  rw [hm] at hx ⊢
  have HK := hide hm
  have VL := hide vl
  clear hm vl
  go_enter Try.func101, Try.ntmps101
  go_wp2
  go_loop [5, 6] (fun vn vi => ∃ (k : Nat) (i : Int) (n : Nat), vi = .int .i64 i ∧ i = (f : Int) + k - 1 ∧ k ≤ 64 ∧ vn = .int .u64 (n : Int) ∧ Hid (n = x / 2 ^ (f + k) % 2 ^ (64 - k))) (fun _ vi => (intOf vi - f + 1).toNat)
  case atStart => exact ⟨64, _, 0, rfl, by omega, Nat.le_refl _, rfl, by rw [Hid]; simp [Nat.mod_one]⟩
  case round =>
    obtain ⟨k, i, n, rfl, hi, hk, rfl, hn⟩ := hrel
    by_cases h0 : k = 0
    · subst h0
      have hlt : ¬ (f : Int) ≤ i := by omega
      clear hi
      go_wp2
      go_ret
      have := hn.out
      rw [Nat.add_zero] at this
      exact ⟨by rw [this]; rfl, rfl⟩
    · obtain ⟨j, rfl⟩ : ∃ j, k = j + 1 := ⟨k - 1, by omega⟩
      obtain ⟨p, hp⟩ : ∃ p, p = f + j := ⟨_, rfl⟩
      obtain rfl : i = (p : Int) := by omega
      have hle : (f : Int) ≤ (p : Int) := by omega
      have hn1 : n < 9223372036854775808 := by
        have h1 := hn.out
        have h2 := Nat.mod_lt (x / 2 ^ (f + (j + 1))) (Nat.two_pow_pos (64 - (j + 1)))
        have h3 := Nat.pow_le_pow_right (n := 2) (by decide) (show 64 - (j + 1) ≤ 63 by omega)
        have h4 : (2 : Nat) ^ 63 = 9223372036854775808 := by decide
        omega
      have hst := word_step x p j (by omega)
      rw [hp, Nat.add_assoc, ← hn.out, ← hp] at hst
      have hdg := dg_div bl p
      rw [VL.out] at hdg
      rw [← hdg] at hst
      have HST := hide hst
      have hmeas : (p : Int) - 1 - (f : Int) + 1 = (j : Int) := by omega
      have hi2 : (p : Int) - 1 = (f : Int) + j - 1 := by omega
      have HI2 := hide hi2
      have HM := hide hmeas
      have hpm : p ≤ 1064 := by omega
      have HP := hide hp
      clear hi hst hdg hi2 hmeas hp
      by_cases hpl : p < l.length
      · have hpm2 : (p : Int) < (m : Int) := by rw [HK.out] at hpl; omega
        obtain ⟨g, rfl, hc⟩ := ha.at_ (k := p) hpl
        rw [dg_in hpl] at hc
        have hd := dg_lt bl p
        clear hpl
        rcases (show dg l p = 0 ∨ dg l p = 1 by omega) with hd0 | hd0
        · rw [hd0] at hc
          have HD := hide hd0
          clear hd hd0
          go_wp2
          go_round
          case rel => exact ⟨j, _, 2 * n, rfl, HI2.out, by omega, by go_num, by have := HST.out; rw [HD.out, HP.out] at this; rw [Hid]; omega⟩
          case measure => simp [intOf]; have := HM.out; omega
        · rw [hd0] at hc
          have HD := hide hd0
          clear hd hd0
          go_wp2
          go_round
          case rel => exact ⟨j, _, 2 * n + 1, rfl, HI2.out, by omega, by go_num, by have := HST.out; rw [HD.out, HP.out] at this; rw [Hid]; omega⟩
          case measure => simp [intOf]; have := HM.out; omega
      · have HD := hide (dg_out hpl)
        have hpm2 : ¬ (p : Int) < (m : Int) := by rw [HK.out] at hpl; omega
        clear hpl
        go_wp2
        go_round
        case rel => exact ⟨j, _, 2 * n, rfl, HI2.out, by omega, by go_num, by have := HST.out; rw [HD.out, HP.out] at this; rw [Hid]; omega⟩
        case measure => simp [intOf]; have := HM.out; omega
end Go.Proofs.Ytlgjapjcdpikeaa
