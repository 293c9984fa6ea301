/- yearbookref02 at this program: Bytes, Sign, Signed, Unsign. -/
import Derived.Test.YtmpfbkeamihjbaaGreatR2
import Derived.Test.YtmpfbkeamihjbaaGreatQ2
set_option linter.unusedSimpArgs false
set_option linter.unusedVariables false
namespace Go.Proofs.YtmpfbkeamihjbaaGreat
open Go.RowKit
attribute [local go_sem] Oper.semAt_some

/-- a call that hands back bytes -/
def GivesY (l : List Int) (w : World) (e : Ending) (w' : World) : Prop := ∃ A c n, e = .returned (.slice A n c) ∧ Hid (n = l.length) ∧ YR w' A c l ∧ Below w.heap.size w w'

set_option maxRecDepth 100000 in
set_option maxHeartbeats 1000000 in
theorem ref02_BytesK : ∀ (k n : Nat), n < 128 ^ (k + 1) → n < 18446744073709551616 → ∀ (x : Int), x = (n : Int) → ∀ w : World, Calls Tryz.prog 37 #[.int .u64 x] w (GivesY (ub n) w) := by
  intro k
  induction k with
  | zero =>
    intro n hn hn2 x hx w
    have d0 : decide (x < 128) = true := decide_eq_true (by omega)
    have hw : IntKind.u8.wrap x = x := by simp [IntKind.wrap, IntKind.bits, IntKind.signed]; omega
    have hres : Hid (ub n = [x]) := hide (by rw [ub_low (by omega), hx])
    clear hn hn2 hx
    go_enter Tryz.func37, Tryz.ntmps37
    go_wp2
    go_ret
    exact ⟨_, _, _, rfl, hide (by rw [hres.out]; rfl), by rw [hres.out]; exact CR.oneI w x, bA (b0 w) _⟩
  | succ k ih =>
    intro n hn hn2 x hx w
    by_cases h0 : n < 128
    · have d0 : decide (x < 128) = true := decide_eq_true (by omega)
      have hw : IntKind.u8.wrap x = x := by simp [IntKind.wrap, IntKind.bits, IntKind.signed]; omega
      have hres : Hid (ub n = [x]) := hide (by rw [ub_low (by omega), hx])
      clear hn hn2 hx h0 ih
      go_enter Tryz.func37, Tryz.ntmps37
      go_wp2
      go_ret
      exact ⟨_, _, _, rfl, hide (by rw [hres.out]; rfl), by rw [hres.out]; exact CR.oneI w x, bA (b0 w) _⟩
    · obtain ⟨y, hy⟩ : ∃ y, x.tdiv 128 = y := ⟨_, rfl⟩
      obtain ⟨z, hz⟩ : ∃ z, x.tmod 128 = z := ⟨_, rfl⟩
      have ey : y = ((n / 128 : Nat) : Int) := by rw [← hy, hx, Int.tdiv_eq_ediv_of_nonneg (by omega)]; omega
      have ez : z = ((n % 128 : Nat) : Int) := by rw [← hz, hx, Int.tmod_eq_emod_of_nonneg (by omega)]; omega
      have d0 : decide (x < 128) = false := decide_eq_false (by omega)
      have hw1 : IntKind.u64.wrap (z + 128) = z + 128 := by simp [IntKind.wrap, IntKind.bits, IntKind.signed]; omega
      have hw2 : IntKind.u8.wrap (z + 128) = z + 128 := by simp [IntKind.wrap, IntKind.bits, IntKind.signed]; omega
      have hw3 : IntKind.u64.wrap z = z := by simp [IntKind.wrap, IntKind.bits, IntKind.signed]; omega
      have hw4 : IntKind.u64.wrap y = y := by simp [IntKind.wrap, IntKind.bits, IntKind.signed]; omega
      have c1 := ih (n / 128) (by rw [Nat.div_lt_iff_lt_mul (by decide)]; rw [Nat.pow_succ] at hn; exact hn) (by omega) y ey
      have hres : Hid (ub n = [z + 128] ++ ub (n / 128)) := hide (by rw [ub_high (by omega), ez]; push_cast; rfl)
      have hl : Hid ((ub (n / 128)).length ≤ 10) := hide (ub_ten (by omega))
      clear hn hn2 hx h0 ih ey ez
      generalize ub (n / 128) = r at *
      go_enter Tryz.func37, Tryz.ntmps37
      go_wp2_with fail
      refine (c1 _).mono ?_
      rintro e wa ⟨A, c, m, rfl, hm, hv, ba⟩
      obtain rfl := hm.out
      have ho : OwnC .u8 5 w.heap.size wa _ [z + 128] := (OwnC.one w (z + 128)).lift ba
      have Ba : Below w.heap.size w wa := bB (bA (b0 w) _) ba
      have kl : ([z + 128] : List Int).length + r.length ≤ 1048576 := by have := hl.out; simp; omega
      go_wp2_with (at_builtin; refine wpList_pushC rfl _ _ 30 rfl 1 Tryz.underlying30 byte_info (by decide) w.heap.size _ [z + 128] r _ _ rfl rfl ho hv.inC kl Ba.size ?_; intro v2 w5 ho5 hb5 hs5)
      have B5 := hb5 _ Ba
      go_ret
      rw [← hres.out] at ho5
      obtain ⟨A', d, rfl, hr⟩ := ho5.cr
      exact ⟨A', d, _, rfl, hide rfl, hr, B5⟩
theorem ref02_Bytes (n : Nat) (hn : n < 18446744073709551616) (x : Int) (hx : x = (n : Int)) (w : World) : Calls Tryz.prog 37 #[.int .u64 x] w (GivesY (ub n) w) :=
  ref02_BytesK 9 n (Nat.lt_trans hn (by decide)) hn x hx w

set_option maxRecDepth 100000 in
theorem ref02_Sign (x : Int) (h0 : -9223372036854775808 ≤ x) (h1 : x ≤ 9223372036854775807) (w : World) :
    Calls Tryz.prog 63 #[.int .i64 x] w fun e w' => e = .returned (.int .u64 (fold x : Int)) ∧ w = w' := by
  by_cases hx : 0 ≤ x
  · have d0 : decide (0 ≤ x) = true := decide_eq_true hx
    have hw1 : IntKind.u64.wrap x = x := by simp [IntKind.wrap, IntKind.bits, IntKind.signed]; omega
    have hw2 : IntKind.u64.wrap (2 * x) = 2 * x := by simp [IntKind.wrap, IntKind.bits, IntKind.signed]; omega
    have hres : Hid ((fold x : Int) = 2 * x) := hide (by unfold fold; rw [if_pos hx]; omega)
    clear hx
    go_enter Tryz.func63, Tryz.ntmps63
    go_wp2
    go_ret
    exact ⟨by rw [hres.out] <;> rfl, rfl⟩
  · have d0 : decide (0 ≤ x) = false := decide_eq_false hx
    obtain ⟨y, hy⟩ : ∃ y, x + 1 = y := ⟨_, rfl⟩
    have hw0 : wrap64 y = y := by unfold wrap64; omega
    have hw5 : wrap64 (-y) = -y := by unfold wrap64; omega
    have hw1 : IntKind.u64.wrap (-y) = -y := by simp [IntKind.wrap, IntKind.bits, IntKind.signed]; omega
    obtain ⟨z, hz⟩ : ∃ z, 2 * -y = z := ⟨_, rfl⟩
    have hw2 : IntKind.u64.wrap z = z := by simp [IntKind.wrap, IntKind.bits, IntKind.signed]; omega
    have hw3 : IntKind.u64.wrap (z + 1) = z + 1 := by simp [IntKind.wrap, IntKind.bits, IntKind.signed]; omega
    have hres : Hid ((fold x : Int) = z + 1) := hide (by unfold fold; rw [if_neg hx]; omega)
    clear hx
    go_enter Tryz.func63, Tryz.ntmps63
    go_wp2
    go_ret
    exact ⟨by rw [hres.out] <;> rfl, rfl⟩
theorem ref02_Signed (x : Int) (h0 : -9223372036854775808 ≤ x) (h1 : x ≤ 9223372036854775807) (w : World) : Calls Tryz.prog 39 #[.int .i64 x] w (GivesY (ub (fold x)) w) := by
  have c1 := ref02_Sign x h0 h1
  have c2 := ref02_Bytes (fold x) (fold_lt h0 h1) _ rfl
  go_enter Tryz.func39, Tryz.ntmps39
  go_wp2_with fail
  refine (c1 _).mono ?_
  rintro e wa ⟨rfl, rfl⟩
  go_wp2_with fail
  refine (c2 _).mono ?_
  rintro e wb ⟨A, c, m, rfl, hm, hv, ba⟩
  go_wp2
  go_ret
  exact ⟨A, c, m, rfl, hm, hv, ba⟩
set_option maxRecDepth 100000 in
theorem ref02_Unsign (n : Nat) (hn : n < 18446744073709551616) (x : Int) (hx : x = (n : Int)) (w : World) :
    Calls Tryz.prog 114 #[.int .u64 x] w fun e w' => e = .returned (.int .i64 (unfold' n)) ∧ w = w' := by
  obtain ⟨y, hy⟩ : ∃ y, x.tdiv 2 = y := ⟨_, rfl⟩
  obtain ⟨z, hz⟩ : ∃ z, x.tmod 2 = z := ⟨_, rfl⟩
  have ey : y = ((n / 2 : Nat) : Int) := by rw [← hy, hx, Int.tdiv_eq_ediv_of_nonneg (by omega)]; omega
  have ez : z = ((n % 2 : Nat) : Int) := by rw [← hz, hx, Int.tmod_eq_emod_of_nonneg (by omega)]; omega
  have hw1 : IntKind.u64.wrap y = y := by simp [IntKind.wrap, IntKind.bits, IntKind.signed]; omega
  have hw2 : IntKind.u64.wrap z = z := by simp [IntKind.wrap, IntKind.bits, IntKind.signed]; omega
  have hw3 : wrap64 y = y := by unfold wrap64; omega
  by_cases h0 : n % 2 = 0
  · have d0 : (z == 0) = true := by simp; omega
    have hres : Hid (unfold' n = y) := hide (by unfold unfold'; rw [if_pos h0, ey])
    clear hx ey ez h0
    go_enter Tryz.func114, Tryz.ntmps114
    go_wp2
    go_ret
    exact ⟨by rw [hres.out]; simp [hw3], rfl⟩
  · have d0 : (z == 0) = false := by simp; omega
    have hw4 : wrap64 (-y) = -y := by unfold wrap64; omega
    have hw5 : wrap64 (-y - 1) = -y - 1 := by unfold wrap64; omega
    have hres : Hid (unfold' n = -y - 1) := hide (by unfold unfold'; rw [if_neg h0, ey])
    clear hx ey ez h0
    go_enter Tryz.func114, Tryz.ntmps114
    go_wp2
    go_ret
    exact ⟨by rw [hres.out]; simp [hw3, hw4, hw5], rfl⟩
end Go.Proofs.YtmpfbkeamihjbaaGreat
