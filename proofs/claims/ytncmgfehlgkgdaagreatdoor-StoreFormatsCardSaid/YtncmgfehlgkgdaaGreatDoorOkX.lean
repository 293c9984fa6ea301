/- The calls whose values are known ahead are right: words that are added and subtracted, and a float's bits. -/
import Derived.Test.YtncmgfehlgkgdaaGreatDoorOkT
import Derived.Test.YtncmgfehlgkgdaaGreatDoorOkF
import Derived.Test.YtncmgfehlgkgdaaGreatDoorSy
import Derived.WalkKit
import Derived.Handy
import Derived.KernelRfl
import Derived.Laws.Bits64b
set_option linter.unusedSimpArgs false
set_option linter.unusedVariables false
set_option linter.unusedSectionVars false
namespace Go.Proofs.Tryz
open Go.Proofs.Ex Go.RowKit
variable [Sg]

theorem bits_run (x : Nat) (w : World) : (callFunc 84 #[.float .f64 x]).run prog w = .ok (.value (.int .u64 x)) w := by
  rw [run_callFunc_extern func84 (by kernel_rfl) (by kernel_rfl) (by kernel_rfl) (e := Extern.MathFloatBits.float64bits) (by kernel_rfl)]
  rfl
theorem from_run (x : Nat) (w : World) : (callFunc 10 #[.int .u64 x]).run prog w = .ok (.value (.float .f64 x)) w := by
  rw [run_callFunc_extern func10 (by kernel_rfl) (by kernel_rfl) (by kernel_rfl) (e := Extern.MathFloatBits.float64frombits) (by kernel_rfl)]
  rfl

theorem xadd_run (x y c : Nat) (hc : c ≤ 1) (w : World) : (callFunc 458 #[.int .u64 x, .int .u64 y, .int .u64 c]).run prog w =
    .ok (.value (.tuple #[.int .u64 (((x + y + c) % 18446744073709551616 : Nat) : Int), .int .u64 (((x + y + c) / 18446744073709551616 : Nat) : Int)])) w := by
  rw [run_callFunc_extern func458 (by kernel_rfl) (by kernel_rfl) (by kernel_rfl) (e := add64Entry) (by kernel_rfl), run_add64 x y c (by omega) (by omega) (by omega) (by omega)]
  have e1 : (((x + y + c) % 18446744073709551616 : Nat) : Int) = ((x : Int) + y + c) % 18446744073709551616 := by omega
  have e2 : (((x + y + c) / 18446744073709551616 : Nat) : Int) = ((x : Int) + y + c) / 18446744073709551616 := by omega
  rw [e1, e2]
  rfl

def xsubEntry : Array Value → Sem Value := fun args => do
  let (x, y, b) ← Extern.MathBitsCarry.three "Sub64" args
  pure (Extern.MathBitsCarry.pair ((x + Extern.MathBitsCarry.m64 - y - b) % Extern.MathBitsCarry.m64) (if x < y + b then 1 else 0))
theorem xsub_run (x y b : Nat) (hb : b ≤ 1) (w : World) : (callFunc 457 #[.int .u64 x, .int .u64 y, .int .u64 b]).run prog w =
    .ok (.value (.tuple #[.int .u64 (((x + 18446744073709551616 - y - b) % 18446744073709551616 : Nat) : Int), .int .u64 ((if x < y + b then 1 else 0 : Nat) : Int)])) w := by
  rw [run_callFunc_extern func457 (by kernel_rfl) (by kernel_rfl) (by kernel_rfl) (e := xsubEntry) (by kernel_rfl)]
  have : b = 0 ∨ b = 1 := by omega
  rcases this with rfl | rfl <;> rfl

theorem xE_ok : ∀ f args v, xE f args = some v → ∀ (E : Env) (args' : List Value), LR E args args' → ∃ v', VR E v v' ∧ ∀ w, (callFunc f args'.toArray).run prog w = .ok (.value v') w := by
  intro f args v h E args' ha
  unfold xE at h
  split at h
  · rename_i x y c
    have e := ha.eq (by rfl)
    subst e
    cases hc : (Nat.ble c 1 && Nat.blt x 18446744073709551616 && Nat.blt y 18446744073709551616) with
    | false => rw [hc] at h; cases h
    | true =>
      rw [hc] at h
      simp only [cond_true] at h
      simp only [Bool.and_eq_true] at hc
      have hc1 : c ≤ 1 := Nat.le_of_ble_eq_true hc.1.1
      cases hf : Nat.beq f 458 with
      | true =>
        rw [hf] at h
        cases h
        have := Nat.eq_of_beq_eq_true hf
        subst this
        exact ⟨_, VR.closed rfl, fun w => xadd_run x y c hc1 w⟩
      | false =>
        rw [hf] at h
        simp only [cond_false] at h
        cases hf2 : Nat.beq f 457 with
        | false => rw [hf2] at h; cases h
        | true =>
          rw [hf2] at h
          cases h
          have := Nat.eq_of_beq_eq_true hf2
          subst this
          refine ⟨_, VR.closed rfl, fun w => ?_⟩
          have := xsub_run x y c hc1 w
          have e : ((if x < y + c then 1 else 0 : Nat) : Int) = (bif Nat.blt x (y + c) then 1 else 0 : Int) := by
            cases hb : Nat.blt x (y + c) with
            | true => have := Nat.le_of_ble_eq_true hb; rw [if_pos (by omega)]; rfl
            | false =>
              have : ¬ x < y + c := fun hl => by
                have := Nat.ble_eq_true_of_le (n := x + 1) (m := y + c) hl
                rw [show Nat.blt x (y + c) = Nat.ble (x + 1) (y + c) from rfl] at hb
                rw [this] at hb; cases hb
              rw [if_neg this]; rfl
          have hy : y < 18446744073709551616 := Nat.le_of_ble_eq_true hc.2
          have e3 : (((x + 18446744073709551616 - y - c) % 18446744073709551616 : Nat) : Int) = ((x : Int) + 18446744073709551616 - y - c) % 18446744073709551616 := by omega
          rw [e, e3] at this
          exact this
  · cases h
end Go.Proofs.Tryz
