/- What is written is read: plain law, no program in sight. What is read, cut off: plain law, no program in sight. What is read was written so: plain law, no program in sight. -/
import Derived.Test.YtmpfbkeamihjbaaGreatQ6
import Derived.Test.YtmpfbkeamihjbaaGreatQ4
set_option linter.unusedSimpArgs false
set_option linter.unusedVariables false
namespace Go.Proofs.YtmpfbkeamihjbaaGreat
open Go.RowKit

/-- the bytes behind a place begin so -/
def At (b : List Int) (at' : Nat) (l : List Int) : Prop := ∃ r, b.drop at' = l ++ r
theorem lwD_zero {D : Int} (h : 1 ≤ D) : lwD 0 D = 1 := by
  have : dvN 0 D = D.toNat := by unfold dvN; simp
  unfold lwD
  rw [this, show ((D.toNat : Nat) : Int) = D by omega]
  exact Int.ediv_self (by omega)
theorem At.head {b : List Int} {at' : Nat} {k : Int} {l : List Int} (h : At b at' (k :: l)) : b[at']? = some k ∧ At b (at' + 1) l := by
  obtain ⟨r, h⟩ := h
  refine ⟨?_, r, ?_⟩
  · have := congrArg (·[0]?) h
    simpa using this
  · rw [← List.drop_drop, h]
    rfl
end Go.Proofs.YtmpfbkeamihjbaaGreat

namespace Go.Proofs.YtmpfbkeamihjbaaGreat
open Go.RowKit

/-- bytes cut off where the reading still goes on end too early; cut off behind it they read the same -/
def Keeps {α : Type} (p : List Int → Nat → Except Int (α × Nat)) : Prop :=
  ∀ b at' x nx, p b at' = .ok (x, nx) → at' ≤ nx ∧ ∀ i, at' ≤ i → p (b.take i) at' = if i < nx then .error 6 else .ok (x, nx)
theorem gt_cut : ∀ (l : List Int) (k acc : Nat) (N m : Nat), gt l k acc = .ok (N, m) → ∀ j, gt (l.take j) k acc = if k + j < m then .error 6 else .ok (N, m)
  | [], _, _, _, _, h, _ => by cases h
  | x :: r, k, acc, N, m, h, j => by
    have hle := gt_le _ _ _ _ _ h
    cases j with
    | zero =>
      rw [List.take_zero, if_pos (by omega)]
      rfl
    | succ j =>
      rw [List.take_succ_cons, gt]
      rw [gt] at h
      split at h
      · cases h
      · next c1 =>
        rw [if_neg c1]
        split at h
        · cases h
        · next c2 =>
          rw [if_neg c2]
          split at h
          · next c3 =>
            rw [if_pos c3]
            injection h with h
            injection h with h h2
            rw [if_neg (by omega), h, h2]
          · next c3 =>
            rw [if_neg c3, gt_cut r (k + 1) _ N m h j]
            rw [show k + 1 + j = k + (j + 1) by omega]
theorem keeps_gU : Keeps gU := by
  intro b at' N nx h
  unfold gU at h
  split at h
  · next n k e =>
    injection h with h
    injection h with h h2
    subst h h2
    refine ⟨by omega, fun i hi => ?_⟩
    have hd : (b.take i).drop at' = (b.drop at').take (i - at') := by rw [List.drop_take]
    unfold gU
    rw [hd, gt_cut _ _ _ _ _ e (i - at')]
    by_cases c : i < at' + k
    · rw [if_pos (by omega), if_pos c]
    · rw [if_neg (by omega), if_neg c]
  · cases h
end Go.Proofs.YtmpfbkeamihjbaaGreat

namespace Go.Proofs.YtmpfbkeamihjbaaGreat
open Go.RowKit

end Go.Proofs.YtmpfbkeamihjbaaGreat
