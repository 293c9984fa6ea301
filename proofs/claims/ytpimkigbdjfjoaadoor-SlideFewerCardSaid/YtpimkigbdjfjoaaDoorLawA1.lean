/- slices.Clone of bands, yearbooklaw10.few at this program. -/
import Derived.Test.YtpimkigbdjfjoaaDoorPA
set_option linter.unusedSimpArgs false
set_option linter.unusedVariables false
namespace Go.Proofs.YtpimkigbdjfjoaaDoor
open Go.RowKit
attribute [local go_sem] Oper.semAt_some

theorem eqIn_nilB (d : Nat) (a : Option Addr) (l c : Nat) (w : World) : (Op.equalIn (d + 1) 22 (.slice a l c) (.slice none 0 0)).run Tryd.prog w = .ok a.isNone w := by
  cases a <;> simp [Op.equalIn, run_underlying Tryd.underlying22]
theorem eq_nilB (a : Option Addr) (l c : Nat) (w : World) : (Op.equal 22 (.slice a l c) (.slice none 0 0)).run Tryd.prog w = .ok a.isNone w := eqIn_nilB 9999 a l c w
theorem eql_nilB (a : Option Addr) (l c : Nat) (w : World) : (binOp .eql 22 (.slice a l c) (.slice none 0 0)).run Tryd.prog w = .ok (.bool a.isNone) w := by
  simp [binOp, eq_nilB]

set_option maxRecDepth 100000 in
theorem clone_bands (X : Option Addr) (C : Nat) (ys : List Bd) (hn : ys.length ≤ C) (h4 : ys.length ≤ 4096) (w : World) (hT : InB w X ys) :
    Calls Tryd.prog 32 #[.slice X ys.length C] w fun e w' => ∃ A c, e = .returned (.slice A ys.length c) ∧ BR w' A c ys ∧ Below w.heap.size w w' := by
  have hq := eql_nilB
  rcases X with _ | ad
  · obtain rfl : ys = [] := by
      by_cases h0 : 0 < ys.length
      · obtain ⟨ad, e, _⟩ := hT h0
        cases e
      · exact List.eq_nil_of_length_eq_zero (by omega)
    go_enter Tryd.func32, Tryd.ntmps32
    go_wp2
    go_ret
    exact ⟨none, 0, rfl, BR.nil _ _ _ (by decide), b0 w⟩
  · have hlen : ([] : List Bd).length + ys.length ≤ 4096 := by simp; omega
    go_enter Tryd.func32, Tryd.ntmps32
    go_wp2_with (at_builtin; refine wpList_pushB rfl _ _ rfl w.heap.size _ [] ys (some ad) C rfl rfl (OwnB.fresh w) (hT.below (bA (b0 w) _)) hlen (by simp) ?_; intro v1 w1 ho1 hb1 hs1)
    go_ret
    rw [List.nil_append] at ho1
    obtain ⟨A, c, rfl, hr⟩ := ho1.br
    exact ⟨A, c, rfl, hr, hb1 _ (bA (b0 w) _)⟩

set_option maxRecDepth 100000 in
theorem few_in (X : Option Addr) (C n m k : Nat) (hm : min (n : Int) (k : Int) = (m : Int)) (hn : n ≤ C) (hmn : m ≤ n) (ys : List Bd) (hy : ys.length = m) (h4 : ys.length ≤ 4096) (w : World) (hT : InB w X ys) :
    Calls Tryd.prog 12 #[.slice X n C, .int .i64 k] w fun e w' => ∃ A c, e = .returned (.slice A ys.length c) ∧ BR w' A c ys ∧ Below w.heap.size w w' := by
  have c1 := clone_bands X C ys (by omega) h4 w hT
  rw [hy] at c1 ⊢
  clear hy h4 hT
  by_cases hnk : n ≤ k
  · obtain rfl : m = n := by omega
    go_enter Tryd.func12, Tryd.ntmps12
    go_wp2_with fail
    refine c1.mono ?_
    rintro e w1 ⟨A, c, rfl, hr, hb⟩
    go_wp2
    go_ret
    exact ⟨A, c, rfl, hr, hb⟩
  · obtain rfl : m = k := by omega
    go_enter Tryd.func12, Tryd.ntmps12
    go_wp2_with fail
    refine c1.mono ?_
    rintro e w1 ⟨A, c, rfl, hr, hb⟩
    go_wp2
    go_ret
    exact ⟨A, c, rfl, hr, hb⟩
theorem law10_few (X : Option Addr) (C k : Nat) (xs : List Bd) (hk : k ≤ 4096) (hn : xs.length ≤ C) (w : World) (hX : InB w X xs) :
    Calls Tryd.prog 12 #[.slice X xs.length C, .int .i64 k] w fun e w' => ∃ A c, e = .returned (.slice A (xs.take k).length c) ∧ BR w' A c (xs.take k) ∧ Below w.heap.size w w' := by
  have hl : (xs.take k).length = min k xs.length := List.length_take
  exact few_in X C xs.length (min k xs.length) k (by omega) hn (by omega) (xs.take k) hl (by omega) w (hX.take k)
end Go.Proofs.YtpimkigbdjfjoaaDoor
