/- slices.Equal of runs and of int64, seg.Same, where they are equal; slices.Clone of bytes, yearbooklaw12.few at this program. -/
import Derived.Test.YtmpfbkeamihjbaaGreatQ7
import Derived.Test.YtmpfbkeamihjbaaGreatLawZ3
set_option linter.unusedSimpArgs false
set_option linter.unusedVariables false
namespace Go.Proofs.YtmpfbkeamihjbaaGreat
open Go.RowKit
attribute [local go_sem] Oper.semAt_some

section
variable (RA RB VA VB : Option Addr) (rc rd vc vd : Nat) (l : List Rn) (vs : List Int) (kd A R N D er : Int) (w : World) (hR : RR w RA rc l) (hS : RR w RB rd l) (hV : VR w VA vc vs) (hU : VR w VB vd vs)
end

theorem eqIn_nilY (d : Nat) (a : Option Addr) (l c : Nat) (w : World) : (Op.equalIn (d + 1) 30 (.slice a l c) (.slice none 0 0)).run Tryz.prog w = .ok a.isNone w := by
  cases a <;> simp [Op.equalIn, run_underlying Tryz.underlying30]
theorem eq_nilY (a : Option Addr) (l c : Nat) (w : World) : (Op.equal 30 (.slice a l c) (.slice none 0 0)).run Tryz.prog w = .ok a.isNone w := eqIn_nilY 9999 a l c w
theorem eql_nilY (a : Option Addr) (l c : Nat) (w : World) : (binOp .eql 30 (.slice a l c) (.slice none 0 0)).run Tryz.prog w = .ok (.bool a.isNone) w := by
  simp [binOp, eq_nilY]
set_option maxRecDepth 100000 in
theorem clone_bytes (X : Option Addr) (C n : Nat) (ys : List Int) (hny : n = ys.length) (h4 : ys.length ≤ 100000) (w : World) (hT : InC .u8 w X ys) :
    Calls Tryz.prog 41 #[.slice X n C] w fun e w' => ∃ A c n', e = .returned (.slice A n' c) ∧ Hid (n' = ys.length) ∧ YR w' A c ys ∧ Below w.heap.size w w' := by
  subst hny
  have hq := eql_nilY
  rcases X with _ | ad
  · obtain rfl : ys = [] := by
      by_cases h0 : 0 < ys.length
      · obtain ⟨ad, e, _⟩ := hT h0
        cases e
      · exact List.eq_nil_of_length_eq_zero (by omega)
    go_enter Tryz.func41, Tryz.ntmps41
    go_wp2
    go_ret
    exact ⟨none, 0, 0, rfl, hide rfl, CR.nil _ _ _ (by decide), b0 w⟩
  · have hlen : ([] : List Int).length + ys.length ≤ 1048576 := by simp; omega
    go_enter Tryz.func41, Tryz.ntmps41
    go_wp2_with (at_builtin; refine wpList_pushC rfl _ _ 30 rfl 1 Tryz.underlying30 byte_info (by decide) w.heap.size _ [] ys (some ad) C rfl rfl (OwnC.fresh w) (hT.below (bA (b0 w) _)) hlen (by simp) ?_; intro v1 w1 ho1 hb1 hs1)
    go_ret
    rw [List.nil_append] at ho1
    obtain ⟨A, c, rfl, hr⟩ := ho1.cr
    exact ⟨A, c, _, rfl, hide rfl, hr, hb1 _ (bA (b0 w) _)⟩
theorem min3000 (n : Nat) : (if (3000 : Int) < (n : Int) then (3000 : Int) else (n : Int)) = ((min 3000 n : Nat) : Int) := by split <;> omega
set_option maxRecDepth 100000 in
theorem few_in (X : Option Addr) (C n k : Nat) (ys : List Int) (hk : (if (3000 : Int) < (n : Int) then (3000 : Int) else (n : Int)) = (k : Int)) (hn : n ≤ C) (hkx : k = ys.length) (w : World) (hT : InC .u8 w X ys) :
    Calls Tryz.prog 16 #[.slice X n C] w fun e w' => ∃ A c n', e = .returned (.slice A n' c) ∧ Hid (n' = ys.length) ∧ YR w' A c ys ∧ Below w.heap.size w w' := by
  have hkn : k ≤ n := by split at hk <;> omega
  have hk3 : k ≤ 3000 := by split at hk <;> omega
  have c1 := fun (c : Nat) w hT => clone_bytes X c k ys hkx (by omega) w hT
  have HK := hide hkx
  clear hkx
  go_enter Tryz.func16, Tryz.ntmps16
  go_wp2_with fail
  refine (c1 _ _ hT).mono ?_
  rintro e w1 ⟨A, c, n', rfl, hn', hy, hb⟩
  go_wp2
  go_ret
  exact ⟨A, c, n', rfl, hn', hy, hb⟩
theorem law12_few (X : Option Addr) (C : Nat) (xs : List Int) (hn : xs.length ≤ C) (w : World) (hX : InC .u8 w X xs) :
    Calls Tryz.prog 16 #[.slice X xs.length C] w fun e w' => ∃ A c n', e = .returned (.slice A n' c) ∧ Hid (n' = (xs.take 3000).length) ∧ YR w' A c (xs.take 3000) ∧ Below w.heap.size w w' :=
  few_in X C xs.length (min 3000 xs.length) (xs.take 3000) (min3000 _) hn (by rw [List.length_take]) w (hX.take 3000)
end Go.Proofs.YtmpfbkeamihjbaaGreat
