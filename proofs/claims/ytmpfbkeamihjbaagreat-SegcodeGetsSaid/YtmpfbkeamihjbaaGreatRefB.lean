/- yearbookref12 at this program: Last, Bytes. -/
import Derived.Test.YtmpfbkeamihjbaaGreatR3
import Derived.Test.YtmpfbkeamihjbaaGreatR7
import Derived.Test.YtmpfbkeamihjbaaGreatTail
import Derived.Deep.RegionHeld3
set_option linter.unusedSimpArgs false
set_option linter.unusedVariables false
namespace Go.Proofs.YtmpfbkeamihjbaaGreat
open Go.RowKit
attribute [local go_sem] Oper.semAt_some

set_option maxRecDepth 100000 in
theorem ref12_Last (f s n : Int) (hf : 0 ≤ f ∧ f ≤ 1125899906842624) (hs : 0 ≤ s ∧ s ≤ 281474976710656) (hn : 0 ≤ n ∧ n ≤ 256) (w : World) :
    Calls Tryz.prog 38 #[.agg #[.int .i64 f, .int .i64 s, .int .i64 n]] w fun e w' => e = .returned (.int .i64 (rlast ⟨f, s, n⟩)) ∧ Below w.heap.size w w' := by
  obtain ⟨p, hp⟩ : ∃ p, (n - 1) * s = p := ⟨_, rfl⟩
  have hp0 : -281474976710656 ≤ p ∧ p ≤ 256 * 281474976710656 := by
    rw [← hp]
    by_cases h0 : n = 0
    · subst h0
      simp only [Int.zero_sub, Int.neg_mul, Int.one_mul]
      omega
    · have h1 := Int.mul_nonneg (show 0 ≤ n - 1 by omega) hs.1
      have h2 := Int.mul_le_mul_of_nonneg_right (show n - 1 ≤ 256 by omega) hs.1
      omega
  have hres : Hid (rlast ⟨f, s, n⟩ = f + p) := hide (by show f + (n - 1) * s = _; rw [hp])
  have hw0 : wrap64 (n - 1) = n - 1 := by unfold wrap64; omega
  have hw1 : wrap64 p = p := by unfold wrap64; omega
  have hw2 : wrap64 (f + p) = f + p := by unfold wrap64; omega
  go_enter Tryz.func38, Tryz.ntmps38
  go_wp2
  go_ret
  exact ⟨by rw [hres.out] <;> simp [hw0, hw1, hw2, hp], (bA (b0 w) (.cells #[.int .i64 f, .int .i64 s, .int .i64 n] 46))⟩

def SlY (ys : List Int) (v : Value) (w : World) : Prop := ∃ A c n, v = .slice A n c ∧ n = ys.length ∧ YR w A c ys
theorem GivesY.sl {l : List Int} {w w' : World} {e : Ending} (h : GivesY l w e w') : ∃ v, e = .returned v ∧ Below w.heap.size w w' ∧ SlY l v w' := by
  obtain ⟨A, c, n, rfl, hn, hv, hb⟩ := h
  exact ⟨_, rfl, hb, A, c, n, rfl, hn.out, hv⟩
section
variable (RA VA : Option Addr) (rc vc : Nat) (l : List Rn) (vs : List Int) (kd A R N D er : Int)
end
end Go.Proofs.YtmpfbkeamihjbaaGreat
