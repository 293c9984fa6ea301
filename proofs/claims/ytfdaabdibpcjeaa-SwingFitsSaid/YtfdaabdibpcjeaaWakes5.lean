/- yearbooklaw05.wakes at this program: true. -/
import Derived.Test.YtfdaabdibpcjeaaLine4
set_option linter.unusedSimpArgs false
set_option linter.unusedVariables false
namespace Go.Proofs.Ytfdaabdibpcjeaa
open Go.RowKit

theorem cmpI_lt {a b : Int} (h : a < b) : cmpI a b = -1 := by unfold cmpI; rw [if_pos h]
theorem cmpI_eq {a b : Int} (h : a = b) : cmpI a b = 0 := by unfold cmpI; rw [if_neg (by omega), if_pos h]
theorem cmpI_gt {a b : Int} (h : b < a) : cmpI a b = 1 := by unfold cmpI; rw [if_neg (by omega), if_neg (by omega)]

theorem line_Within (A R N D dt l h : Int) (l1 : -9223372036854775808 ≤ l) (l2 : l < 9223372036854775808) (h1 : -9223372036854775808 ≤ h) (h2 : h < 9223372036854775808) (w : World) :
    Calls Try.prog 36 #[.agg #[.int .i64 A, .int .i64 R, .int .i64 N, .int .i64 D], .int .i64 dt, .int .i64 l, .int .i64 h] w fun e w' => e = .returned (.bool (winB A R N D dt l h)) ∧ Below w.heap.size w w' := by
  by_cases hn : isB A R N D = true ∧ tmB dt = true
  · obtain ⟨hi1, ht⟩ := hn
    have c1 := line_is A R N D
    have c2 := line_timeIs dt
    rw [hi1] at c1
    rw [ht] at c2
    have hr := lnQ_rng hi1 ht
    have g1 : Rng h := ⟨by omega, by omega⟩
    have g2 : Rng l := ⟨by omega, by omega⟩
    refine line_Within_yes A R N D dt l h _ _ _ _ _ c1 c2 (line_overB A R N D dt hi1 ht) (wide_Of h h1 h2) (wide_Of l l1 l2) (wide_Compare _ _ hr g1) (wide_Compare _ _ hr g2) ?_ w
    have hw : winB A R N D dt l h = decide (l ≤ lnQ A R N D dt ∧ (lnQ A R N D dt < h ∨ lnQ A R N D dt = h ∧ (N * dt + R) % D = 0)) := by unfold winB; simp [hi1, ht]
    rw [hw]
    generalize lnQ A R N D dt = Q at *
    generalize (N * dt + R) % D = rr at *
    by_cases k1 : l ≤ Q
    · have e1 : decide (0 ≤ cmpI Q l) = true := by
        by_cases k : Q = l
        · rw [cmpI_eq k]; rfl
        · rw [cmpI_gt (by omega)]; rfl
      by_cases k2 : Q < h
      · exact .inr (.inl ⟨e1, by rw [cmpI_lt k2]; rfl, by simp [k1, k2]⟩)
      · by_cases k3 : Q = h
        · refine .inr (.inr (.inr ⟨e1, by rw [cmpI_eq k3]; rfl, by rw [cmpI_eq k3]; rfl, ?_⟩))
          subst k3
          by_cases k4 : rr = 0 <;> simp [k1, k4]
        · exact .inr (.inr (.inl ⟨e1, by rw [cmpI_gt (by omega)]; rfl, by rw [cmpI_gt (by omega)]; rfl, by simp [k2, k3]⟩))
    · exact .inl ⟨by rw [cmpI_lt (by omega)]; rfl, by simp [k1]⟩
  · have hw : winB A R N D dt l h = false := decide_eq_false fun hh => hn ⟨hh.1, hh.2.1⟩
    rw [hw]
    exact line_Within_no A R N D dt l h hn w

end Go.Proofs.Ytfdaabdibpcjeaa
