/- LineRises (yearbooklaw05): the plain law of a line that rises or falls, and the walk for all lines and times. -/
import Derived.Test.YtlgjapjcdpikeaaLineRisesW
set_option linter.unusedSimpArgs false
set_option linter.unusedVariables false
namespace Go.Proofs.Ytlgjapjcdpikeaa
open Go.RowKit

theorem lnQ_up {A R N D s s' : Int} (hD : 1 ≤ D) (hN : 0 ≤ N) (h : s ≤ s') : lnQ A R N D s ≤ lnQ A R N D s' := by
  unfold lnQ
  have k1 : N * s ≤ N * s' := Int.mul_le_mul_of_nonneg_left h hN
  have k2 : (N * s + R) / D ≤ (N * s' + R) / D := Int.ediv_le_ediv (by omega) (by omega)
  omega
theorem lnQ_down {A R N D s s' : Int} (hD : 1 ≤ D) (hN : N ≤ 0) (h : s ≤ s') : lnQ A R N D s' ≤ lnQ A R N D s := by
  unfold lnQ
  have k1 : N * s' ≤ N * s := Int.mul_le_mul_of_nonpos_left hN h
  have k2 : (N * s' + R) / D ≤ (N * s + R) / D := Int.ediv_le_ediv (by omega) (by omega)
  omega

theorem At_ok {A R N D s : Int} (h1 : isB A R N D = true) (h2 : tmB s = true) (h3 : bkB (lnQ A R N D s) = true) (w : World) :
    Calls Try.prog 20 #[.agg #[.int .i64 A, .int .i64 R, .int .i64 N, .int .i64 D], .int .i64 s] w fun e w' => e = .returned (.tuple #[.int .i64 (lnQ A R N D s), .int .i64 0]) ∧ Below w.heap.size w w' := by
  have c1 := line_At A R N D s
  have hV : atV A R N D s = lnQ A R N D s := by unfold atV; simp [h1, h2, h3]
  have hE : atE A R N D s = 0 := by unfold atE; simp [h1, h2, h3]
  rw [hV, hE] at c1
  exact c1 w

/-- THE WALK of LineRises -/
theorem line_rises (A R N D f m t : Int) (w : World) :
    Calls Try.prog 10 #[.agg #[.int .i64 A, .int .i64 R, .int .i64 N, .int .i64 D], .int .i64 f, .int .i64 m, .int .i64 t] w fun x w' => x = .returned (.bool true) ∧ Below w.heap.size w w' := by
  by_cases he : enE A R N D f t = 0
  · have hI : isB A R N D = true ∧ (tmB f = true ∧ tmB t = true ∧ f ≤ t) ∧ bkB (lnQ A R N D f) = true ∧ bkB (lnQ A R N D t) = true := by
      unfold enE at he
      split at he
      · split at he
        · split at he
          · exact ⟨by assumption, by assumption, by assumption⟩
          · omega
        · omega
      · omega
    obtain ⟨h1, ⟨h2, h3, h4⟩, h5, h6⟩ := hI
    have c1 := line_Ends_yes A R N D f t h1 h2 h3 h4 h5 h6
    have c2 := At_ok h1 h2 h5
    have c3 := At_ok h1 h3 h6
    obtain ⟨_, ⟨d1, _⟩, _⟩ := isB_spec h1
    obtain ⟨f1, f2⟩ : 0 ≤ f ∧ f ≤ 281474976710656 := of_decide_eq_true h2
    obtain ⟨t1, t2⟩ : 0 ≤ t ∧ t ≤ 281474976710656 := of_decide_eq_true h3
    obtain ⟨v1, v2⟩ : -2305844108725321728 ≤ lnQ A R N D f ∧ lnQ A R N D f ≤ 2305844108725321728 := of_decide_eq_true h5
    obtain ⟨u1, u2⟩ : -2305844108725321728 ≤ lnQ A R N D t ∧ lnQ A R N D t ≤ 2305844108725321728 := of_decide_eq_true h6
    have hmid : ¬ (m < f ∨ t < m) → tmB m = true := fun h => decide_eq_true ⟨by omega, by omega⟩
    rcases Int.lt_trichotomy N 0 with hN | hN | hN
    · have q := lnQ_down (A := A) (R := R) d1 (show N ≤ 0 by omega) h4
      rw [show min (lnQ A R N D f) (lnQ A R N D t) = lnQ A R N D t by omega, show max (lnQ A R N D f) (lnQ A R N D t) = lnQ A R N D f by omega] at c1
      by_cases hm : m < f ∨ t < m
      · exact rises_on A R N D f m t _ _ (by omega) (by omega) q (by omega) hm c1 c2 c3 w
      · have q1 := lnQ_down (A := A) (R := R) d1 (show N ≤ 0 by omega) (show f ≤ m by omega)
        have q2 := lnQ_down (A := A) (R := R) d1 (show N ≤ 0 by omega) (show m ≤ t by omega)
        have c4 := At_ok h1 (hmid hm) (decide_eq_true ⟨by omega, by omega⟩)
        exact rises_in A R N D f m t _ _ _ (by omega) (by omega) q (by omega) (by omega) (by omega) q2 q1 c1 c2 c3 c4 w
    · have qa := lnQ_down (A := A) (R := R) d1 (show N ≤ 0 by omega) h4
      have qb := lnQ_up (A := A) (R := R) d1 (show 0 ≤ N by omega) h4
      have q : lnQ A R N D t = lnQ A R N D f := by omega
      rw [show min (lnQ A R N D f) (lnQ A R N D t) = lnQ A R N D f by omega, show max (lnQ A R N D f) (lnQ A R N D t) = lnQ A R N D f by omega] at c1
      rw [q] at c3
      by_cases hm : m < f ∨ t < m
      · exact rises_oz A R N D f m t _ hN hm c1 c2 c3 w
      · have q1 := lnQ_down (A := A) (R := R) d1 (show N ≤ 0 by omega) (show f ≤ m by omega)
        have q2 := lnQ_up (A := A) (R := R) d1 (show 0 ≤ N by omega) (show f ≤ m by omega)
        have c4 := At_ok h1 (hmid hm) (decide_eq_true ⟨by omega, by omega⟩)
        exact rises_iz A R N D f m t _ _ hN (by omega) (by omega) q2 q1 c1 c2 c3 c4 w
    · have q := lnQ_up (A := A) (R := R) d1 (show 0 ≤ N by omega) h4
      rw [show min (lnQ A R N D f) (lnQ A R N D t) = lnQ A R N D f by omega, show max (lnQ A R N D f) (lnQ A R N D t) = lnQ A R N D t by omega] at c1
      by_cases hm : m < f ∨ t < m
      · exact rises_op A R N D f m t _ _ (by omega) (by omega) q (by omega) hm c1 c2 c3 w
      · have q1 := lnQ_up (A := A) (R := R) d1 (show 0 ≤ N by omega) (show f ≤ m by omega)
        have q2 := lnQ_up (A := A) (R := R) d1 (show 0 ≤ N by omega) (show m ≤ t by omega)
        have c4 := At_ok h1 (hmid hm) (decide_eq_true ⟨by omega, by omega⟩)
        exact rises_ip A R N D f m t _ _ _ (by omega) (by omega) q (by omega) (by omega) (by omega) q1 q2 c1 c2 c3 c4 w
  · exact rises_1 A R N D f m t _ he (line_Ends_no A R N D f t he) w
end Go.Proofs.Ytlgjapjcdpikeaa
