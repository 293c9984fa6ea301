/- yearbooklaw05.wakes at this program: true. -/
import Derived.Test.YtlgjapjcdpikeaaLine4
set_option linter.unusedSimpArgs false
set_option linter.unusedVariables false
namespace Go.Proofs.Ytlgjapjcdpikeaa
open Go.RowKit

theorem cmpI_lt {a b : Int} (h : a < b) : cmpI a b = -1 := by unfold cmpI; rw [if_pos h]
theorem cmpI_eq {a b : Int} (h : a = b) : cmpI a b = 0 := by unfold cmpI; rw [if_neg (by omega), if_pos h]
theorem cmpI_gt {a b : Int} (h : b < a) : cmpI a b = 1 := by unfold cmpI; rw [if_neg (by omega), if_neg (by omega)]

theorem line_Within (A R N D dt l h : Int) (l1 : -9223372036854775808 ≤ l) (l2 : l < 9223372036854775808) (h1 : -9223372036854775808 ≤ h) (h2 : h < 9223372036854775808) (w : World) :
    Calls Try.prog 22 #[.agg #[.int .i64 A, .int .i64 R, .int .i64 N, .int .i64 D], .int .i64 dt, .int .i64 l, .int .i64 h] w fun e w' => e = .returned (.bool (winB A R N D dt l h)) ∧ Below w.heap.size w w' := by
  by_cases hn : isB A R N D = true ∧ tmB dt = true
  · obtain ⟨hi1, ht⟩ := hn
    have c1 := line_is A R N D
    have c2 := line_timeIs dt
    rw [hi1] at c1
    rw [ht] at c2
    have hr := lnQ_rng hi1 ht
    have g1 : Rng h := ⟨by omega, by omega⟩
    have g2 : Rng l := ⟨by omega, by omega⟩
    refine line_Within_yes A R N D dt l h _ _ _ _ _ c1 c2 (line_overB A R N D dt hi1 ht) (wide_Of h h1 h2) (wide_Of l l1 l2) (wide_Compare _ _ hr g1) (wide_Compare _ _ hr g2) ?_ w
    have hw : winB A R N D dt l h = decide (l ≤ lnQ A R N D dt ∧ (lnQ A R N D dt < h ∨ lnQ A R N D dt = h ∧ (N * dt + R) % D = 0)) := by unfold winB; simp [hi1, ht]
    rw [hw]
    generalize lnQ A R N D dt = Q at *
    generalize (N * dt + R) % D = rr at *
    by_cases k1 : l ≤ Q
    · have e1 : decide (0 ≤ cmpI Q l) = true := by
        by_cases k : Q = l
        · rw [cmpI_eq k]; rfl
        · rw [cmpI_gt (by omega)]; rfl
      by_cases k2 : Q < h
      · exact .inr (.inl ⟨e1, by rw [cmpI_lt k2]; rfl, by simp [k1, k2]⟩)
      · by_cases k3 : Q = h
        · refine .inr (.inr (.inr ⟨e1, by rw [cmpI_eq k3]; rfl, by rw [cmpI_eq k3]; rfl, ?_⟩))
          subst k3
          by_cases k4 : rr = 0 <;> simp [k1, k4]
        · exact .inr (.inr (.inl ⟨e1, by rw [cmpI_gt (by omega)]; rfl, by rw [cmpI_gt (by omega)]; rfl, by simp [k2, k3]⟩))
    · exact .inl ⟨by rw [cmpI_lt (by omega)]; rfl, by simp [k1]⟩
  · have hw : winB A R N D dt l h = false := decide_eq_false fun hh => hn ⟨hh.1, hh.2.1⟩
    rw [hw]
    exact line_Within_no A R N D dt l h hn w

theorem wakes5_ok : ((Try.f19.body.bind (Abs.findR 5)).map fun o => Abs.okB o [0, 1, 2, 3, 4, 5, 6, 7, 8, 9, 10, 11, 12, 13, 14, 15, 16, 17, 18, 19, 20, 21, 22, 23, 24, 25, 26, 27, 28, 29, 30, 31]) = some true := by kernel_rfl

set_option maxRecDepth 100000 in
set_option maxHeartbeats 2000000 in
theorem wakes5 (w : World) : Calls Try.prog 19 #[] w fun e w' => e = .returned (.bool true) ∧ Below w.heap.size w w' := by
  have c1 := line_At 10 1 (-3) 2 2
  rw [show atV 10 1 (-3) 2 2 = 7 by decide +kernel, show atE 10 1 (-3) 2 2 = 0 by decide +kernel] at c1
  have c2 := line_Lowest_yes 6 4 (by decide +kernel)
  rw [show lwN 6 4 = 3 by decide +kernel, show lwD 6 4 = 2 by decide +kernel] at c2
  have c3 := line_Compare_yes 1 2 2 3 (by decide +kernel) (by decide +kernel)
  rw [show cmpI (1 * 3) (2 * 2) = -1 by decide +kernel] at c3
  have c4 := line_Within 10 1 (-3) 2 1 9 9 (by decide) (by decide) (by decide) (by decide)
  rw [show winB 10 1 (-3) 2 1 9 9 = true by decide +kernel] at c4
  have c5 := line_Check 0 0 0 2
  rw [show isB 0 0 0 2 = false by decide +kernel, if_neg (by decide)] at c5
  go_enter Try.func19, Try.ntmps19
  go_wp2_with fail
  refine (c1 _).mono ?_
  rintro e w1 ⟨rfl, hb1⟩
  have a1 := kp hb1 (na w #[.int .i64 10, .int .i64 1, .int .i64 (-3), .int .i64 2] 23)
  go_wp2_with fail
  refine (c2 _).mono ?_
  rintro e w2 ⟨rfl, hb2⟩
  have a2 := kp hb2 a1
  go_wp2_with fail
  refine (c3 _).mono ?_
  rintro e w3 ⟨rfl, hb3⟩
  have a3 := kp hb3 (ka a2 (.cells #[.int .i64 3, .int .i64 2] 33))
  have n3 := kp hb3 (na w2 #[.int .i64 3, .int .i64 2] 33)
  obtain ⟨z1, -, -⟩ := rcell a3
  obtain ⟨z2, -, -⟩ := rcell n3
  go_wp2_with (first | (go_at_call 22; refine (c4 _).mono ?_; rintro e w4 ⟨rfl, hb4⟩) | (go_at_call 21; refine (c5 _).mono ?_; rintro e w5 ⟨rfl, hb5⟩))
  go_ret
  exact ⟨by simp, bB (bB (bB (bA (bB (bB (bA (b0 w) _) hb1) hb2) _) hb3) hb4) hb5⟩
end Go.Proofs.Ytlgjapjcdpikeaa
