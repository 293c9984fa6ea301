/- LineMoves (yearbooklaw05): its walk, from the contract of line.At. -/
import Derived.Test.YtlgjapjcdpikeaaWakes5
set_option linter.unusedSimpArgs false
set_option linter.unusedVariables false
namespace Go.Proofs.Ytlgjapjcdpikeaa
open Go.RowKit

/-- at a time there is no value -/
theorem moves_1 (A R N D dt k e : Int) (he : ¬ e = 0) (c1 : ∀ w, Calls Try.prog 20 #[.agg #[.int .i64 A, .int .i64 R, .int .i64 N, .int .i64 D], .int .i64 dt] w fun x w' => x = .returned (.tuple #[.int .i64 0, .int .i64 e]) ∧ Below w.heap.size w w') (w : World) :
    Calls Try.prog 5 #[.agg #[.int .i64 A, .int .i64 R, .int .i64 N, .int .i64 D], .int .i64 dt, .int .i64 k] w fun x w' => x = .returned (.bool true) ∧ Below w.heap.size w w' := by
  go_enter Try.func5, Try.ntmps5
  go_wp2_with fail
  refine (wakes5 _).mono ?_
  rintro x w1 ⟨rfl, hb1⟩
  have z1 := (rcell (kp hb1 (na w #[.int .i64 A, .int .i64 R, .int .i64 N, .int .i64 D] 23))).1
  go_wp2_with fail
  refine (c1 _).mono ?_
  rintro x w2 ⟨rfl, hb2⟩
  go_wp2
  go_ret
  exact ⟨rfl, bB (bB (bA (b0 w) _) hb1) hb2⟩

set_option maxHeartbeats 1000000 in
/-- there is a value -/
theorem moves_2 (A R N D dt k0 k v b f : Int) (hk : k0.tmod 1099511627776 = k) (k1 : -1099511627776 < k) (k2 : k < 1099511627776) (a1' : -2305844108725321728 ≤ A) (a2' : A ≤ 2305844108725321728) (v1 : -2305844108725321728 ≤ v) (v2 : v ≤ 2305844108725321728)
    (hs : (if A + k > 2305844108725321728 ∨ A + k < -2305844108725321728 then f = 150 else if v + k > 2305844108725321728 ∨ v + k < -2305844108725321728 then f = 5 else f = 0 ∧ b = v + k))
    (c1 : ∀ w, Calls Try.prog 20 #[.agg #[.int .i64 A, .int .i64 R, .int .i64 N, .int .i64 D], .int .i64 dt] w fun x w' => x = .returned (.tuple #[.int .i64 v, .int .i64 0]) ∧ Below w.heap.size w w')
    (c2 : ∀ w, Calls Try.prog 20 #[.agg #[.int .i64 (A + k), .int .i64 R, .int .i64 N, .int .i64 D], .int .i64 dt] w fun x w' => x = .returned (.tuple #[.int .i64 b, .int .i64 f]) ∧ Below w.heap.size w w') (w : World) :
    Calls Try.prog 5 #[.agg #[.int .i64 A, .int .i64 R, .int .i64 N, .int .i64 D], .int .i64 dt, .int .i64 k0] w fun x w' => x = .returned (.bool true) ∧ Below w.heap.size w w' := by
  go_enter Try.func5, Try.ntmps5
  go_wp2_with fail
  refine (wakes5 _).mono ?_
  rintro x w1 ⟨rfl, hb1⟩
  have a1 := kp hb1 (na w #[.int .i64 A, .int .i64 R, .int .i64 N, .int .i64 D] 23)
  have z1 := (rcell a1).1
  go_wp2_with fail
  refine (c1 _).mono ?_
  rintro x w2 ⟨rfl, hb2⟩
  have a2 := kp hb2 a1
  have z2 := (rcell a2).1
  have i1 : -9223372036854775808 ≤ k := by omega
  have i2 : k < 9223372036854775808 := by omega
  have i3 : -9223372036854775808 ≤ A + k := by omega
  have i4 : A + k < 9223372036854775808 := by omega
  have i5 : -9223372036854775808 ≤ v + k := by omega
  have i6 : v + k < 9223372036854775808 := by omega
  go_wp2_with fail
  refine (c2 _).mono ?_
  rintro x w3 ⟨rfl, hb3⟩
  have n3 := kp hb3 (na w2 #[.int .i64 (A + k), .int .i64 R, .int .i64 N, .int .i64 D] 23)
  have z3 := (rcell n3).1
  have hB := bB (bA (bB (bB (bA (b0 w) (.cells #[.int .i64 A, .int .i64 R, .int .i64 N, .int .i64 D] 23)) hb1) hb2) (.cells #[.int .i64 (A + k), .int .i64 R, .int .i64 N, .int .i64 D] 23)) hb3
  clear hk k1 k2 a1' a2' v1 v2 c1 c2
  by_cases h1 : A + k > 2305844108725321728
  · rw [if_pos (Or.inl h1)] at hs
    subst hs
    go_wp2
    all_goals
      go_ret
      exact ⟨rfl, hB⟩
  by_cases h2 : A + k < -2305844108725321728
  · rw [if_pos (Or.inr h2)] at hs
    subst hs
    go_wp2
    all_goals
      go_ret
      exact ⟨rfl, hB⟩
  rw [if_neg (by omega)] at hs
  by_cases h3 : v + k > 2305844108725321728
  · rw [if_pos (Or.inl h3)] at hs
    subst hs
    go_wp2
    all_goals
      go_ret
      exact ⟨rfl, hB⟩
  by_cases h4 : v + k < -2305844108725321728
  · rw [if_pos (Or.inr h4)] at hs
    subst hs
    go_wp2
    all_goals
      go_ret
      exact ⟨rfl, hB⟩
  rw [if_neg (by omega)] at hs
  obtain ⟨rfl, rfl⟩ := hs
  go_wp2
  all_goals
    go_ret
    exact ⟨rfl, hB⟩

/-- THE WALK of LineMoves -/
theorem line_moves (A R N D dt k : Int) (w : World) :
    Calls Try.prog 5 #[.agg #[.int .i64 A, .int .i64 R, .int .i64 N, .int .i64 D], .int .i64 dt, .int .i64 k] w fun x w' => x = .returned (.bool true) ∧ Below w.heap.size w w' := by
  have c1 := line_At A R N D dt
  by_cases hI : isB A R N D = true ∧ tmB dt = true ∧ bkB (lnQ A R N D dt) = true
  · obtain ⟨h1, h2, h3⟩ := hI
    have hV : atV A R N D dt = lnQ A R N D dt := by unfold atV; simp [h1, h2, h3]
    have hE : atE A R N D dt = 0 := by unfold atE; simp [h1, h2, h3]
    rw [hV, hE] at c1
    obtain ⟨v1, v2⟩ : -2305844108725321728 ≤ lnQ A R N D dt ∧ lnQ A R N D dt ≤ 2305844108725321728 := of_decide_eq_true h3
    obtain ⟨⟨a1, a2⟩, e2, e3, e4⟩ := isB_spec h1
    have k2 : k.tmod 1099511627776 < 1099511627776 := Int.tmod_lt_of_pos k (by omega)
    have k3 : -1099511627776 < k.tmod 1099511627776 := by
      have := Int.tmod_lt_of_pos (-k) (show (0 : Int) < 1099511627776 by omega)
      rw [Int.neg_tmod] at this
      omega
    have c2 := line_At (A + k.tmod 1099511627776) R N D dt
    refine moves_2 A R N D dt k _ _ _ _ rfl k3 k2 a1 a2 v1 v2 ?_ c1 c2 w
    generalize k.tmod 1099511627776 = j
    have q : lnQ (A + j) R N D dt = lnQ A R N D dt + j := by unfold lnQ; omega
    split
    · next hc =>
      have hi : ¬ isB (A + j) R N D = true := fun h => by
        obtain ⟨⟨x1, x2⟩, _⟩ := isB_spec h
        omega
      unfold atE
      rw [if_neg hi]
    · next hc =>
      have hi : isB (A + j) R N D = true := by
        obtain ⟨_, y2, y3, y4⟩ := of_decide_eq_true h1
        exact decide_eq_true ⟨decide_eq_true ⟨by omega, by omega⟩, y2, y3, y4⟩
      split
      · next hd =>
        have hb : ¬ bkB (lnQ (A + j) R N D dt) = true := fun h => by
          obtain ⟨x1, x2⟩ : -2305844108725321728 ≤ lnQ (A + j) R N D dt ∧ lnQ (A + j) R N D dt ≤ 2305844108725321728 := of_decide_eq_true h
          omega
        unfold atE
        rw [if_pos hi, if_pos h2, if_neg hb]
      · next hd =>
        have hb : bkB (lnQ (A + j) R N D dt) = true := decide_eq_true ⟨by omega, by omega⟩
        unfold atE atV
        rw [if_pos hi, if_pos h2, if_pos hb, if_pos ⟨hi, h2, hb⟩]
        exact ⟨rfl, q⟩
  · have hV : atV A R N D dt = 0 := by unfold atV; rw [if_neg hI]
    rw [hV] at c1
    refine moves_1 A R N D dt k _ ?_ c1 w
    unfold atE
    split
    · split
      · split
        · exact absurd ⟨by assumption, by assumption, by assumption⟩ hI
        · omega
      · omega
    · omega
end Go.Proofs.Ytlgjapjcdpikeaa
