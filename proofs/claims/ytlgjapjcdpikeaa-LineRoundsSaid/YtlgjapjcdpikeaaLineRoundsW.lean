/- LineRounds (yearbooklaw05): its walk, from the contracts of line.At and line.Within. -/
import Derived.Test.YtlgjapjcdpikeaaWakes5
set_option linter.unusedSimpArgs false
set_option linter.unusedVariables false
namespace Go.Proofs.Ytlgjapjcdpikeaa
open Go.RowKit

/-- at a time there is no value -/
theorem rounds_1 (A R N D dt n e : Int) (he : e = 150 ∨ e = 2 ∨ e = 5) (c1 : ∀ w, Calls Try.prog 20 #[.agg #[.int .i64 A, .int .i64 R, .int .i64 N, .int .i64 D], .int .i64 dt] w fun x w' => x = .returned (.tuple #[.int .i64 0, .int .i64 e]) ∧ Below w.heap.size w w') (w : World) :
    Calls Try.prog 4 #[.agg #[.int .i64 A, .int .i64 R, .int .i64 N, .int .i64 D], .int .i64 dt, .int .i64 n] w fun x w' => x = .returned (.bool true) ∧ Below w.heap.size w w' := by
  rcases he with rfl | rfl | rfl
  all_goals
    go_enter Try.func4, Try.ntmps4
    go_wp2_with fail
    refine (wakes5 _).mono ?_
    rintro x w1 ⟨rfl, hb1⟩
    have z1 := (rcell (kp hb1 (na w #[.int .i64 A, .int .i64 R, .int .i64 N, .int .i64 D] 23))).1
    go_wp2_with fail
    refine (c1 _).mono ?_
    rintro x w2 ⟨rfl, hb2⟩
    go_wp2
    go_ret
    exact ⟨rfl, bB (bB (bA (b0 w) _) hb1) hb2⟩

set_option maxHeartbeats 1000000 in
/-- there is a value -/
theorem rounds_2 (A R N D dt n v : Int) (b : Bool) (hb : b = decide (n ≤ v)) (v1 : -2305844108725321728 ≤ v) (v2 : v ≤ 2305844108725321728)
    (c1 : ∀ w, Calls Try.prog 20 #[.agg #[.int .i64 A, .int .i64 R, .int .i64 N, .int .i64 D], .int .i64 dt] w fun x w' => x = .returned (.tuple #[.int .i64 v, .int .i64 0]) ∧ Below w.heap.size w w')
    (c2 : ∀ w, Calls Try.prog 22 #[.agg #[.int .i64 A, .int .i64 R, .int .i64 N, .int .i64 D], .int .i64 dt, .int .i64 v, .int .i64 (v + 1)] w fun x w' => x = .returned (.bool true) ∧ Below w.heap.size w w')
    (c3 : ∀ w, Calls Try.prog 22 #[.agg #[.int .i64 A, .int .i64 R, .int .i64 N, .int .i64 D], .int .i64 dt, .int .i64 (v + 1), .int .i64 (v + 1)] w fun x w' => x = .returned (.bool false) ∧ Below w.heap.size w w')
    (c4 : ∀ w, Calls Try.prog 22 #[.agg #[.int .i64 A, .int .i64 R, .int .i64 N, .int .i64 D], .int .i64 dt, .int .i64 (v + 1), .int .i64 4611686018427387904] w fun x w' => x = .returned (.bool false) ∧ Below w.heap.size w w')
    (c5 : ∀ w, Calls Try.prog 22 #[.agg #[.int .i64 A, .int .i64 R, .int .i64 N, .int .i64 D], .int .i64 dt, .int .i64 (-4611686018427387904), .int .i64 (v - 1)] w fun x w' => x = .returned (.bool false) ∧ Below w.heap.size w w')
    (c6 : ∀ w, Calls Try.prog 22 #[.agg #[.int .i64 A, .int .i64 R, .int .i64 N, .int .i64 D], .int .i64 dt, .int .i64 n, .int .i64 4611686018427387904] w fun x w' => x = .returned (.bool b) ∧ Below w.heap.size w w') (w : World) :
    Calls Try.prog 4 #[.agg #[.int .i64 A, .int .i64 R, .int .i64 N, .int .i64 D], .int .i64 dt, .int .i64 n] w fun x w' => x = .returned (.bool true) ∧ Below w.heap.size w w' := by
  go_enter Try.func4, Try.ntmps4
  go_wp2_with fail
  refine (wakes5 _).mono ?_
  rintro x w1 ⟨rfl, hb1⟩
  have a1 := kp hb1 (na w #[.int .i64 A, .int .i64 R, .int .i64 N, .int .i64 D] 23)
  have z1 := (rcell a1).1
  go_wp2_with fail
  refine (c1 _).mono ?_
  rintro x w2 ⟨rfl, hb2⟩
  have a2 := kp hb2 a1
  have z2 := (rcell a2).1
  go_wp2_with fail
  refine (c2 _).mono ?_
  rintro x w3 ⟨rfl, hb3⟩
  have a3 := kp hb3 a2
  have z3 := (rcell a3).1
  go_wp2_with fail
  refine (c3 _).mono ?_
  rintro x w4 ⟨rfl, hb4⟩
  have a4 := kp hb4 a3
  have z4 := (rcell a4).1
  go_wp2_with fail
  refine (c4 _).mono ?_
  rintro x w5 ⟨rfl, hb5⟩
  have a5 := kp hb5 a4
  have z5 := (rcell a5).1
  go_wp2_with fail
  refine (c5 _).mono ?_
  rintro x w6 ⟨rfl, hb6⟩
  have a6 := kp hb6 a5
  have z6 := (rcell a6).1
  go_wp2_with fail
  refine (c6 _).mono ?_
  rintro x w7 ⟨rfl, hb7⟩
  have hB := bB (bB (bB (bB (bB (bB (bB (bA (b0 w) (.cells #[.int .i64 A, .int .i64 R, .int .i64 N, .int .i64 D] 23)) hb1) hb2) hb3) hb4) hb5) hb6) hb7
  by_cases hn : n ≤ v
  · rw [show b = true by rw [hb]; exact decide_eq_true hn]
    go_wp2
    all_goals
      go_ret
      refine ⟨?_, hB⟩
    all_goals first | rfl | (refine congrArg (fun b => Ending.returned (.bool b)) ?_; simp; omega)
  · rw [show b = false by rw [hb]; exact decide_eq_false hn]
    go_wp2
    all_goals
      go_ret
      refine ⟨?_, hB⟩
    all_goals first | rfl | (refine congrArg (fun b => Ending.returned (.bool b)) ?_; simp; omega)

/-- THE WALK of LineRounds -/
theorem line_rounds (A R N D dt n : Int) (n1 : -9223372036854775808 ≤ n) (n2 : n < 9223372036854775808) (w : World) :
    Calls Try.prog 4 #[.agg #[.int .i64 A, .int .i64 R, .int .i64 N, .int .i64 D], .int .i64 dt, .int .i64 n] w fun x w' => x = .returned (.bool true) ∧ Below w.heap.size w w' := by
  have c1 := line_At A R N D dt
  by_cases hI : isB A R N D = true ∧ tmB dt = true ∧ bkB (lnQ A R N D dt) = true
  · obtain ⟨h1, h2, h3⟩ := hI
    have hV : atV A R N D dt = lnQ A R N D dt := by unfold atV; simp [h1, h2, h3]
    have hE : atE A R N D dt = 0 := by unfold atE; simp [h1, h2, h3]
    rw [hV, hE] at c1
    obtain ⟨v1, v2⟩ : -2305844108725321728 ≤ lnQ A R N D dt ∧ lnQ A R N D dt ≤ 2305844108725321728 := of_decide_eq_true h3
    have c2 := line_Within A R N D dt (lnQ A R N D dt) (lnQ A R N D dt + 1) (by omega) (by omega) (by omega) (by omega)
    have c3 := line_Within A R N D dt (lnQ A R N D dt + 1) (lnQ A R N D dt + 1) (by omega) (by omega) (by omega) (by omega)
    have c4 := line_Within A R N D dt (lnQ A R N D dt + 1) 4611686018427387904 (by omega) (by omega) (by omega) (by omega)
    have c5 := line_Within A R N D dt (-4611686018427387904) (lnQ A R N D dt - 1) (by omega) (by omega) (by omega) (by omega)
    have c6 := line_Within A R N D dt n 4611686018427387904 (by omega) (by omega) (by omega) (by omega)
    rw [show winB A R N D dt (lnQ A R N D dt) (lnQ A R N D dt + 1) = true from decide_eq_true ⟨h1, h2, by omega, by omega⟩] at c2
    rw [show winB A R N D dt (lnQ A R N D dt + 1) (lnQ A R N D dt + 1) = false from decide_eq_false (by rintro ⟨_, _, _, _⟩; omega)] at c3
    rw [show winB A R N D dt (lnQ A R N D dt + 1) 4611686018427387904 = false from decide_eq_false (by rintro ⟨_, _, _, _⟩; omega)] at c4
    rw [show winB A R N D dt (-4611686018427387904) (lnQ A R N D dt - 1) = false from decide_eq_false (by rintro ⟨_, _, _, _⟩; omega)] at c5
    refine rounds_2 A R N D dt n _ _ ?_ v1 v2 c1 c2 c3 c4 c5 c6 w
    unfold winB
    exact decide_eq_decide.2 ⟨fun ⟨_, _, h, _⟩ => h, fun h => ⟨h1, h2, h, by omega⟩⟩
  · have hV : atV A R N D dt = 0 := by unfold atV; rw [if_neg hI]
    rw [hV] at c1
    refine rounds_1 A R N D dt n _ ?_ c1 w
    unfold atE
    split
    · split
      · split
        · exact absurd ⟨by assumption, by assumption, by assumption⟩ hI
        · omega
      · omega
    · omega
end Go.Proofs.Ytlgjapjcdpikeaa
