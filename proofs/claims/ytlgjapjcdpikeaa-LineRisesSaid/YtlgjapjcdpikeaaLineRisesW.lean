/- LineRises (yearbooklaw05): its walk, from the contracts of line.Ends and line.At, and the plain law. -/
import Derived.Test.YtlgjapjcdpikeaaEnds2
set_option linter.unusedSimpArgs false
set_option linter.unusedVariables false
namespace Go.Proofs.Ytlgjapjcdpikeaa
open Go.RowKit

/-- the ends are not told -/
theorem rises_1 (A R N D f m t e : Int) (he : ¬ e = 0)
    (c1 : ∀ w, Calls Try.prog 36 #[.agg #[.int .i64 A, .int .i64 R, .int .i64 N, .int .i64 D], .int .i64 f, .int .i64 t] w fun x w' => x = .returned (.tuple #[.agg #[.int .i64 0, .int .i64 0], .int .i64 e]) ∧ Below w.heap.size w w') (w : World) :
    Calls Try.prog 10 #[.agg #[.int .i64 A, .int .i64 R, .int .i64 N, .int .i64 D], .int .i64 f, .int .i64 m, .int .i64 t] w fun x w' => x = .returned (.bool true) ∧ Below w.heap.size w w' := by
  go_enter Try.func10, Try.ntmps10
  go_wp2_with fail
  refine (wakes5 _).mono ?_
  rintro x w1 ⟨rfl, hb1⟩
  have a1 := kp hb1 (na w #[.int .i64 A, .int .i64 R, .int .i64 N, .int .i64 D] 23)
  have z1 := (rcell a1).1
  go_wp2_with fail
  refine (c1 _).mono ?_
  rintro x w2 ⟨rfl, hb2⟩
  have n2 := (rcell (na w2 #[.int .i64 0, .int .i64 0] 60)).1
  go_wp2
  go_ret
  exact ⟨rfl, bA (bB (bB (bA (b0 w) _) hb1) hb2) _⟩

set_option maxHeartbeats 1000000 in
/-- rising, and the time between lies outside -/
theorem rises_op (A R N D f m t a b : Int) (n1 : 0 ≤ N) (n2 : ¬ N ≤ 0) (hab : a ≤ b) (hab2 : ¬ b < a) (hm : m < f ∨ t < m)
    (c1 : ∀ w, Calls Try.prog 36 #[.agg #[.int .i64 A, .int .i64 R, .int .i64 N, .int .i64 D], .int .i64 f, .int .i64 t] w fun x w' => x = .returned (.tuple #[.agg #[.int .i64 a, .int .i64 b], .int .i64 0]) ∧ Below w.heap.size w w')
    (c2 : ∀ w, Calls Try.prog 20 #[.agg #[.int .i64 A, .int .i64 R, .int .i64 N, .int .i64 D], .int .i64 f] w fun x w' => x = .returned (.tuple #[.int .i64 a, .int .i64 0]) ∧ Below w.heap.size w w')
    (c3 : ∀ w, Calls Try.prog 20 #[.agg #[.int .i64 A, .int .i64 R, .int .i64 N, .int .i64 D], .int .i64 t] w fun x w' => x = .returned (.tuple #[.int .i64 b, .int .i64 0]) ∧ Below w.heap.size w w') (w : World) :
    Calls Try.prog 10 #[.agg #[.int .i64 A, .int .i64 R, .int .i64 N, .int .i64 D], .int .i64 f, .int .i64 m, .int .i64 t] w fun x w' => x = .returned (.bool true) ∧ Below w.heap.size w w' := by
  go_enter Try.func10, Try.ntmps10
  go_wp2_with fail
  refine (wakes5 _).mono ?_
  rintro x w1 ⟨rfl, hb1⟩
  have a1 := kp hb1 (na w #[.int .i64 A, .int .i64 R, .int .i64 N, .int .i64 D] 23)
  have z1 := (rcell a1).1
  go_wp2_with fail
  refine (c1 _).mono ?_
  rintro x w2 ⟨rfl, hb2⟩
  have a2 := kp hb2 a1
  have b2 := ka a2 (.cells #[.int .i64 a, .int .i64 b] 60)
  have n2 := na w2 #[.int .i64 a, .int .i64 b] 60
  have z2 := (rcell b2).1
  have y2 := (rcell n2).1
  go_wp2_with fail
  refine (c2 _).mono ?_
  rintro x w3 ⟨rfl, hb3⟩
  have a3 := kp hb3 b2
  have n3 := kp hb3 n2
  have z3 := (rcell a3).1
  have y3 := (rcell n3).1
  go_wp2_with fail
  refine (c3 _).mono ?_
  rintro x w4 ⟨rfl, hb4⟩
  have a4 := kp hb4 a3
  have n4 := kp hb4 n3
  have z4 := (rcell a4).1
  have y4 := (rcell n4).1
  have hB := bB (bB (bA (bB (bB (bA (b0 w) (.cells #[.int .i64 A, .int .i64 R, .int .i64 N, .int .i64 D] 23)) hb1) hb2) (.cells #[.int .i64 a, .int .i64 b] 60)) hb3) hb4
  clear c1 c2 c3
  rcases hm with hm | hm
  all_goals
    go_wp2
    all_goals
      go_ret
      refine ⟨?_, hB⟩
    all_goals first | rfl | (refine congrArg (fun b => Ending.returned (.bool b)) ?_; simp; omega)

set_option maxHeartbeats 1000000 in
/-- rising, and the time between lies there -/
theorem rises_ip (A R N D f m t a b v : Int) (n1 : 0 ≤ N) (n2 : ¬ N ≤ 0) (hab : a ≤ b) (hab2 : ¬ b < a) (hm : ¬ m < f) (hm2 : ¬ t < m) (hv1 : a ≤ v) (hv2 : v ≤ b)
    (c1 : ∀ w, Calls Try.prog 36 #[.agg #[.int .i64 A, .int .i64 R, .int .i64 N, .int .i64 D], .int .i64 f, .int .i64 t] w fun x w' => x = .returned (.tuple #[.agg #[.int .i64 a, .int .i64 b], .int .i64 0]) ∧ Below w.heap.size w w')
    (c2 : ∀ w, Calls Try.prog 20 #[.agg #[.int .i64 A, .int .i64 R, .int .i64 N, .int .i64 D], .int .i64 f] w fun x w' => x = .returned (.tuple #[.int .i64 a, .int .i64 0]) ∧ Below w.heap.size w w')
    (c3 : ∀ w, Calls Try.prog 20 #[.agg #[.int .i64 A, .int .i64 R, .int .i64 N, .int .i64 D], .int .i64 t] w fun x w' => x = .returned (.tuple #[.int .i64 b, .int .i64 0]) ∧ Below w.heap.size w w')
    (c4 : ∀ w, Calls Try.prog 20 #[.agg #[.int .i64 A, .int .i64 R, .int .i64 N, .int .i64 D], .int .i64 m] w fun x w' => x = .returned (.tuple #[.int .i64 v, .int .i64 0]) ∧ Below w.heap.size w w') (w : World) :
    Calls Try.prog 10 #[.agg #[.int .i64 A, .int .i64 R, .int .i64 N, .int .i64 D], .int .i64 f, .int .i64 m, .int .i64 t] w fun x w' => x = .returned (.bool true) ∧ Below w.heap.size w w' := by
  go_enter Try.func10, Try.ntmps10
  go_wp2_with fail
  refine (wakes5 _).mono ?_
  rintro x w1 ⟨rfl, hb1⟩
  have a1 := kp hb1 (na w #[.int .i64 A, .int .i64 R, .int .i64 N, .int .i64 D] 23)
  have z1 := (rcell a1).1
  go_wp2_with fail
  refine (c1 _).mono ?_
  rintro x w2 ⟨rfl, hb2⟩
  have a2 := kp hb2 a1
  have b2 := ka a2 (.cells #[.int .i64 a, .int .i64 b] 60)
  have n2 := na w2 #[.int .i64 a, .int .i64 b] 60
  have z2 := (rcell b2).1
  have y2 := (rcell n2).1
  go_wp2_with fail
  refine (c2 _).mono ?_
  rintro x w3 ⟨rfl, hb3⟩
  have a3 := kp hb3 b2
  have n3 := kp hb3 n2
  have z3 := (rcell a3).1
  have y3 := (rcell n3).1
  go_wp2_with fail
  refine (c3 _).mono ?_
  rintro x w4 ⟨rfl, hb4⟩
  have a4 := kp hb4 a3
  have n4 := kp hb4 n3
  have z4 := (rcell a4).1
  have y4 := (rcell n4).1
  have hB := bB (bB (bA (bB (bB (bA (b0 w) (.cells #[.int .i64 A, .int .i64 R, .int .i64 N, .int .i64 D] 23)) hb1) hb2) (.cells #[.int .i64 a, .int .i64 b] 60)) hb3) hb4
  go_wp2_with fail
  refine (c4 _).mono ?_
  rintro x w5 ⟨rfl, hb5⟩
  have n5 := kp hb5 n4
  have y5 := (rcell n5).1
  have hB5 := bB hB hb5
  clear c1 c2 c3 c4
  go_wp2
  all_goals
    go_ret
    refine ⟨?_, hB5⟩
  all_goals first | rfl | (refine congrArg (fun b => Ending.returned (.bool b)) ?_; simp; omega)

set_option maxHeartbeats 1000000 in
/-- staying, and the time between lies outside -/
theorem rises_oz (A R N D f m t a : Int) (hN : N = 0) (hm : m < f ∨ t < m)
    (c1 : ∀ w, Calls Try.prog 36 #[.agg #[.int .i64 A, .int .i64 R, .int .i64 N, .int .i64 D], .int .i64 f, .int .i64 t] w fun x w' => x = .returned (.tuple #[.agg #[.int .i64 a, .int .i64 a], .int .i64 0]) ∧ Below w.heap.size w w')
    (c2 : ∀ w, Calls Try.prog 20 #[.agg #[.int .i64 A, .int .i64 R, .int .i64 N, .int .i64 D], .int .i64 f] w fun x w' => x = .returned (.tuple #[.int .i64 a, .int .i64 0]) ∧ Below w.heap.size w w')
    (c3 : ∀ w, Calls Try.prog 20 #[.agg #[.int .i64 A, .int .i64 R, .int .i64 N, .int .i64 D], .int .i64 t] w fun x w' => x = .returned (.tuple #[.int .i64 a, .int .i64 0]) ∧ Below w.heap.size w w') (w : World) :
    Calls Try.prog 10 #[.agg #[.int .i64 A, .int .i64 R, .int .i64 N, .int .i64 D], .int .i64 f, .int .i64 m, .int .i64 t] w fun x w' => x = .returned (.bool true) ∧ Below w.heap.size w w' := by
  subst hN
  go_enter Try.func10, Try.ntmps10
  go_wp2_with fail
  refine (wakes5 _).mono ?_
  rintro x w1 ⟨rfl, hb1⟩
  have a1 := kp hb1 (na w #[.int .i64 A, .int .i64 R, .int .i64 0, .int .i64 D] 23)
  have z1 := (rcell a1).1
  go_wp2_with fail
  refine (c1 _).mono ?_
  rintro x w2 ⟨rfl, hb2⟩
  have a2 := kp hb2 a1
  have b2 := ka a2 (.cells #[.int .i64 a, .int .i64 a] 60)
  have n2 := na w2 #[.int .i64 a, .int .i64 a] 60
  have z2 := (rcell b2).1
  have y2 := (rcell n2).1
  go_wp2_with fail
  refine (c2 _).mono ?_
  rintro x w3 ⟨rfl, hb3⟩
  have a3 := kp hb3 b2
  have n3 := kp hb3 n2
  have z3 := (rcell a3).1
  have y3 := (rcell n3).1
  go_wp2_with fail
  refine (c3 _).mono ?_
  rintro x w4 ⟨rfl, hb4⟩
  have a4 := kp hb4 a3
  have n4 := kp hb4 n3
  have z4 := (rcell a4).1
  have y4 := (rcell n4).1
  have hB := bB (bB (bA (bB (bB (bA (b0 w) (.cells #[.int .i64 A, .int .i64 R, .int .i64 0, .int .i64 D] 23)) hb1) hb2) (.cells #[.int .i64 a, .int .i64 a] 60)) hb3) hb4
  clear c1 c2 c3
  rcases hm with hm | hm
  all_goals
    go_wp2
    all_goals
      go_ret
      refine ⟨?_, hB⟩
    all_goals first | rfl | (refine congrArg (fun b => Ending.returned (.bool b)) ?_; simp; omega)

set_option maxHeartbeats 1000000 in
/-- staying, and the time between lies there -/
theorem rises_iz (A R N D f m t a v : Int) (hN : N = 0) (hm : ¬ m < f) (hm2 : ¬ t < m) (hv1 : a ≤ v) (hv2 : v ≤ a)
    (c1 : ∀ w, Calls Try.prog 36 #[.agg #[.int .i64 A, .int .i64 R, .int .i64 N, .int .i64 D], .int .i64 f, .int .i64 t] w fun x w' => x = .returned (.tuple #[.agg #[.int .i64 a, .int .i64 a], .int .i64 0]) ∧ Below w.heap.size w w')
    (c2 : ∀ w, Calls Try.prog 20 #[.agg #[.int .i64 A, .int .i64 R, .int .i64 N, .int .i64 D], .int .i64 f] w fun x w' => x = .returned (.tuple #[.int .i64 a, .int .i64 0]) ∧ Below w.heap.size w w')
    (c3 : ∀ w, Calls Try.prog 20 #[.agg #[.int .i64 A, .int .i64 R, .int .i64 N, .int .i64 D], .int .i64 t] w fun x w' => x = .returned (.tuple #[.int .i64 a, .int .i64 0]) ∧ Below w.heap.size w w')
    (c4 : ∀ w, Calls Try.prog 20 #[.agg #[.int .i64 A, .int .i64 R, .int .i64 N, .int .i64 D], .int .i64 m] w fun x w' => x = .returned (.tuple #[.int .i64 v, .int .i64 0]) ∧ Below w.heap.size w w') (w : World) :
    Calls Try.prog 10 #[.agg #[.int .i64 A, .int .i64 R, .int .i64 N, .int .i64 D], .int .i64 f, .int .i64 m, .int .i64 t] w fun x w' => x = .returned (.bool true) ∧ Below w.heap.size w w' := by
  subst hN
  go_enter Try.func10, Try.ntmps10
  go_wp2_with fail
  refine (wakes5 _).mono ?_
  rintro x w1 ⟨rfl, hb1⟩
  have a1 := kp hb1 (na w #[.int .i64 A, .int .i64 R, .int .i64 0, .int .i64 D] 23)
  have z1 := (rcell a1).1
  go_wp2_with fail
  refine (c1 _).mono ?_
  rintro x w2 ⟨rfl, hb2⟩
  have a2 := kp hb2 a1
  have b2 := ka a2 (.cells #[.int .i64 a, .int .i64 a] 60)
  have n2 := na w2 #[.int .i64 a, .int .i64 a] 60
  have z2 := (rcell b2).1
  have y2 := (rcell n2).1
  go_wp2_with fail
  refine (c2 _).mono ?_
  rintro x w3 ⟨rfl, hb3⟩
  have a3 := kp hb3 b2
  have n3 := kp hb3 n2
  have z3 := (rcell a3).1
  have y3 := (rcell n3).1
  go_wp2_with fail
  refine (c3 _).mono ?_
  rintro x w4 ⟨rfl, hb4⟩
  have a4 := kp hb4 a3
  have n4 := kp hb4 n3
  have z4 := (rcell a4).1
  have y4 := (rcell n4).1
  have hB := bB (bB (bA (bB (bB (bA (b0 w) (.cells #[.int .i64 A, .int .i64 R, .int .i64 0, .int .i64 D] 23)) hb1) hb2) (.cells #[.int .i64 a, .int .i64 a] 60)) hb3) hb4
  go_wp2_with fail
  refine (c4 _).mono ?_
  rintro x w5 ⟨rfl, hb5⟩
  have n5 := kp hb5 n4
  have y5 := (rcell n5).1
  have hB5 := bB hB hb5
  clear c1 c2 c3 c4
  go_wp2
  all_goals
    go_ret
    refine ⟨?_, hB5⟩
  all_goals first | rfl | (refine congrArg (fun b => Ending.returned (.bool b)) ?_; simp; omega)

set_option maxHeartbeats 1000000 in
/-- falling, and the time between lies outside -/
theorem rises_on (A R N D f m t a b : Int) (n1 : N ≤ 0) (n2 : ¬ 0 ≤ N) (hab : b ≤ a) (hab2 : ¬ a < b) (hm : m < f ∨ t < m)
    (c1 : ∀ w, Calls Try.prog 36 #[.agg #[.int .i64 A, .int .i64 R, .int .i64 N, .int .i64 D], .int .i64 f, .int .i64 t] w fun x w' => x = .returned (.tuple #[.agg #[.int .i64 b, .int .i64 a], .int .i64 0]) ∧ Below w.heap.size w w')
    (c2 : ∀ w, Calls Try.prog 20 #[.agg #[.int .i64 A, .int .i64 R, .int .i64 N, .int .i64 D], .int .i64 f] w fun x w' => x = .returned (.tuple #[.int .i64 a, .int .i64 0]) ∧ Below w.heap.size w w')
    (c3 : ∀ w, Calls Try.prog 20 #[.agg #[.int .i64 A, .int .i64 R, .int .i64 N, .int .i64 D], .int .i64 t] w fun x w' => x = .returned (.tuple #[.int .i64 b, .int .i64 0]) ∧ Below w.heap.size w w') (w : World) :
    Calls Try.prog 10 #[.agg #[.int .i64 A, .int .i64 R, .int .i64 N, .int .i64 D], .int .i64 f, .int .i64 m, .int .i64 t] w fun x w' => x = .returned (.bool true) ∧ Below w.heap.size w w' := by
  go_enter Try.func10, Try.ntmps10
  go_wp2_with fail
  refine (wakes5 _).mono ?_
  rintro x w1 ⟨rfl, hb1⟩
  have a1 := kp hb1 (na w #[.int .i64 A, .int .i64 R, .int .i64 N, .int .i64 D] 23)
  have z1 := (rcell a1).1
  go_wp2_with fail
  refine (c1 _).mono ?_
  rintro x w2 ⟨rfl, hb2⟩
  have a2 := kp hb2 a1
  have b2 := ka a2 (.cells #[.int .i64 b, .int .i64 a] 60)
  have n2 := na w2 #[.int .i64 b, .int .i64 a] 60
  have z2 := (rcell b2).1
  have y2 := (rcell n2).1
  go_wp2_with fail
  refine (c2 _).mono ?_
  rintro x w3 ⟨rfl, hb3⟩
  have a3 := kp hb3 b2
  have n3 := kp hb3 n2
  have z3 := (rcell a3).1
  have y3 := (rcell n3).1
  go_wp2_with fail
  refine (c3 _).mono ?_
  rintro x w4 ⟨rfl, hb4⟩
  have a4 := kp hb4 a3
  have n4 := kp hb4 n3
  have z4 := (rcell a4).1
  have y4 := (rcell n4).1
  have hB := bB (bB (bA (bB (bB (bA (b0 w) (.cells #[.int .i64 A, .int .i64 R, .int .i64 N, .int .i64 D] 23)) hb1) hb2) (.cells #[.int .i64 b, .int .i64 a] 60)) hb3) hb4
  clear c1 c2 c3
  rcases hm with hm | hm
  all_goals
    go_wp2
    all_goals
      go_ret
      refine ⟨?_, hB⟩
    all_goals first | rfl | (refine congrArg (fun b => Ending.returned (.bool b)) ?_; simp; omega)

set_option maxHeartbeats 1000000 in
/-- falling, and the time between lies there -/
theorem rises_in (A R N D f m t a b v : Int) (n1 : N ≤ 0) (n2 : ¬ 0 ≤ N) (hab : b ≤ a) (hab2 : ¬ a < b) (hm : ¬ m < f) (hm2 : ¬ t < m) (hv1 : b ≤ v) (hv2 : v ≤ a)
    (c1 : ∀ w, Calls Try.prog 36 #[.agg #[.int .i64 A, .int .i64 R, .int .i64 N, .int .i64 D], .int .i64 f, .int .i64 t] w fun x w' => x = .returned (.tuple #[.agg #[.int .i64 b, .int .i64 a], .int .i64 0]) ∧ Below w.heap.size w w')
    (c2 : ∀ w, Calls Try.prog 20 #[.agg #[.int .i64 A, .int .i64 R, .int .i64 N, .int .i64 D], .int .i64 f] w fun x w' => x = .returned (.tuple #[.int .i64 a, .int .i64 0]) ∧ Below w.heap.size w w')
    (c3 : ∀ w, Calls Try.prog 20 #[.agg #[.int .i64 A, .int .i64 R, .int .i64 N, .int .i64 D], .int .i64 t] w fun x w' => x = .returned (.tuple #[.int .i64 b, .int .i64 0]) ∧ Below w.heap.size w w')
    (c4 : ∀ w, Calls Try.prog 20 #[.agg #[.int .i64 A, .int .i64 R, .int .i64 N, .int .i64 D], .int .i64 m] w fun x w' => x = .returned (.tuple #[.int .i64 v, .int .i64 0]) ∧ Below w.heap.size w w') (w : World) :
    Calls Try.prog 10 #[.agg #[.int .i64 A, .int .i64 R, .int .i64 N, .int .i64 D], .int .i64 f, .int .i64 m, .int .i64 t] w fun x w' => x = .returned (.bool true) ∧ Below w.heap.size w w' := by
  go_enter Try.func10, Try.ntmps10
  go_wp2_with fail
  refine (wakes5 _).mono ?_
  rintro x w1 ⟨rfl, hb1⟩
  have a1 := kp hb1 (na w #[.int .i64 A, .int .i64 R, .int .i64 N, .int .i64 D] 23)
  have z1 := (rcell a1).1
  go_wp2_with fail
  refine (c1 _).mono ?_
  rintro x w2 ⟨rfl, hb2⟩
  have a2 := kp hb2 a1
  have b2 := ka a2 (.cells #[.int .i64 b, .int .i64 a] 60)
  have n2 := na w2 #[.int .i64 b, .int .i64 a] 60
  have z2 := (rcell b2).1
  have y2 := (rcell n2).1
  go_wp2_with fail
  refine (c2 _).mono ?_
  rintro x w3 ⟨rfl, hb3⟩
  have a3 := kp hb3 b2
  have n3 := kp hb3 n2
  have z3 := (rcell a3).1
  have y3 := (rcell n3).1
  go_wp2_with fail
  refine (c3 _).mono ?_
  rintro x w4 ⟨rfl, hb4⟩
  have a4 := kp hb4 a3
  have n4 := kp hb4 n3
  have z4 := (rcell a4).1
  have y4 := (rcell n4).1
  have hB := bB (bB (bA (bB (bB (bA (b0 w) (.cells #[.int .i64 A, .int .i64 R, .int .i64 N, .int .i64 D] 23)) hb1) hb2) (.cells #[.int .i64 b, .int .i64 a] 60)) hb3) hb4
  go_wp2_with fail
  refine (c4 _).mono ?_
  rintro x w5 ⟨rfl, hb5⟩
  have n5 := kp hb5 n4
  have y5 := (rcell n5).1
  have hB5 := bB hB hb5
  clear c1 c2 c3 c4
  go_wp2
  all_goals
    go_ret
    refine ⟨?_, hB5⟩
  all_goals first | rfl | (refine congrArg (fun b => Ending.returned (.bool b)) ?_; simp; omega)

end Go.Proofs.Ytlgjapjcdpikeaa
