/- LineLowest (yearbooklaw05): its walk, from the contracts of line.Lowest and line.Compare, and the plain law of lowest terms. -/
import Derived.Test.YtlgjapjcdpikeaaWakes5
set_option linter.unusedSimpArgs false
set_option linter.unusedVariables false
namespace Go.Proofs.Ytlgjapjcdpikeaa
open Go.RowKit

set_option maxHeartbeats 1000000 in
/-- one of the first two is no slope -/
theorem lowest_1 (aN aD bN bD cN cD xN xD yN yD g h : Int) (hg : g = 151 ∨ g = 0 ∧ h = 151)
    (c1 : ∀ w, Calls Try.prog 23 #[.agg #[.int .i64 aN, .int .i64 aD]] w fun e w' => e = .returned (.tuple #[.agg #[.int .i64 xN, .int .i64 xD], .int .i64 g]) ∧ Below w.heap.size w w')
    (c2 : ∀ w, Calls Try.prog 23 #[.agg #[.int .i64 bN, .int .i64 bD]] w fun e w' => e = .returned (.tuple #[.agg #[.int .i64 yN, .int .i64 yD], .int .i64 h]) ∧ Below w.heap.size w w') (w : World) :
    Calls Try.prog 6 #[.agg #[.int .i64 aN, .int .i64 aD], .agg #[.int .i64 bN, .int .i64 bD], .agg #[.int .i64 cN, .int .i64 cD]] w fun e w' => e = .returned (.bool true) ∧ Below w.heap.size w w' := by
  go_enter Try.func6, Try.ntmps6
  go_wp2_with fail
  refine (wakes5 _).mono ?_
  rintro e w1 ⟨rfl, hb1⟩
  have qa1 := kp hb1 (ka (ka (na w #[.int .i64 aN, .int .i64 aD] 33) (.cells #[.int .i64 bN, .int .i64 bD] 33)) (.cells #[.int .i64 cN, .int .i64 cD] 33))
  have qb1 := kp hb1 (ka (na1 w (.cells #[.int .i64 aN, .int .i64 aD] 33) #[.int .i64 bN, .int .i64 bD] 33) (.cells #[.int .i64 cN, .int .i64 cD] 33))
  have qc1 := kp hb1 (na2 w (.cells #[.int .i64 aN, .int .i64 aD] 33) (.cells #[.int .i64 bN, .int .i64 bD] 33) #[.int .i64 cN, .int .i64 cD] 33)
  have za1 := (rcell qa1).1
  have zb1 := (rcell qb1).1
  have zc1 := (rcell qc1).1
  go_wp2_with fail
  refine (c1 _).mono ?_
  rintro e w2 ⟨rfl, hb2⟩
  have qa2 := kp hb2 qa1
  have qb2 := kp hb2 qb1
  have qc2 := kp hb2 qc1
  have za2 := (rcell qa2).1
  have zb2 := (rcell qb2).1
  have zc2 := (rcell qc2).1
  have zn2 := (rcell (ka qb2 (.cells #[.int .i64 xN, .int .i64 xD] 33))).1
  go_wp2_with fail
  refine (c2 _).mono ?_
  rintro e w3 ⟨rfl, hb3⟩
  have hB := bA (bB (bA (bB (bB (bA (bA (bA (b0 w) (.cells #[.int .i64 aN, .int .i64 aD] 33)) (.cells #[.int .i64 bN, .int .i64 bD] 33)) (.cells #[.int .i64 cN, .int .i64 cD] 33)) hb1) hb2) (.cells #[.int .i64 xN, .int .i64 xD] 33)) hb3) (.cells #[.int .i64 yN, .int .i64 yD] 33)
  clear c1 c2
  rcases hg with rfl | ⟨rfl, rfl⟩
  all_goals
    go_wp2
    all_goals
      go_ret
      refine ⟨?_, hB⟩
    all_goals rfl

set_option maxHeartbeats 2000000 in
set_option maxRecDepth 100000 in
/-- the first two are alike -/
theorem lowest_2 (aN aD bN bD cN cD xN xD  n m p q : Int) (is : Bool) (hn : n = 0 ∧ m = 0) (h1 : ¬ n > 0 → ¬ p > 0 → q ≤ 0) (h2 : ¬ n < 0 → ¬ p < 0 → q ≥ 0)
    (c1 : ∀ w, Calls Try.prog 23 #[.agg #[.int .i64 aN, .int .i64 aD]] w fun e w' => e = .returned (.tuple #[.agg #[.int .i64 xN, .int .i64 xD], .int .i64 0]) ∧ Below w.heap.size w w')
    (c2 : ∀ w, Calls Try.prog 23 #[.agg #[.int .i64 bN, .int .i64 bD]] w fun e w' => e = .returned (.tuple #[.agg #[.int .i64 xN, .int .i64 xD], .int .i64 0]) ∧ Below w.heap.size w w')
    (c3 : ∀ w, Calls Try.prog 24 #[.agg #[.int .i64 aN, .int .i64 aD], .agg #[.int .i64 bN, .int .i64 bD]] w fun e w' => e = .returned (.tuple #[.int .i64 n, .bool true]) ∧ Below w.heap.size w w')
    (c4 : ∀ w, Calls Try.prog 24 #[.agg #[.int .i64 bN, .int .i64 bD], .agg #[.int .i64 aN, .int .i64 aD]] w fun e w' => e = .returned (.tuple #[.int .i64 m, .bool true]) ∧ Below w.heap.size w w')
    (c5 : ∀ w, Calls Try.prog 24 #[.agg #[.int .i64 aN, .int .i64 aD], .agg #[.int .i64 xN, .int .i64 xD]] w fun e w' => e = .returned (.tuple #[.int .i64 0, .bool true]) ∧ Below w.heap.size w w')
    (c6 : ∀ w, Calls Try.prog 23 #[.agg #[.int .i64 xN, .int .i64 xD]] w fun e w' => e = .returned (.tuple #[.agg #[.int .i64 xN, .int .i64 xD], .int .i64 0]) ∧ Below w.heap.size w w')
    (c7 : ∀ w, Calls Try.prog 24 #[.agg #[.int .i64 bN, .int .i64 bD], .agg #[.int .i64 cN, .int .i64 cD]] w fun e w' => e = .returned (.tuple #[.int .i64 p, .bool is]) ∧ Below w.heap.size w w')
    (c8 : ∀ w, Calls Try.prog 24 #[.agg #[.int .i64 aN, .int .i64 aD], .agg #[.int .i64 cN, .int .i64 cD]] w fun e w' => e = .returned (.tuple #[.int .i64 q, .bool is]) ∧ Below w.heap.size w w') (w : World) :
    Calls Try.prog 6 #[.agg #[.int .i64 aN, .int .i64 aD], .agg #[.int .i64 bN, .int .i64 bD], .agg #[.int .i64 cN, .int .i64 cD]] w fun e w' => e = .returned (.bool true) ∧ Below w.heap.size w w' := by
  obtain ⟨rfl, rfl⟩ := hn
  go_enter Try.func6, Try.ntmps6
  go_wp2_with fail
  refine (wakes5 _).mono ?_
  rintro e w1 ⟨rfl, hb1⟩
  have qa1 := kp hb1 (ka (ka (na w #[.int .i64 aN, .int .i64 aD] 33) (.cells #[.int .i64 bN, .int .i64 bD] 33)) (.cells #[.int .i64 cN, .int .i64 cD] 33))
  have qb1 := kp hb1 (ka (na1 w (.cells #[.int .i64 aN, .int .i64 aD] 33) #[.int .i64 bN, .int .i64 bD] 33) (.cells #[.int .i64 cN, .int .i64 cD] 33))
  have qc1 := kp hb1 (na2 w (.cells #[.int .i64 aN, .int .i64 aD] 33) (.cells #[.int .i64 bN, .int .i64 bD] 33) #[.int .i64 cN, .int .i64 cD] 33)
  have za1 := (rcell qa1).1
  have zb1 := (rcell qb1).1
  have zc1 := (rcell qc1).1
  go_wp2_with fail
  refine (c1 _).mono ?_
  rintro e w2 ⟨rfl, hb2⟩
  have qa2 := kp hb2 qa1
  have qb2 := kp hb2 qb1
  have qc2 := kp hb2 qc1
  have za2 := (rcell qa2).1
  have zb2 := (rcell qb2).1
  have zc2 := (rcell qc2).1
  have zn2 := (rcell (ka qb2 (.cells #[.int .i64 xN, .int .i64 xD] 33))).1
  go_wp2_with fail
  refine (c2 _).mono ?_
  rintro e w3 ⟨rfl, hb3⟩
  have qa3 := kp hb3 (ka qa2 (.cells #[.int .i64 xN, .int .i64 xD] 33))
  have qb3 := kp hb3 (ka qb2 (.cells #[.int .i64 xN, .int .i64 xD] 33))
  have qc3 := kp hb3 (ka qc2 (.cells #[.int .i64 xN, .int .i64 xD] 33))
  have qx3 := kp hb3 (na w2 #[.int .i64 xN, .int .i64 xD] 33)
  have za3 := (rcell qa3).1
  have zb3 := (rcell qb3).1
  have zc3 := (rcell qc3).1
  have zx3 := (rcell qx3).1
  have zn3 := (rcell (ka qa3 (.cells #[.int .i64 xN, .int .i64 xD] 33))).1
  have zm3 := (rcell (ka qb3 (.cells #[.int .i64 xN, .int .i64 xD] 33))).1
  go_wp2_with fail
  refine (c3 _).mono ?_
  rintro e w4 ⟨rfl, hb4⟩
  have qa4 := kp hb4 (ka qa3 (.cells #[.int .i64 xN, .int .i64 xD] 33))
  have qb4 := kp hb4 (ka qb3 (.cells #[.int .i64 xN, .int .i64 xD] 33))
  have qc4 := kp hb4 (ka qc3 (.cells #[.int .i64 xN, .int .i64 xD] 33))
  have qx4 := kp hb4 (ka qx3 (.cells #[.int .i64 xN, .int .i64 xD] 33))
  have qy4 := kp hb4 (na w3 #[.int .i64 xN, .int .i64 xD] 33)
  have za4 := (rcell qa4).1
  have zb4 := (rcell qb4).1
  have zc4 := (rcell qc4).1
  have zx4 := (rcell qx4).1
  have zy4 := (rcell qy4).1
  go_wp2_with fail
  refine (c4 _).mono ?_
  rintro e w5 ⟨rfl, hb5⟩
  have qa5 := kp hb5 qa4
  have qb5 := kp hb5 qb4
  have qc5 := kp hb5 qc4
  have qx5 := kp hb5 qx4
  have qy5 := kp hb5 qy4
  have za5 := (rcell qa5).1
  have zb5 := (rcell qb5).1
  have zc5 := (rcell qc5).1
  have zx5 := (rcell qx5).1
  have zy5 := (rcell qy5).1
  go_wp2_with fail
  refine (c5 _).mono ?_
  rintro e w6 ⟨rfl, hb6⟩
  have qa6 := kp hb6 qa5
  have qb6 := kp hb6 qb5
  have qc6 := kp hb6 qc5
  have qx6 := kp hb6 qx5
  have qy6 := kp hb6 qy5
  have za6 := (rcell qa6).1
  have zb6 := (rcell qb6).1
  have zc6 := (rcell qc6).1
  have zx6 := (rcell qx6).1
  have zy6 := (rcell qy6).1
  go_wp2_with fail
  refine (c6 _).mono ?_
  rintro e w7 ⟨rfl, hb7⟩
  have qa7 := kp hb7 qa6
  have qb7 := kp hb7 qb6
  have qc7 := kp hb7 qc6
  have qx7 := kp hb7 qx6
  have qy7 := kp hb7 qy6
  have za7 := (rcell qa7).1
  have zb7 := (rcell qb7).1
  have zc7 := (rcell qc7).1
  have zx7 := (rcell qx7).1
  have zy7 := (rcell qy7).1
  have ux7 := ka qx7 (.cells #[.int .i64 xN, .int .i64 xD] 33)
  have uy7 := ka qy7 (.cells #[.int .i64 xN, .int .i64 xD] 33)
  have vx7 := (rcell ux7).1
  have vy7 := (rcell uy7).1
  have vb7 := (rcell (ka qb7 (.cells #[.int .i64 xN, .int .i64 xD] 33))).1
  have vc7 := (rcell (ka qc7 (.cells #[.int .i64 xN, .int .i64 xD] 33))).1
  have n7 := (rcell (na w7 #[.int .i64 xN, .int .i64 xD] 33)).1
  go_wp2_with fail
  refine (c7 _).mono ?_
  rintro e w8 ⟨rfl, hb8⟩
  have qa8 := kp hb8 (ka qa7 (.cells #[.int .i64 xN, .int .i64 xD] 33))
  have qb8 := kp hb8 (ka qb7 (.cells #[.int .i64 xN, .int .i64 xD] 33))
  have qc8 := kp hb8 (ka qc7 (.cells #[.int .i64 xN, .int .i64 xD] 33))
  have za8 := (rcell qa8).1
  have zb8 := (rcell qb8).1
  have zc8 := (rcell qc8).1
  go_wp2_with fail
  refine (c8 _).mono ?_
  rintro e w9 ⟨rfl, hb9⟩
  have hB := bB (bB (bA (bB (bB (bB (bB (bA (bB (bA (bB (bB (bA (bA (bA (b0 w) (.cells #[.int .i64 aN, .int .i64 aD] 33)) (.cells #[.int .i64 bN, .int .i64 bD] 33)) (.cells #[.int .i64 cN, .int .i64 cD] 33)) hb1) hb2) (.cells #[.int .i64 xN, .int .i64 xD] 33)) hb3) (.cells #[.int .i64 xN, .int .i64 xD] 33)) hb4) hb5) hb6) hb7) (.cells #[.int .i64 xN, .int .i64 xD] 33)) hb8) hb9
  clear c1 c2 c3 c4 c5 c6 c7 c8
  cases is
  all_goals
    go_wp2
    all_goals
      go_ret
      refine ⟨?_, hB⟩
    all_goals first | rfl | (refine congrArg (fun b => Ending.returned (.bool b)) ?_; simp; omega)

set_option maxHeartbeats 2000000 in
set_option maxRecDepth 100000 in
/-- the first two differ above the line -/
theorem lowest_3a (aN aD bN bD cN cD xN xD yN yD n m p q : Int) (is : Bool) (hn : n = 1 ∧ m = -1) (hx : (xN = yN) = False) (h1 : ¬ n > 0 → ¬ p > 0 → q ≤ 0) (h2 : ¬ n < 0 → ¬ p < 0 → q ≥ 0)
    (c1 : ∀ w, Calls Try.prog 23 #[.agg #[.int .i64 aN, .int .i64 aD]] w fun e w' => e = .returned (.tuple #[.agg #[.int .i64 xN, .int .i64 xD], .int .i64 0]) ∧ Below w.heap.size w w')
    (c2 : ∀ w, Calls Try.prog 23 #[.agg #[.int .i64 bN, .int .i64 bD]] w fun e w' => e = .returned (.tuple #[.agg #[.int .i64 yN, .int .i64 yD], .int .i64 0]) ∧ Below w.heap.size w w')
    (c3 : ∀ w, Calls Try.prog 24 #[.agg #[.int .i64 aN, .int .i64 aD], .agg #[.int .i64 bN, .int .i64 bD]] w fun e w' => e = .returned (.tuple #[.int .i64 n, .bool true]) ∧ Below w.heap.size w w')
    (c4 : ∀ w, Calls Try.prog 24 #[.agg #[.int .i64 bN, .int .i64 bD], .agg #[.int .i64 aN, .int .i64 aD]] w fun e w' => e = .returned (.tuple #[.int .i64 m, .bool true]) ∧ Below w.heap.size w w')
    (c5 : ∀ w, Calls Try.prog 24 #[.agg #[.int .i64 aN, .int .i64 aD], .agg #[.int .i64 xN, .int .i64 xD]] w fun e w' => e = .returned (.tuple #[.int .i64 0, .bool true]) ∧ Below w.heap.size w w')
    (c6 : ∀ w, Calls Try.prog 23 #[.agg #[.int .i64 xN, .int .i64 xD]] w fun e w' => e = .returned (.tuple #[.agg #[.int .i64 xN, .int .i64 xD], .int .i64 0]) ∧ Below w.heap.size w w')
    (c7 : ∀ w, Calls Try.prog 24 #[.agg #[.int .i64 bN, .int .i64 bD], .agg #[.int .i64 cN, .int .i64 cD]] w fun e w' => e = .returned (.tuple #[.int .i64 p, .bool is]) ∧ Below w.heap.size w w')
    (c8 : ∀ w, Calls Try.prog 24 #[.agg #[.int .i64 aN, .int .i64 aD], .agg #[.int .i64 cN, .int .i64 cD]] w fun e w' => e = .returned (.tuple #[.int .i64 q, .bool is]) ∧ Below w.heap.size w w') (w : World) :
    Calls Try.prog 6 #[.agg #[.int .i64 aN, .int .i64 aD], .agg #[.int .i64 bN, .int .i64 bD], .agg #[.int .i64 cN, .int .i64 cD]] w fun e w' => e = .returned (.bool true) ∧ Below w.heap.size w w' := by
  obtain ⟨rfl, rfl⟩ := hn
  go_enter Try.func6, Try.ntmps6
  go_wp2_with fail
  refine (wakes5 _).mono ?_
  rintro e w1 ⟨rfl, hb1⟩
  have qa1 := kp hb1 (ka (ka (na w #[.int .i64 aN, .int .i64 aD] 33) (.cells #[.int .i64 bN, .int .i64 bD] 33)) (.cells #[.int .i64 cN, .int .i64 cD] 33))
  have qb1 := kp hb1 (ka (na1 w (.cells #[.int .i64 aN, .int .i64 aD] 33) #[.int .i64 bN, .int .i64 bD] 33) (.cells #[.int .i64 cN, .int .i64 cD] 33))
  have qc1 := kp hb1 (na2 w (.cells #[.int .i64 aN, .int .i64 aD] 33) (.cells #[.int .i64 bN, .int .i64 bD] 33) #[.int .i64 cN, .int .i64 cD] 33)
  have za1 := (rcell qa1).1
  have zb1 := (rcell qb1).1
  have zc1 := (rcell qc1).1
  go_wp2_with fail
  refine (c1 _).mono ?_
  rintro e w2 ⟨rfl, hb2⟩
  have qa2 := kp hb2 qa1
  have qb2 := kp hb2 qb1
  have qc2 := kp hb2 qc1
  have za2 := (rcell qa2).1
  have zb2 := (rcell qb2).1
  have zc2 := (rcell qc2).1
  have zn2 := (rcell (ka qb2 (.cells #[.int .i64 xN, .int .i64 xD] 33))).1
  go_wp2_with fail
  refine (c2 _).mono ?_
  rintro e w3 ⟨rfl, hb3⟩
  have qa3 := kp hb3 (ka qa2 (.cells #[.int .i64 xN, .int .i64 xD] 33))
  have qb3 := kp hb3 (ka qb2 (.cells #[.int .i64 xN, .int .i64 xD] 33))
  have qc3 := kp hb3 (ka qc2 (.cells #[.int .i64 xN, .int .i64 xD] 33))
  have qx3 := kp hb3 (na w2 #[.int .i64 xN, .int .i64 xD] 33)
  have za3 := (rcell qa3).1
  have zb3 := (rcell qb3).1
  have zc3 := (rcell qc3).1
  have zx3 := (rcell qx3).1
  have zn3 := (rcell (ka qa3 (.cells #[.int .i64 yN, .int .i64 yD] 33))).1
  have zm3 := (rcell (ka qb3 (.cells #[.int .i64 yN, .int .i64 yD] 33))).1
  go_wp2_with fail
  refine (c3 _).mono ?_
  rintro e w4 ⟨rfl, hb4⟩
  have qa4 := kp hb4 (ka qa3 (.cells #[.int .i64 yN, .int .i64 yD] 33))
  have qb4 := kp hb4 (ka qb3 (.cells #[.int .i64 yN, .int .i64 yD] 33))
  have qc4 := kp hb4 (ka qc3 (.cells #[.int .i64 yN, .int .i64 yD] 33))
  have qx4 := kp hb4 (ka qx3 (.cells #[.int .i64 yN, .int .i64 yD] 33))
  have qy4 := kp hb4 (na w3 #[.int .i64 yN, .int .i64 yD] 33)
  have za4 := (rcell qa4).1
  have zb4 := (rcell qb4).1
  have zc4 := (rcell qc4).1
  have zx4 := (rcell qx4).1
  have zy4 := (rcell qy4).1
  go_wp2_with fail
  refine (c4 _).mono ?_
  rintro e w5 ⟨rfl, hb5⟩
  have qa5 := kp hb5 qa4
  have qb5 := kp hb5 qb4
  have qc5 := kp hb5 qc4
  have qx5 := kp hb5 qx4
  have qy5 := kp hb5 qy4
  have za5 := (rcell qa5).1
  have zb5 := (rcell qb5).1
  have zc5 := (rcell qc5).1
  have zx5 := (rcell qx5).1
  have zy5 := (rcell qy5).1
  go_wp2_with fail
  refine (c5 _).mono ?_
  rintro e w6 ⟨rfl, hb6⟩
  have qa6 := kp hb6 qa5
  have qb6 := kp hb6 qb5
  have qc6 := kp hb6 qc5
  have qx6 := kp hb6 qx5
  have qy6 := kp hb6 qy5
  have za6 := (rcell qa6).1
  have zb6 := (rcell qb6).1
  have zc6 := (rcell qc6).1
  have zx6 := (rcell qx6).1
  have zy6 := (rcell qy6).1
  go_wp2_with fail
  refine (c6 _).mono ?_
  rintro e w7 ⟨rfl, hb7⟩
  have qa7 := kp hb7 qa6
  have qb7 := kp hb7 qb6
  have qc7 := kp hb7 qc6
  have qx7 := kp hb7 qx6
  have qy7 := kp hb7 qy6
  have za7 := (rcell qa7).1
  have zb7 := (rcell qb7).1
  have zc7 := (rcell qc7).1
  have zx7 := (rcell qx7).1
  have zy7 := (rcell qy7).1
  have ux7 := ka qx7 (.cells #[.int .i64 xN, .int .i64 xD] 33)
  have uy7 := ka qy7 (.cells #[.int .i64 xN, .int .i64 xD] 33)
  have vx7 := (rcell ux7).1
  have vy7 := (rcell uy7).1
  have vb7 := (rcell (ka qb7 (.cells #[.int .i64 xN, .int .i64 xD] 33))).1
  have vc7 := (rcell (ka qc7 (.cells #[.int .i64 xN, .int .i64 xD] 33))).1
  have n7 := (rcell (na w7 #[.int .i64 xN, .int .i64 xD] 33)).1
  go_wp2_with fail
  refine (c7 _).mono ?_
  rintro e w8 ⟨rfl, hb8⟩
  have qa8 := kp hb8 (ka qa7 (.cells #[.int .i64 xN, .int .i64 xD] 33))
  have qb8 := kp hb8 (ka qb7 (.cells #[.int .i64 xN, .int .i64 xD] 33))
  have qc8 := kp hb8 (ka qc7 (.cells #[.int .i64 xN, .int .i64 xD] 33))
  have za8 := (rcell qa8).1
  have zb8 := (rcell qb8).1
  have zc8 := (rcell qc8).1
  go_wp2_with fail
  refine (c8 _).mono ?_
  rintro e w9 ⟨rfl, hb9⟩
  have hB := bB (bB (bA (bB (bB (bB (bB (bA (bB (bA (bB (bB (bA (bA (bA (b0 w) (.cells #[.int .i64 aN, .int .i64 aD] 33)) (.cells #[.int .i64 bN, .int .i64 bD] 33)) (.cells #[.int .i64 cN, .int .i64 cD] 33)) hb1) hb2) (.cells #[.int .i64 xN, .int .i64 xD] 33)) hb3) (.cells #[.int .i64 yN, .int .i64 yD] 33)) hb4) hb5) hb6) hb7) (.cells #[.int .i64 xN, .int .i64 xD] 33)) hb8) hb9
  clear c1 c2 c3 c4 c5 c6 c7 c8
  cases is
  all_goals
    go_wp2
    all_goals
      go_ret
      refine ⟨?_, hB⟩
    all_goals first | rfl | (refine congrArg (fun b => Ending.returned (.bool b)) ?_; simp; omega)

set_option maxHeartbeats 2000000 in
set_option maxRecDepth 100000 in
/-- the first two differ below the line -/
theorem lowest_4a (aN aD bN bD cN cD xN xD yD n m p q : Int) (is : Bool) (hn : n = 1 ∧ m = -1) (hx : (xD = yD) = False) (h1 : ¬ n > 0 → ¬ p > 0 → q ≤ 0) (h2 : ¬ n < 0 → ¬ p < 0 → q ≥ 0)
    (c1 : ∀ w, Calls Try.prog 23 #[.agg #[.int .i64 aN, .int .i64 aD]] w fun e w' => e = .returned (.tuple #[.agg #[.int .i64 xN, .int .i64 xD], .int .i64 0]) ∧ Below w.heap.size w w')
    (c2 : ∀ w, Calls Try.prog 23 #[.agg #[.int .i64 bN, .int .i64 bD]] w fun e w' => e = .returned (.tuple #[.agg #[.int .i64 xN, .int .i64 yD], .int .i64 0]) ∧ Below w.heap.size w w')
    (c3 : ∀ w, Calls Try.prog 24 #[.agg #[.int .i64 aN, .int .i64 aD], .agg #[.int .i64 bN, .int .i64 bD]] w fun e w' => e = .returned (.tuple #[.int .i64 n, .bool true]) ∧ Below w.heap.size w w')
    (c4 : ∀ w, Calls Try.prog 24 #[.agg #[.int .i64 bN, .int .i64 bD], .agg #[.int .i64 aN, .int .i64 aD]] w fun e w' => e = .returned (.tuple #[.int .i64 m, .bool true]) ∧ Below w.heap.size w w')
    (c5 : ∀ w, Calls Try.prog 24 #[.agg #[.int .i64 aN, .int .i64 aD], .agg #[.int .i64 xN, .int .i64 xD]] w fun e w' => e = .returned (.tuple #[.int .i64 0, .bool true]) ∧ Below w.heap.size w w')
    (c6 : ∀ w, Calls Try.prog 23 #[.agg #[.int .i64 xN, .int .i64 xD]] w fun e w' => e = .returned (.tuple #[.agg #[.int .i64 xN, .int .i64 xD], .int .i64 0]) ∧ Below w.heap.size w w')
    (c7 : ∀ w, Calls Try.prog 24 #[.agg #[.int .i64 bN, .int .i64 bD], .agg #[.int .i64 cN, .int .i64 cD]] w fun e w' => e = .returned (.tuple #[.int .i64 p, .bool is]) ∧ Below w.heap.size w w')
    (c8 : ∀ w, Calls Try.prog 24 #[.agg #[.int .i64 aN, .int .i64 aD], .agg #[.int .i64 cN, .int .i64 cD]] w fun e w' => e = .returned (.tuple #[.int .i64 q, .bool is]) ∧ Below w.heap.size w w') (w : World) :
    Calls Try.prog 6 #[.agg #[.int .i64 aN, .int .i64 aD], .agg #[.int .i64 bN, .int .i64 bD], .agg #[.int .i64 cN, .int .i64 cD]] w fun e w' => e = .returned (.bool true) ∧ Below w.heap.size w w' := by
  obtain ⟨rfl, rfl⟩ := hn
  go_enter Try.func6, Try.ntmps6
  go_wp2_with fail
  refine (wakes5 _).mono ?_
  rintro e w1 ⟨rfl, hb1⟩
  have qa1 := kp hb1 (ka (ka (na w #[.int .i64 aN, .int .i64 aD] 33) (.cells #[.int .i64 bN, .int .i64 bD] 33)) (.cells #[.int .i64 cN, .int .i64 cD] 33))
  have qb1 := kp hb1 (ka (na1 w (.cells #[.int .i64 aN, .int .i64 aD] 33) #[.int .i64 bN, .int .i64 bD] 33) (.cells #[.int .i64 cN, .int .i64 cD] 33))
  have qc1 := kp hb1 (na2 w (.cells #[.int .i64 aN, .int .i64 aD] 33) (.cells #[.int .i64 bN, .int .i64 bD] 33) #[.int .i64 cN, .int .i64 cD] 33)
  have za1 := (rcell qa1).1
  have zb1 := (rcell qb1).1
  have zc1 := (rcell qc1).1
  go_wp2_with fail
  refine (c1 _).mono ?_
  rintro e w2 ⟨rfl, hb2⟩
  have qa2 := kp hb2 qa1
  have qb2 := kp hb2 qb1
  have qc2 := kp hb2 qc1
  have za2 := (rcell qa2).1
  have zb2 := (rcell qb2).1
  have zc2 := (rcell qc2).1
  have zn2 := (rcell (ka qb2 (.cells #[.int .i64 xN, .int .i64 xD] 33))).1
  go_wp2_with fail
  refine (c2 _).mono ?_
  rintro e w3 ⟨rfl, hb3⟩
  have qa3 := kp hb3 (ka qa2 (.cells #[.int .i64 xN, .int .i64 xD] 33))
  have qb3 := kp hb3 (ka qb2 (.cells #[.int .i64 xN, .int .i64 xD] 33))
  have qc3 := kp hb3 (ka qc2 (.cells #[.int .i64 xN, .int .i64 xD] 33))
  have qx3 := kp hb3 (na w2 #[.int .i64 xN, .int .i64 xD] 33)
  have za3 := (rcell qa3).1
  have zb3 := (rcell qb3).1
  have zc3 := (rcell qc3).1
  have zx3 := (rcell qx3).1
  have zn3 := (rcell (ka qa3 (.cells #[.int .i64 xN, .int .i64 yD] 33))).1
  have zm3 := (rcell (ka qb3 (.cells #[.int .i64 xN, .int .i64 yD] 33))).1
  go_wp2_with fail
  refine (c3 _).mono ?_
  rintro e w4 ⟨rfl, hb4⟩
  have qa4 := kp hb4 (ka qa3 (.cells #[.int .i64 xN, .int .i64 yD] 33))
  have qb4 := kp hb4 (ka qb3 (.cells #[.int .i64 xN, .int .i64 yD] 33))
  have qc4 := kp hb4 (ka qc3 (.cells #[.int .i64 xN, .int .i64 yD] 33))
  have qx4 := kp hb4 (ka qx3 (.cells #[.int .i64 xN, .int .i64 yD] 33))
  have qy4 := kp hb4 (na w3 #[.int .i64 xN, .int .i64 yD] 33)
  have za4 := (rcell qa4).1
  have zb4 := (rcell qb4).1
  have zc4 := (rcell qc4).1
  have zx4 := (rcell qx4).1
  have zy4 := (rcell qy4).1
  go_wp2_with fail
  refine (c4 _).mono ?_
  rintro e w5 ⟨rfl, hb5⟩
  have qa5 := kp hb5 qa4
  have qb5 := kp hb5 qb4
  have qc5 := kp hb5 qc4
  have qx5 := kp hb5 qx4
  have qy5 := kp hb5 qy4
  have za5 := (rcell qa5).1
  have zb5 := (rcell qb5).1
  have zc5 := (rcell qc5).1
  have zx5 := (rcell qx5).1
  have zy5 := (rcell qy5).1
  go_wp2_with fail
  refine (c5 _).mono ?_
  rintro e w6 ⟨rfl, hb6⟩
  have qa6 := kp hb6 qa5
  have qb6 := kp hb6 qb5
  have qc6 := kp hb6 qc5
  have qx6 := kp hb6 qx5
  have qy6 := kp hb6 qy5
  have za6 := (rcell qa6).1
  have zb6 := (rcell qb6).1
  have zc6 := (rcell qc6).1
  have zx6 := (rcell qx6).1
  have zy6 := (rcell qy6).1
  go_wp2_with fail
  refine (c6 _).mono ?_
  rintro e w7 ⟨rfl, hb7⟩
  have qa7 := kp hb7 qa6
  have qb7 := kp hb7 qb6
  have qc7 := kp hb7 qc6
  have qx7 := kp hb7 qx6
  have qy7 := kp hb7 qy6
  have za7 := (rcell qa7).1
  have zb7 := (rcell qb7).1
  have zc7 := (rcell qc7).1
  have zx7 := (rcell qx7).1
  have zy7 := (rcell qy7).1
  have ux7 := ka qx7 (.cells #[.int .i64 xN, .int .i64 xD] 33)
  have uy7 := ka qy7 (.cells #[.int .i64 xN, .int .i64 xD] 33)
  have vx7 := (rcell ux7).1
  have vy7 := (rcell uy7).1
  have vb7 := (rcell (ka qb7 (.cells #[.int .i64 xN, .int .i64 xD] 33))).1
  have vc7 := (rcell (ka qc7 (.cells #[.int .i64 xN, .int .i64 xD] 33))).1
  have n7 := (rcell (na w7 #[.int .i64 xN, .int .i64 xD] 33)).1
  go_wp2_with fail
  refine (c7 _).mono ?_
  rintro e w8 ⟨rfl, hb8⟩
  have qa8 := kp hb8 (ka qa7 (.cells #[.int .i64 xN, .int .i64 xD] 33))
  have qb8 := kp hb8 (ka qb7 (.cells #[.int .i64 xN, .int .i64 xD] 33))
  have qc8 := kp hb8 (ka qc7 (.cells #[.int .i64 xN, .int .i64 xD] 33))
  have za8 := (rcell qa8).1
  have zb8 := (rcell qb8).1
  have zc8 := (rcell qc8).1
  go_wp2_with fail
  refine (c8 _).mono ?_
  rintro e w9 ⟨rfl, hb9⟩
  have hB := bB (bB (bA (bB (bB (bB (bB (bA (bB (bA (bB (bB (bA (bA (bA (b0 w) (.cells #[.int .i64 aN, .int .i64 aD] 33)) (.cells #[.int .i64 bN, .int .i64 bD] 33)) (.cells #[.int .i64 cN, .int .i64 cD] 33)) hb1) hb2) (.cells #[.int .i64 xN, .int .i64 xD] 33)) hb3) (.cells #[.int .i64 xN, .int .i64 yD] 33)) hb4) hb5) hb6) hb7) (.cells #[.int .i64 xN, .int .i64 xD] 33)) hb8) hb9
  clear c1 c2 c3 c4 c5 c6 c7 c8
  cases is
  all_goals
    go_wp2
    all_goals
      go_ret
      refine ⟨?_, hB⟩
    all_goals first | rfl | (refine congrArg (fun b => Ending.returned (.bool b)) ?_; simp; omega)

set_option maxHeartbeats 2000000 in
set_option maxRecDepth 100000 in
/-- the first two differ above the line -/
theorem lowest_3b (aN aD bN bD cN cD xN xD yN yD n m p q : Int) (is : Bool) (hn : n = -1 ∧ m = 1) (hx : (xN = yN) = False) (h1 : ¬ n > 0 → ¬ p > 0 → q ≤ 0) (h2 : ¬ n < 0 → ¬ p < 0 → q ≥ 0)
    (c1 : ∀ w, Calls Try.prog 23 #[.agg #[.int .i64 aN, .int .i64 aD]] w fun e w' => e = .returned (.tuple #[.agg #[.int .i64 xN, .int .i64 xD], .int .i64 0]) ∧ Below w.heap.size w w')
    (c2 : ∀ w, Calls Try.prog 23 #[.agg #[.int .i64 bN, .int .i64 bD]] w fun e w' => e = .returned (.tuple #[.agg #[.int .i64 yN, .int .i64 yD], .int .i64 0]) ∧ Below w.heap.size w w')
    (c3 : ∀ w, Calls Try.prog 24 #[.agg #[.int .i64 aN, .int .i64 aD], .agg #[.int .i64 bN, .int .i64 bD]] w fun e w' => e = .returned (.tuple #[.int .i64 n, .bool true]) ∧ Below w.heap.size w w')
    (c4 : ∀ w, Calls Try.prog 24 #[.agg #[.int .i64 bN, .int .i64 bD], .agg #[.int .i64 aN, .int .i64 aD]] w fun e w' => e = .returned (.tuple #[.int .i64 m, .bool true]) ∧ Below w.heap.size w w')
    (c5 : ∀ w, Calls Try.prog 24 #[.agg #[.int .i64 aN, .int .i64 aD], .agg #[.int .i64 xN, .int .i64 xD]] w fun e w' => e = .returned (.tuple #[.int .i64 0, .bool true]) ∧ Below w.heap.size w w')
    (c6 : ∀ w, Calls Try.prog 23 #[.agg #[.int .i64 xN, .int .i64 xD]] w fun e w' => e = .returned (.tuple #[.agg #[.int .i64 xN, .int .i64 xD], .int .i64 0]) ∧ Below w.heap.size w w')
    (c7 : ∀ w, Calls Try.prog 24 #[.agg #[.int .i64 bN, .int .i64 bD], .agg #[.int .i64 cN, .int .i64 cD]] w fun e w' => e = .returned (.tuple #[.int .i64 p, .bool is]) ∧ Below w.heap.size w w')
    (c8 : ∀ w, Calls Try.prog 24 #[.agg #[.int .i64 aN, .int .i64 aD], .agg #[.int .i64 cN, .int .i64 cD]] w fun e w' => e = .returned (.tuple #[.int .i64 q, .bool is]) ∧ Below w.heap.size w w') (w : World) :
    Calls Try.prog 6 #[.agg #[.int .i64 aN, .int .i64 aD], .agg #[.int .i64 bN, .int .i64 bD], .agg #[.int .i64 cN, .int .i64 cD]] w fun e w' => e = .returned (.bool true) ∧ Below w.heap.size w w' := by
  obtain ⟨rfl, rfl⟩ := hn
  go_enter Try.func6, Try.ntmps6
  go_wp2_with fail
  refine (wakes5 _).mono ?_
  rintro e w1 ⟨rfl, hb1⟩
  have qa1 := kp hb1 (ka (ka (na w #[.int .i64 aN, .int .i64 aD] 33) (.cells #[.int .i64 bN, .int .i64 bD] 33)) (.cells #[.int .i64 cN, .int .i64 cD] 33))
  have qb1 := kp hb1 (ka (na1 w (.cells #[.int .i64 aN, .int .i64 aD] 33) #[.int .i64 bN, .int .i64 bD] 33) (.cells #[.int .i64 cN, .int .i64 cD] 33))
  have qc1 := kp hb1 (na2 w (.cells #[.int .i64 aN, .int .i64 aD] 33) (.cells #[.int .i64 bN, .int .i64 bD] 33) #[.int .i64 cN, .int .i64 cD] 33)
  have za1 := (rcell qa1).1
  have zb1 := (rcell qb1).1
  have zc1 := (rcell qc1).1
  go_wp2_with fail
  refine (c1 _).mono ?_
  rintro e w2 ⟨rfl, hb2⟩
  have qa2 := kp hb2 qa1
  have qb2 := kp hb2 qb1
  have qc2 := kp hb2 qc1
  have za2 := (rcell qa2).1
  have zb2 := (rcell qb2).1
  have zc2 := (rcell qc2).1
  have zn2 := (rcell (ka qb2 (.cells #[.int .i64 xN, .int .i64 xD] 33))).1
  go_wp2_with fail
  refine (c2 _).mono ?_
  rintro e w3 ⟨rfl, hb3⟩
  have qa3 := kp hb3 (ka qa2 (.cells #[.int .i64 xN, .int .i64 xD] 33))
  have qb3 := kp hb3 (ka qb2 (.cells #[.int .i64 xN, .int .i64 xD] 33))
  have qc3 := kp hb3 (ka qc2 (.cells #[.int .i64 xN, .int .i64 xD] 33))
  have qx3 := kp hb3 (na w2 #[.int .i64 xN, .int .i64 xD] 33)
  have za3 := (rcell qa3).1
  have zb3 := (rcell qb3).1
  have zc3 := (rcell qc3).1
  have zx3 := (rcell qx3).1
  have zn3 := (rcell (ka qa3 (.cells #[.int .i64 yN, .int .i64 yD] 33))).1
  have zm3 := (rcell (ka qb3 (.cells #[.int .i64 yN, .int .i64 yD] 33))).1
  go_wp2_with fail
  refine (c3 _).mono ?_
  rintro e w4 ⟨rfl, hb4⟩
  have qa4 := kp hb4 (ka qa3 (.cells #[.int .i64 yN, .int .i64 yD] 33))
  have qb4 := kp hb4 (ka qb3 (.cells #[.int .i64 yN, .int .i64 yD] 33))
  have qc4 := kp hb4 (ka qc3 (.cells #[.int .i64 yN, .int .i64 yD] 33))
  have qx4 := kp hb4 (ka qx3 (.cells #[.int .i64 yN, .int .i64 yD] 33))
  have qy4 := kp hb4 (na w3 #[.int .i64 yN, .int .i64 yD] 33)
  have za4 := (rcell qa4).1
  have zb4 := (rcell qb4).1
  have zc4 := (rcell qc4).1
  have zx4 := (rcell qx4).1
  have zy4 := (rcell qy4).1
  go_wp2_with fail
  refine (c4 _).mono ?_
  rintro e w5 ⟨rfl, hb5⟩
  have qa5 := kp hb5 qa4
  have qb5 := kp hb5 qb4
  have qc5 := kp hb5 qc4
  have qx5 := kp hb5 qx4
  have qy5 := kp hb5 qy4
  have za5 := (rcell qa5).1
  have zb5 := (rcell qb5).1
  have zc5 := (rcell qc5).1
  have zx5 := (rcell qx5).1
  have zy5 := (rcell qy5).1
  go_wp2_with fail
  refine (c5 _).mono ?_
  rintro e w6 ⟨rfl, hb6⟩
  have qa6 := kp hb6 qa5
  have qb6 := kp hb6 qb5
  have qc6 := kp hb6 qc5
  have qx6 := kp hb6 qx5
  have qy6 := kp hb6 qy5
  have za6 := (rcell qa6).1
  have zb6 := (rcell qb6).1
  have zc6 := (rcell qc6).1
  have zx6 := (rcell qx6).1
  have zy6 := (rcell qy6).1
  go_wp2_with fail
  refine (c6 _).mono ?_
  rintro e w7 ⟨rfl, hb7⟩
  have qa7 := kp hb7 qa6
  have qb7 := kp hb7 qb6
  have qc7 := kp hb7 qc6
  have qx7 := kp hb7 qx6
  have qy7 := kp hb7 qy6
  have za7 := (rcell qa7).1
  have zb7 := (rcell qb7).1
  have zc7 := (rcell qc7).1
  have zx7 := (rcell qx7).1
  have zy7 := (rcell qy7).1
  have ux7 := ka qx7 (.cells #[.int .i64 xN, .int .i64 xD] 33)
  have uy7 := ka qy7 (.cells #[.int .i64 xN, .int .i64 xD] 33)
  have vx7 := (rcell ux7).1
  have vy7 := (rcell uy7).1
  have vb7 := (rcell (ka qb7 (.cells #[.int .i64 xN, .int .i64 xD] 33))).1
  have vc7 := (rcell (ka qc7 (.cells #[.int .i64 xN, .int .i64 xD] 33))).1
  have n7 := (rcell (na w7 #[.int .i64 xN, .int .i64 xD] 33)).1
  go_wp2_with fail
  refine (c7 _).mono ?_
  rintro e w8 ⟨rfl, hb8⟩
  have qa8 := kp hb8 (ka qa7 (.cells #[.int .i64 xN, .int .i64 xD] 33))
  have qb8 := kp hb8 (ka qb7 (.cells #[.int .i64 xN, .int .i64 xD] 33))
  have qc8 := kp hb8 (ka qc7 (.cells #[.int .i64 xN, .int .i64 xD] 33))
  have za8 := (rcell qa8).1
  have zb8 := (rcell qb8).1
  have zc8 := (rcell qc8).1
  go_wp2_with fail
  refine (c8 _).mono ?_
  rintro e w9 ⟨rfl, hb9⟩
  have hB := bB (bB (bA (bB (bB (bB (bB (bA (bB (bA (bB (bB (bA (bA (bA (b0 w) (.cells #[.int .i64 aN, .int .i64 aD] 33)) (.cells #[.int .i64 bN, .int .i64 bD] 33)) (.cells #[.int .i64 cN, .int .i64 cD] 33)) hb1) hb2) (.cells #[.int .i64 xN, .int .i64 xD] 33)) hb3) (.cells #[.int .i64 yN, .int .i64 yD] 33)) hb4) hb5) hb6) hb7) (.cells #[.int .i64 xN, .int .i64 xD] 33)) hb8) hb9
  clear c1 c2 c3 c4 c5 c6 c7 c8
  cases is
  all_goals
    go_wp2
    all_goals
      go_ret
      refine ⟨?_, hB⟩
    all_goals first | rfl | (refine congrArg (fun b => Ending.returned (.bool b)) ?_; simp; omega)

set_option maxHeartbeats 2000000 in
set_option maxRecDepth 100000 in
/-- the first two differ below the line -/
theorem lowest_4b (aN aD bN bD cN cD xN xD yD n m p q : Int) (is : Bool) (hn : n = -1 ∧ m = 1) (hx : (xD = yD) = False) (h1 : ¬ n > 0 → ¬ p > 0 → q ≤ 0) (h2 : ¬ n < 0 → ¬ p < 0 → q ≥ 0)
    (c1 : ∀ w, Calls Try.prog 23 #[.agg #[.int .i64 aN, .int .i64 aD]] w fun e w' => e = .returned (.tuple #[.agg #[.int .i64 xN, .int .i64 xD], .int .i64 0]) ∧ Below w.heap.size w w')
    (c2 : ∀ w, Calls Try.prog 23 #[.agg #[.int .i64 bN, .int .i64 bD]] w fun e w' => e = .returned (.tuple #[.agg #[.int .i64 xN, .int .i64 yD], .int .i64 0]) ∧ Below w.heap.size w w')
    (c3 : ∀ w, Calls Try.prog 24 #[.agg #[.int .i64 aN, .int .i64 aD], .agg #[.int .i64 bN, .int .i64 bD]] w fun e w' => e = .returned (.tuple #[.int .i64 n, .bool true]) ∧ Below w.heap.size w w')
    (c4 : ∀ w, Calls Try.prog 24 #[.agg #[.int .i64 bN, .int .i64 bD], .agg #[.int .i64 aN, .int .i64 aD]] w fun e w' => e = .returned (.tuple #[.int .i64 m, .bool true]) ∧ Below w.heap.size w w')
    (c5 : ∀ w, Calls Try.prog 24 #[.agg #[.int .i64 aN, .int .i64 aD], .agg #[.int .i64 xN, .int .i64 xD]] w fun e w' => e = .returned (.tuple #[.int .i64 0, .bool true]) ∧ Below w.heap.size w w')
    (c6 : ∀ w, Calls Try.prog 23 #[.agg #[.int .i64 xN, .int .i64 xD]] w fun e w' => e = .returned (.tuple #[.agg #[.int .i64 xN, .int .i64 xD], .int .i64 0]) ∧ Below w.heap.size w w')
    (c7 : ∀ w, Calls Try.prog 24 #[.agg #[.int .i64 bN, .int .i64 bD], .agg #[.int .i64 cN, .int .i64 cD]] w fun e w' => e = .returned (.tuple #[.int .i64 p, .bool is]) ∧ Below w.heap.size w w')
    (c8 : ∀ w, Calls Try.prog 24 #[.agg #[.int .i64 aN, .int .i64 aD], .agg #[.int .i64 cN, .int .i64 cD]] w fun e w' => e = .returned (.tuple #[.int .i64 q, .bool is]) ∧ Below w.heap.size w w') (w : World) :
    Calls Try.prog 6 #[.agg #[.int .i64 aN, .int .i64 aD], .agg #[.int .i64 bN, .int .i64 bD], .agg #[.int .i64 cN, .int .i64 cD]] w fun e w' => e = .returned (.bool true) ∧ Below w.heap.size w w' := by
  obtain ⟨rfl, rfl⟩ := hn
  go_enter Try.func6, Try.ntmps6
  go_wp2_with fail
  refine (wakes5 _).mono ?_
  rintro e w1 ⟨rfl, hb1⟩
  have qa1 := kp hb1 (ka (ka (na w #[.int .i64 aN, .int .i64 aD] 33) (.cells #[.int .i64 bN, .int .i64 bD] 33)) (.cells #[.int .i64 cN, .int .i64 cD] 33))
  have qb1 := kp hb1 (ka (na1 w (.cells #[.int .i64 aN, .int .i64 aD] 33) #[.int .i64 bN, .int .i64 bD] 33) (.cells #[.int .i64 cN, .int .i64 cD] 33))
  have qc1 := kp hb1 (na2 w (.cells #[.int .i64 aN, .int .i64 aD] 33) (.cells #[.int .i64 bN, .int .i64 bD] 33) #[.int .i64 cN, .int .i64 cD] 33)
  have za1 := (rcell qa1).1
  have zb1 := (rcell qb1).1
  have zc1 := (rcell qc1).1
  go_wp2_with fail
  refine (c1 _).mono ?_
  rintro e w2 ⟨rfl, hb2⟩
  have qa2 := kp hb2 qa1
  have qb2 := kp hb2 qb1
  have qc2 := kp hb2 qc1
  have za2 := (rcell qa2).1
  have zb2 := (rcell qb2).1
  have zc2 := (rcell qc2).1
  have zn2 := (rcell (ka qb2 (.cells #[.int .i64 xN, .int .i64 xD] 33))).1
  go_wp2_with fail
  refine (c2 _).mono ?_
  rintro e w3 ⟨rfl, hb3⟩
  have qa3 := kp hb3 (ka qa2 (.cells #[.int .i64 xN, .int .i64 xD] 33))
  have qb3 := kp hb3 (ka qb2 (.cells #[.int .i64 xN, .int .i64 xD] 33))
  have qc3 := kp hb3 (ka qc2 (.cells #[.int .i64 xN, .int .i64 xD] 33))
  have qx3 := kp hb3 (na w2 #[.int .i64 xN, .int .i64 xD] 33)
  have za3 := (rcell qa3).1
  have zb3 := (rcell qb3).1
  have zc3 := (rcell qc3).1
  have zx3 := (rcell qx3).1
  have zn3 := (rcell (ka qa3 (.cells #[.int .i64 xN, .int .i64 yD] 33))).1
  have zm3 := (rcell (ka qb3 (.cells #[.int .i64 xN, .int .i64 yD] 33))).1
  go_wp2_with fail
  refine (c3 _).mono ?_
  rintro e w4 ⟨rfl, hb4⟩
  have qa4 := kp hb4 (ka qa3 (.cells #[.int .i64 xN, .int .i64 yD] 33))
  have qb4 := kp hb4 (ka qb3 (.cells #[.int .i64 xN, .int .i64 yD] 33))
  have qc4 := kp hb4 (ka qc3 (.cells #[.int .i64 xN, .int .i64 yD] 33))
  have qx4 := kp hb4 (ka qx3 (.cells #[.int .i64 xN, .int .i64 yD] 33))
  have qy4 := kp hb4 (na w3 #[.int .i64 xN, .int .i64 yD] 33)
  have za4 := (rcell qa4).1
  have zb4 := (rcell qb4).1
  have zc4 := (rcell qc4).1
  have zx4 := (rcell qx4).1
  have zy4 := (rcell qy4).1
  go_wp2_with fail
  refine (c4 _).mono ?_
  rintro e w5 ⟨rfl, hb5⟩
  have qa5 := kp hb5 qa4
  have qb5 := kp hb5 qb4
  have qc5 := kp hb5 qc4
  have qx5 := kp hb5 qx4
  have qy5 := kp hb5 qy4
  have za5 := (rcell qa5).1
  have zb5 := (rcell qb5).1
  have zc5 := (rcell qc5).1
  have zx5 := (rcell qx5).1
  have zy5 := (rcell qy5).1
  go_wp2_with fail
  refine (c5 _).mono ?_
  rintro e w6 ⟨rfl, hb6⟩
  have qa6 := kp hb6 qa5
  have qb6 := kp hb6 qb5
  have qc6 := kp hb6 qc5
  have qx6 := kp hb6 qx5
  have qy6 := kp hb6 qy5
  have za6 := (rcell qa6).1
  have zb6 := (rcell qb6).1
  have zc6 := (rcell qc6).1
  have zx6 := (rcell qx6).1
  have zy6 := (rcell qy6).1
  go_wp2_with fail
  refine (c6 _).mono ?_
  rintro e w7 ⟨rfl, hb7⟩
  have qa7 := kp hb7 qa6
  have qb7 := kp hb7 qb6
  have qc7 := kp hb7 qc6
  have qx7 := kp hb7 qx6
  have qy7 := kp hb7 qy6
  have za7 := (rcell qa7).1
  have zb7 := (rcell qb7).1
  have zc7 := (rcell qc7).1
  have zx7 := (rcell qx7).1
  have zy7 := (rcell qy7).1
  have ux7 := ka qx7 (.cells #[.int .i64 xN, .int .i64 xD] 33)
  have uy7 := ka qy7 (.cells #[.int .i64 xN, .int .i64 xD] 33)
  have vx7 := (rcell ux7).1
  have vy7 := (rcell uy7).1
  have vb7 := (rcell (ka qb7 (.cells #[.int .i64 xN, .int .i64 xD] 33))).1
  have vc7 := (rcell (ka qc7 (.cells #[.int .i64 xN, .int .i64 xD] 33))).1
  have n7 := (rcell (na w7 #[.int .i64 xN, .int .i64 xD] 33)).1
  go_wp2_with fail
  refine (c7 _).mono ?_
  rintro e w8 ⟨rfl, hb8⟩
  have qa8 := kp hb8 (ka qa7 (.cells #[.int .i64 xN, .int .i64 xD] 33))
  have qb8 := kp hb8 (ka qb7 (.cells #[.int .i64 xN, .int .i64 xD] 33))
  have qc8 := kp hb8 (ka qc7 (.cells #[.int .i64 xN, .int .i64 xD] 33))
  have za8 := (rcell qa8).1
  have zb8 := (rcell qb8).1
  have zc8 := (rcell qc8).1
  go_wp2_with fail
  refine (c8 _).mono ?_
  rintro e w9 ⟨rfl, hb9⟩
  have hB := bB (bB (bA (bB (bB (bB (bB (bA (bB (bA (bB (bB (bA (bA (bA (b0 w) (.cells #[.int .i64 aN, .int .i64 aD] 33)) (.cells #[.int .i64 bN, .int .i64 bD] 33)) (.cells #[.int .i64 cN, .int .i64 cD] 33)) hb1) hb2) (.cells #[.int .i64 xN, .int .i64 xD] 33)) hb3) (.cells #[.int .i64 xN, .int .i64 yD] 33)) hb4) hb5) hb6) hb7) (.cells #[.int .i64 xN, .int .i64 xD] 33)) hb8) hb9
  clear c1 c2 c3 c4 c5 c6 c7 c8
  cases is
  all_goals
    go_wp2
    all_goals
      go_ret
      refine ⟨?_, hB⟩
    all_goals first | rfl | (refine congrArg (fun b => Ending.returned (.bool b)) ?_; simp; omega)

end Go.Proofs.Ytlgjapjcdpikeaa
