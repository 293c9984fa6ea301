/- LineMakes (yearbooklaw05): its walk. -/
import Derived.Test.YtlgjapjcdpikeaaRef11
import Derived.Test.YtlgjapjcdpikeaaFrame
set_option linter.unusedSimpArgs false
set_option linter.unusedVariables false
namespace Go.Proofs.Ytlgjapjcdpikeaa
open Go.RowKit

set_option maxRecDepth 100000 in
set_option maxHeartbeats 2000000 in
theorem makes_0 (a x N D : Int) (h : slB N D = false) (w : World) :
    Calls Try.prog 8 #[.int .i64 a, .agg #[.int .i64 (hi x), .int .u64 (lo x)], .agg #[.int .i64 N, .int .i64 D]] w fun e w' => e = .returned (.bool true) ∧ Below w.heap.size w w' := by
  have c1 := line_Of_slope a N D h
  have c2 := line_Raised_slope x N D h
  have c3 := ref_Slope N D
  rw [h] at c3
  clear h
  generalize hi x = H at *
  generalize lo x = L at *
  go_enter Try.func8, Try.ntmps8
  go_wp2_with fail
  refine (wakes5 _).mono ?_
  rintro e w1 ⟨rfl, hb1⟩
  have f_c1 := kp hb1 (ka (na w #[.int .i64 H, .int .u64 L] 46) (.cells #[.int .i64 N, .int .i64 D] 33))
  have f_s1 := kp hb1 (na1 w (.cells #[.int .i64 H, .int .u64 L] 46) #[.int .i64 N, .int .i64 D] 33)
  have hB1 := bB (bA (bA (b0 w) (.cells #[.int .i64 H, .int .u64 L] 46)) (.cells #[.int .i64 N, .int .i64 D] 33)) hb1
  obtain ⟨zc_a, zc_b, lc1⟩ := rcell f_c1
  obtain ⟨zs_a, zs_b, ls1⟩ := rcell f_s1
  go_wp2_with fail
  refine (c1 _).mono ?_
  rintro e w2 ⟨rfl, hb2⟩
  have f_c2 := kp hb2 (f_c1)
  have f_s2 := kp hb2 (f_s1)
  have hB2 := bB hB1 hb2
  clear zc_a zc_b zs_a zs_b
  obtain ⟨zc_a, zc_b, lc2⟩ := rcell f_c2
  obtain ⟨zs_a, zs_b, ls2⟩ := rcell f_s2
  go_wp2_with fail
  refine (c2 _).mono ?_
  rintro e w3 ⟨rfl, hb3⟩
  have f_c3 := kp hb3 (ka (f_c2) (.cells #[.int .i64 0, .int .i64 0, .int .i64 0, .int .i64 0] 23))
  have f_s3 := kp hb3 (ka (f_s2) (.cells #[.int .i64 0, .int .i64 0, .int .i64 0, .int .i64 0] 23))
  have f_l3 := kp hb3 (na w2 #[.int .i64 0, .int .i64 0, .int .i64 0, .int .i64 0] 23)
  have hB3 := bB (bA hB2 (.cells #[.int .i64 0, .int .i64 0, .int .i64 0, .int .i64 0] 23)) hb3
  clear zc_a zc_b zs_a zs_b
  obtain ⟨zc_a, zc_b, lc3⟩ := rcell f_c3
  obtain ⟨zs_a, zs_b, ls3⟩ := rcell f_s3
  obtain ⟨zl_a, zl_b, ll3⟩ := rcell f_l3
  go_wp2_with fail
  refine (c3 _).mono ?_
  rintro e w4 ⟨rfl, hb4⟩
  have f_c4 := kp hb4 (ka (f_c3) (.cells #[.int .i64 0, .int .i64 0, .int .i64 0, .int .i64 0] 23))
  have f_s4 := kp hb4 (ka (f_s3) (.cells #[.int .i64 0, .int .i64 0, .int .i64 0, .int .i64 0] 23))
  have f_l4 := kp hb4 (ka (f_l3) (.cells #[.int .i64 0, .int .i64 0, .int .i64 0, .int .i64 0] 23))
  have f_m4 := kp hb4 (na w3 #[.int .i64 0, .int .i64 0, .int .i64 0, .int .i64 0] 23)
  have hB4 := bB (bA hB3 (.cells #[.int .i64 0, .int .i64 0, .int .i64 0, .int .i64 0] 23)) hb4
  clear zc_a zc_b zl_a zl_b zs_a zs_b
  obtain ⟨zc_a, zc_b, lc4⟩ := rcell f_c4
  obtain ⟨zs_a, zs_b, ls4⟩ := rcell f_s4
  obtain ⟨zl_a, zl_b, ll4⟩ := rcell f_l4
  obtain ⟨zm_a, zm_b, lm4⟩ := rcell f_m4
  go_wp2
  go_ret
  exact ⟨by simp, hB4⟩

set_option maxRecDepth 100000 in
set_option maxHeartbeats 2000000 in
theorem makes_low_t (a H L N D n d : Int) (hl : ¬ (n = N ∧ d = D)) (c1 : ∀ w, Calls Try.prog 30 #[.int .i64 a, .agg #[.int .i64 N, .int .i64 D]] w fun e w' => e = .returned (.tuple #[.agg #[.int .i64 a, .int .i64 0, .int .i64 n, .int .i64 d], .int .i64 0]) ∧ Below w.heap.size w w') (c2 : ∀ w, Calls Try.prog 31 #[.agg #[.int .i64 H, .int .u64 L], .agg #[.int .i64 N, .int .i64 D]] w fun e w' => e = .returned (.tuple #[.agg #[.int .i64 0, .int .i64 0, .int .i64 0, .int .i64 0], .int .i64 2]) ∧ Below w.heap.size w w') (c3 : ∀ w, Calls Try.prog 26 #[.agg #[.int .i64 N, .int .i64 D]] w fun e w' => e = .returned (.bool true) ∧ Below w.heap.size w w') (c4 : ∀ w, Calls Try.prog 27 #[.agg #[.int .i64 N, .int .i64 D]] w fun e w' => e = .returned (.agg #[.int .i64 n, .int .i64 d]) ∧ Below w.heap.size w w') (c5 : ∀ w, Calls Try.prog 32 #[.int .i64 a] w fun e w' => e = .returned (.bool true) ∧ Below w.heap.size w w') (w : World) :
    Calls Try.prog 8 #[.int .i64 a, .agg #[.int .i64 H, .int .u64 L], .agg #[.int .i64 N, .int .i64 D]] w fun e w' => e = .returned (.bool true) ∧ Below w.heap.size w w' := by
  by_cases hn : n = N
  · have hd : ¬ d = D := fun e => hl ⟨hn, e⟩
    clear hl
    subst hn
    go_enter Try.func8, Try.ntmps8
    go_wp2_with fail
    refine (wakes5 _).mono ?_
    rintro e w1 ⟨rfl, hb1⟩
    have f_c1 := kp hb1 (ka (na w #[.int .i64 H, .int .u64 L] 46) (.cells #[.int .i64 n, .int .i64 D] 33))
    have f_s1 := kp hb1 (na1 w (.cells #[.int .i64 H, .int .u64 L] 46) #[.int .i64 n, .int .i64 D] 33)
    have hB1 := bB (bA (bA (b0 w) (.cells #[.int .i64 H, .int .u64 L] 46)) (.cells #[.int .i64 n, .int .i64 D] 33)) hb1
    obtain ⟨zc_a, zc_b, lc1⟩ := rcell f_c1
    obtain ⟨zs_a, zs_b, ls1⟩ := rcell f_s1
    go_wp2_with fail
    refine (c1 _).mono ?_
    rintro e w2 ⟨rfl, hb2⟩
    have f_c2 := kp hb2 (f_c1)
    have f_s2 := kp hb2 (f_s1)
    have hB2 := bB hB1 hb2
    clear zc_a zc_b zs_a zs_b
    obtain ⟨zc_a, zc_b, lc2⟩ := rcell f_c2
    obtain ⟨zs_a, zs_b, ls2⟩ := rcell f_s2
    go_wp2_with fail
    refine (c2 _).mono ?_
    rintro e w3 ⟨rfl, hb3⟩
    have f_c3 := kp hb3 (ka (f_c2) (.cells #[.int .i64 a, .int .i64 0, .int .i64 n, .int .i64 d] 23))
    have f_s3 := kp hb3 (ka (f_s2) (.cells #[.int .i64 a, .int .i64 0, .int .i64 n, .int .i64 d] 23))
    have f_l3 := kp hb3 (na w2 #[.int .i64 a, .int .i64 0, .int .i64 n, .int .i64 d] 23)
    have hB3 := bB (bA hB2 (.cells #[.int .i64 a, .int .i64 0, .int .i64 n, .int .i64 d] 23)) hb3
    clear zc_a zc_b zs_a zs_b
    obtain ⟨zc_a, zc_b, lc3⟩ := rcell f_c3
    obtain ⟨zs_a, zs_b, ls3⟩ := rcell f_s3
    obtain ⟨zl_a, zl_b, ll3⟩ := rcell f_l3
    go_wp2_with fail
    refine (c3 _).mono ?_
    rintro e w4 ⟨rfl, hb4⟩
    have f_c4 := kp hb4 (ka (f_c3) (.cells #[.int .i64 0, .int .i64 0, .int .i64 0, .int .i64 0] 23))
    have f_s4 := kp hb4 (ka (f_s3) (.cells #[.int .i64 0, .int .i64 0, .int .i64 0, .int .i64 0] 23))
    have f_l4 := kp hb4 (ka (f_l3) (.cells #[.int .i64 0, .int .i64 0, .int .i64 0, .int .i64 0] 23))
    have f_m4 := kp hb4 (na w3 #[.int .i64 0, .int .i64 0, .int .i64 0, .int .i64 0] 23)
    have hB4 := bB (bA hB3 (.cells #[.int .i64 0, .int .i64 0, .int .i64 0, .int .i64 0] 23)) hb4
    clear zc_a zc_b zl_a zl_b zs_a zs_b
    obtain ⟨zc_a, zc_b, lc4⟩ := rcell f_c4
    obtain ⟨zs_a, zs_b, ls4⟩ := rcell f_s4
    obtain ⟨zl_a, zl_b, ll4⟩ := rcell f_l4
    obtain ⟨zm_a, zm_b, lm4⟩ := rcell f_m4
    go_wp2_with fail
    refine (c4 _).mono ?_
    rintro e w5 ⟨rfl, hb5⟩
    have f_c5 := kp hb5 (f_c4)
    have f_s5 := kp hb5 (f_s4)
    have f_l5 := kp hb5 (f_l4)
    have f_m5 := kp hb5 (f_m4)
    have hB5 := bB hB4 hb5
    clear zc_a zc_b zl_a zl_b zm_a zm_b zs_a zs_b
    obtain ⟨zc_a, zc_b, lc5⟩ := rcell f_c5
    obtain ⟨zs_a, zs_b, ls5⟩ := rcell f_s5
    obtain ⟨zl_a, zl_b, ll5⟩ := rcell f_l5
    obtain ⟨zm_a, zm_b, lm5⟩ := rcell f_m5
    go_wp2_with fail
    refine (c5 _).mono ?_
    rintro e w6 ⟨rfl, hb6⟩
    have f_c6 := kp hb6 (ka (f_c5) (.cells #[.int .i64 n, .int .i64 d] 33))
    have f_s6 := kp hb6 (ka (f_s5) (.cells #[.int .i64 n, .int .i64 d] 33))
    have f_l6 := kp hb6 (ka (f_l5) (.cells #[.int .i64 n, .int .i64 d] 33))
    have f_m6 := kp hb6 (ka (f_m5) (.cells #[.int .i64 n, .int .i64 d] 33))
    have f_k6 := kp hb6 (na w5 #[.int .i64 n, .int .i64 d] 33)
    have hB6 := bB (bA hB5 (.cells #[.int .i64 n, .int .i64 d] 33)) hb6
    clear zc_a zc_b zl_a zl_b zm_a zm_b zs_a zs_b
    obtain ⟨zc_a, zc_b, lc6⟩ := rcell f_c6
    obtain ⟨zs_a, zs_b, ls6⟩ := rcell f_s6
    obtain ⟨zl_a, zl_b, ll6⟩ := rcell f_l6
    obtain ⟨zm_a, zm_b, lm6⟩ := rcell f_m6
    obtain ⟨zk_a, zk_b, lk6⟩ := rcell f_k6
    go_wp2
    go_ret
    exact ⟨by simp, hB6⟩
  · clear hl
    go_enter Try.func8, Try.ntmps8
    go_wp2_with fail
    refine (wakes5 _).mono ?_
    rintro e w1 ⟨rfl, hb1⟩
    have f_c1 := kp hb1 (ka (na w #[.int .i64 H, .int .u64 L] 46) (.cells #[.int .i64 N, .int .i64 D] 33))
    have f_s1 := kp hb1 (na1 w (.cells #[.int .i64 H, .int .u64 L] 46) #[.int .i64 N, .int .i64 D] 33)
    have hB1 := bB (bA (bA (b0 w) (.cells #[.int .i64 H, .int .u64 L] 46)) (.cells #[.int .i64 N, .int .i64 D] 33)) hb1
    obtain ⟨zc_a, zc_b, lc1⟩ := rcell f_c1
    obtain ⟨zs_a, zs_b, ls1⟩ := rcell f_s1
    go_wp2_with fail
    refine (c1 _).mono ?_
    rintro e w2 ⟨rfl, hb2⟩
    have f_c2 := kp hb2 (f_c1)
    have f_s2 := kp hb2 (f_s1)
    have hB2 := bB hB1 hb2
    clear zc_a zc_b zs_a zs_b
    obtain ⟨zc_a, zc_b, lc2⟩ := rcell f_c2
    obtain ⟨zs_a, zs_b, ls2⟩ := rcell f_s2
    go_wp2_with fail
    refine (c2 _).mono ?_
    rintro e w3 ⟨rfl, hb3⟩
    have f_c3 := kp hb3 (ka (f_c2) (.cells #[.int .i64 a, .int .i64 0, .int .i64 n, .int .i64 d] 23))
    have f_s3 := kp hb3 (ka (f_s2) (.cells #[.int .i64 a, .int .i64 0, .int .i64 n, .int .i64 d] 23))
    have f_l3 := kp hb3 (na w2 #[.int .i64 a, .int .i64 0, .int .i64 n, .int .i64 d] 23)
    have hB3 := bB (bA hB2 (.cells #[.int .i64 a, .int .i64 0, .int .i64 n, .int .i64 d] 23)) hb3
    clear zc_a zc_b zs_a zs_b
    obtain ⟨zc_a, zc_b, lc3⟩ := rcell f_c3
    obtain ⟨zs_a, zs_b, ls3⟩ := rcell f_s3
    obtain ⟨zl_a, zl_b, ll3⟩ := rcell f_l3
    go_wp2_with fail
    refine (c3 _).mono ?_
    rintro e w4 ⟨rfl, hb4⟩
    have f_c4 := kp hb4 (ka (f_c3) (.cells #[.int .i64 0, .int .i64 0, .int .i64 0, .int .i64 0] 23))
    have f_s4 := kp hb4 (ka (f_s3) (.cells #[.int .i64 0, .int .i64 0, .int .i64 0, .int .i64 0] 23))
    have f_l4 := kp hb4 (ka (f_l3) (.cells #[.int .i64 0, .int .i64 0, .int .i64 0, .int .i64 0] 23))
    have f_m4 := kp hb4 (na w3 #[.int .i64 0, .int .i64 0, .int .i64 0, .int .i64 0] 23)
    have hB4 := bB (bA hB3 (.cells #[.int .i64 0, .int .i64 0, .int .i64 0, .int .i64 0] 23)) hb4
    clear zc_a zc_b zl_a zl_b zs_a zs_b
    obtain ⟨zc_a, zc_b, lc4⟩ := rcell f_c4
    obtain ⟨zs_a, zs_b, ls4⟩ := rcell f_s4
    obtain ⟨zl_a, zl_b, ll4⟩ := rcell f_l4
    obtain ⟨zm_a, zm_b, lm4⟩ := rcell f_m4
    go_wp2_with fail
    refine (c4 _).mono ?_
    rintro e w5 ⟨rfl, hb5⟩
    have f_c5 := kp hb5 (f_c4)
    have f_s5 := kp hb5 (f_s4)
    have f_l5 := kp hb5 (f_l4)
    have f_m5 := kp hb5 (f_m4)
    have hB5 := bB hB4 hb5
    clear zc_a zc_b zl_a zl_b zm_a zm_b zs_a zs_b
    obtain ⟨zc_a, zc_b, lc5⟩ := rcell f_c5
    obtain ⟨zs_a, zs_b, ls5⟩ := rcell f_s5
    obtain ⟨zl_a, zl_b, ll5⟩ := rcell f_l5
    obtain ⟨zm_a, zm_b, lm5⟩ := rcell f_m5
    go_wp2_with fail
    refine (c5 _).mono ?_
    rintro e w6 ⟨rfl, hb6⟩
    have f_c6 := kp hb6 (ka (f_c5) (.cells #[.int .i64 n, .int .i64 d] 33))
    have f_s6 := kp hb6 (ka (f_s5) (.cells #[.int .i64 n, .int .i64 d] 33))
    have f_l6 := kp hb6 (ka (f_l5) (.cells #[.int .i64 n, .int .i64 d] 33))
    have f_m6 := kp hb6 (ka (f_m5) (.cells #[.int .i64 n, .int .i64 d] 33))
    have f_k6 := kp hb6 (na w5 #[.int .i64 n, .int .i64 d] 33)
    have hB6 := bB (bA hB5 (.cells #[.int .i64 n, .int .i64 d] 33)) hb6
    clear zc_a zc_b zl_a zl_b zm_a zm_b zs_a zs_b
    obtain ⟨zc_a, zc_b, lc6⟩ := rcell f_c6
    obtain ⟨zs_a, zs_b, ls6⟩ := rcell f_s6
    obtain ⟨zl_a, zl_b, ll6⟩ := rcell f_l6
    obtain ⟨zm_a, zm_b, lm6⟩ := rcell f_m6
    obtain ⟨zk_a, zk_b, lk6⟩ := rcell f_k6
    go_wp2
    go_ret
    exact ⟨by simp, hB6⟩

set_option maxRecDepth 100000 in
set_option maxHeartbeats 2000000 in
theorem makes_yes_t (a x H L q r N D : Int) (c1 : ∀ w, Calls Try.prog 30 #[.int .i64 a, .agg #[.int .i64 N, .int .i64 D]] w fun e w' => e = .returned (.tuple #[.agg #[.int .i64 a, .int .i64 0, .int .i64 N, .int .i64 D], .int .i64 0]) ∧ Below w.heap.size w w') (c2 : ∀ w, Calls Try.prog 31 #[.agg #[.int .i64 H, .int .u64 L], .agg #[.int .i64 N, .int .i64 D]] w fun e w' => e = .returned (.tuple #[.agg #[.int .i64 q, .int .i64 r, .int .i64 N, .int .i64 D], .int .i64 0]) ∧ Below w.heap.size w w') (c3 : ∀ w, Calls Try.prog 26 #[.agg #[.int .i64 N, .int .i64 D]] w fun e w' => e = .returned (.bool true) ∧ Below w.heap.size w w') (c4 : ∀ w, Calls Try.prog 27 #[.agg #[.int .i64 N, .int .i64 D]] w fun e w' => e = .returned (.agg #[.int .i64 N, .int .i64 D]) ∧ Below w.heap.size w w') (c5 : ∀ w, Calls Try.prog 32 #[.int .i64 a] w fun e w' => e = .returned (.bool true) ∧ Below w.heap.size w w') (c6 : ∀ w, Calls Try.prog 34 #[.agg #[.int .i64 H, .int .u64 L]] w (GivesNum x w)) (c7 : ∀ A c w, Rd w A c (sz x.natAbs) → Calls Try.prog 33 #[.agg #[.bool (decide (x < 0)), .slice A (sz x.natAbs).length c], .agg #[.int .i64 N, .int .i64 D]] w fun e w' => e = .returned (.tuple #[.agg #[.int .i64 q, .int .i64 r, .int .i64 N, .int .i64 D], .bool true]) ∧ Below w.heap.size w w') (w : World) :
    Calls Try.prog 8 #[.int .i64 a, .agg #[.int .i64 H, .int .u64 L], .agg #[.int .i64 N, .int .i64 D]] w fun e w' => e = .returned (.bool true) ∧ Below w.heap.size w w' := by
  generalize hp : decide (x < 0) = p at *
  go_enter Try.func8, Try.ntmps8
  go_wp2_with fail
  refine (wakes5 _).mono ?_
  rintro e w1 ⟨rfl, hb1⟩
  have f_c1 := kp hb1 (ka (na w #[.int .i64 H, .int .u64 L] 46) (.cells #[.int .i64 N, .int .i64 D] 33))
  have f_s1 := kp hb1 (na1 w (.cells #[.int .i64 H, .int .u64 L] 46) #[.int .i64 N, .int .i64 D] 33)
  have hB1 := bB (bA (bA (b0 w) (.cells #[.int .i64 H, .int .u64 L] 46)) (.cells #[.int .i64 N, .int .i64 D] 33)) hb1
  obtain ⟨zc_a, zc_b, lc1⟩ := rcell f_c1
  obtain ⟨zs_a, zs_b, ls1⟩ := rcell f_s1
  go_wp2_with fail
  refine (c1 _).mono ?_
  rintro e w2 ⟨rfl, hb2⟩
  have f_c2 := kp hb2 (f_c1)
  have f_s2 := kp hb2 (f_s1)
  have hB2 := bB hB1 hb2
  clear zc_a zc_b zs_a zs_b
  obtain ⟨zc_a, zc_b, lc2⟩ := rcell f_c2
  obtain ⟨zs_a, zs_b, ls2⟩ := rcell f_s2
  go_wp2_with fail
  refine (c2 _).mono ?_
  rintro e w3 ⟨rfl, hb3⟩
  have f_c3 := kp hb3 (ka (f_c2) (.cells #[.int .i64 a, .int .i64 0, .int .i64 N, .int .i64 D] 23))
  have f_s3 := kp hb3 (ka (f_s2) (.cells #[.int .i64 a, .int .i64 0, .int .i64 N, .int .i64 D] 23))
  have f_l3 := kp hb3 (na w2 #[.int .i64 a, .int .i64 0, .int .i64 N, .int .i64 D] 23)
  have hB3 := bB (bA hB2 (.cells #[.int .i64 a, .int .i64 0, .int .i64 N, .int .i64 D] 23)) hb3
  clear zc_a zc_b zs_a zs_b
  obtain ⟨zc_a, zc_b, lc3⟩ := rcell f_c3
  obtain ⟨zs_a, zs_b, ls3⟩ := rcell f_s3
  obtain ⟨zl_a, zl_b, ll3⟩ := rcell f_l3
  go_wp2_with fail
  refine (c3 _).mono ?_
  rintro e w4 ⟨rfl, hb4⟩
  have f_c4 := kp hb4 (ka (f_c3) (.cells #[.int .i64 q, .int .i64 r, .int .i64 N, .int .i64 D] 23))
  have f_s4 := kp hb4 (ka (f_s3) (.cells #[.int .i64 q, .int .i64 r, .int .i64 N, .int .i64 D] 23))
  have f_l4 := kp hb4 (ka (f_l3) (.cells #[.int .i64 q, .int .i64 r, .int .i64 N, .int .i64 D] 23))
  have f_m4 := kp hb4 (na w3 #[.int .i64 q, .int .i64 r, .int .i64 N, .int .i64 D] 23)
  have hB4 := bB (bA hB3 (.cells #[.int .i64 q, .int .i64 r, .int .i64 N, .int .i64 D] 23)) hb4
  clear zc_a zc_b zl_a zl_b zs_a zs_b
  obtain ⟨zc_a, zc_b, lc4⟩ := rcell f_c4
  obtain ⟨zs_a, zs_b, ls4⟩ := rcell f_s4
  obtain ⟨zl_a, zl_b, ll4⟩ := rcell f_l4
  obtain ⟨zm_a, zm_b, lm4⟩ := rcell f_m4
  go_wp2_with fail
  refine (c4 _).mono ?_
  rintro e w5 ⟨rfl, hb5⟩
  have f_c5 := kp hb5 (f_c4)
  have f_s5 := kp hb5 (f_s4)
  have f_l5 := kp hb5 (f_l4)
  have f_m5 := kp hb5 (f_m4)
  have hB5 := bB hB4 hb5
  clear zc_a zc_b zl_a zl_b zm_a zm_b zs_a zs_b
  obtain ⟨zc_a, zc_b, lc5⟩ := rcell f_c5
  obtain ⟨zs_a, zs_b, ls5⟩ := rcell f_s5
  obtain ⟨zl_a, zl_b, ll5⟩ := rcell f_l5
  obtain ⟨zm_a, zm_b, lm5⟩ := rcell f_m5
  go_wp2_with fail
  refine (c5 _).mono ?_
  rintro e w6 ⟨rfl, hb6⟩
  have f_c6 := kp hb6 (ka (f_c5) (.cells #[.int .i64 N, .int .i64 D] 33))
  have f_s6 := kp hb6 (ka (f_s5) (.cells #[.int .i64 N, .int .i64 D] 33))
  have f_l6 := kp hb6 (ka (f_l5) (.cells #[.int .i64 N, .int .i64 D] 33))
  have f_m6 := kp hb6 (ka (f_m5) (.cells #[.int .i64 N, .int .i64 D] 33))
  have f_k6 := kp hb6 (na w5 #[.int .i64 N, .int .i64 D] 33)
  have hB6 := bB (bA hB5 (.cells #[.int .i64 N, .int .i64 D] 33)) hb6
  clear zc_a zc_b zl_a zl_b zm_a zm_b zs_a zs_b
  obtain ⟨zc_a, zc_b, lc6⟩ := rcell f_c6
  obtain ⟨zs_a, zs_b, ls6⟩ := rcell f_s6
  obtain ⟨zl_a, zl_b, ll6⟩ := rcell f_l6
  obtain ⟨zm_a, zm_b, lm6⟩ := rcell f_m6
  obtain ⟨zk_a, zk_b, lk6⟩ := rcell f_k6
  go_wp2_with fail
  refine Abs.wp_region_abs (Abs.cls0 _) [0, 1, 2, 3, 4, 5, 6, 7, 8, 9] (by kernel_rfl) (by kernel_rfl) (Below.refl _ _).drew ?_
  repeat (first | (refine Abs.step_pure rfl rfl (fun K hK => ?_); go_simp; (try go_bits); (first | refine hK _ _ ?_ | (simp only [↓IntWalk.iteOmega]; go_simp; (try go_bits); refine hK _ _ ?_)); clear hK K) | (refine Abs.step_load (v := ?_) rfl rfl (by kernel_rfl) rfl (fun w0 hI => ?_) (fun K hK => ?_); rotate_left; (· have z0 := (rcell (kp hI (f_c6))).1; have z1 := (rcell (kp hI (f_s6))).1; go_simp; rfl); (simp only [Act.put, List.setIfInBounds_toArray, List.set_cons_zero, List.set_cons_succ]; refine hK _ _ ?_; clear hK K)) | (refine Abs.step_skip rfl rfl (fun K hK => ?_); (simp only [Act.put, List.setIfInBounds_toArray, List.set_cons_zero, List.set_cons_succ]; refine hK _ _ ?_; clear hK K)))
  (refine Abs.step_call (f := ?_) (args := ?_) rfl rfl rfl rfl (NumIs (x)) (fun _ => Cl_NumIs _) (fun w0 => ?_) (fun w0 hI hF => ?_) (fun K hK v w0 hv => ?_); rotate_left 2; (· go_simp; (constructor <;> rfl)); (· exact (c6 _).mono (fun _ _ h => h.num)); (obtain ⟨A1, e1, rfl, -⟩ := hv; clear w0; simp only [Act.put, List.setIfInBounds_toArray, List.set_cons_zero, List.set_cons_succ]; refine hK _ _ ?_; clear hK K))
  repeat (first | (refine Abs.step_pure rfl rfl (fun K hK => ?_); go_simp; (try go_bits); (first | refine hK _ _ ?_ | (simp only [↓IntWalk.iteOmega]; go_simp; (try go_bits); refine hK _ _ ?_)); clear hK K) | (refine Abs.step_load (v := ?_) rfl rfl (by kernel_rfl) rfl (fun w0 hI => ?_) (fun K hK => ?_); rotate_left; (· have z0 := (rcell (kp hI (f_c6))).1; have z1 := (rcell (kp hI (f_s6))).1; go_simp; rfl); (simp only [Act.put, List.setIfInBounds_toArray, List.set_cons_zero, List.set_cons_succ]; refine hK _ _ ?_; clear hK K)) | (refine Abs.step_skip rfl rfl (fun K hK => ?_); (simp only [Act.put, List.setIfInBounds_toArray, List.set_cons_zero, List.set_cons_succ]; refine hK _ _ ?_; clear hK K)))
  (refine Abs.step_call (f := ?_) (args := ?_) rfl rfl rfl rfl (fun v _ => v = .tuple #[.agg #[.int .i64 q, .int .i64 r, .int .i64 N, .int .i64 D], .bool true]) (fun _ _ _ h _ => h) (fun w0 => ?_) (fun w0 hI hF => ?_) (fun K hK v w0 hv => ?_); rotate_left 2; (· go_simp; (constructor <;> rfl)); (· exact (c7 _ _ _ ((hF 1 (by kernel_rfl)).2 rfl).rd).mono (fun _ _ h => ⟨_, h.1, h.2, rfl⟩)); (replace hv : v = .tuple #[.agg #[.int .i64 q, .int .i64 r, .int .i64 N, .int .i64 D], .bool true] := hv; subst hv; clear w0; simp only [Act.put, List.setIfInBounds_toArray, List.set_cons_zero, List.set_cons_succ]; refine hK _ _ ?_; clear hK K))
  repeat (first | (refine Abs.step_pure rfl rfl (fun K hK => ?_); go_simp; (try go_bits); (first | refine hK _ _ ?_ | (simp only [↓IntWalk.iteOmega]; go_simp; (try go_bits); refine hK _ _ ?_)); clear hK K) | (refine Abs.step_load (v := ?_) rfl rfl (by kernel_rfl) rfl (fun w0 hI => ?_) (fun K hK => ?_); rotate_left; (· have z0 := (rcell (kp hI (f_c6))).1; have z1 := (rcell (kp hI (f_s6))).1; go_simp; rfl); (simp only [Act.put, List.setIfInBounds_toArray, List.set_cons_zero, List.set_cons_succ]; refine hK _ _ ?_; clear hK K)) | (refine Abs.step_skip rfl rfl (fun K hK => ?_); (simp only [Act.put, List.setIfInBounds_toArray, List.set_cons_zero, List.set_cons_succ]; refine hK _ _ ?_; clear hK K)))
  (refine Abs.step_var (obj := ?_) rfl rfl rfl rfl (fun w0 => ?_) (fun K hK g_v hv_v hu_v => ?_); rotate_left; (· go_simp; rfl); (simp only [Act.put, List.setIfInBounds_toArray, List.set_cons_zero, List.set_cons_succ]; refine hK _ _ ?_; clear hK K))
  (refine Abs.step_store (T := ?_) rfl rfl rfl (fun w0 hI hF hU => ?_) (fun _ _ _ _ => trivial) (fun K hK => ?_); rotate_left; (· have hR := (hF 7).2 rfl; have hg0 := (rcell hR).1; have hg1 := (rcell hR).2.1; simp only [Abs.T_setF, Abs.T_addA, Abs.T_push, Abs.T_start]; go_simp; exact row4 hR _ _ _ _); (simp only [Act.put, List.setIfInBounds_toArray, List.set_cons_zero, List.set_cons_succ]; refine hK _ _ ?_; clear hK K))
  repeat (first | (refine Abs.step_pure rfl rfl (fun K hK => ?_); go_simp; (try go_bits); (first | refine hK _ _ ?_ | (simp only [↓IntWalk.iteOmega]; go_simp; (try go_bits); refine hK _ _ ?_)); clear hK K) | (refine Abs.step_load (v := ?_) rfl rfl (by kernel_rfl) rfl (fun w0 hI => ?_) (fun K hK => ?_); rotate_left; (· have z0 := (rcell (kp hI (f_c6))).1; have z1 := (rcell (kp hI (f_s6))).1; go_simp; rfl); (simp only [Act.put, List.setIfInBounds_toArray, List.set_cons_zero, List.set_cons_succ]; refine hK _ _ ?_; clear hK K)) | (refine Abs.step_skip rfl rfl (fun K hK => ?_); (simp only [Act.put, List.setIfInBounds_toArray, List.set_cons_zero, List.set_cons_succ]; refine hK _ _ ?_; clear hK K)))
  have hs_v := leB hv_v
  try simp only [World.size_alloc] at hs_v
  intro w0 hI hF hx1 hx2
  clear hx1 hx2
  have q1 := (hF 7).2 rfl
  clear hF
  simp only [Abs.T_push]
  generalize hT8 : setRow w0 _ _ = w8
  obtain ⟨hb8, f_v8⟩ := fin1 hI hv_v q1 hT8
  clear hT8 hI q1 w0
  have f_c8 := kp hb8 (f_c6)
  have f_s8 := kp hb8 (f_s6)
  have f_l8 := kp hb8 (f_l6)
  have f_m8 := kp hb8 (f_m6)
  have f_k8 := kp hb8 (f_k6)
  have hB8 := bB hB6 hb8
  clear zc_a zc_b zk_a zk_b zl_a zl_b zm_a zm_b zs_a zs_b
  obtain ⟨zc_a, zc_b, lc8⟩ := rcell f_c8
  obtain ⟨zs_a, zs_b, ls8⟩ := rcell f_s8
  obtain ⟨zl_a, zl_b, ll8⟩ := rcell f_l8
  obtain ⟨zm_a, zm_b, lm8⟩ := rcell f_m8
  obtain ⟨zk_a, zk_b, lk8⟩ := rcell f_k8
  obtain ⟨zv_a, zv_b, lv8⟩ := rcell f_v8
  go_wp2
  go_ret
  exact ⟨by simp, hB8⟩

set_option maxRecDepth 100000 in
set_option maxHeartbeats 2000000 in
theorem makes_no_t (a x H L q r N D : Int) (c1 : ∀ w, Calls Try.prog 30 #[.int .i64 a, .agg #[.int .i64 N, .int .i64 D]] w fun e w' => e = .returned (.tuple #[.agg #[.int .i64 a, .int .i64 0, .int .i64 N, .int .i64 D], .int .i64 0]) ∧ Below w.heap.size w w') (c2 : ∀ w, Calls Try.prog 31 #[.agg #[.int .i64 H, .int .u64 L], .agg #[.int .i64 N, .int .i64 D]] w fun e w' => e = .returned (.tuple #[.agg #[.int .i64 0, .int .i64 0, .int .i64 0, .int .i64 0], .int .i64 5]) ∧ Below w.heap.size w w') (c3 : ∀ w, Calls Try.prog 26 #[.agg #[.int .i64 N, .int .i64 D]] w fun e w' => e = .returned (.bool true) ∧ Below w.heap.size w w') (c4 : ∀ w, Calls Try.prog 27 #[.agg #[.int .i64 N, .int .i64 D]] w fun e w' => e = .returned (.agg #[.int .i64 N, .int .i64 D]) ∧ Below w.heap.size w w') (c5 : ∀ w, Calls Try.prog 32 #[.int .i64 a] w fun e w' => e = .returned (.bool true) ∧ Below w.heap.size w w') (c6 : ∀ w, Calls Try.prog 34 #[.agg #[.int .i64 H, .int .u64 L]] w (GivesNum x w)) (c7 : ∀ A c w, Rd w A c (sz x.natAbs) → Calls Try.prog 33 #[.agg #[.bool (decide (x < 0)), .slice A (sz x.natAbs).length c], .agg #[.int .i64 N, .int .i64 D]] w fun e w' => e = .returned (.tuple #[.agg #[.int .i64 0, .int .i64 0, .int .i64 0, .int .i64 0], .bool false]) ∧ Below w.heap.size w w') (w : World) :
    Calls Try.prog 8 #[.int .i64 a, .agg #[.int .i64 H, .int .u64 L], .agg #[.int .i64 N, .int .i64 D]] w fun e w' => e = .returned (.bool true) ∧ Below w.heap.size w w' := by
  generalize hp : decide (x < 0) = p at *
  go_enter Try.func8, Try.ntmps8
  go_wp2_with fail
  refine (wakes5 _).mono ?_
  rintro e w1 ⟨rfl, hb1⟩
  have f_c1 := kp hb1 (ka (na w #[.int .i64 H, .int .u64 L] 46) (.cells #[.int .i64 N, .int .i64 D] 33))
  have f_s1 := kp hb1 (na1 w (.cells #[.int .i64 H, .int .u64 L] 46) #[.int .i64 N, .int .i64 D] 33)
  have hB1 := bB (bA (bA (b0 w) (.cells #[.int .i64 H, .int .u64 L] 46)) (.cells #[.int .i64 N, .int .i64 D] 33)) hb1
  obtain ⟨zc_a, zc_b, lc1⟩ := rcell f_c1
  obtain ⟨zs_a, zs_b, ls1⟩ := rcell f_s1
  go_wp2_with fail
  refine (c1 _).mono ?_
  rintro e w2 ⟨rfl, hb2⟩
  have f_c2 := kp hb2 (f_c1)
  have f_s2 := kp hb2 (f_s1)
  have hB2 := bB hB1 hb2
  clear zc_a zc_b zs_a zs_b
  obtain ⟨zc_a, zc_b, lc2⟩ := rcell f_c2
  obtain ⟨zs_a, zs_b, ls2⟩ := rcell f_s2
  go_wp2_with fail
  refine (c2 _).mono ?_
  rintro e w3 ⟨rfl, hb3⟩
  have f_c3 := kp hb3 (ka (f_c2) (.cells #[.int .i64 a, .int .i64 0, .int .i64 N, .int .i64 D] 23))
  have f_s3 := kp hb3 (ka (f_s2) (.cells #[.int .i64 a, .int .i64 0, .int .i64 N, .int .i64 D] 23))
  have f_l3 := kp hb3 (na w2 #[.int .i64 a, .int .i64 0, .int .i64 N, .int .i64 D] 23)
  have hB3 := bB (bA hB2 (.cells #[.int .i64 a, .int .i64 0, .int .i64 N, .int .i64 D] 23)) hb3
  clear zc_a zc_b zs_a zs_b
  obtain ⟨zc_a, zc_b, lc3⟩ := rcell f_c3
  obtain ⟨zs_a, zs_b, ls3⟩ := rcell f_s3
  obtain ⟨zl_a, zl_b, ll3⟩ := rcell f_l3
  go_wp2_with fail
  refine (c3 _).mono ?_
  rintro e w4 ⟨rfl, hb4⟩
  have f_c4 := kp hb4 (ka (f_c3) (.cells #[.int .i64 0, .int .i64 0, .int .i64 0, .int .i64 0] 23))
  have f_s4 := kp hb4 (ka (f_s3) (.cells #[.int .i64 0, .int .i64 0, .int .i64 0, .int .i64 0] 23))
  have f_l4 := kp hb4 (ka (f_l3) (.cells #[.int .i64 0, .int .i64 0, .int .i64 0, .int .i64 0] 23))
  have f_m4 := kp hb4 (na w3 #[.int .i64 0, .int .i64 0, .int .i64 0, .int .i64 0] 23)
  have hB4 := bB (bA hB3 (.cells #[.int .i64 0, .int .i64 0, .int .i64 0, .int .i64 0] 23)) hb4
  clear zc_a zc_b zl_a zl_b zs_a zs_b
  obtain ⟨zc_a, zc_b, lc4⟩ := rcell f_c4
  obtain ⟨zs_a, zs_b, ls4⟩ := rcell f_s4
  obtain ⟨zl_a, zl_b, ll4⟩ := rcell f_l4
  obtain ⟨zm_a, zm_b, lm4⟩ := rcell f_m4
  go_wp2_with fail
  refine (c4 _).mono ?_
  rintro e w5 ⟨rfl, hb5⟩
  have f_c5 := kp hb5 (f_c4)
  have f_s5 := kp hb5 (f_s4)
  have f_l5 := kp hb5 (f_l4)
  have f_m5 := kp hb5 (f_m4)
  have hB5 := bB hB4 hb5
  clear zc_a zc_b zl_a zl_b zm_a zm_b zs_a zs_b
  obtain ⟨zc_a, zc_b, lc5⟩ := rcell f_c5
  obtain ⟨zs_a, zs_b, ls5⟩ := rcell f_s5
  obtain ⟨zl_a, zl_b, ll5⟩ := rcell f_l5
  obtain ⟨zm_a, zm_b, lm5⟩ := rcell f_m5
  go_wp2_with fail
  refine (c5 _).mono ?_
  rintro e w6 ⟨rfl, hb6⟩
  have f_c6 := kp hb6 (ka (f_c5) (.cells #[.int .i64 N, .int .i64 D] 33))
  have f_s6 := kp hb6 (ka (f_s5) (.cells #[.int .i64 N, .int .i64 D] 33))
  have f_l6 := kp hb6 (ka (f_l5) (.cells #[.int .i64 N, .int .i64 D] 33))
  have f_m6 := kp hb6 (ka (f_m5) (.cells #[.int .i64 N, .int .i64 D] 33))
  have f_k6 := kp hb6 (na w5 #[.int .i64 N, .int .i64 D] 33)
  have hB6 := bB (bA hB5 (.cells #[.int .i64 N, .int .i64 D] 33)) hb6
  clear zc_a zc_b zl_a zl_b zm_a zm_b zs_a zs_b
  obtain ⟨zc_a, zc_b, lc6⟩ := rcell f_c6
  obtain ⟨zs_a, zs_b, ls6⟩ := rcell f_s6
  obtain ⟨zl_a, zl_b, ll6⟩ := rcell f_l6
  obtain ⟨zm_a, zm_b, lm6⟩ := rcell f_m6
  obtain ⟨zk_a, zk_b, lk6⟩ := rcell f_k6
  go_wp2_with fail
  refine Abs.wp_region_abs (Abs.cls0 _) [0, 1, 2, 3, 4, 5, 6, 7, 8, 9] (by kernel_rfl) (by kernel_rfl) (Below.refl _ _).drew ?_
  repeat (first | (refine Abs.step_pure rfl rfl (fun K hK => ?_); go_simp; (try go_bits); (first | refine hK _ _ ?_ | (simp only [↓IntWalk.iteOmega]; go_simp; (try go_bits); refine hK _ _ ?_)); clear hK K) | (refine Abs.step_load (v := ?_) rfl rfl (by kernel_rfl) rfl (fun w0 hI => ?_) (fun K hK => ?_); rotate_left; (· have z0 := (rcell (kp hI (f_c6))).1; have z1 := (rcell (kp hI (f_s6))).1; go_simp; rfl); (simp only [Act.put, List.setIfInBounds_toArray, List.set_cons_zero, List.set_cons_succ]; refine hK _ _ ?_; clear hK K)) | (refine Abs.step_skip rfl rfl (fun K hK => ?_); (simp only [Act.put, List.setIfInBounds_toArray, List.set_cons_zero, List.set_cons_succ]; refine hK _ _ ?_; clear hK K)))
  (refine Abs.step_call (f := ?_) (args := ?_) rfl rfl rfl rfl (NumIs (x)) (fun _ => Cl_NumIs _) (fun w0 => ?_) (fun w0 hI hF => ?_) (fun K hK v w0 hv => ?_); rotate_left 2; (· go_simp; (constructor <;> rfl)); (· exact (c6 _).mono (fun _ _ h => h.num)); (obtain ⟨A1, e1, rfl, -⟩ := hv; clear w0; simp only [Act.put, List.setIfInBounds_toArray, List.set_cons_zero, List.set_cons_succ]; refine hK _ _ ?_; clear hK K))
  repeat (first | (refine Abs.step_pure rfl rfl (fun K hK => ?_); go_simp; (try go_bits); (first | refine hK _ _ ?_ | (simp only [↓IntWalk.iteOmega]; go_simp; (try go_bits); refine hK _ _ ?_)); clear hK K) | (refine Abs.step_load (v := ?_) rfl rfl (by kernel_rfl) rfl (fun w0 hI => ?_) (fun K hK => ?_); rotate_left; (· have z0 := (rcell (kp hI (f_c6))).1; have z1 := (rcell (kp hI (f_s6))).1; go_simp; rfl); (simp only [Act.put, List.setIfInBounds_toArray, List.set_cons_zero, List.set_cons_succ]; refine hK _ _ ?_; clear hK K)) | (refine Abs.step_skip rfl rfl (fun K hK => ?_); (simp only [Act.put, List.setIfInBounds_toArray, List.set_cons_zero, List.set_cons_succ]; refine hK _ _ ?_; clear hK K)))
  (refine Abs.step_call (f := ?_) (args := ?_) rfl rfl rfl rfl (fun v _ => v = .tuple #[.agg #[.int .i64 0, .int .i64 0, .int .i64 0, .int .i64 0], .bool false]) (fun _ _ _ h _ => h) (fun w0 => ?_) (fun w0 hI hF => ?_) (fun K hK v w0 hv => ?_); rotate_left 2; (· go_simp; (constructor <;> rfl)); (· exact (c7 _ _ _ ((hF 1 (by kernel_rfl)).2 rfl).rd).mono (fun _ _ h => ⟨_, h.1, h.2, rfl⟩)); (replace hv : v = .tuple #[.agg #[.int .i64 0, .int .i64 0, .int .i64 0, .int .i64 0], .bool false] := hv; subst hv; clear w0; simp only [Act.put, List.setIfInBounds_toArray, List.set_cons_zero, List.set_cons_succ]; refine hK _ _ ?_; clear hK K))
  repeat (first | (refine Abs.step_pure rfl rfl (fun K hK => ?_); go_simp; (try go_bits); (first | refine hK _ _ ?_ | (simp only [↓IntWalk.iteOmega]; go_simp; (try go_bits); refine hK _ _ ?_)); clear hK K) | (refine Abs.step_load (v := ?_) rfl rfl (by kernel_rfl) rfl (fun w0 hI => ?_) (fun K hK => ?_); rotate_left; (· have z0 := (rcell (kp hI (f_c6))).1; have z1 := (rcell (kp hI (f_s6))).1; go_simp; rfl); (simp only [Act.put, List.setIfInBounds_toArray, List.set_cons_zero, List.set_cons_succ]; refine hK _ _ ?_; clear hK K)) | (refine Abs.step_skip rfl rfl (fun K hK => ?_); (simp only [Act.put, List.setIfInBounds_toArray, List.set_cons_zero, List.set_cons_succ]; refine hK _ _ ?_; clear hK K)))
  (refine Abs.step_var (obj := ?_) rfl rfl rfl rfl (fun w0 => ?_) (fun K hK g_v hv_v hu_v => ?_); rotate_left; (· go_simp; rfl); (simp only [Act.put, List.setIfInBounds_toArray, List.set_cons_zero, List.set_cons_succ]; refine hK _ _ ?_; clear hK K))
  (refine Abs.step_store (T := ?_) rfl rfl rfl (fun w0 hI hF hU => ?_) (fun _ _ _ _ => trivial) (fun K hK => ?_); rotate_left; (· have hR := (hF 7).2 rfl; have hg0 := (rcell hR).1; have hg1 := (rcell hR).2.1; simp only [Abs.T_setF, Abs.T_addA, Abs.T_push, Abs.T_start]; go_simp; exact row4 hR _ _ _ _); (simp only [Act.put, List.setIfInBounds_toArray, List.set_cons_zero, List.set_cons_succ]; refine hK _ _ ?_; clear hK K))
  repeat (first | (refine Abs.step_pure rfl rfl (fun K hK => ?_); go_simp; (try go_bits); (first | refine hK _ _ ?_ | (simp only [↓IntWalk.iteOmega]; go_simp; (try go_bits); refine hK _ _ ?_)); clear hK K) | (refine Abs.step_load (v := ?_) rfl rfl (by kernel_rfl) rfl (fun w0 hI => ?_) (fun K hK => ?_); rotate_left; (· have z0 := (rcell (kp hI (f_c6))).1; have z1 := (rcell (kp hI (f_s6))).1; go_simp; rfl); (simp only [Act.put, List.setIfInBounds_toArray, List.set_cons_zero, List.set_cons_succ]; refine hK _ _ ?_; clear hK K)) | (refine Abs.step_skip rfl rfl (fun K hK => ?_); (simp only [Act.put, List.setIfInBounds_toArray, List.set_cons_zero, List.set_cons_succ]; refine hK _ _ ?_; clear hK K)))
  have hs_v := leB hv_v
  try simp only [World.size_alloc] at hs_v
  intro w0 hI hF hx1 hx2
  clear hx1 hx2
  have q1 := (hF 7).2 rfl
  clear hF
  simp only [Abs.T_push]
  generalize hT8 : setRow w0 _ _ = w8
  obtain ⟨hb8, f_v8⟩ := fin1 hI hv_v q1 hT8
  clear hT8 hI q1 w0
  have f_c8 := kp hb8 (f_c6)
  have f_s8 := kp hb8 (f_s6)
  have f_l8 := kp hb8 (f_l6)
  have f_m8 := kp hb8 (f_m6)
  have f_k8 := kp hb8 (f_k6)
  have hB8 := bB hB6 hb8
  clear zc_a zc_b zk_a zk_b zl_a zl_b zm_a zm_b zs_a zs_b
  obtain ⟨zc_a, zc_b, lc8⟩ := rcell f_c8
  obtain ⟨zs_a, zs_b, ls8⟩ := rcell f_s8
  obtain ⟨zl_a, zl_b, ll8⟩ := rcell f_l8
  obtain ⟨zm_a, zm_b, lm8⟩ := rcell f_m8
  obtain ⟨zk_a, zk_b, lk8⟩ := rcell f_k8
  obtain ⟨zv_a, zv_b, lv8⟩ := rcell f_v8
  go_wp2
  go_ret
  exact ⟨by simp, hB8⟩

set_option maxRecDepth 100000 in
set_option maxHeartbeats 2000000 in
theorem makes_low_f (a H L N D n d : Int) (hl : ¬ (n = N ∧ d = D)) (c1 : ∀ w, Calls Try.prog 30 #[.int .i64 a, .agg #[.int .i64 N, .int .i64 D]] w fun e w' => e = .returned (.tuple #[.agg #[.int .i64 0, .int .i64 0, .int .i64 0, .int .i64 0], .int .i64 2]) ∧ Below w.heap.size w w') (c2 : ∀ w, Calls Try.prog 31 #[.agg #[.int .i64 H, .int .u64 L], .agg #[.int .i64 N, .int .i64 D]] w fun e w' => e = .returned (.tuple #[.agg #[.int .i64 0, .int .i64 0, .int .i64 0, .int .i64 0], .int .i64 2]) ∧ Below w.heap.size w w') (c3 : ∀ w, Calls Try.prog 26 #[.agg #[.int .i64 N, .int .i64 D]] w fun e w' => e = .returned (.bool true) ∧ Below w.heap.size w w') (c4 : ∀ w, Calls Try.prog 27 #[.agg #[.int .i64 N, .int .i64 D]] w fun e w' => e = .returned (.agg #[.int .i64 n, .int .i64 d]) ∧ Below w.heap.size w w') (c5 : ∀ w, Calls Try.prog 32 #[.int .i64 a] w fun e w' => e = .returned (.bool false) ∧ Below w.heap.size w w') (w : World) :
    Calls Try.prog 8 #[.int .i64 a, .agg #[.int .i64 H, .int .u64 L], .agg #[.int .i64 N, .int .i64 D]] w fun e w' => e = .returned (.bool true) ∧ Below w.heap.size w w' := by
  by_cases hn : n = N
  · have hd : ¬ d = D := fun e => hl ⟨hn, e⟩
    clear hl
    subst hn
    go_enter Try.func8, Try.ntmps8
    go_wp2_with fail
    refine (wakes5 _).mono ?_
    rintro e w1 ⟨rfl, hb1⟩
    have f_c1 := kp hb1 (ka (na w #[.int .i64 H, .int .u64 L] 46) (.cells #[.int .i64 n, .int .i64 D] 33))
    have f_s1 := kp hb1 (na1 w (.cells #[.int .i64 H, .int .u64 L] 46) #[.int .i64 n, .int .i64 D] 33)
    have hB1 := bB (bA (bA (b0 w) (.cells #[.int .i64 H, .int .u64 L] 46)) (.cells #[.int .i64 n, .int .i64 D] 33)) hb1
    obtain ⟨zc_a, zc_b, lc1⟩ := rcell f_c1
    obtain ⟨zs_a, zs_b, ls1⟩ := rcell f_s1
    go_wp2_with fail
    refine (c1 _).mono ?_
    rintro e w2 ⟨rfl, hb2⟩
    have f_c2 := kp hb2 (f_c1)
    have f_s2 := kp hb2 (f_s1)
    have hB2 := bB hB1 hb2
    clear zc_a zc_b zs_a zs_b
    obtain ⟨zc_a, zc_b, lc2⟩ := rcell f_c2
    obtain ⟨zs_a, zs_b, ls2⟩ := rcell f_s2
    go_wp2_with fail
    refine (c2 _).mono ?_
    rintro e w3 ⟨rfl, hb3⟩
    have f_c3 := kp hb3 (ka (f_c2) (.cells #[.int .i64 0, .int .i64 0, .int .i64 0, .int .i64 0] 23))
    have f_s3 := kp hb3 (ka (f_s2) (.cells #[.int .i64 0, .int .i64 0, .int .i64 0, .int .i64 0] 23))
    have f_l3 := kp hb3 (na w2 #[.int .i64 0, .int .i64 0, .int .i64 0, .int .i64 0] 23)
    have hB3 := bB (bA hB2 (.cells #[.int .i64 0, .int .i64 0, .int .i64 0, .int .i64 0] 23)) hb3
    clear zc_a zc_b zs_a zs_b
    obtain ⟨zc_a, zc_b, lc3⟩ := rcell f_c3
    obtain ⟨zs_a, zs_b, ls3⟩ := rcell f_s3
    obtain ⟨zl_a, zl_b, ll3⟩ := rcell f_l3
    go_wp2_with fail
    refine (c3 _).mono ?_
    rintro e w4 ⟨rfl, hb4⟩
    have f_c4 := kp hb4 (ka (f_c3) (.cells #[.int .i64 0, .int .i64 0, .int .i64 0, .int .i64 0] 23))
    have f_s4 := kp hb4 (ka (f_s3) (.cells #[.int .i64 0, .int .i64 0, .int .i64 0, .int .i64 0] 23))
    have f_l4 := kp hb4 (ka (f_l3) (.cells #[.int .i64 0, .int .i64 0, .int .i64 0, .int .i64 0] 23))
    have f_m4 := kp hb4 (na w3 #[.int .i64 0, .int .i64 0, .int .i64 0, .int .i64 0] 23)
    have hB4 := bB (bA hB3 (.cells #[.int .i64 0, .int .i64 0, .int .i64 0, .int .i64 0] 23)) hb4
    clear zc_a zc_b zl_a zl_b zs_a zs_b
    obtain ⟨zc_a, zc_b, lc4⟩ := rcell f_c4
    obtain ⟨zs_a, zs_b, ls4⟩ := rcell f_s4
    obtain ⟨zl_a, zl_b, ll4⟩ := rcell f_l4
    obtain ⟨zm_a, zm_b, lm4⟩ := rcell f_m4
    go_wp2_with fail
    refine (c4 _).mono ?_
    rintro e w5 ⟨rfl, hb5⟩
    have f_c5 := kp hb5 (f_c4)
    have f_s5 := kp hb5 (f_s4)
    have f_l5 := kp hb5 (f_l4)
    have f_m5 := kp hb5 (f_m4)
    have hB5 := bB hB4 hb5
    clear zc_a zc_b zl_a zl_b zm_a zm_b zs_a zs_b
    obtain ⟨zc_a, zc_b, lc5⟩ := rcell f_c5
    obtain ⟨zs_a, zs_b, ls5⟩ := rcell f_s5
    obtain ⟨zl_a, zl_b, ll5⟩ := rcell f_l5
    obtain ⟨zm_a, zm_b, lm5⟩ := rcell f_m5
    go_wp2_with fail
    refine (c5 _).mono ?_
    rintro e w6 ⟨rfl, hb6⟩
    have f_c6 := kp hb6 (ka (f_c5) (.cells #[.int .i64 n, .int .i64 d] 33))
    have f_s6 := kp hb6 (ka (f_s5) (.cells #[.int .i64 n, .int .i64 d] 33))
    have f_l6 := kp hb6 (ka (f_l5) (.cells #[.int .i64 n, .int .i64 d] 33))
    have f_m6 := kp hb6 (ka (f_m5) (.cells #[.int .i64 n, .int .i64 d] 33))
    have f_k6 := kp hb6 (na w5 #[.int .i64 n, .int .i64 d] 33)
    have hB6 := bB (bA hB5 (.cells #[.int .i64 n, .int .i64 d] 33)) hb6
    clear zc_a zc_b zl_a zl_b zm_a zm_b zs_a zs_b
    obtain ⟨zc_a, zc_b, lc6⟩ := rcell f_c6
    obtain ⟨zs_a, zs_b, ls6⟩ := rcell f_s6
    obtain ⟨zl_a, zl_b, ll6⟩ := rcell f_l6
    obtain ⟨zm_a, zm_b, lm6⟩ := rcell f_m6
    obtain ⟨zk_a, zk_b, lk6⟩ := rcell f_k6
    go_wp2
    go_ret
    exact ⟨by simp, hB6⟩
  · clear hl
    go_enter Try.func8, Try.ntmps8
    go_wp2_with fail
    refine (wakes5 _).mono ?_
    rintro e w1 ⟨rfl, hb1⟩
    have f_c1 := kp hb1 (ka (na w #[.int .i64 H, .int .u64 L] 46) (.cells #[.int .i64 N, .int .i64 D] 33))
    have f_s1 := kp hb1 (na1 w (.cells #[.int .i64 H, .int .u64 L] 46) #[.int .i64 N, .int .i64 D] 33)
    have hB1 := bB (bA (bA (b0 w) (.cells #[.int .i64 H, .int .u64 L] 46)) (.cells #[.int .i64 N, .int .i64 D] 33)) hb1
    obtain ⟨zc_a, zc_b, lc1⟩ := rcell f_c1
    obtain ⟨zs_a, zs_b, ls1⟩ := rcell f_s1
    go_wp2_with fail
    refine (c1 _).mono ?_
    rintro e w2 ⟨rfl, hb2⟩
    have f_c2 := kp hb2 (f_c1)
    have f_s2 := kp hb2 (f_s1)
    have hB2 := bB hB1 hb2
    clear zc_a zc_b zs_a zs_b
    obtain ⟨zc_a, zc_b, lc2⟩ := rcell f_c2
    obtain ⟨zs_a, zs_b, ls2⟩ := rcell f_s2
    go_wp2_with fail
    refine (c2 _).mono ?_
    rintro e w3 ⟨rfl, hb3⟩
    have f_c3 := kp hb3 (ka (f_c2) (.cells #[.int .i64 0, .int .i64 0, .int .i64 0, .int .i64 0] 23))
    have f_s3 := kp hb3 (ka (f_s2) (.cells #[.int .i64 0, .int .i64 0, .int .i64 0, .int .i64 0] 23))
    have f_l3 := kp hb3 (na w2 #[.int .i64 0, .int .i64 0, .int .i64 0, .int .i64 0] 23)
    have hB3 := bB (bA hB2 (.cells #[.int .i64 0, .int .i64 0, .int .i64 0, .int .i64 0] 23)) hb3
    clear zc_a zc_b zs_a zs_b
    obtain ⟨zc_a, zc_b, lc3⟩ := rcell f_c3
    obtain ⟨zs_a, zs_b, ls3⟩ := rcell f_s3
    obtain ⟨zl_a, zl_b, ll3⟩ := rcell f_l3
    go_wp2_with fail
    refine (c3 _).mono ?_
    rintro e w4 ⟨rfl, hb4⟩
    have f_c4 := kp hb4 (ka (f_c3) (.cells #[.int .i64 0, .int .i64 0, .int .i64 0, .int .i64 0] 23))
    have f_s4 := kp hb4 (ka (f_s3) (.cells #[.int .i64 0, .int .i64 0, .int .i64 0, .int .i64 0] 23))
    have f_l4 := kp hb4 (ka (f_l3) (.cells #[.int .i64 0, .int .i64 0, .int .i64 0, .int .i64 0] 23))
    have f_m4 := kp hb4 (na w3 #[.int .i64 0, .int .i64 0, .int .i64 0, .int .i64 0] 23)
    have hB4 := bB (bA hB3 (.cells #[.int .i64 0, .int .i64 0, .int .i64 0, .int .i64 0] 23)) hb4
    clear zc_a zc_b zl_a zl_b zs_a zs_b
    obtain ⟨zc_a, zc_b, lc4⟩ := rcell f_c4
    obtain ⟨zs_a, zs_b, ls4⟩ := rcell f_s4
    obtain ⟨zl_a, zl_b, ll4⟩ := rcell f_l4
    obtain ⟨zm_a, zm_b, lm4⟩ := rcell f_m4
    go_wp2_with fail
    refine (c4 _).mono ?_
    rintro e w5 ⟨rfl, hb5⟩
    have f_c5 := kp hb5 (f_c4)
    have f_s5 := kp hb5 (f_s4)
    have f_l5 := kp hb5 (f_l4)
    have f_m5 := kp hb5 (f_m4)
    have hB5 := bB hB4 hb5
    clear zc_a zc_b zl_a zl_b zm_a zm_b zs_a zs_b
    obtain ⟨zc_a, zc_b, lc5⟩ := rcell f_c5
    obtain ⟨zs_a, zs_b, ls5⟩ := rcell f_s5
    obtain ⟨zl_a, zl_b, ll5⟩ := rcell f_l5
    obtain ⟨zm_a, zm_b, lm5⟩ := rcell f_m5
    go_wp2_with fail
    refine (c5 _).mono ?_
    rintro e w6 ⟨rfl, hb6⟩
    have f_c6 := kp hb6 (ka (f_c5) (.cells #[.int .i64 n, .int .i64 d] 33))
    have f_s6 := kp hb6 (ka (f_s5) (.cells #[.int .i64 n, .int .i64 d] 33))
    have f_l6 := kp hb6 (ka (f_l5) (.cells #[.int .i64 n, .int .i64 d] 33))
    have f_m6 := kp hb6 (ka (f_m5) (.cells #[.int .i64 n, .int .i64 d] 33))
    have f_k6 := kp hb6 (na w5 #[.int .i64 n, .int .i64 d] 33)
    have hB6 := bB (bA hB5 (.cells #[.int .i64 n, .int .i64 d] 33)) hb6
    clear zc_a zc_b zl_a zl_b zm_a zm_b zs_a zs_b
    obtain ⟨zc_a, zc_b, lc6⟩ := rcell f_c6
    obtain ⟨zs_a, zs_b, ls6⟩ := rcell f_s6
    obtain ⟨zl_a, zl_b, ll6⟩ := rcell f_l6
    obtain ⟨zm_a, zm_b, lm6⟩ := rcell f_m6
    obtain ⟨zk_a, zk_b, lk6⟩ := rcell f_k6
    go_wp2
    go_ret
    exact ⟨by simp, hB6⟩

set_option maxRecDepth 100000 in
set_option maxHeartbeats 2000000 in
theorem makes_yes_f (a x H L q r N D : Int) (c1 : ∀ w, Calls Try.prog 30 #[.int .i64 a, .agg #[.int .i64 N, .int .i64 D]] w fun e w' => e = .returned (.tuple #[.agg #[.int .i64 0, .int .i64 0, .int .i64 0, .int .i64 0], .int .i64 2]) ∧ Below w.heap.size w w') (c2 : ∀ w, Calls Try.prog 31 #[.agg #[.int .i64 H, .int .u64 L], .agg #[.int .i64 N, .int .i64 D]] w fun e w' => e = .returned (.tuple #[.agg #[.int .i64 q, .int .i64 r, .int .i64 N, .int .i64 D], .int .i64 0]) ∧ Below w.heap.size w w') (c3 : ∀ w, Calls Try.prog 26 #[.agg #[.int .i64 N, .int .i64 D]] w fun e w' => e = .returned (.bool true) ∧ Below w.heap.size w w') (c4 : ∀ w, Calls Try.prog 27 #[.agg #[.int .i64 N, .int .i64 D]] w fun e w' => e = .returned (.agg #[.int .i64 N, .int .i64 D]) ∧ Below w.heap.size w w') (c5 : ∀ w, Calls Try.prog 32 #[.int .i64 a] w fun e w' => e = .returned (.bool false) ∧ Below w.heap.size w w') (c6 : ∀ w, Calls Try.prog 34 #[.agg #[.int .i64 H, .int .u64 L]] w (GivesNum x w)) (c7 : ∀ A c w, Rd w A c (sz x.natAbs) → Calls Try.prog 33 #[.agg #[.bool (decide (x < 0)), .slice A (sz x.natAbs).length c], .agg #[.int .i64 N, .int .i64 D]] w fun e w' => e = .returned (.tuple #[.agg #[.int .i64 q, .int .i64 r, .int .i64 N, .int .i64 D], .bool true]) ∧ Below w.heap.size w w') (w : World) :
    Calls Try.prog 8 #[.int .i64 a, .agg #[.int .i64 H, .int .u64 L], .agg #[.int .i64 N, .int .i64 D]] w fun e w' => e = .returned (.bool true) ∧ Below w.heap.size w w' := by
  generalize hp : decide (x < 0) = p at *
  go_enter Try.func8, Try.ntmps8
  go_wp2_with fail
  refine (wakes5 _).mono ?_
  rintro e w1 ⟨rfl, hb1⟩
  have f_c1 := kp hb1 (ka (na w #[.int .i64 H, .int .u64 L] 46) (.cells #[.int .i64 N, .int .i64 D] 33))
  have f_s1 := kp hb1 (na1 w (.cells #[.int .i64 H, .int .u64 L] 46) #[.int .i64 N, .int .i64 D] 33)
  have hB1 := bB (bA (bA (b0 w) (.cells #[.int .i64 H, .int .u64 L] 46)) (.cells #[.int .i64 N, .int .i64 D] 33)) hb1
  obtain ⟨zc_a, zc_b, lc1⟩ := rcell f_c1
  obtain ⟨zs_a, zs_b, ls1⟩ := rcell f_s1
  go_wp2_with fail
  refine (c1 _).mono ?_
  rintro e w2 ⟨rfl, hb2⟩
  have f_c2 := kp hb2 (f_c1)
  have f_s2 := kp hb2 (f_s1)
  have hB2 := bB hB1 hb2
  clear zc_a zc_b zs_a zs_b
  obtain ⟨zc_a, zc_b, lc2⟩ := rcell f_c2
  obtain ⟨zs_a, zs_b, ls2⟩ := rcell f_s2
  go_wp2_with fail
  refine (c2 _).mono ?_
  rintro e w3 ⟨rfl, hb3⟩
  have f_c3 := kp hb3 (ka (f_c2) (.cells #[.int .i64 0, .int .i64 0, .int .i64 0, .int .i64 0] 23))
  have f_s3 := kp hb3 (ka (f_s2) (.cells #[.int .i64 0, .int .i64 0, .int .i64 0, .int .i64 0] 23))
  have f_l3 := kp hb3 (na w2 #[.int .i64 0, .int .i64 0, .int .i64 0, .int .i64 0] 23)
  have hB3 := bB (bA hB2 (.cells #[.int .i64 0, .int .i64 0, .int .i64 0, .int .i64 0] 23)) hb3
  clear zc_a zc_b zs_a zs_b
  obtain ⟨zc_a, zc_b, lc3⟩ := rcell f_c3
  obtain ⟨zs_a, zs_b, ls3⟩ := rcell f_s3
  obtain ⟨zl_a, zl_b, ll3⟩ := rcell f_l3
  go_wp2_with fail
  refine (c3 _).mono ?_
  rintro e w4 ⟨rfl, hb4⟩
  have f_c4 := kp hb4 (ka (f_c3) (.cells #[.int .i64 q, .int .i64 r, .int .i64 N, .int .i64 D] 23))
  have f_s4 := kp hb4 (ka (f_s3) (.cells #[.int .i64 q, .int .i64 r, .int .i64 N, .int .i64 D] 23))
  have f_l4 := kp hb4 (ka (f_l3) (.cells #[.int .i64 q, .int .i64 r, .int .i64 N, .int .i64 D] 23))
  have f_m4 := kp hb4 (na w3 #[.int .i64 q, .int .i64 r, .int .i64 N, .int .i64 D] 23)
  have hB4 := bB (bA hB3 (.cells #[.int .i64 q, .int .i64 r, .int .i64 N, .int .i64 D] 23)) hb4
  clear zc_a zc_b zl_a zl_b zs_a zs_b
  obtain ⟨zc_a, zc_b, lc4⟩ := rcell f_c4
  obtain ⟨zs_a, zs_b, ls4⟩ := rcell f_s4
  obtain ⟨zl_a, zl_b, ll4⟩ := rcell f_l4
  obtain ⟨zm_a, zm_b, lm4⟩ := rcell f_m4
  go_wp2_with fail
  refine (c4 _).mono ?_
  rintro e w5 ⟨rfl, hb5⟩
  have f_c5 := kp hb5 (f_c4)
  have f_s5 := kp hb5 (f_s4)
  have f_l5 := kp hb5 (f_l4)
  have f_m5 := kp hb5 (f_m4)
  have hB5 := bB hB4 hb5
  clear zc_a zc_b zl_a zl_b zm_a zm_b zs_a zs_b
  obtain ⟨zc_a, zc_b, lc5⟩ := rcell f_c5
  obtain ⟨zs_a, zs_b, ls5⟩ := rcell f_s5
  obtain ⟨zl_a, zl_b, ll5⟩ := rcell f_l5
  obtain ⟨zm_a, zm_b, lm5⟩ := rcell f_m5
  go_wp2_with fail
  refine (c5 _).mono ?_
  rintro e w6 ⟨rfl, hb6⟩
  have f_c6 := kp hb6 (ka (f_c5) (.cells #[.int .i64 N, .int .i64 D] 33))
  have f_s6 := kp hb6 (ka (f_s5) (.cells #[.int .i64 N, .int .i64 D] 33))
  have f_l6 := kp hb6 (ka (f_l5) (.cells #[.int .i64 N, .int .i64 D] 33))
  have f_m6 := kp hb6 (ka (f_m5) (.cells #[.int .i64 N, .int .i64 D] 33))
  have f_k6 := kp hb6 (na w5 #[.int .i64 N, .int .i64 D] 33)
  have hB6 := bB (bA hB5 (.cells #[.int .i64 N, .int .i64 D] 33)) hb6
  clear zc_a zc_b zl_a zl_b zm_a zm_b zs_a zs_b
  obtain ⟨zc_a, zc_b, lc6⟩ := rcell f_c6
  obtain ⟨zs_a, zs_b, ls6⟩ := rcell f_s6
  obtain ⟨zl_a, zl_b, ll6⟩ := rcell f_l6
  obtain ⟨zm_a, zm_b, lm6⟩ := rcell f_m6
  obtain ⟨zk_a, zk_b, lk6⟩ := rcell f_k6
  go_wp2_with fail
  refine Abs.wp_region_abs (Abs.cls0 _) [0, 1, 2, 3, 4, 5, 6, 7, 8, 9] (by kernel_rfl) (by kernel_rfl) (Below.refl _ _).drew ?_
  repeat (first | (refine Abs.step_pure rfl rfl (fun K hK => ?_); go_simp; (try go_bits); (first | refine hK _ _ ?_ | (simp only [↓IntWalk.iteOmega]; go_simp; (try go_bits); refine hK _ _ ?_)); clear hK K) | (refine Abs.step_load (v := ?_) rfl rfl (by kernel_rfl) rfl (fun w0 hI => ?_) (fun K hK => ?_); rotate_left; (· have z0 := (rcell (kp hI (f_c6))).1; have z1 := (rcell (kp hI (f_s6))).1; go_simp; rfl); (simp only [Act.put, List.setIfInBounds_toArray, List.set_cons_zero, List.set_cons_succ]; refine hK _ _ ?_; clear hK K)) | (refine Abs.step_skip rfl rfl (fun K hK => ?_); (simp only [Act.put, List.setIfInBounds_toArray, List.set_cons_zero, List.set_cons_succ]; refine hK _ _ ?_; clear hK K)))
  (refine Abs.step_call (f := ?_) (args := ?_) rfl rfl rfl rfl (NumIs (x)) (fun _ => Cl_NumIs _) (fun w0 => ?_) (fun w0 hI hF => ?_) (fun K hK v w0 hv => ?_); rotate_left 2; (· go_simp; (constructor <;> rfl)); (· exact (c6 _).mono (fun _ _ h => h.num)); (obtain ⟨A1, e1, rfl, -⟩ := hv; clear w0; simp only [Act.put, List.setIfInBounds_toArray, List.set_cons_zero, List.set_cons_succ]; refine hK _ _ ?_; clear hK K))
  repeat (first | (refine Abs.step_pure rfl rfl (fun K hK => ?_); go_simp; (try go_bits); (first | refine hK _ _ ?_ | (simp only [↓IntWalk.iteOmega]; go_simp; (try go_bits); refine hK _ _ ?_)); clear hK K) | (refine Abs.step_load (v := ?_) rfl rfl (by kernel_rfl) rfl (fun w0 hI => ?_) (fun K hK => ?_); rotate_left; (· have z0 := (rcell (kp hI (f_c6))).1; have z1 := (rcell (kp hI (f_s6))).1; go_simp; rfl); (simp only [Act.put, List.setIfInBounds_toArray, List.set_cons_zero, List.set_cons_succ]; refine hK _ _ ?_; clear hK K)) | (refine Abs.step_skip rfl rfl (fun K hK => ?_); (simp only [Act.put, List.setIfInBounds_toArray, List.set_cons_zero, List.set_cons_succ]; refine hK _ _ ?_; clear hK K)))
  (refine Abs.step_call (f := ?_) (args := ?_) rfl rfl rfl rfl (fun v _ => v = .tuple #[.agg #[.int .i64 q, .int .i64 r, .int .i64 N, .int .i64 D], .bool true]) (fun _ _ _ h _ => h) (fun w0 => ?_) (fun w0 hI hF => ?_) (fun K hK v w0 hv => ?_); rotate_left 2; (· go_simp; (constructor <;> rfl)); (· exact (c7 _ _ _ ((hF 1 (by kernel_rfl)).2 rfl).rd).mono (fun _ _ h => ⟨_, h.1, h.2, rfl⟩)); (replace hv : v = .tuple #[.agg #[.int .i64 q, .int .i64 r, .int .i64 N, .int .i64 D], .bool true] := hv; subst hv; clear w0; simp only [Act.put, List.setIfInBounds_toArray, List.set_cons_zero, List.set_cons_succ]; refine hK _ _ ?_; clear hK K))
  repeat (first | (refine Abs.step_pure rfl rfl (fun K hK => ?_); go_simp; (try go_bits); (first | refine hK _ _ ?_ | (simp only [↓IntWalk.iteOmega]; go_simp; (try go_bits); refine hK _ _ ?_)); clear hK K) | (refine Abs.step_load (v := ?_) rfl rfl (by kernel_rfl) rfl (fun w0 hI => ?_) (fun K hK => ?_); rotate_left; (· have z0 := (rcell (kp hI (f_c6))).1; have z1 := (rcell (kp hI (f_s6))).1; go_simp; rfl); (simp only [Act.put, List.setIfInBounds_toArray, List.set_cons_zero, List.set_cons_succ]; refine hK _ _ ?_; clear hK K)) | (refine Abs.step_skip rfl rfl (fun K hK => ?_); (simp only [Act.put, List.setIfInBounds_toArray, List.set_cons_zero, List.set_cons_succ]; refine hK _ _ ?_; clear hK K)))
  (refine Abs.step_var (obj := ?_) rfl rfl rfl rfl (fun w0 => ?_) (fun K hK g_v hv_v hu_v => ?_); rotate_left; (· go_simp; rfl); (simp only [Act.put, List.setIfInBounds_toArray, List.set_cons_zero, List.set_cons_succ]; refine hK _ _ ?_; clear hK K))
  (refine Abs.step_store (T := ?_) rfl rfl rfl (fun w0 hI hF hU => ?_) (fun _ _ _ _ => trivial) (fun K hK => ?_); rotate_left; (· have hR := (hF 7).2 rfl; have hg0 := (rcell hR).1; have hg1 := (rcell hR).2.1; simp only [Abs.T_setF, Abs.T_addA, Abs.T_push, Abs.T_start]; go_simp; exact row4 hR _ _ _ _); (simp only [Act.put, List.setIfInBounds_toArray, List.set_cons_zero, List.set_cons_succ]; refine hK _ _ ?_; clear hK K))
  repeat (first | (refine Abs.step_pure rfl rfl (fun K hK => ?_); go_simp; (try go_bits); (first | refine hK _ _ ?_ | (simp only [↓IntWalk.iteOmega]; go_simp; (try go_bits); refine hK _ _ ?_)); clear hK K) | (refine Abs.step_load (v := ?_) rfl rfl (by kernel_rfl) rfl (fun w0 hI => ?_) (fun K hK => ?_); rotate_left; (· have z0 := (rcell (kp hI (f_c6))).1; have z1 := (rcell (kp hI (f_s6))).1; go_simp; rfl); (simp only [Act.put, List.setIfInBounds_toArray, List.set_cons_zero, List.set_cons_succ]; refine hK _ _ ?_; clear hK K)) | (refine Abs.step_skip rfl rfl (fun K hK => ?_); (simp only [Act.put, List.setIfInBounds_toArray, List.set_cons_zero, List.set_cons_succ]; refine hK _ _ ?_; clear hK K)))
  have hs_v := leB hv_v
  try simp only [World.size_alloc] at hs_v
  intro w0 hI hF hx1 hx2
  clear hx1 hx2
  have q1 := (hF 7).2 rfl
  clear hF
  simp only [Abs.T_push]
  generalize hT8 : setRow w0 _ _ = w8
  obtain ⟨hb8, f_v8⟩ := fin1 hI hv_v q1 hT8
  clear hT8 hI q1 w0
  have f_c8 := kp hb8 (f_c6)
  have f_s8 := kp hb8 (f_s6)
  have f_l8 := kp hb8 (f_l6)
  have f_m8 := kp hb8 (f_m6)
  have f_k8 := kp hb8 (f_k6)
  have hB8 := bB hB6 hb8
  clear zc_a zc_b zk_a zk_b zl_a zl_b zm_a zm_b zs_a zs_b
  obtain ⟨zc_a, zc_b, lc8⟩ := rcell f_c8
  obtain ⟨zs_a, zs_b, ls8⟩ := rcell f_s8
  obtain ⟨zl_a, zl_b, ll8⟩ := rcell f_l8
  obtain ⟨zm_a, zm_b, lm8⟩ := rcell f_m8
  obtain ⟨zk_a, zk_b, lk8⟩ := rcell f_k8
  obtain ⟨zv_a, zv_b, lv8⟩ := rcell f_v8
  go_wp2
  go_ret
  exact ⟨by simp, hB8⟩

set_option maxRecDepth 100000 in
set_option maxHeartbeats 2000000 in
theorem makes_no_f (a x H L q r N D : Int) (c1 : ∀ w, Calls Try.prog 30 #[.int .i64 a, .agg #[.int .i64 N, .int .i64 D]] w fun e w' => e = .returned (.tuple #[.agg #[.int .i64 0, .int .i64 0, .int .i64 0, .int .i64 0], .int .i64 2]) ∧ Below w.heap.size w w') (c2 : ∀ w, Calls Try.prog 31 #[.agg #[.int .i64 H, .int .u64 L], .agg #[.int .i64 N, .int .i64 D]] w fun e w' => e = .returned (.tuple #[.agg #[.int .i64 0, .int .i64 0, .int .i64 0, .int .i64 0], .int .i64 5]) ∧ Below w.heap.size w w') (c3 : ∀ w, Calls Try.prog 26 #[.agg #[.int .i64 N, .int .i64 D]] w fun e w' => e = .returned (.bool true) ∧ Below w.heap.size w w') (c4 : ∀ w, Calls Try.prog 27 #[.agg #[.int .i64 N, .int .i64 D]] w fun e w' => e = .returned (.agg #[.int .i64 N, .int .i64 D]) ∧ Below w.heap.size w w') (c5 : ∀ w, Calls Try.prog 32 #[.int .i64 a] w fun e w' => e = .returned (.bool false) ∧ Below w.heap.size w w') (c6 : ∀ w, Calls Try.prog 34 #[.agg #[.int .i64 H, .int .u64 L]] w (GivesNum x w)) (c7 : ∀ A c w, Rd w A c (sz x.natAbs) → Calls Try.prog 33 #[.agg #[.bool (decide (x < 0)), .slice A (sz x.natAbs).length c], .agg #[.int .i64 N, .int .i64 D]] w fun e w' => e = .returned (.tuple #[.agg #[.int .i64 0, .int .i64 0, .int .i64 0, .int .i64 0], .bool false]) ∧ Below w.heap.size w w') (w : World) :
    Calls Try.prog 8 #[.int .i64 a, .agg #[.int .i64 H, .int .u64 L], .agg #[.int .i64 N, .int .i64 D]] w fun e w' => e = .returned (.bool true) ∧ Below w.heap.size w w' := by
  generalize hp : decide (x < 0) = p at *
  go_enter Try.func8, Try.ntmps8
  go_wp2_with fail
  refine (wakes5 _).mono ?_
  rintro e w1 ⟨rfl, hb1⟩
  have f_c1 := kp hb1 (ka (na w #[.int .i64 H, .int .u64 L] 46) (.cells #[.int .i64 N, .int .i64 D] 33))
  have f_s1 := kp hb1 (na1 w (.cells #[.int .i64 H, .int .u64 L] 46) #[.int .i64 N, .int .i64 D] 33)
  have hB1 := bB (bA (bA (b0 w) (.cells #[.int .i64 H, .int .u64 L] 46)) (.cells #[.int .i64 N, .int .i64 D] 33)) hb1
  obtain ⟨zc_a, zc_b, lc1⟩ := rcell f_c1
  obtain ⟨zs_a, zs_b, ls1⟩ := rcell f_s1
  go_wp2_with fail
  refine (c1 _).mono ?_
  rintro e w2 ⟨rfl, hb2⟩
  have f_c2 := kp hb2 (f_c1)
  have f_s2 := kp hb2 (f_s1)
  have hB2 := bB hB1 hb2
  clear zc_a zc_b zs_a zs_b
  obtain ⟨zc_a, zc_b, lc2⟩ := rcell f_c2
  obtain ⟨zs_a, zs_b, ls2⟩ := rcell f_s2
  go_wp2_with fail
  refine (c2 _).mono ?_
  rintro e w3 ⟨rfl, hb3⟩
  have f_c3 := kp hb3 (ka (f_c2) (.cells #[.int .i64 0, .int .i64 0, .int .i64 0, .int .i64 0] 23))
  have f_s3 := kp hb3 (ka (f_s2) (.cells #[.int .i64 0, .int .i64 0, .int .i64 0, .int .i64 0] 23))
  have f_l3 := kp hb3 (na w2 #[.int .i64 0, .int .i64 0, .int .i64 0, .int .i64 0] 23)
  have hB3 := bB (bA hB2 (.cells #[.int .i64 0, .int .i64 0, .int .i64 0, .int .i64 0] 23)) hb3
  clear zc_a zc_b zs_a zs_b
  obtain ⟨zc_a, zc_b, lc3⟩ := rcell f_c3
  obtain ⟨zs_a, zs_b, ls3⟩ := rcell f_s3
  obtain ⟨zl_a, zl_b, ll3⟩ := rcell f_l3
  go_wp2_with fail
  refine (c3 _).mono ?_
  rintro e w4 ⟨rfl, hb4⟩
  have f_c4 := kp hb4 (ka (f_c3) (.cells #[.int .i64 0, .int .i64 0, .int .i64 0, .int .i64 0] 23))
  have f_s4 := kp hb4 (ka (f_s3) (.cells #[.int .i64 0, .int .i64 0, .int .i64 0, .int .i64 0] 23))
  have f_l4 := kp hb4 (ka (f_l3) (.cells #[.int .i64 0, .int .i64 0, .int .i64 0, .int .i64 0] 23))
  have f_m4 := kp hb4 (na w3 #[.int .i64 0, .int .i64 0, .int .i64 0, .int .i64 0] 23)
  have hB4 := bB (bA hB3 (.cells #[.int .i64 0, .int .i64 0, .int .i64 0, .int .i64 0] 23)) hb4
  clear zc_a zc_b zl_a zl_b zs_a zs_b
  obtain ⟨zc_a, zc_b, lc4⟩ := rcell f_c4
  obtain ⟨zs_a, zs_b, ls4⟩ := rcell f_s4
  obtain ⟨zl_a, zl_b, ll4⟩ := rcell f_l4
  obtain ⟨zm_a, zm_b, lm4⟩ := rcell f_m4
  go_wp2_with fail
  refine (c4 _).mono ?_
  rintro e w5 ⟨rfl, hb5⟩
  have f_c5 := kp hb5 (f_c4)
  have f_s5 := kp hb5 (f_s4)
  have f_l5 := kp hb5 (f_l4)
  have f_m5 := kp hb5 (f_m4)
  have hB5 := bB hB4 hb5
  clear zc_a zc_b zl_a zl_b zm_a zm_b zs_a zs_b
  obtain ⟨zc_a, zc_b, lc5⟩ := rcell f_c5
  obtain ⟨zs_a, zs_b, ls5⟩ := rcell f_s5
  obtain ⟨zl_a, zl_b, ll5⟩ := rcell f_l5
  obtain ⟨zm_a, zm_b, lm5⟩ := rcell f_m5
  go_wp2_with fail
  refine (c5 _).mono ?_
  rintro e w6 ⟨rfl, hb6⟩
  have f_c6 := kp hb6 (ka (f_c5) (.cells #[.int .i64 N, .int .i64 D] 33))
  have f_s6 := kp hb6 (ka (f_s5) (.cells #[.int .i64 N, .int .i64 D] 33))
  have f_l6 := kp hb6 (ka (f_l5) (.cells #[.int .i64 N, .int .i64 D] 33))
  have f_m6 := kp hb6 (ka (f_m5) (.cells #[.int .i64 N, .int .i64 D] 33))
  have f_k6 := kp hb6 (na w5 #[.int .i64 N, .int .i64 D] 33)
  have hB6 := bB (bA hB5 (.cells #[.int .i64 N, .int .i64 D] 33)) hb6
  clear zc_a zc_b zl_a zl_b zm_a zm_b zs_a zs_b
  obtain ⟨zc_a, zc_b, lc6⟩ := rcell f_c6
  obtain ⟨zs_a, zs_b, ls6⟩ := rcell f_s6
  obtain ⟨zl_a, zl_b, ll6⟩ := rcell f_l6
  obtain ⟨zm_a, zm_b, lm6⟩ := rcell f_m6
  obtain ⟨zk_a, zk_b, lk6⟩ := rcell f_k6
  go_wp2_with fail
  refine Abs.wp_region_abs (Abs.cls0 _) [0, 1, 2, 3, 4, 5, 6, 7, 8, 9] (by kernel_rfl) (by kernel_rfl) (Below.refl _ _).drew ?_
  repeat (first | (refine Abs.step_pure rfl rfl (fun K hK => ?_); go_simp; (try go_bits); (first | refine hK _ _ ?_ | (simp only [↓IntWalk.iteOmega]; go_simp; (try go_bits); refine hK _ _ ?_)); clear hK K) | (refine Abs.step_load (v := ?_) rfl rfl (by kernel_rfl) rfl (fun w0 hI => ?_) (fun K hK => ?_); rotate_left; (· have z0 := (rcell (kp hI (f_c6))).1; have z1 := (rcell (kp hI (f_s6))).1; go_simp; rfl); (simp only [Act.put, List.setIfInBounds_toArray, List.set_cons_zero, List.set_cons_succ]; refine hK _ _ ?_; clear hK K)) | (refine Abs.step_skip rfl rfl (fun K hK => ?_); (simp only [Act.put, List.setIfInBounds_toArray, List.set_cons_zero, List.set_cons_succ]; refine hK _ _ ?_; clear hK K)))
  (refine Abs.step_call (f := ?_) (args := ?_) rfl rfl rfl rfl (NumIs (x)) (fun _ => Cl_NumIs _) (fun w0 => ?_) (fun w0 hI hF => ?_) (fun K hK v w0 hv => ?_); rotate_left 2; (· go_simp; (constructor <;> rfl)); (· exact (c6 _).mono (fun _ _ h => h.num)); (obtain ⟨A1, e1, rfl, -⟩ := hv; clear w0; simp only [Act.put, List.setIfInBounds_toArray, List.set_cons_zero, List.set_cons_succ]; refine hK _ _ ?_; clear hK K))
  repeat (first | (refine Abs.step_pure rfl rfl (fun K hK => ?_); go_simp; (try go_bits); (first | refine hK _ _ ?_ | (simp only [↓IntWalk.iteOmega]; go_simp; (try go_bits); refine hK _ _ ?_)); clear hK K) | (refine Abs.step_load (v := ?_) rfl rfl (by kernel_rfl) rfl (fun w0 hI => ?_) (fun K hK => ?_); rotate_left; (· have z0 := (rcell (kp hI (f_c6))).1; have z1 := (rcell (kp hI (f_s6))).1; go_simp; rfl); (simp only [Act.put, List.setIfInBounds_toArray, List.set_cons_zero, List.set_cons_succ]; refine hK _ _ ?_; clear hK K)) | (refine Abs.step_skip rfl rfl (fun K hK => ?_); (simp only [Act.put, List.setIfInBounds_toArray, List.set_cons_zero, List.set_cons_succ]; refine hK _ _ ?_; clear hK K)))
  (refine Abs.step_call (f := ?_) (args := ?_) rfl rfl rfl rfl (fun v _ => v = .tuple #[.agg #[.int .i64 0, .int .i64 0, .int .i64 0, .int .i64 0], .bool false]) (fun _ _ _ h _ => h) (fun w0 => ?_) (fun w0 hI hF => ?_) (fun K hK v w0 hv => ?_); rotate_left 2; (· go_simp; (constructor <;> rfl)); (· exact (c7 _ _ _ ((hF 1 (by kernel_rfl)).2 rfl).rd).mono (fun _ _ h => ⟨_, h.1, h.2, rfl⟩)); (replace hv : v = .tuple #[.agg #[.int .i64 0, .int .i64 0, .int .i64 0, .int .i64 0], .bool false] := hv; subst hv; clear w0; simp only [Act.put, List.setIfInBounds_toArray, List.set_cons_zero, List.set_cons_succ]; refine hK _ _ ?_; clear hK K))
  repeat (first | (refine Abs.step_pure rfl rfl (fun K hK => ?_); go_simp; (try go_bits); (first | refine hK _ _ ?_ | (simp only [↓IntWalk.iteOmega]; go_simp; (try go_bits); refine hK _ _ ?_)); clear hK K) | (refine Abs.step_load (v := ?_) rfl rfl (by kernel_rfl) rfl (fun w0 hI => ?_) (fun K hK => ?_); rotate_left; (· have z0 := (rcell (kp hI (f_c6))).1; have z1 := (rcell (kp hI (f_s6))).1; go_simp; rfl); (simp only [Act.put, List.setIfInBounds_toArray, List.set_cons_zero, List.set_cons_succ]; refine hK _ _ ?_; clear hK K)) | (refine Abs.step_skip rfl rfl (fun K hK => ?_); (simp only [Act.put, List.setIfInBounds_toArray, List.set_cons_zero, List.set_cons_succ]; refine hK _ _ ?_; clear hK K)))
  (refine Abs.step_var (obj := ?_) rfl rfl rfl rfl (fun w0 => ?_) (fun K hK g_v hv_v hu_v => ?_); rotate_left; (· go_simp; rfl); (simp only [Act.put, List.setIfInBounds_toArray, List.set_cons_zero, List.set_cons_succ]; refine hK _ _ ?_; clear hK K))
  (refine Abs.step_store (T := ?_) rfl rfl rfl (fun w0 hI hF hU => ?_) (fun _ _ _ _ => trivial) (fun K hK => ?_); rotate_left; (· have hR := (hF 7).2 rfl; have hg0 := (rcell hR).1; have hg1 := (rcell hR).2.1; simp only [Abs.T_setF, Abs.T_addA, Abs.T_push, Abs.T_start]; go_simp; exact row4 hR _ _ _ _); (simp only [Act.put, List.setIfInBounds_toArray, List.set_cons_zero, List.set_cons_succ]; refine hK _ _ ?_; clear hK K))
  repeat (first | (refine Abs.step_pure rfl rfl (fun K hK => ?_); go_simp; (try go_bits); (first | refine hK _ _ ?_ | (simp only [↓IntWalk.iteOmega]; go_simp; (try go_bits); refine hK _ _ ?_)); clear hK K) | (refine Abs.step_load (v := ?_) rfl rfl (by kernel_rfl) rfl (fun w0 hI => ?_) (fun K hK => ?_); rotate_left; (· have z0 := (rcell (kp hI (f_c6))).1; have z1 := (rcell (kp hI (f_s6))).1; go_simp; rfl); (simp only [Act.put, List.setIfInBounds_toArray, List.set_cons_zero, List.set_cons_succ]; refine hK _ _ ?_; clear hK K)) | (refine Abs.step_skip rfl rfl (fun K hK => ?_); (simp only [Act.put, List.setIfInBounds_toArray, List.set_cons_zero, List.set_cons_succ]; refine hK _ _ ?_; clear hK K)))
  have hs_v := leB hv_v
  try simp only [World.size_alloc] at hs_v
  intro w0 hI hF hx1 hx2
  clear hx1 hx2
  have q1 := (hF 7).2 rfl
  clear hF
  simp only [Abs.T_push]
  generalize hT8 : setRow w0 _ _ = w8
  obtain ⟨hb8, f_v8⟩ := fin1 hI hv_v q1 hT8
  clear hT8 hI q1 w0
  have f_c8 := kp hb8 (f_c6)
  have f_s8 := kp hb8 (f_s6)
  have f_l8 := kp hb8 (f_l6)
  have f_m8 := kp hb8 (f_m6)
  have f_k8 := kp hb8 (f_k6)
  have hB8 := bB hB6 hb8
  clear zc_a zc_b zk_a zk_b zl_a zl_b zm_a zm_b zs_a zs_b
  obtain ⟨zc_a, zc_b, lc8⟩ := rcell f_c8
  obtain ⟨zs_a, zs_b, ls8⟩ := rcell f_s8
  obtain ⟨zl_a, zl_b, ll8⟩ := rcell f_l8
  obtain ⟨zm_a, zm_b, lm8⟩ := rcell f_m8
  obtain ⟨zk_a, zk_b, lk8⟩ := rcell f_k8
  obtain ⟨zv_a, zv_b, lv8⟩ := rcell f_v8
  go_wp2
  go_ret
  exact ⟨by simp, hB8⟩

theorem line_makes (a x N D : Int) (hx : Rng x) (w : World) :
    Calls Try.prog 8 #[.int .i64 a, .agg #[.int .i64 (hi x), .int .u64 (lo x)], .agg #[.int .i64 N, .int .i64 D]] w fun e w' => e = .returned (.bool true) ∧ Below w.heap.size w w' := by
  cases h : slB N D
  · exact makes_0 a x N D h w
  · obtain ⟨d1, d2, d3, d4⟩ := slB_spec h
    have c3 := ref_Slope N D
    have c4 := ref_Lowest N D d1 (by omega) (by omega) (by omega)
    have c5 := ref_Back a
    have c6 := ref_Of x hx
    have lx : (sz x.natAbs).length ≤ 800 := Nat.le_trans (sz_len_lt (k := 128) (by obtain ⟨x1, x2⟩ := hx; omega)) (by decide)
    rw [h] at c3
    by_cases hl : lwN N D = N ∧ lwD N D = D
    · have cR : (∃ q r, (∀ w, Calls Try.prog 31 #[.agg #[.int .i64 (hi x), .int .u64 (lo x)], .agg #[.int .i64 N, .int .i64 D]] w fun e w' => e = .returned (.tuple #[.agg #[.int .i64 q, .int .i64 r, .int .i64 N, .int .i64 D], .int .i64 0]) ∧ Below w.heap.size w w') ∧ (∀ A c w, Rd w A c (sz x.natAbs) → Calls Try.prog 33 #[.agg #[.bool (decide (x < 0)), .slice A (sz x.natAbs).length c], .agg #[.int .i64 N, .int .i64 D]] w fun e w' => e = .returned (.tuple #[.agg #[.int .i64 q, .int .i64 r, .int .i64 N, .int .i64 D], .bool true]) ∧ Below w.heap.size w w')) ∨
          ((∀ w, Calls Try.prog 31 #[.agg #[.int .i64 (hi x), .int .u64 (lo x)], .agg #[.int .i64 N, .int .i64 D]] w fun e w' => e = .returned (.tuple #[.agg #[.int .i64 0, .int .i64 0, .int .i64 0, .int .i64 0], .int .i64 5]) ∧ Below w.heap.size w w') ∧ (∀ A c w, Rd w A c (sz x.natAbs) → Calls Try.prog 33 #[.agg #[.bool (decide (x < 0)), .slice A (sz x.natAbs).length c], .agg #[.int .i64 N, .int .i64 D]] w fun e w' => e = .returned (.tuple #[.agg #[.int .i64 0, .int .i64 0, .int .i64 0, .int .i64 0], .bool false]) ∧ Below w.heap.size w w')) := by
        by_cases h1 : -9223372036854775808 ≤ x / D ∧ x / D < 9223372036854775808
        · cases h2 : bkB (x / D)
          · exact .inr ⟨line_Raised_far x N D hx h hl h1 h2, fun A c w ha => ref_Raised_far x N D A c h lx h1 h2 w ha⟩
          · exact .inl ⟨_, _, line_Raised_yes x N D hx h hl h2, fun A c w ha => ref_Raised_yes x N D A c h lx h2 w ha⟩
        · exact .inr ⟨line_Raised_big x N D hx h hl h1, fun A c w ha => ref_Raised_big x N D A c h lx h1 w ha⟩
      rw [hl.1, hl.2] at c4
      cases hb : bkB a
      · have c1 := line_Of_back a N D h hb
        rw [hb] at c5
        rcases cR with ⟨q, r, c2, c7⟩ | ⟨c2, c7⟩
        · exact makes_yes_f a x (hi x) (lo x) q r N D c1 c2 c3 c4 c5 c6 c7 w
        · exact makes_no_f a x (hi x) (lo x) 0 0 N D c1 c2 c3 c4 c5 c6 c7 w
      · have c1 := line_Of_yes a N D hb h
        rw [hl.1, hl.2] at c1
        rw [hb] at c5
        rcases cR with ⟨q, r, c2, c7⟩ | ⟨c2, c7⟩
        · exact makes_yes_t a x (hi x) (lo x) q r N D c1 c2 c3 c4 c5 c6 c7 w
        · exact makes_no_t a x (hi x) (lo x) 0 0 N D c1 c2 c3 c4 c5 c6 c7 w
    · have c2 := line_Raised_low x N D h hl
      cases hb : bkB a
      · rw [hb] at c5
        exact makes_low_f a (hi x) (lo x) N D _ _ hl (line_Of_back a N D h hb) c2 c3 c4 c5 w
      · rw [hb] at c5
        exact makes_low_t a (hi x) (lo x) N D _ _ hl (line_Of_yes a N D hb h) c2 c3 c4 c5 w

theorem line_makes2 (a H L N D : Int) (wH : (Lit.int .i64 H).wf = true) (wL : (Lit.int .u64 L).wf = true) (w : World) :
    Calls Try.prog 8 #[.int .i64 a, .agg #[.int .i64 H, .int .u64 L], .agg #[.int .i64 N, .int .i64 D]] w fun e w' => e = .returned (.bool true) ∧ Below w.heap.size w w' := by
  obtain ⟨x, hx, rfl, rfl⟩ := wide_any H L (wf_i64 wH).1 (wf_i64 wH).2 (wf_u64 wL).1 (wf_u64 wL).2
  exact line_makes a x N D hx w
end Go.Proofs.Ytlgjapjcdpikeaa
