/- The package wide at this program, on: Scale where the product fits. -/
import Derived.Test.YtlgjapjcdpikeaaWakes5
set_option linter.unusedSimpArgs false
set_option linter.unusedVariables false
namespace Go.Proofs.Ytlgjapjcdpikeaa
open Go.RowKit

set_option maxRecDepth 100000 in
set_option maxHeartbeats 1000000 in
theorem scale_1 (ah al n sH sL tH T CA LO MI M2 rh rl : Int) (h1 : (ah < 0) = True) (h2 : (n < 0) = True)
    (c1 : ∀ w, Calls Try.prog 94 #[.agg #[.int .i64 ah, .int .u64 al]] w fun e w' => e = .returned (.tuple #[.int .u64 sH, .int .u64 sL]) ∧ Below w.heap.size w w')
    (c2 : ∀ w, Calls Try.prog 56 #[.int .i64 n] w fun e w' => e = .returned (.agg #[.int .i64 (hi n), .int .u64 (lo n)]) ∧ Below w.heap.size w w')
    (c3 : ∀ w, Calls Try.prog 94 #[.agg #[.int .i64 (hi n), .int .u64 (lo n)]] w fun e w' => e = .returned (.tuple #[.int .u64 tH, .int .u64 T]) ∧ Below w.heap.size w w')
    (c4 : ∀ w, Calls Try.prog 92 #[.int .u64 sL, .int .u64 T] w fun e w' => e = .returned (.tuple #[.int .u64 CA, .int .u64 LO]) ∧ w = w')
    (c5 : ∀ w, Calls Try.prog 92 #[.int .u64 sH, .int .u64 T] w fun e w' => e = .returned (.tuple #[.int .u64 0, .int .u64 MI]) ∧ w = w')
    (d : ∀ w, (callFunc 109 #[.int .u64 MI, .int .u64 CA, .int .u64 0]).run Try.prog w = .ok (.value (.tuple #[.int .u64 M2, .int .u64 0])) w)
    (c6 : ∀ w, Calls Try.prog 96 #[.bool false, .int .u64 M2, .int .u64 LO] w fun e w' => e = .returned (.tuple #[.agg #[.int .i64 rh, .int .u64 rl], .bool true]) ∧ Below w.heap.size w w')
    (w : World) :
    Calls Try.prog 89 #[.agg #[.int .i64 ah, .int .u64 al], .int .i64 n] w fun e w' => e = .returned (.tuple #[.agg #[.int .i64 rh, .int .u64 rl], .int .i64 0]) ∧ Below w.heap.size w w' := by
  go_enter Try.func89, Try.ntmps89
  go_wp2_with fail
  refine (c1 _).mono ?_
  rintro e w1 ⟨rfl, hb1⟩
  have a1 := kp hb1 (ka (na w #[.int .i64 ah, .int .u64 al] 46) (.cells #[.int .i64 0, .int .u64 0] 46))
  have r1 := kp hb1 (na1 w (.cells #[.int .i64 ah, .int .u64 al] 46) #[.int .i64 0, .int .u64 0] 46)
  go_wp2_with fail
  refine (c2 _).mono ?_
  rintro e w2 ⟨rfl, hb2⟩
  go_wp2_with fail
  refine (c3 _).mono ?_
  rintro e w3 ⟨rfl, hb3⟩
  have a3 := kp hb3 (kp hb2 a1)
  have r3 := kp hb3 (kp hb2 r1)
  have hB3 := bB (bB (bB (bA (bA (b0 w) (.cells #[.int .i64 ah, .int .u64 al] 46)) (.cells #[.int .i64 0, .int .u64 0] 46)) hb1) hb2) hb3
  obtain ⟨z1, z2, z3⟩ := rcell a3
  go_wp2_with fail
  refine (c4 _).mono ?_
  rintro e w4 ⟨rfl, rfl⟩
  go_wp2_with fail
  refine (c5 _).mono ?_
  rintro e w4 ⟨rfl, rfl⟩
  go_wp2_with fail
  refine (c6 _).mono ?_
  rintro e w6 ⟨rfl, hb6⟩
  have r6 := kp hb6 r3
  have hB6 := bB hB3 hb6
  have n6 := na w6 #[.int .i64 rh, .int .u64 rl] 46
  obtain ⟨y1, y2, y3⟩ := rcell n6
  go_wp2_with fail
  refine (wide_told _ _ _).mono ?_
  rintro e w7 ⟨rfl, hb7⟩
  have r7 := kp hb7 (ka r6 (.cells #[.int .i64 rh, .int .u64 rl] 46))
  have hB7 := bB (bA hB6 (.cells #[.int .i64 rh, .int .u64 rl] 46)) hb7
  obtain ⟨x1, x2, x3⟩ := rcell r7
  go_wp2_with fail
  (rw [row2 r7]; generalize hT : setRow _ _ _ = wE; obtain ⟨hbE, hgE⟩ := ret_row hB7 (by omega) r7 hT; have zE := (rcell hgE).1; clear hT; refine bodyPost_ret (by simp [results, Try.results89, go_sem, zE]; try rfl) rfl ?_)
  exact ⟨rfl, hbE⟩

set_option maxRecDepth 100000 in
set_option maxHeartbeats 1000000 in
theorem scale_2 (ah al n sH sL tH T CA LO MI M2 rh rl : Int) (h1 : (ah < 0) = True) (h2 : (n < 0) = False)
    (c1 : ∀ w, Calls Try.prog 94 #[.agg #[.int .i64 ah, .int .u64 al]] w fun e w' => e = .returned (.tuple #[.int .u64 sH, .int .u64 sL]) ∧ Below w.heap.size w w')
    (c2 : ∀ w, Calls Try.prog 56 #[.int .i64 n] w fun e w' => e = .returned (.agg #[.int .i64 (hi n), .int .u64 (lo n)]) ∧ Below w.heap.size w w')
    (c3 : ∀ w, Calls Try.prog 94 #[.agg #[.int .i64 (hi n), .int .u64 (lo n)]] w fun e w' => e = .returned (.tuple #[.int .u64 tH, .int .u64 T]) ∧ Below w.heap.size w w')
    (c4 : ∀ w, Calls Try.prog 92 #[.int .u64 sL, .int .u64 T] w fun e w' => e = .returned (.tuple #[.int .u64 CA, .int .u64 LO]) ∧ w = w')
    (c5 : ∀ w, Calls Try.prog 92 #[.int .u64 sH, .int .u64 T] w fun e w' => e = .returned (.tuple #[.int .u64 0, .int .u64 MI]) ∧ w = w')
    (d : ∀ w, (callFunc 109 #[.int .u64 MI, .int .u64 CA, .int .u64 0]).run Try.prog w = .ok (.value (.tuple #[.int .u64 M2, .int .u64 0])) w)
    (c6 : ∀ w, Calls Try.prog 96 #[.bool true, .int .u64 M2, .int .u64 LO] w fun e w' => e = .returned (.tuple #[.agg #[.int .i64 rh, .int .u64 rl], .bool true]) ∧ Below w.heap.size w w')
    (w : World) :
    Calls Try.prog 89 #[.agg #[.int .i64 ah, .int .u64 al], .int .i64 n] w fun e w' => e = .returned (.tuple #[.agg #[.int .i64 rh, .int .u64 rl], .int .i64 0]) ∧ Below w.heap.size w w' := by
  go_enter Try.func89, Try.ntmps89
  go_wp2_with fail
  refine (c1 _).mono ?_
  rintro e w1 ⟨rfl, hb1⟩
  have a1 := kp hb1 (ka (na w #[.int .i64 ah, .int .u64 al] 46) (.cells #[.int .i64 0, .int .u64 0] 46))
  have r1 := kp hb1 (na1 w (.cells #[.int .i64 ah, .int .u64 al] 46) #[.int .i64 0, .int .u64 0] 46)
  go_wp2_with fail
  refine (c2 _).mono ?_
  rintro e w2 ⟨rfl, hb2⟩
  go_wp2_with fail
  refine (c3 _).mono ?_
  rintro e w3 ⟨rfl, hb3⟩
  have a3 := kp hb3 (kp hb2 a1)
  have r3 := kp hb3 (kp hb2 r1)
  have hB3 := bB (bB (bB (bA (bA (b0 w) (.cells #[.int .i64 ah, .int .u64 al] 46)) (.cells #[.int .i64 0, .int .u64 0] 46)) hb1) hb2) hb3
  obtain ⟨z1, z2, z3⟩ := rcell a3
  go_wp2_with fail
  refine (c4 _).mono ?_
  rintro e w4 ⟨rfl, rfl⟩
  go_wp2_with fail
  refine (c5 _).mono ?_
  rintro e w4 ⟨rfl, rfl⟩
  go_wp2_with fail
  refine (c6 _).mono ?_
  rintro e w6 ⟨rfl, hb6⟩
  have r6 := kp hb6 r3
  have hB6 := bB hB3 hb6
  have n6 := na w6 #[.int .i64 rh, .int .u64 rl] 46
  obtain ⟨y1, y2, y3⟩ := rcell n6
  go_wp2_with fail
  refine (wide_told _ _ _).mono ?_
  rintro e w7 ⟨rfl, hb7⟩
  have r7 := kp hb7 (ka r6 (.cells #[.int .i64 rh, .int .u64 rl] 46))
  have hB7 := bB (bA hB6 (.cells #[.int .i64 rh, .int .u64 rl] 46)) hb7
  obtain ⟨x1, x2, x3⟩ := rcell r7
  go_wp2_with fail
  (rw [row2 r7]; generalize hT : setRow _ _ _ = wE; obtain ⟨hbE, hgE⟩ := ret_row hB7 (by omega) r7 hT; have zE := (rcell hgE).1; clear hT; refine bodyPost_ret (by simp [results, Try.results89, go_sem, zE]; try rfl) rfl ?_)
  exact ⟨rfl, hbE⟩

set_option maxRecDepth 100000 in
set_option maxHeartbeats 1000000 in
theorem scale_3 (ah al n sH sL tH T CA LO MI M2 rh rl : Int) (h1 : (ah < 0) = False) (h2 : (n < 0) = True)
    (c1 : ∀ w, Calls Try.prog 94 #[.agg #[.int .i64 ah, .int .u64 al]] w fun e w' => e = .returned (.tuple #[.int .u64 sH, .int .u64 sL]) ∧ Below w.heap.size w w')
    (c2 : ∀ w, Calls Try.prog 56 #[.int .i64 n] w fun e w' => e = .returned (.agg #[.int .i64 (hi n), .int .u64 (lo n)]) ∧ Below w.heap.size w w')
    (c3 : ∀ w, Calls Try.prog 94 #[.agg #[.int .i64 (hi n), .int .u64 (lo n)]] w fun e w' => e = .returned (.tuple #[.int .u64 tH, .int .u64 T]) ∧ Below w.heap.size w w')
    (c4 : ∀ w, Calls Try.prog 92 #[.int .u64 sL, .int .u64 T] w fun e w' => e = .returned (.tuple #[.int .u64 CA, .int .u64 LO]) ∧ w = w')
    (c5 : ∀ w, Calls Try.prog 92 #[.int .u64 sH, .int .u64 T] w fun e w' => e = .returned (.tuple #[.int .u64 0, .int .u64 MI]) ∧ w = w')
    (d : ∀ w, (callFunc 109 #[.int .u64 MI, .int .u64 CA, .int .u64 0]).run Try.prog w = .ok (.value (.tuple #[.int .u64 M2, .int .u64 0])) w)
    (c6 : ∀ w, Calls Try.prog 96 #[.bool true, .int .u64 M2, .int .u64 LO] w fun e w' => e = .returned (.tuple #[.agg #[.int .i64 rh, .int .u64 rl], .bool true]) ∧ Below w.heap.size w w')
    (w : World) :
    Calls Try.prog 89 #[.agg #[.int .i64 ah, .int .u64 al], .int .i64 n] w fun e w' => e = .returned (.tuple #[.agg #[.int .i64 rh, .int .u64 rl], .int .i64 0]) ∧ Below w.heap.size w w' := by
  go_enter Try.func89, Try.ntmps89
  go_wp2_with fail
  refine (c1 _).mono ?_
  rintro e w1 ⟨rfl, hb1⟩
  have a1 := kp hb1 (ka (na w #[.int .i64 ah, .int .u64 al] 46) (.cells #[.int .i64 0, .int .u64 0] 46))
  have r1 := kp hb1 (na1 w (.cells #[.int .i64 ah, .int .u64 al] 46) #[.int .i64 0, .int .u64 0] 46)
  go_wp2_with fail
  refine (c2 _).mono ?_
  rintro e w2 ⟨rfl, hb2⟩
  go_wp2_with fail
  refine (c3 _).mono ?_
  rintro e w3 ⟨rfl, hb3⟩
  have a3 := kp hb3 (kp hb2 a1)
  have r3 := kp hb3 (kp hb2 r1)
  have hB3 := bB (bB (bB (bA (bA (b0 w) (.cells #[.int .i64 ah, .int .u64 al] 46)) (.cells #[.int .i64 0, .int .u64 0] 46)) hb1) hb2) hb3
  obtain ⟨z1, z2, z3⟩ := rcell a3
  go_wp2_with fail
  refine (c4 _).mono ?_
  rintro e w4 ⟨rfl, rfl⟩
  go_wp2_with fail
  refine (c5 _).mono ?_
  rintro e w4 ⟨rfl, rfl⟩
  go_wp2_with fail
  refine (c6 _).mono ?_
  rintro e w6 ⟨rfl, hb6⟩
  have r6 := kp hb6 r3
  have hB6 := bB hB3 hb6
  have n6 := na w6 #[.int .i64 rh, .int .u64 rl] 46
  obtain ⟨y1, y2, y3⟩ := rcell n6
  go_wp2_with fail
  refine (wide_told _ _ _).mono ?_
  rintro e w7 ⟨rfl, hb7⟩
  have r7 := kp hb7 (ka r6 (.cells #[.int .i64 rh, .int .u64 rl] 46))
  have hB7 := bB (bA hB6 (.cells #[.int .i64 rh, .int .u64 rl] 46)) hb7
  obtain ⟨x1, x2, x3⟩ := rcell r7
  go_wp2_with fail
  (rw [row2 r7]; generalize hT : setRow _ _ _ = wE; obtain ⟨hbE, hgE⟩ := ret_row hB7 (by omega) r7 hT; have zE := (rcell hgE).1; clear hT; refine bodyPost_ret (by simp [results, Try.results89, go_sem, zE]; try rfl) rfl ?_)
  exact ⟨rfl, hbE⟩

set_option maxRecDepth 100000 in
set_option maxHeartbeats 1000000 in
theorem scale_4 (ah al n sH sL tH T CA LO MI M2 rh rl : Int) (h1 : (ah < 0) = False) (h2 : (n < 0) = False)
    (c1 : ∀ w, Calls Try.prog 94 #[.agg #[.int .i64 ah, .int .u64 al]] w fun e w' => e = .returned (.tuple #[.int .u64 sH, .int .u64 sL]) ∧ Below w.heap.size w w')
    (c2 : ∀ w, Calls Try.prog 56 #[.int .i64 n] w fun e w' => e = .returned (.agg #[.int .i64 (hi n), .int .u64 (lo n)]) ∧ Below w.heap.size w w')
    (c3 : ∀ w, Calls Try.prog 94 #[.agg #[.int .i64 (hi n), .int .u64 (lo n)]] w fun e w' => e = .returned (.tuple #[.int .u64 tH, .int .u64 T]) ∧ Below w.heap.size w w')
    (c4 : ∀ w, Calls Try.prog 92 #[.int .u64 sL, .int .u64 T] w fun e w' => e = .returned (.tuple #[.int .u64 CA, .int .u64 LO]) ∧ w = w')
    (c5 : ∀ w, Calls Try.prog 92 #[.int .u64 sH, .int .u64 T] w fun e w' => e = .returned (.tuple #[.int .u64 0, .int .u64 MI]) ∧ w = w')
    (d : ∀ w, (callFunc 109 #[.int .u64 MI, .int .u64 CA, .int .u64 0]).run Try.prog w = .ok (.value (.tuple #[.int .u64 M2, .int .u64 0])) w)
    (c6 : ∀ w, Calls Try.prog 96 #[.bool false, .int .u64 M2, .int .u64 LO] w fun e w' => e = .returned (.tuple #[.agg #[.int .i64 rh, .int .u64 rl], .bool true]) ∧ Below w.heap.size w w')
    (w : World) :
    Calls Try.prog 89 #[.agg #[.int .i64 ah, .int .u64 al], .int .i64 n] w fun e w' => e = .returned (.tuple #[.agg #[.int .i64 rh, .int .u64 rl], .int .i64 0]) ∧ Below w.heap.size w w' := by
  go_enter Try.func89, Try.ntmps89
  go_wp2_with fail
  refine (c1 _).mono ?_
  rintro e w1 ⟨rfl, hb1⟩
  have a1 := kp hb1 (ka (na w #[.int .i64 ah, .int .u64 al] 46) (.cells #[.int .i64 0, .int .u64 0] 46))
  have r1 := kp hb1 (na1 w (.cells #[.int .i64 ah, .int .u64 al] 46) #[.int .i64 0, .int .u64 0] 46)
  go_wp2_with fail
  refine (c2 _).mono ?_
  rintro e w2 ⟨rfl, hb2⟩
  go_wp2_with fail
  refine (c3 _).mono ?_
  rintro e w3 ⟨rfl, hb3⟩
  have a3 := kp hb3 (kp hb2 a1)
  have r3 := kp hb3 (kp hb2 r1)
  have hB3 := bB (bB (bB (bA (bA (b0 w) (.cells #[.int .i64 ah, .int .u64 al] 46)) (.cells #[.int .i64 0, .int .u64 0] 46)) hb1) hb2) hb3
  obtain ⟨z1, z2, z3⟩ := rcell a3
  go_wp2_with fail
  refine (c4 _).mono ?_
  rintro e w4 ⟨rfl, rfl⟩
  go_wp2_with fail
  refine (c5 _).mono ?_
  rintro e w4 ⟨rfl, rfl⟩
  go_wp2_with fail
  refine (c6 _).mono ?_
  rintro e w6 ⟨rfl, hb6⟩
  have r6 := kp hb6 r3
  have hB6 := bB hB3 hb6
  have n6 := na w6 #[.int .i64 rh, .int .u64 rl] 46
  obtain ⟨y1, y2, y3⟩ := rcell n6
  go_wp2_with fail
  refine (wide_told _ _ _).mono ?_
  rintro e w7 ⟨rfl, hb7⟩
  have r7 := kp hb7 (ka r6 (.cells #[.int .i64 rh, .int .u64 rl] 46))
  have hB7 := bB (bA hB6 (.cells #[.int .i64 rh, .int .u64 rl] 46)) hb7
  obtain ⟨x1, x2, x3⟩ := rcell r7
  go_wp2_with fail
  (rw [row2 r7]; generalize hT : setRow _ _ _ = wE; obtain ⟨hbE, hgE⟩ := ret_row hB7 (by omega) r7 hT; have zE := (rcell hgE).1; clear hT; refine bodyPost_ret (by simp [results, Try.results89, go_sem, zE]; try rfl) rfl ?_)
  exact ⟨rfl, hbE⟩

/-- the words of a product of sizes -/
theorem scale_math (p q : Int) (hp : 0 ≤ p) (hp2 : p ≤ 170141183460469231731687303715884105728) (hq : 0 ≤ q) (hq2 : q ≤ 9223372036854775808) (h : p * q ≤ 170141183460469231731687303715884105728) :
    lo p * q / 18446744073709551616 + hi p * q = hi (p * q) ∧ lo p * q % 18446744073709551616 = lo (p * q) ∧ hi p * q < 18446744073709551616 ∧ 0 ≤ hi p * q ∧ 0 ≤ lo p * q ∧ hi (p * q) < 18446744073709551616 := by
  have e : p * q = (hi p * q) * 18446744073709551616 + lo p * q := by
    have e1 : p = hi p * 18446744073709551616 + lo p := by unfold hi lo; omega
    conv => lhs; rw [e1]
    rw [Int.add_mul]
    ac_rfl
  have l1 : 0 ≤ lo p := by unfold lo; omega
  have l2 : 0 ≤ hi p := by unfold hi; omega
  have k1 : 0 ≤ hi p * q := Int.mul_nonneg l2 hq
  have k2 : 0 ≤ lo p * q := Int.mul_nonneg l1 hq
  generalize hi p * q = x at *
  generalize lo p * q = y at *
  unfold hi lo
  rw [e] at h ⊢
  refine ⟨by omega, by omega, by omega, k1, k2, by omega⟩

/-- the facts of the middle, named -/
theorem scale_mid (p q : Int) (hp : 0 ≤ p) (hp2 : p ≤ 170141183460469231731687303715884105728) (hq : 0 ≤ q) (hq2 : q ≤ 9223372036854775808) (h : p * q ≤ 170141183460469231731687303715884105728) :
    ∃ CA MI : Int, (∀ w, Calls Try.prog 92 #[.int .u64 (lo p), .int .u64 q] w fun e w' => e = .returned (.tuple #[.int .u64 CA, .int .u64 (lo (p * q))]) ∧ w = w') ∧
      (∀ w, Calls Try.prog 92 #[.int .u64 (hi p), .int .u64 q] w fun e w' => e = .returned (.tuple #[.int .u64 0, .int .u64 MI]) ∧ w = w') ∧
      (∀ w, (callFunc 109 #[.int .u64 MI, .int .u64 CA, .int .u64 0]).run Try.prog w = .ok (.value (.tuple #[.int .u64 (hi (p * q)), .int .u64 0])) w) := by
  obtain ⟨m1, m2, m3, m4, m5, m6⟩ := scale_math p q hp hp2 hq hq2 h
  have b1 := lo_lo p
  have b2 : 0 ≤ hi p ∧ hi p < 18446744073709551616 := by unfold hi; omega
  have b3 : 0 ≤ hi (p * q) := by have := Int.mul_nonneg hp hq; unfold hi; omega
  have c4 := mul64 (lo p) q b1.1 b1.2 hq (by omega)
  have c5 := mul64 (hi p) q b2.1 b2.2 hq (by omega)
  have d := add64_0 (hi p * q) (lo p * q / 18446744073709551616) m4 (Int.ediv_nonneg m5 (by decide))
  rw [m2] at c4
  generalize hi p * q = x at *
  generalize lo p * q / 18446744073709551616 = y at *
  generalize hi (p * q) = z at *
  rw [show x / 18446744073709551616 = 0 from Int.ediv_eq_zero_of_lt m4 m3, show x % 18446744073709551616 = x from Int.emod_eq_of_lt m4 m3] at c5
  have e : x + y = z := by omega
  rw [e, show z / 18446744073709551616 = 0 from Int.ediv_eq_zero_of_lt b3 m6, show z % 18446744073709551616 = z from Int.emod_eq_of_lt b3 m6] at d
  exact ⟨_, _, c4, c5, d⟩

theorem lo_self (q : Int) (h : 0 ≤ q) (h2 : q < 18446744073709551616) : lo q = q := Int.emod_eq_of_lt h h2

set_option maxRecDepth 100000 in
/-- Scale where the product fits -/
theorem wide_Scale (x n : Int) (h : Rng x) (n1 : -9223372036854775808 ≤ n) (n2 : n < 9223372036854775808) (hp : Rng (x * n)) (w : World) :
    Calls Try.prog 89 #[.agg #[.int .i64 (hi x), .int .u64 (lo x)], .int .i64 n] w fun e w' => e = .returned (.tuple #[.agg #[.int .i64 (hi (x * n)), .int .u64 (lo (x * n))], .int .i64 0]) ∧ Below w.heap.size w w' := by
  have hn : Rng n := ⟨by omega, by omega⟩
  have c2 := wide_Of n n1 n2
  obtain ⟨h1, h2⟩ := id h
  obtain ⟨p1, p2⟩ := hp
  have hs : hi x < 0 ↔ x < 0 := by unfold hi; omega
  by_cases hx : x < 0
  · have g1 : (hi x < 0) = True := eq_true (hs.2 hx)
    have c1 := size_neg x h hx
    by_cases hm : n < 0
    · have e : (-x) * (-n) = x * n := Int.neg_mul_neg x n
      have k : 0 ≤ x * n := by rw [← e]; exact Int.mul_nonneg (by omega) (by omega)
      obtain ⟨CA, MI, c4, c5, d⟩ := scale_mid (-x) (-n) (by omega) (by omega) (by omega) (by omega) (by rw [e]; omega)
      rw [e] at c4 d
      have c3 := size_neg n hn hm
      rw [lo_self (-n) (by omega) (by omega)] at c3
      exact scale_1 (hi x) (lo x) n _ _ _ _ _ _ _ _ (hi (x * n)) (lo (x * n)) g1 (eq_true hm) c1 c2 c3 c4 c5 d (signed_f (x * n) k p2) w
    · have t1 := lo_self n (by omega) (by omega)
      have e : (-x) * lo n = -(x * n) := by rw [t1]; exact Int.neg_mul x n
      have k : 0 ≤ -(x * n) := by rw [← e]; exact Int.mul_nonneg (by omega) (by omega)
      obtain ⟨CA, MI, c4, c5, d⟩ := scale_mid (-x) (lo n) (by omega) (by omega) (by omega) (by omega) (by rw [e]; omega)
      rw [e] at c4 d
      have c3 := size_nn n hn (by omega)
      have c6 := signed_t (-(x * n)) k (by omega)
      rw [Int.neg_neg] at c6
      exact scale_2 (hi x) (lo x) n _ _ _ _ _ _ _ _ (hi (x * n)) (lo (x * n)) g1 (eq_false hm) c1 c2 c3 c4 c5 d c6 w
  · have g1 : (hi x < 0) = False := eq_false (fun hh => hx (hs.1 hh))
    have c1 := size_nn x h (by omega)
    by_cases hm : n < 0
    · have e : x * (-n) = -(x * n) := Int.mul_neg x n
      have k : 0 ≤ -(x * n) := by rw [← e]; exact Int.mul_nonneg (by omega) (by omega)
      obtain ⟨CA, MI, c4, c5, d⟩ := scale_mid x (-n) (by omega) (by omega) (by omega) (by omega) (by rw [e]; omega)
      rw [e] at c4 d
      have c3 := size_neg n hn hm
      rw [lo_self (-n) (by omega) (by omega)] at c3
      have c6 := signed_t (-(x * n)) k (by omega)
      rw [Int.neg_neg] at c6
      exact scale_3 (hi x) (lo x) n _ _ _ _ _ _ _ _ (hi (x * n)) (lo (x * n)) g1 (eq_true hm) c1 c2 c3 c4 c5 d c6 w
    · have t1 := lo_self n (by omega) (by omega)
      have e : x * lo n = x * n := by rw [t1]
      have k : 0 ≤ x * n := Int.mul_nonneg (by omega) (by omega)
      obtain ⟨CA, MI, c4, c5, d⟩ := scale_mid x (lo n) (by omega) (by omega) (by omega) (by omega) (by rw [e]; omega)
      rw [e] at c4 d
      have c3 := size_nn n hn (by omega)
      exact scale_4 (hi x) (lo x) n _ _ _ _ _ _ _ _ (hi (x * n)) (lo (x * n)) g1 (eq_false hm) c1 c2 c3 c4 c5 d (signed_f (x * n) k p2) w
end Go.Proofs.Ytlgjapjcdpikeaa
