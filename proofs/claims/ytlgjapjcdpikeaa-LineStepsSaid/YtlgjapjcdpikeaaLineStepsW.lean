/- LineSteps (yearbooklaw05): its walk, from the contracts of line.At and line.Check, and the plain law of its last line. -/
import Derived.Test.YtlgjapjcdpikeaaWakes5
namespace Go.Proofs.Ytlgjapjcdpikeaa
open Go.RowKit

/-- at a time there is no value -/
theorem steps_1 (A R N D dt e : Int) (he : ¬ e = 0) (c1 : ∀ w, Calls Try.prog 20 #[.agg #[.int .i64 A, .int .i64 R, .int .i64 N, .int .i64 D], .int .i64 dt] w fun x w' => x = .returned (.tuple #[.int .i64 0, .int .i64 e]) ∧ Below w.heap.size w w') (w : World) :
    Calls Try.prog 3 #[.agg #[.int .i64 A, .int .i64 R, .int .i64 N, .int .i64 D], .int .i64 dt] w fun x w' => x = .returned (.bool true) ∧ Below w.heap.size w w' := by
  go_enter Try.func3, Try.ntmps3
  go_wp2_with fail
  refine (wakes5 _).mono ?_
  rintro x w1 ⟨rfl, hb1⟩
  have z1 := (rcell (kp hb1 (na w #[.int .i64 A, .int .i64 R, .int .i64 N, .int .i64 D] 23))).1
  go_wp2_with fail
  refine (c1 _).mono ?_
  rintro x w2 ⟨rfl, hb2⟩
  go_wp2
  go_ret
  exact ⟨rfl, bB (bB (bA (b0 w) _) hb1) hb2⟩

/-- at the last time -/
theorem steps_2 (A R N D v : Int) (c1 : ∀ w, Calls Try.prog 20 #[.agg #[.int .i64 A, .int .i64 R, .int .i64 N, .int .i64 D], .int .i64 281474976710656] w fun x w' => x = .returned (.tuple #[.int .i64 v, .int .i64 0]) ∧ Below w.heap.size w w')
    (c2 : ∀ w, Calls Try.prog 21 #[.agg #[.int .i64 A, .int .i64 R, .int .i64 N, .int .i64 D]] w fun x w' => x = .returned (.int .i64 0) ∧ Below w.heap.size w w') (w : World) :
    Calls Try.prog 3 #[.agg #[.int .i64 A, .int .i64 R, .int .i64 N, .int .i64 D], .int .i64 281474976710656] w fun x w' => x = .returned (.bool true) ∧ Below w.heap.size w w' := by
  go_enter Try.func3, Try.ntmps3
  go_wp2_with fail
  refine (wakes5 _).mono ?_
  rintro x w1 ⟨rfl, hb1⟩
  have a1 := kp hb1 (na w #[.int .i64 A, .int .i64 R, .int .i64 N, .int .i64 D] 23)
  have z1 := (rcell a1).1
  go_wp2_with fail
  refine (c1 _).mono ?_
  rintro x w2 ⟨rfl, hb2⟩
  have z2 := (rcell (kp hb2 a1)).1
  go_wp2_with fail
  refine (c2 _).mono ?_
  rintro x w3 ⟨rfl, hb3⟩
  go_wp2
  go_ret
  exact ⟨rfl, bB (bB (bB (bA (b0 w) _) hb1) hb2) hb3⟩

/-- the next one is out of reach -/
theorem steps_3 (A R N D dt v : Int) (hN : ¬ N = 0) (t1 : 0 ≤ dt) (t2 : dt < 281474976710656) (c1 : ∀ w, Calls Try.prog 20 #[.agg #[.int .i64 A, .int .i64 R, .int .i64 N, .int .i64 D], .int .i64 dt] w fun x w' => x = .returned (.tuple #[.int .i64 v, .int .i64 0]) ∧ Below w.heap.size w w')
    (c2 : ∀ w, Calls Try.prog 20 #[.agg #[.int .i64 A, .int .i64 R, .int .i64 N, .int .i64 D], .int .i64 (dt + 1)] w fun x w' => x = .returned (.tuple #[.int .i64 0, .int .i64 5]) ∧ Below w.heap.size w w') (w : World) :
    Calls Try.prog 3 #[.agg #[.int .i64 A, .int .i64 R, .int .i64 N, .int .i64 D], .int .i64 dt] w fun x w' => x = .returned (.bool true) ∧ Below w.heap.size w w' := by
  have nt : ¬ dt = 281474976710656 := by omega
  go_enter Try.func3, Try.ntmps3
  go_wp2_with fail
  refine (wakes5 _).mono ?_
  rintro x w1 ⟨rfl, hb1⟩
  have a1 := kp hb1 (na w #[.int .i64 A, .int .i64 R, .int .i64 N, .int .i64 D] 23)
  have z1 := (rcell a1).1
  go_wp2_with fail
  refine (c1 _).mono ?_
  rintro x w2 ⟨rfl, hb2⟩
  have a2 := kp hb2 a1
  have z2 := (rcell a2).1
  go_wp2_with fail
  refine (c2 _).mono ?_
  rintro x w3 ⟨rfl, hb3⟩
  have z3 := (rcell (kp hb3 a2)).1
  go_wp2
  go_ret
  exact ⟨by simp [hN], bB (bB (bB (bA (b0 w) _) hb1) hb2) hb3⟩

/-- the step -/
theorem steps_4 (A R N D dt v u q m : Int) (D1 : 1 ≤ D) (hq : N.tdiv D = q) (hm : N.tmod D = m) (q1 : -9223372036854775808 < q) (q2 : q < 9223372036854775807) (t1 : 0 ≤ dt) (t2 : dt < 281474976710656)
    (v1 : -2305844108725321728 ≤ v) (v2 : v ≤ 2305844108725321728) (u1 : -2305844108725321728 ≤ u) (u2 : u ≤ 2305844108725321728) (m1 : -9223372036854775808 ≤ m) (m2 : m < 9223372036854775808)
    (hs : u - v = (if m < 0 then q - 1 else q) ∨ m ≠ 0 ∧ u - v = (if m < 0 then q - 1 else q) + 1)
    (c1 : ∀ w, Calls Try.prog 20 #[.agg #[.int .i64 A, .int .i64 R, .int .i64 N, .int .i64 D], .int .i64 dt] w fun x w' => x = .returned (.tuple #[.int .i64 v, .int .i64 0]) ∧ Below w.heap.size w w')
    (c2 : ∀ w, Calls Try.prog 20 #[.agg #[.int .i64 A, .int .i64 R, .int .i64 N, .int .i64 D], .int .i64 (dt + 1)] w fun x w' => x = .returned (.tuple #[.int .i64 u, .int .i64 0]) ∧ Below w.heap.size w w') (w : World) :
    Calls Try.prog 3 #[.agg #[.int .i64 A, .int .i64 R, .int .i64 N, .int .i64 D], .int .i64 dt] w fun x w' => x = .returned (.bool true) ∧ Below w.heap.size w w' := by
  have nt : ¬ dt = 281474976710656 := by omega
  have nD : ¬ D = 0 := by omega
  have q3 : -9223372036854775808 ≤ q := by omega
  have q4 : q < 9223372036854775808 := by omega
  by_cases hm0 : m < 0
  · rw [if_pos hm0] at hs
    go_enter Try.func3, Try.ntmps3
    go_wp2_with fail
    refine (wakes5 _).mono ?_
    rintro x w1 ⟨rfl, hb1⟩
    have a1 := kp hb1 (na w #[.int .i64 A, .int .i64 R, .int .i64 N, .int .i64 D] 23)
    have z1 := (rcell a1).1
    go_wp2_with fail
    refine (c1 _).mono ?_
    rintro x w2 ⟨rfl, hb2⟩
    have a2 := kp hb2 a1
    have z2 := (rcell a2).1
    go_wp2_with fail
    refine (c2 _).mono ?_
    rintro x w3 ⟨rfl, hb3⟩
    have z3 := (rcell (kp hb3 a2)).1
    go_wp2
    all_goals
      go_ret
      refine ⟨?_, bB (bB (bB (bA (b0 w) _) hb1) hb2) hb3⟩
    · rfl
    · have hx : (u - v == q - 1 || m != 0 && u - v == q) = true := by simp; omega
      exact congrArg (fun b => Ending.returned (.bool b)) hx
  · rw [if_neg hm0] at hs
    go_enter Try.func3, Try.ntmps3
    go_wp2_with fail
    refine (wakes5 _).mono ?_
    rintro x w1 ⟨rfl, hb1⟩
    have a1 := kp hb1 (na w #[.int .i64 A, .int .i64 R, .int .i64 N, .int .i64 D] 23)
    have z1 := (rcell a1).1
    go_wp2_with fail
    refine (c1 _).mono ?_
    rintro x w2 ⟨rfl, hb2⟩
    have a2 := kp hb2 a1
    have z2 := (rcell a2).1
    go_wp2_with fail
    refine (c2 _).mono ?_
    rintro x w3 ⟨rfl, hb3⟩
    have z3 := (rcell (kp hb3 a2)).1
    go_wp2
    all_goals
      go_ret
      refine ⟨?_, bB (bB (bB (bA (b0 w) _) hb1) hb2) hb3⟩
    · rfl
    · have hx : (u - v == q || m != 0 && u - v == q + 1) = true := by simp; omega
      exact congrArg (fun b => Ending.returned (.bool b)) hx

/-- the plain law: from one time to the next -/
theorem steps_plain {A R N D dt : Int} (hD : 1 ≤ D) (r1 : 0 ≤ R) (r2 : R < D) :
    (lnQ A R N D (dt + 1) - lnQ A R N D dt = (if N.tmod D < 0 then N.tdiv D - 1 else N.tdiv D)) ∨
      N.tmod D ≠ 0 ∧ lnQ A R N D (dt + 1) - lnQ A R N D dt = (if N.tmod D < 0 then N.tdiv D - 1 else N.tdiv D) + 1 := by
  unfold lnQ
  have e : N * (dt + 1) + R = (N * dt + R) + N := by rw [Int.mul_add]; omega
  rw [e]
  generalize N * dt + R = x
  have k1 := Int.mul_tdiv_add_tmod N D
  have k2 : N.tmod D < D := Int.tmod_lt_of_pos N (by omega)
  have k3 : -D < N.tmod D := by
    have := Int.tmod_lt_of_pos (-N) (show 0 < D by omega)
    rw [Int.neg_tmod] at this
    omega
  have x1 := Int.mul_ediv_add_emod x D
  have x2 := Int.emod_nonneg x (show D ≠ 0 by omega)
  have x3 := Int.emod_lt_of_pos x (show 0 < D by omega)
  generalize N.tdiv D = q at *
  generalize N.tmod D = m at *
  generalize x / D = y at *
  generalize x % D = s at *
  have f : ∀ z t : Int, x + N = D * z + t → 0 ≤ t → t < D → (x + N) / D = z := by
    intro z t h1 h2 h3
    rw [h1, Int.add_comm, Int.add_mul_ediv_left _ _ (show D ≠ 0 by omega), Int.ediv_eq_zero_of_lt h2 h3]
    omega
  by_cases hm : m < 0
  · rw [if_pos hm]
    by_cases hc : s + m < 0
    · have := f (y + q - 1) (s + m + D) (by rw [Int.mul_sub, Int.mul_add]; omega) (by omega) (by omega)
      omega
    · have := f (y + q) (s + m) (by rw [Int.mul_add]; omega) (by omega) (by omega)
      omega
  · rw [if_neg hm]
    by_cases hc : s + m < D
    · have := f (y + q) (s + m) (by rw [Int.mul_add]; omega) (by omega) (by omega)
      omega
    · have := f (y + q + 1) (s + m - D) (by rw [Int.mul_add, Int.mul_add]; omega) (by omega) (by omega)
      omega

/-- THE WALK of LineSteps -/
theorem line_steps (A R N D dt : Int) (w : World) :
    Calls Try.prog 3 #[.agg #[.int .i64 A, .int .i64 R, .int .i64 N, .int .i64 D], .int .i64 dt] w fun x w' => x = .returned (.bool true) ∧ Below w.heap.size w w' := by
  have c1 := line_At A R N D dt
  by_cases he : atE A R N D dt = 0
  · have hI : isB A R N D = true ∧ tmB dt = true ∧ bkB (lnQ A R N D dt) = true := by
      unfold atE at he
      split at he
      · split at he
        · split at he
          · exact ⟨by assumption, by assumption, by assumption⟩
          · omega
        · omega
      · omega
    obtain ⟨h1, h2, h3⟩ := hI
    have hV : atV A R N D dt = lnQ A R N D dt := by unfold atV; simp [h1, h2, h3]
    rw [hV, he] at c1
    obtain ⟨_, ⟨d1, d2, d3, d4⟩, _, r1, r2⟩ := isB_spec h1
    obtain ⟨t1, t2⟩ : 0 ≤ dt ∧ dt ≤ 281474976710656 := of_decide_eq_true h2
    obtain ⟨v1, v2⟩ : -2305844108725321728 ≤ lnQ A R N D dt ∧ lnQ A R N D dt ≤ 2305844108725321728 := of_decide_eq_true h3
    by_cases hT : dt = 281474976710656
    · subst hT
      have c2 := line_Check A R N D
      rw [if_pos h1] at c2
      exact steps_2 A R N D _ c1 c2 w
    · have c2 := line_At A R N D (dt + 1)
      have h2' : tmB (dt + 1) = true := decide_eq_true ⟨by omega, by omega⟩
      have hp := steps_plain (A := A) (N := N) (dt := dt) d1 r1 r2
      by_cases h3' : bkB (lnQ A R N D (dt + 1)) = true
      · have hV' : atV A R N D (dt + 1) = lnQ A R N D (dt + 1) := by unfold atV; simp [h1, h2', h3']
        have hE' : atE A R N D (dt + 1) = 0 := by unfold atE; simp [h1, h2', h3']
        rw [hV', hE'] at c2
        obtain ⟨u1, u2⟩ : -2305844108725321728 ≤ lnQ A R N D (dt + 1) ∧ lnQ A R N D (dt + 1) ≤ 2305844108725321728 := of_decide_eq_true h3'
        have k2 : N.tmod D < D := Int.tmod_lt_of_pos N (by omega)
        have k3 : -D < N.tmod D := by
          have := Int.tmod_lt_of_pos (-N) (show 0 < D by omega)
          rw [Int.neg_tmod] at this
          omega
        refine steps_4 A R N D dt _ _ _ _ d1 rfl rfl ?_ ?_ t1 (by omega) v1 v2 u1 u2 (by omega) (by omega) hp c1 c2 w
        · split at hp <;> omega
        · split at hp <;> omega
      · have hV' : atV A R N D (dt + 1) = 0 := by unfold atV; simp [h3']
        have hE' : atE A R N D (dt + 1) = 5 := by unfold atE; simp [h1, h2', h3']
        rw [hV', hE'] at c2
        have hN : ¬ N = 0 := by
          rintro rfl
          apply h3'
          have : lnQ A R 0 D (dt + 1) = lnQ A R 0 D dt := by unfold lnQ; simp
          rw [this]
          exact h3
        exact steps_3 A R N D dt _ hN t1 (by omega) c1 c2 w
  · have hV : atV A R N D dt = 0 := by
      unfold atE at he
      unfold atV
      rw [if_neg]
      rintro ⟨h1, h2, h3⟩
      apply he
      simp [h1, h2, h3]
    rw [hV] at c1
    exact steps_1 A R N D dt _ he c1 w
end Go.Proofs.Ytlgjapjcdpikeaa
