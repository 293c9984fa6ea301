/- The walk of SwingAny (yearbooklaw09). -/
import Derived.Test.YtfdaabdibpcjeaaPA
import Derived.Test.YtfdaabdibpcjeaaP5
set_option linter.unusedSimpArgs false
set_option linter.unusedVariables false
namespace Go.Proofs.Ytfdaabdibpcjeaa
open Go.RowKit

/-- a line from the hinge that goes through: its slope is in the door -/
theorem any_slope {l : List Bd} (h : okB l = true) {N D : Int} (hl : Low N D) (ht : thrB (hgB (bd l 0)) 0 N D (bd l 0).t l = true) (i : Nat) (h1 : 1 ≤ i) (hi : i < l.length) :
    ((bd l i).lo - hgB (bd l 0)) * D ≤ N * ((bd l i).t - (bd l 0).t) ∧ N * ((bd l i).t - (bd l 0).t) ≤ ((bd l i).hi - hgB (bd l 0)) * D := by
  obtain ⟨k0, k1, k2⟩ := okB_spec h
  have r0 := bd_rg k2 0 k0
  have ri := bd_rg k2 i hi
  have hv := hgB_mid r0.2.2.1
  have hlt := t_lt k2 0 i (by omega) hi
  have hw := thrB_el ht i hi
  rw [win_iff (isB_zero (bk_of (by omega) (by omega)) hl) (tm_of (by omega) (by omega))] at hw
  rw [Int.sub_mul, Int.sub_mul]
  omega

theorem any_open {l : List Bd} (h : okB l = true) {N D : Int} (hl : Low N D) (ht : thrB (hgB (bd l 0)) 0 N D (bd l 0).t l = true) : drOpen (dk l l.length) = true := by
  obtain ⟨k0, k1, k2⟩ := okB_spec h
  rw [open_iff h l.length (by omega) (Nat.le_refl _)]
  intro i j a b a' b'
  have hD : 0 < D := by have := (slB_spec hl.1).1; omega
  have p1 := t_lt k2 0 i (by omega) b
  have p2 := t_lt k2 0 j (by omega) b'
  exact frac_trans (by omega) hD (by omega) (any_slope h hl ht i a b).1 (any_slope h hl ht j a' b').2

theorem any_near {l : List Bd} (h : okB l = true) {N D : Int} (hl : Low N D) (ht : thrB (hgB (bd l 0)) 0 N D (bd l 0).t l = true) : max (flN (dk l l.length)) (-(flN (dk l l.length))) * D ≤ max N (-N) * flD (dk l l.length) := by
  obtain ⟨k0, k1, k2⟩ := okB_spec h
  have hD : 0 < D := by have := (slB_spec hl.1).1; omega
  have hm := dk_many l l.length (Nat.le_refl _)
  have hd := dk_ok h l.length (by omega) (Nat.le_refl _)
  obtain ⟨i1, i2, i3, i4, i5, i6, i7⟩ := dr_inv h l.length (by omega) (Nat.le_refl _)
  have hfl : 0 < flD (dk l l.length) := by have := (slB_spec (fl_low hd).1).1; omega
  have hs := any_slope h hl ht
  have z1 : 0 ≤ max N (-N) := by omega
  by_cases e1 : l.length = 1
  · have : flN (dk l l.length) = 0 := by unfold flN; rw [if_pos (by rw [hm, e1]; rfl)]
    rw [this]
    have := Int.mul_nonneg z1 (Int.le_of_lt hfl)
    simpa using this
  · have hk2 : 2 ≤ l.length := by omega
    obtain ⟨i, a, b, e⟩ := i5 hk2
    obtain ⟨j, a', b', e'⟩ := i6 hk2
    obtain ⟨q0, q1⟩ := i7 hk2
    clear i5 i6 i3 i4 i7
    rw [i1, i2] at e e'
    have p1 := t_lt k2 0 i (by omega) b
    have p2 := t_lt k2 0 j (by omega) b'
    have m0 := frac_trans q0 (by omega) hD (Int.le_of_eq e.symm) (hs i a b).1
    have m1 := frac_trans hD (by omega) q1 (hs j a' b').2 (Int.le_of_eq e')
    have n1 : ¬ (dk l l.length).many = 1 := by rw [hm]; omega
    obtain ⟨l0, l1⟩ := hd.two n1
    clear hs ht e e' hd
    clear hfl
    unfold flN flD
    rw [if_neg n1, if_neg n1]
    clear hm n1
    generalize dk l l.length = d at *
    unfold nrN nrD
    by_cases h1 : 0 < d.n0
    · rw [if_pos h1, if_pos h1, l0.2.1, l0.2.2]
      have hN : 0 < N := by
        rcases Int.lt_or_le 0 N with h' | h'
        · exact h'
        · have k1 := Int.mul_pos h1 hD
          have k2 := Int.mul_le_mul_of_nonneg_right h' (Int.le_of_lt q0)
          omega
      rw [show max d.n0 (-d.n0) = d.n0 by omega, show max N (-N) = N by omega]
      exact m0
    · rw [if_neg h1, if_neg h1]
      by_cases h2 : d.n1 < 0
      · rw [if_pos h2, if_pos h2, l1.2.1, l1.2.2]
        have hN : N < 0 := by
          rcases Int.lt_or_le N 0 with h' | h'
          · exact h'
          · have k1 := Int.mul_pos (show 0 < -d.n1 by omega) hD
            have k2 := Int.mul_nonneg h' (Int.le_of_lt q1)
            rw [Int.neg_mul] at k1
            omega
        rw [show max d.n1 (-d.n1) = -d.n1 by omega, show max N (-N) = -N by omega, Int.neg_mul, Int.neg_mul]
        omega
      · rw [if_neg h2, if_neg h2]
        rw [show max (0 : Int) (-0) = 0 from rfl, Int.zero_mul, Int.mul_one]
        exact z1

theorem ab_low {N D : Int} (h : slB N D = true) : slB (max N (-N)) D = true := by
  obtain ⟨a, b, c, d⟩ := slB_spec h
  exact decide_eq_true ⟨a, b, by omega, by omega⟩
theorem cmp_le {a b : Int} (h : a ≤ b) : cmpI a b ≤ 0 := by
  unfold cmpI
  split
  · omega
  · rw [if_pos (by omega)]; omega

set_option maxRecDepth 100000 in
theorem any_size (n : Int) (h1 : -9223372036854775807 ≤ n) (h2 : n ≤ 9223372036854775807) (w : World) :
    Calls Try.prog 26 #[.int .i64 n] w fun e w' => e = .returned (.int .i64 (max n (-n))) ∧ Below w.heap.size w w' := by
  rcases Int.lt_trichotomy n 0 with h | h | h
  · have e : max n (-n) = -n := by omega
    rw [e]
    have hl : n < -n := by omega
    go_enter Try.func26, Try.ntmps26
    go_wp2
    go_ret
    exact ⟨by first | rfl | (congr 2; omega), b0 w⟩
  · subst h
    go_enter Try.func26, Try.ntmps26
    go_wp2
    go_ret
    exact ⟨rfl, b0 w⟩
  · have e : max n (-n) = n := by omega
    rw [e]
    have hl : -n < n := by omega
    go_enter Try.func26, Try.ntmps26
    go_wp2
    go_ret
    exact ⟨by first | rfl | (congr 2; omega), b0 w⟩
set_option maxRecDepth 100000 in
set_option maxHeartbeats 2000000 in
theorem any_1 (n d : Int) (X : Option Addr) (C : Nat) (xs ys : List Bd)  (w : World)
    (c1 : ∀ w', Below w.heap.size w w' → Calls Try.prog 11 #[.slice X xs.length C] w' fun e w'' => ∃ A c, e = .returned (.slice A ys.length c) ∧ BR w'' A c ys ∧ Below w'.heap.size w' w'')
    (c2 : ∀ A c w, BR w A c ys → Calls Try.prog 24 #[.slice A ys.length c] w fun e w' => e = .returned (.tuple #[.int .i64 0, .int .i64 180]) ∧ Below w.heap.size w w') :
    Calls Try.prog 7 #[.agg #[.int .i64 n, .int .i64 d], .slice X xs.length C] w fun e w' => e = .returned (.bool true) ∧ Below w.heap.size w w' := by
  have hw := wakes9
  go_enter Try.func7, Try.ntmps7
  go_wp2_with fail
  refine (hw _).mono ?_
  rintro e w1 ⟨rfl, hb1⟩
  have f_s1 := kp hb1 (na w #[.int .i64 n, .int .i64 d] 52)
  have hB1 := bB (bA (b0 w) (.cells #[.int .i64 n, .int .i64 d] 52)) hb1
  obtain ⟨zs_a, zs_b, ls1⟩ := rcell f_s1
  go_wp2_with fail
  refine (c1 _ hB1).mono ?_
  rintro e wo ⟨A, c, rfl, hR, hbo⟩
  have hBo := bB hB1 hbo
  have f_so := kp hbo f_s1
  clear c1 hw hbo
  obtain ⟨zs_a, zs_b, ls2⟩ := rcell f_so
  go_wp2_with fail
  refine (c2 _ _ _ hR).mono ?_
  rintro e w3 ⟨rfl, hb3⟩
  have f_s3 := kp hb3 (f_so)
  have rd_b3 := hR.below hb3
  have hB3 := bB hBo hb3
  clear zs_a zs_b
  obtain ⟨zs_a, zs_b, ls3⟩ := rcell f_s3
  go_wp2
  go_ret
  exact ⟨rfl, hB3⟩

set_option maxRecDepth 100000 in
set_option maxHeartbeats 2000000 in
theorem any_2 (n d : Int) (X : Option Addr) (C : Nat) (xs ys : List Bd) (v : Int) (w : World)
    (c1 : ∀ w', Below w.heap.size w w' → Calls Try.prog 11 #[.slice X xs.length C] w' fun e w'' => ∃ A c, e = .returned (.slice A ys.length c) ∧ BR w'' A c ys ∧ Below w'.heap.size w' w'')
    (c2 : ∀ A c w, BR w A c ys → Calls Try.prog 24 #[.slice A ys.length c] w fun e w' => e = .returned (.tuple #[.int .i64 v, .int .i64 0]) ∧ Below w.heap.size w w')
    (c3 : ∀ w, Calls Try.prog 25 #[.int .i64 v, .agg #[.int .i64 n, .int .i64 d]] w fun e w' => e = .returned (.tuple #[.agg #[.int .i64 0, .int .i64 0, .int .i64 0, .int .i64 0], .int .i64 151]) ∧ Below w.heap.size w w') :
    Calls Try.prog 7 #[.agg #[.int .i64 n, .int .i64 d], .slice X xs.length C] w fun e w' => e = .returned (.bool true) ∧ Below w.heap.size w w' := by
  have hw := wakes9
  go_enter Try.func7, Try.ntmps7
  go_wp2_with fail
  refine (hw _).mono ?_
  rintro e w1 ⟨rfl, hb1⟩
  have f_s1 := kp hb1 (na w #[.int .i64 n, .int .i64 d] 52)
  have hB1 := bB (bA (b0 w) (.cells #[.int .i64 n, .int .i64 d] 52)) hb1
  obtain ⟨zs_a, zs_b, ls1⟩ := rcell f_s1
  go_wp2_with fail
  refine (c1 _ hB1).mono ?_
  rintro e wo ⟨A, c, rfl, hR, hbo⟩
  have hBo := bB hB1 hbo
  have f_so := kp hbo f_s1
  clear c1 hw hbo
  obtain ⟨zs_a, zs_b, ls2⟩ := rcell f_so
  go_wp2_with fail
  refine (c2 _ _ _ hR).mono ?_
  rintro e w3 ⟨rfl, hb3⟩
  have f_s3 := kp hb3 (f_so)
  have rd_b3 := hR.below hb3
  have hB3 := bB hBo hb3
  clear zs_a zs_b
  obtain ⟨zs_a, zs_b, ls3⟩ := rcell f_s3
  go_wp2_with fail
  refine (c3 _).mono ?_
  rintro e w4 ⟨rfl, hb4⟩
  have f_s4 := kp hb4 (f_s3)
  have rd_b4 := rd_b3.below hb4
  have hB4 := bB hB3 hb4
  clear zs_a zs_b
  obtain ⟨zs_a, zs_b, ls4⟩ := rcell f_s4
  go_wp2
  go_ret
  exact ⟨rfl, (bA hB4 (.cells #[.int .i64 0, .int .i64 0, .int .i64 0, .int .i64 0] 23))⟩

set_option maxRecDepth 100000 in
set_option maxHeartbeats 2000000 in
theorem any_3 (n d : Int) (X : Option Addr) (C : Nat) (xs ys : List Bd) (v N D : Int) (w : World)
    (c1 : ∀ w', Below w.heap.size w w' → Calls Try.prog 11 #[.slice X xs.length C] w' fun e w'' => ∃ A c, e = .returned (.slice A ys.length c) ∧ BR w'' A c ys ∧ Below w'.heap.size w' w'')
    (c2 : ∀ A c w, BR w A c ys → Calls Try.prog 24 #[.slice A ys.length c] w fun e w' => e = .returned (.tuple #[.int .i64 v, .int .i64 0]) ∧ Below w.heap.size w w')
    (c3 : ∀ w, Calls Try.prog 25 #[.int .i64 v, .agg #[.int .i64 n, .int .i64 d]] w fun e w' => e = .returned (.tuple #[.agg #[.int .i64 v, .int .i64 0, .int .i64 N, .int .i64 D], .int .i64 0]) ∧ Below w.heap.size w w')
    (c4 : ∀ A c w, BR w A c ys → Calls Try.prog 14 #[.agg #[.int .i64 v, .int .i64 0, .int .i64 N, .int .i64 D], .slice A ys.length c] w fun e w' => e = .returned (.bool false) ∧ Below w.heap.size w w') :
    Calls Try.prog 7 #[.agg #[.int .i64 n, .int .i64 d], .slice X xs.length C] w fun e w' => e = .returned (.bool true) ∧ Below w.heap.size w w' := by
  have hw := wakes9
  go_enter Try.func7, Try.ntmps7
  go_wp2_with fail
  refine (hw _).mono ?_
  rintro e w1 ⟨rfl, hb1⟩
  have f_s1 := kp hb1 (na w #[.int .i64 n, .int .i64 d] 52)
  have hB1 := bB (bA (b0 w) (.cells #[.int .i64 n, .int .i64 d] 52)) hb1
  obtain ⟨zs_a, zs_b, ls1⟩ := rcell f_s1
  go_wp2_with fail
  refine (c1 _ hB1).mono ?_
  rintro e wo ⟨A, c, rfl, hR, hbo⟩
  have hBo := bB hB1 hbo
  have f_so := kp hbo f_s1
  clear c1 hw hbo
  obtain ⟨zs_a, zs_b, ls2⟩ := rcell f_so
  go_wp2_with fail
  refine (c2 _ _ _ hR).mono ?_
  rintro e w3 ⟨rfl, hb3⟩
  have f_s3 := kp hb3 (f_so)
  have rd_b3 := hR.below hb3
  have hB3 := bB hBo hb3
  clear zs_a zs_b
  obtain ⟨zs_a, zs_b, ls3⟩ := rcell f_s3
  go_wp2_with fail
  refine (c3 _).mono ?_
  rintro e w4 ⟨rfl, hb4⟩
  have f_s4 := kp hb4 (f_s3)
  have rd_b4 := rd_b3.below hb4
  have hB4 := bB hB3 hb4
  clear zs_a zs_b
  obtain ⟨zs_a, zs_b, ls4⟩ := rcell f_s4
  go_wp2_with fail
  refine (c4 _ _ _ (rd_b4.below (bA (b0 _) (.cells #[.int .i64 v, .int .i64 0, .int .i64 N, .int .i64 D] 23)))).mono ?_
  rintro e w5 ⟨rfl, hb5⟩
  have f_s5 := kp hb5 (ka (f_s4) (.cells #[.int .i64 v, .int .i64 0, .int .i64 N, .int .i64 D] 23))
  have f_a5 := kp hb5 (na w4 #[.int .i64 v, .int .i64 0, .int .i64 N, .int .i64 D] 23)
  have rd_b5 := (rd_b4.below (bA (b0 _) (.cells #[.int .i64 v, .int .i64 0, .int .i64 N, .int .i64 D] 23))).below hb5
  have hB5 := bB (bA hB4 (.cells #[.int .i64 v, .int .i64 0, .int .i64 N, .int .i64 D] 23)) hb5
  clear zs_a zs_b
  obtain ⟨zs_a, zs_b, ls5⟩ := rcell f_s5
  obtain ⟨za_a, za_b, la5⟩ := rcell f_a5
  go_wp2
  go_ret
  exact ⟨rfl, hB5⟩

set_option maxRecDepth 100000 in
set_option maxHeartbeats 2000000 in
theorem any_4 (n d : Int) (X : Option Addr) (C : Nat) (xs ys : List Bd) (v N D P Q p q k : Int) (hk : decide (k ≤ 0) = true) (w : World)
    (c1 : ∀ w', Below w.heap.size w w' → Calls Try.prog 11 #[.slice X xs.length C] w' fun e w'' => ∃ A c, e = .returned (.slice A ys.length c) ∧ BR w'' A c ys ∧ Below w'.heap.size w' w'')
    (c2 : ∀ A c w, BR w A c ys → Calls Try.prog 24 #[.slice A ys.length c] w fun e w' => e = .returned (.tuple #[.int .i64 v, .int .i64 0]) ∧ Below w.heap.size w w')
    (c3 : ∀ w, Calls Try.prog 25 #[.int .i64 v, .agg #[.int .i64 n, .int .i64 d]] w fun e w' => e = .returned (.tuple #[.agg #[.int .i64 v, .int .i64 0, .int .i64 N, .int .i64 D], .int .i64 0]) ∧ Below w.heap.size w w')
    (c4 : ∀ A c w, BR w A c ys → Calls Try.prog 14 #[.agg #[.int .i64 v, .int .i64 0, .int .i64 N, .int .i64 D], .slice A ys.length c] w fun e w' => e = .returned (.bool true) ∧ Below w.heap.size w w')
    (c5 : ∀ A c w, BR w A c ys → Calls Try.prog 12 #[.slice A ys.length c] w fun e w' => e = .returned (.tuple #[.agg #[.int .i64 v, .int .i64 0, .int .i64 P, .int .i64 Q], .int .i64 0]) ∧ Below w.heap.size w w')
    (c6 : ∀ w, Calls Try.prog 26 #[.int .i64 P] w fun e w' => e = .returned (.int .i64 p) ∧ Below w.heap.size w w')
    (c7 : ∀ w, Calls Try.prog 26 #[.int .i64 N] w fun e w' => e = .returned (.int .i64 q) ∧ Below w.heap.size w w')
    (c8 : ∀ w, Calls Try.prog 27 #[.agg #[.int .i64 p, .int .i64 Q], .agg #[.int .i64 q, .int .i64 D]] w fun e w' => e = .returned (.tuple #[.int .i64 k, .bool true]) ∧ Below w.heap.size w w') :
    Calls Try.prog 7 #[.agg #[.int .i64 n, .int .i64 d], .slice X xs.length C] w fun e w' => e = .returned (.bool true) ∧ Below w.heap.size w w' := by
  have hw := wakes9
  go_enter Try.func7, Try.ntmps7
  go_wp2_with fail
  refine (hw _).mono ?_
  rintro e w1 ⟨rfl, hb1⟩
  have f_s1 := kp hb1 (na w #[.int .i64 n, .int .i64 d] 52)
  have hB1 := bB (bA (b0 w) (.cells #[.int .i64 n, .int .i64 d] 52)) hb1
  obtain ⟨zs_a, zs_b, ls1⟩ := rcell f_s1
  go_wp2_with fail
  refine (c1 _ hB1).mono ?_
  rintro e wo ⟨A, c, rfl, hR, hbo⟩
  have hBo := bB hB1 hbo
  have f_so := kp hbo f_s1
  clear c1 hw hbo
  obtain ⟨zs_a, zs_b, ls2⟩ := rcell f_so
  go_wp2_with fail
  refine (c2 _ _ _ hR).mono ?_
  rintro e w3 ⟨rfl, hb3⟩
  have f_s3 := kp hb3 (f_so)
  have rd_b3 := hR.below hb3
  have hB3 := bB hBo hb3
  clear zs_a zs_b
  obtain ⟨zs_a, zs_b, ls3⟩ := rcell f_s3
  go_wp2_with fail
  refine (c3 _).mono ?_
  rintro e w4 ⟨rfl, hb4⟩
  have f_s4 := kp hb4 (f_s3)
  have rd_b4 := rd_b3.below hb4
  have hB4 := bB hB3 hb4
  clear zs_a zs_b
  obtain ⟨zs_a, zs_b, ls4⟩ := rcell f_s4
  go_wp2_with fail
  refine (c4 _ _ _ (rd_b4.below (bA (b0 _) (.cells #[.int .i64 v, .int .i64 0, .int .i64 N, .int .i64 D] 23)))).mono ?_
  rintro e w5 ⟨rfl, hb5⟩
  have f_s5 := kp hb5 (ka (f_s4) (.cells #[.int .i64 v, .int .i64 0, .int .i64 N, .int .i64 D] 23))
  have f_a5 := kp hb5 (na w4 #[.int .i64 v, .int .i64 0, .int .i64 N, .int .i64 D] 23)
  have rd_b5 := (rd_b4.below (bA (b0 _) (.cells #[.int .i64 v, .int .i64 0, .int .i64 N, .int .i64 D] 23))).below hb5
  have hB5 := bB (bA hB4 (.cells #[.int .i64 v, .int .i64 0, .int .i64 N, .int .i64 D] 23)) hb5
  clear zs_a zs_b
  obtain ⟨zs_a, zs_b, ls5⟩ := rcell f_s5
  obtain ⟨za_a, za_b, la5⟩ := rcell f_a5
  go_wp2_with fail
  refine (c5 _ _ _ rd_b5).mono ?_
  rintro e w6 ⟨rfl, hb6⟩
  have f_s6 := kp hb6 (f_s5)
  have f_a6 := kp hb6 (f_a5)
  have rd_b6 := rd_b5.below hb6
  have hB6 := bB hB5 hb6
  clear za_a za_b zs_a zs_b
  obtain ⟨zs_a, zs_b, ls6⟩ := rcell f_s6
  obtain ⟨za_a, za_b, la6⟩ := rcell f_a6
  go_wp2_with fail
  have f_s7 := (ka (f_s6) (.cells #[.int .i64 v, .int .i64 0, .int .i64 P, .int .i64 Q] 23))
  have f_a7 := (ka (f_a6) (.cells #[.int .i64 v, .int .i64 0, .int .i64 P, .int .i64 Q] 23))
  have f_f7 := (na w6 #[.int .i64 v, .int .i64 0, .int .i64 P, .int .i64 Q] 23)
  have hB7 := (bA hB6 (.cells #[.int .i64 v, .int .i64 0, .int .i64 P, .int .i64 Q] 23))
  clear za_a za_b zs_a zs_b
  have ls7 := (rcell f_s7).2.2
  have la7 := (rcell f_a7).2.2
  have lf7 := (rcell f_f7).2.2
  refine Abs.wp_region_abs (Abs.cls0 _) [0, 1, 2, 3, 4, 5, 6, 7, 8, 9, 10, 11, 12, 13, 14, 15, 16, 17, 18, 19] (by kernel_rfl) (by kernel_rfl) (Below.refl _ _).drew ?_
  repeat (first | (refine Abs.step_pure rfl rfl (fun K hK => ?_); go_simp; (try go_bits); (first | refine hK _ _ ?_ | (simp only [↓IntWalk.iteOmega]; go_simp; (try go_bits); refine hK _ _ ?_)); clear hK K) | (refine Abs.step_load (v := ?_) rfl rfl (by kernel_rfl) rfl (fun w0 hI => ?_) (fun K hK => ?_); rotate_left; (· have z0 := (rcell (kp hI (f_a7))).1; have z1 := (rcell (kp hI (f_f7))).1; go_simp; rfl); (simp only [Act.put, List.setIfInBounds_toArray, List.set_cons_zero, List.set_cons_succ]; refine hK _ _ ?_; clear hK K)) | (refine Abs.step_skip rfl rfl (fun K hK => ?_); (simp only [Act.put, List.setIfInBounds_toArray, List.set_cons_zero, List.set_cons_succ]; refine hK _ _ ?_; clear hK K)))
  (refine Abs.step_call_val (f := ?_) (args := ?_) (v := ?_) rfl rfl rfl rfl (fun w0 => ?_) (fun w0 hI => ?_) (fun K hK => ?_); rotate_left 3; (· go_simp; (constructor <;> rfl)); (· exact c6 _); (simp only [Act.put, List.setIfInBounds_toArray, List.set_cons_zero, List.set_cons_succ]; refine hK _ _ ?_; clear hK K))
  repeat (first | (refine Abs.step_pure rfl rfl (fun K hK => ?_); go_simp; (try go_bits); (first | refine hK _ _ ?_ | (simp only [↓IntWalk.iteOmega]; go_simp; (try go_bits); refine hK _ _ ?_)); clear hK K) | (refine Abs.step_load (v := ?_) rfl rfl (by kernel_rfl) rfl (fun w0 hI => ?_) (fun K hK => ?_); rotate_left; (· have z0 := (rcell (kp hI (f_a7))).1; have z1 := (rcell (kp hI (f_f7))).1; go_simp; rfl); (simp only [Act.put, List.setIfInBounds_toArray, List.set_cons_zero, List.set_cons_succ]; refine hK _ _ ?_; clear hK K)) | (refine Abs.step_skip rfl rfl (fun K hK => ?_); (simp only [Act.put, List.setIfInBounds_toArray, List.set_cons_zero, List.set_cons_succ]; refine hK _ _ ?_; clear hK K)))
  (refine Abs.step_call_val (f := ?_) (args := ?_) (v := ?_) rfl rfl rfl rfl (fun w0 => ?_) (fun w0 hI => ?_) (fun K hK => ?_); rotate_left 3; (· go_simp; (constructor <;> rfl)); (· exact c7 _); (simp only [Act.put, List.setIfInBounds_toArray, List.set_cons_zero, List.set_cons_succ]; refine hK _ _ ?_; clear hK K))
  repeat (first | (refine Abs.step_pure rfl rfl (fun K hK => ?_); go_simp; (try go_bits); (first | refine hK _ _ ?_ | (simp only [↓IntWalk.iteOmega]; go_simp; (try go_bits); refine hK _ _ ?_)); clear hK K) | (refine Abs.step_load (v := ?_) rfl rfl (by kernel_rfl) rfl (fun w0 hI => ?_) (fun K hK => ?_); rotate_left; (· have z0 := (rcell (kp hI (f_a7))).1; have z1 := (rcell (kp hI (f_f7))).1; go_simp; rfl); (simp only [Act.put, List.setIfInBounds_toArray, List.set_cons_zero, List.set_cons_succ]; refine hK _ _ ?_; clear hK K)) | (refine Abs.step_skip rfl rfl (fun K hK => ?_); (simp only [Act.put, List.setIfInBounds_toArray, List.set_cons_zero, List.set_cons_succ]; refine hK _ _ ?_; clear hK K)))
  (refine Abs.step_call_val (f := ?_) (args := ?_) (v := ?_) rfl rfl rfl rfl (fun w0 => ?_) (fun w0 hI => ?_) (fun K hK => ?_); rotate_left 3; (· go_simp; (constructor <;> rfl)); (· exact c8 _); (simp only [Act.put, List.setIfInBounds_toArray, List.set_cons_zero, List.set_cons_succ]; refine hK _ _ ?_; clear hK K))
  repeat (first | (refine Abs.step_pure rfl rfl (fun K hK => ?_); go_simp; (try go_bits); (first | refine hK _ _ ?_ | (simp only [↓IntWalk.iteOmega]; go_simp; (try go_bits); refine hK _ _ ?_)); clear hK K) | (refine Abs.step_load (v := ?_) rfl rfl (by kernel_rfl) rfl (fun w0 hI => ?_) (fun K hK => ?_); rotate_left; (· have z0 := (rcell (kp hI (f_a7))).1; have z1 := (rcell (kp hI (f_f7))).1; go_simp; rfl); (simp only [Act.put, List.setIfInBounds_toArray, List.set_cons_zero, List.set_cons_succ]; refine hK _ _ ?_; clear hK K)) | (refine Abs.step_skip rfl rfl (fun K hK => ?_); (simp only [Act.put, List.setIfInBounds_toArray, List.set_cons_zero, List.set_cons_succ]; refine hK _ _ ?_; clear hK K)))
  intro w8 hb8 hx0 hx1 hx2
  clear hx0 hx1 hx2
  simp only [Abs.T_setF, Abs.T_addA, Abs.T_push, Abs.T_start]
  have f_s8 := kp hb8 (f_s7)
  have f_a8 := kp hb8 (f_a7)
  have f_f8 := kp hb8 (f_f7)
  have hB8 := bB hB7 hb8
  obtain ⟨zs_a, zs_b, ls8⟩ := rcell f_s8
  obtain ⟨za_a, za_b, la8⟩ := rcell f_a8
  obtain ⟨zf_a, zf_b, lf8⟩ := rcell f_f8
  go_wp2
  go_ret
  exact ⟨rfl, hB8⟩

theorem swing_any (n d : Int) (X : Option Addr) (C : Nat) (xs : List Bd) (hn : xs.length ≤ C) (w : World) (hX : InB w X xs) :
    Calls Try.prog 7 #[.agg #[.int .i64 n, .int .i64 d], .slice X xs.length C] w fun e w' => e = .returned (.bool true) ∧ Below w.heap.size w w' := by
  have c1 := fun w' (hb : Below w.heap.size w w') => law9_own X C 260 xs rfl hn w' (hX.below hb)
  generalize xs.take 260 = ys at *
  cases h : okB ys
  · exact any_1 n d X C xs ys w c1 (fun A c w hR => swing_Hinge_no A c ys h w hR)
  · obtain ⟨k0, k1, k2⟩ := okB_spec h
    have c2 := fun A c w hR => swing_Hinge_yes A c ys h w hR
    rw [bd_head k0] at c2
    have r0 := bd_rg k2 0 k0
    have hm := hgB_mid r0.2.2.1
    have hv : bkB (hgB (bd ys 0)) = true := bk_of (by omega) (by omega)
    cases hs : slB n d
    · exact any_2 n d X C xs ys _ w c1 c2 (line_Of_slope _ n d hs)
    · have c3 := line_Of_yes (hgB (bd ys 0)) n d hv hs
      have hl := low_low hs
      cases ht : thrB (hgB (bd ys 0)) 0 (lwN n d) (lwD n d) (bd ys 0).t ys
      · exact any_3 n d X C xs ys _ _ _ w c1 c2 c3 (fun A c w hR => swing_Through_yes _ _ _ _ A c ys h false (hide (by rw [bd_head k0]; exact ht)) w hR)
      · have ho := any_open h hl ht
        have hnr := any_near h hl ht
        have hd := dk_ok h ys.length k0 (Nat.le_refl _)
        have hf := fl_low hd
        have c5 := fun A c w hR => swing_Fit_yes A c ys h ho w hR
        rw [(dr_inv h ys.length (by omega) (Nat.le_refl _)).v] at c5
        have b1 := slB_spec hf.1
        have b2 := slB_spec hl.1
        exact any_4 n d X C xs ys _ _ _ _ _ _ _ _ (decide_eq_true (cmp_le hnr)) w c1 c2 c3 (fun A c w hR => swing_Through_yes _ _ _ _ A c ys h true (hide (by rw [bd_head k0]; exact ht)) w hR) c5
          (any_size _ (by omega) (by omega)) (any_size _ (by omega) (by omega)) (line_Compare_yes _ _ _ _ (ab_low hf.1) (ab_low hl.1))
end Go.Proofs.Ytfdaabdibpcjeaa
