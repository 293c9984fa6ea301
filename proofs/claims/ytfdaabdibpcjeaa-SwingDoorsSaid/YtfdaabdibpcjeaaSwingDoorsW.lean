/- The walk of SwingDoors (yearbooklaw09). -/
import Derived.Test.YtfdaabdibpcjeaaEqualB
import Derived.Test.YtfdaabdibpcjeaaPB
import Derived.Test.YtfdaabdibpcjeaaPA
set_option linter.unusedSimpArgs false
set_option linter.unusedVariables false
namespace Go.Proofs.Ytfdaabdibpcjeaa
open Go.RowKit

set_option maxRecDepth 100000 in
set_option maxHeartbeats 2000000 in
theorem doors_no (X : Option Addr) (C : Nat) (xs ys : List Bd) (w : World)
    (c1 : ∀ w', Below w.heap.size w w' → Calls Try.prog 11 #[.slice X xs.length C] w' fun e w'' => ∃ A c, e = .returned (.slice A ys.length c) ∧ BR w'' A c ys ∧ Below w'.heap.size w' w'')
    (c2 : ∀ A c w, BR w A c ys → Calls Try.prog 24 #[.slice A ys.length c] w fun e w' => e = .returned (.tuple #[.int .i64 0, .int .i64 180]) ∧ Below w.heap.size w w')
    (c3 : ∀ A c w, BR w A c ys → Calls Try.prog 28 #[.slice A ys.length c] w fun e w' => e = .returned (.tuple #[.agg #[.int .i64 0, .int .i64 0], .agg #[.int .i64 0, .int .i64 0], .int .i64 180]) ∧ Below w.heap.size w w')
    (c4 : ∀ A c w, BR w A c ys → Calls Try.prog 13 #[.slice A ys.length c] w fun e w' => e = .returned (.bool false) ∧ Below w.heap.size w w') :
    Calls Try.prog 8 #[.slice X xs.length C] w fun e w' => e = .returned (.bool true) ∧ Below w.heap.size w w' := by
  have hw := wakes9
  go_enter Try.func8, Try.ntmps8
  go_wp2_with fail
  refine (hw _).mono ?_
  rintro e w1 ⟨rfl, hb1⟩
  have hB1 := bB (b0 w) hb1
  go_wp2_with fail
  refine (c1 _ hB1).mono ?_
  rintro e wo ⟨A, c, rfl, hR, hbo⟩
  have hBo := bB hB1 hbo
  clear c1 hw hbo
  go_wp2_with fail
  refine (c2 _ _ _ hR).mono ?_
  rintro e w2 ⟨rfl, hb2⟩
  have rd_b2 := hR.below hb2
  have hB2 := bB hBo hb2
  go_wp2_with fail
  refine (c3 _ _ _ rd_b2).mono ?_
  rintro e w3 ⟨rfl, hb3⟩
  have rd_b3 := rd_b2.below hb3
  have hB3 := bB hB2 hb3
  go_wp2_with fail
  refine (c4 _ _ _ (rd_b3.below (bA (bA (b0 _) (.cells #[.int .i64 0, .int .i64 0] 52)) (.cells #[.int .i64 0, .int .i64 0] 52)))).mono ?_
  rintro e w4 ⟨rfl, hb4⟩
  have f_p4 := kp hb4 (ka (na w3 #[.int .i64 0, .int .i64 0] 52) (.cells #[.int .i64 0, .int .i64 0] 52))
  have f_q4 := kp hb4 (na1 w3 (.cells #[.int .i64 0, .int .i64 0] 52) #[.int .i64 0, .int .i64 0] 52)
  have rd_b4 := (rd_b3.below (bA (bA (b0 _) (.cells #[.int .i64 0, .int .i64 0] 52)) (.cells #[.int .i64 0, .int .i64 0] 52))).below hb4
  have hB4 := bB (bA (bA hB3 (.cells #[.int .i64 0, .int .i64 0] 52)) (.cells #[.int .i64 0, .int .i64 0] 52)) hb4
  obtain ⟨zp_a, zp_b, lp4⟩ := rcell f_p4
  obtain ⟨zq_a, zq_b, lq4⟩ := rcell f_q4
  go_wp2
  go_ret
  exact ⟨rfl, hB4⟩

set_option maxRecDepth 100000 in
set_option maxHeartbeats 2000000 in
theorem doors_one (X : Option Addr) (C : Nat) (xs ys : List Bd) (n : Nat) (H : Int) (h1 : Hid (ys.length = n)) (hn : n = 1) (w : World)
    (c1 : ∀ w', Below w.heap.size w w' → Calls Try.prog 11 #[.slice X xs.length C] w' fun e w'' => ∃ A c, e = .returned (.slice A n c) ∧ BR w'' A c ys ∧ Below w'.heap.size w' w'')
    (c2 : ∀ A c w, BR w A c ys → Calls Try.prog 24 #[.slice A n c] w fun e w' => e = .returned (.tuple #[.int .i64 H, .int .i64 0]) ∧ Below w.heap.size w w')
    (c3 : ∀ A c w, BR w A c ys → Calls Try.prog 28 #[.slice A n c] w fun e w' => e = .returned (.tuple #[.agg #[.int .i64 0, .int .i64 0], .agg #[.int .i64 0, .int .i64 0], .int .i64 9]) ∧ Below w.heap.size w w')
    (c4 : ∀ A c w, BR w A c ys → Calls Try.prog 13 #[.slice A n c] w fun e w' => e = .returned (.bool true) ∧ Below w.heap.size w w')
    (c5 : ∀ A c w, BR w A c ys → Calls Try.prog 29 #[.slice A n c] w fun e w' => e = .returned (.int .i64 H) ∧ Below w.heap.size w w') :
    Calls Try.prog 8 #[.slice X xs.length C] w fun e w' => e = .returned (.bool true) ∧ Below w.heap.size w w' := by
  subst hn
  have hw := wakes9
  go_enter Try.func8, Try.ntmps8
  go_wp2_with fail
  refine (hw _).mono ?_
  rintro e w1 ⟨rfl, hb1⟩
  have hB1 := bB (b0 w) hb1
  go_wp2_with fail
  refine (c1 _ hB1).mono ?_
  rintro e wo ⟨A, c, rfl, hR, hbo⟩
  have hBo := bB hB1 hbo
  clear c1 hw hbo
  go_wp2_with fail
  refine (c2 _ _ _ hR).mono ?_
  rintro e w2 ⟨rfl, hb2⟩
  have rd_b2 := hR.below hb2
  have hB2 := bB hBo hb2
  go_wp2_with fail
  refine (c3 _ _ _ rd_b2).mono ?_
  rintro e w3 ⟨rfl, hb3⟩
  have rd_b3 := rd_b2.below hb3
  have hB3 := bB hB2 hb3
  go_wp2_with fail
  refine (c4 _ _ _ (rd_b3.below (bA (bA (b0 _) (.cells #[.int .i64 0, .int .i64 0] 52)) (.cells #[.int .i64 0, .int .i64 0] 52)))).mono ?_
  rintro e w4 ⟨rfl, hb4⟩
  have f_p4 := kp hb4 (ka (na w3 #[.int .i64 0, .int .i64 0] 52) (.cells #[.int .i64 0, .int .i64 0] 52))
  have f_q4 := kp hb4 (na1 w3 (.cells #[.int .i64 0, .int .i64 0] 52) #[.int .i64 0, .int .i64 0] 52)
  have rd_b4 := (rd_b3.below (bA (bA (b0 _) (.cells #[.int .i64 0, .int .i64 0] 52)) (.cells #[.int .i64 0, .int .i64 0] 52))).below hb4
  have hB4 := bB (bA (bA hB3 (.cells #[.int .i64 0, .int .i64 0] 52)) (.cells #[.int .i64 0, .int .i64 0] 52)) hb4
  obtain ⟨zp_a, zp_b, lp4⟩ := rcell f_p4
  obtain ⟨zq_a, zq_b, lq4⟩ := rcell f_q4
  go_wp2_with fail
  refine (c5 _ _ _ rd_b4).mono ?_
  rintro e w5 ⟨rfl, hb5⟩
  have f_p5 := kp hb5 (f_p4)
  have f_q5 := kp hb5 (f_q4)
  have rd_b5 := rd_b4.below hb5
  have hB5 := bB hB4 hb5
  clear zp_a zp_b zq_a zq_b
  obtain ⟨zp_a, zp_b, lp5⟩ := rcell f_p5
  obtain ⟨zq_a, zq_b, lq5⟩ := rcell f_q5
  go_wp2
  go_ret
  exact ⟨rfl, hB5⟩

set_option maxRecDepth 100000 in
set_option maxHeartbeats 2000000 in
theorem doors_yes (X : Option Addr) (C : Nat) (xs ys : List Bd) (n : Nat) (H a0 a1 u0 u1 : Int) (hn : ((n : Int) == 1) = false) (hC : n ≤ C) (hnC : 2 ≤ n) (w : World) (hX : InB w X ys)
    (c1 : ∀ w', Below w.heap.size w w' → Calls Try.prog 11 #[.slice X xs.length C] w' fun e w'' => ∃ A c, e = .returned (.slice A n c) ∧ BR w'' A c ys ∧ Below w'.heap.size w' w'')
    (c2 : ∀ A c w, BR w A c ys → Calls Try.prog 24 #[.slice A n c] w fun e w' => e = .returned (.tuple #[.int .i64 H, .int .i64 0]) ∧ Below w.heap.size w w')
    (c3 : ∀ A c w, BR w A c ys → Calls Try.prog 28 #[.slice A n c] w fun e w' => e = .returned (.tuple #[.agg #[.int .i64 a0, .int .i64 a1], .agg #[.int .i64 u0, .int .i64 u1], .int .i64 0]) ∧ Below w.heap.size w w')
    (c4 : ∀ A c w, BR w A c ys → Calls Try.prog 13 #[.slice A n c] w fun e w' => e = .returned (.bool true) ∧ Below w.heap.size w w')
    (c5 : ∀ A c w, BR w A c ys → Calls Try.prog 29 #[.slice A n c] w fun e w' => e = .returned (.int .i64 H) ∧ Below w.heap.size w w')
    (c6 : ∀ A c w, BR w A c ys → Calls Try.prog 30 #[.slice A n c] w fun e w' => e = .returned (.tuple #[.agg #[.int .i64 a0, .int .i64 a1], .agg #[.int .i64 u0, .int .i64 u1]]) ∧ Below w.heap.size w w')
    (c7 : ∀ A c w, BR w A c ys → InB w X ys → Calls Try.prog 31 #[.slice A n c, .slice X n C] w fun e w' => e = .returned (.bool true) ∧ Below w.heap.size w w') :
    Calls Try.prog 8 #[.slice X xs.length C] w fun e w' => e = .returned (.bool true) ∧ Below w.heap.size w w' := by
  have hw := wakes9
  go_enter Try.func8, Try.ntmps8
  go_wp2_with fail
  refine (hw _).mono ?_
  rintro e w1 ⟨rfl, hb1⟩
  have hB1 := bB (b0 w) hb1
  go_wp2_with fail
  refine (c1 _ hB1).mono ?_
  rintro e wo ⟨A, c, rfl, hR, hbo⟩
  have hBo := bB hB1 hbo
  clear c1 hw hbo
  go_wp2_with fail
  refine (c2 _ _ _ hR).mono ?_
  rintro e w2 ⟨rfl, hb2⟩
  have rd_b2 := hR.below hb2
  have hB2 := bB hBo hb2
  go_wp2_with fail
  refine (c3 _ _ _ rd_b2).mono ?_
  rintro e w3 ⟨rfl, hb3⟩
  have rd_b3 := rd_b2.below hb3
  have hB3 := bB hB2 hb3
  go_wp2_with fail
  refine (c4 _ _ _ (rd_b3.below (bA (bA (b0 _) (.cells #[.int .i64 a0, .int .i64 a1] 52)) (.cells #[.int .i64 u0, .int .i64 u1] 52)))).mono ?_
  rintro e w4 ⟨rfl, hb4⟩
  have f_p4 := kp hb4 (ka (na w3 #[.int .i64 a0, .int .i64 a1] 52) (.cells #[.int .i64 u0, .int .i64 u1] 52))
  have f_q4 := kp hb4 (na1 w3 (.cells #[.int .i64 a0, .int .i64 a1] 52) #[.int .i64 u0, .int .i64 u1] 52)
  have rd_b4 := (rd_b3.below (bA (bA (b0 _) (.cells #[.int .i64 a0, .int .i64 a1] 52)) (.cells #[.int .i64 u0, .int .i64 u1] 52))).below hb4
  have hB4 := bB (bA (bA hB3 (.cells #[.int .i64 a0, .int .i64 a1] 52)) (.cells #[.int .i64 u0, .int .i64 u1] 52)) hb4
  obtain ⟨zp_a, zp_b, lp4⟩ := rcell f_p4
  obtain ⟨zq_a, zq_b, lq4⟩ := rcell f_q4
  go_wp2_with fail
  refine (c5 _ _ _ rd_b4).mono ?_
  rintro e w5 ⟨rfl, hb5⟩
  have f_p5 := kp hb5 (f_p4)
  have f_q5 := kp hb5 (f_q4)
  have rd_b5 := rd_b4.below hb5
  have hB5 := bB hB4 hb5
  clear zp_a zp_b zq_a zq_b
  obtain ⟨zp_a, zp_b, lp5⟩ := rcell f_p5
  obtain ⟨zq_a, zq_b, lq5⟩ := rcell f_q5
  go_wp2_with fail
  refine (c6 _ _ _ rd_b5).mono ?_
  rintro e w6 ⟨rfl, hb6⟩
  have f_p6 := kp hb6 (f_p5)
  have f_q6 := kp hb6 (f_q5)
  have rd_b6 := rd_b5.below hb6
  have hB6 := bB hB5 hb6
  clear zp_a zp_b zq_a zq_b
  obtain ⟨zp_a, zp_b, lp6⟩ := rcell f_p6
  obtain ⟨zq_a, zq_b, lq6⟩ := rcell f_q6
  have hXn := hX.below ((bA (bA hB6 (.cells #[.int .i64 a0, .int .i64 a1] 52)) (.cells #[.int .i64 u0, .int .i64 u1] 52)))
  go_wp2_with fail
  refine (c7 _ _ _ (rd_b6.below (bA (bA (b0 _) (.cells #[.int .i64 a0, .int .i64 a1] 52)) (.cells #[.int .i64 u0, .int .i64 u1] 52))) hXn).mono ?_
  rintro e w7 ⟨rfl, hb7⟩
  have f_p7 := kp hb7 (ka (ka (f_p6) (.cells #[.int .i64 a0, .int .i64 a1] 52)) (.cells #[.int .i64 u0, .int .i64 u1] 52))
  have f_q7 := kp hb7 (ka (ka (f_q6) (.cells #[.int .i64 a0, .int .i64 a1] 52)) (.cells #[.int .i64 u0, .int .i64 u1] 52))
  have f_s7 := kp hb7 (ka (na w6 #[.int .i64 a0, .int .i64 a1] 52) (.cells #[.int .i64 u0, .int .i64 u1] 52))
  have f_t7 := kp hb7 (na1 w6 (.cells #[.int .i64 a0, .int .i64 a1] 52) #[.int .i64 u0, .int .i64 u1] 52)
  have rd_b7 := (rd_b6.below (bA (bA (b0 _) (.cells #[.int .i64 a0, .int .i64 a1] 52)) (.cells #[.int .i64 u0, .int .i64 u1] 52))).below hb7
  have hB7 := bB (bA (bA hB6 (.cells #[.int .i64 a0, .int .i64 a1] 52)) (.cells #[.int .i64 u0, .int .i64 u1] 52)) hb7
  clear zp_a zp_b zq_a zq_b
  obtain ⟨zp_a, zp_b, lp7⟩ := rcell f_p7
  obtain ⟨zq_a, zq_b, lq7⟩ := rcell f_q7
  obtain ⟨zs_a, zs_b, ls7⟩ := rcell f_s7
  obtain ⟨zt_a, zt_b, lt7⟩ := rcell f_t7
  go_wp2
  go_ret
  exact ⟨rfl, hB7⟩

theorem walk_doors (X : Option Addr) (C : Nat) (xs : List Bd) (hn : xs.length ≤ C) (w : World) (hX : InB w X xs) :
    Calls Try.prog 8 #[.slice X xs.length C] w fun e w' => e = .returned (.bool true) ∧ Below w.heap.size w w' := by
  have c1 := fun w' (hb : Below w.heap.size w w') => law9_own X C 260 xs rfl hn w' (hX.below hb)
  have hY := hX.take 260
  have hl : (xs.take 260).length = min 260 xs.length := List.length_take
  have hl2 : (xs.take 260).length ≤ C := by omega
  clear hl
  generalize xs.take 260 = ys at *
  have c4 := fun A c w hR => ref8_Right A c ys w hR
  cases h : okB ys
  · rw [h] at c4
    exact doors_no X C xs ys w c1 (fun A c w hR => swing_Hinge_no A c ys h w hR) (fun A c w hR => swing_Door_no A c ys h w hR) c4
  · rw [h] at c4
    obtain ⟨k0, k1, k2⟩ := okB_spec h
    have c2 := fun A c w hR => swing_Hinge_yes A c ys h w hR
    have c5 : ∀ A c w, BR w A c ys → Calls Try.prog 29 #[.slice A ys.length c] w fun e w' => e = .returned (.int .i64 (hgB (ys.headD ⟨0, 0, 0⟩))) ∧ Below w.heap.size w w' := by
      intro A c w hR
      obtain ⟨g, o, cur, rfl, hg, hc⟩ := hR.mem k0
      have he := hc 0 k0
      have hb := bdB_spec (okF_el k2 0 k0)
      have eh : ys.headD ⟨0, 0, 0⟩ = ys[0] := by cases ys with | nil => simp at k0 | cons a l => rfl
      rw [eh]
      simp only [Nat.zero_mul, Nat.add_zero] at he
      exact ref9_Hinge g o ys.length c ys[0] k0 cur he.2.1 he.2.2 hb.2.2.2.1 hb.2.2.2.2 w hg
    by_cases h1 : ys.length = 1
    · exact doors_one X C xs ys ys.length _ (hide rfl) h1 w c1 c2 (fun A c w hR => swing_Door_one A c ys h h1 w hR) c4 c5
    · exact doors_yes X C xs ys ys.length _ _ _ _ _ (by rw [beq_eq_false_iff_ne]; omega) hl2 (by omega) w hY c1 c2 (fun A c w hR => swing_Door_yes A c ys h (by omega) w hR) c4 c5 (fun A c w hR => ref9_Door A c ys h (by omega) w hR)
        (fun A c w hR hX => equal_band A X c C ys k0 (by omega) w hR hX)
end Go.Proofs.Ytfdaabdibpcjeaa
