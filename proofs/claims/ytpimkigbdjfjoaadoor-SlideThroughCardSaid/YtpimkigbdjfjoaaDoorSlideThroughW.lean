/- The walk of SlideThrough (yearbooklaw10). -/
import Derived.Test.YtpimkigbdjfjoaaDoorLawA4
set_option linter.unusedSimpArgs false
set_option linter.unusedVariables false
namespace Go.Proofs.YtpimkigbdjfjoaaDoor
open Go.RowKit
variable {ta : TypeId}
attribute [local go_sem] Oper.semAt_some

set_option maxRecDepth 100000 in
set_option maxHeartbeats 2000000 in
theorem sthr_1 (x y n d : Int) (X : Option Addr) (C : Nat) (xs ys : List Bd) (E : Bool) (h1 : ys.length ≤ 257) (w : World) (hall : w.heap[0]? = some (.cells all4 ta (0, 0)))
    (c1 : ∀ w', Below w.heap.size w w' → Calls Tryd.prog 12 #[.slice X xs.length C, .int .i64 257] w' fun e w'' => ∃ A c, e = .returned (.slice A ys.length c) ∧ BR w'' A c ys ∧ Below w'.heap.size w' w'')
    (c2 : ∀ A c w, BR w A c ys → Calls Tryd.prog 15 #[.slice A ys.length c] w fun e w' => e = .returned (.bool false) ∧ Below w.heap.size w w')
    (c5 : ∀ A c w, BR w A c ys → Calls Tryd.prog 21 #[.slice A ys.length c, .agg #[.int .i64 x, .int .i64 y, .int .i64 n, .int .i64 d]] w fun e w' => e = .returned (.bool false) ∧ Below w.heap.size w w') :
    Calls Tryd.prog 4 #[.slice X xs.length C, .agg #[.int .i64 x, .int .i64 y, .int .i64 n, .int .i64 d]] w fun e w' => e = .returned (.bool true) ∧ Below w.heap.size w w' := by
  have hw := fun w (ha : w.heap[0]? = some (.cells all4 ta (0, 0))) => wakesA w ha
  go_enter Tryd.func4, Tryd.ntmps4
  obtain ⟨za_a, za_b, la0⟩ := rcell hall
  go_wp2_with fail
  refine (hw _ (ka (hall) (.cells #[.int .i64 x, .int .i64 y, .int .i64 n, .int .i64 d] 31))).mono ?_
  rintro e w1 ⟨rfl, hb1⟩
  have f_a1 := kp hb1 (ka (hall) (.cells #[.int .i64 x, .int .i64 y, .int .i64 n, .int .i64 d] 31))
  have f_s1 := kp hb1 (na w #[.int .i64 x, .int .i64 y, .int .i64 n, .int .i64 d] 31)
  have hB1 := bB (bA (b0 w) (.cells #[.int .i64 x, .int .i64 y, .int .i64 n, .int .i64 d] 31)) hb1
  clear za_a za_b
  obtain ⟨za_a, za_b, la1⟩ := rcell f_a1
  obtain ⟨zs_a, zs_b, ls1⟩ := rcell f_s1
  go_wp2_with fail
  refine (c1 _ hB1).mono ?_
  rintro e wo ⟨A, c, rfl, hR, hbo⟩
  have hBo := bB hB1 hbo
  have f_so := kp hbo f_s1
  clear hbo
  obtain ⟨zs_a, zs_b, ls2⟩ := rcell f_so
  go_wp2_with fail
  refine (c2 _ _ _ hR).mono ?_
  rintro e w3 ⟨rfl, hb3⟩
  have f_s3 := kp hb3 (f_so)
  have rd_b3 := hR.below hb3
  have hB3 := bB hBo hb3
  clear zs_a zs_b
  obtain ⟨zs_a, zs_b, ls3⟩ := rcell f_s3
  go_wp2_with fail
  refine (c5 _ _ _ rd_b3).mono ?_
  rintro e w4 ⟨rfl, hb4⟩
  have f_s4 := kp hb4 (f_s3)
  have rd_b4 := rd_b3.below hb4
  have hB4 := bB hB3 hb4
  clear zs_a zs_b
  obtain ⟨zs_a, zs_b, ls4⟩ := rcell f_s4
  have RB := hide rd_b4
  go_wp2_with fail
  refine (c1 _ hB4).mono ?_
  rintro e wp ⟨A', c', rfl, hR', hbp⟩
  have hBp := bB hB4 hbp
  have RC := hide (RB.out.below hbp)
  clear c1 hw RB
  go_wp2_with fail
  refine (equal_two _ _ _ _ ys (by omega) _ RC.out hR').mono ?_
  rintro e w5 ⟨rfl, hb5⟩
  have hB5 := bB hBp hb5
  go_wp2
  go_ret
  exact ⟨by simp, hB5⟩

set_option maxRecDepth 100000 in
set_option maxHeartbeats 2000000 in
theorem sthr_2 (x y n d : Int) (X : Option Addr) (C : Nat) (xs ys : List Bd) (E : Bool) (h1 : ys.length ≤ 257) (w : World) (hall : w.heap[0]? = some (.cells all4 ta (0, 0)))
    (c1 : ∀ w', Below w.heap.size w w' → Calls Tryd.prog 12 #[.slice X xs.length C, .int .i64 257] w' fun e w'' => ∃ A c, e = .returned (.slice A ys.length c) ∧ BR w'' A c ys ∧ Below w'.heap.size w' w'')
    (c2 : ∀ A c w, BR w A c ys → Calls Tryd.prog 15 #[.slice A ys.length c] w fun e w' => e = .returned (.bool true) ∧ Below w.heap.size w w')
    (c3 : ∀ w, Calls Tryd.prog 19 #[.agg #[.int .i64 x, .int .i64 y, .int .i64 n, .int .i64 d]] w fun e w' => e = .returned (.bool false) ∧ Below w.heap.size w w')
    (c5 : ∀ A c w, BR w A c ys → Calls Tryd.prog 21 #[.slice A ys.length c, .agg #[.int .i64 x, .int .i64 y, .int .i64 n, .int .i64 d]] w fun e w' => e = .returned (.bool false) ∧ Below w.heap.size w w') :
    Calls Tryd.prog 4 #[.slice X xs.length C, .agg #[.int .i64 x, .int .i64 y, .int .i64 n, .int .i64 d]] w fun e w' => e = .returned (.bool true) ∧ Below w.heap.size w w' := by
  have hw := fun w (ha : w.heap[0]? = some (.cells all4 ta (0, 0))) => wakesA w ha
  go_enter Tryd.func4, Tryd.ntmps4
  obtain ⟨za_a, za_b, la0⟩ := rcell hall
  go_wp2_with fail
  refine (hw _ (ka (hall) (.cells #[.int .i64 x, .int .i64 y, .int .i64 n, .int .i64 d] 31))).mono ?_
  rintro e w1 ⟨rfl, hb1⟩
  have f_a1 := kp hb1 (ka (hall) (.cells #[.int .i64 x, .int .i64 y, .int .i64 n, .int .i64 d] 31))
  have f_s1 := kp hb1 (na w #[.int .i64 x, .int .i64 y, .int .i64 n, .int .i64 d] 31)
  have hB1 := bB (bA (b0 w) (.cells #[.int .i64 x, .int .i64 y, .int .i64 n, .int .i64 d] 31)) hb1
  clear za_a za_b
  obtain ⟨za_a, za_b, la1⟩ := rcell f_a1
  obtain ⟨zs_a, zs_b, ls1⟩ := rcell f_s1
  go_wp2_with fail
  refine (c1 _ hB1).mono ?_
  rintro e wo ⟨A, c, rfl, hR, hbo⟩
  have hBo := bB hB1 hbo
  have f_so := kp hbo f_s1
  clear hbo
  obtain ⟨zs_a, zs_b, ls2⟩ := rcell f_so
  go_wp2_with fail
  refine (c2 _ _ _ hR).mono ?_
  rintro e w3 ⟨rfl, hb3⟩
  have f_s3 := kp hb3 (f_so)
  have rd_b3 := hR.below hb3
  have hB3 := bB hBo hb3
  clear zs_a zs_b
  obtain ⟨zs_a, zs_b, ls3⟩ := rcell f_s3
  go_wp2_with fail
  refine (c3 _).mono ?_
  rintro e w4 ⟨rfl, hb4⟩
  have f_s4 := kp hb4 (f_s3)
  have rd_b4 := rd_b3.below hb4
  have hB4 := bB hB3 hb4
  clear zs_a zs_b
  obtain ⟨zs_a, zs_b, ls4⟩ := rcell f_s4
  go_wp2_with fail
  refine (c5 _ _ _ rd_b4).mono ?_
  rintro e w5 ⟨rfl, hb5⟩
  have f_s5 := kp hb5 (f_s4)
  have rd_b5 := rd_b4.below hb5
  have hB5 := bB hB4 hb5
  clear zs_a zs_b
  obtain ⟨zs_a, zs_b, ls5⟩ := rcell f_s5
  have RB := hide rd_b5
  go_wp2_with fail
  refine (c1 _ hB5).mono ?_
  rintro e wp ⟨A', c', rfl, hR', hbp⟩
  have hBp := bB hB5 hbp
  have RC := hide (RB.out.below hbp)
  clear c1 hw RB
  go_wp2_with fail
  refine (equal_two _ _ _ _ ys (by omega) _ RC.out hR').mono ?_
  rintro e w6 ⟨rfl, hb6⟩
  have hB6 := bB hBp hb6
  go_wp2
  go_ret
  exact ⟨by simp, hB6⟩

set_option maxRecDepth 100000 in
set_option maxHeartbeats 2000000 in
theorem sthr_3 (x y n d : Int) (X : Option Addr) (C : Nat) (xs ys : List Bd) (E : Bool) (h1 : ys.length ≤ 257) (w : World) (hall : w.heap[0]? = some (.cells all4 ta (0, 0)))
    (c1 : ∀ w', Below w.heap.size w w' → Calls Tryd.prog 12 #[.slice X xs.length C, .int .i64 257] w' fun e w'' => ∃ A c, e = .returned (.slice A ys.length c) ∧ BR w'' A c ys ∧ Below w'.heap.size w' w'')
    (c2 : ∀ A c w, BR w A c ys → Calls Tryd.prog 15 #[.slice A ys.length c] w fun e w' => e = .returned (.bool true) ∧ Below w.heap.size w w')
    (c3 : ∀ w, Calls Tryd.prog 19 #[.agg #[.int .i64 x, .int .i64 y, .int .i64 n, .int .i64 d]] w fun e w' => e = .returned (.bool true) ∧ Below w.heap.size w w')
    (c4 : ∀ A c w, BR w A c ys → Calls Tryd.prog 20 #[.slice A ys.length c, .agg #[.int .i64 x, .int .i64 y, .int .i64 n, .int .i64 d]] w fun e w' => e = .returned (.bool E) ∧ Below w.heap.size w w')
    (c5 : ∀ A c w, BR w A c ys → Calls Tryd.prog 21 #[.slice A ys.length c, .agg #[.int .i64 x, .int .i64 y, .int .i64 n, .int .i64 d]] w fun e w' => e = .returned (.bool E) ∧ Below w.heap.size w w') :
    Calls Tryd.prog 4 #[.slice X xs.length C, .agg #[.int .i64 x, .int .i64 y, .int .i64 n, .int .i64 d]] w fun e w' => e = .returned (.bool true) ∧ Below w.heap.size w w' := by
  have hw := fun w (ha : w.heap[0]? = some (.cells all4 ta (0, 0))) => wakesA w ha
  go_enter Tryd.func4, Tryd.ntmps4
  obtain ⟨za_a, za_b, la0⟩ := rcell hall
  go_wp2_with fail
  refine (hw _ (ka (hall) (.cells #[.int .i64 x, .int .i64 y, .int .i64 n, .int .i64 d] 31))).mono ?_
  rintro e w1 ⟨rfl, hb1⟩
  have f_a1 := kp hb1 (ka (hall) (.cells #[.int .i64 x, .int .i64 y, .int .i64 n, .int .i64 d] 31))
  have f_s1 := kp hb1 (na w #[.int .i64 x, .int .i64 y, .int .i64 n, .int .i64 d] 31)
  have hB1 := bB (bA (b0 w) (.cells #[.int .i64 x, .int .i64 y, .int .i64 n, .int .i64 d] 31)) hb1
  clear za_a za_b
  obtain ⟨za_a, za_b, la1⟩ := rcell f_a1
  obtain ⟨zs_a, zs_b, ls1⟩ := rcell f_s1
  go_wp2_with fail
  refine (c1 _ hB1).mono ?_
  rintro e wo ⟨A, c, rfl, hR, hbo⟩
  have hBo := bB hB1 hbo
  have f_so := kp hbo f_s1
  clear hbo
  obtain ⟨zs_a, zs_b, ls2⟩ := rcell f_so
  go_wp2_with fail
  refine (c2 _ _ _ hR).mono ?_
  rintro e w3 ⟨rfl, hb3⟩
  have f_s3 := kp hb3 (f_so)
  have rd_b3 := hR.below hb3
  have hB3 := bB hBo hb3
  clear zs_a zs_b
  obtain ⟨zs_a, zs_b, ls3⟩ := rcell f_s3
  go_wp2_with fail
  refine (c3 _).mono ?_
  rintro e w4 ⟨rfl, hb4⟩
  have f_s4 := kp hb4 (f_s3)
  have rd_b4 := rd_b3.below hb4
  have hB4 := bB hB3 hb4
  clear zs_a zs_b
  obtain ⟨zs_a, zs_b, ls4⟩ := rcell f_s4
  go_wp2_with fail
  refine (c4 _ _ _ rd_b4).mono ?_
  rintro e w5 ⟨rfl, hb5⟩
  have f_s5 := kp hb5 (f_s4)
  have rd_b5 := rd_b4.below hb5
  have hB5 := bB hB4 hb5
  clear zs_a zs_b
  obtain ⟨zs_a, zs_b, ls5⟩ := rcell f_s5
  go_wp2_with fail
  refine (c5 _ _ _ rd_b5).mono ?_
  rintro e w6 ⟨rfl, hb6⟩
  have f_s6 := kp hb6 (f_s5)
  have rd_b6 := rd_b5.below hb6
  have hB6 := bB hB5 hb6
  clear zs_a zs_b
  obtain ⟨zs_a, zs_b, ls6⟩ := rcell f_s6
  have RB := hide rd_b6
  go_wp2_with fail
  refine (c1 _ hB6).mono ?_
  rintro e wp ⟨A', c', rfl, hR', hbp⟩
  have hBp := bB hB6 hbp
  have RC := hide (RB.out.below hbp)
  clear c1 hw RB
  go_wp2_with fail
  refine (equal_two _ _ _ _ ys (by omega) _ RC.out hR').mono ?_
  rintro e w7 ⟨rfl, hb7⟩
  have hB7 := bB hBp hb7
  go_wp2
  go_ret
  exact ⟨by simp, hB7⟩

theorem thrB_isB {x y n d t0 : Int} {l : List Bd} (h0 : 0 < l.length) (hI : isB x y n d = false) : thrB x y n d t0 l = false := by
  cases e : thrB x y n d t0 l
  · rfl
  · have := thrB_el e 0 h0
    unfold winB at this
    rw [decide_eq_true_iff] at this
    rw [this.1] at hI
    cases hI

theorem slide_through (x y n d : Int) (X : Option Addr) (C : Nat) (xs : List Bd) (hn : xs.length ≤ C) (w : World) (hall : w.heap[0]? = some (.cells all4 ta (0, 0))) (hX : InB w X xs) :
    Calls Tryd.prog 4 #[.slice X xs.length C, .agg #[.int .i64 x, .int .i64 y, .int .i64 n, .int .i64 d]] w fun e w' => e = .returned (.bool true) ∧ Below w.heap.size w w' := by
  have c1 := fun w' (hb : Below w.heap.size w w') => law10_few X C 257 xs (by decide) hn w' (hX.below hb)
  have h1 : (xs.take 257).length ≤ 257 := by rw [List.length_take]; omega
  generalize xs.take 257 = ys at *
  have c2 := fun A c w hR => ref10_Right A c ys w hR
  cases h : okB ys
  · rw [h] at c2
    exact sthr_1 x y n d X C xs ys false h1 w hall c1 c2 (fun A c w hR => slide_Through_no x y n d A c ys h w hR)
  · rw [h] at c2
    have k0 := (okB_spec h).1
    have c3 := fun w => ref_Right x y n d w
    cases hI : isB x y n d
    · rw [hI] at c3
      exact sthr_2 x y n d X C xs ys false h1 w hall c1 c2 c3 (fun A c w hR => slide_Through_yes x y n d A c ys h false (hide (thrB_isB k0 hI)) w hR)
    · rw [hI] at c3
      refine sthr_3 x y n d X C xs ys (thrB x y n d (bd ys 0).t ys) h1 w hall c1 c2 c3 (fun A c w hR => ref10_Through x y n d hI A c ys h _ (hide rfl) w hR) (fun A c w hR => slide_Through_yes x y n d A c ys h _ (hide ?_) w hR)
      rw [bd_head k0]
end Go.Proofs.YtpimkigbdjfjoaaDoor
