/- The walk of SlideCuts (yearbooklaw10). -/
import Derived.Test.YtpimkigbdjfjoaaDoorLawC1
set_option linter.unusedSimpArgs false
set_option linter.unusedVariables false
namespace Go.Proofs.YtpimkigbdjfjoaaDoor
open Go.RowKit
variable {ta : TypeId}
attribute [local go_sem] Oper.semAt_some

set_option maxRecDepth 100000 in
set_option maxHeartbeats 2000000 in
theorem scut_1 (X : Option Addr) (C : Nat) (xs ys : List Bd) (w : World) (hall : w.heap[0]? = some (.cells all4 ta (0, 0)))
    (c1 : ∀ w', Below w.heap.size w w' → Calls Tryd.prog 12 #[.slice X xs.length C, .int .i64 60] w' fun e w'' => ∃ A c, e = .returned (.slice A ys.length c) ∧ BR w'' A c ys ∧ Below w'.heap.size w' w'')
    (c2 : ∀ A c w, BR w A c ys → Calls Tryd.prog 15 #[.slice A ys.length c] w fun e w' => e = .returned (.bool false) ∧ Below w.heap.size w w')
    (c3 : ∀ A c w, BR w A c ys → Calls Tryd.prog 22 #[.slice A ys.length c] w fun e w' => e = .returned (.tuple #[.int .i64 0, .int .i64 180]) ∧ Below w.heap.size w w')
    (c4 : ∀ A c w, BR w A c ys → Calls Tryd.prog 23 #[.slice A ys.length c] w fun e w' => e = .returned (.tuple #[.slice none 0 0, .int .i64 180]) ∧ Below w.heap.size w w') :
    Calls Tryd.prog 5 #[.slice X xs.length C] w fun e w' => e = .returned (.bool true) ∧ Below w.heap.size w w' := by
  have hw := fun w (ha : w.heap[0]? = some (.cells all4 ta (0, 0))) => wakesA w ha
  go_enter Tryd.func5, Tryd.ntmps5
  obtain ⟨za_a, za_b, la0⟩ := rcell hall
  go_wp2_with fail
  refine (hw _ (hall)).mono ?_
  rintro e w1 ⟨rfl, hb1⟩
  have f_a1 := kp hb1 (hall)
  have hB1 := bB (b0 w) hb1
  clear za_a za_b
  obtain ⟨za_a, za_b, la1⟩ := rcell f_a1
  go_wp2_with fail
  refine (c1 _ hB1).mono ?_
  rintro e wo ⟨A, c, rfl, hR, hbo⟩
  have hBo := bB hB1 hbo
  clear hbo
  go_wp2_with fail
  refine (c3 _ _ _ hR).mono ?_
  rintro e w2 ⟨rfl, hb2⟩
  have rd_b2 := hR.below hb2
  have hB2 := bB hBo hb2
  go_wp2_with fail
  refine (c4 _ _ _ rd_b2).mono ?_
  rintro e w3 ⟨rfl, hb3⟩
  have rd_b3 := rd_b2.below hb3
  have hB3 := bB hB2 hb3
  go_wp2_with fail
  refine (c2 _ _ _ rd_b3).mono ?_
  rintro e w4 ⟨rfl, hb4⟩
  have rd_b4 := rd_b3.below hb4
  have hB4 := bB hB3 hb4
  go_wp2
  go_ret
  exact ⟨rfl, hB4⟩

set_option maxRecDepth 100000 in
set_option maxHeartbeats 2000000 in
theorem scut_2 (X : Option Addr) (C n k : Nat) (xs ys : List Bd) (ns : List Nat) (hk : Hid (ns.length = k ∧ ns.length ≤ 100000)) (h1 : ys.length ≤ 257) (w : World) (hall : w.heap[0]? = some (.cells all4 ta (0, 0)))
    (c1 : ∀ w', Below w.heap.size w w' → Calls Tryd.prog 12 #[.slice X xs.length C, .int .i64 60] w' fun e w'' => ∃ A c, e = .returned (.slice A ys.length c) ∧ BR w'' A c ys ∧ Below w'.heap.size w' w'')
    (c2 : ∀ A c w, BR w A c ys → Calls Tryd.prog 15 #[.slice A ys.length c] w fun e w' => e = .returned (.bool true) ∧ Below w.heap.size w w')
    (c3 : ∀ A c w, w.heap[0]? = some (.cells all4 ta (0, 0)) → BR w A c ys → Calls Tryd.prog 22 #[.slice A ys.length c] w fun e w' => e = .returned (.tuple #[.int .i64 n, .int .i64 0]) ∧ Below w.heap.size w w')
    (c4 : ∀ A c w, w.heap[0]? = some (.cells all4 ta (0, 0)) → BR w A c ys → Calls Tryd.prog 23 #[.slice A ys.length c] w fun e w' => ∃ A' c', e = .returned (.tuple #[.slice A' k c', .int .i64 0]) ∧ Below w.heap.size w w' ∧ Rd w' A' c' ns)
    (c5 : ∀ A c w, BR w A c ys → Calls Tryd.prog 24 #[.slice A ys.length c] w fun e w' => e = .returned (.int .i64 n) ∧ Below w.heap.size w w')
    (c6 : ∀ A c w, BR w A c ys → Calls Tryd.prog 26 #[.slice A ys.length c] w fun e w' => ∃ A' c', e = .returned (.slice A' k c') ∧ Below w.heap.size w w' ∧ Rd w' A' c' ns) :
    Calls Tryd.prog 5 #[.slice X xs.length C] w fun e w' => e = .returned (.bool true) ∧ Below w.heap.size w w' := by
  have hw := fun w (ha : w.heap[0]? = some (.cells all4 ta (0, 0))) => wakesA w ha
  have c7 : ∀ A B c d w, Rd w A c ns → Rd w B d ns → Calls Tryd.prog 25 #[.slice A k c, .slice B k d] w fun e w' => e = .returned (.bool true) ∧ Below w.heap.size w w' := fun A B c d w h h' => by
    have := equal_int A B c d ns ns hk.out.2 w h h'
    rw [hk.out.1] at this
    simpa using this
  go_enter Tryd.func5, Tryd.ntmps5
  obtain ⟨za_a, za_b, la0⟩ := rcell hall
  go_wp2_with fail
  refine (hw _ (hall)).mono ?_
  rintro e w1 ⟨rfl, hb1⟩
  have f_a1 := kp hb1 (hall)
  have hB1 := bB (b0 w) hb1
  clear za_a za_b
  obtain ⟨za_a, za_b, la1⟩ := rcell f_a1
  go_wp2_with fail
  refine (c1 _ hB1).mono ?_
  rintro e wo ⟨A, c, rfl, hR, hbo⟩
  have hBo := bB hB1 hbo
  have f_ao := kp hbo f_a1
  clear hbo
  obtain ⟨za_a, za_b, la2⟩ := rcell f_ao
  go_wp2_with fail
  refine (c3 _ _ _ (f_ao) hR).mono ?_
  rintro e w3 ⟨rfl, hb3⟩
  have f_a3 := kp hb3 (f_ao)
  have rd_b3 := hR.below hb3
  have hB3 := bB hBo hb3
  clear za_a za_b
  obtain ⟨za_a, za_b, la3⟩ := rcell f_a3
  go_wp2_with fail
  refine (c4 _ _ _ (f_a3) rd_b3).mono ?_
  rintro e w4 ⟨A4, k4, rfl, hb4, rn_p⟩
  have f_a4 := kp hb4 (f_a3)
  have rd_b4 := rd_b3.below hb4
  have hB4 := bB hB3 hb4
  clear za_a za_b
  obtain ⟨za_a, za_b, la4⟩ := rcell f_a4
  go_wp2_with fail
  refine (c2 _ _ _ rd_b4).mono ?_
  rintro e w5 ⟨rfl, hb5⟩
  have f_a5 := kp hb5 (f_a4)
  have rd_b5 := rd_b4.below hb5
  have rd_p5 := rn_p.below hb5
  have hB5 := bB hB4 hb5
  clear za_a za_b
  obtain ⟨za_a, za_b, la5⟩ := rcell f_a5
  go_wp2_with fail
  refine (c5 _ _ _ rd_b5).mono ?_
  rintro e w6 ⟨rfl, hb6⟩
  have f_a6 := kp hb6 (f_a5)
  have rd_b6 := rd_b5.below hb6
  have rd_p6 := rd_p5.below hb6
  have hB6 := bB hB5 hb6
  clear za_a za_b
  obtain ⟨za_a, za_b, la6⟩ := rcell f_a6
  go_wp2_with fail
  refine (c6 _ _ _ rd_b6).mono ?_
  rintro e w7 ⟨A6, k6, rfl, hb7, rn_q⟩
  have f_a7 := kp hb7 (f_a6)
  have rd_b7 := rd_b6.below hb7
  have rd_p7 := rd_p6.below hb7
  have hB7 := bB hB6 hb7
  clear za_a za_b
  obtain ⟨za_a, za_b, la7⟩ := rcell f_a7
  go_wp2_with fail
  refine (c7 _ _ _ _ _ rd_p7 rn_q).mono ?_
  rintro e w8 ⟨rfl, hb8⟩
  have f_a8 := kp hb8 (f_a7)
  have rd_b8 := rd_b7.below hb8
  have rd_p8 := rd_p7.below hb8
  have rd_q8 := rn_q.below hb8
  have hB8 := bB hB7 hb8
  clear za_a za_b
  obtain ⟨za_a, za_b, la8⟩ := rcell f_a8
  have RB := hide rd_b8
  go_wp2_with fail
  refine (c1 _ hB8).mono ?_
  rintro e wp ⟨A', c', rfl, hR', hbp⟩
  have hBp := bB hB8 hbp
  have RC := hide (RB.out.below hbp)
  clear c1 hw RB
  go_wp2_with fail
  refine (equal_two _ _ _ _ ys (by omega) _ RC.out hR').mono ?_
  rintro e w9 ⟨rfl, hb9⟩
  have hB9 := bB hBp hb9
  go_wp2
  go_ret
  exact ⟨by simp, hB9⟩

theorem cutsS_len (l : List Bd) : (cutsS l).length ≤ l.length := by
  by_cases h0 : 0 < l.length
  · have := firstS_pos h0
    have ih := cutsS_len (l.drop (firstS l))
    rw [cutsS_cons h0, List.length_cons]
    rw [List.length_drop] at ih
    have := (firstS_is l).le
    omega
  · rw [cutsS_nil h0]; simp
termination_by l.length
decreasing_by
  rw [List.length_drop]
  omega

theorem slide_cuts (X : Option Addr) (C : Nat) (xs : List Bd) (hn : xs.length ≤ C) (w : World) (hall : w.heap[0]? = some (.cells all4 ta (0, 0))) (hX : InB w X xs) :
    Calls Tryd.prog 5 #[.slice X xs.length C] w fun e w' => e = .returned (.bool true) ∧ Below w.heap.size w w' := by
  have c1 := fun w' (hb : Below w.heap.size w w') => law10_few X C 60 xs (by decide) hn w' (hX.below hb)
  have h1 : (xs.take 60).length ≤ 60 := by rw [List.length_take]; omega
  generalize xs.take 60 = ys at *
  have c2 := fun A c w hR => ref10_Right A c ys w hR
  cases h : okB ys
  · rw [h] at c2
    exact scut_1 X C xs ys w hall c1 c2 (fun A c w hR => slide_Longest_no A c ys h w hR) (fun A c w hR => slide_Cut_no A c ys h w hR)
  · rw [h] at c2
    have hl := cutsS_len ys
    exact scut_2 X C (firstS ys) (cutsS ys).length xs ys (cutsS ys) (hide ⟨rfl, by omega⟩) (by omega) w hall c1 c2 (fun A c w ha hR => slide_Longest_yes A c ys h w ha hR)
      (fun A c w ha hR => (slide_Cut_yes A c ys h w ha hR).mono (by
        rintro e w' ⟨A', c', he, hr, hb⟩
        exact ⟨A', c', he, hb, hr⟩)) (fun A c w hR => ref10_Longest A c ys h w hR)
      (fun A c w hR => (ref10_Cut A c ys h w hR).mono (by
        rintro e w' ⟨A', c', he, hr, hb⟩
        exact ⟨A', c', he, hb, hr⟩))
end Go.Proofs.YtpimkigbdjfjoaaDoor
