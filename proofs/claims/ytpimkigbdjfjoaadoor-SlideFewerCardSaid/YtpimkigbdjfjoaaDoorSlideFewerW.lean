/- The walk of SlideFewer (yearbooklaw10). -/
import Derived.Test.YtpimkigbdjfjoaaDoorPmc5
import Derived.Test.YtpimkigbdjfjoaaDoorLawC1
import Derived.Test.YtpimkigbdjfjoaaDoorSlideD
set_option linter.unusedSimpArgs false
set_option linter.unusedVariables false
namespace Go.Proofs.YtpimkigbdjfjoaaDoor
open Go.RowKit
variable {ta : TypeId}
attribute [local go_sem] Oper.semAt_some

theorem swing_lets {l : List Bd} (h : okB l = true) (ho : drOpen (dk l l.length) = true) : Lets l := by
  have hw := fun i hi => fit_win h ho i hi
  generalize (dk l l.length).v = A at hw
  generalize flN (dk l l.length) = N at hw
  generalize flD (dk l l.length) = D at hw
  have k0 := (okB_spec h).1
  have hx : ∀ i, i < l.length → 1 ≤ D ∧ (bd l i).lo * D ≤ N * ((bd l i).t - (bd l 0).t) + 0 + A * D ∧ N * ((bd l i).t - (bd l 0).t) + 0 + A * D ≤ (bd l i).hi * D := fun i hi => by
    have h1 := hw i hi
    have h2 := h1
    unfold winB at h2
    rw [decide_eq_true_iff] at h2
    obtain ⟨q1, q2, q3, q4⟩ := h2
    exact ⟨(isB_spec q1).2.1.1, (win_iff q1 q2).1 h1⟩
  refine ⟨N, D, by have := (hx 0 k0).1; omega, fun a ha b hb => ?_⟩
  obtain ⟨i, hi, rfl⟩ := mem_bd ha
  obtain ⟨j, hj, rfl⟩ := mem_bd hb
  have h1 := (hx i hi).2.1
  have h2 := (hx j hj).2.2
  rw [Int.mul_sub] at h1 h2
  omega
theorem dk_takeS (l : List Bd) (n : Nat) : dk (l.take n) n = dk l n := by
  unfold dk
  rw [List.take_take, Nat.min_self]
theorem first_lets {l : List Bd} (h : okF (-1) l = true) (h0 : 0 < l.length) (h1 : l.length ≤ 256) : Lets (l.take (firstN l)) := by
  have hF := firstN_is l
  have hp := firstN_pos h0
  have hl : (l.take (firstN l)).length = firstN l := by rw [List.length_take]; have := hF.le; omega
  refine swing_lets (okB_of (by omega) (by have := hF.le; omega) (okF_pre (-1) l _ h)) ?_
  rw [hl, dk_takeS]
  have := hF.yes (firstN l - 1) (by omega)
  rwa [show firstN l - 1 + 1 = firstN l by omega] at this
theorem cuts_parts (l : List Bd) (h : okF (-1) l = true) (h1 : l.length ≤ 256) : Parts (cuts l).length l := by
  by_cases h0 : 0 < l.length
  · have hp := firstN_pos h0
    rw [cuts_cons h0, List.length_cons]
    exact ⟨firstN l, first_lets h h0 h1, cuts_parts (l.drop (firstN l)) (okF_drop l (-1) (Int.le_refl _) h _) (by rw [List.length_drop]; omega)⟩
  · rw [cuts_nil h0]
    exact List.eq_nil_of_length_eq_zero (by omega)
termination_by l.length
decreasing_by
  rw [List.length_drop]
  omega

theorem cutsS_one {l : List Bd} (h : l.length = 1) : cutsS l = [1] := by
  have h0 : 0 < l.length := by omega
  have := firstS_pos h0
  have := (firstS_is l).le
  rw [cutsS_cons h0, show firstS l = 1 by omega, cutsS_nil (by rw [List.length_drop]; omega)]

theorem cutsS_lenF (l : List Bd) : (cutsS l).length ≤ l.length := by
  by_cases h0 : 0 < l.length
  · have := firstS_pos h0
    have ih := cutsS_lenF (l.drop (firstS l))
    rw [cutsS_cons h0, List.length_cons]
    rw [List.length_drop] at ih
    have := (firstS_is l).le
    omega
  · rw [cutsS_nil h0]; simp
termination_by l.length
decreasing_by
  rw [List.length_drop]
  omega

set_option maxRecDepth 100000 in
set_option maxHeartbeats 2000000 in
theorem sfew_1 (X : Option Addr) (C : Nat) (xs ys : List Bd) (cv : Int) (w : World) (hall : w.heap[0]? = some (.cells all4 ta (0, 0)))
    (c1 : ∀ w', Below w.heap.size w w' → Calls Tryd.prog 12 #[.slice X xs.length C, .int .i64 256] w' fun e w'' => ∃ A c, e = .returned (.slice A ys.length c) ∧ BR w'' A c ys ∧ Below w'.heap.size w' w'')
    (c2 : ∀ A c w, BR w A c ys → Calls Tryd.prog 27 #[.slice A ys.length c] w fun e w' => e = .returned (.int .i64 180) ∧ Below w.heap.size w w') :
    Calls Tryd.prog 10 #[.slice X xs.length C, .int .i64 cv] w fun e w' => e = .returned (.bool true) ∧ Below w.heap.size w w' := by
  have hw := fun w (ha : w.heap[0]? = some (.cells all4 ta (0, 0))) => wakesA w ha
  go_enter Tryd.func10, Tryd.ntmps10
  obtain ⟨zz_a, zz_b, lz0⟩ := rcell hall
  go_wp2_with fail
  refine (hw _ (hall)).mono ?_
  rintro e w1 ⟨rfl, hb1⟩
  have f_z1 := kp hb1 (hall)
  have hB1 := bB (b0 w) hb1
  clear zz_a zz_b
  obtain ⟨zz_a, zz_b, lz1⟩ := rcell f_z1
  go_wp2_with fail
  refine (c1 _ hB1).mono ?_
  rintro e wo ⟨A, c, rfl, hR, hbo⟩
  have hBo := bB hB1 hbo
  clear hbo
  go_wp2_with fail
  refine (c2 _ _ _ hR).mono ?_
  rintro e w2 ⟨rfl, hb2⟩
  have rd_l2 := hR.below hb2
  have hB2 := bB hBo hb2
  go_wp2
  go_ret
  exact ⟨rfl, hB2⟩

set_option maxRecDepth 100000 in
set_option maxHeartbeats 4000000 in
theorem sfew_2 (X : Option Addr) (C : Nat) (xs ys : List Bd) (k0 : 0 < ys.length) (k1 : ys.length ≤ 256) (cv : Int) (b0v : -9223372036854775808 ≤ cv ∧ cv < 9223372036854775808) (kk : Nat) (hkk : Hid (2 ≤ ys.length → 0 < kk ∧ kk < ys.length)) (hm : 2 ≤ ys.length → (if cv < 0 then 0 else cv) % ((ys.length : Int) - 1) = ((kk - 1 : Nat) : Int)) (n p1 p2 : Nat) (hn1 : ys.length = 1 → n = 1) (Q : Nat → Prop) (hQ : ∀ k, Q k → n ≤ k) (r : Nat) (hr : n ≤ r) (hn2 : 2 ≤ ys.length → n ≤ p1 + p2 ∧ p1 + p2 ≤ n + 1) (hbd : n ≤ 256 ∧ p1 ≤ 256 ∧ p2 ≤ 256) (w : World) (hall : w.heap[0]? = some (.cells all4 ta (0, 0)))
    (c1 : ∀ w', Below w.heap.size w w' → Calls Tryd.prog 12 #[.slice X xs.length C, .int .i64 256] w' fun e w'' => ∃ A c, e = .returned (.slice A ys.length c) ∧ BR w'' A c ys ∧ Below w'.heap.size w' w'')
    (c2 : ∀ A c w, BR w A c ys → Calls Tryd.prog 27 #[.slice A ys.length c] w fun e w' => e = .returned (.int .i64 0) ∧ Below w.heap.size w w')
    (c3 : ∀ A c w, w.heap[0]? = some (.cells all4 ta (0, 0)) → BR w A c ys → Calls Tryd.prog 23 #[.slice A ys.length c] w fun e w' => ∃ A' c', e = .returned (.tuple #[.slice A' n c', .int .i64 0]) ∧ Below w.heap.size w w')
    (c4 : ∀ A c w, BR w A c ys → Calls Tryd.prog 35 #[.slice A ys.length c] w fun e w' => ∃ A' k c', e = .returned (.tuple #[.slice A' k c', .int .i64 0]) ∧ Hid (Q k) ∧ Below w.heap.size w w')
    (c5 : ∀ A c w, BR w A c ys → Calls Tryd.prog 36 #[.slice A ys.length c] w fun e w' => ∃ A' c', e = .returned (.tuple #[.slice A' r c', .int .i64 0]) ∧ Below w.heap.size w w')
    (c6 : 2 ≤ ys.length → ∀ A c w, w.heap[0]? = some (.cells all4 ta (0, 0)) → BR w A c (ys.take kk) → Calls Tryd.prog 23 #[.slice A kk c] w fun e w' => ∃ A' c', e = .returned (.tuple #[.slice A' p1 c', .int .i64 0]) ∧ Below w.heap.size w w')
    (c7 : 2 ≤ ys.length → ∀ A c w, w.heap[0]? = some (.cells all4 ta (0, 0)) → BR w A c (ys.drop kk) → Calls Tryd.prog 23 #[.slice A (ys.length - kk) c] w fun e w' => ∃ A' c', e = .returned (.tuple #[.slice A' p2 c', .int .i64 0]) ∧ Below w.heap.size w w') :
    Calls Tryd.prog 10 #[.slice X xs.length C, .int .i64 cv] w fun e w' => e = .returned (.bool true) ∧ Below w.heap.size w w' := by
  have hw := fun w (ha : w.heap[0]? = some (.cells all4 ta (0, 0))) => wakesA w ha
  have HM := hide hm
  have HN2 := hide hn2
  clear hm hn2
  go_enter Tryd.func10, Tryd.ntmps10
  obtain ⟨zz_a, zz_b, lz0⟩ := rcell hall
  go_wp2_with fail
  refine (hw _ (hall)).mono ?_
  rintro e w1 ⟨rfl, hb1⟩
  have f_z1 := kp hb1 (hall)
  have hB1 := bB (b0 w) hb1
  clear zz_a zz_b
  obtain ⟨zz_a, zz_b, lz1⟩ := rcell f_z1
  go_wp2_with fail
  refine (c1 _ hB1).mono ?_
  rintro e wo ⟨A, c, rfl, hR, hbo⟩
  have hBo := bB hB1 hbo
  have f_zo := kp hbo f_z1
  clear hbo c1 hw
  obtain ⟨zz_a, zz_b, lz2⟩ := rcell f_zo
  go_wp2_with fail
  refine (c2 _ _ _ hR).mono ?_
  rintro e w3 ⟨rfl, hb3⟩
  have f_z3 := kp hb3 (f_zo)
  have rd_l3 := hR.below hb3
  have hB3 := bB hBo hb3
  clear zz_a zz_b
  obtain ⟨zz_a, zz_b, lz3⟩ := rcell f_z3
  go_wp2_with fail
  refine (c3 _ _ _ (f_z3) rd_l3).mono ?_
  rintro e wp ⟨A4, k4, rfl, hbp⟩
  have hBp := bB hB3 hbp
  have f_zp := kp hbp (f_z3)
  have R4 := (rd_l3).below hbp
  obtain ⟨zz_a, zz_b, lz4⟩ := rcell f_zp
  go_wp2_with fail
  refine (c4 _ _ _ R4).mono ?_
  rintro e wq ⟨A5, k, k5, rfl, hQk, hbq⟩
  have hBq := bB hBp hbq
  have f_zq := kp hbq (f_zp)
  have R5 := (R4).below hbq
  have hnk := hQ k hQk.out
  obtain ⟨zz_a, zz_b, lz5⟩ := rcell f_zq
  go_wp2_with fail
  refine (c5 _ _ _ R5).mono ?_
  rintro e wr ⟨A6, k6, rfl, hbr⟩
  have hBr := bB hBq hbr
  have f_zr := kp hbr (f_zq)
  have R6 := (R5).below hbr
  obtain ⟨zz_a, zz_b, lz6⟩ := rcell f_zr
  have d1 : ¬ ((k : Int) < (n : Int)) := by omega
  have d2 : ¬ ((r : Int) < (n : Int)) := by omega
  by_cases h1 : ys.length = 1
  · have e1 : ((ys.length : Int) == 1) = true := by rw [beq_iff_eq]; omega
    obtain rfl := hn1 h1
    clear hn1 h1
    go_wp2
    go_ret
    exact ⟨by simp, hBr⟩
  · have e1 : ((ys.length : Int) == 1) = false := by rw [beq_eq_false_iff_ne]; omega
    have h2 : 2 ≤ ys.length := by omega
    have hmod := HM.out h2
    obtain ⟨u1, u2⟩ := HN2.out h2
    obtain ⟨v1, v2⟩ := hkk.out h2
    replace c6 := c6 h2
    replace c7 := c7 h2
    obtain ⟨j, hj⟩ : ∃ j, kk - 1 = j := ⟨_, rfl⟩
    rw [hj] at hmod
    have hkj : (1 : Int) + (j : Int) = (kk : Int) := by omega
    generalize hmx : (if cv < 0 then 0 else cv) = mx at hmod
    have rmx : 0 ≤ mx ∧ mx < 9223372036854775808 := by rw [← hmx]; split <;> omega
    have hcap := R6.cap
    have hck : ¬ c = kk := by omega
    have hck2 : kk ≤ c := by omega
    clear h1 hn1 hQ hr hQk hj
    go_wp2_with fail
    refine (c6 _ _ _ (f_zr) (R6.take kk)).mono ?_
    rintro e ws ⟨A7, k7, rfl, hbs⟩
    have hBs := bB hBr hbs
    have f_zs := kp hbs (f_zr)
    have R7 := (R6.below hbs).drop kk (by omega) hcap (Nat.le_refl _)
    rw [if_neg hck] at R7
    obtain ⟨zz_a, zz_b, lz7⟩ := rcell f_zs
    go_wp2_with fail
    refine (c7 _ _ _ (f_zs) R7).mono ?_
    rintro e wt ⟨A8, k8, rfl, hbt⟩
    have hBt := bB hBs hbt
    have e2 : (n : Int) ≤ (p1 : Int) + (p2 : Int) := by omega
    have e3 : (p1 : Int) + (p2 : Int) ≤ (n : Int) + 1 := by omega
    obtain ⟨b1, b2, b3⟩ := hbd
    clear u1 u2 hmod hkj hmx rmx hck hck2 v1 v2
    go_wp2
    go_ret
    exact ⟨by simp [e2, e3], hBt⟩

theorem slide_fewer (X : Option Addr) (C : Nat) (xs : List Bd) (hn : xs.length ≤ C) (cv : Int) (b0v : -9223372036854775808 ≤ cv ∧ cv < 9223372036854775808) (w : World) (hall : w.heap[0]? = some (.cells all4 ta (0, 0))) (hX : InB w X xs) :
    Calls Tryd.prog 10 #[.slice X xs.length C, .int .i64 cv] w fun e w' => e = .returned (.bool true) ∧ Below w.heap.size w w' := by
  have c1 := fun w' (hb : Below w.heap.size w w') => law10_few X C 256 xs (by decide) hn w' (hX.below hb)
  have h1 : (xs.take 256).length ≤ 256 := by rw [List.length_take]; omega
  generalize xs.take 256 = ys at *
  have c2 := fun A c w hR => pmc_Check A c ys w hR
  cases h : okB ys
  · rw [chE_no h] at c2
    exact sfew_1 X C xs ys cv w hall c1 c2
  · rw [chE_yes h] at c2
    obtain ⟨k0, k1, k2⟩ := okB_spec h
    obtain ⟨q, hq⟩ : ∃ q : Nat, 2 ≤ ys.length → (if cv < 0 then 0 else cv) % ((ys.length : Int) - 1) = (q : Int) := ⟨((if cv < 0 then 0 else cv) % ((ys.length : Int) - 1)).toNat, fun h2 => by
      have := Int.emod_nonneg (if cv < 0 then 0 else cv) (show ((ys.length : Int) - 1) ≠ 0 by omega)
      omega⟩
    have hq2 : 2 ≤ ys.length → q + 1 < ys.length := fun h2 => by
      have := Int.emod_lt_of_pos (if cv < 0 then 0 else cv) (show 0 < ((ys.length : Int) - 1) by omega)
      rw [hq h2] at this
      omega
    have hok1 : 2 ≤ ys.length → okB (ys.take (q + 1)) = true := fun h2 => okB_of (by have := hq2 h2; rw [List.length_take]; omega) (by rw [List.length_take]; omega) (okF_pre (-1) ys _ k2)
    have hok2 : 2 ≤ ys.length → okB (ys.drop (q + 1)) = true := fun h2 => okB_of (by have := hq2 h2; rw [List.length_drop]; omega) (by rw [List.length_drop]; omega) (okF_drop ys (-1) (Int.le_refl _) k2 _)
    have hl := cutsS_lenF ys
    have hl1 := cutsS_lenF (ys.take (q + 1))
    have hl2 := cutsS_lenF (ys.drop (q + 1))
    rw [List.length_take] at hl1
    rw [List.length_drop] at hl2
    refine sfew_2 X C xs ys k0 k1 cv b0v (q + 1) (hide fun h2 => ⟨by omega, hq2 h2⟩) (fun h2 => by rw [hq h2]; rfl) (cutsS ys).length (cutsS (ys.take (q + 1))).length (cutsS (ys.drop (q + 1))).length (fun e => by rw [cutsS_one e]; rfl) (fun k => Parts k ys) (fun k hk => cutsS_least k k2 hk) (cuts ys).length (cutsS_least _ k2 (cuts_parts ys k2 k1)) (fun h2 => cutsS_two k2 (q + 1) (by have := hq2 h2; omega)) ⟨by omega, by omega, by omega⟩ w hall c1 c2
      (fun A c w ha hR => (slide_Cut_yes A c ys h w ha hR).mono (by
        rintro e w' ⟨A', c', he, hr, hb⟩
        exact ⟨A', c', he, hb⟩)) (fun A c w hR => pmc_Cut_yes A c ys h w hR) (fun A c w hR => (swing_Cut_yes A c ys h w hR).mono (by
        rintro e w' ⟨A', c', he, hr, hb⟩
        exact ⟨A', c', he, hb⟩)) (fun h2 A c w ha hR => ?_) (fun h2 A c w ha hR => ?_)
    · have := slide_Cut_yes A c _ (hok1 h2) w ha hR
      have hq3 := hq2 h2
      rw [show (ys.take (q + 1)).length = q + 1 by rw [List.length_take]; omega] at this
      exact this.mono (by
        rintro e w' ⟨A', c', he, hr, hb⟩
        exact ⟨A', c', he, hb⟩)
    · have := slide_Cut_yes A c _ (hok2 h2) w ha hR
      rw [show (ys.drop (q + 1)).length = ys.length - (q + 1) from List.length_drop] at this
      exact this.mono (by
        rintro e w' ⟨A', c', he, hr, hb⟩
        exact ⟨A', c', he, hb⟩)
end Go.Proofs.YtpimkigbdjfjoaaDoor
