/- The walk of SwingFits (yearbooklaw09). -/
import Derived.Test.YtfdaabdibpcjeaaSwingQ
import Derived.Test.YtfdaabdibpcjeaaWakes9
set_option linter.unusedSimpArgs false
set_option linter.unusedVariables false
namespace Go.Proofs.Ytfdaabdibpcjeaa
open Go.RowKit

set_option maxRecDepth 100000 in
set_option maxHeartbeats 2000000 in
theorem sf_1 (X : Option Addr) (C : Nat) (xs ys : List Bd) (w : World) (e1 : Int) (e1n : (e1 == 0) = false) (he : e1 = 180 ∨ e1 = 4 ∧ 1 < ys.length)
    (c1 : ∀ w', Below w.heap.size w w' → Calls Try.prog 11 #[.slice X xs.length C] w' fun e w'' => ∃ A c, e = .returned (.slice A ys.length c) ∧ BR w'' A c ys ∧ Below w'.heap.size w' w'')
    (c2 : ∀ A c w, BR w A c ys → Calls Try.prog 12 #[.slice A ys.length c] w fun e w' => e = .returned (.tuple #[.agg #[.int .i64 0, .int .i64 0, .int .i64 0, .int .i64 0], .int .i64 e1]) ∧ Below w.heap.size w w') :
    Calls Try.prog 9 #[.slice X xs.length C] w fun e w' => e = .returned (.bool true) ∧ Below w.heap.size w w' := by
  have hw := wakes9
  have n1 : ((e1 : Int) != 0) = true := by rcases he with rfl | ⟨rfl, _⟩ <;> rfl
  have HE := hide he
  clear he e1n
  go_enter Try.func9, Try.ntmps9
  go_wp2_with fail
  refine (hw _).mono ?_
  rintro e w1 ⟨rfl, hb1⟩
  have hB1 := bB (b0 w) hb1
  go_wp2_with fail
  refine (c1 _ hB1).mono ?_
  rintro e w2 ⟨A, c, rfl, hR, hb2⟩
  have hB2 := bB hB1 hb2
  clear c1 hw
  go_wp2_with fail
  refine (c2 _ _ _ hR).mono ?_
  rintro e w3 ⟨rfl, hb3⟩
  have hB3 := bB hB2 hb3
  rcases HE.out with rfl | ⟨rfl, h2⟩
  · go_wp2
    go_ret
    exact ⟨rfl, bA hB3 _⟩
  · have h3 : decide (1 < (ys.length : Int)) = true := by rw [decide_eq_true_iff]; omega
    go_wp2
    go_ret
    exact ⟨by simp, bA hB3 _⟩

set_option maxRecDepth 100000 in
set_option maxHeartbeats 4000000 in
theorem sf_2 (X : Option Addr) (C : Nat) (xs ys : List Bd) (h : okB ys = true) (w : World) (v N D t0 : Int) (ht0 : (bd ys 0).t = t0) (hw0 : ∀ i, i < ys.length → winB v 0 N D ((bd ys i).t - t0) (bd ys i).lo (bd ys i).hi = true)
    (c1 : ∀ w', Below w.heap.size w w' → Calls Try.prog 11 #[.slice X xs.length C] w' fun e w'' => ∃ A c, e = .returned (.slice A ys.length c) ∧ BR w'' A c ys ∧ Below w'.heap.size w' w'')
    (c2 : ∀ A c w, BR w A c ys → Calls Try.prog 12 #[.slice A ys.length c] w fun e w' => e = .returned (.tuple #[.agg #[.int .i64 v, .int .i64 0, .int .i64 N, .int .i64 D], .int .i64 0]) ∧ Below w.heap.size w w')
    (c3 : ∀ A c w, BR w A c ys → Calls Try.prog 24 #[.slice A ys.length c] w fun e w' => e = .returned (.tuple #[.int .i64 v, .int .i64 0]) ∧ Below w.heap.size w w')
    (c4 : ∀ A c w, BR w A c ys → Calls Try.prog 14 #[.agg #[.int .i64 v, .int .i64 0, .int .i64 N, .int .i64 D], .slice A ys.length c] w fun e w' => e = .returned (.bool true) ∧ Below w.heap.size w w') :
    Calls Try.prog 9 #[.slice X xs.length C] w fun e w' => e = .returned (.bool true) ∧ Below w.heap.size w w' := by
  have hw := wakes9
  obtain ⟨k0, k1, k2⟩ := okB_spec h
  have HK := hide k2
  have HW := hide hw0
  have HT0 := hide ht0
  clear k2 hw0 h ht0
  go_enter Try.func9, Try.ntmps9
  go_wp2_with fail
  refine (hw _).mono ?_
  rintro e w1 ⟨rfl, hb1⟩
  have hB1 := bB (b0 w) hb1
  go_wp2_with fail
  refine (c1 _ hB1).mono ?_
  rintro e w2 ⟨A, c, rfl, hR, hb2⟩
  have hB2 := bB hB1 hb2
  obtain ⟨g, o, cur, rfl, hg, hc⟩ := hR.mem k0
  have hz := (hc 0 k0).1
  rw [bd_eq k0, HT0.out] at hz
  simp only [Nat.zero_mul, Nat.add_zero] at hz
  have HC := hide hc
  clear c1 hw hc
  obtain ⟨zg_a, zg_b, lg2⟩ := rcell hg
  go_wp2_with fail
  refine (c2 _ _ _ hR).mono ?_
  rintro e w3 ⟨rfl, hb3⟩
  have f_g3 := kp hb3 (hg)
  have rd_b3 := hR.below hb3
  have hB3 := bB hB2 hb3
  clear zg_a zg_b
  obtain ⟨zg_a, zg_b, lg3⟩ := rcell f_g3
  go_wp2_with fail
  refine (c3 _ _ _ (rd_b3.below (bA (b0 _) (.cells #[.int .i64 v, .int .i64 0, .int .i64 N, .int .i64 D] 23)))).mono ?_
  rintro e w4 ⟨rfl, hb4⟩
  have f_g4 := kp hb4 (ka (f_g3) (.cells #[.int .i64 v, .int .i64 0, .int .i64 N, .int .i64 D] 23))
  have f_f4 := kp hb4 (na w3 #[.int .i64 v, .int .i64 0, .int .i64 N, .int .i64 D] 23)
  have rd_b4 := (rd_b3.below (bA (b0 _) (.cells #[.int .i64 v, .int .i64 0, .int .i64 N, .int .i64 D] 23))).below hb4
  have hB4 := bB (bA hB3 (.cells #[.int .i64 v, .int .i64 0, .int .i64 N, .int .i64 D] 23)) hb4
  clear zg_a zg_b
  obtain ⟨zg_a, zg_b, lg4⟩ := rcell f_g4
  obtain ⟨zf_a, zf_b, lf4⟩ := rcell f_f4
  go_wp2_with fail
  refine (c4 _ _ _ rd_b4).mono ?_
  rintro e w5 ⟨rfl, hb5⟩
  have f_g5 := kp hb5 (f_g4)
  have f_f5 := kp hb5 (f_f4)
  have rd_b5 := rd_b4.below hb5
  have hB5 := bB hB4 hb5
  clear zf_a zf_b zg_a zg_b
  obtain ⟨zg_a, zg_b, lg5⟩ := rcell f_g5
  obtain ⟨zf_a, zf_b, lf5⟩ := rcell f_f5
  clear c2 c3 c4
  go_wp2_with fail
  go_loopw [65] (fun vi wr => ∃ k : Nat, vi = .int .i64 k ∧ k ≤ ys.length ∧ wr.heap[g]? = some (.cells cur 38 (0, 0)) ∧ wr.heap[w3.heap.size]? = some (.cells #[.int .i64 v, .int .i64 0, .int .i64 N, .int .i64 D] 23 (0, 0)) ∧ Below w.heap.size w wr) (fun vi _ => ys.length - (intOf vi).toNat)
  case atStart => exact ⟨0, rfl, by omega, (f_g5), (f_f5), hB5⟩
  case round =>
    obtain ⟨k, rfl, hk, j1, j2, hb⟩ := hrel
    by_cases hlt : k < ys.length
    · obtain ⟨q1, q2, q3⟩ := HC.out k hlt
      rw [bd_eq hlt] at q1 q2 q3
      have hW := HW.out k hlt
      have hr := bd_rg HK.out k hlt
      have hr0 := bd_rg HK.out 0 k0
      rw [HT0.out] at hr0
      obtain ⟨r1, r2, -, ⟨r3, r4⟩, r5, r6⟩ := hr
      obtain ⟨s1, s2, -⟩ := hr0
      obtain ⟨a1, a2, a3⟩ := win_at hW r3 r6
      have cA := line_At v 0 N D ((bd ys k).t - t0)
      rw [a1] at cA
      generalize bd ys k = b at *
      obtain ⟨bt, bl, bh⟩ := b
      simp only at q1 q2 q3 r1 r2 r3 r4 r5 r6 cA a2 a3
      generalize atV v 0 N D (bt - t0) = y at *
      clear hW a1
      obtain ⟨zg_a, zg_b, lg6⟩ := rcell j1
      obtain ⟨zf_a, zf_b, lf7⟩ := rcell j2
      go_wp2_with fail
      have f_g8 := (ka (j1) (.cells #[.int .i64 bt, .int .i64 bl, .int .i64 bh] 38))
      have f_f8 := (ka (j2) (.cells #[.int .i64 bt, .int .i64 bl, .int .i64 bh] 38))
      have f_b8 := (na wr #[.int .i64 bt, .int .i64 bl, .int .i64 bh] 38)
      have hB8 := (bA hb (.cells #[.int .i64 bt, .int .i64 bl, .int .i64 bh] 38))
      clear zf_a zf_b zg_a zg_b
      have lg8 := (rcell f_g8).2.2
      have lf8 := (rcell f_f8).2.2
      have lb8 := (rcell f_b8).2.2
      refine Abs.wp_region_abs (Abs.cls0 _) [0, 1, 2, 3, 4, 5, 6, 7, 8, 9, 10, 11, 12, 13] (by kernel_rfl) (by kernel_rfl) (Below.refl _ _).drew ?_
      repeat (first | (refine Abs.step_pure rfl rfl (fun K hK => ?_); go_simp; (try go_bits); (first | refine hK _ _ ?_ | (simp only [↓IntWalk.iteOmega]; go_simp; (try go_bits); refine hK _ _ ?_)); clear hK K) | (refine Abs.step_load (v := ?_) rfl rfl (by kernel_rfl) rfl (fun w0 hI => ?_) (fun K hK => ?_); rotate_left; (· have z0 := (rcell (kp hI (f_g8))).1; have z1 := (rcell (kp hI (f_f8))).1; have z2 := (rcell (kp hI (f_b8))).1; go_simp; rfl); (simp only [Act.put, List.setIfInBounds_toArray, List.set_cons_zero, List.set_cons_succ]; refine hK _ _ ?_; clear hK K)) | (refine Abs.step_skip rfl rfl (fun K hK => ?_); (simp only [Act.put, List.setIfInBounds_toArray, List.set_cons_zero, List.set_cons_succ]; refine hK _ _ ?_; clear hK K)))
      (refine Abs.step_call_val (f := ?_) (args := ?_) (v := ?_) rfl rfl rfl rfl (fun w0 => ?_) (fun w0 hI => ?_) (fun K hK => ?_); rotate_left 3; (· go_simp; (constructor <;> rfl)); (· exact cA _); (simp only [Act.put, List.setIfInBounds_toArray, List.set_cons_zero, List.set_cons_succ]; refine hK _ _ ?_; clear hK K))
      repeat (first | (refine Abs.step_pure rfl rfl (fun K hK => ?_); go_simp; (try go_bits); (first | refine hK _ _ ?_ | (simp only [↓IntWalk.iteOmega]; go_simp; (try go_bits); refine hK _ _ ?_)); clear hK K) | (refine Abs.step_load (v := ?_) rfl rfl (by kernel_rfl) rfl (fun w0 hI => ?_) (fun K hK => ?_); rotate_left; (· have z0 := (rcell (kp hI (f_g8))).1; have z1 := (rcell (kp hI (f_f8))).1; have z2 := (rcell (kp hI (f_b8))).1; go_simp; rfl); (simp only [Act.put, List.setIfInBounds_toArray, List.set_cons_zero, List.set_cons_succ]; refine hK _ _ ?_; clear hK K)) | (refine Abs.step_skip rfl rfl (fun K hK => ?_); (simp only [Act.put, List.setIfInBounds_toArray, List.set_cons_zero, List.set_cons_succ]; refine hK _ _ ?_; clear hK K)))
      intro w9 hb9 hx0 hx1 hx2
      clear hx0 hx1 hx2
      simp only [Abs.T_setF, Abs.T_addA, Abs.T_push, Abs.T_start]
      have f_g9 := kp hb9 (f_g8)
      have f_f9 := kp hb9 (f_f8)
      have f_b9 := kp hb9 (f_b8)
      have hB9 := bB hB8 hb9
      obtain ⟨zg_a, zg_b, lg9⟩ := rcell f_g9
      obtain ⟨zf_a, zf_b, lf9⟩ := rcell f_f9
      obtain ⟨zb_a, zb_b, lb9⟩ := rcell f_b9
      have y1 : decide (y < bl) = false := by rw [decide_eq_false_iff_not]; omega
      have y2 : decide (bh < y) = false := by rw [decide_eq_false_iff_not]; omega
      go_wp2
      go_roundw
      case rel => exact ⟨k + 1, by go_num, by omega, (f_g9), (f_f9), hB9⟩
      case measure => simp [intOf]; omega
    · obtain rfl : k = ys.length := by omega
      go_wp2
      go_ret
      exact ⟨rfl, hb⟩

theorem swing_fits (X : Option Addr) (C : Nat) (xs : List Bd) (hn : xs.length ≤ C) (w : World) (hX : InB w X xs) :
    Calls Try.prog 9 #[.slice X xs.length C] w fun e w' => e = .returned (.bool true) ∧ Below w.heap.size w w' := by
  have c1 := fun w' (hb : Below w.heap.size w w') => law9_own X C 260 xs rfl hn w' (hX.below hb)
  generalize xs.take 260 = ys at *
  cases h : okB ys
  · exact sf_1 X C xs ys w 180 rfl (.inl rfl) c1 (fun A c w hR => swing_Fit_no A c ys h w hR)
  · obtain ⟨k0, k1, k2⟩ := okB_spec h
    cases ho : drOpen (dk ys ys.length)
    · refine sf_1 X C xs ys w 4 rfl (.inr ⟨rfl, ?_⟩) c1 (fun A c w hR => swing_Fit_shut A c ys h ho w hR)
      rcases Nat.lt_or_ge 1 ys.length with h' | h'
      · exact h'
      · rw [one_open h (by omega)] at ho; cases ho
    · have hv := (dr_inv h ys.length (by omega) (Nat.le_refl _)).v
      have c3 := fun A c w hR => swing_Hinge_yes A c ys h w hR
      rw [bd_head k0, ← hv] at c3
      exact sf_2 X C xs ys h w _ _ _ _ rfl (fun i hi => fit_win h ho i hi) c1 (fun A c w hR => swing_Fit_yes A c ys h ho w hR) c3 (fun A c w hR => swing_Through_yes _ _ _ _ A c ys h true (hide (fit_thr h ho)) w hR)
end Go.Proofs.Ytfdaabdibpcjeaa
