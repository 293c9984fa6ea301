/- yearbookref08.Right at this program. yearbookref09.Door at this program. yearbookref09 at this program: Swing, Fit, First. -/
import Derived.Test.YtpimkigbdjfjoaaDoorPA
import Derived.Test.YtpimkigbdjfjoaaDoorP5
set_option linter.unusedSimpArgs false
set_option linter.unusedVariables false
namespace Go.Proofs.YtpimkigbdjfjoaaDoor
open Go.RowKit

theorem lastT_ge {l : List Bd} (h : okF (-1) l = true) : -1 ≤ lastT l := by
  rcases Nat.eq_zero_or_pos l.length with e | e
  · have : l = [] := List.eq_nil_of_length_eq_zero e
    subst this; exact Int.le_refl (-1)
  · obtain ⟨h1, h2⟩ := el_bd h (l.length - 1) (by omega)
    have h3 := (bdB_spec h2).1
    have e2 : lastT l = l[l.length - 1].t := by
      have := take_snoc l (l.length - 1) (by omega)
      rw [show l.length - 1 + 1 = l.length by omega, List.take_length] at this
      have e3 := congrArg lastT this
      rw [lastT_snoc] at e3
      exact e3
    omega

theorem good_1 {pt bt bl bh : Int} (d1 : decide (bt ≤ pt) = false) (d2 : decide (281474976710656 < bt) = false) (d4 : decide (bh < bl) = false) (d5 : decide (bl < -2305844108725321728) = false) (d6 : decide (2305844108725321728 < bh) = false) : bdB pt ⟨bt, bl, bh⟩ = true := by
  have e1 := of_decide_eq_false d1
  have e2 := of_decide_eq_false d2
  have e4 := of_decide_eq_false d4
  have e5 := of_decide_eq_false d5
  have e6 := of_decide_eq_false d6
  unfold bdB
  simp only [Bool.and_eq_true, decide_eq_true_eq]
  exact ⟨⟨⟨⟨by omega, by omega⟩, by omega⟩, bk_of (by omega) (by omega)⟩, bk_of (by omega) (by omega)⟩
theorem good_0 {bt bl bh : Int} (d1 : decide (bt < 0) = false) (d2 : decide (281474976710656 < bt) = false) (d4 : decide (bh < bl) = false) (d5 : decide (bl < -2305844108725321728) = false) (d6 : decide (2305844108725321728 < bh) = false) : bdB (-1) ⟨bt, bl, bh⟩ = true :=
  good_1 (by rw [decide_eq_false_iff_not] at *; omega) d2 d4 d5 d6

theorem right_no (n c : Nat) (A : Option Addr) (h : n = 0 ∨ 256 < n) (w : World) :
    Calls Tryd.prog 46 #[.slice A n c] w fun e w' => e = .returned (.bool false) ∧ Below w.heap.size w w' := by
  rcases h with rfl | h
  · go_enter Tryd.func46, Tryd.ntmps46
    go_wp2
    go_ret
    exact ⟨rfl, b0 w⟩
  · have n0 : ((n : Int) == 0) = false := by rw [beq_eq_false_iff_ne]; omega
    have n1 : decide (256 < (n : Int)) = true := by rw [decide_eq_true_iff]; omega
    go_enter Tryd.func46, Tryd.ntmps46
    go_wp2
    go_ret
    exact ⟨rfl, b0 w⟩

set_option maxRecDepth 100000 in
set_option maxHeartbeats 4000000 in
theorem right_in (A : Option Addr) (c : Nat) (l : List Bd) (E : Bool) (hE : Hid (okF (-1) l = E)) (h0 : 0 < l.length) (h1 : l.length ≤ 256) (w : World) (hR : BR w A c l) :
    Calls Tryd.prog 46 #[.slice A l.length c] w fun e w' => e = .returned (.bool E) ∧ Below w.heap.size w w' := by
  obtain ⟨g, o, cur, rfl, hg, hc⟩ := hR.mem h0
  have HC := hide hc
  have n0 : ((l.length : Int) == 0) = false := by rw [beq_eq_false_iff_ne]; omega
  have n1 : decide (256 < (l.length : Int)) = false := by rw [decide_eq_false_iff_not]; omega
  clear hR hc
  go_enter Tryd.func46, Tryd.ntmps46
  obtain ⟨zg_a, zg_b, lg0⟩ := rcell hg
  go_wp2_with fail
  go_loopw [15] (fun vi wr => ∃ k : Nat, vi = .int .i64 k ∧ k ≤ l.length ∧ Hid (okF (-1) (l.take k) = true) ∧ wr.heap[g]? = some (.cells cur 37 (0, 0)) ∧ Below w.heap.size w wr) (fun vi _ => l.length - (intOf vi).toNat)
  case atStart => exact ⟨0, rfl, by omega, hide rfl, (hg), (b0 w)⟩
  case round =>
    obtain ⟨k, rfl, hk, hok, j1, hb⟩ := hrel
    by_cases hlt : k < l.length
    · obtain ⟨q1, q2, q3⟩ := HC.out k hlt
      have ht := okF_take l k hlt
      rw [hok.out, Bool.true_and] at ht
      have hge := lastT_ge hok.out
      have hno : Hid (bdB (lastT (l.take k)) l[k] = false → E = false) := hide (fun h => by rw [← hE.out]; exact okF_no k hlt (by rw [ht, h]))
      have hyes : Hid (bdB (lastT (l.take k)) l[k] = true → okF (-1) (l.take (k + 1)) = true) := hide (fun h => by rw [ht, h])
      clear ht
      rcases Nat.eq_zero_or_pos k with rfl | hpos
      · have el : lastT (l.take 0) = -1 := rfl
        rw [el] at hno hyes hge
        clear el
        simp only [Nat.zero_mul, Nat.add_zero] at q1 q2 q3
        generalize l[0] = b at *
        obtain ⟨bt, bl, bh⟩ := b
        simp only at q1 q2 q3
        obtain ⟨zg_a, zg_b, lg1⟩ := rcell j1
        go_wp2_with fail
        cases d1 : decide (bt < 0)
        rotate_left
        · have e : E = false := hno.out (by unfold bdB; simp only [Bool.and_eq_false_iff, decide_eq_false_iff_not]; left; left; left; left; have := of_decide_eq_true d1; (try dsimp only); omega)
          subst e
          clear hE hno hyes
          have f_g2 := (ka (j1) (.cells #[.int .i64 bt, .int .i64 bl, .int .i64 bh] 37))
          have f_b2 := (na wr #[.int .i64 bt, .int .i64 bl, .int .i64 bh] 37)
          have hB2 := (bA hb (.cells #[.int .i64 bt, .int .i64 bl, .int .i64 bh] 37))
          clear zg_a zg_b
          have lg2 := (rcell f_g2).2.2
          have lb2 := (rcell f_b2).2.2
          refine Abs.wp_region_abs (Abs.cls0 _) [0, 1, 2, 3, 4, 5, 6, 7, 8, 9, 10, 11, 12, 13, 14, 15, 16, 17, 18, 19, 20, 21, 22, 23, 24, 25, 26, 27, 28, 29, 30, 31, 32, 33, 34, 35, 36, 37, 38, 39] (by kernel_rfl) (by kernel_rfl) (Below.refl _ _).drew ?_
          repeat (first | (refine Abs.step_pure rfl rfl (fun K hK => ?_); go_simp; (try go_bits); (first | refine hK _ _ ?_ | (simp only [↓IntWalk.iteOmega]; go_simp; (try go_bits); refine hK _ _ ?_)); clear hK K) | (refine Abs.step_load (v := ?_) rfl rfl (by kernel_rfl) rfl (fun w0 hI => ?_) (fun K hK => ?_); rotate_left; (· have z0 := (rcell (kp hI (f_g2))).1; have z1 := (rcell (kp hI (f_b2))).1; go_simp; rfl); (simp only [Act.put, List.setIfInBounds_toArray, List.set_cons_zero, List.set_cons_succ]; refine hK _ _ ?_; clear hK K)) | (refine Abs.step_skip rfl rfl (fun K hK => ?_); (simp only [Act.put, List.setIfInBounds_toArray, List.set_cons_zero, List.set_cons_succ]; refine hK _ _ ?_; clear hK K)))
          intro w3 hb3 hx0 hx1 hx2
          clear hx0 hx1 hx2
          simp only [Abs.T_setF, Abs.T_addA, Abs.T_push, Abs.T_start]
          have f_g3 := kp hb3 (f_g2)
          have f_b3 := kp hb3 (f_b2)
          have hB3 := bB hB2 hb3
          obtain ⟨zg_a, zg_b, lg3⟩ := rcell f_g3
          obtain ⟨zb_a, zb_b, lb3⟩ := rcell f_b3
          go_wp2
          go_ret
          exact ⟨rfl, hB3⟩
        cases d2 : decide (281474976710656 < bt)
        rotate_left
        · have e : E = false := hno.out (by unfold bdB; simp only [Bool.and_eq_false_iff, decide_eq_false_iff_not]; left; left; left; right; have := of_decide_eq_true d2; (try dsimp only); omega)
          subst e
          clear hE hno hyes
          have f_g2 := (ka (j1) (.cells #[.int .i64 bt, .int .i64 bl, .int .i64 bh] 37))
          have f_b2 := (na wr #[.int .i64 bt, .int .i64 bl, .int .i64 bh] 37)
          have hB2 := (bA hb (.cells #[.int .i64 bt, .int .i64 bl, .int .i64 bh] 37))
          clear zg_a zg_b
          have lg2 := (rcell f_g2).2.2
          have lb2 := (rcell f_b2).2.2
          refine Abs.wp_region_abs (Abs.cls0 _) [0, 1, 2, 3, 4, 5, 6, 7, 8, 9, 10, 11, 12, 13, 14, 15, 16, 17, 18, 19, 20, 21, 22, 23, 24, 25, 26, 27, 28, 29, 30, 31, 32, 33, 34, 35, 36, 37, 38, 39] (by kernel_rfl) (by kernel_rfl) (Below.refl _ _).drew ?_
          repeat (first | (refine Abs.step_pure rfl rfl (fun K hK => ?_); go_simp; (try go_bits); (first | refine hK _ _ ?_ | (simp only [↓IntWalk.iteOmega]; go_simp; (try go_bits); refine hK _ _ ?_)); clear hK K) | (refine Abs.step_load (v := ?_) rfl rfl (by kernel_rfl) rfl (fun w0 hI => ?_) (fun K hK => ?_); rotate_left; (· have z0 := (rcell (kp hI (f_g2))).1; have z1 := (rcell (kp hI (f_b2))).1; go_simp; rfl); (simp only [Act.put, List.setIfInBounds_toArray, List.set_cons_zero, List.set_cons_succ]; refine hK _ _ ?_; clear hK K)) | (refine Abs.step_skip rfl rfl (fun K hK => ?_); (simp only [Act.put, List.setIfInBounds_toArray, List.set_cons_zero, List.set_cons_succ]; refine hK _ _ ?_; clear hK K)))
          intro w3 hb3 hx0 hx1 hx2
          clear hx0 hx1 hx2
          simp only [Abs.T_setF, Abs.T_addA, Abs.T_push, Abs.T_start]
          have f_g3 := kp hb3 (f_g2)
          have f_b3 := kp hb3 (f_b2)
          have hB3 := bB hB2 hb3
          obtain ⟨zg_a, zg_b, lg3⟩ := rcell f_g3
          obtain ⟨zb_a, zb_b, lb3⟩ := rcell f_b3
          go_wp2
          go_ret
          exact ⟨rfl, hB3⟩
        cases d4 : decide (bh < bl)
        rotate_left
        · have e : E = false := hno.out (by unfold bdB; simp only [Bool.and_eq_false_iff, decide_eq_false_iff_not]; left; left; right; have := of_decide_eq_true d4; (try dsimp only); omega)
          subst e
          clear hE hno hyes
          have f_g2 := (ka (j1) (.cells #[.int .i64 bt, .int .i64 bl, .int .i64 bh] 37))
          have f_b2 := (na wr #[.int .i64 bt, .int .i64 bl, .int .i64 bh] 37)
          have hB2 := (bA hb (.cells #[.int .i64 bt, .int .i64 bl, .int .i64 bh] 37))
          clear zg_a zg_b
          have lg2 := (rcell f_g2).2.2
          have lb2 := (rcell f_b2).2.2
          refine Abs.wp_region_abs (Abs.cls0 _) [0, 1, 2, 3, 4, 5, 6, 7, 8, 9, 10, 11, 12, 13, 14, 15, 16, 17, 18, 19, 20, 21, 22, 23, 24, 25, 26, 27, 28, 29, 30, 31, 32, 33, 34, 35, 36, 37, 38, 39] (by kernel_rfl) (by kernel_rfl) (Below.refl _ _).drew ?_
          repeat (first | (refine Abs.step_pure rfl rfl (fun K hK => ?_); go_simp; (try go_bits); (first | refine hK _ _ ?_ | (simp only [↓IntWalk.iteOmega]; go_simp; (try go_bits); refine hK _ _ ?_)); clear hK K) | (refine Abs.step_load (v := ?_) rfl rfl (by kernel_rfl) rfl (fun w0 hI => ?_) (fun K hK => ?_); rotate_left; (· have z0 := (rcell (kp hI (f_g2))).1; have z1 := (rcell (kp hI (f_b2))).1; go_simp; rfl); (simp only [Act.put, List.setIfInBounds_toArray, List.set_cons_zero, List.set_cons_succ]; refine hK _ _ ?_; clear hK K)) | (refine Abs.step_skip rfl rfl (fun K hK => ?_); (simp only [Act.put, List.setIfInBounds_toArray, List.set_cons_zero, List.set_cons_succ]; refine hK _ _ ?_; clear hK K)))
          intro w3 hb3 hx0 hx1 hx2
          clear hx0 hx1 hx2
          simp only [Abs.T_setF, Abs.T_addA, Abs.T_push, Abs.T_start]
          have f_g3 := kp hb3 (f_g2)
          have f_b3 := kp hb3 (f_b2)
          have hB3 := bB hB2 hb3
          obtain ⟨zg_a, zg_b, lg3⟩ := rcell f_g3
          obtain ⟨zb_a, zb_b, lb3⟩ := rcell f_b3
          go_wp2
          go_ret
          exact ⟨rfl, hB3⟩
        cases d5 : decide (bl < -2305844108725321728)
        rotate_left
        · have e : E = false := hno.out (by unfold bdB; simp only [Bool.and_eq_false_iff, decide_eq_false_iff_not]; left; right; exact decide_eq_false (by have := of_decide_eq_true d5; (try dsimp only); omega))
          subst e
          clear hE hno hyes
          have f_g2 := (ka (j1) (.cells #[.int .i64 bt, .int .i64 bl, .int .i64 bh] 37))
          have f_b2 := (na wr #[.int .i64 bt, .int .i64 bl, .int .i64 bh] 37)
          have hB2 := (bA hb (.cells #[.int .i64 bt, .int .i64 bl, .int .i64 bh] 37))
          clear zg_a zg_b
          have lg2 := (rcell f_g2).2.2
          have lb2 := (rcell f_b2).2.2
          refine Abs.wp_region_abs (Abs.cls0 _) [0, 1, 2, 3, 4, 5, 6, 7, 8, 9, 10, 11, 12, 13, 14, 15, 16, 17, 18, 19, 20, 21, 22, 23, 24, 25, 26, 27, 28, 29, 30, 31, 32, 33, 34, 35, 36, 37, 38, 39] (by kernel_rfl) (by kernel_rfl) (Below.refl _ _).drew ?_
          repeat (first | (refine Abs.step_pure rfl rfl (fun K hK => ?_); go_simp; (try go_bits); (first | refine hK _ _ ?_ | (simp only [↓IntWalk.iteOmega]; go_simp; (try go_bits); refine hK _ _ ?_)); clear hK K) | (refine Abs.step_load (v := ?_) rfl rfl (by kernel_rfl) rfl (fun w0 hI => ?_) (fun K hK => ?_); rotate_left; (· have z0 := (rcell (kp hI (f_g2))).1; have z1 := (rcell (kp hI (f_b2))).1; go_simp; rfl); (simp only [Act.put, List.setIfInBounds_toArray, List.set_cons_zero, List.set_cons_succ]; refine hK _ _ ?_; clear hK K)) | (refine Abs.step_skip rfl rfl (fun K hK => ?_); (simp only [Act.put, List.setIfInBounds_toArray, List.set_cons_zero, List.set_cons_succ]; refine hK _ _ ?_; clear hK K)))
          intro w3 hb3 hx0 hx1 hx2
          clear hx0 hx1 hx2
          simp only [Abs.T_setF, Abs.T_addA, Abs.T_push, Abs.T_start]
          have f_g3 := kp hb3 (f_g2)
          have f_b3 := kp hb3 (f_b2)
          have hB3 := bB hB2 hb3
          obtain ⟨zg_a, zg_b, lg3⟩ := rcell f_g3
          obtain ⟨zb_a, zb_b, lb3⟩ := rcell f_b3
          go_wp2
          go_ret
          exact ⟨rfl, hB3⟩
        cases d6 : decide (2305844108725321728 < bh)
        rotate_left
        · have e : E = false := hno.out (by unfold bdB; simp only [Bool.and_eq_false_iff, decide_eq_false_iff_not]; right; exact decide_eq_false (by have := of_decide_eq_true d6; (try dsimp only); omega))
          subst e
          clear hE hno hyes
          have f_g2 := (ka (j1) (.cells #[.int .i64 bt, .int .i64 bl, .int .i64 bh] 37))
          have f_b2 := (na wr #[.int .i64 bt, .int .i64 bl, .int .i64 bh] 37)
          have hB2 := (bA hb (.cells #[.int .i64 bt, .int .i64 bl, .int .i64 bh] 37))
          clear zg_a zg_b
          have lg2 := (rcell f_g2).2.2
          have lb2 := (rcell f_b2).2.2
          refine Abs.wp_region_abs (Abs.cls0 _) [0, 1, 2, 3, 4, 5, 6, 7, 8, 9, 10, 11, 12, 13, 14, 15, 16, 17, 18, 19, 20, 21, 22, 23, 24, 25, 26, 27, 28, 29, 30, 31, 32, 33, 34, 35, 36, 37, 38, 39] (by kernel_rfl) (by kernel_rfl) (Below.refl _ _).drew ?_
          repeat (first | (refine Abs.step_pure rfl rfl (fun K hK => ?_); go_simp; (try go_bits); (first | refine hK _ _ ?_ | (simp only [↓IntWalk.iteOmega]; go_simp; (try go_bits); refine hK _ _ ?_)); clear hK K) | (refine Abs.step_load (v := ?_) rfl rfl (by kernel_rfl) rfl (fun w0 hI => ?_) (fun K hK => ?_); rotate_left; (· have z0 := (rcell (kp hI (f_g2))).1; have z1 := (rcell (kp hI (f_b2))).1; go_simp; rfl); (simp only [Act.put, List.setIfInBounds_toArray, List.set_cons_zero, List.set_cons_succ]; refine hK _ _ ?_; clear hK K)) | (refine Abs.step_skip rfl rfl (fun K hK => ?_); (simp only [Act.put, List.setIfInBounds_toArray, List.set_cons_zero, List.set_cons_succ]; refine hK _ _ ?_; clear hK K)))
          intro w3 hb3 hx0 hx1 hx2
          clear hx0 hx1 hx2
          simp only [Abs.T_setF, Abs.T_addA, Abs.T_push, Abs.T_start]
          have f_g3 := kp hb3 (f_g2)
          have f_b3 := kp hb3 (f_b2)
          have hB3 := bB hB2 hb3
          obtain ⟨zg_a, zg_b, lg3⟩ := rcell f_g3
          obtain ⟨zb_a, zb_b, lb3⟩ := rcell f_b3
          go_wp2
          go_ret
          exact ⟨rfl, hB3⟩
        have hgood := hyes.out (good_0 d1 d2 d4 d5 d6)
        have HG := hide hgood
        clear hE hno hyes hgood
        have f_g2 := (ka (j1) (.cells #[.int .i64 bt, .int .i64 bl, .int .i64 bh] 37))
        have f_b2 := (na wr #[.int .i64 bt, .int .i64 bl, .int .i64 bh] 37)
        have hB2 := (bA hb (.cells #[.int .i64 bt, .int .i64 bl, .int .i64 bh] 37))
        clear zg_a zg_b
        have lg2 := (rcell f_g2).2.2
        have lb2 := (rcell f_b2).2.2
        refine Abs.wp_region_abs (Abs.cls0 _) [0, 1, 2, 3, 4, 5, 6, 7, 8, 9, 10, 11, 12, 13, 14, 15, 16, 17, 18, 19, 20, 21, 22, 23, 24, 25, 26, 27, 28, 29, 30, 31, 32, 33, 34, 35, 36, 37, 38, 39] (by kernel_rfl) (by kernel_rfl) (Below.refl _ _).drew ?_
        repeat (first | (refine Abs.step_pure rfl rfl (fun K hK => ?_); go_simp; (try go_bits); (first | refine hK _ _ ?_ | (simp only [↓IntWalk.iteOmega]; go_simp; (try go_bits); refine hK _ _ ?_)); clear hK K) | (refine Abs.step_load (v := ?_) rfl rfl (by kernel_rfl) rfl (fun w0 hI => ?_) (fun K hK => ?_); rotate_left; (· have z0 := (rcell (kp hI (f_g2))).1; have z1 := (rcell (kp hI (f_b2))).1; go_simp; rfl); (simp only [Act.put, List.setIfInBounds_toArray, List.set_cons_zero, List.set_cons_succ]; refine hK _ _ ?_; clear hK K)) | (refine Abs.step_skip rfl rfl (fun K hK => ?_); (simp only [Act.put, List.setIfInBounds_toArray, List.set_cons_zero, List.set_cons_succ]; refine hK _ _ ?_; clear hK K)))
        intro w3 hb3 hx0 hx1 hx2
        clear hx0 hx1 hx2
        simp only [Abs.T_setF, Abs.T_addA, Abs.T_push, Abs.T_start]
        have f_g3 := kp hb3 (f_g2)
        have f_b3 := kp hb3 (f_b2)
        have hB3 := bB hB2 hb3
        obtain ⟨zg_a, zg_b, lg3⟩ := rcell f_g3
        obtain ⟨zb_a, zb_b, lb3⟩ := rcell f_b3
        go_wp2
        go_roundw
        case rel => exact ⟨0 + 1, by go_num, by omega, HG, (f_g3), hB3⟩
        case measure => simp [intOf]; omega
      · obtain ⟨j, rfl⟩ : ∃ j, k = j + 1 := ⟨k - 1, by omega⟩
        have el : lastT (l.take (j + 1)) = l[j].t := by rw [take_snoc l j (by omega), lastT_snoc]
        rw [el] at hno hyes hge
        clear el
        obtain ⟨p1, -, -⟩ := HC.out j (by omega)
        generalize l[j].t = pt at *
        generalize l[j + 1] = b at *
        obtain ⟨bt, bl, bh⟩ := b
        simp only at q1 q2 q3
        clear hpos
        obtain ⟨zg_a, zg_b, lg4⟩ := rcell j1
        go_wp2_with fail
        cases d1 : decide (bt < 0)
        rotate_left
        · have e : E = false := hno.out (by unfold bdB; simp only [Bool.and_eq_false_iff, decide_eq_false_iff_not]; left; left; left; left; have := of_decide_eq_true d1; (try dsimp only); omega)
          subst e
          clear hE hno hyes
          have f_g5 := (ka (j1) (.cells #[.int .i64 bt, .int .i64 bl, .int .i64 bh] 37))
          have f_b5 := (na wr #[.int .i64 bt, .int .i64 bl, .int .i64 bh] 37)
          have hB5 := (bA hb (.cells #[.int .i64 bt, .int .i64 bl, .int .i64 bh] 37))
          clear zg_a zg_b
          have lg5 := (rcell f_g5).2.2
          have lb5 := (rcell f_b5).2.2
          refine Abs.wp_region_abs (Abs.cls0 _) [0, 1, 2, 3, 4, 5, 6, 7, 8, 9, 10, 11, 12, 13, 14, 15, 16, 17, 18, 19, 20, 21, 22, 23, 24, 25, 26, 27, 28, 29, 30, 31, 32, 33, 34, 35, 36, 37, 38, 39] (by kernel_rfl) (by kernel_rfl) (Below.refl _ _).drew ?_
          repeat (first | (refine Abs.step_pure rfl rfl (fun K hK => ?_); go_simp; (try go_bits); (first | refine hK _ _ ?_ | (simp only [↓IntWalk.iteOmega]; go_simp; (try go_bits); refine hK _ _ ?_)); clear hK K) | (refine Abs.step_load (v := ?_) rfl rfl (by kernel_rfl) rfl (fun w0 hI => ?_) (fun K hK => ?_); rotate_left; (· have z0 := (rcell (kp hI (f_g5))).1; have z1 := (rcell (kp hI (f_b5))).1; go_simp; rfl); (simp only [Act.put, List.setIfInBounds_toArray, List.set_cons_zero, List.set_cons_succ]; refine hK _ _ ?_; clear hK K)) | (refine Abs.step_skip rfl rfl (fun K hK => ?_); (simp only [Act.put, List.setIfInBounds_toArray, List.set_cons_zero, List.set_cons_succ]; refine hK _ _ ?_; clear hK K)))
          intro w6 hb6 hx0 hx1 hx2
          clear hx0 hx1 hx2
          simp only [Abs.T_setF, Abs.T_addA, Abs.T_push, Abs.T_start]
          have f_g6 := kp hb6 (f_g5)
          have f_b6 := kp hb6 (f_b5)
          have hB6 := bB hB5 hb6
          obtain ⟨zg_a, zg_b, lg6⟩ := rcell f_g6
          obtain ⟨zb_a, zb_b, lb6⟩ := rcell f_b6
          go_wp2
          go_ret
          exact ⟨rfl, hB6⟩
        cases d2 : decide (281474976710656 < bt)
        rotate_left
        · have e : E = false := hno.out (by unfold bdB; simp only [Bool.and_eq_false_iff, decide_eq_false_iff_not]; left; left; left; right; have := of_decide_eq_true d2; (try dsimp only); omega)
          subst e
          clear hE hno hyes
          have f_g5 := (ka (j1) (.cells #[.int .i64 bt, .int .i64 bl, .int .i64 bh] 37))
          have f_b5 := (na wr #[.int .i64 bt, .int .i64 bl, .int .i64 bh] 37)
          have hB5 := (bA hb (.cells #[.int .i64 bt, .int .i64 bl, .int .i64 bh] 37))
          clear zg_a zg_b
          have lg5 := (rcell f_g5).2.2
          have lb5 := (rcell f_b5).2.2
          refine Abs.wp_region_abs (Abs.cls0 _) [0, 1, 2, 3, 4, 5, 6, 7, 8, 9, 10, 11, 12, 13, 14, 15, 16, 17, 18, 19, 20, 21, 22, 23, 24, 25, 26, 27, 28, 29, 30, 31, 32, 33, 34, 35, 36, 37, 38, 39] (by kernel_rfl) (by kernel_rfl) (Below.refl _ _).drew ?_
          repeat (first | (refine Abs.step_pure rfl rfl (fun K hK => ?_); go_simp; (try go_bits); (first | refine hK _ _ ?_ | (simp only [↓IntWalk.iteOmega]; go_simp; (try go_bits); refine hK _ _ ?_)); clear hK K) | (refine Abs.step_load (v := ?_) rfl rfl (by kernel_rfl) rfl (fun w0 hI => ?_) (fun K hK => ?_); rotate_left; (· have z0 := (rcell (kp hI (f_g5))).1; have z1 := (rcell (kp hI (f_b5))).1; go_simp; rfl); (simp only [Act.put, List.setIfInBounds_toArray, List.set_cons_zero, List.set_cons_succ]; refine hK _ _ ?_; clear hK K)) | (refine Abs.step_skip rfl rfl (fun K hK => ?_); (simp only [Act.put, List.setIfInBounds_toArray, List.set_cons_zero, List.set_cons_succ]; refine hK _ _ ?_; clear hK K)))
          intro w6 hb6 hx0 hx1 hx2
          clear hx0 hx1 hx2
          simp only [Abs.T_setF, Abs.T_addA, Abs.T_push, Abs.T_start]
          have f_g6 := kp hb6 (f_g5)
          have f_b6 := kp hb6 (f_b5)
          have hB6 := bB hB5 hb6
          obtain ⟨zg_a, zg_b, lg6⟩ := rcell f_g6
          obtain ⟨zb_a, zb_b, lb6⟩ := rcell f_b6
          go_wp2
          go_ret
          exact ⟨rfl, hB6⟩
        cases d3 : decide (bt ≤ pt)
        rotate_left
        · have e : E = false := hno.out (by unfold bdB; simp only [Bool.and_eq_false_iff, decide_eq_false_iff_not]; left; left; left; left; have := of_decide_eq_true d3; (try dsimp only); omega)
          subst e
          clear hE hno hyes
          have f_g5 := (ka (j1) (.cells #[.int .i64 bt, .int .i64 bl, .int .i64 bh] 37))
          have f_b5 := (na wr #[.int .i64 bt, .int .i64 bl, .int .i64 bh] 37)
          have hB5 := (bA hb (.cells #[.int .i64 bt, .int .i64 bl, .int .i64 bh] 37))
          clear zg_a zg_b
          have lg5 := (rcell f_g5).2.2
          have lb5 := (rcell f_b5).2.2
          refine Abs.wp_region_abs (Abs.cls0 _) [0, 1, 2, 3, 4, 5, 6, 7, 8, 9, 10, 11, 12, 13, 14, 15, 16, 17, 18, 19, 20, 21, 22, 23, 24, 25, 26, 27, 28, 29, 30, 31, 32, 33, 34, 35, 36, 37, 38, 39] (by kernel_rfl) (by kernel_rfl) (Below.refl _ _).drew ?_
          repeat (first | (refine Abs.step_pure rfl rfl (fun K hK => ?_); go_simp; (try go_bits); (first | refine hK _ _ ?_ | (simp only [↓IntWalk.iteOmega]; go_simp; (try go_bits); refine hK _ _ ?_)); clear hK K) | (refine Abs.step_load (v := ?_) rfl rfl (by kernel_rfl) rfl (fun w0 hI => ?_) (fun K hK => ?_); rotate_left; (· have z0 := (rcell (kp hI (f_g5))).1; have z1 := (rcell (kp hI (f_b5))).1; go_simp; rfl); (simp only [Act.put, List.setIfInBounds_toArray, List.set_cons_zero, List.set_cons_succ]; refine hK _ _ ?_; clear hK K)) | (refine Abs.step_skip rfl rfl (fun K hK => ?_); (simp only [Act.put, List.setIfInBounds_toArray, List.set_cons_zero, List.set_cons_succ]; refine hK _ _ ?_; clear hK K)))
          intro w6 hb6 hx0 hx1 hx2
          clear hx0 hx1 hx2
          simp only [Abs.T_setF, Abs.T_addA, Abs.T_push, Abs.T_start]
          have f_g6 := kp hb6 (f_g5)
          have f_b6 := kp hb6 (f_b5)
          have hB6 := bB hB5 hb6
          obtain ⟨zg_a, zg_b, lg6⟩ := rcell f_g6
          obtain ⟨zb_a, zb_b, lb6⟩ := rcell f_b6
          go_wp2
          go_ret
          exact ⟨rfl, hB6⟩
        cases d4 : decide (bh < bl)
        rotate_left
        · have e : E = false := hno.out (by unfold bdB; simp only [Bool.and_eq_false_iff, decide_eq_false_iff_not]; left; left; right; have := of_decide_eq_true d4; (try dsimp only); omega)
          subst e
          clear hE hno hyes
          have f_g5 := (ka (j1) (.cells #[.int .i64 bt, .int .i64 bl, .int .i64 bh] 37))
          have f_b5 := (na wr #[.int .i64 bt, .int .i64 bl, .int .i64 bh] 37)
          have hB5 := (bA hb (.cells #[.int .i64 bt, .int .i64 bl, .int .i64 bh] 37))
          clear zg_a zg_b
          have lg5 := (rcell f_g5).2.2
          have lb5 := (rcell f_b5).2.2
          refine Abs.wp_region_abs (Abs.cls0 _) [0, 1, 2, 3, 4, 5, 6, 7, 8, 9, 10, 11, 12, 13, 14, 15, 16, 17, 18, 19, 20, 21, 22, 23, 24, 25, 26, 27, 28, 29, 30, 31, 32, 33, 34, 35, 36, 37, 38, 39] (by kernel_rfl) (by kernel_rfl) (Below.refl _ _).drew ?_
          repeat (first | (refine Abs.step_pure rfl rfl (fun K hK => ?_); go_simp; (try go_bits); (first | refine hK _ _ ?_ | (simp only [↓IntWalk.iteOmega]; go_simp; (try go_bits); refine hK _ _ ?_)); clear hK K) | (refine Abs.step_load (v := ?_) rfl rfl (by kernel_rfl) rfl (fun w0 hI => ?_) (fun K hK => ?_); rotate_left; (· have z0 := (rcell (kp hI (f_g5))).1; have z1 := (rcell (kp hI (f_b5))).1; go_simp; rfl); (simp only [Act.put, List.setIfInBounds_toArray, List.set_cons_zero, List.set_cons_succ]; refine hK _ _ ?_; clear hK K)) | (refine Abs.step_skip rfl rfl (fun K hK => ?_); (simp only [Act.put, List.setIfInBounds_toArray, List.set_cons_zero, List.set_cons_succ]; refine hK _ _ ?_; clear hK K)))
          intro w6 hb6 hx0 hx1 hx2
          clear hx0 hx1 hx2
          simp only [Abs.T_setF, Abs.T_addA, Abs.T_push, Abs.T_start]
          have f_g6 := kp hb6 (f_g5)
          have f_b6 := kp hb6 (f_b5)
          have hB6 := bB hB5 hb6
          obtain ⟨zg_a, zg_b, lg6⟩ := rcell f_g6
          obtain ⟨zb_a, zb_b, lb6⟩ := rcell f_b6
          go_wp2
          go_ret
          exact ⟨rfl, hB6⟩
        cases d5 : decide (bl < -2305844108725321728)
        rotate_left
        · have e : E = false := hno.out (by unfold bdB; simp only [Bool.and_eq_false_iff, decide_eq_false_iff_not]; left; right; exact decide_eq_false (by have := of_decide_eq_true d5; (try dsimp only); omega))
          subst e
          clear hE hno hyes
          have f_g5 := (ka (j1) (.cells #[.int .i64 bt, .int .i64 bl, .int .i64 bh] 37))
          have f_b5 := (na wr #[.int .i64 bt, .int .i64 bl, .int .i64 bh] 37)
          have hB5 := (bA hb (.cells #[.int .i64 bt, .int .i64 bl, .int .i64 bh] 37))
          clear zg_a zg_b
          have lg5 := (rcell f_g5).2.2
          have lb5 := (rcell f_b5).2.2
          refine Abs.wp_region_abs (Abs.cls0 _) [0, 1, 2, 3, 4, 5, 6, 7, 8, 9, 10, 11, 12, 13, 14, 15, 16, 17, 18, 19, 20, 21, 22, 23, 24, 25, 26, 27, 28, 29, 30, 31, 32, 33, 34, 35, 36, 37, 38, 39] (by kernel_rfl) (by kernel_rfl) (Below.refl _ _).drew ?_
          repeat (first | (refine Abs.step_pure rfl rfl (fun K hK => ?_); go_simp; (try go_bits); (first | refine hK _ _ ?_ | (simp only [↓IntWalk.iteOmega]; go_simp; (try go_bits); refine hK _ _ ?_)); clear hK K) | (refine Abs.step_load (v := ?_) rfl rfl (by kernel_rfl) rfl (fun w0 hI => ?_) (fun K hK => ?_); rotate_left; (· have z0 := (rcell (kp hI (f_g5))).1; have z1 := (rcell (kp hI (f_b5))).1; go_simp; rfl); (simp only [Act.put, List.setIfInBounds_toArray, List.set_cons_zero, List.set_cons_succ]; refine hK _ _ ?_; clear hK K)) | (refine Abs.step_skip rfl rfl (fun K hK => ?_); (simp only [Act.put, List.setIfInBounds_toArray, List.set_cons_zero, List.set_cons_succ]; refine hK _ _ ?_; clear hK K)))
          intro w6 hb6 hx0 hx1 hx2
          clear hx0 hx1 hx2
          simp only [Abs.T_setF, Abs.T_addA, Abs.T_push, Abs.T_start]
          have f_g6 := kp hb6 (f_g5)
          have f_b6 := kp hb6 (f_b5)
          have hB6 := bB hB5 hb6
          obtain ⟨zg_a, zg_b, lg6⟩ := rcell f_g6
          obtain ⟨zb_a, zb_b, lb6⟩ := rcell f_b6
          go_wp2
          go_ret
          exact ⟨rfl, hB6⟩
        cases d6 : decide (2305844108725321728 < bh)
        rotate_left
        · have e : E = false := hno.out (by unfold bdB; simp only [Bool.and_eq_false_iff, decide_eq_false_iff_not]; right; exact decide_eq_false (by have := of_decide_eq_true d6; (try dsimp only); omega))
          subst e
          clear hE hno hyes
          have f_g5 := (ka (j1) (.cells #[.int .i64 bt, .int .i64 bl, .int .i64 bh] 37))
          have f_b5 := (na wr #[.int .i64 bt, .int .i64 bl, .int .i64 bh] 37)
          have hB5 := (bA hb (.cells #[.int .i64 bt, .int .i64 bl, .int .i64 bh] 37))
          clear zg_a zg_b
          have lg5 := (rcell f_g5).2.2
          have lb5 := (rcell f_b5).2.2
          refine Abs.wp_region_abs (Abs.cls0 _) [0, 1, 2, 3, 4, 5, 6, 7, 8, 9, 10, 11, 12, 13, 14, 15, 16, 17, 18, 19, 20, 21, 22, 23, 24, 25, 26, 27, 28, 29, 30, 31, 32, 33, 34, 35, 36, 37, 38, 39] (by kernel_rfl) (by kernel_rfl) (Below.refl _ _).drew ?_
          repeat (first | (refine Abs.step_pure rfl rfl (fun K hK => ?_); go_simp; (try go_bits); (first | refine hK _ _ ?_ | (simp only [↓IntWalk.iteOmega]; go_simp; (try go_bits); refine hK _ _ ?_)); clear hK K) | (refine Abs.step_load (v := ?_) rfl rfl (by kernel_rfl) rfl (fun w0 hI => ?_) (fun K hK => ?_); rotate_left; (· have z0 := (rcell (kp hI (f_g5))).1; have z1 := (rcell (kp hI (f_b5))).1; go_simp; rfl); (simp only [Act.put, List.setIfInBounds_toArray, List.set_cons_zero, List.set_cons_succ]; refine hK _ _ ?_; clear hK K)) | (refine Abs.step_skip rfl rfl (fun K hK => ?_); (simp only [Act.put, List.setIfInBounds_toArray, List.set_cons_zero, List.set_cons_succ]; refine hK _ _ ?_; clear hK K)))
          intro w6 hb6 hx0 hx1 hx2
          clear hx0 hx1 hx2
          simp only [Abs.T_setF, Abs.T_addA, Abs.T_push, Abs.T_start]
          have f_g6 := kp hb6 (f_g5)
          have f_b6 := kp hb6 (f_b5)
          have hB6 := bB hB5 hb6
          obtain ⟨zg_a, zg_b, lg6⟩ := rcell f_g6
          obtain ⟨zb_a, zb_b, lb6⟩ := rcell f_b6
          go_wp2
          go_ret
          exact ⟨rfl, hB6⟩
        have hgood := hyes.out (good_1 d3 d2 d4 d5 d6)
        have HG := hide hgood
        clear hE hno hyes hgood
        have f_g5 := (ka (j1) (.cells #[.int .i64 bt, .int .i64 bl, .int .i64 bh] 37))
        have f_b5 := (na wr #[.int .i64 bt, .int .i64 bl, .int .i64 bh] 37)
        have hB5 := (bA hb (.cells #[.int .i64 bt, .int .i64 bl, .int .i64 bh] 37))
        clear zg_a zg_b
        have lg5 := (rcell f_g5).2.2
        have lb5 := (rcell f_b5).2.2
        refine Abs.wp_region_abs (Abs.cls0 _) [0, 1, 2, 3, 4, 5, 6, 7, 8, 9, 10, 11, 12, 13, 14, 15, 16, 17, 18, 19, 20, 21, 22, 23, 24, 25, 26, 27, 28, 29, 30, 31, 32, 33, 34, 35, 36, 37, 38, 39] (by kernel_rfl) (by kernel_rfl) (Below.refl _ _).drew ?_
        repeat (first | (refine Abs.step_pure rfl rfl (fun K hK => ?_); go_simp; (try go_bits); (first | refine hK _ _ ?_ | (simp only [↓IntWalk.iteOmega]; go_simp; (try go_bits); refine hK _ _ ?_)); clear hK K) | (refine Abs.step_load (v := ?_) rfl rfl (by kernel_rfl) rfl (fun w0 hI => ?_) (fun K hK => ?_); rotate_left; (· have z0 := (rcell (kp hI (f_g5))).1; have z1 := (rcell (kp hI (f_b5))).1; go_simp; rfl); (simp only [Act.put, List.setIfInBounds_toArray, List.set_cons_zero, List.set_cons_succ]; refine hK _ _ ?_; clear hK K)) | (refine Abs.step_skip rfl rfl (fun K hK => ?_); (simp only [Act.put, List.setIfInBounds_toArray, List.set_cons_zero, List.set_cons_succ]; refine hK _ _ ?_; clear hK K)))
        intro w6 hb6 hx0 hx1 hx2
        clear hx0 hx1 hx2
        simp only [Abs.T_setF, Abs.T_addA, Abs.T_push, Abs.T_start]
        have f_g6 := kp hb6 (f_g5)
        have f_b6 := kp hb6 (f_b5)
        have hB6 := bB hB5 hb6
        obtain ⟨zg_a, zg_b, lg6⟩ := rcell f_g6
        obtain ⟨zb_a, zb_b, lb6⟩ := rcell f_b6
        go_wp2
        go_roundw
        case rel => exact ⟨j + 1 + 1, by go_num, by omega, HG, (f_g6), hB6⟩
        case measure => simp [intOf]; omega
    · obtain rfl : k = l.length := by omega
      rw [List.take_length] at hok
      have e : E = true := by rw [← hE.out]; exact hok.out
      subst e
      clear hE
      go_wp2
      go_ret
      exact ⟨rfl, hb⟩

theorem ref8_Right (A : Option Addr) (c : Nat) (l : List Bd) (w : World) (hR : BR w A c l) :
    Calls Tryd.prog 46 #[.slice A l.length c] w fun e w' => e = .returned (.bool (okB l)) ∧ Below w.heap.size w w' := by
  by_cases h0 : 0 < l.length
  · by_cases h1 : l.length ≤ 256
    · refine right_in A c l (okB l) (hide ?_) h0 h1 w hR
      unfold okB
      rw [decide_eq_true h0, decide_eq_true h1]; simp
    · rw [show okB l = false by unfold okB; simp [h1]]
      exact right_no _ c A (.inr (by omega)) w
  · rw [show okB l = false by unfold okB; simp; intro h; exact absurd h h0]
    exact right_no _ c A (.inl (by omega)) w
end Go.Proofs.YtpimkigbdjfjoaaDoor

namespace Go.Proofs.YtpimkigbdjfjoaaDoor
open Go.RowKit

/-- a door's step behind the second band -/
theorem dr_step {l : List Bd} {i : Nat} (h2 : 2 ≤ i) (hi : i < l.length) :
    (dk l (i + 1)).n0 = (if (dk l i).n0 * lwD ((bd l i).lo - (dk l i).v) ((bd l i).t - (dk l i).t) < lwN ((bd l i).lo - (dk l i).v) ((bd l i).t - (dk l i).t) * (dk l i).d0 then lwN ((bd l i).lo - (dk l i).v) ((bd l i).t - (dk l i).t) else (dk l i).n0) ∧
    (dk l (i + 1)).d0 = (if (dk l i).n0 * lwD ((bd l i).lo - (dk l i).v) ((bd l i).t - (dk l i).t) < lwN ((bd l i).lo - (dk l i).v) ((bd l i).t - (dk l i).t) * (dk l i).d0 then lwD ((bd l i).lo - (dk l i).v) ((bd l i).t - (dk l i).t) else (dk l i).d0) ∧
    (dk l (i + 1)).n1 = (if lwN ((bd l i).hi - (dk l i).v) ((bd l i).t - (dk l i).t) * (dk l i).d1 < (dk l i).n1 * lwD ((bd l i).hi - (dk l i).v) ((bd l i).t - (dk l i).t) then lwN ((bd l i).hi - (dk l i).v) ((bd l i).t - (dk l i).t) else (dk l i).n1) ∧
    (dk l (i + 1)).d1 = (if lwN ((bd l i).hi - (dk l i).v) ((bd l i).t - (dk l i).t) * (dk l i).d1 < (dk l i).n1 * lwD ((bd l i).hi - (dk l i).v) ((bd l i).t - (dk l i).t) then lwD ((bd l i).hi - (dk l i).v) ((bd l i).t - (dk l i).t) else (dk l i).d1) := by
  have hm := dk_many l i (by omega)
  rw [dk_succ l i hi, bd_eq hi]
  unfold drTake
  rw [if_neg (by omega)]
  have n1 : ¬ (dk l i).many = 1 := by omega
  simp only [n1, false_or]
  exact ⟨trivial, trivial, trivial, trivial⟩
theorem dr_two {l : List Bd} (h : 2 ≤ l.length) (d : Dr) (hd : dk l 1 = d) : (dk l 2).n0 = lwN ((bd l 1).lo - d.v) ((bd l 1).t - d.t) ∧ (dk l 2).d0 = lwD ((bd l 1).lo - d.v) ((bd l 1).t - d.t) ∧ (dk l 2).n1 = lwN ((bd l 1).hi - d.v) ((bd l 1).t - d.t) ∧ (dk l 2).d1 = lwD ((bd l 1).hi - d.v) ((bd l 1).t - d.t) := by
  have hm := dk_many l 1 (by omega)
  rw [dk_succ l 1 h, bd_eq h, hd]
  rw [hd] at hm
  unfold drTake
  rw [if_neg (by omega)]
  have n1 : d.many = 1 := hm
  simp [n1]

end Go.Proofs.YtpimkigbdjfjoaaDoor

namespace Go.Proofs.YtpimkigbdjfjoaaDoor
open Go.RowKit

theorem one_open_ {l : List Bd} (h : okB l = true) (h1 : l.length = 1) : drOpen (dk l l.length) = true := by
  have hm := dk_many l l.length (Nat.le_refl _)
  unfold drOpen
  rw [decide_eq_true_iff]
  left; rw [hm, h1]; rfl
theorem open_cross {d : Dr} (h : d.many ≠ 1) : drOpen d = !decide (d.n1 * d.d0 < d.n0 * d.d1) := by
  unfold drOpen
  rw [Bool.eq_iff_iff]
  simp [h]

theorem dk_take (l : List Bd) (k : Nat) (hk : k ≤ l.length) : dk (l.take k) (l.take k).length = dk l k := by
  unfold dk
  rw [List.take_length]
theorem okB_take {l : List Bd} (h : okB l = true) (k : Nat) (h0 : 0 < k) (hk : k ≤ l.length) : okB (l.take k) = true := by
  obtain ⟨k0, k1, k2⟩ := okB_spec h
  unfold okB
  rw [List.length_take, okF_pre (-1) l k k2]
  simp
  omega

end Go.Proofs.YtpimkigbdjfjoaaDoor
