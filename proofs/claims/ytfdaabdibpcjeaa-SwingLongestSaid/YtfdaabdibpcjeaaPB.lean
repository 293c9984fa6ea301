/- yearbookref08.Right at this program. yearbookref09 at this program: Hinge, to, Door. yearbookref09.Door at this program. yearbookref09 at this program: Swing, Fit, First. -/
import Derived.Test.YtfdaabdibpcjeaaPA
import Derived.Test.YtfdaabdibpcjeaaP5
set_option linter.unusedSimpArgs false
set_option linter.unusedVariables false
namespace Go.Proofs.Ytfdaabdibpcjeaa
open Go.RowKit

theorem lastT_ge {l : List Bd} (h : okF (-1) l = true) : -1 ≤ lastT l := by
  rcases Nat.eq_zero_or_pos l.length with e | e
  · have : l = [] := List.eq_nil_of_length_eq_zero e
    subst this; exact Int.le_refl (-1)
  · obtain ⟨h1, h2⟩ := el_bd h (l.length - 1) (by omega)
    have h3 := (bdB_spec h2).1
    have e2 : lastT l = l[l.length - 1].t := by
      have := take_snoc l (l.length - 1) (by omega)
      rw [show l.length - 1 + 1 = l.length by omega, List.take_length] at this
      have e3 := congrArg lastT this
      rw [lastT_snoc] at e3
      exact e3
    omega

theorem good_1 {pt bt bl bh : Int} (d1 : decide (bt ≤ pt) = false) (d2 : decide (281474976710656 < bt) = false) (d4 : decide (bh < bl) = false) (d5 : decide (bl < -2305844108725321728) = false) (d6 : decide (2305844108725321728 < bh) = false) : bdB pt ⟨bt, bl, bh⟩ = true := by
  have e1 := of_decide_eq_false d1
  have e2 := of_decide_eq_false d2
  have e4 := of_decide_eq_false d4
  have e5 := of_decide_eq_false d5
  have e6 := of_decide_eq_false d6
  unfold bdB
  simp only [Bool.and_eq_true, decide_eq_true_eq]
  exact ⟨⟨⟨⟨by omega, by omega⟩, by omega⟩, bk_of (by omega) (by omega)⟩, bk_of (by omega) (by omega)⟩
theorem good_0 {bt bl bh : Int} (d1 : decide (bt < 0) = false) (d2 : decide (281474976710656 < bt) = false) (d4 : decide (bh < bl) = false) (d5 : decide (bl < -2305844108725321728) = false) (d6 : decide (2305844108725321728 < bh) = false) : bdB (-1) ⟨bt, bl, bh⟩ = true :=
  good_1 (by rw [decide_eq_false_iff_not] at *; omega) d2 d4 d5 d6

theorem right_no (n c : Nat) (A : Option Addr) (h : n = 0 ∨ 256 < n) (w : World) :
    Calls Try.prog 13 #[.slice A n c] w fun e w' => e = .returned (.bool false) ∧ Below w.heap.size w w' := by
  rcases h with rfl | h
  · go_enter Try.func13, Try.ntmps13
    go_wp2
    go_ret
    exact ⟨rfl, b0 w⟩
  · have n0 : ((n : Int) == 0) = false := by rw [beq_eq_false_iff_ne]; omega
    have n1 : decide (256 < (n : Int)) = true := by rw [decide_eq_true_iff]; omega
    go_enter Try.func13, Try.ntmps13
    go_wp2
    go_ret
    exact ⟨rfl, b0 w⟩

set_option maxRecDepth 100000 in
set_option maxHeartbeats 4000000 in
theorem right_in (A : Option Addr) (c : Nat) (l : List Bd) (E : Bool) (hE : Hid (okF (-1) l = E)) (h0 : 0 < l.length) (h1 : l.length ≤ 256) (w : World) (hR : BR w A c l) :
    Calls Try.prog 13 #[.slice A l.length c] w fun e w' => e = .returned (.bool E) ∧ Below w.heap.size w w' := by
  obtain ⟨g, o, cur, rfl, hg, hc⟩ := hR.mem h0
  have HC := hide hc
  have n0 : ((l.length : Int) == 0) = false := by rw [beq_eq_false_iff_ne]; omega
  have n1 : decide (256 < (l.length : Int)) = false := by rw [decide_eq_false_iff_not]; omega
  clear hR hc
  go_enter Try.func13, Try.ntmps13
  obtain ⟨zg_a, zg_b, lg0⟩ := rcell hg
  go_wp2_with fail
  go_loopw [15] (fun vi wr => ∃ k : Nat, vi = .int .i64 k ∧ k ≤ l.length ∧ Hid (okF (-1) (l.take k) = true) ∧ wr.heap[g]? = some (.cells cur 38 (0, 0)) ∧ Below w.heap.size w wr) (fun vi _ => l.length - (intOf vi).toNat)
  case atStart => exact ⟨0, rfl, by omega, hide rfl, (hg), (b0 w)⟩
  case round =>
    obtain ⟨k, rfl, hk, hok, j1, hb⟩ := hrel
    by_cases hlt : k < l.length
    · obtain ⟨q1, q2, q3⟩ := HC.out k hlt
      have ht := okF_take l k hlt
      rw [hok.out, Bool.true_and] at ht
      have hge := lastT_ge hok.out
      have hno : Hid (bdB (lastT (l.take k)) l[k] = false → E = false) := hide (fun h => by rw [← hE.out]; exact okF_no k hlt (by rw [ht, h]))
      have hyes : Hid (bdB (lastT (l.take k)) l[k] = true → okF (-1) (l.take (k + 1)) = true) := hide (fun h => by rw [ht, h])
      clear ht
      rcases Nat.eq_zero_or_pos k with rfl | hpos
      · have el : lastT (l.take 0) = -1 := rfl
        rw [el] at hno hyes hge
        clear el
        simp only [Nat.zero_mul, Nat.add_zero] at q1 q2 q3
        generalize l[0] = b at *
        obtain ⟨bt, bl, bh⟩ := b
        simp only at q1 q2 q3
        obtain ⟨zg_a, zg_b, lg1⟩ := rcell j1
        go_wp2_with fail
        cases d1 : decide (bt < 0)
        rotate_left
        · have e : E = false := hno.out (by unfold bdB; simp only [Bool.and_eq_false_iff, decide_eq_false_iff_not]; left; left; left; left; have := of_decide_eq_true d1; (try dsimp only); omega)
          subst e
          clear hE hno hyes
          have f_g2 := (ka (j1) (.cells #[.int .i64 bt, .int .i64 bl, .int .i64 bh] 38))
          have f_b2 := (na wr #[.int .i64 bt, .int .i64 bl, .int .i64 bh] 38)
          have hB2 := (bA hb (.cells #[.int .i64 bt, .int .i64 bl, .int .i64 bh] 38))
          clear zg_a zg_b
          have lg2 := (rcell f_g2).2.2
          have lb2 := (rcell f_b2).2.2
          refine Abs.wp_region_abs (Abs.cls0 _) [0, 1, 2, 3, 4, 5, 6, 7, 8, 9, 10, 11, 12, 13, 14, 15, 16, 17, 18, 19, 20, 21, 22, 23, 24, 25, 26, 27, 28, 29, 30, 31, 32, 33, 34, 35, 36, 37, 38, 39] (by kernel_rfl) (by kernel_rfl) (Below.refl _ _).drew ?_
          repeat (first | (refine Abs.step_pure rfl rfl (fun K hK => ?_); go_simp; (try go_bits); (first | refine hK _ _ ?_ | (simp only [↓IntWalk.iteOmega]; go_simp; (try go_bits); refine hK _ _ ?_)); clear hK K) | (refine Abs.step_load (v := ?_) rfl rfl (by kernel_rfl) rfl (fun w0 hI => ?_) (fun K hK => ?_); rotate_left; (· have z0 := (rcell (kp hI (f_g2))).1; have z1 := (rcell (kp hI (f_b2))).1; go_simp; rfl); (simp only [Act.put, List.setIfInBounds_toArray, List.set_cons_zero, List.set_cons_succ]; refine hK _ _ ?_; clear hK K)) | (refine Abs.step_skip rfl rfl (fun K hK => ?_); (simp only [Act.put, List.setIfInBounds_toArray, List.set_cons_zero, List.set_cons_succ]; refine hK _ _ ?_; clear hK K)))
          intro w3 hb3 hx0 hx1 hx2
          clear hx0 hx1 hx2
          simp only [Abs.T_setF, Abs.T_addA, Abs.T_push, Abs.T_start]
          have f_g3 := kp hb3 (f_g2)
          have f_b3 := kp hb3 (f_b2)
          have hB3 := bB hB2 hb3
          obtain ⟨zg_a, zg_b, lg3⟩ := rcell f_g3
          obtain ⟨zb_a, zb_b, lb3⟩ := rcell f_b3
          go_wp2
          go_ret
          exact ⟨rfl, hB3⟩
        cases d2 : decide (281474976710656 < bt)
        rotate_left
        · have e : E = false := hno.out (by unfold bdB; simp only [Bool.and_eq_false_iff, decide_eq_false_iff_not]; left; left; left; right; have := of_decide_eq_true d2; (try dsimp only); omega)
          subst e
          clear hE hno hyes
          have f_g2 := (ka (j1) (.cells #[.int .i64 bt, .int .i64 bl, .int .i64 bh] 38))
          have f_b2 := (na wr #[.int .i64 bt, .int .i64 bl, .int .i64 bh] 38)
          have hB2 := (bA hb (.cells #[.int .i64 bt, .int .i64 bl, .int .i64 bh] 38))
          clear zg_a zg_b
          have lg2 := (rcell f_g2).2.2
          have lb2 := (rcell f_b2).2.2
          refine Abs.wp_region_abs (Abs.cls0 _) [0, 1, 2, 3, 4, 5, 6, 7, 8, 9, 10, 11, 12, 13, 14, 15, 16, 17, 18, 19, 20, 21, 22, 23, 24, 25, 26, 27, 28, 29, 30, 31, 32, 33, 34, 35, 36, 37, 38, 39] (by kernel_rfl) (by kernel_rfl) (Below.refl _ _).drew ?_
          repeat (first | (refine Abs.step_pure rfl rfl (fun K hK => ?_); go_simp; (try go_bits); (first | refine hK _ _ ?_ | (simp only [↓IntWalk.iteOmega]; go_simp; (try go_bits); refine hK _ _ ?_)); clear hK K) | (refine Abs.step_load (v := ?_) rfl rfl (by kernel_rfl) rfl (fun w0 hI => ?_) (fun K hK => ?_); rotate_left; (· have z0 := (rcell (kp hI (f_g2))).1; have z1 := (rcell (kp hI (f_b2))).1; go_simp; rfl); (simp only [Act.put, List.setIfInBounds_toArray, List.set_cons_zero, List.set_cons_succ]; refine hK _ _ ?_; clear hK K)) | (refine Abs.step_skip rfl rfl (fun K hK => ?_); (simp only [Act.put, List.setIfInBounds_toArray, List.set_cons_zero, List.set_cons_succ]; refine hK _ _ ?_; clear hK K)))
          intro w3 hb3 hx0 hx1 hx2
          clear hx0 hx1 hx2
          simp only [Abs.T_setF, Abs.T_addA, Abs.T_push, Abs.T_start]
          have f_g3 := kp hb3 (f_g2)
          have f_b3 := kp hb3 (f_b2)
          have hB3 := bB hB2 hb3
          obtain ⟨zg_a, zg_b, lg3⟩ := rcell f_g3
          obtain ⟨zb_a, zb_b, lb3⟩ := rcell f_b3
          go_wp2
          go_ret
          exact ⟨rfl, hB3⟩
        cases d4 : decide (bh < bl)
        rotate_left
        · have e : E = false := hno.out (by unfold bdB; simp only [Bool.and_eq_false_iff, decide_eq_false_iff_not]; left; left; right; have := of_decide_eq_true d4; (try dsimp only); omega)
          subst e
          clear hE hno hyes
          have f_g2 := (ka (j1) (.cells #[.int .i64 bt, .int .i64 bl, .int .i64 bh] 38))
          have f_b2 := (na wr #[.int .i64 bt, .int .i64 bl, .int .i64 bh] 38)
          have hB2 := (bA hb (.cells #[.int .i64 bt, .int .i64 bl, .int .i64 bh] 38))
          clear zg_a zg_b
          have lg2 := (rcell f_g2).2.2
          have lb2 := (rcell f_b2).2.2
          refine Abs.wp_region_abs (Abs.cls0 _) [0, 1, 2, 3, 4, 5, 6, 7, 8, 9, 10, 11, 12, 13, 14, 15, 16, 17, 18, 19, 20, 21, 22, 23, 24, 25, 26, 27, 28, 29, 30, 31, 32, 33, 34, 35, 36, 37, 38, 39] (by kernel_rfl) (by kernel_rfl) (Below.refl _ _).drew ?_
          repeat (first | (refine Abs.step_pure rfl rfl (fun K hK => ?_); go_simp; (try go_bits); (first | refine hK _ _ ?_ | (simp only [↓IntWalk.iteOmega]; go_simp; (try go_bits); refine hK _ _ ?_)); clear hK K) | (refine Abs.step_load (v := ?_) rfl rfl (by kernel_rfl) rfl (fun w0 hI => ?_) (fun K hK => ?_); rotate_left; (· have z0 := (rcell (kp hI (f_g2))).1; have z1 := (rcell (kp hI (f_b2))).1; go_simp; rfl); (simp only [Act.put, List.setIfInBounds_toArray, List.set_cons_zero, List.set_cons_succ]; refine hK _ _ ?_; clear hK K)) | (refine Abs.step_skip rfl rfl (fun K hK => ?_); (simp only [Act.put, List.setIfInBounds_toArray, List.set_cons_zero, List.set_cons_succ]; refine hK _ _ ?_; clear hK K)))
          intro w3 hb3 hx0 hx1 hx2
          clear hx0 hx1 hx2
          simp only [Abs.T_setF, Abs.T_addA, Abs.T_push, Abs.T_start]
          have f_g3 := kp hb3 (f_g2)
          have f_b3 := kp hb3 (f_b2)
          have hB3 := bB hB2 hb3
          obtain ⟨zg_a, zg_b, lg3⟩ := rcell f_g3
          obtain ⟨zb_a, zb_b, lb3⟩ := rcell f_b3
          go_wp2
          go_ret
          exact ⟨rfl, hB3⟩
        cases d5 : decide (bl < -2305844108725321728)
        rotate_left
        · have e : E = false := hno.out (by unfold bdB; simp only [Bool.and_eq_false_iff, decide_eq_false_iff_not]; left; right; exact decide_eq_false (by have := of_decide_eq_true d5; (try dsimp only); omega))
          subst e
          clear hE hno hyes
          have f_g2 := (ka (j1) (.cells #[.int .i64 bt, .int .i64 bl, .int .i64 bh] 38))
          have f_b2 := (na wr #[.int .i64 bt, .int .i64 bl, .int .i64 bh] 38)
          have hB2 := (bA hb (.cells #[.int .i64 bt, .int .i64 bl, .int .i64 bh] 38))
          clear zg_a zg_b
          have lg2 := (rcell f_g2).2.2
          have lb2 := (rcell f_b2).2.2
          refine Abs.wp_region_abs (Abs.cls0 _) [0, 1, 2, 3, 4, 5, 6, 7, 8, 9, 10, 11, 12, 13, 14, 15, 16, 17, 18, 19, 20, 21, 22, 23, 24, 25, 26, 27, 28, 29, 30, 31, 32, 33, 34, 35, 36, 37, 38, 39] (by kernel_rfl) (by kernel_rfl) (Below.refl _ _).drew ?_
          repeat (first | (refine Abs.step_pure rfl rfl (fun K hK => ?_); go_simp; (try go_bits); (first | refine hK _ _ ?_ | (simp only [↓IntWalk.iteOmega]; go_simp; (try go_bits); refine hK _ _ ?_)); clear hK K) | (refine Abs.step_load (v := ?_) rfl rfl (by kernel_rfl) rfl (fun w0 hI => ?_) (fun K hK => ?_); rotate_left; (· have z0 := (rcell (kp hI (f_g2))).1; have z1 := (rcell (kp hI (f_b2))).1; go_simp; rfl); (simp only [Act.put, List.setIfInBounds_toArray, List.set_cons_zero, List.set_cons_succ]; refine hK _ _ ?_; clear hK K)) | (refine Abs.step_skip rfl rfl (fun K hK => ?_); (simp only [Act.put, List.setIfInBounds_toArray, List.set_cons_zero, List.set_cons_succ]; refine hK _ _ ?_; clear hK K)))
          intro w3 hb3 hx0 hx1 hx2
          clear hx0 hx1 hx2
          simp only [Abs.T_setF, Abs.T_addA, Abs.T_push, Abs.T_start]
          have f_g3 := kp hb3 (f_g2)
          have f_b3 := kp hb3 (f_b2)
          have hB3 := bB hB2 hb3
          obtain ⟨zg_a, zg_b, lg3⟩ := rcell f_g3
          obtain ⟨zb_a, zb_b, lb3⟩ := rcell f_b3
          go_wp2
          go_ret
          exact ⟨rfl, hB3⟩
        cases d6 : decide (2305844108725321728 < bh)
        rotate_left
        · have e : E = false := hno.out (by unfold bdB; simp only [Bool.and_eq_false_iff, decide_eq_false_iff_not]; right; exact decide_eq_false (by have := of_decide_eq_true d6; (try dsimp only); omega))
          subst e
          clear hE hno hyes
          have f_g2 := (ka (j1) (.cells #[.int .i64 bt, .int .i64 bl, .int .i64 bh] 38))
          have f_b2 := (na wr #[.int .i64 bt, .int .i64 bl, .int .i64 bh] 38)
          have hB2 := (bA hb (.cells #[.int .i64 bt, .int .i64 bl, .int .i64 bh] 38))
          clear zg_a zg_b
          have lg2 := (rcell f_g2).2.2
          have lb2 := (rcell f_b2).2.2
          refine Abs.wp_region_abs (Abs.cls0 _) [0, 1, 2, 3, 4, 5, 6, 7, 8, 9, 10, 11, 12, 13, 14, 15, 16, 17, 18, 19, 20, 21, 22, 23, 24, 25, 26, 27, 28, 29, 30, 31, 32, 33, 34, 35, 36, 37, 38, 39] (by kernel_rfl) (by kernel_rfl) (Below.refl _ _).drew ?_
          repeat (first | (refine Abs.step_pure rfl rfl (fun K hK => ?_); go_simp; (try go_bits); (first | refine hK _ _ ?_ | (simp only [↓IntWalk.iteOmega]; go_simp; (try go_bits); refine hK _ _ ?_)); clear hK K) | (refine Abs.step_load (v := ?_) rfl rfl (by kernel_rfl) rfl (fun w0 hI => ?_) (fun K hK => ?_); rotate_left; (· have z0 := (rcell (kp hI (f_g2))).1; have z1 := (rcell (kp hI (f_b2))).1; go_simp; rfl); (simp only [Act.put, List.setIfInBounds_toArray, List.set_cons_zero, List.set_cons_succ]; refine hK _ _ ?_; clear hK K)) | (refine Abs.step_skip rfl rfl (fun K hK => ?_); (simp only [Act.put, List.setIfInBounds_toArray, List.set_cons_zero, List.set_cons_succ]; refine hK _ _ ?_; clear hK K)))
          intro w3 hb3 hx0 hx1 hx2
          clear hx0 hx1 hx2
          simp only [Abs.T_setF, Abs.T_addA, Abs.T_push, Abs.T_start]
          have f_g3 := kp hb3 (f_g2)
          have f_b3 := kp hb3 (f_b2)
          have hB3 := bB hB2 hb3
          obtain ⟨zg_a, zg_b, lg3⟩ := rcell f_g3
          obtain ⟨zb_a, zb_b, lb3⟩ := rcell f_b3
          go_wp2
          go_ret
          exact ⟨rfl, hB3⟩
        have hgood := hyes.out (good_0 d1 d2 d4 d5 d6)
        have HG := hide hgood
        clear hE hno hyes hgood
        have f_g2 := (ka (j1) (.cells #[.int .i64 bt, .int .i64 bl, .int .i64 bh] 38))
        have f_b2 := (na wr #[.int .i64 bt, .int .i64 bl, .int .i64 bh] 38)
        have hB2 := (bA hb (.cells #[.int .i64 bt, .int .i64 bl, .int .i64 bh] 38))
        clear zg_a zg_b
        have lg2 := (rcell f_g2).2.2
        have lb2 := (rcell f_b2).2.2
        refine Abs.wp_region_abs (Abs.cls0 _) [0, 1, 2, 3, 4, 5, 6, 7, 8, 9, 10, 11, 12, 13, 14, 15, 16, 17, 18, 19, 20, 21, 22, 23, 24, 25, 26, 27, 28, 29, 30, 31, 32, 33, 34, 35, 36, 37, 38, 39] (by kernel_rfl) (by kernel_rfl) (Below.refl _ _).drew ?_
        repeat (first | (refine Abs.step_pure rfl rfl (fun K hK => ?_); go_simp; (try go_bits); (first | refine hK _ _ ?_ | (simp only [↓IntWalk.iteOmega]; go_simp; (try go_bits); refine hK _ _ ?_)); clear hK K) | (refine Abs.step_load (v := ?_) rfl rfl (by kernel_rfl) rfl (fun w0 hI => ?_) (fun K hK => ?_); rotate_left; (· have z0 := (rcell (kp hI (f_g2))).1; have z1 := (rcell (kp hI (f_b2))).1; go_simp; rfl); (simp only [Act.put, List.setIfInBounds_toArray, List.set_cons_zero, List.set_cons_succ]; refine hK _ _ ?_; clear hK K)) | (refine Abs.step_skip rfl rfl (fun K hK => ?_); (simp only [Act.put, List.setIfInBounds_toArray, List.set_cons_zero, List.set_cons_succ]; refine hK _ _ ?_; clear hK K)))
        intro w3 hb3 hx0 hx1 hx2
        clear hx0 hx1 hx2
        simp only [Abs.T_setF, Abs.T_addA, Abs.T_push, Abs.T_start]
        have f_g3 := kp hb3 (f_g2)
        have f_b3 := kp hb3 (f_b2)
        have hB3 := bB hB2 hb3
        obtain ⟨zg_a, zg_b, lg3⟩ := rcell f_g3
        obtain ⟨zb_a, zb_b, lb3⟩ := rcell f_b3
        go_wp2
        go_roundw
        case rel => exact ⟨0 + 1, by go_num, by omega, HG, (f_g3), hB3⟩
        case measure => simp [intOf]; omega
      · obtain ⟨j, rfl⟩ : ∃ j, k = j + 1 := ⟨k - 1, by omega⟩
        have el : lastT (l.take (j + 1)) = l[j].t := by rw [take_snoc l j (by omega), lastT_snoc]
        rw [el] at hno hyes hge
        clear el
        obtain ⟨p1, -, -⟩ := HC.out j (by omega)
        generalize l[j].t = pt at *
        generalize l[j + 1] = b at *
        obtain ⟨bt, bl, bh⟩ := b
        simp only at q1 q2 q3
        clear hpos
        obtain ⟨zg_a, zg_b, lg4⟩ := rcell j1
        go_wp2_with fail
        cases d1 : decide (bt < 0)
        rotate_left
        · have e : E = false := hno.out (by unfold bdB; simp only [Bool.and_eq_false_iff, decide_eq_false_iff_not]; left; left; left; left; have := of_decide_eq_true d1; (try dsimp only); omega)
          subst e
          clear hE hno hyes
          have f_g5 := (ka (j1) (.cells #[.int .i64 bt, .int .i64 bl, .int .i64 bh] 38))
          have f_b5 := (na wr #[.int .i64 bt, .int .i64 bl, .int .i64 bh] 38)
          have hB5 := (bA hb (.cells #[.int .i64 bt, .int .i64 bl, .int .i64 bh] 38))
          clear zg_a zg_b
          have lg5 := (rcell f_g5).2.2
          have lb5 := (rcell f_b5).2.2
          refine Abs.wp_region_abs (Abs.cls0 _) [0, 1, 2, 3, 4, 5, 6, 7, 8, 9, 10, 11, 12, 13, 14, 15, 16, 17, 18, 19, 20, 21, 22, 23, 24, 25, 26, 27, 28, 29, 30, 31, 32, 33, 34, 35, 36, 37, 38, 39] (by kernel_rfl) (by kernel_rfl) (Below.refl _ _).drew ?_
          repeat (first | (refine Abs.step_pure rfl rfl (fun K hK => ?_); go_simp; (try go_bits); (first | refine hK _ _ ?_ | (simp only [↓IntWalk.iteOmega]; go_simp; (try go_bits); refine hK _ _ ?_)); clear hK K) | (refine Abs.step_load (v := ?_) rfl rfl (by kernel_rfl) rfl (fun w0 hI => ?_) (fun K hK => ?_); rotate_left; (· have z0 := (rcell (kp hI (f_g5))).1; have z1 := (rcell (kp hI (f_b5))).1; go_simp; rfl); (simp only [Act.put, List.setIfInBounds_toArray, List.set_cons_zero, List.set_cons_succ]; refine hK _ _ ?_; clear hK K)) | (refine Abs.step_skip rfl rfl (fun K hK => ?_); (simp only [Act.put, List.setIfInBounds_toArray, List.set_cons_zero, List.set_cons_succ]; refine hK _ _ ?_; clear hK K)))
          intro w6 hb6 hx0 hx1 hx2
          clear hx0 hx1 hx2
          simp only [Abs.T_setF, Abs.T_addA, Abs.T_push, Abs.T_start]
          have f_g6 := kp hb6 (f_g5)
          have f_b6 := kp hb6 (f_b5)
          have hB6 := bB hB5 hb6
          obtain ⟨zg_a, zg_b, lg6⟩ := rcell f_g6
          obtain ⟨zb_a, zb_b, lb6⟩ := rcell f_b6
          go_wp2
          go_ret
          exact ⟨rfl, hB6⟩
        cases d2 : decide (281474976710656 < bt)
        rotate_left
        · have e : E = false := hno.out (by unfold bdB; simp only [Bool.and_eq_false_iff, decide_eq_false_iff_not]; left; left; left; right; have := of_decide_eq_true d2; (try dsimp only); omega)
          subst e
          clear hE hno hyes
          have f_g5 := (ka (j1) (.cells #[.int .i64 bt, .int .i64 bl, .int .i64 bh] 38))
          have f_b5 := (na wr #[.int .i64 bt, .int .i64 bl, .int .i64 bh] 38)
          have hB5 := (bA hb (.cells #[.int .i64 bt, .int .i64 bl, .int .i64 bh] 38))
          clear zg_a zg_b
          have lg5 := (rcell f_g5).2.2
          have lb5 := (rcell f_b5).2.2
          refine Abs.wp_region_abs (Abs.cls0 _) [0, 1, 2, 3, 4, 5, 6, 7, 8, 9, 10, 11, 12, 13, 14, 15, 16, 17, 18, 19, 20, 21, 22, 23, 24, 25, 26, 27, 28, 29, 30, 31, 32, 33, 34, 35, 36, 37, 38, 39] (by kernel_rfl) (by kernel_rfl) (Below.refl _ _).drew ?_
          repeat (first | (refine Abs.step_pure rfl rfl (fun K hK => ?_); go_simp; (try go_bits); (first | refine hK _ _ ?_ | (simp only [↓IntWalk.iteOmega]; go_simp; (try go_bits); refine hK _ _ ?_)); clear hK K) | (refine Abs.step_load (v := ?_) rfl rfl (by kernel_rfl) rfl (fun w0 hI => ?_) (fun K hK => ?_); rotate_left; (· have z0 := (rcell (kp hI (f_g5))).1; have z1 := (rcell (kp hI (f_b5))).1; go_simp; rfl); (simp only [Act.put, List.setIfInBounds_toArray, List.set_cons_zero, List.set_cons_succ]; refine hK _ _ ?_; clear hK K)) | (refine Abs.step_skip rfl rfl (fun K hK => ?_); (simp only [Act.put, List.setIfInBounds_toArray, List.set_cons_zero, List.set_cons_succ]; refine hK _ _ ?_; clear hK K)))
          intro w6 hb6 hx0 hx1 hx2
          clear hx0 hx1 hx2
          simp only [Abs.T_setF, Abs.T_addA, Abs.T_push, Abs.T_start]
          have f_g6 := kp hb6 (f_g5)
          have f_b6 := kp hb6 (f_b5)
          have hB6 := bB hB5 hb6
          obtain ⟨zg_a, zg_b, lg6⟩ := rcell f_g6
          obtain ⟨zb_a, zb_b, lb6⟩ := rcell f_b6
          go_wp2
          go_ret
          exact ⟨rfl, hB6⟩
        cases d3 : decide (bt ≤ pt)
        rotate_left
        · have e : E = false := hno.out (by unfold bdB; simp only [Bool.and_eq_false_iff, decide_eq_false_iff_not]; left; left; left; left; have := of_decide_eq_true d3; (try dsimp only); omega)
          subst e
          clear hE hno hyes
          have f_g5 := (ka (j1) (.cells #[.int .i64 bt, .int .i64 bl, .int .i64 bh] 38))
          have f_b5 := (na wr #[.int .i64 bt, .int .i64 bl, .int .i64 bh] 38)
          have hB5 := (bA hb (.cells #[.int .i64 bt, .int .i64 bl, .int .i64 bh] 38))
          clear zg_a zg_b
          have lg5 := (rcell f_g5).2.2
          have lb5 := (rcell f_b5).2.2
          refine Abs.wp_region_abs (Abs.cls0 _) [0, 1, 2, 3, 4, 5, 6, 7, 8, 9, 10, 11, 12, 13, 14, 15, 16, 17, 18, 19, 20, 21, 22, 23, 24, 25, 26, 27, 28, 29, 30, 31, 32, 33, 34, 35, 36, 37, 38, 39] (by kernel_rfl) (by kernel_rfl) (Below.refl _ _).drew ?_
          repeat (first | (refine Abs.step_pure rfl rfl (fun K hK => ?_); go_simp; (try go_bits); (first | refine hK _ _ ?_ | (simp only [↓IntWalk.iteOmega]; go_simp; (try go_bits); refine hK _ _ ?_)); clear hK K) | (refine Abs.step_load (v := ?_) rfl rfl (by kernel_rfl) rfl (fun w0 hI => ?_) (fun K hK => ?_); rotate_left; (· have z0 := (rcell (kp hI (f_g5))).1; have z1 := (rcell (kp hI (f_b5))).1; go_simp; rfl); (simp only [Act.put, List.setIfInBounds_toArray, List.set_cons_zero, List.set_cons_succ]; refine hK _ _ ?_; clear hK K)) | (refine Abs.step_skip rfl rfl (fun K hK => ?_); (simp only [Act.put, List.setIfInBounds_toArray, List.set_cons_zero, List.set_cons_succ]; refine hK _ _ ?_; clear hK K)))
          intro w6 hb6 hx0 hx1 hx2
          clear hx0 hx1 hx2
          simp only [Abs.T_setF, Abs.T_addA, Abs.T_push, Abs.T_start]
          have f_g6 := kp hb6 (f_g5)
          have f_b6 := kp hb6 (f_b5)
          have hB6 := bB hB5 hb6
          obtain ⟨zg_a, zg_b, lg6⟩ := rcell f_g6
          obtain ⟨zb_a, zb_b, lb6⟩ := rcell f_b6
          go_wp2
          go_ret
          exact ⟨rfl, hB6⟩
        cases d4 : decide (bh < bl)
        rotate_left
        · have e : E = false := hno.out (by unfold bdB; simp only [Bool.and_eq_false_iff, decide_eq_false_iff_not]; left; left; right; have := of_decide_eq_true d4; (try dsimp only); omega)
          subst e
          clear hE hno hyes
          have f_g5 := (ka (j1) (.cells #[.int .i64 bt, .int .i64 bl, .int .i64 bh] 38))
          have f_b5 := (na wr #[.int .i64 bt, .int .i64 bl, .int .i64 bh] 38)
          have hB5 := (bA hb (.cells #[.int .i64 bt, .int .i64 bl, .int .i64 bh] 38))
          clear zg_a zg_b
          have lg5 := (rcell f_g5).2.2
          have lb5 := (rcell f_b5).2.2
          refine Abs.wp_region_abs (Abs.cls0 _) [0, 1, 2, 3, 4, 5, 6, 7, 8, 9, 10, 11, 12, 13, 14, 15, 16, 17, 18, 19, 20, 21, 22, 23, 24, 25, 26, 27, 28, 29, 30, 31, 32, 33, 34, 35, 36, 37, 38, 39] (by kernel_rfl) (by kernel_rfl) (Below.refl _ _).drew ?_
          repeat (first | (refine Abs.step_pure rfl rfl (fun K hK => ?_); go_simp; (try go_bits); (first | refine hK _ _ ?_ | (simp only [↓IntWalk.iteOmega]; go_simp; (try go_bits); refine hK _ _ ?_)); clear hK K) | (refine Abs.step_load (v := ?_) rfl rfl (by kernel_rfl) rfl (fun w0 hI => ?_) (fun K hK => ?_); rotate_left; (· have z0 := (rcell (kp hI (f_g5))).1; have z1 := (rcell (kp hI (f_b5))).1; go_simp; rfl); (simp only [Act.put, List.setIfInBounds_toArray, List.set_cons_zero, List.set_cons_succ]; refine hK _ _ ?_; clear hK K)) | (refine Abs.step_skip rfl rfl (fun K hK => ?_); (simp only [Act.put, List.setIfInBounds_toArray, List.set_cons_zero, List.set_cons_succ]; refine hK _ _ ?_; clear hK K)))
          intro w6 hb6 hx0 hx1 hx2
          clear hx0 hx1 hx2
          simp only [Abs.T_setF, Abs.T_addA, Abs.T_push, Abs.T_start]
          have f_g6 := kp hb6 (f_g5)
          have f_b6 := kp hb6 (f_b5)
          have hB6 := bB hB5 hb6
          obtain ⟨zg_a, zg_b, lg6⟩ := rcell f_g6
          obtain ⟨zb_a, zb_b, lb6⟩ := rcell f_b6
          go_wp2
          go_ret
          exact ⟨rfl, hB6⟩
        cases d5 : decide (bl < -2305844108725321728)
        rotate_left
        · have e : E = false := hno.out (by unfold bdB; simp only [Bool.and_eq_false_iff, decide_eq_false_iff_not]; left; right; exact decide_eq_false (by have := of_decide_eq_true d5; (try dsimp only); omega))
          subst e
          clear hE hno hyes
          have f_g5 := (ka (j1) (.cells #[.int .i64 bt, .int .i64 bl, .int .i64 bh] 38))
          have f_b5 := (na wr #[.int .i64 bt, .int .i64 bl, .int .i64 bh] 38)
          have hB5 := (bA hb (.cells #[.int .i64 bt, .int .i64 bl, .int .i64 bh] 38))
          clear zg_a zg_b
          have lg5 := (rcell f_g5).2.2
          have lb5 := (rcell f_b5).2.2
          refine Abs.wp_region_abs (Abs.cls0 _) [0, 1, 2, 3, 4, 5, 6, 7, 8, 9, 10, 11, 12, 13, 14, 15, 16, 17, 18, 19, 20, 21, 22, 23, 24, 25, 26, 27, 28, 29, 30, 31, 32, 33, 34, 35, 36, 37, 38, 39] (by kernel_rfl) (by kernel_rfl) (Below.refl _ _).drew ?_
          repeat (first | (refine Abs.step_pure rfl rfl (fun K hK => ?_); go_simp; (try go_bits); (first | refine hK _ _ ?_ | (simp only [↓IntWalk.iteOmega]; go_simp; (try go_bits); refine hK _ _ ?_)); clear hK K) | (refine Abs.step_load (v := ?_) rfl rfl (by kernel_rfl) rfl (fun w0 hI => ?_) (fun K hK => ?_); rotate_left; (· have z0 := (rcell (kp hI (f_g5))).1; have z1 := (rcell (kp hI (f_b5))).1; go_simp; rfl); (simp only [Act.put, List.setIfInBounds_toArray, List.set_cons_zero, List.set_cons_succ]; refine hK _ _ ?_; clear hK K)) | (refine Abs.step_skip rfl rfl (fun K hK => ?_); (simp only [Act.put, List.setIfInBounds_toArray, List.set_cons_zero, List.set_cons_succ]; refine hK _ _ ?_; clear hK K)))
          intro w6 hb6 hx0 hx1 hx2
          clear hx0 hx1 hx2
          simp only [Abs.T_setF, Abs.T_addA, Abs.T_push, Abs.T_start]
          have f_g6 := kp hb6 (f_g5)
          have f_b6 := kp hb6 (f_b5)
          have hB6 := bB hB5 hb6
          obtain ⟨zg_a, zg_b, lg6⟩ := rcell f_g6
          obtain ⟨zb_a, zb_b, lb6⟩ := rcell f_b6
          go_wp2
          go_ret
          exact ⟨rfl, hB6⟩
        cases d6 : decide (2305844108725321728 < bh)
        rotate_left
        · have e : E = false := hno.out (by unfold bdB; simp only [Bool.and_eq_false_iff, decide_eq_false_iff_not]; right; exact decide_eq_false (by have := of_decide_eq_true d6; (try dsimp only); omega))
          subst e
          clear hE hno hyes
          have f_g5 := (ka (j1) (.cells #[.int .i64 bt, .int .i64 bl, .int .i64 bh] 38))
          have f_b5 := (na wr #[.int .i64 bt, .int .i64 bl, .int .i64 bh] 38)
          have hB5 := (bA hb (.cells #[.int .i64 bt, .int .i64 bl, .int .i64 bh] 38))
          clear zg_a zg_b
          have lg5 := (rcell f_g5).2.2
          have lb5 := (rcell f_b5).2.2
          refine Abs.wp_region_abs (Abs.cls0 _) [0, 1, 2, 3, 4, 5, 6, 7, 8, 9, 10, 11, 12, 13, 14, 15, 16, 17, 18, 19, 20, 21, 22, 23, 24, 25, 26, 27, 28, 29, 30, 31, 32, 33, 34, 35, 36, 37, 38, 39] (by kernel_rfl) (by kernel_rfl) (Below.refl _ _).drew ?_
          repeat (first | (refine Abs.step_pure rfl rfl (fun K hK => ?_); go_simp; (try go_bits); (first | refine hK _ _ ?_ | (simp only [↓IntWalk.iteOmega]; go_simp; (try go_bits); refine hK _ _ ?_)); clear hK K) | (refine Abs.step_load (v := ?_) rfl rfl (by kernel_rfl) rfl (fun w0 hI => ?_) (fun K hK => ?_); rotate_left; (· have z0 := (rcell (kp hI (f_g5))).1; have z1 := (rcell (kp hI (f_b5))).1; go_simp; rfl); (simp only [Act.put, List.setIfInBounds_toArray, List.set_cons_zero, List.set_cons_succ]; refine hK _ _ ?_; clear hK K)) | (refine Abs.step_skip rfl rfl (fun K hK => ?_); (simp only [Act.put, List.setIfInBounds_toArray, List.set_cons_zero, List.set_cons_succ]; refine hK _ _ ?_; clear hK K)))
          intro w6 hb6 hx0 hx1 hx2
          clear hx0 hx1 hx2
          simp only [Abs.T_setF, Abs.T_addA, Abs.T_push, Abs.T_start]
          have f_g6 := kp hb6 (f_g5)
          have f_b6 := kp hb6 (f_b5)
          have hB6 := bB hB5 hb6
          obtain ⟨zg_a, zg_b, lg6⟩ := rcell f_g6
          obtain ⟨zb_a, zb_b, lb6⟩ := rcell f_b6
          go_wp2
          go_ret
          exact ⟨rfl, hB6⟩
        have hgood := hyes.out (good_1 d3 d2 d4 d5 d6)
        have HG := hide hgood
        clear hE hno hyes hgood
        have f_g5 := (ka (j1) (.cells #[.int .i64 bt, .int .i64 bl, .int .i64 bh] 38))
        have f_b5 := (na wr #[.int .i64 bt, .int .i64 bl, .int .i64 bh] 38)
        have hB5 := (bA hb (.cells #[.int .i64 bt, .int .i64 bl, .int .i64 bh] 38))
        clear zg_a zg_b
        have lg5 := (rcell f_g5).2.2
        have lb5 := (rcell f_b5).2.2
        refine Abs.wp_region_abs (Abs.cls0 _) [0, 1, 2, 3, 4, 5, 6, 7, 8, 9, 10, 11, 12, 13, 14, 15, 16, 17, 18, 19, 20, 21, 22, 23, 24, 25, 26, 27, 28, 29, 30, 31, 32, 33, 34, 35, 36, 37, 38, 39] (by kernel_rfl) (by kernel_rfl) (Below.refl _ _).drew ?_
        repeat (first | (refine Abs.step_pure rfl rfl (fun K hK => ?_); go_simp; (try go_bits); (first | refine hK _ _ ?_ | (simp only [↓IntWalk.iteOmega]; go_simp; (try go_bits); refine hK _ _ ?_)); clear hK K) | (refine Abs.step_load (v := ?_) rfl rfl (by kernel_rfl) rfl (fun w0 hI => ?_) (fun K hK => ?_); rotate_left; (· have z0 := (rcell (kp hI (f_g5))).1; have z1 := (rcell (kp hI (f_b5))).1; go_simp; rfl); (simp only [Act.put, List.setIfInBounds_toArray, List.set_cons_zero, List.set_cons_succ]; refine hK _ _ ?_; clear hK K)) | (refine Abs.step_skip rfl rfl (fun K hK => ?_); (simp only [Act.put, List.setIfInBounds_toArray, List.set_cons_zero, List.set_cons_succ]; refine hK _ _ ?_; clear hK K)))
        intro w6 hb6 hx0 hx1 hx2
        clear hx0 hx1 hx2
        simp only [Abs.T_setF, Abs.T_addA, Abs.T_push, Abs.T_start]
        have f_g6 := kp hb6 (f_g5)
        have f_b6 := kp hb6 (f_b5)
        have hB6 := bB hB5 hb6
        obtain ⟨zg_a, zg_b, lg6⟩ := rcell f_g6
        obtain ⟨zb_a, zb_b, lb6⟩ := rcell f_b6
        go_wp2
        go_roundw
        case rel => exact ⟨j + 1 + 1, by go_num, by omega, HG, (f_g6), hB6⟩
        case measure => simp [intOf]; omega
    · obtain rfl : k = l.length := by omega
      rw [List.take_length] at hok
      have e : E = true := by rw [← hE.out]; exact hok.out
      subst e
      clear hE
      go_wp2
      go_ret
      exact ⟨rfl, hb⟩

theorem ref8_Right (A : Option Addr) (c : Nat) (l : List Bd) (w : World) (hR : BR w A c l) :
    Calls Try.prog 13 #[.slice A l.length c] w fun e w' => e = .returned (.bool (okB l)) ∧ Below w.heap.size w w' := by
  by_cases h0 : 0 < l.length
  · by_cases h1 : l.length ≤ 256
    · refine right_in A c l (okB l) (hide ?_) h0 h1 w hR
      unfold okB
      rw [decide_eq_true h0, decide_eq_true h1]; simp
    · rw [show okB l = false by unfold okB; simp [h1]]
      exact right_no _ c A (.inr (by omega)) w
  · rw [show okB l = false by unfold okB; simp; intro h; exact absurd h h0]
    exact right_no _ c A (.inl (by omega)) w
end Go.Proofs.Ytfdaabdibpcjeaa

namespace Go.Proofs.Ytfdaabdibpcjeaa
open Go.RowKit

set_option maxRecDepth 100000 in
set_option maxHeartbeats 2000000 in
theorem ref9_Hinge (g o n c : Nat) (b : Bd) (h0 : 0 < n) (cur : Array Value) (e1 : cur[o + 1]? = some (.int .i64 b.lo)) (e2 : cur[o + 2]? = some (.int .i64 b.hi)) (h1 : bkB b.lo = true) (h2 : bkB b.hi = true) (w : World) (hg : w.heap[g]? = some (.cells cur 38 (0, 0))) :
    Calls Try.prog 29 #[.slice (some ⟨g, o, none⟩) n c] w fun e w' => e = .returned (.int .i64 (hgB b)) ∧ Below w.heap.size w w' := by
  have r1 := bkB_spec h1
  have r2 := bkB_spec h2
  have k1 := ref_Int b.lo (by omega) (by omega)
  have k2 := ref_Int b.hi (by omega) (by omega)
  have k3 := ref_Int 2 (by decide) (by decide)
  have e63 : (2 : Nat) ^ 127 = 170141183460469231731687303715884105728 := by decide
  have s1 : b.lo.natAbs + b.hi.natAbs < 2 ^ 127 := by rw [e63]; omega
  have k4 := fun A B c d w ha hb => ref_Add b.lo b.hi 127 A B c d (by decide) s1 w ha hb
  have lx : (sz (b.lo + b.hi).natAbs).length ≤ 800 := Nat.le_trans (sz_i64 (x := b.lo + b.hi) (by omega) (by omega)) (by decide)
  have k5 := fun A B c d w ha hb => ref_Div (b.lo + b.hi) 2 A B c d (by decide) lx (by decide +kernel) w ha hb
  have eq0 : hgB b = (b.lo + b.hi) / 2 := rfl
  rw [eq0]
  have k6 := fun A c w ha => ref_Value_yes ((b.lo + b.hi) / 2) A c (by omega) (by omega) w ha
  clear s1 lx e63 r1 r2 h1 h2 eq0
  generalize (b.lo + b.hi) / 2 = q at *
  generalize (b.lo + b.hi) % 2 = r at *
  generalize b.lo + b.hi = x at *
  generalize b.lo = y at *
  generalize b.hi = z at *
  go_enter Try.func29, Try.ntmps29
  obtain ⟨zg_a, zg_b, lg0⟩ := rcell hg
  go_wp2_with fail
  refine Abs.wp_region_abs (Abs.cls0 _) [0, 1, 2, 3, 4, 5, 6, 7, 8, 9, 10, 11, 12] (by kernel_rfl) (by kernel_rfl) (Below.refl _ _).drew ?_
  repeat (first | (refine Abs.step_pure rfl rfl (fun K hK => ?_); go_simp; (try go_bits); (first | refine hK _ _ ?_ | (simp only [↓IntWalk.iteOmega]; go_simp; (try go_bits); refine hK _ _ ?_)); clear hK K) | (refine Abs.step_load (v := ?_) rfl rfl (by kernel_rfl) rfl (fun w0 hI => ?_) (fun K hK => ?_); rotate_left; (· have z0 := (rcell (kp hI (hg))).1; go_simp; rfl); (simp only [Act.put, List.setIfInBounds_toArray, List.set_cons_zero, List.set_cons_succ]; refine hK _ _ ?_; clear hK K)) | (refine Abs.step_skip rfl rfl (fun K hK => ?_); (simp only [Act.put, List.setIfInBounds_toArray, List.set_cons_zero, List.set_cons_succ]; refine hK _ _ ?_; clear hK K)))
  (refine Abs.step_call (f := ?_) (args := ?_) rfl rfl rfl rfl (NumIs (y)) (fun _ => Cl_NumIs _) (fun w0 => ?_) (fun w0 hI hF => ?_) (fun K hK v w0 hv => ?_); rotate_left 2; (· go_simp; (constructor <;> rfl)); (· exact (k1 _).mono (fun _ _ h => h.num)); (obtain ⟨A1, j1, rfl, -⟩ := hv; clear w0; simp only [Act.put, List.setIfInBounds_toArray, List.set_cons_zero, List.set_cons_succ]; refine hK _ _ ?_; clear hK K))
  repeat (first | (refine Abs.step_pure rfl rfl (fun K hK => ?_); go_simp; (try go_bits); (first | refine hK _ _ ?_ | (simp only [↓IntWalk.iteOmega]; go_simp; (try go_bits); refine hK _ _ ?_)); clear hK K) | (refine Abs.step_load (v := ?_) rfl rfl (by kernel_rfl) rfl (fun w0 hI => ?_) (fun K hK => ?_); rotate_left; (· have z0 := (rcell (kp hI (hg))).1; go_simp; rfl); (simp only [Act.put, List.setIfInBounds_toArray, List.set_cons_zero, List.set_cons_succ]; refine hK _ _ ?_; clear hK K)) | (refine Abs.step_skip rfl rfl (fun K hK => ?_); (simp only [Act.put, List.setIfInBounds_toArray, List.set_cons_zero, List.set_cons_succ]; refine hK _ _ ?_; clear hK K)))
  (refine Abs.step_call (f := ?_) (args := ?_) rfl rfl rfl rfl (NumIs (z)) (fun _ => Cl_NumIs _) (fun w0 => ?_) (fun w0 hI hF => ?_) (fun K hK v w0 hv => ?_); rotate_left 2; (· go_simp; (constructor <;> rfl)); (· exact (k2 _).mono (fun _ _ h => h.num)); (obtain ⟨A2, j2, rfl, -⟩ := hv; clear w0; simp only [Act.put, List.setIfInBounds_toArray, List.set_cons_zero, List.set_cons_succ]; refine hK _ _ ?_; clear hK K))
  repeat (first | (refine Abs.step_pure rfl rfl (fun K hK => ?_); go_simp; (try go_bits); (first | refine hK _ _ ?_ | (simp only [↓IntWalk.iteOmega]; go_simp; (try go_bits); refine hK _ _ ?_)); clear hK K) | (refine Abs.step_load (v := ?_) rfl rfl (by kernel_rfl) rfl (fun w0 hI => ?_) (fun K hK => ?_); rotate_left; (· have z0 := (rcell (kp hI (hg))).1; go_simp; rfl); (simp only [Act.put, List.setIfInBounds_toArray, List.set_cons_zero, List.set_cons_succ]; refine hK _ _ ?_; clear hK K)) | (refine Abs.step_skip rfl rfl (fun K hK => ?_); (simp only [Act.put, List.setIfInBounds_toArray, List.set_cons_zero, List.set_cons_succ]; refine hK _ _ ?_; clear hK K)))
  (refine Abs.step_call (f := ?_) (args := ?_) rfl rfl rfl rfl (NumIs (x)) (fun _ => Cl_NumIs _) (fun w0 => ?_) (fun w0 hI hF => ?_) (fun K hK v w0 hv => ?_); rotate_left 2; (· go_simp; (constructor <;> rfl)); (· exact (k4 _ _ _ _ _ (((hF 4 (by kernel_rfl)).1).2 rfl).rd ((hF 9 (by kernel_rfl)).2 rfl).rd).mono (fun _ _ h => h.num)); (obtain ⟨A3, j3, rfl, -⟩ := hv; clear w0; simp only [Act.put, List.setIfInBounds_toArray, List.set_cons_zero, List.set_cons_succ]; refine hK _ _ ?_; clear hK K))
  repeat (first | (refine Abs.step_pure rfl rfl (fun K hK => ?_); go_simp; (try go_bits); (first | refine hK _ _ ?_ | (simp only [↓IntWalk.iteOmega]; go_simp; (try go_bits); refine hK _ _ ?_)); clear hK K) | (refine Abs.step_load (v := ?_) rfl rfl (by kernel_rfl) rfl (fun w0 hI => ?_) (fun K hK => ?_); rotate_left; (· have z0 := (rcell (kp hI (hg))).1; go_simp; rfl); (simp only [Act.put, List.setIfInBounds_toArray, List.set_cons_zero, List.set_cons_succ]; refine hK _ _ ?_; clear hK K)) | (refine Abs.step_skip rfl rfl (fun K hK => ?_); (simp only [Act.put, List.setIfInBounds_toArray, List.set_cons_zero, List.set_cons_succ]; refine hK _ _ ?_; clear hK K)))
  (refine Abs.step_var (obj := ?_) rfl rfl rfl rfl (fun w0 => ?_) (fun K hK g_u hv_u hu_u => ?_); rotate_left; (· go_simp; rfl); (simp only [Act.put, List.setIfInBounds_toArray, List.set_cons_zero, List.set_cons_succ]; refine hK _ _ ?_; clear hK K))
  (refine Abs.step_store (T := ?_) rfl rfl rfl (fun w0 hI hF hU => ?_) (fun _ _ _ _ => trivial) (fun K hK => ?_); rotate_left; (· have hR := (hF 11).2 rfl; have hg0 := (rcell hR).1; have hg1 := (rcell hR).2.1; simp only [Abs.T_setF, Abs.T_addA, Abs.T_push, Abs.T_start]; go_simp; exact row2 hR _ _); (simp only [Act.put, List.setIfInBounds_toArray, List.set_cons_zero, List.set_cons_succ]; refine hK _ _ ?_; clear hK K))
  have hs_u := leB hv_u
  try simp only [World.size_alloc] at hs_u
  intro w0 hI hF hx1 hx2
  clear hx1 hx2
  have q1 := (hF 11).2 rfl
  have rn_u := ((hF 10).1.2 rfl).rd
  clear hF
  simp only [Abs.T_push]
  generalize hT2 : setRow w0 _ _ = w2
  have ea := (fin_x (b0 _) q1 hT2).1
  replace rn_u := rn_u.exc ea q1 (by decide)
  obtain ⟨hb2, f_u2⟩ := fin1 hI hv_u q1 hT2
  clear hT2 hI ea q1 w0
  have f_g2 := kp hb2 (hg)
  have hB2 := bB (b0 w) hb2
  clear zg_a zg_b
  obtain ⟨zg_a, zg_b, lg2⟩ := rcell f_g2
  obtain ⟨zu_a, zu_b, lu2⟩ := rcell f_u2
  go_wp2_with fail
  refine Abs.wp_region_abs (Abs.cls0 _) [0, 1, 2, 3, 4, 5, 6, 7, 8, 9] (by kernel_rfl) (by kernel_rfl) (Below.refl _ _).drew ?_
  repeat (first | (refine Abs.step_pure rfl rfl (fun K hK => ?_); go_simp; (try go_bits); (first | refine hK _ _ ?_ | (simp only [↓IntWalk.iteOmega]; go_simp; (try go_bits); refine hK _ _ ?_)); clear hK K) | (refine Abs.step_load (v := ?_) rfl rfl (by kernel_rfl) rfl (fun w0 hI => ?_) (fun K hK => ?_); rotate_left; (· have z0 := (rcell (kp hI (f_u2))).1; go_simp; rfl); (simp only [Act.put, List.setIfInBounds_toArray, List.set_cons_zero, List.set_cons_succ]; refine hK _ _ ?_; clear hK K)) | (refine Abs.step_skip rfl rfl (fun K hK => ?_); (simp only [Act.put, List.setIfInBounds_toArray, List.set_cons_zero, List.set_cons_succ]; refine hK _ _ ?_; clear hK K)))
  (refine Abs.step_call (f := ?_) (args := ?_) rfl rfl rfl rfl (NumIs (2)) (fun _ => Cl_NumIs _) (fun w0 => ?_) (fun w0 hI hF => ?_) (fun K hK v w0 hv => ?_); rotate_left 2; (· go_simp; (constructor <;> rfl)); (· exact (k3 _).mono (fun _ _ h => h.num)); (obtain ⟨B1, l1, rfl, -⟩ := hv; clear w0; simp only [Act.put, List.setIfInBounds_toArray, List.set_cons_zero, List.set_cons_succ]; refine hK _ _ ?_; clear hK K))
  repeat (first | (refine Abs.step_pure rfl rfl (fun K hK => ?_); go_simp; (try go_bits); (first | refine hK _ _ ?_ | (simp only [↓IntWalk.iteOmega]; go_simp; (try go_bits); refine hK _ _ ?_)); clear hK K) | (refine Abs.step_load (v := ?_) rfl rfl (by kernel_rfl) rfl (fun w0 hI => ?_) (fun K hK => ?_); rotate_left; (· have z0 := (rcell (kp hI (f_u2))).1; go_simp; rfl); (simp only [Act.put, List.setIfInBounds_toArray, List.set_cons_zero, List.set_cons_succ]; refine hK _ _ ?_; clear hK K)) | (refine Abs.step_skip rfl rfl (fun K hK => ?_); (simp only [Act.put, List.setIfInBounds_toArray, List.set_cons_zero, List.set_cons_succ]; refine hK _ _ ?_; clear hK K)))
  (refine Abs.step_call (f := ?_) (args := ?_) rfl rfl rfl rfl (Num2Is (q) (r)) (fun _ => Cl_Num2Is _ _) (fun w0 => ?_) (fun w0 hI hF => ?_) (fun K hK v w0 hv => ?_); rotate_left 2; (· go_simp; (constructor <;> rfl)); (· exact (k5 _ _ _ _ _ (rn_u.below hI) ((hF 1 (by kernel_rfl)).2 rfl).rd).mono (fun _ _ h => h.num2)); (obtain ⟨B2, l2, B3, l3, rfl, -, -⟩ := hv; clear w0; simp only [Act.put, List.setIfInBounds_toArray, List.set_cons_zero, List.set_cons_succ]; refine hK _ _ ?_; clear hK K))
  repeat (first | (refine Abs.step_pure rfl rfl (fun K hK => ?_); go_simp; (try go_bits); (first | refine hK _ _ ?_ | (simp only [↓IntWalk.iteOmega]; go_simp; (try go_bits); refine hK _ _ ?_)); clear hK K) | (refine Abs.step_load (v := ?_) rfl rfl (by kernel_rfl) rfl (fun w0 hI => ?_) (fun K hK => ?_); rotate_left; (· have z0 := (rcell (kp hI (f_u2))).1; go_simp; rfl); (simp only [Act.put, List.setIfInBounds_toArray, List.set_cons_zero, List.set_cons_succ]; refine hK _ _ ?_; clear hK K)) | (refine Abs.step_skip rfl rfl (fun K hK => ?_); (simp only [Act.put, List.setIfInBounds_toArray, List.set_cons_zero, List.set_cons_succ]; refine hK _ _ ?_; clear hK K)))
  (refine Abs.step_var (obj := ?_) rfl rfl rfl rfl (fun w0 => ?_) (fun K hK g_q hv_q hu_q => ?_); rotate_left; (· go_simp; rfl); (simp only [Act.put, List.setIfInBounds_toArray, List.set_cons_zero, List.set_cons_succ]; refine hK _ _ ?_; clear hK K))
  repeat (first | (refine Abs.step_pure rfl rfl (fun K hK => ?_); go_simp; (try go_bits); (first | refine hK _ _ ?_ | (simp only [↓IntWalk.iteOmega]; go_simp; (try go_bits); refine hK _ _ ?_)); clear hK K) | (refine Abs.step_load (v := ?_) rfl rfl (by kernel_rfl) rfl (fun w0 hI => ?_) (fun K hK => ?_); rotate_left; (· have z0 := (rcell (kp hI (f_u2))).1; go_simp; rfl); (simp only [Act.put, List.setIfInBounds_toArray, List.set_cons_zero, List.set_cons_succ]; refine hK _ _ ?_; clear hK K)) | (refine Abs.step_skip rfl rfl (fun K hK => ?_); (simp only [Act.put, List.setIfInBounds_toArray, List.set_cons_zero, List.set_cons_succ]; refine hK _ _ ?_; clear hK K)))
  (refine Abs.step_var (obj := ?_) rfl rfl rfl rfl (fun w0 => ?_) (fun K hK g_t hv_t hu_t => ?_); rotate_left; (· go_simp; rfl); (simp only [Act.put, List.setIfInBounds_toArray, List.set_cons_zero, List.set_cons_succ]; refine hK _ _ ?_; clear hK K))
  repeat (first | (refine Abs.step_pure rfl rfl (fun K hK => ?_); go_simp; (try go_bits); (first | refine hK _ _ ?_ | (simp only [↓IntWalk.iteOmega]; go_simp; (try go_bits); refine hK _ _ ?_)); clear hK K) | (refine Abs.step_load (v := ?_) rfl rfl (by kernel_rfl) rfl (fun w0 hI => ?_) (fun K hK => ?_); rotate_left; (· have z0 := (rcell (kp hI (f_u2))).1; go_simp; rfl); (simp only [Act.put, List.setIfInBounds_toArray, List.set_cons_zero, List.set_cons_succ]; refine hK _ _ ?_; clear hK K)) | (refine Abs.step_skip rfl rfl (fun K hK => ?_); (simp only [Act.put, List.setIfInBounds_toArray, List.set_cons_zero, List.set_cons_succ]; refine hK _ _ ?_; clear hK K)))
  (refine Abs.step_store (T := ?_) rfl rfl rfl (fun w0 hI hF hU => ?_) (fun _ _ _ _ => trivial) (fun K hK => ?_); rotate_left; (· have hR := (hF 6).1.2 rfl; have hg0 := (rcell hR).1; have hg1 := (rcell hR).2.1; simp only [Abs.T_setF, Abs.T_addA, Abs.T_push, Abs.T_start]; go_simp; exact row2 hR _ _); (simp only [Act.put, List.setIfInBounds_toArray, List.set_cons_zero, List.set_cons_succ]; refine hK _ _ ?_; clear hK K))
  (refine Abs.step_store (T := ?_) rfl rfl rfl (fun w0 hI hF hU => ?_) (fun _ _ _ _ => trivial) (fun K hK => ?_); rotate_left; (· have hR := fun cs => (setRow_other (w := w0) (g := g_q) cs (fun e => hu_t (Or.inl e))).trans ((hF 7).2 rfl); have hg0 := fun cs => (rcell (hR cs)).1; have hg1 := fun cs => (rcell (hR cs)).2.1; simp only [Abs.T_setF, Abs.T_addA, Abs.T_push, Abs.T_start]; go_simp; exact row2 (hR _) _ _); (simp only [Act.put, List.setIfInBounds_toArray, List.set_cons_zero, List.set_cons_succ]; refine hK _ _ ?_; clear hK K))
  have hs_q := leB hv_q
  try simp only [World.size_alloc] at hs_q
  have hs_t := leB hv_t
  try simp only [World.size_alloc] at hs_t
  have hn : g_t ≠ g_q := fun e => hu_t (Or.inl e)
  intro w0 hI hF hx1 hx2
  clear hx1 hx2
  have q1 := (hF 6).1.2 rfl
  have q2 := (hF 7).2 rfl
  have rn_q := ((hF 2).1.1.2 rfl).rds.1
  have rn_t := ((hF 2).1.1.2 rfl).rds.2
  clear hF
  simp only [Abs.T_push]
  generalize hTa : setRow w0 _ _ = wa
  have ea := (fin_x (b0 _) q1 hTa).1
  replace rn_q := rn_q.exc ea q1 (by decide)
  replace rn_t := rn_t.exc ea q1 (by decide)
  obtain ⟨ba, fa⟩ := fin1 hI hv_q q1 hTa
  have q3 : wa.heap[g_t]? = w0.heap[g_t]? := by rw [← hTa]; exact setRow_other _ hn
  replace q2 := q3.trans q2
  clear q3
  generalize hTb : setRow wa _ _ = w4
  have eb := (fin_x (b0 _) q2 hTb).1
  replace rn_q := rn_q.exc eb q2 (by decide)
  replace rn_t := rn_t.exc eb q2 (by decide)
  obtain ⟨hb4, f_t4⟩ := fin1 ba hv_t q2 hTb
  have q4 : w4.heap[g_q]? = wa.heap[g_q]? := by rw [← hTb]; exact setRow_other _ hn.symm
  have f_q4 := q4.trans fa
  clear q4
  clear hTa hTb ea eb q1 q2 fa ba hI w0
  have f_g4 := kp hb4 (f_g2)
  have f_u4 := kp hb4 (f_u2)
  have rd_u4 := rn_u.below hb4
  have hB4 := bB hB2 hb4
  clear zg_a zg_b zu_a zu_b
  obtain ⟨zg_a, zg_b, lg4⟩ := rcell f_g4
  obtain ⟨zu_a, zu_b, lu4⟩ := rcell f_u4
  obtain ⟨zq_a, zq_b, lq4⟩ := rcell f_q4
  obtain ⟨zt_a, zt_b, lt4⟩ := rcell f_t4
  go_wp2_with fail
  refine (k6 _ _ _ rn_q).mono ?_
  rintro e w5 ⟨rfl, hb5⟩
  have f_g5 := kp hb5 (f_g4)
  have f_u5 := kp hb5 (f_u4)
  have f_q5 := kp hb5 (f_q4)
  have f_t5 := kp hb5 (f_t4)
  have rd_u5 := rd_u4.below hb5
  have rd_q5 := rn_q.below hb5
  have rd_t5 := rn_t.below hb5
  have hB5 := bB hB4 hb5
  clear zg_a zg_b zq_a zq_b zt_a zt_b zu_a zu_b
  obtain ⟨zg_a, zg_b, lg5⟩ := rcell f_g5
  obtain ⟨zu_a, zu_b, lu5⟩ := rcell f_u5
  obtain ⟨zq_a, zq_b, lq5⟩ := rcell f_q5
  obtain ⟨zt_a, zt_b, lt5⟩ := rcell f_t5
  go_wp2
  go_ret
  exact ⟨rfl, hB5⟩

set_option maxRecDepth 100000 in
set_option maxHeartbeats 2000000 in
theorem ref9_to (g o n c : Nat) (i : Nat) (b0' : Bd) (t v : Int) (hi : i < n) (cur : Array Value) (e0 : cur[o]? = some (.int .i64 b0'.t)) (e1 : cur[o + 1]? = some (.int .i64 b0'.lo)) (e2 : cur[o + 2]? = some (.int .i64 b0'.hi)) (e3 : cur[o + i * 3]? = some (.int .i64 t)) (h1 : bkB b0'.lo = true) (h2 : bkB b0'.hi = true)
    (hs : slB (v - hgB b0') (t - b0'.t) = true) (w : World) (hg : w.heap[g]? = some (.cells cur 38 (0, 0))) :
    Calls Try.prog 57 #[.slice (some ⟨g, o, none⟩) n c, .int .i64 i, .int .i64 v] w fun e w' => e = .returned (.agg #[.int .i64 (lwN (v - hgB b0') (t - b0'.t)), .int .i64 (lwD (v - hgB b0') (t - b0'.t))]) ∧ Below w.heap.size w w' := by
  obtain ⟨s1, s2, s3, s4⟩ := slB_spec hs
  have cH := ref9_Hinge g o n c b0' (by omega) cur e1 e2 h1 h2
  have cL := ref_Lowest (v - hgB b0') (t - b0'.t) s1 (by omega) (by omega) (by omega)
  generalize lwN (v - hgB b0') (t - b0'.t) = N at *
  generalize lwD (v - hgB b0') (t - b0'.t) = D at *
  generalize hgB b0' = hh at *
  generalize b0'.t = t0 at *
  clear e1 e2 h1 h2 hs
  have h0 : 0 < n := by omega
  go_enter Try.func57, Try.ntmps57
  obtain ⟨zg_a, zg_b, lg0⟩ := rcell hg
  go_wp2_with fail
  have f_g1 := (ka (hg) (.cells #[.int .i64 0, .int .i64 0] 52))
  have f_o1 := (na w #[.int .i64 0, .int .i64 0] 52)
  have hB1 := (bA (b0 w) (.cells #[.int .i64 0, .int .i64 0] 52))
  clear zg_a zg_b
  have lg1 := (rcell f_g1).2.2
  have lo1 := (rcell f_o1).2.2
  refine Abs.wp_region_abs (Abs.cls0 _) [0, 1, 2, 3, 4, 5, 6, 7, 8, 9, 10, 11, 12, 13, 14, 15, 16] (by kernel_rfl) (by kernel_rfl) (Below.refl _ _).drew ?_
  repeat (first | (refine Abs.step_pure rfl rfl (fun K hK => ?_); go_simp; (try go_bits); (first | refine hK _ _ ?_ | (simp only [↓IntWalk.iteOmega]; go_simp; (try go_bits); refine hK _ _ ?_)); clear hK K) | (refine Abs.step_load (v := ?_) rfl rfl (by kernel_rfl) rfl (fun w0 hI => ?_) (fun K hK => ?_); rotate_left; (· have z0 := (rcell (kp hI (f_g1))).1; have z1 := (rcell (kp hI (f_o1))).1; go_simp; rfl); (simp only [Act.put, List.setIfInBounds_toArray, List.set_cons_zero, List.set_cons_succ]; refine hK _ _ ?_; clear hK K)) | (refine Abs.step_skip rfl rfl (fun K hK => ?_); (simp only [Act.put, List.setIfInBounds_toArray, List.set_cons_zero, List.set_cons_succ]; refine hK _ _ ?_; clear hK K)))
  (refine Abs.step_call_val (f := ?_) (args := ?_) (v := ?_) rfl rfl rfl rfl (fun w0 => ?_) (fun w0 hI => ?_) (fun K hK => ?_); rotate_left 3; (· go_simp; (constructor <;> rfl)); (· exact cH _ (kp hI (f_g1))); (simp only [Act.put, List.setIfInBounds_toArray, List.set_cons_zero, List.set_cons_succ]; refine hK _ _ ?_; clear hK K))
  repeat (first | (refine Abs.step_pure rfl rfl (fun K hK => ?_); go_simp; (try go_bits); (first | refine hK _ _ ?_ | (simp only [↓IntWalk.iteOmega]; go_simp; (try go_bits); refine hK _ _ ?_)); clear hK K) | (refine Abs.step_load (v := ?_) rfl rfl (by kernel_rfl) rfl (fun w0 hI => ?_) (fun K hK => ?_); rotate_left; (· have z0 := (rcell (kp hI (f_g1))).1; have z1 := (rcell (kp hI (f_o1))).1; go_simp; rfl); (simp only [Act.put, List.setIfInBounds_toArray, List.set_cons_zero, List.set_cons_succ]; refine hK _ _ ?_; clear hK K)) | (refine Abs.step_skip rfl rfl (fun K hK => ?_); (simp only [Act.put, List.setIfInBounds_toArray, List.set_cons_zero, List.set_cons_succ]; refine hK _ _ ?_; clear hK K)))
  (refine Abs.step_call_val (f := ?_) (args := ?_) (v := ?_) rfl rfl rfl rfl (fun w0 => ?_) (fun w0 hI => ?_) (fun K hK => ?_); rotate_left 3; (· go_simp; (constructor <;> rfl)); (· exact cL _); (simp only [Act.put, List.setIfInBounds_toArray, List.set_cons_zero, List.set_cons_succ]; refine hK _ _ ?_; clear hK K))
  repeat (first | (refine Abs.step_pure rfl rfl (fun K hK => ?_); go_simp; (try go_bits); (first | refine hK _ _ ?_ | (simp only [↓IntWalk.iteOmega]; go_simp; (try go_bits); refine hK _ _ ?_)); clear hK K) | (refine Abs.step_load (v := ?_) rfl rfl (by kernel_rfl) rfl (fun w0 hI => ?_) (fun K hK => ?_); rotate_left; (· have z0 := (rcell (kp hI (f_g1))).1; have z1 := (rcell (kp hI (f_o1))).1; go_simp; rfl); (simp only [Act.put, List.setIfInBounds_toArray, List.set_cons_zero, List.set_cons_succ]; refine hK _ _ ?_; clear hK K)) | (refine Abs.step_skip rfl rfl (fun K hK => ?_); (simp only [Act.put, List.setIfInBounds_toArray, List.set_cons_zero, List.set_cons_succ]; refine hK _ _ ?_; clear hK K)))
  (refine Abs.step_store (T := ?_) rfl rfl rfl (fun w0 hI hF hU => ?_) (fun w0 hI hU hJ => ?_) (fun K hK => ?_); rotate_left; (· have hR := kp hI (f_o1); have hg0 := (rcell hR).1; have hg1 := (rcell hR).2.1; simp only [Abs.T_setF, Abs.T_addA, Abs.T_push, Abs.T_start]; go_simp; exact row2 hR _ _); (· first | exact trivial | exact js hJ rfl _ | exact js hJ (Or.inl rfl) _ | exact js hJ (Or.inr rfl) _); (simp only [Act.put, List.setIfInBounds_toArray, List.set_cons_zero, List.set_cons_succ]; refine hK _ _ ?_; clear hK K))
  repeat (first | (refine Abs.step_pure rfl rfl (fun K hK => ?_); go_simp; (try go_bits); (first | refine hK _ _ ?_ | (simp only [↓IntWalk.iteOmega]; go_simp; (try go_bits); refine hK _ _ ?_)); clear hK K) | (refine Abs.step_load (v := ?_) rfl rfl (by kernel_rfl) rfl (fun w0 hI => ?_) (fun K hK => ?_); rotate_left; (· have z0 := (rcell (kp hI (f_g1))).1; have z1 := (rcell (kp hI (f_o1))).1; go_simp; rfl); (simp only [Act.put, List.setIfInBounds_toArray, List.set_cons_zero, List.set_cons_succ]; refine hK _ _ ?_; clear hK K)) | (refine Abs.step_skip rfl rfl (fun K hK => ?_); (simp only [Act.put, List.setIfInBounds_toArray, List.set_cons_zero, List.set_cons_succ]; refine hK _ _ ?_; clear hK K)))
  intro w0 hI hF hx1 hx2
  clear hx1 hx2 hF
  simp only [Abs.T_push]
  generalize hT2 : setRow w0 _ _ = w2
  obtain ⟨hx2, f_o2⟩ := fin_x hI (f_o1) hT2
  clear hT2 hI w0
  have f_g2 := kx hx2 (f_g1) (by omega)
  have hB2 := bX hB1 hx2 (by omega)
  obtain ⟨zg_a, zg_b, lg2⟩ := rcell f_g2
  obtain ⟨zo_a, zo_b, lo2⟩ := rcell f_o2
  go_wp2
  refine bodyPost_ret (by simp [results, Try.results57, go_sem, zo_a]; try rfl) rfl ⟨rfl, hB2⟩
end Go.Proofs.Ytfdaabdibpcjeaa

namespace Go.Proofs.Ytfdaabdibpcjeaa
open Go.RowKit

/-- a door's step behind the second band -/
theorem dr_step {l : List Bd} {i : Nat} (h2 : 2 ≤ i) (hi : i < l.length) :
    (dk l (i + 1)).n0 = (if (dk l i).n0 * lwD ((bd l i).lo - (dk l i).v) ((bd l i).t - (dk l i).t) < lwN ((bd l i).lo - (dk l i).v) ((bd l i).t - (dk l i).t) * (dk l i).d0 then lwN ((bd l i).lo - (dk l i).v) ((bd l i).t - (dk l i).t) else (dk l i).n0) ∧
    (dk l (i + 1)).d0 = (if (dk l i).n0 * lwD ((bd l i).lo - (dk l i).v) ((bd l i).t - (dk l i).t) < lwN ((bd l i).lo - (dk l i).v) ((bd l i).t - (dk l i).t) * (dk l i).d0 then lwD ((bd l i).lo - (dk l i).v) ((bd l i).t - (dk l i).t) else (dk l i).d0) ∧
    (dk l (i + 1)).n1 = (if lwN ((bd l i).hi - (dk l i).v) ((bd l i).t - (dk l i).t) * (dk l i).d1 < (dk l i).n1 * lwD ((bd l i).hi - (dk l i).v) ((bd l i).t - (dk l i).t) then lwN ((bd l i).hi - (dk l i).v) ((bd l i).t - (dk l i).t) else (dk l i).n1) ∧
    (dk l (i + 1)).d1 = (if lwN ((bd l i).hi - (dk l i).v) ((bd l i).t - (dk l i).t) * (dk l i).d1 < (dk l i).n1 * lwD ((bd l i).hi - (dk l i).v) ((bd l i).t - (dk l i).t) then lwD ((bd l i).hi - (dk l i).v) ((bd l i).t - (dk l i).t) else (dk l i).d1) := by
  have hm := dk_many l i (by omega)
  rw [dk_succ l i hi, bd_eq hi]
  unfold drTake
  rw [if_neg (by omega)]
  have n1 : ¬ (dk l i).many = 1 := by omega
  simp only [n1, false_or]
  exact ⟨trivial, trivial, trivial, trivial⟩
theorem dr_two {l : List Bd} (h : 2 ≤ l.length) (d : Dr) (hd : dk l 1 = d) : (dk l 2).n0 = lwN ((bd l 1).lo - d.v) ((bd l 1).t - d.t) ∧ (dk l 2).d0 = lwD ((bd l 1).lo - d.v) ((bd l 1).t - d.t) ∧ (dk l 2).n1 = lwN ((bd l 1).hi - d.v) ((bd l 1).t - d.t) ∧ (dk l 2).d1 = lwD ((bd l 1).hi - d.v) ((bd l 1).t - d.t) := by
  have hm := dk_many l 1 (by omega)
  rw [dk_succ l 1 h, bd_eq h, hd]
  rw [hd] at hm
  unfold drTake
  rw [if_neg (by omega)]
  have n1 : d.many = 1 := hm
  simp [n1]

set_option maxRecDepth 100000 in
set_option maxHeartbeats 4000000 in
theorem ref9_Door (A : Option Addr) (c : Nat) (l : List Bd) (h : okB l = true) (h2 : 2 ≤ l.length) (w : World) (hR : BR w A c l) :
    Calls Try.prog 30 #[.slice A l.length c] w fun e w' => e = .returned (.tuple #[.agg #[.int .i64 (dk l l.length).n0, .int .i64 (dk l l.length).d0], .agg #[.int .i64 (dk l l.length).n1, .int .i64 (dk l l.length).d1]]) ∧ Below w.heap.size w w' := by
  obtain ⟨k0, k1, k2⟩ := okB_spec h
  obtain ⟨g, o, cur, rfl, hg, hc⟩ := hR.mem k0
  have hE : ∀ i, i < l.length → cur[o + i * 3]? = some (.int .i64 (bd l i).t) ∧ cur[o + i * 3 + 1]? = some (.int .i64 (bd l i).lo) ∧ cur[o + i * 3 + 2]? = some (.int .i64 (bd l i).hi) := fun i hi => by
    have := hc i hi
    rw [bd_eq hi] at this
    exact this
  have hE0 := hE 0 k0
  simp only [Nat.zero_mul, Nat.add_zero] at hE0
  have hr0 := bd_rg k2 0 k0
  have cto : ∀ i, 1 ≤ i → i < l.length → ∀ x, (x = (bd l i).lo ∨ x = (bd l i).hi) → ∀ w : World, w.heap[g]? = some (.cells cur 38 (0, 0)) →
      Calls Try.prog 57 #[.slice (some ⟨g, o, none⟩) l.length c, .int .i64 i, .int .i64 x] w fun e w' => e = .returned (.agg #[.int .i64 (lwN (x - hgB (bd l 0)) ((bd l i).t - (bd l 0).t)), .int .i64 (lwD (x - hgB (bd l 0)) ((bd l i).t - (bd l 0).t))]) ∧ Below w.heap.size w w' := by
    intro i i1 i2 x hx w hw
    have hri := bd_rg k2 i i2
    have hlt := t_lt k2 0 i (by omega) i2
    have hm := hgB_mid hr0.2.2.1
    exact ref9_to g o l.length c i (bd l 0) (bd l i).t x i2 cur hE0.1 hE0.2.1 hE0.2.2 (hE i i2).1 (bk_of (by omega) (by omega)) (bk_of (by omega) (by omega)) (decide_eq_true (by rcases hx with rfl | rfl <;> exact ⟨by omega, by omega, by omega, by omega⟩)) w hw
  have hinv : ∀ i, 1 ≤ i → i ≤ l.length → (dk l i).t = (bd l 0).t ∧ (dk l i).v = hgB (bd l 0) := fun i a b => ⟨(dr_inv h i a b).t, (dr_inv h i a b).v⟩
  have hlow : ∀ i, 2 ≤ i → i ≤ l.length → Low (dk l i).n0 (dk l i).d0 ∧ Low (dk l i).n1 (dk l i).d1 := fun i a b => (dk_ok h i (by omega) b).two (by rw [dk_many l i b]; omega)
  have hsl : ∀ i, 1 ≤ i → i < l.length → ∀ x, (x = (bd l i).lo ∨ x = (bd l i).hi) → slB (lwN (x - hgB (bd l 0)) ((bd l i).t - (bd l 0).t)) (lwD (x - hgB (bd l 0)) ((bd l i).t - (bd l 0).t)) = true := by
    intro i i1 i2 x hx
    have hri := bd_rg k2 i i2
    have hlt := t_lt k2 0 i (by omega) i2
    have hm := hgB_mid hr0.2.2.1
    exact (low_low (decide_eq_true (by rcases hx with rfl | rfl <;> exact ⟨by omega, by omega, by omega, by omega⟩))).1
  obtain ⟨z1, z2, z3, z4⟩ := dr_two h2 _ rfl
  obtain ⟨v1, v2⟩ := hinv 1 (by omega) (by omega)
  rw [v1, v2] at z1 z2 z3 z4
  have ct1 := cto 1 (by omega) (by omega) _ (.inl rfl)
  have ct2 := cto 1 (by omega) (by omega) _ (.inr rfl)
  rw [← z1, ← z2] at ct1
  rw [← z3, ← z4] at ct2
  obtain ⟨-, p2, p3⟩ := hE 1 (by omega)
  have e31 : o + 1 * 3 = o + 3 := by omega
  rw [e31] at p2 p3
  have HE := hide hE
  have HT := hide cto
  have HV := hide hinv
  have HL := hide hlow
  have HS := hide hsl
  have H2 : (1 : Nat) < l.length := by omega
  clear hE cto hinv hlow hsl z1 z2 z3 z4 v1 v2 hc hR hE0 hr0 e31
  go_enter Try.func30, Try.ntmps30
  obtain ⟨zg_a, zg_b, lg0⟩ := rcell hg
  go_wp2_with fail
  have f_g1 := (ka (ka (hg) (.cells #[.int .i64 0, .int .i64 0] 52)) (.cells #[.int .i64 0, .int .i64 0] 52))
  have f_u1 := (ka (na w #[.int .i64 0, .int .i64 0] 52) (.cells #[.int .i64 0, .int .i64 0] 52))
  have f_v1 := (na1 w (.cells #[.int .i64 0, .int .i64 0] 52) #[.int .i64 0, .int .i64 0] 52)
  have hB1 := (bA (bA (b0 w) (.cells #[.int .i64 0, .int .i64 0] 52)) (.cells #[.int .i64 0, .int .i64 0] 52))
  clear zg_a zg_b
  have lg1 := (rcell f_g1).2.2
  have lu1 := (rcell f_u1).2.2
  have lv1 := (rcell f_v1).2.2
  refine Abs.wp_region_abs (Abs.cls0 _) [0, 1, 2, 3, 4, 5, 6, 7, 8, 9, 10, 11, 12, 13, 14, 15] (by kernel_rfl) (by kernel_rfl) (Below.refl _ _).drew ?_
  repeat (first | (refine Abs.step_pure rfl rfl (fun K hK => ?_); go_simp; (try go_bits); (first | refine hK _ _ ?_ | (simp only [↓IntWalk.iteOmega]; go_simp; (try go_bits); refine hK _ _ ?_)); clear hK K) | (refine Abs.step_load (v := ?_) rfl rfl (by kernel_rfl) rfl (fun w0 hI => ?_) (fun K hK => ?_); rotate_left; (· have z0 := (rcell (kp hI (f_g1))).1; have z1 := (rcell (kp hI (f_u1))).1; have z2 := (rcell (kp hI (f_v1))).1; go_simp; rfl); (simp only [Act.put, List.setIfInBounds_toArray, List.set_cons_zero, List.set_cons_succ]; refine hK _ _ ?_; clear hK K)) | (refine Abs.step_skip rfl rfl (fun K hK => ?_); (simp only [Act.put, List.setIfInBounds_toArray, List.set_cons_zero, List.set_cons_succ]; refine hK _ _ ?_; clear hK K)))
  (refine Abs.step_call_val (f := ?_) (args := ?_) (v := ?_) rfl rfl rfl rfl (fun w0 => ?_) (fun w0 hI => ?_) (fun K hK => ?_); rotate_left 3; (· go_simp; (constructor <;> rfl)); (· exact ct1 _ (kp hI (f_g1))); (simp only [Act.put, List.setIfInBounds_toArray, List.set_cons_zero, List.set_cons_succ]; refine hK _ _ ?_; clear hK K))
  repeat (first | (refine Abs.step_pure rfl rfl (fun K hK => ?_); go_simp; (try go_bits); (first | refine hK _ _ ?_ | (simp only [↓IntWalk.iteOmega]; go_simp; (try go_bits); refine hK _ _ ?_)); clear hK K) | (refine Abs.step_load (v := ?_) rfl rfl (by kernel_rfl) rfl (fun w0 hI => ?_) (fun K hK => ?_); rotate_left; (· have z0 := (rcell (kp hI (f_g1))).1; have z1 := (rcell (kp hI (f_u1))).1; have z2 := (rcell (kp hI (f_v1))).1; go_simp; rfl); (simp only [Act.put, List.setIfInBounds_toArray, List.set_cons_zero, List.set_cons_succ]; refine hK _ _ ?_; clear hK K)) | (refine Abs.step_skip rfl rfl (fun K hK => ?_); (simp only [Act.put, List.setIfInBounds_toArray, List.set_cons_zero, List.set_cons_succ]; refine hK _ _ ?_; clear hK K)))
  (refine Abs.step_call_val (f := ?_) (args := ?_) (v := ?_) rfl rfl rfl rfl (fun w0 => ?_) (fun w0 hI => ?_) (fun K hK => ?_); rotate_left 3; (· go_simp; (constructor <;> rfl)); (· exact ct2 _ (kp hI (f_g1))); (simp only [Act.put, List.setIfInBounds_toArray, List.set_cons_zero, List.set_cons_succ]; refine hK _ _ ?_; clear hK K))
  repeat (first | (refine Abs.step_pure rfl rfl (fun K hK => ?_); go_simp; (try go_bits); (first | refine hK _ _ ?_ | (simp only [↓IntWalk.iteOmega]; go_simp; (try go_bits); refine hK _ _ ?_)); clear hK K) | (refine Abs.step_load (v := ?_) rfl rfl (by kernel_rfl) rfl (fun w0 hI => ?_) (fun K hK => ?_); rotate_left; (· have z0 := (rcell (kp hI (f_g1))).1; have z1 := (rcell (kp hI (f_u1))).1; have z2 := (rcell (kp hI (f_v1))).1; go_simp; rfl); (simp only [Act.put, List.setIfInBounds_toArray, List.set_cons_zero, List.set_cons_succ]; refine hK _ _ ?_; clear hK K)) | (refine Abs.step_skip rfl rfl (fun K hK => ?_); (simp only [Act.put, List.setIfInBounds_toArray, List.set_cons_zero, List.set_cons_succ]; refine hK _ _ ?_; clear hK K)))
  (refine Abs.step_var (obj := ?_) rfl rfl rfl rfl (fun w0 => ?_) (fun K hK g_lo hv_lo hu_lo => ?_); rotate_left; (· go_simp; rfl); (simp only [Act.put, List.setIfInBounds_toArray, List.set_cons_zero, List.set_cons_succ]; refine hK _ _ ?_; clear hK K))
  (refine Abs.step_var (obj := ?_) rfl rfl rfl rfl (fun w0 => ?_) (fun K hK g_hi hv_hi hu_hi => ?_); rotate_left; (· go_simp; rfl); (simp only [Act.put, List.setIfInBounds_toArray, List.set_cons_zero, List.set_cons_succ]; refine hK _ _ ?_; clear hK K))
  repeat (first | (refine Abs.step_pure rfl rfl (fun K hK => ?_); go_simp; (try go_bits); (first | refine hK _ _ ?_ | (simp only [↓IntWalk.iteOmega]; go_simp; (try go_bits); refine hK _ _ ?_)); clear hK K) | (refine Abs.step_load (v := ?_) rfl rfl (by kernel_rfl) rfl (fun w0 hI => ?_) (fun K hK => ?_); rotate_left; (· have z0 := (rcell (kp hI (f_g1))).1; have z1 := (rcell (kp hI (f_u1))).1; have z2 := (rcell (kp hI (f_v1))).1; go_simp; rfl); (simp only [Act.put, List.setIfInBounds_toArray, List.set_cons_zero, List.set_cons_succ]; refine hK _ _ ?_; clear hK K)) | (refine Abs.step_skip rfl rfl (fun K hK => ?_); (simp only [Act.put, List.setIfInBounds_toArray, List.set_cons_zero, List.set_cons_succ]; refine hK _ _ ?_; clear hK K)))
  (refine Abs.step_store (T := ?_) rfl rfl rfl (fun w0 hI hF hU => ?_) (fun _ _ _ _ => trivial) (fun K hK => ?_); rotate_left; (· have hR := (hF 12).1.2 rfl; have hg0 := (rcell hR).1; have hg1 := (rcell hR).2.1; simp only [Abs.T_setF, Abs.T_addA, Abs.T_push, Abs.T_start]; go_simp; exact row2 hR _ _); (simp only [Act.put, List.setIfInBounds_toArray, List.set_cons_zero, List.set_cons_succ]; refine hK _ _ ?_; clear hK K))
  (refine Abs.step_store (T := ?_) rfl rfl rfl (fun w0 hI hF hU => ?_) (fun _ _ _ _ => trivial) (fun K hK => ?_); rotate_left; (· have hR := fun cs => (setRow_other (w := w0) (g := g_lo) cs (fun e => hu_hi (Or.inl e))).trans ((hF 13).2 rfl); have hg0 := fun cs => (rcell (hR cs)).1; have hg1 := fun cs => (rcell (hR cs)).2.1; simp only [Abs.T_setF, Abs.T_addA, Abs.T_push, Abs.T_start]; go_simp; exact row2 (hR _) _ _); (simp only [Act.put, List.setIfInBounds_toArray, List.set_cons_zero, List.set_cons_succ]; refine hK _ _ ?_; clear hK K))
  have hs_lo := leB hv_lo
  try simp only [World.size_alloc] at hs_lo
  have hs_hi := leB hv_hi
  try simp only [World.size_alloc] at hs_hi
  have hn : g_hi ≠ g_lo := fun e => hu_hi (Or.inl e)
  intro w0 hI hF hx1 hx2
  clear hx1 hx2
  have q1 := (hF 12).1.2 rfl
  have q2 := (hF 13).2 rfl
  clear hF
  simp only [Abs.T_push]
  generalize hTa : setRow w0 _ _ = wa
  have ea := (fin_x (b0 _) q1 hTa).1
  obtain ⟨ba, fa⟩ := fin1 hI hv_lo q1 hTa
  have q3 : wa.heap[g_hi]? = w0.heap[g_hi]? := by rw [← hTa]; exact setRow_other _ hn
  replace q2 := q3.trans q2
  clear q3
  generalize hTb : setRow wa _ _ = w2
  have eb := (fin_x (b0 _) q2 hTb).1
  obtain ⟨hb2, f_hi2⟩ := fin1 ba hv_hi q2 hTb
  have q4 : w2.heap[g_lo]? = wa.heap[g_lo]? := by rw [← hTb]; exact setRow_other _ hn.symm
  have f_lo2 := q4.trans fa
  clear q4
  clear hTa hTb ea eb q1 q2 fa ba hI w0
  have f_g2 := kp hb2 (f_g1)
  have f_u2 := kp hb2 (f_u1)
  have f_v2 := kp hb2 (f_v1)
  have hB2 := bB hB1 hb2
  obtain ⟨zg_a, zg_b, lg2⟩ := rcell f_g2
  obtain ⟨zu_a, zu_b, lu2⟩ := rcell f_u2
  obtain ⟨zv_a, zv_b, lv2⟩ := rcell f_v2
  obtain ⟨zlo_a, zlo_b, llo2⟩ := rcell f_lo2
  obtain ⟨zhi_a, zhi_b, lhi2⟩ := rcell f_hi2
  clear ct1 ct2 p2 p3
  go_wp2_with fail
  go_loopw [6] (fun vi wr => ∃ i : Nat, vi = .int .i64 i ∧ 2 ≤ i ∧ i ≤ l.length ∧ wr.heap[g]? = some (.cells cur 38 (0, 0)) ∧ wr.heap[g_lo]? = some (.cells #[.int .i64 (dk l i).n0, .int .i64 (dk l i).d0] 52 (0, 0)) ∧ wr.heap[g_hi]? = some (.cells #[.int .i64 (dk l i).n1, .int .i64 (dk l i).d1] 52 (0, 0)) ∧
      wr.heap[w.heap.size]? = some (.cells #[.int .i64 0, .int .i64 0] 52 (0, 0)) ∧ wr.heap[w.heap.size + 1]? = some (.cells #[.int .i64 0, .int .i64 0] 52 (0, 0)) ∧ Below w.heap.size w wr) (fun vi _ => l.length - (intOf vi).toNat)
  case atStart => exact ⟨2, rfl, by omega, by omega, (f_g2), (f_lo2), (f_hi2), (f_u2), (f_v2), hB2⟩
  case round =>
    obtain ⟨i, rfl, hi2, hi, j1, j2, j3, j4, j5, hb⟩ := hrel
    by_cases hlt : i < l.length
    · obtain ⟨q1, q2, q3⟩ := HE.out i hlt
      obtain ⟨s1, s2, s3, s4⟩ := dr_step hi2 hlt
      obtain ⟨v1, v2⟩ := HV.out i (by omega) hi
      obtain ⟨l0, l1⟩ := HL.out i hi2 hi
      rw [v1, v2] at s1 s2 s3 s4
      have ct1 := HT.out i (by omega) hlt _ (.inl rfl)
      have ct2 := HT.out i (by omega) hlt _ (.inr rfl)
      have cl1 := ref_LessS _ _ _ _ l0.1 (HS.out i (by omega) hlt _ (.inl rfl))
      have cl2 := ref_LessS _ _ _ _ (HS.out i (by omega) hlt _ (.inr rfl)) l1.1
      clear v1 v2 l0 l1
      generalize lwN ((bd l i).lo - hgB (bd l 0)) ((bd l i).t - (bd l 0).t) = N0 at *
      generalize lwD ((bd l i).lo - hgB (bd l 0)) ((bd l i).t - (bd l 0).t) = D0 at *
      generalize lwN ((bd l i).hi - hgB (bd l 0)) ((bd l i).t - (bd l 0).t) = N1 at *
      generalize lwD ((bd l i).hi - hgB (bd l 0)) ((bd l i).t - (bd l 0).t) = D1 at *
      generalize (dk l i).n0 = n0 at *
      generalize (dk l i).d0 = d0 at *
      generalize (dk l i).n1 = n1 at *
      generalize (dk l i).d1 = d1 at *
      by_cases p : n0 * D0 < N0 * d0 <;> by_cases q : N1 * d1 < n1 * D1
      · rw [if_pos p] at s1 s2
        rw [if_pos q] at s3 s4
        rw [show decide (n0 * D0 < N0 * d0) = true by simpa using p] at cl1
        rw [show decide (N1 * d1 < n1 * D1) = true by simpa using q] at cl2
        have S1 := hide s1
        have S2 := hide s2
        have S3 := hide s3
        have S4 := hide s4
        clear s1 s2 s3 s4 p q
        obtain ⟨zg_a, zg_b, lg3⟩ := rcell j1
        obtain ⟨zlo_a, zlo_b, llo4⟩ := rcell j2
        obtain ⟨zhi_a, zhi_b, lhi5⟩ := rcell j3
        obtain ⟨zu_a, zu_b, lu6⟩ := rcell j4
        obtain ⟨zv_a, zv_b, lv7⟩ := rcell j5
        go_wp2_with fail
        refine (ct1 _ (j1)).mono ?_
        rintro e w8 ⟨rfl, hb8⟩
        have f_g8 := kp hb8 (j1)
        have f_lo8 := kp hb8 (j2)
        have f_hi8 := kp hb8 (j3)
        have f_u8 := kp hb8 (j4)
        have f_v8 := kp hb8 (j5)
        have hB8 := bB hb hb8
        clear zg_a zg_b zhi_a zhi_b zlo_a zlo_b zu_a zu_b zv_a zv_b
        obtain ⟨zg_a, zg_b, lg8⟩ := rcell f_g8
        obtain ⟨zlo_a, zlo_b, llo8⟩ := rcell f_lo8
        obtain ⟨zhi_a, zhi_b, lhi8⟩ := rcell f_hi8
        obtain ⟨zu_a, zu_b, lu8⟩ := rcell f_u8
        obtain ⟨zv_a, zv_b, lv8⟩ := rcell f_v8
        go_wp2_with fail
        refine (cl1 _).mono ?_
        rintro e w9 ⟨rfl, hb9⟩
        have f_g9 := kp hb9 (ka (f_g8) (.cells #[.int .i64 N0, .int .i64 D0] 52))
        have f_lo9 := kp hb9 (ka (f_lo8) (.cells #[.int .i64 N0, .int .i64 D0] 52))
        have f_hi9 := kp hb9 (ka (f_hi8) (.cells #[.int .i64 N0, .int .i64 D0] 52))
        have f_u9 := kp hb9 (ka (f_u8) (.cells #[.int .i64 N0, .int .i64 D0] 52))
        have f_v9 := kp hb9 (ka (f_v8) (.cells #[.int .i64 N0, .int .i64 D0] 52))
        have f_a9 := kp hb9 (na w8 #[.int .i64 N0, .int .i64 D0] 52)
        have hB9 := bB (bA hB8 (.cells #[.int .i64 N0, .int .i64 D0] 52)) hb9
        clear zg_a zg_b zhi_a zhi_b zlo_a zlo_b zu_a zu_b zv_a zv_b
        obtain ⟨zg_a, zg_b, lg9⟩ := rcell f_g9
        obtain ⟨zlo_a, zlo_b, llo9⟩ := rcell f_lo9
        obtain ⟨zhi_a, zhi_b, lhi9⟩ := rcell f_hi9
        obtain ⟨zu_a, zu_b, lu9⟩ := rcell f_u9
        obtain ⟨zv_a, zv_b, lv9⟩ := rcell f_v9
        obtain ⟨za_a, za_b, la9⟩ := rcell f_a9
        go_wp2_with fail
        rw [row2 f_lo9]
        generalize hT10 : setRow _ _ _ = w10
        obtain ⟨hx10, f_lo10⟩ := fin_x (b0 _) f_lo9 hT10
        clear hT10
        have f_g10 := kx hx10 (f_g9) (by omega)
        have f_hi10 := kx hx10 (f_hi9) (by omega)
        have f_u10 := kx hx10 (f_u9) (by omega)
        have f_v10 := kx hx10 (f_v9) (by omega)
        have f_a10 := kx hx10 (f_a9) (by omega)
        have hB10 := bX hB9 hx10 (by omega)
        clear za_a za_b zg_a zg_b zhi_a zhi_b zlo_a zlo_b zu_a zu_b zv_a zv_b
        obtain ⟨zg_a, zg_b, lg10⟩ := rcell f_g10
        obtain ⟨zhi_a, zhi_b, lhi10⟩ := rcell f_hi10
        obtain ⟨zu_a, zu_b, lu10⟩ := rcell f_u10
        obtain ⟨zv_a, zv_b, lv10⟩ := rcell f_v10
        obtain ⟨za_a, za_b, la10⟩ := rcell f_a10
        obtain ⟨zlo_a, zlo_b, llo10⟩ := rcell f_lo10
        go_wp2_with fail
        refine (ct2 _ (f_g10)).mono ?_
        rintro e w11 ⟨rfl, hb11⟩
        have f_g11 := kp hb11 (f_g10)
        have f_hi11 := kp hb11 (f_hi10)
        have f_u11 := kp hb11 (f_u10)
        have f_v11 := kp hb11 (f_v10)
        have f_a11 := kp hb11 (f_a10)
        have f_lo11 := kp hb11 (f_lo10)
        have hB11 := bB hB10 hb11
        clear za_a za_b zg_a zg_b zhi_a zhi_b zlo_a zlo_b zu_a zu_b zv_a zv_b
        obtain ⟨zg_a, zg_b, lg11⟩ := rcell f_g11
        obtain ⟨zhi_a, zhi_b, lhi11⟩ := rcell f_hi11
        obtain ⟨zu_a, zu_b, lu11⟩ := rcell f_u11
        obtain ⟨zv_a, zv_b, lv11⟩ := rcell f_v11
        obtain ⟨za_a, za_b, la11⟩ := rcell f_a11
        obtain ⟨zlo_a, zlo_b, llo11⟩ := rcell f_lo11
        go_wp2_with fail
        refine (cl2 _).mono ?_
        rintro e w12 ⟨rfl, hb12⟩
        have f_g12 := kp hb12 (ka (f_g11) (.cells #[.int .i64 N1, .int .i64 D1] 52))
        have f_hi12 := kp hb12 (ka (f_hi11) (.cells #[.int .i64 N1, .int .i64 D1] 52))
        have f_u12 := kp hb12 (ka (f_u11) (.cells #[.int .i64 N1, .int .i64 D1] 52))
        have f_v12 := kp hb12 (ka (f_v11) (.cells #[.int .i64 N1, .int .i64 D1] 52))
        have f_a12 := kp hb12 (ka (f_a11) (.cells #[.int .i64 N1, .int .i64 D1] 52))
        have f_lo12 := kp hb12 (ka (f_lo11) (.cells #[.int .i64 N1, .int .i64 D1] 52))
        have f_b12 := kp hb12 (na w11 #[.int .i64 N1, .int .i64 D1] 52)
        have hB12 := bB (bA hB11 (.cells #[.int .i64 N1, .int .i64 D1] 52)) hb12
        clear za_a za_b zg_a zg_b zhi_a zhi_b zlo_a zlo_b zu_a zu_b zv_a zv_b
        obtain ⟨zg_a, zg_b, lg12⟩ := rcell f_g12
        obtain ⟨zhi_a, zhi_b, lhi12⟩ := rcell f_hi12
        obtain ⟨zu_a, zu_b, lu12⟩ := rcell f_u12
        obtain ⟨zv_a, zv_b, lv12⟩ := rcell f_v12
        obtain ⟨za_a, za_b, la12⟩ := rcell f_a12
        obtain ⟨zlo_a, zlo_b, llo12⟩ := rcell f_lo12
        obtain ⟨zb_a, zb_b, lb12⟩ := rcell f_b12
        go_wp2
        rw [row2 f_hi12]
        generalize hT13 : setRow _ _ _ = w13
        obtain ⟨hx13, f_hi13⟩ := fin_x (b0 _) f_hi12 hT13
        clear hT13
        have f_g13 := kx hx13 (f_g12) (by omega)
        have f_u13 := kx hx13 (f_u12) (by omega)
        have f_v13 := kx hx13 (f_v12) (by omega)
        have f_a13 := kx hx13 (f_a12) (by omega)
        have f_lo13 := kx hx13 (f_lo12) (by omega)
        have f_b13 := kx hx13 (f_b12) (by omega)
        have hB13 := bX hB12 hx13 (by omega)
        clear za_a za_b zb_a zb_b zg_a zg_b zhi_a zhi_b zlo_a zlo_b zu_a zu_b zv_a zv_b
        obtain ⟨zg_a, zg_b, lg13⟩ := rcell f_g13
        obtain ⟨zu_a, zu_b, lu13⟩ := rcell f_u13
        obtain ⟨zv_a, zv_b, lv13⟩ := rcell f_v13
        obtain ⟨za_a, za_b, la13⟩ := rcell f_a13
        obtain ⟨zlo_a, zlo_b, llo13⟩ := rcell f_lo13
        obtain ⟨zb_a, zb_b, lb13⟩ := rcell f_b13
        obtain ⟨zhi_a, zhi_b, lhi13⟩ := rcell f_hi13
        go_roundw
        case rel => exact ⟨i + 1, by go_num, by omega, by omega, (f_g13), by rw [S1.out, S2.out]; exact (f_lo13), by rw [S3.out, S4.out]; exact (f_hi13), (f_u13), (f_v13), hB13⟩
        case measure => simp [intOf]; omega
      · rw [if_pos p] at s1 s2
        rw [if_neg q] at s3 s4
        rw [show decide (n0 * D0 < N0 * d0) = true by simpa using p] at cl1
        rw [show decide (N1 * d1 < n1 * D1) = false by simpa using q] at cl2
        have S1 := hide s1
        have S2 := hide s2
        have S3 := hide s3
        have S4 := hide s4
        clear s1 s2 s3 s4 p q
        obtain ⟨zg_a, zg_b, lg14⟩ := rcell j1
        obtain ⟨zlo_a, zlo_b, llo15⟩ := rcell j2
        obtain ⟨zhi_a, zhi_b, lhi16⟩ := rcell j3
        obtain ⟨zu_a, zu_b, lu17⟩ := rcell j4
        obtain ⟨zv_a, zv_b, lv18⟩ := rcell j5
        go_wp2_with fail
        refine (ct1 _ (j1)).mono ?_
        rintro e w19 ⟨rfl, hb19⟩
        have f_g19 := kp hb19 (j1)
        have f_lo19 := kp hb19 (j2)
        have f_hi19 := kp hb19 (j3)
        have f_u19 := kp hb19 (j4)
        have f_v19 := kp hb19 (j5)
        have hB19 := bB hb hb19
        clear zg_a zg_b zhi_a zhi_b zlo_a zlo_b zu_a zu_b zv_a zv_b
        obtain ⟨zg_a, zg_b, lg19⟩ := rcell f_g19
        obtain ⟨zlo_a, zlo_b, llo19⟩ := rcell f_lo19
        obtain ⟨zhi_a, zhi_b, lhi19⟩ := rcell f_hi19
        obtain ⟨zu_a, zu_b, lu19⟩ := rcell f_u19
        obtain ⟨zv_a, zv_b, lv19⟩ := rcell f_v19
        go_wp2_with fail
        refine (cl1 _).mono ?_
        rintro e w20 ⟨rfl, hb20⟩
        have f_g20 := kp hb20 (ka (f_g19) (.cells #[.int .i64 N0, .int .i64 D0] 52))
        have f_lo20 := kp hb20 (ka (f_lo19) (.cells #[.int .i64 N0, .int .i64 D0] 52))
        have f_hi20 := kp hb20 (ka (f_hi19) (.cells #[.int .i64 N0, .int .i64 D0] 52))
        have f_u20 := kp hb20 (ka (f_u19) (.cells #[.int .i64 N0, .int .i64 D0] 52))
        have f_v20 := kp hb20 (ka (f_v19) (.cells #[.int .i64 N0, .int .i64 D0] 52))
        have f_a20 := kp hb20 (na w19 #[.int .i64 N0, .int .i64 D0] 52)
        have hB20 := bB (bA hB19 (.cells #[.int .i64 N0, .int .i64 D0] 52)) hb20
        clear zg_a zg_b zhi_a zhi_b zlo_a zlo_b zu_a zu_b zv_a zv_b
        obtain ⟨zg_a, zg_b, lg20⟩ := rcell f_g20
        obtain ⟨zlo_a, zlo_b, llo20⟩ := rcell f_lo20
        obtain ⟨zhi_a, zhi_b, lhi20⟩ := rcell f_hi20
        obtain ⟨zu_a, zu_b, lu20⟩ := rcell f_u20
        obtain ⟨zv_a, zv_b, lv20⟩ := rcell f_v20
        obtain ⟨za_a, za_b, la20⟩ := rcell f_a20
        go_wp2_with fail
        rw [row2 f_lo20]
        generalize hT21 : setRow _ _ _ = w21
        obtain ⟨hx21, f_lo21⟩ := fin_x (b0 _) f_lo20 hT21
        clear hT21
        have f_g21 := kx hx21 (f_g20) (by omega)
        have f_hi21 := kx hx21 (f_hi20) (by omega)
        have f_u21 := kx hx21 (f_u20) (by omega)
        have f_v21 := kx hx21 (f_v20) (by omega)
        have f_a21 := kx hx21 (f_a20) (by omega)
        have hB21 := bX hB20 hx21 (by omega)
        clear za_a za_b zg_a zg_b zhi_a zhi_b zlo_a zlo_b zu_a zu_b zv_a zv_b
        obtain ⟨zg_a, zg_b, lg21⟩ := rcell f_g21
        obtain ⟨zhi_a, zhi_b, lhi21⟩ := rcell f_hi21
        obtain ⟨zu_a, zu_b, lu21⟩ := rcell f_u21
        obtain ⟨zv_a, zv_b, lv21⟩ := rcell f_v21
        obtain ⟨za_a, za_b, la21⟩ := rcell f_a21
        obtain ⟨zlo_a, zlo_b, llo21⟩ := rcell f_lo21
        go_wp2_with fail
        refine (ct2 _ (f_g21)).mono ?_
        rintro e w22 ⟨rfl, hb22⟩
        have f_g22 := kp hb22 (f_g21)
        have f_hi22 := kp hb22 (f_hi21)
        have f_u22 := kp hb22 (f_u21)
        have f_v22 := kp hb22 (f_v21)
        have f_a22 := kp hb22 (f_a21)
        have f_lo22 := kp hb22 (f_lo21)
        have hB22 := bB hB21 hb22
        clear za_a za_b zg_a zg_b zhi_a zhi_b zlo_a zlo_b zu_a zu_b zv_a zv_b
        obtain ⟨zg_a, zg_b, lg22⟩ := rcell f_g22
        obtain ⟨zhi_a, zhi_b, lhi22⟩ := rcell f_hi22
        obtain ⟨zu_a, zu_b, lu22⟩ := rcell f_u22
        obtain ⟨zv_a, zv_b, lv22⟩ := rcell f_v22
        obtain ⟨za_a, za_b, la22⟩ := rcell f_a22
        obtain ⟨zlo_a, zlo_b, llo22⟩ := rcell f_lo22
        go_wp2_with fail
        refine (cl2 _).mono ?_
        rintro e w23 ⟨rfl, hb23⟩
        have f_g23 := kp hb23 (ka (f_g22) (.cells #[.int .i64 N1, .int .i64 D1] 52))
        have f_hi23 := kp hb23 (ka (f_hi22) (.cells #[.int .i64 N1, .int .i64 D1] 52))
        have f_u23 := kp hb23 (ka (f_u22) (.cells #[.int .i64 N1, .int .i64 D1] 52))
        have f_v23 := kp hb23 (ka (f_v22) (.cells #[.int .i64 N1, .int .i64 D1] 52))
        have f_a23 := kp hb23 (ka (f_a22) (.cells #[.int .i64 N1, .int .i64 D1] 52))
        have f_lo23 := kp hb23 (ka (f_lo22) (.cells #[.int .i64 N1, .int .i64 D1] 52))
        have f_b23 := kp hb23 (na w22 #[.int .i64 N1, .int .i64 D1] 52)
        have hB23 := bB (bA hB22 (.cells #[.int .i64 N1, .int .i64 D1] 52)) hb23
        clear za_a za_b zg_a zg_b zhi_a zhi_b zlo_a zlo_b zu_a zu_b zv_a zv_b
        obtain ⟨zg_a, zg_b, lg23⟩ := rcell f_g23
        obtain ⟨zhi_a, zhi_b, lhi23⟩ := rcell f_hi23
        obtain ⟨zu_a, zu_b, lu23⟩ := rcell f_u23
        obtain ⟨zv_a, zv_b, lv23⟩ := rcell f_v23
        obtain ⟨za_a, za_b, la23⟩ := rcell f_a23
        obtain ⟨zlo_a, zlo_b, llo23⟩ := rcell f_lo23
        obtain ⟨zb_a, zb_b, lb23⟩ := rcell f_b23
        go_wp2
        go_roundw
        case rel => exact ⟨i + 1, by go_num, by omega, by omega, (f_g23), by rw [S1.out, S2.out]; exact (f_lo23), by rw [S3.out, S4.out]; exact (f_hi23), (f_u23), (f_v23), hB23⟩
        case measure => simp [intOf]; omega
      · rw [if_neg p] at s1 s2
        rw [if_pos q] at s3 s4
        rw [show decide (n0 * D0 < N0 * d0) = false by simpa using p] at cl1
        rw [show decide (N1 * d1 < n1 * D1) = true by simpa using q] at cl2
        have S1 := hide s1
        have S2 := hide s2
        have S3 := hide s3
        have S4 := hide s4
        clear s1 s2 s3 s4 p q
        obtain ⟨zg_a, zg_b, lg24⟩ := rcell j1
        obtain ⟨zlo_a, zlo_b, llo25⟩ := rcell j2
        obtain ⟨zhi_a, zhi_b, lhi26⟩ := rcell j3
        obtain ⟨zu_a, zu_b, lu27⟩ := rcell j4
        obtain ⟨zv_a, zv_b, lv28⟩ := rcell j5
        go_wp2_with fail
        refine (ct1 _ (j1)).mono ?_
        rintro e w29 ⟨rfl, hb29⟩
        have f_g29 := kp hb29 (j1)
        have f_lo29 := kp hb29 (j2)
        have f_hi29 := kp hb29 (j3)
        have f_u29 := kp hb29 (j4)
        have f_v29 := kp hb29 (j5)
        have hB29 := bB hb hb29
        clear zg_a zg_b zhi_a zhi_b zlo_a zlo_b zu_a zu_b zv_a zv_b
        obtain ⟨zg_a, zg_b, lg29⟩ := rcell f_g29
        obtain ⟨zlo_a, zlo_b, llo29⟩ := rcell f_lo29
        obtain ⟨zhi_a, zhi_b, lhi29⟩ := rcell f_hi29
        obtain ⟨zu_a, zu_b, lu29⟩ := rcell f_u29
        obtain ⟨zv_a, zv_b, lv29⟩ := rcell f_v29
        go_wp2_with fail
        refine (cl1 _).mono ?_
        rintro e w30 ⟨rfl, hb30⟩
        have f_g30 := kp hb30 (ka (f_g29) (.cells #[.int .i64 N0, .int .i64 D0] 52))
        have f_lo30 := kp hb30 (ka (f_lo29) (.cells #[.int .i64 N0, .int .i64 D0] 52))
        have f_hi30 := kp hb30 (ka (f_hi29) (.cells #[.int .i64 N0, .int .i64 D0] 52))
        have f_u30 := kp hb30 (ka (f_u29) (.cells #[.int .i64 N0, .int .i64 D0] 52))
        have f_v30 := kp hb30 (ka (f_v29) (.cells #[.int .i64 N0, .int .i64 D0] 52))
        have f_a30 := kp hb30 (na w29 #[.int .i64 N0, .int .i64 D0] 52)
        have hB30 := bB (bA hB29 (.cells #[.int .i64 N0, .int .i64 D0] 52)) hb30
        clear zg_a zg_b zhi_a zhi_b zlo_a zlo_b zu_a zu_b zv_a zv_b
        obtain ⟨zg_a, zg_b, lg30⟩ := rcell f_g30
        obtain ⟨zlo_a, zlo_b, llo30⟩ := rcell f_lo30
        obtain ⟨zhi_a, zhi_b, lhi30⟩ := rcell f_hi30
        obtain ⟨zu_a, zu_b, lu30⟩ := rcell f_u30
        obtain ⟨zv_a, zv_b, lv30⟩ := rcell f_v30
        obtain ⟨za_a, za_b, la30⟩ := rcell f_a30
        go_wp2_with fail
        refine (ct2 _ (f_g30)).mono ?_
        rintro e w31 ⟨rfl, hb31⟩
        have f_g31 := kp hb31 (f_g30)
        have f_lo31 := kp hb31 (f_lo30)
        have f_hi31 := kp hb31 (f_hi30)
        have f_u31 := kp hb31 (f_u30)
        have f_v31 := kp hb31 (f_v30)
        have f_a31 := kp hb31 (f_a30)
        have hB31 := bB hB30 hb31
        clear za_a za_b zg_a zg_b zhi_a zhi_b zlo_a zlo_b zu_a zu_b zv_a zv_b
        obtain ⟨zg_a, zg_b, lg31⟩ := rcell f_g31
        obtain ⟨zlo_a, zlo_b, llo31⟩ := rcell f_lo31
        obtain ⟨zhi_a, zhi_b, lhi31⟩ := rcell f_hi31
        obtain ⟨zu_a, zu_b, lu31⟩ := rcell f_u31
        obtain ⟨zv_a, zv_b, lv31⟩ := rcell f_v31
        obtain ⟨za_a, za_b, la31⟩ := rcell f_a31
        go_wp2_with fail
        refine (cl2 _).mono ?_
        rintro e w32 ⟨rfl, hb32⟩
        have f_g32 := kp hb32 (ka (f_g31) (.cells #[.int .i64 N1, .int .i64 D1] 52))
        have f_lo32 := kp hb32 (ka (f_lo31) (.cells #[.int .i64 N1, .int .i64 D1] 52))
        have f_hi32 := kp hb32 (ka (f_hi31) (.cells #[.int .i64 N1, .int .i64 D1] 52))
        have f_u32 := kp hb32 (ka (f_u31) (.cells #[.int .i64 N1, .int .i64 D1] 52))
        have f_v32 := kp hb32 (ka (f_v31) (.cells #[.int .i64 N1, .int .i64 D1] 52))
        have f_a32 := kp hb32 (ka (f_a31) (.cells #[.int .i64 N1, .int .i64 D1] 52))
        have f_b32 := kp hb32 (na w31 #[.int .i64 N1, .int .i64 D1] 52)
        have hB32 := bB (bA hB31 (.cells #[.int .i64 N1, .int .i64 D1] 52)) hb32
        clear za_a za_b zg_a zg_b zhi_a zhi_b zlo_a zlo_b zu_a zu_b zv_a zv_b
        obtain ⟨zg_a, zg_b, lg32⟩ := rcell f_g32
        obtain ⟨zlo_a, zlo_b, llo32⟩ := rcell f_lo32
        obtain ⟨zhi_a, zhi_b, lhi32⟩ := rcell f_hi32
        obtain ⟨zu_a, zu_b, lu32⟩ := rcell f_u32
        obtain ⟨zv_a, zv_b, lv32⟩ := rcell f_v32
        obtain ⟨za_a, za_b, la32⟩ := rcell f_a32
        obtain ⟨zb_a, zb_b, lb32⟩ := rcell f_b32
        go_wp2
        rw [row2 f_hi32]
        generalize hT33 : setRow _ _ _ = w33
        obtain ⟨hx33, f_hi33⟩ := fin_x (b0 _) f_hi32 hT33
        clear hT33
        have f_g33 := kx hx33 (f_g32) (by omega)
        have f_lo33 := kx hx33 (f_lo32) (by omega)
        have f_u33 := kx hx33 (f_u32) (by omega)
        have f_v33 := kx hx33 (f_v32) (by omega)
        have f_a33 := kx hx33 (f_a32) (by omega)
        have f_b33 := kx hx33 (f_b32) (by omega)
        have hB33 := bX hB32 hx33 (by omega)
        clear za_a za_b zb_a zb_b zg_a zg_b zhi_a zhi_b zlo_a zlo_b zu_a zu_b zv_a zv_b
        obtain ⟨zg_a, zg_b, lg33⟩ := rcell f_g33
        obtain ⟨zlo_a, zlo_b, llo33⟩ := rcell f_lo33
        obtain ⟨zu_a, zu_b, lu33⟩ := rcell f_u33
        obtain ⟨zv_a, zv_b, lv33⟩ := rcell f_v33
        obtain ⟨za_a, za_b, la33⟩ := rcell f_a33
        obtain ⟨zb_a, zb_b, lb33⟩ := rcell f_b33
        obtain ⟨zhi_a, zhi_b, lhi33⟩ := rcell f_hi33
        go_roundw
        case rel => exact ⟨i + 1, by go_num, by omega, by omega, (f_g33), by rw [S1.out, S2.out]; exact (f_lo33), by rw [S3.out, S4.out]; exact (f_hi33), (f_u33), (f_v33), hB33⟩
        case measure => simp [intOf]; omega
      · rw [if_neg p] at s1 s2
        rw [if_neg q] at s3 s4
        rw [show decide (n0 * D0 < N0 * d0) = false by simpa using p] at cl1
        rw [show decide (N1 * d1 < n1 * D1) = false by simpa using q] at cl2
        have S1 := hide s1
        have S2 := hide s2
        have S3 := hide s3
        have S4 := hide s4
        clear s1 s2 s3 s4 p q
        obtain ⟨zg_a, zg_b, lg34⟩ := rcell j1
        obtain ⟨zlo_a, zlo_b, llo35⟩ := rcell j2
        obtain ⟨zhi_a, zhi_b, lhi36⟩ := rcell j3
        obtain ⟨zu_a, zu_b, lu37⟩ := rcell j4
        obtain ⟨zv_a, zv_b, lv38⟩ := rcell j5
        go_wp2_with fail
        refine (ct1 _ (j1)).mono ?_
        rintro e w39 ⟨rfl, hb39⟩
        have f_g39 := kp hb39 (j1)
        have f_lo39 := kp hb39 (j2)
        have f_hi39 := kp hb39 (j3)
        have f_u39 := kp hb39 (j4)
        have f_v39 := kp hb39 (j5)
        have hB39 := bB hb hb39
        clear zg_a zg_b zhi_a zhi_b zlo_a zlo_b zu_a zu_b zv_a zv_b
        obtain ⟨zg_a, zg_b, lg39⟩ := rcell f_g39
        obtain ⟨zlo_a, zlo_b, llo39⟩ := rcell f_lo39
        obtain ⟨zhi_a, zhi_b, lhi39⟩ := rcell f_hi39
        obtain ⟨zu_a, zu_b, lu39⟩ := rcell f_u39
        obtain ⟨zv_a, zv_b, lv39⟩ := rcell f_v39
        go_wp2_with fail
        refine (cl1 _).mono ?_
        rintro e w40 ⟨rfl, hb40⟩
        have f_g40 := kp hb40 (ka (f_g39) (.cells #[.int .i64 N0, .int .i64 D0] 52))
        have f_lo40 := kp hb40 (ka (f_lo39) (.cells #[.int .i64 N0, .int .i64 D0] 52))
        have f_hi40 := kp hb40 (ka (f_hi39) (.cells #[.int .i64 N0, .int .i64 D0] 52))
        have f_u40 := kp hb40 (ka (f_u39) (.cells #[.int .i64 N0, .int .i64 D0] 52))
        have f_v40 := kp hb40 (ka (f_v39) (.cells #[.int .i64 N0, .int .i64 D0] 52))
        have f_a40 := kp hb40 (na w39 #[.int .i64 N0, .int .i64 D0] 52)
        have hB40 := bB (bA hB39 (.cells #[.int .i64 N0, .int .i64 D0] 52)) hb40
        clear zg_a zg_b zhi_a zhi_b zlo_a zlo_b zu_a zu_b zv_a zv_b
        obtain ⟨zg_a, zg_b, lg40⟩ := rcell f_g40
        obtain ⟨zlo_a, zlo_b, llo40⟩ := rcell f_lo40
        obtain ⟨zhi_a, zhi_b, lhi40⟩ := rcell f_hi40
        obtain ⟨zu_a, zu_b, lu40⟩ := rcell f_u40
        obtain ⟨zv_a, zv_b, lv40⟩ := rcell f_v40
        obtain ⟨za_a, za_b, la40⟩ := rcell f_a40
        go_wp2_with fail
        refine (ct2 _ (f_g40)).mono ?_
        rintro e w41 ⟨rfl, hb41⟩
        have f_g41 := kp hb41 (f_g40)
        have f_lo41 := kp hb41 (f_lo40)
        have f_hi41 := kp hb41 (f_hi40)
        have f_u41 := kp hb41 (f_u40)
        have f_v41 := kp hb41 (f_v40)
        have f_a41 := kp hb41 (f_a40)
        have hB41 := bB hB40 hb41
        clear za_a za_b zg_a zg_b zhi_a zhi_b zlo_a zlo_b zu_a zu_b zv_a zv_b
        obtain ⟨zg_a, zg_b, lg41⟩ := rcell f_g41
        obtain ⟨zlo_a, zlo_b, llo41⟩ := rcell f_lo41
        obtain ⟨zhi_a, zhi_b, lhi41⟩ := rcell f_hi41
        obtain ⟨zu_a, zu_b, lu41⟩ := rcell f_u41
        obtain ⟨zv_a, zv_b, lv41⟩ := rcell f_v41
        obtain ⟨za_a, za_b, la41⟩ := rcell f_a41
        go_wp2_with fail
        refine (cl2 _).mono ?_
        rintro e w42 ⟨rfl, hb42⟩
        have f_g42 := kp hb42 (ka (f_g41) (.cells #[.int .i64 N1, .int .i64 D1] 52))
        have f_lo42 := kp hb42 (ka (f_lo41) (.cells #[.int .i64 N1, .int .i64 D1] 52))
        have f_hi42 := kp hb42 (ka (f_hi41) (.cells #[.int .i64 N1, .int .i64 D1] 52))
        have f_u42 := kp hb42 (ka (f_u41) (.cells #[.int .i64 N1, .int .i64 D1] 52))
        have f_v42 := kp hb42 (ka (f_v41) (.cells #[.int .i64 N1, .int .i64 D1] 52))
        have f_a42 := kp hb42 (ka (f_a41) (.cells #[.int .i64 N1, .int .i64 D1] 52))
        have f_b42 := kp hb42 (na w41 #[.int .i64 N1, .int .i64 D1] 52)
        have hB42 := bB (bA hB41 (.cells #[.int .i64 N1, .int .i64 D1] 52)) hb42
        clear za_a za_b zg_a zg_b zhi_a zhi_b zlo_a zlo_b zu_a zu_b zv_a zv_b
        obtain ⟨zg_a, zg_b, lg42⟩ := rcell f_g42
        obtain ⟨zlo_a, zlo_b, llo42⟩ := rcell f_lo42
        obtain ⟨zhi_a, zhi_b, lhi42⟩ := rcell f_hi42
        obtain ⟨zu_a, zu_b, lu42⟩ := rcell f_u42
        obtain ⟨zv_a, zv_b, lv42⟩ := rcell f_v42
        obtain ⟨za_a, za_b, la42⟩ := rcell f_a42
        obtain ⟨zb_a, zb_b, lb42⟩ := rcell f_b42
        go_wp2
        go_roundw
        case rel => exact ⟨i + 1, by go_num, by omega, by omega, (f_g42), by rw [S1.out, S2.out]; exact (f_lo42), by rw [S3.out, S4.out]; exact (f_hi42), (f_u42), (f_v42), hB42⟩
        case measure => simp [intOf]; omega
    · obtain rfl : i = l.length := by omega
      obtain ⟨zg_a, zg_b, lg43⟩ := rcell j1
      obtain ⟨zlo_a, zlo_b, llo44⟩ := rcell j2
      obtain ⟨zhi_a, zhi_b, lhi45⟩ := rcell j3
      obtain ⟨zu_a, zu_b, lu46⟩ := rcell j4
      obtain ⟨zv_a, zv_b, lv47⟩ := rcell j5
      go_wp2_with fail
      refine Abs.wp_region_abs (Abs.cls _ (fun k => k = w.heap.size ∨ k = w.heap.size + 1)) [0, 1, 2, 3] (by kernel_rfl) (by kernel_rfl) (Below.refl _ _).drew ?_
      repeat (first | (refine Abs.step_pure rfl rfl (fun K hK => ?_); go_simp; (try go_bits); (first | refine hK _ _ ?_ | (simp only [↓IntWalk.iteOmega]; go_simp; (try go_bits); refine hK _ _ ?_)); clear hK K) | (refine Abs.step_late (v := ?_) rfl rfl (fun w0 hI => ?_) (fun K hK => ?_); rotate_left; (· have z0 := (rcell (kj hI (j2) (by omega))).1; have z1 := (rcell (kj hI (j3) (by omega))).1; go_simp; rfl); (simp only [Act.put, List.setIfInBounds_toArray, List.set_cons_zero, List.set_cons_succ]; refine hK _ _ ?_; clear hK K)) | (refine Abs.step_skip rfl rfl (fun K hK => ?_); (simp only [Act.put, List.setIfInBounds_toArray, List.set_cons_zero, List.set_cons_succ]; refine hK _ _ ?_; clear hK K)))
      (refine Abs.step_store (T := ?_) rfl rfl rfl (fun w0 hI hF hU => ?_) (fun w0 hI hU hJ => ?_) (fun K hK => ?_); rotate_left; (· have hR := kp hI (j4); have hg0 := (rcell hR).1; have hg1 := (rcell hR).2.1; simp only [Abs.T_setF, Abs.T_addA, Abs.T_push, Abs.T_start]; go_simp; exact row2 hR _ _); (· first | exact trivial | exact js hJ rfl _ | exact js hJ (Or.inl rfl) _ | exact js hJ (Or.inr rfl) _); (simp only [Act.put, List.setIfInBounds_toArray, List.set_cons_zero, List.set_cons_succ]; refine hK _ _ ?_; clear hK K))
      (refine Abs.step_store (T := ?_) rfl rfl rfl (fun w0 hI hF hU => ?_) (fun w0 hI hU hJ => ?_) (fun K hK => ?_); rotate_left; (· have hR := fun cs => (setRow_other (w := w0) (g := w.heap.size) cs (by omega)).trans (kp hI (j5)); have hg0 := fun cs => (rcell (hR cs)).1; have hg1 := fun cs => (rcell (hR cs)).2.1; simp only [Abs.T_setF, Abs.T_addA, Abs.T_push, Abs.T_start]; go_simp; exact row2 (hR _) _ _); (· first | exact trivial | exact js hJ rfl _ | exact js hJ (Or.inl rfl) _ | exact js hJ (Or.inr rfl) _); (simp only [Act.put, List.setIfInBounds_toArray, List.set_cons_zero, List.set_cons_succ]; refine hK _ _ ?_; clear hK K))
      repeat (first | (refine Abs.step_pure rfl rfl (fun K hK => ?_); go_simp; (try go_bits); (first | refine hK _ _ ?_ | (simp only [↓IntWalk.iteOmega]; go_simp; (try go_bits); refine hK _ _ ?_)); clear hK K) | (refine Abs.step_late (v := ?_) rfl rfl (fun w0 hI => ?_) (fun K hK => ?_); rotate_left; (· have z0 := (rcell (kj hI (j2) (by omega))).1; have z1 := (rcell (kj hI (j3) (by omega))).1; go_simp; rfl); (simp only [Act.put, List.setIfInBounds_toArray, List.set_cons_zero, List.set_cons_succ]; refine hK _ _ ?_; clear hK K)) | (refine Abs.step_skip rfl rfl (fun K hK => ?_); (simp only [Act.put, List.setIfInBounds_toArray, List.set_cons_zero, List.set_cons_succ]; refine hK _ _ ?_; clear hK K)))
      intro w0 hI hF hx1 hx2
      clear hx1 hx2 hF
      simp only [Abs.T_push]
      generalize hT49 : setRow w0 _ _ = w49
      obtain ⟨hx49, f_u49⟩ := fin_x hI (j4) hT49
      clear hT49 hI w0
      have f_g49 := kx hx49 (j1) (by omega)
      have f_lo49 := kx hx49 (j2) (by omega)
      have f_hi49 := kx hx49 (j3) (by omega)
      have f_v49 := kx hx49 (j5) (by omega)
      have hB49 := bX hb hx49 (by omega)
      clear zg_a zg_b zhi_a zhi_b zlo_a zlo_b zu_a zu_b zv_a zv_b
      obtain ⟨zg_a, zg_b, lg49⟩ := rcell f_g49
      obtain ⟨zlo_a, zlo_b, llo49⟩ := rcell f_lo49
      obtain ⟨zhi_a, zhi_b, lhi49⟩ := rcell f_hi49
      obtain ⟨zv_a, zv_b, lv49⟩ := rcell f_v49
      obtain ⟨zu_a, zu_b, lu49⟩ := rcell f_u49
      generalize hT50 : setRow w49 _ _ = w50
      obtain ⟨hx50, f_v50⟩ := fin_x (b0 _) f_v49 hT50
      clear hT50
      have f_g50 := kx hx50 (f_g49) (by omega)
      have f_lo50 := kx hx50 (f_lo49) (by omega)
      have f_hi50 := kx hx50 (f_hi49) (by omega)
      have f_u50 := kx hx50 (f_u49) (by omega)
      have hB50 := bX hB49 hx50 (by omega)
      clear zg_a zg_b zhi_a zhi_b zlo_a zlo_b zu_a zu_b zv_a zv_b
      obtain ⟨zg_a, zg_b, lg50⟩ := rcell f_g50
      obtain ⟨zlo_a, zlo_b, llo50⟩ := rcell f_lo50
      obtain ⟨zhi_a, zhi_b, lhi50⟩ := rcell f_hi50
      obtain ⟨zu_a, zu_b, lu50⟩ := rcell f_u50
      obtain ⟨zv_a, zv_b, lv50⟩ := rcell f_v50
      go_wp2_with fail
      refine bodyPost_ret (by simp [results, Try.results30, go_sem, zu_a, zv_a]; try rfl) rfl ⟨rfl, hB50⟩
end Go.Proofs.Ytfdaabdibpcjeaa

namespace Go.Proofs.Ytfdaabdibpcjeaa
open Go.RowKit

theorem one_open_ {l : List Bd} (h : okB l = true) (h1 : l.length = 1) : drOpen (dk l l.length) = true := by
  have hm := dk_many l l.length (Nat.le_refl _)
  unfold drOpen
  rw [decide_eq_true_iff]
  left; rw [hm, h1]; rfl
theorem open_cross {d : Dr} (h : d.many ≠ 1) : drOpen d = !decide (d.n1 * d.d0 < d.n0 * d.d1) := by
  unfold drOpen
  rw [Bool.eq_iff_iff]
  simp [h]

set_option maxRecDepth 100000 in
set_option maxHeartbeats 1000000 in
theorem ref9_Swing (A : Option Addr) (c : Nat) (l : List Bd) (h : okB l = true) (w : World) (hR : BR w A c l) :
    Calls Try.prog 17 #[.slice A l.length c] w fun e w' => e = .returned (.bool (drOpen (dk l l.length))) ∧ Below w.heap.size w w' := by
  obtain ⟨k0, k1, k2⟩ := okB_spec h
  by_cases h1 : l.length = 1
  · rw [one_open_ h h1]
    have HR := hide hR
    rw [h1]
    clear hR h k0 k1 k2 h1
    go_enter Try.func17, Try.ntmps17
    go_wp2
    go_ret
    exact ⟨rfl, b0 w⟩
  · have n1 : ((l.length : Int) == 1) = false := by rw [beq_eq_false_iff_ne]; omega
    have c1 := ref9_Door A c l h (by omega) w hR
    have hm := dk_many l l.length (Nat.le_refl _)
    have ho := open_cross (d := dk l l.length) (by rw [hm]; omega)
    obtain ⟨l0, l1⟩ := (dk_ok h l.length k0 (Nat.le_refl _)).two (by rw [hm]; omega)
    have c2 := ref_LessS _ _ _ _ l1.1 l0.1
    have HO := hide ho
    clear ho l0 l1 hm hR h h1
    generalize drOpen (dk l l.length) = E at *
    generalize (dk l l.length).n0 = n0 at *
    generalize (dk l l.length).d0 = d0 at *
    generalize (dk l l.length).n1 = n1' at *
    generalize (dk l l.length).d1 = d1 at *
    generalize decide (n1' * d0 < n0 * d1) = F at *
    go_enter Try.func17, Try.ntmps17
    go_wp2_with fail
    refine (c1).mono ?_
    rintro e w1 ⟨rfl, hb1⟩
    have hB1 := bB (b0 w) hb1
    go_wp2_with fail
    refine (c2 _).mono ?_
    rintro e w2 ⟨rfl, hb2⟩
    have f_a2 := kp hb2 (ka (na w1 #[.int .i64 n0, .int .i64 d0] 52) (.cells #[.int .i64 n1', .int .i64 d1] 52))
    have f_b2 := kp hb2 (na1 w1 (.cells #[.int .i64 n0, .int .i64 d0] 52) #[.int .i64 n1', .int .i64 d1] 52)
    have hB2 := bB (bA (bA hB1 (.cells #[.int .i64 n0, .int .i64 d0] 52)) (.cells #[.int .i64 n1', .int .i64 d1] 52)) hb2
    obtain ⟨za_a, za_b, la2⟩ := rcell f_a2
    obtain ⟨zb_a, zb_b, lb2⟩ := rcell f_b2
    go_wp2
    go_ret
    exact ⟨by rw [HO.out]; rfl, hB2⟩

set_option maxRecDepth 100000 in
set_option maxHeartbeats 1000000 in
theorem ref9_Fit (A : Option Addr) (c : Nat) (l : List Bd) (h : okB l = true) (w : World) (hR : BR w A c l) :
    Calls Try.prog 18 #[.slice A l.length c] w fun e w' => e = .returned (.agg #[.int .i64 (hgB (bd l 0)), .int .i64 0, .int .i64 (flN (dk l l.length)), .int .i64 (flD (dk l l.length))]) ∧ Below w.heap.size w w' := by
  obtain ⟨k0, k1, k2⟩ := okB_spec h
  have c1 := fun w hR => ref9_Door A c l h (w := w) (hR := hR)
  obtain ⟨g, o, cur, rfl, hg, hc⟩ := hR.mem k0
  have hE0 := hc 0 k0
  rw [bd_eq k0] at hE0
  simp only [Nat.zero_mul, Nat.add_zero] at hE0
  have hr0 := bd_rg k2 0 k0
  have cH := ref9_Hinge g o l.length c (bd l 0) k0 cur hE0.2.1 hE0.2.2 (bk_of (by omega) (by omega)) (bk_of (by omega) (by omega))
  generalize hgB (bd l 0) = hv at *
  have hm := dk_many l l.length (Nat.le_refl _)
  have hN : l.length = 1 → flN (dk l l.length) = 0 ∧ flD (dk l l.length) = 1 := fun e => by
    have : (dk l l.length).many = 1 := by rw [hm, e]; rfl
    unfold flN flD
    rw [if_pos this, if_pos this]; exact ⟨rfl, rfl⟩
  have hN2 : 2 ≤ l.length → flN (dk l l.length) = nrN (dk l l.length).n0 (dk l l.length).d0 (dk l l.length).n1 (dk l l.length).d1 ∧ flD (dk l l.length) = nrD (dk l l.length).n0 (dk l l.length).d0 (dk l l.length).n1 (dk l l.length).d1 := fun e => by
    have : ¬ (dk l l.length).many = 1 := by rw [hm]; omega
    unfold flN flD
    rw [if_neg this, if_neg this]; exact ⟨rfl, rfl⟩
  have hlow : 2 ≤ l.length → Low (dk l l.length).n0 (dk l l.length).d0 ∧ Low (dk l l.length).n1 (dk l l.length).d1 := fun e => (dk_ok h l.length k0 (Nat.le_refl _)).two (by rw [hm]; omega)
  clear hE0 hc hr0 h hm k2
  by_cases h1 : l.length = 1
  · obtain ⟨e1, e2⟩ := hN h1
    rw [e1, e2]
    rw [h1] at cH ⊢
    clear hN hN2 hlow e1 e2 c1 h1 hR k0 k1
    go_enter Try.func18, Try.ntmps18
    obtain ⟨zg_a, zg_b, lg0⟩ := rcell hg
    go_wp2_with fail
    have f_g1 := (ka (ka (hg) (.cells #[.int .i64 0, .int .i64 0, .int .i64 0, .int .i64 0] 23)) (.cells #[.int .i64 0, .int .i64 1] 52))
    have f_o1 := (ka (na w #[.int .i64 0, .int .i64 0, .int .i64 0, .int .i64 0] 23) (.cells #[.int .i64 0, .int .i64 1] 52))
    have f_s1 := (na1 w (.cells #[.int .i64 0, .int .i64 0, .int .i64 0, .int .i64 0] 23) #[.int .i64 0, .int .i64 1] 52)
    have hB1 := (bA (bA (b0 w) (.cells #[.int .i64 0, .int .i64 0, .int .i64 0, .int .i64 0] 23)) (.cells #[.int .i64 0, .int .i64 1] 52))
    clear zg_a zg_b
    have lg1 := (rcell f_g1).2.2
    have lo1 := (rcell f_o1).2.2
    have ls1 := (rcell f_s1).2.2
    refine Abs.wp_region_abs (Abs.cls0 _) [0, 1, 2, 3, 4, 5, 6, 7] (by kernel_rfl) (by kernel_rfl) (Below.refl _ _).drew ?_
    repeat (first | (refine Abs.step_pure rfl rfl (fun K hK => ?_); go_simp; (try go_bits); (first | refine hK _ _ ?_ | (simp only [↓IntWalk.iteOmega]; go_simp; (try go_bits); refine hK _ _ ?_)); clear hK K) | (refine Abs.step_load (v := ?_) rfl rfl (by kernel_rfl) rfl (fun w0 hI => ?_) (fun K hK => ?_); rotate_left; (· have z0 := (rcell (kp hI (f_g1))).1; have z1 := (rcell (kp hI (f_s1))).1; go_simp; rfl); (simp only [Act.put, List.setIfInBounds_toArray, List.set_cons_zero, List.set_cons_succ]; refine hK _ _ ?_; clear hK K)) | (refine Abs.step_skip rfl rfl (fun K hK => ?_); (simp only [Act.put, List.setIfInBounds_toArray, List.set_cons_zero, List.set_cons_succ]; refine hK _ _ ?_; clear hK K)))
    (refine Abs.step_call_val (f := ?_) (args := ?_) (v := ?_) rfl rfl rfl rfl (fun w0 => ?_) (fun w0 hI => ?_) (fun K hK => ?_); rotate_left 3; (· go_simp; (constructor <;> rfl)); (· exact cH _ (kp hI (f_g1))); (simp only [Act.put, List.setIfInBounds_toArray, List.set_cons_zero, List.set_cons_succ]; refine hK _ _ ?_; clear hK K))
    repeat (first | (refine Abs.step_pure rfl rfl (fun K hK => ?_); go_simp; (try go_bits); (first | refine hK _ _ ?_ | (simp only [↓IntWalk.iteOmega]; go_simp; (try go_bits); refine hK _ _ ?_)); clear hK K) | (refine Abs.step_load (v := ?_) rfl rfl (by kernel_rfl) rfl (fun w0 hI => ?_) (fun K hK => ?_); rotate_left; (· have z0 := (rcell (kp hI (f_g1))).1; have z1 := (rcell (kp hI (f_s1))).1; go_simp; rfl); (simp only [Act.put, List.setIfInBounds_toArray, List.set_cons_zero, List.set_cons_succ]; refine hK _ _ ?_; clear hK K)) | (refine Abs.step_skip rfl rfl (fun K hK => ?_); (simp only [Act.put, List.setIfInBounds_toArray, List.set_cons_zero, List.set_cons_succ]; refine hK _ _ ?_; clear hK K)))
    (refine Abs.step_store (T := ?_) rfl rfl rfl (fun w0 hI hF hU => ?_) (fun w0 hI hU hJ => ?_) (fun K hK => ?_); rotate_left; (· have hR := kp hI (f_o1); have hg0 := (rcell hR).1; have hg1 := (rcell hR).2.1; simp only [Abs.T_setF, Abs.T_addA, Abs.T_push, Abs.T_start]; go_simp; exact row4 hR _ _ _ _); (· first | exact trivial | exact js hJ rfl _ | exact js hJ (Or.inl rfl) _ | exact js hJ (Or.inr rfl) _); (simp only [Act.put, List.setIfInBounds_toArray, List.set_cons_zero, List.set_cons_succ]; refine hK _ _ ?_; clear hK K))
    repeat (first | (refine Abs.step_pure rfl rfl (fun K hK => ?_); go_simp; (try go_bits); (first | refine hK _ _ ?_ | (simp only [↓IntWalk.iteOmega]; go_simp; (try go_bits); refine hK _ _ ?_)); clear hK K) | (refine Abs.step_load (v := ?_) rfl rfl (by kernel_rfl) rfl (fun w0 hI => ?_) (fun K hK => ?_); rotate_left; (· have z0 := (rcell (kp hI (f_g1))).1; have z1 := (rcell (kp hI (f_s1))).1; go_simp; rfl); (simp only [Act.put, List.setIfInBounds_toArray, List.set_cons_zero, List.set_cons_succ]; refine hK _ _ ?_; clear hK K)) | (refine Abs.step_skip rfl rfl (fun K hK => ?_); (simp only [Act.put, List.setIfInBounds_toArray, List.set_cons_zero, List.set_cons_succ]; refine hK _ _ ?_; clear hK K)))
    intro w0 hI hF hx1 hx2
    clear hx1 hx2 hF
    simp only [Abs.T_push]
    generalize hT2 : setRow w0 _ _ = w2
    obtain ⟨hx2, f_o2⟩ := fin_x hI (f_o1) hT2
    clear hT2 hI w0
    have f_g2 := kx hx2 (f_g1) (by omega)
    have f_s2 := kx hx2 (f_s1) (by omega)
    have hB2 := bX hB1 hx2 (by omega)
    obtain ⟨zg_a, zg_b, lg2⟩ := rcell f_g2
    obtain ⟨zs_a, zs_b, ls2⟩ := rcell f_s2
    obtain ⟨zo_a, zo_b, lo2⟩ := rcell f_o2
    go_wp2
    refine bodyPost_ret (by simp [results, Try.results18, go_sem, zo_a]; try rfl) rfl ⟨rfl, hB2⟩
  · have h2 : 2 ≤ l.length := by omega
    obtain ⟨e1, e2⟩ := hN2 h2
    obtain ⟨l0, l1⟩ := hlow h2
    have cN := ref_Nearest _ _ _ _ l0.1 l1.1
    rw [← e1, ← e2] at cN
    have c2 := fun w hR => c1 w hR h2
    clear hN hN2 hlow e1 e2 c1 l0 l1 h1
    generalize flN (dk l l.length) = N at *
    generalize flD (dk l l.length) = D at *
    generalize (dk l l.length).n0 = n0 at *
    generalize (dk l l.length).d0 = d0 at *
    generalize (dk l l.length).n1 = n1' at *
    generalize (dk l l.length).d1 = d1 at *
    go_enter Try.func18, Try.ntmps18
    obtain ⟨zg_a, zg_b, lg0⟩ := rcell hg
    go_wp2_with fail
    refine (c2 _ (hR.below (bA (bA (b0 _) _) _))).mono ?_
    rintro e w1 ⟨rfl, hb1⟩
    have f_g1 := kp hb1 (ka (ka (hg) (.cells #[.int .i64 0, .int .i64 0, .int .i64 0, .int .i64 0] 23)) (.cells #[.int .i64 0, .int .i64 1] 52))
    have f_o1 := kp hb1 (ka (na w #[.int .i64 0, .int .i64 0, .int .i64 0, .int .i64 0] 23) (.cells #[.int .i64 0, .int .i64 1] 52))
    have f_s1 := kp hb1 (na1 w (.cells #[.int .i64 0, .int .i64 0, .int .i64 0, .int .i64 0] 23) #[.int .i64 0, .int .i64 1] 52)
    have hB1 := bB (bA (bA (b0 w) (.cells #[.int .i64 0, .int .i64 0, .int .i64 0, .int .i64 0] 23)) (.cells #[.int .i64 0, .int .i64 1] 52)) hb1
    clear zg_a zg_b
    obtain ⟨zg_a, zg_b, lg1⟩ := rcell f_g1
    obtain ⟨zo_a, zo_b, lo1⟩ := rcell f_o1
    obtain ⟨zs_a, zs_b, ls1⟩ := rcell f_s1
    go_wp2_with fail
    refine (cN _).mono ?_
    rintro e w2 ⟨rfl, hb2⟩
    have f_g2 := kp hb2 (ka (ka (f_g1) (.cells #[.int .i64 n0, .int .i64 d0] 52)) (.cells #[.int .i64 n1', .int .i64 d1] 52))
    have f_o2 := kp hb2 (ka (ka (f_o1) (.cells #[.int .i64 n0, .int .i64 d0] 52)) (.cells #[.int .i64 n1', .int .i64 d1] 52))
    have f_s2 := kp hb2 (ka (ka (f_s1) (.cells #[.int .i64 n0, .int .i64 d0] 52)) (.cells #[.int .i64 n1', .int .i64 d1] 52))
    have f_a2 := kp hb2 (ka (na w1 #[.int .i64 n0, .int .i64 d0] 52) (.cells #[.int .i64 n1', .int .i64 d1] 52))
    have f_b2 := kp hb2 (na1 w1 (.cells #[.int .i64 n0, .int .i64 d0] 52) #[.int .i64 n1', .int .i64 d1] 52)
    have hB2 := bB (bA (bA hB1 (.cells #[.int .i64 n0, .int .i64 d0] 52)) (.cells #[.int .i64 n1', .int .i64 d1] 52)) hb2
    clear zg_a zg_b zo_a zo_b zs_a zs_b
    obtain ⟨zg_a, zg_b, lg2⟩ := rcell f_g2
    obtain ⟨zo_a, zo_b, lo2⟩ := rcell f_o2
    obtain ⟨zs_a, zs_b, ls2⟩ := rcell f_s2
    obtain ⟨za_a, za_b, la2⟩ := rcell f_a2
    obtain ⟨zb_a, zb_b, lb2⟩ := rcell f_b2
    go_wp2_with fail
    rw [row2 f_s2]
    generalize hT3 : setRow _ _ _ = w3
    obtain ⟨hx3, f_s3⟩ := fin_x (b0 _) f_s2 hT3
    clear hT3
    have f_g3 := kx hx3 (f_g2) (by omega)
    have f_o3 := kx hx3 (f_o2) (by omega)
    have f_a3 := kx hx3 (f_a2) (by omega)
    have f_b3 := kx hx3 (f_b2) (by omega)
    have hB3 := bX hB2 hx3 (by omega)
    clear za_a za_b zb_a zb_b zg_a zg_b zo_a zo_b zs_a zs_b
    obtain ⟨zg_a, zg_b, lg3⟩ := rcell f_g3
    obtain ⟨zo_a, zo_b, lo3⟩ := rcell f_o3
    obtain ⟨za_a, za_b, la3⟩ := rcell f_a3
    obtain ⟨zb_a, zb_b, lb3⟩ := rcell f_b3
    obtain ⟨zs_a, zs_b, ls3⟩ := rcell f_s3
    refine Abs.wp_region_abs (Abs.cls0 _) [0, 1, 2, 3, 4, 5, 6, 7] (by kernel_rfl) (by kernel_rfl) (Below.refl _ _).drew ?_
    repeat (first | (refine Abs.step_pure rfl rfl (fun K hK => ?_); go_simp; (try go_bits); (first | refine hK _ _ ?_ | (simp only [↓IntWalk.iteOmega]; go_simp; (try go_bits); refine hK _ _ ?_)); clear hK K) | (refine Abs.step_load (v := ?_) rfl rfl (by kernel_rfl) rfl (fun w0 hI => ?_) (fun K hK => ?_); rotate_left; (· have z0 := (rcell (kp hI (f_g3))).1; have z1 := (rcell (kp hI (f_s3))).1; go_simp; rfl); (simp only [Act.put, List.setIfInBounds_toArray, List.set_cons_zero, List.set_cons_succ]; refine hK _ _ ?_; clear hK K)) | (refine Abs.step_skip rfl rfl (fun K hK => ?_); (simp only [Act.put, List.setIfInBounds_toArray, List.set_cons_zero, List.set_cons_succ]; refine hK _ _ ?_; clear hK K)))
    (refine Abs.step_call_val (f := ?_) (args := ?_) (v := ?_) rfl rfl rfl rfl (fun w0 => ?_) (fun w0 hI => ?_) (fun K hK => ?_); rotate_left 3; (· go_simp; (constructor <;> rfl)); (· exact cH _ (kp hI (f_g3))); (simp only [Act.put, List.setIfInBounds_toArray, List.set_cons_zero, List.set_cons_succ]; refine hK _ _ ?_; clear hK K))
    repeat (first | (refine Abs.step_pure rfl rfl (fun K hK => ?_); go_simp; (try go_bits); (first | refine hK _ _ ?_ | (simp only [↓IntWalk.iteOmega]; go_simp; (try go_bits); refine hK _ _ ?_)); clear hK K) | (refine Abs.step_load (v := ?_) rfl rfl (by kernel_rfl) rfl (fun w0 hI => ?_) (fun K hK => ?_); rotate_left; (· have z0 := (rcell (kp hI (f_g3))).1; have z1 := (rcell (kp hI (f_s3))).1; go_simp; rfl); (simp only [Act.put, List.setIfInBounds_toArray, List.set_cons_zero, List.set_cons_succ]; refine hK _ _ ?_; clear hK K)) | (refine Abs.step_skip rfl rfl (fun K hK => ?_); (simp only [Act.put, List.setIfInBounds_toArray, List.set_cons_zero, List.set_cons_succ]; refine hK _ _ ?_; clear hK K)))
    (refine Abs.step_store (T := ?_) rfl rfl rfl (fun w0 hI hF hU => ?_) (fun w0 hI hU hJ => ?_) (fun K hK => ?_); rotate_left; (· have hR := kp hI (f_o3); have hg0 := (rcell hR).1; have hg1 := (rcell hR).2.1; simp only [Abs.T_setF, Abs.T_addA, Abs.T_push, Abs.T_start]; go_simp; exact row4 hR _ _ _ _); (· first | exact trivial | exact js hJ rfl _ | exact js hJ (Or.inl rfl) _ | exact js hJ (Or.inr rfl) _); (simp only [Act.put, List.setIfInBounds_toArray, List.set_cons_zero, List.set_cons_succ]; refine hK _ _ ?_; clear hK K))
    repeat (first | (refine Abs.step_pure rfl rfl (fun K hK => ?_); go_simp; (try go_bits); (first | refine hK _ _ ?_ | (simp only [↓IntWalk.iteOmega]; go_simp; (try go_bits); refine hK _ _ ?_)); clear hK K) | (refine Abs.step_load (v := ?_) rfl rfl (by kernel_rfl) rfl (fun w0 hI => ?_) (fun K hK => ?_); rotate_left; (· have z0 := (rcell (kp hI (f_g3))).1; have z1 := (rcell (kp hI (f_s3))).1; go_simp; rfl); (simp only [Act.put, List.setIfInBounds_toArray, List.set_cons_zero, List.set_cons_succ]; refine hK _ _ ?_; clear hK K)) | (refine Abs.step_skip rfl rfl (fun K hK => ?_); (simp only [Act.put, List.setIfInBounds_toArray, List.set_cons_zero, List.set_cons_succ]; refine hK _ _ ?_; clear hK K)))
    intro w0 hI hF hx1 hx2
    clear hx1 hx2 hF
    simp only [Abs.T_push]
    generalize hT5 : setRow w0 _ _ = w5
    obtain ⟨hx5, f_o5⟩ := fin_x hI (f_o3) hT5
    clear hT5 hI w0
    have f_g5 := kx hx5 (f_g3) (by omega)
    have f_a5 := kx hx5 (f_a3) (by omega)
    have f_b5 := kx hx5 (f_b3) (by omega)
    have f_s5 := kx hx5 (f_s3) (by omega)
    have hB5 := bX hB3 hx5 (by omega)
    clear za_a za_b zb_a zb_b zg_a zg_b zo_a zo_b zs_a zs_b
    obtain ⟨zg_a, zg_b, lg5⟩ := rcell f_g5
    obtain ⟨za_a, za_b, la5⟩ := rcell f_a5
    obtain ⟨zb_a, zb_b, lb5⟩ := rcell f_b5
    obtain ⟨zs_a, zs_b, ls5⟩ := rcell f_s5
    obtain ⟨zo_a, zo_b, lo5⟩ := rcell f_o5
    go_wp2
    refine bodyPost_ret (by simp [results, Try.results18, go_sem, zo_a]; try rfl) rfl ⟨rfl, hB5⟩

theorem dk_take (l : List Bd) (k : Nat) (hk : k ≤ l.length) : dk (l.take k) (l.take k).length = dk l k := by
  unfold dk
  rw [List.take_length]
theorem okB_take {l : List Bd} (h : okB l = true) (k : Nat) (h0 : 0 < k) (hk : k ≤ l.length) : okB (l.take k) = true := by
  obtain ⟨k0, k1, k2⟩ := okB_spec h
  unfold okB
  rw [List.length_take, okF_pre (-1) l k k2]
  simp
  omega

set_option maxRecDepth 100000 in
set_option maxHeartbeats 1000000 in
theorem ref9_First (A : Option Addr) (c : Nat) (l : List Bd) (h : okB l = true) (w : World) (hR : BR w A c l) :
    Calls Try.prog 21 #[.slice A l.length c] w fun e w' => e = .returned (.int .i64 (firstN l)) ∧ Below w.heap.size w w' := by
  obtain ⟨k0, k1, k2⟩ := okB_spec h
  have hF := firstN_is l
  have hpos := firstN_pos k0
  have hcap := hR.cap
  generalize firstN l = f at *
  have hle := hF.le
  have HF := hide hF
  have HK := hide h
  clear hF h k2
  go_enter Try.func21, Try.ntmps21
  go_wp2_with fail
  go_loopw [3] (fun vi wr => ∃ k : Nat, vi = .int .i64 k ∧ 1 ≤ k ∧ k ≤ f ∧ Below w.heap.size w wr) (fun vi _ => l.length - (intOf vi).toNat)
  case atStart => exact ⟨1, rfl, by omega, by omega, b0 w⟩
  case round =>
    obtain ⟨k, rfl, h1, hk, hb⟩ := hrel
    by_cases hlt : k < l.length
    · have cs := ref9_Swing A c (l.take (k + 1)) (okB_take HK.out (k + 1) (by omega) hlt) wr ((hR.below hb).take (k + 1))
      have el : (l.take (k + 1)).length = k + 1 := by rw [List.length_take]; omega
      rw [dk_take l (k + 1) hlt, el] at cs
      clear el
      by_cases hkf : k < f
      · rw [HF.out.yes k hkf] at cs
        go_wp2_with fail
        refine cs.mono ?_
        rintro e w2 ⟨rfl, hb2⟩
        go_wp2
        go_roundw
        case rel => exact ⟨k + 1, by go_num, by omega, by omega, bB hb hb2⟩
        case measure => simp [intOf]; omega
      · have e : k = f := by omega
        subst e
        rw [HF.out.no hlt] at cs
        go_wp2_with fail
        refine cs.mono ?_
        rintro e w2 ⟨rfl, hb2⟩
        go_wp2
        go_ret
        exact ⟨rfl, bB hb hb2⟩
    · have e : k = f := by omega
      subst e
      have hlt' : ¬ ((k : Int) < (l.length : Int)) := by omega
      go_wp2
      go_ret
      exact ⟨rfl, hb⟩
end Go.Proofs.Ytfdaabdibpcjeaa
