/- slide.Through at this program. -/
import Derived.Test.YtpimkigbdjfjoaaDoorP9
set_option linter.unusedSimpArgs false
set_option linter.unusedVariables false
namespace Go.Proofs.YtpimkigbdjfjoaaDoor
open Go.RowKit

set_option maxRecDepth 100000 in
theorem slide_Through_no (x y n d : Int) (A : Option Addr) (c : Nat) (l : List Bd) (h : okB l = false) (w : World) (hR : BR w A c l) :
    Calls Tryd.prog 21 #[.slice A l.length c, .agg #[.int .i64 x, .int .i64 y, .int .i64 n, .int .i64 d]] w fun e w' => e = .returned (.bool false) ∧ Below w.heap.size w w' := by
  have c1 := pmc_Check A c l
  rw [chE_no h] at c1
  go_enter Tryd.func21, Tryd.ntmps21
  go_wp2_with fail
  refine (c1 _ (hR.below (bA (b0 _) _))).mono ?_
  rintro e w1 ⟨rfl, hb1⟩
  have f_o1 := kp hb1 (na w #[.int .i64 x, .int .i64 y, .int .i64 n, .int .i64 d] 31)
  have hB1 := bB (bA (b0 w) (.cells #[.int .i64 x, .int .i64 y, .int .i64 n, .int .i64 d] 31)) hb1
  obtain ⟨zo_a, zo_b, lo1⟩ := rcell f_o1
  go_wp2
  go_ret
  exact ⟨rfl, hB1⟩

set_option maxRecDepth 100000 in
set_option maxHeartbeats 2000000 in
theorem slide_Through_yes (x y n d : Int) (A : Option Addr) (c : Nat) (l : List Bd) (h : okB l = true) (E : Bool) (hE : Hid (thrB x y n d (l.headD ⟨0, 0, 0⟩).t l = E)) (w : World) (hR : BR w A c l) :
    Calls Tryd.prog 21 #[.slice A l.length c, .agg #[.int .i64 x, .int .i64 y, .int .i64 n, .int .i64 d]] w fun e w' => e = .returned (.bool E) ∧ Below w.heap.size w w' := by
  obtain ⟨k0, k1, k2⟩ := okB_spec h
  have c1 := pmc_Check A c l
  rw [chE_yes h] at c1
  obtain ⟨g, o, cur, rfl, hg, hc⟩ := hR.mem k0
  have he := (hc 0 k0).1
  simp only [Nat.zero_mul, Nat.add_zero] at he
  obtain ⟨t1, t2, -⟩ := el_rg k2 0 k0
  rw [headD_0 k0] at hE
  generalize l[0].t = t0 at *
  have HC := hide hc
  have K2 := hide k2
  have HR := hide hR
  clear hc k2 hR h
  go_enter Tryd.func21, Tryd.ntmps21
  obtain ⟨zg_a, zg_b, lg0⟩ := rcell hg
  go_wp2_with fail
  refine (c1 _ (HR.out.below (bA (b0 _) _))).mono ?_
  rintro e w1 ⟨rfl, hb1⟩
  have f_g1 := kp hb1 (ka (hg) (.cells #[.int .i64 x, .int .i64 y, .int .i64 n, .int .i64 d] 31))
  have f_o1 := kp hb1 (na w #[.int .i64 x, .int .i64 y, .int .i64 n, .int .i64 d] 31)
  have hB1 := bB (bA (b0 w) (.cells #[.int .i64 x, .int .i64 y, .int .i64 n, .int .i64 d] 31)) hb1
  clear zg_a zg_b
  obtain ⟨zg_a, zg_b, lg1⟩ := rcell f_g1
  obtain ⟨zo_a, zo_b, lo1⟩ := rcell f_o1
  go_wp2_with fail
  go_loopw [12] (fun vi wr => ∃ k : Nat, vi = .int .i64 k ∧ k ≤ l.length ∧ Hid (thrB x y n d t0 (l.take k) = true) ∧ wr.heap[g]? = some (.cells cur 37 (0, 0)) ∧ wr.heap[w.heap.size]? = some (.cells #[.int .i64 x, .int .i64 y, .int .i64 n, .int .i64 d] 31 (0, 0)) ∧ Below w.heap.size w wr) (fun vi _ => l.length - (intOf vi).toNat)
  case atStart => exact ⟨0, rfl, by omega, hide rfl, (f_g1), (f_o1), hB1⟩
  case round =>
    obtain ⟨k, rfl, hk, hT, j1, j2, hb⟩ := hrel
    by_cases hlt : k < l.length
    · obtain ⟨q1, q2, q3⟩ := HC.out k hlt
      obtain ⟨r1, r2, -, ⟨r3, r4⟩, r5, r6⟩ := el_rg K2.out k hlt
      have HT := hide (thrB_take (A := x) (R := y) (N := n) (D := d) (t0 := t0) hlt)
      generalize l[k] = b at *
      obtain ⟨bt, bl, bh⟩ := b
      simp only at q1 q2 q3 r1 r2 r3 r4 r5 r6
      have cW := line_Within x y n d (bt - t0) bl bh (by omega) (by omega) (by omega) (by omega)
      simp only at HT
      generalize winB x y n d (bt - t0) bl bh = wb at *
      obtain ⟨zg_a, zg_b, lg2⟩ := rcell j1
      obtain ⟨zo_a, zo_b, lo3⟩ := rcell j2
      go_wp2_with fail
      have f_g4 := (ka (j1) (.cells #[.int .i64 bt, .int .i64 bl, .int .i64 bh] 37))
      have f_o4 := (ka (j2) (.cells #[.int .i64 bt, .int .i64 bl, .int .i64 bh] 37))
      have f_b4 := (na wr #[.int .i64 bt, .int .i64 bl, .int .i64 bh] 37)
      have hB4 := (bA hb (.cells #[.int .i64 bt, .int .i64 bl, .int .i64 bh] 37))
      clear zg_a zg_b zo_a zo_b
      have lg4 := (rcell f_g4).2.2
      have lo4 := (rcell f_o4).2.2
      have lb4 := (rcell f_b4).2.2
      refine Abs.wp_region_abs (Abs.cls0 _) [0, 1, 2, 3, 4, 5, 6, 7, 8, 9, 10, 11, 12, 13] (by kernel_rfl) (by kernel_rfl) (Below.refl _ _).drew ?_
      repeat (first | (refine Abs.step_pure rfl rfl (fun K hK => ?_); go_simp; (try go_bits); (first | refine hK _ _ ?_ | (simp only [↓IntWalk.iteOmega]; go_simp; (try go_bits); refine hK _ _ ?_)); clear hK K) | (refine Abs.step_load (v := ?_) rfl rfl (by kernel_rfl) rfl (fun w0 hI => ?_) (fun K hK => ?_); rotate_left; (· have z0 := (rcell (kp hI (f_g4))).1; have z1 := (rcell (kp hI (f_o4))).1; have z2 := (rcell (kp hI (f_b4))).1; go_simp; rfl); (simp only [Act.put, List.setIfInBounds_toArray, List.set_cons_zero, List.set_cons_succ]; refine hK _ _ ?_; clear hK K)) | (refine Abs.step_skip rfl rfl (fun K hK => ?_); (simp only [Act.put, List.setIfInBounds_toArray, List.set_cons_zero, List.set_cons_succ]; refine hK _ _ ?_; clear hK K)))
      (refine Abs.step_call_val (f := ?_) (args := ?_) (v := ?_) rfl rfl rfl rfl (fun w0 => ?_) (fun w0 hI => ?_) (fun K hK => ?_); rotate_left 3; (· go_simp; (constructor <;> rfl)); (· exact cW _); (simp only [Act.put, List.setIfInBounds_toArray, List.set_cons_zero, List.set_cons_succ]; refine hK _ _ ?_; clear hK K))
      repeat (first | (refine Abs.step_pure rfl rfl (fun K hK => ?_); go_simp; (try go_bits); (first | refine hK _ _ ?_ | (simp only [↓IntWalk.iteOmega]; go_simp; (try go_bits); refine hK _ _ ?_)); clear hK K) | (refine Abs.step_load (v := ?_) rfl rfl (by kernel_rfl) rfl (fun w0 hI => ?_) (fun K hK => ?_); rotate_left; (· have z0 := (rcell (kp hI (f_g4))).1; have z1 := (rcell (kp hI (f_o4))).1; have z2 := (rcell (kp hI (f_b4))).1; go_simp; rfl); (simp only [Act.put, List.setIfInBounds_toArray, List.set_cons_zero, List.set_cons_succ]; refine hK _ _ ?_; clear hK K)) | (refine Abs.step_skip rfl rfl (fun K hK => ?_); (simp only [Act.put, List.setIfInBounds_toArray, List.set_cons_zero, List.set_cons_succ]; refine hK _ _ ?_; clear hK K)))
      intro w5 hb5 hx0 hx1 hx2
      clear hx0 hx1 hx2
      simp only [Abs.T_setF, Abs.T_addA, Abs.T_push, Abs.T_start]
      have f_g5 := kp hb5 (f_g4)
      have f_o5 := kp hb5 (f_o4)
      have f_b5 := kp hb5 (f_b4)
      have hB5 := bB hB4 hb5
      obtain ⟨zg_a, zg_b, lg5⟩ := rcell f_g5
      obtain ⟨zo_a, zo_b, lo5⟩ := rcell f_o5
      obtain ⟨zb_a, zb_b, lb5⟩ := rcell f_b5
      cases wb
      · have e : E = false := by rw [← hE.out]; exact thrB_no (k := k + 1) (by rw [HT.out, Bool.and_false])
        subst e
        clear hE HT
        go_wp2
        go_ret
        exact ⟨rfl, hB5⟩
      · have HT2 := hide (HT.out.trans (by rw [hT.out]))
        clear HT
        go_wp2
        go_roundw
        case rel => exact ⟨k + 1, by go_num, by omega, HT2, (f_g5), (f_o5), hB5⟩
        case measure => simp [intOf]; omega
    · obtain rfl : k = l.length := by omega
      rw [List.take_length] at hT
      have e : E = true := by rw [← hE.out]; exact hT.out
      subst e
      clear hE
      go_wp2
      go_ret
      exact ⟨rfl, hb⟩
end Go.Proofs.YtpimkigbdjfjoaaDoor
