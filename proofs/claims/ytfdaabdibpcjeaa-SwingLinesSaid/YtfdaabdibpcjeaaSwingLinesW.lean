/- The walk of SwingLines (yearbooklaw09). -/
import Derived.Test.YtfdaabdibpcjeaaPB
import Derived.Test.YtfdaabdibpcjeaaP6
import Derived.Test.YtfdaabdibpcjeaaPA
set_option linter.unusedSimpArgs false
set_option linter.unusedVariables false
namespace Go.Proofs.Ytfdaabdibpcjeaa
open Go.RowKit

set_option maxRecDepth 100000 in
set_option maxHeartbeats 2000000 in
theorem ref9_Through (x y n d : Int) (hI : isB x y n d = true) (A : Option Addr) (c : Nat) (l : List Bd) (h : okB l = true) (E : Bool) (hE : Hid (thrB x y n d (bd l 0).t l = E)) (w : World) (hR : BR w A c l) :
    Calls Try.prog 16 #[.agg #[.int .i64 x, .int .i64 y, .int .i64 n, .int .i64 d], .slice A l.length c] w fun e w' => e = .returned (.bool E) ∧ Below w.heap.size w w' := by
  obtain ⟨k0, k1, k2⟩ := okB_spec h
  obtain ⟨g, o, cur, rfl, hg, hc⟩ := hR.mem k0
  have hc' : ∀ i, i < l.length → cur[o + i * 3]? = some (.int .i64 (bd l i).t) ∧ cur[o + i * 3 + 1]? = some (.int .i64 (bd l i).lo) ∧ cur[o + i * 3 + 2]? = some (.int .i64 (bd l i).hi) := fun i hi => by
    have := hc i hi
    rw [bd_eq hi] at this
    exact this
  have he := (hc' 0 k0).1
  simp only [Nat.zero_mul, Nat.add_zero] at he
  obtain ⟨t1, t2, -⟩ := bd_rg k2 0 k0
  have htm : ∀ i, i < l.length → tmB ((bd l i).t - (bd l 0).t) = true := fun i hi => by
    have := bd_rg k2 i hi
    by_cases e : i = 0
    · subst e; exact tm_of (by omega) (by omega)
    · have := t_lt k2 0 i (by omega) hi
      exact tm_of (by omega) (by omega)
  generalize ht0 : (bd l 0).t = t0 at *
  have HC := hide hc'
  have K2 := hide k2
  have HM := hide htm
  clear hc hc' k2 hR h htm ht0
  go_enter Try.func16, Try.ntmps16
  obtain ⟨zg_a, zg_b, lg0⟩ := rcell hg
  go_wp2_with fail
  go_loopw [5] (fun vi wr => ∃ k : Nat, vi = .int .i64 k ∧ k ≤ l.length ∧ Hid (thrB x y n d t0 (l.take k) = true) ∧ wr.heap[g]? = some (.cells cur 38 (0, 0)) ∧ wr.heap[w.heap.size]? = some (.cells #[.int .i64 x, .int .i64 y, .int .i64 n, .int .i64 d] 23 (0, 0)) ∧ Below w.heap.size w wr) (fun vi _ => l.length - (intOf vi).toNat)
  case atStart => exact ⟨0, rfl, by omega, hide rfl, (ka (hg) (.cells #[.int .i64 x, .int .i64 y, .int .i64 n, .int .i64 d] 23)), (na w #[.int .i64 x, .int .i64 y, .int .i64 n, .int .i64 d] 23), (bA (b0 w) (.cells #[.int .i64 x, .int .i64 y, .int .i64 n, .int .i64 d] 23))⟩
  case round =>
    obtain ⟨k, rfl, hk, hT, j1, j2, hb⟩ := hrel
    by_cases hlt : k < l.length
    · obtain ⟨q1, q2, q3⟩ := HC.out k hlt
      obtain ⟨r1, r2, -, ⟨r3, r4⟩, r5, r6⟩ := bd_rg K2.out k hlt
      have HT := hide (thrB_take (A := x) (R := y) (N := n) (D := d) (t0 := t0) hlt)
      rw [bd_eq hlt] at HT
      have htk := HM.out k hlt
      generalize bd l k = b at *
      obtain ⟨bt, bl, bh⟩ := b
      simp only at q1 q2 q3 r1 r2 r3 r4 r5 r6 htk
      have cW := ref_WithinL x y n d (bt - t0) bl bh hI htk (by omega) (by omega) (by omega) (by omega)
      simp only at HT
      clear htk
      generalize winB x y n d (bt - t0) bl bh = wb at *
      obtain ⟨zg_a, zg_b, lg1⟩ := rcell j1
      obtain ⟨zo_a, zo_b, lo2⟩ := rcell j2
      go_wp2_with fail
      refine Abs.wp_region_abs (Abs.cls0 _) [0, 1, 2, 3, 4, 5, 6, 7, 8, 9, 10, 11, 12, 13, 14, 15, 16, 17, 18, 19, 20, 21, 22] (by kernel_rfl) (by kernel_rfl) (Below.refl _ _).drew ?_
      repeat (first | (refine Abs.step_pure rfl rfl (fun K hK => ?_); go_simp; (try go_bits); (first | refine hK _ _ ?_ | (simp only [↓IntWalk.iteOmega]; go_simp; (try go_bits); refine hK _ _ ?_)); clear hK K) | (refine Abs.step_load (v := ?_) rfl rfl (by kernel_rfl) rfl (fun w0 hI => ?_) (fun K hK => ?_); rotate_left; (· have z0 := (rcell (kp hI (j1))).1; have z1 := (rcell (kp hI (j2))).1; go_simp; rfl); (simp only [Act.put, List.setIfInBounds_toArray, List.set_cons_zero, List.set_cons_succ]; refine hK _ _ ?_; clear hK K)) | (refine Abs.step_skip rfl rfl (fun K hK => ?_); (simp only [Act.put, List.setIfInBounds_toArray, List.set_cons_zero, List.set_cons_succ]; refine hK _ _ ?_; clear hK K)))
      (refine Abs.step_call_val (f := ?_) (args := ?_) (v := ?_) rfl rfl rfl rfl (fun w0 => ?_) (fun w0 hI => ?_) (fun K hK => ?_); rotate_left 3; (· go_simp; (constructor <;> rfl)); (· exact cW _); (simp only [Act.put, List.setIfInBounds_toArray, List.set_cons_zero, List.set_cons_succ]; refine hK _ _ ?_; clear hK K))
      repeat (first | (refine Abs.step_pure rfl rfl (fun K hK => ?_); go_simp; (try go_bits); (first | refine hK _ _ ?_ | (simp only [↓IntWalk.iteOmega]; go_simp; (try go_bits); refine hK _ _ ?_)); clear hK K) | (refine Abs.step_load (v := ?_) rfl rfl (by kernel_rfl) rfl (fun w0 hI => ?_) (fun K hK => ?_); rotate_left; (· have z0 := (rcell (kp hI (j1))).1; have z1 := (rcell (kp hI (j2))).1; go_simp; rfl); (simp only [Act.put, List.setIfInBounds_toArray, List.set_cons_zero, List.set_cons_succ]; refine hK _ _ ?_; clear hK K)) | (refine Abs.step_skip rfl rfl (fun K hK => ?_); (simp only [Act.put, List.setIfInBounds_toArray, List.set_cons_zero, List.set_cons_succ]; refine hK _ _ ?_; clear hK K)))
      intro w4 hb4 hx0 hx1 hx2
      clear hx0 hx1 hx2
      simp only [Abs.T_setF, Abs.T_addA, Abs.T_push, Abs.T_start]
      have f_g4 := kp hb4 (j1)
      have f_o4 := kp hb4 (j2)
      have hB4 := bB hb hb4
      clear zg_a zg_b zo_a zo_b
      obtain ⟨zg_a, zg_b, lg4⟩ := rcell f_g4
      obtain ⟨zo_a, zo_b, lo4⟩ := rcell f_o4
      cases wb
      · have e : E = false := by rw [← hE.out]; exact thrB_no (k := k + 1) (by rw [HT.out, Bool.and_false])
        subst e
        clear hE HT
        go_wp2
        go_ret
        exact ⟨rfl, hB4⟩
      · have HT2 := hide (HT.out.trans (by rw [hT.out]))
        clear HT
        go_wp2
        go_roundw
        case rel => exact ⟨k + 1, by go_num, by omega, HT2, (f_g4), (f_o4), hB4⟩
        case measure => simp [intOf]; omega
    · obtain rfl : k = l.length := by omega
      rw [List.take_length] at hT
      have e : E = true := by rw [← hE.out]; exact hT.out
      subst e
      clear hE
      go_wp2
      go_ret
      exact ⟨rfl, hb⟩

set_option maxRecDepth 100000 in
set_option maxHeartbeats 2000000 in
theorem lines_1 (x y n d : Int) (X : Option Addr) (C : Nat) (xs ys : List Bd)  (w : World)
    (c1 : ∀ w', Below w.heap.size w w' → Calls Try.prog 11 #[.slice X xs.length C] w' fun e w'' => ∃ A c, e = .returned (.slice A ys.length c) ∧ BR w'' A c ys ∧ Below w'.heap.size w' w'')
    (c2 : ∀ A c w, BR w A c ys → Calls Try.prog 12 #[.slice A ys.length c] w fun e w' => e = .returned (.tuple #[.agg #[.int .i64 0, .int .i64 0, .int .i64 0, .int .i64 0], .int .i64 180]) ∧ Below w.heap.size w w')
    (c3 : ∀ A c w, BR w A c ys → Calls Try.prog 13 #[.slice A ys.length c] w fun e w' => e = .returned (.bool false) ∧ Below w.heap.size w w')
    (c4 : ∀ A c w, BR w A c ys → Calls Try.prog 14 #[.agg #[.int .i64 x, .int .i64 y, .int .i64 n, .int .i64 d], .slice A ys.length c] w fun e w' => e = .returned (.bool false) ∧ Below w.heap.size w w') :
    Calls Try.prog 3 #[.agg #[.int .i64 x, .int .i64 y, .int .i64 n, .int .i64 d], .slice X xs.length C] w fun e w' => e = .returned (.bool true) ∧ Below w.heap.size w w' := by
  have hw := wakes9
  go_enter Try.func3, Try.ntmps3
  go_wp2_with fail
  refine (hw _).mono ?_
  rintro e w1 ⟨rfl, hb1⟩
  have f_s1 := kp hb1 (na w #[.int .i64 x, .int .i64 y, .int .i64 n, .int .i64 d] 23)
  have hB1 := bB (bA (b0 w) (.cells #[.int .i64 x, .int .i64 y, .int .i64 n, .int .i64 d] 23)) hb1
  obtain ⟨zs_a, zs_b, ls1⟩ := rcell f_s1
  go_wp2_with fail
  refine (c1 _ hB1).mono ?_
  rintro e wo ⟨A, c, rfl, hR, hbo⟩
  have hBo := bB hB1 hbo
  have f_so := kp hbo f_s1
  clear c1 hw hbo
  obtain ⟨zs_a, zs_b, ls2⟩ := rcell f_so
  go_wp2_with fail
  refine (c2 _ _ _ hR).mono ?_
  rintro e w3 ⟨rfl, hb3⟩
  have f_s3 := kp hb3 (f_so)
  have rd_b3 := hR.below hb3
  have hB3 := bB hBo hb3
  clear zs_a zs_b
  obtain ⟨zs_a, zs_b, ls3⟩ := rcell f_s3
  go_wp2_with fail
  refine (c3 _ _ _ (rd_b3.below (bA (b0 _) (.cells #[.int .i64 0, .int .i64 0, .int .i64 0, .int .i64 0] 23)))).mono ?_
  rintro e w4 ⟨rfl, hb4⟩
  have f_s4 := kp hb4 (ka (f_s3) (.cells #[.int .i64 0, .int .i64 0, .int .i64 0, .int .i64 0] 23))
  have f_f4 := kp hb4 (na w3 #[.int .i64 0, .int .i64 0, .int .i64 0, .int .i64 0] 23)
  have rd_b4 := (rd_b3.below (bA (b0 _) (.cells #[.int .i64 0, .int .i64 0, .int .i64 0, .int .i64 0] 23))).below hb4
  have hB4 := bB (bA hB3 (.cells #[.int .i64 0, .int .i64 0, .int .i64 0, .int .i64 0] 23)) hb4
  clear zs_a zs_b
  obtain ⟨zs_a, zs_b, ls4⟩ := rcell f_s4
  obtain ⟨zf_a, zf_b, lf4⟩ := rcell f_f4
  go_wp2_with fail
  refine (c4 _ _ _ rd_b4).mono ?_
  rintro e w5 ⟨rfl, hb5⟩
  have f_s5 := kp hb5 (f_s4)
  have f_f5 := kp hb5 (f_f4)
  have rd_b5 := rd_b4.below hb5
  have hB5 := bB hB4 hb5
  clear zf_a zf_b zs_a zs_b
  obtain ⟨zs_a, zs_b, ls5⟩ := rcell f_s5
  obtain ⟨zf_a, zf_b, lf5⟩ := rcell f_f5
  go_wp2
  go_ret
  exact ⟨rfl, hB5⟩

set_option maxRecDepth 100000 in
set_option maxHeartbeats 2000000 in
theorem lines_ff (x y n d : Int) (X : Option Addr) (C : Nat) (xs ys : List Bd) (E : Bool)  (w : World)
    (c1 : ∀ w', Below w.heap.size w w' → Calls Try.prog 11 #[.slice X xs.length C] w' fun e w'' => ∃ A c, e = .returned (.slice A ys.length c) ∧ BR w'' A c ys ∧ Below w'.heap.size w' w'')
    (c2 : ∀ A c w, BR w A c ys → Calls Try.prog 12 #[.slice A ys.length c] w fun e w' => e = .returned (.tuple #[.agg #[.int .i64 0, .int .i64 0, .int .i64 0, .int .i64 0], .int .i64 4]) ∧ Below w.heap.size w w')
    (c3 : ∀ A c w, BR w A c ys → Calls Try.prog 13 #[.slice A ys.length c] w fun e w' => e = .returned (.bool true) ∧ Below w.heap.size w w')
    (c4 : ∀ A c w, BR w A c ys → Calls Try.prog 14 #[.agg #[.int .i64 x, .int .i64 y, .int .i64 n, .int .i64 d], .slice A ys.length c] w fun e w' => e = .returned (.bool false) ∧ Below w.heap.size w w')
    (c5 : ∀ w, Calls Try.prog 15 #[.agg #[.int .i64 x, .int .i64 y, .int .i64 n, .int .i64 d]] w fun e w' => e = .returned (.bool false) ∧ Below w.heap.size w w')
    (c7 : ∀ A c w, BR w A c ys → Calls Try.prog 17 #[.slice A ys.length c] w fun e w' => e = .returned (.bool false) ∧ Below w.heap.size w w') :
    Calls Try.prog 3 #[.agg #[.int .i64 x, .int .i64 y, .int .i64 n, .int .i64 d], .slice X xs.length C] w fun e w' => e = .returned (.bool true) ∧ Below w.heap.size w w' := by
  have hw := wakes9
  go_enter Try.func3, Try.ntmps3
  go_wp2_with fail
  refine (hw _).mono ?_
  rintro e w1 ⟨rfl, hb1⟩
  have f_s1 := kp hb1 (na w #[.int .i64 x, .int .i64 y, .int .i64 n, .int .i64 d] 23)
  have hB1 := bB (bA (b0 w) (.cells #[.int .i64 x, .int .i64 y, .int .i64 n, .int .i64 d] 23)) hb1
  obtain ⟨zs_a, zs_b, ls1⟩ := rcell f_s1
  go_wp2_with fail
  refine (c1 _ hB1).mono ?_
  rintro e wo ⟨A, c, rfl, hR, hbo⟩
  have hBo := bB hB1 hbo
  have f_so := kp hbo f_s1
  clear c1 hw hbo
  obtain ⟨zs_a, zs_b, ls2⟩ := rcell f_so
  go_wp2_with fail
  refine (c2 _ _ _ hR).mono ?_
  rintro e w3 ⟨rfl, hb3⟩
  have f_s3 := kp hb3 (f_so)
  have rd_b3 := hR.below hb3
  have hB3 := bB hBo hb3
  clear zs_a zs_b
  obtain ⟨zs_a, zs_b, ls3⟩ := rcell f_s3
  go_wp2_with fail
  refine (c3 _ _ _ (rd_b3.below (bA (b0 _) (.cells #[.int .i64 0, .int .i64 0, .int .i64 0, .int .i64 0] 23)))).mono ?_
  rintro e w4 ⟨rfl, hb4⟩
  have f_s4 := kp hb4 (ka (f_s3) (.cells #[.int .i64 0, .int .i64 0, .int .i64 0, .int .i64 0] 23))
  have f_f4 := kp hb4 (na w3 #[.int .i64 0, .int .i64 0, .int .i64 0, .int .i64 0] 23)
  have rd_b4 := (rd_b3.below (bA (b0 _) (.cells #[.int .i64 0, .int .i64 0, .int .i64 0, .int .i64 0] 23))).below hb4
  have hB4 := bB (bA hB3 (.cells #[.int .i64 0, .int .i64 0, .int .i64 0, .int .i64 0] 23)) hb4
  clear zs_a zs_b
  obtain ⟨zs_a, zs_b, ls4⟩ := rcell f_s4
  obtain ⟨zf_a, zf_b, lf4⟩ := rcell f_f4
  go_wp2_with fail
  refine Abs.wp_region_abs (Abs.cls0 _) [0, 1, 2, 3, 4, 5, 6, 7, 8, 9, 10] (by kernel_rfl) (by kernel_rfl) (Below.refl _ _).drew ?_
  repeat (first | (refine Abs.step_pure rfl rfl (fun K hK => ?_); go_simp; (try go_bits); (first | refine hK _ _ ?_ | (simp only [↓IntWalk.iteOmega]; go_simp; (try go_bits); refine hK _ _ ?_)); clear hK K) | (refine Abs.step_load (v := ?_) rfl rfl (by kernel_rfl) rfl (fun w0 hI => ?_) (fun K hK => ?_); rotate_left; (· have z0 := (rcell (kp hI (f_s4))).1; have z1 := (rcell (kp hI (f_f4))).1; go_simp; rfl); (simp only [Act.put, List.setIfInBounds_toArray, List.set_cons_zero, List.set_cons_succ]; refine hK _ _ ?_; clear hK K)) | (refine Abs.step_skip rfl rfl (fun K hK => ?_); (simp only [Act.put, List.setIfInBounds_toArray, List.set_cons_zero, List.set_cons_succ]; refine hK _ _ ?_; clear hK K)))
  (refine Abs.step_call_val (f := ?_) (args := ?_) (v := ?_) rfl rfl rfl rfl (fun w0 => ?_) (fun w0 hI => ?_) (fun K hK => ?_); rotate_left 3; (· go_simp; (constructor <;> rfl)); (· exact c4 _ _ _ (rd_b4.below hI)); (simp only [Act.put, List.setIfInBounds_toArray, List.set_cons_zero, List.set_cons_succ]; refine hK _ _ ?_; clear hK K))
  repeat (first | (refine Abs.step_pure rfl rfl (fun K hK => ?_); go_simp; (try go_bits); (first | refine hK _ _ ?_ | (simp only [↓IntWalk.iteOmega]; go_simp; (try go_bits); refine hK _ _ ?_)); clear hK K) | (refine Abs.step_load (v := ?_) rfl rfl (by kernel_rfl) rfl (fun w0 hI => ?_) (fun K hK => ?_); rotate_left; (· have z0 := (rcell (kp hI (f_s4))).1; have z1 := (rcell (kp hI (f_f4))).1; go_simp; rfl); (simp only [Act.put, List.setIfInBounds_toArray, List.set_cons_zero, List.set_cons_succ]; refine hK _ _ ?_; clear hK K)) | (refine Abs.step_skip rfl rfl (fun K hK => ?_); (simp only [Act.put, List.setIfInBounds_toArray, List.set_cons_zero, List.set_cons_succ]; refine hK _ _ ?_; clear hK K)))
  (refine Abs.step_call_val (f := ?_) (args := ?_) (v := ?_) rfl rfl rfl rfl (fun w0 => ?_) (fun w0 hI => ?_) (fun K hK => ?_); rotate_left 3; (· go_simp; (constructor <;> rfl)); (· exact c5 _); (simp only [Act.put, List.setIfInBounds_toArray, List.set_cons_zero, List.set_cons_succ]; refine hK _ _ ?_; clear hK K))
  repeat (first | (refine Abs.step_pure rfl rfl (fun K hK => ?_); go_simp; (try go_bits); (first | refine hK _ _ ?_ | (simp only [↓IntWalk.iteOmega]; go_simp; (try go_bits); refine hK _ _ ?_)); clear hK K) | (refine Abs.step_load (v := ?_) rfl rfl (by kernel_rfl) rfl (fun w0 hI => ?_) (fun K hK => ?_); rotate_left; (· have z0 := (rcell (kp hI (f_s4))).1; have z1 := (rcell (kp hI (f_f4))).1; go_simp; rfl); (simp only [Act.put, List.setIfInBounds_toArray, List.set_cons_zero, List.set_cons_succ]; refine hK _ _ ?_; clear hK K)) | (refine Abs.step_skip rfl rfl (fun K hK => ?_); (simp only [Act.put, List.setIfInBounds_toArray, List.set_cons_zero, List.set_cons_succ]; refine hK _ _ ?_; clear hK K)))
  intro w6 hb6 hx0 hx1 hx2
  clear hx0 hx1 hx2
  simp only [Abs.T_setF, Abs.T_addA, Abs.T_push, Abs.T_start]
  have f_s6 := kp hb6 (f_s4)
  have f_f6 := kp hb6 (f_f4)
  have rd_b6 := rd_b4.below hb6
  have hB6 := bB hB4 hb6
  clear zf_a zf_b zs_a zs_b
  obtain ⟨zs_a, zs_b, ls6⟩ := rcell f_s6
  obtain ⟨zf_a, zf_b, lf6⟩ := rcell f_f6
  go_wp2_with fail
  refine (c7 _ _ _ rd_b6).mono ?_
  rintro e w7 ⟨rfl, hb7⟩
  have f_s7 := kp hb7 (f_s6)
  have f_f7 := kp hb7 (f_f6)
  have rd_b7 := rd_b6.below hb7
  have hB7 := bB hB6 hb7
  clear zf_a zf_b zs_a zs_b
  obtain ⟨zs_a, zs_b, ls7⟩ := rcell f_s7
  obtain ⟨zf_a, zf_b, lf7⟩ := rcell f_f7
  go_wp2
  go_ret
  exact ⟨rfl, hB7⟩

set_option maxRecDepth 100000 in
set_option maxHeartbeats 2000000 in
theorem lines_ft (x y n d : Int) (X : Option Addr) (C : Nat) (xs ys : List Bd) (E : Bool) (v N D : Int) (w : World)
    (c1 : ∀ w', Below w.heap.size w w' → Calls Try.prog 11 #[.slice X xs.length C] w' fun e w'' => ∃ A c, e = .returned (.slice A ys.length c) ∧ BR w'' A c ys ∧ Below w'.heap.size w' w'')
    (c2 : ∀ A c w, BR w A c ys → Calls Try.prog 12 #[.slice A ys.length c] w fun e w' => e = .returned (.tuple #[.agg #[.int .i64 v, .int .i64 0, .int .i64 N, .int .i64 D], .int .i64 0]) ∧ Below w.heap.size w w')
    (c3 : ∀ A c w, BR w A c ys → Calls Try.prog 13 #[.slice A ys.length c] w fun e w' => e = .returned (.bool true) ∧ Below w.heap.size w w')
    (c4 : ∀ A c w, BR w A c ys → Calls Try.prog 14 #[.agg #[.int .i64 x, .int .i64 y, .int .i64 n, .int .i64 d], .slice A ys.length c] w fun e w' => e = .returned (.bool false) ∧ Below w.heap.size w w')
    (c5 : ∀ w, Calls Try.prog 15 #[.agg #[.int .i64 x, .int .i64 y, .int .i64 n, .int .i64 d]] w fun e w' => e = .returned (.bool false) ∧ Below w.heap.size w w')
    (c7 : ∀ A c w, BR w A c ys → Calls Try.prog 17 #[.slice A ys.length c] w fun e w' => e = .returned (.bool true) ∧ Below w.heap.size w w')
    (c8 : ∀ A c w, BR w A c ys → Calls Try.prog 18 #[.slice A ys.length c] w fun e w' => e = .returned (.agg #[.int .i64 v, .int .i64 0, .int .i64 N, .int .i64 D]) ∧ Below w.heap.size w w') :
    Calls Try.prog 3 #[.agg #[.int .i64 x, .int .i64 y, .int .i64 n, .int .i64 d], .slice X xs.length C] w fun e w' => e = .returned (.bool true) ∧ Below w.heap.size w w' := by
  have hw := wakes9
  go_enter Try.func3, Try.ntmps3
  go_wp2_with fail
  refine (hw _).mono ?_
  rintro e w1 ⟨rfl, hb1⟩
  have f_s1 := kp hb1 (na w #[.int .i64 x, .int .i64 y, .int .i64 n, .int .i64 d] 23)
  have hB1 := bB (bA (b0 w) (.cells #[.int .i64 x, .int .i64 y, .int .i64 n, .int .i64 d] 23)) hb1
  obtain ⟨zs_a, zs_b, ls1⟩ := rcell f_s1
  go_wp2_with fail
  refine (c1 _ hB1).mono ?_
  rintro e wo ⟨A, c, rfl, hR, hbo⟩
  have hBo := bB hB1 hbo
  have f_so := kp hbo f_s1
  clear c1 hw hbo
  obtain ⟨zs_a, zs_b, ls2⟩ := rcell f_so
  go_wp2_with fail
  refine (c2 _ _ _ hR).mono ?_
  rintro e w3 ⟨rfl, hb3⟩
  have f_s3 := kp hb3 (f_so)
  have rd_b3 := hR.below hb3
  have hB3 := bB hBo hb3
  clear zs_a zs_b
  obtain ⟨zs_a, zs_b, ls3⟩ := rcell f_s3
  go_wp2_with fail
  refine (c3 _ _ _ (rd_b3.below (bA (b0 _) (.cells #[.int .i64 v, .int .i64 0, .int .i64 N, .int .i64 D] 23)))).mono ?_
  rintro e w4 ⟨rfl, hb4⟩
  have f_s4 := kp hb4 (ka (f_s3) (.cells #[.int .i64 v, .int .i64 0, .int .i64 N, .int .i64 D] 23))
  have f_f4 := kp hb4 (na w3 #[.int .i64 v, .int .i64 0, .int .i64 N, .int .i64 D] 23)
  have rd_b4 := (rd_b3.below (bA (b0 _) (.cells #[.int .i64 v, .int .i64 0, .int .i64 N, .int .i64 D] 23))).below hb4
  have hB4 := bB (bA hB3 (.cells #[.int .i64 v, .int .i64 0, .int .i64 N, .int .i64 D] 23)) hb4
  clear zs_a zs_b
  obtain ⟨zs_a, zs_b, ls4⟩ := rcell f_s4
  obtain ⟨zf_a, zf_b, lf4⟩ := rcell f_f4
  go_wp2_with fail
  refine Abs.wp_region_abs (Abs.cls0 _) [0, 1, 2, 3, 4, 5, 6, 7, 8, 9, 10] (by kernel_rfl) (by kernel_rfl) (Below.refl _ _).drew ?_
  repeat (first | (refine Abs.step_pure rfl rfl (fun K hK => ?_); go_simp; (try go_bits); (first | refine hK _ _ ?_ | (simp only [↓IntWalk.iteOmega]; go_simp; (try go_bits); refine hK _ _ ?_)); clear hK K) | (refine Abs.step_load (v := ?_) rfl rfl (by kernel_rfl) rfl (fun w0 hI => ?_) (fun K hK => ?_); rotate_left; (· have z0 := (rcell (kp hI (f_s4))).1; have z1 := (rcell (kp hI (f_f4))).1; go_simp; rfl); (simp only [Act.put, List.setIfInBounds_toArray, List.set_cons_zero, List.set_cons_succ]; refine hK _ _ ?_; clear hK K)) | (refine Abs.step_skip rfl rfl (fun K hK => ?_); (simp only [Act.put, List.setIfInBounds_toArray, List.set_cons_zero, List.set_cons_succ]; refine hK _ _ ?_; clear hK K)))
  (refine Abs.step_call_val (f := ?_) (args := ?_) (v := ?_) rfl rfl rfl rfl (fun w0 => ?_) (fun w0 hI => ?_) (fun K hK => ?_); rotate_left 3; (· go_simp; (constructor <;> rfl)); (· exact c4 _ _ _ (rd_b4.below hI)); (simp only [Act.put, List.setIfInBounds_toArray, List.set_cons_zero, List.set_cons_succ]; refine hK _ _ ?_; clear hK K))
  repeat (first | (refine Abs.step_pure rfl rfl (fun K hK => ?_); go_simp; (try go_bits); (first | refine hK _ _ ?_ | (simp only [↓IntWalk.iteOmega]; go_simp; (try go_bits); refine hK _ _ ?_)); clear hK K) | (refine Abs.step_load (v := ?_) rfl rfl (by kernel_rfl) rfl (fun w0 hI => ?_) (fun K hK => ?_); rotate_left; (· have z0 := (rcell (kp hI (f_s4))).1; have z1 := (rcell (kp hI (f_f4))).1; go_simp; rfl); (simp only [Act.put, List.setIfInBounds_toArray, List.set_cons_zero, List.set_cons_succ]; refine hK _ _ ?_; clear hK K)) | (refine Abs.step_skip rfl rfl (fun K hK => ?_); (simp only [Act.put, List.setIfInBounds_toArray, List.set_cons_zero, List.set_cons_succ]; refine hK _ _ ?_; clear hK K)))
  (refine Abs.step_call_val (f := ?_) (args := ?_) (v := ?_) rfl rfl rfl rfl (fun w0 => ?_) (fun w0 hI => ?_) (fun K hK => ?_); rotate_left 3; (· go_simp; (constructor <;> rfl)); (· exact c5 _); (simp only [Act.put, List.setIfInBounds_toArray, List.set_cons_zero, List.set_cons_succ]; refine hK _ _ ?_; clear hK K))
  repeat (first | (refine Abs.step_pure rfl rfl (fun K hK => ?_); go_simp; (try go_bits); (first | refine hK _ _ ?_ | (simp only [↓IntWalk.iteOmega]; go_simp; (try go_bits); refine hK _ _ ?_)); clear hK K) | (refine Abs.step_load (v := ?_) rfl rfl (by kernel_rfl) rfl (fun w0 hI => ?_) (fun K hK => ?_); rotate_left; (· have z0 := (rcell (kp hI (f_s4))).1; have z1 := (rcell (kp hI (f_f4))).1; go_simp; rfl); (simp only [Act.put, List.setIfInBounds_toArray, List.set_cons_zero, List.set_cons_succ]; refine hK _ _ ?_; clear hK K)) | (refine Abs.step_skip rfl rfl (fun K hK => ?_); (simp only [Act.put, List.setIfInBounds_toArray, List.set_cons_zero, List.set_cons_succ]; refine hK _ _ ?_; clear hK K)))
  intro w6 hb6 hx0 hx1 hx2
  clear hx0 hx1 hx2
  simp only [Abs.T_setF, Abs.T_addA, Abs.T_push, Abs.T_start]
  have f_s6 := kp hb6 (f_s4)
  have f_f6 := kp hb6 (f_f4)
  have rd_b6 := rd_b4.below hb6
  have hB6 := bB hB4 hb6
  clear zf_a zf_b zs_a zs_b
  obtain ⟨zs_a, zs_b, ls6⟩ := rcell f_s6
  obtain ⟨zf_a, zf_b, lf6⟩ := rcell f_f6
  go_wp2_with fail
  refine (c7 _ _ _ rd_b6).mono ?_
  rintro e w7 ⟨rfl, hb7⟩
  have f_s7 := kp hb7 (f_s6)
  have f_f7 := kp hb7 (f_f6)
  have rd_b7 := rd_b6.below hb7
  have hB7 := bB hB6 hb7
  clear zf_a zf_b zs_a zs_b
  obtain ⟨zs_a, zs_b, ls7⟩ := rcell f_s7
  obtain ⟨zf_a, zf_b, lf7⟩ := rcell f_f7
  go_wp2_with fail
  refine Abs.wp_region_abs (Abs.cls0 _) [0, 1, 2, 3, 4, 5, 6, 7, 8] (by kernel_rfl) (by kernel_rfl) (Below.refl _ _).drew ?_
  repeat (first | (refine Abs.step_pure rfl rfl (fun K hK => ?_); go_simp; (try go_bits); (first | refine hK _ _ ?_ | (simp only [↓IntWalk.iteOmega]; go_simp; (try go_bits); refine hK _ _ ?_)); clear hK K) | (refine Abs.step_load (v := ?_) rfl rfl (by kernel_rfl) rfl (fun w0 hI => ?_) (fun K hK => ?_); rotate_left; (· have z0 := (rcell (kp hI (f_f7))).1; go_simp; rfl); (simp only [Act.put, List.setIfInBounds_toArray, List.set_cons_zero, List.set_cons_succ]; refine hK _ _ ?_; clear hK K)) | (refine Abs.step_skip rfl rfl (fun K hK => ?_); (simp only [Act.put, List.setIfInBounds_toArray, List.set_cons_zero, List.set_cons_succ]; refine hK _ _ ?_; clear hK K)))
  (refine Abs.step_call_val (f := ?_) (args := ?_) (v := ?_) rfl rfl rfl rfl (fun w0 => ?_) (fun w0 hI => ?_) (fun K hK => ?_); rotate_left 3; (· go_simp; (constructor <;> rfl)); (· exact c8 _ _ _ (rd_b7.below hI)); (simp only [Act.put, List.setIfInBounds_toArray, List.set_cons_zero, List.set_cons_succ]; refine hK _ _ ?_; clear hK K))
  repeat (first | (refine Abs.step_pure rfl rfl (fun K hK => ?_); go_simp; (try go_bits); (first | refine hK _ _ ?_ | (simp only [↓IntWalk.iteOmega]; go_simp; (try go_bits); refine hK _ _ ?_)); clear hK K) | (refine Abs.step_load (v := ?_) rfl rfl (by kernel_rfl) rfl (fun w0 hI => ?_) (fun K hK => ?_); rotate_left; (· have z0 := (rcell (kp hI (f_f7))).1; go_simp; rfl); (simp only [Act.put, List.setIfInBounds_toArray, List.set_cons_zero, List.set_cons_succ]; refine hK _ _ ?_; clear hK K)) | (refine Abs.step_skip rfl rfl (fun K hK => ?_); (simp only [Act.put, List.setIfInBounds_toArray, List.set_cons_zero, List.set_cons_succ]; refine hK _ _ ?_; clear hK K)))
  intro w9 hb9 hx0 hx1 hx2
  clear hx0 hx1 hx2
  simp only [Abs.T_setF, Abs.T_addA, Abs.T_push, Abs.T_start]
  have f_s9 := kp hb9 (f_s7)
  have f_f9 := kp hb9 (f_f7)
  have rd_b9 := rd_b7.below hb9
  have hB9 := bB hB7 hb9
  clear zf_a zf_b zs_a zs_b
  obtain ⟨zs_a, zs_b, ls9⟩ := rcell f_s9
  obtain ⟨zf_a, zf_b, lf9⟩ := rcell f_f9
  go_wp2
  go_ret
  exact ⟨rfl, hB9⟩

set_option maxRecDepth 100000 in
set_option maxHeartbeats 2000000 in
theorem lines_tf (x y n d : Int) (X : Option Addr) (C : Nat) (xs ys : List Bd) (E : Bool)  (w : World)
    (c1 : ∀ w', Below w.heap.size w w' → Calls Try.prog 11 #[.slice X xs.length C] w' fun e w'' => ∃ A c, e = .returned (.slice A ys.length c) ∧ BR w'' A c ys ∧ Below w'.heap.size w' w'')
    (c2 : ∀ A c w, BR w A c ys → Calls Try.prog 12 #[.slice A ys.length c] w fun e w' => e = .returned (.tuple #[.agg #[.int .i64 0, .int .i64 0, .int .i64 0, .int .i64 0], .int .i64 4]) ∧ Below w.heap.size w w')
    (c3 : ∀ A c w, BR w A c ys → Calls Try.prog 13 #[.slice A ys.length c] w fun e w' => e = .returned (.bool true) ∧ Below w.heap.size w w')
    (c4 : ∀ A c w, BR w A c ys → Calls Try.prog 14 #[.agg #[.int .i64 x, .int .i64 y, .int .i64 n, .int .i64 d], .slice A ys.length c] w fun e w' => e = .returned (.bool E) ∧ Below w.heap.size w w')
    (c5 : ∀ w, Calls Try.prog 15 #[.agg #[.int .i64 x, .int .i64 y, .int .i64 n, .int .i64 d]] w fun e w' => e = .returned (.bool true) ∧ Below w.heap.size w w')
    (c6 : ∀ A c w, BR w A c ys → Calls Try.prog 16 #[.agg #[.int .i64 x, .int .i64 y, .int .i64 n, .int .i64 d], .slice A ys.length c] w fun e w' => e = .returned (.bool E) ∧ Below w.heap.size w w')
    (c7 : ∀ A c w, BR w A c ys → Calls Try.prog 17 #[.slice A ys.length c] w fun e w' => e = .returned (.bool false) ∧ Below w.heap.size w w') :
    Calls Try.prog 3 #[.agg #[.int .i64 x, .int .i64 y, .int .i64 n, .int .i64 d], .slice X xs.length C] w fun e w' => e = .returned (.bool true) ∧ Below w.heap.size w w' := by
  have hw := wakes9
  go_enter Try.func3, Try.ntmps3
  go_wp2_with fail
  refine (hw _).mono ?_
  rintro e w1 ⟨rfl, hb1⟩
  have f_s1 := kp hb1 (na w #[.int .i64 x, .int .i64 y, .int .i64 n, .int .i64 d] 23)
  have hB1 := bB (bA (b0 w) (.cells #[.int .i64 x, .int .i64 y, .int .i64 n, .int .i64 d] 23)) hb1
  obtain ⟨zs_a, zs_b, ls1⟩ := rcell f_s1
  go_wp2_with fail
  refine (c1 _ hB1).mono ?_
  rintro e wo ⟨A, c, rfl, hR, hbo⟩
  have hBo := bB hB1 hbo
  have f_so := kp hbo f_s1
  clear c1 hw hbo
  obtain ⟨zs_a, zs_b, ls2⟩ := rcell f_so
  go_wp2_with fail
  refine (c2 _ _ _ hR).mono ?_
  rintro e w3 ⟨rfl, hb3⟩
  have f_s3 := kp hb3 (f_so)
  have rd_b3 := hR.below hb3
  have hB3 := bB hBo hb3
  clear zs_a zs_b
  obtain ⟨zs_a, zs_b, ls3⟩ := rcell f_s3
  go_wp2_with fail
  refine (c3 _ _ _ (rd_b3.below (bA (b0 _) (.cells #[.int .i64 0, .int .i64 0, .int .i64 0, .int .i64 0] 23)))).mono ?_
  rintro e w4 ⟨rfl, hb4⟩
  have f_s4 := kp hb4 (ka (f_s3) (.cells #[.int .i64 0, .int .i64 0, .int .i64 0, .int .i64 0] 23))
  have f_f4 := kp hb4 (na w3 #[.int .i64 0, .int .i64 0, .int .i64 0, .int .i64 0] 23)
  have rd_b4 := (rd_b3.below (bA (b0 _) (.cells #[.int .i64 0, .int .i64 0, .int .i64 0, .int .i64 0] 23))).below hb4
  have hB4 := bB (bA hB3 (.cells #[.int .i64 0, .int .i64 0, .int .i64 0, .int .i64 0] 23)) hb4
  clear zs_a zs_b
  obtain ⟨zs_a, zs_b, ls4⟩ := rcell f_s4
  obtain ⟨zf_a, zf_b, lf4⟩ := rcell f_f4
  go_wp2_with fail
  refine Abs.wp_region_abs (Abs.cls0 _) [0, 1, 2, 3, 4, 5, 6, 7, 8, 9, 10] (by kernel_rfl) (by kernel_rfl) (Below.refl _ _).drew ?_
  repeat (first | (refine Abs.step_pure rfl rfl (fun K hK => ?_); go_simp; (try go_bits); (first | refine hK _ _ ?_ | (simp only [↓IntWalk.iteOmega]; go_simp; (try go_bits); refine hK _ _ ?_)); clear hK K) | (refine Abs.step_load (v := ?_) rfl rfl (by kernel_rfl) rfl (fun w0 hI => ?_) (fun K hK => ?_); rotate_left; (· have z0 := (rcell (kp hI (f_s4))).1; have z1 := (rcell (kp hI (f_f4))).1; go_simp; rfl); (simp only [Act.put, List.setIfInBounds_toArray, List.set_cons_zero, List.set_cons_succ]; refine hK _ _ ?_; clear hK K)) | (refine Abs.step_skip rfl rfl (fun K hK => ?_); (simp only [Act.put, List.setIfInBounds_toArray, List.set_cons_zero, List.set_cons_succ]; refine hK _ _ ?_; clear hK K)))
  (refine Abs.step_call_val (f := ?_) (args := ?_) (v := ?_) rfl rfl rfl rfl (fun w0 => ?_) (fun w0 hI => ?_) (fun K hK => ?_); rotate_left 3; (· go_simp; (constructor <;> rfl)); (· exact c4 _ _ _ (rd_b4.below hI)); (simp only [Act.put, List.setIfInBounds_toArray, List.set_cons_zero, List.set_cons_succ]; refine hK _ _ ?_; clear hK K))
  repeat (first | (refine Abs.step_pure rfl rfl (fun K hK => ?_); go_simp; (try go_bits); (first | refine hK _ _ ?_ | (simp only [↓IntWalk.iteOmega]; go_simp; (try go_bits); refine hK _ _ ?_)); clear hK K) | (refine Abs.step_load (v := ?_) rfl rfl (by kernel_rfl) rfl (fun w0 hI => ?_) (fun K hK => ?_); rotate_left; (· have z0 := (rcell (kp hI (f_s4))).1; have z1 := (rcell (kp hI (f_f4))).1; go_simp; rfl); (simp only [Act.put, List.setIfInBounds_toArray, List.set_cons_zero, List.set_cons_succ]; refine hK _ _ ?_; clear hK K)) | (refine Abs.step_skip rfl rfl (fun K hK => ?_); (simp only [Act.put, List.setIfInBounds_toArray, List.set_cons_zero, List.set_cons_succ]; refine hK _ _ ?_; clear hK K)))
  (refine Abs.step_call_val (f := ?_) (args := ?_) (v := ?_) rfl rfl rfl rfl (fun w0 => ?_) (fun w0 hI => ?_) (fun K hK => ?_); rotate_left 3; (· go_simp; (constructor <;> rfl)); (· exact c5 _); (simp only [Act.put, List.setIfInBounds_toArray, List.set_cons_zero, List.set_cons_succ]; refine hK _ _ ?_; clear hK K))
  repeat (first | (refine Abs.step_pure rfl rfl (fun K hK => ?_); go_simp; (try go_bits); (first | refine hK _ _ ?_ | (simp only [↓IntWalk.iteOmega]; go_simp; (try go_bits); refine hK _ _ ?_)); clear hK K) | (refine Abs.step_load (v := ?_) rfl rfl (by kernel_rfl) rfl (fun w0 hI => ?_) (fun K hK => ?_); rotate_left; (· have z0 := (rcell (kp hI (f_s4))).1; have z1 := (rcell (kp hI (f_f4))).1; go_simp; rfl); (simp only [Act.put, List.setIfInBounds_toArray, List.set_cons_zero, List.set_cons_succ]; refine hK _ _ ?_; clear hK K)) | (refine Abs.step_skip rfl rfl (fun K hK => ?_); (simp only [Act.put, List.setIfInBounds_toArray, List.set_cons_zero, List.set_cons_succ]; refine hK _ _ ?_; clear hK K)))
  (refine Abs.step_call_val (f := ?_) (args := ?_) (v := ?_) rfl rfl rfl rfl (fun w0 => ?_) (fun w0 hI => ?_) (fun K hK => ?_); rotate_left 3; (· go_simp; (constructor <;> rfl)); (· exact c6 _ _ _ (rd_b4.below hI)); (simp only [Act.put, List.setIfInBounds_toArray, List.set_cons_zero, List.set_cons_succ]; refine hK _ _ ?_; clear hK K))
  repeat (first | (refine Abs.step_pure rfl rfl (fun K hK => ?_); go_simp; (try go_bits); (first | refine hK _ _ ?_ | (simp only [↓IntWalk.iteOmega]; go_simp; (try go_bits); refine hK _ _ ?_)); clear hK K) | (refine Abs.step_load (v := ?_) rfl rfl (by kernel_rfl) rfl (fun w0 hI => ?_) (fun K hK => ?_); rotate_left; (· have z0 := (rcell (kp hI (f_s4))).1; have z1 := (rcell (kp hI (f_f4))).1; go_simp; rfl); (simp only [Act.put, List.setIfInBounds_toArray, List.set_cons_zero, List.set_cons_succ]; refine hK _ _ ?_; clear hK K)) | (refine Abs.step_skip rfl rfl (fun K hK => ?_); (simp only [Act.put, List.setIfInBounds_toArray, List.set_cons_zero, List.set_cons_succ]; refine hK _ _ ?_; clear hK K)))
  intro w6 hb6 hx0 hx1 hx2
  clear hx0 hx1 hx2
  simp only [Abs.T_setF, Abs.T_addA, Abs.T_push, Abs.T_start]
  have f_s6 := kp hb6 (f_s4)
  have f_f6 := kp hb6 (f_f4)
  have rd_b6 := rd_b4.below hb6
  have hB6 := bB hB4 hb6
  clear zf_a zf_b zs_a zs_b
  obtain ⟨zs_a, zs_b, ls6⟩ := rcell f_s6
  obtain ⟨zf_a, zf_b, lf6⟩ := rcell f_f6
  have hne : (E != E) = false := by cases E <;> rfl
  go_wp2_with fail
  refine (c7 _ _ _ rd_b6).mono ?_
  rintro e w7 ⟨rfl, hb7⟩
  have f_s7 := kp hb7 (f_s6)
  have f_f7 := kp hb7 (f_f6)
  have rd_b7 := rd_b6.below hb7
  have hB7 := bB hB6 hb7
  clear zf_a zf_b zs_a zs_b
  obtain ⟨zs_a, zs_b, ls7⟩ := rcell f_s7
  obtain ⟨zf_a, zf_b, lf7⟩ := rcell f_f7
  go_wp2
  go_ret
  exact ⟨rfl, hB7⟩

set_option maxRecDepth 100000 in
set_option maxHeartbeats 2000000 in
theorem lines_tt (x y n d : Int) (X : Option Addr) (C : Nat) (xs ys : List Bd) (E : Bool) (v N D : Int) (w : World)
    (c1 : ∀ w', Below w.heap.size w w' → Calls Try.prog 11 #[.slice X xs.length C] w' fun e w'' => ∃ A c, e = .returned (.slice A ys.length c) ∧ BR w'' A c ys ∧ Below w'.heap.size w' w'')
    (c2 : ∀ A c w, BR w A c ys → Calls Try.prog 12 #[.slice A ys.length c] w fun e w' => e = .returned (.tuple #[.agg #[.int .i64 v, .int .i64 0, .int .i64 N, .int .i64 D], .int .i64 0]) ∧ Below w.heap.size w w')
    (c3 : ∀ A c w, BR w A c ys → Calls Try.prog 13 #[.slice A ys.length c] w fun e w' => e = .returned (.bool true) ∧ Below w.heap.size w w')
    (c4 : ∀ A c w, BR w A c ys → Calls Try.prog 14 #[.agg #[.int .i64 x, .int .i64 y, .int .i64 n, .int .i64 d], .slice A ys.length c] w fun e w' => e = .returned (.bool E) ∧ Below w.heap.size w w')
    (c5 : ∀ w, Calls Try.prog 15 #[.agg #[.int .i64 x, .int .i64 y, .int .i64 n, .int .i64 d]] w fun e w' => e = .returned (.bool true) ∧ Below w.heap.size w w')
    (c6 : ∀ A c w, BR w A c ys → Calls Try.prog 16 #[.agg #[.int .i64 x, .int .i64 y, .int .i64 n, .int .i64 d], .slice A ys.length c] w fun e w' => e = .returned (.bool E) ∧ Below w.heap.size w w')
    (c7 : ∀ A c w, BR w A c ys → Calls Try.prog 17 #[.slice A ys.length c] w fun e w' => e = .returned (.bool true) ∧ Below w.heap.size w w')
    (c8 : ∀ A c w, BR w A c ys → Calls Try.prog 18 #[.slice A ys.length c] w fun e w' => e = .returned (.agg #[.int .i64 v, .int .i64 0, .int .i64 N, .int .i64 D]) ∧ Below w.heap.size w w') :
    Calls Try.prog 3 #[.agg #[.int .i64 x, .int .i64 y, .int .i64 n, .int .i64 d], .slice X xs.length C] w fun e w' => e = .returned (.bool true) ∧ Below w.heap.size w w' := by
  have hw := wakes9
  go_enter Try.func3, Try.ntmps3
  go_wp2_with fail
  refine (hw _).mono ?_
  rintro e w1 ⟨rfl, hb1⟩
  have f_s1 := kp hb1 (na w #[.int .i64 x, .int .i64 y, .int .i64 n, .int .i64 d] 23)
  have hB1 := bB (bA (b0 w) (.cells #[.int .i64 x, .int .i64 y, .int .i64 n, .int .i64 d] 23)) hb1
  obtain ⟨zs_a, zs_b, ls1⟩ := rcell f_s1
  go_wp2_with fail
  refine (c1 _ hB1).mono ?_
  rintro e wo ⟨A, c, rfl, hR, hbo⟩
  have hBo := bB hB1 hbo
  have f_so := kp hbo f_s1
  clear c1 hw hbo
  obtain ⟨zs_a, zs_b, ls2⟩ := rcell f_so
  go_wp2_with fail
  refine (c2 _ _ _ hR).mono ?_
  rintro e w3 ⟨rfl, hb3⟩
  have f_s3 := kp hb3 (f_so)
  have rd_b3 := hR.below hb3
  have hB3 := bB hBo hb3
  clear zs_a zs_b
  obtain ⟨zs_a, zs_b, ls3⟩ := rcell f_s3
  go_wp2_with fail
  refine (c3 _ _ _ (rd_b3.below (bA (b0 _) (.cells #[.int .i64 v, .int .i64 0, .int .i64 N, .int .i64 D] 23)))).mono ?_
  rintro e w4 ⟨rfl, hb4⟩
  have f_s4 := kp hb4 (ka (f_s3) (.cells #[.int .i64 v, .int .i64 0, .int .i64 N, .int .i64 D] 23))
  have f_f4 := kp hb4 (na w3 #[.int .i64 v, .int .i64 0, .int .i64 N, .int .i64 D] 23)
  have rd_b4 := (rd_b3.below (bA (b0 _) (.cells #[.int .i64 v, .int .i64 0, .int .i64 N, .int .i64 D] 23))).below hb4
  have hB4 := bB (bA hB3 (.cells #[.int .i64 v, .int .i64 0, .int .i64 N, .int .i64 D] 23)) hb4
  clear zs_a zs_b
  obtain ⟨zs_a, zs_b, ls4⟩ := rcell f_s4
  obtain ⟨zf_a, zf_b, lf4⟩ := rcell f_f4
  go_wp2_with fail
  refine Abs.wp_region_abs (Abs.cls0 _) [0, 1, 2, 3, 4, 5, 6, 7, 8, 9, 10] (by kernel_rfl) (by kernel_rfl) (Below.refl _ _).drew ?_
  repeat (first | (refine Abs.step_pure rfl rfl (fun K hK => ?_); go_simp; (try go_bits); (first | refine hK _ _ ?_ | (simp only [↓IntWalk.iteOmega]; go_simp; (try go_bits); refine hK _ _ ?_)); clear hK K) | (refine Abs.step_load (v := ?_) rfl rfl (by kernel_rfl) rfl (fun w0 hI => ?_) (fun K hK => ?_); rotate_left; (· have z0 := (rcell (kp hI (f_s4))).1; have z1 := (rcell (kp hI (f_f4))).1; go_simp; rfl); (simp only [Act.put, List.setIfInBounds_toArray, List.set_cons_zero, List.set_cons_succ]; refine hK _ _ ?_; clear hK K)) | (refine Abs.step_skip rfl rfl (fun K hK => ?_); (simp only [Act.put, List.setIfInBounds_toArray, List.set_cons_zero, List.set_cons_succ]; refine hK _ _ ?_; clear hK K)))
  (refine Abs.step_call_val (f := ?_) (args := ?_) (v := ?_) rfl rfl rfl rfl (fun w0 => ?_) (fun w0 hI => ?_) (fun K hK => ?_); rotate_left 3; (· go_simp; (constructor <;> rfl)); (· exact c4 _ _ _ (rd_b4.below hI)); (simp only [Act.put, List.setIfInBounds_toArray, List.set_cons_zero, List.set_cons_succ]; refine hK _ _ ?_; clear hK K))
  repeat (first | (refine Abs.step_pure rfl rfl (fun K hK => ?_); go_simp; (try go_bits); (first | refine hK _ _ ?_ | (simp only [↓IntWalk.iteOmega]; go_simp; (try go_bits); refine hK _ _ ?_)); clear hK K) | (refine Abs.step_load (v := ?_) rfl rfl (by kernel_rfl) rfl (fun w0 hI => ?_) (fun K hK => ?_); rotate_left; (· have z0 := (rcell (kp hI (f_s4))).1; have z1 := (rcell (kp hI (f_f4))).1; go_simp; rfl); (simp only [Act.put, List.setIfInBounds_toArray, List.set_cons_zero, List.set_cons_succ]; refine hK _ _ ?_; clear hK K)) | (refine Abs.step_skip rfl rfl (fun K hK => ?_); (simp only [Act.put, List.setIfInBounds_toArray, List.set_cons_zero, List.set_cons_succ]; refine hK _ _ ?_; clear hK K)))
  (refine Abs.step_call_val (f := ?_) (args := ?_) (v := ?_) rfl rfl rfl rfl (fun w0 => ?_) (fun w0 hI => ?_) (fun K hK => ?_); rotate_left 3; (· go_simp; (constructor <;> rfl)); (· exact c5 _); (simp only [Act.put, List.setIfInBounds_toArray, List.set_cons_zero, List.set_cons_succ]; refine hK _ _ ?_; clear hK K))
  repeat (first | (refine Abs.step_pure rfl rfl (fun K hK => ?_); go_simp; (try go_bits); (first | refine hK _ _ ?_ | (simp only [↓IntWalk.iteOmega]; go_simp; (try go_bits); refine hK _ _ ?_)); clear hK K) | (refine Abs.step_load (v := ?_) rfl rfl (by kernel_rfl) rfl (fun w0 hI => ?_) (fun K hK => ?_); rotate_left; (· have z0 := (rcell (kp hI (f_s4))).1; have z1 := (rcell (kp hI (f_f4))).1; go_simp; rfl); (simp only [Act.put, List.setIfInBounds_toArray, List.set_cons_zero, List.set_cons_succ]; refine hK _ _ ?_; clear hK K)) | (refine Abs.step_skip rfl rfl (fun K hK => ?_); (simp only [Act.put, List.setIfInBounds_toArray, List.set_cons_zero, List.set_cons_succ]; refine hK _ _ ?_; clear hK K)))
  (refine Abs.step_call_val (f := ?_) (args := ?_) (v := ?_) rfl rfl rfl rfl (fun w0 => ?_) (fun w0 hI => ?_) (fun K hK => ?_); rotate_left 3; (· go_simp; (constructor <;> rfl)); (· exact c6 _ _ _ (rd_b4.below hI)); (simp only [Act.put, List.setIfInBounds_toArray, List.set_cons_zero, List.set_cons_succ]; refine hK _ _ ?_; clear hK K))
  repeat (first | (refine Abs.step_pure rfl rfl (fun K hK => ?_); go_simp; (try go_bits); (first | refine hK _ _ ?_ | (simp only [↓IntWalk.iteOmega]; go_simp; (try go_bits); refine hK _ _ ?_)); clear hK K) | (refine Abs.step_load (v := ?_) rfl rfl (by kernel_rfl) rfl (fun w0 hI => ?_) (fun K hK => ?_); rotate_left; (· have z0 := (rcell (kp hI (f_s4))).1; have z1 := (rcell (kp hI (f_f4))).1; go_simp; rfl); (simp only [Act.put, List.setIfInBounds_toArray, List.set_cons_zero, List.set_cons_succ]; refine hK _ _ ?_; clear hK K)) | (refine Abs.step_skip rfl rfl (fun K hK => ?_); (simp only [Act.put, List.setIfInBounds_toArray, List.set_cons_zero, List.set_cons_succ]; refine hK _ _ ?_; clear hK K)))
  intro w6 hb6 hx0 hx1 hx2
  clear hx0 hx1 hx2
  simp only [Abs.T_setF, Abs.T_addA, Abs.T_push, Abs.T_start]
  have f_s6 := kp hb6 (f_s4)
  have f_f6 := kp hb6 (f_f4)
  have rd_b6 := rd_b4.below hb6
  have hB6 := bB hB4 hb6
  clear zf_a zf_b zs_a zs_b
  obtain ⟨zs_a, zs_b, ls6⟩ := rcell f_s6
  obtain ⟨zf_a, zf_b, lf6⟩ := rcell f_f6
  have hne : (E != E) = false := by cases E <;> rfl
  go_wp2_with fail
  refine (c7 _ _ _ rd_b6).mono ?_
  rintro e w7 ⟨rfl, hb7⟩
  have f_s7 := kp hb7 (f_s6)
  have f_f7 := kp hb7 (f_f6)
  have rd_b7 := rd_b6.below hb7
  have hB7 := bB hB6 hb7
  clear zf_a zf_b zs_a zs_b
  obtain ⟨zs_a, zs_b, ls7⟩ := rcell f_s7
  obtain ⟨zf_a, zf_b, lf7⟩ := rcell f_f7
  go_wp2_with fail
  refine Abs.wp_region_abs (Abs.cls0 _) [0, 1, 2, 3, 4, 5, 6, 7, 8] (by kernel_rfl) (by kernel_rfl) (Below.refl _ _).drew ?_
  repeat (first | (refine Abs.step_pure rfl rfl (fun K hK => ?_); go_simp; (try go_bits); (first | refine hK _ _ ?_ | (simp only [↓IntWalk.iteOmega]; go_simp; (try go_bits); refine hK _ _ ?_)); clear hK K) | (refine Abs.step_load (v := ?_) rfl rfl (by kernel_rfl) rfl (fun w0 hI => ?_) (fun K hK => ?_); rotate_left; (· have z0 := (rcell (kp hI (f_f7))).1; go_simp; rfl); (simp only [Act.put, List.setIfInBounds_toArray, List.set_cons_zero, List.set_cons_succ]; refine hK _ _ ?_; clear hK K)) | (refine Abs.step_skip rfl rfl (fun K hK => ?_); (simp only [Act.put, List.setIfInBounds_toArray, List.set_cons_zero, List.set_cons_succ]; refine hK _ _ ?_; clear hK K)))
  (refine Abs.step_call_val (f := ?_) (args := ?_) (v := ?_) rfl rfl rfl rfl (fun w0 => ?_) (fun w0 hI => ?_) (fun K hK => ?_); rotate_left 3; (· go_simp; (constructor <;> rfl)); (· exact c8 _ _ _ (rd_b7.below hI)); (simp only [Act.put, List.setIfInBounds_toArray, List.set_cons_zero, List.set_cons_succ]; refine hK _ _ ?_; clear hK K))
  repeat (first | (refine Abs.step_pure rfl rfl (fun K hK => ?_); go_simp; (try go_bits); (first | refine hK _ _ ?_ | (simp only [↓IntWalk.iteOmega]; go_simp; (try go_bits); refine hK _ _ ?_)); clear hK K) | (refine Abs.step_load (v := ?_) rfl rfl (by kernel_rfl) rfl (fun w0 hI => ?_) (fun K hK => ?_); rotate_left; (· have z0 := (rcell (kp hI (f_f7))).1; go_simp; rfl); (simp only [Act.put, List.setIfInBounds_toArray, List.set_cons_zero, List.set_cons_succ]; refine hK _ _ ?_; clear hK K)) | (refine Abs.step_skip rfl rfl (fun K hK => ?_); (simp only [Act.put, List.setIfInBounds_toArray, List.set_cons_zero, List.set_cons_succ]; refine hK _ _ ?_; clear hK K)))
  intro w9 hb9 hx0 hx1 hx2
  clear hx0 hx1 hx2
  simp only [Abs.T_setF, Abs.T_addA, Abs.T_push, Abs.T_start]
  have f_s9 := kp hb9 (f_s7)
  have f_f9 := kp hb9 (f_f7)
  have rd_b9 := rd_b7.below hb9
  have hB9 := bB hB7 hb9
  clear zf_a zf_b zs_a zs_b
  obtain ⟨zs_a, zs_b, ls9⟩ := rcell f_s9
  obtain ⟨zf_a, zf_b, lf9⟩ := rcell f_f9
  go_wp2
  go_ret
  exact ⟨rfl, hB9⟩

theorem thr_isB {x y n d t0 : Int} {l : List Bd} (h0 : 0 < l.length) (h : isB x y n d = false) : thrB x y n d t0 l = false := by
  cases e : thrB x y n d t0 l with
  | false => rfl
  | true =>
    have := thrB_el e 0 h0
    unfold winB at this
    rw [decide_eq_true_iff, h] at this
    cases this.1

theorem swing_lines (x y n d : Int) (X : Option Addr) (C : Nat) (xs : List Bd) (hn : xs.length ≤ C) (w : World) (hX : InB w X xs) :
    Calls Try.prog 3 #[.agg #[.int .i64 x, .int .i64 y, .int .i64 n, .int .i64 d], .slice X xs.length C] w fun e w' => e = .returned (.bool true) ∧ Below w.heap.size w w' := by
  have c1 := fun w' (hb : Below w.heap.size w w') => law9_own X C 260 xs rfl hn w' (hX.below hb)
  generalize xs.take 260 = ys at *
  have c3 := fun A c w hR => ref8_Right A c ys w hR
  cases h : okB ys
  · rw [h] at c3
    exact lines_1 x y n d X C xs ys w c1 (fun A c w hR => swing_Fit_no A c ys h w hR) c3 (fun A c w hR => swing_Through_no x y n d A c ys h w hR)
  · rw [h] at c3
    obtain ⟨k0, k1, k2⟩ := okB_spec h
    have c5 := ref_Right x y n d
    have c7 := fun A c w hR => ref9_Swing A c ys h w hR
    have c4 := fun E hE A c w hR => swing_Through_yes x y n d A c ys h E hE w hR
    rw [bd_head k0] at c4
    cases ib : isB x y n d
    · rw [ib] at c5
      have c4' := c4 false (hide (thr_isB k0 ib))
      cases ho : drOpen (dk ys ys.length)
      · rw [ho] at c7
        exact lines_ff x y n d X C xs ys true w c1 (fun A c w hR => swing_Fit_shut A c ys h ho w hR) c3 c4' c5 c7
      · rw [ho] at c7
        have c2 := fun A c w hR => swing_Fit_yes A c ys h ho w hR
        rw [(dr_inv h ys.length (by omega) (Nat.le_refl _)).v] at c2
        exact lines_ft x y n d X C xs ys true _ _ _ w c1 c2 c3 c4' c5 c7 (fun A c w hR => ref9_Fit A c ys h w hR)
    · rw [ib] at c5
      cases ho : drOpen (dk ys ys.length)
      · rw [ho] at c7
        exact lines_tf x y n d X C xs ys _ w c1 (fun A c w hR => swing_Fit_shut A c ys h ho w hR) c3 (c4 _ (hide rfl)) c5 (fun A c w hR => ref9_Through x y n d ib A c ys h _ (hide rfl) w hR) c7
      · rw [ho] at c7
        have c2 := fun A c w hR => swing_Fit_yes A c ys h ho w hR
        rw [(dr_inv h ys.length (by omega) (Nat.le_refl _)).v] at c2
        exact lines_tt x y n d X C xs ys _ _ _ _ w c1 c2 c3 (c4 _ (hide rfl)) c5 (fun A c w hR => ref9_Through x y n d ib A c ys h _ (hide rfl) w hR) c7 (fun A c w hR => ref9_Fit A c ys h w hR)
end Go.Proofs.Ytfdaabdibpcjeaa
