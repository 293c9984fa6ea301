/- The walk of SlideAny (yearbooklaw10). -/
import Derived.Test.YtpimkigbdjfjoaaDoorPiece
set_option linter.unusedSimpArgs false
set_option linter.unusedVariables false
namespace Go.Proofs.YtpimkigbdjfjoaaDoor
open Go.RowKit
variable {ta : TypeId}
attribute [local go_sem] Oper.semAt_some

theorem rayB_pair {A R N D t0 : Int} {l : List Bd} (h : rayB A R N D t0 l = true) (i j : Nat) (hi : i < l.length) (hj : j < l.length) : (bd l i).lo * D - N * (bd l i).t ≤ (bd l j).hi * D - N * (bd l j).t := by
  unfold rayB at h
  rw [List.all_eq_true] at h
  have h1 := of_decide_eq_true (h _ (bd_mem hi))
  have h2 := of_decide_eq_true (h _ (bd_mem hj))
  rw [Int.mul_sub] at h1 h2
  omega
theorem any_sl {l : List Bd} (h : okB l = true) {A R N D t0 : Int} (hD : 1 ≤ D) (hr : rayB A R N D t0 l = true) (h2 : 2 ≤ l.length) : (sk l l.length).1.le ⟨N, D⟩ ∧ Sl.le ⟨N, D⟩ (sk l l.length).2 := by
  obtain ⟨k0, k1, k2⟩ := okB_spec h
  have hp := rayB_pair hr
  have hs := sk_inv k2 l.length (Nat.le_refl _)
  obtain ⟨q1, q2⟩ := pair_sk k2 (Nat.le_refl _) (N := N) (D := D) (by omega) (.inr h2) hp
  have x1 := lo2_is k2 (i := 0) (j := 1) (by omega) (by omega)
  have x2 := hi2_is k2 (i := 0) (j := 1) (by omega) (by omega)
  constructor
  · rcases q1 with e | q1
    · have e1 : (sk l l.length).1.le (lo2 (bd l 0) (bd l 1)) := by rw [e]; exact (all_le x1).1
      have e2 : (lo2 (bd l 0) (bd l 1)).le ⟨N, D⟩ := by
        have := hp 1 0 (by omega) (by omega)
        show ((bd l 1).lo - (bd l 0).hi) * D ≤ N * ((bd l 1).t - (bd l 0).t)
        rw [Int.mul_sub, Int.sub_mul]
        omega
      exact frac_trans (slIs_pos hs.v1) (slIs_pos x1) (show 0 < D by omega) e1 e2
    · exact q1
  · rcases q2 with e | q2
    · have e1 : (hi2 (bd l 0) (bd l 1)).le (sk l l.length).2 := by rw [e]; exact (all_le x2).2
      have e2 : Sl.le ⟨N, D⟩ (hi2 (bd l 0) (bd l 1)) := by
        have := hp 0 1 (by omega) (by omega)
        show N * ((bd l 1).t - (bd l 0).t) ≤ ((bd l 1).hi - (bd l 0).lo) * D
        rw [Int.mul_sub, Int.sub_mul]
        omega
      exact frac_trans (show 0 < D by omega) (slIs_pos x2) (slIs_pos hs.v2) e2 e1
    · exact q2
theorem any_low {l : List Bd} (h : okB l = true) {A R N D t0 : Int} (hD : 1 ≤ D) (hr : rayB A R N D t0 l = true) (h2 : 2 ≤ l.length) :
    lwN (sk l l.length).1.n (sk l l.length).1.d * D ≤ N * lwD (sk l l.length).1.n (sk l l.length).1.d ∧ N * lwD (sk l l.length).2.n (sk l l.length).2.d ≤ lwN (sk l l.length).2.n (sk l l.length).2.d * D := by
  have hs := sk_inv (okB_spec h).2.2 l.length (Nat.le_refl _)
  obtain ⟨q1, q2⟩ := any_sl h hD hr h2
  have p1 := slIs_pos hs.v1
  have p2 := slIs_pos hs.v2
  have l1 := slB_spec (low_low hs.v1).1
  have l2 := slB_spec (low_low hs.v2).1
  have e1 := low_cross (N := (sk l l.length).1.n) (D := (sk l l.length).1.d) (by omega)
  have e2 := low_cross (N := (sk l l.length).2.n) (D := (sk l l.length).2.d) (by omega)
  exact ⟨frac_trans (by omega) p1 (by omega) (Int.le_of_eq e1.symm) q1, frac_trans (show 0 < D by omega) p2 (by omega) q2 (Int.le_of_eq e2)⟩
theorem any_flat {l : List Bd} (h : okB l = true) {A R N D t0 : Int} (hD : 1 ≤ D) (hr : rayB A R N D t0 l = true) :
    (0 < (fS l).n → (fS l).n * D ≤ N * (fS l).d) ∧ ((fS l).n < 0 → N * (fS l).d ≤ (fS l).n * D) := by
  by_cases h1 : l.length = 1
  · have e : fS l = ⟨0, 1⟩ := by unfold fS; rw [h1]; rfl
    rw [e]
    exact ⟨fun h => absurd h (by decide), fun h => absurd h (by decide)⟩
  · have h2 : 2 ≤ l.length := by have := (okB_spec h).1; omega
    obtain ⟨q1, q2⟩ := any_low h hD hr h2
    unfold fS nrS nrN nrD
    dsimp only
    by_cases c1 : 0 < (sk l l.length).1.n
    · simp only [if_pos c1]
      refine ⟨fun _ => q1, fun hlt => ?_⟩
      have hs := sk_inv (okB_spec h).2.2 l.length (Nat.le_refl _)
      have p1 := slIs_pos hs.v1
      have l1 := slB_spec (low_low hs.v1).1
      have e1 := low_cross (N := (sk l l.length).1.n) (D := (sk l l.length).1.d) (by omega)
      have := Int.mul_pos c1 (show 0 < lwD (sk l l.length).1.n (sk l l.length).1.d by omega)
      have := Int.mul_neg_of_neg_of_pos hlt p1
      omega
    · simp only [if_neg c1]
      by_cases c2 : (sk l l.length).2.n < 0
      · simp only [if_pos c2]
        refine ⟨fun hlt => ?_, fun _ => q2⟩
        have hs := sk_inv (okB_spec h).2.2 l.length (Nat.le_refl _)
        have p1 := slIs_pos hs.v2
        have l1 := slB_spec (low_low hs.v2).1
        have e1 := low_cross (N := (sk l l.length).2.n) (D := (sk l l.length).2.d) (by omega)
        have := Int.mul_neg_of_neg_of_pos c2 (show 0 < lwD (sk l l.length).2.n (sk l l.length).2.d by omega)
        have := Int.mul_pos hlt p1
        omega
      · simp only [if_neg c2]
        exact ⟨fun h => absurd h (by decide), fun h => absurd h (by decide)⟩

set_option maxRecDepth 100000 in
set_option maxHeartbeats 2000000 in
theorem ray_flatter (A R N D n d : Int) (rN : i64B N) (rD : i64B D) (hs : slB n d = true) (h1 : 0 < n → n * D ≤ N * d) (h2 : n < 0 → N * d ≤ n * D) (w : World) :
    Calls Tryd.prog 29 #[.agg #[.int .i64 A, .int .i64 R, .int .i64 N, .int .i64 D], .agg #[.int .i64 n, .int .i64 d]] w fun e w' => e = .returned (.bool false) ∧ Below w.heap.size w w' := by
  have hd := slB_spec hs
  obtain ⟨n1, n2⟩ := rN
  obtain ⟨d1, d2⟩ := rD
  have c1 := wide_Mul N d (by omega) (by omega) (by omega) (by omega)
  have c2 := wide_Mul n D (by omega) (by omega) (by omega) (by omega)
  have m1 := mul_bd2 (a := N) (b := d) (A := 9223372036854775808) (B := 281474976710656) (by omega) (by omega) (by omega) (by omega) (by omega) (by omega)
  have m2 := mul_bd2 (a := n) (b := D) (A := 4611688217450643456) (B := 9223372036854775808) (by omega) (by omega) (by omega) (by omega) (by omega) (by omega)
  have c3 := wide_Compare (N * d) (n * D) (rng_of (by omega) (by omega)) (rng_of (by omega) (by omega))
  have x1 : 0 < n → decide (cmpI (N * d) (n * D) < 0) = false := fun h => by rw [cmp_neg]; exact decide_eq_false (by have := h1 h; omega)
  have x2 : n < 0 → decide (0 < cmpI (N * d) (n * D)) = false := fun h => by rw [cmp_pos]; exact decide_eq_false (by have := h2 h; omega)
  clear h1 h2 m1 m2
  generalize N * d = P at *
  generalize n * D = Q at *
  generalize cmpI P Q = u at *
  go_enter Tryd.func29, Tryd.ntmps29
  go_wp2_with fail
  have f_y1 := (ka (na w #[.int .i64 A, .int .i64 R, .int .i64 N, .int .i64 D] 52) (.cells #[.int .i64 n, .int .i64 d] 26))
  have f_s1 := (na1 w (.cells #[.int .i64 A, .int .i64 R, .int .i64 N, .int .i64 D] 52) #[.int .i64 n, .int .i64 d] 26)
  have hB1 := (bA (bA (b0 w) (.cells #[.int .i64 A, .int .i64 R, .int .i64 N, .int .i64 D] 52)) (.cells #[.int .i64 n, .int .i64 d] 26))
  have ly1 := (rcell f_y1).2.2
  have ls1 := (rcell f_s1).2.2
  refine Abs.wp_region_abs (Abs.cls0 _) [0, 1, 2, 3, 4, 5, 6, 7, 8, 9, 10, 11, 12, 13] (by kernel_rfl) (by kernel_rfl) (Below.refl _ _).drew ?_
  repeat (first | (refine Abs.step_pure rfl rfl (fun K hK => ?_); go_simp; (try go_bits); (first | refine hK _ _ ?_ | (simp only [↓IntWalk.iteOmega]; go_simp; (try go_bits); refine hK _ _ ?_)); clear hK K) | (refine Abs.step_load (v := ?_) rfl rfl (by kernel_rfl) rfl (fun w0 hI => ?_) (fun K hK => ?_); rotate_left; (· have z0 := (rcell (kp hI (f_y1))).1; have z1 := (rcell (kp hI (f_s1))).1; go_simp; rfl); (simp only [Act.put, List.setIfInBounds_toArray, List.set_cons_zero, List.set_cons_succ]; refine hK _ _ ?_; clear hK K)) | (refine Abs.step_skip rfl rfl (fun K hK => ?_); (simp only [Act.put, List.setIfInBounds_toArray, List.set_cons_zero, List.set_cons_succ]; refine hK _ _ ?_; clear hK K)))
  (refine Abs.step_call_val (f := ?_) (args := ?_) (v := ?_) rfl rfl rfl rfl (fun w0 => ?_) (fun w0 hI => ?_) (fun K hK => ?_); rotate_left 3; (· go_simp; (constructor <;> rfl)); (· exact c1 _); (simp only [Act.put, List.setIfInBounds_toArray, List.set_cons_zero, List.set_cons_succ]; refine hK _ _ ?_; clear hK K))
  repeat (first | (refine Abs.step_pure rfl rfl (fun K hK => ?_); go_simp; (try go_bits); (first | refine hK _ _ ?_ | (simp only [↓IntWalk.iteOmega]; go_simp; (try go_bits); refine hK _ _ ?_)); clear hK K) | (refine Abs.step_load (v := ?_) rfl rfl (by kernel_rfl) rfl (fun w0 hI => ?_) (fun K hK => ?_); rotate_left; (· have z0 := (rcell (kp hI (f_y1))).1; have z1 := (rcell (kp hI (f_s1))).1; go_simp; rfl); (simp only [Act.put, List.setIfInBounds_toArray, List.set_cons_zero, List.set_cons_succ]; refine hK _ _ ?_; clear hK K)) | (refine Abs.step_skip rfl rfl (fun K hK => ?_); (simp only [Act.put, List.setIfInBounds_toArray, List.set_cons_zero, List.set_cons_succ]; refine hK _ _ ?_; clear hK K)))
  (refine Abs.step_call_val (f := ?_) (args := ?_) (v := ?_) rfl rfl rfl rfl (fun w0 => ?_) (fun w0 hI => ?_) (fun K hK => ?_); rotate_left 3; (· go_simp; (constructor <;> rfl)); (· exact c2 _); (simp only [Act.put, List.setIfInBounds_toArray, List.set_cons_zero, List.set_cons_succ]; refine hK _ _ ?_; clear hK K))
  repeat (first | (refine Abs.step_pure rfl rfl (fun K hK => ?_); go_simp; (try go_bits); (first | refine hK _ _ ?_ | (simp only [↓IntWalk.iteOmega]; go_simp; (try go_bits); refine hK _ _ ?_)); clear hK K) | (refine Abs.step_load (v := ?_) rfl rfl (by kernel_rfl) rfl (fun w0 hI => ?_) (fun K hK => ?_); rotate_left; (· have z0 := (rcell (kp hI (f_y1))).1; have z1 := (rcell (kp hI (f_s1))).1; go_simp; rfl); (simp only [Act.put, List.setIfInBounds_toArray, List.set_cons_zero, List.set_cons_succ]; refine hK _ _ ?_; clear hK K)) | (refine Abs.step_skip rfl rfl (fun K hK => ?_); (simp only [Act.put, List.setIfInBounds_toArray, List.set_cons_zero, List.set_cons_succ]; refine hK _ _ ?_; clear hK K)))
  (refine Abs.step_var (obj := ?_) rfl rfl rfl rfl (fun w0 => ?_) (fun K hK g_p hv_p hu_p => ?_); rotate_left; (· go_simp; rfl); (simp only [Act.put, List.setIfInBounds_toArray, List.set_cons_zero, List.set_cons_succ]; refine hK _ _ ?_; clear hK K))
  (refine Abs.step_var (obj := ?_) rfl rfl rfl rfl (fun w0 => ?_) (fun K hK g_q hv_q hu_q => ?_); rotate_left; (· go_simp; rfl); (simp only [Act.put, List.setIfInBounds_toArray, List.set_cons_zero, List.set_cons_succ]; refine hK _ _ ?_; clear hK K))
  (refine Abs.step_store (T := ?_) rfl rfl rfl (fun w0 hI hF hU => ?_) (fun _ _ _ _ => trivial) (fun K hK => ?_); rotate_left; (· have hR := (hF 10).1.2 rfl; have hg0 := (rcell hR).1; have hg1 := (rcell hR).2.1; simp only [Abs.T_setF, Abs.T_addA, Abs.T_push, Abs.T_start]; go_simp; exact row2 hR _ _); (simp only [Act.put, List.setIfInBounds_toArray, List.set_cons_zero, List.set_cons_succ]; refine hK _ _ ?_; clear hK K))
  (refine Abs.step_store (T := ?_) rfl rfl rfl (fun w0 hI hF hU => ?_) (fun _ _ _ _ => trivial) (fun K hK => ?_); rotate_left; (· have hR := fun cs => (setRow_other (w := w0) (g := g_p) cs (fun e => hu_q (Or.inl e))).trans ((hF 11).2 rfl); have hg0 := fun cs => (rcell (hR cs)).1; have hg1 := fun cs => (rcell (hR cs)).2.1; simp only [Abs.T_setF, Abs.T_addA, Abs.T_push, Abs.T_start]; go_simp; exact row2 (hR _) _ _); (simp only [Act.put, List.setIfInBounds_toArray, List.set_cons_zero, List.set_cons_succ]; refine hK _ _ ?_; clear hK K))
  have hs_p := leB hv_p
  try simp only [World.size_alloc] at hs_p
  have hs_q := leB hv_q
  try simp only [World.size_alloc] at hs_q
  have hn : g_q ≠ g_p := fun e => hu_q (Or.inl e)
  intro w0 hI hF hx1 hx2
  clear hx1 hx2
  have q1 := (hF 10).1.2 rfl
  have q2 := (hF 11).2 rfl
  clear hF
  simp only [Abs.T_push]
  generalize hTa : setRow w0 _ _ = wa
  have ea := (fin_x (b0 _) q1 hTa).1
  obtain ⟨ba, fa⟩ := fin1 hI hv_p q1 hTa
  have q3 : wa.heap[g_q]? = w0.heap[g_q]? := by rw [← hTa]; exact setRow_other _ hn
  replace q2 := q3.trans q2
  clear q3
  generalize hTb : setRow wa _ _ = w2
  have eb := (fin_x (b0 _) q2 hTb).1
  obtain ⟨hb2, f_q2⟩ := fin1 ba hv_q q2 hTb
  have q4 : w2.heap[g_p]? = wa.heap[g_p]? := by rw [← hTb]; exact setRow_other _ hn.symm
  have f_p2 := q4.trans fa
  clear q4
  clear hTa hTb ea eb q1 q2 fa ba hI w0
  have f_y2 := kp hb2 (f_y1)
  have f_s2 := kp hb2 (f_s1)
  have hB2 := bB hB1 hb2
  obtain ⟨zy_a, zy_b, ly2⟩ := rcell f_y2
  obtain ⟨zs_a, zs_b, ls2⟩ := rcell f_s2
  obtain ⟨zp_a, zp_b, lp2⟩ := rcell f_p2
  obtain ⟨zq_a, zq_b, lq2⟩ := rcell f_q2
  by_cases y1 : 0 < n
  · have y2 : ¬ n < 0 := by omega
    have z := x1 y1
    clear x1 x2
    go_wp2_with fail
    refine (c3 _).mono ?_
    rintro e w3 ⟨rfl, hb3⟩
    have f_y3 := kp hb3 (f_y2)
    have f_s3 := kp hb3 (f_s2)
    have f_p3 := kp hb3 (f_p2)
    have f_q3 := kp hb3 (f_q2)
    have hB3 := bB hB2 hb3
    clear zp_a zp_b zq_a zq_b zs_a zs_b zy_a zy_b
    obtain ⟨zy_a, zy_b, ly3⟩ := rcell f_y3
    obtain ⟨zs_a, zs_b, ls3⟩ := rcell f_s3
    obtain ⟨zp_a, zp_b, lp3⟩ := rcell f_p3
    obtain ⟨zq_a, zq_b, lq3⟩ := rcell f_q3
    go_wp2
    go_ret
    exact ⟨rfl, hB3⟩
  · by_cases y2 : n < 0
    · have z := x2 y2
      clear x1 x2
      go_wp2_with fail
      refine (c3 _).mono ?_
      rintro e w3 ⟨rfl, hb3⟩
      have f_y3 := kp hb3 (f_y2)
      have f_s3 := kp hb3 (f_s2)
      have f_p3 := kp hb3 (f_p2)
      have f_q3 := kp hb3 (f_q2)
      have hB3 := bB hB2 hb3
      clear zp_a zp_b zq_a zq_b zs_a zs_b zy_a zy_b
      obtain ⟨zy_a, zy_b, ly3⟩ := rcell f_y3
      obtain ⟨zs_a, zs_b, ls3⟩ := rcell f_s3
      obtain ⟨zp_a, zp_b, lp3⟩ := rcell f_p3
      obtain ⟨zq_a, zq_b, lq3⟩ := rcell f_q3
      go_wp2
      go_ret
      exact ⟨rfl, hB3⟩
    · clear x1 x2
      go_wp2
      go_ret
      exact ⟨rfl, hB2⟩

set_option maxRecDepth 100000 in
set_option maxHeartbeats 2000000 in
theorem any_1 (A R N D : Int) (X : Option Addr) (C : Nat) (xs ys : List Bd) (w : World) (hall : w.heap[0]? = some (.cells all4 ta (0, 0)))
    (c1 : ∀ w', Below w.heap.size w w' → Calls Tryd.prog 12 #[.slice X xs.length C, .int .i64 256] w' fun e w'' => ∃ A c, e = .returned (.slice A ys.length c) ∧ BR w'' A c ys ∧ Below w'.heap.size w' w'')
    (c2 : ∀ A c w, BR w A c ys → Calls Tryd.prog 27 #[.slice A ys.length c] w fun e w' => e = .returned (.int .i64 180) ∧ Below w.heap.size w w') :
    Calls Tryd.prog 6 #[.slice X xs.length C, .agg #[.int .i64 A, .int .i64 R, .int .i64 N, .int .i64 D]] w fun e w' => e = .returned (.bool true) ∧ Below w.heap.size w w' := by
  have hw := fun w (ha : w.heap[0]? = some (.cells all4 ta (0, 0))) => wakesA w ha
  go_enter Tryd.func6, Tryd.ntmps6
  obtain ⟨za_a, za_b, la0⟩ := rcell hall
  go_wp2_with fail
  refine (hw _ (ka (hall) (.cells #[.int .i64 A, .int .i64 R, .int .i64 N, .int .i64 D] 52))).mono ?_
  rintro e w1 ⟨rfl, hb1⟩
  have f_a1 := kp hb1 (ka (hall) (.cells #[.int .i64 A, .int .i64 R, .int .i64 N, .int .i64 D] 52))
  have f_y1 := kp hb1 (na w #[.int .i64 A, .int .i64 R, .int .i64 N, .int .i64 D] 52)
  have hB1 := bB (bA (b0 w) (.cells #[.int .i64 A, .int .i64 R, .int .i64 N, .int .i64 D] 52)) hb1
  clear za_a za_b
  obtain ⟨za_a, za_b, la1⟩ := rcell f_a1
  obtain ⟨zy_a, zy_b, ly1⟩ := rcell f_y1
  go_wp2_with fail
  refine (c1 _ hB1).mono ?_
  rintro e wo ⟨A', c, rfl, hR, hbo⟩
  have hBo := bB hB1 hbo
  clear hbo
  go_wp2_with fail
  refine (c2 _ _ _ hR).mono ?_
  rintro e w2 ⟨rfl, hb2⟩
  have hB2 := bB hBo hb2
  go_wp2
  go_ret
  exact ⟨rfl, hB2⟩

set_option maxRecDepth 100000 in
set_option maxHeartbeats 2000000 in
theorem any_2 (A R N D : Int) (X : Option Addr) (C : Nat) (xs ys : List Bd) (hD : D < 1) (w : World) (hall : w.heap[0]? = some (.cells all4 ta (0, 0)))
    (c1 : ∀ w', Below w.heap.size w w' → Calls Tryd.prog 12 #[.slice X xs.length C, .int .i64 256] w' fun e w'' => ∃ A c, e = .returned (.slice A ys.length c) ∧ BR w'' A c ys ∧ Below w'.heap.size w' w'')
    (c2 : ∀ A c w, BR w A c ys → Calls Tryd.prog 27 #[.slice A ys.length c] w fun e w' => e = .returned (.int .i64 0) ∧ Below w.heap.size w w') :
    Calls Tryd.prog 6 #[.slice X xs.length C, .agg #[.int .i64 A, .int .i64 R, .int .i64 N, .int .i64 D]] w fun e w' => e = .returned (.bool true) ∧ Below w.heap.size w w' := by
  have hw := fun w (ha : w.heap[0]? = some (.cells all4 ta (0, 0))) => wakesA w ha
  go_enter Tryd.func6, Tryd.ntmps6
  obtain ⟨za_a, za_b, la0⟩ := rcell hall
  go_wp2_with fail
  refine (hw _ (ka (hall) (.cells #[.int .i64 A, .int .i64 R, .int .i64 N, .int .i64 D] 52))).mono ?_
  rintro e w1 ⟨rfl, hb1⟩
  have f_a1 := kp hb1 (ka (hall) (.cells #[.int .i64 A, .int .i64 R, .int .i64 N, .int .i64 D] 52))
  have f_y1 := kp hb1 (na w #[.int .i64 A, .int .i64 R, .int .i64 N, .int .i64 D] 52)
  have hB1 := bB (bA (b0 w) (.cells #[.int .i64 A, .int .i64 R, .int .i64 N, .int .i64 D] 52)) hb1
  clear za_a za_b
  obtain ⟨za_a, za_b, la1⟩ := rcell f_a1
  obtain ⟨zy_a, zy_b, ly1⟩ := rcell f_y1
  go_wp2_with fail
  refine (c1 _ hB1).mono ?_
  rintro e wo ⟨A', c, rfl, hR, hbo⟩
  have hBo := bB hB1 hbo
  have f_yo := kp hbo f_y1
  clear hbo
  obtain ⟨zy_a, zy_b, ly2⟩ := rcell f_yo
  go_wp2_with fail
  refine (c2 _ _ _ hR).mono ?_
  rintro e w3 ⟨rfl, hb3⟩
  have f_y3 := kp hb3 (f_yo)
  have hB3 := bB hBo hb3
  clear zy_a zy_b
  obtain ⟨zy_a, zy_b, ly3⟩ := rcell f_y3
  go_wp2
  go_ret
  exact ⟨rfl, hB3⟩

set_option maxRecDepth 100000 in
set_option maxHeartbeats 2000000 in
theorem any_3 (A R N D : Int) (X : Option Addr) (C : Nat) (xs ys : List Bd) (hD : 1 ≤ D) (w : World) (hall : w.heap[0]? = some (.cells all4 ta (0, 0)))
    (c1 : ∀ w', Below w.heap.size w w' → Calls Tryd.prog 12 #[.slice X xs.length C, .int .i64 256] w' fun e w'' => ∃ A c, e = .returned (.slice A ys.length c) ∧ BR w'' A c ys ∧ Below w'.heap.size w' w'')
    (c2 : ∀ A c w, BR w A c ys → Calls Tryd.prog 27 #[.slice A ys.length c] w fun e w' => e = .returned (.int .i64 0) ∧ Below w.heap.size w w')
    (c3 : ∀ X c w, BR w X c ys → Calls Tryd.prog 28 #[.agg #[.int .i64 A, .int .i64 R, .int .i64 N, .int .i64 D], .slice X ys.length c] w fun e w' => e = .returned (.bool false) ∧ Below w.heap.size w w') :
    Calls Tryd.prog 6 #[.slice X xs.length C, .agg #[.int .i64 A, .int .i64 R, .int .i64 N, .int .i64 D]] w fun e w' => e = .returned (.bool true) ∧ Below w.heap.size w w' := by
  have hw := fun w (ha : w.heap[0]? = some (.cells all4 ta (0, 0))) => wakesA w ha
  have hD' : ¬ D < 1 := by omega
  go_enter Tryd.func6, Tryd.ntmps6
  obtain ⟨za_a, za_b, la0⟩ := rcell hall
  go_wp2_with fail
  refine (hw _ (ka (hall) (.cells #[.int .i64 A, .int .i64 R, .int .i64 N, .int .i64 D] 52))).mono ?_
  rintro e w1 ⟨rfl, hb1⟩
  have f_a1 := kp hb1 (ka (hall) (.cells #[.int .i64 A, .int .i64 R, .int .i64 N, .int .i64 D] 52))
  have f_y1 := kp hb1 (na w #[.int .i64 A, .int .i64 R, .int .i64 N, .int .i64 D] 52)
  have hB1 := bB (bA (b0 w) (.cells #[.int .i64 A, .int .i64 R, .int .i64 N, .int .i64 D] 52)) hb1
  clear za_a za_b
  obtain ⟨za_a, za_b, la1⟩ := rcell f_a1
  obtain ⟨zy_a, zy_b, ly1⟩ := rcell f_y1
  go_wp2_with fail
  refine (c1 _ hB1).mono ?_
  rintro e wo ⟨A', c, rfl, hR, hbo⟩
  have hBo := bB hB1 hbo
  have f_yo := kp hbo f_y1
  clear hbo
  obtain ⟨zy_a, zy_b, ly2⟩ := rcell f_yo
  go_wp2_with fail
  refine (c2 _ _ _ hR).mono ?_
  rintro e w3 ⟨rfl, hb3⟩
  have f_y3 := kp hb3 (f_yo)
  have rd_b3 := hR.below hb3
  have hB3 := bB hBo hb3
  clear zy_a zy_b
  obtain ⟨zy_a, zy_b, ly3⟩ := rcell f_y3
  go_wp2_with fail
  refine (c3 _ _ _ rd_b3).mono ?_
  rintro e w4 ⟨rfl, hb4⟩
  have f_y4 := kp hb4 (f_y3)
  have rd_b4 := rd_b3.below hb4
  have hB4 := bB hB3 hb4
  clear zy_a zy_b
  obtain ⟨zy_a, zy_b, ly4⟩ := rcell f_y4
  go_wp2
  go_ret
  exact ⟨rfl, hB4⟩

set_option maxRecDepth 100000 in
set_option maxHeartbeats 4000000 in
theorem any_4 (A R N D a0 a1 b0' b1' fA fR fN fD : Int) (rN : i64B N) (rD : i64B D) (ha : slB a0 a1 = true) (hb : slB b0' b1' = true) (X : Option Addr) (C : Nat) (xs ys : List Bd) (hD : 1 ≤ D) (hl : Hid (ys.length ≠ 1 → a0 * D ≤ N * a1 ∧ N * b1' ≤ b0' * D)) (w : World) (hall : w.heap[0]? = some (.cells all4 ta (0, 0)))
    (c1 : ∀ w', Below w.heap.size w w' → Calls Tryd.prog 12 #[.slice X xs.length C, .int .i64 256] w' fun e w'' => ∃ A c, e = .returned (.slice A ys.length c) ∧ BR w'' A c ys ∧ Below w'.heap.size w' w'')
    (c2 : ∀ A c w, BR w A c ys → Calls Tryd.prog 27 #[.slice A ys.length c] w fun e w' => e = .returned (.int .i64 0) ∧ Below w.heap.size w w')
    (c3 : ∀ X c w, BR w X c ys → Calls Tryd.prog 28 #[.agg #[.int .i64 A, .int .i64 R, .int .i64 N, .int .i64 D], .slice X ys.length c] w fun e w' => e = .returned (.bool true) ∧ Below w.heap.size w w')
    (c4 : ∀ A c w, w.heap[0]? = some (.cells all4 ta (0, 0)) → BR w A c ys → Calls Tryd.prog 14 #[.slice A ys.length c] w fun e w' => e = .returned (.tuple #[.agg #[.int .i64 fA, .int .i64 fR, .int .i64 fN, .int .i64 fD], .int .i64 0]) ∧ Below w.heap.size w w')
    (c5 : ∀ A c w, w.heap[0]? = some (.cells all4 ta (0, 0)) → BR w A c ys → Calls Tryd.prog 13 #[.slice A ys.length c] w fun e w' => e = .returned (.tuple #[.agg #[.int .i64 a0, .int .i64 a1], .agg #[.int .i64 b0', .int .i64 b1'], .int .i64 0]) ∧ Below w.heap.size w w')
    (c6 : ∀ X c w, BR w X c ys → Calls Tryd.prog 21 #[.slice X ys.length c, .agg #[.int .i64 fA, .int .i64 fR, .int .i64 fN, .int .i64 fD]] w fun e w' => e = .returned (.bool true) ∧ Below w.heap.size w w')
    (c7 : ∀ w, Calls Tryd.prog 29 #[.agg #[.int .i64 A, .int .i64 R, .int .i64 N, .int .i64 D], .agg #[.int .i64 fN, .int .i64 fD]] w fun e w' => e = .returned (.bool false) ∧ Below w.heap.size w w') :
    Calls Tryd.prog 6 #[.slice X xs.length C, .agg #[.int .i64 A, .int .i64 R, .int .i64 N, .int .i64 D]] w fun e w' => e = .returned (.bool true) ∧ Below w.heap.size w w' := by
  have hw := fun w (ha : w.heap[0]? = some (.cells all4 ta (0, 0))) => wakesA w ha
  have hD' : ¬ D < 1 := by omega
  have pa := slB_spec ha
  have pb := slB_spec hb
  obtain ⟨n1, n2⟩ := rN
  obtain ⟨d1, d2⟩ := rD
  have m1 := mul_bd2 (a := N) (b := a1) (A := 9223372036854775808) (B := 281474976710656) (by omega) (by omega) (by omega) (by omega) (by omega) (by omega)
  have m2 := mul_bd2 (a := a0) (b := D) (A := 4611688217450643456) (B := 9223372036854775808) (by omega) (by omega) (by omega) (by omega) (by omega) (by omega)
  have m3 := mul_bd2 (a := N) (b := b1') (A := 9223372036854775808) (B := 281474976710656) (by omega) (by omega) (by omega) (by omega) (by omega) (by omega)
  have m4 := mul_bd2 (a := b0') (b := D) (A := 4611688217450643456) (B := 9223372036854775808) (by omega) (by omega) (by omega) (by omega) (by omega) (by omega)
  have e1 := wide_Mul N a1 (by omega) (by omega) (by omega) (by omega)
  have e2 := wide_Mul a0 D (by omega) (by omega) (by omega) (by omega)
  have e3 := wide_Mul N b1' (by omega) (by omega) (by omega) (by omega)
  have e4 := wide_Mul b0' D (by omega) (by omega) (by omega) (by omega)
  have e5 := wide_Compare (N * a1) (a0 * D) (rng_of (by omega) (by omega)) (rng_of (by omega) (by omega))
  have e6 := wide_Compare (N * b1') (b0' * D) (rng_of (by omega) (by omega)) (rng_of (by omega) (by omega))
  have hq : Hid (ys.length ≠ 1 → 0 ≤ cmpI (N * a1) (a0 * D) ∧ cmpI (N * b1') (b0' * D) ≤ 0) := hide fun h => by
    obtain ⟨x, y⟩ := hl.out h
    constructor
    · have := cmp_neg (N * a1) (a0 * D)
      rw [decide_eq_false (show ¬ N * a1 < a0 * D by omega), decide_eq_false_iff_not] at this
      omega
    · have := cmp_pos (N * b1') (b0' * D)
      rw [decide_eq_false (show ¬ b0' * D < N * b1' by omega), decide_eq_false_iff_not] at this
      omega
  clear m1 m2 m3 m4 hl
  generalize N * a1 = P1 at *
  generalize a0 * D = Q1 at *
  generalize N * b1' = P2 at *
  generalize b0' * D = Q2 at *
  generalize cmpI P1 Q1 = u at *
  generalize cmpI P2 Q2 = v at *
  go_enter Tryd.func6, Tryd.ntmps6
  obtain ⟨za_a, za_b, la0⟩ := rcell hall
  go_wp2_with fail
  refine (hw _ (ka (hall) (.cells #[.int .i64 A, .int .i64 R, .int .i64 N, .int .i64 D] 52))).mono ?_
  rintro e w1 ⟨rfl, hb1⟩
  have f_a1 := kp hb1 (ka (hall) (.cells #[.int .i64 A, .int .i64 R, .int .i64 N, .int .i64 D] 52))
  have f_y1 := kp hb1 (na w #[.int .i64 A, .int .i64 R, .int .i64 N, .int .i64 D] 52)
  have hB1 := bB (bA (b0 w) (.cells #[.int .i64 A, .int .i64 R, .int .i64 N, .int .i64 D] 52)) hb1
  clear za_a za_b
  obtain ⟨za_a, za_b, la1⟩ := rcell f_a1
  obtain ⟨zy_a, zy_b, ly1⟩ := rcell f_y1
  go_wp2_with fail
  refine (c1 _ hB1).mono ?_
  rintro e wo ⟨A', c, rfl, hR, hbo⟩
  have hBo := bB hB1 hbo
  have f_yo := kp hbo f_y1
  have f_ao := kp hbo f_a1
  clear hbo
  obtain ⟨za_a, za_b, la2⟩ := rcell f_ao
  obtain ⟨zy_a, zy_b, ly3⟩ := rcell f_yo
  go_wp2_with fail
  refine (c2 _ _ _ hR).mono ?_
  rintro e w4 ⟨rfl, hb4⟩
  have f_a4 := kp hb4 (f_ao)
  have f_y4 := kp hb4 (f_yo)
  have rd_b4 := hR.below hb4
  have hB4 := bB hBo hb4
  clear za_a za_b zy_a zy_b
  obtain ⟨za_a, za_b, la4⟩ := rcell f_a4
  obtain ⟨zy_a, zy_b, ly4⟩ := rcell f_y4
  go_wp2_with fail
  refine (c3 _ _ _ rd_b4).mono ?_
  rintro e w5 ⟨rfl, hb5⟩
  have f_a5 := kp hb5 (f_a4)
  have f_y5 := kp hb5 (f_y4)
  have rd_b5 := rd_b4.below hb5
  have hB5 := bB hB4 hb5
  clear za_a za_b zy_a zy_b
  obtain ⟨za_a, za_b, la5⟩ := rcell f_a5
  obtain ⟨zy_a, zy_b, ly5⟩ := rcell f_y5
  go_wp2_with fail
  refine (c4 _ _ _ (f_a5) rd_b5).mono ?_
  rintro e w6 ⟨rfl, hb6⟩
  have f_a6 := kp hb6 (f_a5)
  have f_y6 := kp hb6 (f_y5)
  have rd_b6 := rd_b5.below hb6
  have hB6 := bB hB5 hb6
  clear za_a za_b zy_a zy_b
  obtain ⟨za_a, za_b, la6⟩ := rcell f_a6
  obtain ⟨zy_a, zy_b, ly6⟩ := rcell f_y6
  go_wp2_with fail
  refine (c5 _ _ _ (ka (f_a6) (.cells #[.int .i64 fA, .int .i64 fR, .int .i64 fN, .int .i64 fD] 31)) (rd_b6.below (bA (b0 _) (.cells #[.int .i64 fA, .int .i64 fR, .int .i64 fN, .int .i64 fD] 31)))).mono ?_
  rintro e w7 ⟨rfl, hb7⟩
  have f_a7 := kp hb7 (ka (f_a6) (.cells #[.int .i64 fA, .int .i64 fR, .int .i64 fN, .int .i64 fD] 31))
  have f_y7 := kp hb7 (ka (f_y6) (.cells #[.int .i64 fA, .int .i64 fR, .int .i64 fN, .int .i64 fD] 31))
  have f_z7 := kp hb7 (na w6 #[.int .i64 fA, .int .i64 fR, .int .i64 fN, .int .i64 fD] 31)
  have rd_b7 := (rd_b6.below (bA (b0 _) (.cells #[.int .i64 fA, .int .i64 fR, .int .i64 fN, .int .i64 fD] 31))).below hb7
  have hB7 := bB (bA hB6 (.cells #[.int .i64 fA, .int .i64 fR, .int .i64 fN, .int .i64 fD] 31)) hb7
  clear za_a za_b zy_a zy_b
  obtain ⟨za_a, za_b, la7⟩ := rcell f_a7
  obtain ⟨zy_a, zy_b, ly7⟩ := rcell f_y7
  obtain ⟨zz_a, zz_b, lz7⟩ := rcell f_z7
  go_wp2_with fail
  refine (c6 _ _ _ (rd_b7.below (bA (bA (b0 _) (.cells #[.int .i64 a0, .int .i64 a1] 26)) (.cells #[.int .i64 b0', .int .i64 b1'] 26)))).mono ?_
  rintro e w8 ⟨rfl, hb8⟩
  have f_a8 := kp hb8 (ka (ka (f_a7) (.cells #[.int .i64 a0, .int .i64 a1] 26)) (.cells #[.int .i64 b0', .int .i64 b1'] 26))
  have f_y8 := kp hb8 (ka (ka (f_y7) (.cells #[.int .i64 a0, .int .i64 a1] 26)) (.cells #[.int .i64 b0', .int .i64 b1'] 26))
  have f_z8 := kp hb8 (ka (ka (f_z7) (.cells #[.int .i64 a0, .int .i64 a1] 26)) (.cells #[.int .i64 b0', .int .i64 b1'] 26))
  have f_p8 := kp hb8 (ka (na w7 #[.int .i64 a0, .int .i64 a1] 26) (.cells #[.int .i64 b0', .int .i64 b1'] 26))
  have f_q8 := kp hb8 (na1 w7 (.cells #[.int .i64 a0, .int .i64 a1] 26) #[.int .i64 b0', .int .i64 b1'] 26)
  have rd_b8 := (rd_b7.below (bA (bA (b0 _) (.cells #[.int .i64 a0, .int .i64 a1] 26)) (.cells #[.int .i64 b0', .int .i64 b1'] 26))).below hb8
  have hB8 := bB (bA (bA hB7 (.cells #[.int .i64 a0, .int .i64 a1] 26)) (.cells #[.int .i64 b0', .int .i64 b1'] 26)) hb8
  clear za_a za_b zy_a zy_b zz_a zz_b
  obtain ⟨za_a, za_b, la8⟩ := rcell f_a8
  obtain ⟨zy_a, zy_b, ly8⟩ := rcell f_y8
  obtain ⟨zz_a, zz_b, lz8⟩ := rcell f_z8
  obtain ⟨zp_a, zp_b, lp8⟩ := rcell f_p8
  obtain ⟨zq_a, zq_b, lq8⟩ := rcell f_q8
  go_wp2_with fail
  refine (c7 _).mono ?_
  rintro e w9 ⟨rfl, hb9⟩
  have f_a9 := kp hb9 (f_a8)
  have f_y9 := kp hb9 (f_y8)
  have f_z9 := kp hb9 (f_z8)
  have f_p9 := kp hb9 (f_p8)
  have f_q9 := kp hb9 (f_q8)
  have rd_b9 := rd_b8.below hb9
  have hB9 := bB hB8 hb9
  clear za_a za_b zp_a zp_b zq_a zq_b zy_a zy_b zz_a zz_b
  obtain ⟨za_a, za_b, la9⟩ := rcell f_a9
  obtain ⟨zy_a, zy_b, ly9⟩ := rcell f_y9
  obtain ⟨zz_a, zz_b, lz9⟩ := rcell f_z9
  obtain ⟨zp_a, zp_b, lp9⟩ := rcell f_p9
  obtain ⟨zq_a, zq_b, lq9⟩ := rcell f_q9
  clear c1 c2 c3 c4 c5 c6 c7 hw hR
  go_wp2_with fail
  refine Abs.wp_region_abs (Abs.cls0 _) [0, 1, 2, 3, 4, 5, 6, 7, 8, 9, 10, 11, 12, 13] (by kernel_rfl) (by kernel_rfl) (Below.refl _ _).drew ?_
  repeat (first | (refine Abs.step_pure rfl rfl (fun K hK => ?_); go_simp; (try go_bits); (first | refine hK _ _ ?_ | (simp only [↓IntWalk.iteOmega]; go_simp; (try go_bits); refine hK _ _ ?_)); clear hK K) | (refine Abs.step_load (v := ?_) rfl rfl (by kernel_rfl) rfl (fun w0 hI => ?_) (fun K hK => ?_); rotate_left; (· have z0 := (rcell (kp hI (f_y9))).1; have z1 := (rcell (kp hI (f_p9))).1; have z2 := (rcell (kp hI (f_q9))).1; go_simp; rfl); (simp only [Act.put, List.setIfInBounds_toArray, List.set_cons_zero, List.set_cons_succ]; refine hK _ _ ?_; clear hK K)) | (refine Abs.step_skip rfl rfl (fun K hK => ?_); (simp only [Act.put, List.setIfInBounds_toArray, List.set_cons_zero, List.set_cons_succ]; refine hK _ _ ?_; clear hK K)))
  (refine Abs.step_call_val (f := ?_) (args := ?_) (v := ?_) rfl rfl rfl rfl (fun w0 => ?_) (fun w0 hI => ?_) (fun K hK => ?_); rotate_left 3; (· go_simp; (constructor <;> rfl)); (· exact e1 _); (simp only [Act.put, List.setIfInBounds_toArray, List.set_cons_zero, List.set_cons_succ]; refine hK _ _ ?_; clear hK K))
  repeat (first | (refine Abs.step_pure rfl rfl (fun K hK => ?_); go_simp; (try go_bits); (first | refine hK _ _ ?_ | (simp only [↓IntWalk.iteOmega]; go_simp; (try go_bits); refine hK _ _ ?_)); clear hK K) | (refine Abs.step_load (v := ?_) rfl rfl (by kernel_rfl) rfl (fun w0 hI => ?_) (fun K hK => ?_); rotate_left; (· have z0 := (rcell (kp hI (f_y9))).1; have z1 := (rcell (kp hI (f_p9))).1; have z2 := (rcell (kp hI (f_q9))).1; go_simp; rfl); (simp only [Act.put, List.setIfInBounds_toArray, List.set_cons_zero, List.set_cons_succ]; refine hK _ _ ?_; clear hK K)) | (refine Abs.step_skip rfl rfl (fun K hK => ?_); (simp only [Act.put, List.setIfInBounds_toArray, List.set_cons_zero, List.set_cons_succ]; refine hK _ _ ?_; clear hK K)))
  (refine Abs.step_call_val (f := ?_) (args := ?_) (v := ?_) rfl rfl rfl rfl (fun w0 => ?_) (fun w0 hI => ?_) (fun K hK => ?_); rotate_left 3; (· go_simp; (constructor <;> rfl)); (· exact e2 _); (simp only [Act.put, List.setIfInBounds_toArray, List.set_cons_zero, List.set_cons_succ]; refine hK _ _ ?_; clear hK K))
  repeat (first | (refine Abs.step_pure rfl rfl (fun K hK => ?_); go_simp; (try go_bits); (first | refine hK _ _ ?_ | (simp only [↓IntWalk.iteOmega]; go_simp; (try go_bits); refine hK _ _ ?_)); clear hK K) | (refine Abs.step_load (v := ?_) rfl rfl (by kernel_rfl) rfl (fun w0 hI => ?_) (fun K hK => ?_); rotate_left; (· have z0 := (rcell (kp hI (f_y9))).1; have z1 := (rcell (kp hI (f_p9))).1; have z2 := (rcell (kp hI (f_q9))).1; go_simp; rfl); (simp only [Act.put, List.setIfInBounds_toArray, List.set_cons_zero, List.set_cons_succ]; refine hK _ _ ?_; clear hK K)) | (refine Abs.step_skip rfl rfl (fun K hK => ?_); (simp only [Act.put, List.setIfInBounds_toArray, List.set_cons_zero, List.set_cons_succ]; refine hK _ _ ?_; clear hK K)))
  (refine Abs.step_var (obj := ?_) rfl rfl rfl rfl (fun w0 => ?_) (fun K hK g_n hv_n hu_n => ?_); rotate_left; (· go_simp; rfl); (simp only [Act.put, List.setIfInBounds_toArray, List.set_cons_zero, List.set_cons_succ]; refine hK _ _ ?_; clear hK K))
  (refine Abs.step_var (obj := ?_) rfl rfl rfl rfl (fun w0 => ?_) (fun K hK g_d hv_d hu_d => ?_); rotate_left; (· go_simp; rfl); (simp only [Act.put, List.setIfInBounds_toArray, List.set_cons_zero, List.set_cons_succ]; refine hK _ _ ?_; clear hK K))
  (refine Abs.step_store (T := ?_) rfl rfl rfl (fun w0 hI hF hU => ?_) (fun _ _ _ _ => trivial) (fun K hK => ?_); rotate_left; (· have hR := (hF 10).1.2 rfl; have hg0 := (rcell hR).1; have hg1 := (rcell hR).2.1; simp only [Abs.T_setF, Abs.T_addA, Abs.T_push, Abs.T_start]; go_simp; exact row2 hR _ _); (simp only [Act.put, List.setIfInBounds_toArray, List.set_cons_zero, List.set_cons_succ]; refine hK _ _ ?_; clear hK K))
  (refine Abs.step_store (T := ?_) rfl rfl rfl (fun w0 hI hF hU => ?_) (fun _ _ _ _ => trivial) (fun K hK => ?_); rotate_left; (· have hR := fun cs => (setRow_other (w := w0) (g := g_n) cs (fun e => hu_d (Or.inl e))).trans ((hF 11).2 rfl); have hg0 := fun cs => (rcell (hR cs)).1; have hg1 := fun cs => (rcell (hR cs)).2.1; simp only [Abs.T_setF, Abs.T_addA, Abs.T_push, Abs.T_start]; go_simp; exact row2 (hR _) _ _); (simp only [Act.put, List.setIfInBounds_toArray, List.set_cons_zero, List.set_cons_succ]; refine hK _ _ ?_; clear hK K))
  have hs_n := leB hv_n
  try simp only [World.size_alloc] at hs_n
  have hs_d := leB hv_d
  try simp only [World.size_alloc] at hs_d
  have hn : g_d ≠ g_n := fun e => hu_d (Or.inl e)
  intro w0 hI hF hx1 hx2
  clear hx1 hx2
  have q1 := (hF 10).1.2 rfl
  have q2 := (hF 11).2 rfl
  clear hF
  simp only [Abs.T_push]
  generalize hTa : setRow w0 _ _ = wa
  have ea := (fin_x (b0 _) q1 hTa).1
  obtain ⟨ba, fa⟩ := fin1 hI hv_n q1 hTa
  have q3 : wa.heap[g_d]? = w0.heap[g_d]? := by rw [← hTa]; exact setRow_other _ hn
  replace q2 := q3.trans q2
  clear q3
  generalize hTb : setRow wa _ _ = w11
  have eb := (fin_x (b0 _) q2 hTb).1
  obtain ⟨hb11, f_d11⟩ := fin1 ba hv_d q2 hTb
  have q4 : w11.heap[g_n]? = wa.heap[g_n]? := by rw [← hTb]; exact setRow_other _ hn.symm
  have f_n11 := q4.trans fa
  clear q4
  clear hTa hTb ea eb q1 q2 fa ba hI w0
  have f_y11 := kp hb11 (f_y9)
  have f_p11 := kp hb11 (f_p9)
  have f_q11 := kp hb11 (f_q9)
  have hB11 := bB hB9 hb11
  clear za_a za_b zp_a zp_b zq_a zq_b zy_a zy_b zz_a zz_b
  obtain ⟨zy_a, zy_b, ly11⟩ := rcell f_y11
  obtain ⟨zp_a, zp_b, lp11⟩ := rcell f_p11
  obtain ⟨zq_a, zq_b, lq11⟩ := rcell f_q11
  obtain ⟨zn_a, zn_b, ln11⟩ := rcell f_n11
  obtain ⟨zd_a, zd_b, ld11⟩ := rcell f_d11
  go_wp2_with fail
  refine Abs.wp_region_abs (Abs.cls0 _) [0, 1, 2, 3, 4, 5, 6, 7, 8, 9, 10, 11, 12, 13] (by kernel_rfl) (by kernel_rfl) (Below.refl _ _).drew ?_
  repeat (first | (refine Abs.step_pure rfl rfl (fun K hK => ?_); go_simp; (try go_bits); (first | refine hK _ _ ?_ | (simp only [↓IntWalk.iteOmega]; go_simp; (try go_bits); refine hK _ _ ?_)); clear hK K) | (refine Abs.step_load (v := ?_) rfl rfl (by kernel_rfl) rfl (fun w0 hI => ?_) (fun K hK => ?_); rotate_left; (· have z0 := (rcell (kp hI (f_y11))).1; have z1 := (rcell (kp hI (f_p11))).1; have z2 := (rcell (kp hI (f_q11))).1; have z3 := (rcell (kp hI (f_n11))).1; have z4 := (rcell (kp hI (f_d11))).1; go_simp; rfl); (simp only [Act.put, List.setIfInBounds_toArray, List.set_cons_zero, List.set_cons_succ]; refine hK _ _ ?_; clear hK K)) | (refine Abs.step_skip rfl rfl (fun K hK => ?_); (simp only [Act.put, List.setIfInBounds_toArray, List.set_cons_zero, List.set_cons_succ]; refine hK _ _ ?_; clear hK K)))
  (refine Abs.step_call_val (f := ?_) (args := ?_) (v := ?_) rfl rfl rfl rfl (fun w0 => ?_) (fun w0 hI => ?_) (fun K hK => ?_); rotate_left 3; (· go_simp; (constructor <;> rfl)); (· exact e3 _); (simp only [Act.put, List.setIfInBounds_toArray, List.set_cons_zero, List.set_cons_succ]; refine hK _ _ ?_; clear hK K))
  repeat (first | (refine Abs.step_pure rfl rfl (fun K hK => ?_); go_simp; (try go_bits); (first | refine hK _ _ ?_ | (simp only [↓IntWalk.iteOmega]; go_simp; (try go_bits); refine hK _ _ ?_)); clear hK K) | (refine Abs.step_load (v := ?_) rfl rfl (by kernel_rfl) rfl (fun w0 hI => ?_) (fun K hK => ?_); rotate_left; (· have z0 := (rcell (kp hI (f_y11))).1; have z1 := (rcell (kp hI (f_p11))).1; have z2 := (rcell (kp hI (f_q11))).1; have z3 := (rcell (kp hI (f_n11))).1; have z4 := (rcell (kp hI (f_d11))).1; go_simp; rfl); (simp only [Act.put, List.setIfInBounds_toArray, List.set_cons_zero, List.set_cons_succ]; refine hK _ _ ?_; clear hK K)) | (refine Abs.step_skip rfl rfl (fun K hK => ?_); (simp only [Act.put, List.setIfInBounds_toArray, List.set_cons_zero, List.set_cons_succ]; refine hK _ _ ?_; clear hK K)))
  (refine Abs.step_call_val (f := ?_) (args := ?_) (v := ?_) rfl rfl rfl rfl (fun w0 => ?_) (fun w0 hI => ?_) (fun K hK => ?_); rotate_left 3; (· go_simp; (constructor <;> rfl)); (· exact e4 _); (simp only [Act.put, List.setIfInBounds_toArray, List.set_cons_zero, List.set_cons_succ]; refine hK _ _ ?_; clear hK K))
  repeat (first | (refine Abs.step_pure rfl rfl (fun K hK => ?_); go_simp; (try go_bits); (first | refine hK _ _ ?_ | (simp only [↓IntWalk.iteOmega]; go_simp; (try go_bits); refine hK _ _ ?_)); clear hK K) | (refine Abs.step_load (v := ?_) rfl rfl (by kernel_rfl) rfl (fun w0 hI => ?_) (fun K hK => ?_); rotate_left; (· have z0 := (rcell (kp hI (f_y11))).1; have z1 := (rcell (kp hI (f_p11))).1; have z2 := (rcell (kp hI (f_q11))).1; have z3 := (rcell (kp hI (f_n11))).1; have z4 := (rcell (kp hI (f_d11))).1; go_simp; rfl); (simp only [Act.put, List.setIfInBounds_toArray, List.set_cons_zero, List.set_cons_succ]; refine hK _ _ ?_; clear hK K)) | (refine Abs.step_skip rfl rfl (fun K hK => ?_); (simp only [Act.put, List.setIfInBounds_toArray, List.set_cons_zero, List.set_cons_succ]; refine hK _ _ ?_; clear hK K)))
  (refine Abs.step_var (obj := ?_) rfl rfl rfl rfl (fun w0 => ?_) (fun K hK g_m hv_m hu_m => ?_); rotate_left; (· go_simp; rfl); (simp only [Act.put, List.setIfInBounds_toArray, List.set_cons_zero, List.set_cons_succ]; refine hK _ _ ?_; clear hK K))
  (refine Abs.step_var (obj := ?_) rfl rfl rfl rfl (fun w0 => ?_) (fun K hK g_k hv_k hu_k => ?_); rotate_left; (· go_simp; rfl); (simp only [Act.put, List.setIfInBounds_toArray, List.set_cons_zero, List.set_cons_succ]; refine hK _ _ ?_; clear hK K))
  (refine Abs.step_store (T := ?_) rfl rfl rfl (fun w0 hI hF hU => ?_) (fun _ _ _ _ => trivial) (fun K hK => ?_); rotate_left; (· have hR := (hF 10).1.2 rfl; have hg0 := (rcell hR).1; have hg1 := (rcell hR).2.1; simp only [Abs.T_setF, Abs.T_addA, Abs.T_push, Abs.T_start]; go_simp; exact row2 hR _ _); (simp only [Act.put, List.setIfInBounds_toArray, List.set_cons_zero, List.set_cons_succ]; refine hK _ _ ?_; clear hK K))
  (refine Abs.step_store (T := ?_) rfl rfl rfl (fun w0 hI hF hU => ?_) (fun _ _ _ _ => trivial) (fun K hK => ?_); rotate_left; (· have hR := fun cs => (setRow_other (w := w0) (g := g_m) cs (fun e => hu_k (Or.inl e))).trans ((hF 11).2 rfl); have hg0 := fun cs => (rcell (hR cs)).1; have hg1 := fun cs => (rcell (hR cs)).2.1; simp only [Abs.T_setF, Abs.T_addA, Abs.T_push, Abs.T_start]; go_simp; exact row2 (hR _) _ _); (simp only [Act.put, List.setIfInBounds_toArray, List.set_cons_zero, List.set_cons_succ]; refine hK _ _ ?_; clear hK K))
  have hs_m := leB hv_m
  try simp only [World.size_alloc] at hs_m
  have hs_k := leB hv_k
  try simp only [World.size_alloc] at hs_k
  have hn : g_k ≠ g_m := fun e => hu_k (Or.inl e)
  intro w0 hI hF hx1 hx2
  clear hx1 hx2
  have q1 := (hF 10).1.2 rfl
  have q2 := (hF 11).2 rfl
  clear hF
  simp only [Abs.T_push]
  generalize hTa : setRow w0 _ _ = wa
  have ea := (fin_x (b0 _) q1 hTa).1
  obtain ⟨ba, fa⟩ := fin1 hI hv_m q1 hTa
  have q3 : wa.heap[g_k]? = w0.heap[g_k]? := by rw [← hTa]; exact setRow_other _ hn
  replace q2 := q3.trans q2
  clear q3
  generalize hTb : setRow wa _ _ = w13
  have eb := (fin_x (b0 _) q2 hTb).1
  obtain ⟨hb13, f_k13⟩ := fin1 ba hv_k q2 hTb
  have q4 : w13.heap[g_m]? = wa.heap[g_m]? := by rw [← hTb]; exact setRow_other _ hn.symm
  have f_m13 := q4.trans fa
  clear q4
  clear hTa hTb ea eb q1 q2 fa ba hI w0
  have f_y13 := kp hb13 (f_y11)
  have f_p13 := kp hb13 (f_p11)
  have f_q13 := kp hb13 (f_q11)
  have f_n13 := kp hb13 (f_n11)
  have f_d13 := kp hb13 (f_d11)
  have hB13 := bB hB11 hb13
  clear zd_a zd_b zn_a zn_b zp_a zp_b zq_a zq_b zy_a zy_b
  obtain ⟨zy_a, zy_b, ly13⟩ := rcell f_y13
  obtain ⟨zp_a, zp_b, lp13⟩ := rcell f_p13
  obtain ⟨zq_a, zq_b, lq13⟩ := rcell f_q13
  obtain ⟨zn_a, zn_b, ln13⟩ := rcell f_n13
  obtain ⟨zd_a, zd_b, ld13⟩ := rcell f_d13
  obtain ⟨zm_a, zm_b, lm13⟩ := rcell f_m13
  obtain ⟨zk_a, zk_b, lk13⟩ := rcell f_k13
  by_cases h1 : ys.length = 1
  · go_wp2
    go_ret
    exact ⟨rfl, hB13⟩
  · obtain ⟨x1, x2⟩ := hq.out h1
    have hl1 : ¬ (ys.length : Int) = 1 := by omega
    have x1' : decide (0 ≤ u) = true := decide_eq_true x1
    have x2' : decide (v ≤ 0) = true := decide_eq_true x2
    go_wp2_with fail
    refine (e5 _).mono ?_
    rintro e w14 ⟨rfl, hb14⟩
    have f_y14 := kp hb14 (f_y13)
    have f_p14 := kp hb14 (f_p13)
    have f_q14 := kp hb14 (f_q13)
    have f_n14 := kp hb14 (f_n13)
    have f_d14 := kp hb14 (f_d13)
    have f_m14 := kp hb14 (f_m13)
    have f_k14 := kp hb14 (f_k13)
    have hB14 := bB hB13 hb14
    clear zd_a zd_b zk_a zk_b zm_a zm_b zn_a zn_b zp_a zp_b zq_a zq_b zy_a zy_b
    obtain ⟨zy_a, zy_b, ly14⟩ := rcell f_y14
    obtain ⟨zp_a, zp_b, lp14⟩ := rcell f_p14
    obtain ⟨zq_a, zq_b, lq14⟩ := rcell f_q14
    obtain ⟨zn_a, zn_b, ln14⟩ := rcell f_n14
    obtain ⟨zd_a, zd_b, ld14⟩ := rcell f_d14
    obtain ⟨zm_a, zm_b, lm14⟩ := rcell f_m14
    obtain ⟨zk_a, zk_b, lk14⟩ := rcell f_k14
    go_wp2_with fail
    refine (e6 _).mono ?_
    rintro e w15 ⟨rfl, hb15⟩
    have f_y15 := kp hb15 (f_y14)
    have f_p15 := kp hb15 (f_p14)
    have f_q15 := kp hb15 (f_q14)
    have f_n15 := kp hb15 (f_n14)
    have f_d15 := kp hb15 (f_d14)
    have f_m15 := kp hb15 (f_m14)
    have f_k15 := kp hb15 (f_k14)
    have hB15 := bB hB14 hb15
    clear zd_a zd_b zk_a zk_b zm_a zm_b zn_a zn_b zp_a zp_b zq_a zq_b zy_a zy_b
    obtain ⟨zy_a, zy_b, ly15⟩ := rcell f_y15
    obtain ⟨zp_a, zp_b, lp15⟩ := rcell f_p15
    obtain ⟨zq_a, zq_b, lq15⟩ := rcell f_q15
    obtain ⟨zn_a, zn_b, ln15⟩ := rcell f_n15
    obtain ⟨zd_a, zd_b, ld15⟩ := rcell f_d15
    obtain ⟨zm_a, zm_b, lm15⟩ := rcell f_m15
    obtain ⟨zk_a, zk_b, lk15⟩ := rcell f_k15
    go_wp2
    go_ret
    exact ⟨by simp, hB15⟩

theorem slide_any (X : Option Addr) (C : Nat) (xs : List Bd) (A R N D : Int) (hn : xs.length ≤ C) (rA : i64B A) (rR : i64B R) (rN : i64B N) (rD : i64B D) (w : World) (hall : w.heap[0]? = some (.cells all4 ta (0, 0))) (hX : InB w X xs) :
    Calls Tryd.prog 6 #[.slice X xs.length C, .agg #[.int .i64 A, .int .i64 R, .int .i64 N, .int .i64 D]] w fun e w' => e = .returned (.bool true) ∧ Below w.heap.size w w' := by
  have c1 := fun w' (hb : Below w.heap.size w w') => law10_few X C 256 xs (by decide) hn w' (hX.below hb)
  generalize xs.take 256 = ys at *
  have c2 := fun A c w hR => pmc_Check A c ys w hR
  cases h : okB ys
  · rw [chE_no h] at c2
    exact any_1 A R N D X C xs ys w hall c1 c2
  · rw [chE_yes h] at c2
    by_cases hD : D < 1
    · exact any_2 A R N D X C xs ys hD w hall c1 c2
    · have c3 := fun X c w hR => ray_through A R N D rA rR rN ⟨by omega, rD.2⟩ X c ys h w hR
      cases hr : rayB A R N D (bd ys 0).t ys
      · rw [hr] at c3
        exact any_3 A R N D X C xs ys (by omega) w hall c1 c2 c3
      · rw [hr] at c3
        obtain ⟨k0, k1, k2⟩ := okB_spec h
        have ho : slOpen (sk ys ys.length) = true := open_of_lets k2 (Nat.le_refl _) (by rw [List.take_length]; exact rayB_lets (by omega) hr)
        have hS := sk_inv k2 ys.length (Nat.le_refl _)
        have hf := any_flat h (show 1 ≤ D by omega) hr
        exact any_4 A R N D _ _ _ _ _ _ _ _ rN rD (low_low hS.v1).1 (low_low hS.v2).1 X C xs ys (by omega) (hide fun h1 => any_low h (by omega) hr (by omega)) w hall c1 c2 c3 (fun A c w ha hR => slide_Fit_yes A c ys h ho w ha hR) (fun A c w ha hR => slide_Slopes_yes A c ys h ho w ha hR)
          (fun X c w hR => slide_Through_yes _ _ _ _ X c ys h true (hide (fitS_thr h ho)) w hR) (fun w => ray_flatter A R N D _ _ rN rD (fS_low h).1 hf.1 hf.2 w)
end Go.Proofs.YtpimkigbdjfjoaaDoor
