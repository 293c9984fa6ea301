/- swing.Hinge, Door, Fit at this program. -/
import Derived.Test.YtfdaabdibpcjeaaSwing7
set_option linter.unusedSimpArgs false
set_option linter.unusedVariables false
namespace Go.Proofs.Ytfdaabdibpcjeaa
open Go.RowKit

theorem okB_spec {l : List Bd} (h : okB l = true) : 0 < l.length ∧ l.length ≤ 256 ∧ okF (-1) l = true := by
  unfold okB at h
  simp only [Bool.and_eq_true, decide_eq_true_eq] at h
  exact ⟨h.1.1, h.1.2, h.2⟩
theorem okF_el {l : List Bd} (h : okF (-1) l = true) (k : Nat) (hk : k < l.length) : bdB (lastT (l.take k)) l[k] = true := by
  have ht := okF_take l k hk
  rw [okF_pre (-1) l (k + 1) h] at ht
  cases e : bdB (lastT (l.take k)) l[k]
  · rw [e, Bool.and_false] at ht; cases ht
  · rfl

theorem results_two {fn : Func} {t u : Tmp} (h : fn.results = #[.tmp t, .tmp u]) (tmps : Array Value) (P : Program) (w : World) : (results fn tmps).run P w = .ok (.tuple #[tmps.getD t undef, tmps.getD u undef]) w := by simp [results, h]

set_option maxRecDepth 100000 in
theorem swing_Hinge_no (A : Option Addr) (c : Nat) (l : List Bd) (h : okB l = false) (w : World) (hR : BR w A c l) :
    Calls Try.prog 24 #[.slice A l.length c] w fun e w' => e = .returned (.tuple #[.int .i64 0, .int .i64 180]) ∧ Below w.heap.size w w' := by
  have c1 := pmc_Check A c l w hR
  rw [chE_no h] at c1
  go_enter Try.func24, Try.ntmps24
  go_wp2_with fail
  refine (c1).mono ?_
  rintro e w1 ⟨rfl, hb1⟩
  have hB1 := bB (b0 w) hb1
  go_wp2
  go_ret2
  exact ⟨rfl, hB1⟩

theorem hinge_v (x y : Int) (w : World) : (Instr.field 69 (.agg #[.int .i64 x, .int .i64 y]) 1).run Try.prog w = .ok (.int .i64 y) w := by
  simp [Instr.field, part, run_underlying Try.underlying69, asAgg, go_sem]

set_option maxRecDepth 100000 in
theorem swing_Hinge_in (g o c : Nat) (l : List Bd) (b : Bd) (cur : Array Value) (w : World) (hg : w.heap[g]? = some (.cells cur 38 (0, 0))) (e1 : cur[o]? = some (.int .i64 b.t)) (e2 : cur[o + 1]? = some (.int .i64 b.lo)) (e3 : cur[o + 2]? = some (.int .i64 b.hi)) (h1 : bkB b.lo = true) (h2 : bkB b.hi = true) (h0 : 0 < l.length)
    (c1 : Calls Try.prog 33 #[.slice (some ⟨g, o, none⟩) l.length c] w fun e w' => e = .returned (.int .i64 0) ∧ Below w.heap.size w w') :
    Calls Try.prog 24 #[.slice (some ⟨g, o, none⟩) l.length c] w fun e w' => e = .returned (.tuple #[.int .i64 (hgB b), .int .i64 0]) ∧ Below w.heap.size w w' := by
  have c2 := swing_at b h1 h2
  have hv := hinge_v
  go_enter Try.func24, Try.ntmps24
  obtain ⟨zg_a, zg_b, lg0⟩ := rcell hg
  go_wp2_with fail
  refine (c1).mono ?_
  rintro e w1 ⟨rfl, hb1⟩
  have f_g1 := kp hb1 (hg)
  have hB1 := bB (b0 w) hb1
  clear zg_a zg_b
  obtain ⟨zg_a, zg_b, lg1⟩ := rcell f_g1
  go_wp2_with fail
  refine (c2 _).mono ?_
  rintro e w2 ⟨rfl, hb2⟩
  have f_g2 := kp hb2 (f_g1)
  have hB2 := bB hB1 hb2
  clear zg_a zg_b
  obtain ⟨zg_a, zg_b, lg2⟩ := rcell f_g2
  go_wp2
  go_ret2
  exact ⟨rfl, hB2⟩

theorem swing_Hinge_yes (A : Option Addr) (c : Nat) (l : List Bd) (h : okB l = true) (w : World) (hR : BR w A c l) :
    Calls Try.prog 24 #[.slice A l.length c] w fun e w' => e = .returned (.tuple #[.int .i64 (hgB (l.headD ⟨0, 0, 0⟩)), .int .i64 0]) ∧ Below w.heap.size w w' := by
  obtain ⟨h0, h1, h2⟩ := okB_spec h
  have c1 := pmc_Check A c l w hR
  rw [chE_yes h] at c1
  obtain ⟨g, o, cur, rfl, hg, hc⟩ := hR.mem h0
  have he := hc 0 h0
  have hb := bdB_spec (okF_el h2 0 h0)
  have eh : l.headD ⟨0, 0, 0⟩ = l[0] := by cases l with | nil => simp at h0 | cons a l => rfl
  rw [eh]
  simp only [Nat.zero_mul, Nat.add_zero] at he
  exact swing_Hinge_in g o c l l[0] cur w hg he.1 he.2.1 he.2.2 hb.2.2.2.1 hb.2.2.2.2 h0 c1

set_option maxRecDepth 100000 in
theorem swing_Door_no (A : Option Addr) (c : Nat) (l : List Bd) (h : okB l = false) (w : World) (hR : BR w A c l) :
    Calls Try.prog 28 #[.slice A l.length c] w fun e w' => e = .returned (.tuple #[.agg #[.int .i64 0, .int .i64 0], .agg #[.int .i64 0, .int .i64 0], .int .i64 180]) ∧ Below w.heap.size w w' := by
  have c1 := pmc_Check A c l
  rw [chE_no h] at c1
  go_enter Try.func28, Try.ntmps28
  go_wp2_with fail
  refine (c1 _ (hR.below (bA (bA (b0 _) _) _))).mono ?_
  rintro e w1 ⟨rfl, hb1⟩
  have f_a1 := kp hb1 (ka (na w #[.int .i64 0, .int .i64 0] 52) (.cells #[.int .i64 0, .int .i64 0] 52))
  have f_b1 := kp hb1 (na1 w (.cells #[.int .i64 0, .int .i64 0] 52) #[.int .i64 0, .int .i64 0] 52)
  have hB1 := bB (bA (bA (b0 w) (.cells #[.int .i64 0, .int .i64 0] 52)) (.cells #[.int .i64 0, .int .i64 0] 52)) hb1
  obtain ⟨za_a, za_b, la1⟩ := rcell f_a1
  obtain ⟨zb_a, zb_b, lb1⟩ := rcell f_b1
  go_wp2
  rw [row2 (f_a1)]
  generalize hT1 : setRow _ _ _ = wE1
  obtain ⟨hxE1, hgE1⟩ := fin_x (b0 _) (f_a1) hT1
  have hfE1 := kx hxE1 (f_b1) (by omega)
  rw [row2 hfE1]
  generalize hT2 : setRow _ _ _ = wE
  obtain ⟨hxE2, hgE2⟩ := fin_x (b0 _) hfE1 hT2
  have hgE := kx hxE2 hgE1 (by omega)
  have hbE1 := bX hB1 hxE1 (by omega)
  have hbE := bX hbE1 hxE2 (by omega)
  have zE := (rcell hgE).1
  have zE2 := (rcell hgE2).1
  clear hT1 hT2
  refine bodyPost_ret (by simp [results, Try.results28, go_sem, zE, zE2]; try rfl) rfl ?_
  exact ⟨rfl, hbE⟩

set_option maxRecDepth 100000 in
theorem swing_Door_one (A : Option Addr) (c : Nat) (l : List Bd) (h : okB l = true) (h1 : l.length = 1) (w : World) (hR : BR w A c l) :
    Calls Try.prog 28 #[.slice A l.length c] w fun e w' => e = .returned (.tuple #[.agg #[.int .i64 0, .int .i64 0], .agg #[.int .i64 0, .int .i64 0], .int .i64 9]) ∧ Below w.heap.size w w' := by
  have c1 := pmc_Check A c l
  rw [chE_yes h] at c1
  have HR := hide hR
  rw [h1] at c1 ⊢
  clear h1 hR
  go_enter Try.func28, Try.ntmps28
  go_wp2_with fail
  refine (c1 _ (HR.out.below (bA (bA (b0 _) _) _))).mono ?_
  rintro e w1 ⟨rfl, hb1⟩
  have f_a1 := kp hb1 (ka (na w #[.int .i64 0, .int .i64 0] 52) (.cells #[.int .i64 0, .int .i64 0] 52))
  have f_b1 := kp hb1 (na1 w (.cells #[.int .i64 0, .int .i64 0] 52) #[.int .i64 0, .int .i64 0] 52)
  have hB1 := bB (bA (bA (b0 w) (.cells #[.int .i64 0, .int .i64 0] 52)) (.cells #[.int .i64 0, .int .i64 0] 52)) hb1
  obtain ⟨za_a, za_b, la1⟩ := rcell f_a1
  obtain ⟨zb_a, zb_b, lb1⟩ := rcell f_b1
  go_wp2
  rw [row2 (f_a1)]
  generalize hT1 : setRow _ _ _ = wE1
  obtain ⟨hxE1, hgE1⟩ := fin_x (b0 _) (f_a1) hT1
  have hfE1 := kx hxE1 (f_b1) (by omega)
  rw [row2 hfE1]
  generalize hT2 : setRow _ _ _ = wE
  obtain ⟨hxE2, hgE2⟩ := fin_x (b0 _) hfE1 hT2
  have hgE := kx hxE2 hgE1 (by omega)
  have hbE1 := bX hB1 hxE1 (by omega)
  have hbE := bX hbE1 hxE2 (by omega)
  have zE := (rcell hgE).1
  have zE2 := (rcell hgE2).1
  clear hT1 hT2
  refine bodyPost_ret (by simp [results, Try.results28, go_sem, zE, zE2]; try rfl) rfl ?_
  exact ⟨rfl, hbE⟩

set_option maxRecDepth 100000 in
set_option maxHeartbeats 1000000 in
theorem swing_Door_yes (A : Option Addr) (c : Nat) (l : List Bd) (h : okB l = true) (h1 : 2 ≤ l.length) (w : World) (hR : BR w A c l) :
    Calls Try.prog 28 #[.slice A l.length c] w fun e w' => e = .returned (.tuple #[.agg #[.int .i64 (dk l l.length).n0, .int .i64 (dk l l.length).d0], .agg #[.int .i64 (dk l l.length).n1, .int .i64 (dk l l.length).d1], .int .i64 0]) ∧ Below w.heap.size w w' := by
  obtain ⟨k0, k1, k2⟩ := okB_spec h
  have c1 := pmc_Check A c l
  rw [chE_yes h] at c1
  have c2 := swing_whole A c l k2 k1 k0
  have n1 : ((l.length : Int) == 1) = false := by rw [beq_eq_false_iff_ne]; omega
  unfold Dr.cs at c2
  generalize dk l l.length = d at *
  generalize drOpen d = e at *
  obtain ⟨dt, dv, n0, d0, n1', d1, m⟩ := d
  simp only at c2 ⊢
  have i0 := ends_at0
  have i1 := ends_at1
  have HR := hide hR
  clear hR h h1 k0 k1 k2
  go_enter Try.func28, Try.ntmps28
  go_wp2_with fail
  refine (c1 _ (HR.out.below (bA (bA (b0 _) _) _))).mono ?_
  rintro e w1 ⟨rfl, hb1⟩
  have f_a1 := kp hb1 (ka (na w #[.int .i64 0, .int .i64 0] 52) (.cells #[.int .i64 0, .int .i64 0] 52))
  have f_b1 := kp hb1 (na1 w (.cells #[.int .i64 0, .int .i64 0] 52) #[.int .i64 0, .int .i64 0] 52)
  have hB1 := bB (bA (bA (b0 w) (.cells #[.int .i64 0, .int .i64 0] 52)) (.cells #[.int .i64 0, .int .i64 0] 52)) hb1
  obtain ⟨za_a, za_b, la1⟩ := rcell f_a1
  obtain ⟨zb_a, zb_b, lb1⟩ := rcell f_b1
  go_wp2_with fail
  refine (c2 _ (HR.out.below hB1)).mono ?_
  rintro e w2 ⟨rfl, hb2⟩
  have f_a2 := kp hb2 (f_a1)
  have f_b2 := kp hb2 (f_b1)
  have hB2 := bB hB1 hb2
  clear za_a za_b zb_a zb_b
  obtain ⟨za_a, za_b, la2⟩ := rcell f_a2
  obtain ⟨zb_a, zb_b, lb2⟩ := rcell f_b2
  go_wp2_with fail
  have f_a3 := (ka (f_a2) (.cells #[.int .i64 dt, .int .i64 dv, .int .i64 n0, .int .i64 d0, .int .i64 n1', .int .i64 d1, .int .i64 m] 72))
  have f_b3 := (ka (f_b2) (.cells #[.int .i64 dt, .int .i64 dv, .int .i64 n0, .int .i64 d0, .int .i64 n1', .int .i64 d1, .int .i64 m] 72))
  have f_d3 := (na w2 #[.int .i64 dt, .int .i64 dv, .int .i64 n0, .int .i64 d0, .int .i64 n1', .int .i64 d1, .int .i64 m] 72)
  have hB3 := (bA hB2 (.cells #[.int .i64 dt, .int .i64 dv, .int .i64 n0, .int .i64 d0, .int .i64 n1', .int .i64 d1, .int .i64 m] 72))
  clear za_a za_b zb_a zb_b
  have la3 := (rcell f_a3).2.2
  have lb3 := (rcell f_b3).2.2
  have ld3 := (rcell f_d3).2.2
  refine Abs.wp_region_abs (Abs.cls _ (fun k => k = w.heap.size ∨ k = w.heap.size + 1)) [0, 1, 2, 3, 4, 5, 6, 7, 8] (by kernel_rfl) (by kernel_rfl) (Below.refl _ _).drew ?_
  repeat (first | (refine Abs.step_pure rfl rfl (fun K hK => ?_); go_simp; (try go_bits); (first | refine hK _ _ ?_ | (simp only [↓IntWalk.iteOmega]; go_simp; (try go_bits); refine hK _ _ ?_)); clear hK K) | (refine Abs.step_late (v := ?_) rfl rfl (fun w0 hI => ?_) (fun K hK => ?_); rotate_left; (· have z0 := (rcell (kj hI (f_d3) (by omega))).1; go_simp; rfl); (simp only [Act.put, List.setIfInBounds_toArray, List.set_cons_zero, List.set_cons_succ]; refine hK _ _ ?_; clear hK K)) | (refine Abs.step_skip rfl rfl (fun K hK => ?_); (simp only [Act.put, List.setIfInBounds_toArray, List.set_cons_zero, List.set_cons_succ]; refine hK _ _ ?_; clear hK K)))
  (refine Abs.step_store (T := ?_) rfl rfl rfl (fun w0 hI hF hU => ?_) (fun w0 hI hU hJ => ?_) (fun K hK => ?_); rotate_left; (· have hR := kp hI (f_a3); have hg0 := (rcell hR).1; have hg1 := (rcell hR).2.1; simp only [Abs.T_setF, Abs.T_addA, Abs.T_push, Abs.T_start]; go_simp; exact row2 hR _ _); (· first | exact trivial | exact js hJ rfl _ | exact js hJ (Or.inl rfl) _ | exact js hJ (Or.inr rfl) _); (simp only [Act.put, List.setIfInBounds_toArray, List.set_cons_zero, List.set_cons_succ]; refine hK _ _ ?_; clear hK K))
  (refine Abs.step_store (T := ?_) rfl rfl rfl (fun w0 hI hF hU => ?_) (fun w0 hI hU hJ => ?_) (fun K hK => ?_); rotate_left; (· have hR := fun cs => (setRow_other (w := w0) (g := w.heap.size) cs (by omega)).trans (kp hI (f_b3)); have hg0 := fun cs => (rcell (hR cs)).1; have hg1 := fun cs => (rcell (hR cs)).2.1; simp only [Abs.T_setF, Abs.T_addA, Abs.T_push, Abs.T_start]; go_simp; exact row2 (hR _) _ _); (· first | exact trivial | exact js hJ rfl _ | exact js hJ (Or.inl rfl) _ | exact js hJ (Or.inr rfl) _); (simp only [Act.put, List.setIfInBounds_toArray, List.set_cons_zero, List.set_cons_succ]; refine hK _ _ ?_; clear hK K))
  repeat (first | (refine Abs.step_pure rfl rfl (fun K hK => ?_); go_simp; (try go_bits); (first | refine hK _ _ ?_ | (simp only [↓IntWalk.iteOmega]; go_simp; (try go_bits); refine hK _ _ ?_)); clear hK K) | (refine Abs.step_late (v := ?_) rfl rfl (fun w0 hI => ?_) (fun K hK => ?_); rotate_left; (· have z0 := (rcell (kj hI (f_d3) (by omega))).1; go_simp; rfl); (simp only [Act.put, List.setIfInBounds_toArray, List.set_cons_zero, List.set_cons_succ]; refine hK _ _ ?_; clear hK K)) | (refine Abs.step_skip rfl rfl (fun K hK => ?_); (simp only [Act.put, List.setIfInBounds_toArray, List.set_cons_zero, List.set_cons_succ]; refine hK _ _ ?_; clear hK K)))
  intro w0 hI hF hx1 hx2
  clear hx1 hx2 hF
  simp only [Abs.T_push]
  generalize hT4 : setRow w0 _ _ = w4
  obtain ⟨hx4, f_a4⟩ := fin_x hI (f_a3) hT4
  clear hT4 hI w0
  have f_b4 := kx hx4 (f_b3) (by omega)
  have f_d4 := kx hx4 (f_d3) (by omega)
  have hB4 := bX hB3 hx4 (by omega)
  obtain ⟨zb_a, zb_b, lb4⟩ := rcell f_b4
  obtain ⟨zd_a, zd_b, ld4⟩ := rcell f_d4
  obtain ⟨za_a, za_b, la4⟩ := rcell f_a4
  generalize hT5 : setRow w4 _ _ = w5
  obtain ⟨hx5, f_b5⟩ := fin_x (b0 _) f_b4 hT5
  clear hT5
  have f_d5 := kx hx5 (f_d4) (by omega)
  have f_a5 := kx hx5 (f_a4) (by omega)
  have hB5 := bX hB4 hx5 (by omega)
  clear za_a za_b zb_a zb_b zd_a zd_b
  obtain ⟨zd_a, zd_b, ld5⟩ := rcell f_d5
  obtain ⟨za_a, za_b, la5⟩ := rcell f_a5
  obtain ⟨zb_a, zb_b, lb5⟩ := rcell f_b5
  go_wp2_with fail
  refine bodyPost_ret (by simp [results, Try.results28, go_sem, za_a, zb_a]; try rfl) rfl ⟨rfl, hB5⟩

set_option maxRecDepth 100000 in
theorem swing_Fit_no (A : Option Addr) (c : Nat) (l : List Bd) (h : okB l = false) (w : World) (hR : BR w A c l) :
    Calls Try.prog 12 #[.slice A l.length c] w fun e w' => e = .returned (.tuple #[.agg #[.int .i64 0, .int .i64 0, .int .i64 0, .int .i64 0], .int .i64 180]) ∧ Below w.heap.size w w' := by
  have c1 := pmc_Check A c l
  rw [chE_no h] at c1
  go_enter Try.func12, Try.ntmps12
  go_wp2_with fail
  refine (c1 _ (hR.below (bA (b0 _) _))).mono ?_
  rintro e w1 ⟨rfl, hb1⟩
  have f_o1 := kp hb1 (na w #[.int .i64 0, .int .i64 0, .int .i64 0, .int .i64 0] 23)
  have hB1 := bB (bA (b0 w) (.cells #[.int .i64 0, .int .i64 0, .int .i64 0, .int .i64 0] 23)) hb1
  obtain ⟨zo_a, zo_b, lo1⟩ := rcell f_o1
  go_wp2
  (rw [row4 (f_o1)]; generalize hT : setRow _ _ _ = wE; obtain ⟨hbE, hgE⟩ := ret_row hB1 (by omega) (f_o1) hT; have zE := (rcell hgE).1; clear hT; refine bodyPost_ret (by simp [results, Try.results12, go_sem, zE]; try rfl) rfl ?_)
  exact ⟨rfl, hbE⟩
end Go.Proofs.Ytfdaabdibpcjeaa
