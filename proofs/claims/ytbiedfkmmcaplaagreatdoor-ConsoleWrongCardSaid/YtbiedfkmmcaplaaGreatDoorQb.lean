/- The console's laws at this program: console.Same of any two commands. -/
import Derived.Test.YtbiedfkmmcaplaaGreatDoorQa
set_option linter.all false
namespace Go.Proofs.YtbiedfkmmcaplaaGreatDoor
open Go.RowKit
attribute [local go_sem] Oper.semAt_some

set_option maxRecDepth 100000 in
set_option maxHeartbeats 40000000 in
theorem con_Same (x y : Cm) (A : Option Addr) (ac : Nat) (M : Option Addr) (mc : Nat) (A2 : Option Addr) (ac2 : Nat) (M2 : Option Addr) (mc2 : Nat) (w : World) (h1 : RK 166 2 w A x.pts.length ac (ptsV x.pts)) (h2 : RK 3 1 w M x.masks.length mc (intV x.masks)) (h3 : RK 166 2 w A2 y.pts.length ac2 (ptsV y.pts)) (h4 : RK 3 1 w M2 y.masks.length mc2 (intV y.masks)) :
    Calls Tryz.prog 31 #[.agg (x.cs A ac M mc), .agg (y.cs A2 ac2 M2 mc2)] w fun e w' => ∃ b : Bool, e = .returned (.bool b) ∧ (b = true ↔ x = y) ∧ Below w.heap.size w w' := by
  have l1 : x.pts.length ≤ 9223372036854775807 := Nat.le_trans h1.cap h1.top
  have l2 : x.masks.length ≤ 9223372036854775807 := Nat.le_trans h2.cap h2.top
  have l3 : y.pts.length ≤ 9223372036854775807 := Nat.le_trans h3.cap h3.top
  have l4 : y.masks.length ≤ 9223372036854775807 := Nat.le_trans h4.cap h4.top
  have CP := hide (fun W (hb : Below w.heap.size w W) => con_EqP A ac A2 ac2 x.pts y.pts W (h1.inK.inV.below hb) (h3.inK.inV.below hb) l1 l3)
  have CI := hide (fun W (hb : Below w.heap.size w W) => con_EqI M mc M2 mc2 x.masks y.masks W (h2.inK.inV.below hb) (h4.inK.inV.below hb) l2 l4)
  clear h1 h2 h3 h4 l1 l2 l3 l4
  obtain ⟨R, hR⟩ : ∃ R : Prop, R = (x = y) := ⟨_, rfl⟩
  rw [← hR]
  unfold Cm.cs
  obtain ⟨x0, x1, x2, x3, x4, x5, x6, xp, x7, x8, x9, x10, x11, x12, x13, x14, x15, x16, xm⟩ := x
  obtain ⟨y0, y1, y2, y3, y4, y5, y6, yp, y7, y8, y9, y10, y11, y12, y13, y14, y15, y16, ym⟩ := y
  simp only at *
  have HR := hide hR
  clear hR
  generalize xp.length = pn at *
  generalize yp.length = qn at *
  generalize xm.length = mn at *
  generalize ym.length = nn at *
  have g1 := kp (bA (b0 _) (.cells (cmdCs y0 ⟨y1, y2, y3, y4, y5, y6, A2, qn, ac2, y7, y8, y9, y10, y11, y12, y13, y14, y15⟩ y16 M2 nn mc2) 38)) (na w (cmdCs x0 ⟨x1, x2, x3, x4, x5, x6, A, pn, ac, x7, x8, x9, x10, x11, x12, x13, x14, x15⟩ x16 M mn mc) 38)
  have g2 := na (w.alloc (.cells (cmdCs x0 ⟨x1, x2, x3, x4, x5, x6, A, pn, ac, x7, x8, x9, x10, x11, x12, x13, x14, x15⟩ x16 M mn mc) 38)) (cmdCs y0 ⟨y1, y2, y3, y4, y5, y6, A2, qn, ac2, y7, y8, y9, y10, y11, y12, y13, y14, y15⟩ y16 M2 nn mc2) 38
  have hsz : (w.alloc (.cells (cmdCs x0 ⟨x1, x2, x3, x4, x5, x6, A, pn, ac, x7, x8, x9, x10, x11, x12, x13, x14, x15⟩ x16 M mn mc) 38)).heap.size = w.heap.size + 1 := by simp
  rw [hsz] at g2
  unfold cmdCs at g1 g2
  have HB1 : Hid (Below w.heap.size w ((w.alloc (.cells (cmdCs x0 ⟨x1, x2, x3, x4, x5, x6, A, pn, ac, x7, x8, x9, x10, x11, x12, x13, x14, x15⟩ x16 M mn mc) 38)).alloc (.cells (cmdCs y0 ⟨y1, y2, y3, y4, y5, y6, A2, qn, ac2, y7, y8, y9, y10, y11, y12, y13, y14, y15⟩ y16 M2 nn mc2) 38))) := hide (bA (bA (b0 w) _) _)
  unfold cmdCs at HB1
  clear hsz
  unfold cmdCs
  go_enter Tryz.func31, Tryz.ntmps31
  go_wp2_with fail
  generalize hw1 : ((w.alloc _).alloc _) = w1 at *
  clear hw1
  refine Abs.wp_region_abs (Abs.cls _ (fun _ => False)) [0, 1, 2, 3, 4, 5, 6, 7] (by kernel_rfl) (by kernel_rfl) (Below.refl _ _).drew ?_
  (refine Abs.step_pure rfl rfl (fun K hK => ?_); go_simp; (try go_bits); (first | refine hK _ _ ?_ | (simp only [↓IntWalk.iteOmega]; go_simp; (try go_bits); refine hK _ _ ?_)); clear hK K)
  (refine Abs.step_late (v := ?_) rfl rfl (fun w0 hI => ?_) (fun K hK => ?_); rotate_left; (· have z0 := (rcell (late_kp hI (g1))).1; have z1 := (rcell (late_kp hI (g2))).1; go_simp; rfl); (simp only [Act.put, List.setIfInBounds_toArray, List.set_cons_zero, List.set_cons_succ]; refine hK _ _ ?_; clear hK K))
  (refine Abs.step_pure rfl rfl (fun K hK => ?_); go_simp; (try go_bits); (first | refine hK _ _ ?_ | (simp only [↓IntWalk.iteOmega]; go_simp; (try go_bits); refine hK _ _ ?_)); clear hK K)
  (refine Abs.step_late (v := ?_) rfl rfl (fun w0 hI => ?_) (fun K hK => ?_); rotate_left; (· have z0 := (rcell (late_kp hI (g1))).1; have z1 := (rcell (late_kp hI (g2))).1; go_simp; rfl); (simp only [Act.put, List.setIfInBounds_toArray, List.set_cons_zero, List.set_cons_succ]; refine hK _ _ ?_; clear hK K))
  (refine Abs.step_new (f := fun g => .pointer (some ⟨g, 0, none⟩)) (obj := ?_) rfl rfl rfl rfl (fun w0 => ?_) (fun K hK g_a hv_a hu_a => ?_); rotate_left; (· go_simp; rfl); (simp only [Act.put, List.setIfInBounds_toArray, List.set_cons_zero, List.set_cons_succ]; refine hK _ _ ?_; clear hK K))
  (refine Abs.step_new (f := fun g => .pointer (some ⟨g, 0, none⟩)) (obj := ?_) rfl rfl rfl rfl (fun w0 => ?_) (fun K hK g_b hv_b hu_b => ?_); rotate_left; (· go_simp; rfl); (simp only [Act.put, List.setIfInBounds_toArray, List.set_cons_zero, List.set_cons_succ]; refine hK _ _ ?_; clear hK K))
  have hn : g_b ≠ g_a := fun e => hu_b (Or.inl e)
  (refine Abs.step_store (T := fun w0 => setRow w0 g_a #[.int .i64 x1, .int .i64 x2, .string x3, .int .i64 x4, .int .i64 x5, .int .i64 x6, .slice A pn ac, .int .i64 x7, .string x8, .int .i64 x9, .int .i64 x10, .int .i64 x11, .int .i64 x12, .string x13, .int .i64 x14, .int .u64 x15]) rfl rfl rfl (fun w0 hI hF hU => ?_) (fun w0 hI hU hJ => late_set hJ hv_a _) (fun K hK => ?_); (· simp only [Abs.T_setF, Abs.T_addA, Abs.T_push, Abs.T_start]; exact exec_storeX rfl rfl rfl ((hF 4).1.2 rfl) size29 rfl (by simp [Value.oneCell'])); (simp only [Act.put, List.setIfInBounds_toArray, List.set_cons_zero, List.set_cons_succ]; refine hK _ _ ?_; clear hK K))
  (refine Abs.step_store (T := fun w0 => setRow (setRow w0 g_a #[.int .i64 x1, .int .i64 x2, .string x3, .int .i64 x4, .int .i64 x5, .int .i64 x6, .slice A pn ac, .int .i64 x7, .string x8, .int .i64 x9, .int .i64 x10, .int .i64 x11, .int .i64 x12, .string x13, .int .i64 x14, .int .u64 x15]) g_b #[.int .i64 y1, .int .i64 y2, .string y3, .int .i64 y4, .int .i64 y5, .int .i64 y6, .slice A2 qn ac2, .int .i64 y7, .string y8, .int .i64 y9, .int .i64 y10, .int .i64 y11, .int .i64 y12, .string y13, .int .i64 y14, .int .u64 y15]) rfl rfl rfl (fun w0 hI hF hU => ?_) (fun w0 hI hU hJ => late_set hJ hv_b _) (fun K hK => ?_); (· simp only [Abs.T_setF, Abs.T_addA, Abs.T_push, Abs.T_start]; exact exec_storeX rfl rfl rfl (((setRow_other _ hn).trans ((hF 5).2 rfl))) size29 rfl (by simp [Value.oneCell'])); (simp only [Act.put, List.setIfInBounds_toArray, List.set_cons_zero, List.set_cons_succ]; refine hK _ _ ?_; clear hK K))
  intro w0 hI hF hx1 hx2
  have qa := (hF 4).1.2 rfl
  have qb := (hF 5).2 rfl
  clear hx1 hx2 hF
  simp only [Abs.T_setF, Abs.T_addA, Abs.T_push, Abs.T_start]
  have hv_a2 : w1.heap.size ≤ g_a := hv_a
  have hv_b2 : w1.heap.size ≤ g_b := hv_b
  generalize hTa : setRow w0 g_a _ = wa
  obtain ⟨hba, fa2⟩ := fin1 hI hv_a2 qa hTa
  have qb2 := (congrArg (fun W : World => W.heap[g_b]?) hTa).symm.trans ((setRow_other _ hn).trans qb)
  generalize hTb : setRow wa g_b _ = w2
  obtain ⟨hb2, fb2⟩ := fin1 hba hv_b2 qb2 hTb
  replace fa2 := (congrArg (fun W : World => W.heap[g_a]?) hTb).symm.trans ((setRow_other _ (Ne.symm hn)).trans fa2)
  have g1 := kp hb2 g1
  have g2 := kp hb2 g2
  have HB2 := hide (bB HB1.out hb2)
  clear qa qb qb2 hTa hTb hba hb2 hI hv_a hv_b hv_a2 hv_b2 hu_a hu_b hn
  obtain ⟨ga2, hga2⟩ : ∃ ga, ga = g_a := ⟨_, rfl⟩
  obtain ⟨gb2, hgb2⟩ : ∃ gb, gb = g_b := ⟨_, rfl⟩
  rw [← hga2] at fa2 ⊢
  rw [← hgb2] at fb2 ⊢
  clear hga2 hgb2
  clear HB1
  by_cases he : ¬ x1 = y1
  · have HNE := hide (show R → False from fun r => he (congrArg Cm.ok (Eq.mp HR.out r)))
    have n1 : (x1 == y1) = false := beq_eq_false_iff_ne.2 he
    have n2 : decide (x1 = y1) = false := decide_eq_false he
    clear he
    obtain ⟨u1, u2, u3⟩ := rcell fa2
    obtain ⟨v1, v2, v3⟩ := rcell fb2
    go_wp2_with fail
    clear u1 u2 u3 v1 v2 v3
    refine Abs.wp_region_abs (Abs.cls _ (fun _ => False)) [0, 1, 2, 3, 4, 5, 6, 7] (by kernel_rfl) (by kernel_rfl) (Below.refl _ _).drew ?_
    (refine Abs.step_pure rfl rfl (fun K hK => ?_); go_simp; (try go_bits); (first | refine hK _ _ ?_ | (simp only [↓IntWalk.iteOmega]; go_simp; (try go_bits); refine hK _ _ ?_)); clear hK K)
    (refine Abs.step_late (v := ?_) rfl rfl (fun w0 hI => ?_) (fun K hK => ?_); rotate_left; (· have z0 := (rcell (late_kp hI (fa2))).1; have z1 := (rcell (late_kp hI (fb2))).1; go_simp; rfl); (simp only [Act.put, List.setIfInBounds_toArray, List.set_cons_zero, List.set_cons_succ]; refine hK _ _ ?_; clear hK K))
    (refine Abs.step_pure rfl rfl (fun K hK => ?_); go_simp; (try go_bits); (first | refine hK _ _ ?_ | (simp only [↓IntWalk.iteOmega]; go_simp; (try go_bits); refine hK _ _ ?_)); clear hK K)
    (refine Abs.step_late (v := ?_) rfl rfl (fun w0 hI => ?_) (fun K hK => ?_); rotate_left; (· have z0 := (rcell (late_kp hI (fa2))).1; have z1 := (rcell (late_kp hI (fb2))).1; go_simp; rfl); (simp only [Act.put, List.setIfInBounds_toArray, List.set_cons_zero, List.set_cons_succ]; refine hK _ _ ?_; clear hK K))
    (refine Abs.step_new (f := fun g => .pointer (some ⟨g, 0, none⟩)) (obj := ?_) rfl rfl rfl rfl (fun w0 => ?_) (fun K hK g_a hv_a hu_a => ?_); rotate_left; (· go_simp; rfl); (simp only [Act.put, List.setIfInBounds_toArray, List.set_cons_zero, List.set_cons_succ]; refine hK _ _ ?_; clear hK K))
    (refine Abs.step_new (f := fun g => .pointer (some ⟨g, 0, none⟩)) (obj := ?_) rfl rfl rfl rfl (fun w0 => ?_) (fun K hK g_b hv_b hu_b => ?_); rotate_left; (· go_simp; rfl); (simp only [Act.put, List.setIfInBounds_toArray, List.set_cons_zero, List.set_cons_succ]; refine hK _ _ ?_; clear hK K))
    have hn : g_b ≠ g_a := fun e => hu_b (Or.inl e)
    (refine Abs.step_store (T := fun w0 => setRow w0 g_a #[.int .i64 x2, .string x3, .int .i64 x4, .int .i64 x5, .int .i64 x6, .slice A pn ac]) rfl rfl rfl (fun w0 hI hF hU => ?_) (fun w0 hI hU hJ => late_set hJ hv_a _) (fun K hK => ?_); (· simp only [Abs.T_setF, Abs.T_addA, Abs.T_push, Abs.T_start]; exact exec_storeX rfl rfl rfl ((hF 4).1.2 rfl) size24 rfl (by simp [Value.oneCell'])); (simp only [Act.put, List.setIfInBounds_toArray, List.set_cons_zero, List.set_cons_succ]; refine hK _ _ ?_; clear hK K))
    (refine Abs.step_store (T := fun w0 => setRow (setRow w0 g_a #[.int .i64 x2, .string x3, .int .i64 x4, .int .i64 x5, .int .i64 x6, .slice A pn ac]) g_b #[.int .i64 y2, .string y3, .int .i64 y4, .int .i64 y5, .int .i64 y6, .slice A2 qn ac2]) rfl rfl rfl (fun w0 hI hF hU => ?_) (fun w0 hI hU hJ => late_set hJ hv_b _) (fun K hK => ?_); (· simp only [Abs.T_setF, Abs.T_addA, Abs.T_push, Abs.T_start]; exact exec_storeX rfl rfl rfl (((setRow_other _ hn).trans ((hF 5).2 rfl))) size24 rfl (by simp [Value.oneCell'])); (simp only [Act.put, List.setIfInBounds_toArray, List.set_cons_zero, List.set_cons_succ]; refine hK _ _ ?_; clear hK K))
    intro w0 hI hF hx1 hx2
    have qa := (hF 4).1.2 rfl
    have qb := (hF 5).2 rfl
    clear hx1 hx2 hF
    simp only [Abs.T_setF, Abs.T_addA, Abs.T_push, Abs.T_start]
    have hv_a2 : w2.heap.size ≤ g_a := hv_a
    have hv_b2 : w2.heap.size ≤ g_b := hv_b
    generalize hTa : setRow w0 g_a _ = wa
    obtain ⟨hba, fa3⟩ := fin1 hI hv_a2 qa hTa
    have qb2 := (congrArg (fun W : World => W.heap[g_b]?) hTa).symm.trans ((setRow_other _ hn).trans qb)
    generalize hTb : setRow wa g_b _ = w3
    obtain ⟨hb3, fb3⟩ := fin1 hba hv_b2 qb2 hTb
    replace fa3 := (congrArg (fun W : World => W.heap[g_a]?) hTb).symm.trans ((setRow_other _ (Ne.symm hn)).trans fa3)
    have g1 := kp hb3 g1
    have g2 := kp hb3 g2
    have HB3 := hide (bB HB2.out hb3)
    clear qa qb qb2 hTa hTb hba hb3 hI hv_a hv_b hv_a2 hv_b2 hu_a hu_b hn
    obtain ⟨ga3, hga3⟩ : ∃ ga, ga = g_a := ⟨_, rfl⟩
    obtain ⟨gb3, hgb3⟩ : ∃ gb, gb = g_b := ⟨_, rfl⟩
    rw [← hga3] at fa3 ⊢
    rw [← hgb3] at fb3 ⊢
    clear hga3 hgb3
    go_wp2_with fail
    go_ret
    exact ⟨_, rfl, ⟨(fun h => by cases h), fun h => (HNE.out h).elim⟩, HB3.out⟩
  replace he := Classical.not_not.1 he
  subst he
  by_cases he : ¬ x7 = y7
  · have HNE := hide (show R → False from fun r => he (congrArg Cm.qk (Eq.mp HR.out r)))
    have n1 : (x7 == y7) = false := beq_eq_false_iff_ne.2 he
    have n2 : decide (x7 = y7) = false := decide_eq_false he
    clear he
    obtain ⟨u1, u2, u3⟩ := rcell fa2
    obtain ⟨v1, v2, v3⟩ := rcell fb2
    go_wp2_with fail
    clear u1 u2 u3 v1 v2 v3
    refine Abs.wp_region_abs (Abs.cls _ (fun _ => False)) [0, 1, 2, 3, 4, 5, 6, 7] (by kernel_rfl) (by kernel_rfl) (Below.refl _ _).drew ?_
    (refine Abs.step_pure rfl rfl (fun K hK => ?_); go_simp; (try go_bits); (first | refine hK _ _ ?_ | (simp only [↓IntWalk.iteOmega]; go_simp; (try go_bits); refine hK _ _ ?_)); clear hK K)
    (refine Abs.step_late (v := ?_) rfl rfl (fun w0 hI => ?_) (fun K hK => ?_); rotate_left; (· have z0 := (rcell (late_kp hI (fa2))).1; have z1 := (rcell (late_kp hI (fb2))).1; go_simp; rfl); (simp only [Act.put, List.setIfInBounds_toArray, List.set_cons_zero, List.set_cons_succ]; refine hK _ _ ?_; clear hK K))
    (refine Abs.step_pure rfl rfl (fun K hK => ?_); go_simp; (try go_bits); (first | refine hK _ _ ?_ | (simp only [↓IntWalk.iteOmega]; go_simp; (try go_bits); refine hK _ _ ?_)); clear hK K)
    (refine Abs.step_late (v := ?_) rfl rfl (fun w0 hI => ?_) (fun K hK => ?_); rotate_left; (· have z0 := (rcell (late_kp hI (fa2))).1; have z1 := (rcell (late_kp hI (fb2))).1; go_simp; rfl); (simp only [Act.put, List.setIfInBounds_toArray, List.set_cons_zero, List.set_cons_succ]; refine hK _ _ ?_; clear hK K))
    (refine Abs.step_new (f := fun g => .pointer (some ⟨g, 0, none⟩)) (obj := ?_) rfl rfl rfl rfl (fun w0 => ?_) (fun K hK g_a hv_a hu_a => ?_); rotate_left; (· go_simp; rfl); (simp only [Act.put, List.setIfInBounds_toArray, List.set_cons_zero, List.set_cons_succ]; refine hK _ _ ?_; clear hK K))
    (refine Abs.step_new (f := fun g => .pointer (some ⟨g, 0, none⟩)) (obj := ?_) rfl rfl rfl rfl (fun w0 => ?_) (fun K hK g_b hv_b hu_b => ?_); rotate_left; (· go_simp; rfl); (simp only [Act.put, List.setIfInBounds_toArray, List.set_cons_zero, List.set_cons_succ]; refine hK _ _ ?_; clear hK K))
    have hn : g_b ≠ g_a := fun e => hu_b (Or.inl e)
    (refine Abs.step_store (T := fun w0 => setRow w0 g_a #[.int .i64 x2, .string x3, .int .i64 x4, .int .i64 x5, .int .i64 x6, .slice A pn ac]) rfl rfl rfl (fun w0 hI hF hU => ?_) (fun w0 hI hU hJ => late_set hJ hv_a _) (fun K hK => ?_); (· simp only [Abs.T_setF, Abs.T_addA, Abs.T_push, Abs.T_start]; exact exec_storeX rfl rfl rfl ((hF 4).1.2 rfl) size24 rfl (by simp [Value.oneCell'])); (simp only [Act.put, List.setIfInBounds_toArray, List.set_cons_zero, List.set_cons_succ]; refine hK _ _ ?_; clear hK K))
    (refine Abs.step_store (T := fun w0 => setRow (setRow w0 g_a #[.int .i64 x2, .string x3, .int .i64 x4, .int .i64 x5, .int .i64 x6, .slice A pn ac]) g_b #[.int .i64 y2, .string y3, .int .i64 y4, .int .i64 y5, .int .i64 y6, .slice A2 qn ac2]) rfl rfl rfl (fun w0 hI hF hU => ?_) (fun w0 hI hU hJ => late_set hJ hv_b _) (fun K hK => ?_); (· simp only [Abs.T_setF, Abs.T_addA, Abs.T_push, Abs.T_start]; exact exec_storeX rfl rfl rfl (((setRow_other _ hn).trans ((hF 5).2 rfl))) size24 rfl (by simp [Value.oneCell'])); (simp only [Act.put, List.setIfInBounds_toArray, List.set_cons_zero, List.set_cons_succ]; refine hK _ _ ?_; clear hK K))
    intro w0 hI hF hx1 hx2
    have qa := (hF 4).1.2 rfl
    have qb := (hF 5).2 rfl
    clear hx1 hx2 hF
    simp only [Abs.T_setF, Abs.T_addA, Abs.T_push, Abs.T_start]
    have hv_a2 : w2.heap.size ≤ g_a := hv_a
    have hv_b2 : w2.heap.size ≤ g_b := hv_b
    generalize hTa : setRow w0 g_a _ = wa
    obtain ⟨hba, fa3⟩ := fin1 hI hv_a2 qa hTa
    have qb2 := (congrArg (fun W : World => W.heap[g_b]?) hTa).symm.trans ((setRow_other _ hn).trans qb)
    generalize hTb : setRow wa g_b _ = w3
    obtain ⟨hb3, fb3⟩ := fin1 hba hv_b2 qb2 hTb
    replace fa3 := (congrArg (fun W : World => W.heap[g_a]?) hTb).symm.trans ((setRow_other _ (Ne.symm hn)).trans fa3)
    have g1 := kp hb3 g1
    have g2 := kp hb3 g2
    have HB3 := hide (bB HB2.out hb3)
    clear qa qb qb2 hTa hTb hba hb3 hI hv_a hv_b hv_a2 hv_b2 hu_a hu_b hn
    obtain ⟨ga3, hga3⟩ : ∃ ga, ga = g_a := ⟨_, rfl⟩
    obtain ⟨gb3, hgb3⟩ : ∃ gb, gb = g_b := ⟨_, rfl⟩
    rw [← hga3] at fa3 ⊢
    rw [← hgb3] at fb3 ⊢
    clear hga3 hgb3
    go_wp2_with fail
    go_ret
    exact ⟨_, rfl, ⟨(fun h => by cases h), fun h => (HNE.out h).elim⟩, HB3.out⟩
  replace he := Classical.not_not.1 he
  subst he
  by_cases he : ¬ x8 = y8
  · have HNE := hide (show R → False from fun r => he (congrArg Cm.qn (Eq.mp HR.out r)))
    have n1 : (x8.toList == y8.toList) = false := eqF he
    clear he
    obtain ⟨u1, u2, u3⟩ := rcell fa2
    obtain ⟨v1, v2, v3⟩ := rcell fb2
    go_wp2_with fail
    clear u1 u2 u3 v1 v2 v3
    refine Abs.wp_region_abs (Abs.cls _ (fun _ => False)) [0, 1, 2, 3, 4, 5, 6, 7] (by kernel_rfl) (by kernel_rfl) (Below.refl _ _).drew ?_
    (refine Abs.step_pure rfl rfl (fun K hK => ?_); go_simp; (try go_bits); (first | refine hK _ _ ?_ | (simp only [↓IntWalk.iteOmega]; go_simp; (try go_bits); refine hK _ _ ?_)); clear hK K)
    (refine Abs.step_late (v := ?_) rfl rfl (fun w0 hI => ?_) (fun K hK => ?_); rotate_left; (· have z0 := (rcell (late_kp hI (fa2))).1; have z1 := (rcell (late_kp hI (fb2))).1; go_simp; rfl); (simp only [Act.put, List.setIfInBounds_toArray, List.set_cons_zero, List.set_cons_succ]; refine hK _ _ ?_; clear hK K))
    (refine Abs.step_pure rfl rfl (fun K hK => ?_); go_simp; (try go_bits); (first | refine hK _ _ ?_ | (simp only [↓IntWalk.iteOmega]; go_simp; (try go_bits); refine hK _ _ ?_)); clear hK K)
    (refine Abs.step_late (v := ?_) rfl rfl (fun w0 hI => ?_) (fun K hK => ?_); rotate_left; (· have z0 := (rcell (late_kp hI (fa2))).1; have z1 := (rcell (late_kp hI (fb2))).1; go_simp; rfl); (simp only [Act.put, List.setIfInBounds_toArray, List.set_cons_zero, List.set_cons_succ]; refine hK _ _ ?_; clear hK K))
    (refine Abs.step_new (f := fun g => .pointer (some ⟨g, 0, none⟩)) (obj := ?_) rfl rfl rfl rfl (fun w0 => ?_) (fun K hK g_a hv_a hu_a => ?_); rotate_left; (· go_simp; rfl); (simp only [Act.put, List.setIfInBounds_toArray, List.set_cons_zero, List.set_cons_succ]; refine hK _ _ ?_; clear hK K))
    (refine Abs.step_new (f := fun g => .pointer (some ⟨g, 0, none⟩)) (obj := ?_) rfl rfl rfl rfl (fun w0 => ?_) (fun K hK g_b hv_b hu_b => ?_); rotate_left; (· go_simp; rfl); (simp only [Act.put, List.setIfInBounds_toArray, List.set_cons_zero, List.set_cons_succ]; refine hK _ _ ?_; clear hK K))
    have hn : g_b ≠ g_a := fun e => hu_b (Or.inl e)
    (refine Abs.step_store (T := fun w0 => setRow w0 g_a #[.int .i64 x2, .string x3, .int .i64 x4, .int .i64 x5, .int .i64 x6, .slice A pn ac]) rfl rfl rfl (fun w0 hI hF hU => ?_) (fun w0 hI hU hJ => late_set hJ hv_a _) (fun K hK => ?_); (· simp only [Abs.T_setF, Abs.T_addA, Abs.T_push, Abs.T_start]; exact exec_storeX rfl rfl rfl ((hF 4).1.2 rfl) size24 rfl (by simp [Value.oneCell'])); (simp only [Act.put, List.setIfInBounds_toArray, List.set_cons_zero, List.set_cons_succ]; refine hK _ _ ?_; clear hK K))
    (refine Abs.step_store (T := fun w0 => setRow (setRow w0 g_a #[.int .i64 x2, .string x3, .int .i64 x4, .int .i64 x5, .int .i64 x6, .slice A pn ac]) g_b #[.int .i64 y2, .string y3, .int .i64 y4, .int .i64 y5, .int .i64 y6, .slice A2 qn ac2]) rfl rfl rfl (fun w0 hI hF hU => ?_) (fun w0 hI hU hJ => late_set hJ hv_b _) (fun K hK => ?_); (· simp only [Abs.T_setF, Abs.T_addA, Abs.T_push, Abs.T_start]; exact exec_storeX rfl rfl rfl (((setRow_other _ hn).trans ((hF 5).2 rfl))) size24 rfl (by simp [Value.oneCell'])); (simp only [Act.put, List.setIfInBounds_toArray, List.set_cons_zero, List.set_cons_succ]; refine hK _ _ ?_; clear hK K))
    intro w0 hI hF hx1 hx2
    have qa := (hF 4).1.2 rfl
    have qb := (hF 5).2 rfl
    clear hx1 hx2 hF
    simp only [Abs.T_setF, Abs.T_addA, Abs.T_push, Abs.T_start]
    have hv_a2 : w2.heap.size ≤ g_a := hv_a
    have hv_b2 : w2.heap.size ≤ g_b := hv_b
    generalize hTa : setRow w0 g_a _ = wa
    obtain ⟨hba, fa3⟩ := fin1 hI hv_a2 qa hTa
    have qb2 := (congrArg (fun W : World => W.heap[g_b]?) hTa).symm.trans ((setRow_other _ hn).trans qb)
    generalize hTb : setRow wa g_b _ = w3
    obtain ⟨hb3, fb3⟩ := fin1 hba hv_b2 qb2 hTb
    replace fa3 := (congrArg (fun W : World => W.heap[g_a]?) hTb).symm.trans ((setRow_other _ (Ne.symm hn)).trans fa3)
    have g1 := kp hb3 g1
    have g2 := kp hb3 g2
    have HB3 := hide (bB HB2.out hb3)
    clear qa qb qb2 hTa hTb hba hb3 hI hv_a hv_b hv_a2 hv_b2 hu_a hu_b hn
    obtain ⟨ga3, hga3⟩ : ∃ ga, ga = g_a := ⟨_, rfl⟩
    obtain ⟨gb3, hgb3⟩ : ∃ gb, gb = g_b := ⟨_, rfl⟩
    rw [← hga3] at fa3 ⊢
    rw [← hgb3] at fb3 ⊢
    clear hga3 hgb3
    go_wp2_with fail
    go_ret
    exact ⟨_, rfl, ⟨(fun h => by cases h), fun h => (HNE.out h).elim⟩, HB3.out⟩
  replace he := Classical.not_not.1 he
  subst he
  by_cases he : ¬ x9 = y9
  · have HNE := hide (show R → False from fun r => he (congrArg Cm.qa (Eq.mp HR.out r)))
    have n1 : (x9 == y9) = false := beq_eq_false_iff_ne.2 he
    have n2 : decide (x9 = y9) = false := decide_eq_false he
    clear he
    obtain ⟨u1, u2, u3⟩ := rcell fa2
    obtain ⟨v1, v2, v3⟩ := rcell fb2
    go_wp2_with fail
    clear u1 u2 u3 v1 v2 v3
    refine Abs.wp_region_abs (Abs.cls _ (fun _ => False)) [0, 1, 2, 3, 4, 5, 6, 7] (by kernel_rfl) (by kernel_rfl) (Below.refl _ _).drew ?_
    (refine Abs.step_pure rfl rfl (fun K hK => ?_); go_simp; (try go_bits); (first | refine hK _ _ ?_ | (simp only [↓IntWalk.iteOmega]; go_simp; (try go_bits); refine hK _ _ ?_)); clear hK K)
    (refine Abs.step_late (v := ?_) rfl rfl (fun w0 hI => ?_) (fun K hK => ?_); rotate_left; (· have z0 := (rcell (late_kp hI (fa2))).1; have z1 := (rcell (late_kp hI (fb2))).1; go_simp; rfl); (simp only [Act.put, List.setIfInBounds_toArray, List.set_cons_zero, List.set_cons_succ]; refine hK _ _ ?_; clear hK K))
    (refine Abs.step_pure rfl rfl (fun K hK => ?_); go_simp; (try go_bits); (first | refine hK _ _ ?_ | (simp only [↓IntWalk.iteOmega]; go_simp; (try go_bits); refine hK _ _ ?_)); clear hK K)
    (refine Abs.step_late (v := ?_) rfl rfl (fun w0 hI => ?_) (fun K hK => ?_); rotate_left; (· have z0 := (rcell (late_kp hI (fa2))).1; have z1 := (rcell (late_kp hI (fb2))).1; go_simp; rfl); (simp only [Act.put, List.setIfInBounds_toArray, List.set_cons_zero, List.set_cons_succ]; refine hK _ _ ?_; clear hK K))
    (refine Abs.step_new (f := fun g => .pointer (some ⟨g, 0, none⟩)) (obj := ?_) rfl rfl rfl rfl (fun w0 => ?_) (fun K hK g_a hv_a hu_a => ?_); rotate_left; (· go_simp; rfl); (simp only [Act.put, List.setIfInBounds_toArray, List.set_cons_zero, List.set_cons_succ]; refine hK _ _ ?_; clear hK K))
    (refine Abs.step_new (f := fun g => .pointer (some ⟨g, 0, none⟩)) (obj := ?_) rfl rfl rfl rfl (fun w0 => ?_) (fun K hK g_b hv_b hu_b => ?_); rotate_left; (· go_simp; rfl); (simp only [Act.put, List.setIfInBounds_toArray, List.set_cons_zero, List.set_cons_succ]; refine hK _ _ ?_; clear hK K))
    have hn : g_b ≠ g_a := fun e => hu_b (Or.inl e)
    (refine Abs.step_store (T := fun w0 => setRow w0 g_a #[.int .i64 x2, .string x3, .int .i64 x4, .int .i64 x5, .int .i64 x6, .slice A pn ac]) rfl rfl rfl (fun w0 hI hF hU => ?_) (fun w0 hI hU hJ => late_set hJ hv_a _) (fun K hK => ?_); (· simp only [Abs.T_setF, Abs.T_addA, Abs.T_push, Abs.T_start]; exact exec_storeX rfl rfl rfl ((hF 4).1.2 rfl) size24 rfl (by simp [Value.oneCell'])); (simp only [Act.put, List.setIfInBounds_toArray, List.set_cons_zero, List.set_cons_succ]; refine hK _ _ ?_; clear hK K))
    (refine Abs.step_store (T := fun w0 => setRow (setRow w0 g_a #[.int .i64 x2, .string x3, .int .i64 x4, .int .i64 x5, .int .i64 x6, .slice A pn ac]) g_b #[.int .i64 y2, .string y3, .int .i64 y4, .int .i64 y5, .int .i64 y6, .slice A2 qn ac2]) rfl rfl rfl (fun w0 hI hF hU => ?_) (fun w0 hI hU hJ => late_set hJ hv_b _) (fun K hK => ?_); (· simp only [Abs.T_setF, Abs.T_addA, Abs.T_push, Abs.T_start]; exact exec_storeX rfl rfl rfl (((setRow_other _ hn).trans ((hF 5).2 rfl))) size24 rfl (by simp [Value.oneCell'])); (simp only [Act.put, List.setIfInBounds_toArray, List.set_cons_zero, List.set_cons_succ]; refine hK _ _ ?_; clear hK K))
    intro w0 hI hF hx1 hx2
    have qa := (hF 4).1.2 rfl
    have qb := (hF 5).2 rfl
    clear hx1 hx2 hF
    simp only [Abs.T_setF, Abs.T_addA, Abs.T_push, Abs.T_start]
    have hv_a2 : w2.heap.size ≤ g_a := hv_a
    have hv_b2 : w2.heap.size ≤ g_b := hv_b
    generalize hTa : setRow w0 g_a _ = wa
    obtain ⟨hba, fa3⟩ := fin1 hI hv_a2 qa hTa
    have qb2 := (congrArg (fun W : World => W.heap[g_b]?) hTa).symm.trans ((setRow_other _ hn).trans qb)
    generalize hTb : setRow wa g_b _ = w3
    obtain ⟨hb3, fb3⟩ := fin1 hba hv_b2 qb2 hTb
    replace fa3 := (congrArg (fun W : World => W.heap[g_a]?) hTb).symm.trans ((setRow_other _ (Ne.symm hn)).trans fa3)
    have g1 := kp hb3 g1
    have g2 := kp hb3 g2
    have HB3 := hide (bB HB2.out hb3)
    clear qa qb qb2 hTa hTb hba hb3 hI hv_a hv_b hv_a2 hv_b2 hu_a hu_b hn
    obtain ⟨ga3, hga3⟩ : ∃ ga, ga = g_a := ⟨_, rfl⟩
    obtain ⟨gb3, hgb3⟩ : ∃ gb, gb = g_b := ⟨_, rfl⟩
    rw [← hga3] at fa3 ⊢
    rw [← hgb3] at fb3 ⊢
    clear hga3 hgb3
    go_wp2_with fail
    go_ret
    exact ⟨_, rfl, ⟨(fun h => by cases h), fun h => (HNE.out h).elim⟩, HB3.out⟩
  replace he := Classical.not_not.1 he
  subst he
  by_cases he : ¬ x10 = y10
  · have HNE := hide (show R → False from fun r => he (congrArg Cm.qb (Eq.mp HR.out r)))
    have n1 : (x10 == y10) = false := beq_eq_false_iff_ne.2 he
    have n2 : decide (x10 = y10) = false := decide_eq_false he
    clear he
    obtain ⟨u1, u2, u3⟩ := rcell fa2
    obtain ⟨v1, v2, v3⟩ := rcell fb2
    go_wp2_with fail
    clear u1 u2 u3 v1 v2 v3
    refine Abs.wp_region_abs (Abs.cls _ (fun _ => False)) [0, 1, 2, 3, 4, 5, 6, 7] (by kernel_rfl) (by kernel_rfl) (Below.refl _ _).drew ?_
    (refine Abs.step_pure rfl rfl (fun K hK => ?_); go_simp; (try go_bits); (first | refine hK _ _ ?_ | (simp only [↓IntWalk.iteOmega]; go_simp; (try go_bits); refine hK _ _ ?_)); clear hK K)
    (refine Abs.step_late (v := ?_) rfl rfl (fun w0 hI => ?_) (fun K hK => ?_); rotate_left; (· have z0 := (rcell (late_kp hI (fa2))).1; have z1 := (rcell (late_kp hI (fb2))).1; go_simp; rfl); (simp only [Act.put, List.setIfInBounds_toArray, List.set_cons_zero, List.set_cons_succ]; refine hK _ _ ?_; clear hK K))
    (refine Abs.step_pure rfl rfl (fun K hK => ?_); go_simp; (try go_bits); (first | refine hK _ _ ?_ | (simp only [↓IntWalk.iteOmega]; go_simp; (try go_bits); refine hK _ _ ?_)); clear hK K)
    (refine Abs.step_late (v := ?_) rfl rfl (fun w0 hI => ?_) (fun K hK => ?_); rotate_left; (· have z0 := (rcell (late_kp hI (fa2))).1; have z1 := (rcell (late_kp hI (fb2))).1; go_simp; rfl); (simp only [Act.put, List.setIfInBounds_toArray, List.set_cons_zero, List.set_cons_succ]; refine hK _ _ ?_; clear hK K))
    (refine Abs.step_new (f := fun g => .pointer (some ⟨g, 0, none⟩)) (obj := ?_) rfl rfl rfl rfl (fun w0 => ?_) (fun K hK g_a hv_a hu_a => ?_); rotate_left; (· go_simp; rfl); (simp only [Act.put, List.setIfInBounds_toArray, List.set_cons_zero, List.set_cons_succ]; refine hK _ _ ?_; clear hK K))
    (refine Abs.step_new (f := fun g => .pointer (some ⟨g, 0, none⟩)) (obj := ?_) rfl rfl rfl rfl (fun w0 => ?_) (fun K hK g_b hv_b hu_b => ?_); rotate_left; (· go_simp; rfl); (simp only [Act.put, List.setIfInBounds_toArray, List.set_cons_zero, List.set_cons_succ]; refine hK _ _ ?_; clear hK K))
    have hn : g_b ≠ g_a := fun e => hu_b (Or.inl e)
    (refine Abs.step_store (T := fun w0 => setRow w0 g_a #[.int .i64 x2, .string x3, .int .i64 x4, .int .i64 x5, .int .i64 x6, .slice A pn ac]) rfl rfl rfl (fun w0 hI hF hU => ?_) (fun w0 hI hU hJ => late_set hJ hv_a _) (fun K hK => ?_); (· simp only [Abs.T_setF, Abs.T_addA, Abs.T_push, Abs.T_start]; exact exec_storeX rfl rfl rfl ((hF 4).1.2 rfl) size24 rfl (by simp [Value.oneCell'])); (simp only [Act.put, List.setIfInBounds_toArray, List.set_cons_zero, List.set_cons_succ]; refine hK _ _ ?_; clear hK K))
    (refine Abs.step_store (T := fun w0 => setRow (setRow w0 g_a #[.int .i64 x2, .string x3, .int .i64 x4, .int .i64 x5, .int .i64 x6, .slice A pn ac]) g_b #[.int .i64 y2, .string y3, .int .i64 y4, .int .i64 y5, .int .i64 y6, .slice A2 qn ac2]) rfl rfl rfl (fun w0 hI hF hU => ?_) (fun w0 hI hU hJ => late_set hJ hv_b _) (fun K hK => ?_); (· simp only [Abs.T_setF, Abs.T_addA, Abs.T_push, Abs.T_start]; exact exec_storeX rfl rfl rfl (((setRow_other _ hn).trans ((hF 5).2 rfl))) size24 rfl (by simp [Value.oneCell'])); (simp only [Act.put, List.setIfInBounds_toArray, List.set_cons_zero, List.set_cons_succ]; refine hK _ _ ?_; clear hK K))
    intro w0 hI hF hx1 hx2
    have qa := (hF 4).1.2 rfl
    have qb := (hF 5).2 rfl
    clear hx1 hx2 hF
    simp only [Abs.T_setF, Abs.T_addA, Abs.T_push, Abs.T_start]
    have hv_a2 : w2.heap.size ≤ g_a := hv_a
    have hv_b2 : w2.heap.size ≤ g_b := hv_b
    generalize hTa : setRow w0 g_a _ = wa
    obtain ⟨hba, fa3⟩ := fin1 hI hv_a2 qa hTa
    have qb2 := (congrArg (fun W : World => W.heap[g_b]?) hTa).symm.trans ((setRow_other _ hn).trans qb)
    generalize hTb : setRow wa g_b _ = w3
    obtain ⟨hb3, fb3⟩ := fin1 hba hv_b2 qb2 hTb
    replace fa3 := (congrArg (fun W : World => W.heap[g_a]?) hTb).symm.trans ((setRow_other _ (Ne.symm hn)).trans fa3)
    have g1 := kp hb3 g1
    have g2 := kp hb3 g2
    have HB3 := hide (bB HB2.out hb3)
    clear qa qb qb2 hTa hTb hba hb3 hI hv_a hv_b hv_a2 hv_b2 hu_a hu_b hn
    obtain ⟨ga3, hga3⟩ : ∃ ga, ga = g_a := ⟨_, rfl⟩
    obtain ⟨gb3, hgb3⟩ : ∃ gb, gb = g_b := ⟨_, rfl⟩
    rw [← hga3] at fa3 ⊢
    rw [← hgb3] at fb3 ⊢
    clear hga3 hgb3
    go_wp2_with fail
    go_ret
    exact ⟨_, rfl, ⟨(fun h => by cases h), fun h => (HNE.out h).elim⟩, HB3.out⟩
  replace he := Classical.not_not.1 he
  subst he
  by_cases he : ¬ x11 = y11
  · have HNE := hide (show R → False from fun r => he (congrArg Cm.qw (Eq.mp HR.out r)))
    have n1 : (x11 == y11) = false := beq_eq_false_iff_ne.2 he
    have n2 : decide (x11 = y11) = false := decide_eq_false he
    clear he
    obtain ⟨u1, u2, u3⟩ := rcell fa2
    obtain ⟨v1, v2, v3⟩ := rcell fb2
    go_wp2_with fail
    clear u1 u2 u3 v1 v2 v3
    refine Abs.wp_region_abs (Abs.cls _ (fun _ => False)) [0, 1, 2, 3, 4, 5, 6, 7] (by kernel_rfl) (by kernel_rfl) (Below.refl _ _).drew ?_
    (refine Abs.step_pure rfl rfl (fun K hK => ?_); go_simp; (try go_bits); (first | refine hK _ _ ?_ | (simp only [↓IntWalk.iteOmega]; go_simp; (try go_bits); refine hK _ _ ?_)); clear hK K)
    (refine Abs.step_late (v := ?_) rfl rfl (fun w0 hI => ?_) (fun K hK => ?_); rotate_left; (· have z0 := (rcell (late_kp hI (fa2))).1; have z1 := (rcell (late_kp hI (fb2))).1; go_simp; rfl); (simp only [Act.put, List.setIfInBounds_toArray, List.set_cons_zero, List.set_cons_succ]; refine hK _ _ ?_; clear hK K))
    (refine Abs.step_pure rfl rfl (fun K hK => ?_); go_simp; (try go_bits); (first | refine hK _ _ ?_ | (simp only [↓IntWalk.iteOmega]; go_simp; (try go_bits); refine hK _ _ ?_)); clear hK K)
    (refine Abs.step_late (v := ?_) rfl rfl (fun w0 hI => ?_) (fun K hK => ?_); rotate_left; (· have z0 := (rcell (late_kp hI (fa2))).1; have z1 := (rcell (late_kp hI (fb2))).1; go_simp; rfl); (simp only [Act.put, List.setIfInBounds_toArray, List.set_cons_zero, List.set_cons_succ]; refine hK _ _ ?_; clear hK K))
    (refine Abs.step_new (f := fun g => .pointer (some ⟨g, 0, none⟩)) (obj := ?_) rfl rfl rfl rfl (fun w0 => ?_) (fun K hK g_a hv_a hu_a => ?_); rotate_left; (· go_simp; rfl); (simp only [Act.put, List.setIfInBounds_toArray, List.set_cons_zero, List.set_cons_succ]; refine hK _ _ ?_; clear hK K))
    (refine Abs.step_new (f := fun g => .pointer (some ⟨g, 0, none⟩)) (obj := ?_) rfl rfl rfl rfl (fun w0 => ?_) (fun K hK g_b hv_b hu_b => ?_); rotate_left; (· go_simp; rfl); (simp only [Act.put, List.setIfInBounds_toArray, List.set_cons_zero, List.set_cons_succ]; refine hK _ _ ?_; clear hK K))
    have hn : g_b ≠ g_a := fun e => hu_b (Or.inl e)
    (refine Abs.step_store (T := fun w0 => setRow w0 g_a #[.int .i64 x2, .string x3, .int .i64 x4, .int .i64 x5, .int .i64 x6, .slice A pn ac]) rfl rfl rfl (fun w0 hI hF hU => ?_) (fun w0 hI hU hJ => late_set hJ hv_a _) (fun K hK => ?_); (· simp only [Abs.T_setF, Abs.T_addA, Abs.T_push, Abs.T_start]; exact exec_storeX rfl rfl rfl ((hF 4).1.2 rfl) size24 rfl (by simp [Value.oneCell'])); (simp only [Act.put, List.setIfInBounds_toArray, List.set_cons_zero, List.set_cons_succ]; refine hK _ _ ?_; clear hK K))
    (refine Abs.step_store (T := fun w0 => setRow (setRow w0 g_a #[.int .i64 x2, .string x3, .int .i64 x4, .int .i64 x5, .int .i64 x6, .slice A pn ac]) g_b #[.int .i64 y2, .string y3, .int .i64 y4, .int .i64 y5, .int .i64 y6, .slice A2 qn ac2]) rfl rfl rfl (fun w0 hI hF hU => ?_) (fun w0 hI hU hJ => late_set hJ hv_b _) (fun K hK => ?_); (· simp only [Abs.T_setF, Abs.T_addA, Abs.T_push, Abs.T_start]; exact exec_storeX rfl rfl rfl (((setRow_other _ hn).trans ((hF 5).2 rfl))) size24 rfl (by simp [Value.oneCell'])); (simp only [Act.put, List.setIfInBounds_toArray, List.set_cons_zero, List.set_cons_succ]; refine hK _ _ ?_; clear hK K))
    intro w0 hI hF hx1 hx2
    have qa := (hF 4).1.2 rfl
    have qb := (hF 5).2 rfl
    clear hx1 hx2 hF
    simp only [Abs.T_setF, Abs.T_addA, Abs.T_push, Abs.T_start]
    have hv_a2 : w2.heap.size ≤ g_a := hv_a
    have hv_b2 : w2.heap.size ≤ g_b := hv_b
    generalize hTa : setRow w0 g_a _ = wa
    obtain ⟨hba, fa3⟩ := fin1 hI hv_a2 qa hTa
    have qb2 := (congrArg (fun W : World => W.heap[g_b]?) hTa).symm.trans ((setRow_other _ hn).trans qb)
    generalize hTb : setRow wa g_b _ = w3
    obtain ⟨hb3, fb3⟩ := fin1 hba hv_b2 qb2 hTb
    replace fa3 := (congrArg (fun W : World => W.heap[g_a]?) hTb).symm.trans ((setRow_other _ (Ne.symm hn)).trans fa3)
    have g1 := kp hb3 g1
    have g2 := kp hb3 g2
    have HB3 := hide (bB HB2.out hb3)
    clear qa qb qb2 hTa hTb hba hb3 hI hv_a hv_b hv_a2 hv_b2 hu_a hu_b hn
    obtain ⟨ga3, hga3⟩ : ∃ ga, ga = g_a := ⟨_, rfl⟩
    obtain ⟨gb3, hgb3⟩ : ∃ gb, gb = g_b := ⟨_, rfl⟩
    rw [← hga3] at fa3 ⊢
    rw [← hgb3] at fb3 ⊢
    clear hga3 hgb3
    go_wp2_with fail
    go_ret
    exact ⟨_, rfl, ⟨(fun h => by cases h), fun h => (HNE.out h).elim⟩, HB3.out⟩
  replace he := Classical.not_not.1 he
  subst he
  by_cases he : ¬ x12 = y12
  · have HNE := hide (show R → False from fun r => he (congrArg Cm.qN (Eq.mp HR.out r)))
    have n1 : (x12 == y12) = false := beq_eq_false_iff_ne.2 he
    have n2 : decide (x12 = y12) = false := decide_eq_false he
    clear he
    obtain ⟨u1, u2, u3⟩ := rcell fa2
    obtain ⟨v1, v2, v3⟩ := rcell fb2
    go_wp2_with fail
    clear u1 u2 u3 v1 v2 v3
    refine Abs.wp_region_abs (Abs.cls _ (fun _ => False)) [0, 1, 2, 3, 4, 5, 6, 7] (by kernel_rfl) (by kernel_rfl) (Below.refl _ _).drew ?_
    (refine Abs.step_pure rfl rfl (fun K hK => ?_); go_simp; (try go_bits); (first | refine hK _ _ ?_ | (simp only [↓IntWalk.iteOmega]; go_simp; (try go_bits); refine hK _ _ ?_)); clear hK K)
    (refine Abs.step_late (v := ?_) rfl rfl (fun w0 hI => ?_) (fun K hK => ?_); rotate_left; (· have z0 := (rcell (late_kp hI (fa2))).1; have z1 := (rcell (late_kp hI (fb2))).1; go_simp; rfl); (simp only [Act.put, List.setIfInBounds_toArray, List.set_cons_zero, List.set_cons_succ]; refine hK _ _ ?_; clear hK K))
    (refine Abs.step_pure rfl rfl (fun K hK => ?_); go_simp; (try go_bits); (first | refine hK _ _ ?_ | (simp only [↓IntWalk.iteOmega]; go_simp; (try go_bits); refine hK _ _ ?_)); clear hK K)
    (refine Abs.step_late (v := ?_) rfl rfl (fun w0 hI => ?_) (fun K hK => ?_); rotate_left; (· have z0 := (rcell (late_kp hI (fa2))).1; have z1 := (rcell (late_kp hI (fb2))).1; go_simp; rfl); (simp only [Act.put, List.setIfInBounds_toArray, List.set_cons_zero, List.set_cons_succ]; refine hK _ _ ?_; clear hK K))
    (refine Abs.step_new (f := fun g => .pointer (some ⟨g, 0, none⟩)) (obj := ?_) rfl rfl rfl rfl (fun w0 => ?_) (fun K hK g_a hv_a hu_a => ?_); rotate_left; (· go_simp; rfl); (simp only [Act.put, List.setIfInBounds_toArray, List.set_cons_zero, List.set_cons_succ]; refine hK _ _ ?_; clear hK K))
    (refine Abs.step_new (f := fun g => .pointer (some ⟨g, 0, none⟩)) (obj := ?_) rfl rfl rfl rfl (fun w0 => ?_) (fun K hK g_b hv_b hu_b => ?_); rotate_left; (· go_simp; rfl); (simp only [Act.put, List.setIfInBounds_toArray, List.set_cons_zero, List.set_cons_succ]; refine hK _ _ ?_; clear hK K))
    have hn : g_b ≠ g_a := fun e => hu_b (Or.inl e)
    (refine Abs.step_store (T := fun w0 => setRow w0 g_a #[.int .i64 x2, .string x3, .int .i64 x4, .int .i64 x5, .int .i64 x6, .slice A pn ac]) rfl rfl rfl (fun w0 hI hF hU => ?_) (fun w0 hI hU hJ => late_set hJ hv_a _) (fun K hK => ?_); (· simp only [Abs.T_setF, Abs.T_addA, Abs.T_push, Abs.T_start]; exact exec_storeX rfl rfl rfl ((hF 4).1.2 rfl) size24 rfl (by simp [Value.oneCell'])); (simp only [Act.put, List.setIfInBounds_toArray, List.set_cons_zero, List.set_cons_succ]; refine hK _ _ ?_; clear hK K))
    (refine Abs.step_store (T := fun w0 => setRow (setRow w0 g_a #[.int .i64 x2, .string x3, .int .i64 x4, .int .i64 x5, .int .i64 x6, .slice A pn ac]) g_b #[.int .i64 y2, .string y3, .int .i64 y4, .int .i64 y5, .int .i64 y6, .slice A2 qn ac2]) rfl rfl rfl (fun w0 hI hF hU => ?_) (fun w0 hI hU hJ => late_set hJ hv_b _) (fun K hK => ?_); (· simp only [Abs.T_setF, Abs.T_addA, Abs.T_push, Abs.T_start]; exact exec_storeX rfl rfl rfl (((setRow_other _ hn).trans ((hF 5).2 rfl))) size24 rfl (by simp [Value.oneCell'])); (simp only [Act.put, List.setIfInBounds_toArray, List.set_cons_zero, List.set_cons_succ]; refine hK _ _ ?_; clear hK K))
    intro w0 hI hF hx1 hx2
    have qa := (hF 4).1.2 rfl
    have qb := (hF 5).2 rfl
    clear hx1 hx2 hF
    simp only [Abs.T_setF, Abs.T_addA, Abs.T_push, Abs.T_start]
    have hv_a2 : w2.heap.size ≤ g_a := hv_a
    have hv_b2 : w2.heap.size ≤ g_b := hv_b
    generalize hTa : setRow w0 g_a _ = wa
    obtain ⟨hba, fa3⟩ := fin1 hI hv_a2 qa hTa
    have qb2 := (congrArg (fun W : World => W.heap[g_b]?) hTa).symm.trans ((setRow_other _ hn).trans qb)
    generalize hTb : setRow wa g_b _ = w3
    obtain ⟨hb3, fb3⟩ := fin1 hba hv_b2 qb2 hTb
    replace fa3 := (congrArg (fun W : World => W.heap[g_a]?) hTb).symm.trans ((setRow_other _ (Ne.symm hn)).trans fa3)
    have g1 := kp hb3 g1
    have g2 := kp hb3 g2
    have HB3 := hide (bB HB2.out hb3)
    clear qa qb qb2 hTa hTb hba hb3 hI hv_a hv_b hv_a2 hv_b2 hu_a hu_b hn
    obtain ⟨ga3, hga3⟩ : ∃ ga, ga = g_a := ⟨_, rfl⟩
    obtain ⟨gb3, hgb3⟩ : ∃ gb, gb = g_b := ⟨_, rfl⟩
    rw [← hga3] at fa3 ⊢
    rw [← hgb3] at fb3 ⊢
    clear hga3 hgb3
    go_wp2_with fail
    go_ret
    exact ⟨_, rfl, ⟨(fun h => by cases h), fun h => (HNE.out h).elim⟩, HB3.out⟩
  replace he := Classical.not_not.1 he
  subst he
  by_cases he : ¬ x13 = y13
  · have HNE := hide (show R → False from fun r => he (congrArg Cm.nm (Eq.mp HR.out r)))
    have n1 : (x13.toList == y13.toList) = false := eqF he
    clear he
    obtain ⟨u1, u2, u3⟩ := rcell fa2
    obtain ⟨v1, v2, v3⟩ := rcell fb2
    go_wp2_with fail
    clear u1 u2 u3 v1 v2 v3
    refine Abs.wp_region_abs (Abs.cls _ (fun _ => False)) [0, 1, 2, 3, 4, 5, 6, 7] (by kernel_rfl) (by kernel_rfl) (Below.refl _ _).drew ?_
    (refine Abs.step_pure rfl rfl (fun K hK => ?_); go_simp; (try go_bits); (first | refine hK _ _ ?_ | (simp only [↓IntWalk.iteOmega]; go_simp; (try go_bits); refine hK _ _ ?_)); clear hK K)
    (refine Abs.step_late (v := ?_) rfl rfl (fun w0 hI => ?_) (fun K hK => ?_); rotate_left; (· have z0 := (rcell (late_kp hI (fa2))).1; have z1 := (rcell (late_kp hI (fb2))).1; go_simp; rfl); (simp only [Act.put, List.setIfInBounds_toArray, List.set_cons_zero, List.set_cons_succ]; refine hK _ _ ?_; clear hK K))
    (refine Abs.step_pure rfl rfl (fun K hK => ?_); go_simp; (try go_bits); (first | refine hK _ _ ?_ | (simp only [↓IntWalk.iteOmega]; go_simp; (try go_bits); refine hK _ _ ?_)); clear hK K)
    (refine Abs.step_late (v := ?_) rfl rfl (fun w0 hI => ?_) (fun K hK => ?_); rotate_left; (· have z0 := (rcell (late_kp hI (fa2))).1; have z1 := (rcell (late_kp hI (fb2))).1; go_simp; rfl); (simp only [Act.put, List.setIfInBounds_toArray, List.set_cons_zero, List.set_cons_succ]; refine hK _ _ ?_; clear hK K))
    (refine Abs.step_new (f := fun g => .pointer (some ⟨g, 0, none⟩)) (obj := ?_) rfl rfl rfl rfl (fun w0 => ?_) (fun K hK g_a hv_a hu_a => ?_); rotate_left; (· go_simp; rfl); (simp only [Act.put, List.setIfInBounds_toArray, List.set_cons_zero, List.set_cons_succ]; refine hK _ _ ?_; clear hK K))
    (refine Abs.step_new (f := fun g => .pointer (some ⟨g, 0, none⟩)) (obj := ?_) rfl rfl rfl rfl (fun w0 => ?_) (fun K hK g_b hv_b hu_b => ?_); rotate_left; (· go_simp; rfl); (simp only [Act.put, List.setIfInBounds_toArray, List.set_cons_zero, List.set_cons_succ]; refine hK _ _ ?_; clear hK K))
    have hn : g_b ≠ g_a := fun e => hu_b (Or.inl e)
    (refine Abs.step_store (T := fun w0 => setRow w0 g_a #[.int .i64 x2, .string x3, .int .i64 x4, .int .i64 x5, .int .i64 x6, .slice A pn ac]) rfl rfl rfl (fun w0 hI hF hU => ?_) (fun w0 hI hU hJ => late_set hJ hv_a _) (fun K hK => ?_); (· simp only [Abs.T_setF, Abs.T_addA, Abs.T_push, Abs.T_start]; exact exec_storeX rfl rfl rfl ((hF 4).1.2 rfl) size24 rfl (by simp [Value.oneCell'])); (simp only [Act.put, List.setIfInBounds_toArray, List.set_cons_zero, List.set_cons_succ]; refine hK _ _ ?_; clear hK K))
    (refine Abs.step_store (T := fun w0 => setRow (setRow w0 g_a #[.int .i64 x2, .string x3, .int .i64 x4, .int .i64 x5, .int .i64 x6, .slice A pn ac]) g_b #[.int .i64 y2, .string y3, .int .i64 y4, .int .i64 y5, .int .i64 y6, .slice A2 qn ac2]) rfl rfl rfl (fun w0 hI hF hU => ?_) (fun w0 hI hU hJ => late_set hJ hv_b _) (fun K hK => ?_); (· simp only [Abs.T_setF, Abs.T_addA, Abs.T_push, Abs.T_start]; exact exec_storeX rfl rfl rfl (((setRow_other _ hn).trans ((hF 5).2 rfl))) size24 rfl (by simp [Value.oneCell'])); (simp only [Act.put, List.setIfInBounds_toArray, List.set_cons_zero, List.set_cons_succ]; refine hK _ _ ?_; clear hK K))
    intro w0 hI hF hx1 hx2
    have qa := (hF 4).1.2 rfl
    have qb := (hF 5).2 rfl
    clear hx1 hx2 hF
    simp only [Abs.T_setF, Abs.T_addA, Abs.T_push, Abs.T_start]
    have hv_a2 : w2.heap.size ≤ g_a := hv_a
    have hv_b2 : w2.heap.size ≤ g_b := hv_b
    generalize hTa : setRow w0 g_a _ = wa
    obtain ⟨hba, fa3⟩ := fin1 hI hv_a2 qa hTa
    have qb2 := (congrArg (fun W : World => W.heap[g_b]?) hTa).symm.trans ((setRow_other _ hn).trans qb)
    generalize hTb : setRow wa g_b _ = w3
    obtain ⟨hb3, fb3⟩ := fin1 hba hv_b2 qb2 hTb
    replace fa3 := (congrArg (fun W : World => W.heap[g_a]?) hTb).symm.trans ((setRow_other _ (Ne.symm hn)).trans fa3)
    have g1 := kp hb3 g1
    have g2 := kp hb3 g2
    have HB3 := hide (bB HB2.out hb3)
    clear qa qb qb2 hTa hTb hba hb3 hI hv_a hv_b hv_a2 hv_b2 hu_a hu_b hn
    obtain ⟨ga3, hga3⟩ : ∃ ga, ga = g_a := ⟨_, rfl⟩
    obtain ⟨gb3, hgb3⟩ : ∃ gb, gb = g_b := ⟨_, rfl⟩
    rw [← hga3] at fa3 ⊢
    rw [← hgb3] at fb3 ⊢
    clear hga3 hgb3
    go_wp2_with fail
    go_ret
    exact ⟨_, rfl, ⟨(fun h => by cases h), fun h => (HNE.out h).elim⟩, HB3.out⟩
  replace he := Classical.not_not.1 he
  subst he
  by_cases he : ¬ x14 = y14
  · have HNE := hide (show R → False from fun r => he (congrArg Cm.t (Eq.mp HR.out r)))
    have n1 : (x14 == y14) = false := beq_eq_false_iff_ne.2 he
    have n2 : decide (x14 = y14) = false := decide_eq_false he
    clear he
    obtain ⟨u1, u2, u3⟩ := rcell fa2
    obtain ⟨v1, v2, v3⟩ := rcell fb2
    go_wp2_with fail
    clear u1 u2 u3 v1 v2 v3
    refine Abs.wp_region_abs (Abs.cls _ (fun _ => False)) [0, 1, 2, 3, 4, 5, 6, 7] (by kernel_rfl) (by kernel_rfl) (Below.refl _ _).drew ?_
    (refine Abs.step_pure rfl rfl (fun K hK => ?_); go_simp; (try go_bits); (first | refine hK _ _ ?_ | (simp only [↓IntWalk.iteOmega]; go_simp; (try go_bits); refine hK _ _ ?_)); clear hK K)
    (refine Abs.step_late (v := ?_) rfl rfl (fun w0 hI => ?_) (fun K hK => ?_); rotate_left; (· have z0 := (rcell (late_kp hI (fa2))).1; have z1 := (rcell (late_kp hI (fb2))).1; go_simp; rfl); (simp only [Act.put, List.setIfInBounds_toArray, List.set_cons_zero, List.set_cons_succ]; refine hK _ _ ?_; clear hK K))
    (refine Abs.step_pure rfl rfl (fun K hK => ?_); go_simp; (try go_bits); (first | refine hK _ _ ?_ | (simp only [↓IntWalk.iteOmega]; go_simp; (try go_bits); refine hK _ _ ?_)); clear hK K)
    (refine Abs.step_late (v := ?_) rfl rfl (fun w0 hI => ?_) (fun K hK => ?_); rotate_left; (· have z0 := (rcell (late_kp hI (fa2))).1; have z1 := (rcell (late_kp hI (fb2))).1; go_simp; rfl); (simp only [Act.put, List.setIfInBounds_toArray, List.set_cons_zero, List.set_cons_succ]; refine hK _ _ ?_; clear hK K))
    (refine Abs.step_new (f := fun g => .pointer (some ⟨g, 0, none⟩)) (obj := ?_) rfl rfl rfl rfl (fun w0 => ?_) (fun K hK g_a hv_a hu_a => ?_); rotate_left; (· go_simp; rfl); (simp only [Act.put, List.setIfInBounds_toArray, List.set_cons_zero, List.set_cons_succ]; refine hK _ _ ?_; clear hK K))
    (refine Abs.step_new (f := fun g => .pointer (some ⟨g, 0, none⟩)) (obj := ?_) rfl rfl rfl rfl (fun w0 => ?_) (fun K hK g_b hv_b hu_b => ?_); rotate_left; (· go_simp; rfl); (simp only [Act.put, List.setIfInBounds_toArray, List.set_cons_zero, List.set_cons_succ]; refine hK _ _ ?_; clear hK K))
    have hn : g_b ≠ g_a := fun e => hu_b (Or.inl e)
    (refine Abs.step_store (T := fun w0 => setRow w0 g_a #[.int .i64 x2, .string x3, .int .i64 x4, .int .i64 x5, .int .i64 x6, .slice A pn ac]) rfl rfl rfl (fun w0 hI hF hU => ?_) (fun w0 hI hU hJ => late_set hJ hv_a _) (fun K hK => ?_); (· simp only [Abs.T_setF, Abs.T_addA, Abs.T_push, Abs.T_start]; exact exec_storeX rfl rfl rfl ((hF 4).1.2 rfl) size24 rfl (by simp [Value.oneCell'])); (simp only [Act.put, List.setIfInBounds_toArray, List.set_cons_zero, List.set_cons_succ]; refine hK _ _ ?_; clear hK K))
    (refine Abs.step_store (T := fun w0 => setRow (setRow w0 g_a #[.int .i64 x2, .string x3, .int .i64 x4, .int .i64 x5, .int .i64 x6, .slice A pn ac]) g_b #[.int .i64 y2, .string y3, .int .i64 y4, .int .i64 y5, .int .i64 y6, .slice A2 qn ac2]) rfl rfl rfl (fun w0 hI hF hU => ?_) (fun w0 hI hU hJ => late_set hJ hv_b _) (fun K hK => ?_); (· simp only [Abs.T_setF, Abs.T_addA, Abs.T_push, Abs.T_start]; exact exec_storeX rfl rfl rfl (((setRow_other _ hn).trans ((hF 5).2 rfl))) size24 rfl (by simp [Value.oneCell'])); (simp only [Act.put, List.setIfInBounds_toArray, List.set_cons_zero, List.set_cons_succ]; refine hK _ _ ?_; clear hK K))
    intro w0 hI hF hx1 hx2
    have qa := (hF 4).1.2 rfl
    have qb := (hF 5).2 rfl
    clear hx1 hx2 hF
    simp only [Abs.T_setF, Abs.T_addA, Abs.T_push, Abs.T_start]
    have hv_a2 : w2.heap.size ≤ g_a := hv_a
    have hv_b2 : w2.heap.size ≤ g_b := hv_b
    generalize hTa : setRow w0 g_a _ = wa
    obtain ⟨hba, fa3⟩ := fin1 hI hv_a2 qa hTa
    have qb2 := (congrArg (fun W : World => W.heap[g_b]?) hTa).symm.trans ((setRow_other _ hn).trans qb)
    generalize hTb : setRow wa g_b _ = w3
    obtain ⟨hb3, fb3⟩ := fin1 hba hv_b2 qb2 hTb
    replace fa3 := (congrArg (fun W : World => W.heap[g_a]?) hTb).symm.trans ((setRow_other _ (Ne.symm hn)).trans fa3)
    have g1 := kp hb3 g1
    have g2 := kp hb3 g2
    have HB3 := hide (bB HB2.out hb3)
    clear qa qb qb2 hTa hTb hba hb3 hI hv_a hv_b hv_a2 hv_b2 hu_a hu_b hn
    obtain ⟨ga3, hga3⟩ : ∃ ga, ga = g_a := ⟨_, rfl⟩
    obtain ⟨gb3, hgb3⟩ : ∃ gb, gb = g_b := ⟨_, rfl⟩
    rw [← hga3] at fa3 ⊢
    rw [← hgb3] at fb3 ⊢
    clear hga3 hgb3
    go_wp2_with fail
    go_ret
    exact ⟨_, rfl, ⟨(fun h => by cases h), fun h => (HNE.out h).elim⟩, HB3.out⟩
  replace he := Classical.not_not.1 he
  subst he
  by_cases he : ¬ x15 = y15
  · have HNE := hide (show R → False from fun r => he (congrArg Cm.bits (Eq.mp HR.out r)))
    have n1 : (x15 == y15) = false := beq_eq_false_iff_ne.2 he
    have n2 : decide (x15 = y15) = false := decide_eq_false he
    clear he
    obtain ⟨u1, u2, u3⟩ := rcell fa2
    obtain ⟨v1, v2, v3⟩ := rcell fb2
    go_wp2_with fail
    clear u1 u2 u3 v1 v2 v3
    refine Abs.wp_region_abs (Abs.cls _ (fun _ => False)) [0, 1, 2, 3, 4, 5, 6, 7] (by kernel_rfl) (by kernel_rfl) (Below.refl _ _).drew ?_
    (refine Abs.step_pure rfl rfl (fun K hK => ?_); go_simp; (try go_bits); (first | refine hK _ _ ?_ | (simp only [↓IntWalk.iteOmega]; go_simp; (try go_bits); refine hK _ _ ?_)); clear hK K)
    (refine Abs.step_late (v := ?_) rfl rfl (fun w0 hI => ?_) (fun K hK => ?_); rotate_left; (· have z0 := (rcell (late_kp hI (fa2))).1; have z1 := (rcell (late_kp hI (fb2))).1; go_simp; rfl); (simp only [Act.put, List.setIfInBounds_toArray, List.set_cons_zero, List.set_cons_succ]; refine hK _ _ ?_; clear hK K))
    (refine Abs.step_pure rfl rfl (fun K hK => ?_); go_simp; (try go_bits); (first | refine hK _ _ ?_ | (simp only [↓IntWalk.iteOmega]; go_simp; (try go_bits); refine hK _ _ ?_)); clear hK K)
    (refine Abs.step_late (v := ?_) rfl rfl (fun w0 hI => ?_) (fun K hK => ?_); rotate_left; (· have z0 := (rcell (late_kp hI (fa2))).1; have z1 := (rcell (late_kp hI (fb2))).1; go_simp; rfl); (simp only [Act.put, List.setIfInBounds_toArray, List.set_cons_zero, List.set_cons_succ]; refine hK _ _ ?_; clear hK K))
    (refine Abs.step_new (f := fun g => .pointer (some ⟨g, 0, none⟩)) (obj := ?_) rfl rfl rfl rfl (fun w0 => ?_) (fun K hK g_a hv_a hu_a => ?_); rotate_left; (· go_simp; rfl); (simp only [Act.put, List.setIfInBounds_toArray, List.set_cons_zero, List.set_cons_succ]; refine hK _ _ ?_; clear hK K))
    (refine Abs.step_new (f := fun g => .pointer (some ⟨g, 0, none⟩)) (obj := ?_) rfl rfl rfl rfl (fun w0 => ?_) (fun K hK g_b hv_b hu_b => ?_); rotate_left; (· go_simp; rfl); (simp only [Act.put, List.setIfInBounds_toArray, List.set_cons_zero, List.set_cons_succ]; refine hK _ _ ?_; clear hK K))
    have hn : g_b ≠ g_a := fun e => hu_b (Or.inl e)
    (refine Abs.step_store (T := fun w0 => setRow w0 g_a #[.int .i64 x2, .string x3, .int .i64 x4, .int .i64 x5, .int .i64 x6, .slice A pn ac]) rfl rfl rfl (fun w0 hI hF hU => ?_) (fun w0 hI hU hJ => late_set hJ hv_a _) (fun K hK => ?_); (· simp only [Abs.T_setF, Abs.T_addA, Abs.T_push, Abs.T_start]; exact exec_storeX rfl rfl rfl ((hF 4).1.2 rfl) size24 rfl (by simp [Value.oneCell'])); (simp only [Act.put, List.setIfInBounds_toArray, List.set_cons_zero, List.set_cons_succ]; refine hK _ _ ?_; clear hK K))
    (refine Abs.step_store (T := fun w0 => setRow (setRow w0 g_a #[.int .i64 x2, .string x3, .int .i64 x4, .int .i64 x5, .int .i64 x6, .slice A pn ac]) g_b #[.int .i64 y2, .string y3, .int .i64 y4, .int .i64 y5, .int .i64 y6, .slice A2 qn ac2]) rfl rfl rfl (fun w0 hI hF hU => ?_) (fun w0 hI hU hJ => late_set hJ hv_b _) (fun K hK => ?_); (· simp only [Abs.T_setF, Abs.T_addA, Abs.T_push, Abs.T_start]; exact exec_storeX rfl rfl rfl (((setRow_other _ hn).trans ((hF 5).2 rfl))) size24 rfl (by simp [Value.oneCell'])); (simp only [Act.put, List.setIfInBounds_toArray, List.set_cons_zero, List.set_cons_succ]; refine hK _ _ ?_; clear hK K))
    intro w0 hI hF hx1 hx2
    have qa := (hF 4).1.2 rfl
    have qb := (hF 5).2 rfl
    clear hx1 hx2 hF
    simp only [Abs.T_setF, Abs.T_addA, Abs.T_push, Abs.T_start]
    have hv_a2 : w2.heap.size ≤ g_a := hv_a
    have hv_b2 : w2.heap.size ≤ g_b := hv_b
    generalize hTa : setRow w0 g_a _ = wa
    obtain ⟨hba, fa3⟩ := fin1 hI hv_a2 qa hTa
    have qb2 := (congrArg (fun W : World => W.heap[g_b]?) hTa).symm.trans ((setRow_other _ hn).trans qb)
    generalize hTb : setRow wa g_b _ = w3
    obtain ⟨hb3, fb3⟩ := fin1 hba hv_b2 qb2 hTb
    replace fa3 := (congrArg (fun W : World => W.heap[g_a]?) hTb).symm.trans ((setRow_other _ (Ne.symm hn)).trans fa3)
    have g1 := kp hb3 g1
    have g2 := kp hb3 g2
    have HB3 := hide (bB HB2.out hb3)
    clear qa qb qb2 hTa hTb hba hb3 hI hv_a hv_b hv_a2 hv_b2 hu_a hu_b hn
    obtain ⟨ga3, hga3⟩ : ∃ ga, ga = g_a := ⟨_, rfl⟩
    obtain ⟨gb3, hgb3⟩ : ∃ gb, gb = g_b := ⟨_, rfl⟩
    rw [← hga3] at fa3 ⊢
    rw [← hgb3] at fb3 ⊢
    clear hga3 hgb3
    go_wp2_with fail
    go_ret
    exact ⟨_, rfl, ⟨(fun h => by cases h), fun h => (HNE.out h).elim⟩, HB3.out⟩
  replace he := Classical.not_not.1 he
  subst he
  obtain ⟨u1, u2, u3⟩ := rcell fa2
  obtain ⟨v1, v2, v3⟩ := rcell fb2
  go_wp2_with fail
  clear u1 u2 u3 v1 v2 v3
  refine Abs.wp_region_abs (Abs.cls _ (fun _ => False)) [0, 1, 2, 3, 4, 5, 6, 7] (by kernel_rfl) (by kernel_rfl) (Below.refl _ _).drew ?_
  (refine Abs.step_pure rfl rfl (fun K hK => ?_); go_simp; (try go_bits); (first | refine hK _ _ ?_ | (simp only [↓IntWalk.iteOmega]; go_simp; (try go_bits); refine hK _ _ ?_)); clear hK K)
  (refine Abs.step_late (v := ?_) rfl rfl (fun w0 hI => ?_) (fun K hK => ?_); rotate_left; (· have z0 := (rcell (late_kp hI (fa2))).1; have z1 := (rcell (late_kp hI (fb2))).1; go_simp; rfl); (simp only [Act.put, List.setIfInBounds_toArray, List.set_cons_zero, List.set_cons_succ]; refine hK _ _ ?_; clear hK K))
  (refine Abs.step_pure rfl rfl (fun K hK => ?_); go_simp; (try go_bits); (first | refine hK _ _ ?_ | (simp only [↓IntWalk.iteOmega]; go_simp; (try go_bits); refine hK _ _ ?_)); clear hK K)
  (refine Abs.step_late (v := ?_) rfl rfl (fun w0 hI => ?_) (fun K hK => ?_); rotate_left; (· have z0 := (rcell (late_kp hI (fa2))).1; have z1 := (rcell (late_kp hI (fb2))).1; go_simp; rfl); (simp only [Act.put, List.setIfInBounds_toArray, List.set_cons_zero, List.set_cons_succ]; refine hK _ _ ?_; clear hK K))
  (refine Abs.step_new (f := fun g => .pointer (some ⟨g, 0, none⟩)) (obj := ?_) rfl rfl rfl rfl (fun w0 => ?_) (fun K hK g_a hv_a hu_a => ?_); rotate_left; (· go_simp; rfl); (simp only [Act.put, List.setIfInBounds_toArray, List.set_cons_zero, List.set_cons_succ]; refine hK _ _ ?_; clear hK K))
  (refine Abs.step_new (f := fun g => .pointer (some ⟨g, 0, none⟩)) (obj := ?_) rfl rfl rfl rfl (fun w0 => ?_) (fun K hK g_b hv_b hu_b => ?_); rotate_left; (· go_simp; rfl); (simp only [Act.put, List.setIfInBounds_toArray, List.set_cons_zero, List.set_cons_succ]; refine hK _ _ ?_; clear hK K))
  have hn : g_b ≠ g_a := fun e => hu_b (Or.inl e)
  (refine Abs.step_store (T := fun w0 => setRow w0 g_a #[.int .i64 x2, .string x3, .int .i64 x4, .int .i64 x5, .int .i64 x6, .slice A pn ac]) rfl rfl rfl (fun w0 hI hF hU => ?_) (fun w0 hI hU hJ => late_set hJ hv_a _) (fun K hK => ?_); (· simp only [Abs.T_setF, Abs.T_addA, Abs.T_push, Abs.T_start]; exact exec_storeX rfl rfl rfl ((hF 4).1.2 rfl) size24 rfl (by simp [Value.oneCell'])); (simp only [Act.put, List.setIfInBounds_toArray, List.set_cons_zero, List.set_cons_succ]; refine hK _ _ ?_; clear hK K))
  (refine Abs.step_store (T := fun w0 => setRow (setRow w0 g_a #[.int .i64 x2, .string x3, .int .i64 x4, .int .i64 x5, .int .i64 x6, .slice A pn ac]) g_b #[.int .i64 y2, .string y3, .int .i64 y4, .int .i64 y5, .int .i64 y6, .slice A2 qn ac2]) rfl rfl rfl (fun w0 hI hF hU => ?_) (fun w0 hI hU hJ => late_set hJ hv_b _) (fun K hK => ?_); (· simp only [Abs.T_setF, Abs.T_addA, Abs.T_push, Abs.T_start]; exact exec_storeX rfl rfl rfl (((setRow_other _ hn).trans ((hF 5).2 rfl))) size24 rfl (by simp [Value.oneCell'])); (simp only [Act.put, List.setIfInBounds_toArray, List.set_cons_zero, List.set_cons_succ]; refine hK _ _ ?_; clear hK K))
  intro w0 hI hF hx1 hx2
  have qa := (hF 4).1.2 rfl
  have qb := (hF 5).2 rfl
  clear hx1 hx2 hF
  simp only [Abs.T_setF, Abs.T_addA, Abs.T_push, Abs.T_start]
  have hv_a2 : w2.heap.size ≤ g_a := hv_a
  have hv_b2 : w2.heap.size ≤ g_b := hv_b
  generalize hTa : setRow w0 g_a _ = wa
  obtain ⟨hba, fa3⟩ := fin1 hI hv_a2 qa hTa
  have qb2 := (congrArg (fun W : World => W.heap[g_b]?) hTa).symm.trans ((setRow_other _ hn).trans qb)
  generalize hTb : setRow wa g_b _ = w3
  obtain ⟨hb3, fb3⟩ := fin1 hba hv_b2 qb2 hTb
  replace fa3 := (congrArg (fun W : World => W.heap[g_a]?) hTb).symm.trans ((setRow_other _ (Ne.symm hn)).trans fa3)
  have g1 := kp hb3 g1
  have g2 := kp hb3 g2
  have HB3 := hide (bB HB2.out hb3)
  clear qa qb qb2 hTa hTb hba hb3 hI hv_a hv_b hv_a2 hv_b2 hu_a hu_b hn
  obtain ⟨ga3, hga3⟩ : ∃ ga, ga = g_a := ⟨_, rfl⟩
  obtain ⟨gb3, hgb3⟩ : ∃ gb, gb = g_b := ⟨_, rfl⟩
  rw [← hga3] at fa3 ⊢
  rw [← hgb3] at fb3 ⊢
  clear hga3 hgb3
  by_cases he : ¬ x2 = y2
  · have HNE := hide (show R → False from fun r => he (congrArg Cm.mkd (Eq.mp HR.out r)))
    have n1 : (x2 == y2) = false := beq_eq_false_iff_ne.2 he
    have n2 : decide (x2 = y2) = false := decide_eq_false he
    clear he
    obtain ⟨u1, u2, u3⟩ := rcell fa3
    obtain ⟨v1, v2, v3⟩ := rcell fb3
    go_wp2_with fail
    go_ret
    exact ⟨_, rfl, ⟨(fun h => by cases h), fun h => (HNE.out h).elim⟩, HB3.out⟩
  replace he := Classical.not_not.1 he
  subst he
  by_cases he : ¬ x3 = y3
  · have HNE := hide (show R → False from fun r => he (congrArg Cm.mn (Eq.mp HR.out r)))
    have n1 : (x3.toList == y3.toList) = false := eqF he
    clear he
    obtain ⟨u1, u2, u3⟩ := rcell fa3
    obtain ⟨v1, v2, v3⟩ := rcell fb3
    go_wp2_with fail
    go_ret
    exact ⟨_, rfl, ⟨(fun h => by cases h), fun h => (HNE.out h).elim⟩, HB3.out⟩
  replace he := Classical.not_not.1 he
  subst he
  by_cases he : ¬ x4 = y4
  · have HNE := hide (show R → False from fun r => he (congrArg Cm.me (Eq.mp HR.out r)))
    have n1 : (x4 == y4) = false := beq_eq_false_iff_ne.2 he
    have n2 : decide (x4 = y4) = false := decide_eq_false he
    clear he
    obtain ⟨u1, u2, u3⟩ := rcell fa3
    obtain ⟨v1, v2, v3⟩ := rcell fb3
    go_wp2_with fail
    go_ret
    exact ⟨_, rfl, ⟨(fun h => by cases h), fun h => (HNE.out h).elim⟩, HB3.out⟩
  replace he := Classical.not_not.1 he
  subst he
  by_cases he : ¬ x5 = y5
  · have HNE := hide (show R → False from fun r => he (congrArg Cm.mf (Eq.mp HR.out r)))
    have n1 : (x5 == y5) = false := beq_eq_false_iff_ne.2 he
    have n2 : decide (x5 = y5) = false := decide_eq_false he
    clear he
    obtain ⟨u1, u2, u3⟩ := rcell fa3
    obtain ⟨v1, v2, v3⟩ := rcell fb3
    go_wp2_with fail
    go_ret
    exact ⟨_, rfl, ⟨(fun h => by cases h), fun h => (HNE.out h).elim⟩, HB3.out⟩
  replace he := Classical.not_not.1 he
  subst he
  by_cases he : ¬ x6 = y6
  · have HNE := hide (show R → False from fun r => he (congrArg Cm.ms (Eq.mp HR.out r)))
    have n1 : (x6 == y6) = false := beq_eq_false_iff_ne.2 he
    have n2 : decide (x6 = y6) = false := decide_eq_false he
    clear he
    obtain ⟨u1, u2, u3⟩ := rcell fa3
    obtain ⟨v1, v2, v3⟩ := rcell fb3
    go_wp2_with fail
    go_ret
    exact ⟨_, rfl, ⟨(fun h => by cases h), fun h => (HNE.out h).elim⟩, HB3.out⟩
  replace he := Classical.not_not.1 he
  subst he
  obtain ⟨u1, u2, u3⟩ := rcell fa3
  obtain ⟨v1, v2, v3⟩ := rcell fb3
  go_wp2_with fail
  refine (CP.out _ HB3.out).mono ?_
  rintro e w4 ⟨b, rfl, hbe, hb4⟩
  have HB4 := hide (bB HB3.out hb4)
  have g1 := kp hb4 g1
  have g2 := kp hb4 g2
  have HBE := hide hbe
  clear u1 u2 u3 v1 v2 v3 hb4 fa2 fb2 fa3 fb3 hbe
  cases b
  · have HNE := hide (show R → False from fun r => by have := HBE.out.2 (congrArg Cm.pts (Eq.mp HR.out r)); cases this)
    go_wp2_with fail
    go_ret
    exact ⟨_, rfl, ⟨(fun h => by cases h), fun h => (HNE.out h).elim⟩, HB4.out⟩
  have HPE := hide (HBE.out.1 rfl)
  obtain ⟨u1, u2, u3⟩ := rcell g1
  obtain ⟨v1, v2, v3⟩ := rcell g2
  by_cases he : ¬ x0 = y0
  · have HNE := hide (show R → False from fun r => he (congrArg Cm.kind (Eq.mp HR.out r)))
    have n1 : (x0 == y0) = false := beq_eq_false_iff_ne.2 he
    have n2 : decide (x0 = y0) = false := decide_eq_false he
    clear he
    go_wp2_with fail
    go_ret
    exact ⟨_, rfl, ⟨(fun h => by cases h), fun h => (HNE.out h).elim⟩, HB4.out⟩
  replace he := Classical.not_not.1 he
  subst he
  by_cases he : ¬ x16 = y16
  · have HNE := hide (show R → False from fun r => he (congrArg Cm.n (Eq.mp HR.out r)))
    have n1 : (x16 == y16) = false := beq_eq_false_iff_ne.2 he
    have n2 : decide (x16 = y16) = false := decide_eq_false he
    clear he
    go_wp2_with fail
    go_ret
    exact ⟨_, rfl, ⟨(fun h => by cases h), fun h => (HNE.out h).elim⟩, HB4.out⟩
  replace he := Classical.not_not.1 he
  subst he
  go_wp2_with fail
  refine (CI.out _ HB4.out).mono ?_
  rintro e w5 ⟨b, rfl, hbm, hb5⟩
  have HB5 := hide (bB HB4.out hb5)
  have HBM := hide hbm
  clear hb5 hbm
  cases b
  · have HNE := hide (show R → False from fun r => by have := HBM.out.2 (congrArg Cm.masks (Eq.mp HR.out r)); cases this)
    go_wp2_with fail
    go_ret
    exact ⟨_, rfl, ⟨(fun h => by cases h), fun h => (HNE.out h).elim⟩, HB5.out⟩
  have HME := hide (HBM.out.1 rfl)
  go_wp2_with fail
  go_ret
  exact ⟨_, rfl, ⟨fun _ => Eq.mpr HR.out (by rw [HPE.out, HME.out]), fun _ => rfl⟩, HB5.out⟩
end Go.Proofs.YtbiedfkmmcaplaaGreatDoor
