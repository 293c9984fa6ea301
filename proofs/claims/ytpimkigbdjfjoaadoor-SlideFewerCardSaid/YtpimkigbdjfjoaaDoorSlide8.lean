/- slide.Slopes, Fit, Longest at this program. -/
import Derived.Test.YtpimkigbdjfjoaaDoorSlide5
import Derived.Test.YtpimkigbdjfjoaaDoorSlide6
import Derived.Test.YtpimkigbdjfjoaaDoorSlide7
import Derived.Test.YtpimkigbdjfjoaaDoorP5
set_option linter.unusedSimpArgs false
set_option linter.unusedVariables false
namespace Go.Proofs.YtpimkigbdjfjoaaDoor
open Go.RowKit
variable {ta : TypeId}
attribute [local go_sem] Oper.semAt_some

theorem firstS_all {l : List Bd} (h : okF (-1) l = true) (ho : slOpen (sk l l.length) = true) : firstS l = l.length := by
  have := firstS_max h (Nat.le_refl _) (lets_of_open h (Nat.le_refl _) ho)
  have := (firstS_is l).le
  omega
theorem firstS_short {l : List Bd} (ho : slOpen (sk l l.length) = false) : firstS l < l.length := by
  have h1 := (firstS_is l).le
  rcases Nat.lt_or_ge (firstS l) l.length with h | h
  · exact h
  · have := firstS_open l
    rw [show firstS l = l.length by omega, ho] at this
    cases this

set_option maxRecDepth 100000 in
set_option maxHeartbeats 1000000 in
theorem fit1_in (g gr : Nat) (n0 d0 n1 d1 N D A R cc : Int) (v : Value) (w : World) (hg : w.heap[g]? = some (.cells #[.int .i64 n0, .int .i64 d0, .int .i64 n1, .int .i64 d1, v] 78 (0, 0)))
    (c0 : ∀ w, Calls Tryd.prog 43 #[.agg #[.int .i64 n0, .int .i64 d0], .agg #[.int .i64 n1, .int .i64 d1]] w fun e w' => e = .returned (.tuple #[.agg #[.int .i64 N, .int .i64 D], .int .i64 0]) ∧ Below w.heap.size w w')
    (c1 : ∀ w1, Below w.heap.size w w1 → Calls Tryd.prog 45 #[.pointer (some ⟨g, 0, none⟩), .agg #[.int .i64 N, .int .i64 D]] w1 fun e w' => e = .returned (.agg #[.int .i64 (hi cc), .int .u64 (lo cc)]) ∧ Below w1.heap.size w1 w')
    (c2 : ∀ w, Calls Tryd.prog 44 #[.agg #[.int .i64 (hi cc), .int .u64 (lo cc)], .agg #[.int .i64 N, .int .i64 D]] w fun e w' => e = .returned (.tuple #[.agg #[.int .i64 A, .int .i64 R, .int .i64 N, .int .i64 D], .int .i64 0]) ∧ Below w.heap.size w w') :
    Calls Tryd.prog 42 #[.pointer (some ⟨g, 0, none⟩)] w fun e w' => e = .returned (.tuple #[.agg #[.int .i64 A, .int .i64 R, .int .i64 N, .int .i64 D], .int .i64 0]) ∧ Below w.heap.size w w' := by
  go_enter Tryd.func42, Tryd.ntmps42
  obtain ⟨zg_a, zg_b, lg0⟩ := rcell hg
  go_wp2_with fail
  have f_g1 := (ka (hg) (.cells #[.int .i64 0, .int .i64 0, .int .i64 0, .int .i64 0] 31))
  have f_o1 := (na w #[.int .i64 0, .int .i64 0, .int .i64 0, .int .i64 0] 31)
  have hB1 := (bA (b0 w) (.cells #[.int .i64 0, .int .i64 0, .int .i64 0, .int .i64 0] 31))
  clear zg_a zg_b
  have lg1 := (rcell f_g1).2.2
  have lo1 := (rcell f_o1).2.2
  refine Abs.wp_region_abs (Abs.cls0 _) [0, 1, 2, 3, 4, 5, 6, 7, 8, 9, 10, 11, 12, 13, 14, 15, 16] (by kernel_rfl) (by kernel_rfl) (Below.refl _ _).drew ?_
  repeat (first | (refine Abs.step_pure rfl rfl (fun K hK => ?_); go_simp; (try go_bits); (first | refine hK _ _ ?_ | (simp only [↓IntWalk.iteOmega]; go_simp; (try go_bits); refine hK _ _ ?_)); clear hK K) | (refine Abs.step_load (v := ?_) rfl rfl (by kernel_rfl) rfl (fun w0 hI => ?_) (fun K hK => ?_); rotate_left; (· have z0 := (rcell (kp hI (f_g1))).1; have z1 := (rcell (kp hI (f_o1))).1; go_simp; rfl); (simp only [Act.put, List.setIfInBounds_toArray, List.set_cons_zero, List.set_cons_succ]; refine hK _ _ ?_; clear hK K)) | (refine Abs.step_skip rfl rfl (fun K hK => ?_); (simp only [Act.put, List.setIfInBounds_toArray, List.set_cons_zero, List.set_cons_succ]; refine hK _ _ ?_; clear hK K)))
  (refine Abs.step_call_val (f := ?_) (args := ?_) (v := ?_) rfl rfl rfl rfl (fun w0 => ?_) (fun w0 hI => ?_) (fun K hK => ?_); rotate_left 3; (· go_simp; (constructor <;> rfl)); (· exact c0 _); (simp only [Act.put, List.setIfInBounds_toArray, List.set_cons_zero, List.set_cons_succ]; refine hK _ _ ?_; clear hK K))
  repeat (first | (refine Abs.step_pure rfl rfl (fun K hK => ?_); go_simp; (try go_bits); (first | refine hK _ _ ?_ | (simp only [↓IntWalk.iteOmega]; go_simp; (try go_bits); refine hK _ _ ?_)); clear hK K) | (refine Abs.step_load (v := ?_) rfl rfl (by kernel_rfl) rfl (fun w0 hI => ?_) (fun K hK => ?_); rotate_left; (· have z0 := (rcell (kp hI (f_g1))).1; have z1 := (rcell (kp hI (f_o1))).1; go_simp; rfl); (simp only [Act.put, List.setIfInBounds_toArray, List.set_cons_zero, List.set_cons_succ]; refine hK _ _ ?_; clear hK K)) | (refine Abs.step_skip rfl rfl (fun K hK => ?_); (simp only [Act.put, List.setIfInBounds_toArray, List.set_cons_zero, List.set_cons_succ]; refine hK _ _ ?_; clear hK K)))
  (refine Abs.step_var (obj := ?_) rfl rfl rfl rfl (fun w0 => ?_) (fun K hK g_s hv_s hu_s => ?_); rotate_left; (· go_simp; rfl); (simp only [Act.put, List.setIfInBounds_toArray, List.set_cons_zero, List.set_cons_succ]; refine hK _ _ ?_; clear hK K))
  repeat (first | (refine Abs.step_pure rfl rfl (fun K hK => ?_); go_simp; (try go_bits); (first | refine hK _ _ ?_ | (simp only [↓IntWalk.iteOmega]; go_simp; (try go_bits); refine hK _ _ ?_)); clear hK K) | (refine Abs.step_load (v := ?_) rfl rfl (by kernel_rfl) rfl (fun w0 hI => ?_) (fun K hK => ?_); rotate_left; (· have z0 := (rcell (kp hI (f_g1))).1; have z1 := (rcell (kp hI (f_o1))).1; go_simp; rfl); (simp only [Act.put, List.setIfInBounds_toArray, List.set_cons_zero, List.set_cons_succ]; refine hK _ _ ?_; clear hK K)) | (refine Abs.step_skip rfl rfl (fun K hK => ?_); (simp only [Act.put, List.setIfInBounds_toArray, List.set_cons_zero, List.set_cons_succ]; refine hK _ _ ?_; clear hK K)))
  (refine Abs.step_store (T := ?_) rfl rfl rfl (fun w0 hI hF hU => ?_) (fun _ _ _ _ => trivial) (fun K hK => ?_); rotate_left; (· simp only [Abs.F_setF, Abs.F_addA, Abs.F_push, Abs.F_start, true_and] at hF; have hg0 := (rcell hF).1; have hg1 := (rcell hF).2.1; simp only [Abs.T_setF, Abs.T_addA, Abs.T_push, Abs.T_start]; go_simp; exact row2 hF _ _); (simp only [Act.put, List.setIfInBounds_toArray, List.set_cons_zero, List.set_cons_succ]; refine hK _ _ ?_; clear hK K))
  repeat (first | (refine Abs.step_pure rfl rfl (fun K hK => ?_); go_simp; (try go_bits); (first | refine hK _ _ ?_ | (simp only [↓IntWalk.iteOmega]; go_simp; (try go_bits); refine hK _ _ ?_)); clear hK K) | (refine Abs.step_load (v := ?_) rfl rfl (by kernel_rfl) rfl (fun w0 hI => ?_) (fun K hK => ?_); rotate_left; (· have z0 := (rcell (kp hI (f_g1))).1; have z1 := (rcell (kp hI (f_o1))).1; go_simp; rfl); (simp only [Act.put, List.setIfInBounds_toArray, List.set_cons_zero, List.set_cons_succ]; refine hK _ _ ?_; clear hK K)) | (refine Abs.step_skip rfl rfl (fun K hK => ?_); (simp only [Act.put, List.setIfInBounds_toArray, List.set_cons_zero, List.set_cons_succ]; refine hK _ _ ?_; clear hK K)))
  have hs_s := leB hv_s
  try simp only [World.size_alloc] at hs_s
  intro w0 hI hF hx1 hx2
  clear hx1 hx2
  simp only [Abs.F_setF, Abs.F_addA, Abs.F_push, Abs.F_start, true_and, Abs.T_push] at hF ⊢
  generalize hT2 : setRow w0 _ _ = w2
  obtain ⟨hb2, f_s2⟩ := fin1 hI hv_s hF hT2
  clear hT2 hI hF w0
  have f_g2 := kp hb2 (f_g1)
  have f_o2 := kp hb2 (f_o1)
  have hB2 := bB hB1 hb2
  obtain ⟨zg_a, zg_b, lg2⟩ := rcell f_g2
  obtain ⟨zo_a, zo_b, lo2⟩ := rcell f_o2
  obtain ⟨zs_a, zs_b, ls2⟩ := rcell f_s2
  go_wp2_with fail
  have BB := hB2
  refine Abs.wp_region_abs (Abs.cls0 _) [0, 1, 2, 3, 4, 5, 6, 7, 8] (by kernel_rfl) (by kernel_rfl) (Below.refl _ _).drew ?_
  repeat (first | (refine Abs.step_pure rfl rfl (fun K hK => ?_); go_simp; (try go_bits); (first | refine hK _ _ ?_ | (simp only [↓IntWalk.iteOmega]; go_simp; (try go_bits); refine hK _ _ ?_)); clear hK K) | (refine Abs.step_load (v := ?_) rfl rfl (by kernel_rfl) rfl (fun w0 hI => ?_) (fun K hK => ?_); rotate_left; (· have z0 := (rcell (kp hI (f_g2))).1; have z1 := (rcell (kp hI (f_o2))).1; have z2 := (rcell (kp hI (f_s2))).1; go_simp; rfl); (simp only [Act.put, List.setIfInBounds_toArray, List.set_cons_zero, List.set_cons_succ]; refine hK _ _ ?_; clear hK K)) | (refine Abs.step_skip rfl rfl (fun K hK => ?_); (simp only [Act.put, List.setIfInBounds_toArray, List.set_cons_zero, List.set_cons_succ]; refine hK _ _ ?_; clear hK K)))
  (refine Abs.step_call_val (f := ?_) (args := ?_) (v := ?_) rfl rfl rfl rfl (fun w0 => ?_) (fun w0 hI => ?_) (fun K hK => ?_); rotate_left 3; (· go_simp; (constructor <;> rfl)); (· exact c1 _ (bB BB hI)); (simp only [Act.put, List.setIfInBounds_toArray, List.set_cons_zero, List.set_cons_succ]; refine hK _ _ ?_; clear hK K))
  repeat (first | (refine Abs.step_pure rfl rfl (fun K hK => ?_); go_simp; (try go_bits); (first | refine hK _ _ ?_ | (simp only [↓IntWalk.iteOmega]; go_simp; (try go_bits); refine hK _ _ ?_)); clear hK K) | (refine Abs.step_load (v := ?_) rfl rfl (by kernel_rfl) rfl (fun w0 hI => ?_) (fun K hK => ?_); rotate_left; (· have z0 := (rcell (kp hI (f_g2))).1; have z1 := (rcell (kp hI (f_o2))).1; have z2 := (rcell (kp hI (f_s2))).1; go_simp; rfl); (simp only [Act.put, List.setIfInBounds_toArray, List.set_cons_zero, List.set_cons_succ]; refine hK _ _ ?_; clear hK K)) | (refine Abs.step_skip rfl rfl (fun K hK => ?_); (simp only [Act.put, List.setIfInBounds_toArray, List.set_cons_zero, List.set_cons_succ]; refine hK _ _ ?_; clear hK K)))
  (refine Abs.step_call_val (f := ?_) (args := ?_) (v := ?_) rfl rfl rfl rfl (fun w0 => ?_) (fun w0 hI => ?_) (fun K hK => ?_); rotate_left 3; (· go_simp; (constructor <;> rfl)); (· exact c2 _); (simp only [Act.put, List.setIfInBounds_toArray, List.set_cons_zero, List.set_cons_succ]; refine hK _ _ ?_; clear hK K))
  repeat (first | (refine Abs.step_pure rfl rfl (fun K hK => ?_); go_simp; (try go_bits); (first | refine hK _ _ ?_ | (simp only [↓IntWalk.iteOmega]; go_simp; (try go_bits); refine hK _ _ ?_)); clear hK K) | (refine Abs.step_load (v := ?_) rfl rfl (by kernel_rfl) rfl (fun w0 hI => ?_) (fun K hK => ?_); rotate_left; (· have z0 := (rcell (kp hI (f_g2))).1; have z1 := (rcell (kp hI (f_o2))).1; have z2 := (rcell (kp hI (f_s2))).1; go_simp; rfl); (simp only [Act.put, List.setIfInBounds_toArray, List.set_cons_zero, List.set_cons_succ]; refine hK _ _ ?_; clear hK K)) | (refine Abs.step_skip rfl rfl (fun K hK => ?_); (simp only [Act.put, List.setIfInBounds_toArray, List.set_cons_zero, List.set_cons_succ]; refine hK _ _ ?_; clear hK K)))
  (refine Abs.step_store (T := ?_) rfl rfl rfl (fun w0 hI hF hU => ?_) (fun w0 hI hU hJ => ?_) (fun K hK => ?_); rotate_left; (· have hR := kp hI (f_o2); have hg0 := (rcell hR).1; have hg1 := (rcell hR).2.1; simp only [Abs.T_setF, Abs.T_addA, Abs.T_push, Abs.T_start]; go_simp; exact row4 hR _ _ _ _); (· first | exact trivial | exact js hJ rfl _ | exact js hJ (Or.inl rfl) _ | exact js hJ (Or.inr rfl) _); (simp only [Act.put, List.setIfInBounds_toArray, List.set_cons_zero, List.set_cons_succ]; refine hK _ _ ?_; clear hK K))
  repeat (first | (refine Abs.step_pure rfl rfl (fun K hK => ?_); go_simp; (try go_bits); (first | refine hK _ _ ?_ | (simp only [↓IntWalk.iteOmega]; go_simp; (try go_bits); refine hK _ _ ?_)); clear hK K) | (refine Abs.step_load (v := ?_) rfl rfl (by kernel_rfl) rfl (fun w0 hI => ?_) (fun K hK => ?_); rotate_left; (· have z0 := (rcell (kp hI (f_g2))).1; have z1 := (rcell (kp hI (f_o2))).1; have z2 := (rcell (kp hI (f_s2))).1; go_simp; rfl); (simp only [Act.put, List.setIfInBounds_toArray, List.set_cons_zero, List.set_cons_succ]; refine hK _ _ ?_; clear hK K)) | (refine Abs.step_skip rfl rfl (fun K hK => ?_); (simp only [Act.put, List.setIfInBounds_toArray, List.set_cons_zero, List.set_cons_succ]; refine hK _ _ ?_; clear hK K)))
  intro w0 hI hF hx1 hx2
  clear hx1 hx2 hF
  simp only [Abs.T_push]
  generalize hT4 : setRow w0 _ _ = w4
  obtain ⟨hx4, f_o4⟩ := fin_x hI (f_o2) hT4
  clear hT4 hI w0
  have f_g4 := kx hx4 (f_g2) (by omega)
  have f_s4 := kx hx4 (f_s2) (by omega)
  have hB4 := bX hB2 hx4 (by omega)
  clear zg_a zg_b zo_a zo_b zs_a zs_b
  obtain ⟨zg_a, zg_b, lg4⟩ := rcell f_g4
  obtain ⟨zs_a, zs_b, ls4⟩ := rcell f_s4
  obtain ⟨zo_a, zo_b, lo4⟩ := rcell f_o4
  go_wp2_with fail
  have zz := (rcell (f_o4)).1
  refine bodyPost_ret (by simp [results, Tryd.results42, go_sem, zz]; try rfl) rfl ⟨rfl, hB4⟩

theorem slide_Fit1 (g B : Nat) (l : List Bd) (h : okB l = true) (ho : slOpen (sk l l.length) = true) (v : Value) (w : World) (hg : w.heap[g]? = some (.cells (fcs (sk l l.length) v) 78 (0, 0))) (hv : OwnB B w v l) :
    Calls Tryd.prog 42 #[.pointer (some ⟨g, 0, none⟩)] w fun e w' => e = .returned (.tuple #[.agg #[.int .i64 (fC l / (fS l).d), .int .i64 (fC l % (fS l).d), .int .i64 (fS l).n, .int .i64 (fS l).d], .int .i64 0]) ∧ Below w.heap.size w w' := by
  obtain ⟨k0, k1, k2⟩ := okB_spec h
  obtain ⟨A, c, rfl, hR⟩ := hv.br
  obtain ⟨gr, o, cur, rfl, hgr, hc⟩ := hR.mem k0
  have hS := sk_inv k2 l.length (Nat.le_refl _)
  have hL := fS_low h
  have hd := slB_spec hL.1
  have hK := lwK_rng k2 hL.1 l.length (Nat.le_refl _)
  refine fit1_in g gr _ _ _ _ (fS l).n (fS l).d _ _ (fC l) _ w hg (fun w => line_Nearest_yes _ _ _ _ hS.v1 hS.v2 (slOpen_iff.1 ho) w)
    (fun w1 hb => slide_low g gr o c l (fS l).n (fS l).d _ _ _ _ cur (hide k2) k0 k1 (hide hL.1) ⟨hd.1, hd.2.1⟩ ⟨hd.2.2.1, hd.2.2.2⟩ w1 (kp hb hg) (kp hb hgr) (hide fun i hi => by
      have := hc i hi
      rw [bd_eq hi] at this
      exact this))
    (fun w => line_Raised_yes (fC l) (fS l).n (fS l).d (rng_of (by unfold fC; omega) (by unfold fC; omega)) hL.1 hL.2 (fC_bk h ho) w)

/-! ### Slopes -/
set_option maxRecDepth 100000 in
set_option maxHeartbeats 1000000 in
theorem slopes_in (A : Option Addr) (c n : Nat) (x0 x1 x2 x3 E : Int) (w : World)
    (c0 : ∀ w1, Below w.heap.size w w1 → Calls Tryd.prog 38 #[.slice A n c, .func (Fn.func 39) #[] #[]] w1 fun e w' => e = .returned (.tuple #[.agg #[.int .i64 x0, .int .i64 x1, .int .i64 x2, .int .i64 x3], .int .i64 E]) ∧ Below w1.heap.size w1 w') :
    Calls Tryd.prog 13 #[.slice A n c] w fun e w' => e = .returned (.tuple #[.agg #[.int .i64 x0, .int .i64 x1], .agg #[.int .i64 x2, .int .i64 x3], .int .i64 E]) ∧ Below w.heap.size w w' := by
  go_enter Tryd.func13, Tryd.ntmps13
  go_wp2_with fail
  refine (c0 _ (bA (bA (b0 w) _) _)).mono ?_
  rintro e w1 ⟨rfl, hb1⟩
  have f_a1 := kp hb1 (ka (na w #[.int .i64 0, .int .i64 0] 26) (.cells #[.int .i64 0, .int .i64 0] 26))
  have f_b1 := kp hb1 (na1 w (.cells #[.int .i64 0, .int .i64 0] 26) #[.int .i64 0, .int .i64 0] 26)
  have hB1 := bB (bA (bA (b0 w) (.cells #[.int .i64 0, .int .i64 0] 26)) (.cells #[.int .i64 0, .int .i64 0] 26)) hb1
  obtain ⟨za_a, za_b, la1⟩ := rcell f_a1
  obtain ⟨zb_a, zb_b, lb1⟩ := rcell f_b1
  go_wp2_with fail
  have f_a2 := (ka (f_a1) (.cells #[.int .i64 x0, .int .i64 x1, .int .i64 x2, .int .i64 x3] 73))
  have f_b2 := (ka (f_b1) (.cells #[.int .i64 x0, .int .i64 x1, .int .i64 x2, .int .i64 x3] 73))
  have f_s2 := (na w1 #[.int .i64 x0, .int .i64 x1, .int .i64 x2, .int .i64 x3] 73)
  have hB2 := (bA hB1 (.cells #[.int .i64 x0, .int .i64 x1, .int .i64 x2, .int .i64 x3] 73))
  clear za_a za_b zb_a zb_b
  have la2 := (rcell f_a2).2.2
  have lb2 := (rcell f_b2).2.2
  have ls2 := (rcell f_s2).2.2
  refine Abs.wp_region_abs (Abs.cls _ (fun k => k = w.heap.size ∨ k = w.heap.size + 1)) [0, 1, 2, 3, 4, 5, 6, 7] (by kernel_rfl) (by kernel_rfl) (Below.refl _ _).drew ?_
  repeat (first | (refine Abs.step_pure rfl rfl (fun K hK => ?_); go_simp; (try go_bits); (first | refine hK _ _ ?_ | (simp only [↓IntWalk.iteOmega]; go_simp; (try go_bits); refine hK _ _ ?_)); clear hK K) | (refine Abs.step_late (v := ?_) rfl rfl (fun w0 hI => ?_) (fun K hK => ?_); rotate_left; (· have z0 := (rcell (kj hI (f_s2) (by omega))).1; go_simp; rfl); (simp only [Act.put, List.setIfInBounds_toArray, List.set_cons_zero, List.set_cons_succ]; refine hK _ _ ?_; clear hK K)) | (refine Abs.step_skip rfl rfl (fun K hK => ?_); (simp only [Act.put, List.setIfInBounds_toArray, List.set_cons_zero, List.set_cons_succ]; refine hK _ _ ?_; clear hK K)))
  (refine Abs.step_store (T := ?_) rfl rfl rfl (fun w0 hI hF hU => ?_) (fun w0 hI hU hJ => ?_) (fun K hK => ?_); rotate_left; (· have hR := kp hI (f_a2); have hg0 := (rcell hR).1; have hg1 := (rcell hR).2.1; simp only [Abs.T_setF, Abs.T_addA, Abs.T_push, Abs.T_start]; go_simp; exact row2 hR _ _); (· first | exact trivial | exact js hJ rfl _ | exact js hJ (Or.inl rfl) _ | exact js hJ (Or.inr rfl) _); (simp only [Act.put, List.setIfInBounds_toArray, List.set_cons_zero, List.set_cons_succ]; refine hK _ _ ?_; clear hK K))
  (refine Abs.step_store (T := ?_) rfl rfl rfl (fun w0 hI hF hU => ?_) (fun w0 hI hU hJ => ?_) (fun K hK => ?_); rotate_left; (· have hR := fun cs => (setRow_other (w := w0) (g := w.heap.size) cs (by omega)).trans (kp hI (f_b2)); have hg0 := fun cs => (rcell (hR cs)).1; have hg1 := fun cs => (rcell (hR cs)).2.1; simp only [Abs.T_setF, Abs.T_addA, Abs.T_push, Abs.T_start]; go_simp; exact row2 (hR _) _ _); (· first | exact trivial | exact js hJ rfl _ | exact js hJ (Or.inl rfl) _ | exact js hJ (Or.inr rfl) _); (simp only [Act.put, List.setIfInBounds_toArray, List.set_cons_zero, List.set_cons_succ]; refine hK _ _ ?_; clear hK K))
  repeat (first | (refine Abs.step_pure rfl rfl (fun K hK => ?_); go_simp; (try go_bits); (first | refine hK _ _ ?_ | (simp only [↓IntWalk.iteOmega]; go_simp; (try go_bits); refine hK _ _ ?_)); clear hK K) | (refine Abs.step_late (v := ?_) rfl rfl (fun w0 hI => ?_) (fun K hK => ?_); rotate_left; (· have z0 := (rcell (kj hI (f_s2) (by omega))).1; go_simp; rfl); (simp only [Act.put, List.setIfInBounds_toArray, List.set_cons_zero, List.set_cons_succ]; refine hK _ _ ?_; clear hK K)) | (refine Abs.step_skip rfl rfl (fun K hK => ?_); (simp only [Act.put, List.setIfInBounds_toArray, List.set_cons_zero, List.set_cons_succ]; refine hK _ _ ?_; clear hK K)))
  intro w0 hI hF hx1 hx2
  clear hx1 hx2 hF
  simp only [Abs.T_push]
  generalize hT3 : setRow w0 _ _ = w3
  obtain ⟨hx3, f_a3⟩ := fin_x hI (f_a2) hT3
  clear hT3 hI w0
  have f_b3 := kx hx3 (f_b2) (by omega)
  have f_s3 := kx hx3 (f_s2) (by omega)
  have hB3 := bX hB2 hx3 (by omega)
  obtain ⟨zb_a, zb_b, lb3⟩ := rcell f_b3
  obtain ⟨zs_a, zs_b, ls3⟩ := rcell f_s3
  obtain ⟨za_a, za_b, la3⟩ := rcell f_a3
  generalize hT4 : setRow w3 _ _ = w4
  obtain ⟨hx4, f_b4⟩ := fin_x (b0 _) f_b3 hT4
  clear hT4
  have f_s4 := kx hx4 (f_s3) (by omega)
  have f_a4 := kx hx4 (f_a3) (by omega)
  have hB4 := bX hB3 hx4 (by omega)
  clear za_a za_b zb_a zb_b zs_a zs_b
  obtain ⟨zs_a, zs_b, ls4⟩ := rcell f_s4
  obtain ⟨za_a, za_b, la4⟩ := rcell f_a4
  obtain ⟨zb_a, zb_b, lb4⟩ := rcell f_b4
  go_wp2_with fail
  have za := (rcell (f_a4)).1
  have zb := (rcell (f_b4)).1
  refine bodyPost_ret (by simp [results, Tryd.results13, go_sem, za, zb]; try rfl) rfl ⟨rfl, hB4⟩

set_option maxRecDepth 100000 in
theorem fit_in (A : Option Addr) (c n : Nat) (x0 x1 x2 x3 E : Int) (w : World)
    (c0 : ∀ w1, Below w.heap.size w w1 → Calls Tryd.prog 41 #[.slice A n c, .func (Fn.func 42) #[] #[]] w1 fun e w' => e = .returned (.tuple #[.agg #[.int .i64 x0, .int .i64 x1, .int .i64 x2, .int .i64 x3], .int .i64 E]) ∧ Below w1.heap.size w1 w') :
    Calls Tryd.prog 14 #[.slice A n c] w fun e w' => e = .returned (.tuple #[.agg #[.int .i64 x0, .int .i64 x1, .int .i64 x2, .int .i64 x3], .int .i64 E]) ∧ Below w.heap.size w w' := by
  go_enter Tryd.func14, Tryd.ntmps14
  go_wp2_with fail
  refine (c0 _ (bA (b0 w) _)).mono ?_
  rintro e w1 ⟨rfl, hb1⟩
  have f_o1 := kp hb1 (na w #[.int .i64 0, .int .i64 0, .int .i64 0, .int .i64 0] 31)
  have hB1 := bB (bA (b0 w) (.cells #[.int .i64 0, .int .i64 0, .int .i64 0, .int .i64 0] 31)) hb1
  obtain ⟨zo_a, zo_b, lo1⟩ := rcell f_o1
  go_wp2_with fail
  (rw [row4 (f_o1)]; generalize hT : setRow _ _ _ = wE; obtain ⟨hbE, hgE⟩ := ret_row hB1 (by omega) (f_o1) hT; have zE := (rcell hgE).1; clear hT; refine bodyPost_ret (by simp [results, Tryd.results14, go_sem, zE]; try rfl) rfl ?_)
  exact ⟨rfl, hbE⟩

section
variable (A : Option Addr) (c : Nat) (l : List Bd)
theorem slide_Slopes_no (h : okB l = false) (w : World) (hR : BR w A c l) :
    Calls Tryd.prog 13 #[.slice A l.length c] w fun e w' => e = .returned (.tuple #[.agg #[.int .i64 0, .int .i64 0], .agg #[.int .i64 0, .int .i64 0], .int .i64 180]) ∧ Below w.heap.size w w' :=
  slopes_in A c l.length 0 0 0 0 180 w fun w1 hb => whole_s_no A c l h w1 (hR.below hb)
theorem slide_Slopes_shut (h : okB l = true) (ho : slOpen (sk l l.length) = false) (w : World) (hall : w.heap[0]? = some (.cells all4 ta (0, 0))) (hR : BR w A c l) :
    Calls Tryd.prog 13 #[.slice A l.length c] w fun e w' => e = .returned (.tuple #[.agg #[.int .i64 0, .int .i64 0], .agg #[.int .i64 0, .int .i64 0], .int .i64 181]) ∧ Below w.heap.size w w' :=
  slopes_in A c l.length 0 0 0 0 181 w fun w1 hb => whole_s_short A c l h (firstS_short ho) w1 (kp hb hall) (hR.below hb)
theorem slide_Slopes_yes (h : okB l = true) (ho : slOpen (sk l l.length) = true) (w : World) (hall : w.heap[0]? = some (.cells all4 ta (0, 0))) (hR : BR w A c l) :
    Calls Tryd.prog 13 #[.slice A l.length c] w fun e w' => e = .returned (.tuple #[.agg #[.int .i64 (lwN (sk l l.length).1.n (sk l l.length).1.d), .int .i64 (lwD (sk l l.length).1.n (sk l l.length).1.d)], .agg #[.int .i64 (lwN (sk l l.length).2.n (sk l l.length).2.d), .int .i64 (lwD (sk l l.length).2.n (sk l l.length).2.d)], .int .i64 0]) ∧ Below w.heap.size w w' := by
  have hS := sk_inv (okB_spec h).2.2 l.length (Nat.le_refl _)
  exact slopes_in A c l.length _ _ _ _ 0 w fun w1 hb => whole_s_all A c l h (firstS_all (okB_spec h).2.2 ho) _ _ _ _ 0 w1 (kp hb hall) (hR.below hb) fun g v w2 hg _ hb2 => slide_Slopes1 g (sk l l.length) hS.v1 hS.v2 v w2 hg (kp (bB hb hb2) hall)
theorem slide_Fit_no (h : okB l = false) (w : World) (hR : BR w A c l) :
    Calls Tryd.prog 14 #[.slice A l.length c] w fun e w' => e = .returned (.tuple #[.agg #[.int .i64 0, .int .i64 0, .int .i64 0, .int .i64 0], .int .i64 180]) ∧ Below w.heap.size w w' :=
  fit_in A c l.length 0 0 0 0 180 w fun w1 hb => whole_l_no A c l h w1 (hR.below hb)
theorem slide_Fit_shut (h : okB l = true) (ho : slOpen (sk l l.length) = false) (w : World) (hall : w.heap[0]? = some (.cells all4 ta (0, 0))) (hR : BR w A c l) :
    Calls Tryd.prog 14 #[.slice A l.length c] w fun e w' => e = .returned (.tuple #[.agg #[.int .i64 0, .int .i64 0, .int .i64 0, .int .i64 0], .int .i64 181]) ∧ Below w.heap.size w w' :=
  fit_in A c l.length 0 0 0 0 181 w fun w1 hb => whole_l_short A c l h (firstS_short ho) w1 (kp hb hall) (hR.below hb)
theorem slide_Fit_yes (h : okB l = true) (ho : slOpen (sk l l.length) = true) (w : World) (hall : w.heap[0]? = some (.cells all4 ta (0, 0))) (hR : BR w A c l) :
    Calls Tryd.prog 14 #[.slice A l.length c] w fun e w' => e = .returned (.tuple #[.agg #[.int .i64 (fC l / (fS l).d), .int .i64 (fC l % (fS l).d), .int .i64 (fS l).n, .int .i64 (fS l).d], .int .i64 0]) ∧ Below w.heap.size w w' :=
  fit_in A c l.length _ _ _ _ 0 w fun w1 hb => whole_l_all A c l h (firstS_all (okB_spec h).2.2 ho) _ _ _ _ 0 w1 (kp hb hall) (hR.below hb) fun g v w2 hg hv _ => slide_Fit1 g _ l h ho v w2 hg hv
end
end Go.Proofs.YtpimkigbdjfjoaaDoor
