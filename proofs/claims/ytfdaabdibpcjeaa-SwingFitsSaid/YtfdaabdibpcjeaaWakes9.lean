/- yearbooklaw09.wakes at this program. -/
import Derived.Test.YtfdaabdibpcjeaaLaw9
import Derived.Test.YtfdaabdibpcjeaaSwingP
set_option linter.unusedSimpArgs false
set_option linter.unusedVariables false
namespace Go.Proofs.Ytfdaabdibpcjeaa
open Go.RowKit

def L4 : List Bd := [⟨0, 0, 0⟩, ⟨1, 2, 2⟩, ⟨2, 3, 3⟩, ⟨3, 4, 4⟩]
def L2 : List Bd := [⟨0, 0, 0⟩, ⟨1, 2, 2⟩]
theorem L4_ok : okB L4 = true := by decide +kernel
theorem L2_ok : okB L2 = true := by decide +kernel
theorem L4_shut : drOpen (dk L4 L4.length) = false := by decide +kernel
theorem L2_open : drOpen (dk L2 L2.length) = true := by decide +kernel
theorem L2_v : (dk L2 L2.length).v = 0 := by decide +kernel
theorem L2_N : flN (dk L2 L2.length) = 2 := by decide +kernel
theorem L2_D : flD (dk L2 L2.length) = 1 := by decide +kernel
theorem L2_thr : thrB 0 0 2 1 (L2.headD ⟨0, 0, 0⟩).t L2 = true := by decide +kernel
theorem L4_cuts : cuts L4 = [2, 2] := by
  have e1 : firstN L4 = 2 := by decide +kernel
  have e2 : firstN (L4.drop 2) = 2 := by decide +kernel
  rw [cuts_cons (by decide), e1, cuts_cons (by decide), e2, cuts_nil (by decide)]

theorem L4_br (w : World) : BR (w.alloc (.cells #[.int .i64 0, .int .i64 0, .int .i64 0, .int .i64 1, .int .i64 2, .int .i64 2, .int .i64 2, .int .i64 3, .int .i64 3, .int .i64 3, .int .i64 4, .int .i64 4] 38)) (some ⟨w.heap.size, 0, none⟩) 4 L4 :=
  ⟨by decide, by decide, fun _ => ⟨w.heap.size, 0, _, rfl, na w _ _, fun i hi => by
    have : i = 0 ∨ i = 1 ∨ i = 2 ∨ i = 3 := by
      have : L4.length = 4 := rfl
      omega
    rcases this with rfl | rfl | rfl | rfl <;> exact ⟨rfl, rfl, rfl⟩⟩⟩

theorem rd_two {w : World} {g : Nat} (h : w.heap[g]? = some (.cells #[.int .i64 2, .int .i64 2] 3 (0, 0))) : Rd w (some ⟨g, 0, none⟩) 2 [2, 2] :=
  ⟨by decide, fun _ => ⟨g, _, rfl, h, fun i hi => by
    have : i = 0 ∨ i = 1 := by simp at hi; omega
    rcases this with rfl | rfl <;> rfl⟩⟩

set_option maxRecDepth 100000 in
set_option maxHeartbeats 4000000 in
theorem wakes9 (w : World) : Calls Try.prog 10 #[] w fun e w' => e = .returned (.bool true) ∧ Below w.heap.size w w' := by
  have c1 := fun A c w h => swing_Cut_yes A c L4 L4_ok w h
  rw [L4_cuts] at c1
  have c2 := fun A c w h => swing_Fit_yes A c L2 L2_ok L2_open w h
  rw [L2_v, L2_N, L2_D] at c2
  have c3 := fun A c w h => swing_Fit_shut A c L4 L4_ok L4_shut w h
  have c4 := fun A c w h => swing_Through_yes 0 0 2 1 A c L2 L2_ok true (hide L2_thr) w h
  have e4 : L4.length = 4 := rfl
  have e2 : L2.length = 2 := rfl
  rw [e4] at c1 c3
  rw [e2] at c2 c4
  have HR := hide (L4_br w)
  have HR2 : Hid (BR (w.alloc (.cells #[.int .i64 0, .int .i64 0, .int .i64 0, .int .i64 1, .int .i64 2, .int .i64 2, .int .i64 2, .int .i64 3, .int .i64 3, .int .i64 3, .int .i64 4, .int .i64 4] 38)) (some ⟨w.heap.size, 0, none⟩) 4 L2) := hide ((L4_br w).take 2)
  clear e4 e2
  go_enter Try.func10, Try.ntmps10
  go_wp2_with fail
  refine (c1 _ _ _ HR.out).mono ?_
  rintro e wa ⟨A1, k1, rfl, r1, hba⟩
  have hBa := bB (bA (b0 w) (.cells #[.int .i64 0, .int .i64 0, .int .i64 0, .int .i64 1, .int .i64 2, .int .i64 2, .int .i64 2, .int .i64 3, .int .i64 3, .int .i64 3, .int .i64 4, .int .i64 4] 38)) hba
  have HS := hide (HR.out.below hba)
  have HS2 := hide (HR2.out.below hba)
  clear HR HR2 hba c1
  go_wp2_with fail
  refine (c2 _ _ _ HS2.out).mono ?_
  rintro e wb ⟨rfl, hbb⟩
  have hBb := bB hBa hbb
  have R1 := hide (r1.below hbb)
  have HT := hide (HS.out.below hbb)
  have HT2 := hide (HS2.out.below hbb)
  clear HS HS2 hbb c2 r1 hBa
  go_wp2_with fail
  refine (c3 _ _ _ (HT.out.below (bA (b0 _) _))).mono ?_
  rintro e w1 ⟨rfl, hb1⟩
  have f_x1 := kp hb1 (na wb #[.int .i64 0, .int .i64 0, .int .i64 2, .int .i64 1] 23)
  have hB1 := bB (bA hBb (.cells #[.int .i64 0, .int .i64 0, .int .i64 2, .int .i64 1] 23)) hb1
  obtain ⟨zx_a, zx_b, lx1⟩ := rcell f_x1
  have R2 := hide (R1.out.below (bA (bB (bA (b0 wb) (.cells #[.int .i64 0, .int .i64 0, .int .i64 2, .int .i64 1] 23)) hb1) (.cells #[.int .i64 0, .int .i64 0, .int .i64 0, .int .i64 0] 23)))
  have HV2 := hide (HT2.out.below (bA (bB (bA (b0 wb) (.cells #[.int .i64 0, .int .i64 0, .int .i64 2, .int .i64 1] 23)) hb1) (.cells #[.int .i64 0, .int .i64 0, .int .i64 0, .int .i64 0] 23)))
  clear R1 HT HT2 c3
  go_wp2_with fail
  have f_x2 := (ka (f_x1) (.cells #[.int .i64 0, .int .i64 0, .int .i64 0, .int .i64 0] 23))
  have f_y2 := (na w1 #[.int .i64 0, .int .i64 0, .int .i64 0, .int .i64 0] 23)
  have hB2 := (bA hB1 (.cells #[.int .i64 0, .int .i64 0, .int .i64 0, .int .i64 0] 23))
  clear zx_a zx_b
  have lx2 := (rcell f_x2).2.2
  have ly2 := (rcell f_y2).2.2
  refine Abs.wp_region_abs (Abs.cls0 _) [0, 1, 2, 3, 4, 5, 6, 7, 8, 9, 10, 11, 12, 13, 14, 15, 16, 17, 18, 19, 20, 21, 22, 23, 24, 25, 26] (by kernel_rfl) (by kernel_rfl) (Below.refl _ _).drew ?_
  repeat (first | (refine Abs.step_pure rfl rfl (fun K hK => ?_); go_simp; (try go_bits); (first | refine hK _ _ ?_ | (simp only [↓IntWalk.iteOmega]; go_simp; (try go_bits); refine hK _ _ ?_)); clear hK K) | (refine Abs.step_load (v := ?_) rfl rfl (by kernel_rfl) rfl (fun w0 hI => ?_) (fun K hK => ?_); rotate_left; (· have z0 := (rcell (kp hI (f_x2))).1; have z1 := (rcell (kp hI (f_y2))).1; go_simp; rfl); (simp only [Act.put, List.setIfInBounds_toArray, List.set_cons_zero, List.set_cons_succ]; refine hK _ _ ?_; clear hK K)) | (refine Abs.step_skip rfl rfl (fun K hK => ?_); (simp only [Act.put, List.setIfInBounds_toArray, List.set_cons_zero, List.set_cons_succ]; refine hK _ _ ?_; clear hK K)))
  (refine Abs.step_new (f := fun g => .slice (some ⟨g, 0, none⟩) 2 2) (obj := .cells #[.int .i64 2, .int .i64 2] 3) rfl rfl rfl rfl (fun w0 => ?_) (fun K hK g_n hv_n hu_n => ?_); (· go_simp; try rfl); (simp only [Act.put, List.setIfInBounds_toArray, List.set_cons_zero, List.set_cons_succ]; refine hK _ _ ?_; clear hK K))
  repeat (first | (refine Abs.step_pure rfl rfl (fun K hK => ?_); go_simp; (try go_bits); (first | refine hK _ _ ?_ | (simp only [↓IntWalk.iteOmega]; go_simp; (try go_bits); refine hK _ _ ?_)); clear hK K) | (refine Abs.step_load (v := ?_) rfl rfl (by kernel_rfl) rfl (fun w0 hI => ?_) (fun K hK => ?_); rotate_left; (· have z0 := (rcell (kp hI (f_x2))).1; have z1 := (rcell (kp hI (f_y2))).1; go_simp; rfl); (simp only [Act.put, List.setIfInBounds_toArray, List.set_cons_zero, List.set_cons_succ]; refine hK _ _ ?_; clear hK K)) | (refine Abs.step_skip rfl rfl (fun K hK => ?_); (simp only [Act.put, List.setIfInBounds_toArray, List.set_cons_zero, List.set_cons_succ]; refine hK _ _ ?_; clear hK K)))
  (refine Abs.step_call (f := ?_) (args := ?_) rfl rfl rfl rfl (fun v _ => v = .bool true) (fun _ _ _ h _ => h) (fun w0 => ?_) (fun w0 hI hF => ?_) (fun K hK v w0 hv => ?_); rotate_left 2; (· go_simp; (constructor <;> rfl)); (· exact (equal_int A1 (some ⟨g_n, 0, none⟩) k1 2 [2, 2] [2, 2] (by decide) w0 (R2.out.below hI) (rd_two ((hF 4 (by kernel_rfl)).2 rfl))).mono (fun _ _ h => ⟨_, h.1, h.2, rfl⟩)); (replace hv : v = .bool true := hv; subst hv; clear w0; simp only [Act.put, List.setIfInBounds_toArray, List.set_cons_zero, List.set_cons_succ]; refine hK _ _ ?_; clear hK K))
  repeat (first | (refine Abs.step_pure rfl rfl (fun K hK => ?_); go_simp; (try go_bits); (first | refine hK _ _ ?_ | (simp only [↓IntWalk.iteOmega]; go_simp; (try go_bits); refine hK _ _ ?_)); clear hK K) | (refine Abs.step_load (v := ?_) rfl rfl (by kernel_rfl) rfl (fun w0 hI => ?_) (fun K hK => ?_); rotate_left; (· have z0 := (rcell (kp hI (f_x2))).1; have z1 := (rcell (kp hI (f_y2))).1; go_simp; rfl); (simp only [Act.put, List.setIfInBounds_toArray, List.set_cons_zero, List.set_cons_succ]; refine hK _ _ ?_; clear hK K)) | (refine Abs.step_skip rfl rfl (fun K hK => ?_); (simp only [Act.put, List.setIfInBounds_toArray, List.set_cons_zero, List.set_cons_succ]; refine hK _ _ ?_; clear hK K)))
  (refine Abs.step_call_val (f := ?_) (args := ?_) (v := ?_) rfl rfl rfl rfl (fun w0 => ?_) (fun w0 hI => ?_) (fun K hK => ?_); rotate_left 3; (· go_simp; (constructor <;> rfl)); (· exact c4 _ _ _ (HV2.out.below hI)); (simp only [Act.put, List.setIfInBounds_toArray, List.set_cons_zero, List.set_cons_succ]; refine hK _ _ ?_; clear hK K))
  repeat (first | (refine Abs.step_pure rfl rfl (fun K hK => ?_); go_simp; (try go_bits); (first | refine hK _ _ ?_ | (simp only [↓IntWalk.iteOmega]; go_simp; (try go_bits); refine hK _ _ ?_)); clear hK K) | (refine Abs.step_load (v := ?_) rfl rfl (by kernel_rfl) rfl (fun w0 hI => ?_) (fun K hK => ?_); rotate_left; (· have z0 := (rcell (kp hI (f_x2))).1; have z1 := (rcell (kp hI (f_y2))).1; go_simp; rfl); (simp only [Act.put, List.setIfInBounds_toArray, List.set_cons_zero, List.set_cons_succ]; refine hK _ _ ?_; clear hK K)) | (refine Abs.step_skip rfl rfl (fun K hK => ?_); (simp only [Act.put, List.setIfInBounds_toArray, List.set_cons_zero, List.set_cons_succ]; refine hK _ _ ?_; clear hK K)))
  intro w3 hb3 hx0 hx1 hx2
  clear hx0 hx1 hx2
  simp only [Abs.T_setF, Abs.T_addA, Abs.T_push, Abs.T_start]
  have f_x3 := kp hb3 (f_x2)
  have f_y3 := kp hb3 (f_y2)
  have hB3 := bB hB2 hb3
  obtain ⟨zx_a, zx_b, lx3⟩ := rcell f_x3
  obtain ⟨zy_a, zy_b, ly3⟩ := rcell f_y3
  go_wp2
  go_ret
  exact ⟨rfl, hB3⟩
end Go.Proofs.Ytfdaabdibpcjeaa
