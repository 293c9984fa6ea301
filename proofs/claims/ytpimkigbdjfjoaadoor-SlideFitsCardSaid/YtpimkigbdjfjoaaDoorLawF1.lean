/- yearbookref10.Slopes at this program. -/
import Derived.Test.YtpimkigbdjfjoaaDoorLawA4
set_option linter.unusedSimpArgs false
set_option linter.unusedVariables false
namespace Go.Proofs.YtpimkigbdjfjoaaDoor
open Go.RowKit

set_option maxRecDepth 100000 in
set_option maxHeartbeats 4000000 in
theorem ref10_Slopes_in (g o c : Nat) (l : List Bd) (cur : Array Value) (h : Hid (okF (-1) l = true)) (h0 : 0 < l.length) (hn : l.length ≤ 260) (hcap : l.length ≤ c) (F : Bool) (hF : Hid (slOpen (sk l l.length) = F)) (x0 x1 x2 x3 : Int) (hx0 : F = false → x0 = 0 ∧ x1 = 0 ∧ x2 = 0 ∧ x3 = 0)
    (hx1 : Hid (F = true → x0 = lwN (sk l l.length).1.n (sk l l.length).1.d ∧ x1 = lwD (sk l l.length).1.n (sk l l.length).1.d ∧ x2 = lwN (sk l l.length).2.n (sk l l.length).2.d ∧ x3 = lwD (sk l l.length).2.n (sk l l.length).2.d))
    (HC : Hid (∀ i, i < l.length → cur[o + i * 3]? = some (.int .i64 (bd l i).t) ∧ cur[o + i * 3 + 1]? = some (.int .i64 (bd l i).lo) ∧ cur[o + i * 3 + 2]? = some (.int .i64 (bd l i).hi)))
    (w : World) (hg : w.heap[g]? = some (.cells cur 37 (0, 0))) :
    Calls Tryd.prog 17 #[.slice (some ⟨g, o, none⟩) l.length c] w fun e w' => e = .returned (.tuple #[.agg #[.int .i64 x0, .int .i64 x1], .agg #[.int .i64 x2, .int .i64 x3], .bool F]) ∧ Below w.heap.size w w' := by
  go_enter Tryd.func17, Tryd.ntmps17
  obtain ⟨zg_a, zg_b, lg0⟩ := rcell hg
  go_wp2_with fail
  go_loopw [13] (fun vi wr => ∃ (k : Nat) (a0 a1 c0 c1 : Int), vi = .int .i64 k ∧ k ≤ l.length ∧ Hid (sk l k = (⟨a0, a1⟩, ⟨c0, c1⟩)) ∧ wr.heap[g]? = some (.cells cur 37 (0, 0)) ∧ wr.heap[w.heap.size]? = some (.cells #[.int .i64 0, .int .i64 0] 26 (0, 0)) ∧ wr.heap[w.heap.size + 1]? = some (.cells #[.int .i64 0, .int .i64 0] 26 (0, 0)) ∧ wr.heap[w.heap.size + 1 + 1]? = some (.cells #[.int .i64 a0, .int .i64 a1] 26 (0, 0)) ∧ wr.heap[w.heap.size + 1 + 1 + 1]? = some (.cells #[.int .i64 c0, .int .i64 c1] 26 (0, 0)) ∧ Below w.heap.size w wr) (fun vi _ => l.length - (intOf vi).toNat)
  case atStart => exact ⟨0, -4611688217450643456, 1, 4611688217450643456, 1, rfl, by omega, hide rfl, (ka (ka (ka (ka (hg) (.cells #[.int .i64 0, .int .i64 0] 26)) (.cells #[.int .i64 0, .int .i64 0] 26)) (.cells #[.int .i64 (-4611688217450643456), .int .i64 1] 26)) (.cells #[.int .i64 4611688217450643456, .int .i64 1] 26)), (ka (ka (ka (na w #[.int .i64 0, .int .i64 0] 26) (.cells #[.int .i64 0, .int .i64 0] 26)) (.cells #[.int .i64 (-4611688217450643456), .int .i64 1] 26)) (.cells #[.int .i64 4611688217450643456, .int .i64 1] 26)), (ka (ka (na1 w (.cells #[.int .i64 0, .int .i64 0] 26) #[.int .i64 0, .int .i64 0] 26) (.cells #[.int .i64 (-4611688217450643456), .int .i64 1] 26)) (.cells #[.int .i64 4611688217450643456, .int .i64 1] 26)), (ka (na2 w (.cells #[.int .i64 0, .int .i64 0] 26) (.cells #[.int .i64 0, .int .i64 0] 26) #[.int .i64 (-4611688217450643456), .int .i64 1] 26) (.cells #[.int .i64 4611688217450643456, .int .i64 1] 26)), (na3 w (.cells #[.int .i64 0, .int .i64 0] 26) (.cells #[.int .i64 0, .int .i64 0] 26) (.cells #[.int .i64 (-4611688217450643456), .int .i64 1] 26) #[.int .i64 4611688217450643456, .int .i64 1] 26), (bA (bA (bA (bA (b0 w) (.cells #[.int .i64 0, .int .i64 0] 26)) (.cells #[.int .i64 0, .int .i64 0] 26)) (.cells #[.int .i64 (-4611688217450643456), .int .i64 1] 26)) (.cells #[.int .i64 4611688217450643456, .int .i64 1] 26))⟩
  case round =>
    obtain ⟨k, a0, a1, c0, c1, rfl, hk, hx, j0, j3, j4, j1, j2, hb⟩ := hrel
    by_cases hlt : k < l.length
    · obtain ⟨q1, q2, q3⟩ := HC.out k hlt
      have cL := ref10_Let g o c l cur h.out hn k hlt HC.out a0 a1 c0 c1 hx.out (sk l (k + 1)).1 (sk l (k + 1)).2 rfl
      have hxn : Hid (sk l (k + 1) = ((sk l (k + 1)).1, (sk l (k + 1)).2)) := hide rfl
      generalize (sk l (k + 1)).1 = E0 at *
      generalize (sk l (k + 1)).2 = E1 at *
      obtain ⟨m0, m1⟩ := E0
      obtain ⟨n0, n1⟩ := E1
      simp only at cL
      generalize bd l k = b at *
      obtain ⟨bt, bl, bh⟩ := b
      simp only at q1 q2 q3 cL
      have hkc : k ≤ c := by omega
      obtain ⟨zg_a, zg_b, lg1⟩ := rcell j0
      obtain ⟨za_a, za_b, la2⟩ := rcell j3
      obtain ⟨zb_a, zb_b, lb3⟩ := rcell j4
      obtain ⟨zp_a, zp_b, lp4⟩ := rcell j1
      obtain ⟨zq_a, zq_b, lq5⟩ := rcell j2
      go_wp2_with fail
      have f_g6 := (ka (j0) (.cells #[.int .i64 bt, .int .i64 bl, .int .i64 bh] 37))
      have f_a6 := (ka (j3) (.cells #[.int .i64 bt, .int .i64 bl, .int .i64 bh] 37))
      have f_b6 := (ka (j4) (.cells #[.int .i64 bt, .int .i64 bl, .int .i64 bh] 37))
      have f_p6 := (ka (j1) (.cells #[.int .i64 bt, .int .i64 bl, .int .i64 bh] 37))
      have f_q6 := (ka (j2) (.cells #[.int .i64 bt, .int .i64 bl, .int .i64 bh] 37))
      have f_x6 := (na wr #[.int .i64 bt, .int .i64 bl, .int .i64 bh] 37)
      have hB6 := (bA hb (.cells #[.int .i64 bt, .int .i64 bl, .int .i64 bh] 37))
      clear za_a za_b zb_a zb_b zg_a zg_b zp_a zp_b zq_a zq_b
      have lg6 := (rcell f_g6).2.2
      have la6 := (rcell f_a6).2.2
      have lb6 := (rcell f_b6).2.2
      have lp6 := (rcell f_p6).2.2
      have lq6 := (rcell f_q6).2.2
      have lx6 := (rcell f_x6).2.2
      refine Abs.wp_region_abs (Abs.cls0 _) [0, 1, 2, 3, 4, 5, 6, 7, 8, 9, 10, 11] (by kernel_rfl) (by kernel_rfl) (Below.refl _ _).drew ?_
      repeat (first | (refine Abs.step_pure rfl rfl (fun K hK => ?_); go_simp; (try go_bits); (first | refine hK _ _ ?_ | (simp only [↓IntWalk.iteOmega]; go_simp; (try go_bits); refine hK _ _ ?_)); clear hK K) | (refine Abs.step_load (v := ?_) rfl rfl (by kernel_rfl) rfl (fun w0 hI => ?_) (fun K hK => ?_); rotate_left; (· have z0 := (rcell (kp hI (f_g6))).1; have z1 := (rcell (kp hI (f_p6))).1; have z2 := (rcell (kp hI (f_q6))).1; have z3 := (rcell (kp hI (f_x6))).1; go_simp; rfl); (simp only [Act.put, List.setIfInBounds_toArray, List.set_cons_zero, List.set_cons_succ]; refine hK _ _ ?_; clear hK K)) | (refine Abs.step_skip rfl rfl (fun K hK => ?_); (simp only [Act.put, List.setIfInBounds_toArray, List.set_cons_zero, List.set_cons_succ]; refine hK _ _ ?_; clear hK K)))
      (refine Abs.step_call_val (f := ?_) (args := ?_) (v := ?_) rfl rfl rfl rfl (fun w0 => ?_) (fun w0 hI => ?_) (fun K hK => ?_); rotate_left 3; (· go_simp; (constructor <;> rfl)); (· exact cL _ (kp hI (f_g6))); (simp only [Act.put, List.setIfInBounds_toArray, List.set_cons_zero, List.set_cons_succ]; refine hK _ _ ?_; clear hK K))
      repeat (first | (refine Abs.step_pure rfl rfl (fun K hK => ?_); go_simp; (try go_bits); (first | refine hK _ _ ?_ | (simp only [↓IntWalk.iteOmega]; go_simp; (try go_bits); refine hK _ _ ?_)); clear hK K) | (refine Abs.step_load (v := ?_) rfl rfl (by kernel_rfl) rfl (fun w0 hI => ?_) (fun K hK => ?_); rotate_left; (· have z0 := (rcell (kp hI (f_g6))).1; have z1 := (rcell (kp hI (f_p6))).1; have z2 := (rcell (kp hI (f_q6))).1; have z3 := (rcell (kp hI (f_x6))).1; go_simp; rfl); (simp only [Act.put, List.setIfInBounds_toArray, List.set_cons_zero, List.set_cons_succ]; refine hK _ _ ?_; clear hK K)) | (refine Abs.step_skip rfl rfl (fun K hK => ?_); (simp only [Act.put, List.setIfInBounds_toArray, List.set_cons_zero, List.set_cons_succ]; refine hK _ _ ?_; clear hK K)))
      (refine Abs.step_store (T := ?_) rfl rfl rfl (fun w0 hI hF hU => ?_) (fun w0 hI hU hJ => ?_) (fun K hK => ?_); rotate_left; (· have hR := kp hI (f_p6); have hg0 := (rcell hR).1; have hg1 := (rcell hR).2.1; simp only [Abs.T_setF, Abs.T_addA, Abs.T_push, Abs.T_start]; go_simp; exact row2 hR _ _); (· first | exact trivial | exact js hJ rfl _ | exact js hJ (Or.inl rfl) _ | exact js hJ (Or.inr rfl) _); (simp only [Act.put, List.setIfInBounds_toArray, List.set_cons_zero, List.set_cons_succ]; refine hK _ _ ?_; clear hK K))
      (refine Abs.step_store (T := ?_) rfl rfl rfl (fun w0 hI hF hU => ?_) (fun w0 hI hU hJ => ?_) (fun K hK => ?_); rotate_left; (· have hR := fun cs => (setRow_other (w := w0) (g := w.heap.size + 1 + 1) cs (by omega)).trans (kp hI (f_q6)); have hg0 := fun cs => (rcell (hR cs)).1; have hg1 := fun cs => (rcell (hR cs)).2.1; simp only [Abs.T_setF, Abs.T_addA, Abs.T_push, Abs.T_start]; go_simp; exact row2 (hR _) _ _); (· first | exact trivial | exact js hJ rfl _ | exact js hJ (Or.inl rfl) _ | exact js hJ (Or.inr rfl) _); (simp only [Act.put, List.setIfInBounds_toArray, List.set_cons_zero, List.set_cons_succ]; refine hK _ _ ?_; clear hK K))
      repeat (first | (refine Abs.step_pure rfl rfl (fun K hK => ?_); go_simp; (try go_bits); (first | refine hK _ _ ?_ | (simp only [↓IntWalk.iteOmega]; go_simp; (try go_bits); refine hK _ _ ?_)); clear hK K) | (refine Abs.step_load (v := ?_) rfl rfl (by kernel_rfl) rfl (fun w0 hI => ?_) (fun K hK => ?_); rotate_left; (· have z0 := (rcell (kp hI (f_g6))).1; have z1 := (rcell (kp hI (f_p6))).1; have z2 := (rcell (kp hI (f_q6))).1; have z3 := (rcell (kp hI (f_x6))).1; go_simp; rfl); (simp only [Act.put, List.setIfInBounds_toArray, List.set_cons_zero, List.set_cons_succ]; refine hK _ _ ?_; clear hK K)) | (refine Abs.step_skip rfl rfl (fun K hK => ?_); (simp only [Act.put, List.setIfInBounds_toArray, List.set_cons_zero, List.set_cons_succ]; refine hK _ _ ?_; clear hK K)))
      intro w0 hI hF hx1 hx2
      clear hx1 hx2 hF
      simp only [Abs.T_push]
      generalize hT7 : setRow w0 _ _ = w7
      obtain ⟨hx7, f_p7⟩ := fin_x hI (f_p6) hT7
      clear hT7 hI w0
      have f_g7 := kx hx7 (f_g6) (by omega)
      have f_a7 := kx hx7 (f_a6) (by omega)
      have f_b7 := kx hx7 (f_b6) (by omega)
      have f_q7 := kx hx7 (f_q6) (by omega)
      have f_x7 := kx hx7 (f_x6) (by omega)
      have hB7 := bX hB6 hx7 (by omega)
      obtain ⟨zg_a, zg_b, lg7⟩ := rcell f_g7
      obtain ⟨za_a, za_b, la7⟩ := rcell f_a7
      obtain ⟨zb_a, zb_b, lb7⟩ := rcell f_b7
      obtain ⟨zq_a, zq_b, lq7⟩ := rcell f_q7
      obtain ⟨zx_a, zx_b, lx7⟩ := rcell f_x7
      obtain ⟨zp_a, zp_b, lp7⟩ := rcell f_p7
      generalize hT8 : setRow w7 _ _ = w8
      obtain ⟨hx8, f_q8⟩ := fin_x (b0 _) f_q7 hT8
      clear hT8
      have f_g8 := kx hx8 (f_g7) (by omega)
      have f_a8 := kx hx8 (f_a7) (by omega)
      have f_b8 := kx hx8 (f_b7) (by omega)
      have f_x8 := kx hx8 (f_x7) (by omega)
      have f_p8 := kx hx8 (f_p7) (by omega)
      have hB8 := bX hB7 hx8 (by omega)
      clear za_a za_b zb_a zb_b zg_a zg_b zp_a zp_b zq_a zq_b zx_a zx_b
      obtain ⟨zg_a, zg_b, lg8⟩ := rcell f_g8
      obtain ⟨za_a, za_b, la8⟩ := rcell f_a8
      obtain ⟨zb_a, zb_b, lb8⟩ := rcell f_b8
      obtain ⟨zx_a, zx_b, lx8⟩ := rcell f_x8
      obtain ⟨zp_a, zp_b, lp8⟩ := rcell f_p8
      obtain ⟨zq_a, zq_b, lq8⟩ := rcell f_q8
      go_wp2
      go_roundw
      case rel => exact ⟨k + 1, m0, m1, n0, n1, by go_num, by omega, hxn, (f_g8), (f_a8), (f_b8), (f_p8), (f_q8), hB8⟩
      case measure => simp [intOf]; omega
    · obtain rfl : k = l.length := by omega
      have hv := sk_inv h.out l.length (Nat.le_refl _)
      have s1 := hv.v1
      have s2 := hv.v2
      have hFF := hF.out
      have HX1 := hx1.out
      rw [hx.out] at s1 s2 hFF HX1
      have cl := ref10_Less c0 c1 a0 a1 s2 s1
      have d1 := slB_spec s1
      have d2 := slB_spec s2
      have hFe : (!decide (c0 * a1 < a0 * c1)) = F := hFF
      have e1 := ref_Lowest a0 a1 (by simp at d1; omega) (by simp at d1; omega) (by simp at d1; omega) (by simp at d1; omega)
      have e2 := ref_Lowest c0 c1 (by simp at d2; omega) (by simp at d2; omega) (by simp at d2; omega) (by simp at d2; omega)
      clear hFF hv s1 s2 d1 d2
      generalize decide (c0 * a1 < a0 * c1) = u at *
      obtain ⟨zg_a, zg_b, lg9⟩ := rcell j0
      obtain ⟨za_a, za_b, la10⟩ := rcell j3
      obtain ⟨zb_a, zb_b, lb11⟩ := rcell j4
      obtain ⟨zp_a, zp_b, lp12⟩ := rcell j1
      obtain ⟨zq_a, zq_b, lq13⟩ := rcell j2
      go_wp2_with fail
      refine (cl _).mono ?_
      rintro e w14 ⟨rfl, hb14⟩
      have f_g14 := kp hb14 (j0)
      have f_a14 := kp hb14 (j3)
      have f_b14 := kp hb14 (j4)
      have f_p14 := kp hb14 (j1)
      have f_q14 := kp hb14 (j2)
      have hB14 := bB hb hb14
      clear za_a za_b zb_a zb_b zg_a zg_b zp_a zp_b zq_a zq_b
      obtain ⟨zg_a, zg_b, lg14⟩ := rcell f_g14
      obtain ⟨za_a, za_b, la14⟩ := rcell f_a14
      obtain ⟨zb_a, zb_b, lb14⟩ := rcell f_b14
      obtain ⟨zp_a, zp_b, lp14⟩ := rcell f_p14
      obtain ⟨zq_a, zq_b, lq14⟩ := rcell f_q14
      cases u
      · have hFt : F = true := hFe.symm
        subst hFt
        obtain ⟨rfl, rfl, rfl, rfl⟩ := HX1 rfl
        simp only at e1 e2 ⊢
        clear hx0 hx1 hF hFe HX1
        go_wp2_with fail
        refine Abs.wp_region_abs (Abs.cls0 _) [0, 1, 2, 3, 4, 5, 6] (by kernel_rfl) (by kernel_rfl) (Below.refl _ _).drew ?_
        repeat (first | (refine Abs.step_pure rfl rfl (fun K hK => ?_); go_simp; (try go_bits); (first | refine hK _ _ ?_ | (simp only [↓IntWalk.iteOmega]; go_simp; (try go_bits); refine hK _ _ ?_)); clear hK K) | (refine Abs.step_load (v := ?_) rfl rfl (by kernel_rfl) rfl (fun w0 hI => ?_) (fun K hK => ?_); rotate_left; (· have z0 := (rcell (kp hI (f_a14))).1; have z1 := (rcell (kp hI (f_b14))).1; have z2 := (rcell (kp hI (f_p14))).1; have z3 := (rcell (kp hI (f_q14))).1; go_simp; rfl); (simp only [Act.put, List.setIfInBounds_toArray, List.set_cons_zero, List.set_cons_succ]; refine hK _ _ ?_; clear hK K)) | (refine Abs.step_skip rfl rfl (fun K hK => ?_); (simp only [Act.put, List.setIfInBounds_toArray, List.set_cons_zero, List.set_cons_succ]; refine hK _ _ ?_; clear hK K)))
        (refine Abs.step_call_val (f := ?_) (args := ?_) (v := ?_) rfl rfl rfl rfl (fun w0 => ?_) (fun w0 hI => ?_) (fun K hK => ?_); rotate_left 3; (· go_simp; (constructor <;> rfl)); (· exact e1 _); (simp only [Act.put, List.setIfInBounds_toArray, List.set_cons_zero, List.set_cons_succ]; refine hK _ _ ?_; clear hK K))
        repeat (first | (refine Abs.step_pure rfl rfl (fun K hK => ?_); go_simp; (try go_bits); (first | refine hK _ _ ?_ | (simp only [↓IntWalk.iteOmega]; go_simp; (try go_bits); refine hK _ _ ?_)); clear hK K) | (refine Abs.step_load (v := ?_) rfl rfl (by kernel_rfl) rfl (fun w0 hI => ?_) (fun K hK => ?_); rotate_left; (· have z0 := (rcell (kp hI (f_a14))).1; have z1 := (rcell (kp hI (f_b14))).1; have z2 := (rcell (kp hI (f_p14))).1; have z3 := (rcell (kp hI (f_q14))).1; go_simp; rfl); (simp only [Act.put, List.setIfInBounds_toArray, List.set_cons_zero, List.set_cons_succ]; refine hK _ _ ?_; clear hK K)) | (refine Abs.step_skip rfl rfl (fun K hK => ?_); (simp only [Act.put, List.setIfInBounds_toArray, List.set_cons_zero, List.set_cons_succ]; refine hK _ _ ?_; clear hK K)))
        (refine Abs.step_call_val (f := ?_) (args := ?_) (v := ?_) rfl rfl rfl rfl (fun w0 => ?_) (fun w0 hI => ?_) (fun K hK => ?_); rotate_left 3; (· go_simp; (constructor <;> rfl)); (· exact e2 _); (simp only [Act.put, List.setIfInBounds_toArray, List.set_cons_zero, List.set_cons_succ]; refine hK _ _ ?_; clear hK K))
        repeat (first | (refine Abs.step_pure rfl rfl (fun K hK => ?_); go_simp; (try go_bits); (first | refine hK _ _ ?_ | (simp only [↓IntWalk.iteOmega]; go_simp; (try go_bits); refine hK _ _ ?_)); clear hK K) | (refine Abs.step_load (v := ?_) rfl rfl (by kernel_rfl) rfl (fun w0 hI => ?_) (fun K hK => ?_); rotate_left; (· have z0 := (rcell (kp hI (f_a14))).1; have z1 := (rcell (kp hI (f_b14))).1; have z2 := (rcell (kp hI (f_p14))).1; have z3 := (rcell (kp hI (f_q14))).1; go_simp; rfl); (simp only [Act.put, List.setIfInBounds_toArray, List.set_cons_zero, List.set_cons_succ]; refine hK _ _ ?_; clear hK K)) | (refine Abs.step_skip rfl rfl (fun K hK => ?_); (simp only [Act.put, List.setIfInBounds_toArray, List.set_cons_zero, List.set_cons_succ]; refine hK _ _ ?_; clear hK K)))
        (refine Abs.step_store (T := ?_) rfl rfl rfl (fun w0 hI hF hU => ?_) (fun w0 hI hU hJ => ?_) (fun K hK => ?_); rotate_left; (· have hR := kp hI (f_a14); have hg0 := (rcell hR).1; have hg1 := (rcell hR).2.1; simp only [Abs.T_setF, Abs.T_addA, Abs.T_push, Abs.T_start]; go_simp; exact row2 hR _ _); (· first | exact trivial | exact js hJ rfl _ | exact js hJ (Or.inl rfl) _ | exact js hJ (Or.inr rfl) _); (simp only [Act.put, List.setIfInBounds_toArray, List.set_cons_zero, List.set_cons_succ]; refine hK _ _ ?_; clear hK K))
        (refine Abs.step_store (T := ?_) rfl rfl rfl (fun w0 hI hF hU => ?_) (fun w0 hI hU hJ => ?_) (fun K hK => ?_); rotate_left; (· have hR := fun cs => (setRow_other (w := w0) (g := w.heap.size) cs (by omega)).trans (kp hI (f_b14)); have hg0 := fun cs => (rcell (hR cs)).1; have hg1 := fun cs => (rcell (hR cs)).2.1; simp only [Abs.T_setF, Abs.T_addA, Abs.T_push, Abs.T_start]; go_simp; exact row2 (hR _) _ _); (· first | exact trivial | exact js hJ rfl _ | exact js hJ (Or.inl rfl) _ | exact js hJ (Or.inr rfl) _); (simp only [Act.put, List.setIfInBounds_toArray, List.set_cons_zero, List.set_cons_succ]; refine hK _ _ ?_; clear hK K))
        repeat (first | (refine Abs.step_pure rfl rfl (fun K hK => ?_); go_simp; (try go_bits); (first | refine hK _ _ ?_ | (simp only [↓IntWalk.iteOmega]; go_simp; (try go_bits); refine hK _ _ ?_)); clear hK K) | (refine Abs.step_load (v := ?_) rfl rfl (by kernel_rfl) rfl (fun w0 hI => ?_) (fun K hK => ?_); rotate_left; (· have z0 := (rcell (kp hI (f_a14))).1; have z1 := (rcell (kp hI (f_b14))).1; have z2 := (rcell (kp hI (f_p14))).1; have z3 := (rcell (kp hI (f_q14))).1; go_simp; rfl); (simp only [Act.put, List.setIfInBounds_toArray, List.set_cons_zero, List.set_cons_succ]; refine hK _ _ ?_; clear hK K)) | (refine Abs.step_skip rfl rfl (fun K hK => ?_); (simp only [Act.put, List.setIfInBounds_toArray, List.set_cons_zero, List.set_cons_succ]; refine hK _ _ ?_; clear hK K)))
        intro w0 hI hF hx1 hx2
        clear hx1 hx2 hF
        simp only [Abs.T_push]
        generalize hT16 : setRow w0 _ _ = w16
        obtain ⟨hx16, f_a16⟩ := fin_x hI (f_a14) hT16
        clear hT16 hI w0
        have f_g16 := kx hx16 (f_g14) (by omega)
        have f_b16 := kx hx16 (f_b14) (by omega)
        have f_p16 := kx hx16 (f_p14) (by omega)
        have f_q16 := kx hx16 (f_q14) (by omega)
        have hB16 := bX hB14 hx16 (by omega)
        clear za_a za_b zb_a zb_b zg_a zg_b zp_a zp_b zq_a zq_b
        obtain ⟨zg_a, zg_b, lg16⟩ := rcell f_g16
        obtain ⟨zb_a, zb_b, lb16⟩ := rcell f_b16
        obtain ⟨zp_a, zp_b, lp16⟩ := rcell f_p16
        obtain ⟨zq_a, zq_b, lq16⟩ := rcell f_q16
        obtain ⟨za_a, za_b, la16⟩ := rcell f_a16
        generalize hT17 : setRow w16 _ _ = w17
        obtain ⟨hx17, f_b17⟩ := fin_x (b0 _) f_b16 hT17
        clear hT17
        have f_g17 := kx hx17 (f_g16) (by omega)
        have f_p17 := kx hx17 (f_p16) (by omega)
        have f_q17 := kx hx17 (f_q16) (by omega)
        have f_a17 := kx hx17 (f_a16) (by omega)
        have hB17 := bX hB16 hx17 (by omega)
        clear za_a za_b zb_a zb_b zg_a zg_b zp_a zp_b zq_a zq_b
        obtain ⟨zg_a, zg_b, lg17⟩ := rcell f_g17
        obtain ⟨zp_a, zp_b, lp17⟩ := rcell f_p17
        obtain ⟨zq_a, zq_b, lq17⟩ := rcell f_q17
        obtain ⟨za_a, za_b, la17⟩ := rcell f_a17
        obtain ⟨zb_a, zb_b, lb17⟩ := rcell f_b17
        go_wp2_with fail
        have za := (rcell (f_a17)).1
        have zb := (rcell (f_b17)).1
        refine bodyPost_ret (by simp [results, Tryd.results17, go_sem, za, zb]; try rfl) rfl ⟨rfl, hB17⟩
      · have hFt : F = false := hFe.symm
        subst hFt
        obtain ⟨rfl, rfl, rfl, rfl⟩ := hx0 rfl
        clear hx0 hx1 hF hFe HX1
        go_wp2_with fail
        rw [row2 (f_a14)]
        generalize hT1 : setRow _ _ _ = wE1
        obtain ⟨hxE1, hgE1⟩ := fin_x (b0 _) (f_a14) hT1
        have hfE1 := kx hxE1 (f_b14) (by omega)
        rw [row2 hfE1]
        generalize hT2 : setRow _ _ _ = wE
        obtain ⟨hxE2, hgE2⟩ := fin_x (b0 _) hfE1 hT2
        have hgE := kx hxE2 hgE1 (by omega)
        have hbE1 := bX hB14 hxE1 (by omega)
        have hbE := bX hbE1 hxE2 (by omega)
        have zE := (rcell hgE).1
        have zE2 := (rcell hgE2).1
        clear hT1 hT2
        refine bodyPost_ret (by simp [results, Tryd.results17, go_sem, zE, zE2]; try rfl) rfl ?_
        exact ⟨rfl, hbE⟩

theorem ref10_Slopes (A : Option Addr) (c : Nat) (l : List Bd) (h : okB l = true) (F : Bool) (hF : slOpen (sk l l.length) = F) (x0 x1 x2 x3 : Int) (hx0 : F = false → x0 = 0 ∧ x1 = 0 ∧ x2 = 0 ∧ x3 = 0)
    (hx1 : F = true → x0 = lwN (sk l l.length).1.n (sk l l.length).1.d ∧ x1 = lwD (sk l l.length).1.n (sk l l.length).1.d ∧ x2 = lwN (sk l l.length).2.n (sk l l.length).2.d ∧ x3 = lwD (sk l l.length).2.n (sk l l.length).2.d) (w : World) (hR : BR w A c l) :
    Calls Tryd.prog 17 #[.slice A l.length c] w fun e w' => e = .returned (.tuple #[.agg #[.int .i64 x0, .int .i64 x1], .agg #[.int .i64 x2, .int .i64 x3], .bool F]) ∧ Below w.heap.size w w' := by
  obtain ⟨k0, k1, k2⟩ := okB_spec h
  obtain ⟨g, o, cur, rfl, hg, hc⟩ := hR.mem k0
  exact ref10_Slopes_in g o c l cur (hide k2) k0 (by omega) hR.cap F (hide hF) x0 x1 x2 x3 hx0 (hide hx1) (hide fun i hi => by
    have := hc i hi
    rw [bd_eq hi] at this
    exact this) w hg
end Go.Proofs.YtpimkigbdjfjoaaDoor
