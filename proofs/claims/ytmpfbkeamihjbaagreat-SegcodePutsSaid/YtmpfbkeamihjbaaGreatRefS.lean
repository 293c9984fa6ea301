/- yearbookref11.Same of whatever segment and itself. -/
import Derived.Test.YtmpfbkeamihjbaaGreatRunS
import Derived.Test.YtmpfbkeamihjbaaGreatQ1
set_option linter.unusedSimpArgs false
set_option linter.unusedVariables false
namespace Go.Proofs.YtmpfbkeamihjbaaGreat
open Go.RowKit
attribute [local go_sem] Oper.semAt_some

set_option maxRecDepth 100000 in
set_option maxHeartbeats 4000000 in
theorem ref11_Same_eq (RA RB VA VB : Option Addr) (rc rd vc vd : Nat) (l : List Rn) (vs : List Int) (kd A R N D er : Int) (w : World) (hR : RR w RA rc l) (hS : RR w RB rd l) (hV : VR w VA vc vs) (hU : VR w VB vd vs) :
    Calls Tryz.prog 15 #[.agg #[.int .i64 kd, .slice RA l.length rc, .int .i64 A, .int .i64 R, .int .i64 N, .int .i64 D, .slice VA vs.length vc, .int .i64 er], .agg #[.int .i64 kd, .slice RB l.length rd, .int .i64 A, .int .i64 R, .int .i64 N, .int .i64 D, .slice VB vs.length vd, .int .i64 er]] w fun e w' => e = .returned (.bool true) ∧ Below w.heap.size w w' := by
  have c1 := fun w hR hS => ref07_Same_eq RA RB rc rd l w hR hS
  have hvc := hV.cap
  have hvt := hV.top
  have huc := hU.cap
  have hut := hU.top
  go_enter Tryz.func15, Tryz.ntmps15
  go_wp2_with fail
  refine (c1 _ (hR.below (bA (bA (b0 _) (.cells #[.int .i64 kd, .slice RA l.length rc, .int .i64 A, .int .i64 R, .int .i64 N, .int .i64 D, .slice VA vs.length vc, .int .i64 er] 27)) (.cells #[.int .i64 kd, .slice RB l.length rd, .int .i64 A, .int .i64 R, .int .i64 N, .int .i64 D, .slice VB vs.length vd, .int .i64 er] 27))) (hS.below (bA (bA (b0 _) (.cells #[.int .i64 kd, .slice RA l.length rc, .int .i64 A, .int .i64 R, .int .i64 N, .int .i64 D, .slice VA vs.length vc, .int .i64 er] 27)) (.cells #[.int .i64 kd, .slice RB l.length rd, .int .i64 A, .int .i64 R, .int .i64 N, .int .i64 D, .slice VB vs.length vd, .int .i64 er] 27)))).mono ?_
  rintro e w1 ⟨rfl, hb1⟩
  have f_s1 := kp hb1 (ka (na w #[.int .i64 kd, .slice RA l.length rc, .int .i64 A, .int .i64 R, .int .i64 N, .int .i64 D, .slice VA vs.length vc, .int .i64 er] 27) (.cells #[.int .i64 kd, .slice RB l.length rd, .int .i64 A, .int .i64 R, .int .i64 N, .int .i64 D, .slice VB vs.length vd, .int .i64 er] 27))
  have f_t1 := kp hb1 (na1 w (.cells #[.int .i64 kd, .slice RA l.length rc, .int .i64 A, .int .i64 R, .int .i64 N, .int .i64 D, .slice VA vs.length vc, .int .i64 er] 27) #[.int .i64 kd, .slice RB l.length rd, .int .i64 A, .int .i64 R, .int .i64 N, .int .i64 D, .slice VB vs.length vd, .int .i64 er] 27)
  have rd_l1 := (hR.below (bA (bA (b0 _) (.cells #[.int .i64 kd, .slice RA l.length rc, .int .i64 A, .int .i64 R, .int .i64 N, .int .i64 D, .slice VA vs.length vc, .int .i64 er] 27)) (.cells #[.int .i64 kd, .slice RB l.length rd, .int .i64 A, .int .i64 R, .int .i64 N, .int .i64 D, .slice VB vs.length vd, .int .i64 er] 27))).below hb1
  have rd_m1 := (hS.below (bA (bA (b0 _) (.cells #[.int .i64 kd, .slice RA l.length rc, .int .i64 A, .int .i64 R, .int .i64 N, .int .i64 D, .slice VA vs.length vc, .int .i64 er] 27)) (.cells #[.int .i64 kd, .slice RB l.length rd, .int .i64 A, .int .i64 R, .int .i64 N, .int .i64 D, .slice VB vs.length vd, .int .i64 er] 27))).below hb1
  have rd_v1 := (hV.below (bA (bA (b0 _) (.cells #[.int .i64 kd, .slice RA l.length rc, .int .i64 A, .int .i64 R, .int .i64 N, .int .i64 D, .slice VA vs.length vc, .int .i64 er] 27)) (.cells #[.int .i64 kd, .slice RB l.length rd, .int .i64 A, .int .i64 R, .int .i64 N, .int .i64 D, .slice VB vs.length vd, .int .i64 er] 27))).below hb1
  have rd_u1 := (hU.below (bA (bA (b0 _) (.cells #[.int .i64 kd, .slice RA l.length rc, .int .i64 A, .int .i64 R, .int .i64 N, .int .i64 D, .slice VA vs.length vc, .int .i64 er] 27)) (.cells #[.int .i64 kd, .slice RB l.length rd, .int .i64 A, .int .i64 R, .int .i64 N, .int .i64 D, .slice VB vs.length vd, .int .i64 er] 27))).below hb1
  have hB1 := bB (bA (bA (b0 w) (.cells #[.int .i64 kd, .slice RA l.length rc, .int .i64 A, .int .i64 R, .int .i64 N, .int .i64 D, .slice VA vs.length vc, .int .i64 er] 27)) (.cells #[.int .i64 kd, .slice RB l.length rd, .int .i64 A, .int .i64 R, .int .i64 N, .int .i64 D, .slice VB vs.length vd, .int .i64 er] 27)) hb1
  obtain ⟨zs_a, zs_b, ls1⟩ := rcell f_s1
  obtain ⟨zt_a, zt_b, lt1⟩ := rcell f_t1
  go_wp2_with fail
  have HV := hide rd_v1
  have HU := hide rd_u1
  have fs := (f_s1)
  have ft := (f_t1)
  have hb0 := hB1
  go_loopw [5] (fun vi wr => ∃ k : Nat, vi = .int .i64 k ∧ k ≤ vs.length ∧ Below w1.heap.size w1 wr) (fun vi _ => vs.length - (intOf vi).toNat)
  case atStart => exact ⟨0, rfl, by omega, b0 _⟩
  case round =>
    obtain ⟨k, rfl, hk, hb⟩ := hrel
    have js := kp hb fs
    have jt := kp hb ft
    by_cases hlt : k < vs.length
    · obtain ⟨ga, oa, ca, rfl, hga, hca⟩ := HV.out.mem (by omega)
      obtain ⟨gb, ob, cb, rfl, hgb, hcb⟩ := HU.out.mem (by omega)
      have q1 := hca k hlt
      have q2 := hcb k hlt
      have ja := kp hb hga
      have jb := kp hb hgb
      clear hca hcb
      generalize vs[k] = x at *
      obtain ⟨zs_a, zs_b, ls2⟩ := rcell js
      obtain ⟨zt_a, zt_b, lt3⟩ := rcell jt
      obtain ⟨za_a, za_b, la4⟩ := rcell ja
      obtain ⟨zb_a, zb_b, lb5⟩ := rcell jb
      go_wp2_with fail
      refine Abs.wp_region_abs (Abs.cls0 _) [0, 1, 2, 3, 4, 5, 6, 7, 8, 9, 10] (by kernel_rfl) (by kernel_rfl) (Below.refl _ _).drew ?_
      repeat (first | (refine Abs.step_pure rfl rfl (fun K hK => ?_); go_simp; (try go_bits); (first | refine hK _ _ ?_ | (simp only [↓IntWalk.iteOmega]; go_simp; (try go_bits); refine hK _ _ ?_)); clear hK K) | (refine Abs.step_load (v := ?_) rfl rfl (by kernel_rfl) rfl (fun w0 hI => ?_) (fun K hK => ?_); rotate_left; (· have z0 := (rcell (kp hI (js))).1; have z1 := (rcell (kp hI (jt))).1; have z2 := (rcell (kp hI (ja))).1; have z3 := (rcell (kp hI (jb))).1; go_simp; rfl); (simp only [Act.put, List.setIfInBounds_toArray, List.set_cons_zero, List.set_cons_succ]; refine hK _ _ ?_; clear hK K)) | (refine Abs.step_skip rfl rfl (fun K hK => ?_); (simp only [Act.put, List.setIfInBounds_toArray, List.set_cons_zero, List.set_cons_succ]; refine hK _ _ ?_; clear hK K)))
      intro w7 hb7 hx0 hx1 hx2
      clear hx0 hx1 hx2
      simp only [Abs.T_setF, Abs.T_addA, Abs.T_push, Abs.T_start]
      have f_s7 := kp hb7 (js)
      have f_t7 := kp hb7 (jt)
      have f_a7 := kp hb7 (ja)
      have f_b7 := kp hb7 (jb)
      have hB7 := bB hb hb7
      clear za_a za_b zb_a zb_b zs_a zs_b zt_a zt_b
      obtain ⟨zs_a, zs_b, ls7⟩ := rcell f_s7
      obtain ⟨zt_a, zt_b, lt7⟩ := rcell f_t7
      obtain ⟨za_a, za_b, la7⟩ := rcell f_a7
      obtain ⟨zb_a, zb_b, lb7⟩ := rcell f_b7
      go_wp2
      go_roundw
      case rel => exact ⟨k + 1, by go_num, by omega, hB7⟩
      case measure => simp [intOf]; omega
    · obtain rfl : k = vs.length := by omega
      obtain ⟨zs_a, zs_b, ls8⟩ := rcell js
      obtain ⟨zt_a, zt_b, lt9⟩ := rcell jt
      go_wp2
      go_ret
      exact ⟨rfl, bB hb0 hb⟩
end Go.Proofs.YtmpfbkeamihjbaaGreat
