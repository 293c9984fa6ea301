/- The walk of the law SegcodePuts. -/
import Derived.Test.YtmpfbkeamihjbaaGreatQ7
import Derived.Test.YtmpfbkeamihjbaaGreatQ8
import Derived.Test.YtmpfbkeamihjbaaGreatSegcodeSmallW
import Derived.Test.YtmpfbkeamihjbaaGreatRefB
import Derived.Test.YtmpfbkeamihjbaaGreatRefR
import Derived.Test.YtmpfbkeamihjbaaGreatRefS
set_option linter.unusedSimpArgs false
set_option linter.unusedVariables false
namespace Go.Proofs.YtmpfbkeamihjbaaGreat
open Go.RowKit
attribute [local go_sem] Oper.semAt_some

/-- a segment in memory -/
def SgIs (kd A R N D er : Int) (l : List Rn) (vs : List Int) (v : Value) (w : World) : Prop := ∃ RA rc VA vc, v = .agg #[.int .i64 kd, .slice RA l.length rc, .int .i64 A, .int .i64 R, .int .i64 N, .int .i64 D, .slice VA vs.length vc, .int .i64 er] ∧ RR w RA rc l ∧ VR w VA vc vs
theorem SgIs.rd {kd A R N D er : Int} {l : List Rn} {vs : List Int} {RA VA : Option Addr} {rc vc n m : Nat} {w : World} (h : SgIs kd A R N D er l vs (.agg #[.int .i64 kd, .slice RA n rc, .int .i64 A, .int .i64 R, .int .i64 N, .int .i64 D, .slice VA m vc, .int .i64 er]) w) : RR w RA rc l ∧ VR w VA vc vs := by
  obtain ⟨RA', rc', VA', vc', e, h1, h2⟩ := h
  injection e with e
  simp only [Array.mk.injEq, List.cons.injEq, Value.slice.injEq] at e
  obtain ⟨-, ⟨rfl, -, rfl⟩, -, -, -, -, ⟨rfl, -, rfl⟩, -⟩ := e
  exact ⟨h1, h2⟩
theorem Cl_SgIs (kd A R N D er : Int) (l : List Rn) (vs : List Int) {v : Value} : Abs.Cl (fun _ => False) (SgIs kd A R N D er l vs v) := by
  intro w w' ⟨RA, rc, VA, vc, e, h1, h2⟩ h
  refine ⟨RA, rc, VA, vc, e, ⟨h1.cap, h1.top, fun hl => ?_⟩, ⟨h2.cap, h2.top, fun hl => ?_⟩⟩
  · obtain ⟨g, o, cur, e1, hg, hc⟩ := h1.mem hl
    exact ⟨g, o, cur, e1, (h.block g (Array.getElem?_eq_some_iff.1 hg).1 (fun hf => hf)).trans hg, hc⟩
  · obtain ⟨g, o, cur, e1, hg, hc⟩ := h2.mem hl
    exact ⟨g, o, cur, e1, (h.block g (Array.getElem?_eq_some_iff.1 hg).1 (fun hf => hf)).trans hg, hc⟩

theorem own_sl {kd A R N D er : Int} {l : List Rn} {vs : List Int} {e : Ending} {w w' : World} (h : ∃ RA rc k' VA vc j', e = .returned (.agg #[.int .i64 kd, .slice RA k' rc, .int .i64 A, .int .i64 R, .int .i64 N, .int .i64 D, .slice VA j' vc, .int .i64 er]) ∧ Hid (k' = l.length ∧ j' = vs.length) ∧ RR w' RA rc l ∧ VR w' VA vc vs ∧ Below w.heap.size w w') :
    ∃ v, e = .returned v ∧ Below w.heap.size w w' ∧ SgIs kd A R N D er l vs v w' := by
  obtain ⟨RA, rc, k', VA, vc, j', rfl, hkj, hro, hvo, hbo⟩ := h
  exact ⟨_, rfl, hbo, RA, rc, VA, vc, by rw [hkj.out.1, hkj.out.2], hro, hvo⟩

set_option maxRecDepth 100000 in
set_option maxHeartbeats 8000000 in
theorem puts_walk (X Y : Option Addr) (C E : Nat) (xs : List Rn) (ys : List Int) (kd A R N D er : Int) (hn : xs.length ≤ C) (hm : ys.length ≤ E) (w : World) (hX : InR w X xs) (hY : InC .i64 w Y ys) :
    Calls Tryz.prog 3 #[.agg #[.int .i64 kd, .slice X xs.length C, .int .i64 A, .int .i64 R, .int .i64 N, .int .i64 D, .slice Y ys.length E, .int .i64 er]] w fun e w' => e = .returned (.bool true) ∧ Below w.heap.size w w' := by
  have co := fun w hX hY => law12_own X Y C E xs ys kd A R N D er hn hm w hX hY
  have l1 : (xs.take 257).length ≤ 257 := by rw [List.length_take]; omega
  have l2 : (ys.take 257).length ≤ 257 := by rw [List.length_take]; omega
  generalize xs.take 257 = l at *
  generalize ys.take 257 = vs at *
  have hxl : ∃ n, n = xs.length := ⟨_, rfl⟩
  obtain ⟨n, hxl⟩ := hxl
  have hyl : ∃ m, m = ys.length := ⟨_, rfl⟩
  obtain ⟨m, hyl⟩ := hyl
  rw [← hxl, ← hyl] at co
  rw [← hxl, ← hyl]
  clear hxl hyl hn hm
  have cW := wakes12
  go_enter Tryz.func3, Tryz.ntmps3
  go_wp2_with fail
  refine (cW _).mono ?_
  rintro e w1 ⟨rfl, hb1⟩
  have f_x1 := kp hb1 (na w #[.int .i64 kd, .slice X n C, .int .i64 A, .int .i64 R, .int .i64 N, .int .i64 D, .slice Y m E, .int .i64 er] 27)
  have hB1 := bB (bA (b0 w) (.cells #[.int .i64 kd, .slice X n C, .int .i64 A, .int .i64 R, .int .i64 N, .int .i64 D, .slice Y m E, .int .i64 er] 27)) hb1
  obtain ⟨zx_a, zx_b, lx1⟩ := rcell f_x1
  go_wp2_with fail
  have hE1 := hB1
  refine (co _ (hX.below hE1) (hY.below hE1)).mono ?_
  rintro e wo ⟨RA, rc, k', VA, vc, j', rfl, hkj, hro, hvo, hbo⟩
  obtain ⟨rfl, rfl⟩ := hkj.out
  have hEo := bB hE1 hbo
  have fx := kp hbo (f_x1)
  obtain ⟨zx_a, zx_b, lx2⟩ := rcell fx
  have cRt := fun w hR hV => ref11_Right RA VA rc vc l vs kd A R N D er w hR hV
  cases hs : sgB ⟨kd, l, ⟨A, R, N, D⟩, vs, er⟩
  · have c1 := fun w hR hV => size_no RA VA rc vc l vs kd A R N D er w hR hV hs
    have c2 := fun w hR hV => encode_no RA VA rc vc l vs kd A R N D er w hR hV hs
    rw [hs] at cRt
    clear hs
    go_wp2_with fail
    go_wp2_with fail
    refine (c2 _ (hro.below (bA (b0 _) (.cells #[.int .i64 kd, .slice RA l.length rc, .int .i64 A, .int .i64 R, .int .i64 N, .int .i64 D, .slice VA vs.length vc, .int .i64 er] 27))) (hvo.below (bA (b0 _) (.cells #[.int .i64 kd, .slice RA l.length rc, .int .i64 A, .int .i64 R, .int .i64 N, .int .i64 D, .slice VA vs.length vc, .int .i64 er] 27)))).mono ?_
    rintro e w3 ⟨rfl, hb3⟩
    have f_x3 := kp hb3 (ka (fx) (.cells #[.int .i64 kd, .slice RA l.length rc, .int .i64 A, .int .i64 R, .int .i64 N, .int .i64 D, .slice VA vs.length vc, .int .i64 er] 27))
    have f_s3 := kp hb3 (na wo #[.int .i64 kd, .slice RA l.length rc, .int .i64 A, .int .i64 R, .int .i64 N, .int .i64 D, .slice VA vs.length vc, .int .i64 er] 27)
    have rd_l3 := (hro.below (bA (b0 _) (.cells #[.int .i64 kd, .slice RA l.length rc, .int .i64 A, .int .i64 R, .int .i64 N, .int .i64 D, .slice VA vs.length vc, .int .i64 er] 27))).below hb3
    have rd_v3 := (hvo.below (bA (b0 _) (.cells #[.int .i64 kd, .slice RA l.length rc, .int .i64 A, .int .i64 R, .int .i64 N, .int .i64 D, .slice VA vs.length vc, .int .i64 er] 27))).below hb3
    have hB3 := bB (bA hEo (.cells #[.int .i64 kd, .slice RA l.length rc, .int .i64 A, .int .i64 R, .int .i64 N, .int .i64 D, .slice VA vs.length vc, .int .i64 er] 27)) hb3
    clear zx_a zx_b
    obtain ⟨zx_a, zx_b, lx3⟩ := rcell f_x3
    obtain ⟨zs_a, zs_b, ls3⟩ := rcell f_s3
    go_wp2_with fail
    refine (c1 _ rd_l3 rd_v3).mono ?_
    rintro e w4 ⟨rfl, hb4⟩
    have f_x4 := kp hb4 (f_x3)
    have f_s4 := kp hb4 (f_s3)
    have rd_l4 := rd_l3.below hb4
    have rd_v4 := rd_v3.below hb4
    have hB4 := bB hB3 hb4
    clear zs_a zs_b zx_a zx_b
    obtain ⟨zx_a, zx_b, lx4⟩ := rcell f_x4
    obtain ⟨zs_a, zs_b, ls4⟩ := rcell f_s4
    go_wp2_with fail
    refine (cRt _ rd_l4 rd_v4).mono ?_
    rintro e w5 ⟨rfl, hb5⟩
    have f_x5 := kp hb5 (f_x4)
    have f_s5 := kp hb5 (f_s4)
    have rd_l5 := rd_l4.below hb5
    have rd_v5 := rd_v4.below hb5
    have hB5 := bB hB4 hb5
    clear zs_a zs_b zx_a zx_b
    obtain ⟨zx_a, zx_b, lx5⟩ := rcell f_x5
    obtain ⟨zs_a, zs_b, ls5⟩ := rcell f_s5
    go_wp2
    go_ret
    exact ⟨rfl, hB5⟩
  · have c1 := fun w hR hV => size_yes RA VA rc vc l vs kd A R N D er w hR hV hs
    have c2 := fun w hR hV => encode_yes RA VA rc vc l vs kd A R N D er w hR hV hs
    have c3 := fun w hR hV => ref12_Bytes RA VA rc vc l vs kd A R N D er hs w hR hV
    rw [hs] at cRt
    clear hs
    generalize wSeg ⟨kd, l, ⟨A, R, N, D⟩, vs, er⟩ = q at *
    go_wp2_with fail
    go_wp2_with fail
    refine (c2 _ (hro.below (bA (b0 _) (.cells #[.int .i64 kd, .slice RA l.length rc, .int .i64 A, .int .i64 R, .int .i64 N, .int .i64 D, .slice VA vs.length vc, .int .i64 er] 27))) (hvo.below (bA (b0 _) (.cells #[.int .i64 kd, .slice RA l.length rc, .int .i64 A, .int .i64 R, .int .i64 N, .int .i64 D, .slice VA vs.length vc, .int .i64 er] 27)))).mono ?_
    rintro e w3 ⟨A', c', n', rfl, hn', y', hb3⟩
    have f_x3 := kp hb3 (ka (fx) (.cells #[.int .i64 kd, .slice RA l.length rc, .int .i64 A, .int .i64 R, .int .i64 N, .int .i64 D, .slice VA vs.length vc, .int .i64 er] 27))
    have f_s3 := kp hb3 (na wo #[.int .i64 kd, .slice RA l.length rc, .int .i64 A, .int .i64 R, .int .i64 N, .int .i64 D, .slice VA vs.length vc, .int .i64 er] 27)
    have rd_l3 := (hro.below (bA (b0 _) (.cells #[.int .i64 kd, .slice RA l.length rc, .int .i64 A, .int .i64 R, .int .i64 N, .int .i64 D, .slice VA vs.length vc, .int .i64 er] 27))).below hb3
    have rd_v3 := (hvo.below (bA (b0 _) (.cells #[.int .i64 kd, .slice RA l.length rc, .int .i64 A, .int .i64 R, .int .i64 N, .int .i64 D, .slice VA vs.length vc, .int .i64 er] 27))).below hb3
    have hB3 := bB (bA hEo (.cells #[.int .i64 kd, .slice RA l.length rc, .int .i64 A, .int .i64 R, .int .i64 N, .int .i64 D, .slice VA vs.length vc, .int .i64 er] 27)) hb3
    clear zx_a zx_b
    obtain ⟨zx_a, zx_b, lx3⟩ := rcell f_x3
    obtain ⟨zs_a, zs_b, ls3⟩ := rcell f_s3
    obtain rfl := hn'.out
    go_wp2_with fail
    refine (c1 _ rd_l3 rd_v3).mono ?_
    rintro e w4 ⟨rfl, hb4⟩
    have f_x4 := kp hb4 (f_x3)
    have f_s4 := kp hb4 (f_s3)
    have rd_l4 := rd_l3.below hb4
    have rd_v4 := rd_v3.below hb4
    have rd_y4 := y'.below hb4
    have hB4 := bB hB3 hb4
    clear zs_a zs_b zx_a zx_b
    obtain ⟨zx_a, zx_b, lx4⟩ := rcell f_x4
    obtain ⟨zs_a, zs_b, ls4⟩ := rcell f_s4
    go_wp2_with fail
    refine (cRt _ rd_l4 rd_v4).mono ?_
    rintro e w5 ⟨rfl, hb5⟩
    have f_x5 := kp hb5 (f_x4)
    have f_s5 := kp hb5 (f_s4)
    have rd_l5 := rd_l4.below hb5
    have rd_v5 := rd_v4.below hb5
    have rd_y5 := rd_y4.below hb5
    have hB5 := bB hB4 hb5
    clear zs_a zs_b zx_a zx_b
    obtain ⟨zx_a, zx_b, lx5⟩ := rcell f_x5
    obtain ⟨zs_a, zs_b, ls5⟩ := rcell f_s5
    go_wp2_with fail
    refine (c3 _ rd_l5 rd_v5).mono ?_
    rintro e w6 ⟨B', d', m', rfl, hm', z', hb6⟩
    have f_x6 := kp hb6 (f_x5)
    have f_s6 := kp hb6 (f_s5)
    have rd_l6 := rd_l5.below hb6
    have rd_v6 := rd_v5.below hb6
    have rd_y6 := rd_y5.below hb6
    have hB6 := bB hB5 hb6
    clear zs_a zs_b zx_a zx_b
    obtain ⟨zx_a, zx_b, lx6⟩ := rcell f_x6
    obtain ⟨zs_a, zs_b, ls6⟩ := rcell f_s6
    obtain rfl := hm'.out
    have cE := fun w hR hS => equal_byte A' B' c' d' q w hR hS
    have hw0 := hB6
    have coS := fun w hX hY => Calls.mono (co w hX hY) (fun _ _ h => own_sl h)
    have hx0 := hX.below hw0
    have hy0 := hY.below hw0
    go_wp2_with fail
    refine Abs.wp_region_abs (Abs.cls0 _) [0, 1, 2, 3, 4, 5, 6, 7, 8, 9, 10, 11, 12, 13, 14, 15, 16, 17, 18, 19, 20, 21, 22, 23] (by kernel_rfl) (by kernel_rfl) (Below.refl _ _).drew ?_
    repeat (first | (refine Abs.step_pure rfl rfl (fun K hK => ?_); go_simp; (try go_bits); (first | refine hK _ _ ?_ | (simp only [↓IntWalk.iteOmega]; go_simp; (try go_bits); refine hK _ _ ?_)); clear hK K) | (refine Abs.step_load (v := ?_) rfl rfl (by kernel_rfl) rfl (fun w0 hI => ?_) (fun K hK => ?_); rotate_left; (· have z0 := (rcell (kp hI (f_s6))).1; have z1 := (rcell (kp hI (f_x6))).1; go_simp; rfl); (simp only [Act.put, List.setIfInBounds_toArray, List.set_cons_zero, List.set_cons_succ]; refine hK _ _ ?_; clear hK K)) | (refine Abs.step_skip rfl rfl (fun K hK => ?_); (simp only [Act.put, List.setIfInBounds_toArray, List.set_cons_zero, List.set_cons_succ]; refine hK _ _ ?_; clear hK K)))
    (refine Abs.step_call_val (f := ?_) (args := ?_) (v := ?_) rfl rfl rfl rfl (fun w0 => ?_) (fun w0 hI => ?_) (fun K hK => ?_); rotate_left 3; (· go_simp; (constructor <;> rfl)); (· exact cE _ (rd_y6.below hI) (z'.below hI)); (simp only [Act.put, List.setIfInBounds_toArray, List.set_cons_zero, List.set_cons_succ]; refine hK _ _ ?_; clear hK K))
    repeat (first | (refine Abs.step_pure rfl rfl (fun K hK => ?_); go_simp; (try go_bits); (first | refine hK _ _ ?_ | (simp only [↓IntWalk.iteOmega]; go_simp; (try go_bits); refine hK _ _ ?_)); clear hK K) | (refine Abs.step_load (v := ?_) rfl rfl (by kernel_rfl) rfl (fun w0 hI => ?_) (fun K hK => ?_); rotate_left; (· have z0 := (rcell (kp hI (f_s6))).1; have z1 := (rcell (kp hI (f_x6))).1; go_simp; rfl); (simp only [Act.put, List.setIfInBounds_toArray, List.set_cons_zero, List.set_cons_succ]; refine hK _ _ ?_; clear hK K)) | (refine Abs.step_skip rfl rfl (fun K hK => ?_); (simp only [Act.put, List.setIfInBounds_toArray, List.set_cons_zero, List.set_cons_succ]; refine hK _ _ ?_; clear hK K)))
    (refine Abs.step_call (f := ?_) (args := ?_) rfl rfl rfl rfl (SgIs kd A R N D er l vs) (fun _ => Cl_SgIs _ _ _ _ _ _ _ _) (fun w0 => ?_) (fun w0 hI hF => ?_) (fun K hK v w0 hv => ?_); rotate_left 2; (· go_simp; (constructor <;> rfl)); (· exact coS _ (hx0.below hI) (hy0.below hI)); (obtain ⟨P', p', Q', q', rfl, -⟩ := hv; clear w0; simp only [Act.put, List.setIfInBounds_toArray, List.set_cons_zero, List.set_cons_succ]; refine hK _ _ ?_; clear hK K))
    repeat (first | (refine Abs.step_pure rfl rfl (fun K hK => ?_); go_simp; (try go_bits); (first | refine hK _ _ ?_ | (simp only [↓IntWalk.iteOmega]; go_simp; (try go_bits); refine hK _ _ ?_)); clear hK K) | (refine Abs.step_load (v := ?_) rfl rfl (by kernel_rfl) rfl (fun w0 hI => ?_) (fun K hK => ?_); rotate_left; (· have z0 := (rcell (kp hI (f_s6))).1; have z1 := (rcell (kp hI (f_x6))).1; go_simp; rfl); (simp only [Act.put, List.setIfInBounds_toArray, List.set_cons_zero, List.set_cons_succ]; refine hK _ _ ?_; clear hK K)) | (refine Abs.step_skip rfl rfl (fun K hK => ?_); (simp only [Act.put, List.setIfInBounds_toArray, List.set_cons_zero, List.set_cons_succ]; refine hK _ _ ?_; clear hK K)))
    (refine Abs.step_call (f := ?_) (args := ?_) rfl rfl rfl rfl (fun v _ => v = .bool true) (fun _ _ _ h _ => h) (fun w0 => ?_) (fun w0 hI hF => ?_) (fun K hK v w0 hv => ?_); rotate_left 2; (· go_simp; (constructor <;> rfl)); (· exact (ref11_Same_eq _ _ _ _ _ _ _ _ l vs kd A R N D er w0 (rd_l6.below hI) (((hF 20 (by kernel_rfl)).2 rfl)).rd.1 (rd_v6.below hI) (((hF 20 (by kernel_rfl)).2 rfl)).rd.2).mono (fun _ _ h => ⟨_, h.1, h.2, rfl⟩)); (replace hv : v = .bool true := hv; subst hv; clear w0; simp only [Act.put, List.setIfInBounds_toArray, List.set_cons_zero, List.set_cons_succ]; refine hK _ _ ?_; clear hK K))
    repeat (first | (refine Abs.step_pure rfl rfl (fun K hK => ?_); go_simp; (try go_bits); (first | refine hK _ _ ?_ | (simp only [↓IntWalk.iteOmega]; go_simp; (try go_bits); refine hK _ _ ?_)); clear hK K) | (refine Abs.step_load (v := ?_) rfl rfl (by kernel_rfl) rfl (fun w0 hI => ?_) (fun K hK => ?_); rotate_left; (· have z0 := (rcell (kp hI (f_s6))).1; have z1 := (rcell (kp hI (f_x6))).1; go_simp; rfl); (simp only [Act.put, List.setIfInBounds_toArray, List.set_cons_zero, List.set_cons_succ]; refine hK _ _ ?_; clear hK K)) | (refine Abs.step_skip rfl rfl (fun K hK => ?_); (simp only [Act.put, List.setIfInBounds_toArray, List.set_cons_zero, List.set_cons_succ]; refine hK _ _ ?_; clear hK K)))
    intro w8 hb8 hx0 hx1 hx2
    clear hx0 hx1 hx2
    simp only [Abs.T_setF, Abs.T_addA, Abs.T_push, Abs.T_start]
    have f_x8 := kp hb8 (f_x6)
    have f_s8 := kp hb8 (f_s6)
    have rd_l8 := rd_l6.below hb8
    have rd_v8 := rd_v6.below hb8
    have rd_y8 := rd_y6.below hb8
    have rd_z8 := z'.below hb8
    have hB8 := bB hB6 hb8
    clear zs_a zs_b zx_a zx_b
    obtain ⟨zx_a, zx_b, lx8⟩ := rcell f_x8
    obtain ⟨zs_a, zs_b, ls8⟩ := rcell f_s8
    go_wp2
    go_ret
    exact ⟨by simp, hB8⟩
end Go.Proofs.YtmpfbkeamihjbaaGreat
