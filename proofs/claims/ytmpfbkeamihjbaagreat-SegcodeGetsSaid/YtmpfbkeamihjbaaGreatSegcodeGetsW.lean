/- The walk of the law SegcodeGets. -/
import Derived.Test.YtmpfbkeamihjbaaGreatQ7
import Derived.Test.YtmpfbkeamihjbaaGreatLawB1
import Derived.Test.YtmpfbkeamihjbaaGreatR4
set_option linter.unusedSimpArgs false
set_option linter.unusedVariables false
namespace Go.Proofs.YtmpfbkeamihjbaaGreat
open Go.RowKit
attribute [local go_sem] Oper.semAt_some

set_option maxRecDepth 100000 in
set_option maxHeartbeats 16000000 in
theorem gets_walk (P : Option Addr) (cp : Nat) (xa : List Int) (at' : Int) (hp : xa.length ≤ cp) (hba : Byt xa) (w : World) (hP : InC .u8 w P xa) :
    Calls Tryz.prog 4 #[.slice P xa.length cp, .int .i64 at'] w fun e w' => e = .returned (.bool true) ∧ Below w.heap.size w w' := by
  have cf1 := fun w hP => law12_few P cp xa hp w hP
  have ba : Byt (xa.take 3000) := fun x hx => hba x (List.mem_of_mem_take hx)
  generalize xa.take 3000 = b at *
  obtain ⟨nP, hal⟩ : ∃ m, m = xa.length := ⟨_, rfl⟩
  rw [← hal] at cf1
  rw [← hal]
  clear hal hp hba
  have cW := wakes12
  have cG := fun B c w hy => Calls.mono (code_Get B c b ba at' w hy) (fun _ _ h => uniG h)
  have cH := fun B c w hy => Calls.mono (ref12_Get B c b ba at' w hy) (fun _ _ h => uniG h)
  have cD := fun B c w hy => Calls.mono (code_Decode B c b ba w hy) (fun _ _ h => uniD h)
  have cE := fun B c w hy => Calls.mono (ref12_Decode B c b ba w hy) (fun _ _ h => uniE h)
  have cQ := fun A B c d w hR hS => equal_byte A B c d b w hR hS
  generalize sgG (gSeg b at') = r1 at *
  generalize sgD (dSeg b) = r2 at *
  obtain ⟨⟨kd, l, ⟨A, R, N, D⟩, vs, er⟩, nx, ez⟩ := r1
  obtain ⟨⟨kd2, l2, ⟨A2, R2, N2, D2⟩, vs2, er2⟩, ez2⟩ := r2
  simp only [sgA] at cG cH cD cE
  have cS := fun RA RB VA VB rc rd vc vd w hR hS hV hU => ref11_Same_eq RA RB VA VB rc rd vc vd l vs kd A R N D er w hR hS hV hU
  have cS2 := fun RA RB VA VB rc rd vc vd w hR hS hV hU => ref11_Same_eq RA RB VA VB rc rd vc vd l2 vs2 kd2 A2 R2 N2 D2 er2 w hR hS hV hU
  go_enter Tryz.func4, Tryz.ntmps4
  go_wp2_with fail
  refine (cW _).mono ?_
  rintro e w1 ⟨rfl, hb1⟩
  have hB1 := bB (b0 w) hb1
  go_wp2_with fail
  have hE1 := hB1
  go_wp2_with fail
  refine (cf1 _ (hP.below hE1)).mono ?_
  rintro e w2 ⟨A1, c1', n1', rfl, hn1', y1, hb2⟩
  have hB2 := bB hB1 hb2
  obtain rfl := hn1'.out
  have BB0 := hB2
  have HY0 := hide y1
  go_wp2_with fail
  refine (cG _ _ _ y1).mono ?_
  rintro e w3 ⟨RA, rc, VA, vc, rfl, hup1, rr1, vv1, hb3⟩
  have rd_b3 := y1.below hb3
  have hB3 := bB hB2 hb3
  have HR1 := hide rr1
  have HV1 := hide vv1
  have hs1 := (hB3).size
  go_wp2_with fail
  refine (cH _ _ _ (rd_b3.below (bA (b0 _) (.cells #[.int .i64 kd, .slice RA l.length rc, .int .i64 A, .int .i64 R, .int .i64 N, .int .i64 D, .slice VA vs.length vc, .int .i64 er] 27)))).mono ?_
  rintro e w4 ⟨RB, rd, VB, vd, rfl, hup2, rr2, vv2, hb4⟩
  have f_s4 := kp hb4 (na w3 #[.int .i64 kd, .slice RA l.length rc, .int .i64 A, .int .i64 R, .int .i64 N, .int .i64 D, .slice VA vs.length vc, .int .i64 er] 27)
  have rd_b4 := (rd_b3.below (bA (b0 _) (.cells #[.int .i64 kd, .slice RA l.length rc, .int .i64 A, .int .i64 R, .int .i64 N, .int .i64 D, .slice VA vs.length vc, .int .i64 er] 27))).below hb4
  have rd_l4 := (rr1.below (bA (b0 _) (.cells #[.int .i64 kd, .slice RA l.length rc, .int .i64 A, .int .i64 R, .int .i64 N, .int .i64 D, .slice VA vs.length vc, .int .i64 er] 27))).below hb4
  have rd_v4 := (vv1.below (bA (b0 _) (.cells #[.int .i64 kd, .slice RA l.length rc, .int .i64 A, .int .i64 R, .int .i64 N, .int .i64 D, .slice VA vs.length vc, .int .i64 er] 27))).below hb4
  have hB4 := bB (bA hB3 (.cells #[.int .i64 kd, .slice RA l.length rc, .int .i64 A, .int .i64 R, .int .i64 N, .int .i64 D, .slice VA vs.length vc, .int .i64 er] 27)) hb4
  obtain ⟨zs_a, zs_b, ls4⟩ := rcell f_s4
  go_wp2_with fail
  refine (cD _ _ _ (rd_b4.below (bA (b0 _) (.cells #[.int .i64 kd, .slice RB l.length rd, .int .i64 A, .int .i64 R, .int .i64 N, .int .i64 D, .slice VB vs.length vd, .int .i64 er] 27)))).mono ?_
  rintro e w5 ⟨RC, re, VC, ve, rfl, rr3, vv3, hb5⟩
  have f_s5 := kp hb5 (ka (f_s4) (.cells #[.int .i64 kd, .slice RB l.length rd, .int .i64 A, .int .i64 R, .int .i64 N, .int .i64 D, .slice VB vs.length vd, .int .i64 er] 27))
  have f_u5 := kp hb5 (na w4 #[.int .i64 kd, .slice RB l.length rd, .int .i64 A, .int .i64 R, .int .i64 N, .int .i64 D, .slice VB vs.length vd, .int .i64 er] 27)
  have rd_b5 := (rd_b4.below (bA (b0 _) (.cells #[.int .i64 kd, .slice RB l.length rd, .int .i64 A, .int .i64 R, .int .i64 N, .int .i64 D, .slice VB vs.length vd, .int .i64 er] 27))).below hb5
  have rd_l5 := (rd_l4.below (bA (b0 _) (.cells #[.int .i64 kd, .slice RB l.length rd, .int .i64 A, .int .i64 R, .int .i64 N, .int .i64 D, .slice VB vs.length vd, .int .i64 er] 27))).below hb5
  have rd_v5 := (rd_v4.below (bA (b0 _) (.cells #[.int .i64 kd, .slice RB l.length rd, .int .i64 A, .int .i64 R, .int .i64 N, .int .i64 D, .slice VB vs.length vd, .int .i64 er] 27))).below hb5
  have rd_m5 := (rr2.below (bA (b0 _) (.cells #[.int .i64 kd, .slice RB l.length rd, .int .i64 A, .int .i64 R, .int .i64 N, .int .i64 D, .slice VB vs.length vd, .int .i64 er] 27))).below hb5
  have rd_u5 := (vv2.below (bA (b0 _) (.cells #[.int .i64 kd, .slice RB l.length rd, .int .i64 A, .int .i64 R, .int .i64 N, .int .i64 D, .slice VB vs.length vd, .int .i64 er] 27))).below hb5
  have hB5 := bB (bA hB4 (.cells #[.int .i64 kd, .slice RB l.length rd, .int .i64 A, .int .i64 R, .int .i64 N, .int .i64 D, .slice VB vs.length vd, .int .i64 er] 27)) hb5
  clear zs_a zs_b
  obtain ⟨zs_a, zs_b, ls5⟩ := rcell f_s5
  obtain ⟨zu_a, zu_b, lu5⟩ := rcell f_u5
  go_wp2_with fail
  refine (cE _ _ _ (rd_b5.below (bA (b0 _) (.cells #[.int .i64 kd2, .slice RC l2.length re, .int .i64 A2, .int .i64 R2, .int .i64 N2, .int .i64 D2, .slice VC vs2.length ve, .int .i64 er2] 27)))).mono ?_
  rintro e w6 ⟨RD, rf, VD, vf, rfl, hup4, rr4, vv4, hb6⟩
  have f_s6 := kp hb6 (ka (f_s5) (.cells #[.int .i64 kd2, .slice RC l2.length re, .int .i64 A2, .int .i64 R2, .int .i64 N2, .int .i64 D2, .slice VC vs2.length ve, .int .i64 er2] 27))
  have f_u6 := kp hb6 (ka (f_u5) (.cells #[.int .i64 kd2, .slice RC l2.length re, .int .i64 A2, .int .i64 R2, .int .i64 N2, .int .i64 D2, .slice VC vs2.length ve, .int .i64 er2] 27))
  have f_t6 := kp hb6 (na w5 #[.int .i64 kd2, .slice RC l2.length re, .int .i64 A2, .int .i64 R2, .int .i64 N2, .int .i64 D2, .slice VC vs2.length ve, .int .i64 er2] 27)
  have rd_b6 := (rd_b5.below (bA (b0 _) (.cells #[.int .i64 kd2, .slice RC l2.length re, .int .i64 A2, .int .i64 R2, .int .i64 N2, .int .i64 D2, .slice VC vs2.length ve, .int .i64 er2] 27))).below hb6
  have rd_l6 := (rd_l5.below (bA (b0 _) (.cells #[.int .i64 kd2, .slice RC l2.length re, .int .i64 A2, .int .i64 R2, .int .i64 N2, .int .i64 D2, .slice VC vs2.length ve, .int .i64 er2] 27))).below hb6
  have rd_v6 := (rd_v5.below (bA (b0 _) (.cells #[.int .i64 kd2, .slice RC l2.length re, .int .i64 A2, .int .i64 R2, .int .i64 N2, .int .i64 D2, .slice VC vs2.length ve, .int .i64 er2] 27))).below hb6
  have rd_m6 := (rd_m5.below (bA (b0 _) (.cells #[.int .i64 kd2, .slice RC l2.length re, .int .i64 A2, .int .i64 R2, .int .i64 N2, .int .i64 D2, .slice VC vs2.length ve, .int .i64 er2] 27))).below hb6
  have rd_u6 := (rd_u5.below (bA (b0 _) (.cells #[.int .i64 kd2, .slice RC l2.length re, .int .i64 A2, .int .i64 R2, .int .i64 N2, .int .i64 D2, .slice VC vs2.length ve, .int .i64 er2] 27))).below hb6
  have rd_n6 := (rr3.below (bA (b0 _) (.cells #[.int .i64 kd2, .slice RC l2.length re, .int .i64 A2, .int .i64 R2, .int .i64 N2, .int .i64 D2, .slice VC vs2.length ve, .int .i64 er2] 27))).below hb6
  have rd_x6 := (vv3.below (bA (b0 _) (.cells #[.int .i64 kd2, .slice RC l2.length re, .int .i64 A2, .int .i64 R2, .int .i64 N2, .int .i64 D2, .slice VC vs2.length ve, .int .i64 er2] 27))).below hb6
  have hB6 := bB (bA hB5 (.cells #[.int .i64 kd2, .slice RC l2.length re, .int .i64 A2, .int .i64 R2, .int .i64 N2, .int .i64 D2, .slice VC vs2.length ve, .int .i64 er2] 27)) hb6
  clear zs_a zs_b zu_a zu_b
  obtain ⟨zs_a, zs_b, ls6⟩ := rcell f_s6
  obtain ⟨zu_a, zu_b, lu6⟩ := rcell f_u6
  obtain ⟨zt_a, zt_b, lt6⟩ := rcell f_t6
  go_wp2_with fail
  refine (cS _ _ _ _ _ _ _ _ _ (rd_l6.below (bA (b0 _) (.cells #[.int .i64 kd2, .slice RD l2.length rf, .int .i64 A2, .int .i64 R2, .int .i64 N2, .int .i64 D2, .slice VD vs2.length vf, .int .i64 er2] 27))) (rd_m6.below (bA (b0 _) (.cells #[.int .i64 kd2, .slice RD l2.length rf, .int .i64 A2, .int .i64 R2, .int .i64 N2, .int .i64 D2, .slice VD vs2.length vf, .int .i64 er2] 27))) (rd_v6.below (bA (b0 _) (.cells #[.int .i64 kd2, .slice RD l2.length rf, .int .i64 A2, .int .i64 R2, .int .i64 N2, .int .i64 D2, .slice VD vs2.length vf, .int .i64 er2] 27))) (rd_u6.below (bA (b0 _) (.cells #[.int .i64 kd2, .slice RD l2.length rf, .int .i64 A2, .int .i64 R2, .int .i64 N2, .int .i64 D2, .slice VD vs2.length vf, .int .i64 er2] 27)))).mono ?_
  rintro e w7 ⟨rfl, hb7⟩
  have f_s7 := kp hb7 (ka (f_s6) (.cells #[.int .i64 kd2, .slice RD l2.length rf, .int .i64 A2, .int .i64 R2, .int .i64 N2, .int .i64 D2, .slice VD vs2.length vf, .int .i64 er2] 27))
  have f_u7 := kp hb7 (ka (f_u6) (.cells #[.int .i64 kd2, .slice RD l2.length rf, .int .i64 A2, .int .i64 R2, .int .i64 N2, .int .i64 D2, .slice VD vs2.length vf, .int .i64 er2] 27))
  have f_t7 := kp hb7 (ka (f_t6) (.cells #[.int .i64 kd2, .slice RD l2.length rf, .int .i64 A2, .int .i64 R2, .int .i64 N2, .int .i64 D2, .slice VD vs2.length vf, .int .i64 er2] 27))
  have f_a7 := kp hb7 (na w6 #[.int .i64 kd2, .slice RD l2.length rf, .int .i64 A2, .int .i64 R2, .int .i64 N2, .int .i64 D2, .slice VD vs2.length vf, .int .i64 er2] 27)
  have rd_b7 := (rd_b6.below (bA (b0 _) (.cells #[.int .i64 kd2, .slice RD l2.length rf, .int .i64 A2, .int .i64 R2, .int .i64 N2, .int .i64 D2, .slice VD vs2.length vf, .int .i64 er2] 27))).below hb7
  have rd_l7 := (rd_l6.below (bA (b0 _) (.cells #[.int .i64 kd2, .slice RD l2.length rf, .int .i64 A2, .int .i64 R2, .int .i64 N2, .int .i64 D2, .slice VD vs2.length vf, .int .i64 er2] 27))).below hb7
  have rd_v7 := (rd_v6.below (bA (b0 _) (.cells #[.int .i64 kd2, .slice RD l2.length rf, .int .i64 A2, .int .i64 R2, .int .i64 N2, .int .i64 D2, .slice VD vs2.length vf, .int .i64 er2] 27))).below hb7
  have rd_m7 := (rd_m6.below (bA (b0 _) (.cells #[.int .i64 kd2, .slice RD l2.length rf, .int .i64 A2, .int .i64 R2, .int .i64 N2, .int .i64 D2, .slice VD vs2.length vf, .int .i64 er2] 27))).below hb7
  have rd_u7 := (rd_u6.below (bA (b0 _) (.cells #[.int .i64 kd2, .slice RD l2.length rf, .int .i64 A2, .int .i64 R2, .int .i64 N2, .int .i64 D2, .slice VD vs2.length vf, .int .i64 er2] 27))).below hb7
  have rd_n7 := (rd_n6.below (bA (b0 _) (.cells #[.int .i64 kd2, .slice RD l2.length rf, .int .i64 A2, .int .i64 R2, .int .i64 N2, .int .i64 D2, .slice VD vs2.length vf, .int .i64 er2] 27))).below hb7
  have rd_x7 := (rd_x6.below (bA (b0 _) (.cells #[.int .i64 kd2, .slice RD l2.length rf, .int .i64 A2, .int .i64 R2, .int .i64 N2, .int .i64 D2, .slice VD vs2.length vf, .int .i64 er2] 27))).below hb7
  have rd_p7 := (rr4.below (bA (b0 _) (.cells #[.int .i64 kd2, .slice RD l2.length rf, .int .i64 A2, .int .i64 R2, .int .i64 N2, .int .i64 D2, .slice VD vs2.length vf, .int .i64 er2] 27))).below hb7
  have rd_z7 := (vv4.below (bA (b0 _) (.cells #[.int .i64 kd2, .slice RD l2.length rf, .int .i64 A2, .int .i64 R2, .int .i64 N2, .int .i64 D2, .slice VD vs2.length vf, .int .i64 er2] 27))).below hb7
  have hB7 := bB (bA hB6 (.cells #[.int .i64 kd2, .slice RD l2.length rf, .int .i64 A2, .int .i64 R2, .int .i64 N2, .int .i64 D2, .slice VD vs2.length vf, .int .i64 er2] 27)) hb7
  clear zs_a zs_b zt_a zt_b zu_a zu_b
  obtain ⟨zs_a, zs_b, ls7⟩ := rcell f_s7
  obtain ⟨zu_a, zu_b, lu7⟩ := rcell f_u7
  obtain ⟨zt_a, zt_b, lt7⟩ := rcell f_t7
  obtain ⟨za_a, za_b, la7⟩ := rcell f_a7
  go_wp2_with fail
  refine (cS2 _ _ _ _ _ _ _ _ _ rd_n7 rd_p7 rd_x7 rd_z7).mono ?_
  rintro e w8 ⟨rfl, hb8⟩
  have f_s8 := kp hb8 (f_s7)
  have f_u8 := kp hb8 (f_u7)
  have f_t8 := kp hb8 (f_t7)
  have f_a8 := kp hb8 (f_a7)
  have rd_b8 := rd_b7.below hb8
  have rd_l8 := rd_l7.below hb8
  have rd_v8 := rd_v7.below hb8
  have rd_m8 := rd_m7.below hb8
  have rd_u8 := rd_u7.below hb8
  have rd_n8 := rd_n7.below hb8
  have rd_x8 := rd_x7.below hb8
  have rd_p8 := rd_p7.below hb8
  have rd_z8 := rd_z7.below hb8
  have hB8 := bB hB7 hb8
  clear za_a za_b zs_a zs_b zt_a zt_b zu_a zu_b
  obtain ⟨zs_a, zs_b, ls8⟩ := rcell f_s8
  obtain ⟨zu_a, zu_b, lu8⟩ := rcell f_u8
  obtain ⟨zt_a, zt_b, lt8⟩ := rcell f_t8
  obtain ⟨za_a, za_b, la8⟩ := rcell f_a8
  go_wp2_with fail
  have HL := hide rd_l8
  have HV := hide rd_v8
  have HP := hide rd_p8
  have HZ := hide rd_z8
  have HB := hide rd_b8
  have fs := (f_s8)
  have fa := (f_a8)
  have BBL := hB8
  have hsA := BBL.size
  have hU4 := hide hup4.out
  have hsz4 : w3.heap.size ≤ w5.heap.size := by omega
  generalize hWW : w8 = wL at *
  clear hWW
  go_loopw [75] (fun vi wr => ∃ (k : Nat) (q : List Int), vi = .int .i64 k ∧ k ≤ vs.length ∧ Hid (q.length = vs.length) ∧ VR wr VA vc q ∧ RR wr RA rc l ∧ Mut w2.heap.size w3.heap.size wL wr) (fun vi _ => vs.length - (intOf vi).toNat)
  case atStart => exact ⟨0, vs, rfl, by omega, hide rfl, HV.out, HL.out, Mut.refl _ _ _⟩
  case round =>
    obtain ⟨k, q, rfl, hk, hql, hvq, hrq, hm⟩ := hrel
    have js := hm.kp fs (by omega)
    by_cases hlt : k < vs.length
    · have hlq : k < q.length := by have := hql.out; omega
      obtain ⟨g1, o1, cu1, e1, h1, -⟩ := HV1.out.mem (by omega)
      obtain ⟨gv, ov, cv, e2, hgv, hcv⟩ := hvq.mem (by omega)
      have hb0 : w2.heap.size ≤ gv := hup1.out.2 _ e2
      have hb1 : gv < w3.heap.size := by
        rw [e1] at e2
        injection e2 with e2
        injection e2 with e2 e3
        rw [← e2]
        exact (Array.getElem?_eq_some_iff.1 h1).1
      have qv := hcv k hlq
      have hst := fun x w2 hw => VR.set (w2 := w2) hlq x hgv hcv hvq.cap hvq.top hw
      have hqc := hvq.cap
      have hqt := hvq.top
      subst e2
      clear e1 h1 hcv hvq
      generalize q[k] = x at *
      have HQL := hide hql.out
      have hlq2 : vs.length ≤ vc := by have := hql.out; omega
      obtain ⟨zs_a, zs_b, ls9⟩ := rcell js
      obtain ⟨zv_a, zv_b, lv10⟩ := rcell hgv
      go_wp2_with fail
      generalize hT : World.setCell wr _ _ = w9
      obtain ⟨hv9, hx9⟩ := hst _ _ hT
      clear hT hst
      go_roundw
      case rel => exact ⟨k + 1, _, by go_num, by omega, hide (by rw [List.length_set]; exact HQL.out), hv9, hrq.exc hx9 hgv (by decide), hm.exc hx9 hb0 hb1⟩
      case measure => simp [intOf] <;> omega
    · obtain rfl : k = vs.length := by omega
      obtain ⟨zs_a, zs_b, ls11⟩ := rcell js
      go_wp2_with fail
      clear js
      go_loopw [89] (fun vi wr => ∃ (k : Nat) (q : List Rn), vi = .int .i64 k ∧ k ≤ l.length ∧ Hid (q.length = l.length) ∧ RR wr RA rc q ∧ Mut w2.heap.size w3.heap.size wL wr) (fun vi _ => l.length - (intOf vi).toNat)
      case atStart => exact ⟨0, l, rfl, by omega, hide rfl, hrq, hm⟩
      case round =>
        clear hrq hvq hql hm
        obtain ⟨k, q, rfl, hk, hql, hrq, hm⟩ := hrel
        have js := hm.kp fs (by omega)
        by_cases hlt : k < l.length
        · have hlq : k < q.length := by have := hql.out; omega
          obtain ⟨g1, o1, cu1, e1, h1, -⟩ := HR1.out.mem (by omega)
          obtain ⟨gv, ov, cv, e2, hgv, hcv⟩ := hrq.mem (by omega)
          have hb0 : w2.heap.size ≤ gv := hup1.out.1 _ e2
          have hb1 : gv < w3.heap.size := by
            rw [e1] at e2
            injection e2 with e2
            injection e2 with e2 e3
            rw [← e2]
            exact (Array.getElem?_eq_some_iff.1 h1).1
          have qv := (hcv k hlq).1
          have hst := fun x w2 hw => RR.setF (w2 := w2) hlq x hgv hcv hrq.cap hrq.top hw
          have hqc := hrq.cap
          have hqt := hrq.top
          subst e2
          clear e1 h1 hcv hrq
          generalize hqk : q[k] = x at *
          clear hqk
          have HQL := hide hql.out
          have hlq2 : l.length ≤ rc := by have := hql.out; omega
          obtain ⟨zs_a, zs_b, ls12⟩ := rcell js
          obtain ⟨zv_a, zv_b, lv13⟩ := rcell hgv
          go_wp2_with fail
          generalize hT : World.setCell _ _ _ = w9
          obtain ⟨hv9, hx9⟩ := hst _ _ hT
          clear hT hst
          go_roundw
          case rel => exact ⟨k + 1, _, by go_num, by omega, hide (by rw [List.length_set]; exact HQL.out), hv9, hm.exc hx9 hb0 hb1⟩
          case measure => simp [intOf] <;> omega
        · obtain rfl : k = l.length := by omega
          have ja := hm.kp fa (by omega)
          have jb := HY0.out.old HB.out hm
          have jp := HP.out.high hm (hU4.out.1.mono (by simp only [World.size_alloc]; omega))
          have jz := HZ.out.high hm (hU4.out.2.mono (by simp only [World.size_alloc]; omega))
          have BBX := BBL.trans (hm.low.mono BB0.size)
          clear hrq hql js fs fa
          obtain ⟨za_a, za_b, la14⟩ := rcell ja
          go_wp2_with fail
          refine (cD _ _ _ jb).mono ?_
          rintro e w15 ⟨RE, rg, VE, vg, rfl, rr5, vv5, hb15⟩
          have f_a15 := kp hb15 (ja)
          have rd_b15 := jb.below hb15
          have rd_p15 := jp.below hb15
          have rd_z15 := jz.below hb15
          have hB15 := bB BBX hb15
          clear za_a za_b
          obtain ⟨za_a, za_b, la15⟩ := rcell f_a15
          go_wp2_with fail
          refine (cS2 _ _ _ _ _ _ _ _ _ (rr5.below (bA (b0 _) (.cells #[.int .i64 kd2, .slice RE l2.length rg, .int .i64 A2, .int .i64 R2, .int .i64 N2, .int .i64 D2, .slice VE vs2.length vg, .int .i64 er2] 27))) (rd_p15.below (bA (b0 _) (.cells #[.int .i64 kd2, .slice RE l2.length rg, .int .i64 A2, .int .i64 R2, .int .i64 N2, .int .i64 D2, .slice VE vs2.length vg, .int .i64 er2] 27))) (vv5.below (bA (b0 _) (.cells #[.int .i64 kd2, .slice RE l2.length rg, .int .i64 A2, .int .i64 R2, .int .i64 N2, .int .i64 D2, .slice VE vs2.length vg, .int .i64 er2] 27))) (rd_z15.below (bA (b0 _) (.cells #[.int .i64 kd2, .slice RE l2.length rg, .int .i64 A2, .int .i64 R2, .int .i64 N2, .int .i64 D2, .slice VE vs2.length vg, .int .i64 er2] 27)))).mono ?_
          rintro e w16 ⟨rfl, hb16⟩
          have f_a16 := kp hb16 (ka (f_a15) (.cells #[.int .i64 kd2, .slice RE l2.length rg, .int .i64 A2, .int .i64 R2, .int .i64 N2, .int .i64 D2, .slice VE vs2.length vg, .int .i64 er2] 27))
          have f_g16 := kp hb16 (na w15 #[.int .i64 kd2, .slice RE l2.length rg, .int .i64 A2, .int .i64 R2, .int .i64 N2, .int .i64 D2, .slice VE vs2.length vg, .int .i64 er2] 27)
          have rd_b16 := (rd_b15.below (bA (b0 _) (.cells #[.int .i64 kd2, .slice RE l2.length rg, .int .i64 A2, .int .i64 R2, .int .i64 N2, .int .i64 D2, .slice VE vs2.length vg, .int .i64 er2] 27))).below hb16
          have rd_p16 := (rd_p15.below (bA (b0 _) (.cells #[.int .i64 kd2, .slice RE l2.length rg, .int .i64 A2, .int .i64 R2, .int .i64 N2, .int .i64 D2, .slice VE vs2.length vg, .int .i64 er2] 27))).below hb16
          have rd_z16 := (rd_z15.below (bA (b0 _) (.cells #[.int .i64 kd2, .slice RE l2.length rg, .int .i64 A2, .int .i64 R2, .int .i64 N2, .int .i64 D2, .slice VE vs2.length vg, .int .i64 er2] 27))).below hb16
          have rd_n16 := (rr5.below (bA (b0 _) (.cells #[.int .i64 kd2, .slice RE l2.length rg, .int .i64 A2, .int .i64 R2, .int .i64 N2, .int .i64 D2, .slice VE vs2.length vg, .int .i64 er2] 27))).below hb16
          have rd_x16 := (vv5.below (bA (b0 _) (.cells #[.int .i64 kd2, .slice RE l2.length rg, .int .i64 A2, .int .i64 R2, .int .i64 N2, .int .i64 D2, .slice VE vs2.length vg, .int .i64 er2] 27))).below hb16
          have hB16 := bB (bA hB15 (.cells #[.int .i64 kd2, .slice RE l2.length rg, .int .i64 A2, .int .i64 R2, .int .i64 N2, .int .i64 D2, .slice VE vs2.length vg, .int .i64 er2] 27)) hb16
          clear za_a za_b
          obtain ⟨za_a, za_b, la16⟩ := rcell f_a16
          obtain ⟨zg_a, zg_b, lg16⟩ := rcell f_g16
          go_wp2_with fail
          have hE9 := hB16
          go_wp2_with fail
          refine (cf1 _ (hP.below hE9)).mono ?_
          rintro e w17 ⟨A3, c3', n3', rfl, hn3', y3, hb17⟩
          have f_a17 := kp hb17 (f_a16)
          have f_g17 := kp hb17 (f_g16)
          have rd_b17 := rd_b16.below hb17
          have rd_p17 := rd_p16.below hb17
          have rd_z17 := rd_z16.below hb17
          have rd_n17 := rd_n16.below hb17
          have rd_x17 := rd_x16.below hb17
          have hB17 := bB hB16 hb17
          clear za_a za_b zg_a zg_b
          obtain ⟨za_a, za_b, la17⟩ := rcell f_a17
          obtain ⟨zg_a, zg_b, lg17⟩ := rcell f_g17
          obtain rfl := hn3'.out
          go_wp2_with fail
          refine (cQ _ _ _ _ _ rd_b17 y3).mono ?_
          rintro e w18 ⟨rfl, hb18⟩
          have f_a18 := kp hb18 (f_a17)
          have f_g18 := kp hb18 (f_g17)
          have rd_b18 := rd_b17.below hb18
          have rd_p18 := rd_p17.below hb18
          have rd_z18 := rd_z17.below hb18
          have rd_n18 := rd_n17.below hb18
          have rd_x18 := rd_x17.below hb18
          have rd_y18 := y3.below hb18
          have hB18 := bB hB17 hb18
          clear za_a za_b zg_a zg_b
          obtain ⟨za_a, za_b, la18⟩ := rcell f_a18
          obtain ⟨zg_a, zg_b, lg18⟩ := rcell f_g18
          go_wp2
          go_ret
          exact ⟨by simp, hB18⟩
end Go.Proofs.YtmpfbkeamihjbaaGreat
