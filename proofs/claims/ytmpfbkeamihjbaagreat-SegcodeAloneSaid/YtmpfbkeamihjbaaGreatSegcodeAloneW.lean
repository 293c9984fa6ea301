/- The walk of the law SegcodeAlone. -/
import Derived.Test.YtmpfbkeamihjbaaGreatLawE2
import Derived.Test.YtmpfbkeamihjbaaGreatSegI
import Derived.Test.YtmpfbkeamihjbaaGreatSegcodeBackW
set_option linter.unusedSimpArgs false
set_option linter.unusedVariables false
namespace Go.Proofs.YtmpfbkeamihjbaaGreat
open Go.RowKit
attribute [local go_sem] Oper.semAt_some

theorem nx_le {b : List Int} {nx : Nat} {s : Sg} (h : pSeg b 0 = .ok (s, nx)) : nx ≤ b.length := by
  have := (keeps_pSeg b 0 s nx h).2 b.length (by omega)
  rw [List.take_length, h] at this
  split at this
  · cases this
  · omega
theorem get_bad (B : Option Addr) (c : Nat) (b : List Int) (hb : Byt b) (z : Int) (h : pSeg b 0 = .error z) (w : World) (hy : YR w B c b) :
    Calls Tryz.prog 17 #[.slice B b.length c, .int .i64 0] w fun e w' => e = .returned (.tuple #[.agg #[.int .i64 0, .slice none 0 0, .int .i64 0, .int .i64 0, .int .i64 0, .int .i64 0, .slice none 0 0, .int .i64 0], .int .i64 0, .int .i64 z]) ∧ Below w.heap.size w w' := by
  refine (get_in B c b hb 0 (by omega) w hy).mono ?_
  rintro e w' hp
  rw [h] at hp
  exact hp

theorem get_ok0 (B : Option Addr) (c : Nat) (b : List Int) (hb : Byt b) (nx : Nat) (kd A R N D er : Int) (l : List Rn) (vs : List Int) (h : pSeg b 0 = .ok (⟨kd, l, ⟨A, R, N, D⟩, vs, er⟩, nx)) (w : World) (hy : YR w B c b) :
    Calls Tryz.prog 17 #[.slice B b.length c, .int .i64 0] w fun e w' => ∃ RA rc VA vc n m, e = .returned (.tuple #[.agg #[.int .i64 kd, .slice RA n rc, .int .i64 A, .int .i64 R, .int .i64 N, .int .i64 D, .slice VA m vc, .int .i64 er], .int .i64 (nx : Int), .int .i64 0]) ∧ Hid (n = l.length ∧ m = vs.length) ∧ RR w' RA rc l ∧ VR w' VA vc vs ∧ Below w.heap.size w w' :=
  get_ok B c b hb 0 nx (by omega) kd A R N D er l vs h w hy
theorem prefix_no {s t : Sg} (hs : sgB s = true) (ht : sgB t = true) (hne : s ≠ t) : Lib.hasPrefix (Lib.bytesOf (wSeg t)) (Lib.bytesOf (wSeg s)) = false := by
  rw [← Bool.not_eq_true]
  intro h
  obtain ⟨r, hr⟩ := prefix_bytes (byt_wSeg ht) (byt_wSeg hs) h
  exact hne (pre_same hs ht hr)
theorem has_no (A B : Option Addr) (c d : Nat) (xs ys : List Int) (hno : Lib.hasPrefix (Lib.bytesOf xs) (Lib.bytesOf ys) = false) (w : World) (hR : YR w A c xs) (hS : YR w B d ys) :
    Calls Tryz.prog 23 #[.slice A xs.length c, .slice B ys.length d] w fun e w' => e = .returned (.bool false) ∧ Below w.heap.size w w' := by
  refine (has_prefix A B c d xs ys w hR hS).mono ?_
  rintro e w' ⟨rfl, rfl⟩
  exact ⟨by rw [hno], b0 _⟩

set_option maxRecDepth 100000 in
set_option maxHeartbeats 16000000 in
/-- the walk behind own and few -/
theorem alone_walk (X Y P : Option Addr) (C E cp : Nat) (xs : List Rn) (ys xa : List Int) (kd A R N D er : Int) (hn : xs.length ≤ C) (hm : ys.length ≤ E) (hp : xa.length ≤ cp) (hba : Byt xa) (w : World) (hX : InR w X xs) (hY : InC .i64 w Y ys) (hP : InC .u8 w P xa) :
    Calls Tryz.prog 6 #[.slice P xa.length cp, .agg #[.int .i64 kd, .slice X xs.length C, .int .i64 A, .int .i64 R, .int .i64 N, .int .i64 D, .slice Y ys.length E, .int .i64 er]] w fun e w' => e = .returned (.bool true) ∧ Below w.heap.size w w' := by
  have co := fun w hX hY => law12_own X Y C E xs ys kd A R N D er hn hm w hX hY
  have cf1 := fun w hP => law12_few P cp xa hp w hP
  have ba := hba.take 3000
  have la : (xa.take 3000).length ≤ 3000 := by rw [List.length_take]; omega
  generalize xs.take 257 = l at *
  generalize ys.take 257 = vs at *
  generalize xa.take 3000 = b at *
  obtain ⟨n, hxl⟩ : ∃ n, n = xs.length := ⟨_, rfl⟩
  obtain ⟨m, hyl⟩ : ∃ m, m = ys.length := ⟨_, rfl⟩
  obtain ⟨nP, hal⟩ : ∃ m, m = xa.length := ⟨_, rfl⟩
  rw [← hxl, ← hyl] at co
  rw [← hal] at cf1
  rw [← hxl, ← hyl, ← hal]
  clear hxl hyl hal hn hm hp hba
  have cW := wakes12
  go_enter Tryz.func6, Tryz.ntmps6
  go_wp2_with fail
  refine (cW _).mono ?_
  rintro e w1 ⟨rfl, hb1⟩
  have f_x1 := kp hb1 (na w #[.int .i64 kd, .slice X n C, .int .i64 A, .int .i64 R, .int .i64 N, .int .i64 D, .slice Y m E, .int .i64 er] 27)
  have hB1 := bB (bA (b0 w) (.cells #[.int .i64 kd, .slice X n C, .int .i64 A, .int .i64 R, .int .i64 N, .int .i64 D, .slice Y m E, .int .i64 er] 27)) hb1
  obtain ⟨zx_a, zx_b, lx1⟩ := rcell f_x1
  go_wp2_with fail
  have hE1 := hB1
  go_wp2_with fail
  refine (cf1 _ (hP.below hE1)).mono ?_
  rintro e w2 ⟨A1, c1', n1', rfl, hn1', y1, hb2⟩
  have f_x2 := kp hb2 (f_x1)
  have hB2 := bB hB1 hb2
  clear zx_a zx_b
  obtain ⟨zx_a, zx_b, lx2⟩ := rcell f_x2
  obtain rfl := hn1'.out
  rcases hps : pSeg b 0 with z | ⟨s, nx⟩
  · have hz := pSeg_err hps
    have hz0 : (z != 0) = true := by rcases hz with rfl | rfl <;> rfl
    have cG := fun B c w hy => get_bad B c b ba z hps w hy
    have cN := fun w => seg_Same_yes none none none none 0 0 0 0 [] [] 0 0 0 0 0 0 w (RR.nil w none 0 (by omega)) (RR.nil w none 0 (by omega)) (CR.nil w none 0 (by omega)) (CR.nil w none 0 (by omega))
    simp only [List.length_nil] at cN
    clear hz hps
    go_wp2_with fail
    refine (cG _ _ _ y1).mono ?_
    rintro e w3 ⟨rfl, hb3⟩
    have f_x3 := kp hb3 (f_x2)
    have rd_b3 := y1.below hb3
    have hB3 := bB hB2 hb3
    clear zx_a zx_b
    obtain ⟨zx_a, zx_b, lx3⟩ := rcell f_x3
    go_wp2_with fail
    go_wp2_with fail
    refine (cN _).mono ?_
    rintro e w4 ⟨rfl, hb4⟩
    have f_x4 := kp hb4 (ka (f_x3) (.cells #[.int .i64 0, .slice none 0 0, .int .i64 0, .int .i64 0, .int .i64 0, .int .i64 0, .slice none 0 0, .int .i64 0] 27))
    have f_s4 := kp hb4 (na w3 #[.int .i64 0, .slice none 0 0, .int .i64 0, .int .i64 0, .int .i64 0, .int .i64 0, .slice none 0 0, .int .i64 0] 27)
    have rd_b4 := (rd_b3.below (bA (b0 _) (.cells #[.int .i64 0, .slice none 0 0, .int .i64 0, .int .i64 0, .int .i64 0, .int .i64 0, .slice none 0 0, .int .i64 0] 27))).below hb4
    have hB4 := bB (bA hB3 (.cells #[.int .i64 0, .slice none 0 0, .int .i64 0, .int .i64 0, .int .i64 0, .int .i64 0, .slice none 0 0, .int .i64 0] 27)) hb4
    clear zx_a zx_b
    obtain ⟨zx_a, zx_b, lx4⟩ := rcell f_x4
    obtain ⟨zs_a, zs_b, ls4⟩ := rcell f_s4
    go_wp2
    go_ret
    exact ⟨rfl, hB4⟩
  · obtain ⟨kd1, l1, ⟨AA, RR1, NN, DD⟩, vs1, er1⟩ := s
    obtain ⟨hs, hsl⟩ := pSeg_inv ba hps
    have hnx := nx_le hps
    have hpos : 0 < (wSeg ⟨kd1, l1, ⟨AA, RR1, NN, DD⟩, vs1, er1⟩).length := by unfold wSeg; simp
    have hlen := wSeg_len (sg_ok hs)
    have htk : b.take nx = wSeg ⟨kd1, l1, ⟨AA, RR1, NN, DD⟩, vs1, er1⟩ := by rw [← hsl]; unfold Sl; simp
    have hnl : nx = (wSeg ⟨kd1, l1, ⟨AA, RR1, NN, DD⟩, vs1, er1⟩).length := by rw [← htk, List.length_take]; omega
    subst hnl
    have cG := fun B c w hy => get_ok0 B c b ba _ kd1 AA RR1 NN DD er1 l1 vs1 hps w hy
    have ce := fun RA VA rc vc w hR hV => encode_yes RA VA rc vc l1 vs1 kd1 AA RR1 NN DD er1 w hR hV hs
    have cc := fun RA VA rc vc w hR hV => seg_Check RA VA rc vc l1 vs1 kd1 AA RR1 NN DD er1 w hR hV
    rw [hs, if_pos rfl] at cc
    have cS := fun RA RB VA VB rc rd vc vd w hR hS hV hU => seg_Same RA RB VA VB rc rd vc vd l1 l vs1 vs kd1 AA RR1 NN DD er1 kd A R N D er w hR hS hV hU
    have hno1 := prefix_no (t := ⟨kd, l, ⟨A, R, N, D⟩, vs, er⟩) hs
    have hno2 := fun ht hne => prefix_no (s := ⟨kd, l, ⟨A, R, N, D⟩, vs, er⟩) (t := ⟨kd1, l1, ⟨AA, RR1, NN, DD⟩, vs1, er1⟩) ht hs hne
    generalize wSeg ⟨kd1, l1, ⟨AA, RR1, NN, DD⟩, vs1, er1⟩ = W at *
    have cE := fun A B c d w hR hS => equal_byte A B c d W w hR hS
    have d1 : decide (b.length < W.length) = false := decide_eq_false (by omega)
    have d0 : decide ((W.length : Int) < 1) = false := decide_eq_false (by omega)
    have hWc : W.length ≤ c1' := by have := y1.cap; omega
    have HS := hide hs
    have HT := hide htk
    have HN := hide hnx
    have HP := hide hpos
    have hWl : W.length ≤ 3000 := by omega
    clear hps hsl hs htk hnx hpos hlen
    have hNO1 := hide hno1
    have hNO2 := hide hno2
    clear hno1 hno2
    go_wp2_with fail
    refine (cG _ _ _ y1).mono ?_
    rintro e w3 ⟨RB, rb, VB, vb, n2, m2, rfl, hnm, rr2, vv2, hb3⟩
    have f_x3 := kp hb3 (f_x2)
    have rd_b3 := y1.below hb3
    have hB3 := bB hB2 hb3
    clear zx_a zx_b
    obtain ⟨zx_a, zx_b, lx3⟩ := rcell f_x3
    obtain ⟨rfl, rfl⟩ := hnm.out
    go_wp2_with fail
    go_wp2_with fail
    refine (cc _ _ _ _ _ (rr2.below (bA (b0 _) (.cells #[.int .i64 kd1, .slice RB l1.length rb, .int .i64 AA, .int .i64 RR1, .int .i64 NN, .int .i64 DD, .slice VB vs1.length vb, .int .i64 er1] 27))) (vv2.below (bA (b0 _) (.cells #[.int .i64 kd1, .slice RB l1.length rb, .int .i64 AA, .int .i64 RR1, .int .i64 NN, .int .i64 DD, .slice VB vs1.length vb, .int .i64 er1] 27)))).mono ?_
    rintro e w4 ⟨rfl, hb4⟩
    have f_x4 := kp hb4 (ka (f_x3) (.cells #[.int .i64 kd1, .slice RB l1.length rb, .int .i64 AA, .int .i64 RR1, .int .i64 NN, .int .i64 DD, .slice VB vs1.length vb, .int .i64 er1] 27))
    have f_s4 := kp hb4 (na w3 #[.int .i64 kd1, .slice RB l1.length rb, .int .i64 AA, .int .i64 RR1, .int .i64 NN, .int .i64 DD, .slice VB vs1.length vb, .int .i64 er1] 27)
    have rd_b4 := (rd_b3.below (bA (b0 _) (.cells #[.int .i64 kd1, .slice RB l1.length rb, .int .i64 AA, .int .i64 RR1, .int .i64 NN, .int .i64 DD, .slice VB vs1.length vb, .int .i64 er1] 27))).below hb4
    have rd_m4 := (rr2.below (bA (b0 _) (.cells #[.int .i64 kd1, .slice RB l1.length rb, .int .i64 AA, .int .i64 RR1, .int .i64 NN, .int .i64 DD, .slice VB vs1.length vb, .int .i64 er1] 27))).below hb4
    have rd_u4 := (vv2.below (bA (b0 _) (.cells #[.int .i64 kd1, .slice RB l1.length rb, .int .i64 AA, .int .i64 RR1, .int .i64 NN, .int .i64 DD, .slice VB vs1.length vb, .int .i64 er1] 27))).below hb4
    have hB4 := bB (bA hB3 (.cells #[.int .i64 kd1, .slice RB l1.length rb, .int .i64 AA, .int .i64 RR1, .int .i64 NN, .int .i64 DD, .slice VB vs1.length vb, .int .i64 er1] 27)) hb4
    clear zx_a zx_b
    obtain ⟨zx_a, zx_b, lx4⟩ := rcell f_x4
    obtain ⟨zs_a, zs_b, ls4⟩ := rcell f_s4
    go_wp2_with fail
    refine (ce _ _ _ _ _ rd_m4 rd_u4).mono ?_
    rintro e w5 ⟨AW, cw, nw, rfl, hnw, yw, hb5⟩
    have f_x5 := kp hb5 (f_x4)
    have f_s5 := kp hb5 (f_s4)
    have rd_b5 := rd_b4.below hb5
    have rd_m5 := rd_m4.below hb5
    have rd_u5 := rd_u4.below hb5
    have hB5 := bB hB4 hb5
    clear zs_a zs_b zx_a zx_b
    obtain ⟨zx_a, zx_b, lx5⟩ := rcell f_x5
    obtain ⟨zs_a, zs_b, ls5⟩ := rcell f_s5
    obtain rfl := hnw.out
    go_wp2_with fail
    have jt := HT.out ▸ (rd_b5).take W.length
    go_wp2_with fail
    refine (cE _ _ _ _ _ yw jt).mono ?_
    rintro e w6 ⟨rfl, hb6⟩
    have f_x6 := kp hb6 (f_x5)
    have f_s6 := kp hb6 (f_s5)
    have rd_b6 := rd_b5.below hb6
    have rd_m6 := rd_m5.below hb6
    have rd_u6 := rd_u5.below hb6
    have rd_y6 := yw.below hb6
    have hB6 := bB hB5 hb6
    clear zs_a zs_b zx_a zx_b
    obtain ⟨zx_a, zx_b, lx6⟩ := rcell f_x6
    obtain ⟨zs_a, zs_b, ls6⟩ := rcell f_s6
    go_wp2_with fail
    have hE2 := hB6
    refine (co _ (hX.below hE2) (hY.below hE2)).mono ?_
    rintro e wo ⟨RA, rc, k', VA, vc, j', rfl, hkj, hro, hvo, hbo⟩
    obtain ⟨rfl, rfl⟩ := hkj.out
    have hEo := bB hE2 hbo
    have ho_s := kp hbo (f_s6)
    have ho_m := (rd_m6).below hbo
    have ho_u := (rd_u6).below hbo
    have ho_y := (rd_y6).below hbo
    obtain ⟨zs_a, zs_b, ls7⟩ := rcell ho_s
    cases ht : sgB ⟨kd, l, ⟨A, R, N, D⟩, vs, er⟩
    · have c2 := fun w hR hV => encode_no RA VA rc vc l vs kd A R N D er w hR hV ht
      clear ht
      go_wp2_with fail
      go_wp2_with fail
      refine (c2 _ (hro.below (bA (b0 _) (.cells #[.int .i64 kd, .slice RA l.length rc, .int .i64 A, .int .i64 R, .int .i64 N, .int .i64 D, .slice VA vs.length vc, .int .i64 er] 27))) (hvo.below (bA (b0 _) (.cells #[.int .i64 kd, .slice RA l.length rc, .int .i64 A, .int .i64 R, .int .i64 N, .int .i64 D, .slice VA vs.length vc, .int .i64 er] 27)))).mono ?_
      rintro e w8 ⟨rfl, hb8⟩
      have f_s8 := kp hb8 (ka (ho_s) (.cells #[.int .i64 kd, .slice RA l.length rc, .int .i64 A, .int .i64 R, .int .i64 N, .int .i64 D, .slice VA vs.length vc, .int .i64 er] 27))
      have f_t8 := kp hb8 (na wo #[.int .i64 kd, .slice RA l.length rc, .int .i64 A, .int .i64 R, .int .i64 N, .int .i64 D, .slice VA vs.length vc, .int .i64 er] 27)
      have rd_m8 := (ho_m.below (bA (b0 _) (.cells #[.int .i64 kd, .slice RA l.length rc, .int .i64 A, .int .i64 R, .int .i64 N, .int .i64 D, .slice VA vs.length vc, .int .i64 er] 27))).below hb8
      have rd_u8 := (ho_u.below (bA (b0 _) (.cells #[.int .i64 kd, .slice RA l.length rc, .int .i64 A, .int .i64 R, .int .i64 N, .int .i64 D, .slice VA vs.length vc, .int .i64 er] 27))).below hb8
      have rd_y8 := (ho_y.below (bA (b0 _) (.cells #[.int .i64 kd, .slice RA l.length rc, .int .i64 A, .int .i64 R, .int .i64 N, .int .i64 D, .slice VA vs.length vc, .int .i64 er] 27))).below hb8
      have rd_l8 := (hro.below (bA (b0 _) (.cells #[.int .i64 kd, .slice RA l.length rc, .int .i64 A, .int .i64 R, .int .i64 N, .int .i64 D, .slice VA vs.length vc, .int .i64 er] 27))).below hb8
      have rd_v8 := (hvo.below (bA (b0 _) (.cells #[.int .i64 kd, .slice RA l.length rc, .int .i64 A, .int .i64 R, .int .i64 N, .int .i64 D, .slice VA vs.length vc, .int .i64 er] 27))).below hb8
      have hB8 := bB (bA hEo (.cells #[.int .i64 kd, .slice RA l.length rc, .int .i64 A, .int .i64 R, .int .i64 N, .int .i64 D, .slice VA vs.length vc, .int .i64 er] 27)) hb8
      clear zs_a zs_b
      obtain ⟨zs_a, zs_b, ls8⟩ := rcell f_s8
      obtain ⟨zt_a, zt_b, lt8⟩ := rcell f_t8
      go_wp2
      go_ret
      exact ⟨rfl, hB8⟩
    · have c2 := fun w hR hV => encode_yes RA VA rc vc l vs kd A R N D er w hR hV ht
      have cS' := cS RB RA VB VA rb rc vb vc
      by_cases heq : (⟨kd1, l1, ⟨AA, RR1, NN, DD⟩, vs1, er1⟩ : Sg) = ⟨kd, l, ⟨A, R, N, D⟩, vs, er⟩
      · rw [decide_eq_true heq] at cS'
        clear ht heq
        generalize wSeg ⟨kd, l, ⟨A, R, N, D⟩, vs, er⟩ = V at *
        go_wp2_with fail
        go_wp2_with fail
        refine (c2 _ (hro.below (bA (b0 _) (.cells #[.int .i64 kd, .slice RA l.length rc, .int .i64 A, .int .i64 R, .int .i64 N, .int .i64 D, .slice VA vs.length vc, .int .i64 er] 27))) (hvo.below (bA (b0 _) (.cells #[.int .i64 kd, .slice RA l.length rc, .int .i64 A, .int .i64 R, .int .i64 N, .int .i64 D, .slice VA vs.length vc, .int .i64 er] 27)))).mono ?_
        rintro e w8 ⟨AV, cv, nv, rfl, hnv, yv, hb8⟩
        have f_s8 := kp hb8 (ka (ho_s) (.cells #[.int .i64 kd, .slice RA l.length rc, .int .i64 A, .int .i64 R, .int .i64 N, .int .i64 D, .slice VA vs.length vc, .int .i64 er] 27))
        have f_t8 := kp hb8 (na wo #[.int .i64 kd, .slice RA l.length rc, .int .i64 A, .int .i64 R, .int .i64 N, .int .i64 D, .slice VA vs.length vc, .int .i64 er] 27)
        have rd_m8 := (ho_m.below (bA (b0 _) (.cells #[.int .i64 kd, .slice RA l.length rc, .int .i64 A, .int .i64 R, .int .i64 N, .int .i64 D, .slice VA vs.length vc, .int .i64 er] 27))).below hb8
        have rd_u8 := (ho_u.below (bA (b0 _) (.cells #[.int .i64 kd, .slice RA l.length rc, .int .i64 A, .int .i64 R, .int .i64 N, .int .i64 D, .slice VA vs.length vc, .int .i64 er] 27))).below hb8
        have rd_y8 := (ho_y.below (bA (b0 _) (.cells #[.int .i64 kd, .slice RA l.length rc, .int .i64 A, .int .i64 R, .int .i64 N, .int .i64 D, .slice VA vs.length vc, .int .i64 er] 27))).below hb8
        have rd_l8 := (hro.below (bA (b0 _) (.cells #[.int .i64 kd, .slice RA l.length rc, .int .i64 A, .int .i64 R, .int .i64 N, .int .i64 D, .slice VA vs.length vc, .int .i64 er] 27))).below hb8
        have rd_v8 := (hvo.below (bA (b0 _) (.cells #[.int .i64 kd, .slice RA l.length rc, .int .i64 A, .int .i64 R, .int .i64 N, .int .i64 D, .slice VA vs.length vc, .int .i64 er] 27))).below hb8
        have hB8 := bB (bA hEo (.cells #[.int .i64 kd, .slice RA l.length rc, .int .i64 A, .int .i64 R, .int .i64 N, .int .i64 D, .slice VA vs.length vc, .int .i64 er] 27)) hb8
        clear zs_a zs_b
        obtain ⟨zs_a, zs_b, ls8⟩ := rcell f_s8
        obtain ⟨zt_a, zt_b, lt8⟩ := rcell f_t8
        obtain rfl := hnv.out
        go_wp2_with fail
        refine (cS' _ rd_m8 rd_l8 rd_u8 rd_v8).mono ?_
        rintro e w9 ⟨rfl, hb9⟩
        have f_s9 := kp hb9 (f_s8)
        have f_t9 := kp hb9 (f_t8)
        have rd_m9 := rd_m8.below hb9
        have rd_u9 := rd_u8.below hb9
        have rd_y9 := rd_y8.below hb9
        have rd_l9 := rd_l8.below hb9
        have rd_v9 := rd_v8.below hb9
        have rd_z9 := yv.below hb9
        have hB9 := bB hB8 hb9
        clear zs_a zs_b zt_a zt_b
        obtain ⟨zs_a, zs_b, ls9⟩ := rcell f_s9
        obtain ⟨zt_a, zt_b, lt9⟩ := rcell f_t9
        go_wp2
        go_ret
        exact ⟨rfl, hB9⟩
      · rw [decide_eq_false heq] at cS'
        have n1 := hNO1.out ht heq
        have n2 := hNO2.out ht (fun h => heq h.symm)
        clear ht heq hNO1 hNO2
        generalize wSeg ⟨kd, l, ⟨A, R, N, D⟩, vs, er⟩ = V at *
        have cP1 := fun A B c d w hR hS => has_no A B c d V W n1 w hR hS
        have cP2 := fun A B c d w hR hS => has_no A B c d W V n2 w hR hS
        clear n1 n2
        skip
        go_wp2_with fail
        go_wp2_with fail
        refine (c2 _ (hro.below (bA (b0 _) (.cells #[.int .i64 kd, .slice RA l.length rc, .int .i64 A, .int .i64 R, .int .i64 N, .int .i64 D, .slice VA vs.length vc, .int .i64 er] 27))) (hvo.below (bA (b0 _) (.cells #[.int .i64 kd, .slice RA l.length rc, .int .i64 A, .int .i64 R, .int .i64 N, .int .i64 D, .slice VA vs.length vc, .int .i64 er] 27)))).mono ?_
        rintro e w8 ⟨AV, cv, nv, rfl, hnv, yv, hb8⟩
        have f_s8 := kp hb8 (ka (ho_s) (.cells #[.int .i64 kd, .slice RA l.length rc, .int .i64 A, .int .i64 R, .int .i64 N, .int .i64 D, .slice VA vs.length vc, .int .i64 er] 27))
        have f_t8 := kp hb8 (na wo #[.int .i64 kd, .slice RA l.length rc, .int .i64 A, .int .i64 R, .int .i64 N, .int .i64 D, .slice VA vs.length vc, .int .i64 er] 27)
        have rd_m8 := (ho_m.below (bA (b0 _) (.cells #[.int .i64 kd, .slice RA l.length rc, .int .i64 A, .int .i64 R, .int .i64 N, .int .i64 D, .slice VA vs.length vc, .int .i64 er] 27))).below hb8
        have rd_u8 := (ho_u.below (bA (b0 _) (.cells #[.int .i64 kd, .slice RA l.length rc, .int .i64 A, .int .i64 R, .int .i64 N, .int .i64 D, .slice VA vs.length vc, .int .i64 er] 27))).below hb8
        have rd_y8 := (ho_y.below (bA (b0 _) (.cells #[.int .i64 kd, .slice RA l.length rc, .int .i64 A, .int .i64 R, .int .i64 N, .int .i64 D, .slice VA vs.length vc, .int .i64 er] 27))).below hb8
        have rd_l8 := (hro.below (bA (b0 _) (.cells #[.int .i64 kd, .slice RA l.length rc, .int .i64 A, .int .i64 R, .int .i64 N, .int .i64 D, .slice VA vs.length vc, .int .i64 er] 27))).below hb8
        have rd_v8 := (hvo.below (bA (b0 _) (.cells #[.int .i64 kd, .slice RA l.length rc, .int .i64 A, .int .i64 R, .int .i64 N, .int .i64 D, .slice VA vs.length vc, .int .i64 er] 27))).below hb8
        have hB8 := bB (bA hEo (.cells #[.int .i64 kd, .slice RA l.length rc, .int .i64 A, .int .i64 R, .int .i64 N, .int .i64 D, .slice VA vs.length vc, .int .i64 er] 27)) hb8
        clear zs_a zs_b
        obtain ⟨zs_a, zs_b, ls8⟩ := rcell f_s8
        obtain ⟨zt_a, zt_b, lt8⟩ := rcell f_t8
        obtain rfl := hnv.out
        go_wp2_with fail
        refine (cS' _ rd_m8 rd_l8 rd_u8 rd_v8).mono ?_
        rintro e w9 ⟨rfl, hb9⟩
        have f_s9 := kp hb9 (f_s8)
        have f_t9 := kp hb9 (f_t8)
        have rd_m9 := rd_m8.below hb9
        have rd_u9 := rd_u8.below hb9
        have rd_y9 := rd_y8.below hb9
        have rd_l9 := rd_l8.below hb9
        have rd_v9 := rd_v8.below hb9
        have rd_z9 := yv.below hb9
        have hB9 := bB hB8 hb9
        clear zs_a zs_b zt_a zt_b
        obtain ⟨zs_a, zs_b, ls9⟩ := rcell f_s9
        obtain ⟨zt_a, zt_b, lt9⟩ := rcell f_t9
        go_wp2_with fail
        refine (cP1 _ _ _ _ _ rd_z9 rd_y9).mono ?_
        rintro e w10 ⟨rfl, hb10⟩
        have f_s10 := kp hb10 (f_s9)
        have f_t10 := kp hb10 (f_t9)
        have rd_m10 := rd_m9.below hb10
        have rd_u10 := rd_u9.below hb10
        have rd_y10 := rd_y9.below hb10
        have rd_l10 := rd_l9.below hb10
        have rd_v10 := rd_v9.below hb10
        have rd_z10 := rd_z9.below hb10
        have hB10 := bB hB9 hb10
        clear zs_a zs_b zt_a zt_b
        obtain ⟨zs_a, zs_b, ls10⟩ := rcell f_s10
        obtain ⟨zt_a, zt_b, lt10⟩ := rcell f_t10
        go_wp2_with fail
        refine (cP2 _ _ _ _ _ rd_y10 rd_z10).mono ?_
        rintro e w11 ⟨rfl, hb11⟩
        have f_s11 := kp hb11 (f_s10)
        have f_t11 := kp hb11 (f_t10)
        have rd_m11 := rd_m10.below hb11
        have rd_u11 := rd_u10.below hb11
        have rd_y11 := rd_y10.below hb11
        have rd_l11 := rd_l10.below hb11
        have rd_v11 := rd_v10.below hb11
        have rd_z11 := rd_z10.below hb11
        have hB11 := bB hB10 hb11
        clear zs_a zs_b zt_a zt_b
        obtain ⟨zs_a, zs_b, ls11⟩ := rcell f_s11
        obtain ⟨zt_a, zt_b, lt11⟩ := rcell f_t11
        go_wp2
        go_ret
        exact ⟨rfl, hB11⟩
end Go.Proofs.YtmpfbkeamihjbaaGreat
