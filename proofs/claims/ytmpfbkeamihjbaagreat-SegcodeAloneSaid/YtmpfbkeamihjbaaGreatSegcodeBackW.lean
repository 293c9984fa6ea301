/- The walk of the law SegcodeBack. -/
import Derived.Test.YtmpfbkeamihjbaaGreatQA
import Derived.Test.YtmpfbkeamihjbaaGreatQ9
import Derived.Test.YtmpfbkeamihjbaaGreatQ7
import Derived.Test.YtmpfbkeamihjbaaGreatQ8
import Derived.Test.YtmpfbkeamihjbaaGreatSegcodeSmallW
set_option linter.unusedSimpArgs false
set_option linter.unusedVariables false
namespace Go.Proofs.YtmpfbkeamihjbaaGreat
open Go.RowKit
attribute [local go_sem] Oper.semAt_some

theorem byt_ub (n : Nat) : Byt (ub n) := by
  induction n using Nat.strongRecOn with
  | ind n ih =>
    by_cases h : n < 128
    · rw [ub_low h]
      intro x hx
      simp at hx
      omega
    · rw [ub_high (by omega)]
      intro x hx
      rcases List.mem_cons.1 hx with rfl | hx
      · omega
      · exact ih (n / 128) (by omega) x hx
theorem Byt.app {a b : List Int} (h1 : Byt a) (h2 : Byt b) : Byt (a ++ b) := fun x hx => by
  rcases List.mem_append.1 hx with hx | hx
  · exact h1 x hx
  · exact h2 x hx
theorem byt_nil : Byt [] := fun x hx => by cases hx
theorem Byt.take {a : List Int} (h : Byt a) (k : Nat) : Byt (a.take k) := fun x hx => h x (List.mem_of_mem_take hx)
theorem byt_wRs : ∀ (l : List Rn) (a : Int), Byt (wRs a l)
  | [], _ => byt_nil
  | r :: l, a => by
    rw [wRs]
    unfold wR1
    refine ((byt_ub _).app ((byt_ub _).app ?_)).app (byt_wRs l _)
    split
    · exact byt_nil
    · exact byt_ub _
theorem byt_wVs : ∀ (l : List Int) (a : Int), Byt (wVs a l)
  | [], _ => byt_nil
  | v :: l, a => by rw [wVs]; exact (byt_ub _).app (byt_wVs l v)
theorem byt_wSeg {s : Sg} (h : sgB s = true) : Byt (wSeg s) := by
  have ok := sg_ok h
  unfold wSeg wRuns wL
  intro x hx
  rcases List.mem_cons.1 hx with rfl | hx
  · have := ok.k1
    have := ok.k4
    omega
  · refine ((byt_ub _).app (((byt_ub _).app (byt_wRs _ _)).app (Byt.app (Byt.app ?_ (Byt.app ?_ ?_)) (byt_wVs _ _)))) x hx
    · split
      · exact byt_ub _
      · exact byt_nil
    · split
      · exact (byt_ub _).app (byt_ub _)
      · exact byt_nil
    · split
      · exact byt_ub _
      · exact byt_nil

theorem concat3 (X : Nat) (A1 A2 A3 : Option Addr) (c1 c2 c3 : Nat) (a b l q : List Int) (hq : q = a ++ (b ++ l)) (hl : q.length ≤ 524288) (w : World) (hX : w.heap[X]? = some (.cells #[.slice A1 a.length c1, .slice A2 b.length c2, .slice A3 l.length c3] 30 (0, 0))) (h1 : YR w A1 c1 a) (h2 : YR w A2 c2 b) (h3 : YR w A3 c3 l) :
    Calls Tryz.prog 24 #[.slice (some ⟨X, 0, none⟩) 3 3] w fun e w' => ∃ A c n', e = .returned (.slice A n' c) ∧ Hid (n' = q.length) ∧ YR w' A c q ∧ Below w.heap.size w w' := by
  have e : pcat [⟨A1, c1, a⟩, ⟨A2, c2, b⟩, ⟨A3, c3, l⟩] 3 = q := by rw [hq]; simp [pcat, pt]
  have := concat_bytes X _ [⟨A1, c1, a⟩, ⟨A2, c2, b⟩, ⟨A3, c3, l⟩] (fun i hi => by
    have : i < 3 := hi
    match i, this with
    | 0, _ | 1, _ | 2, _ => rfl) (by simp) (by rw [show ([⟨A1, c1, a⟩, ⟨A2, c2, b⟩, ⟨A3, c3, l⟩] : List Pt).length = 3 from rfl, e]; exact hl) w hX (fun i hi => by
    have : i < 3 := hi
    match i, this with
    | 0, _ => exact h1
    | 1, _ => exact h2
    | 2, _ => exact h3)
  rw [show ([⟨A1, c1, a⟩, ⟨A2, c2, b⟩, ⟨A3, c3, l⟩] : List Pt).length = 3 from rfl, e] at this
  exact this
theorem concat2 (X : Nat) (A1 A2 : Option Addr) (c1 c2 : Nat) (a b q : List Int) (hq : q = a ++ b) (hl : q.length ≤ 524288) (w : World) (hX : w.heap[X]? = some (.cells #[.slice A1 a.length c1, .slice A2 b.length c2] 30 (0, 0))) (h1 : YR w A1 c1 a) (h2 : YR w A2 c2 b) :
    Calls Tryz.prog 24 #[.slice (some ⟨X, 0, none⟩) 2 2] w fun e w' => ∃ A c n', e = .returned (.slice A n' c) ∧ Hid (n' = q.length) ∧ YR w' A c q ∧ Below w.heap.size w w' := by
  have e : pcat [⟨A1, c1, a⟩, ⟨A2, c2, b⟩] 2 = q := by rw [hq]; simp [pcat, pt]
  have := concat_bytes X _ [⟨A1, c1, a⟩, ⟨A2, c2, b⟩] (fun i hi => by
    have : i < 2 := hi
    match i, this with
    | 0, _ | 1, _ => rfl) (by simp) (by rw [show ([⟨A1, c1, a⟩, ⟨A2, c2, b⟩] : List Pt).length = 2 from rfl, e]; exact hl) w hX (fun i hi => by
    have : i < 2 := hi
    match i, this with
    | 0, _ => exact h1
    | 1, _ => exact h2)
  rw [show ([⟨A1, c1, a⟩, ⟨A2, c2, b⟩] : List Pt).length = 2 from rfl, e] at this
  exact this
/-- Decode where it tells an error -/
theorem dec_err (B : Option Addr) (c : Nat) (b : List Int) (hb : Byt b) (z : Int) (h : dSeg b = .error z) (w : World) (hy : YR w B c b) :
    Calls Tryz.prog 19 #[.slice B b.length c] w fun e w' => e = .returned (.tuple #[.agg #[.int .i64 0, .slice none 0 0, .int .i64 0, .int .i64 0, .int .i64 0, .int .i64 0, .slice none 0 0, .int .i64 0], .int .i64 z]) ∧ Below w.heap.size w w' := by
  refine (code_Decode B c b hb w hy).mono ?_
  rintro e w' hp
  rw [h] at hp
  exact hp
theorem dec_ok (B : Option Addr) (c : Nat) (b : List Int) (hb : Byt b) (kd A R N D er : Int) (l : List Rn) (vs : List Int) (h : dSeg b = .ok ⟨kd, l, ⟨A, R, N, D⟩, vs, er⟩) (w : World) (hy : YR w B c b) :
    Calls Tryz.prog 19 #[.slice B b.length c] w fun e w' => ∃ RA rc VA vc n m, e = .returned (.tuple #[.agg #[.int .i64 kd, .slice RA n rc, .int .i64 A, .int .i64 R, .int .i64 N, .int .i64 D, .slice VA m vc, .int .i64 er], .int .i64 0]) ∧ Hid (n = l.length ∧ m = vs.length) ∧ RR w' RA rc l ∧ VR w' VA vc vs ∧ Below w.heap.size w w' := by
  refine (code_Decode B c b hb w hy).mono ?_
  rintro e w' hp
  rw [h] at hp
  obtain ⟨RA, rc, n, VA, vc, m, rfl, hn, hr, hv, hb⟩ := hp
  exact ⟨RA, rc, VA, vc, n, m, rfl, hn, hr, hv, hb⟩
theorem get_ok (B : Option Addr) (c : Nat) (b : List Int) (hb : Byt b) (at' nx : Nat) (hle : at' ≤ b.length) (kd A R N D er : Int) (l : List Rn) (vs : List Int) (h : pSeg b at' = .ok (⟨kd, l, ⟨A, R, N, D⟩, vs, er⟩, nx)) (w : World) (hy : YR w B c b) :
    Calls Tryz.prog 17 #[.slice B b.length c, .int .i64 (at' : Int)] w fun e w' => ∃ RA rc VA vc n m, e = .returned (.tuple #[.agg #[.int .i64 kd, .slice RA n rc, .int .i64 A, .int .i64 R, .int .i64 N, .int .i64 D, .slice VA m vc, .int .i64 er], .int .i64 (nx : Int), .int .i64 0]) ∧ Hid (n = l.length ∧ m = vs.length) ∧ RR w' RA rc l ∧ VR w' VA vc vs ∧ Below w.heap.size w w' := by
  refine (get_in B c b hb at' hle w hy).mono ?_
  rintro e w' hp
  rw [h] at hp
  obtain ⟨RA, rc, n, VA, vc, m, rfl, hn, hr, hv, hb⟩ := hp
  exact ⟨RA, rc, VA, vc, n, m, rfl, hn, hr, hv, hb⟩

set_option maxRecDepth 100000 in
set_option maxHeartbeats 16000000 in
/-- the walk behind own and few -/
theorem back_walk (X Y P Q : Option Addr) (C E cp cq : Nat) (xs : List Rn) (ys xa xb : List Int) (kd A R N D er : Int) (hn : xs.length ≤ C) (hm : ys.length ≤ E) (hp : xa.length ≤ cp) (hq : xb.length ≤ cq) (hba : Byt xa) (hbb : Byt xb) (w : World) (hX : InR w X xs) (hY : InC .i64 w Y ys) (hP : InC .u8 w P xa) (hQ : InC .u8 w Q xb) :
    Calls Tryz.prog 7 #[.agg #[.int .i64 kd, .slice X xs.length C, .int .i64 A, .int .i64 R, .int .i64 N, .int .i64 D, .slice Y ys.length E, .int .i64 er], .slice P xa.length cp, .slice Q xb.length cq] w fun e w' => e = .returned (.bool true) ∧ Below w.heap.size w w' := by
  have co := fun w hX hY => law12_own X Y C E xs ys kd A R N D er hn hm w hX hY
  have cf1 := fun w hP => law12_few P cp xa hp w hP
  have cf2 := fun w hQ => law12_few Q cq xb hq w hQ
  have ba := hba.take 3000
  have bb := hbb.take 3000
  have la : (xa.take 3000).length ≤ 3000 := by rw [List.length_take]; omega
  have lb : (xb.take 3000).length ≤ 3000 := by rw [List.length_take]; omega
  have l1 : (xs.take 257).length ≤ 257 := by rw [List.length_take]; omega
  have l2 : (ys.take 257).length ≤ 257 := by rw [List.length_take]; omega
  generalize xs.take 257 = l at *
  generalize ys.take 257 = vs at *
  generalize xa.take 3000 = a at *
  generalize xb.take 3000 = z at *
  obtain ⟨n, hxl⟩ : ∃ n, n = xs.length := ⟨_, rfl⟩
  obtain ⟨m, hyl⟩ : ∃ m, m = ys.length := ⟨_, rfl⟩
  obtain ⟨nP, hal⟩ : ∃ m, m = xa.length := ⟨_, rfl⟩
  obtain ⟨nQ, hbl⟩ : ∃ m, m = xb.length := ⟨_, rfl⟩
  rw [← hxl, ← hyl] at co
  rw [← hal] at cf1
  rw [← hbl] at cf2
  rw [← hxl, ← hyl, ← hal, ← hbl]
  clear hxl hyl hal hbl hn hm hp hq hba hbb
  have cW := wakes12
  go_enter Tryz.func7, Tryz.ntmps7
  go_wp2_with fail
  refine (cW _).mono ?_
  rintro e w1 ⟨rfl, hb1⟩
  have f_x1 := kp hb1 (na w #[.int .i64 kd, .slice X n C, .int .i64 A, .int .i64 R, .int .i64 N, .int .i64 D, .slice Y m E, .int .i64 er] 27)
  have hB1 := bB (bA (b0 w) (.cells #[.int .i64 kd, .slice X n C, .int .i64 A, .int .i64 R, .int .i64 N, .int .i64 D, .slice Y m E, .int .i64 er] 27)) hb1
  obtain ⟨zx_a, zx_b, lx1⟩ := rcell f_x1
  go_wp2_with fail
  have hE1 := hB1
  refine (co _ (hX.below hE1) (hY.below hE1)).mono ?_
  rintro e wo ⟨RA, rc, k', VA, vc, j', rfl, hkj, hro, hvo, hbo⟩
  obtain ⟨rfl, rfl⟩ := hkj.out
  have hEo := bB hE1 hbo
  cases hs : sgB ⟨kd, l, ⟨A, R, N, D⟩, vs, er⟩
  · have c2 := fun w hR hV => encode_no RA VA rc vc l vs kd A R N D er w hR hV hs
    have c3 := fun w hR hV => seg_Check RA VA rc vc l vs kd A R N D er w hR hV
    rw [hs, if_neg (by simp)] at c3
    clear hs
    go_wp2_with fail
    go_wp2_with fail
    refine (c2 _ (hro.below (bA (b0 _) (.cells #[.int .i64 kd, .slice RA l.length rc, .int .i64 A, .int .i64 R, .int .i64 N, .int .i64 D, .slice VA vs.length vc, .int .i64 er] 27))) (hvo.below (bA (b0 _) (.cells #[.int .i64 kd, .slice RA l.length rc, .int .i64 A, .int .i64 R, .int .i64 N, .int .i64 D, .slice VA vs.length vc, .int .i64 er] 27)))).mono ?_
    rintro e w2 ⟨rfl, hb2⟩
    have f_s2 := kp hb2 (na wo #[.int .i64 kd, .slice RA l.length rc, .int .i64 A, .int .i64 R, .int .i64 N, .int .i64 D, .slice VA vs.length vc, .int .i64 er] 27)
    have rd_l2 := (hro.below (bA (b0 _) (.cells #[.int .i64 kd, .slice RA l.length rc, .int .i64 A, .int .i64 R, .int .i64 N, .int .i64 D, .slice VA vs.length vc, .int .i64 er] 27))).below hb2
    have rd_v2 := (hvo.below (bA (b0 _) (.cells #[.int .i64 kd, .slice RA l.length rc, .int .i64 A, .int .i64 R, .int .i64 N, .int .i64 D, .slice VA vs.length vc, .int .i64 er] 27))).below hb2
    have hB2 := bB (bA hEo (.cells #[.int .i64 kd, .slice RA l.length rc, .int .i64 A, .int .i64 R, .int .i64 N, .int .i64 D, .slice VA vs.length vc, .int .i64 er] 27)) hb2
    obtain ⟨zs_a, zs_b, ls2⟩ := rcell f_s2
    go_wp2_with fail
    refine (c3 _ rd_l2 rd_v2).mono ?_
    rintro e w3 ⟨rfl, hb3⟩
    have f_s3 := kp hb3 (f_s2)
    have rd_l3 := rd_l2.below hb3
    have rd_v3 := rd_v2.below hb3
    have hB3 := bB hB2 hb3
    clear zs_a zs_b
    obtain ⟨zs_a, zs_b, ls3⟩ := rcell f_s3
    go_wp2
    go_ret
    exact ⟨rfl, hB3⟩
  · have c1 := fun w hR hV => encode_yes RA VA rc vc l vs kd A R N D er w hR hV hs
    have c3 := fun w hR hV => seg_Check RA VA rc vc l vs kd A R N D er w hR hV
    rw [hs, if_pos rfl] at c3
    have hlen := wSeg_len (sg_ok hs)
    have hdec := dec_enc hs
    have hcut := fun i hi => cut_dec (i := i) hs hi
    have hlong := fun (q : List Int) hq => dec_long (l := q) hs hq
    have hmid := get_mid hs
    have hbW := byt_wSeg hs
    simp only at hlen
    generalize wSeg ⟨kd, l, ⟨A, R, N, D⟩, vs, er⟩ = W at *
    have hWl : W.length ≤ 20000 := by split at hlen <;> omega
    clear hs hlen
    have cD := fun B c w hy => dec_ok B c W hbW kd A R N D er l vs hdec w hy
    have HCUT := hide hcut
    obtain ⟨q3, hq3⟩ : ∃ q, q = a ++ (W ++ z) := ⟨_, rfl⟩
    obtain ⟨q2, hq2⟩ : ∃ q, q = W ++ z := ⟨_, rfl⟩
    have l3 : q3.length = a.length + (W.length + z.length) := by rw [hq3, List.length_append, List.length_append]
    have l4 : q2.length = W.length + z.length := by rw [hq2, List.length_append]
    have cC := fun X A1 A2 A3 c1 c2 c3 w hX h1 h2 h3 => concat3 X A1 A2 A3 c1 c2 c3 a W z q3 hq3 (by omega) w hX h1 h2 h3
    have cC2 := fun X A1 A2 c1 c2 w hX h1 h2 => concat2 X A1 A2 c1 c2 W z q2 hq2 (by omega) w hX h1 h2
    have hm3 : pSeg q3 a.length = .ok (⟨kd, l, ⟨A, R, N, D⟩, vs, er⟩, a.length + W.length) := by rw [hq3]; exact hmid a z
    have cG := fun B c w hy => get_ok B c q3 (by rw [hq3]; exact ba.app (hbW.app bb)) a.length (a.length + W.length) (by omega) kd A R N D er l vs hm3 w hy
    have cL := fun (hz : 0 < z.length) B c w hy => dec_err B c q2 (by rw [hq2]; exact hbW.app bb) 7 (by rw [hq2]; exact hlong z hz) w hy
    have cX := fun i (hi : i < W.length) B c w hy => dec_err B c (W.take i) (hbW.take i) 6 (HCUT.out i hi) w hy
    have ecast : ((a.length + W.length : Nat) : Int) = (a.length : Int) + (W.length : Int) := by omega
    rw [ecast] at cG
    clear hcut hlong hmid hdec hm3 hq3 hq2 l3 l4 ecast
    go_wp2_with fail
    go_wp2_with fail
    refine (c1 _ (hro.below (bA (b0 _) (.cells #[.int .i64 kd, .slice RA l.length rc, .int .i64 A, .int .i64 R, .int .i64 N, .int .i64 D, .slice VA vs.length vc, .int .i64 er] 27))) (hvo.below (bA (b0 _) (.cells #[.int .i64 kd, .slice RA l.length rc, .int .i64 A, .int .i64 R, .int .i64 N, .int .i64 D, .slice VA vs.length vc, .int .i64 er] 27)))).mono ?_
    rintro e w2 ⟨AW, cw, nw, rfl, hnw, yw, hb2⟩
    have f_s2 := kp hb2 (na wo #[.int .i64 kd, .slice RA l.length rc, .int .i64 A, .int .i64 R, .int .i64 N, .int .i64 D, .slice VA vs.length vc, .int .i64 er] 27)
    have rd_l2 := (hro.below (bA (b0 _) (.cells #[.int .i64 kd, .slice RA l.length rc, .int .i64 A, .int .i64 R, .int .i64 N, .int .i64 D, .slice VA vs.length vc, .int .i64 er] 27))).below hb2
    have rd_v2 := (hvo.below (bA (b0 _) (.cells #[.int .i64 kd, .slice RA l.length rc, .int .i64 A, .int .i64 R, .int .i64 N, .int .i64 D, .slice VA vs.length vc, .int .i64 er] 27))).below hb2
    have hB2 := bB (bA hEo (.cells #[.int .i64 kd, .slice RA l.length rc, .int .i64 A, .int .i64 R, .int .i64 N, .int .i64 D, .slice VA vs.length vc, .int .i64 er] 27)) hb2
    obtain ⟨zs_a, zs_b, ls2⟩ := rcell f_s2
    obtain rfl := hnw.out
    go_wp2_with fail
    refine (c3 _ rd_l2 rd_v2).mono ?_
    rintro e w3 ⟨rfl, hb3⟩
    have f_s3 := kp hb3 (f_s2)
    have rd_l3 := rd_l2.below hb3
    have rd_v3 := rd_v2.below hb3
    have rd_y3 := yw.below hb3
    have hB3 := bB hB2 hb3
    clear zs_a zs_b
    obtain ⟨zs_a, zs_b, ls3⟩ := rcell f_s3
    go_wp2_with fail
    refine (cD _ _ _ rd_y3).mono ?_
    rintro e w4 ⟨RB, rb, VB, vb, n2, m2, rfl, hnm, rr2, vv2, hb4⟩
    have f_s4 := kp hb4 (f_s3)
    have rd_l4 := rd_l3.below hb4
    have rd_v4 := rd_v3.below hb4
    have rd_y4 := rd_y3.below hb4
    have hB4 := bB hB3 hb4
    clear zs_a zs_b
    obtain ⟨zs_a, zs_b, ls4⟩ := rcell f_s4
    obtain ⟨rfl, rfl⟩ := hnm.out
    go_wp2_with fail
    go_wp2_with fail
    refine (seg_Same_yes RA RB VA VB rc rb vc vb l vs kd A R N D er _ (rd_l4.below (bA (b0 _) (.cells #[.int .i64 kd, .slice RB l.length rb, .int .i64 A, .int .i64 R, .int .i64 N, .int .i64 D, .slice VB vs.length vb, .int .i64 er] 27))) (rr2.below (bA (b0 _) (.cells #[.int .i64 kd, .slice RB l.length rb, .int .i64 A, .int .i64 R, .int .i64 N, .int .i64 D, .slice VB vs.length vb, .int .i64 er] 27))) (rd_v4.below (bA (b0 _) (.cells #[.int .i64 kd, .slice RB l.length rb, .int .i64 A, .int .i64 R, .int .i64 N, .int .i64 D, .slice VB vs.length vb, .int .i64 er] 27))) (vv2.below (bA (b0 _) (.cells #[.int .i64 kd, .slice RB l.length rb, .int .i64 A, .int .i64 R, .int .i64 N, .int .i64 D, .slice VB vs.length vb, .int .i64 er] 27)))).mono ?_
    rintro e w5 ⟨rfl, hb5⟩
    have f_s5 := kp hb5 (ka (f_s4) (.cells #[.int .i64 kd, .slice RB l.length rb, .int .i64 A, .int .i64 R, .int .i64 N, .int .i64 D, .slice VB vs.length vb, .int .i64 er] 27))
    have f_t5 := kp hb5 (na w4 #[.int .i64 kd, .slice RB l.length rb, .int .i64 A, .int .i64 R, .int .i64 N, .int .i64 D, .slice VB vs.length vb, .int .i64 er] 27)
    have rd_l5 := (rd_l4.below (bA (b0 _) (.cells #[.int .i64 kd, .slice RB l.length rb, .int .i64 A, .int .i64 R, .int .i64 N, .int .i64 D, .slice VB vs.length vb, .int .i64 er] 27))).below hb5
    have rd_v5 := (rd_v4.below (bA (b0 _) (.cells #[.int .i64 kd, .slice RB l.length rb, .int .i64 A, .int .i64 R, .int .i64 N, .int .i64 D, .slice VB vs.length vb, .int .i64 er] 27))).below hb5
    have rd_y5 := (rd_y4.below (bA (b0 _) (.cells #[.int .i64 kd, .slice RB l.length rb, .int .i64 A, .int .i64 R, .int .i64 N, .int .i64 D, .slice VB vs.length vb, .int .i64 er] 27))).below hb5
    have rd_m5 := (rr2.below (bA (b0 _) (.cells #[.int .i64 kd, .slice RB l.length rb, .int .i64 A, .int .i64 R, .int .i64 N, .int .i64 D, .slice VB vs.length vb, .int .i64 er] 27))).below hb5
    have rd_u5 := (vv2.below (bA (b0 _) (.cells #[.int .i64 kd, .slice RB l.length rb, .int .i64 A, .int .i64 R, .int .i64 N, .int .i64 D, .slice VB vs.length vb, .int .i64 er] 27))).below hb5
    have hB5 := bB (bA hB4 (.cells #[.int .i64 kd, .slice RB l.length rb, .int .i64 A, .int .i64 R, .int .i64 N, .int .i64 D, .slice VB vs.length vb, .int .i64 er] 27)) hb5
    clear zs_a zs_b
    obtain ⟨zs_a, zs_b, ls5⟩ := rcell f_s5
    obtain ⟨zt_a, zt_b, lt5⟩ := rcell f_t5
    have hEa := hB5
    go_wp2_with fail
    refine (cf1 _ (hP.below hEa)).mono ?_
    rintro e w6 ⟨A1, c1', n1', rfl, hn1', y1, hb6⟩
    have f_s6 := kp hb6 (f_s5)
    have rd_l6 := rd_l5.below hb6
    have rd_v6 := rd_v5.below hb6
    have rd_y6 := rd_y5.below hb6
    have hB6 := bB hB5 hb6
    clear zs_a zs_b zt_a zt_b
    obtain ⟨zs_a, zs_b, ls6⟩ := rcell f_s6
    obtain rfl := hn1'.out
    have hEb := hB6
    go_wp2_with fail
    refine (cf2 _ (hQ.below hEb)).mono ?_
    rintro e w7 ⟨A2, c2', n2', rfl, hn2', y2, hb7⟩
    have f_s7 := kp hb7 (f_s6)
    have rd_l7 := rd_l6.below hb7
    have rd_v7 := rd_v6.below hb7
    have rd_y7 := rd_y6.below hb7
    have rd_a7 := y1.below hb7
    have hB7 := bB hB6 hb7
    clear zs_a zs_b
    obtain ⟨zs_a, zs_b, ls7⟩ := rcell f_s7
    obtain rfl := hn2'.out
    go_wp2_with fail
    go_wp2_with fail
    refine (cC _ _ _ _ _ _ _ _ (na w7 #[.slice A1 a.length c1', .slice AW W.length cw, .slice A2 z.length c2'] 30) (rd_a7.below (bA (b0 _) (.cells #[.slice A1 a.length c1', .slice AW W.length cw, .slice A2 z.length c2'] 30))) (rd_y7.below (bA (b0 _) (.cells #[.slice A1 a.length c1', .slice AW W.length cw, .slice A2 z.length c2'] 30))) (y2.below (bA (b0 _) (.cells #[.slice A1 a.length c1', .slice AW W.length cw, .slice A2 z.length c2'] 30)))).mono ?_
    rintro e w8 ⟨A3, c3', n3', rfl, hn3', y3, hb8⟩
    have f_s8 := kp hb8 (ka (f_s7) (.cells #[.slice A1 a.length c1', .slice AW W.length cw, .slice A2 z.length c2'] 30))
    have f_c8 := kp hb8 (na w7 #[.slice A1 a.length c1', .slice AW W.length cw, .slice A2 z.length c2'] 30)
    have rd_l8 := (rd_l7.below (bA (b0 _) (.cells #[.slice A1 a.length c1', .slice AW W.length cw, .slice A2 z.length c2'] 30))).below hb8
    have rd_v8 := (rd_v7.below (bA (b0 _) (.cells #[.slice A1 a.length c1', .slice AW W.length cw, .slice A2 z.length c2'] 30))).below hb8
    have rd_y8 := (rd_y7.below (bA (b0 _) (.cells #[.slice A1 a.length c1', .slice AW W.length cw, .slice A2 z.length c2'] 30))).below hb8
    have rd_a8 := (rd_a7.below (bA (b0 _) (.cells #[.slice A1 a.length c1', .slice AW W.length cw, .slice A2 z.length c2'] 30))).below hb8
    have rd_z8 := (y2.below (bA (b0 _) (.cells #[.slice A1 a.length c1', .slice AW W.length cw, .slice A2 z.length c2'] 30))).below hb8
    have hB8 := bB (bA hB7 (.cells #[.slice A1 a.length c1', .slice AW W.length cw, .slice A2 z.length c2'] 30)) hb8
    clear zs_a zs_b
    obtain ⟨zs_a, zs_b, ls8⟩ := rcell f_s8
    obtain ⟨zc_a, zc_b, lc8⟩ := rcell f_c8
    obtain rfl := hn3'.out
    go_wp2_with fail
    refine (cG _ _ _ y3).mono ?_
    rintro e w9 ⟨RC, rc3, VC, vc3, n4', m4', rfl, hnm4, rr4, vv4, hb9⟩
    have f_s9 := kp hb9 (f_s8)
    have rd_l9 := rd_l8.below hb9
    have rd_v9 := rd_v8.below hb9
    have rd_y9 := rd_y8.below hb9
    have rd_a9 := rd_a8.below hb9
    have rd_z9 := rd_z8.below hb9
    have rd_q9 := y3.below hb9
    have hB9 := bB hB8 hb9
    clear zc_a zc_b zs_a zs_b
    obtain ⟨zs_a, zs_b, ls9⟩ := rcell f_s9
    obtain ⟨rfl, rfl⟩ := hnm4.out
    go_wp2_with fail
    go_wp2_with fail
    refine (seg_Same_yes RA RC VA VC rc rc3 vc vc3 l vs kd A R N D er _ (rd_l9.below (bA (b0 _) (.cells #[.int .i64 kd, .slice RC l.length rc3, .int .i64 A, .int .i64 R, .int .i64 N, .int .i64 D, .slice VC vs.length vc3, .int .i64 er] 27))) (rr4.below (bA (b0 _) (.cells #[.int .i64 kd, .slice RC l.length rc3, .int .i64 A, .int .i64 R, .int .i64 N, .int .i64 D, .slice VC vs.length vc3, .int .i64 er] 27))) (rd_v9.below (bA (b0 _) (.cells #[.int .i64 kd, .slice RC l.length rc3, .int .i64 A, .int .i64 R, .int .i64 N, .int .i64 D, .slice VC vs.length vc3, .int .i64 er] 27))) (vv4.below (bA (b0 _) (.cells #[.int .i64 kd, .slice RC l.length rc3, .int .i64 A, .int .i64 R, .int .i64 N, .int .i64 D, .slice VC vs.length vc3, .int .i64 er] 27)))).mono ?_
    rintro e w10 ⟨rfl, hb10⟩
    have f_s10 := kp hb10 (ka (f_s9) (.cells #[.int .i64 kd, .slice RC l.length rc3, .int .i64 A, .int .i64 R, .int .i64 N, .int .i64 D, .slice VC vs.length vc3, .int .i64 er] 27))
    have f_t10 := kp hb10 (na w9 #[.int .i64 kd, .slice RC l.length rc3, .int .i64 A, .int .i64 R, .int .i64 N, .int .i64 D, .slice VC vs.length vc3, .int .i64 er] 27)
    have rd_l10 := (rd_l9.below (bA (b0 _) (.cells #[.int .i64 kd, .slice RC l.length rc3, .int .i64 A, .int .i64 R, .int .i64 N, .int .i64 D, .slice VC vs.length vc3, .int .i64 er] 27))).below hb10
    have rd_v10 := (rd_v9.below (bA (b0 _) (.cells #[.int .i64 kd, .slice RC l.length rc3, .int .i64 A, .int .i64 R, .int .i64 N, .int .i64 D, .slice VC vs.length vc3, .int .i64 er] 27))).below hb10
    have rd_y10 := (rd_y9.below (bA (b0 _) (.cells #[.int .i64 kd, .slice RC l.length rc3, .int .i64 A, .int .i64 R, .int .i64 N, .int .i64 D, .slice VC vs.length vc3, .int .i64 er] 27))).below hb10
    have rd_a10 := (rd_a9.below (bA (b0 _) (.cells #[.int .i64 kd, .slice RC l.length rc3, .int .i64 A, .int .i64 R, .int .i64 N, .int .i64 D, .slice VC vs.length vc3, .int .i64 er] 27))).below hb10
    have rd_z10 := (rd_z9.below (bA (b0 _) (.cells #[.int .i64 kd, .slice RC l.length rc3, .int .i64 A, .int .i64 R, .int .i64 N, .int .i64 D, .slice VC vs.length vc3, .int .i64 er] 27))).below hb10
    have rd_m10 := (rr4.below (bA (b0 _) (.cells #[.int .i64 kd, .slice RC l.length rc3, .int .i64 A, .int .i64 R, .int .i64 N, .int .i64 D, .slice VC vs.length vc3, .int .i64 er] 27))).below hb10
    have rd_u10 := (vv4.below (bA (b0 _) (.cells #[.int .i64 kd, .slice RC l.length rc3, .int .i64 A, .int .i64 R, .int .i64 N, .int .i64 D, .slice VC vs.length vc3, .int .i64 er] 27))).below hb10
    have hB10 := bB (bA hB9 (.cells #[.int .i64 kd, .slice RC l.length rc3, .int .i64 A, .int .i64 R, .int .i64 N, .int .i64 D, .slice VC vs.length vc3, .int .i64 er] 27)) hb10
    clear zs_a zs_b
    obtain ⟨zs_a, zs_b, ls10⟩ := rcell f_s10
    obtain ⟨zt_a, zt_b, lt10⟩ := rcell f_t10
    by_cases hz : 0 < z.length
    · have dz : decide (0 < z.length) = true := decide_eq_true hz
      go_wp2_with fail
      go_wp2_with fail
      refine (cC2 _ _ _ _ _ _ (na w10 #[.slice AW W.length cw, .slice A2 z.length c2'] 30) (rd_y10.below (bA (b0 _) (.cells #[.slice AW W.length cw, .slice A2 z.length c2'] 30))) (rd_z10.below (bA (b0 _) (.cells #[.slice AW W.length cw, .slice A2 z.length c2'] 30)))).mono ?_
      rintro e w11 ⟨A4, c4', n5', rfl, hn5', y4, hb11⟩
      have f_c11 := kp hb11 (na w10 #[.slice AW W.length cw, .slice A2 z.length c2'] 30)
      have rd_y11 := (rd_y10.below (bA (b0 _) (.cells #[.slice AW W.length cw, .slice A2 z.length c2'] 30))).below hb11
      have rd_a11 := (rd_a10.below (bA (b0 _) (.cells #[.slice AW W.length cw, .slice A2 z.length c2'] 30))).below hb11
      have rd_z11 := (rd_z10.below (bA (b0 _) (.cells #[.slice AW W.length cw, .slice A2 z.length c2'] 30))).below hb11
      have hB11 := bB (bA hB10 (.cells #[.slice AW W.length cw, .slice A2 z.length c2'] 30)) hb11
      clear zs_a zs_b zt_a zt_b
      obtain ⟨zc_a, zc_b, lc11⟩ := rcell f_c11
      obtain rfl := hn5'.out
      go_wp2_with fail
      refine (cL hz _ _ _ y4).mono ?_
      rintro e w12 ⟨rfl, hb12⟩
      have rd_y12 := rd_y11.below hb12
      have rd_a12 := rd_a11.below hb12
      have rd_z12 := rd_z11.below hb12
      have rd_q12 := y4.below hb12
      have hB12 := bB hB11 hb12
      clear zc_a zc_b
      go_wp2_with fail
      have jy := (rd_y12.below (bA (b0 _) (.cells #[.int .i64 0, .slice none 0 0, .int .i64 0, .int .i64 0, .int .i64 0, .int .i64 0, .slice none 0 0, .int .i64 0] 27)))
      have hEl := (bA hB12 (.cells #[.int .i64 0, .slice none 0 0, .int .i64 0, .int .i64 0, .int .i64 0, .int .i64 0, .slice none 0 0, .int .i64 0] 27))
      have hcapw := jy.cap
      have htopw := jy.top
      go_loopw [103] (fun vi wr => ∃ k : Nat, vi = .int .i64 k ∧ k ≤ W.length ∧ YR wr AW cw W ∧ Below w.heap.size w wr) (fun vi _ => W.length - (intOf vi).toNat)
      case atStart => exact ⟨0, rfl, by omega, jy, hEl⟩
      case round =>
        obtain ⟨k, rfl, hk, jyr, hbr⟩ := hrel
        by_cases hlt : k < W.length
        · have cx := cX k hlt
          rw [List.length_take, Nat.min_eq_left (by omega)] at cx
          have hkc : k ≤ cw := by omega
          go_wp2_with fail
          refine (cx _ _ _ (jyr.take k)).mono ?_
          rintro e w13 ⟨rfl, hb13⟩
          have rd_y13 := jyr.below hb13
          have hB13 := bB hbr hb13
          go_wp2_with fail
          go_roundw
          case rel => exact ⟨k + 1, by go_num, by omega, (rd_y13.below (bA (b0 _) (.cells #[.int .i64 0, .slice none 0 0, .int .i64 0, .int .i64 0, .int .i64 0, .int .i64 0, .slice none 0 0, .int .i64 0] 27))), (bA hB13 (.cells #[.int .i64 0, .slice none 0 0, .int .i64 0, .int .i64 0, .int .i64 0, .int .i64 0, .slice none 0 0, .int .i64 0] 27))⟩
          case measure => simp [intOf]; omega
        · obtain rfl : k = W.length := by omega
          go_wp2
          go_ret
          exact ⟨rfl, hbr⟩
    · skip
      have dz : decide (0 < z.length) = false := decide_eq_false hz
      go_wp2_with fail
      have jy := rd_y10
      have hEl := hB10
      have hcapw := jy.cap
      have htopw := jy.top
      go_loopw [103] (fun vi wr => ∃ k : Nat, vi = .int .i64 k ∧ k ≤ W.length ∧ YR wr AW cw W ∧ Below w.heap.size w wr) (fun vi _ => W.length - (intOf vi).toNat)
      case atStart => exact ⟨0, rfl, by omega, jy, hEl⟩
      case round =>
        obtain ⟨k, rfl, hk, jyr, hbr⟩ := hrel
        by_cases hlt : k < W.length
        · have cx := cX k hlt
          rw [List.length_take, Nat.min_eq_left (by omega)] at cx
          have hkc : k ≤ cw := by omega
          go_wp2_with fail
          refine (cx _ _ _ (jyr.take k)).mono ?_
          rintro e w11 ⟨rfl, hb11⟩
          have rd_y11 := jyr.below hb11
          have hB11 := bB hbr hb11
          go_wp2_with fail
          go_roundw
          case rel => exact ⟨k + 1, by go_num, by omega, (rd_y11.below (bA (b0 _) (.cells #[.int .i64 0, .slice none 0 0, .int .i64 0, .int .i64 0, .int .i64 0, .int .i64 0, .slice none 0 0, .int .i64 0] 27))), (bA hB11 (.cells #[.int .i64 0, .slice none 0 0, .int .i64 0, .int .i64 0, .int .i64 0, .int .i64 0, .slice none 0 0, .int .i64 0] 27))⟩
          case measure => simp [intOf]; omega
        · obtain rfl : k = W.length := by omega
          go_wp2
          go_ret
          exact ⟨rfl, hbr⟩
end Go.Proofs.YtmpfbkeamihjbaaGreat
