/- The walk of the law SegcodeSmall. -/
import Derived.Test.YtmpfbkeamihjbaaGreatQ7
import Derived.Test.YtmpfbkeamihjbaaGreatQ8
set_option linter.unusedSimpArgs false
set_option linter.unusedVariables false
namespace Go.Proofs.YtmpfbkeamihjbaaGreat
open Go.RowKit
attribute [local go_sem] Oper.semAt_some

theorem min257 (n : Nat) : (if (257 : Int) < (n : Int) then (257 : Int) else (n : Int)) = ((min 257 n : Nat) : Int) := by split <;> omega
/-- what law12's own makes of a segment that came in -/
theorem law12_own (X Y : Option Addr) (C E : Nat) (xs : List Rn) (ys : List Int) (kd A R N D er : Int) (hn : xs.length ≤ C) (hm : ys.length ≤ E) (w : World) (hX : InR w X xs) (hY : InC .i64 w Y ys) :
    Calls Tryz.prog 9 #[.agg #[.int .i64 kd, .slice X xs.length C, .int .i64 A, .int .i64 R, .int .i64 N, .int .i64 D, .slice Y ys.length E, .int .i64 er]] w fun e w' => ∃ RA rc k' VA vc j', e = .returned (.agg #[.int .i64 kd, .slice RA k' rc, .int .i64 A, .int .i64 R, .int .i64 N, .int .i64 D, .slice VA j' vc, .int .i64 er]) ∧ Hid (k' = (xs.take 257).length ∧ j' = (ys.take 257).length) ∧ RR w' RA rc (xs.take 257) ∧ VR w' VA vc (ys.take 257) ∧ Below w.heap.size w w' :=
  own_in X Y C E xs.length ys.length (min 257 xs.length) (min 257 ys.length) (xs.take 257) (ys.take 257) kd A R N D er (min257 _) (min257 _) hn hm (by rw [List.length_take]) (by rw [List.length_take]) w (hX.take 257) (hY.take 257)

set_option maxRecDepth 100000 in
set_option maxHeartbeats 8000000 in
theorem small_walk (X Y : Option Addr) (C E : Nat) (xs : List Rn) (ys : List Int) (kd A R N D er : Int) (hn : xs.length ≤ C) (hm : ys.length ≤ E) (w : World) (hX : InR w X xs) (hY : InC .i64 w Y ys) :
    Calls Tryz.prog 5 #[.agg #[.int .i64 kd, .slice X xs.length C, .int .i64 A, .int .i64 R, .int .i64 N, .int .i64 D, .slice Y ys.length E, .int .i64 er]] w fun e w' => e = .returned (.bool true) ∧ Below w.heap.size w w' := by
  have co := fun w hX hY => law12_own X Y C E xs ys kd A R N D er hn hm w hX hY
  have l1 : (xs.take 257).length ≤ 257 := by rw [List.length_take]; omega
  have l2 : (ys.take 257).length ≤ 257 := by rw [List.length_take]; omega
  generalize xs.take 257 = l at *
  generalize ys.take 257 = vs at *
  have hxl : ∃ n, n = xs.length := ⟨_, rfl⟩
  obtain ⟨n, hxl⟩ := hxl
  have hyl : ∃ m, m = ys.length := ⟨_, rfl⟩
  obtain ⟨m, hyl⟩ := hyl
  rw [← hxl, ← hyl] at co
  rw [← hxl, ← hyl]
  clear hxl hyl hn hm
  have cW := wakes12
  go_enter Tryz.func5, Tryz.ntmps5
  go_wp2_with fail
  refine (cW _).mono ?_
  rintro e w1 ⟨rfl, hb1⟩
  have f_x1 := kp hb1 (na w #[.int .i64 kd, .slice X n C, .int .i64 A, .int .i64 R, .int .i64 N, .int .i64 D, .slice Y m E, .int .i64 er] 27)
  have hB1 := bB (bA (b0 w) (.cells #[.int .i64 kd, .slice X n C, .int .i64 A, .int .i64 R, .int .i64 N, .int .i64 D, .slice Y m E, .int .i64 er] 27)) hb1
  obtain ⟨zx_a, zx_b, lx1⟩ := rcell f_x1
  go_wp2_with fail
  have hE1 := hB1
  refine (co _ (hX.below hE1) (hY.below hE1)).mono ?_
  rintro e wo ⟨RA, rc, k', VA, vc, j', rfl, hkj, hro, hvo, hbo⟩
  obtain ⟨rfl, rfl⟩ := hkj.out
  have hEo := bB hE1 hbo
  cases hs : sgB ⟨kd, l, ⟨A, R, N, D⟩, vs, er⟩
  · have c1 := fun w hR hV => size_no RA VA rc vc l vs kd A R N D er w hR hV hs
    have c2 := fun w hR hV => encode_no RA VA rc vc l vs kd A R N D er w hR hV hs
    have c3 := fun w hR hV => seg_Check RA VA rc vc l vs kd A R N D er w hR hV
    rw [hs, if_neg (by simp)] at c3
    clear hs
    go_wp2_with fail
    go_wp2_with fail
    refine (c1 _ (hro.below (bA (b0 _) (.cells #[.int .i64 kd, .slice RA l.length rc, .int .i64 A, .int .i64 R, .int .i64 N, .int .i64 D, .slice VA vs.length vc, .int .i64 er] 27))) (hvo.below (bA (b0 _) (.cells #[.int .i64 kd, .slice RA l.length rc, .int .i64 A, .int .i64 R, .int .i64 N, .int .i64 D, .slice VA vs.length vc, .int .i64 er] 27)))).mono ?_
    rintro e w2 ⟨rfl, hb2⟩
    have f_s2 := kp hb2 (na wo #[.int .i64 kd, .slice RA l.length rc, .int .i64 A, .int .i64 R, .int .i64 N, .int .i64 D, .slice VA vs.length vc, .int .i64 er] 27)
    have rd_l2 := (hro.below (bA (b0 _) (.cells #[.int .i64 kd, .slice RA l.length rc, .int .i64 A, .int .i64 R, .int .i64 N, .int .i64 D, .slice VA vs.length vc, .int .i64 er] 27))).below hb2
    have rd_v2 := (hvo.below (bA (b0 _) (.cells #[.int .i64 kd, .slice RA l.length rc, .int .i64 A, .int .i64 R, .int .i64 N, .int .i64 D, .slice VA vs.length vc, .int .i64 er] 27))).below hb2
    have hB2 := bB (bA hEo (.cells #[.int .i64 kd, .slice RA l.length rc, .int .i64 A, .int .i64 R, .int .i64 N, .int .i64 D, .slice VA vs.length vc, .int .i64 er] 27)) hb2
    obtain ⟨zs_a, zs_b, ls2⟩ := rcell f_s2
    go_wp2_with fail
    refine (c2 _ rd_l2 rd_v2).mono ?_
    rintro e w3 ⟨rfl, hb3⟩
    have f_s3 := kp hb3 (f_s2)
    have rd_l3 := rd_l2.below hb3
    have rd_v3 := rd_v2.below hb3
    have hB3 := bB hB2 hb3
    clear zs_a zs_b
    obtain ⟨zs_a, zs_b, ls3⟩ := rcell f_s3
    go_wp2_with fail
    refine (c3 _ rd_l3 rd_v3).mono ?_
    rintro e w4 ⟨rfl, hb4⟩
    have f_s4 := kp hb4 (f_s3)
    have rd_l4 := rd_l3.below hb4
    have rd_v4 := rd_v3.below hb4
    have hB4 := bB hB3 hb4
    clear zs_a zs_b
    obtain ⟨zs_a, zs_b, ls4⟩ := rcell f_s4
    go_wp2
    go_ret
    exact ⟨rfl, hB4⟩
  · have c1 := fun w hR hV => size_yes RA VA rc vc l vs kd A R N D er w hR hV hs
    have c2 := fun w hR hV => encode_yes RA VA rc vc l vs kd A R N D er w hR hV hs
    have hlen := wSeg_len (sg_ok hs)
    have hpos : 0 < (wSeg ⟨kd, l, ⟨A, R, N, D⟩, vs, er⟩).length := by unfold wSeg; simp
    simp only at hlen
    generalize wSeg ⟨kd, l, ⟨A, R, N, D⟩, vs, er⟩ = q at *
    generalize q.length = L at *
    clear hs
    go_wp2_with fail
    go_wp2_with fail
    refine (c1 _ (hro.below (bA (b0 _) (.cells #[.int .i64 kd, .slice RA l.length rc, .int .i64 A, .int .i64 R, .int .i64 N, .int .i64 D, .slice VA vs.length vc, .int .i64 er] 27))) (hvo.below (bA (b0 _) (.cells #[.int .i64 kd, .slice RA l.length rc, .int .i64 A, .int .i64 R, .int .i64 N, .int .i64 D, .slice VA vs.length vc, .int .i64 er] 27)))).mono ?_
    rintro e w2 ⟨rfl, hb2⟩
    have f_s2 := kp hb2 (na wo #[.int .i64 kd, .slice RA l.length rc, .int .i64 A, .int .i64 R, .int .i64 N, .int .i64 D, .slice VA vs.length vc, .int .i64 er] 27)
    have rd_l2 := (hro.below (bA (b0 _) (.cells #[.int .i64 kd, .slice RA l.length rc, .int .i64 A, .int .i64 R, .int .i64 N, .int .i64 D, .slice VA vs.length vc, .int .i64 er] 27))).below hb2
    have rd_v2 := (hvo.below (bA (b0 _) (.cells #[.int .i64 kd, .slice RA l.length rc, .int .i64 A, .int .i64 R, .int .i64 N, .int .i64 D, .slice VA vs.length vc, .int .i64 er] 27))).below hb2
    have hB2 := bB (bA hEo (.cells #[.int .i64 kd, .slice RA l.length rc, .int .i64 A, .int .i64 R, .int .i64 N, .int .i64 D, .slice VA vs.length vc, .int .i64 er] 27)) hb2
    obtain ⟨zs_a, zs_b, ls2⟩ := rcell f_s2
    go_wp2_with fail
    refine (c2 _ rd_l2 rd_v2).mono ?_
    rintro e w3 ⟨A', c', n', rfl, hn', y', hb3⟩
    have f_s3 := kp hb3 (f_s2)
    have rd_l3 := rd_l2.below hb3
    have rd_v3 := rd_v2.below hb3
    have hB3 := bB hB2 hb3
    clear zs_a zs_b
    obtain ⟨zs_a, zs_b, ls3⟩ := rcell f_s3
    obtain rfl := hn'.out
    by_cases hk : kd = 4
    · have dk : (kd != 4) = false := by simp [hk]
      have d1 : decide (0 < n') = true := decide_eq_true hpos
      have d2 : decide ((n' : Int) ≤ 9 + 16 * (l.length : Int) + 10 * (vs.length : Int)) = true := by rw [if_pos hk] at hlen; simp; omega
      clear hk hlen
      go_wp2
      go_ret
      exact ⟨by simp, hB3⟩
    · skip
      have dk : (kd != 4) = true := by simp [hk]
      have d1 : decide (0 < n') = true := decide_eq_true hpos
      have d2 : decide ((n' : Int) ≤ 9 + 16 * (l.length : Int) + 10 * (vs.length : Int) + 33) = true := by rw [if_neg hk] at hlen; simp; omega
      clear hk hlen
      go_wp2
      go_ret
      exact ⟨by simp, hB3⟩
end Go.Proofs.YtmpfbkeamihjbaaGreat
