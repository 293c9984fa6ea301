/- slices.Equal of runs and of int64, seg.Same, where they are equal; slices.Clone of bytes, yearbooklaw12.few at this program. -/
import Derived.Test.YtmpfbkeamihjbaaGreatQ7
import Derived.Test.YtmpfbkeamihjbaaGreatQ8
set_option linter.unusedSimpArgs false
set_option linter.unusedVariables false
namespace Go.Proofs.YtmpfbkeamihjbaaGreat
open Go.RowKit
attribute [local go_sem] Oper.semAt_some

set_option maxRecDepth 100000 in
set_option maxHeartbeats 1000000 in
theorem equal_long (A B : Option Addr) (c d : Nat) (xs : List Int) (w : World) (hR : VR w A c xs) (hS : VR w B d xs) :
    Calls Tryz.prog 51 #[.slice A xs.length c, .slice B xs.length d] w fun e w' => e = .returned (.bool true) ∧ Below w.heap.size w w' := by
  by_cases h0 : 0 < xs.length
  · obtain ⟨g, o, cur, rfl, hg, hc⟩ := hR.mem h0
    obtain ⟨g', o', cur', rfl, hg', hc'⟩ := hS.mem h0
    have HC := hide hc
    have HC' := hide hc'
    have hcap := hR.cap
    have htop := hR.top
    clear hc hc' hR hS
    go_enter Tryz.func51, Tryz.ntmps51
    obtain ⟨zg_a, zg_b, lg0⟩ := rcell hg
    obtain ⟨zh_a, zh_b, lh0⟩ := rcell hg'
    go_wp2_with fail
    go_loopw [13] (fun vi wr => ∃ k : Nat, vi = .int .i64 k ∧ k ≤ xs.length ∧ wr.heap[g]? = some (.cells cur 2 (0, 0)) ∧ wr.heap[g']? = some (.cells cur' 2 (0, 0)) ∧ Below w.heap.size w wr) (fun vi _ => xs.length - (intOf vi).toNat)
    case atStart => exact ⟨0, rfl, by omega, (hg), (hg'), (b0 w)⟩
    case round =>
      obtain ⟨k, rfl, hk, j1, j2, hb⟩ := hrel
      by_cases hlt : k < xs.length
      · have q1 := HC.out k hlt
        have q2 := HC'.out k hlt
        generalize xs[k] = x at *
        have hxx : (x != x) = false := by simp
        obtain ⟨zg_a, zg_b, lg1⟩ := rcell j1
        obtain ⟨zh_a, zh_b, lh2⟩ := rcell j2
        go_wp2_with fail
        refine Abs.wp_region_abs (Abs.cls0 _) [0, 1, 2, 3, 4, 5, 6, 7, 8] (by kernel_rfl) (by kernel_rfl) (Below.refl _ _).drew ?_
        repeat (first | (refine Abs.step_pure rfl rfl (fun K hK => ?_); go_simp; (try go_bits); (first | refine hK _ _ ?_ | (simp only [↓IntWalk.iteOmega]; go_simp; (try go_bits); refine hK _ _ ?_)); clear hK K) | (refine Abs.step_load (v := ?_) rfl rfl (by kernel_rfl) rfl (fun w0 hI => ?_) (fun K hK => ?_); rotate_left; (· have z0 := (rcell (kp hI (j1))).1; have z1 := (rcell (kp hI (j2))).1; go_simp; rfl); (simp only [Act.put, List.setIfInBounds_toArray, List.set_cons_zero, List.set_cons_succ]; refine hK _ _ ?_; clear hK K)) | (refine Abs.step_skip rfl rfl (fun K hK => ?_); (simp only [Act.put, List.setIfInBounds_toArray, List.set_cons_zero, List.set_cons_succ]; refine hK _ _ ?_; clear hK K)))
        intro w4 hb4 hx0 hx1 hx2
        clear hx0 hx1 hx2
        simp only [Abs.T_setF, Abs.T_addA, Abs.T_push, Abs.T_start]
        have f_g4 := kp hb4 (j1)
        have f_h4 := kp hb4 (j2)
        have hB4 := bB hb hb4
        clear zg_a zg_b zh_a zh_b
        obtain ⟨zg_a, zg_b, lg4⟩ := rcell f_g4
        obtain ⟨zh_a, zh_b, lh4⟩ := rcell f_h4
        go_wp2
        go_roundw
        case rel => exact ⟨k + 1, by go_num, by omega, (f_g4), (f_h4), hB4⟩
        case measure => simp [intOf]; omega
      · obtain rfl : k = xs.length := by omega
        go_wp2
        go_ret
        exact ⟨rfl, hb⟩
  · obtain rfl : xs = [] := List.eq_nil_of_length_eq_zero (by omega)
    clear hR hS
    go_enter Tryz.func51, Tryz.ntmps51
    go_wp2
    go_loopw [13] (fun vi wr => vi = .int .i64 0 ∧ Below w.heap.size w wr) (fun _ _ => 0)
    case atStart => exact ⟨rfl, b0 w⟩
    case round =>
      obtain ⟨rfl, hb⟩ := hrel
      go_wp2
      go_ret
      exact ⟨rfl, hb⟩

set_option maxRecDepth 100000 in
set_option maxHeartbeats 1000000 in
theorem equal_runs (A B : Option Addr) (c d : Nat) (xs : List Rn) (w : World) (hR : RR w A c xs) (hS : RR w B d xs) :
    Calls Tryz.prog 50 #[.slice A xs.length c, .slice B xs.length d] w fun e w' => e = .returned (.bool true) ∧ Below w.heap.size w w' := by
  by_cases h0 : 0 < xs.length
  · obtain ⟨g, o, cur, rfl, hg, hc⟩ := hR.mem h0
    obtain ⟨g', o', cur', rfl, hg', hc'⟩ := hS.mem h0
    have HC := hide hc
    have HC' := hide hc'
    have hcap := hR.cap
    have htop := hR.top
    clear hc hc' hR hS
    go_enter Tryz.func50, Tryz.ntmps50
    obtain ⟨zg_a, zg_b, lg0⟩ := rcell hg
    obtain ⟨zh_a, zh_b, lh0⟩ := rcell hg'
    go_wp2_with fail
    go_loopw [13] (fun vi wr => ∃ k : Nat, vi = .int .i64 k ∧ k ≤ xs.length ∧ wr.heap[g]? = some (.cells cur 46 (0, 0)) ∧ wr.heap[g']? = some (.cells cur' 46 (0, 0)) ∧ Below w.heap.size w wr) (fun vi _ => xs.length - (intOf vi).toNat)
    case atStart => exact ⟨0, rfl, by omega, (hg), (hg'), (b0 w)⟩
    case round =>
      obtain ⟨k, rfl, hk, j1, j2, hb⟩ := hrel
      by_cases hlt : k < xs.length
      · obtain ⟨q1, q2, q3⟩ := HC.out k hlt
        obtain ⟨p1, p2, p3⟩ := HC'.out k hlt
        generalize xs[k] = x at *
        obtain ⟨zg_a, zg_b, lg1⟩ := rcell j1
        obtain ⟨zh_a, zh_b, lh2⟩ := rcell j2
        go_wp2_with fail
        refine Abs.wp_region_abs (Abs.cls0 _) [0, 1, 2, 3, 4, 5, 6, 7, 8] (by kernel_rfl) (by kernel_rfl) (Below.refl _ _).drew ?_
        repeat (first | (refine Abs.step_pure rfl rfl (fun K hK => ?_); go_simp; (try go_bits); (first | refine hK _ _ ?_ | (simp only [↓IntWalk.iteOmega]; go_simp; (try go_bits); refine hK _ _ ?_)); clear hK K) | (refine Abs.step_load (v := ?_) rfl rfl (by kernel_rfl) rfl (fun w0 hI => ?_) (fun K hK => ?_); rotate_left; (· have z0 := (rcell (kp hI (j1))).1; have z1 := (rcell (kp hI (j2))).1; go_simp; rfl); (simp only [Act.put, List.setIfInBounds_toArray, List.set_cons_zero, List.set_cons_succ]; refine hK _ _ ?_; clear hK K)) | (refine Abs.step_skip rfl rfl (fun K hK => ?_); (simp only [Act.put, List.setIfInBounds_toArray, List.set_cons_zero, List.set_cons_succ]; refine hK _ _ ?_; clear hK K)))
        intro w4 hb4 hx0 hx1 hx2
        clear hx0 hx1 hx2
        simp only [Abs.T_setF, Abs.T_addA, Abs.T_push, Abs.T_start]
        have f_g4 := kp hb4 (j1)
        have f_h4 := kp hb4 (j2)
        have hB4 := bB hb hb4
        clear zg_a zg_b zh_a zh_b
        obtain ⟨zg_a, zg_b, lg4⟩ := rcell f_g4
        obtain ⟨zh_a, zh_b, lh4⟩ := rcell f_h4
        go_wp2
        go_roundw
        case rel => exact ⟨k + 1, by go_num, by omega, (f_g4), (f_h4), hB4⟩
        case measure => simp [intOf]; omega
      · obtain rfl : k = xs.length := by omega
        go_wp2
        go_ret
        exact ⟨rfl, hb⟩
  · obtain rfl : xs = [] := List.eq_nil_of_length_eq_zero (by omega)
    clear hR hS
    go_enter Tryz.func50, Tryz.ntmps50
    go_wp2
    go_loopw [13] (fun vi wr => vi = .int .i64 0 ∧ Below w.heap.size w wr) (fun _ _ => 0)
    case atStart => exact ⟨rfl, b0 w⟩
    case round =>
      obtain ⟨rfl, hb⟩ := hrel
      go_wp2
      go_ret
      exact ⟨rfl, hb⟩

section
variable (RA RB VA VB : Option Addr) (rc rd vc vd : Nat) (l : List Rn) (vs : List Int) (kd A R N D er : Int) (w : World) (hR : RR w RA rc l) (hS : RR w RB rd l) (hV : VR w VA vc vs) (hU : VR w VB vd vs)
set_option maxRecDepth 100000 in
set_option maxHeartbeats 2000000 in
include hR hS hV hU in
theorem seg_Same_yes : Calls Tryz.prog 22 #[.agg #[.int .i64 kd, .slice RA l.length rc, .int .i64 A, .int .i64 R, .int .i64 N, .int .i64 D, .slice VA vs.length vc, .int .i64 er], .agg #[.int .i64 kd, .slice RB l.length rd, .int .i64 A, .int .i64 R, .int .i64 N, .int .i64 D, .slice VB vs.length vd, .int .i64 er]] w fun e w' => e = .returned (.bool true) ∧ Below w.heap.size w w' := by
  have c1 := fun w hR hS => equal_runs RA RB rc rd l w hR hS
  have c2 := fun w hV hU => equal_long VA VB vc vd vs w hV hU
  go_enter Tryz.func22, Tryz.ntmps22
  go_wp2_with fail
  refine (c1 _ (hR.below (bA (bA (b0 _) (.cells #[.int .i64 kd, .slice RA l.length rc, .int .i64 A, .int .i64 R, .int .i64 N, .int .i64 D, .slice VA vs.length vc, .int .i64 er] 27)) (.cells #[.int .i64 kd, .slice RB l.length rd, .int .i64 A, .int .i64 R, .int .i64 N, .int .i64 D, .slice VB vs.length vd, .int .i64 er] 27))) (hS.below (bA (bA (b0 _) (.cells #[.int .i64 kd, .slice RA l.length rc, .int .i64 A, .int .i64 R, .int .i64 N, .int .i64 D, .slice VA vs.length vc, .int .i64 er] 27)) (.cells #[.int .i64 kd, .slice RB l.length rd, .int .i64 A, .int .i64 R, .int .i64 N, .int .i64 D, .slice VB vs.length vd, .int .i64 er] 27)))).mono ?_
  rintro e w1 ⟨rfl, hb1⟩
  have f_s1 := kp hb1 (ka (na w #[.int .i64 kd, .slice RA l.length rc, .int .i64 A, .int .i64 R, .int .i64 N, .int .i64 D, .slice VA vs.length vc, .int .i64 er] 27) (.cells #[.int .i64 kd, .slice RB l.length rd, .int .i64 A, .int .i64 R, .int .i64 N, .int .i64 D, .slice VB vs.length vd, .int .i64 er] 27))
  have f_t1 := kp hb1 (na1 w (.cells #[.int .i64 kd, .slice RA l.length rc, .int .i64 A, .int .i64 R, .int .i64 N, .int .i64 D, .slice VA vs.length vc, .int .i64 er] 27) #[.int .i64 kd, .slice RB l.length rd, .int .i64 A, .int .i64 R, .int .i64 N, .int .i64 D, .slice VB vs.length vd, .int .i64 er] 27)
  have rd_l1 := (hR.below (bA (bA (b0 _) (.cells #[.int .i64 kd, .slice RA l.length rc, .int .i64 A, .int .i64 R, .int .i64 N, .int .i64 D, .slice VA vs.length vc, .int .i64 er] 27)) (.cells #[.int .i64 kd, .slice RB l.length rd, .int .i64 A, .int .i64 R, .int .i64 N, .int .i64 D, .slice VB vs.length vd, .int .i64 er] 27))).below hb1
  have rd_m1 := (hS.below (bA (bA (b0 _) (.cells #[.int .i64 kd, .slice RA l.length rc, .int .i64 A, .int .i64 R, .int .i64 N, .int .i64 D, .slice VA vs.length vc, .int .i64 er] 27)) (.cells #[.int .i64 kd, .slice RB l.length rd, .int .i64 A, .int .i64 R, .int .i64 N, .int .i64 D, .slice VB vs.length vd, .int .i64 er] 27))).below hb1
  have rd_v1 := (hV.below (bA (bA (b0 _) (.cells #[.int .i64 kd, .slice RA l.length rc, .int .i64 A, .int .i64 R, .int .i64 N, .int .i64 D, .slice VA vs.length vc, .int .i64 er] 27)) (.cells #[.int .i64 kd, .slice RB l.length rd, .int .i64 A, .int .i64 R, .int .i64 N, .int .i64 D, .slice VB vs.length vd, .int .i64 er] 27))).below hb1
  have rd_u1 := (hU.below (bA (bA (b0 _) (.cells #[.int .i64 kd, .slice RA l.length rc, .int .i64 A, .int .i64 R, .int .i64 N, .int .i64 D, .slice VA vs.length vc, .int .i64 er] 27)) (.cells #[.int .i64 kd, .slice RB l.length rd, .int .i64 A, .int .i64 R, .int .i64 N, .int .i64 D, .slice VB vs.length vd, .int .i64 er] 27))).below hb1
  have hB1 := bB (bA (bA (b0 w) (.cells #[.int .i64 kd, .slice RA l.length rc, .int .i64 A, .int .i64 R, .int .i64 N, .int .i64 D, .slice VA vs.length vc, .int .i64 er] 27)) (.cells #[.int .i64 kd, .slice RB l.length rd, .int .i64 A, .int .i64 R, .int .i64 N, .int .i64 D, .slice VB vs.length vd, .int .i64 er] 27)) hb1
  obtain ⟨zs_a, zs_b, ls1⟩ := rcell f_s1
  obtain ⟨zt_a, zt_b, lt1⟩ := rcell f_t1
  go_wp2_with fail
  refine (c2 _ rd_v1 rd_u1).mono ?_
  rintro e w2 ⟨rfl, hb2⟩
  have f_s2 := kp hb2 (f_s1)
  have f_t2 := kp hb2 (f_t1)
  have rd_l2 := rd_l1.below hb2
  have rd_m2 := rd_m1.below hb2
  have rd_v2 := rd_v1.below hb2
  have rd_u2 := rd_u1.below hb2
  have hB2 := bB hB1 hb2
  clear zs_a zs_b zt_a zt_b
  obtain ⟨zs_a, zs_b, ls2⟩ := rcell f_s2
  obtain ⟨zt_a, zt_b, lt2⟩ := rcell f_t2
  go_wp2
  go_ret
  exact ⟨rfl, hB2⟩
end

theorem eqIn_nilY (d : Nat) (a : Option Addr) (l c : Nat) (w : World) : (Op.equalIn (d + 1) 30 (.slice a l c) (.slice none 0 0)).run Tryz.prog w = .ok a.isNone w := by
  cases a <;> simp [Op.equalIn, run_underlying Tryz.underlying30]
theorem eq_nilY (a : Option Addr) (l c : Nat) (w : World) : (Op.equal 30 (.slice a l c) (.slice none 0 0)).run Tryz.prog w = .ok a.isNone w := eqIn_nilY 9999 a l c w
theorem eql_nilY (a : Option Addr) (l c : Nat) (w : World) : (binOp .eql 30 (.slice a l c) (.slice none 0 0)).run Tryz.prog w = .ok (.bool a.isNone) w := by
  simp [binOp, eq_nilY]
set_option maxRecDepth 100000 in
theorem clone_bytes (X : Option Addr) (C n : Nat) (ys : List Int) (hny : n = ys.length) (h4 : ys.length ≤ 100000) (w : World) (hT : InC .u8 w X ys) :
    Calls Tryz.prog 41 #[.slice X n C] w fun e w' => ∃ A c n', e = .returned (.slice A n' c) ∧ Hid (n' = ys.length) ∧ YR w' A c ys ∧ Below w.heap.size w w' := by
  subst hny
  have hq := eql_nilY
  rcases X with _ | ad
  · obtain rfl : ys = [] := by
      by_cases h0 : 0 < ys.length
      · obtain ⟨ad, e, _⟩ := hT h0
        cases e
      · exact List.eq_nil_of_length_eq_zero (by omega)
    go_enter Tryz.func41, Tryz.ntmps41
    go_wp2
    go_ret
    exact ⟨none, 0, 0, rfl, hide rfl, CR.nil _ _ _ (by decide), b0 w⟩
  · have hlen : ([] : List Int).length + ys.length ≤ 1048576 := by simp; omega
    go_enter Tryz.func41, Tryz.ntmps41
    go_wp2_with (at_builtin; refine wpList_pushC rfl _ _ 30 rfl 1 Tryz.underlying30 byte_info (by decide) w.heap.size _ [] ys (some ad) C rfl rfl (OwnC.fresh w) (hT.below (bA (b0 w) _)) hlen (by simp) ?_; intro v1 w1 ho1 hb1 hs1)
    go_ret
    rw [List.nil_append] at ho1
    obtain ⟨A, c, rfl, hr⟩ := ho1.cr
    exact ⟨A, c, _, rfl, hide rfl, hr, hb1 _ (bA (b0 w) _)⟩
theorem min3000 (n : Nat) : (if (3000 : Int) < (n : Int) then (3000 : Int) else (n : Int)) = ((min 3000 n : Nat) : Int) := by split <;> omega
set_option maxRecDepth 100000 in
theorem few_in (X : Option Addr) (C n k : Nat) (ys : List Int) (hk : (if (3000 : Int) < (n : Int) then (3000 : Int) else (n : Int)) = (k : Int)) (hn : n ≤ C) (hkx : k = ys.length) (w : World) (hT : InC .u8 w X ys) :
    Calls Tryz.prog 16 #[.slice X n C] w fun e w' => ∃ A c n', e = .returned (.slice A n' c) ∧ Hid (n' = ys.length) ∧ YR w' A c ys ∧ Below w.heap.size w w' := by
  have hkn : k ≤ n := by split at hk <;> omega
  have hk3 : k ≤ 3000 := by split at hk <;> omega
  have c1 := fun (c : Nat) w hT => clone_bytes X c k ys hkx (by omega) w hT
  have HK := hide hkx
  clear hkx
  go_enter Tryz.func16, Tryz.ntmps16
  go_wp2_with fail
  refine (c1 _ _ hT).mono ?_
  rintro e w1 ⟨A, c, n', rfl, hn', hy, hb⟩
  go_wp2
  go_ret
  exact ⟨A, c, n', rfl, hn', hy, hb⟩
theorem law12_few (X : Option Addr) (C : Nat) (xs : List Int) (hn : xs.length ≤ C) (w : World) (hX : InC .u8 w X xs) :
    Calls Tryz.prog 16 #[.slice X xs.length C] w fun e w' => ∃ A c n', e = .returned (.slice A n' c) ∧ Hid (n' = (xs.take 3000).length) ∧ YR w' A c (xs.take 3000) ∧ Below w.heap.size w w' :=
  few_in X C xs.length (min 3000 xs.length) (xs.take 3000) (min3000 _) hn (by rw [List.length_take]) w (hX.take 3000)
end Go.Proofs.YtmpfbkeamihjbaaGreat
