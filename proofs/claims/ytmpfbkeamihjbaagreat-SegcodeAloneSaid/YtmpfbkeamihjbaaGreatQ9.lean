/- slices.Equal of runs and of int64, seg.Same, where they are equal; slices.Clone of bytes, yearbooklaw12.few at this program. slices.Grow of nil, slices.Concat of bytes at this program. slices.Concat of bytes at this program. -/
import Derived.Test.YtmpfbkeamihjbaaGreatQ7
import Derived.Test.YtmpfbkeamihjbaaGreatQ8
import Derived.Lib.AppendZerosOnto
set_option linter.unusedSimpArgs false
set_option linter.unusedVariables false
namespace Go.Proofs.YtmpfbkeamihjbaaGreat
open Go.RowKit
attribute [local go_sem] Oper.semAt_some

set_option maxRecDepth 100000 in
set_option maxHeartbeats 1000000 in
theorem equal_long (A B : Option Addr) (c d : Nat) (xs : List Int) (w : World) (hR : VR w A c xs) (hS : VR w B d xs) :
    Calls Tryz.prog 51 #[.slice A xs.length c, .slice B xs.length d] w fun e w' => e = .returned (.bool true) ∧ Below w.heap.size w w' := by
  by_cases h0 : 0 < xs.length
  · obtain ⟨g, o, cur, rfl, hg, hc⟩ := hR.mem h0
    obtain ⟨g', o', cur', rfl, hg', hc'⟩ := hS.mem h0
    have HC := hide hc
    have HC' := hide hc'
    have hcap := hR.cap
    have htop := hR.top
    clear hc hc' hR hS
    go_enter Tryz.func51, Tryz.ntmps51
    obtain ⟨zg_a, zg_b, lg0⟩ := rcell hg
    obtain ⟨zh_a, zh_b, lh0⟩ := rcell hg'
    go_wp2_with fail
    go_loopw [13] (fun vi wr => ∃ k : Nat, vi = .int .i64 k ∧ k ≤ xs.length ∧ wr.heap[g]? = some (.cells cur 2 (0, 0)) ∧ wr.heap[g']? = some (.cells cur' 2 (0, 0)) ∧ Below w.heap.size w wr) (fun vi _ => xs.length - (intOf vi).toNat)
    case atStart => exact ⟨0, rfl, by omega, (hg), (hg'), (b0 w)⟩
    case round =>
      obtain ⟨k, rfl, hk, j1, j2, hb⟩ := hrel
      by_cases hlt : k < xs.length
      · have q1 := HC.out k hlt
        have q2 := HC'.out k hlt
        generalize xs[k] = x at *
        have hxx : (x != x) = false := by simp
        obtain ⟨zg_a, zg_b, lg1⟩ := rcell j1
        obtain ⟨zh_a, zh_b, lh2⟩ := rcell j2
        go_wp2_with fail
        refine Abs.wp_region_abs (Abs.cls0 _) [0, 1, 2, 3, 4, 5, 6, 7, 8] (by kernel_rfl) (by kernel_rfl) (Below.refl _ _).drew ?_
        repeat (first | (refine Abs.step_pure rfl rfl (fun K hK => ?_); go_simp; (try go_bits); (first | refine hK _ _ ?_ | (simp only [↓IntWalk.iteOmega]; go_simp; (try go_bits); refine hK _ _ ?_)); clear hK K) | (refine Abs.step_load (v := ?_) rfl rfl (by kernel_rfl) rfl (fun w0 hI => ?_) (fun K hK => ?_); rotate_left; (· have z0 := (rcell (kp hI (j1))).1; have z1 := (rcell (kp hI (j2))).1; go_simp; rfl); (simp only [Act.put, List.setIfInBounds_toArray, List.set_cons_zero, List.set_cons_succ]; refine hK _ _ ?_; clear hK K)) | (refine Abs.step_skip rfl rfl (fun K hK => ?_); (simp only [Act.put, List.setIfInBounds_toArray, List.set_cons_zero, List.set_cons_succ]; refine hK _ _ ?_; clear hK K)))
        intro w4 hb4 hx0 hx1 hx2
        clear hx0 hx1 hx2
        simp only [Abs.T_setF, Abs.T_addA, Abs.T_push, Abs.T_start]
        have f_g4 := kp hb4 (j1)
        have f_h4 := kp hb4 (j2)
        have hB4 := bB hb hb4
        clear zg_a zg_b zh_a zh_b
        obtain ⟨zg_a, zg_b, lg4⟩ := rcell f_g4
        obtain ⟨zh_a, zh_b, lh4⟩ := rcell f_h4
        go_wp2
        go_roundw
        case rel => exact ⟨k + 1, by go_num, by omega, (f_g4), (f_h4), hB4⟩
        case measure => simp [intOf]; omega
      · obtain rfl : k = xs.length := by omega
        go_wp2
        go_ret
        exact ⟨rfl, hb⟩
  · obtain rfl : xs = [] := List.eq_nil_of_length_eq_zero (by omega)
    clear hR hS
    go_enter Tryz.func51, Tryz.ntmps51
    go_wp2
    go_loopw [13] (fun vi wr => vi = .int .i64 0 ∧ Below w.heap.size w wr) (fun _ _ => 0)
    case atStart => exact ⟨rfl, b0 w⟩
    case round =>
      obtain ⟨rfl, hb⟩ := hrel
      go_wp2
      go_ret
      exact ⟨rfl, hb⟩

set_option maxRecDepth 100000 in
set_option maxHeartbeats 1000000 in
theorem equal_runs (A B : Option Addr) (c d : Nat) (xs : List Rn) (w : World) (hR : RR w A c xs) (hS : RR w B d xs) :
    Calls Tryz.prog 50 #[.slice A xs.length c, .slice B xs.length d] w fun e w' => e = .returned (.bool true) ∧ Below w.heap.size w w' := by
  by_cases h0 : 0 < xs.length
  · obtain ⟨g, o, cur, rfl, hg, hc⟩ := hR.mem h0
    obtain ⟨g', o', cur', rfl, hg', hc'⟩ := hS.mem h0
    have HC := hide hc
    have HC' := hide hc'
    have hcap := hR.cap
    have htop := hR.top
    clear hc hc' hR hS
    go_enter Tryz.func50, Tryz.ntmps50
    obtain ⟨zg_a, zg_b, lg0⟩ := rcell hg
    obtain ⟨zh_a, zh_b, lh0⟩ := rcell hg'
    go_wp2_with fail
    go_loopw [13] (fun vi wr => ∃ k : Nat, vi = .int .i64 k ∧ k ≤ xs.length ∧ wr.heap[g]? = some (.cells cur 46 (0, 0)) ∧ wr.heap[g']? = some (.cells cur' 46 (0, 0)) ∧ Below w.heap.size w wr) (fun vi _ => xs.length - (intOf vi).toNat)
    case atStart => exact ⟨0, rfl, by omega, (hg), (hg'), (b0 w)⟩
    case round =>
      obtain ⟨k, rfl, hk, j1, j2, hb⟩ := hrel
      by_cases hlt : k < xs.length
      · obtain ⟨q1, q2, q3⟩ := HC.out k hlt
        obtain ⟨p1, p2, p3⟩ := HC'.out k hlt
        generalize xs[k] = x at *
        obtain ⟨zg_a, zg_b, lg1⟩ := rcell j1
        obtain ⟨zh_a, zh_b, lh2⟩ := rcell j2
        go_wp2_with fail
        refine Abs.wp_region_abs (Abs.cls0 _) [0, 1, 2, 3, 4, 5, 6, 7, 8] (by kernel_rfl) (by kernel_rfl) (Below.refl _ _).drew ?_
        repeat (first | (refine Abs.step_pure rfl rfl (fun K hK => ?_); go_simp; (try go_bits); (first | refine hK _ _ ?_ | (simp only [↓IntWalk.iteOmega]; go_simp; (try go_bits); refine hK _ _ ?_)); clear hK K) | (refine Abs.step_load (v := ?_) rfl rfl (by kernel_rfl) rfl (fun w0 hI => ?_) (fun K hK => ?_); rotate_left; (· have z0 := (rcell (kp hI (j1))).1; have z1 := (rcell (kp hI (j2))).1; go_simp; rfl); (simp only [Act.put, List.setIfInBounds_toArray, List.set_cons_zero, List.set_cons_succ]; refine hK _ _ ?_; clear hK K)) | (refine Abs.step_skip rfl rfl (fun K hK => ?_); (simp only [Act.put, List.setIfInBounds_toArray, List.set_cons_zero, List.set_cons_succ]; refine hK _ _ ?_; clear hK K)))
        intro w4 hb4 hx0 hx1 hx2
        clear hx0 hx1 hx2
        simp only [Abs.T_setF, Abs.T_addA, Abs.T_push, Abs.T_start]
        have f_g4 := kp hb4 (j1)
        have f_h4 := kp hb4 (j2)
        have hB4 := bB hb hb4
        clear zg_a zg_b zh_a zh_b
        obtain ⟨zg_a, zg_b, lg4⟩ := rcell f_g4
        obtain ⟨zh_a, zh_b, lh4⟩ := rcell f_h4
        go_wp2
        go_roundw
        case rel => exact ⟨k + 1, by go_num, by omega, (f_g4), (f_h4), hB4⟩
        case measure => simp [intOf]; omega
      · obtain rfl : k = xs.length := by omega
        go_wp2
        go_ret
        exact ⟨rfl, hb⟩
  · obtain rfl : xs = [] := List.eq_nil_of_length_eq_zero (by omega)
    clear hR hS
    go_enter Tryz.func50, Tryz.ntmps50
    go_wp2
    go_loopw [13] (fun vi wr => vi = .int .i64 0 ∧ Below w.heap.size w wr) (fun _ _ => 0)
    case atStart => exact ⟨rfl, b0 w⟩
    case round =>
      obtain ⟨rfl, hb⟩ := hrel
      go_wp2
      go_ret
      exact ⟨rfl, hb⟩

section
variable (RA RB VA VB : Option Addr) (rc rd vc vd : Nat) (l : List Rn) (vs : List Int) (kd A R N D er : Int) (w : World) (hR : RR w RA rc l) (hS : RR w RB rd l) (hV : VR w VA vc vs) (hU : VR w VB vd vs)
set_option maxRecDepth 100000 in
set_option maxHeartbeats 2000000 in
include hR hS hV hU in
theorem seg_Same_yes : Calls Tryz.prog 22 #[.agg #[.int .i64 kd, .slice RA l.length rc, .int .i64 A, .int .i64 R, .int .i64 N, .int .i64 D, .slice VA vs.length vc, .int .i64 er], .agg #[.int .i64 kd, .slice RB l.length rd, .int .i64 A, .int .i64 R, .int .i64 N, .int .i64 D, .slice VB vs.length vd, .int .i64 er]] w fun e w' => e = .returned (.bool true) ∧ Below w.heap.size w w' := by
  have c1 := fun w hR hS => equal_runs RA RB rc rd l w hR hS
  have c2 := fun w hV hU => equal_long VA VB vc vd vs w hV hU
  go_enter Tryz.func22, Tryz.ntmps22
  go_wp2_with fail
  refine (c1 _ (hR.below (bA (bA (b0 _) (.cells #[.int .i64 kd, .slice RA l.length rc, .int .i64 A, .int .i64 R, .int .i64 N, .int .i64 D, .slice VA vs.length vc, .int .i64 er] 27)) (.cells #[.int .i64 kd, .slice RB l.length rd, .int .i64 A, .int .i64 R, .int .i64 N, .int .i64 D, .slice VB vs.length vd, .int .i64 er] 27))) (hS.below (bA (bA (b0 _) (.cells #[.int .i64 kd, .slice RA l.length rc, .int .i64 A, .int .i64 R, .int .i64 N, .int .i64 D, .slice VA vs.length vc, .int .i64 er] 27)) (.cells #[.int .i64 kd, .slice RB l.length rd, .int .i64 A, .int .i64 R, .int .i64 N, .int .i64 D, .slice VB vs.length vd, .int .i64 er] 27)))).mono ?_
  rintro e w1 ⟨rfl, hb1⟩
  have f_s1 := kp hb1 (ka (na w #[.int .i64 kd, .slice RA l.length rc, .int .i64 A, .int .i64 R, .int .i64 N, .int .i64 D, .slice VA vs.length vc, .int .i64 er] 27) (.cells #[.int .i64 kd, .slice RB l.length rd, .int .i64 A, .int .i64 R, .int .i64 N, .int .i64 D, .slice VB vs.length vd, .int .i64 er] 27))
  have f_t1 := kp hb1 (na1 w (.cells #[.int .i64 kd, .slice RA l.length rc, .int .i64 A, .int .i64 R, .int .i64 N, .int .i64 D, .slice VA vs.length vc, .int .i64 er] 27) #[.int .i64 kd, .slice RB l.length rd, .int .i64 A, .int .i64 R, .int .i64 N, .int .i64 D, .slice VB vs.length vd, .int .i64 er] 27)
  have rd_l1 := (hR.below (bA (bA (b0 _) (.cells #[.int .i64 kd, .slice RA l.length rc, .int .i64 A, .int .i64 R, .int .i64 N, .int .i64 D, .slice VA vs.length vc, .int .i64 er] 27)) (.cells #[.int .i64 kd, .slice RB l.length rd, .int .i64 A, .int .i64 R, .int .i64 N, .int .i64 D, .slice VB vs.length vd, .int .i64 er] 27))).below hb1
  have rd_m1 := (hS.below (bA (bA (b0 _) (.cells #[.int .i64 kd, .slice RA l.length rc, .int .i64 A, .int .i64 R, .int .i64 N, .int .i64 D, .slice VA vs.length vc, .int .i64 er] 27)) (.cells #[.int .i64 kd, .slice RB l.length rd, .int .i64 A, .int .i64 R, .int .i64 N, .int .i64 D, .slice VB vs.length vd, .int .i64 er] 27))).below hb1
  have rd_v1 := (hV.below (bA (bA (b0 _) (.cells #[.int .i64 kd, .slice RA l.length rc, .int .i64 A, .int .i64 R, .int .i64 N, .int .i64 D, .slice VA vs.length vc, .int .i64 er] 27)) (.cells #[.int .i64 kd, .slice RB l.length rd, .int .i64 A, .int .i64 R, .int .i64 N, .int .i64 D, .slice VB vs.length vd, .int .i64 er] 27))).below hb1
  have rd_u1 := (hU.below (bA (bA (b0 _) (.cells #[.int .i64 kd, .slice RA l.length rc, .int .i64 A, .int .i64 R, .int .i64 N, .int .i64 D, .slice VA vs.length vc, .int .i64 er] 27)) (.cells #[.int .i64 kd, .slice RB l.length rd, .int .i64 A, .int .i64 R, .int .i64 N, .int .i64 D, .slice VB vs.length vd, .int .i64 er] 27))).below hb1
  have hB1 := bB (bA (bA (b0 w) (.cells #[.int .i64 kd, .slice RA l.length rc, .int .i64 A, .int .i64 R, .int .i64 N, .int .i64 D, .slice VA vs.length vc, .int .i64 er] 27)) (.cells #[.int .i64 kd, .slice RB l.length rd, .int .i64 A, .int .i64 R, .int .i64 N, .int .i64 D, .slice VB vs.length vd, .int .i64 er] 27)) hb1
  obtain ⟨zs_a, zs_b, ls1⟩ := rcell f_s1
  obtain ⟨zt_a, zt_b, lt1⟩ := rcell f_t1
  go_wp2_with fail
  refine (c2 _ rd_v1 rd_u1).mono ?_
  rintro e w2 ⟨rfl, hb2⟩
  have f_s2 := kp hb2 (f_s1)
  have f_t2 := kp hb2 (f_t1)
  have rd_l2 := rd_l1.below hb2
  have rd_m2 := rd_m1.below hb2
  have rd_v2 := rd_v1.below hb2
  have rd_u2 := rd_u1.below hb2
  have hB2 := bB hB1 hb2
  clear zs_a zs_b zt_a zt_b
  obtain ⟨zs_a, zs_b, ls2⟩ := rcell f_s2
  obtain ⟨zt_a, zt_b, lt2⟩ := rcell f_t2
  go_wp2
  go_ret
  exact ⟨rfl, hB2⟩
end

theorem eqIn_nilY (d : Nat) (a : Option Addr) (l c : Nat) (w : World) : (Op.equalIn (d + 1) 30 (.slice a l c) (.slice none 0 0)).run Tryz.prog w = .ok a.isNone w := by
  cases a <;> simp [Op.equalIn, run_underlying Tryz.underlying30]
theorem eq_nilY (a : Option Addr) (l c : Nat) (w : World) : (Op.equal 30 (.slice a l c) (.slice none 0 0)).run Tryz.prog w = .ok a.isNone w := eqIn_nilY 9999 a l c w
theorem eql_nilY (a : Option Addr) (l c : Nat) (w : World) : (binOp .eql 30 (.slice a l c) (.slice none 0 0)).run Tryz.prog w = .ok (.bool a.isNone) w := by
  simp [binOp, eq_nilY]
set_option maxRecDepth 100000 in
theorem clone_bytes (X : Option Addr) (C n : Nat) (ys : List Int) (hny : n = ys.length) (h4 : ys.length ≤ 100000) (w : World) (hT : InC .u8 w X ys) :
    Calls Tryz.prog 41 #[.slice X n C] w fun e w' => ∃ A c n', e = .returned (.slice A n' c) ∧ Hid (n' = ys.length) ∧ YR w' A c ys ∧ Below w.heap.size w w' := by
  subst hny
  have hq := eql_nilY
  rcases X with _ | ad
  · obtain rfl : ys = [] := by
      by_cases h0 : 0 < ys.length
      · obtain ⟨ad, e, _⟩ := hT h0
        cases e
      · exact List.eq_nil_of_length_eq_zero (by omega)
    go_enter Tryz.func41, Tryz.ntmps41
    go_wp2
    go_ret
    exact ⟨none, 0, 0, rfl, hide rfl, CR.nil _ _ _ (by decide), b0 w⟩
  · have hlen : ([] : List Int).length + ys.length ≤ 1048576 := by simp; omega
    go_enter Tryz.func41, Tryz.ntmps41
    go_wp2_with (at_builtin; refine wpList_pushC rfl _ _ 30 rfl 1 Tryz.underlying30 byte_info (by decide) w.heap.size _ [] ys (some ad) C rfl rfl (OwnC.fresh w) (hT.below (bA (b0 w) _)) hlen (by simp) ?_; intro v1 w1 ho1 hb1 hs1)
    go_ret
    rw [List.nil_append] at ho1
    obtain ⟨A, c, rfl, hr⟩ := ho1.cr
    exact ⟨A, c, _, rfl, hide rfl, hr, hb1 _ (bA (b0 w) _)⟩
theorem min3000 (n : Nat) : (if (3000 : Int) < (n : Int) then (3000 : Int) else (n : Int)) = ((min 3000 n : Nat) : Int) := by split <;> omega
set_option maxRecDepth 100000 in
theorem few_in (X : Option Addr) (C n k : Nat) (ys : List Int) (hk : (if (3000 : Int) < (n : Int) then (3000 : Int) else (n : Int)) = (k : Int)) (hn : n ≤ C) (hkx : k = ys.length) (w : World) (hT : InC .u8 w X ys) :
    Calls Tryz.prog 16 #[.slice X n C] w fun e w' => ∃ A c n', e = .returned (.slice A n' c) ∧ Hid (n' = ys.length) ∧ YR w' A c ys ∧ Below w.heap.size w w' := by
  have hkn : k ≤ n := by split at hk <;> omega
  have hk3 : k ≤ 3000 := by split at hk <;> omega
  have c1 := fun (c : Nat) w hT => clone_bytes X c k ys hkx (by omega) w hT
  have HK := hide hkx
  clear hkx
  go_enter Tryz.func16, Tryz.ntmps16
  go_wp2_with fail
  refine (c1 _ _ hT).mono ?_
  rintro e w1 ⟨A, c, n', rfl, hn', hy, hb⟩
  go_wp2
  go_ret
  exact ⟨A, c, n', rfl, hn', hy, hb⟩
theorem law12_few (X : Option Addr) (C : Nat) (xs : List Int) (hn : xs.length ≤ C) (w : World) (hX : InC .u8 w X xs) :
    Calls Tryz.prog 16 #[.slice X xs.length C] w fun e w' => ∃ A c n', e = .returned (.slice A n' c) ∧ Hid (n' = (xs.take 3000).length) ∧ YR w' A c (xs.take 3000) ∧ Below w.heap.size w w' :=
  few_in X C xs.length (min 3000 xs.length) (xs.take 3000) (min3000 _) hn (by rw [List.length_take]) w (hX.take 3000)
end Go.Proofs.YtmpfbkeamihjbaaGreat

namespace Go.Proofs.YtmpfbkeamihjbaaGreat
open Go.RowKit
attribute [local go_sem] Oper.semAt_some

theorem zeroCells_size (z : Array Value) (n : Nat) : (Builtin.zeroCells z n).size = n * z.size := by simp [Builtin.zeroCells]
set_option maxRecDepth 100000 in
/-- an append of a make onto nil -/
theorem wpList_growZ {ops : Array Oper} {rest : List Oper} {o : Oper} {a : Act} {w : World} {Q : Exit → Act → World → Prop} (hgd : o.guard = none) (s x : Operand)
    (ho : o.op = .call { callee := .builtin .append, args := #[s, x], argTypes := #[30, 3] }) (n : Nat) (hs : a.eval s = .slice none 0 0) (hx : a.eval x = .int .i64 (n : Int)) (h0 : 0 < n) (hn : n ≤ 1048576)
    (h : ∀ G w', n ≤ G → OwnC .u8 5 w.heap.size w' (.slice (some ⟨w.heap.size, 0, none⟩) 0 G) [] → Below w.heap.size w w' → wpList Tryz.prog ops Q rest (a.put o.dst (.slice (some ⟨w.heap.size, 0, none⟩) n G)) w') : wpList Tryz.prog ops Q (o :: rest) a w := by
  obtain ⟨i0, hi0, hz0, hz1, hz2⟩ := info_parts byte_info
  have hold : (Builtin.firstCells i0.size 0 (.slice none 0 0)).run Tryz.prog w.drew = .ok (([] : List Value).toArray) w.drew := run_firstCells_none w.drew i0.size 0 0 0
  have hfit : Builtin.nextslicecap (0 + n) 0 * i0.bytes ≤ 281474976710656 := growslice_fits (by omega) (by rw [hz2]; omega)
  have hrun := Lib.run_append_grow_zeros w 30 3 o.type 5 i0 (.int .u8 0) .i64 .i64 Tryz.underlying30 Tryz.underlying3 hi0 hz0 none 0 0 [] hold n h0 (by rw [hz1]; decide) (by omega) (by omega) (by rw [hz2]; omega) hfit
  have hG := grownCap_ge w (0 + n) 0 5
  have hGm := grownCap_le_maxLen w (0 + n) 0 5 (by unfold maxLen; omega)
  rw [Nat.zero_add] at hrun hG hGm
  generalize grownCap w n 0 5 = G at *
  refine wpList_plain hgd fun _ hK => ?_
  unfold Oper.wp execOp
  simp only [ho, resolve, invoke, builtin, Sem.run_bind, Sem.run_pure, Result.andThen_ok, List.map_toArray, List.map_cons, List.map_nil, hs, hx]
  rw [hrun]
  refine hK _ _ (h G _ hG ?_ ?_)
  · refine ⟨rfl, .inr ⟨w.heap.size, G, _, rfl, Nat.le_refl _, World.alloc_heap_new w.drew _, Nat.zero_le _, hGm, ?_, ?_⟩⟩
    · have e1 : (Value.int IntKind.u8 0).cells.size = 1 := rfl
      simp only [Array.size_append, zeroCells_size, e1, Nat.mul_one, List.size_toArray, List.length_nil, Nat.zero_add]
      omega
    · simp [cvals]
  · exact (Below.refl w.heap.size w).drew.alloc (Nat.le_refl _) _

set_option maxRecDepth 100000 in
theorem grow_nil (n : Nat) (hn : n ≤ 1048576) (w : World) :
    Calls Tryz.prog 53 #[.slice none 0 0, .int .i64 (n : Int)] w fun e w' => ∃ v, e = .returned v ∧ OwnC .u8 5 w.heap.size w' v [] ∧ Below w.heap.size w w' := by
  by_cases h0 : 0 < n
  · have d0 : decide (0 < n) = true := decide_eq_true h0
    go_enter Tryz.func53, Tryz.ntmps53
    go_wp2_with (at_builtin; refine wpList_growZ rfl _ _ rfl n rfl rfl h0 hn ?_; intro G w1 hG ho hb)
    go_ret
    exact ⟨_, rfl, ho, hb⟩
  · obtain rfl : n = 0 := by omega
    go_enter Tryz.func53, Tryz.ntmps53
    go_wp2
    go_ret
    exact ⟨_, rfl, OwnC.nil _ _, b0 w⟩
end Go.Proofs.YtmpfbkeamihjbaaGreat

namespace Go.Proofs.YtmpfbkeamihjbaaGreat
open Go.RowKit
attribute [local go_sem] Oper.semAt_some

/-- a slice of bytes, and what it holds -/
structure Pt where
  A : Option Addr
  c : Nat
  xs : List Int
def ptB : Pt := ⟨none, 0, []⟩
def pt (ps : List Pt) (i : Nat) : Pt := ps.getD i ptB
theorem pt_eq {ps : List Pt} {i : Nat} (h : i < ps.length) : ps[i] = pt ps i := by unfold pt; simp [h]
def pcat (ps : List Pt) : Nat → List Int
  | 0 => []
  | k + 1 => pcat ps k ++ (pt ps k).xs
theorem pcat_le (ps : List Pt) : ∀ (k n : Nat), k ≤ n → (pcat ps k).length ≤ (pcat ps n).length
  | k, 0, h => by rw [show k = 0 by omega]; exact Nat.le_refl _
  | k, n + 1, h => by
    by_cases e : k = n + 1
    · rw [e]; exact Nat.le_refl _
    · have := pcat_le ps k n (by omega)
      rw [pcat, List.length_append]
      omega

theorem OwnC.weak {kd : IntKind} {T : TypeId} {B B' : Nat} {w : World} {v : Value} {l : List Int} (hB : B ≤ B') (h : OwnC kd T B' w v l) : OwnC kd T B w v l := by
  obtain ⟨h1, h2⟩ := h
  refine ⟨h1, ?_⟩
  rcases h2 with h2 | ⟨g, cap, cur, h3, h4, h5⟩
  · exact .inl h2
  · exact .inr ⟨g, cap, cur, h3, Nat.le_trans hB h4, h5⟩

set_option maxRecDepth 100000 in
set_option maxHeartbeats 4000000 in
theorem concat_bytes (X : Nat) (cur : Array Value) (ps : List Pt) (hcur : ∀ i, i < ps.length → cur[i]? = some (.slice (pt ps i).A (pt ps i).xs.length (pt ps i).c)) (hl : ps.length ≤ 100) (hlen : (pcat ps ps.length).length ≤ 524288) (w : World) (hX : w.heap[X]? = some (.cells cur 30 (0, 0))) (hps : ∀ i, i < ps.length → YR w (pt ps i).A (pt ps i).c (pt ps i).xs) :
    Calls Tryz.prog 24 #[.slice (some ⟨X, 0, none⟩) ps.length ps.length] w fun e w' => ∃ A c n', e = .returned (.slice A n' c) ∧ Hid (n' = (pcat ps ps.length).length) ∧ YR w' A c (pcat ps ps.length) ∧ Below w.heap.size w w' := by
  have HC := hide hcur
  have HPS := hide hps
  have HLEN := hide hlen
  clear hcur hps hlen
  go_enter Tryz.func24, Tryz.ntmps24
  obtain ⟨zx_a, zx_b, lx0⟩ := rcell hX
  go_wp2_with fail
  go_loopw [3, 11] (fun vs vi wr => ∃ k S : Nat, vi = .int .i64 k ∧ vs = .int .i64 (S : Int) ∧ k ≤ ps.length ∧ Hid (S = (pcat ps k).length) ∧ wr.heap[X]? = some (.cells cur 30 (0, 0)) ∧ Below w.heap.size w wr) (fun _ vi _ => ps.length - (intOf vi).toNat)
  case atStart => exact ⟨0, 0, rfl, rfl, by omega, hide rfl, (hX), (b0 w)⟩
  case round =>
    obtain ⟨k, S, rfl, rfl, hk, hS, j1, hb⟩ := hrel
    by_cases hlt : k < ps.length
    · have q1 := HC.out k hlt
      have hS2 : Hid (S + (pt ps k).xs.length = (pcat ps (k + 1)).length) := hide (by rw [hS.out, pcat, List.length_append])
      have hSb : S + (pt ps k).xs.length ≤ 524288 := by
        have := pcat_le ps (k + 1) ps.length (by omega)
        have := HLEN.out
        have := hS2.out
        omega
      generalize (pt ps k).xs.length = n at *
      generalize (pt ps k).A = A at *
      generalize (pt ps k).c = c at *
      have dn : decide ((S : Int) + (n : Int) < 0) = false := by simp; omega
      have hnn : ¬ ((S : Int) + (n : Int) < 0) := by omega
      obtain ⟨zx_a, zx_b, lx1⟩ := rcell j1
      go_wp2
      go_roundw
      case rel => exact ⟨k + 1, S + n, by go_num, by go_num, by omega, hS2, (j1), hb⟩
      case measure => simp [intOf]; omega
    · obtain rfl : k = ps.length := by omega
      have hSb : S ≤ 524288 := by have := HLEN.out; have := hS.out; omega
      obtain ⟨zx_a, zx_b, lx2⟩ := rcell j1
      go_wp2_with fail
      refine (grow_nil S (by omega) wr).mono ?_
      rintro e w2 ⟨v0, rfl, ho2, hb2⟩
      have j2 := kp hb2 j1
      have hB2 := bB hb hb2
      have hw2 : w.heap.size ≤ wr.heap.size := hb.size
      have ho2' : OwnC .u8 5 w.heap.size w2 v0 [] := OwnC.weak hw2 ho2
      clear ho2 hb2 hS
      obtain ⟨zx_a, zx_b, lx3⟩ := rcell j2
      go_wp2_with fail
      go_loopw [6, 27] (fun vo vi wq => ∃ (k : Nat) (v1 : Value), v1 = vo ∧ vi = .int .i64 k ∧ k ≤ ps.length ∧ OwnC .u8 5 w.heap.size wq v1 (pcat ps k) ∧ wq.heap[X]? = some (.cells cur 30 (0, 0)) ∧ Below w.heap.size w wq) (fun _ vi _ => ps.length - (intOf vi).toNat)
      case atStart => exact ⟨0, v0, rfl, rfl, by omega, ho2', (j2), hB2⟩
      case round =>
        obtain ⟨k, v1, rfl, rfl, hk, ho, j3, hb3⟩ := hrel
        by_cases hlt : k < ps.length
        · have q1 := HC.out k hlt
          have hy := ((HPS.out k hlt).below hb3).inC
          have hpc : Hid (pcat ps k ++ (pt ps k).xs = pcat ps (k + 1)) := hide rfl
          have k1 : (pcat ps k).length + (pt ps k).xs.length ≤ 1048576 := by
            have := pcat_le ps (k + 1) ps.length (by omega)
            have := HLEN.out
            have e := congrArg List.length hpc.out
            rw [List.length_append] at e
            omega
          generalize pt ps k = q at *
          obtain ⟨qA, qc, qx⟩ := q
          simp only at q1 hy hpc k1
          have kw : w.heap.size ≤ wr.heap.size := hb3.size
          obtain ⟨zx_a, zx_b, lx4⟩ := rcell j3
          go_wp2_with (at_builtin; refine wpList_pushC rfl _ _ 30 rfl 1 Tryz.underlying30 byte_info (by decide) w.heap.size _ (pcat ps k) qx qA qc rfl rfl ho hy k1 kw ?_; intro v5 w5 ho5 hb5 hs5)
          have hb6 := hb5 wr ((b0 wr).mono kw)
          rw [hpc.out] at ho5
          go_roundw
          case rel => exact ⟨k + 1, v5, rfl, by go_num, by omega, ho5, (hb6.block X (rcell hX).2.2).trans j3, hb3.trans hb6⟩
          case measure => simp [intOf]; omega
        · obtain rfl : k = ps.length := by omega
          obtain ⟨A', c', rfl, hr⟩ := ho.cr
          obtain ⟨n', hn'⟩ : ∃ n', n' = (pcat ps ps.length).length := ⟨_, rfl⟩
          rw [← hn']
          have HN := hide hn'
          clear hn' ho
          go_wp2
          go_ret
          exact ⟨A', c', n', rfl, HN, hr, hb3⟩
end Go.Proofs.YtmpfbkeamihjbaaGreat
