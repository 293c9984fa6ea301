/- Equality of rows at this program, where they are equal: slices.Equal of bytes, yearbookref07.Same, yearbookref11.Same; yearbooklaw12.tilt. yearbooklaw12.wakes at this program: the layer does something. -/
import Derived.Test.YtmpfbkeamihjbaaGreatQ4
import Derived.Test.YtmpfbkeamihjbaaGreatQ6
import Derived.Deep.Slices
set_option linter.unusedSimpArgs false
set_option linter.unusedVariables false
namespace Go.Proofs.YtmpfbkeamihjbaaGreat
open Go.RowKit
attribute [local go_sem] Oper.semAt_some

set_option maxRecDepth 100000 in
set_option maxHeartbeats 1000000 in
theorem equal_byte (A B : Option Addr) (c d : Nat) (xs : List Int) (w : World) (hR : YR w A c xs) (hS : YR w B d xs) :
    Calls Tryz.prog 14 #[.slice A xs.length c, .slice B xs.length d] w fun e w' => e = .returned (.bool true) ∧ Below w.heap.size w w' := by
  by_cases h0 : 0 < xs.length
  · obtain ⟨g, o, cur, rfl, hg, hc⟩ := hR.mem h0
    obtain ⟨g', o', cur', rfl, hg', hc'⟩ := hS.mem h0
    have HC := hide hc
    have HC' := hide hc'
    have hcap := hR.cap
    have htop := hR.top
    clear hc hc' hR hS
    go_enter Tryz.func14, Tryz.ntmps14
    obtain ⟨zg_a, zg_b, lg0⟩ := rcell hg
    obtain ⟨zh_a, zh_b, lh0⟩ := rcell hg'
    go_wp2_with fail
    go_loopw [13] (fun vi wr => ∃ k : Nat, vi = .int .i64 k ∧ k ≤ xs.length ∧ wr.heap[g]? = some (.cells cur 5 (0, 0)) ∧ wr.heap[g']? = some (.cells cur' 5 (0, 0)) ∧ Below w.heap.size w wr) (fun vi _ => xs.length - (intOf vi).toNat)
    case atStart => exact ⟨0, rfl, by omega, (hg), (hg'), (b0 w)⟩
    case round =>
      obtain ⟨k, rfl, hk, j1, j2, hb⟩ := hrel
      by_cases hlt : k < xs.length
      · have q1 := HC.out k hlt
        have q2 := HC'.out k hlt
        generalize xs[k] = x at *
        have hxx : (x != x) = false := by simp
        obtain ⟨zg_a, zg_b, lg1⟩ := rcell j1
        obtain ⟨zh_a, zh_b, lh2⟩ := rcell j2
        go_wp2_with fail
        refine Abs.wp_region_abs (Abs.cls0 _) [0, 1, 2, 3, 4, 5, 6, 7, 8] (by kernel_rfl) (by kernel_rfl) (Below.refl _ _).drew ?_
        repeat (first | (refine Abs.step_pure rfl rfl (fun K hK => ?_); go_simp; (try go_bits); (first | refine hK _ _ ?_ | (simp only [↓IntWalk.iteOmega]; go_simp; (try go_bits); refine hK _ _ ?_)); clear hK K) | (refine Abs.step_load (v := ?_) rfl rfl (by kernel_rfl) rfl (fun w0 hI => ?_) (fun K hK => ?_); rotate_left; (· have z0 := (rcell (kp hI (j1))).1; have z1 := (rcell (kp hI (j2))).1; go_simp; rfl); (simp only [Act.put, List.setIfInBounds_toArray, List.set_cons_zero, List.set_cons_succ]; refine hK _ _ ?_; clear hK K)) | (refine Abs.step_skip rfl rfl (fun K hK => ?_); (simp only [Act.put, List.setIfInBounds_toArray, List.set_cons_zero, List.set_cons_succ]; refine hK _ _ ?_; clear hK K)))
        intro w4 hb4 hx0 hx1 hx2
        clear hx0 hx1 hx2
        simp only [Abs.T_setF, Abs.T_addA, Abs.T_push, Abs.T_start]
        have f_g4 := kp hb4 (j1)
        have f_h4 := kp hb4 (j2)
        have hB4 := bB hb hb4
        clear zg_a zg_b zh_a zh_b
        obtain ⟨zg_a, zg_b, lg4⟩ := rcell f_g4
        obtain ⟨zh_a, zh_b, lh4⟩ := rcell f_h4
        go_wp2
        go_roundw
        case rel => exact ⟨k + 1, by go_num, by omega, (f_g4), (f_h4), hB4⟩
        case measure => simp [intOf]; omega
      · obtain rfl : k = xs.length := by omega
        go_wp2
        go_ret
        exact ⟨rfl, hb⟩
  · obtain rfl : xs = [] := List.eq_nil_of_length_eq_zero (by omega)
    clear hR hS
    go_enter Tryz.func14, Tryz.ntmps14
    go_wp2
    go_loopw [13] (fun vi wr => vi = .int .i64 0 ∧ Below w.heap.size w wr) (fun _ _ => 0)
    case atStart => exact ⟨rfl, b0 w⟩
    case round =>
      obtain ⟨rfl, hb⟩ := hrel
      go_wp2
      go_ret
      exact ⟨rfl, hb⟩

set_option maxRecDepth 100000 in
set_option maxHeartbeats 1000000 in
theorem same_runs (A B : Option Addr) (c d : Nat) (l : List Rn) (h0 : 0 < l.length) (w : World) (hR : RR w A c l) (hS : RR w B d l) :
    Calls Tryz.prog 40 #[.slice A l.length c, .slice B l.length d] w fun e w' => e = .returned (.bool true) ∧ Below w.heap.size w w' := by
  obtain ⟨g, o, cur, rfl, hg, hc⟩ := hR.mem h0
  obtain ⟨g', o', cur', rfl, hg', hc'⟩ := hS.mem h0
  have HC := hide hc
  have HC' := hide hc'
  have hcap := hR.cap
  have htop := hR.top
  clear hc hc' hR hS
  go_enter Tryz.func40, Tryz.ntmps40
  obtain ⟨zg_a, zg_b, lg0⟩ := rcell hg
  obtain ⟨zh_a, zh_b, lh0⟩ := rcell hg'
  go_wp2_with fail
  go_loopw [5] (fun vi wr => ∃ k : Nat, vi = .int .i64 k ∧ k ≤ l.length ∧ wr.heap[g]? = some (.cells cur 46 (0, 0)) ∧ wr.heap[g']? = some (.cells cur' 46 (0, 0)) ∧ Below w.heap.size w wr) (fun vi _ => l.length - (intOf vi).toNat)
  case atStart => exact ⟨0, rfl, by omega, (hg), (hg'), (b0 w)⟩
  case round =>
    obtain ⟨k, rfl, hk, j1, j2, hb⟩ := hrel
    by_cases hlt : k < l.length
    · obtain ⟨q1, q2, q3⟩ := HC.out k hlt
      obtain ⟨p1, p2, p3⟩ := HC'.out k hlt
      generalize l[k] = x at *
      obtain ⟨zg_a, zg_b, lg1⟩ := rcell j1
      obtain ⟨zh_a, zh_b, lh2⟩ := rcell j2
      go_wp2_with fail
      refine Abs.wp_region_abs (Abs.cls0 _) [0, 1, 2, 3, 4, 5, 6, 7, 8] (by kernel_rfl) (by kernel_rfl) (Below.refl _ _).drew ?_
      repeat (first | (refine Abs.step_pure rfl rfl (fun K hK => ?_); go_simp; (try go_bits); (first | refine hK _ _ ?_ | (simp only [↓IntWalk.iteOmega]; go_simp; (try go_bits); refine hK _ _ ?_)); clear hK K) | (refine Abs.step_load (v := ?_) rfl rfl (by kernel_rfl) rfl (fun w0 hI => ?_) (fun K hK => ?_); rotate_left; (· have z0 := (rcell (kp hI (j1))).1; have z1 := (rcell (kp hI (j2))).1; go_simp; rfl); (simp only [Act.put, List.setIfInBounds_toArray, List.set_cons_zero, List.set_cons_succ]; refine hK _ _ ?_; clear hK K)) | (refine Abs.step_skip rfl rfl (fun K hK => ?_); (simp only [Act.put, List.setIfInBounds_toArray, List.set_cons_zero, List.set_cons_succ]; refine hK _ _ ?_; clear hK K)))
      intro w4 hb4 hx0 hx1 hx2
      clear hx0 hx1 hx2
      simp only [Abs.T_setF, Abs.T_addA, Abs.T_push, Abs.T_start]
      have f_g4 := kp hb4 (j1)
      have f_h4 := kp hb4 (j2)
      have hB4 := bB hb hb4
      clear zg_a zg_b zh_a zh_b
      obtain ⟨zg_a, zg_b, lg4⟩ := rcell f_g4
      obtain ⟨zh_a, zh_b, lh4⟩ := rcell f_h4
      go_wp2
      go_roundw
      case rel => exact ⟨k + 1, by go_num, by omega, (f_g4), (f_h4), hB4⟩
      case measure => simp [intOf]; omega
    · obtain rfl : k = l.length := by omega
      go_wp2
      go_ret
      exact ⟨rfl, hb⟩

/-- two segments of a line that are the same -/
theorem same_segs (RA RB VA VB : Option Addr) (rc rd vc vd : Nat) (l : List Rn) (kd A R N D er : Int) (h0 : 0 < l.length) (w : World) (hR : RR w RA rc l) (hS : RR w RB rd l) :
    Calls Tryz.prog 15 #[.agg #[.int .i64 kd, .slice RA l.length rc, .int .i64 A, .int .i64 R, .int .i64 N, .int .i64 D, .slice VA 0 vc, .int .i64 er], .agg #[.int .i64 kd, .slice RB l.length rd, .int .i64 A, .int .i64 R, .int .i64 N, .int .i64 D, .slice VB 0 vd, .int .i64 er]] w fun e w' => e = .returned (.bool true) ∧ Below w.heap.size w w' := by
  have c1 := fun w hR hS => same_runs RA RB rc rd l h0 w hR hS
  go_enter Tryz.func15, Tryz.ntmps15
  go_wp2_with fail
  refine (c1 _ (hR.below (bA (bA (b0 _) (.cells #[.int .i64 kd, .slice RA l.length rc, .int .i64 A, .int .i64 R, .int .i64 N, .int .i64 D, .slice VA 0 vc, .int .i64 er] 27)) (.cells #[.int .i64 kd, .slice RB l.length rd, .int .i64 A, .int .i64 R, .int .i64 N, .int .i64 D, .slice VB 0 vd, .int .i64 er] 27))) (hS.below (bA (bA (b0 _) (.cells #[.int .i64 kd, .slice RA l.length rc, .int .i64 A, .int .i64 R, .int .i64 N, .int .i64 D, .slice VA 0 vc, .int .i64 er] 27)) (.cells #[.int .i64 kd, .slice RB l.length rd, .int .i64 A, .int .i64 R, .int .i64 N, .int .i64 D, .slice VB 0 vd, .int .i64 er] 27)))).mono ?_
  rintro e w1 ⟨rfl, hb1⟩
  have f_s1 := kp hb1 (ka (na w #[.int .i64 kd, .slice RA l.length rc, .int .i64 A, .int .i64 R, .int .i64 N, .int .i64 D, .slice VA 0 vc, .int .i64 er] 27) (.cells #[.int .i64 kd, .slice RB l.length rd, .int .i64 A, .int .i64 R, .int .i64 N, .int .i64 D, .slice VB 0 vd, .int .i64 er] 27))
  have f_t1 := kp hb1 (na1 w (.cells #[.int .i64 kd, .slice RA l.length rc, .int .i64 A, .int .i64 R, .int .i64 N, .int .i64 D, .slice VA 0 vc, .int .i64 er] 27) #[.int .i64 kd, .slice RB l.length rd, .int .i64 A, .int .i64 R, .int .i64 N, .int .i64 D, .slice VB 0 vd, .int .i64 er] 27)
  have rd_l1 := (hR.below (bA (bA (b0 _) (.cells #[.int .i64 kd, .slice RA l.length rc, .int .i64 A, .int .i64 R, .int .i64 N, .int .i64 D, .slice VA 0 vc, .int .i64 er] 27)) (.cells #[.int .i64 kd, .slice RB l.length rd, .int .i64 A, .int .i64 R, .int .i64 N, .int .i64 D, .slice VB 0 vd, .int .i64 er] 27))).below hb1
  have rd_m1 := (hS.below (bA (bA (b0 _) (.cells #[.int .i64 kd, .slice RA l.length rc, .int .i64 A, .int .i64 R, .int .i64 N, .int .i64 D, .slice VA 0 vc, .int .i64 er] 27)) (.cells #[.int .i64 kd, .slice RB l.length rd, .int .i64 A, .int .i64 R, .int .i64 N, .int .i64 D, .slice VB 0 vd, .int .i64 er] 27))).below hb1
  have hB1 := bB (bA (bA (b0 w) (.cells #[.int .i64 kd, .slice RA l.length rc, .int .i64 A, .int .i64 R, .int .i64 N, .int .i64 D, .slice VA 0 vc, .int .i64 er] 27)) (.cells #[.int .i64 kd, .slice RB l.length rd, .int .i64 A, .int .i64 R, .int .i64 N, .int .i64 D, .slice VB 0 vd, .int .i64 er] 27)) hb1
  obtain ⟨zs_a, zs_b, ls1⟩ := rcell f_s1
  obtain ⟨zt_a, zt_b, lt1⟩ := rcell f_t1
  go_wp2_with fail
  refine wp_loop_rounds 1 ?_
  rw [rounds_succ]
  go_wp2
  go_ret
  exact ⟨rfl, hB1⟩

set_option maxRecDepth 100000 in
theorem law_tilt (w : World) :
    Calls Tryz.prog 25 #[] w fun e w' => ∃ g, e = .returned (.agg #[.int .i64 2, .slice (some ⟨g, 0, none⟩) 1 1, .int .i64 5, .int .i64 0, .int .i64 1, .int .i64 2, .slice none 0 0, .int .i64 3]) ∧ RR w' (some ⟨g, 0, none⟩) 1 [⟨10, 2, 4⟩] ∧ Below w.heap.size w w' := by
  go_enter Tryz.func25, Tryz.ntmps25
  go_wp2
  generalize hW : World.alloc _ (.cells #[.int .i64 10, .int .i64 2, .int .i64 4] 46) = W
  have hb : Below w.heap.size w W := by rw [← hW]; exact bA (bA (b0 w) _) _
  have hg : W.heap[w.heap.size]? = some (.cells #[.int .i64 2, .slice (some ⟨w.heap.size + 1, 0, none⟩) 1 1, .int .i64 5, .int .i64 0, .int .i64 1, .int .i64 2, .slice none 0 0, .int .i64 3] 27 (0, 0)) := by rw [← hW]; exact ka (na w _ _) _
  have hr : W.heap[w.heap.size + 1]? = some (.cells #[.int .i64 10, .int .i64 2, .int .i64 4] 46 (0, 0)) := by rw [← hW]; exact na1 w _ _ _
  clear hW
  have zE := (rcell hg).1
  have zL := (rcell hg).2.2
  refine bodyPost_ret (by simp [results, Tryz.results25, go_sem, zE, zL]; try rfl) rfl ?_
  refine ⟨_, rfl, ⟨by simp, by decide, fun _ => ⟨w.heap.size + 1, 0, _, rfl, hr, fun i hi => ?_⟩⟩, hb⟩
  have : i = 0 := by simpa using hi
  subst this
  exact ⟨rfl, rfl, rfl⟩
end Go.Proofs.YtmpfbkeamihjbaaGreat

namespace Go.Proofs.YtmpfbkeamihjbaaGreat
open Go.RowKit
attribute [local go_sem] Oper.semAt_some

def tiltS : Sg := ⟨2, [⟨10, 2, 4⟩], ⟨5, 0, 1, 2⟩, [], 3⟩
def flatS : Sg := ⟨1, [⟨0, 0, 1⟩], ⟨-1, 0, 0, 1⟩, [], 0⟩
def tiltB : List Int := [2, 3, 1, 10, 4, 2, 2, 2, 10]
def flatB : List Int := [9, 1, 0, 1, 0, 1, 1]
def cutB : List Int := [1, 0, 1, 0, 1]
theorem tilt_ok : sgB tiltS = true := by kernel_rfl
theorem tilt_bytes : wSeg tiltS = tiltB := by
  unfold wSeg wRuns wL tiltS tiltB fold
  simp [wRs, wR1, wVs, ub_low]
theorem tilt_read : dSeg tiltB = .ok tiltS := by kernel_rfl
theorem flat_read : pSeg flatB 1 = .ok (flatS, 7) := by kernel_rfl
theorem cut_read : dSeg cutB = .error 6 := by kernel_rfl
theorem byt_tilt : Byt tiltB := by unfold Byt tiltB; simp
theorem byt_flat : Byt flatB := by unfold Byt flatB; simp
theorem byt_cut : Byt cutB := by unfold Byt cutB; simp
theorem lit9 {w : World} {g : Nat} (h : w.heap[g]? = some (.cells #[.int .u8 2, .int .u8 3, .int .u8 1, .int .u8 10, .int .u8 4, .int .u8 2, .int .u8 2, .int .u8 2, .int .u8 10] 5 (0, 0))) : YR w (some ⟨g, 0, none⟩) 9 tiltB :=
  ⟨by decide, by decide, fun _ => ⟨g, 0, _, rfl, h, fun i hi => by
    have : i < 9 := hi
    match i, this with
    | 0, _ | 1, _ | 2, _ | 3, _ | 4, _ | 5, _ | 6, _ | 7, _ | 8, _ => rfl⟩⟩
theorem lit7 {w : World} {g : Nat} (h : w.heap[g]? = some (.cells #[.int .u8 9, .int .u8 1, .int .u8 0, .int .u8 1, .int .u8 0, .int .u8 1, .int .u8 1] 5 (0, 0))) : YR w (some ⟨g, 0, none⟩) 7 flatB :=
  ⟨by decide, by decide, fun _ => ⟨g, 0, _, rfl, h, fun i hi => by
    have : i < 7 := hi
    match i, this with
    | 0, _ | 1, _ | 2, _ | 3, _ | 4, _ | 5, _ | 6, _ => rfl⟩⟩
theorem lit5 {w : World} {g : Nat} (h : w.heap[g]? = some (.cells #[.int .u8 1, .int .u8 0, .int .u8 1, .int .u8 0, .int .u8 1] 5 (0, 0))) : YR w (some ⟨g, 0, none⟩) 5 cutB :=
  ⟨by decide, by decide, fun _ => ⟨g, 0, _, rfl, h, fun i hi => by
    have : i < 5 := hi
    match i, this with
    | 0, _ | 1, _ | 2, _ | 3, _ | 4, _ => rfl⟩⟩

/-- a tilted segment's value -/
def TiltIs (v : Value) (w : World) : Prop := ∃ g, v = .agg #[.int .i64 2, .slice (some ⟨g, 0, none⟩) 1 1, .int .i64 5, .int .i64 0, .int .i64 1, .int .i64 2, .slice none 0 0, .int .i64 3] ∧ RR w (some ⟨g, 0, none⟩) 1 [⟨10, 2, 4⟩]
theorem TiltIs.rr {g : Nat} {w : World} {a b c d e f h : Value} (q : TiltIs (.agg #[a, .slice (some ⟨g, 0, none⟩) 1 1, b, c, d, e, f, h]) w) : RR w (some ⟨g, 0, none⟩) 1 [⟨10, 2, 4⟩] := by
  obtain ⟨g', e, hr⟩ := q
  simp at e
  obtain ⟨_, rfl, _⟩ := e
  exact hr
theorem Cl_TiltIs {v : Value} : Abs.Cl (fun _ => False) (TiltIs v) := by
  intro w w' ⟨g', e, hr⟩ h
  refine ⟨g', e, hr.cap, hr.top, fun hl => ?_⟩
  obtain ⟨g, o, cur, e1, hg, hc⟩ := hr.mem hl
  exact ⟨g, o, cur, e1, (h.block g (Array.getElem?_eq_some_iff.1 hg).1 (fun hf => hf)).trans hg, hc⟩

theorem tilt_is (w : World) : Calls Tryz.prog 25 #[] w fun e w' => ∃ v, e = .returned v ∧ Below w.heap.size w w' ∧ TiltIs v w' :=
  (law_tilt w).mono fun e w' h => by
    obtain ⟨g', he, hr, hb⟩ := h
    exact ⟨_, he, hb, g', rfl, hr⟩
set_option maxRecDepth 100000 in
set_option maxHeartbeats 8000000 in
theorem wakes12 (w : World) : Calls Tryz.prog 8 #[] w fun e w' => e = .returned (.bool true) ∧ Below w.heap.size w w' := by
  have cE : ∀ (g : Nat) (w : World), RR w (some ⟨g, 0, none⟩) 1 [⟨10, 2, 4⟩] → Calls Tryz.prog 10 #[.agg #[.int .i64 2, .slice (some ⟨g, 0, none⟩) 1 1, .int .i64 5, .int .i64 0, .int .i64 1, .int .i64 2, .slice none 0 0, .int .i64 3]] w fun e w' => ∃ A' c', e = .returned (.tuple #[.slice A' 9 c', .int .i64 0]) ∧ YR w' A' c' tiltB ∧ Below w.heap.size w w' := fun g w hR => by
    refine (encode_yes (some ⟨g, 0, none⟩) none 1 0 [⟨10, 2, 4⟩] [] 2 5 0 1 2 3 w hR (CR.nil _ _ _ (by decide)) tilt_ok).mono ?_
    rintro e w' ⟨A', c', n', rfl, hn, hy, hb⟩
    have e1 : n' = 9 := by have := hn.out; rw [show (⟨2, [⟨10, 2, 4⟩], ⟨5, 0, 1, 2⟩, [], 3⟩ : Sg) = tiltS from rfl, tilt_bytes] at this; exact this
    rw [show (⟨2, [⟨10, 2, 4⟩], ⟨5, 0, 1, 2⟩, [], 3⟩ : Sg) = tiltS from rfl, tilt_bytes] at hy
    exact ⟨A', c', by rw [e1], hy, hb⟩
  have cS : ∀ (g : Nat) (w : World), RR w (some ⟨g, 0, none⟩) 1 [⟨10, 2, 4⟩] → Calls Tryz.prog 11 #[.agg #[.int .i64 2, .slice (some ⟨g, 0, none⟩) 1 1, .int .i64 5, .int .i64 0, .int .i64 1, .int .i64 2, .slice none 0 0, .int .i64 3]] w fun e w' => e = .returned (.tuple #[.int .i64 9, .int .i64 0]) ∧ Below w.heap.size w w' := fun g w hR => by
    have := size_yes (some ⟨g, 0, none⟩) none 1 0 [⟨10, 2, 4⟩] [] 2 5 0 1 2 3 w hR (CR.nil _ _ _ (by decide)) tilt_ok
    rw [show (⟨2, [⟨10, 2, 4⟩], ⟨5, 0, 1, 2⟩, [], 3⟩ : Sg) = tiltS from rfl, tilt_bytes] at this
    exact this
  have cD : ∀ (g : Nat) (w : World), YR w (some ⟨g, 0, none⟩) 9 tiltB → Calls Tryz.prog 19 #[.slice (some ⟨g, 0, none⟩) 9 9] w fun e w' => ∃ RA rc VA vc, e = .returned (.tuple #[.agg #[.int .i64 2, .slice RA 1 rc, .int .i64 5, .int .i64 0, .int .i64 1, .int .i64 2, .slice VA 0 vc, .int .i64 3], .int .i64 0]) ∧ RR w' RA rc [⟨10, 2, 4⟩] ∧ Below w.heap.size w w' := fun g w hy => by
    refine (code_Decode (some ⟨g, 0, none⟩) 9 tiltB byt_tilt w hy).mono ?_
    rintro e w' hp
    rw [tilt_read] at hp
    obtain ⟨RA, rc, n, VA, vc, m, rfl, hn, hr, hv, hb⟩ := hp
    obtain ⟨rfl, rfl⟩ := hn.out
    exact ⟨RA, rc, VA, vc, rfl, hr, hb⟩
  have cG : ∀ (g : Nat) (w : World), YR w (some ⟨g, 0, none⟩) 7 flatB → Calls Tryz.prog 17 #[.slice (some ⟨g, 0, none⟩) 7 7, .int .i64 1] w fun e w' => ∃ RA rc VA vc, e = .returned (.tuple #[.agg #[.int .i64 1, .slice RA 1 rc, .int .i64 (-1), .int .i64 0, .int .i64 0, .int .i64 1, .slice VA 0 vc, .int .i64 0], .int .i64 7, .int .i64 0]) ∧ Below w.heap.size w w' := fun g w hy => by
    refine (get_in (some ⟨g, 0, none⟩) 7 flatB byt_flat 1 (by decide) w hy).mono ?_
    rintro e w' hp
    rw [flat_read] at hp
    obtain ⟨RA, rc, n, VA, vc, m, rfl, hn, hr, hv, hb⟩ := hp
    obtain ⟨rfl, rfl, -⟩ := hn.out
    exact ⟨RA, rc, VA, vc, rfl, hb⟩
  have cN : ∀ (g : Nat) (w : World), YR w (some ⟨g, 0, none⟩) 5 cutB → Calls Tryz.prog 19 #[.slice (some ⟨g, 0, none⟩) 5 5] w fun e w' => e = .returned (.tuple #[.agg #[.int .i64 0, .slice none 0 0, .int .i64 0, .int .i64 0, .int .i64 0, .int .i64 0, .slice none 0 0, .int .i64 0], .int .i64 6]) ∧ Below w.heap.size w w' := fun g w hy => by
    refine (code_Decode (some ⟨g, 0, none⟩) 5 cutB byt_cut w hy).mono ?_
    rintro e w' hp
    rw [cut_read] at hp
    exact hp
  have cT := law_tilt
  have cQ := fun (g : Nat) (A : Option Addr) (c : Nat) w hR hS => equal_byte A (some ⟨g, 0, none⟩) c 9 tiltB w hR hS
  have cM := fun (g : Nat) (RA VA : Option Addr) (rc vc : Nat) w hR hS => same_segs RA (some ⟨g, 0, none⟩) VA none rc 1 vc 0 [⟨10, 2, 4⟩] 2 5 0 1 2 3 (by decide) w hR hS
  simp only [show tiltB.length = 9 from rfl, List.length_cons, List.length_nil, Nat.zero_add] at cQ cM
  go_enter Tryz.func8, Tryz.ntmps8
  go_wp2_with fail
  refine (cT _).mono ?_
  rintro e w1 ⟨g1, rfl, t1, hb1⟩
  have hB1 := bB (b0 w) hb1
  go_wp2_with fail
  refine (cE g1 _ t1).mono ?_
  rintro e w2 ⟨A1, c1, rfl, y1, hb2⟩
  have rd_t2 := t1.below hb2
  have hB2 := bB hB1 hb2
  go_wp2_with fail
  refine (cT _).mono ?_
  rintro e w3 ⟨g2, rfl, t2, hb3⟩
  have rd_y3 := y1.below hb3
  have hB3 := bB hB2 hb3
  go_wp2_with fail
  refine (cS g2 _ t2).mono ?_
  rintro e w4 ⟨rfl, hb4⟩
  have rd_y4 := rd_y3.below hb4
  have rd_t4 := t2.below hb4
  have hB4 := bB hB3 hb4
  go_wp2_with fail
  go_wp2_with fail
  refine (cD _ _ (lit9 (na w4 #[.int .u8 2, .int .u8 3, .int .u8 1, .int .u8 10, .int .u8 4, .int .u8 2, .int .u8 2, .int .u8 2, .int .u8 10] 5))).mono ?_
  rintro e w5 ⟨RA2, rc2, VA2, vc2, rfl, r2, hb5⟩
  have f_b95 := kp hb5 (na w4 #[.int .u8 2, .int .u8 3, .int .u8 1, .int .u8 10, .int .u8 4, .int .u8 2, .int .u8 2, .int .u8 2, .int .u8 10] 5)
  have rd_y5 := (rd_y4.below (bA (b0 _) (.cells #[.int .u8 2, .int .u8 3, .int .u8 1, .int .u8 10, .int .u8 4, .int .u8 2, .int .u8 2, .int .u8 2, .int .u8 10] 5))).below hb5
  have hB5 := bB (bA hB4 (.cells #[.int .u8 2, .int .u8 3, .int .u8 1, .int .u8 10, .int .u8 4, .int .u8 2, .int .u8 2, .int .u8 2, .int .u8 10] 5)) hb5
  obtain ⟨zb9_a, zb9_b, lb95⟩ := rcell f_b95
  go_wp2_with fail
  go_wp2_with fail
  refine (cG _ _ (lit7 (na1 w5 (.cells #[.int .i64 2, .slice RA2 1 rc2, .int .i64 5, .int .i64 0, .int .i64 1, .int .i64 2, .slice VA2 0 vc2, .int .i64 3] 27) #[.int .u8 9, .int .u8 1, .int .u8 0, .int .u8 1, .int .u8 0, .int .u8 1, .int .u8 1] 5))).mono ?_
  rintro e w6 ⟨RA3, rc3, VA3, vc3, rfl, hb6⟩
  have f_p6 := kp hb6 (ka (na w5 #[.int .i64 2, .slice RA2 1 rc2, .int .i64 5, .int .i64 0, .int .i64 1, .int .i64 2, .slice VA2 0 vc2, .int .i64 3] 27) (.cells #[.int .u8 9, .int .u8 1, .int .u8 0, .int .u8 1, .int .u8 0, .int .u8 1, .int .u8 1] 5))
  have f_b76 := kp hb6 (na1 w5 (.cells #[.int .i64 2, .slice RA2 1 rc2, .int .i64 5, .int .i64 0, .int .i64 1, .int .i64 2, .slice VA2 0 vc2, .int .i64 3] 27) #[.int .u8 9, .int .u8 1, .int .u8 0, .int .u8 1, .int .u8 0, .int .u8 1, .int .u8 1] 5)
  have rd_y6 := (rd_y5.below (bA (bA (b0 _) (.cells #[.int .i64 2, .slice RA2 1 rc2, .int .i64 5, .int .i64 0, .int .i64 1, .int .i64 2, .slice VA2 0 vc2, .int .i64 3] 27)) (.cells #[.int .u8 9, .int .u8 1, .int .u8 0, .int .u8 1, .int .u8 0, .int .u8 1, .int .u8 1] 5))).below hb6
  have rd_r6 := (r2.below (bA (bA (b0 _) (.cells #[.int .i64 2, .slice RA2 1 rc2, .int .i64 5, .int .i64 0, .int .i64 1, .int .i64 2, .slice VA2 0 vc2, .int .i64 3] 27)) (.cells #[.int .u8 9, .int .u8 1, .int .u8 0, .int .u8 1, .int .u8 0, .int .u8 1, .int .u8 1] 5))).below hb6
  have hB6 := bB (bA (bA hB5 (.cells #[.int .i64 2, .slice RA2 1 rc2, .int .i64 5, .int .i64 0, .int .i64 1, .int .i64 2, .slice VA2 0 vc2, .int .i64 3] 27)) (.cells #[.int .u8 9, .int .u8 1, .int .u8 0, .int .u8 1, .int .u8 0, .int .u8 1, .int .u8 1] 5)) hb6
  clear zb9_a zb9_b
  obtain ⟨zp_a, zp_b, lp6⟩ := rcell f_p6
  obtain ⟨zb7_a, zb7_b, lb76⟩ := rcell f_b76
  go_wp2_with fail
  go_wp2_with fail
  refine (cN _ _ (lit5 (na1 w6 (.cells #[.int .i64 1, .slice RA3 1 rc3, .int .i64 (-1), .int .i64 0, .int .i64 0, .int .i64 1, .slice VA3 0 vc3, .int .i64 0] 27) #[.int .u8 1, .int .u8 0, .int .u8 1, .int .u8 0, .int .u8 1] 5))).mono ?_
  rintro e w7 ⟨rfl, hb7⟩
  have f_p7 := kp hb7 (ka (ka (f_p6) (.cells #[.int .i64 1, .slice RA3 1 rc3, .int .i64 (-1), .int .i64 0, .int .i64 0, .int .i64 1, .slice VA3 0 vc3, .int .i64 0] 27)) (.cells #[.int .u8 1, .int .u8 0, .int .u8 1, .int .u8 0, .int .u8 1] 5))
  have f_q7 := kp hb7 (ka (na w6 #[.int .i64 1, .slice RA3 1 rc3, .int .i64 (-1), .int .i64 0, .int .i64 0, .int .i64 1, .slice VA3 0 vc3, .int .i64 0] 27) (.cells #[.int .u8 1, .int .u8 0, .int .u8 1, .int .u8 0, .int .u8 1] 5))
  have f_b57 := kp hb7 (na1 w6 (.cells #[.int .i64 1, .slice RA3 1 rc3, .int .i64 (-1), .int .i64 0, .int .i64 0, .int .i64 1, .slice VA3 0 vc3, .int .i64 0] 27) #[.int .u8 1, .int .u8 0, .int .u8 1, .int .u8 0, .int .u8 1] 5)
  have rd_y7 := (rd_y6.below (bA (bA (b0 _) (.cells #[.int .i64 1, .slice RA3 1 rc3, .int .i64 (-1), .int .i64 0, .int .i64 0, .int .i64 1, .slice VA3 0 vc3, .int .i64 0] 27)) (.cells #[.int .u8 1, .int .u8 0, .int .u8 1, .int .u8 0, .int .u8 1] 5))).below hb7
  have rd_r7 := (rd_r6.below (bA (bA (b0 _) (.cells #[.int .i64 1, .slice RA3 1 rc3, .int .i64 (-1), .int .i64 0, .int .i64 0, .int .i64 1, .slice VA3 0 vc3, .int .i64 0] 27)) (.cells #[.int .u8 1, .int .u8 0, .int .u8 1, .int .u8 0, .int .u8 1] 5))).below hb7
  have hB7 := bB (bA (bA hB6 (.cells #[.int .i64 1, .slice RA3 1 rc3, .int .i64 (-1), .int .i64 0, .int .i64 0, .int .i64 1, .slice VA3 0 vc3, .int .i64 0] 27)) (.cells #[.int .u8 1, .int .u8 0, .int .u8 1, .int .u8 0, .int .u8 1] 5)) hb7
  clear zb7_a zb7_b zp_a zp_b
  obtain ⟨zp_a, zp_b, lp7⟩ := rcell f_p7
  obtain ⟨zq_a, zq_b, lq7⟩ := rcell f_q7
  obtain ⟨zb5_a, zb5_b, lb57⟩ := rcell f_b57
  go_wp2_with fail
  have f_p8 := (ka (f_p7) (.cells #[.int .i64 0, .slice none 0 0, .int .i64 0, .int .i64 0, .int .i64 0, .int .i64 0, .slice none 0 0, .int .i64 0] 27))
  have f_q8 := (ka (f_q7) (.cells #[.int .i64 0, .slice none 0 0, .int .i64 0, .int .i64 0, .int .i64 0, .int .i64 0, .slice none 0 0, .int .i64 0] 27))
  have f_z8 := (na w7 #[.int .i64 0, .slice none 0 0, .int .i64 0, .int .i64 0, .int .i64 0, .int .i64 0, .slice none 0 0, .int .i64 0] 27)
  have rd_y8 := (rd_y7.below (bA (b0 _) (.cells #[.int .i64 0, .slice none 0 0, .int .i64 0, .int .i64 0, .int .i64 0, .int .i64 0, .slice none 0 0, .int .i64 0] 27)))
  have rd_r8 := (rd_r7.below (bA (b0 _) (.cells #[.int .i64 0, .slice none 0 0, .int .i64 0, .int .i64 0, .int .i64 0, .int .i64 0, .slice none 0 0, .int .i64 0] 27)))
  have hB8 := (bA hB7 (.cells #[.int .i64 0, .slice none 0 0, .int .i64 0, .int .i64 0, .int .i64 0, .int .i64 0, .slice none 0 0, .int .i64 0] 27))
  clear zb5_a zb5_b zp_a zp_b zq_a zq_b
  have lp8 := (rcell f_p8).2.2
  have lq8 := (rcell f_q8).2.2
  have lz8 := (rcell f_z8).2.2
  refine Abs.wp_region_abs (Abs.cls0 _) [0, 1, 2, 3, 4, 5, 6, 7, 8, 9, 10, 11, 12, 13, 14, 15, 16, 17, 18, 19, 20, 21, 22, 23, 24, 25, 26, 27, 28, 29, 30, 31, 32, 33, 34, 35, 36, 37, 38, 39, 40, 41, 42, 43, 44, 45, 46, 47] (by kernel_rfl) (by kernel_rfl) (Below.refl _ _).drew ?_
  repeat (first | (refine Abs.step_pure rfl rfl (fun K hK => ?_); go_simp; (try go_bits); (first | refine hK _ _ ?_ | (simp only [↓IntWalk.iteOmega]; go_simp; (try go_bits); refine hK _ _ ?_)); clear hK K) | (refine Abs.step_load (v := ?_) rfl rfl (by kernel_rfl) rfl (fun w0 hI => ?_) (fun K hK => ?_); rotate_left; (· have z0 := (rcell (kp hI (f_p8))).1; have z1 := (rcell (kp hI (f_q8))).1; go_simp; rfl); (simp only [Act.put, List.setIfInBounds_toArray, List.set_cons_zero, List.set_cons_succ]; refine hK _ _ ?_; clear hK K)) | (refine Abs.step_skip rfl rfl (fun K hK => ?_); (simp only [Act.put, List.setIfInBounds_toArray, List.set_cons_zero, List.set_cons_succ]; refine hK _ _ ?_; clear hK K)))
  (refine Abs.step_new (f := fun g => .slice (some ⟨g, 0, none⟩) 9 9) (obj := (.cells #[.int .u8 2, .int .u8 3, .int .u8 1, .int .u8 10, .int .u8 4, .int .u8 2, .int .u8 2, .int .u8 2, .int .u8 10] 5)) rfl rfl rfl rfl (fun w0 => ?_) (fun K hK g_x hv_x hu_x => ?_); (· go_simp; try rfl); (simp only [Act.put, List.setIfInBounds_toArray, List.set_cons_zero, List.set_cons_succ]; refine hK _ _ ?_; clear hK K))
  (refine Abs.step_call (f := ?_) (args := ?_) rfl rfl rfl rfl (fun v _ => v = .bool true) (fun _ _ _ h _ => h) (fun w0 => ?_) (fun w0 hI hF => ?_) (fun K hK v w0 hv => ?_); rotate_left 2; (· go_simp; (constructor <;> rfl)); (· exact (cQ _ _ _ w0 (rd_y8.below hI) (lit9 ((hF 20 (by kernel_rfl)).2 rfl))).mono (fun _ _ h => ⟨_, h.1, h.2, rfl⟩)); (replace hv : v = .bool true := hv; subst hv; clear w0; simp only [Act.put, List.setIfInBounds_toArray, List.set_cons_zero, List.set_cons_succ]; refine hK _ _ ?_; clear hK K))
  repeat (first | (refine Abs.step_pure rfl rfl (fun K hK => ?_); go_simp; (try go_bits); (first | refine hK _ _ ?_ | (simp only [↓IntWalk.iteOmega]; go_simp; (try go_bits); refine hK _ _ ?_)); clear hK K) | (refine Abs.step_load (v := ?_) rfl rfl (by kernel_rfl) rfl (fun w0 hI => ?_) (fun K hK => ?_); rotate_left; (· have z0 := (rcell (kp hI (f_p8))).1; have z1 := (rcell (kp hI (f_q8))).1; go_simp; rfl); (simp only [Act.put, List.setIfInBounds_toArray, List.set_cons_zero, List.set_cons_succ]; refine hK _ _ ?_; clear hK K)) | (refine Abs.step_skip rfl rfl (fun K hK => ?_); (simp only [Act.put, List.setIfInBounds_toArray, List.set_cons_zero, List.set_cons_succ]; refine hK _ _ ?_; clear hK K)))
  (refine Abs.step_call (f := ?_) (args := ?_) rfl rfl rfl rfl (TiltIs) (fun _ => Cl_TiltIs) (fun w0 => ?_) (fun w0 hI hF => ?_) (fun K hK v w0 hv => ?_); rotate_left 2; (· go_simp; (constructor <;> rfl)); (· exact tilt_is w0); (obtain ⟨g4, rfl, -⟩ := hv; clear w0; simp only [Act.put, List.setIfInBounds_toArray, List.set_cons_zero, List.set_cons_succ]; refine hK _ _ ?_; clear hK K))
  (refine Abs.step_call (f := ?_) (args := ?_) rfl rfl rfl rfl (fun v _ => v = .bool true) (fun _ _ _ h _ => h) (fun w0 => ?_) (fun w0 hI hF => ?_) (fun K hK v w0 hv => ?_); rotate_left 2; (· go_simp; (constructor <;> rfl)); (· exact (cM _ _ _ _ _ w0 (rd_r8.below hI) (TiltIs.rr ((hF 29 (by kernel_rfl)).2 rfl))).mono (fun _ _ h => ⟨_, h.1, h.2, rfl⟩)); (replace hv : v = .bool true := hv; subst hv; clear w0; simp only [Act.put, List.setIfInBounds_toArray, List.set_cons_zero, List.set_cons_succ]; refine hK _ _ ?_; clear hK K))
  repeat (first | (refine Abs.step_pure rfl rfl (fun K hK => ?_); go_simp; (try go_bits); (first | refine hK _ _ ?_ | (simp only [↓IntWalk.iteOmega]; go_simp; (try go_bits); refine hK _ _ ?_)); clear hK K) | (refine Abs.step_load (v := ?_) rfl rfl (by kernel_rfl) rfl (fun w0 hI => ?_) (fun K hK => ?_); rotate_left; (· have z0 := (rcell (kp hI (f_p8))).1; have z1 := (rcell (kp hI (f_q8))).1; go_simp; rfl); (simp only [Act.put, List.setIfInBounds_toArray, List.set_cons_zero, List.set_cons_succ]; refine hK _ _ ?_; clear hK K)) | (refine Abs.step_skip rfl rfl (fun K hK => ?_); (simp only [Act.put, List.setIfInBounds_toArray, List.set_cons_zero, List.set_cons_succ]; refine hK _ _ ?_; clear hK K)))
  intro w9 hb9 hx0 hx1 hx2
  clear hx0 hx1 hx2
  simp only [Abs.T_setF, Abs.T_addA, Abs.T_push, Abs.T_start]
  have f_p9 := kp hb9 (f_p8)
  have f_q9 := kp hb9 (f_q8)
  have f_z9 := kp hb9 (f_z8)
  have rd_y9 := rd_y8.below hb9
  have rd_r9 := rd_r8.below hb9
  have hB9 := bB hB8 hb9
  obtain ⟨zp_a, zp_b, lp9⟩ := rcell f_p9
  obtain ⟨zq_a, zq_b, lq9⟩ := rcell f_q9
  obtain ⟨zz_a, zz_b, lz9⟩ := rcell f_z9
  go_wp2
  go_ret
  exact ⟨rfl, hB9⟩
end Go.Proofs.YtmpfbkeamihjbaaGreat
