/- The package seg at this program: span, lineIs. The package seg at this program, on: back, rawIs, the kinds, is, Check. Whole numbers as bytes, seven bits in each: plain law, no program in sight. Segments as bytes: plain law, no program in sight: what is written, what is read. The package seg at this program, on: the kinds, is, Check. -/
import Derived.Test.YtmpfbkeamihjbaaGreatQ1
import Derived.Test.YtmpfbkeamihjbaaGreatEnds2
import Derived.Laws.BitsAllLaws
set_option linter.unusedSimpArgs false
set_option linter.unusedVariables false
namespace Go.Proofs.YtmpfbkeamihjbaaGreat
open Go.RowKit
attribute [local go_sem] Oper.semAt_some

theorem tmAt_bd {l : List Rn} (h : ∀ i, i < l.length → rnAt l i = true) : ∀ (m k : Nat) (i : Int), k + m = l.length → 0 ≤ i → i < rnSum l l.length - rnSum l k → 0 ≤ tmAt l i k m ∧ tmAt l i k m ≤ 281474976710656
  | 0, k, i, hk, h0, h1 => by
    obtain rfl : k = l.length := by omega
    omega
  | m + 1, k, i, hk, h0, h1 => by
    have hat := rnAt_spec (h k (by omega))
    have q := rnIs_spec hat.1
    have hl : (rn l k).f + (rn l k).s * ((rn l k).n - 1) ≤ 281474976710656 := by
      have := hat.2.1
      unfold rnForm at this
      simp only [Bool.and_eq_true, decide_eq_true_eq] at this
      exact this.2
    rw [tmAt]
    split
    · next hi =>
      have a := Int.mul_nonneg q.2.2.2.2.1 h0
      have b := Int.mul_le_mul_of_nonneg_left (show i ≤ (rn l k).n - 1 by omega) q.2.2.2.2.1
      omega
    · next hi =>
      have hs : rnSum l (k + 1) = rnSum l k + (rn l k).n := rfl
      exact tmAt_bd h m (k + 1) (i - (rn l k).n) (by omega) (by omega) (by omega)

/-- the first time; how far the last one is from it -/
def sgF (l : List Rn) : Int := tmAt l 0 0 l.length
def sgL (l : List Rn) : Int := tmAt l (rnSum l l.length - 1) 0 l.length - tmAt l 0 0 l.length

set_option maxRecDepth 100000 in
set_option maxHeartbeats 1000000 in
theorem seg_span (RA VA : Option Addr) (rc vl vc : Nat) (l : List Rn) (h : rnB l = true) (kd A R N D er : Int) (w : World) (hR : RR w RA rc l) :
    Calls Tryz.prog 115 #[.agg #[.int .i64 kd, .slice RA l.length rc, .int .i64 A, .int .i64 R, .int .i64 N, .int .i64 D, .slice VA vl vc, .int .i64 er]] w fun e w' => e = .returned (.tuple #[.int .i64 (sgF l), .int .i64 (sgL l)]) ∧ Below w.heap.size w w' := by
  obtain ⟨k0, k1, k2, k3⟩ := rnB_spec h
  have hs := rnSum_bk k2 (Nat.le_refl _)
  have c0 := fun w hR => runs_At_yes RA rc l h 0 (by omega) (by omega) w hR
  have c1 := fun w hR => runs_At_yes RA rc l h (rnSum l l.length - 1) (by omega) (by omega) w hR
  have cc := fun w hR => runs_Count_yes RA rc l h w hR
  have b0' := tmAt_bd k2 l.length 0 0 (by omega) (by omega) (by have e0 : rnSum l 0 = 0 := rfl; omega)
  have b1' := tmAt_bd k2 l.length 0 (rnSum l l.length - 1) (by omega) (by omega) (by have e0 : rnSum l 0 = 0 := rfl; omega)
  have hF : Hid (sgF l = tmAt l 0 0 l.length ∧ sgL l = tmAt l (rnSum l l.length - 1) 0 l.length - tmAt l 0 0 l.length) := hide ⟨rfl, rfl⟩
  clear k2 h
  generalize tmAt l 0 0 l.length = t0 at *
  generalize tmAt l (rnSum l l.length - 1) 0 l.length = t1 at *
  generalize rnSum l l.length = su at *
  go_enter Tryz.func115, Tryz.ntmps115
  go_wp2_with fail
  refine (c0 _ (hR.below (bA (b0 _) (.cells #[.int .i64 kd, .slice RA l.length rc, .int .i64 A, .int .i64 R, .int .i64 N, .int .i64 D, .slice VA vl vc, .int .i64 er] 88)))).mono ?_
  rintro e w1 ⟨rfl, hb1⟩
  have f_s1 := kp hb1 (na w #[.int .i64 kd, .slice RA l.length rc, .int .i64 A, .int .i64 R, .int .i64 N, .int .i64 D, .slice VA vl vc, .int .i64 er] 88)
  have rd_l1 := (hR.below (bA (b0 _) (.cells #[.int .i64 kd, .slice RA l.length rc, .int .i64 A, .int .i64 R, .int .i64 N, .int .i64 D, .slice VA vl vc, .int .i64 er] 88))).below hb1
  have hB1 := bB (bA (b0 w) (.cells #[.int .i64 kd, .slice RA l.length rc, .int .i64 A, .int .i64 R, .int .i64 N, .int .i64 D, .slice VA vl vc, .int .i64 er] 88)) hb1
  obtain ⟨zs_a, zs_b, ls1⟩ := rcell f_s1
  go_wp2_with fail
  refine Abs.wp_region_abs (Abs.cls0 _) [0, 1, 2, 3, 4, 5, 6, 7, 8, 9, 10, 11, 12, 13] (by kernel_rfl) (by kernel_rfl) (Below.refl _ _).drew ?_
  repeat (first | (refine Abs.step_pure rfl rfl (fun K hK => ?_); go_simp; (try go_bits); (first | refine hK _ _ ?_ | (simp only [↓IntWalk.iteOmega]; go_simp; (try go_bits); refine hK _ _ ?_)); clear hK K) | (refine Abs.step_load (v := ?_) rfl rfl (by kernel_rfl) rfl (fun w0 hI => ?_) (fun K hK => ?_); rotate_left; (· have z0 := (rcell (kp hI (f_s1))).1; go_simp; rfl); (simp only [Act.put, List.setIfInBounds_toArray, List.set_cons_zero, List.set_cons_succ]; refine hK _ _ ?_; clear hK K)) | (refine Abs.step_skip rfl rfl (fun K hK => ?_); (simp only [Act.put, List.setIfInBounds_toArray, List.set_cons_zero, List.set_cons_succ]; refine hK _ _ ?_; clear hK K)))
  (refine Abs.step_call_val (f := ?_) (args := ?_) (v := ?_) rfl rfl rfl rfl (fun w0 => ?_) (fun w0 hI => ?_) (fun K hK => ?_); rotate_left 3; (· go_simp; (constructor <;> rfl)); (· exact cc _ (rd_l1.below hI)); (simp only [Act.put, List.setIfInBounds_toArray, List.set_cons_zero, List.set_cons_succ]; refine hK _ _ ?_; clear hK K))
  repeat (first | (refine Abs.step_pure rfl rfl (fun K hK => ?_); go_simp; (try go_bits); (first | refine hK _ _ ?_ | (simp only [↓IntWalk.iteOmega]; go_simp; (try go_bits); refine hK _ _ ?_)); clear hK K) | (refine Abs.step_load (v := ?_) rfl rfl (by kernel_rfl) rfl (fun w0 hI => ?_) (fun K hK => ?_); rotate_left; (· have z0 := (rcell (kp hI (f_s1))).1; go_simp; rfl); (simp only [Act.put, List.setIfInBounds_toArray, List.set_cons_zero, List.set_cons_succ]; refine hK _ _ ?_; clear hK K)) | (refine Abs.step_skip rfl rfl (fun K hK => ?_); (simp only [Act.put, List.setIfInBounds_toArray, List.set_cons_zero, List.set_cons_succ]; refine hK _ _ ?_; clear hK K)))
  (refine Abs.step_call_val (f := ?_) (args := ?_) (v := ?_) rfl rfl rfl rfl (fun w0 => ?_) (fun w0 hI => ?_) (fun K hK => ?_); rotate_left 3; (· go_simp; (constructor <;> rfl)); (· exact c1 _ (rd_l1.below hI)); (simp only [Act.put, List.setIfInBounds_toArray, List.set_cons_zero, List.set_cons_succ]; refine hK _ _ ?_; clear hK K))
  repeat (first | (refine Abs.step_pure rfl rfl (fun K hK => ?_); go_simp; (try go_bits); (first | refine hK _ _ ?_ | (simp only [↓IntWalk.iteOmega]; go_simp; (try go_bits); refine hK _ _ ?_)); clear hK K) | (refine Abs.step_load (v := ?_) rfl rfl (by kernel_rfl) rfl (fun w0 hI => ?_) (fun K hK => ?_); rotate_left; (· have z0 := (rcell (kp hI (f_s1))).1; go_simp; rfl); (simp only [Act.put, List.setIfInBounds_toArray, List.set_cons_zero, List.set_cons_succ]; refine hK _ _ ?_; clear hK K)) | (refine Abs.step_skip rfl rfl (fun K hK => ?_); (simp only [Act.put, List.setIfInBounds_toArray, List.set_cons_zero, List.set_cons_succ]; refine hK _ _ ?_; clear hK K)))
  intro w3 hb3 hx0 hx1 hx2
  clear hx0 hx1 hx2
  simp only [Abs.T_setF, Abs.T_addA, Abs.T_push, Abs.T_start]
  have f_s3 := kp hb3 (f_s1)
  have rd_l3 := rd_l1.below hb3
  have hB3 := bB hB1 hb3
  clear zs_a zs_b
  obtain ⟨zs_a, zs_b, ls3⟩ := rcell f_s3
  go_wp2
  go_ret2
  exact ⟨by rw [hF.out.1, hF.out.2]; rfl, hB3⟩

theorem line_Ends_any (A R N D t0 t1 : Int) (w : World) : ∃ z1 z2 : Int, Calls Tryz.prog 116 #[.agg #[.int .i64 A, .int .i64 R, .int .i64 N, .int .i64 D], .int .i64 t0, .int .i64 t1] w fun x w' => x = .returned (.tuple #[.agg #[.int .i64 z1, .int .i64 z2], .int .i64 (enE A R N D t0 t1)]) ∧ Below w.heap.size w w' := by
  by_cases h : enE A R N D t0 t1 = 0
  · have h' := h
    unfold enE at h'
    split at h'
    · next h1 =>
      split at h'
      · next h2 =>
        split at h'
        · next h3 =>
          rw [h]
          exact ⟨_, _, line_Ends_yes A R N D t0 t1 h1 h2.1 h2.2.1 h2.2.2 h3.1 h3.2 w⟩
        · exact absurd h' (by decide)
      · exact absurd h' (by decide)
    · exact absurd h' (by decide)
  · exact ⟨0, 0, line_Ends_no A R N D t0 t1 h w⟩

/-- may a segment's line be, and all its values -/
def lnB (l : List Rn) (A R N D : Int) (vl : Nat) : Bool := (enE A R N D 0 (sgL l) == 0) && ((vl : Int) == 0)

set_option maxRecDepth 100000 in
set_option maxHeartbeats 1000000 in
theorem seg_lineIs (RA VA : Option Addr) (rc vl vc : Nat) (l : List Rn) (h : rnB l = true) (kd A R N D er : Int) (w : World) (hR : RR w RA rc l) :
    Calls Tryz.prog 91 #[.agg #[.int .i64 kd, .slice RA l.length rc, .int .i64 A, .int .i64 R, .int .i64 N, .int .i64 D, .slice VA vl vc, .int .i64 er]] w fun e w' => e = .returned (.bool (lnB l A R N D vl)) ∧ Below w.heap.size w w' := by
  have c0 := fun w hR => seg_span RA VA rc vl vc l h kd A R N D er w hR
  have c1 := fun w => line_Ends_any A R N D 0 (sgL l) w
  have hB : Hid (lnB l A R N D vl = ((enE A R N D 0 (sgL l) == 0) && ((vl : Int) == 0))) := hide rfl
  clear h
  generalize enE A R N D 0 (sgL l) = E at *
  generalize sgL l = L at *
  go_enter Tryz.func91, Tryz.ntmps91
  go_wp2_with fail
  refine (c0 _ (hR.below (bA (b0 _) (.cells #[.int .i64 kd, .slice RA l.length rc, .int .i64 A, .int .i64 R, .int .i64 N, .int .i64 D, .slice VA vl vc, .int .i64 er] 88)))).mono ?_
  rintro e w1 ⟨rfl, hb1⟩
  have f_s1 := kp hb1 (na w #[.int .i64 kd, .slice RA l.length rc, .int .i64 A, .int .i64 R, .int .i64 N, .int .i64 D, .slice VA vl vc, .int .i64 er] 88)
  have rd_l1 := (hR.below (bA (b0 _) (.cells #[.int .i64 kd, .slice RA l.length rc, .int .i64 A, .int .i64 R, .int .i64 N, .int .i64 D, .slice VA vl vc, .int .i64 er] 88))).below hb1
  have hB1 := bB (bA (b0 w) (.cells #[.int .i64 kd, .slice RA l.length rc, .int .i64 A, .int .i64 R, .int .i64 N, .int .i64 D, .slice VA vl vc, .int .i64 er] 88)) hb1
  obtain ⟨zs_a, zs_b, ls1⟩ := rcell f_s1
  obtain ⟨z1, z2, c2⟩ := c1 w1
  go_wp2_with fail
  refine (c2).mono ?_
  rintro e w2 ⟨rfl, hb2⟩
  have f_s2 := kp hb2 (f_s1)
  have rd_l2 := rd_l1.below hb2
  have hB2 := bB hB1 hb2
  clear zs_a zs_b
  obtain ⟨zs_a, zs_b, ls2⟩ := rcell f_s2
  go_wp2
  all_goals
    go_ret
    refine ⟨?_, (bA hB2 (.cells #[.int .i64 z1, .int .i64 z2] 156))⟩
    rw [hB.out]
    simp_all
end Go.Proofs.YtmpfbkeamihjbaaGreat

namespace Go.Proofs.YtmpfbkeamihjbaaGreat
open Go.RowKit
attribute [local go_sem] Oper.semAt_some

/-- may a number be told -/
def bkV (v : Int) : Bool := decide (-2305844108725321728 ≤ v) && decide (v ≤ 2305844108725321728)

set_option maxRecDepth 100000 in
theorem seg_back (v : Int) (w : World) : Calls Tryz.prog 123 #[.int .i64 v] w fun e w' => e = .returned (.bool (bkV v)) ∧ w = w' := by
  unfold bkV
  by_cases h : -2305844108725321728 ≤ v
  · go_enter Tryz.func123, Tryz.ntmps123
    go_wp2
    go_ret
    exact ⟨by simp [h], rfl⟩
  · go_enter Tryz.func123, Tryz.ntmps123
    go_wp2
    go_ret
    exact ⟨by simp [show ¬ -2305844108725321728 ≤ v by omega], rfl⟩
theorem seg_raw1 (v : Int) (w : World) : Calls Tryz.prog 122 #[.int .i64 v] w fun e w' => e = .returned (.bool (!bkV v)) ∧ w = w' := by
  have c := seg_back v
  generalize bkV v = b at *
  go_enter Tryz.func122, Tryz.ntmps122
  go_wp2_with fail
  refine (c _).mono ?_
  rintro e wq ⟨rfl, rfl⟩
  go_wp2
  go_ret
  exact ⟨rfl, rfl⟩

theorem takeV (l : List Int) (k : Nat) (h : k < l.length) : l.take (k + 1) = l.take k ++ [l[k]] := by
  rw [List.take_add_one, List.getElem?_eq_getElem h]
  rfl
/-- the place of the first number that may not be told -/
def ixV (l : List Int) : Int := if l.all bkV = true then -1 else ((l.takeWhile bkV).length : Int)
theorem ixV_hit {l : List Int} {k : Nat} (hk : k < l.length) (h : (l.take k).all bkV = true) (hb : bkV l[k] = false) : ixV l = k := by
  have e : l = l.take k ++ l[k] :: l.drop (k + 1) := by
    rw [← List.drop_eq_getElem_cons hk, List.take_append_drop]
  generalize hx : l[k] = x at *
  generalize hr : l.drop (k + 1) = r at *
  have hkl : (l.take k).length = k := by rw [List.length_take]; omega
  generalize l.take k = q at *
  have e1 : l.all bkV = false := by rw [e]; simp [hb]
  have e2 : (l.takeWhile bkV).length = k := by
    rw [e, List.takeWhile_append_of_pos (by simpa using h), List.takeWhile_cons, hb]
    simp [hkl]
  unfold ixV
  rw [e1, e2]
  rfl
theorem ixV_none {l : List Int} (h : l.all bkV = true) : ixV l = -1 := by unfold ixV; rw [h]; rfl
theorem ixV_ge (l : List Int) : decide (0 ≤ ixV l) = !(l.all bkV) := by
  unfold ixV
  cases l.all bkV <;> simp

set_option maxRecDepth 100000 in
set_option maxHeartbeats 1000000 in
theorem index_func (A : Option Addr) (c : Nat) (l : List Int) (w : World) (hR : VR w A c l) :
    Calls Tryz.prog 147 #[.slice A l.length c, .func (Fn.func 122) #[] #[]] w fun e w' => e = .returned (.int .i64 (ixV l)) ∧ Below w.heap.size w w' := by
  by_cases h0 : 0 < l.length
  · obtain ⟨g, o, cur, rfl, hg, hc⟩ := hR.mem h0
    have HC := hide hc
    have hcap := hR.cap
    have htop := hR.top
    clear hc hR
    go_enter Tryz.func147, Tryz.ntmps147
    obtain ⟨zg_a, zg_b, lg0⟩ := rcell hg
    go_wp2_with fail
    go_loopw [8] (fun vi wr => ∃ k : Nat, vi = .int .i64 k ∧ k ≤ l.length ∧ Hid ((l.take k).all bkV = true) ∧ wr.heap[g]? = some (.cells cur 2 (0, 0)) ∧ Below w.heap.size w wr) (fun vi _ => l.length - (intOf vi).toNat)
    case atStart => exact ⟨0, rfl, by omega, hide (by simp), (hg), (b0 w)⟩
    case round =>
      obtain ⟨k, rfl, hk, hT, j1, hb⟩ := hrel
      by_cases hlt : k < l.length
      · have q1 := HC.out k hlt
        have HB : Hid (bkV l[k] = true → (l.take (k + 1)).all bkV = true) := hide fun h => by
          rw [takeV l k hlt]
          simp only [List.all_append, hT.out, List.all_cons, h, List.all_nil, Bool.and_true]
        have HN : Hid (bkV l[k] = false → ixV l = k) := hide (ixV_hit hlt hT.out)
        generalize l[k] = v at *
        have cb := seg_raw1 v
        obtain ⟨zg_a, zg_b, lg1⟩ := rcell j1
        cases hbv : bkV v
        · skip
          have E := hide (HN.out hbv)
          rw [hbv] at cb
          clear hbv HN HB
          go_wp2_with fail
          refine (cb _).mono ?_
          rintro e wq ⟨rfl, rfl⟩
          go_wp2
          go_ret
          exact ⟨by rw [E.out]; rfl, hb⟩
        · skip
          have e := hide (HB.out hbv)
          rw [hbv] at cb
          clear hbv HN HB
          go_wp2_with fail
          refine (cb _).mono ?_
          rintro e wq ⟨rfl, rfl⟩
          go_wp2
          go_roundw
          case rel => exact ⟨k + 1, by go_num, by omega, e, (j1), hb⟩
          case measure => simp [intOf]; omega
      · obtain rfl : k = l.length := by omega
        have E : Hid (ixV l = -1) := hide (ixV_none (by have := hT.out; rwa [List.take_length] at this))
        go_wp2
        go_ret
        exact ⟨by rw [E.out]; rfl, hb⟩
  · obtain rfl : l = [] := List.eq_nil_of_length_eq_zero (by omega)
    have e : ixV [] = -1 := rfl
    rw [e]
    clear e hR
    go_enter Tryz.func147, Tryz.ntmps147
    go_wp2
    go_loopw [8] (fun vi wr => vi = .int .i64 0 ∧ Below w.heap.size w wr) (fun _ _ => 0)
    case atStart => exact ⟨rfl, b0 w⟩
    case round =>
      obtain ⟨rfl, hb⟩ := hrel
      go_wp2
      go_ret
      exact ⟨rfl, hb⟩
theorem contains_func (A : Option Addr) (c : Nat) (l : List Int) (w : World) (hR : VR w A c l) :
    Calls Tryz.prog 121 #[.slice A l.length c, .func (Fn.func 122) #[] #[]] w fun e w' => e = .returned (.bool (!(l.all bkV))) ∧ Below w.heap.size w w' := by
  have c1 := index_func A c l
  have hz := ixV_ge l
  rw [← hz]
  clear hz
  generalize ixV l = z at *
  go_enter Tryz.func121, Tryz.ntmps121
  go_wp2_with fail
  refine (c1 _ hR).mono ?_
  rintro e w1 ⟨rfl, hb1⟩
  have hB1 := bB (b0 w) hb1
  go_wp2
  all_goals
    go_ret
    exact ⟨by simp_all, hB1⟩

/-! ### the numbers of a segment -/
def zB (A R N D : Int) : Bool := decide (A = 0 ∧ R = 0 ∧ N = 0 ∧ D = 0)
def rwB (l : List Rn) (vs : List Int) (A R N D : Int) : Bool := zB A R N D && (decide ((vs.length : Int) = rnSum l l.length) && vs.all bkV)

section
variable (RA VA : Option Addr) (rc vc : Nat) (l : List Rn) (vs : List Int) (h : rnB l = true) (kd A R N D er : Int) (w : World) (hR : RR w RA rc l) (hV : VR w VA vc vs)
set_option maxRecDepth 100000 in
set_option maxHeartbeats 2000000 in
theorem seg_rawIs_1a (hz : ¬ A = 0) :
    Calls Tryz.prog 95 #[.agg #[.int .i64 kd, .slice RA l.length rc, .int .i64 A, .int .i64 R, .int .i64 N, .int .i64 D, .slice VA vs.length vc, .int .i64 er]] w fun e w' => e = .returned (.bool false) ∧ Below w.heap.size w w' := by
  go_enter Tryz.func95, Tryz.ntmps95
  go_wp2_with fail
  have f_s1 := (na w #[.int .i64 kd, .slice RA l.length rc, .int .i64 A, .int .i64 R, .int .i64 N, .int .i64 D, .slice VA vs.length vc, .int .i64 er] 88)
  have hB1 := (bA (b0 w) (.cells #[.int .i64 kd, .slice RA l.length rc, .int .i64 A, .int .i64 R, .int .i64 N, .int .i64 D, .slice VA vs.length vc, .int .i64 er] 88))
  have ls1 := (rcell f_s1).2.2
  refine Abs.wp_region_abs (Abs.cls0 _) [0, 1, 2, 3, 4, 5, 6, 7, 8, 9, 10, 11, 12, 13, 14, 15, 16, 17, 18, 19, 20, 21, 22, 23] (by kernel_rfl) (by kernel_rfl) (Below.refl _ _).drew ?_
  repeat (first | (refine Abs.step_pure rfl rfl (fun K hK => ?_); go_simp; (try go_bits); (first | refine hK _ _ ?_ | (simp only [↓IntWalk.iteOmega]; go_simp; (try go_bits); refine hK _ _ ?_)); clear hK K) | (refine Abs.step_load (v := ?_) rfl rfl (by kernel_rfl) rfl (fun w0 hI => ?_) (fun K hK => ?_); rotate_left; (· have z0 := (rcell (kp hI (f_s1))).1; go_simp; rfl); (simp only [Act.put, List.setIfInBounds_toArray, List.set_cons_zero, List.set_cons_succ]; refine hK _ _ ?_; clear hK K)) | (refine Abs.step_skip rfl rfl (fun K hK => ?_); (simp only [Act.put, List.setIfInBounds_toArray, List.set_cons_zero, List.set_cons_succ]; refine hK _ _ ?_; clear hK K)))
  intro w2 hb2 hx0 hx1 hx2
  clear hx0 hx1 hx2
  simp only [Abs.T_setF, Abs.T_addA, Abs.T_push, Abs.T_start]
  have f_s2 := kp hb2 (f_s1)
  have hB2 := bB hB1 hb2
  obtain ⟨zs_a, zs_b, ls2⟩ := rcell f_s2
  go_wp2
  go_ret
  exact ⟨rfl, hB2⟩
set_option maxRecDepth 100000 in
set_option maxHeartbeats 2000000 in
theorem seg_rawIs_1b (hz : ¬ R = 0) :
    Calls Tryz.prog 95 #[.agg #[.int .i64 kd, .slice RA l.length rc, .int .i64 0, .int .i64 R, .int .i64 N, .int .i64 D, .slice VA vs.length vc, .int .i64 er]] w fun e w' => e = .returned (.bool false) ∧ Below w.heap.size w w' := by
  go_enter Tryz.func95, Tryz.ntmps95
  go_wp2_with fail
  have f_s1 := (na w #[.int .i64 kd, .slice RA l.length rc, .int .i64 0, .int .i64 R, .int .i64 N, .int .i64 D, .slice VA vs.length vc, .int .i64 er] 88)
  have hB1 := (bA (b0 w) (.cells #[.int .i64 kd, .slice RA l.length rc, .int .i64 0, .int .i64 R, .int .i64 N, .int .i64 D, .slice VA vs.length vc, .int .i64 er] 88))
  have ls1 := (rcell f_s1).2.2
  refine Abs.wp_region_abs (Abs.cls0 _) [0, 1, 2, 3, 4, 5, 6, 7, 8, 9, 10, 11, 12, 13, 14, 15, 16, 17, 18, 19, 20, 21, 22, 23] (by kernel_rfl) (by kernel_rfl) (Below.refl _ _).drew ?_
  repeat (first | (refine Abs.step_pure rfl rfl (fun K hK => ?_); go_simp; (try go_bits); (first | refine hK _ _ ?_ | (simp only [↓IntWalk.iteOmega]; go_simp; (try go_bits); refine hK _ _ ?_)); clear hK K) | (refine Abs.step_load (v := ?_) rfl rfl (by kernel_rfl) rfl (fun w0 hI => ?_) (fun K hK => ?_); rotate_left; (· have z0 := (rcell (kp hI (f_s1))).1; go_simp; rfl); (simp only [Act.put, List.setIfInBounds_toArray, List.set_cons_zero, List.set_cons_succ]; refine hK _ _ ?_; clear hK K)) | (refine Abs.step_skip rfl rfl (fun K hK => ?_); (simp only [Act.put, List.setIfInBounds_toArray, List.set_cons_zero, List.set_cons_succ]; refine hK _ _ ?_; clear hK K)))
  intro w2 hb2 hx0 hx1 hx2
  clear hx0 hx1 hx2
  simp only [Abs.T_setF, Abs.T_addA, Abs.T_push, Abs.T_start]
  have f_s2 := kp hb2 (f_s1)
  have hB2 := bB hB1 hb2
  obtain ⟨zs_a, zs_b, ls2⟩ := rcell f_s2
  go_wp2
  go_ret
  exact ⟨rfl, hB2⟩
set_option maxRecDepth 100000 in
set_option maxHeartbeats 2000000 in
theorem seg_rawIs_1c (hz : ¬ N = 0) :
    Calls Tryz.prog 95 #[.agg #[.int .i64 kd, .slice RA l.length rc, .int .i64 0, .int .i64 0, .int .i64 N, .int .i64 D, .slice VA vs.length vc, .int .i64 er]] w fun e w' => e = .returned (.bool false) ∧ Below w.heap.size w w' := by
  go_enter Tryz.func95, Tryz.ntmps95
  go_wp2_with fail
  have f_s1 := (na w #[.int .i64 kd, .slice RA l.length rc, .int .i64 0, .int .i64 0, .int .i64 N, .int .i64 D, .slice VA vs.length vc, .int .i64 er] 88)
  have hB1 := (bA (b0 w) (.cells #[.int .i64 kd, .slice RA l.length rc, .int .i64 0, .int .i64 0, .int .i64 N, .int .i64 D, .slice VA vs.length vc, .int .i64 er] 88))
  have ls1 := (rcell f_s1).2.2
  refine Abs.wp_region_abs (Abs.cls0 _) [0, 1, 2, 3, 4, 5, 6, 7, 8, 9, 10, 11, 12, 13, 14, 15, 16, 17, 18, 19, 20, 21, 22, 23] (by kernel_rfl) (by kernel_rfl) (Below.refl _ _).drew ?_
  repeat (first | (refine Abs.step_pure rfl rfl (fun K hK => ?_); go_simp; (try go_bits); (first | refine hK _ _ ?_ | (simp only [↓IntWalk.iteOmega]; go_simp; (try go_bits); refine hK _ _ ?_)); clear hK K) | (refine Abs.step_load (v := ?_) rfl rfl (by kernel_rfl) rfl (fun w0 hI => ?_) (fun K hK => ?_); rotate_left; (· have z0 := (rcell (kp hI (f_s1))).1; go_simp; rfl); (simp only [Act.put, List.setIfInBounds_toArray, List.set_cons_zero, List.set_cons_succ]; refine hK _ _ ?_; clear hK K)) | (refine Abs.step_skip rfl rfl (fun K hK => ?_); (simp only [Act.put, List.setIfInBounds_toArray, List.set_cons_zero, List.set_cons_succ]; refine hK _ _ ?_; clear hK K)))
  intro w2 hb2 hx0 hx1 hx2
  clear hx0 hx1 hx2
  simp only [Abs.T_setF, Abs.T_addA, Abs.T_push, Abs.T_start]
  have f_s2 := kp hb2 (f_s1)
  have hB2 := bB hB1 hb2
  obtain ⟨zs_a, zs_b, ls2⟩ := rcell f_s2
  go_wp2
  go_ret
  exact ⟨rfl, hB2⟩
set_option maxRecDepth 100000 in
set_option maxHeartbeats 2000000 in
theorem seg_rawIs_1d (hz : ¬ D = 0) :
    Calls Tryz.prog 95 #[.agg #[.int .i64 kd, .slice RA l.length rc, .int .i64 0, .int .i64 0, .int .i64 0, .int .i64 D, .slice VA vs.length vc, .int .i64 er]] w fun e w' => e = .returned (.bool false) ∧ Below w.heap.size w w' := by
  go_enter Tryz.func95, Tryz.ntmps95
  go_wp2_with fail
  have f_s1 := (na w #[.int .i64 kd, .slice RA l.length rc, .int .i64 0, .int .i64 0, .int .i64 0, .int .i64 D, .slice VA vs.length vc, .int .i64 er] 88)
  have hB1 := (bA (b0 w) (.cells #[.int .i64 kd, .slice RA l.length rc, .int .i64 0, .int .i64 0, .int .i64 0, .int .i64 D, .slice VA vs.length vc, .int .i64 er] 88))
  have ls1 := (rcell f_s1).2.2
  refine Abs.wp_region_abs (Abs.cls0 _) [0, 1, 2, 3, 4, 5, 6, 7, 8, 9, 10, 11, 12, 13, 14, 15, 16, 17, 18, 19, 20, 21, 22, 23] (by kernel_rfl) (by kernel_rfl) (Below.refl _ _).drew ?_
  repeat (first | (refine Abs.step_pure rfl rfl (fun K hK => ?_); go_simp; (try go_bits); (first | refine hK _ _ ?_ | (simp only [↓IntWalk.iteOmega]; go_simp; (try go_bits); refine hK _ _ ?_)); clear hK K) | (refine Abs.step_load (v := ?_) rfl rfl (by kernel_rfl) rfl (fun w0 hI => ?_) (fun K hK => ?_); rotate_left; (· have z0 := (rcell (kp hI (f_s1))).1; go_simp; rfl); (simp only [Act.put, List.setIfInBounds_toArray, List.set_cons_zero, List.set_cons_succ]; refine hK _ _ ?_; clear hK K)) | (refine Abs.step_skip rfl rfl (fun K hK => ?_); (simp only [Act.put, List.setIfInBounds_toArray, List.set_cons_zero, List.set_cons_succ]; refine hK _ _ ?_; clear hK K)))
  intro w2 hb2 hx0 hx1 hx2
  clear hx0 hx1 hx2
  simp only [Abs.T_setF, Abs.T_addA, Abs.T_push, Abs.T_start]
  have f_s2 := kp hb2 (f_s1)
  have hB2 := bB hB1 hb2
  obtain ⟨zs_a, zs_b, ls2⟩ := rcell f_s2
  go_wp2
  go_ret
  exact ⟨rfl, hB2⟩
theorem seg_rawIs_1 (hz : ¬ (A = 0 ∧ R = 0 ∧ N = 0 ∧ D = 0)) :
    Calls Tryz.prog 95 #[.agg #[.int .i64 kd, .slice RA l.length rc, .int .i64 A, .int .i64 R, .int .i64 N, .int .i64 D, .slice VA vs.length vc, .int .i64 er]] w fun e w' => e = .returned (.bool false) ∧ Below w.heap.size w w' := by
  have hz' : ¬ A = 0 ∨ (A = 0 ∧ ¬ R = 0) ∨ (A = 0 ∧ R = 0 ∧ ¬ N = 0) ∨ (A = 0 ∧ R = 0 ∧ N = 0 ∧ ¬ D = 0) := by omega
  clear hz
  rcases hz' with hz | ⟨rfl, hz⟩ | ⟨rfl, rfl, hz⟩ | ⟨rfl, rfl, rfl, hz⟩
  · exact seg_rawIs_1a RA VA rc vc l vs kd A R N D er w hz
  · exact seg_rawIs_1b RA VA rc vc l vs kd R N D er w hz
  · exact seg_rawIs_1c RA VA rc vc l vs kd N D er w hz
  · exact seg_rawIs_1d RA VA rc vc l vs kd D er w hz
set_option maxRecDepth 100000 in
set_option maxHeartbeats 2000000 in
include h hR in
theorem seg_rawIs_2 (hz : A = 0 ∧ R = 0 ∧ N = 0 ∧ D = 0) (hn : ¬ (vs.length : Int) = rnSum l l.length) :
    Calls Tryz.prog 95 #[.agg #[.int .i64 kd, .slice RA l.length rc, .int .i64 A, .int .i64 R, .int .i64 N, .int .i64 D, .slice VA vs.length vc, .int .i64 er]] w fun e w' => e = .returned (.bool false) ∧ Below w.heap.size w w' := by
  obtain ⟨rfl, rfl, rfl, rfl⟩ := hz
  have c1 := fun w hR => runs_Count_yes RA rc l h w hR
  clear h
  generalize rnSum l l.length = su at *
  generalize vs.length = vl at *
  have hq : ((vl : Int) == su) = false := by simp [hn]
  go_enter Tryz.func95, Tryz.ntmps95
  go_wp2_with fail
  have f_s1 := (na w #[.int .i64 kd, .slice RA l.length rc, .int .i64 0, .int .i64 0, .int .i64 0, .int .i64 0, .slice VA vl vc, .int .i64 er] 88)
  have rd_l1 := (hR.below (bA (b0 _) (.cells #[.int .i64 kd, .slice RA l.length rc, .int .i64 0, .int .i64 0, .int .i64 0, .int .i64 0, .slice VA vl vc, .int .i64 er] 88)))
  have hB1 := (bA (b0 w) (.cells #[.int .i64 kd, .slice RA l.length rc, .int .i64 0, .int .i64 0, .int .i64 0, .int .i64 0, .slice VA vl vc, .int .i64 er] 88))
  have ls1 := (rcell f_s1).2.2
  refine Abs.wp_region_abs (Abs.cls0 _) [0, 1, 2, 3, 4, 5, 6, 7, 8, 9, 10, 11, 12, 13, 14, 15, 16, 17, 18, 19, 20, 21, 22, 23] (by kernel_rfl) (by kernel_rfl) (Below.refl _ _).drew ?_
  repeat (first | (refine Abs.step_pure rfl rfl (fun K hK => ?_); go_simp; (try go_bits); (first | refine hK _ _ ?_ | (simp only [↓IntWalk.iteOmega]; go_simp; (try go_bits); refine hK _ _ ?_)); clear hK K) | (refine Abs.step_load (v := ?_) rfl rfl (by kernel_rfl) rfl (fun w0 hI => ?_) (fun K hK => ?_); rotate_left; (· have z0 := (rcell (kp hI (f_s1))).1; go_simp; rfl); (simp only [Act.put, List.setIfInBounds_toArray, List.set_cons_zero, List.set_cons_succ]; refine hK _ _ ?_; clear hK K)) | (refine Abs.step_skip rfl rfl (fun K hK => ?_); (simp only [Act.put, List.setIfInBounds_toArray, List.set_cons_zero, List.set_cons_succ]; refine hK _ _ ?_; clear hK K)))
  (refine Abs.step_call_val (f := ?_) (args := ?_) (v := ?_) rfl rfl rfl rfl (fun w0 => ?_) (fun w0 hI => ?_) (fun K hK => ?_); rotate_left 3; (· go_simp; (constructor <;> rfl)); (· exact c1 _ (rd_l1.below hI)); (simp only [Act.put, List.setIfInBounds_toArray, List.set_cons_zero, List.set_cons_succ]; refine hK _ _ ?_; clear hK K))
  repeat (first | (refine Abs.step_pure rfl rfl (fun K hK => ?_); go_simp; (try go_bits); (first | refine hK _ _ ?_ | (simp only [↓IntWalk.iteOmega]; go_simp; (try go_bits); refine hK _ _ ?_)); clear hK K) | (refine Abs.step_load (v := ?_) rfl rfl (by kernel_rfl) rfl (fun w0 hI => ?_) (fun K hK => ?_); rotate_left; (· have z0 := (rcell (kp hI (f_s1))).1; go_simp; rfl); (simp only [Act.put, List.setIfInBounds_toArray, List.set_cons_zero, List.set_cons_succ]; refine hK _ _ ?_; clear hK K)) | (refine Abs.step_skip rfl rfl (fun K hK => ?_); (simp only [Act.put, List.setIfInBounds_toArray, List.set_cons_zero, List.set_cons_succ]; refine hK _ _ ?_; clear hK K)))
  intro w2 hb2 hx0 hx1 hx2
  clear hx0 hx1 hx2
  simp only [Abs.T_setF, Abs.T_addA, Abs.T_push, Abs.T_start]
  have f_s2 := kp hb2 (f_s1)
  have rd_l2 := rd_l1.below hb2
  have hB2 := bB hB1 hb2
  obtain ⟨zs_a, zs_b, ls2⟩ := rcell f_s2
  go_wp2
  go_ret
  exact ⟨rfl, hB2⟩
set_option maxRecDepth 100000 in
set_option maxHeartbeats 2000000 in
include h hR hV in
theorem seg_rawIs_3 (hz : A = 0 ∧ R = 0 ∧ N = 0 ∧ D = 0) (hn : (vs.length : Int) = rnSum l l.length) :
    Calls Tryz.prog 95 #[.agg #[.int .i64 kd, .slice RA l.length rc, .int .i64 A, .int .i64 R, .int .i64 N, .int .i64 D, .slice VA vs.length vc, .int .i64 er]] w fun e w' => e = .returned (.bool (vs.all bkV)) ∧ Below w.heap.size w w' := by
  obtain ⟨rfl, rfl, rfl, rfl⟩ := hz
  have c1 := fun w hR => runs_Count_yes RA rc l h w hR
  have c2 := fun w hV => contains_func VA vc vs w hV
  clear h
  generalize rnSum l l.length = su at *
  generalize vs.all bkV = al at *
  have hq : ((vs.length : Int) == su) = true := by simp [hn]
  clear hn
  go_enter Tryz.func95, Tryz.ntmps95
  go_wp2_with fail
  have f_s1 := (na w #[.int .i64 kd, .slice RA l.length rc, .int .i64 0, .int .i64 0, .int .i64 0, .int .i64 0, .slice VA vs.length vc, .int .i64 er] 88)
  have rd_l1 := (hR.below (bA (b0 _) (.cells #[.int .i64 kd, .slice RA l.length rc, .int .i64 0, .int .i64 0, .int .i64 0, .int .i64 0, .slice VA vs.length vc, .int .i64 er] 88)))
  have rd_v1 := (hV.below (bA (b0 _) (.cells #[.int .i64 kd, .slice RA l.length rc, .int .i64 0, .int .i64 0, .int .i64 0, .int .i64 0, .slice VA vs.length vc, .int .i64 er] 88)))
  have hB1 := (bA (b0 w) (.cells #[.int .i64 kd, .slice RA l.length rc, .int .i64 0, .int .i64 0, .int .i64 0, .int .i64 0, .slice VA vs.length vc, .int .i64 er] 88))
  have ls1 := (rcell f_s1).2.2
  refine Abs.wp_region_abs (Abs.cls0 _) [0, 1, 2, 3, 4, 5, 6, 7, 8, 9, 10, 11, 12, 13, 14, 15, 16, 17, 18, 19, 20, 21, 22, 23] (by kernel_rfl) (by kernel_rfl) (Below.refl _ _).drew ?_
  repeat (first | (refine Abs.step_pure rfl rfl (fun K hK => ?_); go_simp; (try go_bits); (first | refine hK _ _ ?_ | (simp only [↓IntWalk.iteOmega]; go_simp; (try go_bits); refine hK _ _ ?_)); clear hK K) | (refine Abs.step_load (v := ?_) rfl rfl (by kernel_rfl) rfl (fun w0 hI => ?_) (fun K hK => ?_); rotate_left; (· have z0 := (rcell (kp hI (f_s1))).1; go_simp; rfl); (simp only [Act.put, List.setIfInBounds_toArray, List.set_cons_zero, List.set_cons_succ]; refine hK _ _ ?_; clear hK K)) | (refine Abs.step_skip rfl rfl (fun K hK => ?_); (simp only [Act.put, List.setIfInBounds_toArray, List.set_cons_zero, List.set_cons_succ]; refine hK _ _ ?_; clear hK K)))
  (refine Abs.step_call_val (f := ?_) (args := ?_) (v := ?_) rfl rfl rfl rfl (fun w0 => ?_) (fun w0 hI => ?_) (fun K hK => ?_); rotate_left 3; (· go_simp; (constructor <;> rfl)); (· exact c1 _ (rd_l1.below hI)); (simp only [Act.put, List.setIfInBounds_toArray, List.set_cons_zero, List.set_cons_succ]; refine hK _ _ ?_; clear hK K))
  repeat (first | (refine Abs.step_pure rfl rfl (fun K hK => ?_); go_simp; (try go_bits); (first | refine hK _ _ ?_ | (simp only [↓IntWalk.iteOmega]; go_simp; (try go_bits); refine hK _ _ ?_)); clear hK K) | (refine Abs.step_load (v := ?_) rfl rfl (by kernel_rfl) rfl (fun w0 hI => ?_) (fun K hK => ?_); rotate_left; (· have z0 := (rcell (kp hI (f_s1))).1; go_simp; rfl); (simp only [Act.put, List.setIfInBounds_toArray, List.set_cons_zero, List.set_cons_succ]; refine hK _ _ ?_; clear hK K)) | (refine Abs.step_skip rfl rfl (fun K hK => ?_); (simp only [Act.put, List.setIfInBounds_toArray, List.set_cons_zero, List.set_cons_succ]; refine hK _ _ ?_; clear hK K)))
  (refine Abs.step_call_val (f := ?_) (args := ?_) (v := ?_) rfl rfl rfl rfl (fun w0 => ?_) (fun w0 hI => ?_) (fun K hK => ?_); rotate_left 3; (· go_simp; (constructor <;> rfl)); (· exact c2 _ (rd_v1.below hI)); (simp only [Act.put, List.setIfInBounds_toArray, List.set_cons_zero, List.set_cons_succ]; refine hK _ _ ?_; clear hK K))
  repeat (first | (refine Abs.step_pure rfl rfl (fun K hK => ?_); go_simp; (try go_bits); (first | refine hK _ _ ?_ | (simp only [↓IntWalk.iteOmega]; go_simp; (try go_bits); refine hK _ _ ?_)); clear hK K) | (refine Abs.step_load (v := ?_) rfl rfl (by kernel_rfl) rfl (fun w0 hI => ?_) (fun K hK => ?_); rotate_left; (· have z0 := (rcell (kp hI (f_s1))).1; go_simp; rfl); (simp only [Act.put, List.setIfInBounds_toArray, List.set_cons_zero, List.set_cons_succ]; refine hK _ _ ?_; clear hK K)) | (refine Abs.step_skip rfl rfl (fun K hK => ?_); (simp only [Act.put, List.setIfInBounds_toArray, List.set_cons_zero, List.set_cons_succ]; refine hK _ _ ?_; clear hK K)))
  intro w2 hb2 hx0 hx1 hx2
  clear hx0 hx1 hx2
  simp only [Abs.T_setF, Abs.T_addA, Abs.T_push, Abs.T_start]
  have f_s2 := kp hb2 (f_s1)
  have rd_l2 := rd_l1.below hb2
  have rd_v2 := rd_v1.below hb2
  have hB2 := bB hB1 hb2
  obtain ⟨zs_a, zs_b, ls2⟩ := rcell f_s2
  go_wp2
  go_ret
  exact ⟨by simp, hB2⟩
include h hR hV in
theorem seg_rawIs :
    Calls Tryz.prog 95 #[.agg #[.int .i64 kd, .slice RA l.length rc, .int .i64 A, .int .i64 R, .int .i64 N, .int .i64 D, .slice VA vs.length vc, .int .i64 er]] w fun e w' => e = .returned (.bool (rwB l vs A R N D)) ∧ Below w.heap.size w w' := by
  unfold rwB zB
  by_cases hz : A = 0 ∧ R = 0 ∧ N = 0 ∧ D = 0
  · by_cases hn : (vs.length : Int) = rnSum l l.length
    · rw [decide_eq_true hz, decide_eq_true hn]
      exact seg_rawIs_3 RA VA rc vc l vs h kd A R N D er w hR hV hz hn
    · rw [decide_eq_false hn, Bool.false_and, Bool.and_false]
      exact seg_rawIs_2 RA VA rc vc l vs h kd A R N D er w hR hz hn
  · rw [decide_eq_false hz, Bool.false_and]
    exact seg_rawIs_1 RA VA rc vc l vs kd A R N D er w hz
end
end Go.Proofs.YtmpfbkeamihjbaaGreat

namespace Go.Proofs.YtmpfbkeamihjbaaGreat
open Go.RowKit

/-- a number's bytes -/
def ub (n : Nat) : List Int := if n < 128 then [(n : Int)] else ((n % 128 + 128 : Nat) : Int) :: ub (n / 128)
termination_by n
decreasing_by omega
theorem ub_low {n : Nat} (h : n < 128) : ub n = [(n : Int)] := by rw [ub, if_pos h]
theorem ub_high {n : Nat} (h : 128 ≤ n) : ub n = ((n % 128 + 128 : Nat) : Int) :: ub (n / 128) := by rw [ub, if_neg (by omega)]
theorem ub_pos (n : Nat) : 1 ≤ (ub n).length := by
  by_cases h : n < 128
  · rw [ub_low h]; exact Nat.le_refl _
  · rw [ub_high (by omega), List.length_cons]; omega
theorem ub_le : ∀ (k n : Nat), n < 128 ^ (k + 1) → (ub n).length ≤ k + 1
  | 0, n, h => by rw [ub_low (by simpa using h)]; exact Nat.le_refl _
  | k + 1, n, h => by
    by_cases h1 : n < 128
    · rw [ub_low h1, List.length_singleton]; omega
    · rw [ub_high (by omega), List.length_cons]
      have : n / 128 < 128 ^ (k + 1) := by
        rw [Nat.div_lt_iff_lt_mul (by decide)]
        rw [Nat.pow_succ] at h
        exact h
      have := ub_le k (n / 128) this
      omega
theorem ub_ten {n : Nat} (h : n < 18446744073709551616) : (ub n).length ≤ 10 := ub_le 9 n (Nat.lt_trans h (by decide))

/-- the number that stands for one with a sign -/
def fold (n : Int) : Nat := if 0 ≤ n then (2 * n).toNat else (-2 * n - 1).toNat
theorem fold_lt {n : Int} (h0 : -9223372036854775808 ≤ n) (h1 : n ≤ 9223372036854775807) : fold n < 18446744073709551616 := by unfold fold; split <;> omega
/-- the number with a sign for which one stands -/
def unfold' (n : Nat) : Int := if n % 2 = 0 then (n / 2 : Nat) else -((n / 2 : Nat) : Int) - 1
/-! ### bits -/
theorem and127 (n : Nat) (h : n < 18446744073709551616) : bits .and .u64 (n : Int) 127 = ((n % 128 : Nat) : Int) := by
  have e := u64_and_nat n 127 h (by decide)
  rw [show ((127 : Nat) : Int) = 127 from rfl] at e
  rw [e, show (127 : Nat) = 2 ^ 7 - 1 from rfl, Nat.and_two_pow_sub_one_eq_mod]
theorem or128 (n : Nat) (h : n < 128) : bits .or .u8 (n : Int) 128 = ((n + 128 : Nat) : Int) := by
  have e := u8_or_nat n 128 (by omega) (by decide)
  rw [show ((128 : Nat) : Int) = 128 from rfl] at e
  rw [e]
  have h0 := Nat.two_pow_add_eq_or_of_lt (show n < 2 ^ 7 by simpa using h) 1
  rw [Nat.or_comm, show (128 : Nat) ||| n = 2 ^ 7 * 1 ||| n from rfl, ← h0]
  congr 1
  omega
theorem xor_max (a : Nat) (h : a < 18446744073709551616) : bits .xor .u64 (a : Int) 18446744073709551615 = ((18446744073709551615 - a : Nat) : Int) := by
  have e := u64_xor_nat a 18446744073709551615 h (by decide)
  rw [show ((18446744073709551615 : Nat) : Int) = 18446744073709551615 from rfl] at e
  rw [e]
  congr 1
  have h1 : BitVec.ofNat 64 a ^^^ BitVec.allOnes 64 = ~~~(BitVec.ofNat 64 a) := BitVec.xor_allOnes
  have h2 := congrArg BitVec.toNat h1
  rw [BitVec.toNat_xor, BitVec.toNat_not, BitVec.toNat_allOnes, BitVec.toNat_ofNat] at h2
  have h3 : a % 2 ^ 64 = a := Nat.mod_eq_of_lt h
  rw [h3] at h2
  exact h2
theorem xor_zero (a : Nat) (h : a < 18446744073709551616) : bits .xor .u64 (a : Int) 0 = (a : Int) := by
  have e := u64_xor_nat a 0 h (by decide)
  rw [show ((0 : Nat) : Int) = 0 from rfl] at e
  rw [e, Nat.xor_zero]
theorem xor_neg (a : Nat) (h : a < 9223372036854775808) : bits .xor .i64 (a : Int) (-1) = -(a : Int) - 1 := by
  have h1 : BitVec.ofInt 64 (a : Int) ^^^ BitVec.ofInt 64 (-1) = ~~~(BitVec.ofInt 64 (a : Int)) := BitVec.xor_allOnes
  show IntKind.i64.wrap (((BitVec.ofInt 64 (a : Int) ^^^ BitVec.ofInt 64 (-1)).toNat : Nat) : Int) = _
  rw [h1, BitVec.toNat_not, BitVec.ofInt_natCast, BitVec.toNat_ofNat, Nat.mod_eq_of_lt (show a < 2 ^ 64 by omega)]
  simp [IntKind.wrap, IntKind.bits, IntKind.signed]
  omega
theorem xor_no (a : Nat) (h : a < 9223372036854775808) : bits .xor .i64 (a : Int) 0 = (a : Int) := by
  show IntKind.i64.wrap (((BitVec.ofInt 64 (a : Int) ^^^ BitVec.ofInt 64 0).toNat : Nat) : Int) = _
  rw [BitVec.toNat_xor, BitVec.ofInt_natCast, BitVec.toNat_ofNat, Nat.mod_eq_of_lt (show a < 2 ^ 64 by omega)]
  simp [IntKind.wrap, IntKind.bits, IntKind.signed]
  omega
theorem fold_pos (n : Int) (h0 : 0 ≤ n) (h1 : n ≤ 9223372036854775807) : bits .xor .u64 (IntKind.u64.wrap (wrap64 (n * 2))) (n / 9223372036854775808) = fold n := by
  have e1 : IntKind.u64.wrap (wrap64 (n * 2)) = (((2 * n).toNat : Nat) : Int) := by
    simp [IntKind.wrap, IntKind.bits, IntKind.signed, wrap64]
    omega
  have e2 : n / 9223372036854775808 = 0 := by omega
  rw [e1, e2, xor_zero _ (by omega)]
  unfold fold
  rw [if_pos h0]
theorem fold_neg (n : Int) (h0 : ¬ 0 ≤ n) (h1 : -9223372036854775808 ≤ n) : bits .xor .u64 (IntKind.u64.wrap (wrap64 (n * 2))) (IntKind.u64.wrap (n / 9223372036854775808)) = fold n := by
  have e1 : IntKind.u64.wrap (wrap64 (n * 2)) = (((18446744073709551616 + 2 * n).toNat : Nat) : Int) := by
    simp [IntKind.wrap, IntKind.bits, IntKind.signed, wrap64]
    omega
  have e2 : IntKind.u64.wrap (n / 9223372036854775808) = 18446744073709551615 := by
    simp [IntKind.wrap, IntKind.bits, IntKind.signed]
    omega
  rw [e1, e2, xor_max _ (by omega)]
  unfold fold
  rw [if_neg h0]
  congr 1
  omega
theorem and1 (n : Nat) (h : n < 18446744073709551616) : bits .and .u64 (n : Int) 1 = ((n % 2 : Nat) : Int) := by
  have e := u64_and_nat n 1 h (by decide)
  rw [show ((1 : Nat) : Int) = 1 from rfl] at e
  rw [e, show (1 : Nat) = 2 ^ 1 - 1 from rfl, Nat.and_two_pow_sub_one_eq_mod]
theorem unfold_bits (n : Nat) (h : n < 18446744073709551616) : bits .xor .i64 ((n : Int) / 2) (wrap64 (-wrap64 (bits .and .u64 (n : Int) 1))) = unfold' n := by
  rw [and1 n h]
  unfold unfold'
  have e0 : (n : Int) / 2 = ((n / 2 : Nat) : Int) := by omega
  rw [e0]
  split
  · next h0 =>
    rw [show wrap64 (-wrap64 ((n % 2 : Nat) : Int)) = 0 by unfold wrap64; omega, xor_no _ (by omega)]
  · next h0 =>
    rw [show wrap64 (-wrap64 ((n % 2 : Nat) : Int)) = -1 by unfold wrap64; omega, xor_neg _ (by omega)]
end Go.Proofs.YtmpfbkeamihjbaaGreat

namespace Go.Proofs.YtmpfbkeamihjbaaGreat
open Go.RowKit

/-! ### reading -/
/-- the number whose bytes come: the number, and how many they are; the error -/
def gt : List Int → Nat → Nat → Except Int (Nat × Nat)
  | [], _, _ => .error 6
  | x :: r, i, acc =>
    if i = 9 ∧ 1 < x then .error 7
    else if x = 0 ∧ 0 < i then .error 7
    else if x < 128 then .ok (acc + (x % 128).toNat * 128 ^ i, i + 1)
    else gt r (i + 1) (acc + (x % 128).toNat * 128 ^ i)
def gU (b : List Int) (at' : Nat) : Except Int (Nat × Nat) :=
  match gt (b.drop at') 0 0 with
  | .ok (n, k) => .ok (n, at' + k)
  | .error e => .error e
def pU (b : List Int) (most at' : Nat) : Except Int (Nat × Nat) :=
  match gU b at' with
  | .ok (n, nx) => if n ≤ most then .ok (n, nx) else .error 7
  | .error e => .error e
def pS (b : List Int) (at' : Nat) : Except Int (Int × Nat) :=
  match gU b at' with
  | .ok (n, nx) => .ok (unfold' n, nx)
  | .error e => .error e
def pK (b : List Int) (at' : Nat) : Except Int (Int × Nat) :=
  match b[at']? with
  | some k => if 1 ≤ k ∧ k ≤ 4 then .ok (k, at' + 1) else .error 7
  | none => .error 6
/-- one run, from a time on -/
def pR1 (b : List Int) (from' : Int) (at' : Nat) : Except Int (Rn × Nat) :=
  match pU b 281474976710656 at' with
  | .error e => .error e
  | .ok (f, n1) =>
    match pU b 256 n1 with
    | .error e => .error e
    | .ok (c, n2) =>
      if c = 0 then .error 7
      else if c = 1 then (if from' + (f : Int) ≤ 281474976710656 then .ok (⟨from' + f, 0, c⟩, n2) else .error 7)
      else
        match pU b 281474976710656 n2 with
        | .error e => .error e
        | .ok (s, n3) => if from' + (f : Int) + ((c : Int) - 1) * (s : Int) ≤ 281474976710656 then .ok (⟨from' + f, s, c⟩, n3) else .error 7
def rlast (r : Rn) : Int := r.f + (r.n - 1) * r.s
def pRs (b : List Int) : Nat → Int → Nat → Except Int (List Rn × Nat)
  | 0, _, at' => .ok ([], at')
  | m + 1, from', at' =>
    match pR1 b from' at' with
    | .error e => .error e
    | .ok (r, nx) =>
      match pRs b m (rlast r) nx with
      | .error e => .error e
      | .ok (l, ny) => .ok (r :: l, ny)
def pRuns (b : List Int) (at' : Nat) : Except Int (List Rn × Nat) :=
  match pU b 256 at' with
  | .error e => .error e
  | .ok (m, n1) =>
    if m = 0 then .error 7
    else match pRs b m 0 n1 with
      | .error e => .error e
      | .ok (l, n2) => if rnB l = true then .ok (l, n2) else .error 7
/-- A, R, N, D -/
structure L4 where
  A : Int
  R : Int
  N : Int
  D : Int
  deriving DecidableEq
def pLA (b : List Int) (R N D : Int) (at' : Nat) : Except Int (L4 × Nat) :=
  match pS b at' with
  | .error e => .error e
  | .ok (A, nx) => .ok (⟨A, R, N, D⟩, nx)
def pLN (b : List Int) (R : Int) (at' : Nat) : Except Int (L4 × Nat) :=
  match pS b at' with
  | .error e => .error e
  | .ok (N, n1) =>
    match pU b 281474976710656 n1 with
    | .error e => .error e
    | .ok (D, n2) => pLA b R N D n2
def pL (b : List Int) (kd : Int) (at' : Nat) : Except Int (L4 × Nat) :=
  if kd = 3 then
    match pU b 281474976710656 at' with
    | .error e => .error e
    | .ok (R, n1) => pLN b R n1
  else if kd = 2 then pLN b 0 at'
  else if kd = 1 then pLA b 0 0 1 at'
  else .ok (⟨0, 0, 0, 0⟩, at')
def pVs (b : List Int) : Nat → Int → Nat → Except Int (List Int × Nat)
  | 0, _, at' => .ok ([], at')
  | m + 1, v, at' =>
    match pS b at' with
    | .error e => .error e
    | .ok (d, n1) =>
      if bkV (v + d) = true then
        match pVs b m (v + d) n1 with
        | .error e => .error e
        | .ok (l, n2) => .ok ((v + d) :: l, n2)
      else .error 7

/-- a segment -/
structure Sg where
  kd : Int
  l : List Rn
  q : L4
  vs : List Int
  er : Int
  deriving DecidableEq
/-- may a segment be -/
def kdB (s : Sg) : Bool :=
  if s.kd = 1 then decide (s.q.N = 0) && lnB s.l s.q.A s.q.R s.q.N s.q.D s.vs.length
  else if s.kd = 2 then decide (s.q.N ≠ 0) && (decide (s.q.R = 0) && lnB s.l s.q.A s.q.R s.q.N s.q.D s.vs.length)
  else if s.kd = 3 then decide (s.q.R ≠ 0) && lnB s.l s.q.A s.q.R s.q.N s.q.D s.vs.length
  else rwB s.l s.vs s.q.A s.q.R s.q.N s.q.D
def sgB (s : Sg) : Bool := decide (1 ≤ s.kd) && (decide (s.kd ≤ 4) && (decide (0 ≤ s.er) && (decide (s.er ≤ 1099511627776) && (rnB s.l && kdB s))))

def pSeg (b : List Int) (at' : Nat) : Except Int (Sg × Nat) :=
  match pK b at' with
  | .error e => .error e
  | .ok (kd, n1) =>
    match pU b 1099511627776 n1 with
    | .error e => .error e
    | .ok (er, n2) =>
      match pRuns b n2 with
      | .error e => .error e
      | .ok (l, n3) =>
        match pL b kd n3 with
        | .error e => .error e
        | .ok (q, n4) =>
          match (if kd = 4 then pVs b (rnSum l l.length).toNat 0 n4 else .ok ([], n4)) with
          | .error e => .error e
          | .ok (vs, n5) => if sgB ⟨kd, l, q, vs, er⟩ = true then .ok (⟨kd, l, q, vs, er⟩, n5) else .error 7

/-! ### writing -/
def wR1 (from' : Int) (r : Rn) : List Int := ub (r.f - from').toNat ++ (ub r.n.toNat ++ (if r.n = 1 then [] else ub r.s.toNat))
def wRs : Int → List Rn → List Int
  | _, [] => []
  | from', r :: l => wR1 from' r ++ wRs (rlast r) l
def wRuns (l : List Rn) : List Int := ub l.length ++ wRs 0 l
def wL (kd : Int) (q : L4) : List Int :=
  (if kd = 3 then ub q.R.toNat else []) ++ ((if kd = 3 ∨ kd = 2 then ub (fold q.N) ++ ub q.D.toNat else []) ++ (if kd = 3 ∨ kd = 2 ∨ kd = 1 then ub (fold q.A) else []))
def wVs : Int → List Int → List Int
  | _, [] => []
  | a, v :: l => ub (fold (v - a)) ++ wVs v l
def wSeg (s : Sg) : List Int := s.kd :: (ub s.er.toNat ++ (wRuns s.l ++ (wL s.kd s.q ++ wVs 0 s.vs)))
end Go.Proofs.YtmpfbkeamihjbaaGreat

namespace Go.Proofs.YtmpfbkeamihjbaaGreat
open Go.RowKit
attribute [local go_sem] Oper.semAt_some

def kindsV : Value := .agg #[.nilFunc, .nilFunc, .func (Fn.func 90) #[] #[], .func (Fn.func 94) #[] #[], .func (Fn.func 92) #[] #[], .func (Fn.func 94) #[] #[], .func (Fn.func 93) #[] #[], .func (Fn.func 94) #[] #[], .func (Fn.func 95) #[] #[], .func (Fn.func 96) #[] #[]]
set_option maxRecDepth 100000 in
theorem seg_kinds (w : World) : Calls Tryz.prog 75 #[] w fun e w' => e = .returned kindsV ∧ Below w.heap.size w w' := by
  go_enter Tryz.func75, Tryz.ntmps75
  go_wp2
  generalize hW : w.alloc _ = W
  have hb : Below w.heap.size w W := by rw [← hW]; exact bA (b0 w) _
  have hg : W.heap[w.heap.size]? = some (.cells #[.nilFunc, .nilFunc, .func (Fn.func 90) #[] #[], .func (Fn.func 94) #[] #[], .func (Fn.func 92) #[] #[], .func (Fn.func 94) #[] #[], .func (Fn.func 93) #[] #[], .func (Fn.func 94) #[] #[], .func (Fn.func 95) #[] #[], .func (Fn.func 96) #[] #[]] 118 (0, 0)) := by rw [← hW]; exact na w _ _
  clear hW
  have zE := (rcell hg).1
  have zL := (rcell hg).2.2
  refine bodyPost_ret (v := kindsV) (by unfold kindsV; simp [results, Tryz.results75, go_sem, zE, zL]; try rfl) rfl ?_
  exact ⟨rfl, hb⟩
theorem kinds_at1 (w : World) : (Instr.index 118 kindsV (.int .i64 1)).run Tryz.prog w = .ok (.agg #[.func (Fn.func 90) #[] #[], .func (Fn.func 94) #[] #[]]) w := by kernel_rfl
theorem kinds_at2 (w : World) : (Instr.index 118 kindsV (.int .i64 2)).run Tryz.prog w = .ok (.agg #[.func (Fn.func 92) #[] #[], .func (Fn.func 94) #[] #[]]) w := by kernel_rfl
theorem kinds_at3 (w : World) : (Instr.index 118 kindsV (.int .i64 3)).run Tryz.prog w = .ok (.agg #[.func (Fn.func 93) #[] #[], .func (Fn.func 94) #[] #[]]) w := by kernel_rfl
theorem kinds_at4 (w : World) : (Instr.index 118 kindsV (.int .i64 4)).run Tryz.prog w = .ok (.agg #[.func (Fn.func 95) #[] #[], .func (Fn.func 96) #[] #[]]) w := by kernel_rfl

section
variable (RA VA : Option Addr) (rc vc : Nat) (l : List Rn) (vs : List Int) (kd A R N D er : Int) (w : World) (hR : RR w RA rc l) (hV : VR w VA vc vs)

set_option maxRecDepth 100000 in
set_option maxHeartbeats 1000000 in
include hR in
theorem kinds_1 (h : rnB l = true) : Calls Tryz.prog 90 #[.agg #[.int .i64 kd, .slice RA l.length rc, .int .i64 A, .int .i64 R, .int .i64 N, .int .i64 D, .slice VA vs.length vc, .int .i64 er]] w fun e w' => e = .returned (.bool (decide (N = 0) && lnB l A R N D vs.length)) ∧ Below w.heap.size w w' := by
  have c1 := fun w hR => seg_lineIs RA VA rc vs.length vc l h kd A R N D er w hR
  clear h
  generalize lnB l A R N D vs.length = b at *
  rcases Bool.eq_false_or_eq_true (N == 0) with u0 | u0
  · skip
    go_enter Tryz.func90, Tryz.ntmps90
    go_wp2_with fail
    refine (c1 _ (hR.below (bA (b0 _) (.cells #[.int .i64 kd, .slice RA l.length rc, .int .i64 A, .int .i64 R, .int .i64 N, .int .i64 D, .slice VA vs.length vc, .int .i64 er] 88)))).mono ?_
    rintro e w1 ⟨rfl, hb1⟩
    have f_s1 := kp hb1 (na w #[.int .i64 kd, .slice RA l.length rc, .int .i64 A, .int .i64 R, .int .i64 N, .int .i64 D, .slice VA vs.length vc, .int .i64 er] 88)
    have rd_l1 := (hR.below (bA (b0 _) (.cells #[.int .i64 kd, .slice RA l.length rc, .int .i64 A, .int .i64 R, .int .i64 N, .int .i64 D, .slice VA vs.length vc, .int .i64 er] 88))).below hb1
    have hB1 := bB (bA (b0 w) (.cells #[.int .i64 kd, .slice RA l.length rc, .int .i64 A, .int .i64 R, .int .i64 N, .int .i64 D, .slice VA vs.length vc, .int .i64 er] 88)) hb1
    obtain ⟨zs_a, zs_b, ls1⟩ := rcell f_s1
    go_wp2
    go_ret
    exact ⟨by simp_all, hB1⟩
  · skip
    go_enter Tryz.func90, Tryz.ntmps90
    go_wp2
    go_ret
    exact ⟨by simp_all, (bA (b0 w) (.cells #[.int .i64 kd, .slice RA l.length rc, .int .i64 A, .int .i64 R, .int .i64 N, .int .i64 D, .slice VA vs.length vc, .int .i64 er] 88))⟩
set_option maxRecDepth 100000 in
set_option maxHeartbeats 1000000 in
include hR in
theorem kinds_2 (h : rnB l = true) : Calls Tryz.prog 92 #[.agg #[.int .i64 kd, .slice RA l.length rc, .int .i64 A, .int .i64 R, .int .i64 N, .int .i64 D, .slice VA vs.length vc, .int .i64 er]] w fun e w' => e = .returned (.bool (decide (N ≠ 0) && (decide (R = 0) && lnB l A R N D vs.length))) ∧ Below w.heap.size w w' := by
  have c1 := fun w hR => seg_lineIs RA VA rc vs.length vc l h kd A R N D er w hR
  clear h
  generalize lnB l A R N D vs.length = b at *
  rcases Bool.eq_false_or_eq_true (N != 0) with u0 | u0
  · skip
    rcases Bool.eq_false_or_eq_true (R == 0) with u1 | u1
    · skip
      go_enter Tryz.func92, Tryz.ntmps92
      go_wp2_with fail
      refine (c1 _ (hR.below (bA (b0 _) (.cells #[.int .i64 kd, .slice RA l.length rc, .int .i64 A, .int .i64 R, .int .i64 N, .int .i64 D, .slice VA vs.length vc, .int .i64 er] 88)))).mono ?_
      rintro e w1 ⟨rfl, hb1⟩
      have f_s1 := kp hb1 (na w #[.int .i64 kd, .slice RA l.length rc, .int .i64 A, .int .i64 R, .int .i64 N, .int .i64 D, .slice VA vs.length vc, .int .i64 er] 88)
      have rd_l1 := (hR.below (bA (b0 _) (.cells #[.int .i64 kd, .slice RA l.length rc, .int .i64 A, .int .i64 R, .int .i64 N, .int .i64 D, .slice VA vs.length vc, .int .i64 er] 88))).below hb1
      have hB1 := bB (bA (b0 w) (.cells #[.int .i64 kd, .slice RA l.length rc, .int .i64 A, .int .i64 R, .int .i64 N, .int .i64 D, .slice VA vs.length vc, .int .i64 er] 88)) hb1
      obtain ⟨zs_a, zs_b, ls1⟩ := rcell f_s1
      go_wp2
      go_ret
      exact ⟨by simp_all, hB1⟩
    · skip
      go_enter Tryz.func92, Tryz.ntmps92
      go_wp2
      go_ret
      exact ⟨by simp_all, (bA (b0 w) (.cells #[.int .i64 kd, .slice RA l.length rc, .int .i64 A, .int .i64 R, .int .i64 N, .int .i64 D, .slice VA vs.length vc, .int .i64 er] 88))⟩
  · skip
    go_enter Tryz.func92, Tryz.ntmps92
    go_wp2
    go_ret
    exact ⟨by simp_all, (bA (b0 w) (.cells #[.int .i64 kd, .slice RA l.length rc, .int .i64 A, .int .i64 R, .int .i64 N, .int .i64 D, .slice VA vs.length vc, .int .i64 er] 88))⟩
set_option maxRecDepth 100000 in
set_option maxHeartbeats 1000000 in
include hR in
theorem kinds_3 (h : rnB l = true) : Calls Tryz.prog 93 #[.agg #[.int .i64 kd, .slice RA l.length rc, .int .i64 A, .int .i64 R, .int .i64 N, .int .i64 D, .slice VA vs.length vc, .int .i64 er]] w fun e w' => e = .returned (.bool (decide (R ≠ 0) && lnB l A R N D vs.length)) ∧ Below w.heap.size w w' := by
  have c1 := fun w hR => seg_lineIs RA VA rc vs.length vc l h kd A R N D er w hR
  clear h
  generalize lnB l A R N D vs.length = b at *
  rcases Bool.eq_false_or_eq_true (R != 0) with u0 | u0
  · skip
    go_enter Tryz.func93, Tryz.ntmps93
    go_wp2_with fail
    refine (c1 _ (hR.below (bA (b0 _) (.cells #[.int .i64 kd, .slice RA l.length rc, .int .i64 A, .int .i64 R, .int .i64 N, .int .i64 D, .slice VA vs.length vc, .int .i64 er] 88)))).mono ?_
    rintro e w1 ⟨rfl, hb1⟩
    have f_s1 := kp hb1 (na w #[.int .i64 kd, .slice RA l.length rc, .int .i64 A, .int .i64 R, .int .i64 N, .int .i64 D, .slice VA vs.length vc, .int .i64 er] 88)
    have rd_l1 := (hR.below (bA (b0 _) (.cells #[.int .i64 kd, .slice RA l.length rc, .int .i64 A, .int .i64 R, .int .i64 N, .int .i64 D, .slice VA vs.length vc, .int .i64 er] 88))).below hb1
    have hB1 := bB (bA (b0 w) (.cells #[.int .i64 kd, .slice RA l.length rc, .int .i64 A, .int .i64 R, .int .i64 N, .int .i64 D, .slice VA vs.length vc, .int .i64 er] 88)) hb1
    obtain ⟨zs_a, zs_b, ls1⟩ := rcell f_s1
    go_wp2
    go_ret
    exact ⟨by simp_all, hB1⟩
  · skip
    go_enter Tryz.func93, Tryz.ntmps93
    go_wp2
    go_ret
    exact ⟨by simp_all, (bA (b0 w) (.cells #[.int .i64 kd, .slice RA l.length rc, .int .i64 A, .int .i64 R, .int .i64 N, .int .i64 D, .slice VA vs.length vc, .int .i64 er] 88))⟩
set_option maxRecDepth 100000 in
set_option maxHeartbeats 4000000 in
include hR hV in
theorem segis_no1 (h0 : ¬ 1 ≤ kd) : Calls Tryz.prog 49 #[.agg #[.int .i64 kd, .slice RA l.length rc, .int .i64 A, .int .i64 R, .int .i64 N, .int .i64 D, .slice VA vs.length vc, .int .i64 er]] w fun e w' => e = .returned (.bool (false)) ∧ Below w.heap.size w w' := by
  go_enter Tryz.func49, Tryz.ntmps49
  go_wp2_with fail
  have f_s1 := (na w #[.int .i64 kd, .slice RA l.length rc, .int .i64 A, .int .i64 R, .int .i64 N, .int .i64 D, .slice VA vs.length vc, .int .i64 er] 88)
  have rd_l1 := (hR.below (bA (b0 _) (.cells #[.int .i64 kd, .slice RA l.length rc, .int .i64 A, .int .i64 R, .int .i64 N, .int .i64 D, .slice VA vs.length vc, .int .i64 er] 88)))
  have rd_v1 := (hV.below (bA (b0 _) (.cells #[.int .i64 kd, .slice RA l.length rc, .int .i64 A, .int .i64 R, .int .i64 N, .int .i64 D, .slice VA vs.length vc, .int .i64 er] 88)))
  have hB1 := (bA (b0 w) (.cells #[.int .i64 kd, .slice RA l.length rc, .int .i64 A, .int .i64 R, .int .i64 N, .int .i64 D, .slice VA vs.length vc, .int .i64 er] 88))
  have ls1 := (rcell f_s1).2.2
  refine Abs.wp_region_abs (Abs.cls0 _) [0, 1, 2, 3, 4, 5, 6, 7, 8, 9, 10, 11, 12, 13, 14, 15, 16, 17, 18, 19, 20, 21, 22, 23, 24, 25, 26, 27, 28, 29, 30, 31, 32, 33, 34, 35, 36, 37, 38, 39] (by kernel_rfl) (by kernel_rfl) (Below.refl _ _).drew ?_
  have d0 : decide (1 ≤ kd) = false := by simp; omega
  repeat (first | (refine Abs.step_pure rfl rfl (fun K hK => ?_); go_simp; (try go_bits); (first | refine hK _ _ ?_ | (simp only [↓IntWalk.iteOmega]; go_simp; (try go_bits); refine hK _ _ ?_)); clear hK K) | (refine Abs.step_load (v := ?_) rfl rfl (by kernel_rfl) rfl (fun w0 hI => ?_) (fun K hK => ?_); rotate_left; (· have z0 := (rcell (kp hI (f_s1))).1; go_simp; rfl); (simp only [Act.put, List.setIfInBounds_toArray, List.set_cons_zero, List.set_cons_succ]; refine hK _ _ ?_; clear hK K)) | (refine Abs.step_skip rfl rfl (fun K hK => ?_); (simp only [Act.put, List.setIfInBounds_toArray, List.set_cons_zero, List.set_cons_succ]; refine hK _ _ ?_; clear hK K)))
  intro w2 hb2 hx0 hx1 hx2
  clear hx0 hx1 hx2
  simp only [Abs.T_setF, Abs.T_addA, Abs.T_push, Abs.T_start]
  have f_s2 := kp hb2 (f_s1)
  have rd_l2 := rd_l1.below hb2
  have rd_v2 := rd_v1.below hb2
  have hB2 := bB hB1 hb2
  obtain ⟨zs_a, zs_b, ls2⟩ := rcell f_s2
  go_wp2
  go_ret
  exact ⟨by first | rfl | simp, hB2⟩
set_option maxRecDepth 100000 in
set_option maxHeartbeats 4000000 in
include hR hV in
theorem segis_no2 (h0 : 1 ≤ kd)  (h1 : ¬ kd ≤ 4) : Calls Tryz.prog 49 #[.agg #[.int .i64 kd, .slice RA l.length rc, .int .i64 A, .int .i64 R, .int .i64 N, .int .i64 D, .slice VA vs.length vc, .int .i64 er]] w fun e w' => e = .returned (.bool (false)) ∧ Below w.heap.size w w' := by
  go_enter Tryz.func49, Tryz.ntmps49
  go_wp2_with fail
  have f_s1 := (na w #[.int .i64 kd, .slice RA l.length rc, .int .i64 A, .int .i64 R, .int .i64 N, .int .i64 D, .slice VA vs.length vc, .int .i64 er] 88)
  have rd_l1 := (hR.below (bA (b0 _) (.cells #[.int .i64 kd, .slice RA l.length rc, .int .i64 A, .int .i64 R, .int .i64 N, .int .i64 D, .slice VA vs.length vc, .int .i64 er] 88)))
  have rd_v1 := (hV.below (bA (b0 _) (.cells #[.int .i64 kd, .slice RA l.length rc, .int .i64 A, .int .i64 R, .int .i64 N, .int .i64 D, .slice VA vs.length vc, .int .i64 er] 88)))
  have hB1 := (bA (b0 w) (.cells #[.int .i64 kd, .slice RA l.length rc, .int .i64 A, .int .i64 R, .int .i64 N, .int .i64 D, .slice VA vs.length vc, .int .i64 er] 88))
  have ls1 := (rcell f_s1).2.2
  refine Abs.wp_region_abs (Abs.cls0 _) [0, 1, 2, 3, 4, 5, 6, 7, 8, 9, 10, 11, 12, 13, 14, 15, 16, 17, 18, 19, 20, 21, 22, 23, 24, 25, 26, 27, 28, 29, 30, 31, 32, 33, 34, 35, 36, 37, 38, 39] (by kernel_rfl) (by kernel_rfl) (Below.refl _ _).drew ?_
  have d0 : decide (1 ≤ kd) = true := by simp; omega
  have d1 : decide (kd ≤ 4) = false := by simp; omega
  repeat (first | (refine Abs.step_pure rfl rfl (fun K hK => ?_); go_simp; (try go_bits); (first | refine hK _ _ ?_ | (simp only [↓IntWalk.iteOmega]; go_simp; (try go_bits); refine hK _ _ ?_)); clear hK K) | (refine Abs.step_load (v := ?_) rfl rfl (by kernel_rfl) rfl (fun w0 hI => ?_) (fun K hK => ?_); rotate_left; (· have z0 := (rcell (kp hI (f_s1))).1; go_simp; rfl); (simp only [Act.put, List.setIfInBounds_toArray, List.set_cons_zero, List.set_cons_succ]; refine hK _ _ ?_; clear hK K)) | (refine Abs.step_skip rfl rfl (fun K hK => ?_); (simp only [Act.put, List.setIfInBounds_toArray, List.set_cons_zero, List.set_cons_succ]; refine hK _ _ ?_; clear hK K)))
  intro w2 hb2 hx0 hx1 hx2
  clear hx0 hx1 hx2
  simp only [Abs.T_setF, Abs.T_addA, Abs.T_push, Abs.T_start]
  have f_s2 := kp hb2 (f_s1)
  have rd_l2 := rd_l1.below hb2
  have rd_v2 := rd_v1.below hb2
  have hB2 := bB hB1 hb2
  obtain ⟨zs_a, zs_b, ls2⟩ := rcell f_s2
  go_wp2
  go_ret
  exact ⟨by first | rfl | simp, hB2⟩
set_option maxRecDepth 100000 in
set_option maxHeartbeats 4000000 in
include hR hV in
theorem segis_no3 (h0 : 1 ≤ kd)  (h1 : kd ≤ 4)  (h2 : ¬ 0 ≤ er) : Calls Tryz.prog 49 #[.agg #[.int .i64 kd, .slice RA l.length rc, .int .i64 A, .int .i64 R, .int .i64 N, .int .i64 D, .slice VA vs.length vc, .int .i64 er]] w fun e w' => e = .returned (.bool (false)) ∧ Below w.heap.size w w' := by
  go_enter Tryz.func49, Tryz.ntmps49
  go_wp2_with fail
  have f_s1 := (na w #[.int .i64 kd, .slice RA l.length rc, .int .i64 A, .int .i64 R, .int .i64 N, .int .i64 D, .slice VA vs.length vc, .int .i64 er] 88)
  have rd_l1 := (hR.below (bA (b0 _) (.cells #[.int .i64 kd, .slice RA l.length rc, .int .i64 A, .int .i64 R, .int .i64 N, .int .i64 D, .slice VA vs.length vc, .int .i64 er] 88)))
  have rd_v1 := (hV.below (bA (b0 _) (.cells #[.int .i64 kd, .slice RA l.length rc, .int .i64 A, .int .i64 R, .int .i64 N, .int .i64 D, .slice VA vs.length vc, .int .i64 er] 88)))
  have hB1 := (bA (b0 w) (.cells #[.int .i64 kd, .slice RA l.length rc, .int .i64 A, .int .i64 R, .int .i64 N, .int .i64 D, .slice VA vs.length vc, .int .i64 er] 88))
  have ls1 := (rcell f_s1).2.2
  refine Abs.wp_region_abs (Abs.cls0 _) [0, 1, 2, 3, 4, 5, 6, 7, 8, 9, 10, 11, 12, 13, 14, 15, 16, 17, 18, 19, 20, 21, 22, 23, 24, 25, 26, 27, 28, 29, 30, 31, 32, 33, 34, 35, 36, 37, 38, 39] (by kernel_rfl) (by kernel_rfl) (Below.refl _ _).drew ?_
  have d0 : decide (1 ≤ kd) = true := by simp; omega
  have d1 : decide (kd ≤ 4) = true := by simp; omega
  have d2 : decide (0 ≤ er) = false := by simp; omega
  repeat (first | (refine Abs.step_pure rfl rfl (fun K hK => ?_); go_simp; (try go_bits); (first | refine hK _ _ ?_ | (simp only [↓IntWalk.iteOmega]; go_simp; (try go_bits); refine hK _ _ ?_)); clear hK K) | (refine Abs.step_load (v := ?_) rfl rfl (by kernel_rfl) rfl (fun w0 hI => ?_) (fun K hK => ?_); rotate_left; (· have z0 := (rcell (kp hI (f_s1))).1; go_simp; rfl); (simp only [Act.put, List.setIfInBounds_toArray, List.set_cons_zero, List.set_cons_succ]; refine hK _ _ ?_; clear hK K)) | (refine Abs.step_skip rfl rfl (fun K hK => ?_); (simp only [Act.put, List.setIfInBounds_toArray, List.set_cons_zero, List.set_cons_succ]; refine hK _ _ ?_; clear hK K)))
  intro w2 hb2 hx0 hx1 hx2
  clear hx0 hx1 hx2
  simp only [Abs.T_setF, Abs.T_addA, Abs.T_push, Abs.T_start]
  have f_s2 := kp hb2 (f_s1)
  have rd_l2 := rd_l1.below hb2
  have rd_v2 := rd_v1.below hb2
  have hB2 := bB hB1 hb2
  obtain ⟨zs_a, zs_b, ls2⟩ := rcell f_s2
  go_wp2
  go_ret
  exact ⟨by first | rfl | simp, hB2⟩
set_option maxRecDepth 100000 in
set_option maxHeartbeats 4000000 in
include hR hV in
theorem segis_no4 (h0 : 1 ≤ kd)  (h1 : kd ≤ 4)  (h2 : 0 ≤ er)  (h3 : ¬ er ≤ 1099511627776) : Calls Tryz.prog 49 #[.agg #[.int .i64 kd, .slice RA l.length rc, .int .i64 A, .int .i64 R, .int .i64 N, .int .i64 D, .slice VA vs.length vc, .int .i64 er]] w fun e w' => e = .returned (.bool (false)) ∧ Below w.heap.size w w' := by
  go_enter Tryz.func49, Tryz.ntmps49
  go_wp2_with fail
  have f_s1 := (na w #[.int .i64 kd, .slice RA l.length rc, .int .i64 A, .int .i64 R, .int .i64 N, .int .i64 D, .slice VA vs.length vc, .int .i64 er] 88)
  have rd_l1 := (hR.below (bA (b0 _) (.cells #[.int .i64 kd, .slice RA l.length rc, .int .i64 A, .int .i64 R, .int .i64 N, .int .i64 D, .slice VA vs.length vc, .int .i64 er] 88)))
  have rd_v1 := (hV.below (bA (b0 _) (.cells #[.int .i64 kd, .slice RA l.length rc, .int .i64 A, .int .i64 R, .int .i64 N, .int .i64 D, .slice VA vs.length vc, .int .i64 er] 88)))
  have hB1 := (bA (b0 w) (.cells #[.int .i64 kd, .slice RA l.length rc, .int .i64 A, .int .i64 R, .int .i64 N, .int .i64 D, .slice VA vs.length vc, .int .i64 er] 88))
  have ls1 := (rcell f_s1).2.2
  refine Abs.wp_region_abs (Abs.cls0 _) [0, 1, 2, 3, 4, 5, 6, 7, 8, 9, 10, 11, 12, 13, 14, 15, 16, 17, 18, 19, 20, 21, 22, 23, 24, 25, 26, 27, 28, 29, 30, 31, 32, 33, 34, 35, 36, 37, 38, 39] (by kernel_rfl) (by kernel_rfl) (Below.refl _ _).drew ?_
  have d0 : decide (1 ≤ kd) = true := by simp; omega
  have d1 : decide (kd ≤ 4) = true := by simp; omega
  have d2 : decide (0 ≤ er) = true := by simp; omega
  have d3 : decide (er ≤ 1099511627776) = false := by simp; omega
  repeat (first | (refine Abs.step_pure rfl rfl (fun K hK => ?_); go_simp; (try go_bits); (first | refine hK _ _ ?_ | (simp only [↓IntWalk.iteOmega]; go_simp; (try go_bits); refine hK _ _ ?_)); clear hK K) | (refine Abs.step_load (v := ?_) rfl rfl (by kernel_rfl) rfl (fun w0 hI => ?_) (fun K hK => ?_); rotate_left; (· have z0 := (rcell (kp hI (f_s1))).1; go_simp; rfl); (simp only [Act.put, List.setIfInBounds_toArray, List.set_cons_zero, List.set_cons_succ]; refine hK _ _ ?_; clear hK K)) | (refine Abs.step_skip rfl rfl (fun K hK => ?_); (simp only [Act.put, List.setIfInBounds_toArray, List.set_cons_zero, List.set_cons_succ]; refine hK _ _ ?_; clear hK K)))
  intro w2 hb2 hx0 hx1 hx2
  clear hx0 hx1 hx2
  simp only [Abs.T_setF, Abs.T_addA, Abs.T_push, Abs.T_start]
  have f_s2 := kp hb2 (f_s1)
  have rd_l2 := rd_l1.below hb2
  have rd_v2 := rd_v1.below hb2
  have hB2 := bB hB1 hb2
  obtain ⟨zs_a, zs_b, ls2⟩ := rcell f_s2
  go_wp2
  go_ret
  exact ⟨by first | rfl | simp, hB2⟩
set_option maxRecDepth 100000 in
set_option maxHeartbeats 4000000 in
include hR hV in
theorem segis_no5 (h0 : 1 ≤ kd)  (h1 : kd ≤ 4)  (h2 : 0 ≤ er)  (h3 : er ≤ 1099511627776) (h : rnB l = false) : Calls Tryz.prog 49 #[.agg #[.int .i64 kd, .slice RA l.length rc, .int .i64 A, .int .i64 R, .int .i64 N, .int .i64 D, .slice VA vs.length vc, .int .i64 er]] w fun e w' => e = .returned (.bool (false)) ∧ Below w.heap.size w w' := by
  have c1 := fun w hR => runs_Check RA rc l w hR
  rw [h] at c1
  clear h
  go_enter Tryz.func49, Tryz.ntmps49
  go_wp2_with fail
  have f_s1 := (na w #[.int .i64 kd, .slice RA l.length rc, .int .i64 A, .int .i64 R, .int .i64 N, .int .i64 D, .slice VA vs.length vc, .int .i64 er] 88)
  have rd_l1 := (hR.below (bA (b0 _) (.cells #[.int .i64 kd, .slice RA l.length rc, .int .i64 A, .int .i64 R, .int .i64 N, .int .i64 D, .slice VA vs.length vc, .int .i64 er] 88)))
  have rd_v1 := (hV.below (bA (b0 _) (.cells #[.int .i64 kd, .slice RA l.length rc, .int .i64 A, .int .i64 R, .int .i64 N, .int .i64 D, .slice VA vs.length vc, .int .i64 er] 88)))
  have hB1 := (bA (b0 w) (.cells #[.int .i64 kd, .slice RA l.length rc, .int .i64 A, .int .i64 R, .int .i64 N, .int .i64 D, .slice VA vs.length vc, .int .i64 er] 88))
  have ls1 := (rcell f_s1).2.2
  refine Abs.wp_region_abs (Abs.cls0 _) [0, 1, 2, 3, 4, 5, 6, 7, 8, 9, 10, 11, 12, 13, 14, 15, 16, 17, 18, 19, 20, 21, 22, 23, 24, 25, 26, 27, 28, 29, 30, 31, 32, 33, 34, 35, 36, 37, 38, 39] (by kernel_rfl) (by kernel_rfl) (Below.refl _ _).drew ?_
  have d0 : decide (1 ≤ kd) = true := by simp; omega
  have d1 : decide (kd ≤ 4) = true := by simp; omega
  have d2 : decide (0 ≤ er) = true := by simp; omega
  have d3 : decide (er ≤ 1099511627776) = true := by simp; omega
  repeat (first | (refine Abs.step_pure rfl rfl (fun K hK => ?_); go_simp; (try go_bits); (first | refine hK _ _ ?_ | (simp only [↓IntWalk.iteOmega]; go_simp; (try go_bits); refine hK _ _ ?_)); clear hK K) | (refine Abs.step_load (v := ?_) rfl rfl (by kernel_rfl) rfl (fun w0 hI => ?_) (fun K hK => ?_); rotate_left; (· have z0 := (rcell (kp hI (f_s1))).1; go_simp; rfl); (simp only [Act.put, List.setIfInBounds_toArray, List.set_cons_zero, List.set_cons_succ]; refine hK _ _ ?_; clear hK K)) | (refine Abs.step_skip rfl rfl (fun K hK => ?_); (simp only [Act.put, List.setIfInBounds_toArray, List.set_cons_zero, List.set_cons_succ]; refine hK _ _ ?_; clear hK K)))
  (refine Abs.step_call_val (f := ?_) (args := ?_) (v := ?_) rfl rfl rfl rfl (fun w0 => ?_) (fun w0 hI => ?_) (fun K hK => ?_); rotate_left 3; (· go_simp; (constructor <;> rfl)); (· exact c1 _ (rd_l1.below hI)); (simp only [Act.put, List.setIfInBounds_toArray, List.set_cons_zero, List.set_cons_succ]; refine hK _ _ ?_; clear hK K))
  repeat (first | (refine Abs.step_pure rfl rfl (fun K hK => ?_); go_simp; (try go_bits); (first | refine hK _ _ ?_ | (simp only [↓IntWalk.iteOmega]; go_simp; (try go_bits); refine hK _ _ ?_)); clear hK K) | (refine Abs.step_load (v := ?_) rfl rfl (by kernel_rfl) rfl (fun w0 hI => ?_) (fun K hK => ?_); rotate_left; (· have z0 := (rcell (kp hI (f_s1))).1; go_simp; rfl); (simp only [Act.put, List.setIfInBounds_toArray, List.set_cons_zero, List.set_cons_succ]; refine hK _ _ ?_; clear hK K)) | (refine Abs.step_skip rfl rfl (fun K hK => ?_); (simp only [Act.put, List.setIfInBounds_toArray, List.set_cons_zero, List.set_cons_succ]; refine hK _ _ ?_; clear hK K)))
  intro w2 hb2 hx0 hx1 hx2
  clear hx0 hx1 hx2
  simp only [Abs.T_setF, Abs.T_addA, Abs.T_push, Abs.T_start]
  have f_s2 := kp hb2 (f_s1)
  have rd_l2 := rd_l1.below hb2
  have rd_v2 := rd_v1.below hb2
  have hB2 := bB hB1 hb2
  obtain ⟨zs_a, zs_b, ls2⟩ := rcell f_s2
  go_wp2
  go_ret
  exact ⟨by first | rfl | simp, hB2⟩
set_option maxRecDepth 100000 in
set_option maxHeartbeats 4000000 in
include hR hV in
theorem segis_1 (h2 : 0 ≤ er) (h3 : er ≤ 1099511627776) (h : rnB l = true) : Calls Tryz.prog 49 #[.agg #[.int .i64 1, .slice RA l.length rc, .int .i64 A, .int .i64 R, .int .i64 N, .int .i64 D, .slice VA vs.length vc, .int .i64 er]] w fun e w' => e = .returned (.bool (decide (N = 0) && lnB l A R N D vs.length)) ∧ Below w.heap.size w w' := by
  have c1 := fun w hR => runs_Check RA rc l w hR
  rw [h] at c1
  have c2 := seg_kinds
  have k1 := kinds_at1
  have c3 := fun (w : World) (hR : RR w RA rc l) (_ : VR w VA vc vs) => kinds_1 RA VA rc vc l vs 1 A R N D er w hR h
  clear h
  generalize (decide (N = 0) && lnB l A R N D vs.length) = b at *
  go_enter Tryz.func49, Tryz.ntmps49
  go_wp2_with fail
  have f_s1 := (na w #[.int .i64 1, .slice RA l.length rc, .int .i64 A, .int .i64 R, .int .i64 N, .int .i64 D, .slice VA vs.length vc, .int .i64 er] 88)
  have rd_l1 := (hR.below (bA (b0 _) (.cells #[.int .i64 1, .slice RA l.length rc, .int .i64 A, .int .i64 R, .int .i64 N, .int .i64 D, .slice VA vs.length vc, .int .i64 er] 88)))
  have rd_v1 := (hV.below (bA (b0 _) (.cells #[.int .i64 1, .slice RA l.length rc, .int .i64 A, .int .i64 R, .int .i64 N, .int .i64 D, .slice VA vs.length vc, .int .i64 er] 88)))
  have hB1 := (bA (b0 w) (.cells #[.int .i64 1, .slice RA l.length rc, .int .i64 A, .int .i64 R, .int .i64 N, .int .i64 D, .slice VA vs.length vc, .int .i64 er] 88))
  have ls1 := (rcell f_s1).2.2
  refine Abs.wp_region_abs (Abs.cls0 _) [0, 1, 2, 3, 4, 5, 6, 7, 8, 9, 10, 11, 12, 13, 14, 15, 16, 17, 18, 19, 20, 21, 22, 23, 24, 25, 26, 27, 28, 29, 30, 31, 32, 33, 34, 35, 36, 37, 38, 39] (by kernel_rfl) (by kernel_rfl) (Below.refl _ _).drew ?_
  have d2 : decide (0 ≤ er) = true := by simp; omega
  have d3 : decide (er ≤ 1099511627776) = true := by simp; omega
  repeat (first | (refine Abs.step_pure rfl rfl (fun K hK => ?_); go_simp; (try go_bits); (first | refine hK _ _ ?_ | (simp only [↓IntWalk.iteOmega]; go_simp; (try go_bits); refine hK _ _ ?_)); clear hK K) | (refine Abs.step_load (v := ?_) rfl rfl (by kernel_rfl) rfl (fun w0 hI => ?_) (fun K hK => ?_); rotate_left; (· have z0 := (rcell (kp hI (f_s1))).1; go_simp; rfl); (simp only [Act.put, List.setIfInBounds_toArray, List.set_cons_zero, List.set_cons_succ]; refine hK _ _ ?_; clear hK K)) | (refine Abs.step_skip rfl rfl (fun K hK => ?_); (simp only [Act.put, List.setIfInBounds_toArray, List.set_cons_zero, List.set_cons_succ]; refine hK _ _ ?_; clear hK K)))
  (refine Abs.step_call_val (f := ?_) (args := ?_) (v := ?_) rfl rfl rfl rfl (fun w0 => ?_) (fun w0 hI => ?_) (fun K hK => ?_); rotate_left 3; (· go_simp; (constructor <;> rfl)); (· exact c1 _ (rd_l1.below hI)); (simp only [Act.put, List.setIfInBounds_toArray, List.set_cons_zero, List.set_cons_succ]; refine hK _ _ ?_; clear hK K))
  repeat (first | (refine Abs.step_pure rfl rfl (fun K hK => ?_); go_simp; (try go_bits); (first | refine hK _ _ ?_ | (simp only [↓IntWalk.iteOmega]; go_simp; (try go_bits); refine hK _ _ ?_)); clear hK K) | (refine Abs.step_load (v := ?_) rfl rfl (by kernel_rfl) rfl (fun w0 hI => ?_) (fun K hK => ?_); rotate_left; (· have z0 := (rcell (kp hI (f_s1))).1; go_simp; rfl); (simp only [Act.put, List.setIfInBounds_toArray, List.set_cons_zero, List.set_cons_succ]; refine hK _ _ ?_; clear hK K)) | (refine Abs.step_skip rfl rfl (fun K hK => ?_); (simp only [Act.put, List.setIfInBounds_toArray, List.set_cons_zero, List.set_cons_succ]; refine hK _ _ ?_; clear hK K)))
  (refine Abs.step_call_val (f := ?_) (args := ?_) (v := ?_) rfl rfl rfl rfl (fun w0 => ?_) (fun w0 hI => ?_) (fun K hK => ?_); rotate_left 3; (· go_simp; (constructor <;> rfl)); (· exact c2 _); (simp only [Act.put, List.setIfInBounds_toArray, List.set_cons_zero, List.set_cons_succ]; refine hK _ _ ?_; clear hK K))
  repeat (first | (refine Abs.step_pure rfl rfl (fun K hK => ?_); go_simp; (try go_bits); (first | refine hK _ _ ?_ | (simp only [↓IntWalk.iteOmega]; go_simp; (try go_bits); refine hK _ _ ?_)); clear hK K) | (refine Abs.step_load (v := ?_) rfl rfl (by kernel_rfl) rfl (fun w0 hI => ?_) (fun K hK => ?_); rotate_left; (· have z0 := (rcell (kp hI (f_s1))).1; go_simp; rfl); (simp only [Act.put, List.setIfInBounds_toArray, List.set_cons_zero, List.set_cons_succ]; refine hK _ _ ?_; clear hK K)) | (refine Abs.step_skip rfl rfl (fun K hK => ?_); (simp only [Act.put, List.setIfInBounds_toArray, List.set_cons_zero, List.set_cons_succ]; refine hK _ _ ?_; clear hK K)))
  (refine Abs.step_call_val (f := ?_) (args := ?_) (v := ?_) rfl rfl rfl rfl (fun w0 => ?_) (fun w0 hI => ?_) (fun K hK => ?_); rotate_left 3; (· go_simp; (constructor <;> rfl)); (· exact c3 _ (rd_l1.below hI) (rd_v1.below hI)); (simp only [Act.put, List.setIfInBounds_toArray, List.set_cons_zero, List.set_cons_succ]; refine hK _ _ ?_; clear hK K))
  repeat (first | (refine Abs.step_pure rfl rfl (fun K hK => ?_); go_simp; (try go_bits); (first | refine hK _ _ ?_ | (simp only [↓IntWalk.iteOmega]; go_simp; (try go_bits); refine hK _ _ ?_)); clear hK K) | (refine Abs.step_load (v := ?_) rfl rfl (by kernel_rfl) rfl (fun w0 hI => ?_) (fun K hK => ?_); rotate_left; (· have z0 := (rcell (kp hI (f_s1))).1; go_simp; rfl); (simp only [Act.put, List.setIfInBounds_toArray, List.set_cons_zero, List.set_cons_succ]; refine hK _ _ ?_; clear hK K)) | (refine Abs.step_skip rfl rfl (fun K hK => ?_); (simp only [Act.put, List.setIfInBounds_toArray, List.set_cons_zero, List.set_cons_succ]; refine hK _ _ ?_; clear hK K)))
  intro w2 hb2 hx0 hx1 hx2
  clear hx0 hx1 hx2
  simp only [Abs.T_setF, Abs.T_addA, Abs.T_push, Abs.T_start]
  have f_s2 := kp hb2 (f_s1)
  have rd_l2 := rd_l1.below hb2
  have rd_v2 := rd_v1.below hb2
  have hB2 := bB hB1 hb2
  obtain ⟨zs_a, zs_b, ls2⟩ := rcell f_s2
  go_wp2
  go_ret
  exact ⟨by first | rfl | simp, hB2⟩
set_option maxRecDepth 100000 in
set_option maxHeartbeats 4000000 in
include hR hV in
theorem segis_2 (h2 : 0 ≤ er) (h3 : er ≤ 1099511627776) (h : rnB l = true) : Calls Tryz.prog 49 #[.agg #[.int .i64 2, .slice RA l.length rc, .int .i64 A, .int .i64 R, .int .i64 N, .int .i64 D, .slice VA vs.length vc, .int .i64 er]] w fun e w' => e = .returned (.bool (decide (N ≠ 0) && (decide (R = 0) && lnB l A R N D vs.length))) ∧ Below w.heap.size w w' := by
  have c1 := fun w hR => runs_Check RA rc l w hR
  rw [h] at c1
  have c2 := seg_kinds
  have k1 := kinds_at2
  have c3 := fun (w : World) (hR : RR w RA rc l) (_ : VR w VA vc vs) => kinds_2 RA VA rc vc l vs 2 A R N D er w hR h
  clear h
  generalize (decide (N ≠ 0) && (decide (R = 0) && lnB l A R N D vs.length)) = b at *
  go_enter Tryz.func49, Tryz.ntmps49
  go_wp2_with fail
  have f_s1 := (na w #[.int .i64 2, .slice RA l.length rc, .int .i64 A, .int .i64 R, .int .i64 N, .int .i64 D, .slice VA vs.length vc, .int .i64 er] 88)
  have rd_l1 := (hR.below (bA (b0 _) (.cells #[.int .i64 2, .slice RA l.length rc, .int .i64 A, .int .i64 R, .int .i64 N, .int .i64 D, .slice VA vs.length vc, .int .i64 er] 88)))
  have rd_v1 := (hV.below (bA (b0 _) (.cells #[.int .i64 2, .slice RA l.length rc, .int .i64 A, .int .i64 R, .int .i64 N, .int .i64 D, .slice VA vs.length vc, .int .i64 er] 88)))
  have hB1 := (bA (b0 w) (.cells #[.int .i64 2, .slice RA l.length rc, .int .i64 A, .int .i64 R, .int .i64 N, .int .i64 D, .slice VA vs.length vc, .int .i64 er] 88))
  have ls1 := (rcell f_s1).2.2
  refine Abs.wp_region_abs (Abs.cls0 _) [0, 1, 2, 3, 4, 5, 6, 7, 8, 9, 10, 11, 12, 13, 14, 15, 16, 17, 18, 19, 20, 21, 22, 23, 24, 25, 26, 27, 28, 29, 30, 31, 32, 33, 34, 35, 36, 37, 38, 39] (by kernel_rfl) (by kernel_rfl) (Below.refl _ _).drew ?_
  have d2 : decide (0 ≤ er) = true := by simp; omega
  have d3 : decide (er ≤ 1099511627776) = true := by simp; omega
  repeat (first | (refine Abs.step_pure rfl rfl (fun K hK => ?_); go_simp; (try go_bits); (first | refine hK _ _ ?_ | (simp only [↓IntWalk.iteOmega]; go_simp; (try go_bits); refine hK _ _ ?_)); clear hK K) | (refine Abs.step_load (v := ?_) rfl rfl (by kernel_rfl) rfl (fun w0 hI => ?_) (fun K hK => ?_); rotate_left; (· have z0 := (rcell (kp hI (f_s1))).1; go_simp; rfl); (simp only [Act.put, List.setIfInBounds_toArray, List.set_cons_zero, List.set_cons_succ]; refine hK _ _ ?_; clear hK K)) | (refine Abs.step_skip rfl rfl (fun K hK => ?_); (simp only [Act.put, List.setIfInBounds_toArray, List.set_cons_zero, List.set_cons_succ]; refine hK _ _ ?_; clear hK K)))
  (refine Abs.step_call_val (f := ?_) (args := ?_) (v := ?_) rfl rfl rfl rfl (fun w0 => ?_) (fun w0 hI => ?_) (fun K hK => ?_); rotate_left 3; (· go_simp; (constructor <;> rfl)); (· exact c1 _ (rd_l1.below hI)); (simp only [Act.put, List.setIfInBounds_toArray, List.set_cons_zero, List.set_cons_succ]; refine hK _ _ ?_; clear hK K))
  repeat (first | (refine Abs.step_pure rfl rfl (fun K hK => ?_); go_simp; (try go_bits); (first | refine hK _ _ ?_ | (simp only [↓IntWalk.iteOmega]; go_simp; (try go_bits); refine hK _ _ ?_)); clear hK K) | (refine Abs.step_load (v := ?_) rfl rfl (by kernel_rfl) rfl (fun w0 hI => ?_) (fun K hK => ?_); rotate_left; (· have z0 := (rcell (kp hI (f_s1))).1; go_simp; rfl); (simp only [Act.put, List.setIfInBounds_toArray, List.set_cons_zero, List.set_cons_succ]; refine hK _ _ ?_; clear hK K)) | (refine Abs.step_skip rfl rfl (fun K hK => ?_); (simp only [Act.put, List.setIfInBounds_toArray, List.set_cons_zero, List.set_cons_succ]; refine hK _ _ ?_; clear hK K)))
  (refine Abs.step_call_val (f := ?_) (args := ?_) (v := ?_) rfl rfl rfl rfl (fun w0 => ?_) (fun w0 hI => ?_) (fun K hK => ?_); rotate_left 3; (· go_simp; (constructor <;> rfl)); (· exact c2 _); (simp only [Act.put, List.setIfInBounds_toArray, List.set_cons_zero, List.set_cons_succ]; refine hK _ _ ?_; clear hK K))
  repeat (first | (refine Abs.step_pure rfl rfl (fun K hK => ?_); go_simp; (try go_bits); (first | refine hK _ _ ?_ | (simp only [↓IntWalk.iteOmega]; go_simp; (try go_bits); refine hK _ _ ?_)); clear hK K) | (refine Abs.step_load (v := ?_) rfl rfl (by kernel_rfl) rfl (fun w0 hI => ?_) (fun K hK => ?_); rotate_left; (· have z0 := (rcell (kp hI (f_s1))).1; go_simp; rfl); (simp only [Act.put, List.setIfInBounds_toArray, List.set_cons_zero, List.set_cons_succ]; refine hK _ _ ?_; clear hK K)) | (refine Abs.step_skip rfl rfl (fun K hK => ?_); (simp only [Act.put, List.setIfInBounds_toArray, List.set_cons_zero, List.set_cons_succ]; refine hK _ _ ?_; clear hK K)))
  (refine Abs.step_call_val (f := ?_) (args := ?_) (v := ?_) rfl rfl rfl rfl (fun w0 => ?_) (fun w0 hI => ?_) (fun K hK => ?_); rotate_left 3; (· go_simp; (constructor <;> rfl)); (· exact c3 _ (rd_l1.below hI) (rd_v1.below hI)); (simp only [Act.put, List.setIfInBounds_toArray, List.set_cons_zero, List.set_cons_succ]; refine hK _ _ ?_; clear hK K))
  repeat (first | (refine Abs.step_pure rfl rfl (fun K hK => ?_); go_simp; (try go_bits); (first | refine hK _ _ ?_ | (simp only [↓IntWalk.iteOmega]; go_simp; (try go_bits); refine hK _ _ ?_)); clear hK K) | (refine Abs.step_load (v := ?_) rfl rfl (by kernel_rfl) rfl (fun w0 hI => ?_) (fun K hK => ?_); rotate_left; (· have z0 := (rcell (kp hI (f_s1))).1; go_simp; rfl); (simp only [Act.put, List.setIfInBounds_toArray, List.set_cons_zero, List.set_cons_succ]; refine hK _ _ ?_; clear hK K)) | (refine Abs.step_skip rfl rfl (fun K hK => ?_); (simp only [Act.put, List.setIfInBounds_toArray, List.set_cons_zero, List.set_cons_succ]; refine hK _ _ ?_; clear hK K)))
  intro w2 hb2 hx0 hx1 hx2
  clear hx0 hx1 hx2
  simp only [Abs.T_setF, Abs.T_addA, Abs.T_push, Abs.T_start]
  have f_s2 := kp hb2 (f_s1)
  have rd_l2 := rd_l1.below hb2
  have rd_v2 := rd_v1.below hb2
  have hB2 := bB hB1 hb2
  obtain ⟨zs_a, zs_b, ls2⟩ := rcell f_s2
  go_wp2
  go_ret
  exact ⟨by first | rfl | simp, hB2⟩
set_option maxRecDepth 100000 in
set_option maxHeartbeats 4000000 in
include hR hV in
theorem segis_3 (h2 : 0 ≤ er) (h3 : er ≤ 1099511627776) (h : rnB l = true) : Calls Tryz.prog 49 #[.agg #[.int .i64 3, .slice RA l.length rc, .int .i64 A, .int .i64 R, .int .i64 N, .int .i64 D, .slice VA vs.length vc, .int .i64 er]] w fun e w' => e = .returned (.bool (decide (R ≠ 0) && lnB l A R N D vs.length)) ∧ Below w.heap.size w w' := by
  have c1 := fun w hR => runs_Check RA rc l w hR
  rw [h] at c1
  have c2 := seg_kinds
  have k1 := kinds_at3
  have c3 := fun (w : World) (hR : RR w RA rc l) (_ : VR w VA vc vs) => kinds_3 RA VA rc vc l vs 3 A R N D er w hR h
  clear h
  generalize (decide (R ≠ 0) && lnB l A R N D vs.length) = b at *
  go_enter Tryz.func49, Tryz.ntmps49
  go_wp2_with fail
  have f_s1 := (na w #[.int .i64 3, .slice RA l.length rc, .int .i64 A, .int .i64 R, .int .i64 N, .int .i64 D, .slice VA vs.length vc, .int .i64 er] 88)
  have rd_l1 := (hR.below (bA (b0 _) (.cells #[.int .i64 3, .slice RA l.length rc, .int .i64 A, .int .i64 R, .int .i64 N, .int .i64 D, .slice VA vs.length vc, .int .i64 er] 88)))
  have rd_v1 := (hV.below (bA (b0 _) (.cells #[.int .i64 3, .slice RA l.length rc, .int .i64 A, .int .i64 R, .int .i64 N, .int .i64 D, .slice VA vs.length vc, .int .i64 er] 88)))
  have hB1 := (bA (b0 w) (.cells #[.int .i64 3, .slice RA l.length rc, .int .i64 A, .int .i64 R, .int .i64 N, .int .i64 D, .slice VA vs.length vc, .int .i64 er] 88))
  have ls1 := (rcell f_s1).2.2
  refine Abs.wp_region_abs (Abs.cls0 _) [0, 1, 2, 3, 4, 5, 6, 7, 8, 9, 10, 11, 12, 13, 14, 15, 16, 17, 18, 19, 20, 21, 22, 23, 24, 25, 26, 27, 28, 29, 30, 31, 32, 33, 34, 35, 36, 37, 38, 39] (by kernel_rfl) (by kernel_rfl) (Below.refl _ _).drew ?_
  have d2 : decide (0 ≤ er) = true := by simp; omega
  have d3 : decide (er ≤ 1099511627776) = true := by simp; omega
  repeat (first | (refine Abs.step_pure rfl rfl (fun K hK => ?_); go_simp; (try go_bits); (first | refine hK _ _ ?_ | (simp only [↓IntWalk.iteOmega]; go_simp; (try go_bits); refine hK _ _ ?_)); clear hK K) | (refine Abs.step_load (v := ?_) rfl rfl (by kernel_rfl) rfl (fun w0 hI => ?_) (fun K hK => ?_); rotate_left; (· have z0 := (rcell (kp hI (f_s1))).1; go_simp; rfl); (simp only [Act.put, List.setIfInBounds_toArray, List.set_cons_zero, List.set_cons_succ]; refine hK _ _ ?_; clear hK K)) | (refine Abs.step_skip rfl rfl (fun K hK => ?_); (simp only [Act.put, List.setIfInBounds_toArray, List.set_cons_zero, List.set_cons_succ]; refine hK _ _ ?_; clear hK K)))
  (refine Abs.step_call_val (f := ?_) (args := ?_) (v := ?_) rfl rfl rfl rfl (fun w0 => ?_) (fun w0 hI => ?_) (fun K hK => ?_); rotate_left 3; (· go_simp; (constructor <;> rfl)); (· exact c1 _ (rd_l1.below hI)); (simp only [Act.put, List.setIfInBounds_toArray, List.set_cons_zero, List.set_cons_succ]; refine hK _ _ ?_; clear hK K))
  repeat (first | (refine Abs.step_pure rfl rfl (fun K hK => ?_); go_simp; (try go_bits); (first | refine hK _ _ ?_ | (simp only [↓IntWalk.iteOmega]; go_simp; (try go_bits); refine hK _ _ ?_)); clear hK K) | (refine Abs.step_load (v := ?_) rfl rfl (by kernel_rfl) rfl (fun w0 hI => ?_) (fun K hK => ?_); rotate_left; (· have z0 := (rcell (kp hI (f_s1))).1; go_simp; rfl); (simp only [Act.put, List.setIfInBounds_toArray, List.set_cons_zero, List.set_cons_succ]; refine hK _ _ ?_; clear hK K)) | (refine Abs.step_skip rfl rfl (fun K hK => ?_); (simp only [Act.put, List.setIfInBounds_toArray, List.set_cons_zero, List.set_cons_succ]; refine hK _ _ ?_; clear hK K)))
  (refine Abs.step_call_val (f := ?_) (args := ?_) (v := ?_) rfl rfl rfl rfl (fun w0 => ?_) (fun w0 hI => ?_) (fun K hK => ?_); rotate_left 3; (· go_simp; (constructor <;> rfl)); (· exact c2 _); (simp only [Act.put, List.setIfInBounds_toArray, List.set_cons_zero, List.set_cons_succ]; refine hK _ _ ?_; clear hK K))
  repeat (first | (refine Abs.step_pure rfl rfl (fun K hK => ?_); go_simp; (try go_bits); (first | refine hK _ _ ?_ | (simp only [↓IntWalk.iteOmega]; go_simp; (try go_bits); refine hK _ _ ?_)); clear hK K) | (refine Abs.step_load (v := ?_) rfl rfl (by kernel_rfl) rfl (fun w0 hI => ?_) (fun K hK => ?_); rotate_left; (· have z0 := (rcell (kp hI (f_s1))).1; go_simp; rfl); (simp only [Act.put, List.setIfInBounds_toArray, List.set_cons_zero, List.set_cons_succ]; refine hK _ _ ?_; clear hK K)) | (refine Abs.step_skip rfl rfl (fun K hK => ?_); (simp only [Act.put, List.setIfInBounds_toArray, List.set_cons_zero, List.set_cons_succ]; refine hK _ _ ?_; clear hK K)))
  (refine Abs.step_call_val (f := ?_) (args := ?_) (v := ?_) rfl rfl rfl rfl (fun w0 => ?_) (fun w0 hI => ?_) (fun K hK => ?_); rotate_left 3; (· go_simp; (constructor <;> rfl)); (· exact c3 _ (rd_l1.below hI) (rd_v1.below hI)); (simp only [Act.put, List.setIfInBounds_toArray, List.set_cons_zero, List.set_cons_succ]; refine hK _ _ ?_; clear hK K))
  repeat (first | (refine Abs.step_pure rfl rfl (fun K hK => ?_); go_simp; (try go_bits); (first | refine hK _ _ ?_ | (simp only [↓IntWalk.iteOmega]; go_simp; (try go_bits); refine hK _ _ ?_)); clear hK K) | (refine Abs.step_load (v := ?_) rfl rfl (by kernel_rfl) rfl (fun w0 hI => ?_) (fun K hK => ?_); rotate_left; (· have z0 := (rcell (kp hI (f_s1))).1; go_simp; rfl); (simp only [Act.put, List.setIfInBounds_toArray, List.set_cons_zero, List.set_cons_succ]; refine hK _ _ ?_; clear hK K)) | (refine Abs.step_skip rfl rfl (fun K hK => ?_); (simp only [Act.put, List.setIfInBounds_toArray, List.set_cons_zero, List.set_cons_succ]; refine hK _ _ ?_; clear hK K)))
  intro w2 hb2 hx0 hx1 hx2
  clear hx0 hx1 hx2
  simp only [Abs.T_setF, Abs.T_addA, Abs.T_push, Abs.T_start]
  have f_s2 := kp hb2 (f_s1)
  have rd_l2 := rd_l1.below hb2
  have rd_v2 := rd_v1.below hb2
  have hB2 := bB hB1 hb2
  obtain ⟨zs_a, zs_b, ls2⟩ := rcell f_s2
  go_wp2
  go_ret
  exact ⟨by first | rfl | simp, hB2⟩
set_option maxRecDepth 100000 in
set_option maxHeartbeats 4000000 in
include hR hV in
theorem segis_4 (h2 : 0 ≤ er) (h3 : er ≤ 1099511627776) (h : rnB l = true) : Calls Tryz.prog 49 #[.agg #[.int .i64 4, .slice RA l.length rc, .int .i64 A, .int .i64 R, .int .i64 N, .int .i64 D, .slice VA vs.length vc, .int .i64 er]] w fun e w' => e = .returned (.bool (rwB l vs A R N D)) ∧ Below w.heap.size w w' := by
  have c1 := fun w hR => runs_Check RA rc l w hR
  rw [h] at c1
  have c2 := seg_kinds
  have k1 := kinds_at4
  have c3 := fun w hR hV => seg_rawIs RA VA rc vc l vs h 4 A R N D er w hR hV
  clear h
  generalize (rwB l vs A R N D) = b at *
  go_enter Tryz.func49, Tryz.ntmps49
  go_wp2_with fail
  have f_s1 := (na w #[.int .i64 4, .slice RA l.length rc, .int .i64 A, .int .i64 R, .int .i64 N, .int .i64 D, .slice VA vs.length vc, .int .i64 er] 88)
  have rd_l1 := (hR.below (bA (b0 _) (.cells #[.int .i64 4, .slice RA l.length rc, .int .i64 A, .int .i64 R, .int .i64 N, .int .i64 D, .slice VA vs.length vc, .int .i64 er] 88)))
  have rd_v1 := (hV.below (bA (b0 _) (.cells #[.int .i64 4, .slice RA l.length rc, .int .i64 A, .int .i64 R, .int .i64 N, .int .i64 D, .slice VA vs.length vc, .int .i64 er] 88)))
  have hB1 := (bA (b0 w) (.cells #[.int .i64 4, .slice RA l.length rc, .int .i64 A, .int .i64 R, .int .i64 N, .int .i64 D, .slice VA vs.length vc, .int .i64 er] 88))
  have ls1 := (rcell f_s1).2.2
  refine Abs.wp_region_abs (Abs.cls0 _) [0, 1, 2, 3, 4, 5, 6, 7, 8, 9, 10, 11, 12, 13, 14, 15, 16, 17, 18, 19, 20, 21, 22, 23, 24, 25, 26, 27, 28, 29, 30, 31, 32, 33, 34, 35, 36, 37, 38, 39] (by kernel_rfl) (by kernel_rfl) (Below.refl _ _).drew ?_
  have d2 : decide (0 ≤ er) = true := by simp; omega
  have d3 : decide (er ≤ 1099511627776) = true := by simp; omega
  repeat (first | (refine Abs.step_pure rfl rfl (fun K hK => ?_); go_simp; (try go_bits); (first | refine hK _ _ ?_ | (simp only [↓IntWalk.iteOmega]; go_simp; (try go_bits); refine hK _ _ ?_)); clear hK K) | (refine Abs.step_load (v := ?_) rfl rfl (by kernel_rfl) rfl (fun w0 hI => ?_) (fun K hK => ?_); rotate_left; (· have z0 := (rcell (kp hI (f_s1))).1; go_simp; rfl); (simp only [Act.put, List.setIfInBounds_toArray, List.set_cons_zero, List.set_cons_succ]; refine hK _ _ ?_; clear hK K)) | (refine Abs.step_skip rfl rfl (fun K hK => ?_); (simp only [Act.put, List.setIfInBounds_toArray, List.set_cons_zero, List.set_cons_succ]; refine hK _ _ ?_; clear hK K)))
  (refine Abs.step_call_val (f := ?_) (args := ?_) (v := ?_) rfl rfl rfl rfl (fun w0 => ?_) (fun w0 hI => ?_) (fun K hK => ?_); rotate_left 3; (· go_simp; (constructor <;> rfl)); (· exact c1 _ (rd_l1.below hI)); (simp only [Act.put, List.setIfInBounds_toArray, List.set_cons_zero, List.set_cons_succ]; refine hK _ _ ?_; clear hK K))
  repeat (first | (refine Abs.step_pure rfl rfl (fun K hK => ?_); go_simp; (try go_bits); (first | refine hK _ _ ?_ | (simp only [↓IntWalk.iteOmega]; go_simp; (try go_bits); refine hK _ _ ?_)); clear hK K) | (refine Abs.step_load (v := ?_) rfl rfl (by kernel_rfl) rfl (fun w0 hI => ?_) (fun K hK => ?_); rotate_left; (· have z0 := (rcell (kp hI (f_s1))).1; go_simp; rfl); (simp only [Act.put, List.setIfInBounds_toArray, List.set_cons_zero, List.set_cons_succ]; refine hK _ _ ?_; clear hK K)) | (refine Abs.step_skip rfl rfl (fun K hK => ?_); (simp only [Act.put, List.setIfInBounds_toArray, List.set_cons_zero, List.set_cons_succ]; refine hK _ _ ?_; clear hK K)))
  (refine Abs.step_call_val (f := ?_) (args := ?_) (v := ?_) rfl rfl rfl rfl (fun w0 => ?_) (fun w0 hI => ?_) (fun K hK => ?_); rotate_left 3; (· go_simp; (constructor <;> rfl)); (· exact c2 _); (simp only [Act.put, List.setIfInBounds_toArray, List.set_cons_zero, List.set_cons_succ]; refine hK _ _ ?_; clear hK K))
  repeat (first | (refine Abs.step_pure rfl rfl (fun K hK => ?_); go_simp; (try go_bits); (first | refine hK _ _ ?_ | (simp only [↓IntWalk.iteOmega]; go_simp; (try go_bits); refine hK _ _ ?_)); clear hK K) | (refine Abs.step_load (v := ?_) rfl rfl (by kernel_rfl) rfl (fun w0 hI => ?_) (fun K hK => ?_); rotate_left; (· have z0 := (rcell (kp hI (f_s1))).1; go_simp; rfl); (simp only [Act.put, List.setIfInBounds_toArray, List.set_cons_zero, List.set_cons_succ]; refine hK _ _ ?_; clear hK K)) | (refine Abs.step_skip rfl rfl (fun K hK => ?_); (simp only [Act.put, List.setIfInBounds_toArray, List.set_cons_zero, List.set_cons_succ]; refine hK _ _ ?_; clear hK K)))
  (refine Abs.step_call_val (f := ?_) (args := ?_) (v := ?_) rfl rfl rfl rfl (fun w0 => ?_) (fun w0 hI => ?_) (fun K hK => ?_); rotate_left 3; (· go_simp; (constructor <;> rfl)); (· exact c3 _ (rd_l1.below hI) (rd_v1.below hI)); (simp only [Act.put, List.setIfInBounds_toArray, List.set_cons_zero, List.set_cons_succ]; refine hK _ _ ?_; clear hK K))
  repeat (first | (refine Abs.step_pure rfl rfl (fun K hK => ?_); go_simp; (try go_bits); (first | refine hK _ _ ?_ | (simp only [↓IntWalk.iteOmega]; go_simp; (try go_bits); refine hK _ _ ?_)); clear hK K) | (refine Abs.step_load (v := ?_) rfl rfl (by kernel_rfl) rfl (fun w0 hI => ?_) (fun K hK => ?_); rotate_left; (· have z0 := (rcell (kp hI (f_s1))).1; go_simp; rfl); (simp only [Act.put, List.setIfInBounds_toArray, List.set_cons_zero, List.set_cons_succ]; refine hK _ _ ?_; clear hK K)) | (refine Abs.step_skip rfl rfl (fun K hK => ?_); (simp only [Act.put, List.setIfInBounds_toArray, List.set_cons_zero, List.set_cons_succ]; refine hK _ _ ?_; clear hK K)))
  intro w2 hb2 hx0 hx1 hx2
  clear hx0 hx1 hx2
  simp only [Abs.T_setF, Abs.T_addA, Abs.T_push, Abs.T_start]
  have f_s2 := kp hb2 (f_s1)
  have rd_l2 := rd_l1.below hb2
  have rd_v2 := rd_v1.below hb2
  have hB2 := bB hB1 hb2
  obtain ⟨zs_a, zs_b, ls2⟩ := rcell f_s2
  go_wp2
  go_ret
  exact ⟨by first | rfl | simp, hB2⟩
include hR hV in
theorem seg_is : Calls Tryz.prog 49 #[.agg #[.int .i64 kd, .slice RA l.length rc, .int .i64 A, .int .i64 R, .int .i64 N, .int .i64 D, .slice VA vs.length vc, .int .i64 er]] w fun e w' => e = .returned (.bool (sgB ⟨kd, l, ⟨A, R, N, D⟩, vs, er⟩)) ∧ Below w.heap.size w w' := by
  unfold sgB kdB
  simp only
  by_cases h0 : 1 ≤ kd
  · by_cases h1 : kd ≤ 4
    · by_cases h2 : 0 ≤ er
      · by_cases h3 : er ≤ 1099511627776
        · cases h : rnB l
          · rw [Bool.false_and, Bool.and_false, Bool.and_false, Bool.and_false, Bool.and_false]
            exact segis_no5 RA VA rc vc l vs kd A R N D er w hR hV h0 h1 h2 h3 h
          · rw [decide_eq_true h0, decide_eq_true h1, decide_eq_true h2, decide_eq_true h3, Bool.true_and, Bool.true_and, Bool.true_and, Bool.true_and, Bool.true_and]
            rcases (show kd = 1 ∨ kd = 2 ∨ kd = 3 ∨ kd = 4 by omega) with rfl | rfl | rfl | rfl
            · exact segis_1 RA VA rc vc l vs A R N D er w hR hV h2 h3 h
            · exact segis_2 RA VA rc vc l vs A R N D er w hR hV h2 h3 h
            · exact segis_3 RA VA rc vc l vs A R N D er w hR hV h2 h3 h
            · exact segis_4 RA VA rc vc l vs A R N D er w hR hV h2 h3 h
        · rw [decide_eq_false h3, Bool.false_and, Bool.and_false, Bool.and_false, Bool.and_false]
          exact segis_no4 RA VA rc vc l vs kd A R N D er w hR hV h0 h1 h2 h3
      · rw [decide_eq_false h2, Bool.false_and, Bool.and_false, Bool.and_false]
        exact segis_no3 RA VA rc vc l vs kd A R N D er w hR hV h0 h1 h2
    · rw [decide_eq_false h1, Bool.false_and, Bool.and_false]
      exact segis_no2 RA VA rc vc l vs kd A R N D er w hR hV h0 h1
  · rw [decide_eq_false h0, Bool.false_and]
    exact segis_no1 RA VA rc vc l vs kd A R N D er w hR hV h0
set_option maxRecDepth 100000 in
include hR hV in
theorem seg_Check : Calls Tryz.prog 21 #[.agg #[.int .i64 kd, .slice RA l.length rc, .int .i64 A, .int .i64 R, .int .i64 N, .int .i64 D, .slice VA vs.length vc, .int .i64 er]] w fun e w' => e = .returned (.int .i64 (if sgB ⟨kd, l, ⟨A, R, N, D⟩, vs, er⟩ = true then 0 else 210)) ∧ Below w.heap.size w w' := by
  have c1 := fun w hR hV => seg_is RA VA rc vc l vs kd A R N D er w hR hV
  cases h : sgB ⟨kd, l, ⟨A, R, N, D⟩, vs, er⟩
  · rw [h] at c1
    rw [if_neg (by simp)]
    clear h
    go_enter Tryz.func21, Tryz.ntmps21
    go_wp2_with fail
    refine (c1 _ (hR.below (bA (b0 _) (.cells #[.int .i64 kd, .slice RA l.length rc, .int .i64 A, .int .i64 R, .int .i64 N, .int .i64 D, .slice VA vs.length vc, .int .i64 er] 27))) (hV.below (bA (b0 _) (.cells #[.int .i64 kd, .slice RA l.length rc, .int .i64 A, .int .i64 R, .int .i64 N, .int .i64 D, .slice VA vs.length vc, .int .i64 er] 27)))).mono ?_
    rintro e w1 ⟨rfl, hb1⟩
    have f_s1 := kp hb1 (na w #[.int .i64 kd, .slice RA l.length rc, .int .i64 A, .int .i64 R, .int .i64 N, .int .i64 D, .slice VA vs.length vc, .int .i64 er] 27)
    have rd_l1 := (hR.below (bA (b0 _) (.cells #[.int .i64 kd, .slice RA l.length rc, .int .i64 A, .int .i64 R, .int .i64 N, .int .i64 D, .slice VA vs.length vc, .int .i64 er] 27))).below hb1
    have rd_v1 := (hV.below (bA (b0 _) (.cells #[.int .i64 kd, .slice RA l.length rc, .int .i64 A, .int .i64 R, .int .i64 N, .int .i64 D, .slice VA vs.length vc, .int .i64 er] 27))).below hb1
    have hB1 := bB (bA (b0 w) (.cells #[.int .i64 kd, .slice RA l.length rc, .int .i64 A, .int .i64 R, .int .i64 N, .int .i64 D, .slice VA vs.length vc, .int .i64 er] 27)) hb1
    obtain ⟨zs_a, zs_b, ls1⟩ := rcell f_s1
    go_wp2
    go_ret
    exact ⟨rfl, hB1⟩
  · rw [h] at c1
    rw [if_pos rfl]
    clear h
    go_enter Tryz.func21, Tryz.ntmps21
    go_wp2_with fail
    refine (c1 _ (hR.below (bA (b0 _) (.cells #[.int .i64 kd, .slice RA l.length rc, .int .i64 A, .int .i64 R, .int .i64 N, .int .i64 D, .slice VA vs.length vc, .int .i64 er] 27))) (hV.below (bA (b0 _) (.cells #[.int .i64 kd, .slice RA l.length rc, .int .i64 A, .int .i64 R, .int .i64 N, .int .i64 D, .slice VA vs.length vc, .int .i64 er] 27)))).mono ?_
    rintro e w1 ⟨rfl, hb1⟩
    have f_s1 := kp hb1 (na w #[.int .i64 kd, .slice RA l.length rc, .int .i64 A, .int .i64 R, .int .i64 N, .int .i64 D, .slice VA vs.length vc, .int .i64 er] 27)
    have rd_l1 := (hR.below (bA (b0 _) (.cells #[.int .i64 kd, .slice RA l.length rc, .int .i64 A, .int .i64 R, .int .i64 N, .int .i64 D, .slice VA vs.length vc, .int .i64 er] 27))).below hb1
    have rd_v1 := (hV.below (bA (b0 _) (.cells #[.int .i64 kd, .slice RA l.length rc, .int .i64 A, .int .i64 R, .int .i64 N, .int .i64 D, .slice VA vs.length vc, .int .i64 er] 27))).below hb1
    have hB1 := bB (bA (b0 w) (.cells #[.int .i64 kd, .slice RA l.length rc, .int .i64 A, .int .i64 R, .int .i64 N, .int .i64 D, .slice VA vs.length vc, .int .i64 er] 27)) hb1
    obtain ⟨zs_a, zs_b, ls1⟩ := rcell f_s1
    go_wp2
    go_ret
    exact ⟨rfl, hB1⟩
end
end Go.Proofs.YtmpfbkeamihjbaaGreat
