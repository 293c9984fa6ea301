/- yearbookref11.Right at this program: it is what seg.Check asks. -/
import Derived.Test.YtmpfbkeamihjbaaGreatRefP
import Derived.Test.YtmpfbkeamihjbaaGreatQ2
import Derived.Test.YtmpfbkeamihjbaaGreatRef12
import Derived.Test.YtmpfbkeamihjbaaGreatSegR
set_option linter.unusedSimpArgs false
set_option linter.unusedVariables false
namespace Go.Proofs.YtmpfbkeamihjbaaGreat
open Go.RowKit
attribute [local go_sem] Oper.semAt_some

theorem tmOf_get {r : Rn} {i : Int} (h0 : 0 ≤ i) (h1 : i < r.n) : (tmOf r)[i.toNat]? = some (r.f + r.s * i) := by
  obtain ⟨k, rfl⟩ := Int.eq_ofNat_of_zero_le h0
  unfold tmOf tmK
  have : k < r.n.toNat := by omega
  simp [this, Int.mul_comm]
theorem tmAt_flat {l : List Rn} (h : ∀ r ∈ l, rnIs r = true) : ∀ (m k : Nat) (i : Int), k + m = l.length → 0 ≤ i → i < ((flat (l.drop k)).length : Int) → (flat (l.drop k))[i.toNat]? = some (tmAt l i k m)
  | 0, k, i, hk, h0, h1 => by
    rw [List.drop_eq_nil_of_le (by omega)] at h1
    have : (flat []).length = 0 := rfl
    omega
  | m + 1, k, i, hk, h0, h1 => by
    have hlt : k < l.length := by omega
    have hr := rnIs_spec (h _ (List.getElem_mem hlt))
    have hlen : (tmOf l[k]).length = l[k].n.toNat := tmK_len _ _
    rw [List.drop_eq_getElem_cons hlt, flat] at h1 ⊢
    rw [List.length_append, hlen] at h1
    have hrn := rn_eq hlt
    rw [tmAt, ← hrn]
    split
    · next hi =>
      rw [List.getElem?_append_left (by omega)]
      exact tmOf_get h0 hi
    · next hi =>
      rw [List.getElem?_append_right (by omega), hlen]
      have := tmAt_flat h m (k + 1) (i - l[k].n) (by omega) (by omega) (by omega)
      rwa [show (i - l[k].n).toNat = i.toNat - l[k].n.toNat by omega] at this
theorem rsC_last : ∀ (t : List Int) (lo : Int), rsC lo t = true → ∀ i (h : i < t.length) (h0 : t.length - 1 < t.length), t[i] ≤ t[t.length - 1]
  | [], _, _, _, h, _ => absurd h (Nat.not_lt_zero _)
  | [x], lo, hr, i, h, _ => by
    obtain rfl : i = 0 := by simpa using h
    exact Int.le_refl _
  | x :: y :: r, lo, hr, i, h, h0 => by
    obtain ⟨h1, h2, h3⟩ := rsC_cons.1 hr
    obtain ⟨h4, h5, h6⟩ := rsC_cons.1 h3
    have hl : (x :: y :: r)[(x :: y :: r).length - 1] = (y :: r)[(y :: r).length - 1]'(by simp) := by simp
    rw [hl]
    match i, h with
    | 0, _ =>
      have := rsC_last (y :: r) x h3 0 (by simp) (by simp)
      simp only [List.getElem_cons_zero] at this ⊢
      omega
    | i + 1, h => exact rsC_last (y :: r) x h3 i (by simpa using h) (by simp)

theorem pts_core (T : List Int) (a1 : 1 ≤ T.length) (hbd : ∀ i (h : i < T.length), 0 ≤ T[i] ∧ T[i] ≤ 281474976710656) (hfi : ∀ i (h : i < T.length) (h0 : 0 < T.length), T[0] ≤ T[i]) (hla : ∀ i (h : i < T.length) (h0 : T.length - 1 < T.length), T[i] ≤ T[T.length - 1]) {A R N D : Int} (hL : isB A R N D = true) :
    (T.all fun t => bkB (lnQ A R N D (t - T[0]))) = (enE A R N D 0 (T[T.length - 1] - T[0]) == 0) := by
  have d := isB_spec hL
  have b0 := hbd 0 (by omega)
  have b1 := hbd (T.length - 1) (by omega)
  have f1 := hfi (T.length - 1) (by omega) (by omega)
  have hD : 1 ≤ D := d.2.1.1
  unfold enE
  rw [if_pos hL, if_pos ⟨by unfold tmB; simp, by unfold tmB; simp only [decide_eq_true_eq]; omega, by omega⟩]
  by_cases hb : bkB (lnQ A R N D 0) = true ∧ bkB (lnQ A R N D (T[T.length - 1] - T[0])) = true
  · rw [if_pos hb]
    rw [show ((0 : Int) == 0) = true from rfl, List.all_eq_true]
    intro t ht
    obtain ⟨i, hi, rfl⟩ := List.getElem_of_mem ht
    have g0 := hfi i hi (by omega)
    have g1 := hla i hi (by omega)
    have p0 := of_decide_eq_true hb.1
    have p1 := of_decide_eq_true hb.2
    unfold bkB
    simp only [decide_eq_true_eq]
    rcases Int.le_total 0 N with hN | hN
    · have u0 := lnQ_up (A := A) (R := R) (s := (0 : Int)) hD hN (show (0 : Int) ≤ T[i] - T[0] by omega)
      have u1 := lnQ_up (A := A) (R := R) hD hN (show T[i] - T[0] ≤ T[T.length - 1] - T[0] by omega)
      omega
    · have u0 := lnQ_down (A := A) (R := R) (s := (0 : Int)) hD hN (show (0 : Int) ≤ T[i] - T[0] by omega)
      have u1 := lnQ_down (A := A) (R := R) hD hN (show T[i] - T[0] ≤ T[T.length - 1] - T[0] by omega)
      omega
  · rw [if_neg hb, show ((5 : Int) == 0) = false from rfl, Bool.eq_false_iff]
    intro q
    rw [List.all_eq_true] at q
    refine hb ⟨?_, q _ (List.getElem_mem (by omega))⟩
    have := q _ (List.getElem_mem (show 0 < T.length by omega))
    rwa [Int.sub_self] at this
theorem pts_line {l : List Rn} (h : rnB l = true) {A R N D : Int} (hL : isB A R N D = true) :
    ((tmR l).all fun t => bkB (lnQ A R N D (t - (tmR l).getD 0 0))) = (enE A R N D 0 (sgL l) == 0) := by
  have hC := rnB_C.1 h
  have hm := rnC_mem hC.2.2.1
  have hlen := flat_len hm
  have hri := right_iff l
  rw [h] at hri
  have hrs : rsB (tmR l) = true := by
    cases e : rsB (tmR l)
    · rw [e] at hri; cases hri
    · rfl
  unfold rsB at hrs
  simp only [Bool.and_eq_true, decide_eq_true_eq] at hrs
  obtain ⟨a1, a2, a3⟩ := hrs
  have hbd := rsC_bd (tmR l) (-1) (by decide) a3
  have hfi := rsC_first (tmR l) (-1) a3
  have hla := rsC_last (tmR l) (-1) a3
  have hT := tmR_flat h
  have hsum := rnSum_len l
  have e0 := tmAt_flat hm l.length 0 0 (by omega) (by omega) (by rw [List.drop_zero, ← hT]; omega)
  have e1 := tmAt_flat hm l.length 0 (rnSum l l.length - 1) (by omega) (by rw [hsum, ← hlen, ← hT]; omega) (by rw [List.drop_zero, hsum, ← hlen, ← hT]; omega)
  rw [List.drop_zero, ← hT] at e0 e1
  have hn : (rnSum l l.length - 1).toNat = (tmR l).length - 1 := by rw [hsum, ← hlen, ← hT]; omega
  rw [hn, List.getElem?_eq_getElem (by omega)] at e1
  rw [show (0 : Int).toNat = 0 from rfl, List.getElem?_eq_getElem (by omega)] at e0
  injection e0 with e0
  injection e1 with e1
  have hL0 : (tmR l).getD 0 0 = (tmR l)[0] := by simp [show 0 < (tmR l).length by omega]
  have hsg : sgL l = (tmR l)[(tmR l).length - 1] - (tmR l)[0] := by unfold sgL; rw [← e0, ← e1]
  rw [hL0, hsg]
  exact pts_core (tmR l) a1 hbd hfi hla hL
theorem tmR_len {l : List Rn} (h : rnB l = true) : ((tmR l).length : Int) = rnSum l l.length := by
  rw [tmR_flat h, rnSum_len, flat_len (rnC_mem (rnB_C.1 h).2.2.1)]

/-- a slice of a length -/
def SlN (n : Nat) (v : Value) (w : World) : Prop := ∃ A c, v = .slice A n c ∧ w = w
theorem Cl_SlN (n : Nat) {v : Value} : Abs.Cl (fun _ => False) (SlN n v) := by
  intro w w' ⟨A, c, e, _⟩ h
  exact ⟨A, c, e, rfl⟩
theorem givesV_sl {l : List Int} {w w' : World} {e : Ending} (h : ∃ A' c' n', e = .returned (.slice A' n' c') ∧ Hid (n' = l.length) ∧ VR w' A' c' l ∧ Below w.heap.size w w') : ∃ v, e = .returned v ∧ Below w.heap.size w w' ∧ SlN l.length v w' := by
  obtain ⟨A, c, n, rfl, hn, hv, hb⟩ := h
  exact ⟨_, rfl, hb, A, c, by rw [hn.out], rfl⟩

section
variable (RA VA : Option Addr) (rc vc : Nat) (l : List Rn) (vs : List Int) (kd A R N D er : Int) (w : World) (hR : RR w RA rc l) (hV : VR w VA vc vs)
set_option maxRecDepth 100000 in
set_option maxHeartbeats 4000000 in
include hR hV in
theorem right_a (h : rnB l = false) :
    Calls Tryz.prog 12 #[.agg #[.int .i64 kd, .slice RA l.length rc, .int .i64 A, .int .i64 R, .int .i64 N, .int .i64 D, .slice VA vs.length vc, .int .i64 er]] w fun e w' => e = .returned (.bool false) ∧ Below w.heap.size w w' := by
  have c1 := fun w hR => ref07_Right RA rc l w hR
  rw [h] at c1
  go_enter Tryz.func12, Tryz.ntmps12
  go_wp2_with fail
  refine (c1 _ (hR.below (bA (b0 _) (.cells #[.int .i64 kd, .slice RA l.length rc, .int .i64 A, .int .i64 R, .int .i64 N, .int .i64 D, .slice VA vs.length vc, .int .i64 er] 27)))).mono ?_
  rintro e w1 ⟨rfl, hb1⟩
  have f_s1 := kp hb1 (na w #[.int .i64 kd, .slice RA l.length rc, .int .i64 A, .int .i64 R, .int .i64 N, .int .i64 D, .slice VA vs.length vc, .int .i64 er] 27)
  have rd_l1 := (hR.below (bA (b0 _) (.cells #[.int .i64 kd, .slice RA l.length rc, .int .i64 A, .int .i64 R, .int .i64 N, .int .i64 D, .slice VA vs.length vc, .int .i64 er] 27))).below hb1
  have rd_v1 := (hV.below (bA (b0 _) (.cells #[.int .i64 kd, .slice RA l.length rc, .int .i64 A, .int .i64 R, .int .i64 N, .int .i64 D, .slice VA vs.length vc, .int .i64 er] 27))).below hb1
  have hB1 := bB (bA (b0 w) (.cells #[.int .i64 kd, .slice RA l.length rc, .int .i64 A, .int .i64 R, .int .i64 N, .int .i64 D, .slice VA vs.length vc, .int .i64 er] 27)) hb1
  obtain ⟨zs_a, zs_b, ls1⟩ := rcell f_s1
  go_wp2
  go_ret
  exact ⟨rfl, hB1⟩
set_option maxRecDepth 100000 in
set_option maxHeartbeats 4000000 in
include hR hV in
theorem right_b (h : rnB l = true) (he : er < 0) :
    Calls Tryz.prog 12 #[.agg #[.int .i64 kd, .slice RA l.length rc, .int .i64 A, .int .i64 R, .int .i64 N, .int .i64 D, .slice VA vs.length vc, .int .i64 er]] w fun e w' => e = .returned (.bool false) ∧ Below w.heap.size w w' := by
  have c1 := fun w hR => ref07_Right RA rc l w hR
  rw [h] at c1
  have d1 : decide (er < 0) = true := decide_eq_true he
  go_enter Tryz.func12, Tryz.ntmps12
  go_wp2_with fail
  refine (c1 _ (hR.below (bA (b0 _) (.cells #[.int .i64 kd, .slice RA l.length rc, .int .i64 A, .int .i64 R, .int .i64 N, .int .i64 D, .slice VA vs.length vc, .int .i64 er] 27)))).mono ?_
  rintro e w1 ⟨rfl, hb1⟩
  have f_s1 := kp hb1 (na w #[.int .i64 kd, .slice RA l.length rc, .int .i64 A, .int .i64 R, .int .i64 N, .int .i64 D, .slice VA vs.length vc, .int .i64 er] 27)
  have rd_l1 := (hR.below (bA (b0 _) (.cells #[.int .i64 kd, .slice RA l.length rc, .int .i64 A, .int .i64 R, .int .i64 N, .int .i64 D, .slice VA vs.length vc, .int .i64 er] 27))).below hb1
  have rd_v1 := (hV.below (bA (b0 _) (.cells #[.int .i64 kd, .slice RA l.length rc, .int .i64 A, .int .i64 R, .int .i64 N, .int .i64 D, .slice VA vs.length vc, .int .i64 er] 27))).below hb1
  have hB1 := bB (bA (b0 w) (.cells #[.int .i64 kd, .slice RA l.length rc, .int .i64 A, .int .i64 R, .int .i64 N, .int .i64 D, .slice VA vs.length vc, .int .i64 er] 27)) hb1
  obtain ⟨zs_a, zs_b, ls1⟩ := rcell f_s1
  go_wp2
  go_ret
  exact ⟨rfl, hB1⟩
set_option maxRecDepth 100000 in
set_option maxHeartbeats 4000000 in
include hR hV in
theorem right_c (h : rnB l = true) (he0 : 0 ≤ er) (he : 1099511627776 < er) :
    Calls Tryz.prog 12 #[.agg #[.int .i64 kd, .slice RA l.length rc, .int .i64 A, .int .i64 R, .int .i64 N, .int .i64 D, .slice VA vs.length vc, .int .i64 er]] w fun e w' => e = .returned (.bool false) ∧ Below w.heap.size w w' := by
  have c1 := fun w hR => ref07_Right RA rc l w hR
  rw [h] at c1
  have d1 : decide (er < 0) = false := by simp; omega
  have d2 : decide (1099511627776 < er) = true := by simp; omega
  go_enter Tryz.func12, Tryz.ntmps12
  go_wp2_with fail
  refine (c1 _ (hR.below (bA (b0 _) (.cells #[.int .i64 kd, .slice RA l.length rc, .int .i64 A, .int .i64 R, .int .i64 N, .int .i64 D, .slice VA vs.length vc, .int .i64 er] 27)))).mono ?_
  rintro e w1 ⟨rfl, hb1⟩
  have f_s1 := kp hb1 (na w #[.int .i64 kd, .slice RA l.length rc, .int .i64 A, .int .i64 R, .int .i64 N, .int .i64 D, .slice VA vs.length vc, .int .i64 er] 27)
  have rd_l1 := (hR.below (bA (b0 _) (.cells #[.int .i64 kd, .slice RA l.length rc, .int .i64 A, .int .i64 R, .int .i64 N, .int .i64 D, .slice VA vs.length vc, .int .i64 er] 27))).below hb1
  have rd_v1 := (hV.below (bA (b0 _) (.cells #[.int .i64 kd, .slice RA l.length rc, .int .i64 A, .int .i64 R, .int .i64 N, .int .i64 D, .slice VA vs.length vc, .int .i64 er] 27))).below hb1
  have hB1 := bB (bA (b0 w) (.cells #[.int .i64 kd, .slice RA l.length rc, .int .i64 A, .int .i64 R, .int .i64 N, .int .i64 D, .slice VA vs.length vc, .int .i64 er] 27)) hb1
  obtain ⟨zs_a, zs_b, ls1⟩ := rcell f_s1
  go_wp2
  go_ret
  exact ⟨rfl, hB1⟩
set_option maxRecDepth 100000 in
set_option maxHeartbeats 4000000 in
include hR hV in
theorem right_4a (h : rnB l = true) (he0 : 0 ≤ er) (he : er ≤ 1099511627776) (hz : ¬ A = 0) :
    Calls Tryz.prog 12 #[.agg #[.int .i64 4, .slice RA l.length rc, .int .i64 A, .int .i64 R, .int .i64 N, .int .i64 D, .slice VA vs.length vc, .int .i64 er]] w fun e w' => e = .returned (.bool false) ∧ Below w.heap.size w w' := by
  have c1 := fun w hR => ref07_Right RA rc l w hR
  rw [h] at c1
  have d1 : decide (er < 0) = false := by simp; omega
  have d2 : decide (1099511627776 < er) = false := by simp; omega
  go_enter Tryz.func12, Tryz.ntmps12
  go_wp2_with fail
  refine (c1 _ (hR.below (bA (b0 _) (.cells #[.int .i64 4, .slice RA l.length rc, .int .i64 A, .int .i64 R, .int .i64 N, .int .i64 D, .slice VA vs.length vc, .int .i64 er] 27)))).mono ?_
  rintro e w1 ⟨rfl, hb1⟩
  have f_s1 := kp hb1 (na w #[.int .i64 4, .slice RA l.length rc, .int .i64 A, .int .i64 R, .int .i64 N, .int .i64 D, .slice VA vs.length vc, .int .i64 er] 27)
  have rd_l1 := (hR.below (bA (b0 _) (.cells #[.int .i64 4, .slice RA l.length rc, .int .i64 A, .int .i64 R, .int .i64 N, .int .i64 D, .slice VA vs.length vc, .int .i64 er] 27))).below hb1
  have rd_v1 := (hV.below (bA (b0 _) (.cells #[.int .i64 4, .slice RA l.length rc, .int .i64 A, .int .i64 R, .int .i64 N, .int .i64 D, .slice VA vs.length vc, .int .i64 er] 27))).below hb1
  have hB1 := bB (bA (b0 w) (.cells #[.int .i64 4, .slice RA l.length rc, .int .i64 A, .int .i64 R, .int .i64 N, .int .i64 D, .slice VA vs.length vc, .int .i64 er] 27)) hb1
  obtain ⟨zs_a, zs_b, ls1⟩ := rcell f_s1
  go_wp2_with fail
  refine Abs.wp_region_abs (Abs.cls0 _) [0, 1, 2, 3, 4, 5, 6, 7, 8, 9, 10, 11, 12, 13] (by kernel_rfl) (by kernel_rfl) (Below.refl _ _).drew ?_
  repeat (first | (refine Abs.step_pure rfl rfl (fun K hK => ?_); go_simp; (try go_bits); (first | refine hK _ _ ?_ | (simp only [↓IntWalk.iteOmega]; go_simp; (try go_bits); refine hK _ _ ?_)); clear hK K) | (refine Abs.step_load (v := ?_) rfl rfl (by kernel_rfl) rfl (fun w0 hI => ?_) (fun K hK => ?_); rotate_left; (· have z0 := (rcell (kp hI (f_s1))).1; go_simp; rfl); (simp only [Act.put, List.setIfInBounds_toArray, List.set_cons_zero, List.set_cons_succ]; refine hK _ _ ?_; clear hK K)) | (refine Abs.step_skip rfl rfl (fun K hK => ?_); (simp only [Act.put, List.setIfInBounds_toArray, List.set_cons_zero, List.set_cons_succ]; refine hK _ _ ?_; clear hK K)))
  intro w3 hb3 hx0 hx1 hx2
  clear hx0 hx1 hx2
  simp only [Abs.T_setF, Abs.T_addA, Abs.T_push, Abs.T_start]
  have f_s3 := kp hb3 (f_s1)
  have rd_l3 := rd_l1.below hb3
  have rd_v3 := rd_v1.below hb3
  have hB3 := bB hB1 hb3
  clear zs_a zs_b
  obtain ⟨zs_a, zs_b, ls3⟩ := rcell f_s3
  go_wp2
  go_ret
  exact ⟨rfl, hB3⟩
set_option maxRecDepth 100000 in
set_option maxHeartbeats 4000000 in
include hR hV in
theorem right_4b (h : rnB l = true) (he0 : 0 ≤ er) (he : er ≤ 1099511627776) (hz : ¬ R = 0) :
    Calls Tryz.prog 12 #[.agg #[.int .i64 4, .slice RA l.length rc, .int .i64 0, .int .i64 R, .int .i64 N, .int .i64 D, .slice VA vs.length vc, .int .i64 er]] w fun e w' => e = .returned (.bool false) ∧ Below w.heap.size w w' := by
  have c1 := fun w hR => ref07_Right RA rc l w hR
  rw [h] at c1
  have d1 : decide (er < 0) = false := by simp; omega
  have d2 : decide (1099511627776 < er) = false := by simp; omega
  go_enter Tryz.func12, Tryz.ntmps12
  go_wp2_with fail
  refine (c1 _ (hR.below (bA (b0 _) (.cells #[.int .i64 4, .slice RA l.length rc, .int .i64 0, .int .i64 R, .int .i64 N, .int .i64 D, .slice VA vs.length vc, .int .i64 er] 27)))).mono ?_
  rintro e w1 ⟨rfl, hb1⟩
  have f_s1 := kp hb1 (na w #[.int .i64 4, .slice RA l.length rc, .int .i64 0, .int .i64 R, .int .i64 N, .int .i64 D, .slice VA vs.length vc, .int .i64 er] 27)
  have rd_l1 := (hR.below (bA (b0 _) (.cells #[.int .i64 4, .slice RA l.length rc, .int .i64 0, .int .i64 R, .int .i64 N, .int .i64 D, .slice VA vs.length vc, .int .i64 er] 27))).below hb1
  have rd_v1 := (hV.below (bA (b0 _) (.cells #[.int .i64 4, .slice RA l.length rc, .int .i64 0, .int .i64 R, .int .i64 N, .int .i64 D, .slice VA vs.length vc, .int .i64 er] 27))).below hb1
  have hB1 := bB (bA (b0 w) (.cells #[.int .i64 4, .slice RA l.length rc, .int .i64 0, .int .i64 R, .int .i64 N, .int .i64 D, .slice VA vs.length vc, .int .i64 er] 27)) hb1
  obtain ⟨zs_a, zs_b, ls1⟩ := rcell f_s1
  go_wp2_with fail
  refine Abs.wp_region_abs (Abs.cls0 _) [0, 1, 2, 3, 4, 5, 6, 7, 8, 9, 10, 11, 12, 13] (by kernel_rfl) (by kernel_rfl) (Below.refl _ _).drew ?_
  repeat (first | (refine Abs.step_pure rfl rfl (fun K hK => ?_); go_simp; (try go_bits); (first | refine hK _ _ ?_ | (simp only [↓IntWalk.iteOmega]; go_simp; (try go_bits); refine hK _ _ ?_)); clear hK K) | (refine Abs.step_load (v := ?_) rfl rfl (by kernel_rfl) rfl (fun w0 hI => ?_) (fun K hK => ?_); rotate_left; (· have z0 := (rcell (kp hI (f_s1))).1; go_simp; rfl); (simp only [Act.put, List.setIfInBounds_toArray, List.set_cons_zero, List.set_cons_succ]; refine hK _ _ ?_; clear hK K)) | (refine Abs.step_skip rfl rfl (fun K hK => ?_); (simp only [Act.put, List.setIfInBounds_toArray, List.set_cons_zero, List.set_cons_succ]; refine hK _ _ ?_; clear hK K)))
  intro w3 hb3 hx0 hx1 hx2
  clear hx0 hx1 hx2
  simp only [Abs.T_setF, Abs.T_addA, Abs.T_push, Abs.T_start]
  have f_s3 := kp hb3 (f_s1)
  have rd_l3 := rd_l1.below hb3
  have rd_v3 := rd_v1.below hb3
  have hB3 := bB hB1 hb3
  clear zs_a zs_b
  obtain ⟨zs_a, zs_b, ls3⟩ := rcell f_s3
  go_wp2
  go_ret
  exact ⟨rfl, hB3⟩
set_option maxRecDepth 100000 in
set_option maxHeartbeats 4000000 in
include hR hV in
theorem right_4c (h : rnB l = true) (he0 : 0 ≤ er) (he : er ≤ 1099511627776) (hz : ¬ N = 0) :
    Calls Tryz.prog 12 #[.agg #[.int .i64 4, .slice RA l.length rc, .int .i64 0, .int .i64 0, .int .i64 N, .int .i64 D, .slice VA vs.length vc, .int .i64 er]] w fun e w' => e = .returned (.bool false) ∧ Below w.heap.size w w' := by
  have c1 := fun w hR => ref07_Right RA rc l w hR
  rw [h] at c1
  have d1 : decide (er < 0) = false := by simp; omega
  have d2 : decide (1099511627776 < er) = false := by simp; omega
  go_enter Tryz.func12, Tryz.ntmps12
  go_wp2_with fail
  refine (c1 _ (hR.below (bA (b0 _) (.cells #[.int .i64 4, .slice RA l.length rc, .int .i64 0, .int .i64 0, .int .i64 N, .int .i64 D, .slice VA vs.length vc, .int .i64 er] 27)))).mono ?_
  rintro e w1 ⟨rfl, hb1⟩
  have f_s1 := kp hb1 (na w #[.int .i64 4, .slice RA l.length rc, .int .i64 0, .int .i64 0, .int .i64 N, .int .i64 D, .slice VA vs.length vc, .int .i64 er] 27)
  have rd_l1 := (hR.below (bA (b0 _) (.cells #[.int .i64 4, .slice RA l.length rc, .int .i64 0, .int .i64 0, .int .i64 N, .int .i64 D, .slice VA vs.length vc, .int .i64 er] 27))).below hb1
  have rd_v1 := (hV.below (bA (b0 _) (.cells #[.int .i64 4, .slice RA l.length rc, .int .i64 0, .int .i64 0, .int .i64 N, .int .i64 D, .slice VA vs.length vc, .int .i64 er] 27))).below hb1
  have hB1 := bB (bA (b0 w) (.cells #[.int .i64 4, .slice RA l.length rc, .int .i64 0, .int .i64 0, .int .i64 N, .int .i64 D, .slice VA vs.length vc, .int .i64 er] 27)) hb1
  obtain ⟨zs_a, zs_b, ls1⟩ := rcell f_s1
  go_wp2_with fail
  refine Abs.wp_region_abs (Abs.cls0 _) [0, 1, 2, 3, 4, 5, 6, 7, 8, 9, 10, 11, 12, 13] (by kernel_rfl) (by kernel_rfl) (Below.refl _ _).drew ?_
  repeat (first | (refine Abs.step_pure rfl rfl (fun K hK => ?_); go_simp; (try go_bits); (first | refine hK _ _ ?_ | (simp only [↓IntWalk.iteOmega]; go_simp; (try go_bits); refine hK _ _ ?_)); clear hK K) | (refine Abs.step_load (v := ?_) rfl rfl (by kernel_rfl) rfl (fun w0 hI => ?_) (fun K hK => ?_); rotate_left; (· have z0 := (rcell (kp hI (f_s1))).1; go_simp; rfl); (simp only [Act.put, List.setIfInBounds_toArray, List.set_cons_zero, List.set_cons_succ]; refine hK _ _ ?_; clear hK K)) | (refine Abs.step_skip rfl rfl (fun K hK => ?_); (simp only [Act.put, List.setIfInBounds_toArray, List.set_cons_zero, List.set_cons_succ]; refine hK _ _ ?_; clear hK K)))
  intro w3 hb3 hx0 hx1 hx2
  clear hx0 hx1 hx2
  simp only [Abs.T_setF, Abs.T_addA, Abs.T_push, Abs.T_start]
  have f_s3 := kp hb3 (f_s1)
  have rd_l3 := rd_l1.below hb3
  have rd_v3 := rd_v1.below hb3
  have hB3 := bB hB1 hb3
  clear zs_a zs_b
  obtain ⟨zs_a, zs_b, ls3⟩ := rcell f_s3
  go_wp2
  go_ret
  exact ⟨rfl, hB3⟩
set_option maxRecDepth 100000 in
set_option maxHeartbeats 4000000 in
include hR hV in
theorem right_4d (h : rnB l = true) (he0 : 0 ≤ er) (he : er ≤ 1099511627776) (hz : ¬ D = 0) :
    Calls Tryz.prog 12 #[.agg #[.int .i64 4, .slice RA l.length rc, .int .i64 0, .int .i64 0, .int .i64 0, .int .i64 D, .slice VA vs.length vc, .int .i64 er]] w fun e w' => e = .returned (.bool false) ∧ Below w.heap.size w w' := by
  have c1 := fun w hR => ref07_Right RA rc l w hR
  rw [h] at c1
  have d1 : decide (er < 0) = false := by simp; omega
  have d2 : decide (1099511627776 < er) = false := by simp; omega
  go_enter Tryz.func12, Tryz.ntmps12
  go_wp2_with fail
  refine (c1 _ (hR.below (bA (b0 _) (.cells #[.int .i64 4, .slice RA l.length rc, .int .i64 0, .int .i64 0, .int .i64 0, .int .i64 D, .slice VA vs.length vc, .int .i64 er] 27)))).mono ?_
  rintro e w1 ⟨rfl, hb1⟩
  have f_s1 := kp hb1 (na w #[.int .i64 4, .slice RA l.length rc, .int .i64 0, .int .i64 0, .int .i64 0, .int .i64 D, .slice VA vs.length vc, .int .i64 er] 27)
  have rd_l1 := (hR.below (bA (b0 _) (.cells #[.int .i64 4, .slice RA l.length rc, .int .i64 0, .int .i64 0, .int .i64 0, .int .i64 D, .slice VA vs.length vc, .int .i64 er] 27))).below hb1
  have rd_v1 := (hV.below (bA (b0 _) (.cells #[.int .i64 4, .slice RA l.length rc, .int .i64 0, .int .i64 0, .int .i64 0, .int .i64 D, .slice VA vs.length vc, .int .i64 er] 27))).below hb1
  have hB1 := bB (bA (b0 w) (.cells #[.int .i64 4, .slice RA l.length rc, .int .i64 0, .int .i64 0, .int .i64 0, .int .i64 D, .slice VA vs.length vc, .int .i64 er] 27)) hb1
  obtain ⟨zs_a, zs_b, ls1⟩ := rcell f_s1
  go_wp2_with fail
  refine Abs.wp_region_abs (Abs.cls0 _) [0, 1, 2, 3, 4, 5, 6, 7, 8, 9, 10, 11, 12, 13] (by kernel_rfl) (by kernel_rfl) (Below.refl _ _).drew ?_
  repeat (first | (refine Abs.step_pure rfl rfl (fun K hK => ?_); go_simp; (try go_bits); (first | refine hK _ _ ?_ | (simp only [↓IntWalk.iteOmega]; go_simp; (try go_bits); refine hK _ _ ?_)); clear hK K) | (refine Abs.step_load (v := ?_) rfl rfl (by kernel_rfl) rfl (fun w0 hI => ?_) (fun K hK => ?_); rotate_left; (· have z0 := (rcell (kp hI (f_s1))).1; go_simp; rfl); (simp only [Act.put, List.setIfInBounds_toArray, List.set_cons_zero, List.set_cons_succ]; refine hK _ _ ?_; clear hK K)) | (refine Abs.step_skip rfl rfl (fun K hK => ?_); (simp only [Act.put, List.setIfInBounds_toArray, List.set_cons_zero, List.set_cons_succ]; refine hK _ _ ?_; clear hK K)))
  intro w3 hb3 hx0 hx1 hx2
  clear hx0 hx1 hx2
  simp only [Abs.T_setF, Abs.T_addA, Abs.T_push, Abs.T_start]
  have f_s3 := kp hb3 (f_s1)
  have rd_l3 := rd_l1.below hb3
  have rd_v3 := rd_v1.below hb3
  have hB3 := bB hB1 hb3
  clear zs_a zs_b
  obtain ⟨zs_a, zs_b, ls3⟩ := rcell f_s3
  go_wp2
  go_ret
  exact ⟨rfl, hB3⟩
set_option maxRecDepth 100000 in
set_option maxHeartbeats 4000000 in
include hR hV in
theorem right_4e (h : rnB l = true) (he0 : 0 ≤ er) (he : er ≤ 1099511627776) (hn : ¬ vs.length = (tmR l).length) :
    Calls Tryz.prog 12 #[.agg #[.int .i64 4, .slice RA l.length rc, .int .i64 0, .int .i64 0, .int .i64 0, .int .i64 0, .slice VA vs.length vc, .int .i64 er]] w fun e w' => e = .returned (.bool false) ∧ Below w.heap.size w w' := by
  have c1 := fun w hR => ref07_Right RA rc l w hR
  rw [h] at c1
  have d1 : decide (er < 0) = false := by simp; omega
  have d2 : decide (1099511627776 < er) = false := by simp; omega
  have cT := fun w hR => ref07_Times RA rc l w hR
  have hq : ((vs.length : Int) == ((tmR l).length : Int)) = false := by simp; omega
  go_enter Tryz.func12, Tryz.ntmps12
  go_wp2_with fail
  refine (c1 _ (hR.below (bA (b0 _) (.cells #[.int .i64 4, .slice RA l.length rc, .int .i64 0, .int .i64 0, .int .i64 0, .int .i64 0, .slice VA vs.length vc, .int .i64 er] 27)))).mono ?_
  rintro e w1 ⟨rfl, hb1⟩
  have f_s1 := kp hb1 (na w #[.int .i64 4, .slice RA l.length rc, .int .i64 0, .int .i64 0, .int .i64 0, .int .i64 0, .slice VA vs.length vc, .int .i64 er] 27)
  have rd_l1 := (hR.below (bA (b0 _) (.cells #[.int .i64 4, .slice RA l.length rc, .int .i64 0, .int .i64 0, .int .i64 0, .int .i64 0, .slice VA vs.length vc, .int .i64 er] 27))).below hb1
  have rd_v1 := (hV.below (bA (b0 _) (.cells #[.int .i64 4, .slice RA l.length rc, .int .i64 0, .int .i64 0, .int .i64 0, .int .i64 0, .slice VA vs.length vc, .int .i64 er] 27))).below hb1
  have hB1 := bB (bA (b0 w) (.cells #[.int .i64 4, .slice RA l.length rc, .int .i64 0, .int .i64 0, .int .i64 0, .int .i64 0, .slice VA vs.length vc, .int .i64 er] 27)) hb1
  obtain ⟨zs_a, zs_b, ls1⟩ := rcell f_s1
  go_wp2_with fail
  refine Abs.wp_region_abs (Abs.cls0 _) [0, 1, 2, 3, 4, 5, 6, 7, 8, 9, 10, 11, 12, 13] (by kernel_rfl) (by kernel_rfl) (Below.refl _ _).drew ?_
  repeat (first | (refine Abs.step_pure rfl rfl (fun K hK => ?_); go_simp; (try go_bits); (first | refine hK _ _ ?_ | (simp only [↓IntWalk.iteOmega]; go_simp; (try go_bits); refine hK _ _ ?_)); clear hK K) | (refine Abs.step_load (v := ?_) rfl rfl (by kernel_rfl) rfl (fun w0 hI => ?_) (fun K hK => ?_); rotate_left; (· have z0 := (rcell (kp hI (f_s1))).1; go_simp; rfl); (simp only [Act.put, List.setIfInBounds_toArray, List.set_cons_zero, List.set_cons_succ]; refine hK _ _ ?_; clear hK K)) | (refine Abs.step_skip rfl rfl (fun K hK => ?_); (simp only [Act.put, List.setIfInBounds_toArray, List.set_cons_zero, List.set_cons_succ]; refine hK _ _ ?_; clear hK K)))
  (refine Abs.step_call (f := ?_) (args := ?_) rfl rfl rfl rfl (SlN (tmR l).length) (fun _ => Cl_SlN _) (fun w0 => ?_) (fun w0 hI hF => ?_) (fun K hK v w0 hv => ?_); rotate_left 2; (· go_simp; (constructor <;> rfl)); (· exact (cT w0 (rd_l1.below hI)).mono (fun _ _ h => givesV_sl h)); (obtain ⟨A', d', rfl, -⟩ := hv; clear w0; simp only [Act.put, List.setIfInBounds_toArray, List.set_cons_zero, List.set_cons_succ]; refine hK _ _ ?_; clear hK K))
  repeat (first | (refine Abs.step_pure rfl rfl (fun K hK => ?_); go_simp; (try go_bits); (first | refine hK _ _ ?_ | (simp only [↓IntWalk.iteOmega]; go_simp; (try go_bits); refine hK _ _ ?_)); clear hK K) | (refine Abs.step_load (v := ?_) rfl rfl (by kernel_rfl) rfl (fun w0 hI => ?_) (fun K hK => ?_); rotate_left; (· have z0 := (rcell (kp hI (f_s1))).1; go_simp; rfl); (simp only [Act.put, List.setIfInBounds_toArray, List.set_cons_zero, List.set_cons_succ]; refine hK _ _ ?_; clear hK K)) | (refine Abs.step_skip rfl rfl (fun K hK => ?_); (simp only [Act.put, List.setIfInBounds_toArray, List.set_cons_zero, List.set_cons_succ]; refine hK _ _ ?_; clear hK K)))
  intro w3 hb3 hx0 hx1 hx2
  clear hx0 hx1 hx2
  simp only [Abs.T_setF, Abs.T_addA, Abs.T_push, Abs.T_start]
  have f_s3 := kp hb3 (f_s1)
  have rd_l3 := rd_l1.below hb3
  have rd_v3 := rd_v1.below hb3
  have hB3 := bB hB1 hb3
  clear zs_a zs_b
  obtain ⟨zs_a, zs_b, ls3⟩ := rcell f_s3
  go_wp2
  go_ret
  exact ⟨rfl, hB3⟩
set_option maxRecDepth 100000 in
set_option maxHeartbeats 4000000 in
include hR hV in
theorem right_4f (h : rnB l = true) (he0 : 0 ≤ er) (he : er ≤ 1099511627776) (hn : vs.length = (tmR l).length) :
    Calls Tryz.prog 12 #[.agg #[.int .i64 4, .slice RA l.length rc, .int .i64 0, .int .i64 0, .int .i64 0, .int .i64 0, .slice VA vs.length vc, .int .i64 er]] w fun e w' => e = .returned (.bool (vs.all bkV)) ∧ Below w.heap.size w w' := by
  have c1 := fun w hR => ref07_Right RA rc l w hR
  rw [h] at c1
  have d1 : decide (er < 0) = false := by simp; omega
  have d2 : decide (1099511627776 < er) = false := by simp; omega
  have cT := fun w hR => ref07_Times RA rc l w hR
  have hri := right_iff l
  rw [h] at hri
  have hrs : rsB (tmR l) = true := by
    cases e : rsB (tmR l)
    · rw [e] at hri; cases hri
    · rfl
  have cP := fun w hR hV => ref11_Points_raw RA VA rc vc l vs 0 0 0 0 er hrs w hR hn hV
  have hq : ((vs.length : Int) == ((tmR l).length : Int)) = true := by simp; omega
  have HN := hide hn
  clear hn hri hrs
  generalize vs.all bkV = z at *
  go_enter Tryz.func12, Tryz.ntmps12
  go_wp2_with fail
  refine (c1 _ (hR.below (bA (b0 _) (.cells #[.int .i64 4, .slice RA l.length rc, .int .i64 0, .int .i64 0, .int .i64 0, .int .i64 0, .slice VA vs.length vc, .int .i64 er] 27)))).mono ?_
  rintro e w1 ⟨rfl, hb1⟩
  have f_s1 := kp hb1 (na w #[.int .i64 4, .slice RA l.length rc, .int .i64 0, .int .i64 0, .int .i64 0, .int .i64 0, .slice VA vs.length vc, .int .i64 er] 27)
  have rd_l1 := (hR.below (bA (b0 _) (.cells #[.int .i64 4, .slice RA l.length rc, .int .i64 0, .int .i64 0, .int .i64 0, .int .i64 0, .slice VA vs.length vc, .int .i64 er] 27))).below hb1
  have rd_v1 := (hV.below (bA (b0 _) (.cells #[.int .i64 4, .slice RA l.length rc, .int .i64 0, .int .i64 0, .int .i64 0, .int .i64 0, .slice VA vs.length vc, .int .i64 er] 27))).below hb1
  have hB1 := bB (bA (b0 w) (.cells #[.int .i64 4, .slice RA l.length rc, .int .i64 0, .int .i64 0, .int .i64 0, .int .i64 0, .slice VA vs.length vc, .int .i64 er] 27)) hb1
  obtain ⟨zs_a, zs_b, ls1⟩ := rcell f_s1
  go_wp2_with fail
  refine Abs.wp_region_abs (Abs.cls0 _) [0, 1, 2, 3, 4, 5, 6, 7, 8, 9, 10, 11, 12, 13] (by kernel_rfl) (by kernel_rfl) (Below.refl _ _).drew ?_
  repeat (first | (refine Abs.step_pure rfl rfl (fun K hK => ?_); go_simp; (try go_bits); (first | refine hK _ _ ?_ | (simp only [↓IntWalk.iteOmega]; go_simp; (try go_bits); refine hK _ _ ?_)); clear hK K) | (refine Abs.step_load (v := ?_) rfl rfl (by kernel_rfl) rfl (fun w0 hI => ?_) (fun K hK => ?_); rotate_left; (· have z0 := (rcell (kp hI (f_s1))).1; go_simp; rfl); (simp only [Act.put, List.setIfInBounds_toArray, List.set_cons_zero, List.set_cons_succ]; refine hK _ _ ?_; clear hK K)) | (refine Abs.step_skip rfl rfl (fun K hK => ?_); (simp only [Act.put, List.setIfInBounds_toArray, List.set_cons_zero, List.set_cons_succ]; refine hK _ _ ?_; clear hK K)))
  (refine Abs.step_call (f := ?_) (args := ?_) rfl rfl rfl rfl (SlN (tmR l).length) (fun _ => Cl_SlN _) (fun w0 => ?_) (fun w0 hI hF => ?_) (fun K hK v w0 hv => ?_); rotate_left 2; (· go_simp; (constructor <;> rfl)); (· exact (cT w0 (rd_l1.below hI)).mono (fun _ _ h => givesV_sl h)); (obtain ⟨A', d', rfl, -⟩ := hv; clear w0; simp only [Act.put, List.setIfInBounds_toArray, List.set_cons_zero, List.set_cons_succ]; refine hK _ _ ?_; clear hK K))
  repeat (first | (refine Abs.step_pure rfl rfl (fun K hK => ?_); go_simp; (try go_bits); (first | refine hK _ _ ?_ | (simp only [↓IntWalk.iteOmega]; go_simp; (try go_bits); refine hK _ _ ?_)); clear hK K) | (refine Abs.step_load (v := ?_) rfl rfl (by kernel_rfl) rfl (fun w0 hI => ?_) (fun K hK => ?_); rotate_left; (· have z0 := (rcell (kp hI (f_s1))).1; go_simp; rfl); (simp only [Act.put, List.setIfInBounds_toArray, List.set_cons_zero, List.set_cons_succ]; refine hK _ _ ?_; clear hK K)) | (refine Abs.step_skip rfl rfl (fun K hK => ?_); (simp only [Act.put, List.setIfInBounds_toArray, List.set_cons_zero, List.set_cons_succ]; refine hK _ _ ?_; clear hK K)))
  intro w3 hb3 hx0 hx1 hx2
  clear hx0 hx1 hx2
  simp only [Abs.T_setF, Abs.T_addA, Abs.T_push, Abs.T_start]
  have f_s3 := kp hb3 (f_s1)
  have rd_l3 := rd_l1.below hb3
  have rd_v3 := rd_v1.below hb3
  have hB3 := bB hB1 hb3
  clear zs_a zs_b
  obtain ⟨zs_a, zs_b, ls3⟩ := rcell f_s3
  go_wp2_with fail
  refine (cP _ rd_l3 rd_v3).mono ?_
  rintro e w9 ⟨v9, rfl, hb9⟩
  go_wp2
  go_ret
  exact ⟨rfl, bB hB3 hb9⟩
set_option maxRecDepth 100000 in
set_option maxHeartbeats 4000000 in
include hR hV in
theorem right_l1 (h : rnB l = true) (he0 : 0 ≤ er) (he : er ≤ 1099511627776) (hk : ¬ kd = 4) (hl : 0 < vs.length) :
    Calls Tryz.prog 12 #[.agg #[.int .i64 kd, .slice RA l.length rc, .int .i64 A, .int .i64 R, .int .i64 N, .int .i64 D, .slice VA vs.length vc, .int .i64 er]] w fun e w' => e = .returned (.bool false) ∧ Below w.heap.size w w' := by
  have c1 := fun w hR => ref07_Right RA rc l w hR
  rw [h] at c1
  have d1 : decide (er < 0) = false := by simp; omega
  have d2 : decide (1099511627776 < er) = false := by simp; omega
  have dk : (kd == 4) = false := by simp [hk]
  have d3 : decide (0 < (vs.length : Int)) = true := by simp; omega
  go_enter Tryz.func12, Tryz.ntmps12
  go_wp2_with fail
  refine (c1 _ (hR.below (bA (b0 _) (.cells #[.int .i64 kd, .slice RA l.length rc, .int .i64 A, .int .i64 R, .int .i64 N, .int .i64 D, .slice VA vs.length vc, .int .i64 er] 27)))).mono ?_
  rintro e w1 ⟨rfl, hb1⟩
  have f_s1 := kp hb1 (na w #[.int .i64 kd, .slice RA l.length rc, .int .i64 A, .int .i64 R, .int .i64 N, .int .i64 D, .slice VA vs.length vc, .int .i64 er] 27)
  have rd_l1 := (hR.below (bA (b0 _) (.cells #[.int .i64 kd, .slice RA l.length rc, .int .i64 A, .int .i64 R, .int .i64 N, .int .i64 D, .slice VA vs.length vc, .int .i64 er] 27))).below hb1
  have rd_v1 := (hV.below (bA (b0 _) (.cells #[.int .i64 kd, .slice RA l.length rc, .int .i64 A, .int .i64 R, .int .i64 N, .int .i64 D, .slice VA vs.length vc, .int .i64 er] 27))).below hb1
  have hB1 := bB (bA (b0 w) (.cells #[.int .i64 kd, .slice RA l.length rc, .int .i64 A, .int .i64 R, .int .i64 N, .int .i64 D, .slice VA vs.length vc, .int .i64 er] 27)) hb1
  obtain ⟨zs_a, zs_b, ls1⟩ := rcell f_s1
  go_wp2_with fail
  refine Abs.wp_region_abs (Abs.cls0 _) [0, 1, 2, 3, 4, 5, 6, 7, 8, 9, 10, 11, 12, 13, 14, 15, 16, 17] (by kernel_rfl) (by kernel_rfl) (Below.refl _ _).drew ?_
  repeat (first | (refine Abs.step_pure rfl rfl (fun K hK => ?_); go_simp; (try go_bits); (first | refine hK _ _ ?_ | (simp only [↓IntWalk.iteOmega]; go_simp; (try go_bits); refine hK _ _ ?_)); clear hK K) | (refine Abs.step_load (v := ?_) rfl rfl (by kernel_rfl) rfl (fun w0 hI => ?_) (fun K hK => ?_); rotate_left; (· have z0 := (rcell (kp hI (f_s1))).1; go_simp; rfl); (simp only [Act.put, List.setIfInBounds_toArray, List.set_cons_zero, List.set_cons_succ]; refine hK _ _ ?_; clear hK K)) | (refine Abs.step_skip rfl rfl (fun K hK => ?_); (simp only [Act.put, List.setIfInBounds_toArray, List.set_cons_zero, List.set_cons_succ]; refine hK _ _ ?_; clear hK K)))
  intro w3 hb3 hx0 hx1 hx2
  clear hx0 hx1 hx2
  simp only [Abs.T_setF, Abs.T_addA, Abs.T_push, Abs.T_start]
  have f_s3 := kp hb3 (f_s1)
  have rd_l3 := rd_l1.below hb3
  have rd_v3 := rd_v1.below hb3
  have hB3 := bB hB1 hb3
  clear zs_a zs_b
  obtain ⟨zs_a, zs_b, ls3⟩ := rcell f_s3
  go_wp2
  go_ret
  exact ⟨rfl, hB3⟩
set_option maxRecDepth 100000 in
set_option maxHeartbeats 4000000 in
include hR hV in
theorem right_l2 (h : rnB l = true) (he0 : 0 ≤ er) (he : er ≤ 1099511627776) (hk : ¬ kd = 4) (hl : vs.length = 0) (hL : isB A R N D = false) :
    Calls Tryz.prog 12 #[.agg #[.int .i64 kd, .slice RA l.length rc, .int .i64 A, .int .i64 R, .int .i64 N, .int .i64 D, .slice VA vs.length vc, .int .i64 er]] w fun e w' => e = .returned (.bool false) ∧ Below w.heap.size w w' := by
  have c1 := fun w hR => ref07_Right RA rc l w hR
  rw [h] at c1
  have d1 : decide (er < 0) = false := by simp; omega
  have d2 : decide (1099511627776 < er) = false := by simp; omega
  have dk : (kd == 4) = false := by simp [hk]
  have d3 : decide (0 < (vs.length : Int)) = false := decide_eq_false (by omega)
  have d3n : decide (0 < vs.length) = false := decide_eq_false (by omega)
  have d3p : ¬ 0 < vs.length := by omega
  clear hl
  have cL := ref_Right A R N D
  rw [hL] at cL
  go_enter Tryz.func12, Tryz.ntmps12
  go_wp2_with fail
  refine (c1 _ (hR.below (bA (b0 _) (.cells #[.int .i64 kd, .slice RA l.length rc, .int .i64 A, .int .i64 R, .int .i64 N, .int .i64 D, .slice VA vs.length vc, .int .i64 er] 27)))).mono ?_
  rintro e w1 ⟨rfl, hb1⟩
  have f_s1 := kp hb1 (na w #[.int .i64 kd, .slice RA l.length rc, .int .i64 A, .int .i64 R, .int .i64 N, .int .i64 D, .slice VA vs.length vc, .int .i64 er] 27)
  have rd_l1 := (hR.below (bA (b0 _) (.cells #[.int .i64 kd, .slice RA l.length rc, .int .i64 A, .int .i64 R, .int .i64 N, .int .i64 D, .slice VA vs.length vc, .int .i64 er] 27))).below hb1
  have rd_v1 := (hV.below (bA (b0 _) (.cells #[.int .i64 kd, .slice RA l.length rc, .int .i64 A, .int .i64 R, .int .i64 N, .int .i64 D, .slice VA vs.length vc, .int .i64 er] 27))).below hb1
  have hB1 := bB (bA (b0 w) (.cells #[.int .i64 kd, .slice RA l.length rc, .int .i64 A, .int .i64 R, .int .i64 N, .int .i64 D, .slice VA vs.length vc, .int .i64 er] 27)) hb1
  obtain ⟨zs_a, zs_b, ls1⟩ := rcell f_s1
  go_wp2_with fail
  refine Abs.wp_region_abs (Abs.cls0 _) [0, 1, 2, 3, 4, 5, 6, 7, 8, 9, 10, 11, 12, 13, 14, 15, 16, 17] (by kernel_rfl) (by kernel_rfl) (Below.refl _ _).drew ?_
  repeat (first | (refine Abs.step_pure rfl rfl (fun K hK => ?_); go_simp; (try go_bits); (first | refine hK _ _ ?_ | (simp only [↓IntWalk.iteOmega]; go_simp; (try go_bits); refine hK _ _ ?_)); clear hK K) | (refine Abs.step_load (v := ?_) rfl rfl (by kernel_rfl) rfl (fun w0 hI => ?_) (fun K hK => ?_); rotate_left; (· have z0 := (rcell (kp hI (f_s1))).1; go_simp; rfl); (simp only [Act.put, List.setIfInBounds_toArray, List.set_cons_zero, List.set_cons_succ]; refine hK _ _ ?_; clear hK K)) | (refine Abs.step_skip rfl rfl (fun K hK => ?_); (simp only [Act.put, List.setIfInBounds_toArray, List.set_cons_zero, List.set_cons_succ]; refine hK _ _ ?_; clear hK K)))
  (refine Abs.step_call_val (f := ?_) (args := ?_) (v := ?_) rfl rfl rfl rfl (fun w0 => ?_) (fun w0 hI => ?_) (fun K hK => ?_); rotate_left 3; (· go_simp; (constructor <;> rfl)); (· exact cL _); (simp only [Act.put, List.setIfInBounds_toArray, List.set_cons_zero, List.set_cons_succ]; refine hK _ _ ?_; clear hK K))
  repeat (first | (refine Abs.step_pure rfl rfl (fun K hK => ?_); go_simp; (try go_bits); (first | refine hK _ _ ?_ | (simp only [↓IntWalk.iteOmega]; go_simp; (try go_bits); refine hK _ _ ?_)); clear hK K) | (refine Abs.step_load (v := ?_) rfl rfl (by kernel_rfl) rfl (fun w0 hI => ?_) (fun K hK => ?_); rotate_left; (· have z0 := (rcell (kp hI (f_s1))).1; go_simp; rfl); (simp only [Act.put, List.setIfInBounds_toArray, List.set_cons_zero, List.set_cons_succ]; refine hK _ _ ?_; clear hK K)) | (refine Abs.step_skip rfl rfl (fun K hK => ?_); (simp only [Act.put, List.setIfInBounds_toArray, List.set_cons_zero, List.set_cons_succ]; refine hK _ _ ?_; clear hK K)))
  intro w3 hb3 hx0 hx1 hx2
  clear hx0 hx1 hx2
  simp only [Abs.T_setF, Abs.T_addA, Abs.T_push, Abs.T_start]
  have f_s3 := kp hb3 (f_s1)
  have rd_l3 := rd_l1.below hb3
  have rd_v3 := rd_v1.below hb3
  have hB3 := bB hB1 hb3
  clear zs_a zs_b
  obtain ⟨zs_a, zs_b, ls3⟩ := rcell f_s3
  go_wp2
  go_ret
  exact ⟨rfl, hB3⟩
set_option maxRecDepth 100000 in
set_option maxHeartbeats 4000000 in
include hR hV in
theorem right_l3 (h : rnB l = true) (he0 : 0 ≤ er) (he : er ≤ 1099511627776) (hk : ¬ kd = 4) (hl : vs.length = 0) (hL : isB A R N D = true) (hkk : ¬ kd = (if N = 0 then 1 else if R = 0 then 2 else 3)) :
    Calls Tryz.prog 12 #[.agg #[.int .i64 kd, .slice RA l.length rc, .int .i64 A, .int .i64 R, .int .i64 N, .int .i64 D, .slice VA vs.length vc, .int .i64 er]] w fun e w' => e = .returned (.bool false) ∧ Below w.heap.size w w' := by
  have c1 := fun w hR => ref07_Right RA rc l w hR
  rw [h] at c1
  have d1 : decide (er < 0) = false := by simp; omega
  have d2 : decide (1099511627776 < er) = false := by simp; omega
  have dk : (kd == 4) = false := by simp [hk]
  have d3 : decide (0 < (vs.length : Int)) = false := decide_eq_false (by omega)
  have d3n : decide (0 < vs.length) = false := decide_eq_false (by omega)
  have d3p : ¬ 0 < vs.length := by omega
  clear hl
  have cL := ref_Right A R N D
  rw [hL] at cL
  have cK := ref11_Kind A R N D
  generalize (if N = 0 then (1 : Int) else if R = 0 then 2 else 3) = kk at *
  have dkk : (kd == kk) = false := by simp [hkk]
  go_enter Tryz.func12, Tryz.ntmps12
  go_wp2_with fail
  refine (c1 _ (hR.below (bA (b0 _) (.cells #[.int .i64 kd, .slice RA l.length rc, .int .i64 A, .int .i64 R, .int .i64 N, .int .i64 D, .slice VA vs.length vc, .int .i64 er] 27)))).mono ?_
  rintro e w1 ⟨rfl, hb1⟩
  have f_s1 := kp hb1 (na w #[.int .i64 kd, .slice RA l.length rc, .int .i64 A, .int .i64 R, .int .i64 N, .int .i64 D, .slice VA vs.length vc, .int .i64 er] 27)
  have rd_l1 := (hR.below (bA (b0 _) (.cells #[.int .i64 kd, .slice RA l.length rc, .int .i64 A, .int .i64 R, .int .i64 N, .int .i64 D, .slice VA vs.length vc, .int .i64 er] 27))).below hb1
  have rd_v1 := (hV.below (bA (b0 _) (.cells #[.int .i64 kd, .slice RA l.length rc, .int .i64 A, .int .i64 R, .int .i64 N, .int .i64 D, .slice VA vs.length vc, .int .i64 er] 27))).below hb1
  have hB1 := bB (bA (b0 w) (.cells #[.int .i64 kd, .slice RA l.length rc, .int .i64 A, .int .i64 R, .int .i64 N, .int .i64 D, .slice VA vs.length vc, .int .i64 er] 27)) hb1
  obtain ⟨zs_a, zs_b, ls1⟩ := rcell f_s1
  go_wp2_with fail
  refine Abs.wp_region_abs (Abs.cls0 _) [0, 1, 2, 3, 4, 5, 6, 7, 8, 9, 10, 11, 12, 13, 14, 15, 16, 17] (by kernel_rfl) (by kernel_rfl) (Below.refl _ _).drew ?_
  repeat (first | (refine Abs.step_pure rfl rfl (fun K hK => ?_); go_simp; (try go_bits); (first | refine hK _ _ ?_ | (simp only [↓IntWalk.iteOmega]; go_simp; (try go_bits); refine hK _ _ ?_)); clear hK K) | (refine Abs.step_load (v := ?_) rfl rfl (by kernel_rfl) rfl (fun w0 hI => ?_) (fun K hK => ?_); rotate_left; (· have z0 := (rcell (kp hI (f_s1))).1; go_simp; rfl); (simp only [Act.put, List.setIfInBounds_toArray, List.set_cons_zero, List.set_cons_succ]; refine hK _ _ ?_; clear hK K)) | (refine Abs.step_skip rfl rfl (fun K hK => ?_); (simp only [Act.put, List.setIfInBounds_toArray, List.set_cons_zero, List.set_cons_succ]; refine hK _ _ ?_; clear hK K)))
  (refine Abs.step_call_val (f := ?_) (args := ?_) (v := ?_) rfl rfl rfl rfl (fun w0 => ?_) (fun w0 hI => ?_) (fun K hK => ?_); rotate_left 3; (· go_simp; (constructor <;> rfl)); (· exact cL _); (simp only [Act.put, List.setIfInBounds_toArray, List.set_cons_zero, List.set_cons_succ]; refine hK _ _ ?_; clear hK K))
  repeat (first | (refine Abs.step_pure rfl rfl (fun K hK => ?_); go_simp; (try go_bits); (first | refine hK _ _ ?_ | (simp only [↓IntWalk.iteOmega]; go_simp; (try go_bits); refine hK _ _ ?_)); clear hK K) | (refine Abs.step_load (v := ?_) rfl rfl (by kernel_rfl) rfl (fun w0 hI => ?_) (fun K hK => ?_); rotate_left; (· have z0 := (rcell (kp hI (f_s1))).1; go_simp; rfl); (simp only [Act.put, List.setIfInBounds_toArray, List.set_cons_zero, List.set_cons_succ]; refine hK _ _ ?_; clear hK K)) | (refine Abs.step_skip rfl rfl (fun K hK => ?_); (simp only [Act.put, List.setIfInBounds_toArray, List.set_cons_zero, List.set_cons_succ]; refine hK _ _ ?_; clear hK K)))
  (refine Abs.step_call_val (f := ?_) (args := ?_) (v := ?_) rfl rfl rfl rfl (fun w0 => ?_) (fun w0 hI => ?_) (fun K hK => ?_); rotate_left 3; (· go_simp; (constructor <;> rfl)); (· exact cK _); (simp only [Act.put, List.setIfInBounds_toArray, List.set_cons_zero, List.set_cons_succ]; refine hK _ _ ?_; clear hK K))
  repeat (first | (refine Abs.step_pure rfl rfl (fun K hK => ?_); go_simp; (try go_bits); (first | refine hK _ _ ?_ | (simp only [↓IntWalk.iteOmega]; go_simp; (try go_bits); refine hK _ _ ?_)); clear hK K) | (refine Abs.step_load (v := ?_) rfl rfl (by kernel_rfl) rfl (fun w0 hI => ?_) (fun K hK => ?_); rotate_left; (· have z0 := (rcell (kp hI (f_s1))).1; go_simp; rfl); (simp only [Act.put, List.setIfInBounds_toArray, List.set_cons_zero, List.set_cons_succ]; refine hK _ _ ?_; clear hK K)) | (refine Abs.step_skip rfl rfl (fun K hK => ?_); (simp only [Act.put, List.setIfInBounds_toArray, List.set_cons_zero, List.set_cons_succ]; refine hK _ _ ?_; clear hK K)))
  intro w3 hb3 hx0 hx1 hx2
  clear hx0 hx1 hx2
  simp only [Abs.T_setF, Abs.T_addA, Abs.T_push, Abs.T_start]
  have f_s3 := kp hb3 (f_s1)
  have rd_l3 := rd_l1.below hb3
  have rd_v3 := rd_v1.below hb3
  have hB3 := bB hB1 hb3
  clear zs_a zs_b
  obtain ⟨zs_a, zs_b, ls3⟩ := rcell f_s3
  go_wp2
  go_ret
  exact ⟨rfl, hB3⟩
set_option maxRecDepth 100000 in
set_option maxHeartbeats 4000000 in
include hR hV in
theorem right_l4 (h : rnB l = true) (he0 : 0 ≤ er) (he : er ≤ 1099511627776) (hk : ¬ kd = 4) (hl : vs.length = 0) (hL : isB A R N D = true) (hkk : kd = (if N = 0 then 1 else if R = 0 then 2 else 3)) :
    Calls Tryz.prog 12 #[.agg #[.int .i64 kd, .slice RA l.length rc, .int .i64 A, .int .i64 R, .int .i64 N, .int .i64 D, .slice VA vs.length vc, .int .i64 er]] w fun e w' => e = .returned (.bool (enE A R N D 0 (sgL l) == 0)) ∧ Below w.heap.size w w' := by
  have hri := right_iff l
  rw [h] at hri
  have hrs : rsB (tmR l) = true := by
    cases e : rsB (tmR l)
    · rw [e] at hri; cases hri
    · rfl
  have hpt := pts_line h hL
  have cP := fun w hR => ref11_Points_line RA VA rc vc l vs kd A R N D er hrs w hR hk hL
  rw [hpt] at cP
  generalize (enE A R N D 0 (sgL l) == 0) = z at *
  clear hpt hri hrs
  have c1 := fun w hR => ref07_Right RA rc l w hR
  rw [h] at c1
  have d1 : decide (er < 0) = false := by simp; omega
  have d2 : decide (1099511627776 < er) = false := by simp; omega
  have dk : (kd == 4) = false := by simp [hk]
  have d3 : decide (0 < (vs.length : Int)) = false := decide_eq_false (by omega)
  have d3n : decide (0 < vs.length) = false := decide_eq_false (by omega)
  have d3p : ¬ 0 < vs.length := by omega
  clear hl
  have cL := ref_Right A R N D
  rw [hL] at cL
  have cK := ref11_Kind A R N D
  generalize (if N = 0 then (1 : Int) else if R = 0 then 2 else 3) = kk at *
  have dkk : (kd == kk) = true := by simp [hkk]
  have HKK := hide hkk
  clear hkk
  go_enter Tryz.func12, Tryz.ntmps12
  go_wp2_with fail
  refine (c1 _ (hR.below (bA (b0 _) (.cells #[.int .i64 kd, .slice RA l.length rc, .int .i64 A, .int .i64 R, .int .i64 N, .int .i64 D, .slice VA vs.length vc, .int .i64 er] 27)))).mono ?_
  rintro e w1 ⟨rfl, hb1⟩
  have f_s1 := kp hb1 (na w #[.int .i64 kd, .slice RA l.length rc, .int .i64 A, .int .i64 R, .int .i64 N, .int .i64 D, .slice VA vs.length vc, .int .i64 er] 27)
  have rd_l1 := (hR.below (bA (b0 _) (.cells #[.int .i64 kd, .slice RA l.length rc, .int .i64 A, .int .i64 R, .int .i64 N, .int .i64 D, .slice VA vs.length vc, .int .i64 er] 27))).below hb1
  have rd_v1 := (hV.below (bA (b0 _) (.cells #[.int .i64 kd, .slice RA l.length rc, .int .i64 A, .int .i64 R, .int .i64 N, .int .i64 D, .slice VA vs.length vc, .int .i64 er] 27))).below hb1
  have hB1 := bB (bA (b0 w) (.cells #[.int .i64 kd, .slice RA l.length rc, .int .i64 A, .int .i64 R, .int .i64 N, .int .i64 D, .slice VA vs.length vc, .int .i64 er] 27)) hb1
  obtain ⟨zs_a, zs_b, ls1⟩ := rcell f_s1
  go_wp2_with fail
  refine Abs.wp_region_abs (Abs.cls0 _) [0, 1, 2, 3, 4, 5, 6, 7, 8, 9, 10, 11, 12, 13, 14, 15, 16, 17] (by kernel_rfl) (by kernel_rfl) (Below.refl _ _).drew ?_
  repeat (first | (refine Abs.step_pure rfl rfl (fun K hK => ?_); go_simp; (try go_bits); (first | refine hK _ _ ?_ | (simp only [↓IntWalk.iteOmega]; go_simp; (try go_bits); refine hK _ _ ?_)); clear hK K) | (refine Abs.step_load (v := ?_) rfl rfl (by kernel_rfl) rfl (fun w0 hI => ?_) (fun K hK => ?_); rotate_left; (· have z0 := (rcell (kp hI (f_s1))).1; go_simp; rfl); (simp only [Act.put, List.setIfInBounds_toArray, List.set_cons_zero, List.set_cons_succ]; refine hK _ _ ?_; clear hK K)) | (refine Abs.step_skip rfl rfl (fun K hK => ?_); (simp only [Act.put, List.setIfInBounds_toArray, List.set_cons_zero, List.set_cons_succ]; refine hK _ _ ?_; clear hK K)))
  (refine Abs.step_call_val (f := ?_) (args := ?_) (v := ?_) rfl rfl rfl rfl (fun w0 => ?_) (fun w0 hI => ?_) (fun K hK => ?_); rotate_left 3; (· go_simp; (constructor <;> rfl)); (· exact cL _); (simp only [Act.put, List.setIfInBounds_toArray, List.set_cons_zero, List.set_cons_succ]; refine hK _ _ ?_; clear hK K))
  repeat (first | (refine Abs.step_pure rfl rfl (fun K hK => ?_); go_simp; (try go_bits); (first | refine hK _ _ ?_ | (simp only [↓IntWalk.iteOmega]; go_simp; (try go_bits); refine hK _ _ ?_)); clear hK K) | (refine Abs.step_load (v := ?_) rfl rfl (by kernel_rfl) rfl (fun w0 hI => ?_) (fun K hK => ?_); rotate_left; (· have z0 := (rcell (kp hI (f_s1))).1; go_simp; rfl); (simp only [Act.put, List.setIfInBounds_toArray, List.set_cons_zero, List.set_cons_succ]; refine hK _ _ ?_; clear hK K)) | (refine Abs.step_skip rfl rfl (fun K hK => ?_); (simp only [Act.put, List.setIfInBounds_toArray, List.set_cons_zero, List.set_cons_succ]; refine hK _ _ ?_; clear hK K)))
  (refine Abs.step_call_val (f := ?_) (args := ?_) (v := ?_) rfl rfl rfl rfl (fun w0 => ?_) (fun w0 hI => ?_) (fun K hK => ?_); rotate_left 3; (· go_simp; (constructor <;> rfl)); (· exact cK _); (simp only [Act.put, List.setIfInBounds_toArray, List.set_cons_zero, List.set_cons_succ]; refine hK _ _ ?_; clear hK K))
  repeat (first | (refine Abs.step_pure rfl rfl (fun K hK => ?_); go_simp; (try go_bits); (first | refine hK _ _ ?_ | (simp only [↓IntWalk.iteOmega]; go_simp; (try go_bits); refine hK _ _ ?_)); clear hK K) | (refine Abs.step_load (v := ?_) rfl rfl (by kernel_rfl) rfl (fun w0 hI => ?_) (fun K hK => ?_); rotate_left; (· have z0 := (rcell (kp hI (f_s1))).1; go_simp; rfl); (simp only [Act.put, List.setIfInBounds_toArray, List.set_cons_zero, List.set_cons_succ]; refine hK _ _ ?_; clear hK K)) | (refine Abs.step_skip rfl rfl (fun K hK => ?_); (simp only [Act.put, List.setIfInBounds_toArray, List.set_cons_zero, List.set_cons_succ]; refine hK _ _ ?_; clear hK K)))
  intro w3 hb3 hx0 hx1 hx2
  clear hx0 hx1 hx2
  simp only [Abs.T_setF, Abs.T_addA, Abs.T_push, Abs.T_start]
  have f_s3 := kp hb3 (f_s1)
  have rd_l3 := rd_l1.below hb3
  have rd_v3 := rd_v1.below hb3
  have hB3 := bB hB1 hb3
  clear zs_a zs_b
  obtain ⟨zs_a, zs_b, ls3⟩ := rcell f_s3
  go_wp2_with fail
  refine (cP _ rd_l3).mono ?_
  rintro e w9 ⟨v9, rfl, hb9⟩
  go_wp2
  go_ret
  exact ⟨rfl, bB hB3 hb9⟩
include hR hV in
theorem ref11_Right :
    Calls Tryz.prog 12 #[.agg #[.int .i64 kd, .slice RA l.length rc, .int .i64 A, .int .i64 R, .int .i64 N, .int .i64 D, .slice VA vs.length vc, .int .i64 er]] w fun e w' => e = .returned (.bool (sgB ⟨kd, l, ⟨A, R, N, D⟩, vs, er⟩)) ∧ Below w.heap.size w w' := by
  cases h : rnB l
  · have hz : sgB ⟨kd, l, ⟨A, R, N, D⟩, vs, er⟩ = false := by unfold sgB; simp [h]
    rw [hz]
    exact right_a RA VA rc vc l vs kd A R N D er w hR hV h
  by_cases e0 : er < 0
  · have hz : sgB ⟨kd, l, ⟨A, R, N, D⟩, vs, er⟩ = false := by unfold sgB; simp; omega
    rw [hz]
    exact right_b RA VA rc vc l vs kd A R N D er w hR hV h e0
  by_cases e1 : 1099511627776 < er
  · have hz : sgB ⟨kd, l, ⟨A, R, N, D⟩, vs, er⟩ = false := by unfold sgB; simp; omega
    rw [hz]
    exact right_c RA VA rc vc l vs kd A R N D er w hR hV h (by omega) e1
  have e0' : 0 ≤ er := by omega
  have e1' : er ≤ 1099511627776 := by omega
  by_cases hk : kd = 4
  · subst hk
    have hz : sgB ⟨4, l, ⟨A, R, N, D⟩, vs, er⟩ = rwB l vs A R N D := by unfold sgB kdB; simp [h, e0', e1']
    rw [hz]
    unfold rwB zB
    by_cases q : A = 0 ∧ R = 0 ∧ N = 0 ∧ D = 0
    · obtain ⟨rfl, rfl, rfl, rfl⟩ := q
      by_cases hn : vs.length = (tmR l).length
      · rw [decide_eq_true ⟨rfl, rfl, rfl, rfl⟩, decide_eq_true (by rw [← tmR_len h]; omega), Bool.true_and, Bool.true_and]
        exact right_4f RA VA rc vc l vs er w hR hV h e0' e1' hn
      · rw [decide_eq_true ⟨rfl, rfl, rfl, rfl⟩, decide_eq_false (by rw [← tmR_len h]; omega), Bool.true_and, Bool.false_and]
        exact right_4e RA VA rc vc l vs er w hR hV h e0' e1' hn
    · rw [decide_eq_false q, Bool.false_and]
      have hz' : ¬ A = 0 ∨ (A = 0 ∧ ¬ R = 0) ∨ (A = 0 ∧ R = 0 ∧ ¬ N = 0) ∨ (A = 0 ∧ R = 0 ∧ N = 0 ∧ ¬ D = 0) := by omega
      clear hz
      rcases hz' with hz | ⟨rfl, hz⟩ | ⟨rfl, rfl, hz⟩ | ⟨rfl, rfl, rfl, hz⟩
      · exact right_4a RA VA rc vc l vs A R N D er w hR hV h e0' e1' hz
      · exact right_4b RA VA rc vc l vs R N D er w hR hV h e0' e1' hz
      · exact right_4c RA VA rc vc l vs N D er w hR hV h e0' e1' hz
      · exact right_4d RA VA rc vc l vs D er w hR hV h e0' e1' hz
  by_cases hl : vs.length = 0
  · cases hL : isB A R N D
    · have hz : sgB ⟨kd, l, ⟨A, R, N, D⟩, vs, er⟩ = false := by
        have he : (enE A R N D 0 (sgL l) == 0) = false := by unfold enE; simp [hL]
        unfold sgB kdB lnB
        simp only [he, Bool.false_and, Bool.and_false]
        by_cases q1 : kd = 1 <;> by_cases q2 : kd = 2 <;> by_cases q3 : kd = 3 <;> simp [q1, q2, q3]
        intros; omega
      rw [hz]
      exact right_l2 RA VA rc vc l vs kd A R N D er w hR hV h e0' e1' hk hl hL
    · by_cases hkk : kd = (if N = 0 then 1 else if R = 0 then 2 else 3)
      · have hz : sgB ⟨kd, l, ⟨A, R, N, D⟩, vs, er⟩ = (enE A R N D 0 (sgL l) == 0) := by
          unfold sgB kdB lnB
          subst hkk
          by_cases q1 : N = 0
          · simp [q1, h, e0', e1', hl]
          · by_cases q2 : R = 0
            · simp [q1, q2, h, e0', e1', hl]
            · simp [q1, q2, h, e0', e1', hl]
        rw [hz]
        exact right_l4 RA VA rc vc l vs kd A R N D er w hR hV h e0' e1' hk hl hL hkk
      · have hz : sgB ⟨kd, l, ⟨A, R, N, D⟩, vs, er⟩ = false := by
          have hR' := (isB_spec hL).2.2
          unfold sgB kdB lnB
          by_cases q1 : kd = 1
          · subst q1
            have : ¬ N = 0 := fun e => hkk (by rw [if_pos e])
            simp [this]
          · by_cases q2 : kd = 2
            · subst q2
              by_cases n0 : N = 0
              · simp [n0]
              · have : ¬ R = 0 := fun e => hkk (by rw [if_neg n0, if_pos e])
                simp [this]
            · by_cases q3 : kd = 3
              · subst q3
                by_cases r0 : R = 0
                · simp [r0]
                · have n0 : N = 0 := by
                    apply Classical.byContradiction
                    intro n0
                    exact hkk (by rw [if_neg n0, if_neg r0])
                  subst n0
                  obtain ⟨i1, i2, ⟨i3, i4⟩, i5, i6⟩ := isB_parts hL
                  obtain ⟨j1, j2, j3, j4⟩ := slB_spec i2
                  rw [lwD_zero j1] at i4
                  omega
              · simp [q1, q2, q3]
                intros; omega
        rw [hz]
        exact right_l3 RA VA rc vc l vs kd A R N D er w hR hV h e0' e1' hk hl hL hkk
  · have hz : sgB ⟨kd, l, ⟨A, R, N, D⟩, vs, er⟩ = false := by
      have he : ((vs.length : Int) == 0) = false := by simp; intro e; rw [e] at hl; exact hl rfl
      unfold sgB kdB lnB
      simp only [he, Bool.and_false]
      by_cases q1 : kd = 1 <;> by_cases q2 : kd = 2 <;> by_cases q3 : kd = 3 <;> simp [q1, q2, q3]
      intros; omega
    rw [hz]
    exact right_l1 RA VA rc vc l vs kd A R N D er w hR hV h e0' e1' hk (by omega)
end
end Go.Proofs.YtmpfbkeamihjbaaGreat
