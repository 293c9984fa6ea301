/- yearbookref06.Sum at this program. -/
import Derived.Test.YtlgjapjcdpikeaaRef14
import Derived.Test.YtlgjapjcdpikeaaFsum6
set_option linter.unusedSimpArgs false
set_option linter.unusedVariables false
namespace Go.Proofs.Ytlgjapjcdpikeaa
open Go.RowKit

/-- a block holds a number -/
def NumAt (g : Nat) (x : Int) (w : World) : Prop := ∃ A c, w.heap[g]? = some (.cells #[.bool (decide (x < 0)), .slice A (sz x.natAbs).length c] 55 (0, 0)) ∧ Rd w A c (sz x.natAbs)

theorem NumAt.zero {g : Nat} {w : World} (h : w.heap[g]? = some (.cells #[.bool false, .slice none 0 0] 55 (0, 0))) : NumAt g 0 w := by
  refine ⟨none, 0, ?_, ?_⟩
  · rw [Int.natAbs_zero, sz_zero]; exact h
  · rw [Int.natAbs_zero, sz_zero]; exact Rd.nil _ _ _

theorem sum_math {n a b m : Int} (h : RowOk n a b m) (k : Nat) (hk : (k : Int) ≤ n) :
    ((a * k + b).natAbs < 2 ^ 127 ∧ (fl k a b m).natAbs < 2 ^ 127 ∧ (rs k a b m).natAbs < 2 ^ 63) ∧ ((a * k + b) / m).natAbs < 2 ^ 127 ∧ ((a * k + b) % m).natAbs < 2 ^ 63 := by
  obtain ⟨g1, g2, g3, g4, g5, g6, g7, g8⟩ := h
  have h' : RowOk (k : Int) a b m := ⟨by omega, by omega, by omega, by omega, by omega, by omega, by omega, by omega⟩
  have f1 := fl_bd h'
  rw [Int.toNat_natCast] at f1
  have r0 := rs_nn k a b m (by omega)
  have r1 := rs_top k a b m (by omega)
  have r2 := mul_bd (m - 1) k 281474976710656 256 (by omega) (by omega) (by omega) (by omega)
  rw [Int.mul_comm (m - 1)] at r2
  have x1 := mul_bd a k 2596148429267413814265248164610048 256 (by omega) (by omega) (by omega) (by omega)
  have x2 := div_bd (a * k + b) m (2596148429267413814265248164610048 * 257) (by omega) (by omega) (by omega)
  have y1 := Int.emod_nonneg (a * k + b) (show m ≠ 0 by omega)
  have y2 := Int.emod_lt_of_pos (a * k + b) (show 0 < m by omega)
  have e1 : (2 : Nat) ^ 127 = 170141183460469231731687303715884105728 := by decide
  have e2 : (2 : Nat) ^ 63 = 9223372036854775808 := by decide
  rw [e1, e2]
  refine ⟨⟨?_, ?_, ?_⟩, ?_, ?_⟩ <;> omega

set_option maxRecDepth 100000 in
set_option maxHeartbeats 2000000 in
theorem ref6_Sum (n a b m : Int) (h : RowOk n a b m) (w : World) :
    Calls Try.prog 44 #[.int .i64 n, .agg #[.int .i64 (hi a), .int .u64 (lo a)], .agg #[.int .i64 (hi b), .int .u64 (lo b)], .int .i64 m] w fun e w' => e = .returned (.tuple #[.agg #[.int .i64 (hi (fl n.toNat a b m)), .int .u64 (lo (fl n.toNat a b m))], .int .i64 (rs n.toNat a b m)]) ∧ Below w.heap.size w w' := by
  have hM := fun k hk => hide (sum_math h k hk)
  have hF := sum_math h n.toNat (by have := h.1; omega)
  have hW := fl_bd h
  obtain ⟨g1, g2, g3, g4, g5, g6, g7, g8⟩ := h
  have HM : Hid (∀ k : Nat, (k : Int) ≤ n → Hid _) := hide hM
  have c1 := ref_Of b ⟨by omega, by omega⟩
  have c2 := ref_Of a ⟨by omega, by omega⟩
  have c3 := ref_Int m (by omega) (by omega)
  have cW := fun A c w ha => ref_Wide_yes (fl n.toNat a b m) A c ⟨by omega, by omega⟩ w ha
  have r63 : (rs n.toNat a b m).natAbs < 9223372036854775808 := by have := hF.1.2.2; omega
  have cV := fun A c w ha => ref_Value_yes (rs n.toNat a b m) A c (by omega) (by omega) w ha
  have lm : (sz m.natAbs).length ≤ 800 := Nat.le_trans (sz_i64 (by omega) (by omega)) (by decide)
  have la : a.natAbs < 2 ^ 112 := by
    have e : (2 : Nat) ^ 112 = 5192296858534827628530496329220096 := by decide
    rw [e]; omega
  have LA := hide la
  clear hM hF hW r63 la g3 g4 g5 g6
  go_enter Try.func44, Try.ntmps44
  go_wp2_with fail
  have f_u1 := (ka (ka (na w #[.int .i64 (hi a), .int .u64 (lo a)] 46) (.cells #[.int .i64 (hi b), .int .u64 (lo b)] 46)) (.cells #[.int .i64 0, .int .u64 0] 46))
  have f_v1 := (ka (na1 w (.cells #[.int .i64 (hi a), .int .u64 (lo a)] 46) #[.int .i64 (hi b), .int .u64 (lo b)] 46) (.cells #[.int .i64 0, .int .u64 0] 46))
  have f_o1 := (na2 w (.cells #[.int .i64 (hi a), .int .u64 (lo a)] 46) (.cells #[.int .i64 (hi b), .int .u64 (lo b)] 46) #[.int .i64 0, .int .u64 0] 46)
  have hB1 := (bA (bA (bA (b0 w) (.cells #[.int .i64 (hi a), .int .u64 (lo a)] 46)) (.cells #[.int .i64 (hi b), .int .u64 (lo b)] 46)) (.cells #[.int .i64 0, .int .u64 0] 46))
  have lu1 := (rcell f_u1).2.2
  have lv1 := (rcell f_v1).2.2
  have lo1 := (rcell f_o1).2.2
  refine Abs.wp_region_abs (Abs.cls0 _) [0, 1, 2, 3, 4, 5, 6, 7, 8, 9, 10, 11] (by kernel_rfl) (by kernel_rfl) (Below.refl _ _).drew ?_
  repeat (first | (refine Abs.step_pure rfl rfl (fun K hK => ?_); go_simp; (try go_bits); (first | refine hK _ _ ?_ | (simp only [↓IntWalk.iteOmega]; go_simp; (try go_bits); refine hK _ _ ?_)); clear hK K) | (refine Abs.step_load (v := ?_) rfl rfl (by kernel_rfl) rfl (fun w0 hI => ?_) (fun K hK => ?_); rotate_left; (· have z0 := (rcell (kp hI (f_u1))).1; have z1 := (rcell (kp hI (f_v1))).1; go_simp; rfl); (simp only [Act.put, List.setIfInBounds_toArray, List.set_cons_zero, List.set_cons_succ]; refine hK _ _ ?_; clear hK K)) | (refine Abs.step_skip rfl rfl (fun K hK => ?_); (simp only [Act.put, List.setIfInBounds_toArray, List.set_cons_zero, List.set_cons_succ]; refine hK _ _ ?_; clear hK K)))
  (refine Abs.step_call (f := ?_) (args := ?_) rfl rfl rfl rfl (NumIs (b)) (fun _ => Cl_NumIs _) (fun w0 => ?_) (fun w0 hI hF => ?_) (fun K hK v w0 hv => ?_); rotate_left 2; (· go_simp; (constructor <;> rfl)); (· exact (c1 _).mono (fun _ _ h => h.num)); (obtain ⟨A1, e1, rfl, -⟩ := hv; clear w0; simp only [Act.put, List.setIfInBounds_toArray, List.set_cons_zero, List.set_cons_succ]; refine hK _ _ ?_; clear hK K))
  repeat (first | (refine Abs.step_pure rfl rfl (fun K hK => ?_); go_simp; (try go_bits); (first | refine hK _ _ ?_ | (simp only [↓IntWalk.iteOmega]; go_simp; (try go_bits); refine hK _ _ ?_)); clear hK K) | (refine Abs.step_load (v := ?_) rfl rfl (by kernel_rfl) rfl (fun w0 hI => ?_) (fun K hK => ?_); rotate_left; (· have z0 := (rcell (kp hI (f_u1))).1; have z1 := (rcell (kp hI (f_v1))).1; go_simp; rfl); (simp only [Act.put, List.setIfInBounds_toArray, List.set_cons_zero, List.set_cons_succ]; refine hK _ _ ?_; clear hK K)) | (refine Abs.step_skip rfl rfl (fun K hK => ?_); (simp only [Act.put, List.setIfInBounds_toArray, List.set_cons_zero, List.set_cons_succ]; refine hK _ _ ?_; clear hK K)))
  (refine Abs.step_call (f := ?_) (args := ?_) rfl rfl rfl rfl (NumIs (a)) (fun _ => Cl_NumIs _) (fun w0 => ?_) (fun w0 hI hF => ?_) (fun K hK v w0 hv => ?_); rotate_left 2; (· go_simp; (constructor <;> rfl)); (· exact (c2 _).mono (fun _ _ h => h.num)); (obtain ⟨A2, e2, rfl, -⟩ := hv; clear w0; simp only [Act.put, List.setIfInBounds_toArray, List.set_cons_zero, List.set_cons_succ]; refine hK _ _ ?_; clear hK K))
  repeat (first | (refine Abs.step_pure rfl rfl (fun K hK => ?_); go_simp; (try go_bits); (first | refine hK _ _ ?_ | (simp only [↓IntWalk.iteOmega]; go_simp; (try go_bits); refine hK _ _ ?_)); clear hK K) | (refine Abs.step_load (v := ?_) rfl rfl (by kernel_rfl) rfl (fun w0 hI => ?_) (fun K hK => ?_); rotate_left; (· have z0 := (rcell (kp hI (f_u1))).1; have z1 := (rcell (kp hI (f_v1))).1; go_simp; rfl); (simp only [Act.put, List.setIfInBounds_toArray, List.set_cons_zero, List.set_cons_succ]; refine hK _ _ ?_; clear hK K)) | (refine Abs.step_skip rfl rfl (fun K hK => ?_); (simp only [Act.put, List.setIfInBounds_toArray, List.set_cons_zero, List.set_cons_succ]; refine hK _ _ ?_; clear hK K)))
  (refine Abs.step_call (f := ?_) (args := ?_) rfl rfl rfl rfl (NumIs (m)) (fun _ => Cl_NumIs _) (fun w0 => ?_) (fun w0 hI hF => ?_) (fun K hK v w0 hv => ?_); rotate_left 2; (· go_simp; (constructor <;> rfl)); (· exact (c3 _).mono (fun _ _ h => h.num)); (obtain ⟨A3, e3, rfl, -⟩ := hv; clear w0; simp only [Act.put, List.setIfInBounds_toArray, List.set_cons_zero, List.set_cons_succ]; refine hK _ _ ?_; clear hK K))
  repeat (first | (refine Abs.step_pure rfl rfl (fun K hK => ?_); go_simp; (try go_bits); (first | refine hK _ _ ?_ | (simp only [↓IntWalk.iteOmega]; go_simp; (try go_bits); refine hK _ _ ?_)); clear hK K) | (refine Abs.step_load (v := ?_) rfl rfl (by kernel_rfl) rfl (fun w0 hI => ?_) (fun K hK => ?_); rotate_left; (· have z0 := (rcell (kp hI (f_u1))).1; have z1 := (rcell (kp hI (f_v1))).1; go_simp; rfl); (simp only [Act.put, List.setIfInBounds_toArray, List.set_cons_zero, List.set_cons_succ]; refine hK _ _ ?_; clear hK K)) | (refine Abs.step_skip rfl rfl (fun K hK => ?_); (simp only [Act.put, List.setIfInBounds_toArray, List.set_cons_zero, List.set_cons_succ]; refine hK _ _ ?_; clear hK K)))
  (refine Abs.step_var (obj := ?_) rfl rfl rfl rfl (fun w0 => ?_) (fun K hK g_at hv_at hu_at => ?_); rotate_left; (· go_simp; rfl); (simp only [Act.put, List.setIfInBounds_toArray, List.set_cons_zero, List.set_cons_succ]; refine hK _ _ ?_; clear hK K))
  (refine Abs.step_var (obj := ?_) rfl rfl rfl rfl (fun w0 => ?_) (fun K hK g_by hv_by hu_by => ?_); rotate_left; (· go_simp; rfl); (simp only [Act.put, List.setIfInBounds_toArray, List.set_cons_zero, List.set_cons_succ]; refine hK _ _ ?_; clear hK K))
  (refine Abs.step_var (obj := ?_) rfl rfl rfl rfl (fun w0 => ?_) (fun K hK g_mo hv_mo hu_mo => ?_); rotate_left; (· go_simp; rfl); (simp only [Act.put, List.setIfInBounds_toArray, List.set_cons_zero, List.set_cons_succ]; refine hK _ _ ?_; clear hK K))
  (refine Abs.step_store (T := ?_) rfl rfl rfl (fun w0 hI hF hU => ?_) (fun _ _ _ _ => trivial) (fun K hK => ?_); rotate_left; (· have hR := (hF 6).1.1.2 rfl; have hg0 := (rcell hR).1; have hg1 := (rcell hR).2.1; simp only [Abs.T_setF, Abs.T_addA, Abs.T_push, Abs.T_start]; go_simp; exact row2 hR _ _); (simp only [Act.put, List.setIfInBounds_toArray, List.set_cons_zero, List.set_cons_succ]; refine hK _ _ ?_; clear hK K))
  (refine Abs.step_store (T := ?_) rfl rfl rfl (fun w0 hI hF hU => ?_) (fun _ _ _ _ => trivial) (fun K hK => ?_); rotate_left; (· have hR := fun cs => (setRow_other (w := w0) (g := g_at) cs (fun e => hu_by (Or.inl e))).trans ((hF 7).1.2 rfl); have hg0 := fun cs => (rcell (hR cs)).1; have hg1 := fun cs => (rcell (hR cs)).2.1; simp only [Abs.T_setF, Abs.T_addA, Abs.T_push, Abs.T_start]; go_simp; exact row2 (hR _) _ _); (simp only [Act.put, List.setIfInBounds_toArray, List.set_cons_zero, List.set_cons_succ]; refine hK _ _ ?_; clear hK K))
  (refine Abs.step_store (T := ?_) rfl rfl rfl (fun w0 hI hF hU => ?_) (fun _ _ _ _ => trivial) (fun K hK => ?_); rotate_left; (· have hR := fun cs ds => (setRow_other (w := setRow w0 g_at cs) (g := g_by) ds (fun e => hu_mo (Or.inl e))).trans ((setRow_other (w := w0) (g := g_at) cs (fun e => hu_mo (Or.inr (Or.inl e)))).trans ((hF 8).2 rfl)); have hg0 := fun cs ds => (rcell (hR cs ds)).1; have hg1 := fun cs ds => (rcell (hR cs ds)).2.1; simp only [Abs.T_setF, Abs.T_addA, Abs.T_push, Abs.T_start]; go_simp; exact row2 (hR _ _) _ _); (simp only [Act.put, List.setIfInBounds_toArray, List.set_cons_zero, List.set_cons_succ]; refine hK _ _ ?_; clear hK K))
  have hs_at := leB hv_at
  try simp only [World.size_alloc] at hs_at
  have hs_by := leB hv_by
  try simp only [World.size_alloc] at hs_by
  have hs_mo := leB hv_mo
  try simp only [World.size_alloc] at hs_mo
  have n21 : g_by ≠ g_at := fun e => hu_by (Or.inl e)
  have n32 : g_mo ≠ g_by := fun e => hu_mo (Or.inl e)
  have n31 : g_mo ≠ g_at := fun e => hu_mo (Or.inr (Or.inl e))
  intro w0 hI hF hx1 hx2
  clear hx1 hx2
  have q1 := (hF 6).1.1.2 rfl
  have q2 := (hF 7).1.2 rfl
  have q3 := (hF 8).2 rfl
  have rn_at := ((hF 1).1.1.1.1.1.2 rfl).rd
  have rn_by := ((hF 3).1.1.1.1.2 rfl).rd
  have rn_mo := ((hF 5).1.1.1.2 rfl).rd
  clear hF
  simp only [Abs.T_push]
  generalize hTa : setRow w0 _ _ = wa
  have ea := (fin_x (b0 _) q1 hTa).1
  replace rn_at := rn_at.exc ea q1 (by decide)
  replace rn_by := rn_by.exc ea q1 (by decide)
  replace rn_mo := rn_mo.exc ea q1 (by decide)
  obtain ⟨ba, fa⟩ := fin1 hI hv_at q1 hTa
  have qq : wa.heap[g_by]? = w0.heap[g_by]? := by rw [← hTa]; exact setRow_other _ n21
  replace q2 := qq.trans q2
  clear qq
  have qq : wa.heap[g_mo]? = w0.heap[g_mo]? := by rw [← hTa]; exact setRow_other _ n31
  replace q3 := qq.trans q3
  clear qq
  generalize hTb : setRow wa _ _ = wb
  have eb := (fin_x (b0 _) q2 hTb).1
  replace rn_at := rn_at.exc eb q2 (by decide)
  replace rn_by := rn_by.exc eb q2 (by decide)
  replace rn_mo := rn_mo.exc eb q2 (by decide)
  obtain ⟨bb, fb⟩ := fin1 ba hv_by q2 hTb
  have qq : wb.heap[g_at]? = wa.heap[g_at]? := by rw [← hTb]; exact setRow_other _ n21.symm
  replace fa := qq.trans fa
  clear qq
  have qq : wb.heap[g_mo]? = wa.heap[g_mo]? := by rw [← hTb]; exact setRow_other _ n32
  replace q3 := qq.trans q3
  clear qq
  generalize hTc : setRow wb _ _ = w2
  have ec := (fin_x (b0 _) q3 hTc).1
  replace rn_at := rn_at.exc ec q3 (by decide)
  replace rn_by := rn_by.exc ec q3 (by decide)
  replace rn_mo := rn_mo.exc ec q3 (by decide)
  obtain ⟨hb2, fc⟩ := fin1 bb hv_mo q3 hTc
  have qq : w2.heap[g_at]? = wb.heap[g_at]? := by rw [← hTc]; exact setRow_other _ n31.symm
  replace fa := qq.trans fa
  clear qq
  have qq : w2.heap[g_by]? = wb.heap[g_by]? := by rw [← hTc]; exact setRow_other _ n32.symm
  replace fb := qq.trans fb
  clear qq
  clear hTa hTb hTc ea eb ec q1 q2 q3 ba bb hI w0
  have f_u2 := kp hb2 (f_u1)
  have f_v2 := kp hb2 (f_v1)
  have f_o2 := kp hb2 (f_o1)
  have f_at2 := fa
  have f_by2 := fb
  have f_mo2 := fc
  have hB2 := bB hB1 hb2
  obtain ⟨zu_a, zu_b, lu2⟩ := rcell f_u2
  obtain ⟨zv_a, zv_b, lv2⟩ := rcell f_v2
  obtain ⟨zo_a, zo_b, lo2⟩ := rcell f_o2
  obtain ⟨zat_a, zat_b, lat2⟩ := rcell f_at2
  obtain ⟨zby_a, zby_b, lby2⟩ := rcell f_by2
  obtain ⟨zmo_a, zmo_b, lmo2⟩ := rcell f_mo2
  go_wp2_with fail
  go_loopw [28] (fun vi wr => ∃ k : Nat, vi = .int .i64 k ∧ (k : Int) ≤ n ∧ (wr.heap[w.heap.size + 1 + 1]? = some (.cells #[.int .i64 0, .int .u64 0] 46 (0, 0)) ∧ NumAt g_at (a * k + b) wr ∧ NumAt g_by a wr ∧ NumAt g_mo m wr ∧ NumAt w2.heap.size (fl k a b m) wr ∧ NumAt (w2.heap.size + 1) (rs k a b m) wr ∧ Below w.heap.size w wr)) (fun vi _ => (n - intOf vi).toNat)
  case atStart =>
    refine ⟨0, rfl, by omega, (ka (ka (f_o2) (.cells #[.bool false, .slice none 0 0] 55)) (.cells #[.bool false, .slice none 0 0] 55)), ?_, ⟨_, _, (ka (ka (f_by2) (.cells #[.bool false, .slice none 0 0] 55)) (.cells #[.bool false, .slice none 0 0] 55)), (rn_by.below (bA (bA (b0 _) (.cells #[.bool false, .slice none 0 0] 55)) (.cells #[.bool false, .slice none 0 0] 55)))⟩, ⟨_, _, (ka (ka (f_mo2) (.cells #[.bool false, .slice none 0 0] 55)) (.cells #[.bool false, .slice none 0 0] 55)), (rn_mo.below (bA (bA (b0 _) (.cells #[.bool false, .slice none 0 0] 55)) (.cells #[.bool false, .slice none 0 0] 55)))⟩, NumAt.zero (ka (na w2 #[.bool false, .slice none 0 0] 55) (.cells #[.bool false, .slice none 0 0] 55)), NumAt.zero (na1 w2 (.cells #[.bool false, .slice none 0 0] 55) #[.bool false, .slice none 0 0] 55), (bA (bA hB2 (.cells #[.bool false, .slice none 0 0] 55)) (.cells #[.bool false, .slice none 0 0] 55))⟩
    rw [show a * ((0 : Nat) : Int) + b = b by simp]
    exact ⟨_, _, (ka (ka (f_at2) (.cells #[.bool false, .slice none 0 0] 55)) (.cells #[.bool false, .slice none 0 0] 55)), (rn_at.below (bA (bA (b0 _) (.cells #[.bool false, .slice none 0 0] 55)) (.cells #[.bool false, .slice none 0 0] 55)))⟩
  case round =>
    obtain ⟨k, rfl, hk, jo, ⟨A4, e4, j1, r1⟩, ⟨A5, e5, j2, r2⟩, ⟨A6, e6, j3, r3⟩, ⟨A7, e7, j4, r4⟩, ⟨A8, e8, j5, r5⟩, hb0⟩ := hrel
    by_cases hlt : (k : Int) < n
    · obtain ⟨⟨b1, b2, b3⟩, b4, b5⟩ := (HM.out k hk).out
      have cD := fun A B c d w ha hb => ref_Div (a * k + b) m A B c d (by omega) (Nat.le_trans (sz_len_lt b1) (by decide)) lm w ha hb
      have cS := fun A B c d w ha hb => ref_Add (fl k a b m) ((a * k + b) / m) 128 A B c d (by decide) (by omega) w ha hb
      have cL := fun A B c d w ha hb => ref_Add (rs k a b m) ((a * k + b) % m) 128 A B c d (by decide) (by omega) w ha hb
      have cA := fun A B c d w ha hb => ref_Add (a * k + b) a 128 A B c d (by decide) (by have := LA.out; omega) w ha hb
      have E1 : Hid (fl (k + 1) a b m = fl k a b m + (a * k + b) / m) := hide rfl
      have E2 : Hid (rs (k + 1) a b m = rs k a b m + (a * k + b) % m) := hide rfl
      have E3 : Hid (a * ((k + 1 : Nat) : Int) + b = a * k + b + a) := hide (by rw [Int.natCast_add, Int.mul_add]; omega)
      clear b1 b2 b3 b4 b5
      generalize (a * k + b) / m = q at *
      generalize (a * k + b) % m = r at *
      generalize a * k + b = x at *
      generalize fl k a b m = s at *
      generalize rs k a b m = l at *
      obtain ⟨zo_a, zo_b, lo3⟩ := rcell jo
      obtain ⟨zat_a, zat_b, lat4⟩ := rcell j1
      obtain ⟨zby_a, zby_b, lby5⟩ := rcell j2
      obtain ⟨zmo_a, zmo_b, lmo6⟩ := rcell j3
      obtain ⟨zsu_a, zsu_b, lsu7⟩ := rcell j4
      obtain ⟨zle_a, zle_b, lle8⟩ := rcell j5
      go_wp2_with fail
      refine (cD _ _ _ _ _ r1 r3).mono ?_
      rintro e w9 ⟨Q1, u1, Q2, u2, rfl, hb9, rn_q, rn_r⟩
      have f_o9 := kp hb9 (jo)
      have f_at9 := kp hb9 (j1)
      have f_by9 := kp hb9 (j2)
      have f_mo9 := kp hb9 (j3)
      have f_su9 := kp hb9 (j4)
      have f_le9 := kp hb9 (j5)
      have rd_at9 := r1.below hb9
      have rd_by9 := r2.below hb9
      have rd_mo9 := r3.below hb9
      have rd_su9 := r4.below hb9
      have rd_le9 := r5.below hb9
      have hB9 := bB hb0 hb9
      clear zat_a zat_b zby_a zby_b zle_a zle_b zmo_a zmo_b zo_a zo_b zsu_a zsu_b
      obtain ⟨zo_a, zo_b, lo9⟩ := rcell f_o9
      obtain ⟨zat_a, zat_b, lat9⟩ := rcell f_at9
      obtain ⟨zby_a, zby_b, lby9⟩ := rcell f_by9
      obtain ⟨zmo_a, zmo_b, lmo9⟩ := rcell f_mo9
      obtain ⟨zsu_a, zsu_b, lsu9⟩ := rcell f_su9
      obtain ⟨zle_a, zle_b, lle9⟩ := rcell f_le9
      go_wp2_with fail
      have f_o10 := (ka (ka (f_o9) (.cells #[.bool (decide (q < 0)), .slice Q1 (sz q.natAbs).length u1] 55)) (.cells #[.bool (decide (r < 0)), .slice Q2 (sz r.natAbs).length u2] 55))
      have f_at10 := (ka (ka (f_at9) (.cells #[.bool (decide (q < 0)), .slice Q1 (sz q.natAbs).length u1] 55)) (.cells #[.bool (decide (r < 0)), .slice Q2 (sz r.natAbs).length u2] 55))
      have f_by10 := (ka (ka (f_by9) (.cells #[.bool (decide (q < 0)), .slice Q1 (sz q.natAbs).length u1] 55)) (.cells #[.bool (decide (r < 0)), .slice Q2 (sz r.natAbs).length u2] 55))
      have f_mo10 := (ka (ka (f_mo9) (.cells #[.bool (decide (q < 0)), .slice Q1 (sz q.natAbs).length u1] 55)) (.cells #[.bool (decide (r < 0)), .slice Q2 (sz r.natAbs).length u2] 55))
      have f_su10 := (ka (ka (f_su9) (.cells #[.bool (decide (q < 0)), .slice Q1 (sz q.natAbs).length u1] 55)) (.cells #[.bool (decide (r < 0)), .slice Q2 (sz r.natAbs).length u2] 55))
      have f_le10 := (ka (ka (f_le9) (.cells #[.bool (decide (q < 0)), .slice Q1 (sz q.natAbs).length u1] 55)) (.cells #[.bool (decide (r < 0)), .slice Q2 (sz r.natAbs).length u2] 55))
      have f_qq10 := (ka (na w9 #[.bool (decide (q < 0)), .slice Q1 (sz q.natAbs).length u1] 55) (.cells #[.bool (decide (r < 0)), .slice Q2 (sz r.natAbs).length u2] 55))
      have f_tt10 := (na1 w9 (.cells #[.bool (decide (q < 0)), .slice Q1 (sz q.natAbs).length u1] 55) #[.bool (decide (r < 0)), .slice Q2 (sz r.natAbs).length u2] 55)
      have rd_at10 := (rd_at9.below (bA (bA (b0 _) (.cells #[.bool (decide (q < 0)), .slice Q1 (sz q.natAbs).length u1] 55)) (.cells #[.bool (decide (r < 0)), .slice Q2 (sz r.natAbs).length u2] 55)))
      have rd_by10 := (rd_by9.below (bA (bA (b0 _) (.cells #[.bool (decide (q < 0)), .slice Q1 (sz q.natAbs).length u1] 55)) (.cells #[.bool (decide (r < 0)), .slice Q2 (sz r.natAbs).length u2] 55)))
      have rd_mo10 := (rd_mo9.below (bA (bA (b0 _) (.cells #[.bool (decide (q < 0)), .slice Q1 (sz q.natAbs).length u1] 55)) (.cells #[.bool (decide (r < 0)), .slice Q2 (sz r.natAbs).length u2] 55)))
      have rd_su10 := (rd_su9.below (bA (bA (b0 _) (.cells #[.bool (decide (q < 0)), .slice Q1 (sz q.natAbs).length u1] 55)) (.cells #[.bool (decide (r < 0)), .slice Q2 (sz r.natAbs).length u2] 55)))
      have rd_le10 := (rd_le9.below (bA (bA (b0 _) (.cells #[.bool (decide (q < 0)), .slice Q1 (sz q.natAbs).length u1] 55)) (.cells #[.bool (decide (r < 0)), .slice Q2 (sz r.natAbs).length u2] 55)))
      have rd_q10 := (rn_q.below (bA (bA (b0 _) (.cells #[.bool (decide (q < 0)), .slice Q1 (sz q.natAbs).length u1] 55)) (.cells #[.bool (decide (r < 0)), .slice Q2 (sz r.natAbs).length u2] 55)))
      have rd_r10 := (rn_r.below (bA (bA (b0 _) (.cells #[.bool (decide (q < 0)), .slice Q1 (sz q.natAbs).length u1] 55)) (.cells #[.bool (decide (r < 0)), .slice Q2 (sz r.natAbs).length u2] 55)))
      have hB10 := (bA (bA hB9 (.cells #[.bool (decide (q < 0)), .slice Q1 (sz q.natAbs).length u1] 55)) (.cells #[.bool (decide (r < 0)), .slice Q2 (sz r.natAbs).length u2] 55))
      clear zat_a zat_b zby_a zby_b zle_a zle_b zmo_a zmo_b zo_a zo_b zsu_a zsu_b
      have lo10 := (rcell f_o10).2.2
      have lat10 := (rcell f_at10).2.2
      have lby10 := (rcell f_by10).2.2
      have lmo10 := (rcell f_mo10).2.2
      have lsu10 := (rcell f_su10).2.2
      have lle10 := (rcell f_le10).2.2
      have lqq10 := (rcell f_qq10).2.2
      have ltt10 := (rcell f_tt10).2.2
      refine Abs.wp_region_abs (Abs.cls0 _) [0, 1, 2, 3, 4, 5, 6, 7] (by kernel_rfl) (by kernel_rfl) (Below.refl _ _).drew ?_
      repeat (first | (refine Abs.step_pure rfl rfl (fun K hK => ?_); go_simp; (try go_bits); (first | refine hK _ _ ?_ | (simp only [↓IntWalk.iteOmega]; go_simp; (try go_bits); refine hK _ _ ?_)); clear hK K) | (refine Abs.step_load (v := ?_) rfl rfl (by kernel_rfl) rfl (fun w0 hI => ?_) (fun K hK => ?_); rotate_left; (· have z0 := (rcell (kp hI (f_su10))).1; have z1 := (rcell (kp hI (f_qq10))).1; have z2 := (rcell (kp hI (f_le10))).1; have z3 := (rcell (kp hI (f_tt10))).1; go_simp; rfl); (simp only [Act.put, List.setIfInBounds_toArray, List.set_cons_zero, List.set_cons_succ]; refine hK _ _ ?_; clear hK K)) | (refine Abs.step_skip rfl rfl (fun K hK => ?_); (simp only [Act.put, List.setIfInBounds_toArray, List.set_cons_zero, List.set_cons_succ]; refine hK _ _ ?_; clear hK K)))
      (refine Abs.step_call (f := ?_) (args := ?_) rfl rfl rfl rfl (NumIs (s + q)) (fun _ => Cl_NumIs _) (fun w0 => ?_) (fun w0 hI hF => ?_) (fun K hK v w0 hv => ?_); rotate_left 2; (· go_simp; (constructor <;> rfl)); (· exact (cS _ _ _ _ _ (rd_su10.below hI) (rd_q10.below hI)).mono (fun _ _ h => h.num)); (obtain ⟨S1, v1, rfl, -⟩ := hv; clear w0; simp only [Act.put, List.setIfInBounds_toArray, List.set_cons_zero, List.set_cons_succ]; refine hK _ _ ?_; clear hK K))
      repeat (first | (refine Abs.step_pure rfl rfl (fun K hK => ?_); go_simp; (try go_bits); (first | refine hK _ _ ?_ | (simp only [↓IntWalk.iteOmega]; go_simp; (try go_bits); refine hK _ _ ?_)); clear hK K) | (refine Abs.step_load (v := ?_) rfl rfl (by kernel_rfl) rfl (fun w0 hI => ?_) (fun K hK => ?_); rotate_left; (· have z0 := (rcell (kp hI (f_su10))).1; have z1 := (rcell (kp hI (f_qq10))).1; have z2 := (rcell (kp hI (f_le10))).1; have z3 := (rcell (kp hI (f_tt10))).1; go_simp; rfl); (simp only [Act.put, List.setIfInBounds_toArray, List.set_cons_zero, List.set_cons_succ]; refine hK _ _ ?_; clear hK K)) | (refine Abs.step_skip rfl rfl (fun K hK => ?_); (simp only [Act.put, List.setIfInBounds_toArray, List.set_cons_zero, List.set_cons_succ]; refine hK _ _ ?_; clear hK K)))
      (refine Abs.step_call (f := ?_) (args := ?_) rfl rfl rfl rfl (NumIs (l + r)) (fun _ => Cl_NumIs _) (fun w0 => ?_) (fun w0 hI hF => ?_) (fun K hK v w0 hv => ?_); rotate_left 2; (· go_simp; (constructor <;> rfl)); (· exact (cL _ _ _ _ _ (rd_le10.below hI) (rd_r10.below hI)).mono (fun _ _ h => h.num)); (obtain ⟨S2, v2, rfl, -⟩ := hv; clear w0; simp only [Act.put, List.setIfInBounds_toArray, List.set_cons_zero, List.set_cons_succ]; refine hK _ _ ?_; clear hK K))
      repeat (first | (refine Abs.step_pure rfl rfl (fun K hK => ?_); go_simp; (try go_bits); (first | refine hK _ _ ?_ | (simp only [↓IntWalk.iteOmega]; go_simp; (try go_bits); refine hK _ _ ?_)); clear hK K) | (refine Abs.step_load (v := ?_) rfl rfl (by kernel_rfl) rfl (fun w0 hI => ?_) (fun K hK => ?_); rotate_left; (· have z0 := (rcell (kp hI (f_su10))).1; have z1 := (rcell (kp hI (f_qq10))).1; have z2 := (rcell (kp hI (f_le10))).1; have z3 := (rcell (kp hI (f_tt10))).1; go_simp; rfl); (simp only [Act.put, List.setIfInBounds_toArray, List.set_cons_zero, List.set_cons_succ]; refine hK _ _ ?_; clear hK K)) | (refine Abs.step_skip rfl rfl (fun K hK => ?_); (simp only [Act.put, List.setIfInBounds_toArray, List.set_cons_zero, List.set_cons_succ]; refine hK _ _ ?_; clear hK K)))
      (refine Abs.step_store (T := ?_) rfl rfl rfl (fun w0 hI hF hU => ?_) (fun w0 hI hU hJ => ?_) (fun K hK => ?_); rotate_left; (· have hR := kp hI (f_su10); have hg0 := (rcell hR).1; have hg1 := (rcell hR).2.1; simp only [Abs.T_setF, Abs.T_addA, Abs.T_push, Abs.T_start]; go_simp; exact row2 hR _ _); (· first | exact trivial | exact js hJ rfl _); (simp only [Act.put, List.setIfInBounds_toArray, List.set_cons_zero, List.set_cons_succ]; refine hK _ _ ?_; clear hK K))
      (refine Abs.step_store (T := ?_) rfl rfl rfl (fun w0 hI hF hU => ?_) (fun w0 hI hU hJ => ?_) (fun K hK => ?_); rotate_left; (· have hR := fun cs => (setRow_other (w := w0) (g := w2.heap.size) cs (by omega)).trans (kp hI (f_le10)); have hg0 := fun cs => (rcell (hR cs)).1; have hg1 := fun cs => (rcell (hR cs)).2.1; simp only [Abs.T_setF, Abs.T_addA, Abs.T_push, Abs.T_start]; go_simp; exact row2 (hR _) _ _); (· first | exact trivial | exact js hJ rfl _); (simp only [Act.put, List.setIfInBounds_toArray, List.set_cons_zero, List.set_cons_succ]; refine hK _ _ ?_; clear hK K))
      intro w0 hI hF hx1 hx2
      clear hx1 hx2
      simp only [Abs.T_push]
      have rn_s2 := ((((hF 2).1).2 rfl)).rd
      have rn_l2 := (((hF 5).2 rfl)).rd
      clear hF
      have hQ := kp hI (f_su10)
      generalize hT11 : setRow w0 _ _ = w11
      have hy := (fin_x (b0 _) hQ hT11).1
      replace rn_s2 := rn_s2.exc hy hQ (by decide)
      replace rn_l2 := rn_l2.exc hy hQ (by decide)
      obtain ⟨hx11, f_su11⟩ := fin_x hI (f_su10) hT11
      clear hT11 hQ hy hI w0
      have f_o11 := kx hx11 (f_o10) (by omega)
      have f_at11 := kx hx11 (f_at10) (by omega)
      have f_by11 := kx hx11 (f_by10) (by omega)
      have f_mo11 := kx hx11 (f_mo10) (by omega)
      have f_le11 := kx hx11 (f_le10) (by omega)
      have f_qq11 := kx hx11 (f_qq10) (by omega)
      have f_tt11 := kx hx11 (f_tt10) (by omega)
      have rd_at11 := rd_at10.exc hx11 (f_su10) (by decide)
      have rd_by11 := rd_by10.exc hx11 (f_su10) (by decide)
      have rd_mo11 := rd_mo10.exc hx11 (f_su10) (by decide)
      have rd_su11 := rd_su10.exc hx11 (f_su10) (by decide)
      have rd_le11 := rd_le10.exc hx11 (f_su10) (by decide)
      have rd_q11 := rd_q10.exc hx11 (f_su10) (by decide)
      have rd_r11 := rd_r10.exc hx11 (f_su10) (by decide)
      have hB11 := bX hB10 hx11 (by omega)
      obtain ⟨zo_a, zo_b, lo11⟩ := rcell f_o11
      obtain ⟨zat_a, zat_b, lat11⟩ := rcell f_at11
      obtain ⟨zby_a, zby_b, lby11⟩ := rcell f_by11
      obtain ⟨zmo_a, zmo_b, lmo11⟩ := rcell f_mo11
      obtain ⟨zle_a, zle_b, lle11⟩ := rcell f_le11
      obtain ⟨zqq_a, zqq_b, lqq11⟩ := rcell f_qq11
      obtain ⟨ztt_a, ztt_b, ltt11⟩ := rcell f_tt11
      obtain ⟨zsu_a, zsu_b, lsu11⟩ := rcell f_su11
      generalize hT12 : setRow w11 _ _ = w12
      obtain ⟨hx12, f_le12⟩ := fin_x (b0 _) f_le11 hT12
      clear hT12
      have f_o12 := kx hx12 (f_o11) (by omega)
      have f_at12 := kx hx12 (f_at11) (by omega)
      have f_by12 := kx hx12 (f_by11) (by omega)
      have f_mo12 := kx hx12 (f_mo11) (by omega)
      have f_qq12 := kx hx12 (f_qq11) (by omega)
      have f_tt12 := kx hx12 (f_tt11) (by omega)
      have f_su12 := kx hx12 (f_su11) (by omega)
      have rd_at12 := rd_at11.exc hx12 (f_le11) (by decide)
      have rd_by12 := rd_by11.exc hx12 (f_le11) (by decide)
      have rd_mo12 := rd_mo11.exc hx12 (f_le11) (by decide)
      have rd_su12 := rd_su11.exc hx12 (f_le11) (by decide)
      have rd_le12 := rd_le11.exc hx12 (f_le11) (by decide)
      have rd_q12 := rd_q11.exc hx12 (f_le11) (by decide)
      have rd_r12 := rd_r11.exc hx12 (f_le11) (by decide)
      have rd_s212 := rn_s2.exc hx12 (f_le11) (by decide)
      have rd_l212 := rn_l2.exc hx12 (f_le11) (by decide)
      have hB12 := bX hB11 hx12 (by omega)
      clear zat_a zat_b zby_a zby_b zle_a zle_b zmo_a zmo_b zo_a zo_b zqq_a zqq_b zsu_a zsu_b ztt_a ztt_b
      obtain ⟨zo_a, zo_b, lo12⟩ := rcell f_o12
      obtain ⟨zat_a, zat_b, lat12⟩ := rcell f_at12
      obtain ⟨zby_a, zby_b, lby12⟩ := rcell f_by12
      obtain ⟨zmo_a, zmo_b, lmo12⟩ := rcell f_mo12
      obtain ⟨zqq_a, zqq_b, lqq12⟩ := rcell f_qq12
      obtain ⟨ztt_a, ztt_b, ltt12⟩ := rcell f_tt12
      obtain ⟨zsu_a, zsu_b, lsu12⟩ := rcell f_su12
      obtain ⟨zle_a, zle_b, lle12⟩ := rcell f_le12
      go_wp2_with fail
      refine (cA _ _ _ _ _ rd_at12 rd_by12).mono ?_
      rintro e w13 ⟨S3, v3, rfl, hb13, rn_x2⟩
      have f_o13 := kp hb13 (f_o12)
      have f_at13 := kp hb13 (f_at12)
      have f_by13 := kp hb13 (f_by12)
      have f_mo13 := kp hb13 (f_mo12)
      have f_qq13 := kp hb13 (f_qq12)
      have f_tt13 := kp hb13 (f_tt12)
      have f_su13 := kp hb13 (f_su12)
      have f_le13 := kp hb13 (f_le12)
      have rd_at13 := rd_at12.below hb13
      have rd_by13 := rd_by12.below hb13
      have rd_mo13 := rd_mo12.below hb13
      have rd_su13 := rd_su12.below hb13
      have rd_le13 := rd_le12.below hb13
      have rd_q13 := rd_q12.below hb13
      have rd_r13 := rd_r12.below hb13
      have rd_s213 := rd_s212.below hb13
      have rd_l213 := rd_l212.below hb13
      have hB13 := bB hB12 hb13
      clear zat_a zat_b zby_a zby_b zle_a zle_b zmo_a zmo_b zo_a zo_b zqq_a zqq_b zsu_a zsu_b ztt_a ztt_b
      obtain ⟨zo_a, zo_b, lo13⟩ := rcell f_o13
      obtain ⟨zat_a, zat_b, lat13⟩ := rcell f_at13
      obtain ⟨zby_a, zby_b, lby13⟩ := rcell f_by13
      obtain ⟨zmo_a, zmo_b, lmo13⟩ := rcell f_mo13
      obtain ⟨zqq_a, zqq_b, lqq13⟩ := rcell f_qq13
      obtain ⟨ztt_a, ztt_b, ltt13⟩ := rcell f_tt13
      obtain ⟨zsu_a, zsu_b, lsu13⟩ := rcell f_su13
      obtain ⟨zle_a, zle_b, lle13⟩ := rcell f_le13
      go_wp2_with fail
      rw [row2 f_at13]
      generalize hT14 : setRow _ _ _ = w14
      obtain ⟨hx14, f_at14⟩ := fin_x (b0 _) f_at13 hT14
      clear hT14
      have f_o14 := kx hx14 (f_o13) (by omega)
      have f_by14 := kx hx14 (f_by13) (by omega)
      have f_mo14 := kx hx14 (f_mo13) (by omega)
      have f_qq14 := kx hx14 (f_qq13) (by omega)
      have f_tt14 := kx hx14 (f_tt13) (by omega)
      have f_su14 := kx hx14 (f_su13) (by omega)
      have f_le14 := kx hx14 (f_le13) (by omega)
      have rd_at14 := rd_at13.exc hx14 (f_at13) (by decide)
      have rd_by14 := rd_by13.exc hx14 (f_at13) (by decide)
      have rd_mo14 := rd_mo13.exc hx14 (f_at13) (by decide)
      have rd_su14 := rd_su13.exc hx14 (f_at13) (by decide)
      have rd_le14 := rd_le13.exc hx14 (f_at13) (by decide)
      have rd_q14 := rd_q13.exc hx14 (f_at13) (by decide)
      have rd_r14 := rd_r13.exc hx14 (f_at13) (by decide)
      have rd_s214 := rd_s213.exc hx14 (f_at13) (by decide)
      have rd_l214 := rd_l213.exc hx14 (f_at13) (by decide)
      have rd_x214 := rn_x2.exc hx14 (f_at13) (by decide)
      have hB14 := bX hB13 hx14 (by omega)
      clear zat_a zat_b zby_a zby_b zle_a zle_b zmo_a zmo_b zo_a zo_b zqq_a zqq_b zsu_a zsu_b ztt_a ztt_b
      obtain ⟨zo_a, zo_b, lo14⟩ := rcell f_o14
      obtain ⟨zby_a, zby_b, lby14⟩ := rcell f_by14
      obtain ⟨zmo_a, zmo_b, lmo14⟩ := rcell f_mo14
      obtain ⟨zqq_a, zqq_b, lqq14⟩ := rcell f_qq14
      obtain ⟨ztt_a, ztt_b, ltt14⟩ := rcell f_tt14
      obtain ⟨zsu_a, zsu_b, lsu14⟩ := rcell f_su14
      obtain ⟨zle_a, zle_b, lle14⟩ := rcell f_le14
      obtain ⟨zat_a, zat_b, lat14⟩ := rcell f_at14
      go_roundw
      case rel => exact ⟨k + 1, by go_num, by omega, (f_o14), ⟨S3, v3, by rw [E3.out]; exact (f_at14), by rw [E3.out]; exact rd_x214⟩, ⟨_, _, (f_by14), rd_by14⟩, ⟨_, _, (f_mo14), rd_mo14⟩, ⟨S1, v1, by rw [E1.out]; exact (f_su14), by rw [E1.out]; exact rd_s214⟩, ⟨S2, v2, by rw [E2.out]; exact (f_le14), by rw [E2.out]; exact rd_l214⟩, hB14⟩
      case measure => simp [intOf]; omega
    · have hkn : n.toNat = k := by omega
      rw [← hkn] at j4 r4 j5 r5
      clear hkn
      obtain ⟨zo_a, zo_b, lo15⟩ := rcell jo
      obtain ⟨zsu_a, zsu_b, lsu16⟩ := rcell j4
      obtain ⟨zle_a, zle_b, lle17⟩ := rcell j5
      go_wp2_with fail
      refine (cW _ _ _ r4).mono ?_
      rintro e w18 ⟨rfl, hb18⟩
      have f_o18 := kp hb18 (jo)
      have f_su18 := kp hb18 (j4)
      have f_le18 := kp hb18 (j5)
      have rd_su18 := r4.below hb18
      have rd_le18 := r5.below hb18
      have hB18 := bB hb0 hb18
      clear zle_a zle_b zo_a zo_b zsu_a zsu_b
      obtain ⟨zo_a, zo_b, lo18⟩ := rcell f_o18
      obtain ⟨zsu_a, zsu_b, lsu18⟩ := rcell f_su18
      obtain ⟨zle_a, zle_b, lle18⟩ := rcell f_le18
      go_wp2_with fail
      refine (cV _ _ _ (rd_le18.below (bA (b0 _) (.cells #[.int .i64 (hi (fl n.toNat a b m)), .int .u64 (lo (fl n.toNat a b m))] 46)))).mono ?_
      rintro e w19 ⟨rfl, hb19⟩
      have f_o19 := kp hb19 (ka (f_o18) (.cells #[.int .i64 (hi (fl n.toNat a b m)), .int .u64 (lo (fl n.toNat a b m))] 46))
      have f_su19 := kp hb19 (ka (f_su18) (.cells #[.int .i64 (hi (fl n.toNat a b m)), .int .u64 (lo (fl n.toNat a b m))] 46))
      have f_le19 := kp hb19 (ka (f_le18) (.cells #[.int .i64 (hi (fl n.toNat a b m)), .int .u64 (lo (fl n.toNat a b m))] 46))
      have f_wv19 := kp hb19 (na w18 #[.int .i64 (hi (fl n.toNat a b m)), .int .u64 (lo (fl n.toNat a b m))] 46)
      have rd_su19 := (rd_su18.below (bA (b0 _) (.cells #[.int .i64 (hi (fl n.toNat a b m)), .int .u64 (lo (fl n.toNat a b m))] 46))).below hb19
      have rd_le19 := (rd_le18.below (bA (b0 _) (.cells #[.int .i64 (hi (fl n.toNat a b m)), .int .u64 (lo (fl n.toNat a b m))] 46))).below hb19
      have hB19 := bB (bA hB18 (.cells #[.int .i64 (hi (fl n.toNat a b m)), .int .u64 (lo (fl n.toNat a b m))] 46)) hb19
      clear zle_a zle_b zo_a zo_b zsu_a zsu_b
      obtain ⟨zo_a, zo_b, lo19⟩ := rcell f_o19
      obtain ⟨zsu_a, zsu_b, lsu19⟩ := rcell f_su19
      obtain ⟨zle_a, zle_b, lle19⟩ := rcell f_le19
      obtain ⟨zwv_a, zwv_b, lwv19⟩ := rcell f_wv19
      go_wp2_with fail
      (rw [row2 (f_o19)]; generalize hT : setRow _ _ _ = wE; obtain ⟨hbE, hgE⟩ := ret_row hB19 (by omega) (f_o19) hT; have zE := (rcell hgE).1; clear hT; refine bodyPost_ret (by simp [results, Try.results44, go_sem, zE]; try rfl) rfl ?_)
      exact ⟨by simp, hbE⟩
end Go.Proofs.Ytlgjapjcdpikeaa
