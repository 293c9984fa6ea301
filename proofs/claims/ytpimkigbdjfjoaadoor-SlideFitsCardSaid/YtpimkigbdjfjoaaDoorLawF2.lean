/- yearbookref01.Sub, yearbookref10.Low at this program. -/
import Derived.Test.YtpimkigbdjfjoaaDoorLawF1
import Derived.Test.YtpimkigbdjfjoaaDoorSlideP
import Derived.Test.YtpimkigbdjfjoaaDoorP5
set_option linter.unusedSimpArgs false
set_option linter.unusedVariables false
namespace Go.Proofs.YtpimkigbdjfjoaaDoor
open Go.RowKit

set_option maxRecDepth 100000 in
set_option maxHeartbeats 2000000 in
theorem ref_Sub (x y : Int) (M : Nat) (A B : Option Addr) (c d : Nat) (hM : M ≤ 900) (hxy : x.natAbs + y.natAbs < 2 ^ M) (w : World) (ha : Rd w A c (sz x.natAbs)) (hb : Rd w B d (sz y.natAbs)) :
    Calls Tryd.prog 91 #[.agg #[.bool (decide (x < 0)), .slice A (sz x.natAbs).length c], .agg #[.bool (decide (y < 0)), .slice B (sz y.natAbs).length d]] w (GivesNum (x - y) w) := by
  have c1 := fun A c w ha => ref_Neg y A c w ha
  have c2 := fun A B c d w ha hb => ref_Add x (-y) M A B c d hM (by rw [Int.natAbs_neg]; exact hxy) w ha hb
  rw [show x - y = x + -y from Int.sub_eq_add_neg]
  clear hxy
  generalize x + -y = z at *
  generalize -y = v at *
  go_enter Tryd.func91, Tryd.ntmps91
  go_wp2_with fail
  have f_a1 := (ka (ka (na w #[.bool (decide (x < 0)), .slice A (sz x.natAbs).length c] 94) (.cells #[.bool (decide (y < 0)), .slice B (sz y.natAbs).length d] 94)) (.cells #[.bool false, .slice none 0 0] 94))
  have f_b1 := (ka (na1 w (.cells #[.bool (decide (x < 0)), .slice A (sz x.natAbs).length c] 94) #[.bool (decide (y < 0)), .slice B (sz y.natAbs).length d] 94) (.cells #[.bool false, .slice none 0 0] 94))
  have f_o1 := (na2 w (.cells #[.bool (decide (x < 0)), .slice A (sz x.natAbs).length c] 94) (.cells #[.bool (decide (y < 0)), .slice B (sz y.natAbs).length d] 94) #[.bool false, .slice none 0 0] 94)
  have rd_a1 := (ha.below (bA (bA (bA (b0 _) (.cells #[.bool (decide (x < 0)), .slice A (sz x.natAbs).length c] 94)) (.cells #[.bool (decide (y < 0)), .slice B (sz y.natAbs).length d] 94)) (.cells #[.bool false, .slice none 0 0] 94)))
  have rd_b1 := (hb.below (bA (bA (bA (b0 _) (.cells #[.bool (decide (x < 0)), .slice A (sz x.natAbs).length c] 94)) (.cells #[.bool (decide (y < 0)), .slice B (sz y.natAbs).length d] 94)) (.cells #[.bool false, .slice none 0 0] 94)))
  have hB1 := (bA (bA (bA (b0 w) (.cells #[.bool (decide (x < 0)), .slice A (sz x.natAbs).length c] 94)) (.cells #[.bool (decide (y < 0)), .slice B (sz y.natAbs).length d] 94)) (.cells #[.bool false, .slice none 0 0] 94))
  have la1 := (rcell f_a1).2.2
  have lb1 := (rcell f_b1).2.2
  have lo1 := (rcell f_o1).2.2
  refine Abs.wp_region_abs (Abs.cls0 _) [0, 1, 2, 3, 4] (by kernel_rfl) (by kernel_rfl) (Below.refl _ _).drew ?_
  repeat (first | (refine Abs.step_pure rfl rfl (fun K hK => ?_); go_simp; (try go_bits); (first | refine hK _ _ ?_ | (simp only [↓IntWalk.iteOmega]; go_simp; (try go_bits); refine hK _ _ ?_)); clear hK K) | (refine Abs.step_load (v := ?_) rfl rfl (by kernel_rfl) rfl (fun w0 hI => ?_) (fun K hK => ?_); rotate_left; (· have z0 := (rcell (kp hI (f_a1))).1; have z1 := (rcell (kp hI (f_b1))).1; go_simp; rfl); (simp only [Act.put, List.setIfInBounds_toArray, List.set_cons_zero, List.set_cons_succ]; refine hK _ _ ?_; clear hK K)) | (refine Abs.step_skip rfl rfl (fun K hK => ?_); (simp only [Act.put, List.setIfInBounds_toArray, List.set_cons_zero, List.set_cons_succ]; refine hK _ _ ?_; clear hK K)))
  (refine Abs.step_call (f := ?_) (args := ?_) rfl rfl rfl rfl (NumIs (v)) (fun _ => Cl_NumIs _) (fun w0 => ?_) (fun w0 hI hF => ?_) (fun K hK v w0 hv => ?_); rotate_left 2; (· go_simp; (constructor <;> rfl)); (· exact (c1 _ _ _ (rd_b1.below hI)).mono (fun _ _ h => h.num)); (obtain ⟨A1, e1, rfl, -⟩ := hv; clear w0; simp only [Act.put, List.setIfInBounds_toArray, List.set_cons_zero, List.set_cons_succ]; refine hK _ _ ?_; clear hK K))
  repeat (first | (refine Abs.step_pure rfl rfl (fun K hK => ?_); go_simp; (try go_bits); (first | refine hK _ _ ?_ | (simp only [↓IntWalk.iteOmega]; go_simp; (try go_bits); refine hK _ _ ?_)); clear hK K) | (refine Abs.step_load (v := ?_) rfl rfl (by kernel_rfl) rfl (fun w0 hI => ?_) (fun K hK => ?_); rotate_left; (· have z0 := (rcell (kp hI (f_a1))).1; have z1 := (rcell (kp hI (f_b1))).1; go_simp; rfl); (simp only [Act.put, List.setIfInBounds_toArray, List.set_cons_zero, List.set_cons_succ]; refine hK _ _ ?_; clear hK K)) | (refine Abs.step_skip rfl rfl (fun K hK => ?_); (simp only [Act.put, List.setIfInBounds_toArray, List.set_cons_zero, List.set_cons_succ]; refine hK _ _ ?_; clear hK K)))
  (refine Abs.step_call (f := ?_) (args := ?_) rfl rfl rfl rfl (NumIs (z)) (fun _ => Cl_NumIs _) (fun w0 => ?_) (fun w0 hI hF => ?_) (fun K hK v w0 hv => ?_); rotate_left 2; (· go_simp; (constructor <;> rfl)); (· exact (c2 _ _ _ _ _ (rd_a1.below hI) ((hF 2 (by kernel_rfl)).2 rfl).rd).mono (fun _ _ h => h.num)); (obtain ⟨A2, e2, rfl, -⟩ := hv; clear w0; simp only [Act.put, List.setIfInBounds_toArray, List.set_cons_zero, List.set_cons_succ]; refine hK _ _ ?_; clear hK K))
  repeat (first | (refine Abs.step_pure rfl rfl (fun K hK => ?_); go_simp; (try go_bits); (first | refine hK _ _ ?_ | (simp only [↓IntWalk.iteOmega]; go_simp; (try go_bits); refine hK _ _ ?_)); clear hK K) | (refine Abs.step_load (v := ?_) rfl rfl (by kernel_rfl) rfl (fun w0 hI => ?_) (fun K hK => ?_); rotate_left; (· have z0 := (rcell (kp hI (f_a1))).1; have z1 := (rcell (kp hI (f_b1))).1; go_simp; rfl); (simp only [Act.put, List.setIfInBounds_toArray, List.set_cons_zero, List.set_cons_succ]; refine hK _ _ ?_; clear hK K)) | (refine Abs.step_skip rfl rfl (fun K hK => ?_); (simp only [Act.put, List.setIfInBounds_toArray, List.set_cons_zero, List.set_cons_succ]; refine hK _ _ ?_; clear hK K)))
  (refine Abs.step_store (T := ?_) rfl rfl rfl (fun w0 hI hF hU => ?_) (fun w0 hI hU hJ => ?_) (fun K hK => ?_); rotate_left; (· have hR := kp hI (f_o1); have hg0 := (rcell hR).1; have hg1 := (rcell hR).2.1; simp only [Abs.T_setF, Abs.T_addA, Abs.T_push, Abs.T_start]; go_simp; exact row2 hR _ _); (· first | exact trivial | exact js hJ rfl _ | exact js hJ (Or.inl rfl) _ | exact js hJ (Or.inr rfl) _); (simp only [Act.put, List.setIfInBounds_toArray, List.set_cons_zero, List.set_cons_succ]; refine hK _ _ ?_; clear hK K))
  repeat (first | (refine Abs.step_pure rfl rfl (fun K hK => ?_); go_simp; (try go_bits); (first | refine hK _ _ ?_ | (simp only [↓IntWalk.iteOmega]; go_simp; (try go_bits); refine hK _ _ ?_)); clear hK K) | (refine Abs.step_load (v := ?_) rfl rfl (by kernel_rfl) rfl (fun w0 hI => ?_) (fun K hK => ?_); rotate_left; (· have z0 := (rcell (kp hI (f_a1))).1; have z1 := (rcell (kp hI (f_b1))).1; go_simp; rfl); (simp only [Act.put, List.setIfInBounds_toArray, List.set_cons_zero, List.set_cons_succ]; refine hK _ _ ?_; clear hK K)) | (refine Abs.step_skip rfl rfl (fun K hK => ?_); (simp only [Act.put, List.setIfInBounds_toArray, List.set_cons_zero, List.set_cons_succ]; refine hK _ _ ?_; clear hK K)))
  intro w0 hI hF hx1 hx2
  clear hx1 hx2
  simp only [Abs.T_push]
  have rn_s := (((hF 3).2 rfl)).rd
  clear hF
  have hQ := kp hI (f_o1)
  generalize hT2 : setRow w0 _ _ = w2
  have hy := (fin_x (b0 _) hQ hT2).1
  replace rn_s := rn_s.exc hy hQ (by decide)
  obtain ⟨hx2, f_o2⟩ := fin_x hI (f_o1) hT2
  clear hT2 hQ hy hI w0
  have f_a2 := kx hx2 (f_a1) (by omega)
  have f_b2 := kx hx2 (f_b1) (by omega)
  have rd_a2 := rd_a1.exc hx2 (f_o1) (by decide)
  have rd_b2 := rd_b1.exc hx2 (f_o1) (by decide)
  have hB2 := bX hB1 hx2 (by omega)
  obtain ⟨za_a, za_b, la2⟩ := rcell f_a2
  obtain ⟨zb_a, zb_b, lb2⟩ := rcell f_b2
  obtain ⟨zo_a, zo_b, lo2⟩ := rcell f_o2
  go_wp2
  refine bodyPost_ret (by simp [results, Tryd.results91, go_sem, zo_a]; try rfl) rfl ⟨A2, e2, rfl, hB2, rn_s⟩

/-- a block holds a number -/
def NumAtS (g : Nat) (x : Int) (w : World) : Prop := ∃ A c, w.heap[g]? = some (.cells #[.bool (decide (x < 0)), .slice A (sz x.natAbs).length c] 94 (0, 0)) ∧ Rd w A c (sz x.natAbs)

theorem NumAtS.zero {g : Nat} {w : World} (h : w.heap[g]? = some (.cells #[.bool false, .slice none 0 0] 94 (0, 0))) : NumAtS g 0 w := by
  refine ⟨none, 0, ?_, ?_⟩
  · rw [Int.natAbs_zero, sz_zero]; exact h
  · rw [Int.natAbs_zero, sz_zero]; exact Rd.nil _ _ _

set_option maxRecDepth 100000 in
set_option maxHeartbeats 4000000 in
theorem ref10_Low (A : Option Addr) (c : Nat) (l : List Bd) (h : okB l = true) (N D : Int) (hs : slB N D = true) (w : World) (hR : BR w A c l) :
    Calls Tryd.prog 52 #[.slice A l.length c, .agg #[.int .i64 N, .int .i64 D]] w (GivesNum (lwK l N D l.length) w) := by
  obtain ⟨k0, k1, k2⟩ := okB_spec h
  obtain ⟨g, o, cur, rfl, hg, hc⟩ := hR.mem k0
  have hcc := hR.cap
  have hc' : ∀ i, i < l.length → cur[o + i * 3]? = some (.int .i64 (bd l i).t) ∧ cur[o + i * 3 + 1]? = some (.int .i64 (bd l i).lo) ∧ cur[o + i * 3 + 2]? = some (.int .i64 (bd l i).hi) := fun i hi => by
    have := hc i hi
    rw [bd_eq hi] at this
    exact this
  have he := (hc' 0 k0).1
  simp only [Nat.zero_mul, Nat.add_zero] at he
  obtain ⟨t1, t2, -⟩ := bd_rg k2 0 k0
  have HB := hide (fun i (hi : i < l.length) => lwAt_bd k2 hs i hi)
  have HG := hide (fun i (hi : i < l.length) => lwAt_rng k2 hs i hi)
  have HK := hide (fun i (hi : i ≤ l.length) => lwK_rng k2 hs i hi)
  have HT := hide (fun i (hi : i < l.length) => lw_t k2 i hi)
  have HR := hide (fun i (hi : i < l.length) => bd_rg k2 i hi)
  have HC := hide hc'
  have hS := hide (slB_spec hs)
  have cN := ref_Int N (by have := hS.out; omega) (by have := hS.out; omega)
  have cD := ref_Int D (by have := hS.out; omega) (by have := hS.out; omega)
  have e63 : Hid ((2 : Nat) ^ 127 = 170141183460469231731687303715884105728) := hide (by decide)
  clear hc hc' k2 hR h hs
  go_enter Tryd.func52, Tryd.ntmps52
  obtain ⟨zg_a, zg_b, lg0⟩ := rcell hg
  go_wp2_with fail
  go_loopw [12] (fun vi wr => ∃ k : Nat, vi = .int .i64 k ∧ k ≤ l.length ∧ (wr.heap[g]? = some (.cells cur 37 (0, 0)) ∧ wr.heap[w.heap.size]? = some (.cells #[.int .i64 N, .int .i64 D] 26 (0, 0)) ∧ wr.heap[w.heap.size + 1]? = some (.cells #[.bool false, .slice none 0 0] 94 (0, 0)) ∧ NumAtS (w.heap.size + 1 + 1) (lwK l N D k) wr ∧ Below w.heap.size w wr)) (fun vi _ => l.length - (intOf vi).toNat)
  case atStart => exact ⟨0, rfl, by omega, (ka (ka (ka (hg) (.cells #[.int .i64 N, .int .i64 D] 26)) (.cells #[.bool false, .slice none 0 0] 94)) (.cells #[.bool false, .slice none 0 0] 94)), (ka (ka (na w #[.int .i64 N, .int .i64 D] 26) (.cells #[.bool false, .slice none 0 0] 94)) (.cells #[.bool false, .slice none 0 0] 94)), (ka (na1 w (.cells #[.int .i64 N, .int .i64 D] 26) #[.bool false, .slice none 0 0] 94) (.cells #[.bool false, .slice none 0 0] 94)), NumAtS.zero (na2 w (.cells #[.int .i64 N, .int .i64 D] 26) (.cells #[.bool false, .slice none 0 0] 94) #[.bool false, .slice none 0 0] 94), (bA (bA (bA (b0 w) (.cells #[.int .i64 N, .int .i64 D] 26)) (.cells #[.bool false, .slice none 0 0] 94)) (.cells #[.bool false, .slice none 0 0] 94))⟩
  case round =>
    obtain ⟨k, rfl, hk, j1, j2, j3, ⟨A4, e4, j4, r4⟩, hb0⟩ := hrel
    by_cases hlt : k < l.length
    · obtain ⟨q1, q2, q3⟩ := HC.out k hlt
      obtain ⟨⟨b1, b2⟩, b3, b4⟩ := HB.out k hlt
      obtain ⟨b5, b6⟩ := HG.out k hlt
      obtain ⟨b7, b8⟩ := HK.out k hk
      obtain ⟨b9, b10⟩ := HT.out k hlt
      obtain ⟨r1, r2, -, ⟨r3, r4'⟩, r5, r6⟩ := HR.out k hlt
      obtain ⟨s1, s2, s3, s4⟩ := hS.out
      have e := e63.out
      have cL := ref_Int (bd l k).lo (by omega) (by omega)
      have cT := ref_Int ((bd l k).t - (bd l 0).t) (by omega) (by omega)
      have cM := fun A B c d w ha hb => ref_Mul (bd l k).lo D 127 A B c d (by decide) (by rw [← Int.natAbs_mul]; omega) (Nat.le_trans (sz_i64 (x := (bd l k).lo) (by omega) (by omega)) (by decide)) (Nat.le_trans (sz_i64 (x := D) (by omega) (by omega)) (by decide)) w ha hb
      have cP := fun A B c d w ha hb => ref_Mul N ((bd l k).t - (bd l 0).t) 127 A B c d (by decide) (by rw [← Int.natAbs_mul]; omega) (Nat.le_trans (sz_i64 (x := N) (by omega) (by omega)) (by decide)) (Nat.le_trans (sz_i64 (x := (bd l k).t - (bd l 0).t) (by omega) (by omega)) (by decide)) w ha hb
      have cS := fun A B c d w ha hb => ref_Sub ((bd l k).lo * D) (N * ((bd l k).t - (bd l 0).t)) 127 A B c d (by decide) (by omega) w ha hb
      have ly : (sz (lwAt l N D k).natAbs).length ≤ 4096 := Nat.le_trans (sz_len_lt (k := 127) (by omega)) (by decide)
      have lx : (sz (lwK l N D k).natAbs).length ≤ 4096 := Nat.le_trans (sz_len_lt (k := 127) (by omega)) (by decide)
      have cC := fun A B c d w ha hb => ref_Less (lwK l N D k) (lwAt l N D k) A B c d lx ly w ha hb
      have E : Hid (lwK l N D (k + 1) = if k = 0 ∨ lwK l N D k < lwAt l N D k then lwAt l N D k else lwK l N D k) := hide rfl
      change ∀ A B c d w _ _, Calls _ _ _ w (GivesNum (lwAt l N D k) w) at cS
      clear b1 b2 b3 b4 b5 b6 b7 b8 s1 s2 s3 s4 r3 r4' r5 r6 e lx ly
      generalize lwAt l N D k = y at *
      generalize lwK l N D k = x at *
      generalize (bd l 0).t = t0 at *
      generalize bd l k = b at *
      obtain ⟨bt, bl, bh⟩ := b
      simp only at q1 q2 q3 r1 r2 b9 b10 cL cT cM cP cS
      generalize hp1 : bl * D = p1 at *
      generalize hp2 : N * (bt - t0) = p2 at *
      obtain ⟨zg_a, zg_b, lg1⟩ := rcell j1
      obtain ⟨zs_a, zs_b, ls2⟩ := rcell j2
      obtain ⟨zr_a, zr_b, lr3⟩ := rcell j3
      obtain ⟨zq_a, zq_b, lq4⟩ := rcell j4
      go_wp2_with fail
      have f_g5 := (ka (j1) (.cells #[.int .i64 bt, .int .i64 bl, .int .i64 bh] 37))
      have f_s5 := (ka (j2) (.cells #[.int .i64 bt, .int .i64 bl, .int .i64 bh] 37))
      have f_r5 := (ka (j3) (.cells #[.int .i64 bt, .int .i64 bl, .int .i64 bh] 37))
      have f_q5 := (ka (j4) (.cells #[.int .i64 bt, .int .i64 bl, .int .i64 bh] 37))
      have f_b5 := (na wr #[.int .i64 bt, .int .i64 bl, .int .i64 bh] 37)
      have rd_q5 := (r4.below (bA (b0 _) (.cells #[.int .i64 bt, .int .i64 bl, .int .i64 bh] 37)))
      have hB5 := (bA hb0 (.cells #[.int .i64 bt, .int .i64 bl, .int .i64 bh] 37))
      clear zg_a zg_b zq_a zq_b zr_a zr_b zs_a zs_b
      have lg5 := (rcell f_g5).2.2
      have ls5 := (rcell f_s5).2.2
      have lr5 := (rcell f_r5).2.2
      have lq5 := (rcell f_q5).2.2
      have lb5 := (rcell f_b5).2.2
      refine Abs.wp_region_abs (Abs.cls0 _) [0, 1, 2, 3, 4, 5, 6, 7, 8] (by kernel_rfl) (by kernel_rfl) (Below.refl _ _).drew ?_
      repeat (first | (refine Abs.step_pure rfl rfl (fun K hK => ?_); go_simp; (try go_bits); (first | refine hK _ _ ?_ | (simp only [↓IntWalk.iteOmega]; go_simp; (try go_bits); refine hK _ _ ?_)); clear hK K) | (refine Abs.step_load (v := ?_) rfl rfl (by kernel_rfl) rfl (fun w0 hI => ?_) (fun K hK => ?_); rotate_left; (· have z0 := (rcell (kp hI (f_b5))).1; have z1 := (rcell (kp hI (f_s5))).1; go_simp; rfl); (simp only [Act.put, List.setIfInBounds_toArray, List.set_cons_zero, List.set_cons_succ]; refine hK _ _ ?_; clear hK K)) | (refine Abs.step_skip rfl rfl (fun K hK => ?_); (simp only [Act.put, List.setIfInBounds_toArray, List.set_cons_zero, List.set_cons_succ]; refine hK _ _ ?_; clear hK K)))
      (refine Abs.step_call (f := ?_) (args := ?_) rfl rfl rfl rfl (NumIs (bl)) (fun _ => Cl_NumIs _) (fun w0 => ?_) (fun w0 hI hF => ?_) (fun K hK v w0 hv => ?_); rotate_left 2; (· go_simp; (constructor <;> rfl)); (· exact (cL _).mono (fun _ _ h => h.num)); (obtain ⟨A1, e1, rfl, -⟩ := hv; clear w0; simp only [Act.put, List.setIfInBounds_toArray, List.set_cons_zero, List.set_cons_succ]; refine hK _ _ ?_; clear hK K))
      repeat (first | (refine Abs.step_pure rfl rfl (fun K hK => ?_); go_simp; (try go_bits); (first | refine hK _ _ ?_ | (simp only [↓IntWalk.iteOmega]; go_simp; (try go_bits); refine hK _ _ ?_)); clear hK K) | (refine Abs.step_load (v := ?_) rfl rfl (by kernel_rfl) rfl (fun w0 hI => ?_) (fun K hK => ?_); rotate_left; (· have z0 := (rcell (kp hI (f_b5))).1; have z1 := (rcell (kp hI (f_s5))).1; go_simp; rfl); (simp only [Act.put, List.setIfInBounds_toArray, List.set_cons_zero, List.set_cons_succ]; refine hK _ _ ?_; clear hK K)) | (refine Abs.step_skip rfl rfl (fun K hK => ?_); (simp only [Act.put, List.setIfInBounds_toArray, List.set_cons_zero, List.set_cons_succ]; refine hK _ _ ?_; clear hK K)))
      (refine Abs.step_call (f := ?_) (args := ?_) rfl rfl rfl rfl (NumIs (D)) (fun _ => Cl_NumIs _) (fun w0 => ?_) (fun w0 hI hF => ?_) (fun K hK v w0 hv => ?_); rotate_left 2; (· go_simp; (constructor <;> rfl)); (· exact (cD _).mono (fun _ _ h => h.num)); (obtain ⟨A2, e2, rfl, -⟩ := hv; clear w0; simp only [Act.put, List.setIfInBounds_toArray, List.set_cons_zero, List.set_cons_succ]; refine hK _ _ ?_; clear hK K))
      repeat (first | (refine Abs.step_pure rfl rfl (fun K hK => ?_); go_simp; (try go_bits); (first | refine hK _ _ ?_ | (simp only [↓IntWalk.iteOmega]; go_simp; (try go_bits); refine hK _ _ ?_)); clear hK K) | (refine Abs.step_load (v := ?_) rfl rfl (by kernel_rfl) rfl (fun w0 hI => ?_) (fun K hK => ?_); rotate_left; (· have z0 := (rcell (kp hI (f_b5))).1; have z1 := (rcell (kp hI (f_s5))).1; go_simp; rfl); (simp only [Act.put, List.setIfInBounds_toArray, List.set_cons_zero, List.set_cons_succ]; refine hK _ _ ?_; clear hK K)) | (refine Abs.step_skip rfl rfl (fun K hK => ?_); (simp only [Act.put, List.setIfInBounds_toArray, List.set_cons_zero, List.set_cons_succ]; refine hK _ _ ?_; clear hK K)))
      (refine Abs.step_call (f := ?_) (args := ?_) rfl rfl rfl rfl (NumIs (p1)) (fun _ => Cl_NumIs _) (fun w0 => ?_) (fun w0 hI hF => ?_) (fun K hK v w0 hv => ?_); rotate_left 2; (· go_simp; (constructor <;> rfl)); (· exact (cM _ _ _ _ _ (((hF 2 (by kernel_rfl)).1).2 rfl).rd ((hF 5 (by kernel_rfl)).2 rfl).rd).mono (fun _ _ h => h.num)); (obtain ⟨A3, e3, rfl, -⟩ := hv; clear w0; simp only [Act.put, List.setIfInBounds_toArray, List.set_cons_zero, List.set_cons_succ]; refine hK _ _ ?_; clear hK K))
      repeat (first | (refine Abs.step_pure rfl rfl (fun K hK => ?_); go_simp; (try go_bits); (first | refine hK _ _ ?_ | (simp only [↓IntWalk.iteOmega]; go_simp; (try go_bits); refine hK _ _ ?_)); clear hK K) | (refine Abs.step_load (v := ?_) rfl rfl (by kernel_rfl) rfl (fun w0 hI => ?_) (fun K hK => ?_); rotate_left; (· have z0 := (rcell (kp hI (f_b5))).1; have z1 := (rcell (kp hI (f_s5))).1; go_simp; rfl); (simp only [Act.put, List.setIfInBounds_toArray, List.set_cons_zero, List.set_cons_succ]; refine hK _ _ ?_; clear hK K)) | (refine Abs.step_skip rfl rfl (fun K hK => ?_); (simp only [Act.put, List.setIfInBounds_toArray, List.set_cons_zero, List.set_cons_succ]; refine hK _ _ ?_; clear hK K)))
      (refine Abs.step_var (obj := ?_) rfl rfl rfl rfl (fun w0 => ?_) (fun K hK g_u hv_u hu_u => ?_); rotate_left; (· go_simp; rfl); (simp only [Act.put, List.setIfInBounds_toArray, List.set_cons_zero, List.set_cons_succ]; refine hK _ _ ?_; clear hK K))
      (refine Abs.step_store (T := ?_) rfl rfl rfl (fun w0 hI hF hU => ?_) (fun _ _ _ _ => trivial) (fun K hK => ?_); rotate_left; (· have hR := (hF 7).2 rfl; have hg0 := (rcell hR).1; have hg1 := (rcell hR).2.1; simp only [Abs.T_setF, Abs.T_addA, Abs.T_push, Abs.T_start]; go_simp; exact row2 hR _ _); (simp only [Act.put, List.setIfInBounds_toArray, List.set_cons_zero, List.set_cons_succ]; refine hK _ _ ?_; clear hK K))
      have hs_u := leB hv_u
      try simp only [World.size_alloc] at hs_u
      intro w0 hI hF hx1 hx2
      clear hx1 hx2
      have q1 := (hF 7).2 rfl
      have rn_u := ((hF 6).1.2 rfl).rd
      clear hF
      simp only [Abs.T_push]
      generalize hT6 : setRow w0 _ _ = w6
      have ea := (fin_x (b0 _) q1 hT6).1
      replace rn_u := rn_u.exc ea q1 (by decide)
      obtain ⟨hb6, f_u6⟩ := fin1 hI hv_u q1 hT6
      clear hT6 hI ea q1 w0
      have f_g6 := kp hb6 (f_g5)
      have f_s6 := kp hb6 (f_s5)
      have f_r6 := kp hb6 (f_r5)
      have f_q6 := kp hb6 (f_q5)
      have f_b6 := kp hb6 (f_b5)
      have rd_q6 := rd_q5.below hb6
      have hB6 := bB hB5 hb6
      obtain ⟨zg_a, zg_b, lg6⟩ := rcell f_g6
      obtain ⟨zs_a, zs_b, ls6⟩ := rcell f_s6
      obtain ⟨zr_a, zr_b, lr6⟩ := rcell f_r6
      obtain ⟨zq_a, zq_b, lq6⟩ := rcell f_q6
      obtain ⟨zb_a, zb_b, lb6⟩ := rcell f_b6
      obtain ⟨zu_a, zu_b, lu6⟩ := rcell f_u6
      go_wp2_with fail
      refine Abs.wp_region_abs (Abs.cls0 _) [0, 1, 2, 3, 4, 5, 6, 7, 8, 9, 10, 11, 12, 13, 14, 15] (by kernel_rfl) (by kernel_rfl) (Below.refl _ _).drew ?_
      repeat (first | (refine Abs.step_pure rfl rfl (fun K hK => ?_); go_simp; (try go_bits); (first | refine hK _ _ ?_ | (simp only [↓IntWalk.iteOmega]; go_simp; (try go_bits); refine hK _ _ ?_)); clear hK K) | (refine Abs.step_load (v := ?_) rfl rfl (by kernel_rfl) rfl (fun w0 hI => ?_) (fun K hK => ?_); rotate_left; (· have z0 := (rcell (kp hI (f_g6))).1; have z1 := (rcell (kp hI (f_b6))).1; have z2 := (rcell (kp hI (f_s6))).1; have z3 := (rcell (kp hI (f_u6))).1; go_simp; rfl); (simp only [Act.put, List.setIfInBounds_toArray, List.set_cons_zero, List.set_cons_succ]; refine hK _ _ ?_; clear hK K)) | (refine Abs.step_skip rfl rfl (fun K hK => ?_); (simp only [Act.put, List.setIfInBounds_toArray, List.set_cons_zero, List.set_cons_succ]; refine hK _ _ ?_; clear hK K)))
      (refine Abs.step_call (f := ?_) (args := ?_) rfl rfl rfl rfl (NumIs (N)) (fun _ => Cl_NumIs _) (fun w0 => ?_) (fun w0 hI hF => ?_) (fun K hK v w0 hv => ?_); rotate_left 2; (· go_simp; (constructor <;> rfl)); (· exact (cN _).mono (fun _ _ h => h.num)); (obtain ⟨B1, g1, rfl, -⟩ := hv; clear w0; simp only [Act.put, List.setIfInBounds_toArray, List.set_cons_zero, List.set_cons_succ]; refine hK _ _ ?_; clear hK K))
      repeat (first | (refine Abs.step_pure rfl rfl (fun K hK => ?_); go_simp; (try go_bits); (first | refine hK _ _ ?_ | (simp only [↓IntWalk.iteOmega]; go_simp; (try go_bits); refine hK _ _ ?_)); clear hK K) | (refine Abs.step_load (v := ?_) rfl rfl (by kernel_rfl) rfl (fun w0 hI => ?_) (fun K hK => ?_); rotate_left; (· have z0 := (rcell (kp hI (f_g6))).1; have z1 := (rcell (kp hI (f_b6))).1; have z2 := (rcell (kp hI (f_s6))).1; have z3 := (rcell (kp hI (f_u6))).1; go_simp; rfl); (simp only [Act.put, List.setIfInBounds_toArray, List.set_cons_zero, List.set_cons_succ]; refine hK _ _ ?_; clear hK K)) | (refine Abs.step_skip rfl rfl (fun K hK => ?_); (simp only [Act.put, List.setIfInBounds_toArray, List.set_cons_zero, List.set_cons_succ]; refine hK _ _ ?_; clear hK K)))
      (refine Abs.step_call (f := ?_) (args := ?_) rfl rfl rfl rfl (NumIs (bt - t0)) (fun _ => Cl_NumIs _) (fun w0 => ?_) (fun w0 hI hF => ?_) (fun K hK v w0 hv => ?_); rotate_left 2; (· go_simp; (constructor <;> rfl)); (· exact (cT _).mono (fun _ _ h => h.num)); (obtain ⟨B2, g2, rfl, -⟩ := hv; clear w0; simp only [Act.put, List.setIfInBounds_toArray, List.set_cons_zero, List.set_cons_succ]; refine hK _ _ ?_; clear hK K))
      repeat (first | (refine Abs.step_pure rfl rfl (fun K hK => ?_); go_simp; (try go_bits); (first | refine hK _ _ ?_ | (simp only [↓IntWalk.iteOmega]; go_simp; (try go_bits); refine hK _ _ ?_)); clear hK K) | (refine Abs.step_load (v := ?_) rfl rfl (by kernel_rfl) rfl (fun w0 hI => ?_) (fun K hK => ?_); rotate_left; (· have z0 := (rcell (kp hI (f_g6))).1; have z1 := (rcell (kp hI (f_b6))).1; have z2 := (rcell (kp hI (f_s6))).1; have z3 := (rcell (kp hI (f_u6))).1; go_simp; rfl); (simp only [Act.put, List.setIfInBounds_toArray, List.set_cons_zero, List.set_cons_succ]; refine hK _ _ ?_; clear hK K)) | (refine Abs.step_skip rfl rfl (fun K hK => ?_); (simp only [Act.put, List.setIfInBounds_toArray, List.set_cons_zero, List.set_cons_succ]; refine hK _ _ ?_; clear hK K)))
      (refine Abs.step_call (f := ?_) (args := ?_) rfl rfl rfl rfl (NumIs (p2)) (fun _ => Cl_NumIs _) (fun w0 => ?_) (fun w0 hI hF => ?_) (fun K hK v w0 hv => ?_); rotate_left 2; (· go_simp; (constructor <;> rfl)); (· exact (cP _ _ _ _ _ (((hF 3 (by kernel_rfl)).1).2 rfl).rd ((hF 11 (by kernel_rfl)).2 rfl).rd).mono (fun _ _ h => h.num)); (obtain ⟨B3, g3, rfl, -⟩ := hv; clear w0; simp only [Act.put, List.setIfInBounds_toArray, List.set_cons_zero, List.set_cons_succ]; refine hK _ _ ?_; clear hK K))
      repeat (first | (refine Abs.step_pure rfl rfl (fun K hK => ?_); go_simp; (try go_bits); (first | refine hK _ _ ?_ | (simp only [↓IntWalk.iteOmega]; go_simp; (try go_bits); refine hK _ _ ?_)); clear hK K) | (refine Abs.step_load (v := ?_) rfl rfl (by kernel_rfl) rfl (fun w0 hI => ?_) (fun K hK => ?_); rotate_left; (· have z0 := (rcell (kp hI (f_g6))).1; have z1 := (rcell (kp hI (f_b6))).1; have z2 := (rcell (kp hI (f_s6))).1; have z3 := (rcell (kp hI (f_u6))).1; go_simp; rfl); (simp only [Act.put, List.setIfInBounds_toArray, List.set_cons_zero, List.set_cons_succ]; refine hK _ _ ?_; clear hK K)) | (refine Abs.step_skip rfl rfl (fun K hK => ?_); (simp only [Act.put, List.setIfInBounds_toArray, List.set_cons_zero, List.set_cons_succ]; refine hK _ _ ?_; clear hK K)))
      (refine Abs.step_call (f := ?_) (args := ?_) rfl rfl rfl rfl (NumIs (y)) (fun _ => Cl_NumIs _) (fun w0 => ?_) (fun w0 hI hF => ?_) (fun K hK v w0 hv => ?_); rotate_left 2; (· go_simp; (constructor <;> rfl)); (· exact (cS _ _ _ _ _ (rn_u.below hI) ((hF 12 (by kernel_rfl)).2 rfl).rd).mono (fun _ _ h => h.num)); (obtain ⟨B4, g4, rfl, -⟩ := hv; clear w0; simp only [Act.put, List.setIfInBounds_toArray, List.set_cons_zero, List.set_cons_succ]; refine hK _ _ ?_; clear hK K))
      repeat (first | (refine Abs.step_pure rfl rfl (fun K hK => ?_); go_simp; (try go_bits); (first | refine hK _ _ ?_ | (simp only [↓IntWalk.iteOmega]; go_simp; (try go_bits); refine hK _ _ ?_)); clear hK K) | (refine Abs.step_load (v := ?_) rfl rfl (by kernel_rfl) rfl (fun w0 hI => ?_) (fun K hK => ?_); rotate_left; (· have z0 := (rcell (kp hI (f_g6))).1; have z1 := (rcell (kp hI (f_b6))).1; have z2 := (rcell (kp hI (f_s6))).1; have z3 := (rcell (kp hI (f_u6))).1; go_simp; rfl); (simp only [Act.put, List.setIfInBounds_toArray, List.set_cons_zero, List.set_cons_succ]; refine hK _ _ ?_; clear hK K)) | (refine Abs.step_skip rfl rfl (fun K hK => ?_); (simp only [Act.put, List.setIfInBounds_toArray, List.set_cons_zero, List.set_cons_succ]; refine hK _ _ ?_; clear hK K)))
      (refine Abs.step_var (obj := ?_) rfl rfl rfl rfl (fun w0 => ?_) (fun K hK g_v hv_v hu_v => ?_); rotate_left; (· go_simp; rfl); (simp only [Act.put, List.setIfInBounds_toArray, List.set_cons_zero, List.set_cons_succ]; refine hK _ _ ?_; clear hK K))
      (refine Abs.step_store (T := ?_) rfl rfl rfl (fun w0 hI hF hU => ?_) (fun _ _ _ _ => trivial) (fun K hK => ?_); rotate_left; (· have hR := (hF 14).2 rfl; have hg0 := (rcell hR).1; have hg1 := (rcell hR).2.1; simp only [Abs.T_setF, Abs.T_addA, Abs.T_push, Abs.T_start]; go_simp; exact row2 hR _ _); (simp only [Act.put, List.setIfInBounds_toArray, List.set_cons_zero, List.set_cons_succ]; refine hK _ _ ?_; clear hK K))
      have hs_v := leB hv_v
      try simp only [World.size_alloc] at hs_v
      intro w0 hI hF hx1 hx2
      clear hx1 hx2
      have q1 := (hF 14).2 rfl
      have rn_v := ((hF 13).1.2 rfl).rd
      clear hF
      simp only [Abs.T_push]
      generalize hT8 : setRow w0 _ _ = w8
      have ea := (fin_x (b0 _) q1 hT8).1
      replace rn_v := rn_v.exc ea q1 (by decide)
      obtain ⟨hb8, f_v8⟩ := fin1 hI hv_v q1 hT8
      clear hT8 hI ea q1 w0
      have f_g8 := kp hb8 (f_g6)
      have f_s8 := kp hb8 (f_s6)
      have f_r8 := kp hb8 (f_r6)
      have f_q8 := kp hb8 (f_q6)
      have f_b8 := kp hb8 (f_b6)
      have f_u8 := kp hb8 (f_u6)
      have rd_q8 := rd_q6.below hb8
      have rd_u8 := rn_u.below hb8
      have hB8 := bB hB6 hb8
      clear zb_a zb_b zg_a zg_b zq_a zq_b zr_a zr_b zs_a zs_b zu_a zu_b
      obtain ⟨zg_a, zg_b, lg8⟩ := rcell f_g8
      obtain ⟨zs_a, zs_b, ls8⟩ := rcell f_s8
      obtain ⟨zr_a, zr_b, lr8⟩ := rcell f_r8
      obtain ⟨zq_a, zq_b, lq8⟩ := rcell f_q8
      obtain ⟨zb_a, zb_b, lb8⟩ := rcell f_b8
      obtain ⟨zu_a, zu_b, lu8⟩ := rcell f_u8
      obtain ⟨zv_a, zv_b, lv8⟩ := rcell f_v8
      by_cases hz : k = 0
      · subst hz
        have E1 := E.out
        rw [if_pos (.inl rfl)] at E1
        go_wp2_with fail
        rw [row2 f_q8]
        generalize hT9 : setRow _ _ _ = w9
        obtain ⟨hx9, f_q9⟩ := fin_x (b0 _) f_q8 hT9
        clear hT9
        have f_g9 := kx hx9 (f_g8) (by omega)
        have f_s9 := kx hx9 (f_s8) (by omega)
        have f_r9 := kx hx9 (f_r8) (by omega)
        have f_b9 := kx hx9 (f_b8) (by omega)
        have f_u9 := kx hx9 (f_u8) (by omega)
        have f_v9 := kx hx9 (f_v8) (by omega)
        have rd_q9 := rd_q8.exc hx9 (f_q8) (by decide)
        have rd_u9 := rd_u8.exc hx9 (f_q8) (by decide)
        have rd_v9 := rn_v.exc hx9 (f_q8) (by decide)
        have hB9 := bX hB8 hx9 (by omega)
        clear zb_a zb_b zg_a zg_b zq_a zq_b zr_a zr_b zs_a zs_b zu_a zu_b zv_a zv_b
        obtain ⟨zg_a, zg_b, lg9⟩ := rcell f_g9
        obtain ⟨zs_a, zs_b, ls9⟩ := rcell f_s9
        obtain ⟨zr_a, zr_b, lr9⟩ := rcell f_r9
        obtain ⟨zb_a, zb_b, lb9⟩ := rcell f_b9
        obtain ⟨zu_a, zu_b, lu9⟩ := rcell f_u9
        obtain ⟨zv_a, zv_b, lv9⟩ := rcell f_v9
        obtain ⟨zq_a, zq_b, lq9⟩ := rcell f_q9
        go_roundw
        case rel => exact ⟨0 + 1, by go_num, by omega, (f_g9), (f_s9), (f_r9), ⟨B4, g4, by rw [E1]; exact (f_q9), by rw [E1]; exact rd_v9⟩, hB9⟩
        case measure => simp [intOf]; omega
      · skip
        have hz0 : ((k : Int) == 0) = false := beq_eq_false_iff_ne.2 (by omega)
        have E1 := E.out
        have E2 : (k = 0 ∨ x < y) ↔ x < y := ⟨fun h => h.resolve_left hz, .inr⟩
        simp only [E2] at E1
        clear E E2
        go_wp2_with fail
        go_wp2_with fail
        refine (cC _ _ _ _ _ rd_q8 rn_v).mono ?_
        rintro e w9 ⟨rfl, hb9⟩
        have f_g9 := kp hb9 (f_g8)
        have f_s9 := kp hb9 (f_s8)
        have f_r9 := kp hb9 (f_r8)
        have f_q9 := kp hb9 (f_q8)
        have f_b9 := kp hb9 (f_b8)
        have f_u9 := kp hb9 (f_u8)
        have f_v9 := kp hb9 (f_v8)
        have rd_q9 := rd_q8.below hb9
        have rd_u9 := rd_u8.below hb9
        have rd_v9 := rn_v.below hb9
        have hB9 := bB hB8 hb9
        clear zb_a zb_b zg_a zg_b zq_a zq_b zr_a zr_b zs_a zs_b zu_a zu_b zv_a zv_b
        obtain ⟨zg_a, zg_b, lg9⟩ := rcell f_g9
        obtain ⟨zs_a, zs_b, ls9⟩ := rcell f_s9
        obtain ⟨zr_a, zr_b, lr9⟩ := rcell f_r9
        obtain ⟨zq_a, zq_b, lq9⟩ := rcell f_q9
        obtain ⟨zb_a, zb_b, lb9⟩ := rcell f_b9
        obtain ⟨zu_a, zu_b, lu9⟩ := rcell f_u9
        obtain ⟨zv_a, zv_b, lv9⟩ := rcell f_v9
        by_cases hlx : x < y
        · rw [if_pos hlx] at E1
          rw [decide_eq_true hlx]
          go_wp2_with fail
          rw [row2 f_q9]
          generalize hT10 : setRow _ _ _ = w10
          obtain ⟨hx10, f_q10⟩ := fin_x (b0 _) f_q9 hT10
          clear hT10
          have f_g10 := kx hx10 (f_g9) (by omega)
          have f_s10 := kx hx10 (f_s9) (by omega)
          have f_r10 := kx hx10 (f_r9) (by omega)
          have f_b10 := kx hx10 (f_b9) (by omega)
          have f_u10 := kx hx10 (f_u9) (by omega)
          have f_v10 := kx hx10 (f_v9) (by omega)
          have rd_q10 := rd_q9.exc hx10 (f_q9) (by decide)
          have rd_u10 := rd_u9.exc hx10 (f_q9) (by decide)
          have rd_v10 := rd_v9.exc hx10 (f_q9) (by decide)
          have hB10 := bX hB9 hx10 (by omega)
          clear zb_a zb_b zg_a zg_b zq_a zq_b zr_a zr_b zs_a zs_b zu_a zu_b zv_a zv_b
          obtain ⟨zg_a, zg_b, lg10⟩ := rcell f_g10
          obtain ⟨zs_a, zs_b, ls10⟩ := rcell f_s10
          obtain ⟨zr_a, zr_b, lr10⟩ := rcell f_r10
          obtain ⟨zb_a, zb_b, lb10⟩ := rcell f_b10
          obtain ⟨zu_a, zu_b, lu10⟩ := rcell f_u10
          obtain ⟨zv_a, zv_b, lv10⟩ := rcell f_v10
          obtain ⟨zq_a, zq_b, lq10⟩ := rcell f_q10
          go_roundw
          case rel => exact ⟨k + 1, by go_num, by omega, (f_g10), (f_s10), (f_r10), ⟨B4, g4, by rw [E1]; exact (f_q10), by rw [E1]; exact rd_v10⟩, hB10⟩
          case measure => simp [intOf]; omega
        · rw [if_neg hlx] at E1
          rw [decide_eq_false hlx]
          go_wp2_with fail
          go_roundw
          case rel => exact ⟨k + 1, by go_num, by omega, (f_g9), (f_s9), (f_r9), ⟨A4, e4, by rw [E1]; exact (f_q9), by rw [E1]; exact rd_q9⟩, hB9⟩
          case measure => simp [intOf]; omega
    · obtain rfl : k = l.length := by omega
      obtain ⟨zg_a, zg_b, lg10⟩ := rcell j1
      obtain ⟨zr_a, zr_b, lr11⟩ := rcell j3
      obtain ⟨zq_a, zq_b, lq12⟩ := rcell j4
      go_wp2_with fail
      rw [row2 j3]
      generalize hT13 : setRow _ _ _ = w13
      obtain ⟨hx13, f_r13⟩ := fin_x (b0 _) j3 hT13
      clear hT13
      have f_g13 := kx hx13 (j1) (by omega)
      have f_q13 := kx hx13 (j4) (by omega)
      have rd_q13 := r4.exc hx13 (j3) (by decide)
      have hB13 := bX hb0 hx13 (by omega)
      clear zg_a zg_b zq_a zq_b zr_a zr_b
      obtain ⟨zg_a, zg_b, lg13⟩ := rcell f_g13
      obtain ⟨zq_a, zq_b, lq13⟩ := rcell f_q13
      obtain ⟨zr_a, zr_b, lr13⟩ := rcell f_r13
      go_wp2
      refine bodyPost_ret (by simp [results, Tryd.results52, go_sem, zr_a]; try rfl) rfl ⟨A4, e4, rfl, hB13, rd_q13⟩
end Go.Proofs.YtpimkigbdjfjoaaDoor
