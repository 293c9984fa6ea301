/- swing.Fit and Through at this program. -/
import Derived.Test.YtfdaabdibpcjeaaSwing8
import Derived.Test.YtfdaabdibpcjeaaWakes5
set_option linter.unusedSimpArgs false
set_option linter.unusedVariables false
namespace Go.Proofs.Ytfdaabdibpcjeaa
open Go.RowKit

set_option maxRecDepth 100000 in
set_option maxHeartbeats 1000000 in
theorem swing_Fit_shut (A : Option Addr) (c : Nat) (l : List Bd) (h : okB l = true) (ho : drOpen (dk l l.length) = false) (w : World) (hR : BR w A c l) :
    Calls Try.prog 12 #[.slice A l.length c] w fun e w' => e = .returned (.tuple #[.agg #[.int .i64 0, .int .i64 0, .int .i64 0, .int .i64 0], .int .i64 4]) ∧ Below w.heap.size w w' := by
  obtain ⟨k0, k1, k2⟩ := okB_spec h
  have c1 := pmc_Check A c l
  rw [chE_yes h] at c1
  have c2 := swing_whole A c l k2 k1 k0
  rw [ho] at c2
  unfold Dr.cs at c2
  generalize dk l l.length = d at *
  obtain ⟨dt, dv, n0, d0, n1', d1, m⟩ := d
  simp only at c2
  have HR := hide hR
  clear hR h k0 k1 k2 ho
  go_enter Try.func12, Try.ntmps12
  go_wp2_with fail
  refine (c1 _ (HR.out.below (bA (b0 _) _))).mono ?_
  rintro e w1 ⟨rfl, hb1⟩
  have f_o1 := kp hb1 (na w #[.int .i64 0, .int .i64 0, .int .i64 0, .int .i64 0] 23)
  have hB1 := bB (bA (b0 w) (.cells #[.int .i64 0, .int .i64 0, .int .i64 0, .int .i64 0] 23)) hb1
  obtain ⟨zo_a, zo_b, lo1⟩ := rcell f_o1
  go_wp2_with fail
  refine (c2 _ (HR.out.below hB1)).mono ?_
  rintro e w2 ⟨rfl, hb2⟩
  have f_o2 := kp hb2 (f_o1)
  have hB2 := bB hB1 hb2
  clear zo_a zo_b
  obtain ⟨zo_a, zo_b, lo2⟩ := rcell f_o2
  go_wp2_with fail
  rw [row4 f_o2]
  generalize hT3 : setRow _ _ _ = w3
  have hz3 : w3.heap.size = w2.heap.size := by rw [← hT3]; exact setRow_size _ _ _
  obtain ⟨hx3, f_o3⟩ := fin_x (b0 _) f_o2 hT3
  clear hT3
  have hB3 := bX hB2 hx3 (by omega)
  clear zo_a zo_b
  obtain ⟨zo_a, zo_b, lo3⟩ := rcell f_o3
  have zz := (rcell (ka (f_o3) (.cells #[.int .i64 dt, .int .i64 dv, .int .i64 n0, .int .i64 d0, .int .i64 n1', .int .i64 d1, .int .i64 m] 72))).1
  refine bodyPost_ret (by simp [results, Try.results12, go_sem, zz]; try rfl) rfl ⟨rfl, (bA hB3 (.cells #[.int .i64 dt, .int .i64 dv, .int .i64 n0, .int .i64 d0, .int .i64 n1', .int .i64 d1, .int .i64 m] 72))⟩

theorem dk_ok {l : List Bd} (h : okB l = true) (k : Nat) (hk : 0 < k) (hkl : k ≤ l.length) : DrOk (dk l k) (lastT (l.take k)) := by
  obtain ⟨k0, k1, k2⟩ := okB_spec h
  exact (dk_at l k2 k1 k hkl).2 hk

set_option maxRecDepth 100000 in
set_option maxHeartbeats 1000000 in
theorem swing_Fit_yes (A : Option Addr) (c : Nat) (l : List Bd) (h : okB l = true) (ho : drOpen (dk l l.length) = true) (w : World) (hR : BR w A c l) :
    Calls Try.prog 12 #[.slice A l.length c] w fun e w' => e = .returned (.tuple #[.agg #[.int .i64 (dk l l.length).v, .int .i64 0, .int .i64 (flN (dk l l.length)), .int .i64 (flD (dk l l.length))], .int .i64 0]) ∧ Below w.heap.size w w' := by
  obtain ⟨k0, k1, k2⟩ := okB_spec h
  have c1 := pmc_Check A c l
  rw [chE_yes h] at c1
  have c2 := swing_whole A c l k2 k1 k0
  have c3 := fun g w hg => door_line g (dk l l.length) _ (dk_ok h l.length k0 (Nat.le_refl _)) ho w hg
  rw [ho] at c2
  generalize flN (dk l l.length) = N at *
  generalize flD (dk l l.length) = D at *
  unfold Dr.cs at c2 c3
  generalize dk l l.length = d at *
  obtain ⟨dt, dv, n0, d0, n1', d1, m⟩ := d
  simp only at c2 c3 ⊢
  have HR := hide hR
  clear hR h k0 k1 k2 ho
  go_enter Try.func12, Try.ntmps12
  go_wp2_with fail
  refine (c1 _ (HR.out.below (bA (b0 _) _))).mono ?_
  rintro e w1 ⟨rfl, hb1⟩
  have f_o1 := kp hb1 (na w #[.int .i64 0, .int .i64 0, .int .i64 0, .int .i64 0] 23)
  have hB1 := bB (bA (b0 w) (.cells #[.int .i64 0, .int .i64 0, .int .i64 0, .int .i64 0] 23)) hb1
  obtain ⟨zo_a, zo_b, lo1⟩ := rcell f_o1
  go_wp2_with fail
  refine (c2 _ (HR.out.below hB1)).mono ?_
  rintro e w2 ⟨rfl, hb2⟩
  have f_o2 := kp hb2 (f_o1)
  have hB2 := bB hB1 hb2
  clear zo_a zo_b
  obtain ⟨zo_a, zo_b, lo2⟩ := rcell f_o2
  go_wp2_with fail
  refine (c3 _ _ (na w2 #[.int .i64 dt, .int .i64 dv, .int .i64 n0, .int .i64 d0, .int .i64 n1', .int .i64 d1, .int .i64 m] 72)).mono ?_
  rintro e w3 ⟨rfl, hb3⟩
  have f_o3 := kp hb3 (ka (f_o2) (.cells #[.int .i64 dt, .int .i64 dv, .int .i64 n0, .int .i64 d0, .int .i64 n1', .int .i64 d1, .int .i64 m] 72))
  have f_d3 := kp hb3 (na w2 #[.int .i64 dt, .int .i64 dv, .int .i64 n0, .int .i64 d0, .int .i64 n1', .int .i64 d1, .int .i64 m] 72)
  have hB3 := bB (bA hB2 (.cells #[.int .i64 dt, .int .i64 dv, .int .i64 n0, .int .i64 d0, .int .i64 n1', .int .i64 d1, .int .i64 m] 72)) hb3
  clear zo_a zo_b
  obtain ⟨zo_a, zo_b, lo3⟩ := rcell f_o3
  obtain ⟨zd_a, zd_b, ld3⟩ := rcell f_d3
  go_wp2_with fail
  (rw [row4 (f_o3)]; generalize hT : setRow _ _ _ = wE; obtain ⟨hbE, hgE⟩ := ret_row hB3 (by omega) (f_o3) hT; have zE := (rcell hgE).1; clear hT; refine bodyPost_ret (by simp [results, Try.results12, go_sem, zE]; try rfl) rfl ?_)
  exact ⟨rfl, hbE⟩

/-- a line goes through bands -/
def thrB (A R N D : Int) (t0 : Int) (l : List Bd) : Bool := l.all fun b => winB A R N D (b.t - t0) b.lo b.hi
theorem thrB_take {A R N D t0 : Int} {l : List Bd} {k : Nat} (hk : k < l.length) : thrB A R N D t0 (l.take (k + 1)) = (thrB A R N D t0 (l.take k) && winB A R N D (l[k].t - t0) l[k].lo l[k].hi) := by
  unfold thrB
  rw [take_snoc l k hk, List.all_append]
  simp
theorem thrB_pre {A R N D t0 : Int} {l : List Bd} {k : Nat} (h : thrB A R N D t0 l = true) : thrB A R N D t0 (l.take k) = true := by
  unfold thrB at *
  rw [List.all_eq_true] at *
  exact fun b hb => h b (List.mem_of_mem_take hb)
theorem thrB_no {A R N D t0 : Int} {l : List Bd} {k : Nat} (h : thrB A R N D t0 (l.take k) = false) : thrB A R N D t0 l = false := by
  cases e : thrB A R N D t0 l with
  | false => rfl
  | true => rw [thrB_pre e] at h; cases h
theorem el_bd {l : List Bd} (h : okF (-1) l = true) (k : Nat) (hk : k < l.length) : -1 ≤ lastT (l.take k) ∧ bdB (lastT (l.take k)) l[k] = true := by
  refine ⟨?_, okF_el h k hk⟩
  cases k with
  | zero => exact Int.le_refl (-1)
  | succ k =>
    have := (el_bd h k (by omega))
    rw [take_snoc l k (by omega), lastT_snoc]
    have := (bdB_spec this.2).1
    omega
theorem el_rg {l : List Bd} (h : okF (-1) l = true) (k : Nat) (hk : k < l.length) : 0 ≤ l[k].t ∧ l[k].t ≤ 281474976710656 ∧ l[k].lo ≤ l[k].hi ∧ (-2305844108725321728 ≤ l[k].lo ∧ l[k].lo ≤ 2305844108725321728) ∧ (-2305844108725321728 ≤ l[k].hi ∧ l[k].hi ≤ 2305844108725321728) := by
  obtain ⟨h1, h2⟩ := el_bd h k hk
  obtain ⟨h3, h4, h5, h6, h7⟩ := bdB_spec h2
  exact ⟨by omega, h4, h5, bkB_spec h6, bkB_spec h7⟩
theorem headD_0 {l : List Bd} (h : 0 < l.length) : l.headD ⟨0, 0, 0⟩ = l[0] := by cases l with | nil => simp at h | cons a l => rfl

set_option maxRecDepth 100000 in
theorem swing_Through_no (x y n d : Int) (A : Option Addr) (c : Nat) (l : List Bd) (h : okB l = false) (w : World) (hR : BR w A c l) :
    Calls Try.prog 14 #[.agg #[.int .i64 x, .int .i64 y, .int .i64 n, .int .i64 d], .slice A l.length c] w fun e w' => e = .returned (.bool false) ∧ Below w.heap.size w w' := by
  have c1 := pmc_Check A c l
  rw [chE_no h] at c1
  go_enter Try.func14, Try.ntmps14
  go_wp2_with fail
  refine (c1 _ (hR.below (bA (b0 _) _))).mono ?_
  rintro e w1 ⟨rfl, hb1⟩
  have f_o1 := kp hb1 (na w #[.int .i64 x, .int .i64 y, .int .i64 n, .int .i64 d] 23)
  have hB1 := bB (bA (b0 w) (.cells #[.int .i64 x, .int .i64 y, .int .i64 n, .int .i64 d] 23)) hb1
  obtain ⟨zo_a, zo_b, lo1⟩ := rcell f_o1
  go_wp2
  go_ret
  exact ⟨rfl, hB1⟩

set_option maxRecDepth 100000 in
set_option maxHeartbeats 2000000 in
theorem swing_Through_yes (x y n d : Int) (A : Option Addr) (c : Nat) (l : List Bd) (h : okB l = true) (E : Bool) (hE : Hid (thrB x y n d (l.headD ⟨0, 0, 0⟩).t l = E)) (w : World) (hR : BR w A c l) :
    Calls Try.prog 14 #[.agg #[.int .i64 x, .int .i64 y, .int .i64 n, .int .i64 d], .slice A l.length c] w fun e w' => e = .returned (.bool E) ∧ Below w.heap.size w w' := by
  obtain ⟨k0, k1, k2⟩ := okB_spec h
  have c1 := pmc_Check A c l
  rw [chE_yes h] at c1
  obtain ⟨g, o, cur, rfl, hg, hc⟩ := hR.mem k0
  have he := (hc 0 k0).1
  simp only [Nat.zero_mul, Nat.add_zero] at he
  obtain ⟨t1, t2, -⟩ := el_rg k2 0 k0
  rw [headD_0 k0] at hE
  generalize l[0].t = t0 at *
  have HC := hide hc
  have K2 := hide k2
  have HR := hide hR
  clear hc k2 hR h
  go_enter Try.func14, Try.ntmps14
  obtain ⟨zg_a, zg_b, lg0⟩ := rcell hg
  go_wp2_with fail
  refine (c1 _ (HR.out.below (bA (b0 _) _))).mono ?_
  rintro e w1 ⟨rfl, hb1⟩
  have f_g1 := kp hb1 (ka (hg) (.cells #[.int .i64 x, .int .i64 y, .int .i64 n, .int .i64 d] 23))
  have f_o1 := kp hb1 (na w #[.int .i64 x, .int .i64 y, .int .i64 n, .int .i64 d] 23)
  have hB1 := bB (bA (b0 w) (.cells #[.int .i64 x, .int .i64 y, .int .i64 n, .int .i64 d] 23)) hb1
  clear zg_a zg_b
  obtain ⟨zg_a, zg_b, lg1⟩ := rcell f_g1
  obtain ⟨zo_a, zo_b, lo1⟩ := rcell f_o1
  go_wp2_with fail
  go_loopw [12] (fun vi wr => ∃ k : Nat, vi = .int .i64 k ∧ k ≤ l.length ∧ Hid (thrB x y n d t0 (l.take k) = true) ∧ wr.heap[g]? = some (.cells cur 38 (0, 0)) ∧ wr.heap[w.heap.size]? = some (.cells #[.int .i64 x, .int .i64 y, .int .i64 n, .int .i64 d] 23 (0, 0)) ∧ Below w.heap.size w wr) (fun vi _ => l.length - (intOf vi).toNat)
  case atStart => exact ⟨0, rfl, by omega, hide rfl, (f_g1), (f_o1), hB1⟩
  case round =>
    obtain ⟨k, rfl, hk, hT, j1, j2, hb⟩ := hrel
    by_cases hlt : k < l.length
    · obtain ⟨q1, q2, q3⟩ := HC.out k hlt
      obtain ⟨r1, r2, -, ⟨r3, r4⟩, r5, r6⟩ := el_rg K2.out k hlt
      have HT := hide (thrB_take (A := x) (R := y) (N := n) (D := d) (t0 := t0) hlt)
      generalize l[k] = b at *
      obtain ⟨bt, bl, bh⟩ := b
      simp only at q1 q2 q3 r1 r2 r3 r4 r5 r6
      have cW := line_Within x y n d (bt - t0) bl bh (by omega) (by omega) (by omega) (by omega)
      simp only at HT
      generalize winB x y n d (bt - t0) bl bh = wb at *
      obtain ⟨zg_a, zg_b, lg2⟩ := rcell j1
      obtain ⟨zo_a, zo_b, lo3⟩ := rcell j2
      go_wp2_with fail
      have f_g4 := (ka (j1) (.cells #[.int .i64 bt, .int .i64 bl, .int .i64 bh] 38))
      have f_o4 := (ka (j2) (.cells #[.int .i64 bt, .int .i64 bl, .int .i64 bh] 38))
      have f_b4 := (na wr #[.int .i64 bt, .int .i64 bl, .int .i64 bh] 38)
      have hB4 := (bA hb (.cells #[.int .i64 bt, .int .i64 bl, .int .i64 bh] 38))
      clear zg_a zg_b zo_a zo_b
      have lg4 := (rcell f_g4).2.2
      have lo4 := (rcell f_o4).2.2
      have lb4 := (rcell f_b4).2.2
      refine Abs.wp_region_abs (Abs.cls0 _) [0, 1, 2, 3, 4, 5, 6, 7, 8, 9, 10, 11, 12, 13] (by kernel_rfl) (by kernel_rfl) (Below.refl _ _).drew ?_
      repeat (first | (refine Abs.step_pure rfl rfl (fun K hK => ?_); go_simp; (try go_bits); (first | refine hK _ _ ?_ | (simp only [↓IntWalk.iteOmega]; go_simp; (try go_bits); refine hK _ _ ?_)); clear hK K) | (refine Abs.step_load (v := ?_) rfl rfl (by kernel_rfl) rfl (fun w0 hI => ?_) (fun K hK => ?_); rotate_left; (· have z0 := (rcell (kp hI (f_g4))).1; have z1 := (rcell (kp hI (f_o4))).1; have z2 := (rcell (kp hI (f_b4))).1; go_simp; rfl); (simp only [Act.put, List.setIfInBounds_toArray, List.set_cons_zero, List.set_cons_succ]; refine hK _ _ ?_; clear hK K)) | (refine Abs.step_skip rfl rfl (fun K hK => ?_); (simp only [Act.put, List.setIfInBounds_toArray, List.set_cons_zero, List.set_cons_succ]; refine hK _ _ ?_; clear hK K)))
      (refine Abs.step_call_val (f := ?_) (args := ?_) (v := ?_) rfl rfl rfl rfl (fun w0 => ?_) (fun w0 hI => ?_) (fun K hK => ?_); rotate_left 3; (· go_simp; (constructor <;> rfl)); (· exact cW _); (simp only [Act.put, List.setIfInBounds_toArray, List.set_cons_zero, List.set_cons_succ]; refine hK _ _ ?_; clear hK K))
      repeat (first | (refine Abs.step_pure rfl rfl (fun K hK => ?_); go_simp; (try go_bits); (first | refine hK _ _ ?_ | (simp only [↓IntWalk.iteOmega]; go_simp; (try go_bits); refine hK _ _ ?_)); clear hK K) | (refine Abs.step_load (v := ?_) rfl rfl (by kernel_rfl) rfl (fun w0 hI => ?_) (fun K hK => ?_); rotate_left; (· have z0 := (rcell (kp hI (f_g4))).1; have z1 := (rcell (kp hI (f_o4))).1; have z2 := (rcell (kp hI (f_b4))).1; go_simp; rfl); (simp only [Act.put, List.setIfInBounds_toArray, List.set_cons_zero, List.set_cons_succ]; refine hK _ _ ?_; clear hK K)) | (refine Abs.step_skip rfl rfl (fun K hK => ?_); (simp only [Act.put, List.setIfInBounds_toArray, List.set_cons_zero, List.set_cons_succ]; refine hK _ _ ?_; clear hK K)))
      intro w5 hb5 hx0 hx1 hx2
      clear hx0 hx1 hx2
      simp only [Abs.T_setF, Abs.T_addA, Abs.T_push, Abs.T_start]
      have f_g5 := kp hb5 (f_g4)
      have f_o5 := kp hb5 (f_o4)
      have f_b5 := kp hb5 (f_b4)
      have hB5 := bB hB4 hb5
      obtain ⟨zg_a, zg_b, lg5⟩ := rcell f_g5
      obtain ⟨zo_a, zo_b, lo5⟩ := rcell f_o5
      obtain ⟨zb_a, zb_b, lb5⟩ := rcell f_b5
      cases wb
      · have e : E = false := by rw [← hE.out]; exact thrB_no (k := k + 1) (by rw [HT.out, Bool.and_false])
        subst e
        clear hE HT
        go_wp2
        go_ret
        exact ⟨rfl, hB5⟩
      · have HT2 := hide (HT.out.trans (by rw [hT.out]))
        clear HT
        go_wp2
        go_roundw
        case rel => exact ⟨k + 1, by go_num, by omega, HT2, (f_g5), (f_o5), hB5⟩
        case measure => simp [intOf]; omega
    · obtain rfl : k = l.length := by omega
      rw [List.take_length] at hT
      have e : E = true := by rw [← hE.out]; exact hT.out
      subst e
      clear hE
      go_wp2
      go_ret
      exact ⟨rfl, hb⟩
end Go.Proofs.Ytfdaabdibpcjeaa
