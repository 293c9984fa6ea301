/- yearbookref10.Longest at this program. -/
import Derived.Test.YtpimkigbdjfjoaaDoorRef10n
set_option linter.unusedSimpArgs false
set_option linter.unusedVariables false
namespace Go.Proofs.YtpimkigbdjfjoaaDoor
open Go.RowKit

/-- n is how many bands from the first one on let a slope -/
structure IsFirstS (l : List Bd) (n : Nat) : Prop where
  le : n ≤ l.length
  yes : ∀ k, k < n → slOpen (sk l (k + 1)) = true
  no : n < l.length → slOpen (sk l (n + 1)) = false
def firstS (l : List Bd) : Nat := ((List.range l.length).takeWhile fun k => slOpen (sk l (k + 1))).length
theorem firstS_is (l : List Bd) : IsFirstS l (firstS l) := by
  obtain ⟨h1, h2, h3⟩ := takeWhile_spec (fun k => slOpen (sk l (k + 1))) l.length
  exact ⟨h1, h2, h3⟩
theorem sk_one (l : List Bd) : sk l 1 = all0 := rfl
theorem firstS_pos {l : List Bd} (h : 0 < l.length) : 0 < firstS l := by
  have hF := firstS_is l
  rcases Nat.eq_zero_or_pos (firstS l) with e | e
  · have := hF.no (by omega)
    rw [e, sk_one] at this
    cases this
  · exact e

set_option maxRecDepth 100000 in
set_option maxHeartbeats 2000000 in
theorem ref10_Longest_in (g o c : Nat) (l : List Bd) (cur : Array Value) (f : Nat) (hF : Hid (IsFirstS l f)) (h : Hid (okF (-1) l = true)) (h0 : 0 < l.length) (hn : l.length ≤ 260) (hcap : l.length ≤ c) (hfl : f ≤ l.length)
    (HC : Hid (∀ i, i < l.length → cur[o + i * 3]? = some (.int .i64 (bd l i).t) ∧ cur[o + i * 3 + 1]? = some (.int .i64 (bd l i).lo) ∧ cur[o + i * 3 + 2]? = some (.int .i64 (bd l i).hi)))
    (w : World) (hg : w.heap[g]? = some (.cells cur 37 (0, 0))) :
    Calls Tryd.prog 24 #[.slice (some ⟨g, o, none⟩) l.length c] w fun e w' => e = .returned (.int .i64 f) ∧ Below w.heap.size w w' := by
  go_enter Tryd.func24, Tryd.ntmps24
  obtain ⟨zg_a, zg_b, lg0⟩ := rcell hg
  go_wp2_with fail
  go_loopw [5] (fun vi wr => ∃ (k : Nat) (a0 a1 c0 c1 : Int), vi = .int .i64 k ∧ k ≤ f ∧ Hid (sk l k = (⟨a0, a1⟩, ⟨c0, c1⟩)) ∧ wr.heap[g]? = some (.cells cur 37 (0, 0)) ∧ wr.heap[w.heap.size]? = some (.cells #[.int .i64 a0, .int .i64 a1] 26 (0, 0)) ∧ wr.heap[w.heap.size + 1]? = some (.cells #[.int .i64 c0, .int .i64 c1] 26 (0, 0)) ∧ Below w.heap.size w wr) (fun vi _ => l.length - (intOf vi).toNat)
  case atStart => exact ⟨0, -4611688217450643456, 1, 4611688217450643456, 1, rfl, by omega, hide rfl, (ka (ka (hg) (.cells #[.int .i64 (-4611688217450643456), .int .i64 1] 26)) (.cells #[.int .i64 4611688217450643456, .int .i64 1] 26)), (ka (na w #[.int .i64 (-4611688217450643456), .int .i64 1] 26) (.cells #[.int .i64 4611688217450643456, .int .i64 1] 26)), (na1 w (.cells #[.int .i64 (-4611688217450643456), .int .i64 1] 26) #[.int .i64 4611688217450643456, .int .i64 1] 26), (bA (bA (b0 w) (.cells #[.int .i64 (-4611688217450643456), .int .i64 1] 26)) (.cells #[.int .i64 4611688217450643456, .int .i64 1] 26))⟩
  case round =>
    obtain ⟨k, a0, a1, c0, c1, rfl, hk, hx, j0, j1, j2, hb⟩ := hrel
    by_cases hlt : k < l.length
    · obtain ⟨q1, q2, q3⟩ := HC.out k hlt
      have cL := ref10_Let g o c l cur h.out hn k hlt HC.out a0 a1 c0 c1 hx.out (sk l (k + 1)).1 (sk l (k + 1)).2 rfl
      have hv := sk_inv h.out (k + 1) (by omega)
      have s1 := hv.v1
      have s2 := hv.v2
      have ho : slOpen (sk l (k + 1)) = !(sk l (k + 1)).2.lt (sk l (k + 1)).1 := rfl
      have hx1 : Hid (sk l (k + 1) = ((sk l (k + 1)).1, (sk l (k + 1)).2)) := hide rfl
      have HO := hide ho
      clear ho hv
      generalize (sk l (k + 1)).1 = E0 at *
      generalize (sk l (k + 1)).2 = E1 at *
      obtain ⟨m0, m1⟩ := E0
      obtain ⟨n0, n1⟩ := E1
      have cl := ref10_Less n0 n1 m0 m1 s2 s1
      simp only at cL
      have HO2 : Hid (slOpen (sk l (k + 1)) = !decide (n0 * m1 < m0 * n1)) := HO
      clear s1 s2 HO
      generalize bd l k = b at *
      obtain ⟨bt, bl, bh⟩ := b
      simp only at q1 q2 q3 cL
      obtain ⟨zg_a, zg_b, lg1⟩ := rcell j0
      obtain ⟨zp_a, zp_b, lp2⟩ := rcell j1
      obtain ⟨zq_a, zq_b, lq3⟩ := rcell j2
      go_wp2_with fail
      refine Abs.wp_region_abs (Abs.cls0 _) [0, 1, 2, 3, 4, 5, 6, 7, 8, 9, 10, 11, 12, 13, 14] (by kernel_rfl) (by kernel_rfl) (Below.refl _ _).drew ?_
      repeat (first | (refine Abs.step_pure rfl rfl (fun K hK => ?_); go_simp; (try go_bits); (first | refine hK _ _ ?_ | (simp only [↓IntWalk.iteOmega]; go_simp; (try go_bits); refine hK _ _ ?_)); clear hK K) | (refine Abs.step_load (v := ?_) rfl rfl (by kernel_rfl) rfl (fun w0 hI => ?_) (fun K hK => ?_); rotate_left; (· have z0 := (rcell (kp hI (j0))).1; have z1 := (rcell (kp hI (j1))).1; have z2 := (rcell (kp hI (j2))).1; go_simp; rfl); (simp only [Act.put, List.setIfInBounds_toArray, List.set_cons_zero, List.set_cons_succ]; refine hK _ _ ?_; clear hK K)) | (refine Abs.step_skip rfl rfl (fun K hK => ?_); (simp only [Act.put, List.setIfInBounds_toArray, List.set_cons_zero, List.set_cons_succ]; refine hK _ _ ?_; clear hK K)))
      (refine Abs.step_call_val (f := ?_) (args := ?_) (v := ?_) rfl rfl rfl rfl (fun w0 => ?_) (fun w0 hI => ?_) (fun K hK => ?_); rotate_left 3; (· go_simp; (constructor <;> rfl)); (· exact cL _ (kp hI (j0))); (simp only [Act.put, List.setIfInBounds_toArray, List.set_cons_zero, List.set_cons_succ]; refine hK _ _ ?_; clear hK K))
      repeat (first | (refine Abs.step_pure rfl rfl (fun K hK => ?_); go_simp; (try go_bits); (first | refine hK _ _ ?_ | (simp only [↓IntWalk.iteOmega]; go_simp; (try go_bits); refine hK _ _ ?_)); clear hK K) | (refine Abs.step_load (v := ?_) rfl rfl (by kernel_rfl) rfl (fun w0 hI => ?_) (fun K hK => ?_); rotate_left; (· have z0 := (rcell (kp hI (j0))).1; have z1 := (rcell (kp hI (j1))).1; have z2 := (rcell (kp hI (j2))).1; go_simp; rfl); (simp only [Act.put, List.setIfInBounds_toArray, List.set_cons_zero, List.set_cons_succ]; refine hK _ _ ?_; clear hK K)) | (refine Abs.step_skip rfl rfl (fun K hK => ?_); (simp only [Act.put, List.setIfInBounds_toArray, List.set_cons_zero, List.set_cons_succ]; refine hK _ _ ?_; clear hK K)))
      (refine Abs.step_store (T := ?_) rfl rfl rfl (fun w0 hI hF hU => ?_) (fun w0 hI hU hJ => ?_) (fun K hK => ?_); rotate_left; (· have hR := kp hI (j1); have hg0 := (rcell hR).1; have hg1 := (rcell hR).2.1; simp only [Abs.T_setF, Abs.T_addA, Abs.T_push, Abs.T_start]; go_simp; exact row2 hR _ _); (· first | exact trivial | exact js hJ rfl _ | exact js hJ (Or.inl rfl) _ | exact js hJ (Or.inr rfl) _); (simp only [Act.put, List.setIfInBounds_toArray, List.set_cons_zero, List.set_cons_succ]; refine hK _ _ ?_; clear hK K))
      (refine Abs.step_store (T := ?_) rfl rfl rfl (fun w0 hI hF hU => ?_) (fun w0 hI hU hJ => ?_) (fun K hK => ?_); rotate_left; (· have hR := fun cs => (setRow_other (w := w0) (g := w.heap.size) cs (by omega)).trans (kp hI (j2)); have hg0 := fun cs => (rcell (hR cs)).1; have hg1 := fun cs => (rcell (hR cs)).2.1; simp only [Abs.T_setF, Abs.T_addA, Abs.T_push, Abs.T_start]; go_simp; exact row2 (hR _) _ _); (· first | exact trivial | exact js hJ rfl _ | exact js hJ (Or.inl rfl) _ | exact js hJ (Or.inr rfl) _); (simp only [Act.put, List.setIfInBounds_toArray, List.set_cons_zero, List.set_cons_succ]; refine hK _ _ ?_; clear hK K))
      intro w0 hI hF hx1 hx2
      clear hx1 hx2 hF
      simp only [Abs.T_push]
      generalize hT5 : setRow w0 _ _ = w5
      obtain ⟨hx5, f_p5⟩ := fin_x hI (j1) hT5
      clear hT5 hI w0
      have f_g5 := kx hx5 (j0) (by omega)
      have f_q5 := kx hx5 (j2) (by omega)
      have hB5 := bX hb hx5 (by omega)
      clear zg_a zg_b zp_a zp_b zq_a zq_b
      obtain ⟨zg_a, zg_b, lg5⟩ := rcell f_g5
      obtain ⟨zq_a, zq_b, lq5⟩ := rcell f_q5
      obtain ⟨zp_a, zp_b, lp5⟩ := rcell f_p5
      generalize hT6 : setRow w5 _ _ = w6
      obtain ⟨hx6, f_q6⟩ := fin_x (b0 _) f_q5 hT6
      clear hT6
      have f_g6 := kx hx6 (f_g5) (by omega)
      have f_p6 := kx hx6 (f_p5) (by omega)
      have hB6 := bX hB5 hx6 (by omega)
      clear zg_a zg_b zp_a zp_b zq_a zq_b
      obtain ⟨zg_a, zg_b, lg6⟩ := rcell f_g6
      obtain ⟨zp_a, zp_b, lp6⟩ := rcell f_p6
      obtain ⟨zq_a, zq_b, lq6⟩ := rcell f_q6
      by_cases hkf : k < f
      · have e1 : decide (n0 * m1 < m0 * n1) = false := by
          have := HO2.out
          rw [hF.out.yes k hkf] at this
          cases hh : decide (n0 * m1 < m0 * n1)
          · rfl
          · rw [hh] at this; cases this
        rw [e1] at cl
        go_wp2_with fail
        refine (cl _).mono ?_
        rintro e w7 ⟨rfl, hb7⟩
        have f_g7 := kp hb7 (f_g6)
        have f_p7 := kp hb7 (f_p6)
        have f_q7 := kp hb7 (f_q6)
        have hB7 := bB hB6 hb7
        clear zg_a zg_b zp_a zp_b zq_a zq_b
        obtain ⟨zg_a, zg_b, lg7⟩ := rcell f_g7
        obtain ⟨zp_a, zp_b, lp7⟩ := rcell f_p7
        obtain ⟨zq_a, zq_b, lq7⟩ := rcell f_q7
        go_wp2
        go_roundw
        case rel => exact ⟨k + 1, m0, m1, n0, n1, by go_num, by omega, hx1, (f_g7), (f_p7), (f_q7), hB7⟩
        case measure => simp [intOf]; omega
      · have e : k = f := by omega
        subst e
        have e1 : decide (n0 * m1 < m0 * n1) = true := by
          have := HO2.out
          rw [hF.out.no hlt] at this
          cases hh : decide (n0 * m1 < m0 * n1)
          · rw [hh] at this; cases this
          · rfl
        rw [e1] at cl
        go_wp2_with fail
        refine (cl _).mono ?_
        rintro e w7 ⟨rfl, hb7⟩
        have f_g7 := kp hb7 (f_g6)
        have f_p7 := kp hb7 (f_p6)
        have f_q7 := kp hb7 (f_q6)
        have hB7 := bB hB6 hb7
        clear zg_a zg_b zp_a zp_b zq_a zq_b
        obtain ⟨zg_a, zg_b, lg7⟩ := rcell f_g7
        obtain ⟨zp_a, zp_b, lp7⟩ := rcell f_p7
        obtain ⟨zq_a, zq_b, lq7⟩ := rcell f_q7
        go_wp2
        go_ret
        exact ⟨rfl, hB7⟩
    · have e : k = f := by omega
      subst e
      have hlt' : ¬ ((k : Int) < (l.length : Int)) := by omega
      go_wp2
      go_ret
      exact ⟨rfl, hb⟩

theorem ref10_Longest (A : Option Addr) (c : Nat) (l : List Bd) (h : okB l = true) (w : World) (hR : BR w A c l) :
    Calls Tryd.prog 24 #[.slice A l.length c] w fun e w' => e = .returned (.int .i64 (firstS l)) ∧ Below w.heap.size w w' := by
  obtain ⟨k0, k1, k2⟩ := okB_spec h
  have hF := firstS_is l
  obtain ⟨g, o, cur, rfl, hg, hc⟩ := hR.mem k0
  exact ref10_Longest_in g o c l cur (firstS l) (hide hF) (hide k2) k0 (by omega) hR.cap hF.le (hide fun i hi => by
    have := hc i hi
    rw [bd_eq hi] at this
    exact this) w hg
end Go.Proofs.YtpimkigbdjfjoaaDoor
