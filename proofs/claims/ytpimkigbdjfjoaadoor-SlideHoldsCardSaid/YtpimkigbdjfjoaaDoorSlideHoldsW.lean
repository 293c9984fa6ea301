/- The walk of SlideHolds (yearbooklaw10). -/
import Derived.Test.YtpimkigbdjfjoaaDoorPiece
set_option linter.unusedSimpArgs false
set_option linter.unusedVariables false
namespace Go.Proofs.YtpimkigbdjfjoaaDoor
open Go.RowKit
variable {ta : TypeId}
attribute [local go_sem] Oper.semAt_some

set_option maxRecDepth 100000 in
set_option maxHeartbeats 2000000 in
theorem holds_1 (X : Option Addr) (C : Nat) (xs ys : List Bd) (w : World) (hall : w.heap[0]? = some (.cells all4 ta (0, 0)))
    (c1 : ∀ w', Below w.heap.size w w' → Calls Tryd.prog 12 #[.slice X xs.length C, .int .i64 80] w' fun e w'' => ∃ A c, e = .returned (.slice A ys.length c) ∧ BR w'' A c ys ∧ Below w'.heap.size w' w'')
    (c2 : ∀ A c w, BR w A c ys → Calls Tryd.prog 27 #[.slice A ys.length c] w fun e w' => e = .returned (.int .i64 180) ∧ Below w.heap.size w w')
    (c4 : ∀ A c w, BR w A c ys → Calls Tryd.prog 23 #[.slice A ys.length c] w fun e w' => e = .returned (.tuple #[.slice none 0 0, .int .i64 180]) ∧ Below w.heap.size w w') :
    Calls Tryd.prog 9 #[.slice X xs.length C] w fun e w' => e = .returned (.bool true) ∧ Below w.heap.size w w' := by
  have hw := fun w (ha : w.heap[0]? = some (.cells all4 ta (0, 0))) => wakesA w ha
  go_enter Tryd.func9, Tryd.ntmps9
  obtain ⟨za_a, za_b, la0⟩ := rcell hall
  go_wp2_with fail
  refine (hw _ (hall)).mono ?_
  rintro e w1 ⟨rfl, hb1⟩
  have f_a1 := kp hb1 (hall)
  have hB1 := bB (b0 w) hb1
  clear za_a za_b
  obtain ⟨za_a, za_b, la1⟩ := rcell f_a1
  go_wp2_with fail
  refine (c1 _ hB1).mono ?_
  rintro e wo ⟨A, c, rfl, hR, hbo⟩
  have hBo := bB hB1 hbo
  clear hbo
  go_wp2_with fail
  refine (c2 _ _ _ hR).mono ?_
  rintro e w2 ⟨rfl, hb2⟩
  have rd_b2 := hR.below hb2
  have hB2 := bB hBo hb2
  go_wp2_with fail
  refine (c4 _ _ _ rd_b2).mono ?_
  rintro e w3 ⟨rfl, hb3⟩
  have rd_b3 := rd_b2.below hb3
  have hB3 := bB hB2 hb3
  go_wp2
  go_ret
  exact ⟨rfl, hB3⟩

theorem cutsS_len' (l : List Bd) : (cutsS l).length ≤ l.length := by
  by_cases h0 : 0 < l.length
  · have := firstS_pos h0
    have ih := cutsS_len' (l.drop (firstS l))
    rw [cutsS_cons h0, List.length_cons]
    rw [List.length_drop] at ih
    have := (firstS_is l).le
    omega
  · rw [cutsS_nil h0]; simp
termination_by l.length
decreasing_by
  rw [List.length_drop]
  omega
theorem add_offs (g o j : Nat) : (⟨g, o, none⟩ : Addr).add j = ⟨g, o + j, none⟩ := by unfold Addr.add; split <;> simp_all
theorem sk_take_self (l : List Bd) {n : Nat} (hn : n ≤ l.length) : sk (l.take n) (l.take n).length = sk l n := by
  rw [show (l.take n).length = n by rw [List.length_take]; omega]
  exact sk_take l n n (Nat.le_refl _)

set_option maxRecDepth 100000 in
set_option maxHeartbeats 8000000 in
theorem holds_2 (X : Option Addr) (C kk : Nat) (xs ys : List Bd) (ns : List Nat) (hkk : ns.length = kk) (hns : Hid (ns = cutsS ys)) (hok : Hid (okF (-1) ys = true)) (h1 : ys.length ≤ 256) (hk0 : 0 < kk) (hkm : kk ≤ 256) (w : World) (hall : w.heap[0]? = some (.cells all4 ta (0, 0)))
    (c1 : ∀ w', Below w.heap.size w w' → Calls Tryd.prog 12 #[.slice X xs.length C, .int .i64 80] w' fun e w'' => ∃ A c, e = .returned (.slice A ys.length c) ∧ BR w'' A c ys ∧ Below w'.heap.size w' w'')
    (c2 : ∀ A c w, BR w A c ys → Calls Tryd.prog 27 #[.slice A ys.length c] w fun e w' => e = .returned (.int .i64 0) ∧ Below w.heap.size w w')
    (c4 : ∀ A c w, w.heap[0]? = some (.cells all4 ta (0, 0)) → BR w A c ys → Calls Tryd.prog 23 #[.slice A ys.length c] w fun e w' => ∃ A' c', e = .returned (.tuple #[.slice A' kk c', .int .i64 0]) ∧ Below w.heap.size w w' ∧ Rd w' A' c' ns) :
    Calls Tryd.prog 9 #[.slice X xs.length C] w fun e w' => e = .returned (.bool true) ∧ Below w.heap.size w w' := by
  have hw := fun w (ha : w.heap[0]? = some (.cells all4 ta (0, 0))) => wakesA w ha
  go_enter Tryd.func9, Tryd.ntmps9
  obtain ⟨za_a, za_b, la0⟩ := rcell hall
  go_wp2_with fail
  refine (hw _ (hall)).mono ?_
  rintro e w1 ⟨rfl, hb1⟩
  have f_a1 := kp hb1 (hall)
  have hB1 := bB (b0 w) hb1
  clear za_a za_b
  obtain ⟨za_a, za_b, la1⟩ := rcell f_a1
  go_wp2_with fail
  refine (c1 _ hB1).mono ?_
  rintro e wo ⟨A, c, rfl, hR, hbo⟩
  have hBo := bB hB1 hbo
  have f_ao := kp hbo f_a1
  clear hbo
  obtain ⟨za_a, za_b, la2⟩ := rcell f_ao
  go_wp2_with fail
  refine (c2 _ _ _ hR).mono ?_
  rintro e w3 ⟨rfl, hb3⟩
  have f_a3 := kp hb3 (f_ao)
  have rd_b3 := hR.below hb3
  have hB3 := bB hBo hb3
  clear za_a za_b
  obtain ⟨za_a, za_b, la3⟩ := rcell f_a3
  go_wp2_with fail
  refine (c4 _ _ _ (f_a3) rd_b3).mono ?_
  rintro e w4 ⟨A4, k4, rfl, hb4, rn_p⟩
  have f_a4 := kp hb4 (f_a3)
  have rd_b4 := rd_b3.below hb4
  have hB4 := bB hB3 hb4
  clear za_a za_b
  obtain ⟨za_a, za_b, la4⟩ := rcell f_a4
  have hRp := rn_p
  have hRc := rd_b4
  have hBc := hB4
  have hAc := (f_a4)
  obtain ⟨gp, curp, rfl, hgp, hcp⟩ := hRp.mem (by omega)
  have HCP := hide hcp
  clear hcp hRp c1 c2 c4 hw
  have hn0 : ((kk : Int) == 0) = false := by rw [beq_eq_false_iff_ne]; omega
  go_wp2_with fail
  go_loopw [8, 48] (fun v8 vj wr => ∃ (m j : Nat) (A' : Option Addr) (c' : Nat), v8 = .slice A' (ys.drop m).length c' ∧ vj = .int .i64 j ∧ j ≤ kk ∧ BR wr A' c' (ys.drop m) ∧ wr.heap[gp]? = some (.cells curp 3 (0, 0)) ∧ wr.heap[0]? = some (.cells all4 ta (0, 0)) ∧ Hid (ns.drop j = cutsS (ys.drop m)) ∧ Below w.heap.size w wr) (fun _ vj _ => kk - (intOf vj).toNat)
  case atStart => exact ⟨0, 0, A, c, rfl, rfl, by omega, hRc, hgp, hAc, hide (by simpa using hns.out), hBc⟩
  case round =>
    clear hRc hR hB1 hBc hBo hgp hAc hall
    obtain ⟨m, j, A', c', rfl, rfl, hj, hR', hgp, hAc, hdrop, hb⟩ := hrel
    have hl2 : (ys.drop m).length ≤ 256 := by rw [List.length_drop]; omega
    have hok2 := okF_drop ys (-1) (Int.le_refl _) hok.out m
    have hdd := fun k => List.drop_drop (l := ys) (i := k) (j := m)
    generalize ys.drop m = r at *
    have HDD := hide hdd
    have HOK := hide hok2
    clear hdd hok2
    by_cases hlt : j < kk
    · have hr0 : 0 < r.length := by
        rcases Nat.eq_zero_or_pos r.length with e | e
        · exfalso
          have := hdrop.out
          rw [cutsS_nil (by omega), List.drop_eq_nil_iff] at this
          omega
        · exact e
      have hcs := hdrop.out
      rw [cutsS_cons hr0] at hcs
      have hnj : ns[j]'(by omega) = firstS r := by
        have := congrArg (·[0]?) hcs
        simp only [List.getElem?_drop, Nat.add_zero, List.getElem?_cons_zero] at this
        rw [List.getElem?_eq_getElem (by omega)] at this
        exact Option.some.inj this
      have hnext : ns.drop (j + 1) = cutsS (r.drop (firstS r)) := by
        have := congrArg (List.drop 1) hcs
        rw [List.drop_drop] at this
        simpa using this
      have hqp := HCP.out j (by omega)
      rw [hnj] at hqp
      have hle := (firstS_is r).le
      have hn1 := firstS_pos hr0
      have hopen := firstS_open r
      have hno := (firstS_is r).no
      generalize firstS r = n at *
      clear hcs hnj
      have htk : (r.take n).length = n := by rw [List.length_take]; omega
      have hB1 : okB (r.take n) = true := okB_mk (by omega) (by omega) (okF_pre (-1) r n HOK.out)
      have hO1 : slOpen (sk (r.take n) (r.take n).length) = true := by rw [sk_take_self r hle]; exact hopen
      have cF : ∀ A w, w.heap[0]? = some (.cells all4 ta (0, 0)) → BR w A c' r → Calls Tryd.prog 14 #[.slice A n c'] w fun e w' => e = .returned (.tuple #[.agg #[.int .i64 (fC (r.take n) / (fS (r.take n)).d), .int .i64 (fC (r.take n) % (fS (r.take n)).d), .int .i64 (fS (r.take n)).n, .int .i64 (fS (r.take n)).d], .int .i64 0]) ∧ Below w.heap.size w w' := fun A w ha hr => by
        have := slide_Fit_yes A c' (r.take n) hB1 hO1 w ha (hr.take n)
        rw [htk] at this
        exact this
      have cT : ∀ A w, BR w A c' r → Calls Tryd.prog 21 #[.slice A n c', .agg #[.int .i64 (fC (r.take n) / (fS (r.take n)).d), .int .i64 (fC (r.take n) % (fS (r.take n)).d), .int .i64 (fS (r.take n)).n, .int .i64 (fS (r.take n)).d]] w fun e w' => e = .returned (.bool true) ∧ Below w.heap.size w w' := fun A w hr => by
        have := slide_Through_yes (fC (r.take n) / (fS (r.take n)).d) (fC (r.take n) % (fS (r.take n)).d) (fS (r.take n)).n (fS (r.take n)).d A c' (r.take n) hB1 true (hide (fitS_thr hB1 hO1)) w (hr.take n)
        rw [htk] at this
        exact this
      have cK := fun w => line_Check (fC (r.take n) / (fS (r.take n)).d) (fC (r.take n) % (fS (r.take n)).d) (fS (r.take n)).n (fS (r.take n)).d w
      rw [if_pos (fit_isB hB1 hO1)] at cK
      have cA : Hid (∀ k, k < n → ∃ v, (bd r k).lo ≤ v ∧ v ≤ (bd r k).hi ∧ ∀ w, Calls Tryd.prog 34 #[.agg #[.int .i64 (fC (r.take n) / (fS (r.take n)).d), .int .i64 (fC (r.take n) % (fS (r.take n)).d), .int .i64 (fS (r.take n)).n, .int .i64 (fS (r.take n)).d], .int .i64 ((bd r k).t - (bd r 0).t)] w fun e w' => e = .returned (.tuple #[.int .i64 v, .int .i64 0]) ∧ Below w.heap.size w w') := hide fun k hk => by
        have hwn := fitS_win hB1 hO1 k (by omega)
        rw [bd_take hk, bd_take (show 0 < n by omega)] at hwn
        have rk := bd_rg HOK.out k (by omega)
        obtain ⟨x1, x2, x3⟩ := win_at hwn rk.2.2.2.1.1 rk.2.2.2.2.2
        have := line_At (fC (r.take n) / (fS (r.take n)).d) (fC (r.take n) % (fS (r.take n)).d) (fS (r.take n)).n (fS (r.take n)).d ((bd r k).t - (bd r 0).t)
        rw [x1] at this
        exact ⟨_, x2, x3, this⟩
      have cG : Hid (n < r.length → ∀ A w, w.heap[0]? = some (.cells all4 ta (0, 0)) → BR w A c' r → Calls Tryd.prog 14 #[.slice A ((n + 1 : Nat)) c'] w fun e w' => e = .returned (.tuple #[.agg #[.int .i64 0, .int .i64 0, .int .i64 0, .int .i64 0], .int .i64 181]) ∧ Below w.heap.size w w') := hide fun hlt2 A w ha hr => by
        have htk2 : (r.take (n + 1)).length = n + 1 := by rw [List.length_take]; omega
        have := slide_Fit_shut A c' (r.take (n + 1)) (okB_mk (by omega) (by omega) (okF_pre (-1) r (n + 1) HOK.out)) (by rw [sk_take_self r (by omega)]; exact hno hlt2) w ha (hr.take (n + 1))
        rw [htk2] at this
        exact this
      clear hB1 hO1 hopen hno htk
      generalize fC (r.take n) / (fS (r.take n)).d = lA at *
      generalize fC (r.take n) % (fS (r.take n)).d = lR at *
      generalize (fS (r.take n)).n = lN at *
      generalize (fS (r.take n)).d = lD at *
      have hcap := hR'.cap
      have HRR := hide hR'
      obtain ⟨g, o, cur, rfl, hg, hc⟩ := hR'.mem hr0
      have hc' : ∀ i, i < r.length → cur[o + i * 3]? = some (.int .i64 (bd r i).t) ∧ cur[o + i * 3 + 1]? = some (.int .i64 (bd r i).lo) ∧ cur[o + i * 3 + 2]? = some (.int .i64 (bd r i).hi) := fun i hi => by
        have := hc i hi
        rw [bd_eq hi] at this
        exact this
      have hE0 := (hc' 0 hr0).1
      simp only [Nat.zero_mul, Nat.add_zero] at hE0
      have HG := hide (fun k hk => bd_rg HOK.out k hk)
      have HL := hide (fun k hk => lw_t HOK.out k hk)
      have HCC := hide hc'
      clear hc hc'
      generalize (bd r 0).t = t0 at *
      have hcn0 : n ≤ c' := by omega
      have hnb : n ≤ 256 := by omega
      obtain ⟨za_a, za_b, la5⟩ := rcell hAc
      obtain ⟨zp_a, zp_b, lp6⟩ := rcell hgp
      obtain ⟨zg_a, zg_b, lg7⟩ := rcell hg
      go_wp2_with fail
      refine (cF _ _ (hAc) hR').mono ?_
      rintro e w8 ⟨rfl, hb8⟩
      have f_a8 := kp hb8 (hAc)
      have f_p8 := kp hb8 (hgp)
      have f_g8 := kp hb8 (hg)
      have rd_b8 := hR'.below hb8
      have hB8 := bB hb hb8
      clear za_a za_b zg_a zg_b zp_a zp_b
      obtain ⟨za_a, za_b, la8⟩ := rcell f_a8
      obtain ⟨zp_a, zp_b, lp8⟩ := rcell f_p8
      obtain ⟨zg_a, zg_b, lg8⟩ := rcell f_g8
      go_wp2_with fail
      have RBz := hide (rd_b8.below (bA (b0 _) (.cells #[.int .i64 lA, .int .i64 lR, .int .i64 lN, .int .i64 lD] 31)))
      have f_a9 := (ka (f_a8) (.cells #[.int .i64 lA, .int .i64 lR, .int .i64 lN, .int .i64 lD] 31))
      have f_p9 := (ka (f_p8) (.cells #[.int .i64 lA, .int .i64 lR, .int .i64 lN, .int .i64 lD] 31))
      have f_g9 := (ka (f_g8) (.cells #[.int .i64 lA, .int .i64 lR, .int .i64 lN, .int .i64 lD] 31))
      have f_z9 := (na w8 #[.int .i64 lA, .int .i64 lR, .int .i64 lN, .int .i64 lD] 31)
      have rd_b9 := (rd_b8.below (bA (b0 _) (.cells #[.int .i64 lA, .int .i64 lR, .int .i64 lN, .int .i64 lD] 31)))
      have hB9 := (bA hB8 (.cells #[.int .i64 lA, .int .i64 lR, .int .i64 lN, .int .i64 lD] 31))
      clear za_a za_b zg_a zg_b zp_a zp_b
      have la9 := (rcell f_a9).2.2
      have lp9 := (rcell f_p9).2.2
      have lg9 := (rcell f_g9).2.2
      have lz9 := (rcell f_z9).2.2
      refine Abs.wp_region_abs (Abs.cls0 _) [0, 1, 2, 3, 4, 5, 6, 7, 8, 9, 10, 11, 12, 13, 14] (by kernel_rfl) (by kernel_rfl) (Below.refl _ _).drew ?_
      repeat (first | (refine Abs.step_pure rfl rfl (fun K hK => ?_); go_simp; (try go_bits); (first | refine hK _ _ ?_ | (simp only [↓IntWalk.iteOmega]; go_simp; (try go_bits); refine hK _ _ ?_)); clear hK K) | (refine Abs.step_load (v := ?_) rfl rfl (by kernel_rfl) rfl (fun w0 hI => ?_) (fun K hK => ?_); rotate_left; (· have z0 := (rcell (kp hI (f_p9))).1; have z1 := (rcell (kp hI (f_g9))).1; have z2 := (rcell (kp hI (f_z9))).1; go_simp; rfl); (simp only [Act.put, List.setIfInBounds_toArray, List.set_cons_zero, List.set_cons_succ]; refine hK _ _ ?_; clear hK K)) | (refine Abs.step_skip rfl rfl (fun K hK => ?_); (simp only [Act.put, List.setIfInBounds_toArray, List.set_cons_zero, List.set_cons_succ]; refine hK _ _ ?_; clear hK K)))
      (refine Abs.step_call_val (f := ?_) (args := ?_) (v := ?_) rfl rfl rfl rfl (fun w0 => ?_) (fun w0 hI => ?_) (fun K hK => ?_); rotate_left 3; (· go_simp; (constructor <;> rfl)); (· exact cK _); (simp only [Act.put, List.setIfInBounds_toArray, List.set_cons_zero, List.set_cons_succ]; refine hK _ _ ?_; clear hK K))
      repeat (first | (refine Abs.step_pure rfl rfl (fun K hK => ?_); go_simp; (try go_bits); (first | refine hK _ _ ?_ | (simp only [↓IntWalk.iteOmega]; go_simp; (try go_bits); refine hK _ _ ?_)); clear hK K) | (refine Abs.step_load (v := ?_) rfl rfl (by kernel_rfl) rfl (fun w0 hI => ?_) (fun K hK => ?_); rotate_left; (· have z0 := (rcell (kp hI (f_p9))).1; have z1 := (rcell (kp hI (f_g9))).1; have z2 := (rcell (kp hI (f_z9))).1; go_simp; rfl); (simp only [Act.put, List.setIfInBounds_toArray, List.set_cons_zero, List.set_cons_succ]; refine hK _ _ ?_; clear hK K)) | (refine Abs.step_skip rfl rfl (fun K hK => ?_); (simp only [Act.put, List.setIfInBounds_toArray, List.set_cons_zero, List.set_cons_succ]; refine hK _ _ ?_; clear hK K)))
      (refine Abs.step_call_val (f := ?_) (args := ?_) (v := ?_) rfl rfl rfl rfl (fun w0 => ?_) (fun w0 hI => ?_) (fun K hK => ?_); rotate_left 3; (· go_simp; (constructor <;> rfl)); (· exact cT _ _ (RBz.out.below hI)); (simp only [Act.put, List.setIfInBounds_toArray, List.set_cons_zero, List.set_cons_succ]; refine hK _ _ ?_; clear hK K))
      repeat (first | (refine Abs.step_pure rfl rfl (fun K hK => ?_); go_simp; (try go_bits); (first | refine hK _ _ ?_ | (simp only [↓IntWalk.iteOmega]; go_simp; (try go_bits); refine hK _ _ ?_)); clear hK K) | (refine Abs.step_load (v := ?_) rfl rfl (by kernel_rfl) rfl (fun w0 hI => ?_) (fun K hK => ?_); rotate_left; (· have z0 := (rcell (kp hI (f_p9))).1; have z1 := (rcell (kp hI (f_g9))).1; have z2 := (rcell (kp hI (f_z9))).1; go_simp; rfl); (simp only [Act.put, List.setIfInBounds_toArray, List.set_cons_zero, List.set_cons_succ]; refine hK _ _ ?_; clear hK K)) | (refine Abs.step_skip rfl rfl (fun K hK => ?_); (simp only [Act.put, List.setIfInBounds_toArray, List.set_cons_zero, List.set_cons_succ]; refine hK _ _ ?_; clear hK K)))
      intro w10 hb10 hx0 hx1 hx2
      clear hx0 hx1 hx2
      simp only [Abs.T_setF, Abs.T_addA, Abs.T_push, Abs.T_start]
      have f_a10 := kp hb10 (f_a9)
      have f_p10 := kp hb10 (f_p9)
      have f_g10 := kp hb10 (f_g9)
      have f_z10 := kp hb10 (f_z9)
      have rd_b10 := rd_b9.below hb10
      have hB10 := bB hB9 hb10
      obtain ⟨za_a, za_b, la10⟩ := rcell f_a10
      obtain ⟨zp_a, zp_b, lp10⟩ := rcell f_p10
      obtain ⟨zg_a, zg_b, lg10⟩ := rcell f_g10
      obtain ⟨zz_a, zz_b, lz10⟩ := rcell f_z10
      clear cF cT cK RBz
      go_wp2_with fail
      go_loopw [86] (fun vi wq => ∃ k : Nat, vi = .int .i64 k ∧ k ≤ n ∧ wq.heap[gp]? = some (.cells curp 3 (0, 0)) ∧ wq.heap[0]? = some (.cells all4 ta (0, 0)) ∧ wq.heap[g]? = some (.cells cur 37 (0, 0)) ∧ wq.heap[w8.heap.size]? = some (.cells #[.int .i64 lA, .int .i64 lR, .int .i64 lN, .int .i64 lD] 31 (0, 0)) ∧ BR wq (some ⟨g, o, none⟩) c' r ∧ Below w.heap.size w wq) (fun vi _ => n - (intOf vi).toNat)
      case atStart => exact ⟨0, rfl, by omega, (f_p10), (f_a10), (f_g10), (f_z10), rd_b10, hB10⟩
      case round =>
        obtain ⟨k, rfl, hk, i1, i2, i3, i4, i5, hb2⟩ := hrel
        clear hg hgp hAc hR'
        by_cases hlk : k < n
        · obtain ⟨q1, q2, q3⟩ := HCC.out k (by omega)
          obtain ⟨r1, r2, -, ⟨r3, r4⟩, r5, r6⟩ := HG.out k (by omega)
          obtain ⟨l1, l2⟩ := HL.out k (by omega)
          obtain ⟨v, v1, v2, cv⟩ := cA.out k hlk
          generalize bd r k = b at *
          obtain ⟨bt, bl, bh⟩ := b
          simp only at q1 q2 q3 r1 r2 r3 r4 r5 r6 l1 l2 v1 v2 cv
          have y1 : decide (v < bl) = false := by rw [decide_eq_false_iff_not]; omega
          have y2 : decide (bh < v) = false := by rw [decide_eq_false_iff_not]; omega
          obtain ⟨zp_a, zp_b, lp11⟩ := rcell i1
          obtain ⟨za_a, za_b, la12⟩ := rcell i2
          obtain ⟨zg_a, zg_b, lg13⟩ := rcell i3
          obtain ⟨zz_a, zz_b, lz14⟩ := rcell i4
          go_wp2_with fail
          have f_p15 := (ka (i1) (.cells #[.int .i64 bt, .int .i64 bl, .int .i64 bh] 37))
          have f_a15 := (ka (i2) (.cells #[.int .i64 bt, .int .i64 bl, .int .i64 bh] 37))
          have f_g15 := (ka (i3) (.cells #[.int .i64 bt, .int .i64 bl, .int .i64 bh] 37))
          have f_z15 := (ka (i4) (.cells #[.int .i64 bt, .int .i64 bl, .int .i64 bh] 37))
          have f_b15 := (na wr #[.int .i64 bt, .int .i64 bl, .int .i64 bh] 37)
          have rd_b15 := (i5.below (bA (b0 _) (.cells #[.int .i64 bt, .int .i64 bl, .int .i64 bh] 37)))
          have hB15 := (bA hb2 (.cells #[.int .i64 bt, .int .i64 bl, .int .i64 bh] 37))
          clear za_a za_b zg_a zg_b zp_a zp_b zz_a zz_b
          have lp15 := (rcell f_p15).2.2
          have la15 := (rcell f_a15).2.2
          have lg15 := (rcell f_g15).2.2
          have lz15 := (rcell f_z15).2.2
          have lb15 := (rcell f_b15).2.2
          refine Abs.wp_region_abs (Abs.cls0 _) [0, 1, 2, 3, 4, 5, 6, 7, 8, 9, 10, 11, 12, 13] (by kernel_rfl) (by kernel_rfl) (Below.refl _ _).drew ?_
          repeat (first | (refine Abs.step_pure rfl rfl (fun K hK => ?_); go_simp; (try go_bits); (first | refine hK _ _ ?_ | (simp only [↓IntWalk.iteOmega]; go_simp; (try go_bits); refine hK _ _ ?_)); clear hK K) | (refine Abs.step_load (v := ?_) rfl rfl (by kernel_rfl) rfl (fun w0 hI => ?_) (fun K hK => ?_); rotate_left; (· have z0 := (rcell (kp hI (f_g15))).1; have z1 := (rcell (kp hI (f_z15))).1; have z2 := (rcell (kp hI (f_b15))).1; go_simp; rfl); (simp only [Act.put, List.setIfInBounds_toArray, List.set_cons_zero, List.set_cons_succ]; refine hK _ _ ?_; clear hK K)) | (refine Abs.step_skip rfl rfl (fun K hK => ?_); (simp only [Act.put, List.setIfInBounds_toArray, List.set_cons_zero, List.set_cons_succ]; refine hK _ _ ?_; clear hK K)))
          (refine Abs.step_call_val (f := ?_) (args := ?_) (v := ?_) rfl rfl rfl rfl (fun w0 => ?_) (fun w0 hI => ?_) (fun K hK => ?_); rotate_left 3; (· go_simp; (constructor <;> rfl)); (· exact cv _); (simp only [Act.put, List.setIfInBounds_toArray, List.set_cons_zero, List.set_cons_succ]; refine hK _ _ ?_; clear hK K))
          repeat (first | (refine Abs.step_pure rfl rfl (fun K hK => ?_); go_simp; (try go_bits); (first | refine hK _ _ ?_ | (simp only [↓IntWalk.iteOmega]; go_simp; (try go_bits); refine hK _ _ ?_)); clear hK K) | (refine Abs.step_load (v := ?_) rfl rfl (by kernel_rfl) rfl (fun w0 hI => ?_) (fun K hK => ?_); rotate_left; (· have z0 := (rcell (kp hI (f_g15))).1; have z1 := (rcell (kp hI (f_z15))).1; have z2 := (rcell (kp hI (f_b15))).1; go_simp; rfl); (simp only [Act.put, List.setIfInBounds_toArray, List.set_cons_zero, List.set_cons_succ]; refine hK _ _ ?_; clear hK K)) | (refine Abs.step_skip rfl rfl (fun K hK => ?_); (simp only [Act.put, List.setIfInBounds_toArray, List.set_cons_zero, List.set_cons_succ]; refine hK _ _ ?_; clear hK K)))
          intro w16 hb16 hx0 hx1 hx2
          clear hx0 hx1 hx2
          simp only [Abs.T_setF, Abs.T_addA, Abs.T_push, Abs.T_start]
          have f_p16 := kp hb16 (f_p15)
          have f_a16 := kp hb16 (f_a15)
          have f_g16 := kp hb16 (f_g15)
          have f_z16 := kp hb16 (f_z15)
          have f_b16 := kp hb16 (f_b15)
          have rd_b16 := rd_b15.below hb16
          have hB16 := bB hB15 hb16
          obtain ⟨zp_a, zp_b, lp16⟩ := rcell f_p16
          obtain ⟨za_a, za_b, la16⟩ := rcell f_a16
          obtain ⟨zg_a, zg_b, lg16⟩ := rcell f_g16
          obtain ⟨zz_a, zz_b, lz16⟩ := rcell f_z16
          obtain ⟨zb_a, zb_b, lb16⟩ := rcell f_b16
          go_wp2
          go_roundw
          case rel => exact ⟨k + 1, by go_num, by omega, (f_p16), (f_a16), (f_g16), (f_z16), rd_b16, hB16⟩
          case measure => simp [intOf]; omega
        · obtain rfl : k = n := by omega
          have hdr := HDD.out k
          obtain ⟨zp_a, zp_b, lp17⟩ := rcell i1
          obtain ⟨za_a, za_b, la18⟩ := rcell i2
          by_cases hnr : k < r.length
          · have hcn : ¬ c' = k := by omega
            have cg := cG.out hnr
            go_wp2_with fail
            refine (cg _ _ (i2) i5).mono ?_
            rintro e w19 ⟨rfl, hb19⟩
            have f_p19 := kp hb19 (i1)
            have f_a19 := kp hb19 (i2)
            have rd_b19 := i5.below hb19
            have hB19 := bB hb2 hb19
            clear za_a za_b zp_a zp_b
            obtain ⟨zp_a, zp_b, lp19⟩ := rcell f_p19
            obtain ⟨za_a, za_b, la19⟩ := rcell f_a19
            have hR5 := ((rd_b19.below (bA (b0 _) (.cells #[.int .i64 0, .int .i64 0, .int .i64 0, .int .i64 0] 31)))).drop k hle hcap (Nat.le_refl _)
            rw [if_neg hcn, hdr] at hR5
            simp only [Option.map_some, add_offs] at hR5
            have HR5 := hide hR5
            have HNX : Hid (ns.drop (j + 1) = cutsS (ys.drop (m + k))) := hide (by rw [hnext, hdr])
            have hlr : Hid (r.length - k = (ys.drop (m + k)).length) := hide (by rw [← hdr, List.length_drop])
            clear hR5 hnext hdr
            go_wp2
            go_roundw
            case rel => exact ⟨m + k, j + 1, _, _, by first | (rw [hlr.out]; done) | (rw [← hlr.out]; done) | (rw [← hlr.out]; congr 1; omega), by go_num, by omega, HR5.out, (ka (f_p19) (.cells #[.int .i64 0, .int .i64 0, .int .i64 0, .int .i64 0] 31)), (ka (f_a19) (.cells #[.int .i64 0, .int .i64 0, .int .i64 0, .int .i64 0] 31)), HNX, (bA hB19 (.cells #[.int .i64 0, .int .i64 0, .int .i64 0, .int .i64 0] 31))⟩
            case measure => simp [intOf]; omega
          · have hnr' : ¬ (k : Int) < (r.length : Int) := by omega
            by_cases hcn : c' = k
            · skip
              have hR5 := (i5).drop k hle hcap (Nat.le_refl _)
              rw [if_pos hcn, hcn, Nat.sub_self, hdr] at hR5
              have HR5 := hide hR5
              have HNX : Hid (ns.drop (j + 1) = cutsS (ys.drop (m + k))) := hide (by rw [hnext, hdr])
              have hlr : Hid (r.length - k = (ys.drop (m + k)).length) := hide (by rw [← hdr, List.length_drop])
              clear hR5 hnext hdr
              go_wp2
              go_roundw
              case rel => exact ⟨m + k, j + 1, _, _, by first | (rw [hlr.out]; done) | (rw [← hlr.out]; done) | (rw [← hlr.out]; congr 1; omega), by go_num, by omega, HR5.out, (i1), (i2), HNX, hb2⟩
              case measure => simp [intOf]; omega
            · skip
              have hR5 := (i5).drop k hle hcap (Nat.le_refl _)
              rw [if_neg hcn, hdr] at hR5
              simp only [Option.map_some, add_offs] at hR5
              have HR5 := hide hR5
              have HNX : Hid (ns.drop (j + 1) = cutsS (ys.drop (m + k))) := hide (by rw [hnext, hdr])
              have hlr : Hid (r.length - k = (ys.drop (m + k)).length) := hide (by rw [← hdr, List.length_drop])
              clear hR5 hnext hdr
              go_wp2
              go_roundw
              case rel => exact ⟨m + k, j + 1, _, _, by first | (rw [hlr.out]; done) | (rw [← hlr.out]; done) | (rw [← hlr.out]; congr 1; omega), by go_num, by omega, HR5.out, (i1), (i2), HNX, hb2⟩
              case measure => simp [intOf]; omega
    · obtain rfl : j = kk := by omega
      have hrn : r.length = 0 := by
        rcases Nat.eq_zero_or_pos r.length with e | e
        · exact e
        · exfalso
          have := hdrop.out
          rw [cutsS_cons e, List.drop_eq_nil_of_le (by omega)] at this
          cases this
      go_wp2
      go_ret
      exact ⟨by simp, hb⟩

theorem slide_holds (X : Option Addr) (C : Nat) (xs : List Bd) (hn : xs.length ≤ C) (w : World) (hall : w.heap[0]? = some (.cells all4 ta (0, 0))) (hX : InB w X xs) :
    Calls Tryd.prog 9 #[.slice X xs.length C] w fun e w' => e = .returned (.bool true) ∧ Below w.heap.size w w' := by
  have c1 := fun w' (hb : Below w.heap.size w w') => law10_few X C 80 xs (by decide) hn w' (hX.below hb)
  have h1 : (xs.take 80).length ≤ 80 := by rw [List.length_take]; omega
  generalize xs.take 80 = ys at *
  have c2 := fun A c w hR => pmc_Check A c ys w hR
  cases h : okB ys
  · rw [chE_no h] at c2
    exact holds_1 X C xs ys w hall c1 c2 (fun A c w hR => slide_Cut_no A c ys h w hR)
  · rw [chE_yes h] at c2
    have k0 := (okB_spec h).1
    have hl := cutsS_len' ys
    have hp : 0 < (cutsS ys).length := by rw [cutsS_cons k0]; simp
    exact holds_2 X C _ xs ys (cutsS ys) rfl (hide rfl) (hide (okB_spec h).2.2) (by omega) hp (by omega) w hall c1 c2 (fun A c w ha hR => (slide_Cut_yes A c ys h w ha hR).mono (by
        rintro e w' ⟨A', c', he, hr, hb⟩
        exact ⟨A', c', he, hb, hr⟩))
end Go.Proofs.YtpimkigbdjfjoaaDoor
