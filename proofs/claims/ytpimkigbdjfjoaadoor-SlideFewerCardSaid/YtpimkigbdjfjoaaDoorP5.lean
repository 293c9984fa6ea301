/- yearbookref05 at this program: Slope, Common, Lowest, Less, Nearest; line.Nearest. yearbookref01 at this program: word, Fits, Value, Of, Neg, Add, Pow. yearbookref01 at this program: Fits, Value, Of, Neg, Pow, Add. yearbookref01 at this program: Of, Add, Div. yearbookref05 at this program, on: Back, Time, Raised; line.Of and line.Raised. -/
import Derived.Test.YtpimkigbdjfjoaaDoorP4
import Derived.Test.YtpimkigbdjfjoaaDoorP3
set_option linter.unusedSimpArgs false
set_option linter.unusedVariables false
namespace Go.Proofs.YtpimkigbdjfjoaaDoor
open Go.RowKit

/-- a value is a number -/
def NumIs (x : Int) (v : Value) (w : World) : Prop := ∃ A c, v = .agg #[.bool (decide (x < 0)), .slice A (sz x.natAbs).length c] ∧ Rd w A c (sz x.natAbs)
theorem NumIs.rd {x : Int} {A : Option Addr} {b : Bool} {m c : Nat} {w : World} (h : NumIs x (.agg #[.bool b, .slice A m c]) w) : Rd w A c (sz x.natAbs) := by
  obtain ⟨A', c', e, hr⟩ := h
  simp at e
  obtain ⟨_, rfl, _, rfl⟩ := e
  exact hr
theorem Cl_NumIs (x : Int) {v : Value} : Abs.Cl (fun _ => False) (NumIs x v) := by
  intro w w' ⟨A, c, e, hr⟩ h
  refine ⟨A, c, e, hr.cap, fun hl => ?_⟩
  obtain ⟨g, cur, e1, hg, hc⟩ := hr.mem hl
  exact ⟨g, cur, e1, (h.block g (Array.getElem?_eq_some_iff.1 hg).1 (fun hf => hf)).trans hg, hc⟩
theorem GivesNum.num {x : Int} {w w' : World} {e : Ending} (h : GivesNum x w e w') : ∃ v, e = .returned v ∧ Below w.heap.size w w' ∧ NumIs x v w' := by
  obtain ⟨A, c, he, hb, hr⟩ := h
  exact ⟨_, he, hb, A, c, rfl, hr⟩

theorem ref_Slope (N D : Int) (w : World) : Calls Tryd.prog 54 #[.agg #[.int .i64 N, .int .i64 D]] w fun e w' => e = .returned (.bool (slB N D)) ∧ Below w.heap.size w w' := by
  by_cases h1 : 1 ≤ D
  · by_cases h2 : D ≤ 281474976710656
    · by_cases h3 : -4611688217450643456 ≤ N
      · by_cases h4 : N ≤ 4611688217450643456
        · have hb : slB N D = true := decide_eq_true ⟨h1, h2, h3, h4⟩
          rw [hb]
          clear hb
          go_enter Tryd.func54, Tryd.ntmps54
          go_wp2
          go_ret
          exact ⟨rfl, (bA (b0 w) _)⟩
        · have hb : slB N D = false := decide_eq_false fun h => h4 h.2.2.2
          rw [hb]
          clear hb
          go_enter Tryd.func54, Tryd.ntmps54
          go_wp2
          go_ret
          exact ⟨rfl, (bA (b0 w) _)⟩
      · have hb : slB N D = false := decide_eq_false fun h => h3 h.2.2.1
        rw [hb]
        clear hb
        go_enter Tryd.func54, Tryd.ntmps54
        go_wp2
        go_ret
        exact ⟨rfl, (bA (b0 w) _)⟩
    · have hb : slB N D = false := decide_eq_false fun h => h2 h.2.1
      rw [hb]
      clear hb
      go_enter Tryd.func54, Tryd.ntmps54
      go_wp2
      go_ret
      exact ⟨rfl, (bA (b0 w) _)⟩
  · have hb : slB N D = false := decide_eq_false fun h => h1 h.1
    rw [hb]
    clear hb
    go_enter Tryd.func54, Tryd.ntmps54
    go_wp2
    go_ret
    exact ⟨rfl, (bA (b0 w) _)⟩

theorem gcd_mod_l (a b : Nat) : Nat.gcd (a % b) b = Nat.gcd a b := by rw [Nat.gcd_comm a b, ← Nat.gcd_rec, Nat.gcd_comm]
theorem gcd_mod_r (a b : Nat) : Nat.gcd a (b % a) = Nat.gcd a b := by rw [Nat.gcd_comm, ← Nat.gcd_rec]

set_option maxRecDepth 100000 in
set_option maxHeartbeats 1000000 in
theorem ref_Common (n d : Nat) (x : Int) (hx : x = n ∨ x = -n) (hn : n < 9223372036854775808) (hd : d < 9223372036854775808) (w : World) :
    Calls Tryd.prog 86 #[.int .i64 x, .int .i64 (d : Int)] w fun e w' => e = .returned (.int .i64 (Nat.gcd n d : Nat)) ∧ w = w' := by
  rcases (show (0 ≤ x ∧ x = n) ∨ (x < 0 ∧ x = -n) by omega) with ⟨hs, rfl⟩ | ⟨hs, rfl⟩
  all_goals
    go_enter Tryd.func86, Tryd.ntmps86
    go_wp2
    go_loop [0, 1] (fun va vb => ∃ a b : Nat, va = .int .i64 (a : Int) ∧ vb = .int .i64 (b : Int) ∧ a < 9223372036854775808 ∧ b < 9223372036854775808 ∧ Hid (Nat.gcd a b = Nat.gcd n d)) (fun va vb => (intOf va + intOf vb).toNat)
    case atStart => exact ⟨n, d, by first | rfl | simp, rfl, hn, hd, rfl⟩
    case round =>
      obtain ⟨a, b, rfl, rfl, ha, hb, hg⟩ := hrel
      by_cases h1 : a = 0
      · subst h1
        have hq : ¬ (0 : Int) < ((0 : Nat) : Int) := by omega
        go_wp2
        go_ret
        have e := hg.out
        rw [Nat.gcd_zero_left] at e
        exact ⟨by rw [← e]; rfl, rfl⟩
      · have hp : (0 : Int) < (a : Int) := by omega
        by_cases h2 : b = 0
        · subst h2
          have hq : ¬ (0 : Int) < ((0 : Nat) : Int) := by omega
          go_wp2
          go_ret
          have e := hg.out
          rw [Nat.gcd_zero_right] at e
          exact ⟨by rw [← e]; rfl, rfl⟩
        · have hq : (0 : Int) < (b : Int) := by omega
          have nz1 : ¬ (a : Int) = 0 := by omega
          have nz2 : ¬ (b : Int) = 0 := by omega
          by_cases h3 : b < a
          · have h4 : (b : Int) < (a : Int) := by omega
            have m1 : a % b < b := Nat.mod_lt _ (by omega)
            have hT := hide (gcd_mod_l a b)
            go_wp2
            go_round
            case rel => exact ⟨a % b, b, by go_num, rfl, by omega, hb, hT.out.trans hg.out⟩
            case measure => simp [intOf]; omega
          · have h4 : ¬ (b : Int) < (a : Int) := by omega
            have m1 : b % a < a := Nat.mod_lt _ (by omega)
            have hT := hide (gcd_mod_r a b)
            go_wp2
            go_round
            case rel => exact ⟨a, b % a, rfl, by go_num, ha, by omega, hT.out.trans hg.out⟩
            case measure => simp [intOf]; omega

set_option maxHeartbeats 1000000 in
theorem ref_Lowest (N D : Int) (hD : 1 ≤ D) (hD' : D < 9223372036854775808) (h1 : -9223372036854775808 < N) (h2 : N < 9223372036854775808) (w : World) :
    Calls Tryd.prog 49 #[.agg #[.int .i64 N, .int .i64 D]] w fun e w' => e = .returned (.agg #[.int .i64 (lwN N D), .int .i64 (lwD N D)]) ∧ Below w.heap.size w w' := by
  have d := ref_Common N.natAbs D.toNat N (by omega) (by omega) (by omega)
  rw [show ((D.toNat : Nat) : Int) = D by omega] at d
  have p1 := dvN_pos (N := N) hD
  obtain ⟨p3, p4⟩ := lwN_bd (N := N) hD
  have p5 := lwD_pos (N := N) hD
  have p6 := lwD_le (N := N) hD
  have t1 : N.tdiv (dvN N D : Int) = lwN N D := Int.tdiv_eq_ediv_of_dvd (dvN_dvdN N D)
  have t2 : D.tdiv (dvN N D : Int) = lwD N D := Int.tdiv_eq_ediv_of_dvd (dvN_dvdD hD)
  have t3 : D / (dvN N D : Int) = lwD N D := rfl
  have t4 : N / (dvN N D : Int) = lwN N D := rfl
  change ∀ w, Calls _ _ _ w fun e w' => e = .returned (.int .i64 (dvN N D : Nat)) ∧ w = w' at d
  generalize lwN N D = n' at *
  generalize lwD N D = d' at *
  generalize dvN N D = g at *
  have nz : ¬ (g : Int) = 0 := by omega
  have b1 : -9223372036854775808 ≤ n' := by omega
  have b2 : n' < 9223372036854775808 := by omega
  clear p3 p4
  go_enter Tryd.func49, Tryd.ntmps49
  go_wp2_with fail
  refine (d _).mono ?_
  rintro e wq ⟨rfl, rfl⟩
  go_wp2_with fail
  have f_s1 := (ka (na w #[.int .i64 N, .int .i64 D] 26) (.cells #[.int .i64 0, .int .i64 0] 26))
  have f_o1 := (na1 w (.cells #[.int .i64 N, .int .i64 D] 26) #[.int .i64 0, .int .i64 0] 26)
  have hB1 := (bA (bA (b0 w) (.cells #[.int .i64 N, .int .i64 D] 26)) (.cells #[.int .i64 0, .int .i64 0] 26))
  have ls1 := (rcell f_s1).2.2
  have lo1 := (rcell f_o1).2.2
  refine Abs.wp_region_abs (Abs.cls0 _) [0, 1, 2, 3, 4, 5, 6, 7, 8, 9] (by kernel_rfl) (by kernel_rfl) (Below.refl _ _).drew ?_
  repeat (first | (refine Abs.step_pure rfl rfl (fun K hK => ?_); go_simp; (try go_bits); (first | refine hK _ _ ?_ | (simp only [↓IntWalk.iteOmega]; go_simp; (try go_bits); refine hK _ _ ?_)); clear hK K) | (refine Abs.step_load (v := ?_) rfl rfl (by kernel_rfl) rfl (fun w0 hI => ?_) (fun K hK => ?_); rotate_left; (· have z0 := (rcell (kp hI (f_s1))).1; go_simp; rfl); (simp only [Act.put, List.setIfInBounds_toArray, List.set_cons_zero, List.set_cons_succ]; refine hK _ _ ?_; clear hK K)) | (refine Abs.step_skip rfl rfl (fun K hK => ?_); (simp only [Act.put, List.setIfInBounds_toArray, List.set_cons_zero, List.set_cons_succ]; refine hK _ _ ?_; clear hK K)))
  (refine Abs.step_store (T := ?_) rfl rfl rfl (fun w0 hI hF hU => ?_) (fun w0 hI hU hJ => ?_) (fun K hK => ?_); rotate_left; (· have hR := kp hI (f_o1); have hg0 := (rcell hR).1; have hg1 := (rcell hR).2.1; simp only [Abs.T_setF, Abs.T_addA, Abs.T_push, Abs.T_start]; go_simp; exact row2 hR _ _); (· first | exact trivial | exact js hJ rfl _ | exact js hJ (Or.inl rfl) _ | exact js hJ (Or.inr rfl) _); (simp only [Act.put, List.setIfInBounds_toArray, List.set_cons_zero, List.set_cons_succ]; refine hK _ _ ?_; clear hK K))
  repeat (first | (refine Abs.step_pure rfl rfl (fun K hK => ?_); go_simp; (try go_bits); (first | refine hK _ _ ?_ | (simp only [↓IntWalk.iteOmega]; go_simp; (try go_bits); refine hK _ _ ?_)); clear hK K) | (refine Abs.step_load (v := ?_) rfl rfl (by kernel_rfl) rfl (fun w0 hI => ?_) (fun K hK => ?_); rotate_left; (· have z0 := (rcell (kp hI (f_s1))).1; go_simp; rfl); (simp only [Act.put, List.setIfInBounds_toArray, List.set_cons_zero, List.set_cons_succ]; refine hK _ _ ?_; clear hK K)) | (refine Abs.step_skip rfl rfl (fun K hK => ?_); (simp only [Act.put, List.setIfInBounds_toArray, List.set_cons_zero, List.set_cons_succ]; refine hK _ _ ?_; clear hK K)))
  intro w0 hI hF hx1 hx2
  clear hx1 hx2 hF
  simp only [Abs.T_push]
  generalize hT2 : setRow w0 _ _ = w2
  obtain ⟨hx2, f_o2⟩ := fin_x hI (f_o1) hT2
  clear hT2 hI w0
  have f_s2 := kx hx2 (f_s1) (by omega)
  have hB2 := bX hB1 hx2 (by omega)
  obtain ⟨zs_a, zs_b, ls2⟩ := rcell f_s2
  obtain ⟨zo_a, zo_b, lo2⟩ := rcell f_o2
  go_wp2
  refine bodyPost_ret (by simp [results, Tryd.results49, go_sem, zo_a]; try rfl) rfl ⟨rfl, hB2⟩

theorem sz_i64 {x : Int} (h1 : -9223372036854775808 ≤ x) (h2 : x < 9223372036854775808) : (sz x.natAbs).length ≤ 64 := sz_len_lt (by omega)

/-- the slope nearest to 0 of those from one to another one -/
def nrN (N D N' D' : Int) : Int := if 0 < N then lwN N D else if N' < 0 then lwN N' D' else 0
def nrD (N D N' D' : Int) : Int := if 0 < N then lwD N D else if N' < 0 then lwD N' D' else 1
theorem ref_Nearest (N D N' D' : Int) (h : slB N D = true) (h' : slB N' D' = true) (w : World) :
    Calls Tryd.prog 50 #[.agg #[.int .i64 N, .int .i64 D], .agg #[.int .i64 N', .int .i64 D']] w fun e w' => e = .returned (.agg #[.int .i64 (nrN N D N' D'), .int .i64 (nrD N D N' D')]) ∧ Below w.heap.size w w' := by
  obtain ⟨d1, d2, d3, d4⟩ := slB_spec h
  obtain ⟨d1', d2', d3', d4'⟩ := slB_spec h'
  have c1 := ref_Lowest N D d1 (by omega) (by omega) (by omega)
  have c2 := ref_Lowest N' D' d1' (by omega) (by omega) (by omega)
  by_cases k1 : 0 < N
  · rw [show nrN N D N' D' = lwN N D from if_pos k1, show nrD N D N' D' = lwD N D from if_pos k1]
    generalize lwN N D = n at *
    generalize lwD N D = d at *
    go_enter Tryd.func50, Tryd.ntmps50
    go_wp2_with fail
    refine (c1 _).mono ?_
    rintro e w1 ⟨rfl, hb1⟩
    have f_a1 := kp hb1 (ka (ka (na _ _ _) _) _)
    have f_b1 := kp hb1 (ka (na1 _ _ _ _) _)
    have f_o1 := kp hb1 (na2 _ _ _ _ _)
    have hB1 := bB (bA (bA (bA (b0 w) _) _) _) hb1
    obtain ⟨za_a, za_b, la1⟩ := rcell f_a1
    obtain ⟨zb_a, zb_b, lb1⟩ := rcell f_b1
    obtain ⟨zo_a, zo_b, lo1⟩ := rcell f_o1
    go_wp2_with fail
    (rw [row2 (f_o1)]; generalize hT : setRow _ _ _ = wE; obtain ⟨hbE, hgE⟩ := ret_row hB1 (by omega) (f_o1) hT; have zE := (rcell hgE).1; clear hT; refine bodyPost_ret (by simp [results, Tryd.results50, go_sem, zE]; try rfl) rfl ?_)
    exact ⟨rfl, hbE⟩
  · by_cases k2 : N' < 0
    · rw [show nrN N D N' D' = lwN N' D' by unfold nrN; rw [if_neg k1, if_pos k2], show nrD N D N' D' = lwD N' D' by unfold nrD; rw [if_neg k1, if_pos k2]]
      generalize lwN N' D' = n at *
      generalize lwD N' D' = d at *
      go_enter Tryd.func50, Tryd.ntmps50
      go_wp2_with fail
      refine (c2 _).mono ?_
      rintro e w1 ⟨rfl, hb1⟩
      have f_a1 := kp hb1 (ka (ka (na _ _ _) _) _)
      have f_b1 := kp hb1 (ka (na1 _ _ _ _) _)
      have f_o1 := kp hb1 (na2 _ _ _ _ _)
      have hB1 := bB (bA (bA (bA (b0 w) _) _) _) hb1
      obtain ⟨za_a, za_b, la1⟩ := rcell f_a1
      obtain ⟨zb_a, zb_b, lb1⟩ := rcell f_b1
      obtain ⟨zo_a, zo_b, lo1⟩ := rcell f_o1
      go_wp2_with fail
      (rw [row2 (f_o1)]; generalize hT : setRow _ _ _ = wE; obtain ⟨hbE, hgE⟩ := ret_row hB1 (by omega) (f_o1) hT; have zE := (rcell hgE).1; clear hT; refine bodyPost_ret (by simp [results, Tryd.results50, go_sem, zE]; try rfl) rfl ?_)
      exact ⟨rfl, hbE⟩
    · rw [show nrN N D N' D' = 0 by unfold nrN; rw [if_neg k1, if_neg k2], show nrD N D N' D' = 1 by unfold nrD; rw [if_neg k1, if_neg k2]]
      go_enter Tryd.func50, Tryd.ntmps50
      go_wp2
      refine bodyPost_ret (by simp [results, Tryd.results50, go_sem]; try rfl) rfl ⟨rfl, (bA (bA (bA (b0 w) _) _) _)⟩

set_option maxHeartbeats 1000000 in
theorem line_Nearest_yes (N D N' D' : Int) (h : slB N D = true) (h' : slB N' D' = true) (hle : N * D' ≤ N' * D) (w : World) :
    Calls Tryd.prog 43 #[.agg #[.int .i64 N, .int .i64 D], .agg #[.int .i64 N', .int .i64 D']] w fun e w' => e = .returned (.tuple #[.agg #[.int .i64 (nrN N D N' D'), .int .i64 (nrD N D N' D')], .int .i64 0]) ∧ Below w.heap.size w w' := by
  obtain ⟨d1, d2, d3, d4⟩ := slB_spec h
  obtain ⟨d1', d2', d3', d4'⟩ := slB_spec h'
  have c0 := line_Compare_yes N D N' D' h h'
  have k0 : cmpI (N * D') (N' * D) ≤ 0 := by
    unfold cmpI
    split
    · omega
    · rw [if_pos (by omega)]; omega
  have c1 := line_lowest N D d1 (by omega) (by omega) (by omega)
  have c2 := line_lowest N' D' d1' (by omega) (by omega) (by omega)
  generalize cmpI (N * D') (N' * D) = o at *
  have k3 : ¬ 0 < o := by omega
  by_cases k1 : 0 < N
  · rw [show nrN N D N' D' = lwN N D from if_pos k1, show nrD N D N' D' = lwD N D from if_pos k1]
    generalize lwN N D = n at *
    generalize lwD N D = d at *
    go_enter Tryd.func43, Tryd.ntmps43
    go_wp2_with fail
    refine (c0 _).mono ?_
    rintro e w1 ⟨rfl, hb1⟩
    have f_a1 := kp hb1 (ka (ka (na _ _ _) _) _)
    have f_b1 := kp hb1 (ka (na1 _ _ _ _) _)
    have f_o1 := kp hb1 (na2 _ _ _ _ _)
    have hB1 := bB (bA (bA (bA (b0 w) _) _) _) hb1
    obtain ⟨za_a, za_b, la1⟩ := rcell f_a1
    obtain ⟨zb_a, zb_b, lb1⟩ := rcell f_b1
    obtain ⟨zo_a, zo_b, lo1⟩ := rcell f_o1
    go_wp2_with fail
    refine (c1 _).mono ?_
    rintro e w2 ⟨rfl, hb2⟩
    have f_a2 := kp hb2 (f_a1)
    have f_b2 := kp hb2 (f_b1)
    have f_o2 := kp hb2 (f_o1)
    have hB2 := bB hB1 hb2
    clear za_a za_b zb_a zb_b zo_a zo_b
    obtain ⟨za_a, za_b, la2⟩ := rcell f_a2
    obtain ⟨zb_a, zb_b, lb2⟩ := rcell f_b2
    obtain ⟨zo_a, zo_b, lo2⟩ := rcell f_o2
    go_wp2_with fail
    (rw [row2 (f_o2)]; generalize hT : setRow _ _ _ = wE; obtain ⟨hbE, hgE⟩ := ret_row hB2 (by omega) (f_o2) hT; have zE := (rcell hgE).1; clear hT; refine bodyPost_ret (by simp [results, Tryd.results43, go_sem, zE]; try rfl) rfl ?_)
    exact ⟨rfl, hbE⟩
  · by_cases k2 : N' < 0
    · rw [show nrN N D N' D' = lwN N' D' by unfold nrN; rw [if_neg k1, if_pos k2], show nrD N D N' D' = lwD N' D' by unfold nrD; rw [if_neg k1, if_pos k2]]
      generalize lwN N' D' = n at *
      generalize lwD N' D' = d at *
      go_enter Tryd.func43, Tryd.ntmps43
      go_wp2_with fail
      refine (c0 _).mono ?_
      rintro e w1 ⟨rfl, hb1⟩
      have f_a1 := kp hb1 (ka (ka (na _ _ _) _) _)
      have f_b1 := kp hb1 (ka (na1 _ _ _ _) _)
      have f_o1 := kp hb1 (na2 _ _ _ _ _)
      have hB1 := bB (bA (bA (bA (b0 w) _) _) _) hb1
      obtain ⟨za_a, za_b, la1⟩ := rcell f_a1
      obtain ⟨zb_a, zb_b, lb1⟩ := rcell f_b1
      obtain ⟨zo_a, zo_b, lo1⟩ := rcell f_o1
      go_wp2_with fail
      refine (c2 _).mono ?_
      rintro e w2 ⟨rfl, hb2⟩
      have f_a2 := kp hb2 (f_a1)
      have f_b2 := kp hb2 (f_b1)
      have f_o2 := kp hb2 (f_o1)
      have hB2 := bB hB1 hb2
      clear za_a za_b zb_a zb_b zo_a zo_b
      obtain ⟨za_a, za_b, la2⟩ := rcell f_a2
      obtain ⟨zb_a, zb_b, lb2⟩ := rcell f_b2
      obtain ⟨zo_a, zo_b, lo2⟩ := rcell f_o2
      go_wp2_with fail
      (rw [row2 (f_o2)]; generalize hT : setRow _ _ _ = wE; obtain ⟨hbE, hgE⟩ := ret_row hB2 (by omega) (f_o2) hT; have zE := (rcell hgE).1; clear hT; refine bodyPost_ret (by simp [results, Tryd.results43, go_sem, zE]; try rfl) rfl ?_)
      exact ⟨rfl, hbE⟩
    · rw [show nrN N D N' D' = 0 by unfold nrN; rw [if_neg k1, if_neg k2], show nrD N D N' D' = 1 by unfold nrD; rw [if_neg k1, if_neg k2]]
      go_enter Tryd.func43, Tryd.ntmps43
      go_wp2_with fail
      refine (c0 _).mono ?_
      rintro e w1 ⟨rfl, hb1⟩
      have f_a1 := kp hb1 (ka (ka (na _ _ _) _) _)
      have f_b1 := kp hb1 (ka (na1 _ _ _ _) _)
      have f_o1 := kp hb1 (na2 _ _ _ _ _)
      have hB1 := bB (bA (bA (bA (b0 w) _) _) _) hb1
      obtain ⟨za_a, za_b, la1⟩ := rcell f_a1
      obtain ⟨zb_a, zb_b, lb1⟩ := rcell f_b1
      obtain ⟨zo_a, zo_b, lo1⟩ := rcell f_o1
      go_wp2_with fail
      (rw [row2 (f_o1)]; generalize hT : setRow _ _ _ = wE; obtain ⟨hbE, hgE⟩ := ret_row hB1 (by omega) (f_o1) hT; have zE := (rcell hgE).1; clear hT; refine bodyPost_ret (by simp [results, Tryd.results43, go_sem, zE]; try rfl) rfl ?_)
      exact ⟨rfl, hbE⟩
theorem line_Nearest_gt (N D N' D' : Int) (h : slB N D = true) (h' : slB N' D' = true) (hgt : N' * D < N * D') (w : World) :
    Calls Tryd.prog 43 #[.agg #[.int .i64 N, .int .i64 D], .agg #[.int .i64 N', .int .i64 D']] w fun e w' => e = .returned (.tuple #[.agg #[.int .i64 0, .int .i64 0], .int .i64 2]) ∧ Below w.heap.size w w' := by
  have c0 := line_Compare_yes N D N' D' h h'
  rw [cmpI_gt hgt] at c0
  go_enter Tryd.func43, Tryd.ntmps43
  go_wp2_with fail
  refine (c0 _).mono ?_
  rintro e w1 ⟨rfl, hb1⟩
  have f_a1 := kp hb1 (ka (ka (na _ _ _) _) _)
  have f_b1 := kp hb1 (ka (na1 _ _ _ _) _)
  have f_o1 := kp hb1 (na2 _ _ _ _ _)
  have hB1 := bB (bA (bA (bA (b0 w) _) _) _) hb1
  obtain ⟨za_a, za_b, la1⟩ := rcell f_a1
  obtain ⟨zb_a, zb_b, lb1⟩ := rcell f_b1
  obtain ⟨zo_a, zo_b, lo1⟩ := rcell f_o1
  go_wp2_with fail
  (rw [row2 (f_o1)]; generalize hT : setRow _ _ _ = wE; obtain ⟨hbE, hgE⟩ := ret_row hB1 (by omega) (f_o1) hT; have zE := (rcell hgE).1; clear hT; refine bodyPost_ret (by simp [results, Tryd.results43, go_sem, zE]; try rfl) rfl ?_)
  exact ⟨rfl, hbE⟩
theorem line_Nearest_no (N D N' D' : Int) (h : ¬ (slB N D = true ∧ slB N' D' = true)) (w : World) :
    Calls Tryd.prog 43 #[.agg #[.int .i64 N, .int .i64 D], .agg #[.int .i64 N', .int .i64 D']] w fun e w' => e = .returned (.tuple #[.agg #[.int .i64 0, .int .i64 0], .int .i64 151]) ∧ Below w.heap.size w w' := by
  have c0 := line_Compare_no N D N' D' h
  go_enter Tryd.func43, Tryd.ntmps43
  go_wp2_with fail
  refine (c0 _).mono ?_
  rintro e w1 ⟨rfl, hb1⟩
  have f_a1 := kp hb1 (ka (ka (na _ _ _) _) _)
  have f_b1 := kp hb1 (ka (na1 _ _ _ _) _)
  have f_o1 := kp hb1 (na2 _ _ _ _ _)
  have hB1 := bB (bA (bA (bA (b0 w) _) _) _) hb1
  obtain ⟨za_a, za_b, la1⟩ := rcell f_a1
  obtain ⟨zb_a, zb_b, lb1⟩ := rcell f_b1
  obtain ⟨zo_a, zo_b, lo1⟩ := rcell f_o1
  go_wp2_with fail
  (rw [row2 (f_o1)]; generalize hT : setRow _ _ _ = wE; obtain ⟨hbE, hgE⟩ := ret_row hB1 (by omega) (f_o1) hT; have zE := (rcell hgE).1; clear hT; refine bodyPost_ret (by simp [results, Tryd.results43, go_sem, zE]; try rfl) rfl ?_)
  exact ⟨rfl, hbE⟩
end Go.Proofs.YtpimkigbdjfjoaaDoor

namespace Go.Proofs.YtpimkigbdjfjoaaDoor
open Go.RowKit

theorem drop_div {l : List Nat} (h : Bin l) (k : Nat) : bv (l.drop k) = bv l / 2 ^ k := by
  by_cases hk : k ≤ l.length
  · have h1 := bv_split l k hk
    have h2 := bv_lt (h.take k)
    rw [List.length_take, Nat.min_eq_left hk] at h2
    rw [h1, Nat.add_comm, Nat.mul_add_div (Nat.two_pow_pos k), Nat.div_eq_of_lt h2, Nat.add_zero]
  · rw [List.drop_eq_nil_of_le (by omega)]
    have h1 := bv_lt h
    have h2 := Nat.pow_le_pow_right (n := 2) (by decide) (show l.length ≤ k by omega)
    rw [Nat.div_eq_of_lt (by omega)]; rfl
theorem dg_div {l : List Nat} (h : Bin l) (k : Nat) : dg l k = bv l / 2 ^ k % 2 := by
  rw [← drop_div h k]
  by_cases hk : k < l.length
  · rw [bv_drop l k hk, dg_in hk]
    have := dg_lt h k
    omega
  · rw [dg_out hk, List.drop_eq_nil_of_le (by omega)]; rfl
theorem word_step (x p j : Nat) (hj : j < 64) : x / 2 ^ p % 2 ^ (64 - j) = 2 * (x / 2 ^ (p + 1) % 2 ^ (64 - (j + 1))) + x / 2 ^ p % 2 := by
  rw [Nat.pow_succ 2 p, ← Nat.div_div_eq_div_mul]
  generalize x / 2 ^ p = y
  rw [show 64 - j = (64 - (j + 1)) + 1 by omega, Nat.pow_succ, Nat.mul_comm (2 ^ (64 - (j + 1))) 2, Nat.mod_mul]
  omega

set_option maxRecDepth 100000 in
set_option maxHeartbeats 1000000 in
theorem ref_word (x f : Nat) (A : Option Addr) (c : Nat) (hx : (sz x).length ≤ 1000) (hf : f ≤ 1000) (w : World) (ha : Rd w A c (sz x)) :
    Calls Tryd.prog 115 #[.slice A (sz x).length c, .int .i64 (f : Int)] w fun e w' => e = .returned (.int .u64 ((x / 2 ^ f % 18446744073709551616 : Nat) : Int)) ∧ w = w' := by
  obtain ⟨l, el⟩ : ∃ l, l = sz x := ⟨_, rfl⟩
  have bl : Bin l := by rw [el]; exact Bin.sz x
  have vl : bv l = x := by rw [el, bv_sz]
  rw [← el] at ha hx ⊢
  clear el
  obtain ⟨m, hm⟩ : ∃ m, l.length = m := ⟨_, rfl⟩
  rw [hm] at hx ⊢
  have HK := hide hm
  have VL := hide vl
  clear hm vl
  go_enter Tryd.func115, Tryd.ntmps115
  go_wp2
  go_loop [5, 6] (fun vn vi => ∃ (k : Nat) (i : Int) (n : Nat), vi = .int .i64 i ∧ i = (f : Int) + k - 1 ∧ k ≤ 64 ∧ vn = .int .u64 (n : Int) ∧ Hid (n = x / 2 ^ (f + k) % 2 ^ (64 - k))) (fun _ vi => (intOf vi - f + 1).toNat)
  case atStart => exact ⟨64, _, 0, rfl, by omega, Nat.le_refl _, rfl, by rw [Hid]; simp [Nat.mod_one]⟩
  case round =>
    obtain ⟨k, i, n, rfl, hi, hk, rfl, hn⟩ := hrel
    by_cases h0 : k = 0
    · subst h0
      have hlt : ¬ (f : Int) ≤ i := by omega
      clear hi
      go_wp2
      go_ret
      have := hn.out
      rw [Nat.add_zero] at this
      exact ⟨by rw [this]; rfl, rfl⟩
    · obtain ⟨j, rfl⟩ : ∃ j, k = j + 1 := ⟨k - 1, by omega⟩
      obtain ⟨p, hp⟩ : ∃ p, p = f + j := ⟨_, rfl⟩
      obtain rfl : i = (p : Int) := by omega
      have hle : (f : Int) ≤ (p : Int) := by omega
      have hn1 : n < 9223372036854775808 := by
        have h1 := hn.out
        have h2 := Nat.mod_lt (x / 2 ^ (f + (j + 1))) (Nat.two_pow_pos (64 - (j + 1)))
        have h3 := Nat.pow_le_pow_right (n := 2) (by decide) (show 64 - (j + 1) ≤ 63 by omega)
        have h4 : (2 : Nat) ^ 63 = 9223372036854775808 := by decide
        omega
      have hst := word_step x p j (by omega)
      rw [hp, Nat.add_assoc, ← hn.out, ← hp] at hst
      have hdg := dg_div bl p
      rw [VL.out] at hdg
      rw [← hdg] at hst
      have HST := hide hst
      have hmeas : (p : Int) - 1 - (f : Int) + 1 = (j : Int) := by omega
      have hi2 : (p : Int) - 1 = (f : Int) + j - 1 := by omega
      have HI2 := hide hi2
      have HM := hide hmeas
      have hpm : p ≤ 1064 := by omega
      have HP := hide hp
      clear hi hst hdg hi2 hmeas hp
      by_cases hpl : p < l.length
      · have hpm2 : (p : Int) < (m : Int) := by rw [HK.out] at hpl; omega
        obtain ⟨g, rfl, hc⟩ := ha.at_ (k := p) hpl
        rw [dg_in hpl] at hc
        have hd := dg_lt bl p
        clear hpl
        rcases (show dg l p = 0 ∨ dg l p = 1 by omega) with hd0 | hd0
        · rw [hd0] at hc
          have HD := hide hd0
          clear hd hd0
          go_wp2
          go_round
          case rel => exact ⟨j, _, 2 * n, rfl, HI2.out, by omega, by go_num, by have := HST.out; rw [HD.out, HP.out] at this; rw [Hid]; omega⟩
          case measure => simp [intOf]; have := HM.out; omega
        · rw [hd0] at hc
          have HD := hide hd0
          clear hd hd0
          go_wp2
          go_round
          case rel => exact ⟨j, _, 2 * n + 1, rfl, HI2.out, by omega, by go_num, by have := HST.out; rw [HD.out, HP.out] at this; rw [Hid]; omega⟩
          case measure => simp [intOf]; have := HM.out; omega
      · have HD := hide (dg_out hpl)
        have hpm2 : ¬ (p : Int) < (m : Int) := by rw [HK.out] at hpl; omega
        clear hpl
        go_wp2
        go_round
        case rel => exact ⟨j, _, 2 * n, rfl, HI2.out, by omega, by go_num, by have := HST.out; rw [HD.out, HP.out] at this; rw [Hid]; omega⟩
        case measure => simp [intOf]; have := HM.out; omega
end Go.Proofs.YtpimkigbdjfjoaaDoor

namespace Go.Proofs.YtpimkigbdjfjoaaDoor
open Go.RowKit

theorem ref_Neg (x : Int) (A : Option Addr) (c : Nat) (w : World) (ha : Rd w A c (sz x.natAbs)) :
    Calls Tryd.prog 118 #[.agg #[.bool (decide (x < 0)), .slice A (sz x.natAbs).length c]] w (GivesNum (-x) w) := by
  have hs : (!decide (x < 0) && decide (x.natAbs ≠ 0)) = decide (-x < 0) := by
    rcases Int.lt_trichotomy x 0 with h | rfl | h
    · rw [decide_eq_true h, decide_eq_false (show ¬ -x < 0 by omega)]; rfl
    · rfl
    · rw [decide_eq_false (show ¬ x < 0 by omega), decide_eq_true (show -x < 0 by omega), decide_eq_true (show x.natAbs ≠ 0 by omega)]; rfl
  have c1 := ref_made (!decide (x < 0)) x.natAbs A c
  rw [hs] at c1
  unfold GivesNum
  rw [Int.natAbs_neg]
  clear hs
  generalize decide (-x < 0) = r at *
  generalize decide (x < 0) = p at *
  generalize x.natAbs = n at *
  go_enter Tryd.func118, Tryd.ntmps118
  go_wp2_with fail
  refine (c1 _).mono ?_
  rintro e w1 ⟨rfl, hb1⟩
  have f_a1 := kp hb1 (ka (na w #[.bool p, .slice A (sz n).length c] 94) (.cells #[.bool false, .slice none 0 0] 94))
  have f_o1 := kp hb1 (na1 w (.cells #[.bool p, .slice A (sz n).length c] 94) #[.bool false, .slice none 0 0] 94)
  have rd_a1 := (ha.below (bA (bA (b0 _) (.cells #[.bool p, .slice A (sz n).length c] 94)) (.cells #[.bool false, .slice none 0 0] 94))).below hb1
  have hB1 := bB (bA (bA (b0 w) (.cells #[.bool p, .slice A (sz n).length c] 94)) (.cells #[.bool false, .slice none 0 0] 94)) hb1
  obtain ⟨za_a, za_b, la1⟩ := rcell f_a1
  obtain ⟨zo_a, zo_b, lo1⟩ := rcell f_o1
  go_wp2_with fail
  rw [row2 f_o1]
  generalize hT2 : setRow _ _ _ = w2
  obtain ⟨hx2, f_o2⟩ := fin_x (b0 _) f_o1 hT2
  clear hT2
  have f_a2 := kx hx2 (f_a1) (by omega)
  have rd_a2 := rd_a1.exc hx2 (f_o1) (by decide)
  have hB2 := bX hB1 hx2 (by omega)
  clear za_a za_b zo_a zo_b
  obtain ⟨za_a, za_b, la2⟩ := rcell f_a2
  obtain ⟨zo_a, zo_b, lo2⟩ := rcell f_o2
  refine bodyPost_ret (by simp [results, Tryd.results118, go_sem, zo_a]; try rfl) rfl ⟨A, c, rfl, hB2, rd_a2⟩

set_option maxRecDepth 100000 in
set_option maxHeartbeats 1000000 in
theorem ref_Fits (x : Int) (n : Nat) (hn : n ≤ 900) (A : Option Addr) (c : Nat) (lx : (sz x.natAbs).length ≤ 4096) (w : World) (ha : Rd w A c (sz x.natAbs)) :
    Calls Tryd.prog 114 #[.agg #[.bool (decide (x < 0)), .slice A (sz x.natAbs).length c], .int .i64 ((n : Int) + 1)] w fun e w' => e = .returned (.bool (decide (-((2 ^ n : Nat) : Int) ≤ x ∧ x < ((2 ^ n : Nat) : Int)))) ∧ Below w.heap.size w w' := by
  have c1 := ref_power n (by omega)
  have lp : (sz (2 ^ n)).length ≤ 4096 := Nat.le_trans (sz_len_lt (k := n + 1) (by rw [Nat.pow_succ]; have := Nat.two_pow_pos n; omega)) (by omega)
  have hb : (n : Int) + 1 - 1 = n := by omega
  have b1 : (n : Int) ≤ 900 := by omega
  by_cases h : x < 0
  · have c2 := fun A B c d w ha hb => ref_less (2 ^ n) x.natAbs A B c d lp lx w ha hb
    have e : (!decide (2 ^ n < x.natAbs)) = decide (-((2 ^ n : Nat) : Int) ≤ x ∧ x < ((2 ^ n : Nat) : Int)) := by
      generalize 2 ^ n = P
      by_cases hp : P < x.natAbs
      · rw [decide_eq_true hp, decide_eq_false (by omega)]; rfl
      · rw [decide_eq_false hp, decide_eq_true (by omega)]; rfl
    rw [← e, decide_eq_true h]
    clear e h lp lx
    generalize hP : 2 ^ n = P at *
    generalize x.natAbs = m at *
    generalize decide (P < m) = r at *
    clear hP
    go_enter Tryd.func114, Tryd.ntmps114
    go_wp2_with fail
    have f_a1 := (na w #[.bool true, .slice A (sz m).length c] 94)
    have rd_a1 := (ha.below (bA (b0 _) (.cells #[.bool true, .slice A (sz m).length c] 94)))
    have hB1 := (bA (b0 w) (.cells #[.bool true, .slice A (sz m).length c] 94))
    have la1 := (rcell f_a1).2.2
    refine Abs.wp_region_abs (Abs.cls0 _) [0, 1, 2, 3, 4, 5, 6, 7] (by kernel_rfl) (by kernel_rfl) (Below.refl _ _).drew ?_
    repeat (first | (refine Abs.step_pure rfl rfl (fun K hK => ?_); go_simp; (try go_bits); (first | refine hK _ _ ?_ | (simp only [↓IntWalk.iteOmega]; go_simp; (try go_bits); refine hK _ _ ?_)); clear hK K) | (refine Abs.step_load (v := ?_) rfl rfl (by kernel_rfl) rfl (fun w0 hI => ?_) (fun K hK => ?_); rotate_left; (· have z0 := (rcell (kp hI (f_a1))).1; go_simp; rfl); (simp only [Act.put, List.setIfInBounds_toArray, List.set_cons_zero, List.set_cons_succ]; refine hK _ _ ?_; clear hK K)) | (refine Abs.step_skip rfl rfl (fun K hK => ?_); (simp only [Act.put, List.setIfInBounds_toArray, List.set_cons_zero, List.set_cons_succ]; refine hK _ _ ?_; clear hK K)))
    (refine Abs.step_call (f := ?_) (args := ?_) rfl rfl rfl rfl (SlIs (P)) (fun _ => Cl_SlIs _) (fun w0 => ?_) (fun w0 hI hF => ?_) (fun K hK v w0 hv => ?_); rotate_left 2; (· go_simp; (constructor <;> rfl)); (· exact (c1 _).mono (fun _ _ h => h.sl)); (obtain ⟨A1, d1, rfl, -⟩ := hv; clear w0; simp only [Act.put, List.setIfInBounds_toArray, List.set_cons_zero, List.set_cons_succ]; refine hK _ _ ?_; clear hK K))
    repeat (first | (refine Abs.step_pure rfl rfl (fun K hK => ?_); go_simp; (try go_bits); (first | refine hK _ _ ?_ | (simp only [↓IntWalk.iteOmega]; go_simp; (try go_bits); refine hK _ _ ?_)); clear hK K) | (refine Abs.step_load (v := ?_) rfl rfl (by kernel_rfl) rfl (fun w0 hI => ?_) (fun K hK => ?_); rotate_left; (· have z0 := (rcell (kp hI (f_a1))).1; go_simp; rfl); (simp only [Act.put, List.setIfInBounds_toArray, List.set_cons_zero, List.set_cons_succ]; refine hK _ _ ?_; clear hK K)) | (refine Abs.step_skip rfl rfl (fun K hK => ?_); (simp only [Act.put, List.setIfInBounds_toArray, List.set_cons_zero, List.set_cons_succ]; refine hK _ _ ?_; clear hK K)))
    (refine Abs.step_call (f := ?_) (args := ?_) rfl rfl rfl rfl (fun v _ => v = .bool r) (fun _ _ _ h _ => h) (fun w0 => ?_) (fun w0 hI hF => ?_) (fun K hK v w0 hv => ?_); rotate_left 2; (· go_simp; (constructor <;> rfl)); (· exact (c2 _ _ _ _ _ ((hF 2 (by kernel_rfl)).2 rfl).rd (rd_a1.below hI)).mono (fun _ _ h => ⟨_, h.1, h.2, rfl⟩)); (replace hv : v = .bool r := hv; subst hv; clear w0; simp only [Act.put, List.setIfInBounds_toArray, List.set_cons_zero, List.set_cons_succ]; refine hK _ _ ?_; clear hK K))
    repeat (first | (refine Abs.step_pure rfl rfl (fun K hK => ?_); go_simp; (try go_bits); (first | refine hK _ _ ?_ | (simp only [↓IntWalk.iteOmega]; go_simp; (try go_bits); refine hK _ _ ?_)); clear hK K) | (refine Abs.step_load (v := ?_) rfl rfl (by kernel_rfl) rfl (fun w0 hI => ?_) (fun K hK => ?_); rotate_left; (· have z0 := (rcell (kp hI (f_a1))).1; go_simp; rfl); (simp only [Act.put, List.setIfInBounds_toArray, List.set_cons_zero, List.set_cons_succ]; refine hK _ _ ?_; clear hK K)) | (refine Abs.step_skip rfl rfl (fun K hK => ?_); (simp only [Act.put, List.setIfInBounds_toArray, List.set_cons_zero, List.set_cons_succ]; refine hK _ _ ?_; clear hK K)))
    intro w2 hb2 hx0 hx1 hx2
    clear hx0 hx1 hx2
    simp only [Abs.T_setF, Abs.T_addA, Abs.T_push, Abs.T_start]
    have f_a2 := kp hb2 (f_a1)
    have rd_a2 := rd_a1.below hb2
    have hB2 := bB hB1 hb2
    obtain ⟨za_a, za_b, la2⟩ := rcell f_a2
    go_wp2
    go_ret
    exact ⟨rfl, hB2⟩
  · have c2 := fun A B c d w ha hb => ref_less x.natAbs (2 ^ n) A B c d lx lp w ha hb
    have e : decide (x.natAbs < 2 ^ n) = decide (-((2 ^ n : Nat) : Int) ≤ x ∧ x < ((2 ^ n : Nat) : Int)) := by
      generalize 2 ^ n = P
      exact decide_eq_decide.2 (by omega)
    rw [← e, decide_eq_false h]
    clear e h lp lx
    generalize hP : 2 ^ n = P at *
    generalize x.natAbs = m at *
    generalize decide (m < P) = r at *
    clear hP
    go_enter Tryd.func114, Tryd.ntmps114
    go_wp2_with fail
    have f_a1 := (na w #[.bool false, .slice A (sz m).length c] 94)
    have rd_a1 := (ha.below (bA (b0 _) (.cells #[.bool false, .slice A (sz m).length c] 94)))
    have hB1 := (bA (b0 w) (.cells #[.bool false, .slice A (sz m).length c] 94))
    have la1 := (rcell f_a1).2.2
    refine Abs.wp_region_abs (Abs.cls0 _) [0, 1, 2, 3, 4, 5, 6] (by kernel_rfl) (by kernel_rfl) (Below.refl _ _).drew ?_
    repeat (first | (refine Abs.step_pure rfl rfl (fun K hK => ?_); go_simp; (try go_bits); (first | refine hK _ _ ?_ | (simp only [↓IntWalk.iteOmega]; go_simp; (try go_bits); refine hK _ _ ?_)); clear hK K) | (refine Abs.step_load (v := ?_) rfl rfl (by kernel_rfl) rfl (fun w0 hI => ?_) (fun K hK => ?_); rotate_left; (· have z0 := (rcell (kp hI (f_a1))).1; go_simp; rfl); (simp only [Act.put, List.setIfInBounds_toArray, List.set_cons_zero, List.set_cons_succ]; refine hK _ _ ?_; clear hK K)) | (refine Abs.step_skip rfl rfl (fun K hK => ?_); (simp only [Act.put, List.setIfInBounds_toArray, List.set_cons_zero, List.set_cons_succ]; refine hK _ _ ?_; clear hK K)))
    (refine Abs.step_call (f := ?_) (args := ?_) rfl rfl rfl rfl (SlIs (P)) (fun _ => Cl_SlIs _) (fun w0 => ?_) (fun w0 hI hF => ?_) (fun K hK v w0 hv => ?_); rotate_left 2; (· go_simp; (constructor <;> rfl)); (· exact (c1 _).mono (fun _ _ h => h.sl)); (obtain ⟨A1, d1, rfl, -⟩ := hv; clear w0; simp only [Act.put, List.setIfInBounds_toArray, List.set_cons_zero, List.set_cons_succ]; refine hK _ _ ?_; clear hK K))
    repeat (first | (refine Abs.step_pure rfl rfl (fun K hK => ?_); go_simp; (try go_bits); (first | refine hK _ _ ?_ | (simp only [↓IntWalk.iteOmega]; go_simp; (try go_bits); refine hK _ _ ?_)); clear hK K) | (refine Abs.step_load (v := ?_) rfl rfl (by kernel_rfl) rfl (fun w0 hI => ?_) (fun K hK => ?_); rotate_left; (· have z0 := (rcell (kp hI (f_a1))).1; go_simp; rfl); (simp only [Act.put, List.setIfInBounds_toArray, List.set_cons_zero, List.set_cons_succ]; refine hK _ _ ?_; clear hK K)) | (refine Abs.step_skip rfl rfl (fun K hK => ?_); (simp only [Act.put, List.setIfInBounds_toArray, List.set_cons_zero, List.set_cons_succ]; refine hK _ _ ?_; clear hK K)))
    (refine Abs.step_call (f := ?_) (args := ?_) rfl rfl rfl rfl (fun v _ => v = .bool r) (fun _ _ _ h _ => h) (fun w0 => ?_) (fun w0 hI hF => ?_) (fun K hK v w0 hv => ?_); rotate_left 2; (· go_simp; (constructor <;> rfl)); (· exact (c2 _ _ _ _ _ (rd_a1.below hI) ((hF 4 (by kernel_rfl)).2 rfl).rd).mono (fun _ _ h => ⟨_, h.1, h.2, rfl⟩)); (replace hv : v = .bool r := hv; subst hv; clear w0; simp only [Act.put, List.setIfInBounds_toArray, List.set_cons_zero, List.set_cons_succ]; refine hK _ _ ?_; clear hK K))
    repeat (first | (refine Abs.step_pure rfl rfl (fun K hK => ?_); go_simp; (try go_bits); (first | refine hK _ _ ?_ | (simp only [↓IntWalk.iteOmega]; go_simp; (try go_bits); refine hK _ _ ?_)); clear hK K) | (refine Abs.step_load (v := ?_) rfl rfl (by kernel_rfl) rfl (fun w0 hI => ?_) (fun K hK => ?_); rotate_left; (· have z0 := (rcell (kp hI (f_a1))).1; go_simp; rfl); (simp only [Act.put, List.setIfInBounds_toArray, List.set_cons_zero, List.set_cons_succ]; refine hK _ _ ?_; clear hK K)) | (refine Abs.step_skip rfl rfl (fun K hK => ?_); (simp only [Act.put, List.setIfInBounds_toArray, List.set_cons_zero, List.set_cons_succ]; refine hK _ _ ?_; clear hK K)))
    intro w2 hb2 hx0 hx1 hx2
    clear hx0 hx1 hx2
    simp only [Abs.T_setF, Abs.T_addA, Abs.T_push, Abs.T_start]
    have f_a2 := kp hb2 (f_a1)
    have rd_a2 := rd_a1.below hb2
    have hB2 := bB hB1 hb2
    obtain ⟨za_a, za_b, la2⟩ := rcell f_a2
    go_wp2
    go_ret
    exact ⟨rfl, hB2⟩

set_option maxRecDepth 100000 in
set_option maxHeartbeats 1000000 in
theorem ref_Value_no (x : Int) (A : Option Addr) (c : Nat) (lx : (sz x.natAbs).length ≤ 900) (h : ¬ (-9223372036854775808 ≤ x ∧ x < 9223372036854775808)) (w : World) (ha : Rd w A c (sz x.natAbs)) :
    Calls Tryd.prog 89 #[.agg #[.bool (decide (x < 0)), .slice A (sz x.natAbs).length c]] w fun e w' => e = .returned (.tuple #[.int .i64 0, .bool false]) ∧ Below w.heap.size w w' := by
  have c1 := fun w ha => ref_Fits x 63 (by decide) A c (by omega) w ha
  rw [show decide (-((2 ^ 63 : Nat) : Int) ≤ x ∧ x < ((2 ^ 63 : Nat) : Int)) = false from decide_eq_false (by simpa using h), show ((63 : Nat) : Int) + 1 = 64 from rfl] at c1
  clear h lx
  generalize decide (x < 0) = p at *
  generalize x.natAbs = n at *
  go_enter Tryd.func89, Tryd.ntmps89
  go_wp2_with fail
  refine (c1 _ (ha.below (bA (b0 _) (.cells #[.bool p, .slice A (sz n).length c] 94)))).mono ?_
  rintro e w1 ⟨rfl, hb1⟩
  have f_a1 := kp hb1 (na w #[.bool p, .slice A (sz n).length c] 94)
  have rd_a1 := (ha.below (bA (b0 _) (.cells #[.bool p, .slice A (sz n).length c] 94))).below hb1
  have hB1 := bB (bA (b0 w) (.cells #[.bool p, .slice A (sz n).length c] 94)) hb1
  obtain ⟨za_a, za_b, la1⟩ := rcell f_a1
  go_wp2
  go_ret2
  exact ⟨rfl, hB1⟩
set_option maxRecDepth 100000 in
set_option maxHeartbeats 1000000 in
theorem ref_Value_yes (x : Int) (A : Option Addr) (c : Nat) (h1 : -9223372036854775808 ≤ x) (h2 : x < 9223372036854775808) (w : World) (ha : Rd w A c (sz x.natAbs)) :
    Calls Tryd.prog 89 #[.agg #[.bool (decide (x < 0)), .slice A (sz x.natAbs).length c]] w fun e w' => e = .returned (.tuple #[.int .i64 x, .bool true]) ∧ Below w.heap.size w w' := by
  have c1 := fun w ha => ref_Fits x 63 (by decide) A c (Nat.le_trans (sz_i64 h1 h2) (by decide)) w ha
  have hdec : decide (-((2 ^ 63 : Nat) : Int) ≤ x ∧ x < ((2 ^ 63 : Nat) : Int)) = true := decide_eq_true (by
    have e : ((2 ^ 63 : Nat) : Int) = 9223372036854775808 := by decide
    rw [e]; omega)
  rw [hdec, show ((63 : Nat) : Int) + 1 = 64 from rfl] at c1
  clear hdec
  by_cases hx : x < 0
  · rw [decide_eq_true hx] at c1 ⊢
    have c2 := ref_power 64 (by decide)
    have l1 : (sz (2 ^ 64)).length ≤ 1000 := Nat.le_trans (sz_len_lt (k := 65) (by decide)) (by decide)
    have c3 := fun A B c d w ha hb => ref_minus (2 ^ 64) x.natAbs A B c d l1 (by omega) w ha hb
    have e3 : 2 ^ 64 - x.natAbs < 2 ^ 64 := by omega
    have c4 := fun A c w ha => ref_word (2 ^ 64 - x.natAbs) 0 A c (Nat.le_trans (sz_len_lt e3) (by decide)) (by decide) w ha
    have e4 : ((2 ^ 64 - x.natAbs) / 2 ^ 0 % 18446744073709551616 : Nat) = 2 ^ 64 - x.natAbs := by rw [Nat.pow_zero, Nat.div_one]; omega
    rw [e4] at c4
    have e5 : IntKind.i64.wrap ((2 ^ 64 - x.natAbs : Nat) : Int) = x := by rw [wrap64_i64]; simp only [wrap64]; omega
    have e6 : wrap64 ((2 ^ 64 - x.natAbs : Nat) : Int) = x := by rw [← wrap64_i64]; exact e5
    clear e3 e4 l1 e5
    generalize 2 ^ 64 - x.natAbs = m at *
    have E6 := hide e6
    clear e6
    generalize x.natAbs = n at *
    go_enter Tryd.func89, Tryd.ntmps89
    go_wp2_with fail
    refine (c1 _ (ha.below (bA (b0 _) (.cells #[.bool true, .slice A (sz n).length c] 94)))).mono ?_
    rintro e w1 ⟨rfl, hb1⟩
    have f_a1 := kp hb1 (na w #[.bool true, .slice A (sz n).length c] 94)
    have rd_a1 := (ha.below (bA (b0 _) (.cells #[.bool true, .slice A (sz n).length c] 94))).below hb1
    have hB1 := bB (bA (b0 w) (.cells #[.bool true, .slice A (sz n).length c] 94)) hb1
    obtain ⟨za_a, za_b, la1⟩ := rcell f_a1
    go_wp2_with fail
    refine (c2 _).mono ?_
    rintro e w2 ⟨A2, d2, rfl, hb2, rn_s2⟩
    have f_a2 := kp hb2 (f_a1)
    have rd_a2 := rd_a1.below hb2
    have hB2 := bB hB1 hb2
    clear za_a za_b
    obtain ⟨za_a, za_b, la2⟩ := rcell f_a2
    go_wp2_with fail
    refine (c3 A2 A d2 c _ rn_s2 rd_a2).mono ?_
    rintro e w3 ⟨A3, d3, rfl, hb3, rn_s3⟩
    have f_a3 := kp hb3 (f_a2)
    have rd_a3 := rd_a2.below hb3
    have rd_s23 := rn_s2.below hb3
    have hB3 := bB hB2 hb3
    clear za_a za_b
    obtain ⟨za_a, za_b, la3⟩ := rcell f_a3
    go_wp2_with fail
    refine (c4 A3 d3 _ rn_s3).mono ?_
    rintro e wq ⟨rfl, rfl⟩
    go_wp2
    go_ret2
    exact ⟨by simp [E6.out], hB3⟩
  · rw [decide_eq_false hx] at c1 ⊢
    have e3 : x.natAbs < 2 ^ 64 := by omega
    have c4 := fun A c w ha => ref_word x.natAbs 0 A c (Nat.le_trans (sz_len_lt e3) (by decide)) (by decide) w ha
    have e4 : (x.natAbs / 2 ^ 0 % 18446744073709551616 : Nat) = x.natAbs := by rw [Nat.pow_zero, Nat.div_one]; omega
    rw [e4] at c4
    have e5 : x = (x.natAbs : Int) := by omega
    clear e3 e4
    generalize x.natAbs = n at *
    subst e5
    clear hx
    go_enter Tryd.func89, Tryd.ntmps89
    go_wp2_with fail
    refine (c1 _ (ha.below (bA (b0 _) (.cells #[.bool false, .slice A (sz n).length c] 94)))).mono ?_
    rintro e w1 ⟨rfl, hb1⟩
    have f_a1 := kp hb1 (na w #[.bool false, .slice A (sz n).length c] 94)
    have rd_a1 := (ha.below (bA (b0 _) (.cells #[.bool false, .slice A (sz n).length c] 94))).below hb1
    have hB1 := bB (bA (b0 w) (.cells #[.bool false, .slice A (sz n).length c] 94)) hb1
    obtain ⟨za_a, za_b, la1⟩ := rcell f_a1
    go_wp2_with fail
    refine (c4 A c _ rd_a1).mono ?_
    rintro e wq ⟨rfl, rfl⟩
    go_wp2
    go_ret2
    exact ⟨by simp, hB1⟩

end Go.Proofs.YtpimkigbdjfjoaaDoor

namespace Go.Proofs.YtpimkigbdjfjoaaDoor
open Go.RowKit

set_option maxRecDepth 100000 in
set_option maxHeartbeats 2000000 in
theorem ref_Add (x y : Int) (M : Nat) (A B : Option Addr) (c d : Nat) (hM : M ≤ 900) (hxy : x.natAbs + y.natAbs < 2 ^ M) (w : World) (ha : Rd w A c (sz x.natAbs)) (hb : Rd w B d (sz y.natAbs)) :
    Calls Tryd.prog 117 #[.agg #[.bool (decide (x < 0)), .slice A (sz x.natAbs).length c], .agg #[.bool (decide (y < 0)), .slice B (sz y.natAbs).length d]] w (GivesNum (x + y) w) := by
  have lx : (sz x.natAbs).length ≤ 900 := Nat.le_trans (sz_len_lt (k := M) (by omega)) hM
  have ly : (sz y.natAbs).length ≤ 900 := Nat.le_trans (sz_len_lt (k := M) (by omega)) hM
  by_cases hs : decide (x < 0) = decide (y < 0)
  · have hs2 : x < 0 ↔ y < 0 := decide_eq_decide.1 hs
    have c1 := fun w ha hb => ref_plus x.natAbs y.natAbs M A B c d (by omega) hxy w ha hb
    have e : x.natAbs + y.natAbs = (x + y).natAbs := by omega
    rw [e] at c1
    have c2 := fun A c => ref_made (decide (x < 0)) (x + y).natAbs A c
    have hd : (decide (x < 0) && decide ((x + y).natAbs ≠ 0)) = decide (x + y < 0) := by
      by_cases hx : x < 0
      · rw [decide_eq_true hx, decide_eq_true (show (x + y).natAbs ≠ 0 by omega), decide_eq_true (show x + y < 0 by omega)]; rfl
      · rw [decide_eq_false hx, decide_eq_false (show ¬ x + y < 0 by omega)]; rfl
    rw [hd] at c2
    unfold GivesNum
    rw [← hs]
    clear hd e hxy hs hs2 lx ly
    generalize decide (x + y < 0) = r at *
    generalize (x + y).natAbs = Z at *
    generalize x.natAbs = X at *
    generalize y.natAbs = Y at *
    generalize decide (x < 0) = p at *
    have hpp : (p == p) = true := by simp
    go_enter Tryd.func117, Tryd.ntmps117
    go_wp2_with fail
    have f_a1 := (ka (ka (na w #[.bool p, .slice A (sz X).length c] 94) (.cells #[.bool p, .slice B (sz Y).length d] 94)) (.cells #[.bool false, .slice none 0 0] 94))
    have f_b1 := (ka (na1 w (.cells #[.bool p, .slice A (sz X).length c] 94) #[.bool p, .slice B (sz Y).length d] 94) (.cells #[.bool false, .slice none 0 0] 94))
    have f_o1 := (na2 w (.cells #[.bool p, .slice A (sz X).length c] 94) (.cells #[.bool p, .slice B (sz Y).length d] 94) #[.bool false, .slice none 0 0] 94)
    have rd_a1 := (ha.below (bA (bA (bA (b0 _) (.cells #[.bool p, .slice A (sz X).length c] 94)) (.cells #[.bool p, .slice B (sz Y).length d] 94)) (.cells #[.bool false, .slice none 0 0] 94)))
    have rd_b1 := (hb.below (bA (bA (bA (b0 _) (.cells #[.bool p, .slice A (sz X).length c] 94)) (.cells #[.bool p, .slice B (sz Y).length d] 94)) (.cells #[.bool false, .slice none 0 0] 94)))
    have hB1 := (bA (bA (bA (b0 w) (.cells #[.bool p, .slice A (sz X).length c] 94)) (.cells #[.bool p, .slice B (sz Y).length d] 94)) (.cells #[.bool false, .slice none 0 0] 94))
    have la1 := (rcell f_a1).2.2
    have lb1 := (rcell f_b1).2.2
    have lo1 := (rcell f_o1).2.2
    refine Abs.wp_region_abs (Abs.cls0 _) [0, 1, 2, 3, 4, 5, 6, 7, 8] (by kernel_rfl) (by kernel_rfl) (Below.refl _ _).drew ?_
    repeat (first | (refine Abs.step_pure rfl rfl (fun K hK => ?_); go_simp; (try go_bits); (first | refine hK _ _ ?_ | (simp only [↓IntWalk.iteOmega]; go_simp; (try go_bits); refine hK _ _ ?_)); clear hK K) | (refine Abs.step_load (v := ?_) rfl rfl (by kernel_rfl) rfl (fun w0 hI => ?_) (fun K hK => ?_); rotate_left; (· have z0 := (rcell (kp hI (f_a1))).1; have z1 := (rcell (kp hI (f_b1))).1; go_simp; rfl); (simp only [Act.put, List.setIfInBounds_toArray, List.set_cons_zero, List.set_cons_succ]; refine hK _ _ ?_; clear hK K)) | (refine Abs.step_skip rfl rfl (fun K hK => ?_); (simp only [Act.put, List.setIfInBounds_toArray, List.set_cons_zero, List.set_cons_succ]; refine hK _ _ ?_; clear hK K)))
    (refine Abs.step_call (f := ?_) (args := ?_) rfl rfl rfl rfl (SlIs (Z)) (fun _ => Cl_SlIs _) (fun w0 => ?_) (fun w0 hI hF => ?_) (fun K hK v w0 hv => ?_); rotate_left 2; (· go_simp; (constructor <;> rfl)); (· exact (c1 _ (rd_a1.below hI) (rd_b1.below hI)).mono (fun _ _ h => h.sl)); (obtain ⟨A3, d3, rfl, -⟩ := hv; clear w0; simp only [Act.put, List.setIfInBounds_toArray, List.set_cons_zero, List.set_cons_succ]; refine hK _ _ ?_; clear hK K))
    repeat (first | (refine Abs.step_pure rfl rfl (fun K hK => ?_); go_simp; (try go_bits); (first | refine hK _ _ ?_ | (simp only [↓IntWalk.iteOmega]; go_simp; (try go_bits); refine hK _ _ ?_)); clear hK K) | (refine Abs.step_load (v := ?_) rfl rfl (by kernel_rfl) rfl (fun w0 hI => ?_) (fun K hK => ?_); rotate_left; (· have z0 := (rcell (kp hI (f_a1))).1; have z1 := (rcell (kp hI (f_b1))).1; go_simp; rfl); (simp only [Act.put, List.setIfInBounds_toArray, List.set_cons_zero, List.set_cons_succ]; refine hK _ _ ?_; clear hK K)) | (refine Abs.step_skip rfl rfl (fun K hK => ?_); (simp only [Act.put, List.setIfInBounds_toArray, List.set_cons_zero, List.set_cons_succ]; refine hK _ _ ?_; clear hK K)))
    (refine Abs.step_call_val (f := ?_) (args := ?_) (v := ?_) rfl rfl rfl rfl (fun w0 => ?_) (fun w0 hI => ?_) (fun K hK => ?_); rotate_left 3; (· go_simp; (constructor <;> rfl)); (· exact c2 _ _ _); (simp only [Act.put, List.setIfInBounds_toArray, List.set_cons_zero, List.set_cons_succ]; refine hK _ _ ?_; clear hK K))
    repeat (first | (refine Abs.step_pure rfl rfl (fun K hK => ?_); go_simp; (try go_bits); (first | refine hK _ _ ?_ | (simp only [↓IntWalk.iteOmega]; go_simp; (try go_bits); refine hK _ _ ?_)); clear hK K) | (refine Abs.step_load (v := ?_) rfl rfl (by kernel_rfl) rfl (fun w0 hI => ?_) (fun K hK => ?_); rotate_left; (· have z0 := (rcell (kp hI (f_a1))).1; have z1 := (rcell (kp hI (f_b1))).1; go_simp; rfl); (simp only [Act.put, List.setIfInBounds_toArray, List.set_cons_zero, List.set_cons_succ]; refine hK _ _ ?_; clear hK K)) | (refine Abs.step_skip rfl rfl (fun K hK => ?_); (simp only [Act.put, List.setIfInBounds_toArray, List.set_cons_zero, List.set_cons_succ]; refine hK _ _ ?_; clear hK K)))
    (refine Abs.step_store (T := ?_) rfl rfl rfl (fun w0 hI hF hU => ?_) (fun w0 hI hU hJ => ?_) (fun K hK => ?_); rotate_left; (· have hR := kp hI (f_o1); have hg0 := (rcell hR).1; have hg1 := (rcell hR).2.1; simp only [Abs.T_setF, Abs.T_addA, Abs.T_push, Abs.T_start]; go_simp; exact row2 hR _ _); (· first | exact trivial | exact js hJ rfl _ | exact js hJ (Or.inl rfl) _ | exact js hJ (Or.inr rfl) _); (simp only [Act.put, List.setIfInBounds_toArray, List.set_cons_zero, List.set_cons_succ]; refine hK _ _ ?_; clear hK K))
    repeat (first | (refine Abs.step_pure rfl rfl (fun K hK => ?_); go_simp; (try go_bits); (first | refine hK _ _ ?_ | (simp only [↓IntWalk.iteOmega]; go_simp; (try go_bits); refine hK _ _ ?_)); clear hK K) | (refine Abs.step_load (v := ?_) rfl rfl (by kernel_rfl) rfl (fun w0 hI => ?_) (fun K hK => ?_); rotate_left; (· have z0 := (rcell (kp hI (f_a1))).1; have z1 := (rcell (kp hI (f_b1))).1; go_simp; rfl); (simp only [Act.put, List.setIfInBounds_toArray, List.set_cons_zero, List.set_cons_succ]; refine hK _ _ ?_; clear hK K)) | (refine Abs.step_skip rfl rfl (fun K hK => ?_); (simp only [Act.put, List.setIfInBounds_toArray, List.set_cons_zero, List.set_cons_succ]; refine hK _ _ ?_; clear hK K)))
    intro w0 hI hF hx1 hx2
    clear hx1 hx2
    simp only [Abs.T_push]
    have rn_s := (((hF 6).2 rfl)).rd
    clear hF
    have hQ := kp hI (f_o1)
    generalize hT2 : setRow w0 _ _ = w2
    have hy := (fin_x (b0 _) hQ hT2).1
    replace rn_s := rn_s.exc hy hQ (by decide)
    obtain ⟨hx2, f_o2⟩ := fin_x hI (f_o1) hT2
    clear hT2 hQ hy hI w0
    have f_a2 := kx hx2 (f_a1) (by omega)
    have f_b2 := kx hx2 (f_b1) (by omega)
    have rd_a2 := rd_a1.exc hx2 (f_o1) (by decide)
    have rd_b2 := rd_b1.exc hx2 (f_o1) (by decide)
    have hB2 := bX hB1 hx2 (by omega)
    obtain ⟨za_a, za_b, la2⟩ := rcell f_a2
    obtain ⟨zb_a, zb_b, lb2⟩ := rcell f_b2
    obtain ⟨zo_a, zo_b, lo2⟩ := rcell f_o2
    go_wp2
    refine bodyPost_ret (by simp [results, Tryd.results117, go_sem, zo_a]; try rfl) rfl ⟨A3, d3, rfl, hB2, rn_s⟩
  · have hs2 : ¬ (x < 0 ↔ y < 0) := fun h => hs (decide_eq_decide.2 h)
    have cl := fun w ha hb => ref_less x.natAbs y.natAbs A B c d (by omega) (by omega) w ha hb
    have hq : (decide (x < 0) == decide (y < 0)) = false := by simpa using hs
    by_cases hlt : x.natAbs < y.natAbs
    · rw [decide_eq_true hlt] at cl
      have c1 := fun w hb ha => ref_minus y.natAbs x.natAbs B A d c (by omega) (by omega) w hb ha
      have e : y.natAbs - x.natAbs = (x + y).natAbs := by omega
      rw [e] at c1
      have c2 := fun A c => ref_made (decide (y < 0)) (x + y).natAbs A c
      have hd : (decide (y < 0) && decide ((x + y).natAbs ≠ 0)) = decide (x + y < 0) := by
        by_cases hx : y < 0
        · rw [decide_eq_true hx, decide_eq_true (show (x + y).natAbs ≠ 0 by omega), decide_eq_true (show x + y < 0 by omega)]; rfl
        · rw [decide_eq_false hx, decide_eq_false (show ¬ x + y < 0 by omega)]; rfl
      rw [hd] at c2
      unfold GivesNum
      clear hd e hxy hs hs2 lx ly hlt
      generalize decide (x + y < 0) = r at *
      generalize (x + y).natAbs = Z at *
      generalize x.natAbs = X at *
      generalize y.natAbs = Y at *
      generalize decide (x < 0) = p at *
      generalize decide (y < 0) = q at *
      go_enter Tryd.func117, Tryd.ntmps117
      go_wp2_with fail
      refine (cl _ (ha.below (bA (bA (bA (b0 _) (.cells #[.bool p, .slice A (sz X).length c] 94)) (.cells #[.bool q, .slice B (sz Y).length d] 94)) (.cells #[.bool false, .slice none 0 0] 94))) (hb.below (bA (bA (bA (b0 _) (.cells #[.bool p, .slice A (sz X).length c] 94)) (.cells #[.bool q, .slice B (sz Y).length d] 94)) (.cells #[.bool false, .slice none 0 0] 94)))).mono ?_
      rintro e w1 ⟨rfl, hb1⟩
      have f_a1 := kp hb1 (ka (ka (na w #[.bool p, .slice A (sz X).length c] 94) (.cells #[.bool q, .slice B (sz Y).length d] 94)) (.cells #[.bool false, .slice none 0 0] 94))
      have f_b1 := kp hb1 (ka (na1 w (.cells #[.bool p, .slice A (sz X).length c] 94) #[.bool q, .slice B (sz Y).length d] 94) (.cells #[.bool false, .slice none 0 0] 94))
      have f_o1 := kp hb1 (na2 w (.cells #[.bool p, .slice A (sz X).length c] 94) (.cells #[.bool q, .slice B (sz Y).length d] 94) #[.bool false, .slice none 0 0] 94)
      have rd_a1 := (ha.below (bA (bA (bA (b0 _) (.cells #[.bool p, .slice A (sz X).length c] 94)) (.cells #[.bool q, .slice B (sz Y).length d] 94)) (.cells #[.bool false, .slice none 0 0] 94))).below hb1
      have rd_b1 := (hb.below (bA (bA (bA (b0 _) (.cells #[.bool p, .slice A (sz X).length c] 94)) (.cells #[.bool q, .slice B (sz Y).length d] 94)) (.cells #[.bool false, .slice none 0 0] 94))).below hb1
      have hB1 := bB (bA (bA (bA (b0 w) (.cells #[.bool p, .slice A (sz X).length c] 94)) (.cells #[.bool q, .slice B (sz Y).length d] 94)) (.cells #[.bool false, .slice none 0 0] 94)) hb1
      obtain ⟨za_a, za_b, la1⟩ := rcell f_a1
      obtain ⟨zb_a, zb_b, lb1⟩ := rcell f_b1
      obtain ⟨zo_a, zo_b, lo1⟩ := rcell f_o1
      go_wp2_with fail
      refine Abs.wp_region_abs (Abs.cls0 _) [0, 1, 2, 3, 4, 5, 6, 7, 8] (by kernel_rfl) (by kernel_rfl) (Below.refl _ _).drew ?_
      repeat (first | (refine Abs.step_pure rfl rfl (fun K hK => ?_); go_simp; (try go_bits); (first | refine hK _ _ ?_ | (simp only [↓IntWalk.iteOmega]; go_simp; (try go_bits); refine hK _ _ ?_)); clear hK K) | (refine Abs.step_load (v := ?_) rfl rfl (by kernel_rfl) rfl (fun w0 hI => ?_) (fun K hK => ?_); rotate_left; (· have z0 := (rcell (kp hI (f_a1))).1; have z1 := (rcell (kp hI (f_b1))).1; go_simp; rfl); (simp only [Act.put, List.setIfInBounds_toArray, List.set_cons_zero, List.set_cons_succ]; refine hK _ _ ?_; clear hK K)) | (refine Abs.step_skip rfl rfl (fun K hK => ?_); (simp only [Act.put, List.setIfInBounds_toArray, List.set_cons_zero, List.set_cons_succ]; refine hK _ _ ?_; clear hK K)))
      (refine Abs.step_call (f := ?_) (args := ?_) rfl rfl rfl rfl (SlIs (Z)) (fun _ => Cl_SlIs _) (fun w0 => ?_) (fun w0 hI hF => ?_) (fun K hK v w0 hv => ?_); rotate_left 2; (· go_simp; (constructor <;> rfl)); (· exact (c1 _ (rd_b1.below hI) (rd_a1.below hI)).mono (fun _ _ h => h.sl)); (obtain ⟨A3, d3, rfl, -⟩ := hv; clear w0; simp only [Act.put, List.setIfInBounds_toArray, List.set_cons_zero, List.set_cons_succ]; refine hK _ _ ?_; clear hK K))
      repeat (first | (refine Abs.step_pure rfl rfl (fun K hK => ?_); go_simp; (try go_bits); (first | refine hK _ _ ?_ | (simp only [↓IntWalk.iteOmega]; go_simp; (try go_bits); refine hK _ _ ?_)); clear hK K) | (refine Abs.step_load (v := ?_) rfl rfl (by kernel_rfl) rfl (fun w0 hI => ?_) (fun K hK => ?_); rotate_left; (· have z0 := (rcell (kp hI (f_a1))).1; have z1 := (rcell (kp hI (f_b1))).1; go_simp; rfl); (simp only [Act.put, List.setIfInBounds_toArray, List.set_cons_zero, List.set_cons_succ]; refine hK _ _ ?_; clear hK K)) | (refine Abs.step_skip rfl rfl (fun K hK => ?_); (simp only [Act.put, List.setIfInBounds_toArray, List.set_cons_zero, List.set_cons_succ]; refine hK _ _ ?_; clear hK K)))
      (refine Abs.step_call_val (f := ?_) (args := ?_) (v := ?_) rfl rfl rfl rfl (fun w0 => ?_) (fun w0 hI => ?_) (fun K hK => ?_); rotate_left 3; (· go_simp; (constructor <;> rfl)); (· exact c2 _ _ _); (simp only [Act.put, List.setIfInBounds_toArray, List.set_cons_zero, List.set_cons_succ]; refine hK _ _ ?_; clear hK K))
      repeat (first | (refine Abs.step_pure rfl rfl (fun K hK => ?_); go_simp; (try go_bits); (first | refine hK _ _ ?_ | (simp only [↓IntWalk.iteOmega]; go_simp; (try go_bits); refine hK _ _ ?_)); clear hK K) | (refine Abs.step_load (v := ?_) rfl rfl (by kernel_rfl) rfl (fun w0 hI => ?_) (fun K hK => ?_); rotate_left; (· have z0 := (rcell (kp hI (f_a1))).1; have z1 := (rcell (kp hI (f_b1))).1; go_simp; rfl); (simp only [Act.put, List.setIfInBounds_toArray, List.set_cons_zero, List.set_cons_succ]; refine hK _ _ ?_; clear hK K)) | (refine Abs.step_skip rfl rfl (fun K hK => ?_); (simp only [Act.put, List.setIfInBounds_toArray, List.set_cons_zero, List.set_cons_succ]; refine hK _ _ ?_; clear hK K)))
      (refine Abs.step_store (T := ?_) rfl rfl rfl (fun w0 hI hF hU => ?_) (fun w0 hI hU hJ => ?_) (fun K hK => ?_); rotate_left; (· have hR := kp hI (f_o1); have hg0 := (rcell hR).1; have hg1 := (rcell hR).2.1; simp only [Abs.T_setF, Abs.T_addA, Abs.T_push, Abs.T_start]; go_simp; exact row2 hR _ _); (· first | exact trivial | exact js hJ rfl _ | exact js hJ (Or.inl rfl) _ | exact js hJ (Or.inr rfl) _); (simp only [Act.put, List.setIfInBounds_toArray, List.set_cons_zero, List.set_cons_succ]; refine hK _ _ ?_; clear hK K))
      repeat (first | (refine Abs.step_pure rfl rfl (fun K hK => ?_); go_simp; (try go_bits); (first | refine hK _ _ ?_ | (simp only [↓IntWalk.iteOmega]; go_simp; (try go_bits); refine hK _ _ ?_)); clear hK K) | (refine Abs.step_load (v := ?_) rfl rfl (by kernel_rfl) rfl (fun w0 hI => ?_) (fun K hK => ?_); rotate_left; (· have z0 := (rcell (kp hI (f_a1))).1; have z1 := (rcell (kp hI (f_b1))).1; go_simp; rfl); (simp only [Act.put, List.setIfInBounds_toArray, List.set_cons_zero, List.set_cons_succ]; refine hK _ _ ?_; clear hK K)) | (refine Abs.step_skip rfl rfl (fun K hK => ?_); (simp only [Act.put, List.setIfInBounds_toArray, List.set_cons_zero, List.set_cons_succ]; refine hK _ _ ?_; clear hK K)))
      intro w0 hI hF hx1 hx2
      clear hx1 hx2
      simp only [Abs.T_push]
      have rn_s := (((hF 6).2 rfl)).rd
      clear hF
      have hQ := kp hI (f_o1)
      generalize hT3 : setRow w0 _ _ = w3
      have hy := (fin_x (b0 _) hQ hT3).1
      replace rn_s := rn_s.exc hy hQ (by decide)
      obtain ⟨hx3, f_o3⟩ := fin_x hI (f_o1) hT3
      clear hT3 hQ hy hI w0
      have f_a3 := kx hx3 (f_a1) (by omega)
      have f_b3 := kx hx3 (f_b1) (by omega)
      have rd_a3 := rd_a1.exc hx3 (f_o1) (by decide)
      have rd_b3 := rd_b1.exc hx3 (f_o1) (by decide)
      have hB3 := bX hB1 hx3 (by omega)
      clear za_a za_b zb_a zb_b zo_a zo_b
      obtain ⟨za_a, za_b, la3⟩ := rcell f_a3
      obtain ⟨zb_a, zb_b, lb3⟩ := rcell f_b3
      obtain ⟨zo_a, zo_b, lo3⟩ := rcell f_o3
      go_wp2
      refine bodyPost_ret (by simp [results, Tryd.results117, go_sem, zo_a]; try rfl) rfl ⟨A3, d3, rfl, hB3, rn_s⟩
    · rw [decide_eq_false hlt] at cl
      have c1 := fun w ha hb => ref_minus x.natAbs y.natAbs A B c d (by omega) (by omega) w ha hb
      have e : x.natAbs - y.natAbs = (x + y).natAbs := by omega
      rw [e] at c1
      have c2 := fun A c => ref_made (decide (x < 0)) (x + y).natAbs A c
      have hd : (decide (x < 0) && decide ((x + y).natAbs ≠ 0)) = decide (x + y < 0) := by
        by_cases hx : x < 0
        · by_cases hz : x + y = 0
          · rw [decide_eq_true hx, decide_eq_false (show ¬ (x + y).natAbs ≠ 0 by omega), decide_eq_false (show ¬ x + y < 0 by omega)]; rfl
          · rw [decide_eq_true hx, decide_eq_true (show (x + y).natAbs ≠ 0 by omega), decide_eq_true (show x + y < 0 by omega)]; rfl
        · rw [decide_eq_false hx, decide_eq_false (show ¬ x + y < 0 by omega)]; rfl
      rw [hd] at c2
      unfold GivesNum
      clear hd e hxy hs hs2 lx ly hlt
      generalize decide (x + y < 0) = r at *
      generalize (x + y).natAbs = Z at *
      generalize x.natAbs = X at *
      generalize y.natAbs = Y at *
      generalize decide (x < 0) = p at *
      generalize decide (y < 0) = q at *
      go_enter Tryd.func117, Tryd.ntmps117
      go_wp2_with fail
      refine (cl _ (ha.below (bA (bA (bA (b0 _) (.cells #[.bool p, .slice A (sz X).length c] 94)) (.cells #[.bool q, .slice B (sz Y).length d] 94)) (.cells #[.bool false, .slice none 0 0] 94))) (hb.below (bA (bA (bA (b0 _) (.cells #[.bool p, .slice A (sz X).length c] 94)) (.cells #[.bool q, .slice B (sz Y).length d] 94)) (.cells #[.bool false, .slice none 0 0] 94)))).mono ?_
      rintro e w1 ⟨rfl, hb1⟩
      have f_a1 := kp hb1 (ka (ka (na w #[.bool p, .slice A (sz X).length c] 94) (.cells #[.bool q, .slice B (sz Y).length d] 94)) (.cells #[.bool false, .slice none 0 0] 94))
      have f_b1 := kp hb1 (ka (na1 w (.cells #[.bool p, .slice A (sz X).length c] 94) #[.bool q, .slice B (sz Y).length d] 94) (.cells #[.bool false, .slice none 0 0] 94))
      have f_o1 := kp hb1 (na2 w (.cells #[.bool p, .slice A (sz X).length c] 94) (.cells #[.bool q, .slice B (sz Y).length d] 94) #[.bool false, .slice none 0 0] 94)
      have rd_a1 := (ha.below (bA (bA (bA (b0 _) (.cells #[.bool p, .slice A (sz X).length c] 94)) (.cells #[.bool q, .slice B (sz Y).length d] 94)) (.cells #[.bool false, .slice none 0 0] 94))).below hb1
      have rd_b1 := (hb.below (bA (bA (bA (b0 _) (.cells #[.bool p, .slice A (sz X).length c] 94)) (.cells #[.bool q, .slice B (sz Y).length d] 94)) (.cells #[.bool false, .slice none 0 0] 94))).below hb1
      have hB1 := bB (bA (bA (bA (b0 w) (.cells #[.bool p, .slice A (sz X).length c] 94)) (.cells #[.bool q, .slice B (sz Y).length d] 94)) (.cells #[.bool false, .slice none 0 0] 94)) hb1
      obtain ⟨za_a, za_b, la1⟩ := rcell f_a1
      obtain ⟨zb_a, zb_b, lb1⟩ := rcell f_b1
      obtain ⟨zo_a, zo_b, lo1⟩ := rcell f_o1
      go_wp2_with fail
      refine Abs.wp_region_abs (Abs.cls0 _) [0, 1, 2, 3, 4, 5, 6, 7, 8] (by kernel_rfl) (by kernel_rfl) (Below.refl _ _).drew ?_
      repeat (first | (refine Abs.step_pure rfl rfl (fun K hK => ?_); go_simp; (try go_bits); (first | refine hK _ _ ?_ | (simp only [↓IntWalk.iteOmega]; go_simp; (try go_bits); refine hK _ _ ?_)); clear hK K) | (refine Abs.step_load (v := ?_) rfl rfl (by kernel_rfl) rfl (fun w0 hI => ?_) (fun K hK => ?_); rotate_left; (· have z0 := (rcell (kp hI (f_a1))).1; have z1 := (rcell (kp hI (f_b1))).1; go_simp; rfl); (simp only [Act.put, List.setIfInBounds_toArray, List.set_cons_zero, List.set_cons_succ]; refine hK _ _ ?_; clear hK K)) | (refine Abs.step_skip rfl rfl (fun K hK => ?_); (simp only [Act.put, List.setIfInBounds_toArray, List.set_cons_zero, List.set_cons_succ]; refine hK _ _ ?_; clear hK K)))
      (refine Abs.step_call (f := ?_) (args := ?_) rfl rfl rfl rfl (SlIs (Z)) (fun _ => Cl_SlIs _) (fun w0 => ?_) (fun w0 hI hF => ?_) (fun K hK v w0 hv => ?_); rotate_left 2; (· go_simp; (constructor <;> rfl)); (· exact (c1 _ (rd_a1.below hI) (rd_b1.below hI)).mono (fun _ _ h => h.sl)); (obtain ⟨A3, d3, rfl, -⟩ := hv; clear w0; simp only [Act.put, List.setIfInBounds_toArray, List.set_cons_zero, List.set_cons_succ]; refine hK _ _ ?_; clear hK K))
      repeat (first | (refine Abs.step_pure rfl rfl (fun K hK => ?_); go_simp; (try go_bits); (first | refine hK _ _ ?_ | (simp only [↓IntWalk.iteOmega]; go_simp; (try go_bits); refine hK _ _ ?_)); clear hK K) | (refine Abs.step_load (v := ?_) rfl rfl (by kernel_rfl) rfl (fun w0 hI => ?_) (fun K hK => ?_); rotate_left; (· have z0 := (rcell (kp hI (f_a1))).1; have z1 := (rcell (kp hI (f_b1))).1; go_simp; rfl); (simp only [Act.put, List.setIfInBounds_toArray, List.set_cons_zero, List.set_cons_succ]; refine hK _ _ ?_; clear hK K)) | (refine Abs.step_skip rfl rfl (fun K hK => ?_); (simp only [Act.put, List.setIfInBounds_toArray, List.set_cons_zero, List.set_cons_succ]; refine hK _ _ ?_; clear hK K)))
      (refine Abs.step_call_val (f := ?_) (args := ?_) (v := ?_) rfl rfl rfl rfl (fun w0 => ?_) (fun w0 hI => ?_) (fun K hK => ?_); rotate_left 3; (· go_simp; (constructor <;> rfl)); (· exact c2 _ _ _); (simp only [Act.put, List.setIfInBounds_toArray, List.set_cons_zero, List.set_cons_succ]; refine hK _ _ ?_; clear hK K))
      repeat (first | (refine Abs.step_pure rfl rfl (fun K hK => ?_); go_simp; (try go_bits); (first | refine hK _ _ ?_ | (simp only [↓IntWalk.iteOmega]; go_simp; (try go_bits); refine hK _ _ ?_)); clear hK K) | (refine Abs.step_load (v := ?_) rfl rfl (by kernel_rfl) rfl (fun w0 hI => ?_) (fun K hK => ?_); rotate_left; (· have z0 := (rcell (kp hI (f_a1))).1; have z1 := (rcell (kp hI (f_b1))).1; go_simp; rfl); (simp only [Act.put, List.setIfInBounds_toArray, List.set_cons_zero, List.set_cons_succ]; refine hK _ _ ?_; clear hK K)) | (refine Abs.step_skip rfl rfl (fun K hK => ?_); (simp only [Act.put, List.setIfInBounds_toArray, List.set_cons_zero, List.set_cons_succ]; refine hK _ _ ?_; clear hK K)))
      (refine Abs.step_store (T := ?_) rfl rfl rfl (fun w0 hI hF hU => ?_) (fun w0 hI hU hJ => ?_) (fun K hK => ?_); rotate_left; (· have hR := kp hI (f_o1); have hg0 := (rcell hR).1; have hg1 := (rcell hR).2.1; simp only [Abs.T_setF, Abs.T_addA, Abs.T_push, Abs.T_start]; go_simp; exact row2 hR _ _); (· first | exact trivial | exact js hJ rfl _ | exact js hJ (Or.inl rfl) _ | exact js hJ (Or.inr rfl) _); (simp only [Act.put, List.setIfInBounds_toArray, List.set_cons_zero, List.set_cons_succ]; refine hK _ _ ?_; clear hK K))
      repeat (first | (refine Abs.step_pure rfl rfl (fun K hK => ?_); go_simp; (try go_bits); (first | refine hK _ _ ?_ | (simp only [↓IntWalk.iteOmega]; go_simp; (try go_bits); refine hK _ _ ?_)); clear hK K) | (refine Abs.step_load (v := ?_) rfl rfl (by kernel_rfl) rfl (fun w0 hI => ?_) (fun K hK => ?_); rotate_left; (· have z0 := (rcell (kp hI (f_a1))).1; have z1 := (rcell (kp hI (f_b1))).1; go_simp; rfl); (simp only [Act.put, List.setIfInBounds_toArray, List.set_cons_zero, List.set_cons_succ]; refine hK _ _ ?_; clear hK K)) | (refine Abs.step_skip rfl rfl (fun K hK => ?_); (simp only [Act.put, List.setIfInBounds_toArray, List.set_cons_zero, List.set_cons_succ]; refine hK _ _ ?_; clear hK K)))
      intro w0 hI hF hx1 hx2
      clear hx1 hx2
      simp only [Abs.T_push]
      have rn_s := (((hF 6).2 rfl)).rd
      clear hF
      have hQ := kp hI (f_o1)
      generalize hT3 : setRow w0 _ _ = w3
      have hy := (fin_x (b0 _) hQ hT3).1
      replace rn_s := rn_s.exc hy hQ (by decide)
      obtain ⟨hx3, f_o3⟩ := fin_x hI (f_o1) hT3
      clear hT3 hQ hy hI w0
      have f_a3 := kx hx3 (f_a1) (by omega)
      have f_b3 := kx hx3 (f_b1) (by omega)
      have rd_a3 := rd_a1.exc hx3 (f_o1) (by decide)
      have rd_b3 := rd_b1.exc hx3 (f_o1) (by decide)
      have hB3 := bX hB1 hx3 (by omega)
      clear za_a za_b zb_a zb_b zo_a zo_b
      obtain ⟨za_a, za_b, la3⟩ := rcell f_a3
      obtain ⟨zb_a, zb_b, lb3⟩ := rcell f_b3
      obtain ⟨zo_a, zo_b, lo3⟩ := rcell f_o3
      go_wp2
      refine bodyPost_ret (by simp [results, Tryd.results117, go_sem, zo_a]; try rfl) rfl ⟨A3, d3, rfl, hB3, rn_s⟩

/-- what Div hands back -/
def GivesNum2 (x y : Int) (w : World) (e : Ending) (w' : World) : Prop := ∃ A c A' c', e = .returned (.tuple #[.agg #[.bool (decide (x < 0)), .slice A (sz x.natAbs).length c], .agg #[.bool (decide (y < 0)), .slice A' (sz y.natAbs).length c']]) ∧ Below w.heap.size w w' ∧ Rd w' A c (sz x.natAbs) ∧ Rd w' A' c' (sz y.natAbs)

theorem div_parts (x m : Int) (hm : 0 < m) : (0 ≤ x → x / m = ((x.natAbs / m.natAbs : Nat) : Int) ∧ x % m = ((x.natAbs % m.natAbs : Nat) : Int)) ∧
    (x < 0 → x.natAbs % m.natAbs = 0 → x / m = -((x.natAbs / m.natAbs : Nat) : Int) ∧ x % m = 0) ∧
    (x < 0 → x.natAbs % m.natAbs ≠ 0 → x / m = -((x.natAbs / m.natAbs + 1 : Nat) : Int) ∧ x % m = ((m.natAbs - x.natAbs % m.natAbs : Nat) : Int)) := by
  obtain ⟨M, rfl⟩ := Int.eq_ofNat_of_zero_le (show 0 ≤ m by omega)
  have hM : 0 < M := by omega
  have k1 := Nat.div_add_mod x.natAbs M
  have k2 := Nat.mod_lt x.natAbs hM
  rw [Int.natAbs_natCast]
  generalize x.natAbs / M = Q at *
  generalize x.natAbs % M = R at *
  have f : ∀ z t : Int, x = (M : Int) * z + t → 0 ≤ t → t < M → x / (M : Int) = z ∧ x % (M : Int) = t := by
    intro z t h1 h2 h3
    constructor
    · rw [h1, Int.add_comm, Int.add_mul_ediv_left _ _ (show (M : Int) ≠ 0 by omega), Int.ediv_eq_zero_of_lt h2 h3]; omega
    · rw [h1, Int.add_comm, Int.add_mul_emod_self_left, Int.emod_eq_of_lt h2 h3]
  have k3 : ((M * Q + R : Nat) : Int) = (M : Int) * Q + R := by rw [Int.natCast_add, Int.natCast_mul]
  refine ⟨fun hx => f _ _ (by rw [← k3, k1]; omega) (by omega) (by omega), fun hx hr => ?_, fun hx hr => ?_⟩
  · have := f (-(Q : Int)) 0 (by rw [Int.mul_neg]; omega) (by omega) (by omega)
    exact this
  · refine f _ _ ?_ (by omega) (by omega)
    rw [Int.mul_neg, Int.natCast_add, Int.mul_add]
    omega

set_option maxRecDepth 100000 in
set_option maxHeartbeats 2000000 in
theorem ref_Div (x m : Int) (A B : Option Addr) (c d : Nat) (hm : 0 < m) (lx : (sz x.natAbs).length ≤ 800) (lm : (sz m.natAbs).length ≤ 800) (w : World) (ha : Rd w A c (sz x.natAbs)) (hb : Rd w B d (sz m.natAbs)) :
    Calls Tryd.prog 87 #[.agg #[.bool (decide (x < 0)), .slice A (sz x.natAbs).length c], .agg #[.bool (decide (m < 0)), .slice B (sz m.natAbs).length d]] w (GivesNum2 (x / m) (x % m) w) := by
  have c1 := fun w ha hb => ref_parts x.natAbs m.natAbs A B c d (by omega) (by omega) (by omega) w ha hb
  obtain ⟨k1, k2, k3⟩ := div_parts x m hm
  have hR := Nat.mod_lt x.natAbs (show 0 < m.natAbs by omega)
  have lQ : (sz (x.natAbs / m.natAbs)).length ≤ 800 := by
    have h1 := bv_lt (Bin.sz x.natAbs)
    rw [bv_sz] at h1
    exact Nat.le_trans (sz_len_lt (k := (sz x.natAbs).length) (Nat.lt_of_le_of_lt (Nat.div_le_self _ _) h1)) lx
  have hlen := sz_len0 (x.natAbs % m.natAbs)
  have hQb := bv_lt (Bin.sz (x.natAbs / m.natAbs))
  rw [bv_sz] at hQb
  generalize x.natAbs / m.natAbs = Q at *
  generalize x.natAbs % m.natAbs = R at *
  by_cases hx : x < 0
  · by_cases hr : R = 0
    · obtain ⟨e1, e2⟩ := k2 hx hr
      have hz : ¬ (0 : Int) < ((sz R).length : Int) := fun h => hlen.1 h hr
      have c2 := fun A c => ref_made true Q A c
      have c3 := fun A c => ref_made false R A c
      rw [e1, e2]
      have hd1 : (true && decide (Q ≠ 0)) = decide (-((Q : Nat) : Int) < 0) := by
        rw [Bool.true_and]; exact decide_eq_decide.2 (by omega)
      rw [hd1] at c2
      have hn : (-((Q : Nat) : Int)).natAbs = Q := by rw [Int.natAbs_neg, Int.natAbs_natCast]
      unfold GivesNum2
      rw [hn, decide_eq_true hx, show decide ((0 : Int) < 0) = false from rfl, show (0 : Int).natAbs = R by rw [hr]; rfl]
      clear hn hd1 e1 e2 k1 k2 k3 hR lQ hlen hr hx lx lm
      generalize decide (-((Q : Nat) : Int) < 0) = r1 at *
      generalize x.natAbs = X at *
      generalize m.natAbs = Y at *
      generalize decide (m < 0) = pm at *
      go_enter Tryd.func87, Tryd.ntmps87
      go_wp2_with fail
      refine (c1 _ (ha.below (bA (bA (bA (bA (b0 _) (.cells #[.bool true, .slice A (sz X).length c] 94)) (.cells #[.bool pm, .slice B (sz Y).length d] 94)) (.cells #[.bool false, .slice none 0 0] 94)) (.cells #[.bool false, .slice none 0 0] 94))) (hb.below (bA (bA (bA (bA (b0 _) (.cells #[.bool true, .slice A (sz X).length c] 94)) (.cells #[.bool pm, .slice B (sz Y).length d] 94)) (.cells #[.bool false, .slice none 0 0] 94)) (.cells #[.bool false, .slice none 0 0] 94)))).mono ?_
      rintro e w1 ⟨A1, d1, A2, d2, rfl, hb1, rn_q, rn_t⟩
      have f_a1 := kp hb1 (ka (ka (ka (na w #[.bool true, .slice A (sz X).length c] 94) (.cells #[.bool pm, .slice B (sz Y).length d] 94)) (.cells #[.bool false, .slice none 0 0] 94)) (.cells #[.bool false, .slice none 0 0] 94))
      have f_b1 := kp hb1 (ka (ka (na1 w (.cells #[.bool true, .slice A (sz X).length c] 94) #[.bool pm, .slice B (sz Y).length d] 94) (.cells #[.bool false, .slice none 0 0] 94)) (.cells #[.bool false, .slice none 0 0] 94))
      have f_o1 := kp hb1 (ka (na2 w (.cells #[.bool true, .slice A (sz X).length c] 94) (.cells #[.bool pm, .slice B (sz Y).length d] 94) #[.bool false, .slice none 0 0] 94) (.cells #[.bool false, .slice none 0 0] 94))
      have f_p1 := kp hb1 (na3 w (.cells #[.bool true, .slice A (sz X).length c] 94) (.cells #[.bool pm, .slice B (sz Y).length d] 94) (.cells #[.bool false, .slice none 0 0] 94) #[.bool false, .slice none 0 0] 94)
      have rd_a1 := (ha.below (bA (bA (bA (bA (b0 _) (.cells #[.bool true, .slice A (sz X).length c] 94)) (.cells #[.bool pm, .slice B (sz Y).length d] 94)) (.cells #[.bool false, .slice none 0 0] 94)) (.cells #[.bool false, .slice none 0 0] 94))).below hb1
      have rd_b1 := (hb.below (bA (bA (bA (bA (b0 _) (.cells #[.bool true, .slice A (sz X).length c] 94)) (.cells #[.bool pm, .slice B (sz Y).length d] 94)) (.cells #[.bool false, .slice none 0 0] 94)) (.cells #[.bool false, .slice none 0 0] 94))).below hb1
      have hB1 := bB (bA (bA (bA (bA (b0 w) (.cells #[.bool true, .slice A (sz X).length c] 94)) (.cells #[.bool pm, .slice B (sz Y).length d] 94)) (.cells #[.bool false, .slice none 0 0] 94)) (.cells #[.bool false, .slice none 0 0] 94)) hb1
      obtain ⟨za_a, za_b, la1⟩ := rcell f_a1
      obtain ⟨zb_a, zb_b, lb1⟩ := rcell f_b1
      obtain ⟨zo_a, zo_b, lo1⟩ := rcell f_o1
      obtain ⟨zp_a, zp_b, lp1⟩ := rcell f_p1
      go_wp2_with fail
      refine (c2 _ _ _).mono ?_
      rintro e w2 ⟨rfl, hb2⟩
      have f_a2 := kp hb2 (f_a1)
      have f_b2 := kp hb2 (f_b1)
      have f_o2 := kp hb2 (f_o1)
      have f_p2 := kp hb2 (f_p1)
      have rd_a2 := rd_a1.below hb2
      have rd_b2 := rd_b1.below hb2
      have rd_q2 := rn_q.below hb2
      have rd_t2 := rn_t.below hb2
      have hB2 := bB hB1 hb2
      clear za_a za_b zb_a zb_b zo_a zo_b zp_a zp_b
      obtain ⟨za_a, za_b, la2⟩ := rcell f_a2
      obtain ⟨zb_a, zb_b, lb2⟩ := rcell f_b2
      obtain ⟨zo_a, zo_b, lo2⟩ := rcell f_o2
      obtain ⟨zp_a, zp_b, lp2⟩ := rcell f_p2
      go_wp2_with fail
      refine (c3 _ _ _).mono ?_
      rintro e w3 ⟨rfl, hb3⟩
      have f_a3 := kp hb3 (f_a2)
      have f_b3 := kp hb3 (f_b2)
      have f_o3 := kp hb3 (f_o2)
      have f_p3 := kp hb3 (f_p2)
      have rd_a3 := rd_a2.below hb3
      have rd_b3 := rd_b2.below hb3
      have rd_q3 := rd_q2.below hb3
      have rd_t3 := rd_t2.below hb3
      have hB3 := bB hB2 hb3
      clear za_a za_b zb_a zb_b zo_a zo_b zp_a zp_b
      obtain ⟨za_a, za_b, la3⟩ := rcell f_a3
      obtain ⟨zb_a, zb_b, lb3⟩ := rcell f_b3
      obtain ⟨zo_a, zo_b, lo3⟩ := rcell f_o3
      obtain ⟨zp_a, zp_b, lp3⟩ := rcell f_p3
      go_wp2_with fail
      rw [row2 f_o3]
      generalize hT4 : setRow _ _ _ = w4
      obtain ⟨hx4, f_o4⟩ := fin_x (b0 _) f_o3 hT4
      clear hT4
      have f_a4 := kx hx4 (f_a3) (by omega)
      have f_b4 := kx hx4 (f_b3) (by omega)
      have f_p4 := kx hx4 (f_p3) (by omega)
      have rd_a4 := rd_a3.exc hx4 (f_o3) (by decide)
      have rd_b4 := rd_b3.exc hx4 (f_o3) (by decide)
      have rd_q4 := rd_q3.exc hx4 (f_o3) (by decide)
      have rd_t4 := rd_t3.exc hx4 (f_o3) (by decide)
      have hB4 := bX hB3 hx4 (by omega)
      clear za_a za_b zb_a zb_b zo_a zo_b zp_a zp_b
      obtain ⟨za_a, za_b, la4⟩ := rcell f_a4
      obtain ⟨zb_a, zb_b, lb4⟩ := rcell f_b4
      obtain ⟨zp_a, zp_b, lp4⟩ := rcell f_p4
      obtain ⟨zo_a, zo_b, lo4⟩ := rcell f_o4
      rw [row2 f_p4]
      generalize hT5 : setRow _ _ _ = w5
      obtain ⟨hx5, f_p5⟩ := fin_x (b0 _) f_p4 hT5
      clear hT5
      have f_a5 := kx hx5 (f_a4) (by omega)
      have f_b5 := kx hx5 (f_b4) (by omega)
      have f_o5 := kx hx5 (f_o4) (by omega)
      have rd_a5 := rd_a4.exc hx5 (f_p4) (by decide)
      have rd_b5 := rd_b4.exc hx5 (f_p4) (by decide)
      have rd_q5 := rd_q4.exc hx5 (f_p4) (by decide)
      have rd_t5 := rd_t4.exc hx5 (f_p4) (by decide)
      have hB5 := bX hB4 hx5 (by omega)
      clear za_a za_b zb_a zb_b zo_a zo_b zp_a zp_b
      obtain ⟨za_a, za_b, la5⟩ := rcell f_a5
      obtain ⟨zb_a, zb_b, lb5⟩ := rcell f_b5
      obtain ⟨zo_a, zo_b, lo5⟩ := rcell f_o5
      obtain ⟨zp_a, zp_b, lp5⟩ := rcell f_p5
      refine bodyPost_ret (by simp [results, Tryd.results87, go_sem, zo_a, zp_a]; try rfl) rfl ⟨A1, d1, A2, d2, by simp, hB5, rd_q5, rd_t5⟩
    · obtain ⟨e1, e2⟩ := k3 hx hr
      have hz : (0 : Int) < ((sz R).length : Int) := hlen.2 hr
      have cs1 := ref_Size 1 (by decide)
      have cp := fun A B c d w ha hb => ref_plus Q 1 ((sz Q).length + 1) A B c d (by omega) (by rw [Nat.pow_succ]; have := Nat.two_pow_pos (sz Q).length; omega) w ha hb
      have cm := fun A B c d w ha hb => ref_minus m.natAbs R A B c d (by omega) (by omega) w ha hb
      have c2 := fun A c => ref_made true (Q + 1) A c
      have c3 := fun A c => ref_made false (m.natAbs - R) A c
      rw [e1, e2]
      have hn : (-((Q + 1 : Nat) : Int)).natAbs = Q + 1 := by rw [Int.natAbs_neg, Int.natAbs_natCast]
      unfold GivesNum2
      rw [hn, Int.natAbs_natCast, decide_eq_true hx, decide_eq_true (show -((Q + 1 : Nat) : Int) < 0 by omega), decide_eq_false (show ¬ ((m.natAbs - R : Nat) : Int) < 0 by omega)]
      rw [decide_eq_true (show Q + 1 ≠ 0 by omega)] at c2
      clear hn e1 e2 k1 k2 k3 hR lQ hlen hr hx lx lm
      generalize Q + 1 = Q1 at *
      generalize m.natAbs - R = R1 at *
      generalize x.natAbs = X at *
      generalize m.natAbs = Y at *
      generalize decide (m < 0) = pm at *
      go_enter Tryd.func87, Tryd.ntmps87
      go_wp2_with fail
      refine (c1 _ (ha.below (bA (bA (bA (bA (b0 _) (.cells #[.bool true, .slice A (sz X).length c] 94)) (.cells #[.bool pm, .slice B (sz Y).length d] 94)) (.cells #[.bool false, .slice none 0 0] 94)) (.cells #[.bool false, .slice none 0 0] 94))) (hb.below (bA (bA (bA (bA (b0 _) (.cells #[.bool true, .slice A (sz X).length c] 94)) (.cells #[.bool pm, .slice B (sz Y).length d] 94)) (.cells #[.bool false, .slice none 0 0] 94)) (.cells #[.bool false, .slice none 0 0] 94)))).mono ?_
      rintro e w1 ⟨A1, d1, A2, d2, rfl, hb1, rn_q, rn_t⟩
      have f_a1 := kp hb1 (ka (ka (ka (na w #[.bool true, .slice A (sz X).length c] 94) (.cells #[.bool pm, .slice B (sz Y).length d] 94)) (.cells #[.bool false, .slice none 0 0] 94)) (.cells #[.bool false, .slice none 0 0] 94))
      have f_b1 := kp hb1 (ka (ka (na1 w (.cells #[.bool true, .slice A (sz X).length c] 94) #[.bool pm, .slice B (sz Y).length d] 94) (.cells #[.bool false, .slice none 0 0] 94)) (.cells #[.bool false, .slice none 0 0] 94))
      have f_o1 := kp hb1 (ka (na2 w (.cells #[.bool true, .slice A (sz X).length c] 94) (.cells #[.bool pm, .slice B (sz Y).length d] 94) #[.bool false, .slice none 0 0] 94) (.cells #[.bool false, .slice none 0 0] 94))
      have f_p1 := kp hb1 (na3 w (.cells #[.bool true, .slice A (sz X).length c] 94) (.cells #[.bool pm, .slice B (sz Y).length d] 94) (.cells #[.bool false, .slice none 0 0] 94) #[.bool false, .slice none 0 0] 94)
      have rd_a1 := (ha.below (bA (bA (bA (bA (b0 _) (.cells #[.bool true, .slice A (sz X).length c] 94)) (.cells #[.bool pm, .slice B (sz Y).length d] 94)) (.cells #[.bool false, .slice none 0 0] 94)) (.cells #[.bool false, .slice none 0 0] 94))).below hb1
      have rd_b1 := (hb.below (bA (bA (bA (bA (b0 _) (.cells #[.bool true, .slice A (sz X).length c] 94)) (.cells #[.bool pm, .slice B (sz Y).length d] 94)) (.cells #[.bool false, .slice none 0 0] 94)) (.cells #[.bool false, .slice none 0 0] 94))).below hb1
      have hB1 := bB (bA (bA (bA (bA (b0 w) (.cells #[.bool true, .slice A (sz X).length c] 94)) (.cells #[.bool pm, .slice B (sz Y).length d] 94)) (.cells #[.bool false, .slice none 0 0] 94)) (.cells #[.bool false, .slice none 0 0] 94)) hb1
      obtain ⟨za_a, za_b, la1⟩ := rcell f_a1
      obtain ⟨zb_a, zb_b, lb1⟩ := rcell f_b1
      obtain ⟨zo_a, zo_b, lo1⟩ := rcell f_o1
      obtain ⟨zp_a, zp_b, lp1⟩ := rcell f_p1
      go_wp2_with fail
      refine Abs.wp_region_abs (Abs.cls0 _) [0, 1, 2, 3, 4, 5, 6, 7, 8, 9, 10] (by kernel_rfl) (by kernel_rfl) (Below.refl _ _).drew ?_
      repeat (first | (refine Abs.step_pure rfl rfl (fun K hK => ?_); go_simp; (try go_bits); (first | refine hK _ _ ?_ | (simp only [↓IntWalk.iteOmega]; go_simp; (try go_bits); refine hK _ _ ?_)); clear hK K) | (refine Abs.step_load (v := ?_) rfl rfl (by kernel_rfl) rfl (fun w0 hI => ?_) (fun K hK => ?_); rotate_left; (· have z0 := (rcell (kp hI (f_b1))).1; go_simp; rfl); (simp only [Act.put, List.setIfInBounds_toArray, List.set_cons_zero, List.set_cons_succ]; refine hK _ _ ?_; clear hK K)) | (refine Abs.step_skip rfl rfl (fun K hK => ?_); (simp only [Act.put, List.setIfInBounds_toArray, List.set_cons_zero, List.set_cons_succ]; refine hK _ _ ?_; clear hK K)))
      (refine Abs.step_call (f := ?_) (args := ?_) rfl rfl rfl rfl (SlIs (1)) (fun _ => Cl_SlIs _) (fun w0 => ?_) (fun w0 hI hF => ?_) (fun K hK v w0 hv => ?_); rotate_left 2; (· go_simp; (constructor <;> rfl)); (· exact (cs1 _).mono (fun _ _ h => h.sl)); (obtain ⟨A3, d3, rfl, -⟩ := hv; clear w0; simp only [Act.put, List.setIfInBounds_toArray, List.set_cons_zero, List.set_cons_succ]; refine hK _ _ ?_; clear hK K))
      repeat (first | (refine Abs.step_pure rfl rfl (fun K hK => ?_); go_simp; (try go_bits); (first | refine hK _ _ ?_ | (simp only [↓IntWalk.iteOmega]; go_simp; (try go_bits); refine hK _ _ ?_)); clear hK K) | (refine Abs.step_load (v := ?_) rfl rfl (by kernel_rfl) rfl (fun w0 hI => ?_) (fun K hK => ?_); rotate_left; (· have z0 := (rcell (kp hI (f_b1))).1; go_simp; rfl); (simp only [Act.put, List.setIfInBounds_toArray, List.set_cons_zero, List.set_cons_succ]; refine hK _ _ ?_; clear hK K)) | (refine Abs.step_skip rfl rfl (fun K hK => ?_); (simp only [Act.put, List.setIfInBounds_toArray, List.set_cons_zero, List.set_cons_succ]; refine hK _ _ ?_; clear hK K)))
      (refine Abs.step_call (f := ?_) (args := ?_) rfl rfl rfl rfl (SlIs (Q1)) (fun _ => Cl_SlIs _) (fun w0 => ?_) (fun w0 hI hF => ?_) (fun K hK v w0 hv => ?_); rotate_left 2; (· go_simp; (constructor <;> rfl)); (· exact (cp _ _ _ _ _ (rn_q.below hI) ((hF 1 (by kernel_rfl)).2 rfl).rd).mono (fun _ _ h => h.sl)); (obtain ⟨A4, d4, rfl, -⟩ := hv; clear w0; simp only [Act.put, List.setIfInBounds_toArray, List.set_cons_zero, List.set_cons_succ]; refine hK _ _ ?_; clear hK K))
      repeat (first | (refine Abs.step_pure rfl rfl (fun K hK => ?_); go_simp; (try go_bits); (first | refine hK _ _ ?_ | (simp only [↓IntWalk.iteOmega]; go_simp; (try go_bits); refine hK _ _ ?_)); clear hK K) | (refine Abs.step_load (v := ?_) rfl rfl (by kernel_rfl) rfl (fun w0 hI => ?_) (fun K hK => ?_); rotate_left; (· have z0 := (rcell (kp hI (f_b1))).1; go_simp; rfl); (simp only [Act.put, List.setIfInBounds_toArray, List.set_cons_zero, List.set_cons_succ]; refine hK _ _ ?_; clear hK K)) | (refine Abs.step_skip rfl rfl (fun K hK => ?_); (simp only [Act.put, List.setIfInBounds_toArray, List.set_cons_zero, List.set_cons_succ]; refine hK _ _ ?_; clear hK K)))
      (refine Abs.step_call_val (f := ?_) (args := ?_) (v := ?_) rfl rfl rfl rfl (fun w0 => ?_) (fun w0 hI => ?_) (fun K hK => ?_); rotate_left 3; (· go_simp; (constructor <;> rfl)); (· exact c2 _ _ _); (simp only [Act.put, List.setIfInBounds_toArray, List.set_cons_zero, List.set_cons_succ]; refine hK _ _ ?_; clear hK K))
      repeat (first | (refine Abs.step_pure rfl rfl (fun K hK => ?_); go_simp; (try go_bits); (first | refine hK _ _ ?_ | (simp only [↓IntWalk.iteOmega]; go_simp; (try go_bits); refine hK _ _ ?_)); clear hK K) | (refine Abs.step_load (v := ?_) rfl rfl (by kernel_rfl) rfl (fun w0 hI => ?_) (fun K hK => ?_); rotate_left; (· have z0 := (rcell (kp hI (f_b1))).1; go_simp; rfl); (simp only [Act.put, List.setIfInBounds_toArray, List.set_cons_zero, List.set_cons_succ]; refine hK _ _ ?_; clear hK K)) | (refine Abs.step_skip rfl rfl (fun K hK => ?_); (simp only [Act.put, List.setIfInBounds_toArray, List.set_cons_zero, List.set_cons_succ]; refine hK _ _ ?_; clear hK K)))
      (refine Abs.step_call (f := ?_) (args := ?_) rfl rfl rfl rfl (SlIs (R1)) (fun _ => Cl_SlIs _) (fun w0 => ?_) (fun w0 hI hF => ?_) (fun K hK v w0 hv => ?_); rotate_left 2; (· go_simp; (constructor <;> rfl)); (· exact (cm _ _ _ _ _ (rd_b1.below hI) (rn_t.below hI)).mono (fun _ _ h => h.sl)); (obtain ⟨A5, d5, rfl, -⟩ := hv; clear w0; simp only [Act.put, List.setIfInBounds_toArray, List.set_cons_zero, List.set_cons_succ]; refine hK _ _ ?_; clear hK K))
      repeat (first | (refine Abs.step_pure rfl rfl (fun K hK => ?_); go_simp; (try go_bits); (first | refine hK _ _ ?_ | (simp only [↓IntWalk.iteOmega]; go_simp; (try go_bits); refine hK _ _ ?_)); clear hK K) | (refine Abs.step_load (v := ?_) rfl rfl (by kernel_rfl) rfl (fun w0 hI => ?_) (fun K hK => ?_); rotate_left; (· have z0 := (rcell (kp hI (f_b1))).1; go_simp; rfl); (simp only [Act.put, List.setIfInBounds_toArray, List.set_cons_zero, List.set_cons_succ]; refine hK _ _ ?_; clear hK K)) | (refine Abs.step_skip rfl rfl (fun K hK => ?_); (simp only [Act.put, List.setIfInBounds_toArray, List.set_cons_zero, List.set_cons_succ]; refine hK _ _ ?_; clear hK K)))
      (refine Abs.step_call_val (f := ?_) (args := ?_) (v := ?_) rfl rfl rfl rfl (fun w0 => ?_) (fun w0 hI => ?_) (fun K hK => ?_); rotate_left 3; (· go_simp; (constructor <;> rfl)); (· exact c3 _ _ _); (simp only [Act.put, List.setIfInBounds_toArray, List.set_cons_zero, List.set_cons_succ]; refine hK _ _ ?_; clear hK K))
      repeat (first | (refine Abs.step_pure rfl rfl (fun K hK => ?_); go_simp; (try go_bits); (first | refine hK _ _ ?_ | (simp only [↓IntWalk.iteOmega]; go_simp; (try go_bits); refine hK _ _ ?_)); clear hK K) | (refine Abs.step_load (v := ?_) rfl rfl (by kernel_rfl) rfl (fun w0 hI => ?_) (fun K hK => ?_); rotate_left; (· have z0 := (rcell (kp hI (f_b1))).1; go_simp; rfl); (simp only [Act.put, List.setIfInBounds_toArray, List.set_cons_zero, List.set_cons_succ]; refine hK _ _ ?_; clear hK K)) | (refine Abs.step_skip rfl rfl (fun K hK => ?_); (simp only [Act.put, List.setIfInBounds_toArray, List.set_cons_zero, List.set_cons_succ]; refine hK _ _ ?_; clear hK K)))
      (refine Abs.step_store (T := ?_) rfl rfl rfl (fun w0 hI hF hU => ?_) (fun w0 hI hU hJ => ?_) (fun K hK => ?_); rotate_left; (· have hR := kp hI (f_o1); have hg0 := (rcell hR).1; have hg1 := (rcell hR).2.1; simp only [Abs.T_setF, Abs.T_addA, Abs.T_push, Abs.T_start]; go_simp; exact row2 hR _ _); (· first | exact trivial | exact js hJ rfl _ | exact js hJ (Or.inl rfl) _ | exact js hJ (Or.inr rfl) _); (simp only [Act.put, List.setIfInBounds_toArray, List.set_cons_zero, List.set_cons_succ]; refine hK _ _ ?_; clear hK K))
      repeat (first | (refine Abs.step_pure rfl rfl (fun K hK => ?_); go_simp; (try go_bits); (first | refine hK _ _ ?_ | (simp only [↓IntWalk.iteOmega]; go_simp; (try go_bits); refine hK _ _ ?_)); clear hK K) | (refine Abs.step_load (v := ?_) rfl rfl (by kernel_rfl) rfl (fun w0 hI => ?_) (fun K hK => ?_); rotate_left; (· have z0 := (rcell (kp hI (f_b1))).1; go_simp; rfl); (simp only [Act.put, List.setIfInBounds_toArray, List.set_cons_zero, List.set_cons_succ]; refine hK _ _ ?_; clear hK K)) | (refine Abs.step_skip rfl rfl (fun K hK => ?_); (simp only [Act.put, List.setIfInBounds_toArray, List.set_cons_zero, List.set_cons_succ]; refine hK _ _ ?_; clear hK K)))
      (refine Abs.step_store (T := ?_) rfl rfl rfl (fun w0 hI hF hU => ?_) (fun w0 hI hU hJ => ?_) (fun K hK => ?_); rotate_left; (· have hR := fun cs => (setRow_other (w := w0) (g := w.heap.size + 1 + 1) cs (by omega)).trans (kp hI (f_p1)); have hg0 := fun cs => (rcell (hR cs)).1; have hg1 := fun cs => (rcell (hR cs)).2.1; simp only [Abs.T_setF, Abs.T_addA, Abs.T_push, Abs.T_start]; go_simp; exact row2 (hR _) _ _); (· first | exact trivial | exact js hJ rfl _ | exact js hJ (Or.inl rfl) _ | exact js hJ (Or.inr rfl) _); (simp only [Act.put, List.setIfInBounds_toArray, List.set_cons_zero, List.set_cons_succ]; refine hK _ _ ?_; clear hK K))
      repeat (first | (refine Abs.step_pure rfl rfl (fun K hK => ?_); go_simp; (try go_bits); (first | refine hK _ _ ?_ | (simp only [↓IntWalk.iteOmega]; go_simp; (try go_bits); refine hK _ _ ?_)); clear hK K) | (refine Abs.step_load (v := ?_) rfl rfl (by kernel_rfl) rfl (fun w0 hI => ?_) (fun K hK => ?_); rotate_left; (· have z0 := (rcell (kp hI (f_b1))).1; go_simp; rfl); (simp only [Act.put, List.setIfInBounds_toArray, List.set_cons_zero, List.set_cons_succ]; refine hK _ _ ?_; clear hK K)) | (refine Abs.step_skip rfl rfl (fun K hK => ?_); (simp only [Act.put, List.setIfInBounds_toArray, List.set_cons_zero, List.set_cons_succ]; refine hK _ _ ?_; clear hK K)))
      intro w0 hI hF hx1 hx2
      clear hx1 hx2
      simp only [Abs.T_push]
      have rn_u := ((((hF 2).1).2 rfl)).rd
      have rn_v := (((hF 7).2 rfl)).rd
      clear hF
      have hQ := kp hI (f_o1)
      generalize hT3 : setRow w0 _ _ = w3
      have hy := (fin_x (b0 _) hQ hT3).1
      replace rn_u := rn_u.exc hy hQ (by decide)
      replace rn_v := rn_v.exc hy hQ (by decide)
      obtain ⟨hx3, f_o3⟩ := fin_x hI (f_o1) hT3
      clear hT3 hQ hy hI w0
      have f_a3 := kx hx3 (f_a1) (by omega)
      have f_b3 := kx hx3 (f_b1) (by omega)
      have f_p3 := kx hx3 (f_p1) (by omega)
      have rd_a3 := rd_a1.exc hx3 (f_o1) (by decide)
      have rd_b3 := rd_b1.exc hx3 (f_o1) (by decide)
      have rd_q3 := rn_q.exc hx3 (f_o1) (by decide)
      have rd_t3 := rn_t.exc hx3 (f_o1) (by decide)
      have hB3 := bX hB1 hx3 (by omega)
      clear za_a za_b zb_a zb_b zo_a zo_b zp_a zp_b
      obtain ⟨za_a, za_b, la3⟩ := rcell f_a3
      obtain ⟨zb_a, zb_b, lb3⟩ := rcell f_b3
      obtain ⟨zp_a, zp_b, lp3⟩ := rcell f_p3
      obtain ⟨zo_a, zo_b, lo3⟩ := rcell f_o3
      generalize hT4 : setRow w3 _ _ = w4
      obtain ⟨hx4, f_p4⟩ := fin_x (b0 _) f_p3 hT4
      clear hT4
      have f_a4 := kx hx4 (f_a3) (by omega)
      have f_b4 := kx hx4 (f_b3) (by omega)
      have f_o4 := kx hx4 (f_o3) (by omega)
      have rd_a4 := rd_a3.exc hx4 (f_p3) (by decide)
      have rd_b4 := rd_b3.exc hx4 (f_p3) (by decide)
      have rd_q4 := rd_q3.exc hx4 (f_p3) (by decide)
      have rd_t4 := rd_t3.exc hx4 (f_p3) (by decide)
      have rd_u4 := rn_u.exc hx4 (f_p3) (by decide)
      have rd_v4 := rn_v.exc hx4 (f_p3) (by decide)
      have hB4 := bX hB3 hx4 (by omega)
      clear za_a za_b zb_a zb_b zo_a zo_b zp_a zp_b
      obtain ⟨za_a, za_b, la4⟩ := rcell f_a4
      obtain ⟨zb_a, zb_b, lb4⟩ := rcell f_b4
      obtain ⟨zo_a, zo_b, lo4⟩ := rcell f_o4
      obtain ⟨zp_a, zp_b, lp4⟩ := rcell f_p4
      go_wp2
      refine bodyPost_ret (by simp [results, Tryd.results87, go_sem, zo_a, zp_a]; try rfl) rfl ⟨A4, d4, A5, d5, by simp, hB4, rd_u4, rd_v4⟩
  · obtain ⟨e1, e2⟩ := k1 (by omega)
    have c2 := fun A c => ref_made false Q A c
    have c3 := fun A c => ref_made false R A c
    rw [e1, e2]
    unfold GivesNum2
    rw [Int.natAbs_natCast, Int.natAbs_natCast, decide_eq_false hx, decide_eq_false (show ¬ ((Q : Nat) : Int) < 0 by omega), decide_eq_false (show ¬ ((R : Nat) : Int) < 0 by omega)]
    clear e1 e2 k1 k2 k3 hR lQ hlen hx lx lm
    generalize x.natAbs = X at *
    generalize m.natAbs = Y at *
    generalize decide (m < 0) = pm at *
    go_enter Tryd.func87, Tryd.ntmps87
    go_wp2_with fail
    refine (c1 _ (ha.below (bA (bA (bA (bA (b0 _) (.cells #[.bool false, .slice A (sz X).length c] 94)) (.cells #[.bool pm, .slice B (sz Y).length d] 94)) (.cells #[.bool false, .slice none 0 0] 94)) (.cells #[.bool false, .slice none 0 0] 94))) (hb.below (bA (bA (bA (bA (b0 _) (.cells #[.bool false, .slice A (sz X).length c] 94)) (.cells #[.bool pm, .slice B (sz Y).length d] 94)) (.cells #[.bool false, .slice none 0 0] 94)) (.cells #[.bool false, .slice none 0 0] 94)))).mono ?_
    rintro e w1 ⟨A1, d1, A2, d2, rfl, hb1, rn_q, rn_t⟩
    have f_a1 := kp hb1 (ka (ka (ka (na w #[.bool false, .slice A (sz X).length c] 94) (.cells #[.bool pm, .slice B (sz Y).length d] 94)) (.cells #[.bool false, .slice none 0 0] 94)) (.cells #[.bool false, .slice none 0 0] 94))
    have f_b1 := kp hb1 (ka (ka (na1 w (.cells #[.bool false, .slice A (sz X).length c] 94) #[.bool pm, .slice B (sz Y).length d] 94) (.cells #[.bool false, .slice none 0 0] 94)) (.cells #[.bool false, .slice none 0 0] 94))
    have f_o1 := kp hb1 (ka (na2 w (.cells #[.bool false, .slice A (sz X).length c] 94) (.cells #[.bool pm, .slice B (sz Y).length d] 94) #[.bool false, .slice none 0 0] 94) (.cells #[.bool false, .slice none 0 0] 94))
    have f_p1 := kp hb1 (na3 w (.cells #[.bool false, .slice A (sz X).length c] 94) (.cells #[.bool pm, .slice B (sz Y).length d] 94) (.cells #[.bool false, .slice none 0 0] 94) #[.bool false, .slice none 0 0] 94)
    have rd_a1 := (ha.below (bA (bA (bA (bA (b0 _) (.cells #[.bool false, .slice A (sz X).length c] 94)) (.cells #[.bool pm, .slice B (sz Y).length d] 94)) (.cells #[.bool false, .slice none 0 0] 94)) (.cells #[.bool false, .slice none 0 0] 94))).below hb1
    have rd_b1 := (hb.below (bA (bA (bA (bA (b0 _) (.cells #[.bool false, .slice A (sz X).length c] 94)) (.cells #[.bool pm, .slice B (sz Y).length d] 94)) (.cells #[.bool false, .slice none 0 0] 94)) (.cells #[.bool false, .slice none 0 0] 94))).below hb1
    have hB1 := bB (bA (bA (bA (bA (b0 w) (.cells #[.bool false, .slice A (sz X).length c] 94)) (.cells #[.bool pm, .slice B (sz Y).length d] 94)) (.cells #[.bool false, .slice none 0 0] 94)) (.cells #[.bool false, .slice none 0 0] 94)) hb1
    obtain ⟨za_a, za_b, la1⟩ := rcell f_a1
    obtain ⟨zb_a, zb_b, lb1⟩ := rcell f_b1
    obtain ⟨zo_a, zo_b, lo1⟩ := rcell f_o1
    obtain ⟨zp_a, zp_b, lp1⟩ := rcell f_p1
    go_wp2_with fail
    refine (c2 _ _ _).mono ?_
    rintro e w2 ⟨rfl, hb2⟩
    have f_a2 := kp hb2 (f_a1)
    have f_b2 := kp hb2 (f_b1)
    have f_o2 := kp hb2 (f_o1)
    have f_p2 := kp hb2 (f_p1)
    have rd_a2 := rd_a1.below hb2
    have rd_b2 := rd_b1.below hb2
    have rd_q2 := rn_q.below hb2
    have rd_t2 := rn_t.below hb2
    have hB2 := bB hB1 hb2
    clear za_a za_b zb_a zb_b zo_a zo_b zp_a zp_b
    obtain ⟨za_a, za_b, la2⟩ := rcell f_a2
    obtain ⟨zb_a, zb_b, lb2⟩ := rcell f_b2
    obtain ⟨zo_a, zo_b, lo2⟩ := rcell f_o2
    obtain ⟨zp_a, zp_b, lp2⟩ := rcell f_p2
    go_wp2_with fail
    refine (c3 _ _ _).mono ?_
    rintro e w3 ⟨rfl, hb3⟩
    have f_a3 := kp hb3 (f_a2)
    have f_b3 := kp hb3 (f_b2)
    have f_o3 := kp hb3 (f_o2)
    have f_p3 := kp hb3 (f_p2)
    have rd_a3 := rd_a2.below hb3
    have rd_b3 := rd_b2.below hb3
    have rd_q3 := rd_q2.below hb3
    have rd_t3 := rd_t2.below hb3
    have hB3 := bB hB2 hb3
    clear za_a za_b zb_a zb_b zo_a zo_b zp_a zp_b
    obtain ⟨za_a, za_b, la3⟩ := rcell f_a3
    obtain ⟨zb_a, zb_b, lb3⟩ := rcell f_b3
    obtain ⟨zo_a, zo_b, lo3⟩ := rcell f_o3
    obtain ⟨zp_a, zp_b, lp3⟩ := rcell f_p3
    go_wp2_with fail
    rw [row2 f_o3]
    generalize hT4 : setRow _ _ _ = w4
    obtain ⟨hx4, f_o4⟩ := fin_x (b0 _) f_o3 hT4
    clear hT4
    have f_a4 := kx hx4 (f_a3) (by omega)
    have f_b4 := kx hx4 (f_b3) (by omega)
    have f_p4 := kx hx4 (f_p3) (by omega)
    have rd_a4 := rd_a3.exc hx4 (f_o3) (by decide)
    have rd_b4 := rd_b3.exc hx4 (f_o3) (by decide)
    have rd_q4 := rd_q3.exc hx4 (f_o3) (by decide)
    have rd_t4 := rd_t3.exc hx4 (f_o3) (by decide)
    have hB4 := bX hB3 hx4 (by omega)
    clear za_a za_b zb_a zb_b zo_a zo_b zp_a zp_b
    obtain ⟨za_a, za_b, la4⟩ := rcell f_a4
    obtain ⟨zb_a, zb_b, lb4⟩ := rcell f_b4
    obtain ⟨zp_a, zp_b, lp4⟩ := rcell f_p4
    obtain ⟨zo_a, zo_b, lo4⟩ := rcell f_o4
    rw [row2 f_p4]
    generalize hT5 : setRow _ _ _ = w5
    obtain ⟨hx5, f_p5⟩ := fin_x (b0 _) f_p4 hT5
    clear hT5
    have f_a5 := kx hx5 (f_a4) (by omega)
    have f_b5 := kx hx5 (f_b4) (by omega)
    have f_o5 := kx hx5 (f_o4) (by omega)
    have rd_a5 := rd_a4.exc hx5 (f_p4) (by decide)
    have rd_b5 := rd_b4.exc hx5 (f_p4) (by decide)
    have rd_q5 := rd_q4.exc hx5 (f_p4) (by decide)
    have rd_t5 := rd_t4.exc hx5 (f_p4) (by decide)
    have hB5 := bX hB4 hx5 (by omega)
    clear za_a za_b zb_a zb_b zo_a zo_b zp_a zp_b
    obtain ⟨za_a, za_b, la5⟩ := rcell f_a5
    obtain ⟨zb_a, zb_b, lb5⟩ := rcell f_b5
    obtain ⟨zo_a, zo_b, lo5⟩ := rcell f_o5
    obtain ⟨zp_a, zp_b, lp5⟩ := rcell f_p5
    refine bodyPost_ret (by simp [results, Tryd.results87, go_sem, zo_a, zp_a]; try rfl) rfl ⟨A1, d1, A2, d2, by simp, hB5, rd_q5, rd_t5⟩
end Go.Proofs.YtpimkigbdjfjoaaDoor

namespace Go.Proofs.YtpimkigbdjfjoaaDoor
open Go.RowKit

theorem ref_Back0 (v : Int) (w : World) : Calls Tryd.prog 53 #[.int .i64 v] w fun e w' => e = .returned (.bool (bkB v)) ∧ w = w' := by
  by_cases h1 : -2305844108725321728 ≤ v
  · by_cases h2 : v ≤ 2305844108725321728
    · have hb : bkB v = true := decide_eq_true ⟨h1, h2⟩
      rw [hb]
      clear hb
      go_enter Tryd.func53, Tryd.ntmps53
      go_wp2
      go_ret
      exact ⟨rfl, rfl⟩
    · have hb : bkB v = false := decide_eq_false (fun h => h2 h.2)
      rw [hb]
      clear hb
      go_enter Tryd.func53, Tryd.ntmps53
      go_wp2
      go_ret
      exact ⟨rfl, rfl⟩
  · have hb : bkB v = false := decide_eq_false (fun h => h1 h.1)
    rw [hb]
    clear hb
    go_enter Tryd.func53, Tryd.ntmps53
    go_wp2
    go_ret
    exact ⟨rfl, rfl⟩

set_option maxHeartbeats 1000000 in

theorem ref_Back (v : Int) (w : World) : Calls Tryd.prog 53 #[.int .i64 v] w fun e w' => e = .returned (.bool (bkB v)) ∧ Below w.heap.size w w' :=
  (ref_Back0 v w).mono fun e w' ⟨h1, h2⟩ => ⟨h1, h2 ▸ Below.refl _ _⟩
/-- a value is two numbers -/
def Num2Is (x y : Int) (v : Value) (w : World) : Prop := ∃ A c B d, v = .tuple #[.agg #[.bool (decide (x < 0)), .slice A (sz x.natAbs).length c], .agg #[.bool (decide (y < 0)), .slice B (sz y.natAbs).length d]] ∧ Rd w A c (sz x.natAbs) ∧ Rd w B d (sz y.natAbs)
theorem Num2Is.rds {x y : Int} {A B : Option Addr} {b b' : Bool} {m c n d : Nat} {w : World} (h : Num2Is x y (.tuple #[.agg #[.bool b, .slice A m c], .agg #[.bool b', .slice B n d]]) w) : Rd w A c (sz x.natAbs) ∧ Rd w B d (sz y.natAbs) := by
  obtain ⟨A', c', B', d', e, hr, hs⟩ := h
  simp at e
  obtain ⟨⟨_, rfl, _, rfl⟩, _, rfl, _, rfl⟩ := e
  exact ⟨hr, hs⟩
theorem Cl_Num2Is (x y : Int) {v : Value} : Abs.Cl (fun _ => False) (Num2Is x y v) := by
  intro w w' ⟨A, c, B, d, e, hr, hs⟩ h
  have key : ∀ {A : Option Addr} {c : Nat} {l : List Nat}, Rd w A c l → Rd w' A c l := fun {A c l} hr => by
    refine ⟨hr.cap, fun hl => ?_⟩
    obtain ⟨g, cur, e1, hg, hc⟩ := hr.mem hl
    exact ⟨g, cur, e1, (h.block g (Array.getElem?_eq_some_iff.1 hg).1 (fun hf => hf)).trans hg, hc⟩
  exact ⟨A, c, B, d, e, key hr, key hs⟩
theorem GivesNum2.num2 {x y : Int} {w w' : World} {e : Ending} (h : GivesNum2 x y w e w') : ∃ v, e = .returned v ∧ Below w.heap.size w w' ∧ Num2Is x y v w' := by
  obtain ⟨A, c, B, d, he, hb, hr, hs⟩ := h
  exact ⟨_, he, hb, A, c, B, d, rfl, hr, hs⟩

set_option maxRecDepth 100000 in
set_option maxHeartbeats 2000000 in
theorem ref_Raised_yes (x N D : Int) (A : Option Addr) (c : Nat) (h : slB N D = true) (lx : (sz x.natAbs).length ≤ 800) (hq : bkB (x / D) = true) (w : World) (ha : Rd w A c (sz x.natAbs)) :
    Calls Tryd.prog 51 #[.agg #[.bool (decide (x < 0)), .slice A (sz x.natAbs).length c], .agg #[.int .i64 N, .int .i64 D]] w fun e w' => e = .returned (.tuple #[.agg #[.int .i64 (x / D), .int .i64 (x % D), .int .i64 N, .int .i64 D], .bool true]) ∧ Below w.heap.size w w' := by
  obtain ⟨d1, d2, d3, d4⟩ := slB_spec h
  have lD : (sz D.natAbs).length ≤ 800 := Nat.le_trans (sz_i64 (by omega) (by omega)) (by decide)
  have c1 := ref_Int D (by omega) (by omega)
  have c2 := fun B d w ha hb => ref_Div x D A B c d (by omega) lx lD w ha hb
  have hq2 : -2305844108725321728 ≤ x / D ∧ x / D ≤ 2305844108725321728 := of_decide_eq_true hq
  have r0 : 0 ≤ x % D := Int.emod_nonneg _ (by omega)
  have r1 : x % D < D := Int.emod_lt_of_pos _ (by omega)
  have c3 := fun A c w ha => ref_Value_yes (x / D) A c (by omega) (by omega) w ha
  have c4 := ref_Back (x / D)
  have c5 := fun A c w ha => ref_Value_yes (x % D) A c (by omega) (by omega) w ha
  rw [hq] at c4
  clear h lx hq hq2 r0 r1 lD d1 d2 d3 d4
  generalize x / D = q at *
  generalize x % D = r at *
  generalize x.natAbs = X at *
  generalize decide (x < 0) = p at *
  go_enter Tryd.func51, Tryd.ntmps51
  go_wp2_with fail
  have f_a1 := (ka (ka (na w #[.bool p, .slice A (sz X).length c] 94) (.cells #[.int .i64 N, .int .i64 D] 26)) (.cells #[.int .i64 0, .int .i64 0, .int .i64 0, .int .i64 0] 31))
  have f_s1 := (ka (na1 w (.cells #[.bool p, .slice A (sz X).length c] 94) #[.int .i64 N, .int .i64 D] 26) (.cells #[.int .i64 0, .int .i64 0, .int .i64 0, .int .i64 0] 31))
  have f_o1 := (na2 w (.cells #[.bool p, .slice A (sz X).length c] 94) (.cells #[.int .i64 N, .int .i64 D] 26) #[.int .i64 0, .int .i64 0, .int .i64 0, .int .i64 0] 31)
  have rd_a1 := (ha.below (bA (bA (bA (b0 _) (.cells #[.bool p, .slice A (sz X).length c] 94)) (.cells #[.int .i64 N, .int .i64 D] 26)) (.cells #[.int .i64 0, .int .i64 0, .int .i64 0, .int .i64 0] 31)))
  have hB1 := (bA (bA (bA (b0 w) (.cells #[.bool p, .slice A (sz X).length c] 94)) (.cells #[.int .i64 N, .int .i64 D] 26)) (.cells #[.int .i64 0, .int .i64 0, .int .i64 0, .int .i64 0] 31))
  have la1 := (rcell f_a1).2.2
  have ls1 := (rcell f_s1).2.2
  have lo1 := (rcell f_o1).2.2
  refine Abs.wp_region_abs (Abs.cls0 _) [0, 1, 2, 3, 4, 5, 6, 7, 8, 9, 10, 11] (by kernel_rfl) (by kernel_rfl) (Below.refl _ _).drew ?_
  repeat (first | (refine Abs.step_pure rfl rfl (fun K hK => ?_); go_simp; (try go_bits); (first | refine hK _ _ ?_ | (simp only [↓IntWalk.iteOmega]; go_simp; (try go_bits); refine hK _ _ ?_)); clear hK K) | (refine Abs.step_load (v := ?_) rfl rfl (by kernel_rfl) rfl (fun w0 hI => ?_) (fun K hK => ?_); rotate_left; (· have z0 := (rcell (kp hI (f_a1))).1; have z1 := (rcell (kp hI (f_s1))).1; go_simp; rfl); (simp only [Act.put, List.setIfInBounds_toArray, List.set_cons_zero, List.set_cons_succ]; refine hK _ _ ?_; clear hK K)) | (refine Abs.step_skip rfl rfl (fun K hK => ?_); (simp only [Act.put, List.setIfInBounds_toArray, List.set_cons_zero, List.set_cons_succ]; refine hK _ _ ?_; clear hK K)))
  (refine Abs.step_call (f := ?_) (args := ?_) rfl rfl rfl rfl (NumIs (D)) (fun _ => Cl_NumIs _) (fun w0 => ?_) (fun w0 hI hF => ?_) (fun K hK v w0 hv => ?_); rotate_left 2; (· go_simp; (constructor <;> rfl)); (· exact (c1 _).mono (fun _ _ h => h.num)); (obtain ⟨A1, e1, rfl, -⟩ := hv; clear w0; simp only [Act.put, List.setIfInBounds_toArray, List.set_cons_zero, List.set_cons_succ]; refine hK _ _ ?_; clear hK K))
  repeat (first | (refine Abs.step_pure rfl rfl (fun K hK => ?_); go_simp; (try go_bits); (first | refine hK _ _ ?_ | (simp only [↓IntWalk.iteOmega]; go_simp; (try go_bits); refine hK _ _ ?_)); clear hK K) | (refine Abs.step_load (v := ?_) rfl rfl (by kernel_rfl) rfl (fun w0 hI => ?_) (fun K hK => ?_); rotate_left; (· have z0 := (rcell (kp hI (f_a1))).1; have z1 := (rcell (kp hI (f_s1))).1; go_simp; rfl); (simp only [Act.put, List.setIfInBounds_toArray, List.set_cons_zero, List.set_cons_succ]; refine hK _ _ ?_; clear hK K)) | (refine Abs.step_skip rfl rfl (fun K hK => ?_); (simp only [Act.put, List.setIfInBounds_toArray, List.set_cons_zero, List.set_cons_succ]; refine hK _ _ ?_; clear hK K)))
  (refine Abs.step_call (f := ?_) (args := ?_) rfl rfl rfl rfl (Num2Is (q) (r)) (fun _ => Cl_Num2Is _ _) (fun w0 => ?_) (fun w0 hI hF => ?_) (fun K hK v w0 hv => ?_); rotate_left 2; (· go_simp; (constructor <;> rfl)); (· exact (c2 _ _ _ (rd_a1.below hI) ((hF 3 (by kernel_rfl)).2 rfl).rd).mono (fun _ _ h => h.num2)); (obtain ⟨A2, e2, A3, e3, rfl, -, -⟩ := hv; clear w0; simp only [Act.put, List.setIfInBounds_toArray, List.set_cons_zero, List.set_cons_succ]; refine hK _ _ ?_; clear hK K))
  repeat (first | (refine Abs.step_pure rfl rfl (fun K hK => ?_); go_simp; (try go_bits); (first | refine hK _ _ ?_ | (simp only [↓IntWalk.iteOmega]; go_simp; (try go_bits); refine hK _ _ ?_)); clear hK K) | (refine Abs.step_load (v := ?_) rfl rfl (by kernel_rfl) rfl (fun w0 hI => ?_) (fun K hK => ?_); rotate_left; (· have z0 := (rcell (kp hI (f_a1))).1; have z1 := (rcell (kp hI (f_s1))).1; go_simp; rfl); (simp only [Act.put, List.setIfInBounds_toArray, List.set_cons_zero, List.set_cons_succ]; refine hK _ _ ?_; clear hK K)) | (refine Abs.step_skip rfl rfl (fun K hK => ?_); (simp only [Act.put, List.setIfInBounds_toArray, List.set_cons_zero, List.set_cons_succ]; refine hK _ _ ?_; clear hK K)))
  (refine Abs.step_var (obj := ?_) rfl rfl rfl rfl (fun w0 => ?_) (fun K hK g_q hv_q hu_q => ?_); rotate_left; (· go_simp; rfl); (simp only [Act.put, List.setIfInBounds_toArray, List.set_cons_zero, List.set_cons_succ]; refine hK _ _ ?_; clear hK K))
  repeat (first | (refine Abs.step_pure rfl rfl (fun K hK => ?_); go_simp; (try go_bits); (first | refine hK _ _ ?_ | (simp only [↓IntWalk.iteOmega]; go_simp; (try go_bits); refine hK _ _ ?_)); clear hK K) | (refine Abs.step_load (v := ?_) rfl rfl (by kernel_rfl) rfl (fun w0 hI => ?_) (fun K hK => ?_); rotate_left; (· have z0 := (rcell (kp hI (f_a1))).1; have z1 := (rcell (kp hI (f_s1))).1; go_simp; rfl); (simp only [Act.put, List.setIfInBounds_toArray, List.set_cons_zero, List.set_cons_succ]; refine hK _ _ ?_; clear hK K)) | (refine Abs.step_skip rfl rfl (fun K hK => ?_); (simp only [Act.put, List.setIfInBounds_toArray, List.set_cons_zero, List.set_cons_succ]; refine hK _ _ ?_; clear hK K)))
  (refine Abs.step_var (obj := ?_) rfl rfl rfl rfl (fun w0 => ?_) (fun K hK g_t hv_t hu_t => ?_); rotate_left; (· go_simp; rfl); (simp only [Act.put, List.setIfInBounds_toArray, List.set_cons_zero, List.set_cons_succ]; refine hK _ _ ?_; clear hK K))
  repeat (first | (refine Abs.step_pure rfl rfl (fun K hK => ?_); go_simp; (try go_bits); (first | refine hK _ _ ?_ | (simp only [↓IntWalk.iteOmega]; go_simp; (try go_bits); refine hK _ _ ?_)); clear hK K) | (refine Abs.step_load (v := ?_) rfl rfl (by kernel_rfl) rfl (fun w0 hI => ?_) (fun K hK => ?_); rotate_left; (· have z0 := (rcell (kp hI (f_a1))).1; have z1 := (rcell (kp hI (f_s1))).1; go_simp; rfl); (simp only [Act.put, List.setIfInBounds_toArray, List.set_cons_zero, List.set_cons_succ]; refine hK _ _ ?_; clear hK K)) | (refine Abs.step_skip rfl rfl (fun K hK => ?_); (simp only [Act.put, List.setIfInBounds_toArray, List.set_cons_zero, List.set_cons_succ]; refine hK _ _ ?_; clear hK K)))
  (refine Abs.step_store (T := ?_) rfl rfl rfl (fun w0 hI hF hU => ?_) (fun _ _ _ _ => trivial) (fun K hK => ?_); rotate_left; (· have hR := (hF 8).1.2 rfl; have hg0 := (rcell hR).1; have hg1 := (rcell hR).2.1; simp only [Abs.T_setF, Abs.T_addA, Abs.T_push, Abs.T_start]; go_simp; exact row2 hR _ _); (simp only [Act.put, List.setIfInBounds_toArray, List.set_cons_zero, List.set_cons_succ]; refine hK _ _ ?_; clear hK K))
  (refine Abs.step_store (T := ?_) rfl rfl rfl (fun w0 hI hF hU => ?_) (fun _ _ _ _ => trivial) (fun K hK => ?_); rotate_left; (· have hR := fun cs => (setRow_other (w := w0) (g := g_q) cs (fun e => hu_t (Or.inl e))).trans ((hF 9).2 rfl); have hg0 := fun cs => (rcell (hR cs)).1; have hg1 := fun cs => (rcell (hR cs)).2.1; simp only [Abs.T_setF, Abs.T_addA, Abs.T_push, Abs.T_start]; go_simp; exact row2 (hR _) _ _); (simp only [Act.put, List.setIfInBounds_toArray, List.set_cons_zero, List.set_cons_succ]; refine hK _ _ ?_; clear hK K))
  have hs_q := leB hv_q
  try simp only [World.size_alloc] at hs_q
  have hs_t := leB hv_t
  try simp only [World.size_alloc] at hs_t
  have hn : g_t ≠ g_q := fun e => hu_t (Or.inl e)
  intro w0 hI hF hx1 hx2
  clear hx1 hx2
  have q1 := (hF 8).1.2 rfl
  have q2 := (hF 9).2 rfl
  have rn_q := ((hF 4).1.1.2 rfl).rds.1
  have rn_t := ((hF 4).1.1.2 rfl).rds.2
  clear hF
  simp only [Abs.T_push]
  generalize hTa : setRow w0 _ _ = wa
  have ea := (fin_x (b0 _) q1 hTa).1
  replace rn_q := rn_q.exc ea q1 (by decide)
  replace rn_t := rn_t.exc ea q1 (by decide)
  obtain ⟨ba, fa⟩ := fin1 hI hv_q q1 hTa
  have q3 : wa.heap[g_t]? = w0.heap[g_t]? := by rw [← hTa]; exact setRow_other _ hn
  replace q2 := q3.trans q2
  clear q3
  generalize hTb : setRow wa _ _ = w2
  have eb := (fin_x (b0 _) q2 hTb).1
  replace rn_q := rn_q.exc eb q2 (by decide)
  replace rn_t := rn_t.exc eb q2 (by decide)
  obtain ⟨hb2, f_t2⟩ := fin1 ba hv_t q2 hTb
  have q4 : w2.heap[g_q]? = wa.heap[g_q]? := by rw [← hTb]; exact setRow_other _ hn.symm
  have f_q2 := q4.trans fa
  clear q4
  clear hTa hTb ea eb q1 q2 fa ba hI w0
  have f_a2 := kp hb2 (f_a1)
  have f_s2 := kp hb2 (f_s1)
  have f_o2 := kp hb2 (f_o1)
  have rd_a2 := rd_a1.below hb2
  have hB2 := bB hB1 hb2
  obtain ⟨za_a, za_b, la2⟩ := rcell f_a2
  obtain ⟨zs_a, zs_b, ls2⟩ := rcell f_s2
  obtain ⟨zo_a, zo_b, lo2⟩ := rcell f_o2
  obtain ⟨zq_a, zq_b, lq2⟩ := rcell f_q2
  obtain ⟨zt_a, zt_b, lt2⟩ := rcell f_t2
  go_wp2_with fail
  refine (c3 _ _ _ rn_q).mono ?_
  rintro e w3 ⟨rfl, hb3⟩
  have f_a3 := kp hb3 (f_a2)
  have f_s3 := kp hb3 (f_s2)
  have f_o3 := kp hb3 (f_o2)
  have f_q3 := kp hb3 (f_q2)
  have f_t3 := kp hb3 (f_t2)
  have rd_a3 := rd_a2.below hb3
  have rd_q3 := rn_q.below hb3
  have rd_t3 := rn_t.below hb3
  have hB3 := bB hB2 hb3
  clear za_a za_b zo_a zo_b zq_a zq_b zs_a zs_b zt_a zt_b
  obtain ⟨za_a, za_b, la3⟩ := rcell f_a3
  obtain ⟨zs_a, zs_b, ls3⟩ := rcell f_s3
  obtain ⟨zo_a, zo_b, lo3⟩ := rcell f_o3
  obtain ⟨zq_a, zq_b, lq3⟩ := rcell f_q3
  obtain ⟨zt_a, zt_b, lt3⟩ := rcell f_t3
  go_wp2_with fail
  refine (c4 _).mono ?_
  rintro e w4 ⟨rfl, hb4⟩
  have f_a4 := kp hb4 (f_a3)
  have f_s4 := kp hb4 (f_s3)
  have f_o4 := kp hb4 (f_o3)
  have f_q4 := kp hb4 (f_q3)
  have f_t4 := kp hb4 (f_t3)
  have rd_a4 := rd_a3.below hb4
  have rd_q4 := rd_q3.below hb4
  have rd_t4 := rd_t3.below hb4
  have hB4 := bB hB3 hb4
  clear za_a za_b zo_a zo_b zq_a zq_b zs_a zs_b zt_a zt_b
  obtain ⟨za_a, za_b, la4⟩ := rcell f_a4
  obtain ⟨zs_a, zs_b, ls4⟩ := rcell f_s4
  obtain ⟨zo_a, zo_b, lo4⟩ := rcell f_o4
  obtain ⟨zq_a, zq_b, lq4⟩ := rcell f_q4
  obtain ⟨zt_a, zt_b, lt4⟩ := rcell f_t4
  go_wp2_with fail
  refine (c5 _ _ _ rd_t4).mono ?_
  rintro e w5 ⟨rfl, hb5⟩
  have f_a5 := kp hb5 (f_a4)
  have f_s5 := kp hb5 (f_s4)
  have f_o5 := kp hb5 (f_o4)
  have f_q5 := kp hb5 (f_q4)
  have f_t5 := kp hb5 (f_t4)
  have rd_a5 := rd_a4.below hb5
  have rd_q5 := rd_q4.below hb5
  have rd_t5 := rd_t4.below hb5
  have hB5 := bB hB4 hb5
  clear za_a za_b zo_a zo_b zq_a zq_b zs_a zs_b zt_a zt_b
  obtain ⟨za_a, za_b, la5⟩ := rcell f_a5
  obtain ⟨zs_a, zs_b, ls5⟩ := rcell f_s5
  obtain ⟨zo_a, zo_b, lo5⟩ := rcell f_o5
  obtain ⟨zq_a, zq_b, lq5⟩ := rcell f_q5
  obtain ⟨zt_a, zt_b, lt5⟩ := rcell f_t5
  go_wp2_with fail
  (rw [row4 (f_o5)]; generalize hT : setRow _ _ _ = wE; obtain ⟨hbE, hgE⟩ := ret_row hB5 (by omega) (f_o5) hT; have zE := (rcell hgE).1; clear hT; refine bodyPost_ret (by simp [results, Tryd.results51, go_sem, zE]; try rfl) rfl ?_)
  exact ⟨rfl, hbE⟩

set_option maxRecDepth 100000 in
set_option maxHeartbeats 2000000 in
theorem ref_Raised_big (x N D : Int) (A : Option Addr) (c : Nat) (h : slB N D = true) (lx : (sz x.natAbs).length ≤ 800) (hq : ¬ (-9223372036854775808 ≤ x / D ∧ x / D < 9223372036854775808)) (w : World) (ha : Rd w A c (sz x.natAbs)) :
    Calls Tryd.prog 51 #[.agg #[.bool (decide (x < 0)), .slice A (sz x.natAbs).length c], .agg #[.int .i64 N, .int .i64 D]] w fun e w' => e = .returned (.tuple #[.agg #[.int .i64 0, .int .i64 0, .int .i64 0, .int .i64 0], .bool false]) ∧ Below w.heap.size w w' := by
  obtain ⟨d1, d2, d3, d4⟩ := slB_spec h
  have lD : (sz D.natAbs).length ≤ 800 := Nat.le_trans (sz_i64 (by omega) (by omega)) (by decide)
  have c1 := ref_Int D (by omega) (by omega)
  have c2 := fun B d w ha hb => ref_Div x D A B c d (by omega) lx lD w ha hb
  have lq : (sz (x / D).natAbs).length ≤ 900 := by
    have h1 := bv_lt (Bin.sz x.natAbs)
    rw [bv_sz] at h1
    have h2 : (x / D).natAbs ≤ x.natAbs := by
      rcases Int.lt_or_le x 0 with hx | hx
      · have h3 := Int.ediv_neg_of_neg_of_pos hx (show 0 < D by omega)
        have h4 := Int.ediv_mul_le x (show D ≠ 0 by omega)
        have h5 := Int.lt_ediv_add_one_mul_self x (show 0 < D by omega)
        have h6 : x ≤ x / D := by
          refine (Int.le_ediv_iff_mul_le (show 0 < D by omega)).2 ?_
          have h7 : -x * 1 ≤ -x * D := Int.mul_le_mul_of_nonneg_left (by omega) (by omega)
          rw [Int.neg_mul, Int.neg_mul] at h7
          omega
        omega
      · have h3 := Int.ediv_nonneg hx (show 0 ≤ D by omega)
        have h4 := Int.ediv_le_self D hx
        omega
    exact Nat.le_trans (sz_len_lt (k := (sz x.natAbs).length) (Nat.lt_of_le_of_lt h2 h1)) (by omega)
  have c3 := fun A c w ha => ref_Value_no (x / D) A c lq hq w ha
  clear lq
  clear h lx hq lD d1 d2 d3 d4
  generalize x / D = q at *
  generalize x % D = r at *
  generalize x.natAbs = X at *
  generalize decide (x < 0) = p at *
  go_enter Tryd.func51, Tryd.ntmps51
  go_wp2_with fail
  have f_a1 := (ka (ka (na w #[.bool p, .slice A (sz X).length c] 94) (.cells #[.int .i64 N, .int .i64 D] 26)) (.cells #[.int .i64 0, .int .i64 0, .int .i64 0, .int .i64 0] 31))
  have f_s1 := (ka (na1 w (.cells #[.bool p, .slice A (sz X).length c] 94) #[.int .i64 N, .int .i64 D] 26) (.cells #[.int .i64 0, .int .i64 0, .int .i64 0, .int .i64 0] 31))
  have f_o1 := (na2 w (.cells #[.bool p, .slice A (sz X).length c] 94) (.cells #[.int .i64 N, .int .i64 D] 26) #[.int .i64 0, .int .i64 0, .int .i64 0, .int .i64 0] 31)
  have rd_a1 := (ha.below (bA (bA (bA (b0 _) (.cells #[.bool p, .slice A (sz X).length c] 94)) (.cells #[.int .i64 N, .int .i64 D] 26)) (.cells #[.int .i64 0, .int .i64 0, .int .i64 0, .int .i64 0] 31)))
  have hB1 := (bA (bA (bA (b0 w) (.cells #[.bool p, .slice A (sz X).length c] 94)) (.cells #[.int .i64 N, .int .i64 D] 26)) (.cells #[.int .i64 0, .int .i64 0, .int .i64 0, .int .i64 0] 31))
  have la1 := (rcell f_a1).2.2
  have ls1 := (rcell f_s1).2.2
  have lo1 := (rcell f_o1).2.2
  refine Abs.wp_region_abs (Abs.cls0 _) [0, 1, 2, 3, 4, 5, 6, 7, 8, 9, 10, 11] (by kernel_rfl) (by kernel_rfl) (Below.refl _ _).drew ?_
  repeat (first | (refine Abs.step_pure rfl rfl (fun K hK => ?_); go_simp; (try go_bits); (first | refine hK _ _ ?_ | (simp only [↓IntWalk.iteOmega]; go_simp; (try go_bits); refine hK _ _ ?_)); clear hK K) | (refine Abs.step_load (v := ?_) rfl rfl (by kernel_rfl) rfl (fun w0 hI => ?_) (fun K hK => ?_); rotate_left; (· have z0 := (rcell (kp hI (f_a1))).1; have z1 := (rcell (kp hI (f_s1))).1; go_simp; rfl); (simp only [Act.put, List.setIfInBounds_toArray, List.set_cons_zero, List.set_cons_succ]; refine hK _ _ ?_; clear hK K)) | (refine Abs.step_skip rfl rfl (fun K hK => ?_); (simp only [Act.put, List.setIfInBounds_toArray, List.set_cons_zero, List.set_cons_succ]; refine hK _ _ ?_; clear hK K)))
  (refine Abs.step_call (f := ?_) (args := ?_) rfl rfl rfl rfl (NumIs (D)) (fun _ => Cl_NumIs _) (fun w0 => ?_) (fun w0 hI hF => ?_) (fun K hK v w0 hv => ?_); rotate_left 2; (· go_simp; (constructor <;> rfl)); (· exact (c1 _).mono (fun _ _ h => h.num)); (obtain ⟨A1, e1, rfl, -⟩ := hv; clear w0; simp only [Act.put, List.setIfInBounds_toArray, List.set_cons_zero, List.set_cons_succ]; refine hK _ _ ?_; clear hK K))
  repeat (first | (refine Abs.step_pure rfl rfl (fun K hK => ?_); go_simp; (try go_bits); (first | refine hK _ _ ?_ | (simp only [↓IntWalk.iteOmega]; go_simp; (try go_bits); refine hK _ _ ?_)); clear hK K) | (refine Abs.step_load (v := ?_) rfl rfl (by kernel_rfl) rfl (fun w0 hI => ?_) (fun K hK => ?_); rotate_left; (· have z0 := (rcell (kp hI (f_a1))).1; have z1 := (rcell (kp hI (f_s1))).1; go_simp; rfl); (simp only [Act.put, List.setIfInBounds_toArray, List.set_cons_zero, List.set_cons_succ]; refine hK _ _ ?_; clear hK K)) | (refine Abs.step_skip rfl rfl (fun K hK => ?_); (simp only [Act.put, List.setIfInBounds_toArray, List.set_cons_zero, List.set_cons_succ]; refine hK _ _ ?_; clear hK K)))
  (refine Abs.step_call (f := ?_) (args := ?_) rfl rfl rfl rfl (Num2Is (q) (r)) (fun _ => Cl_Num2Is _ _) (fun w0 => ?_) (fun w0 hI hF => ?_) (fun K hK v w0 hv => ?_); rotate_left 2; (· go_simp; (constructor <;> rfl)); (· exact (c2 _ _ _ (rd_a1.below hI) ((hF 3 (by kernel_rfl)).2 rfl).rd).mono (fun _ _ h => h.num2)); (obtain ⟨A2, e2, A3, e3, rfl, -, -⟩ := hv; clear w0; simp only [Act.put, List.setIfInBounds_toArray, List.set_cons_zero, List.set_cons_succ]; refine hK _ _ ?_; clear hK K))
  repeat (first | (refine Abs.step_pure rfl rfl (fun K hK => ?_); go_simp; (try go_bits); (first | refine hK _ _ ?_ | (simp only [↓IntWalk.iteOmega]; go_simp; (try go_bits); refine hK _ _ ?_)); clear hK K) | (refine Abs.step_load (v := ?_) rfl rfl (by kernel_rfl) rfl (fun w0 hI => ?_) (fun K hK => ?_); rotate_left; (· have z0 := (rcell (kp hI (f_a1))).1; have z1 := (rcell (kp hI (f_s1))).1; go_simp; rfl); (simp only [Act.put, List.setIfInBounds_toArray, List.set_cons_zero, List.set_cons_succ]; refine hK _ _ ?_; clear hK K)) | (refine Abs.step_skip rfl rfl (fun K hK => ?_); (simp only [Act.put, List.setIfInBounds_toArray, List.set_cons_zero, List.set_cons_succ]; refine hK _ _ ?_; clear hK K)))
  (refine Abs.step_var (obj := ?_) rfl rfl rfl rfl (fun w0 => ?_) (fun K hK g_q hv_q hu_q => ?_); rotate_left; (· go_simp; rfl); (simp only [Act.put, List.setIfInBounds_toArray, List.set_cons_zero, List.set_cons_succ]; refine hK _ _ ?_; clear hK K))
  repeat (first | (refine Abs.step_pure rfl rfl (fun K hK => ?_); go_simp; (try go_bits); (first | refine hK _ _ ?_ | (simp only [↓IntWalk.iteOmega]; go_simp; (try go_bits); refine hK _ _ ?_)); clear hK K) | (refine Abs.step_load (v := ?_) rfl rfl (by kernel_rfl) rfl (fun w0 hI => ?_) (fun K hK => ?_); rotate_left; (· have z0 := (rcell (kp hI (f_a1))).1; have z1 := (rcell (kp hI (f_s1))).1; go_simp; rfl); (simp only [Act.put, List.setIfInBounds_toArray, List.set_cons_zero, List.set_cons_succ]; refine hK _ _ ?_; clear hK K)) | (refine Abs.step_skip rfl rfl (fun K hK => ?_); (simp only [Act.put, List.setIfInBounds_toArray, List.set_cons_zero, List.set_cons_succ]; refine hK _ _ ?_; clear hK K)))
  (refine Abs.step_var (obj := ?_) rfl rfl rfl rfl (fun w0 => ?_) (fun K hK g_t hv_t hu_t => ?_); rotate_left; (· go_simp; rfl); (simp only [Act.put, List.setIfInBounds_toArray, List.set_cons_zero, List.set_cons_succ]; refine hK _ _ ?_; clear hK K))
  repeat (first | (refine Abs.step_pure rfl rfl (fun K hK => ?_); go_simp; (try go_bits); (first | refine hK _ _ ?_ | (simp only [↓IntWalk.iteOmega]; go_simp; (try go_bits); refine hK _ _ ?_)); clear hK K) | (refine Abs.step_load (v := ?_) rfl rfl (by kernel_rfl) rfl (fun w0 hI => ?_) (fun K hK => ?_); rotate_left; (· have z0 := (rcell (kp hI (f_a1))).1; have z1 := (rcell (kp hI (f_s1))).1; go_simp; rfl); (simp only [Act.put, List.setIfInBounds_toArray, List.set_cons_zero, List.set_cons_succ]; refine hK _ _ ?_; clear hK K)) | (refine Abs.step_skip rfl rfl (fun K hK => ?_); (simp only [Act.put, List.setIfInBounds_toArray, List.set_cons_zero, List.set_cons_succ]; refine hK _ _ ?_; clear hK K)))
  (refine Abs.step_store (T := ?_) rfl rfl rfl (fun w0 hI hF hU => ?_) (fun _ _ _ _ => trivial) (fun K hK => ?_); rotate_left; (· have hR := (hF 8).1.2 rfl; have hg0 := (rcell hR).1; have hg1 := (rcell hR).2.1; simp only [Abs.T_setF, Abs.T_addA, Abs.T_push, Abs.T_start]; go_simp; exact row2 hR _ _); (simp only [Act.put, List.setIfInBounds_toArray, List.set_cons_zero, List.set_cons_succ]; refine hK _ _ ?_; clear hK K))
  (refine Abs.step_store (T := ?_) rfl rfl rfl (fun w0 hI hF hU => ?_) (fun _ _ _ _ => trivial) (fun K hK => ?_); rotate_left; (· have hR := fun cs => (setRow_other (w := w0) (g := g_q) cs (fun e => hu_t (Or.inl e))).trans ((hF 9).2 rfl); have hg0 := fun cs => (rcell (hR cs)).1; have hg1 := fun cs => (rcell (hR cs)).2.1; simp only [Abs.T_setF, Abs.T_addA, Abs.T_push, Abs.T_start]; go_simp; exact row2 (hR _) _ _); (simp only [Act.put, List.setIfInBounds_toArray, List.set_cons_zero, List.set_cons_succ]; refine hK _ _ ?_; clear hK K))
  have hs_q := leB hv_q
  try simp only [World.size_alloc] at hs_q
  have hs_t := leB hv_t
  try simp only [World.size_alloc] at hs_t
  have hn : g_t ≠ g_q := fun e => hu_t (Or.inl e)
  intro w0 hI hF hx1 hx2
  clear hx1 hx2
  have q1 := (hF 8).1.2 rfl
  have q2 := (hF 9).2 rfl
  have rn_q := ((hF 4).1.1.2 rfl).rds.1
  have rn_t := ((hF 4).1.1.2 rfl).rds.2
  clear hF
  simp only [Abs.T_push]
  generalize hTa : setRow w0 _ _ = wa
  have ea := (fin_x (b0 _) q1 hTa).1
  replace rn_q := rn_q.exc ea q1 (by decide)
  replace rn_t := rn_t.exc ea q1 (by decide)
  obtain ⟨ba, fa⟩ := fin1 hI hv_q q1 hTa
  have q3 : wa.heap[g_t]? = w0.heap[g_t]? := by rw [← hTa]; exact setRow_other _ hn
  replace q2 := q3.trans q2
  clear q3
  generalize hTb : setRow wa _ _ = w2
  have eb := (fin_x (b0 _) q2 hTb).1
  replace rn_q := rn_q.exc eb q2 (by decide)
  replace rn_t := rn_t.exc eb q2 (by decide)
  obtain ⟨hb2, f_t2⟩ := fin1 ba hv_t q2 hTb
  have q4 : w2.heap[g_q]? = wa.heap[g_q]? := by rw [← hTb]; exact setRow_other _ hn.symm
  have f_q2 := q4.trans fa
  clear q4
  clear hTa hTb ea eb q1 q2 fa ba hI w0
  have f_a2 := kp hb2 (f_a1)
  have f_s2 := kp hb2 (f_s1)
  have f_o2 := kp hb2 (f_o1)
  have rd_a2 := rd_a1.below hb2
  have hB2 := bB hB1 hb2
  obtain ⟨za_a, za_b, la2⟩ := rcell f_a2
  obtain ⟨zs_a, zs_b, ls2⟩ := rcell f_s2
  obtain ⟨zo_a, zo_b, lo2⟩ := rcell f_o2
  obtain ⟨zq_a, zq_b, lq2⟩ := rcell f_q2
  obtain ⟨zt_a, zt_b, lt2⟩ := rcell f_t2
  go_wp2_with fail
  refine (c3 _ _ _ rn_q).mono ?_
  rintro e w3 ⟨rfl, hb3⟩
  have f_a3 := kp hb3 (f_a2)
  have f_s3 := kp hb3 (f_s2)
  have f_o3 := kp hb3 (f_o2)
  have f_q3 := kp hb3 (f_q2)
  have f_t3 := kp hb3 (f_t2)
  have rd_a3 := rd_a2.below hb3
  have rd_q3 := rn_q.below hb3
  have rd_t3 := rn_t.below hb3
  have hB3 := bB hB2 hb3
  clear za_a za_b zo_a zo_b zq_a zq_b zs_a zs_b zt_a zt_b
  obtain ⟨za_a, za_b, la3⟩ := rcell f_a3
  obtain ⟨zs_a, zs_b, ls3⟩ := rcell f_s3
  obtain ⟨zo_a, zo_b, lo3⟩ := rcell f_o3
  obtain ⟨zq_a, zq_b, lq3⟩ := rcell f_q3
  obtain ⟨zt_a, zt_b, lt3⟩ := rcell f_t3
  go_wp2_with fail
  (rw [row4 (f_o3)]; generalize hT : setRow _ _ _ = wE; obtain ⟨hbE, hgE⟩ := ret_row hB3 (by omega) (f_o3) hT; have zE := (rcell hgE).1; clear hT; refine bodyPost_ret (by simp [results, Tryd.results51, go_sem, zE]; try rfl) rfl ?_)
  exact ⟨rfl, hbE⟩

set_option maxRecDepth 100000 in
set_option maxHeartbeats 2000000 in
theorem ref_Raised_far (x N D : Int) (A : Option Addr) (c : Nat) (h : slB N D = true) (lx : (sz x.natAbs).length ≤ 800) (hq2 : -9223372036854775808 ≤ x / D ∧ x / D < 9223372036854775808) (hq : bkB (x / D) = false) (w : World) (ha : Rd w A c (sz x.natAbs)) :
    Calls Tryd.prog 51 #[.agg #[.bool (decide (x < 0)), .slice A (sz x.natAbs).length c], .agg #[.int .i64 N, .int .i64 D]] w fun e w' => e = .returned (.tuple #[.agg #[.int .i64 0, .int .i64 0, .int .i64 0, .int .i64 0], .bool false]) ∧ Below w.heap.size w w' := by
  obtain ⟨d1, d2, d3, d4⟩ := slB_spec h
  have lD : (sz D.natAbs).length ≤ 800 := Nat.le_trans (sz_i64 (by omega) (by omega)) (by decide)
  have c1 := ref_Int D (by omega) (by omega)
  have c2 := fun B d w ha hb => ref_Div x D A B c d (by omega) lx lD w ha hb
  have c3 := fun A c w ha => ref_Value_yes (x / D) A c (by omega) (by omega) w ha
  have c4 := ref_Back (x / D)
  rw [hq] at c4
  clear hq2
  clear h lx hq lD d1 d2 d3 d4
  generalize x / D = q at *
  generalize x % D = r at *
  generalize x.natAbs = X at *
  generalize decide (x < 0) = p at *
  go_enter Tryd.func51, Tryd.ntmps51
  go_wp2_with fail
  have f_a1 := (ka (ka (na w #[.bool p, .slice A (sz X).length c] 94) (.cells #[.int .i64 N, .int .i64 D] 26)) (.cells #[.int .i64 0, .int .i64 0, .int .i64 0, .int .i64 0] 31))
  have f_s1 := (ka (na1 w (.cells #[.bool p, .slice A (sz X).length c] 94) #[.int .i64 N, .int .i64 D] 26) (.cells #[.int .i64 0, .int .i64 0, .int .i64 0, .int .i64 0] 31))
  have f_o1 := (na2 w (.cells #[.bool p, .slice A (sz X).length c] 94) (.cells #[.int .i64 N, .int .i64 D] 26) #[.int .i64 0, .int .i64 0, .int .i64 0, .int .i64 0] 31)
  have rd_a1 := (ha.below (bA (bA (bA (b0 _) (.cells #[.bool p, .slice A (sz X).length c] 94)) (.cells #[.int .i64 N, .int .i64 D] 26)) (.cells #[.int .i64 0, .int .i64 0, .int .i64 0, .int .i64 0] 31)))
  have hB1 := (bA (bA (bA (b0 w) (.cells #[.bool p, .slice A (sz X).length c] 94)) (.cells #[.int .i64 N, .int .i64 D] 26)) (.cells #[.int .i64 0, .int .i64 0, .int .i64 0, .int .i64 0] 31))
  have la1 := (rcell f_a1).2.2
  have ls1 := (rcell f_s1).2.2
  have lo1 := (rcell f_o1).2.2
  refine Abs.wp_region_abs (Abs.cls0 _) [0, 1, 2, 3, 4, 5, 6, 7, 8, 9, 10, 11] (by kernel_rfl) (by kernel_rfl) (Below.refl _ _).drew ?_
  repeat (first | (refine Abs.step_pure rfl rfl (fun K hK => ?_); go_simp; (try go_bits); (first | refine hK _ _ ?_ | (simp only [↓IntWalk.iteOmega]; go_simp; (try go_bits); refine hK _ _ ?_)); clear hK K) | (refine Abs.step_load (v := ?_) rfl rfl (by kernel_rfl) rfl (fun w0 hI => ?_) (fun K hK => ?_); rotate_left; (· have z0 := (rcell (kp hI (f_a1))).1; have z1 := (rcell (kp hI (f_s1))).1; go_simp; rfl); (simp only [Act.put, List.setIfInBounds_toArray, List.set_cons_zero, List.set_cons_succ]; refine hK _ _ ?_; clear hK K)) | (refine Abs.step_skip rfl rfl (fun K hK => ?_); (simp only [Act.put, List.setIfInBounds_toArray, List.set_cons_zero, List.set_cons_succ]; refine hK _ _ ?_; clear hK K)))
  (refine Abs.step_call (f := ?_) (args := ?_) rfl rfl rfl rfl (NumIs (D)) (fun _ => Cl_NumIs _) (fun w0 => ?_) (fun w0 hI hF => ?_) (fun K hK v w0 hv => ?_); rotate_left 2; (· go_simp; (constructor <;> rfl)); (· exact (c1 _).mono (fun _ _ h => h.num)); (obtain ⟨A1, e1, rfl, -⟩ := hv; clear w0; simp only [Act.put, List.setIfInBounds_toArray, List.set_cons_zero, List.set_cons_succ]; refine hK _ _ ?_; clear hK K))
  repeat (first | (refine Abs.step_pure rfl rfl (fun K hK => ?_); go_simp; (try go_bits); (first | refine hK _ _ ?_ | (simp only [↓IntWalk.iteOmega]; go_simp; (try go_bits); refine hK _ _ ?_)); clear hK K) | (refine Abs.step_load (v := ?_) rfl rfl (by kernel_rfl) rfl (fun w0 hI => ?_) (fun K hK => ?_); rotate_left; (· have z0 := (rcell (kp hI (f_a1))).1; have z1 := (rcell (kp hI (f_s1))).1; go_simp; rfl); (simp only [Act.put, List.setIfInBounds_toArray, List.set_cons_zero, List.set_cons_succ]; refine hK _ _ ?_; clear hK K)) | (refine Abs.step_skip rfl rfl (fun K hK => ?_); (simp only [Act.put, List.setIfInBounds_toArray, List.set_cons_zero, List.set_cons_succ]; refine hK _ _ ?_; clear hK K)))
  (refine Abs.step_call (f := ?_) (args := ?_) rfl rfl rfl rfl (Num2Is (q) (r)) (fun _ => Cl_Num2Is _ _) (fun w0 => ?_) (fun w0 hI hF => ?_) (fun K hK v w0 hv => ?_); rotate_left 2; (· go_simp; (constructor <;> rfl)); (· exact (c2 _ _ _ (rd_a1.below hI) ((hF 3 (by kernel_rfl)).2 rfl).rd).mono (fun _ _ h => h.num2)); (obtain ⟨A2, e2, A3, e3, rfl, -, -⟩ := hv; clear w0; simp only [Act.put, List.setIfInBounds_toArray, List.set_cons_zero, List.set_cons_succ]; refine hK _ _ ?_; clear hK K))
  repeat (first | (refine Abs.step_pure rfl rfl (fun K hK => ?_); go_simp; (try go_bits); (first | refine hK _ _ ?_ | (simp only [↓IntWalk.iteOmega]; go_simp; (try go_bits); refine hK _ _ ?_)); clear hK K) | (refine Abs.step_load (v := ?_) rfl rfl (by kernel_rfl) rfl (fun w0 hI => ?_) (fun K hK => ?_); rotate_left; (· have z0 := (rcell (kp hI (f_a1))).1; have z1 := (rcell (kp hI (f_s1))).1; go_simp; rfl); (simp only [Act.put, List.setIfInBounds_toArray, List.set_cons_zero, List.set_cons_succ]; refine hK _ _ ?_; clear hK K)) | (refine Abs.step_skip rfl rfl (fun K hK => ?_); (simp only [Act.put, List.setIfInBounds_toArray, List.set_cons_zero, List.set_cons_succ]; refine hK _ _ ?_; clear hK K)))
  (refine Abs.step_var (obj := ?_) rfl rfl rfl rfl (fun w0 => ?_) (fun K hK g_q hv_q hu_q => ?_); rotate_left; (· go_simp; rfl); (simp only [Act.put, List.setIfInBounds_toArray, List.set_cons_zero, List.set_cons_succ]; refine hK _ _ ?_; clear hK K))
  repeat (first | (refine Abs.step_pure rfl rfl (fun K hK => ?_); go_simp; (try go_bits); (first | refine hK _ _ ?_ | (simp only [↓IntWalk.iteOmega]; go_simp; (try go_bits); refine hK _ _ ?_)); clear hK K) | (refine Abs.step_load (v := ?_) rfl rfl (by kernel_rfl) rfl (fun w0 hI => ?_) (fun K hK => ?_); rotate_left; (· have z0 := (rcell (kp hI (f_a1))).1; have z1 := (rcell (kp hI (f_s1))).1; go_simp; rfl); (simp only [Act.put, List.setIfInBounds_toArray, List.set_cons_zero, List.set_cons_succ]; refine hK _ _ ?_; clear hK K)) | (refine Abs.step_skip rfl rfl (fun K hK => ?_); (simp only [Act.put, List.setIfInBounds_toArray, List.set_cons_zero, List.set_cons_succ]; refine hK _ _ ?_; clear hK K)))
  (refine Abs.step_var (obj := ?_) rfl rfl rfl rfl (fun w0 => ?_) (fun K hK g_t hv_t hu_t => ?_); rotate_left; (· go_simp; rfl); (simp only [Act.put, List.setIfInBounds_toArray, List.set_cons_zero, List.set_cons_succ]; refine hK _ _ ?_; clear hK K))
  repeat (first | (refine Abs.step_pure rfl rfl (fun K hK => ?_); go_simp; (try go_bits); (first | refine hK _ _ ?_ | (simp only [↓IntWalk.iteOmega]; go_simp; (try go_bits); refine hK _ _ ?_)); clear hK K) | (refine Abs.step_load (v := ?_) rfl rfl (by kernel_rfl) rfl (fun w0 hI => ?_) (fun K hK => ?_); rotate_left; (· have z0 := (rcell (kp hI (f_a1))).1; have z1 := (rcell (kp hI (f_s1))).1; go_simp; rfl); (simp only [Act.put, List.setIfInBounds_toArray, List.set_cons_zero, List.set_cons_succ]; refine hK _ _ ?_; clear hK K)) | (refine Abs.step_skip rfl rfl (fun K hK => ?_); (simp only [Act.put, List.setIfInBounds_toArray, List.set_cons_zero, List.set_cons_succ]; refine hK _ _ ?_; clear hK K)))
  (refine Abs.step_store (T := ?_) rfl rfl rfl (fun w0 hI hF hU => ?_) (fun _ _ _ _ => trivial) (fun K hK => ?_); rotate_left; (· have hR := (hF 8).1.2 rfl; have hg0 := (rcell hR).1; have hg1 := (rcell hR).2.1; simp only [Abs.T_setF, Abs.T_addA, Abs.T_push, Abs.T_start]; go_simp; exact row2 hR _ _); (simp only [Act.put, List.setIfInBounds_toArray, List.set_cons_zero, List.set_cons_succ]; refine hK _ _ ?_; clear hK K))
  (refine Abs.step_store (T := ?_) rfl rfl rfl (fun w0 hI hF hU => ?_) (fun _ _ _ _ => trivial) (fun K hK => ?_); rotate_left; (· have hR := fun cs => (setRow_other (w := w0) (g := g_q) cs (fun e => hu_t (Or.inl e))).trans ((hF 9).2 rfl); have hg0 := fun cs => (rcell (hR cs)).1; have hg1 := fun cs => (rcell (hR cs)).2.1; simp only [Abs.T_setF, Abs.T_addA, Abs.T_push, Abs.T_start]; go_simp; exact row2 (hR _) _ _); (simp only [Act.put, List.setIfInBounds_toArray, List.set_cons_zero, List.set_cons_succ]; refine hK _ _ ?_; clear hK K))
  have hs_q := leB hv_q
  try simp only [World.size_alloc] at hs_q
  have hs_t := leB hv_t
  try simp only [World.size_alloc] at hs_t
  have hn : g_t ≠ g_q := fun e => hu_t (Or.inl e)
  intro w0 hI hF hx1 hx2
  clear hx1 hx2
  have q1 := (hF 8).1.2 rfl
  have q2 := (hF 9).2 rfl
  have rn_q := ((hF 4).1.1.2 rfl).rds.1
  have rn_t := ((hF 4).1.1.2 rfl).rds.2
  clear hF
  simp only [Abs.T_push]
  generalize hTa : setRow w0 _ _ = wa
  have ea := (fin_x (b0 _) q1 hTa).1
  replace rn_q := rn_q.exc ea q1 (by decide)
  replace rn_t := rn_t.exc ea q1 (by decide)
  obtain ⟨ba, fa⟩ := fin1 hI hv_q q1 hTa
  have q3 : wa.heap[g_t]? = w0.heap[g_t]? := by rw [← hTa]; exact setRow_other _ hn
  replace q2 := q3.trans q2
  clear q3
  generalize hTb : setRow wa _ _ = w2
  have eb := (fin_x (b0 _) q2 hTb).1
  replace rn_q := rn_q.exc eb q2 (by decide)
  replace rn_t := rn_t.exc eb q2 (by decide)
  obtain ⟨hb2, f_t2⟩ := fin1 ba hv_t q2 hTb
  have q4 : w2.heap[g_q]? = wa.heap[g_q]? := by rw [← hTb]; exact setRow_other _ hn.symm
  have f_q2 := q4.trans fa
  clear q4
  clear hTa hTb ea eb q1 q2 fa ba hI w0
  have f_a2 := kp hb2 (f_a1)
  have f_s2 := kp hb2 (f_s1)
  have f_o2 := kp hb2 (f_o1)
  have rd_a2 := rd_a1.below hb2
  have hB2 := bB hB1 hb2
  obtain ⟨za_a, za_b, la2⟩ := rcell f_a2
  obtain ⟨zs_a, zs_b, ls2⟩ := rcell f_s2
  obtain ⟨zo_a, zo_b, lo2⟩ := rcell f_o2
  obtain ⟨zq_a, zq_b, lq2⟩ := rcell f_q2
  obtain ⟨zt_a, zt_b, lt2⟩ := rcell f_t2
  go_wp2_with fail
  refine (c3 _ _ _ rn_q).mono ?_
  rintro e w3 ⟨rfl, hb3⟩
  have f_a3 := kp hb3 (f_a2)
  have f_s3 := kp hb3 (f_s2)
  have f_o3 := kp hb3 (f_o2)
  have f_q3 := kp hb3 (f_q2)
  have f_t3 := kp hb3 (f_t2)
  have rd_a3 := rd_a2.below hb3
  have rd_q3 := rn_q.below hb3
  have rd_t3 := rn_t.below hb3
  have hB3 := bB hB2 hb3
  clear za_a za_b zo_a zo_b zq_a zq_b zs_a zs_b zt_a zt_b
  obtain ⟨za_a, za_b, la3⟩ := rcell f_a3
  obtain ⟨zs_a, zs_b, ls3⟩ := rcell f_s3
  obtain ⟨zo_a, zo_b, lo3⟩ := rcell f_o3
  obtain ⟨zq_a, zq_b, lq3⟩ := rcell f_q3
  obtain ⟨zt_a, zt_b, lt3⟩ := rcell f_t3
  go_wp2_with fail
  refine (c4 _).mono ?_
  rintro e w4 ⟨rfl, hb4⟩
  have f_a4 := kp hb4 (f_a3)
  have f_s4 := kp hb4 (f_s3)
  have f_o4 := kp hb4 (f_o3)
  have f_q4 := kp hb4 (f_q3)
  have f_t4 := kp hb4 (f_t3)
  have rd_a4 := rd_a3.below hb4
  have rd_q4 := rd_q3.below hb4
  have rd_t4 := rd_t3.below hb4
  have hB4 := bB hB3 hb4
  clear za_a za_b zo_a zo_b zq_a zq_b zs_a zs_b zt_a zt_b
  obtain ⟨za_a, za_b, la4⟩ := rcell f_a4
  obtain ⟨zs_a, zs_b, ls4⟩ := rcell f_s4
  obtain ⟨zo_a, zo_b, lo4⟩ := rcell f_o4
  obtain ⟨zq_a, zq_b, lq4⟩ := rcell f_q4
  obtain ⟨zt_a, zt_b, lt4⟩ := rcell f_t4
  go_wp2_with fail
  (rw [row4 (f_o4)]; generalize hT : setRow _ _ _ = wE; obtain ⟨hbE, hgE⟩ := ret_row hB4 (by omega) (f_o4) hT; have zE := (rcell hgE).1; clear hT; refine bodyPost_ret (by simp [results, Tryd.results51, go_sem, zE]; try rfl) rfl ?_)
  exact ⟨rfl, hbE⟩

set_option maxRecDepth 100000 in
set_option maxHeartbeats 2000000 in
theorem line_Raised_slope (x N D : Int) (h : slB N D = false) (w : World) :
    Calls Tryd.prog 44 #[.agg #[.int .i64 (hi x), .int .u64 (lo x)], .agg #[.int .i64 N, .int .i64 D]] w fun e w' => e = .returned (.tuple #[.agg #[.int .i64 0, .int .i64 0, .int .i64 0, .int .i64 0], .int .i64 151]) ∧ Below w.heap.size w w' := by
  have c1 := line_slopeIs N D
  rw [h] at c1
  clear h
  generalize hi x = H at *
  generalize lo x = L at *
  go_enter Tryd.func44, Tryd.ntmps44
  go_wp2_with fail
  refine (c1 _).mono ?_
  rintro e w1 ⟨rfl, hb1⟩
  have f_c1 := kp hb1 (ka (ka (na w #[.int .i64 H, .int .u64 L] 57) (.cells #[.int .i64 N, .int .i64 D] 26)) (.cells #[.int .i64 0, .int .i64 0, .int .i64 0, .int .i64 0] 31))
  have f_s1 := kp hb1 (ka (na1 w (.cells #[.int .i64 H, .int .u64 L] 57) #[.int .i64 N, .int .i64 D] 26) (.cells #[.int .i64 0, .int .i64 0, .int .i64 0, .int .i64 0] 31))
  have f_o1 := kp hb1 (na2 w (.cells #[.int .i64 H, .int .u64 L] 57) (.cells #[.int .i64 N, .int .i64 D] 26) #[.int .i64 0, .int .i64 0, .int .i64 0, .int .i64 0] 31)
  have hB1 := bB (bA (bA (bA (b0 w) (.cells #[.int .i64 H, .int .u64 L] 57)) (.cells #[.int .i64 N, .int .i64 D] 26)) (.cells #[.int .i64 0, .int .i64 0, .int .i64 0, .int .i64 0] 31)) hb1
  obtain ⟨zc_a, zc_b, lc1⟩ := rcell f_c1
  obtain ⟨zs_a, zs_b, ls1⟩ := rcell f_s1
  obtain ⟨zo_a, zo_b, lo1⟩ := rcell f_o1
  go_wp2_with fail
  (rw [row4 (f_o1)]; generalize hT : setRow _ _ _ = wE; obtain ⟨hbE, hgE⟩ := ret_row hB1 (by omega) (f_o1) hT; have zE := (rcell hgE).1; clear hT; refine bodyPost_ret (by simp [results, Tryd.results44, go_sem, zE]; try rfl) rfl ?_)
  exact ⟨rfl, hbE⟩

set_option maxRecDepth 100000 in
set_option maxHeartbeats 2000000 in
theorem line_Raised_low (x N D : Int) (h : slB N D = true) (hl : ¬ (lwN N D = N ∧ lwD N D = D)) (w : World) :
    Calls Tryd.prog 44 #[.agg #[.int .i64 (hi x), .int .u64 (lo x)], .agg #[.int .i64 N, .int .i64 D]] w fun e w' => e = .returned (.tuple #[.agg #[.int .i64 0, .int .i64 0, .int .i64 0, .int .i64 0], .int .i64 2]) ∧ Below w.heap.size w w' := by
  obtain ⟨d1, d2, d3, d4⟩ := slB_spec h
  have c1 := line_slopeIs N D
  have c2 := line_lowest N D d1 (by omega) (by omega) (by omega)
  rw [h] at c1
  clear h d1 d2 d3 d4
  generalize lwN N D = n at *
  generalize lwD N D = d at *
  generalize hi x = H at *
  generalize lo x = L at *
  by_cases hn : n = N
  · have hd : ¬ d = D := fun e => hl ⟨hn, e⟩
    clear hl
    go_enter Tryd.func44, Tryd.ntmps44
    go_wp2_with fail
    refine (c1 _).mono ?_
    rintro e w1 ⟨rfl, hb1⟩
    have f_c1 := kp hb1 (ka (ka (na w #[.int .i64 H, .int .u64 L] 57) (.cells #[.int .i64 N, .int .i64 D] 26)) (.cells #[.int .i64 0, .int .i64 0, .int .i64 0, .int .i64 0] 31))
    have f_s1 := kp hb1 (ka (na1 w (.cells #[.int .i64 H, .int .u64 L] 57) #[.int .i64 N, .int .i64 D] 26) (.cells #[.int .i64 0, .int .i64 0, .int .i64 0, .int .i64 0] 31))
    have f_o1 := kp hb1 (na2 w (.cells #[.int .i64 H, .int .u64 L] 57) (.cells #[.int .i64 N, .int .i64 D] 26) #[.int .i64 0, .int .i64 0, .int .i64 0, .int .i64 0] 31)
    have hB1 := bB (bA (bA (bA (b0 w) (.cells #[.int .i64 H, .int .u64 L] 57)) (.cells #[.int .i64 N, .int .i64 D] 26)) (.cells #[.int .i64 0, .int .i64 0, .int .i64 0, .int .i64 0] 31)) hb1
    obtain ⟨zc_a, zc_b, lc1⟩ := rcell f_c1
    obtain ⟨zs_a, zs_b, ls1⟩ := rcell f_s1
    obtain ⟨zo_a, zo_b, lo1⟩ := rcell f_o1
    go_wp2_with fail
    refine Abs.wp_region_abs (Abs.cls0 _) [0, 1, 2, 3, 4] (by kernel_rfl) (by kernel_rfl) (Below.refl _ _).drew ?_
    repeat (first | (refine Abs.step_pure rfl rfl (fun K hK => ?_); go_simp; (try go_bits); (first | refine hK _ _ ?_ | (simp only [↓IntWalk.iteOmega]; go_simp; (try go_bits); refine hK _ _ ?_)); clear hK K) | (refine Abs.step_load (v := ?_) rfl rfl (by kernel_rfl) rfl (fun w0 hI => ?_) (fun K hK => ?_); rotate_left; (· have z0 := (rcell (kp hI (f_s1))).1; go_simp; rfl); (simp only [Act.put, List.setIfInBounds_toArray, List.set_cons_zero, List.set_cons_succ]; refine hK _ _ ?_; clear hK K)) | (refine Abs.step_skip rfl rfl (fun K hK => ?_); (simp only [Act.put, List.setIfInBounds_toArray, List.set_cons_zero, List.set_cons_succ]; refine hK _ _ ?_; clear hK K)))
    (refine Abs.step_call_val (f := ?_) (args := ?_) (v := ?_) rfl rfl rfl rfl (fun w0 => ?_) (fun w0 hI => ?_) (fun K hK => ?_); rotate_left 3; (· go_simp; (constructor <;> rfl)); (· exact c2 _); (simp only [Act.put, List.setIfInBounds_toArray, List.set_cons_zero, List.set_cons_succ]; refine hK _ _ ?_; clear hK K))
    repeat (first | (refine Abs.step_pure rfl rfl (fun K hK => ?_); go_simp; (try go_bits); (first | refine hK _ _ ?_ | (simp only [↓IntWalk.iteOmega]; go_simp; (try go_bits); refine hK _ _ ?_)); clear hK K) | (refine Abs.step_load (v := ?_) rfl rfl (by kernel_rfl) rfl (fun w0 hI => ?_) (fun K hK => ?_); rotate_left; (· have z0 := (rcell (kp hI (f_s1))).1; go_simp; rfl); (simp only [Act.put, List.setIfInBounds_toArray, List.set_cons_zero, List.set_cons_succ]; refine hK _ _ ?_; clear hK K)) | (refine Abs.step_skip rfl rfl (fun K hK => ?_); (simp only [Act.put, List.setIfInBounds_toArray, List.set_cons_zero, List.set_cons_succ]; refine hK _ _ ?_; clear hK K)))
    intro w3 hb3 hx0 hx1 hx2
    clear hx0 hx1 hx2
    simp only [Abs.T_setF, Abs.T_addA, Abs.T_push, Abs.T_start]
    have f_c3 := kp hb3 (f_c1)
    have f_s3 := kp hb3 (f_s1)
    have f_o3 := kp hb3 (f_o1)
    have hB3 := bB hB1 hb3
    clear zc_a zc_b zo_a zo_b zs_a zs_b
    obtain ⟨zc_a, zc_b, lc3⟩ := rcell f_c3
    obtain ⟨zs_a, zs_b, ls3⟩ := rcell f_s3
    obtain ⟨zo_a, zo_b, lo3⟩ := rcell f_o3
    go_wp2_with fail
    (rw [row4 (f_o3)]; generalize hT : setRow _ _ _ = wE; obtain ⟨hbE, hgE⟩ := ret_row hB3 (by omega) (f_o3) hT; have zE := (rcell hgE).1; clear hT; refine bodyPost_ret (by simp [results, Tryd.results44, go_sem, zE]; try rfl) rfl ?_)
    exact ⟨rfl, hbE⟩
  · clear hl
    go_enter Tryd.func44, Tryd.ntmps44
    go_wp2_with fail
    refine (c1 _).mono ?_
    rintro e w1 ⟨rfl, hb1⟩
    have f_c1 := kp hb1 (ka (ka (na w #[.int .i64 H, .int .u64 L] 57) (.cells #[.int .i64 N, .int .i64 D] 26)) (.cells #[.int .i64 0, .int .i64 0, .int .i64 0, .int .i64 0] 31))
    have f_s1 := kp hb1 (ka (na1 w (.cells #[.int .i64 H, .int .u64 L] 57) #[.int .i64 N, .int .i64 D] 26) (.cells #[.int .i64 0, .int .i64 0, .int .i64 0, .int .i64 0] 31))
    have f_o1 := kp hb1 (na2 w (.cells #[.int .i64 H, .int .u64 L] 57) (.cells #[.int .i64 N, .int .i64 D] 26) #[.int .i64 0, .int .i64 0, .int .i64 0, .int .i64 0] 31)
    have hB1 := bB (bA (bA (bA (b0 w) (.cells #[.int .i64 H, .int .u64 L] 57)) (.cells #[.int .i64 N, .int .i64 D] 26)) (.cells #[.int .i64 0, .int .i64 0, .int .i64 0, .int .i64 0] 31)) hb1
    obtain ⟨zc_a, zc_b, lc1⟩ := rcell f_c1
    obtain ⟨zs_a, zs_b, ls1⟩ := rcell f_s1
    obtain ⟨zo_a, zo_b, lo1⟩ := rcell f_o1
    go_wp2_with fail
    refine Abs.wp_region_abs (Abs.cls0 _) [0, 1, 2, 3, 4] (by kernel_rfl) (by kernel_rfl) (Below.refl _ _).drew ?_
    repeat (first | (refine Abs.step_pure rfl rfl (fun K hK => ?_); go_simp; (try go_bits); (first | refine hK _ _ ?_ | (simp only [↓IntWalk.iteOmega]; go_simp; (try go_bits); refine hK _ _ ?_)); clear hK K) | (refine Abs.step_load (v := ?_) rfl rfl (by kernel_rfl) rfl (fun w0 hI => ?_) (fun K hK => ?_); rotate_left; (· have z0 := (rcell (kp hI (f_s1))).1; go_simp; rfl); (simp only [Act.put, List.setIfInBounds_toArray, List.set_cons_zero, List.set_cons_succ]; refine hK _ _ ?_; clear hK K)) | (refine Abs.step_skip rfl rfl (fun K hK => ?_); (simp only [Act.put, List.setIfInBounds_toArray, List.set_cons_zero, List.set_cons_succ]; refine hK _ _ ?_; clear hK K)))
    (refine Abs.step_call_val (f := ?_) (args := ?_) (v := ?_) rfl rfl rfl rfl (fun w0 => ?_) (fun w0 hI => ?_) (fun K hK => ?_); rotate_left 3; (· go_simp; (constructor <;> rfl)); (· exact c2 _); (simp only [Act.put, List.setIfInBounds_toArray, List.set_cons_zero, List.set_cons_succ]; refine hK _ _ ?_; clear hK K))
    repeat (first | (refine Abs.step_pure rfl rfl (fun K hK => ?_); go_simp; (try go_bits); (first | refine hK _ _ ?_ | (simp only [↓IntWalk.iteOmega]; go_simp; (try go_bits); refine hK _ _ ?_)); clear hK K) | (refine Abs.step_load (v := ?_) rfl rfl (by kernel_rfl) rfl (fun w0 hI => ?_) (fun K hK => ?_); rotate_left; (· have z0 := (rcell (kp hI (f_s1))).1; go_simp; rfl); (simp only [Act.put, List.setIfInBounds_toArray, List.set_cons_zero, List.set_cons_succ]; refine hK _ _ ?_; clear hK K)) | (refine Abs.step_skip rfl rfl (fun K hK => ?_); (simp only [Act.put, List.setIfInBounds_toArray, List.set_cons_zero, List.set_cons_succ]; refine hK _ _ ?_; clear hK K)))
    intro w3 hb3 hx0 hx1 hx2
    clear hx0 hx1 hx2
    simp only [Abs.T_setF, Abs.T_addA, Abs.T_push, Abs.T_start]
    have f_c3 := kp hb3 (f_c1)
    have f_s3 := kp hb3 (f_s1)
    have f_o3 := kp hb3 (f_o1)
    have hB3 := bB hB1 hb3
    clear zc_a zc_b zo_a zo_b zs_a zs_b
    obtain ⟨zc_a, zc_b, lc3⟩ := rcell f_c3
    obtain ⟨zs_a, zs_b, ls3⟩ := rcell f_s3
    obtain ⟨zo_a, zo_b, lo3⟩ := rcell f_o3
    go_wp2_with fail
    (rw [row4 (f_o3)]; generalize hT : setRow _ _ _ = wE; obtain ⟨hbE, hgE⟩ := ret_row hB3 (by omega) (f_o3) hT; have zE := (rcell hgE).1; clear hT; refine bodyPost_ret (by simp [results, Tryd.results44, go_sem, zE]; try rfl) rfl ?_)
    exact ⟨rfl, hbE⟩

set_option maxRecDepth 100000 in
set_option maxHeartbeats 2000000 in
theorem line_Raised_yes (x N D : Int) (hx : Rng x) (h : slB N D = true) (hl : lwN N D = N ∧ lwD N D = D) (hq : bkB (x / D) = true) (w : World) :
    Calls Tryd.prog 44 #[.agg #[.int .i64 (hi x), .int .u64 (lo x)], .agg #[.int .i64 N, .int .i64 D]] w fun e w' => e = .returned (.tuple #[.agg #[.int .i64 (x / D), .int .i64 (x % D), .int .i64 N, .int .i64 D], .int .i64 0]) ∧ Below w.heap.size w w' := by
  obtain ⟨d1, d2, d3, d4⟩ := slB_spec h
  have c1 := line_slopeIs N D
  have c2 := line_lowest N D d1 (by omega) (by omega) (by omega)
  have c3 := wide_Div x D hx d1 (by omega)
  have hR : Rng (x / D) := by
    obtain ⟨x1, x2⟩ := hx
    have e0 : (0 : Int) < D := by omega
    constructor
    · refine (Int.le_ediv_iff_mul_le e0).2 ?_
      have h7 : (170141183460469231731687303715884105728 : Int) * 1 ≤ 170141183460469231731687303715884105728 * D := Int.mul_le_mul_of_nonneg_left (by omega) (by decide)
      omega
    · refine (Int.ediv_lt_iff_lt_mul e0).2 ?_
      have h7 : (170141183460469231731687303715884105728 : Int) * 1 ≤ 170141183460469231731687303715884105728 * D := Int.mul_le_mul_of_nonneg_left (by omega) (by decide)
      omega
  have c4 := wide_Int (x / D) hR
  rw [h] at c1
  rw [hl.1, hl.2] at c2
  have hq2 : -2305844108725321728 ≤ x / D ∧ x / D ≤ 2305844108725321728 := of_decide_eq_true hq
  have c5 := line_backB (x / D)
  rw [hq] at c5
  have hq3 : -9223372036854775808 ≤ x / D ∧ x / D < 9223372036854775808 := by omega
  rw [if_pos hq3, if_pos hq3] at c4
  clear hq hq2 hq3 hR h hl hx d1 d2 d3 d4
  generalize hi (x / D) = QH at *
  generalize lo (x / D) = QL at *
  generalize x / D = q at *
  generalize x % D = r at *
  generalize hi x = H at *
  generalize lo x = L at *
  go_enter Tryd.func44, Tryd.ntmps44
  go_wp2_with fail
  refine (c1 _).mono ?_
  rintro e w1 ⟨rfl, hb1⟩
  have f_c1 := kp hb1 (ka (ka (na w #[.int .i64 H, .int .u64 L] 57) (.cells #[.int .i64 N, .int .i64 D] 26)) (.cells #[.int .i64 0, .int .i64 0, .int .i64 0, .int .i64 0] 31))
  have f_s1 := kp hb1 (ka (na1 w (.cells #[.int .i64 H, .int .u64 L] 57) #[.int .i64 N, .int .i64 D] 26) (.cells #[.int .i64 0, .int .i64 0, .int .i64 0, .int .i64 0] 31))
  have f_o1 := kp hb1 (na2 w (.cells #[.int .i64 H, .int .u64 L] 57) (.cells #[.int .i64 N, .int .i64 D] 26) #[.int .i64 0, .int .i64 0, .int .i64 0, .int .i64 0] 31)
  have hB1 := bB (bA (bA (bA (b0 w) (.cells #[.int .i64 H, .int .u64 L] 57)) (.cells #[.int .i64 N, .int .i64 D] 26)) (.cells #[.int .i64 0, .int .i64 0, .int .i64 0, .int .i64 0] 31)) hb1
  obtain ⟨zc_a, zc_b, lc1⟩ := rcell f_c1
  obtain ⟨zs_a, zs_b, ls1⟩ := rcell f_s1
  obtain ⟨zo_a, zo_b, lo1⟩ := rcell f_o1
  go_wp2_with fail
  refine Abs.wp_region_abs (Abs.cls0 _) [0, 1, 2, 3, 4] (by kernel_rfl) (by kernel_rfl) (Below.refl _ _).drew ?_
  repeat (first | (refine Abs.step_pure rfl rfl (fun K hK => ?_); go_simp; (try go_bits); (first | refine hK _ _ ?_ | (simp only [↓IntWalk.iteOmega]; go_simp; (try go_bits); refine hK _ _ ?_)); clear hK K) | (refine Abs.step_load (v := ?_) rfl rfl (by kernel_rfl) rfl (fun w0 hI => ?_) (fun K hK => ?_); rotate_left; (· have z0 := (rcell (kp hI (f_s1))).1; go_simp; rfl); (simp only [Act.put, List.setIfInBounds_toArray, List.set_cons_zero, List.set_cons_succ]; refine hK _ _ ?_; clear hK K)) | (refine Abs.step_skip rfl rfl (fun K hK => ?_); (simp only [Act.put, List.setIfInBounds_toArray, List.set_cons_zero, List.set_cons_succ]; refine hK _ _ ?_; clear hK K)))
  (refine Abs.step_call_val (f := ?_) (args := ?_) (v := ?_) rfl rfl rfl rfl (fun w0 => ?_) (fun w0 hI => ?_) (fun K hK => ?_); rotate_left 3; (· go_simp; (constructor <;> rfl)); (· exact c2 _); (simp only [Act.put, List.setIfInBounds_toArray, List.set_cons_zero, List.set_cons_succ]; refine hK _ _ ?_; clear hK K))
  repeat (first | (refine Abs.step_pure rfl rfl (fun K hK => ?_); go_simp; (try go_bits); (first | refine hK _ _ ?_ | (simp only [↓IntWalk.iteOmega]; go_simp; (try go_bits); refine hK _ _ ?_)); clear hK K) | (refine Abs.step_load (v := ?_) rfl rfl (by kernel_rfl) rfl (fun w0 hI => ?_) (fun K hK => ?_); rotate_left; (· have z0 := (rcell (kp hI (f_s1))).1; go_simp; rfl); (simp only [Act.put, List.setIfInBounds_toArray, List.set_cons_zero, List.set_cons_succ]; refine hK _ _ ?_; clear hK K)) | (refine Abs.step_skip rfl rfl (fun K hK => ?_); (simp only [Act.put, List.setIfInBounds_toArray, List.set_cons_zero, List.set_cons_succ]; refine hK _ _ ?_; clear hK K)))
  intro w3 hb3 hx0 hx1 hx2
  clear hx0 hx1 hx2
  simp only [Abs.T_setF, Abs.T_addA, Abs.T_push, Abs.T_start]
  have f_c3 := kp hb3 (f_c1)
  have f_s3 := kp hb3 (f_s1)
  have f_o3 := kp hb3 (f_o1)
  have hB3 := bB hB1 hb3
  clear zc_a zc_b zo_a zo_b zs_a zs_b
  obtain ⟨zc_a, zc_b, lc3⟩ := rcell f_c3
  obtain ⟨zs_a, zs_b, ls3⟩ := rcell f_s3
  obtain ⟨zo_a, zo_b, lo3⟩ := rcell f_o3
  go_wp2_with fail
  refine (c3 _).mono ?_
  rintro e w4 ⟨rfl, hb4⟩
  have f_c4 := kp hb4 (f_c3)
  have f_s4 := kp hb4 (f_s3)
  have f_o4 := kp hb4 (f_o3)
  have hB4 := bB hB3 hb4
  clear zc_a zc_b zo_a zo_b zs_a zs_b
  obtain ⟨zc_a, zc_b, lc4⟩ := rcell f_c4
  obtain ⟨zs_a, zs_b, ls4⟩ := rcell f_s4
  obtain ⟨zo_a, zo_b, lo4⟩ := rcell f_o4
  go_wp2_with fail
  refine (c4 _).mono ?_
  rintro e w5 ⟨rfl, hb5⟩
  have f_c5 := kp hb5 (ka (f_c4) (.cells #[.int .i64 QH, .int .u64 QL] 57))
  have f_s5 := kp hb5 (ka (f_s4) (.cells #[.int .i64 QH, .int .u64 QL] 57))
  have f_o5 := kp hb5 (ka (f_o4) (.cells #[.int .i64 QH, .int .u64 QL] 57))
  have f_q5 := kp hb5 (na w4 #[.int .i64 QH, .int .u64 QL] 57)
  have hB5 := bB (bA hB4 (.cells #[.int .i64 QH, .int .u64 QL] 57)) hb5
  clear zc_a zc_b zo_a zo_b zs_a zs_b
  obtain ⟨zc_a, zc_b, lc5⟩ := rcell f_c5
  obtain ⟨zs_a, zs_b, ls5⟩ := rcell f_s5
  obtain ⟨zo_a, zo_b, lo5⟩ := rcell f_o5
  obtain ⟨zq_a, zq_b, lq5⟩ := rcell f_q5
  go_wp2_with fail
  refine (c5 _).mono ?_
  rintro e w6 ⟨rfl, hb6⟩
  have f_c6 := kp hb6 (f_c5)
  have f_s6 := kp hb6 (f_s5)
  have f_o6 := kp hb6 (f_o5)
  have f_q6 := kp hb6 (f_q5)
  have hB6 := bB hB5 hb6
  clear zc_a zc_b zo_a zo_b zq_a zq_b zs_a zs_b
  obtain ⟨zc_a, zc_b, lc6⟩ := rcell f_c6
  obtain ⟨zs_a, zs_b, ls6⟩ := rcell f_s6
  obtain ⟨zo_a, zo_b, lo6⟩ := rcell f_o6
  obtain ⟨zq_a, zq_b, lq6⟩ := rcell f_q6
  go_wp2_with fail
  (rw [row4 (f_o6)]; generalize hT : setRow _ _ _ = wE; obtain ⟨hbE, hgE⟩ := ret_row hB6 (by omega) (f_o6) hT; have zE := (rcell hgE).1; clear hT; refine bodyPost_ret (by simp [results, Tryd.results44, go_sem, zE]; try rfl) rfl ?_)
  exact ⟨rfl, hbE⟩

set_option maxRecDepth 100000 in
set_option maxHeartbeats 2000000 in
theorem line_Raised_big (x N D : Int) (hx : Rng x) (h : slB N D = true) (hl : lwN N D = N ∧ lwD N D = D) (hq : ¬ (-9223372036854775808 ≤ x / D ∧ x / D < 9223372036854775808)) (w : World) :
    Calls Tryd.prog 44 #[.agg #[.int .i64 (hi x), .int .u64 (lo x)], .agg #[.int .i64 N, .int .i64 D]] w fun e w' => e = .returned (.tuple #[.agg #[.int .i64 0, .int .i64 0, .int .i64 0, .int .i64 0], .int .i64 5]) ∧ Below w.heap.size w w' := by
  obtain ⟨d1, d2, d3, d4⟩ := slB_spec h
  have c1 := line_slopeIs N D
  have c2 := line_lowest N D d1 (by omega) (by omega) (by omega)
  have c3 := wide_Div x D hx d1 (by omega)
  have hR : Rng (x / D) := by
    obtain ⟨x1, x2⟩ := hx
    have e0 : (0 : Int) < D := by omega
    constructor
    · refine (Int.le_ediv_iff_mul_le e0).2 ?_
      have h7 : (170141183460469231731687303715884105728 : Int) * 1 ≤ 170141183460469231731687303715884105728 * D := Int.mul_le_mul_of_nonneg_left (by omega) (by decide)
      omega
    · refine (Int.ediv_lt_iff_lt_mul e0).2 ?_
      have h7 : (170141183460469231731687303715884105728 : Int) * 1 ≤ 170141183460469231731687303715884105728 * D := Int.mul_le_mul_of_nonneg_left (by omega) (by decide)
      omega
  have c4 := wide_Int (x / D) hR
  rw [h] at c1
  rw [hl.1, hl.2] at c2
  rw [if_neg hq, if_neg hq] at c4
  clear hq hR h hl hx d1 d2 d3 d4
  generalize hi (x / D) = QH at *
  generalize lo (x / D) = QL at *
  generalize x / D = q at *
  generalize x % D = r at *
  generalize hi x = H at *
  generalize lo x = L at *
  go_enter Tryd.func44, Tryd.ntmps44
  go_wp2_with fail
  refine (c1 _).mono ?_
  rintro e w1 ⟨rfl, hb1⟩
  have f_c1 := kp hb1 (ka (ka (na w #[.int .i64 H, .int .u64 L] 57) (.cells #[.int .i64 N, .int .i64 D] 26)) (.cells #[.int .i64 0, .int .i64 0, .int .i64 0, .int .i64 0] 31))
  have f_s1 := kp hb1 (ka (na1 w (.cells #[.int .i64 H, .int .u64 L] 57) #[.int .i64 N, .int .i64 D] 26) (.cells #[.int .i64 0, .int .i64 0, .int .i64 0, .int .i64 0] 31))
  have f_o1 := kp hb1 (na2 w (.cells #[.int .i64 H, .int .u64 L] 57) (.cells #[.int .i64 N, .int .i64 D] 26) #[.int .i64 0, .int .i64 0, .int .i64 0, .int .i64 0] 31)
  have hB1 := bB (bA (bA (bA (b0 w) (.cells #[.int .i64 H, .int .u64 L] 57)) (.cells #[.int .i64 N, .int .i64 D] 26)) (.cells #[.int .i64 0, .int .i64 0, .int .i64 0, .int .i64 0] 31)) hb1
  obtain ⟨zc_a, zc_b, lc1⟩ := rcell f_c1
  obtain ⟨zs_a, zs_b, ls1⟩ := rcell f_s1
  obtain ⟨zo_a, zo_b, lo1⟩ := rcell f_o1
  go_wp2_with fail
  refine Abs.wp_region_abs (Abs.cls0 _) [0, 1, 2, 3, 4] (by kernel_rfl) (by kernel_rfl) (Below.refl _ _).drew ?_
  repeat (first | (refine Abs.step_pure rfl rfl (fun K hK => ?_); go_simp; (try go_bits); (first | refine hK _ _ ?_ | (simp only [↓IntWalk.iteOmega]; go_simp; (try go_bits); refine hK _ _ ?_)); clear hK K) | (refine Abs.step_load (v := ?_) rfl rfl (by kernel_rfl) rfl (fun w0 hI => ?_) (fun K hK => ?_); rotate_left; (· have z0 := (rcell (kp hI (f_s1))).1; go_simp; rfl); (simp only [Act.put, List.setIfInBounds_toArray, List.set_cons_zero, List.set_cons_succ]; refine hK _ _ ?_; clear hK K)) | (refine Abs.step_skip rfl rfl (fun K hK => ?_); (simp only [Act.put, List.setIfInBounds_toArray, List.set_cons_zero, List.set_cons_succ]; refine hK _ _ ?_; clear hK K)))
  (refine Abs.step_call_val (f := ?_) (args := ?_) (v := ?_) rfl rfl rfl rfl (fun w0 => ?_) (fun w0 hI => ?_) (fun K hK => ?_); rotate_left 3; (· go_simp; (constructor <;> rfl)); (· exact c2 _); (simp only [Act.put, List.setIfInBounds_toArray, List.set_cons_zero, List.set_cons_succ]; refine hK _ _ ?_; clear hK K))
  repeat (first | (refine Abs.step_pure rfl rfl (fun K hK => ?_); go_simp; (try go_bits); (first | refine hK _ _ ?_ | (simp only [↓IntWalk.iteOmega]; go_simp; (try go_bits); refine hK _ _ ?_)); clear hK K) | (refine Abs.step_load (v := ?_) rfl rfl (by kernel_rfl) rfl (fun w0 hI => ?_) (fun K hK => ?_); rotate_left; (· have z0 := (rcell (kp hI (f_s1))).1; go_simp; rfl); (simp only [Act.put, List.setIfInBounds_toArray, List.set_cons_zero, List.set_cons_succ]; refine hK _ _ ?_; clear hK K)) | (refine Abs.step_skip rfl rfl (fun K hK => ?_); (simp only [Act.put, List.setIfInBounds_toArray, List.set_cons_zero, List.set_cons_succ]; refine hK _ _ ?_; clear hK K)))
  intro w3 hb3 hx0 hx1 hx2
  clear hx0 hx1 hx2
  simp only [Abs.T_setF, Abs.T_addA, Abs.T_push, Abs.T_start]
  have f_c3 := kp hb3 (f_c1)
  have f_s3 := kp hb3 (f_s1)
  have f_o3 := kp hb3 (f_o1)
  have hB3 := bB hB1 hb3
  clear zc_a zc_b zo_a zo_b zs_a zs_b
  obtain ⟨zc_a, zc_b, lc3⟩ := rcell f_c3
  obtain ⟨zs_a, zs_b, ls3⟩ := rcell f_s3
  obtain ⟨zo_a, zo_b, lo3⟩ := rcell f_o3
  go_wp2_with fail
  refine (c3 _).mono ?_
  rintro e w4 ⟨rfl, hb4⟩
  have f_c4 := kp hb4 (f_c3)
  have f_s4 := kp hb4 (f_s3)
  have f_o4 := kp hb4 (f_o3)
  have hB4 := bB hB3 hb4
  clear zc_a zc_b zo_a zo_b zs_a zs_b
  obtain ⟨zc_a, zc_b, lc4⟩ := rcell f_c4
  obtain ⟨zs_a, zs_b, ls4⟩ := rcell f_s4
  obtain ⟨zo_a, zo_b, lo4⟩ := rcell f_o4
  go_wp2_with fail
  refine (c4 _).mono ?_
  rintro e w5 ⟨rfl, hb5⟩
  have f_c5 := kp hb5 (ka (f_c4) (.cells #[.int .i64 QH, .int .u64 QL] 57))
  have f_s5 := kp hb5 (ka (f_s4) (.cells #[.int .i64 QH, .int .u64 QL] 57))
  have f_o5 := kp hb5 (ka (f_o4) (.cells #[.int .i64 QH, .int .u64 QL] 57))
  have f_q5 := kp hb5 (na w4 #[.int .i64 QH, .int .u64 QL] 57)
  have hB5 := bB (bA hB4 (.cells #[.int .i64 QH, .int .u64 QL] 57)) hb5
  clear zc_a zc_b zo_a zo_b zs_a zs_b
  obtain ⟨zc_a, zc_b, lc5⟩ := rcell f_c5
  obtain ⟨zs_a, zs_b, ls5⟩ := rcell f_s5
  obtain ⟨zo_a, zo_b, lo5⟩ := rcell f_o5
  obtain ⟨zq_a, zq_b, lq5⟩ := rcell f_q5
  go_wp2_with fail
  (rw [row4 (f_o5)]; generalize hT : setRow _ _ _ = wE; obtain ⟨hbE, hgE⟩ := ret_row hB5 (by omega) (f_o5) hT; have zE := (rcell hgE).1; clear hT; refine bodyPost_ret (by simp [results, Tryd.results44, go_sem, zE]; try rfl) rfl ?_)
  exact ⟨rfl, hbE⟩

set_option maxRecDepth 100000 in
set_option maxHeartbeats 2000000 in
theorem line_Raised_far (x N D : Int) (hx : Rng x) (h : slB N D = true) (hl : lwN N D = N ∧ lwD N D = D) (hq3 : -9223372036854775808 ≤ x / D ∧ x / D < 9223372036854775808) (hq : bkB (x / D) = false) (w : World) :
    Calls Tryd.prog 44 #[.agg #[.int .i64 (hi x), .int .u64 (lo x)], .agg #[.int .i64 N, .int .i64 D]] w fun e w' => e = .returned (.tuple #[.agg #[.int .i64 0, .int .i64 0, .int .i64 0, .int .i64 0], .int .i64 5]) ∧ Below w.heap.size w w' := by
  obtain ⟨d1, d2, d3, d4⟩ := slB_spec h
  have c1 := line_slopeIs N D
  have c2 := line_lowest N D d1 (by omega) (by omega) (by omega)
  have c3 := wide_Div x D hx d1 (by omega)
  have hR : Rng (x / D) := by
    obtain ⟨x1, x2⟩ := hx
    have e0 : (0 : Int) < D := by omega
    constructor
    · refine (Int.le_ediv_iff_mul_le e0).2 ?_
      have h7 : (170141183460469231731687303715884105728 : Int) * 1 ≤ 170141183460469231731687303715884105728 * D := Int.mul_le_mul_of_nonneg_left (by omega) (by decide)
      omega
    · refine (Int.ediv_lt_iff_lt_mul e0).2 ?_
      have h7 : (170141183460469231731687303715884105728 : Int) * 1 ≤ 170141183460469231731687303715884105728 * D := Int.mul_le_mul_of_nonneg_left (by omega) (by decide)
      omega
  have c4 := wide_Int (x / D) hR
  rw [h] at c1
  rw [hl.1, hl.2] at c2
  have c5 := line_backB (x / D)
  rw [hq] at c5
  rw [if_pos hq3, if_pos hq3] at c4
  clear hq hq3 hR h hl hx d1 d2 d3 d4
  generalize hi (x / D) = QH at *
  generalize lo (x / D) = QL at *
  generalize x / D = q at *
  generalize x % D = r at *
  generalize hi x = H at *
  generalize lo x = L at *
  go_enter Tryd.func44, Tryd.ntmps44
  go_wp2_with fail
  refine (c1 _).mono ?_
  rintro e w1 ⟨rfl, hb1⟩
  have f_c1 := kp hb1 (ka (ka (na w #[.int .i64 H, .int .u64 L] 57) (.cells #[.int .i64 N, .int .i64 D] 26)) (.cells #[.int .i64 0, .int .i64 0, .int .i64 0, .int .i64 0] 31))
  have f_s1 := kp hb1 (ka (na1 w (.cells #[.int .i64 H, .int .u64 L] 57) #[.int .i64 N, .int .i64 D] 26) (.cells #[.int .i64 0, .int .i64 0, .int .i64 0, .int .i64 0] 31))
  have f_o1 := kp hb1 (na2 w (.cells #[.int .i64 H, .int .u64 L] 57) (.cells #[.int .i64 N, .int .i64 D] 26) #[.int .i64 0, .int .i64 0, .int .i64 0, .int .i64 0] 31)
  have hB1 := bB (bA (bA (bA (b0 w) (.cells #[.int .i64 H, .int .u64 L] 57)) (.cells #[.int .i64 N, .int .i64 D] 26)) (.cells #[.int .i64 0, .int .i64 0, .int .i64 0, .int .i64 0] 31)) hb1
  obtain ⟨zc_a, zc_b, lc1⟩ := rcell f_c1
  obtain ⟨zs_a, zs_b, ls1⟩ := rcell f_s1
  obtain ⟨zo_a, zo_b, lo1⟩ := rcell f_o1
  go_wp2_with fail
  refine Abs.wp_region_abs (Abs.cls0 _) [0, 1, 2, 3, 4] (by kernel_rfl) (by kernel_rfl) (Below.refl _ _).drew ?_
  repeat (first | (refine Abs.step_pure rfl rfl (fun K hK => ?_); go_simp; (try go_bits); (first | refine hK _ _ ?_ | (simp only [↓IntWalk.iteOmega]; go_simp; (try go_bits); refine hK _ _ ?_)); clear hK K) | (refine Abs.step_load (v := ?_) rfl rfl (by kernel_rfl) rfl (fun w0 hI => ?_) (fun K hK => ?_); rotate_left; (· have z0 := (rcell (kp hI (f_s1))).1; go_simp; rfl); (simp only [Act.put, List.setIfInBounds_toArray, List.set_cons_zero, List.set_cons_succ]; refine hK _ _ ?_; clear hK K)) | (refine Abs.step_skip rfl rfl (fun K hK => ?_); (simp only [Act.put, List.setIfInBounds_toArray, List.set_cons_zero, List.set_cons_succ]; refine hK _ _ ?_; clear hK K)))
  (refine Abs.step_call_val (f := ?_) (args := ?_) (v := ?_) rfl rfl rfl rfl (fun w0 => ?_) (fun w0 hI => ?_) (fun K hK => ?_); rotate_left 3; (· go_simp; (constructor <;> rfl)); (· exact c2 _); (simp only [Act.put, List.setIfInBounds_toArray, List.set_cons_zero, List.set_cons_succ]; refine hK _ _ ?_; clear hK K))
  repeat (first | (refine Abs.step_pure rfl rfl (fun K hK => ?_); go_simp; (try go_bits); (first | refine hK _ _ ?_ | (simp only [↓IntWalk.iteOmega]; go_simp; (try go_bits); refine hK _ _ ?_)); clear hK K) | (refine Abs.step_load (v := ?_) rfl rfl (by kernel_rfl) rfl (fun w0 hI => ?_) (fun K hK => ?_); rotate_left; (· have z0 := (rcell (kp hI (f_s1))).1; go_simp; rfl); (simp only [Act.put, List.setIfInBounds_toArray, List.set_cons_zero, List.set_cons_succ]; refine hK _ _ ?_; clear hK K)) | (refine Abs.step_skip rfl rfl (fun K hK => ?_); (simp only [Act.put, List.setIfInBounds_toArray, List.set_cons_zero, List.set_cons_succ]; refine hK _ _ ?_; clear hK K)))
  intro w3 hb3 hx0 hx1 hx2
  clear hx0 hx1 hx2
  simp only [Abs.T_setF, Abs.T_addA, Abs.T_push, Abs.T_start]
  have f_c3 := kp hb3 (f_c1)
  have f_s3 := kp hb3 (f_s1)
  have f_o3 := kp hb3 (f_o1)
  have hB3 := bB hB1 hb3
  clear zc_a zc_b zo_a zo_b zs_a zs_b
  obtain ⟨zc_a, zc_b, lc3⟩ := rcell f_c3
  obtain ⟨zs_a, zs_b, ls3⟩ := rcell f_s3
  obtain ⟨zo_a, zo_b, lo3⟩ := rcell f_o3
  go_wp2_with fail
  refine (c3 _).mono ?_
  rintro e w4 ⟨rfl, hb4⟩
  have f_c4 := kp hb4 (f_c3)
  have f_s4 := kp hb4 (f_s3)
  have f_o4 := kp hb4 (f_o3)
  have hB4 := bB hB3 hb4
  clear zc_a zc_b zo_a zo_b zs_a zs_b
  obtain ⟨zc_a, zc_b, lc4⟩ := rcell f_c4
  obtain ⟨zs_a, zs_b, ls4⟩ := rcell f_s4
  obtain ⟨zo_a, zo_b, lo4⟩ := rcell f_o4
  go_wp2_with fail
  refine (c4 _).mono ?_
  rintro e w5 ⟨rfl, hb5⟩
  have f_c5 := kp hb5 (ka (f_c4) (.cells #[.int .i64 QH, .int .u64 QL] 57))
  have f_s5 := kp hb5 (ka (f_s4) (.cells #[.int .i64 QH, .int .u64 QL] 57))
  have f_o5 := kp hb5 (ka (f_o4) (.cells #[.int .i64 QH, .int .u64 QL] 57))
  have f_q5 := kp hb5 (na w4 #[.int .i64 QH, .int .u64 QL] 57)
  have hB5 := bB (bA hB4 (.cells #[.int .i64 QH, .int .u64 QL] 57)) hb5
  clear zc_a zc_b zo_a zo_b zs_a zs_b
  obtain ⟨zc_a, zc_b, lc5⟩ := rcell f_c5
  obtain ⟨zs_a, zs_b, ls5⟩ := rcell f_s5
  obtain ⟨zo_a, zo_b, lo5⟩ := rcell f_o5
  obtain ⟨zq_a, zq_b, lq5⟩ := rcell f_q5
  go_wp2_with fail
  refine (c5 _).mono ?_
  rintro e w6 ⟨rfl, hb6⟩
  have f_c6 := kp hb6 (f_c5)
  have f_s6 := kp hb6 (f_s5)
  have f_o6 := kp hb6 (f_o5)
  have f_q6 := kp hb6 (f_q5)
  have hB6 := bB hB5 hb6
  clear zc_a zc_b zo_a zo_b zq_a zq_b zs_a zs_b
  obtain ⟨zc_a, zc_b, lc6⟩ := rcell f_c6
  obtain ⟨zs_a, zs_b, ls6⟩ := rcell f_s6
  obtain ⟨zo_a, zo_b, lo6⟩ := rcell f_o6
  obtain ⟨zq_a, zq_b, lq6⟩ := rcell f_q6
  go_wp2_with fail
  (rw [row4 (f_o6)]; generalize hT : setRow _ _ _ = wE; obtain ⟨hbE, hgE⟩ := ret_row hB6 (by omega) (f_o6) hT; have zE := (rcell hgE).1; clear hT; refine bodyPost_ret (by simp [results, Tryd.results44, go_sem, zE]; try rfl) rfl ?_)
  exact ⟨rfl, hbE⟩

end Go.Proofs.YtpimkigbdjfjoaaDoor
