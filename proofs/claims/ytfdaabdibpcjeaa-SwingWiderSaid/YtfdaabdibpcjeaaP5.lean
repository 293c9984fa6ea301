/- yearbookref05 at this program: Slope, Common, Lowest, Less, Nearest; line.Nearest. The package line at this program, on: Of where it tells. -/
import Derived.Test.YtfdaabdibpcjeaaP4
import Derived.Test.YtfdaabdibpcjeaaP3
set_option linter.unusedSimpArgs false
set_option linter.unusedVariables false
namespace Go.Proofs.Ytfdaabdibpcjeaa
open Go.RowKit

/-- a value is a number -/
def NumIs (x : Int) (v : Value) (w : World) : Prop := ∃ A c, v = .agg #[.bool (decide (x < 0)), .slice A (sz x.natAbs).length c] ∧ Rd w A c (sz x.natAbs)
theorem NumIs.rd {x : Int} {A : Option Addr} {b : Bool} {m c : Nat} {w : World} (h : NumIs x (.agg #[.bool b, .slice A m c]) w) : Rd w A c (sz x.natAbs) := by
  obtain ⟨A', c', e, hr⟩ := h
  simp at e
  obtain ⟨_, rfl, _, rfl⟩ := e
  exact hr
theorem Cl_NumIs (x : Int) {v : Value} : Abs.Cl (fun _ => False) (NumIs x v) := by
  intro w w' ⟨A, c, e, hr⟩ h
  refine ⟨A, c, e, hr.cap, fun hl => ?_⟩
  obtain ⟨g, cur, e1, hg, hc⟩ := hr.mem hl
  exact ⟨g, cur, e1, (h.block g (Array.getElem?_eq_some_iff.1 hg).1 (fun hf => hf)).trans hg, hc⟩
theorem GivesNum.num {x : Int} {w w' : World} {e : Ending} (h : GivesNum x w e w') : ∃ v, e = .returned v ∧ Below w.heap.size w w' ∧ NumIs x v w' := by
  obtain ⟨A, c, he, hb, hr⟩ := h
  exact ⟨_, he, hb, A, c, rfl, hr⟩

theorem ref_Slope (N D : Int) (w : World) : Calls Try.prog 38 #[.agg #[.int .i64 N, .int .i64 D]] w fun e w' => e = .returned (.bool (slB N D)) ∧ Below w.heap.size w w' := by
  by_cases h1 : 1 ≤ D
  · by_cases h2 : D ≤ 281474976710656
    · by_cases h3 : -4611688217450643456 ≤ N
      · by_cases h4 : N ≤ 4611688217450643456
        · have hb : slB N D = true := decide_eq_true ⟨h1, h2, h3, h4⟩
          rw [hb]
          clear hb
          go_enter Try.func38, Try.ntmps38
          go_wp2
          go_ret
          exact ⟨rfl, (bA (b0 w) _)⟩
        · have hb : slB N D = false := decide_eq_false fun h => h4 h.2.2.2
          rw [hb]
          clear hb
          go_enter Try.func38, Try.ntmps38
          go_wp2
          go_ret
          exact ⟨rfl, (bA (b0 w) _)⟩
      · have hb : slB N D = false := decide_eq_false fun h => h3 h.2.2.1
        rw [hb]
        clear hb
        go_enter Try.func38, Try.ntmps38
        go_wp2
        go_ret
        exact ⟨rfl, (bA (b0 w) _)⟩
    · have hb : slB N D = false := decide_eq_false fun h => h2 h.2.1
      rw [hb]
      clear hb
      go_enter Try.func38, Try.ntmps38
      go_wp2
      go_ret
      exact ⟨rfl, (bA (b0 w) _)⟩
  · have hb : slB N D = false := decide_eq_false fun h => h1 h.1
    rw [hb]
    clear hb
    go_enter Try.func38, Try.ntmps38
    go_wp2
    go_ret
    exact ⟨rfl, (bA (b0 w) _)⟩

theorem gcd_mod_l (a b : Nat) : Nat.gcd (a % b) b = Nat.gcd a b := by rw [Nat.gcd_comm a b, ← Nat.gcd_rec, Nat.gcd_comm]
theorem gcd_mod_r (a b : Nat) : Nat.gcd a (b % a) = Nat.gcd a b := by rw [Nat.gcd_comm, ← Nat.gcd_rec]

set_option maxRecDepth 100000 in
set_option maxHeartbeats 1000000 in
theorem ref_Common (n d : Nat) (x : Int) (hx : x = n ∨ x = -n) (hn : n < 9223372036854775808) (hd : d < 9223372036854775808) (w : World) :
    Calls Try.prog 66 #[.int .i64 x, .int .i64 (d : Int)] w fun e w' => e = .returned (.int .i64 (Nat.gcd n d : Nat)) ∧ w = w' := by
  rcases (show (0 ≤ x ∧ x = n) ∨ (x < 0 ∧ x = -n) by omega) with ⟨hs, rfl⟩ | ⟨hs, rfl⟩
  all_goals
    go_enter Try.func66, Try.ntmps66
    go_wp2
    go_loop [0, 1] (fun va vb => ∃ a b : Nat, va = .int .i64 (a : Int) ∧ vb = .int .i64 (b : Int) ∧ a < 9223372036854775808 ∧ b < 9223372036854775808 ∧ Hid (Nat.gcd a b = Nat.gcd n d)) (fun va vb => (intOf va + intOf vb).toNat)
    case atStart => exact ⟨n, d, by first | rfl | simp, rfl, hn, hd, rfl⟩
    case round =>
      obtain ⟨a, b, rfl, rfl, ha, hb, hg⟩ := hrel
      by_cases h1 : a = 0
      · subst h1
        have hq : ¬ (0 : Int) < ((0 : Nat) : Int) := by omega
        go_wp2
        go_ret
        have e := hg.out
        rw [Nat.gcd_zero_left] at e
        exact ⟨by rw [← e]; rfl, rfl⟩
      · have hp : (0 : Int) < (a : Int) := by omega
        by_cases h2 : b = 0
        · subst h2
          have hq : ¬ (0 : Int) < ((0 : Nat) : Int) := by omega
          go_wp2
          go_ret
          have e := hg.out
          rw [Nat.gcd_zero_right] at e
          exact ⟨by rw [← e]; rfl, rfl⟩
        · have hq : (0 : Int) < (b : Int) := by omega
          have nz1 : ¬ (a : Int) = 0 := by omega
          have nz2 : ¬ (b : Int) = 0 := by omega
          by_cases h3 : b < a
          · have h4 : (b : Int) < (a : Int) := by omega
            have m1 : a % b < b := Nat.mod_lt _ (by omega)
            have hT := hide (gcd_mod_l a b)
            go_wp2
            go_round
            case rel => exact ⟨a % b, b, by go_num, rfl, by omega, hb, hT.out.trans hg.out⟩
            case measure => simp [intOf]; omega
          · have h4 : ¬ (b : Int) < (a : Int) := by omega
            have m1 : b % a < a := Nat.mod_lt _ (by omega)
            have hT := hide (gcd_mod_r a b)
            go_wp2
            go_round
            case rel => exact ⟨a, b % a, rfl, by go_num, ha, by omega, hT.out.trans hg.out⟩
            case measure => simp [intOf]; omega

set_option maxHeartbeats 1000000 in
theorem ref_Lowest (N D : Int) (hD : 1 ≤ D) (hD' : D < 9223372036854775808) (h1 : -9223372036854775808 < N) (h2 : N < 9223372036854775808) (w : World) :
    Calls Try.prog 39 #[.agg #[.int .i64 N, .int .i64 D]] w fun e w' => e = .returned (.agg #[.int .i64 (lwN N D), .int .i64 (lwD N D)]) ∧ Below w.heap.size w w' := by
  have d := ref_Common N.natAbs D.toNat N (by omega) (by omega) (by omega)
  rw [show ((D.toNat : Nat) : Int) = D by omega] at d
  have p1 := dvN_pos (N := N) hD
  obtain ⟨p3, p4⟩ := lwN_bd (N := N) hD
  have p5 := lwD_pos (N := N) hD
  have p6 := lwD_le (N := N) hD
  have t1 : N.tdiv (dvN N D : Int) = lwN N D := Int.tdiv_eq_ediv_of_dvd (dvN_dvdN N D)
  have t2 : D.tdiv (dvN N D : Int) = lwD N D := Int.tdiv_eq_ediv_of_dvd (dvN_dvdD hD)
  have t3 : D / (dvN N D : Int) = lwD N D := rfl
  have t4 : N / (dvN N D : Int) = lwN N D := rfl
  change ∀ w, Calls _ _ _ w fun e w' => e = .returned (.int .i64 (dvN N D : Nat)) ∧ w = w' at d
  generalize lwN N D = n' at *
  generalize lwD N D = d' at *
  generalize dvN N D = g at *
  have nz : ¬ (g : Int) = 0 := by omega
  have b1 : -9223372036854775808 ≤ n' := by omega
  have b2 : n' < 9223372036854775808 := by omega
  clear p3 p4
  go_enter Try.func39, Try.ntmps39
  go_wp2_with fail
  refine (d _).mono ?_
  rintro e wq ⟨rfl, rfl⟩
  go_wp2_with fail
  have f_s1 := (ka (na w #[.int .i64 N, .int .i64 D] 52) (.cells #[.int .i64 0, .int .i64 0] 52))
  have f_o1 := (na1 w (.cells #[.int .i64 N, .int .i64 D] 52) #[.int .i64 0, .int .i64 0] 52)
  have hB1 := (bA (bA (b0 w) (.cells #[.int .i64 N, .int .i64 D] 52)) (.cells #[.int .i64 0, .int .i64 0] 52))
  have ls1 := (rcell f_s1).2.2
  have lo1 := (rcell f_o1).2.2
  refine Abs.wp_region_abs (Abs.cls0 _) [0, 1, 2, 3, 4, 5, 6, 7, 8, 9] (by kernel_rfl) (by kernel_rfl) (Below.refl _ _).drew ?_
  repeat (first | (refine Abs.step_pure rfl rfl (fun K hK => ?_); go_simp; (try go_bits); (first | refine hK _ _ ?_ | (simp only [↓IntWalk.iteOmega]; go_simp; (try go_bits); refine hK _ _ ?_)); clear hK K) | (refine Abs.step_load (v := ?_) rfl rfl (by kernel_rfl) rfl (fun w0 hI => ?_) (fun K hK => ?_); rotate_left; (· have z0 := (rcell (kp hI (f_s1))).1; go_simp; rfl); (simp only [Act.put, List.setIfInBounds_toArray, List.set_cons_zero, List.set_cons_succ]; refine hK _ _ ?_; clear hK K)) | (refine Abs.step_skip rfl rfl (fun K hK => ?_); (simp only [Act.put, List.setIfInBounds_toArray, List.set_cons_zero, List.set_cons_succ]; refine hK _ _ ?_; clear hK K)))
  (refine Abs.step_store (T := ?_) rfl rfl rfl (fun w0 hI hF hU => ?_) (fun w0 hI hU hJ => ?_) (fun K hK => ?_); rotate_left; (· have hR := kp hI (f_o1); have hg0 := (rcell hR).1; have hg1 := (rcell hR).2.1; simp only [Abs.T_setF, Abs.T_addA, Abs.T_push, Abs.T_start]; go_simp; exact row2 hR _ _); (· first | exact trivial | exact js hJ rfl _ | exact js hJ (Or.inl rfl) _ | exact js hJ (Or.inr rfl) _); (simp only [Act.put, List.setIfInBounds_toArray, List.set_cons_zero, List.set_cons_succ]; refine hK _ _ ?_; clear hK K))
  repeat (first | (refine Abs.step_pure rfl rfl (fun K hK => ?_); go_simp; (try go_bits); (first | refine hK _ _ ?_ | (simp only [↓IntWalk.iteOmega]; go_simp; (try go_bits); refine hK _ _ ?_)); clear hK K) | (refine Abs.step_load (v := ?_) rfl rfl (by kernel_rfl) rfl (fun w0 hI => ?_) (fun K hK => ?_); rotate_left; (· have z0 := (rcell (kp hI (f_s1))).1; go_simp; rfl); (simp only [Act.put, List.setIfInBounds_toArray, List.set_cons_zero, List.set_cons_succ]; refine hK _ _ ?_; clear hK K)) | (refine Abs.step_skip rfl rfl (fun K hK => ?_); (simp only [Act.put, List.setIfInBounds_toArray, List.set_cons_zero, List.set_cons_succ]; refine hK _ _ ?_; clear hK K)))
  intro w0 hI hF hx1 hx2
  clear hx1 hx2 hF
  simp only [Abs.T_push]
  generalize hT2 : setRow w0 _ _ = w2
  obtain ⟨hx2, f_o2⟩ := fin_x hI (f_o1) hT2
  clear hT2 hI w0
  have f_s2 := kx hx2 (f_s1) (by omega)
  have hB2 := bX hB1 hx2 (by omega)
  obtain ⟨zs_a, zs_b, ls2⟩ := rcell f_s2
  obtain ⟨zo_a, zo_b, lo2⟩ := rcell f_o2
  go_wp2
  refine bodyPost_ret (by simp [results, Try.results39, go_sem, zo_a]; try rfl) rfl ⟨rfl, hB2⟩

theorem sz_i64 {x : Int} (h1 : -9223372036854775808 ≤ x) (h2 : x < 9223372036854775808) : (sz x.natAbs).length ≤ 64 := sz_len_lt (by omega)

set_option maxRecDepth 100000 in
set_option maxHeartbeats 2000000 in
theorem ref_LessS (N D N' D' : Int) (h : slB N D = true) (h' : slB N' D' = true) (w : World) :
    Calls Try.prog 41 #[.agg #[.int .i64 N, .int .i64 D], .agg #[.int .i64 N', .int .i64 D']] w fun e w' => e = .returned (.bool (decide (N * D' < N' * D))) ∧ Below w.heap.size w w' := by
  obtain ⟨d1, d2, d3, d4⟩ := slB_spec h
  obtain ⟨d1', d2', d3', d4'⟩ := slB_spec h'
  have c1 := ref_Int N (by omega) (by omega)
  have c2 := ref_Int D' (by omega) (by omega)
  have c3 := ref_Int N' (by omega) (by omega)
  have c4 := ref_Int D (by omega) (by omega)
  have q1 : N.natAbs * D'.natAbs < 2 ^ 127 := by
    have := Nat.mul_lt_mul'' (show N.natAbs < 9223372036854775808 by omega) (show D'.natAbs < 9223372036854775808 by omega)
    exact Nat.lt_of_lt_of_le this (by decide)
  have q2 : N'.natAbs * D.natAbs < 2 ^ 127 := by
    have := Nat.mul_lt_mul'' (show N'.natAbs < 9223372036854775808 by omega) (show D.natAbs < 9223372036854775808 by omega)
    exact Nat.lt_of_lt_of_le this (by decide)
  have m1 := fun A B c d w ha hb => ref_Mul N D' 127 A B c d (by decide) q1 (Nat.le_trans (sz_i64 (x := N) (by omega) (by omega)) (by decide)) (Nat.le_trans (sz_i64 (x := D') (by omega) (by omega)) (by decide)) w ha hb
  have m2 := fun A B c d w ha hb => ref_Mul N' D 127 A B c d (by decide) q2 (Nat.le_trans (sz_i64 (x := N') (by omega) (by omega)) (by decide)) (Nat.le_trans (sz_i64 (x := D) (by omega) (by omega)) (by decide)) w ha hb
  have l1 : (sz (N * D').natAbs).length ≤ 4096 := Nat.le_trans (sz_len_lt (k := 127) (by rw [Int.natAbs_mul]; exact q1)) (by decide)
  have l2 : (sz (N' * D).natAbs).length ≤ 4096 := Nat.le_trans (sz_len_lt (k := 127) (by rw [Int.natAbs_mul]; exact q2)) (by decide)
  have l := fun A B c d w ha hb => ref_Less (N * D') (N' * D) A B c d l1 l2 w ha hb
  clear q1 q2 l1 l2 d1 d2 d3 d4 d1' d2' d3' d4' h h'
  generalize N * D' = x at *
  generalize N' * D = y at *
  generalize decide (x < y) = r at *
  go_enter Try.func41, Try.ntmps41
  go_wp2_with fail
  have f_a1 := (ka (na w #[.int .i64 N, .int .i64 D] 52) (.cells #[.int .i64 N', .int .i64 D'] 52))
  have f_b1 := (na1 w (.cells #[.int .i64 N, .int .i64 D] 52) #[.int .i64 N', .int .i64 D'] 52)
  have hB1 := (bA (bA (b0 w) (.cells #[.int .i64 N, .int .i64 D] 52)) (.cells #[.int .i64 N', .int .i64 D'] 52))
  have la1 := (rcell f_a1).2.2
  have lb1 := (rcell f_b1).2.2
  refine Abs.wp_region_abs (Abs.cls0 _) [0, 1, 2, 3, 4, 5, 6, 7, 8, 9, 10, 11, 12, 13, 14, 15] (by kernel_rfl) (by kernel_rfl) (Below.refl _ _).drew ?_
  repeat (first | (refine Abs.step_pure rfl rfl (fun K hK => ?_); go_simp; (try go_bits); (first | refine hK _ _ ?_ | (simp only [↓IntWalk.iteOmega]; go_simp; (try go_bits); refine hK _ _ ?_)); clear hK K) | (refine Abs.step_load (v := ?_) rfl rfl (by kernel_rfl) rfl (fun w0 hI => ?_) (fun K hK => ?_); rotate_left; (· have z0 := (rcell (kp hI (f_a1))).1; have z1 := (rcell (kp hI (f_b1))).1; go_simp; rfl); (simp only [Act.put, List.setIfInBounds_toArray, List.set_cons_zero, List.set_cons_succ]; refine hK _ _ ?_; clear hK K)) | (refine Abs.step_skip rfl rfl (fun K hK => ?_); (simp only [Act.put, List.setIfInBounds_toArray, List.set_cons_zero, List.set_cons_succ]; refine hK _ _ ?_; clear hK K)))
  (refine Abs.step_call (f := ?_) (args := ?_) rfl rfl rfl rfl (NumIs (N)) (fun _ => Cl_NumIs _) (fun w0 => ?_) (fun w0 hI hF => ?_) (fun K hK v w0 hv => ?_); rotate_left 2; (· go_simp; (constructor <;> rfl)); (· exact (c1 _).mono (fun _ _ h => h.num)); (obtain ⟨A1, e1, rfl, -⟩ := hv; clear w0; simp only [Act.put, List.setIfInBounds_toArray, List.set_cons_zero, List.set_cons_succ]; refine hK _ _ ?_; clear hK K))
  repeat (first | (refine Abs.step_pure rfl rfl (fun K hK => ?_); go_simp; (try go_bits); (first | refine hK _ _ ?_ | (simp only [↓IntWalk.iteOmega]; go_simp; (try go_bits); refine hK _ _ ?_)); clear hK K) | (refine Abs.step_load (v := ?_) rfl rfl (by kernel_rfl) rfl (fun w0 hI => ?_) (fun K hK => ?_); rotate_left; (· have z0 := (rcell (kp hI (f_a1))).1; have z1 := (rcell (kp hI (f_b1))).1; go_simp; rfl); (simp only [Act.put, List.setIfInBounds_toArray, List.set_cons_zero, List.set_cons_succ]; refine hK _ _ ?_; clear hK K)) | (refine Abs.step_skip rfl rfl (fun K hK => ?_); (simp only [Act.put, List.setIfInBounds_toArray, List.set_cons_zero, List.set_cons_succ]; refine hK _ _ ?_; clear hK K)))
  (refine Abs.step_call (f := ?_) (args := ?_) rfl rfl rfl rfl (NumIs (D')) (fun _ => Cl_NumIs _) (fun w0 => ?_) (fun w0 hI hF => ?_) (fun K hK v w0 hv => ?_); rotate_left 2; (· go_simp; (constructor <;> rfl)); (· exact (c2 _).mono (fun _ _ h => h.num)); (obtain ⟨A2, e2, rfl, -⟩ := hv; clear w0; simp only [Act.put, List.setIfInBounds_toArray, List.set_cons_zero, List.set_cons_succ]; refine hK _ _ ?_; clear hK K))
  repeat (first | (refine Abs.step_pure rfl rfl (fun K hK => ?_); go_simp; (try go_bits); (first | refine hK _ _ ?_ | (simp only [↓IntWalk.iteOmega]; go_simp; (try go_bits); refine hK _ _ ?_)); clear hK K) | (refine Abs.step_load (v := ?_) rfl rfl (by kernel_rfl) rfl (fun w0 hI => ?_) (fun K hK => ?_); rotate_left; (· have z0 := (rcell (kp hI (f_a1))).1; have z1 := (rcell (kp hI (f_b1))).1; go_simp; rfl); (simp only [Act.put, List.setIfInBounds_toArray, List.set_cons_zero, List.set_cons_succ]; refine hK _ _ ?_; clear hK K)) | (refine Abs.step_skip rfl rfl (fun K hK => ?_); (simp only [Act.put, List.setIfInBounds_toArray, List.set_cons_zero, List.set_cons_succ]; refine hK _ _ ?_; clear hK K)))
  (refine Abs.step_call (f := ?_) (args := ?_) rfl rfl rfl rfl (NumIs (x)) (fun _ => Cl_NumIs _) (fun w0 => ?_) (fun w0 hI hF => ?_) (fun K hK v w0 hv => ?_); rotate_left 2; (· go_simp; (constructor <;> rfl)); (· exact (m1 _ _ _ _ _ (((hF 2 (by kernel_rfl)).1).2 rfl).rd ((hF 5 (by kernel_rfl)).2 rfl).rd).mono (fun _ _ h => h.num)); (obtain ⟨A3, e3, rfl, -⟩ := hv; clear w0; simp only [Act.put, List.setIfInBounds_toArray, List.set_cons_zero, List.set_cons_succ]; refine hK _ _ ?_; clear hK K))
  repeat (first | (refine Abs.step_pure rfl rfl (fun K hK => ?_); go_simp; (try go_bits); (first | refine hK _ _ ?_ | (simp only [↓IntWalk.iteOmega]; go_simp; (try go_bits); refine hK _ _ ?_)); clear hK K) | (refine Abs.step_load (v := ?_) rfl rfl (by kernel_rfl) rfl (fun w0 hI => ?_) (fun K hK => ?_); rotate_left; (· have z0 := (rcell (kp hI (f_a1))).1; have z1 := (rcell (kp hI (f_b1))).1; go_simp; rfl); (simp only [Act.put, List.setIfInBounds_toArray, List.set_cons_zero, List.set_cons_succ]; refine hK _ _ ?_; clear hK K)) | (refine Abs.step_skip rfl rfl (fun K hK => ?_); (simp only [Act.put, List.setIfInBounds_toArray, List.set_cons_zero, List.set_cons_succ]; refine hK _ _ ?_; clear hK K)))
  (refine Abs.step_call (f := ?_) (args := ?_) rfl rfl rfl rfl (NumIs (N')) (fun _ => Cl_NumIs _) (fun w0 => ?_) (fun w0 hI hF => ?_) (fun K hK v w0 hv => ?_); rotate_left 2; (· go_simp; (constructor <;> rfl)); (· exact (c3 _).mono (fun _ _ h => h.num)); (obtain ⟨A4, e4, rfl, -⟩ := hv; clear w0; simp only [Act.put, List.setIfInBounds_toArray, List.set_cons_zero, List.set_cons_succ]; refine hK _ _ ?_; clear hK K))
  repeat (first | (refine Abs.step_pure rfl rfl (fun K hK => ?_); go_simp; (try go_bits); (first | refine hK _ _ ?_ | (simp only [↓IntWalk.iteOmega]; go_simp; (try go_bits); refine hK _ _ ?_)); clear hK K) | (refine Abs.step_load (v := ?_) rfl rfl (by kernel_rfl) rfl (fun w0 hI => ?_) (fun K hK => ?_); rotate_left; (· have z0 := (rcell (kp hI (f_a1))).1; have z1 := (rcell (kp hI (f_b1))).1; go_simp; rfl); (simp only [Act.put, List.setIfInBounds_toArray, List.set_cons_zero, List.set_cons_succ]; refine hK _ _ ?_; clear hK K)) | (refine Abs.step_skip rfl rfl (fun K hK => ?_); (simp only [Act.put, List.setIfInBounds_toArray, List.set_cons_zero, List.set_cons_succ]; refine hK _ _ ?_; clear hK K)))
  (refine Abs.step_call (f := ?_) (args := ?_) rfl rfl rfl rfl (NumIs (D)) (fun _ => Cl_NumIs _) (fun w0 => ?_) (fun w0 hI hF => ?_) (fun K hK v w0 hv => ?_); rotate_left 2; (· go_simp; (constructor <;> rfl)); (· exact (c4 _).mono (fun _ _ h => h.num)); (obtain ⟨A5, e5, rfl, -⟩ := hv; clear w0; simp only [Act.put, List.setIfInBounds_toArray, List.set_cons_zero, List.set_cons_succ]; refine hK _ _ ?_; clear hK K))
  repeat (first | (refine Abs.step_pure rfl rfl (fun K hK => ?_); go_simp; (try go_bits); (first | refine hK _ _ ?_ | (simp only [↓IntWalk.iteOmega]; go_simp; (try go_bits); refine hK _ _ ?_)); clear hK K) | (refine Abs.step_load (v := ?_) rfl rfl (by kernel_rfl) rfl (fun w0 hI => ?_) (fun K hK => ?_); rotate_left; (· have z0 := (rcell (kp hI (f_a1))).1; have z1 := (rcell (kp hI (f_b1))).1; go_simp; rfl); (simp only [Act.put, List.setIfInBounds_toArray, List.set_cons_zero, List.set_cons_succ]; refine hK _ _ ?_; clear hK K)) | (refine Abs.step_skip rfl rfl (fun K hK => ?_); (simp only [Act.put, List.setIfInBounds_toArray, List.set_cons_zero, List.set_cons_succ]; refine hK _ _ ?_; clear hK K)))
  (refine Abs.step_call (f := ?_) (args := ?_) rfl rfl rfl rfl (NumIs (y)) (fun _ => Cl_NumIs _) (fun w0 => ?_) (fun w0 hI hF => ?_) (fun K hK v w0 hv => ?_); rotate_left 2; (· go_simp; (constructor <;> rfl)); (· exact (m2 _ _ _ _ _ (((hF 9 (by kernel_rfl)).1).2 rfl).rd ((hF 12 (by kernel_rfl)).2 rfl).rd).mono (fun _ _ h => h.num)); (obtain ⟨A6, e6, rfl, -⟩ := hv; clear w0; simp only [Act.put, List.setIfInBounds_toArray, List.set_cons_zero, List.set_cons_succ]; refine hK _ _ ?_; clear hK K))
  repeat (first | (refine Abs.step_pure rfl rfl (fun K hK => ?_); go_simp; (try go_bits); (first | refine hK _ _ ?_ | (simp only [↓IntWalk.iteOmega]; go_simp; (try go_bits); refine hK _ _ ?_)); clear hK K) | (refine Abs.step_load (v := ?_) rfl rfl (by kernel_rfl) rfl (fun w0 hI => ?_) (fun K hK => ?_); rotate_left; (· have z0 := (rcell (kp hI (f_a1))).1; have z1 := (rcell (kp hI (f_b1))).1; go_simp; rfl); (simp only [Act.put, List.setIfInBounds_toArray, List.set_cons_zero, List.set_cons_succ]; refine hK _ _ ?_; clear hK K)) | (refine Abs.step_skip rfl rfl (fun K hK => ?_); (simp only [Act.put, List.setIfInBounds_toArray, List.set_cons_zero, List.set_cons_succ]; refine hK _ _ ?_; clear hK K)))
  (refine Abs.step_call (f := ?_) (args := ?_) rfl rfl rfl rfl (fun v _ => v = .bool r) (fun _ _ _ h _ => h) (fun w0 => ?_) (fun w0 hI hF => ?_) (fun K hK v w0 hv => ?_); rotate_left 2; (· go_simp; (constructor <;> rfl)); (· exact (l _ _ _ _ _ (((((hF 6 (by kernel_rfl)).1).1).1).2 rfl).rd ((hF 13 (by kernel_rfl)).2 rfl).rd).mono (fun _ _ h => ⟨_, h.1, h.2, rfl⟩)); (replace hv : v = .bool r := hv; subst hv; clear w0; simp only [Act.put, List.setIfInBounds_toArray, List.set_cons_zero, List.set_cons_succ]; refine hK _ _ ?_; clear hK K))
  repeat (first | (refine Abs.step_pure rfl rfl (fun K hK => ?_); go_simp; (try go_bits); (first | refine hK _ _ ?_ | (simp only [↓IntWalk.iteOmega]; go_simp; (try go_bits); refine hK _ _ ?_)); clear hK K) | (refine Abs.step_load (v := ?_) rfl rfl (by kernel_rfl) rfl (fun w0 hI => ?_) (fun K hK => ?_); rotate_left; (· have z0 := (rcell (kp hI (f_a1))).1; have z1 := (rcell (kp hI (f_b1))).1; go_simp; rfl); (simp only [Act.put, List.setIfInBounds_toArray, List.set_cons_zero, List.set_cons_succ]; refine hK _ _ ?_; clear hK K)) | (refine Abs.step_skip rfl rfl (fun K hK => ?_); (simp only [Act.put, List.setIfInBounds_toArray, List.set_cons_zero, List.set_cons_succ]; refine hK _ _ ?_; clear hK K)))
  intro w2 hb2 hx0 hx1 hx2
  clear hx0 hx1 hx2
  simp only [Abs.T_setF, Abs.T_addA, Abs.T_push, Abs.T_start]
  have f_a2 := kp hb2 (f_a1)
  have f_b2 := kp hb2 (f_b1)
  have hB2 := bB hB1 hb2
  obtain ⟨za_a, za_b, la2⟩ := rcell f_a2
  obtain ⟨zb_a, zb_b, lb2⟩ := rcell f_b2
  go_wp2
  go_ret
  exact ⟨rfl, hB2⟩

/-- the slope nearest to 0 of those from one to another one -/
def nrN (N D N' D' : Int) : Int := if 0 < N then lwN N D else if N' < 0 then lwN N' D' else 0
def nrD (N D N' D' : Int) : Int := if 0 < N then lwD N D else if N' < 0 then lwD N' D' else 1
theorem ref_Nearest (N D N' D' : Int) (h : slB N D = true) (h' : slB N' D' = true) (w : World) :
    Calls Try.prog 42 #[.agg #[.int .i64 N, .int .i64 D], .agg #[.int .i64 N', .int .i64 D']] w fun e w' => e = .returned (.agg #[.int .i64 (nrN N D N' D'), .int .i64 (nrD N D N' D')]) ∧ Below w.heap.size w w' := by
  obtain ⟨d1, d2, d3, d4⟩ := slB_spec h
  obtain ⟨d1', d2', d3', d4'⟩ := slB_spec h'
  have c1 := ref_Lowest N D d1 (by omega) (by omega) (by omega)
  have c2 := ref_Lowest N' D' d1' (by omega) (by omega) (by omega)
  by_cases k1 : 0 < N
  · rw [show nrN N D N' D' = lwN N D from if_pos k1, show nrD N D N' D' = lwD N D from if_pos k1]
    generalize lwN N D = n at *
    generalize lwD N D = d at *
    go_enter Try.func42, Try.ntmps42
    go_wp2_with fail
    refine (c1 _).mono ?_
    rintro e w1 ⟨rfl, hb1⟩
    have f_a1 := kp hb1 (ka (ka (na _ _ _) _) _)
    have f_b1 := kp hb1 (ka (na1 _ _ _ _) _)
    have f_o1 := kp hb1 (na2 _ _ _ _ _)
    have hB1 := bB (bA (bA (bA (b0 w) _) _) _) hb1
    obtain ⟨za_a, za_b, la1⟩ := rcell f_a1
    obtain ⟨zb_a, zb_b, lb1⟩ := rcell f_b1
    obtain ⟨zo_a, zo_b, lo1⟩ := rcell f_o1
    go_wp2_with fail
    (rw [row2 (f_o1)]; generalize hT : setRow _ _ _ = wE; obtain ⟨hbE, hgE⟩ := ret_row hB1 (by omega) (f_o1) hT; have zE := (rcell hgE).1; clear hT; refine bodyPost_ret (by simp [results, Try.results42, go_sem, zE]; try rfl) rfl ?_)
    exact ⟨rfl, hbE⟩
  · by_cases k2 : N' < 0
    · rw [show nrN N D N' D' = lwN N' D' by unfold nrN; rw [if_neg k1, if_pos k2], show nrD N D N' D' = lwD N' D' by unfold nrD; rw [if_neg k1, if_pos k2]]
      generalize lwN N' D' = n at *
      generalize lwD N' D' = d at *
      go_enter Try.func42, Try.ntmps42
      go_wp2_with fail
      refine (c2 _).mono ?_
      rintro e w1 ⟨rfl, hb1⟩
      have f_a1 := kp hb1 (ka (ka (na _ _ _) _) _)
      have f_b1 := kp hb1 (ka (na1 _ _ _ _) _)
      have f_o1 := kp hb1 (na2 _ _ _ _ _)
      have hB1 := bB (bA (bA (bA (b0 w) _) _) _) hb1
      obtain ⟨za_a, za_b, la1⟩ := rcell f_a1
      obtain ⟨zb_a, zb_b, lb1⟩ := rcell f_b1
      obtain ⟨zo_a, zo_b, lo1⟩ := rcell f_o1
      go_wp2_with fail
      (rw [row2 (f_o1)]; generalize hT : setRow _ _ _ = wE; obtain ⟨hbE, hgE⟩ := ret_row hB1 (by omega) (f_o1) hT; have zE := (rcell hgE).1; clear hT; refine bodyPost_ret (by simp [results, Try.results42, go_sem, zE]; try rfl) rfl ?_)
      exact ⟨rfl, hbE⟩
    · rw [show nrN N D N' D' = 0 by unfold nrN; rw [if_neg k1, if_neg k2], show nrD N D N' D' = 1 by unfold nrD; rw [if_neg k1, if_neg k2]]
      go_enter Try.func42, Try.ntmps42
      go_wp2
      refine bodyPost_ret (by simp [results, Try.results42, go_sem]; try rfl) rfl ⟨rfl, (bA (bA (bA (b0 w) _) _) _)⟩

set_option maxHeartbeats 1000000 in
theorem line_Nearest_yes (N D N' D' : Int) (h : slB N D = true) (h' : slB N' D' = true) (hle : N * D' ≤ N' * D) (w : World) :
    Calls Try.prog 63 #[.agg #[.int .i64 N, .int .i64 D], .agg #[.int .i64 N', .int .i64 D']] w fun e w' => e = .returned (.tuple #[.agg #[.int .i64 (nrN N D N' D'), .int .i64 (nrD N D N' D')], .int .i64 0]) ∧ Below w.heap.size w w' := by
  obtain ⟨d1, d2, d3, d4⟩ := slB_spec h
  obtain ⟨d1', d2', d3', d4'⟩ := slB_spec h'
  have c0 := line_Compare_yes N D N' D' h h'
  have k0 : cmpI (N * D') (N' * D) ≤ 0 := by
    unfold cmpI
    split
    · omega
    · rw [if_pos (by omega)]; omega
  have c1 := line_lowest N D d1 (by omega) (by omega) (by omega)
  have c2 := line_lowest N' D' d1' (by omega) (by omega) (by omega)
  generalize cmpI (N * D') (N' * D) = o at *
  have k3 : ¬ 0 < o := by omega
  by_cases k1 : 0 < N
  · rw [show nrN N D N' D' = lwN N D from if_pos k1, show nrD N D N' D' = lwD N D from if_pos k1]
    generalize lwN N D = n at *
    generalize lwD N D = d at *
    go_enter Try.func63, Try.ntmps63
    go_wp2_with fail
    refine (c0 _).mono ?_
    rintro e w1 ⟨rfl, hb1⟩
    have f_a1 := kp hb1 (ka (ka (na _ _ _) _) _)
    have f_b1 := kp hb1 (ka (na1 _ _ _ _) _)
    have f_o1 := kp hb1 (na2 _ _ _ _ _)
    have hB1 := bB (bA (bA (bA (b0 w) _) _) _) hb1
    obtain ⟨za_a, za_b, la1⟩ := rcell f_a1
    obtain ⟨zb_a, zb_b, lb1⟩ := rcell f_b1
    obtain ⟨zo_a, zo_b, lo1⟩ := rcell f_o1
    go_wp2_with fail
    refine (c1 _).mono ?_
    rintro e w2 ⟨rfl, hb2⟩
    have f_a2 := kp hb2 (f_a1)
    have f_b2 := kp hb2 (f_b1)
    have f_o2 := kp hb2 (f_o1)
    have hB2 := bB hB1 hb2
    clear za_a za_b zb_a zb_b zo_a zo_b
    obtain ⟨za_a, za_b, la2⟩ := rcell f_a2
    obtain ⟨zb_a, zb_b, lb2⟩ := rcell f_b2
    obtain ⟨zo_a, zo_b, lo2⟩ := rcell f_o2
    go_wp2_with fail
    (rw [row2 (f_o2)]; generalize hT : setRow _ _ _ = wE; obtain ⟨hbE, hgE⟩ := ret_row hB2 (by omega) (f_o2) hT; have zE := (rcell hgE).1; clear hT; refine bodyPost_ret (by simp [results, Try.results63, go_sem, zE]; try rfl) rfl ?_)
    exact ⟨rfl, hbE⟩
  · by_cases k2 : N' < 0
    · rw [show nrN N D N' D' = lwN N' D' by unfold nrN; rw [if_neg k1, if_pos k2], show nrD N D N' D' = lwD N' D' by unfold nrD; rw [if_neg k1, if_pos k2]]
      generalize lwN N' D' = n at *
      generalize lwD N' D' = d at *
      go_enter Try.func63, Try.ntmps63
      go_wp2_with fail
      refine (c0 _).mono ?_
      rintro e w1 ⟨rfl, hb1⟩
      have f_a1 := kp hb1 (ka (ka (na _ _ _) _) _)
      have f_b1 := kp hb1 (ka (na1 _ _ _ _) _)
      have f_o1 := kp hb1 (na2 _ _ _ _ _)
      have hB1 := bB (bA (bA (bA (b0 w) _) _) _) hb1
      obtain ⟨za_a, za_b, la1⟩ := rcell f_a1
      obtain ⟨zb_a, zb_b, lb1⟩ := rcell f_b1
      obtain ⟨zo_a, zo_b, lo1⟩ := rcell f_o1
      go_wp2_with fail
      refine (c2 _).mono ?_
      rintro e w2 ⟨rfl, hb2⟩
      have f_a2 := kp hb2 (f_a1)
      have f_b2 := kp hb2 (f_b1)
      have f_o2 := kp hb2 (f_o1)
      have hB2 := bB hB1 hb2
      clear za_a za_b zb_a zb_b zo_a zo_b
      obtain ⟨za_a, za_b, la2⟩ := rcell f_a2
      obtain ⟨zb_a, zb_b, lb2⟩ := rcell f_b2
      obtain ⟨zo_a, zo_b, lo2⟩ := rcell f_o2
      go_wp2_with fail
      (rw [row2 (f_o2)]; generalize hT : setRow _ _ _ = wE; obtain ⟨hbE, hgE⟩ := ret_row hB2 (by omega) (f_o2) hT; have zE := (rcell hgE).1; clear hT; refine bodyPost_ret (by simp [results, Try.results63, go_sem, zE]; try rfl) rfl ?_)
      exact ⟨rfl, hbE⟩
    · rw [show nrN N D N' D' = 0 by unfold nrN; rw [if_neg k1, if_neg k2], show nrD N D N' D' = 1 by unfold nrD; rw [if_neg k1, if_neg k2]]
      go_enter Try.func63, Try.ntmps63
      go_wp2_with fail
      refine (c0 _).mono ?_
      rintro e w1 ⟨rfl, hb1⟩
      have f_a1 := kp hb1 (ka (ka (na _ _ _) _) _)
      have f_b1 := kp hb1 (ka (na1 _ _ _ _) _)
      have f_o1 := kp hb1 (na2 _ _ _ _ _)
      have hB1 := bB (bA (bA (bA (b0 w) _) _) _) hb1
      obtain ⟨za_a, za_b, la1⟩ := rcell f_a1
      obtain ⟨zb_a, zb_b, lb1⟩ := rcell f_b1
      obtain ⟨zo_a, zo_b, lo1⟩ := rcell f_o1
      go_wp2_with fail
      (rw [row2 (f_o1)]; generalize hT : setRow _ _ _ = wE; obtain ⟨hbE, hgE⟩ := ret_row hB1 (by omega) (f_o1) hT; have zE := (rcell hgE).1; clear hT; refine bodyPost_ret (by simp [results, Try.results63, go_sem, zE]; try rfl) rfl ?_)
      exact ⟨rfl, hbE⟩
theorem line_Nearest_gt (N D N' D' : Int) (h : slB N D = true) (h' : slB N' D' = true) (hgt : N' * D < N * D') (w : World) :
    Calls Try.prog 63 #[.agg #[.int .i64 N, .int .i64 D], .agg #[.int .i64 N', .int .i64 D']] w fun e w' => e = .returned (.tuple #[.agg #[.int .i64 0, .int .i64 0], .int .i64 2]) ∧ Below w.heap.size w w' := by
  have c0 := line_Compare_yes N D N' D' h h'
  rw [cmpI_gt hgt] at c0
  go_enter Try.func63, Try.ntmps63
  go_wp2_with fail
  refine (c0 _).mono ?_
  rintro e w1 ⟨rfl, hb1⟩
  have f_a1 := kp hb1 (ka (ka (na _ _ _) _) _)
  have f_b1 := kp hb1 (ka (na1 _ _ _ _) _)
  have f_o1 := kp hb1 (na2 _ _ _ _ _)
  have hB1 := bB (bA (bA (bA (b0 w) _) _) _) hb1
  obtain ⟨za_a, za_b, la1⟩ := rcell f_a1
  obtain ⟨zb_a, zb_b, lb1⟩ := rcell f_b1
  obtain ⟨zo_a, zo_b, lo1⟩ := rcell f_o1
  go_wp2_with fail
  (rw [row2 (f_o1)]; generalize hT : setRow _ _ _ = wE; obtain ⟨hbE, hgE⟩ := ret_row hB1 (by omega) (f_o1) hT; have zE := (rcell hgE).1; clear hT; refine bodyPost_ret (by simp [results, Try.results63, go_sem, zE]; try rfl) rfl ?_)
  exact ⟨rfl, hbE⟩
theorem line_Nearest_no (N D N' D' : Int) (h : ¬ (slB N D = true ∧ slB N' D' = true)) (w : World) :
    Calls Try.prog 63 #[.agg #[.int .i64 N, .int .i64 D], .agg #[.int .i64 N', .int .i64 D']] w fun e w' => e = .returned (.tuple #[.agg #[.int .i64 0, .int .i64 0], .int .i64 151]) ∧ Below w.heap.size w w' := by
  have c0 := line_Compare_no N D N' D' h
  go_enter Try.func63, Try.ntmps63
  go_wp2_with fail
  refine (c0 _).mono ?_
  rintro e w1 ⟨rfl, hb1⟩
  have f_a1 := kp hb1 (ka (ka (na _ _ _) _) _)
  have f_b1 := kp hb1 (ka (na1 _ _ _ _) _)
  have f_o1 := kp hb1 (na2 _ _ _ _ _)
  have hB1 := bB (bA (bA (bA (b0 w) _) _) _) hb1
  obtain ⟨za_a, za_b, la1⟩ := rcell f_a1
  obtain ⟨zb_a, zb_b, lb1⟩ := rcell f_b1
  obtain ⟨zo_a, zo_b, lo1⟩ := rcell f_o1
  go_wp2_with fail
  (rw [row2 (f_o1)]; generalize hT : setRow _ _ _ = wE; obtain ⟨hbE, hgE⟩ := ret_row hB1 (by omega) (f_o1) hT; have zE := (rcell hgE).1; clear hT; refine bodyPost_ret (by simp [results, Try.results63, go_sem, zE]; try rfl) rfl ?_)
  exact ⟨rfl, hbE⟩
end Go.Proofs.Ytfdaabdibpcjeaa

namespace Go.Proofs.Ytfdaabdibpcjeaa
open Go.RowKit

set_option maxRecDepth 100000 in
theorem line_Of_w (a N D N' D' : Int)
    (c1 : ∀ w, Calls Try.prog 48 #[.agg #[.int .i64 N, .int .i64 D]] w fun e w' => e = .returned (.bool true) ∧ Below w.heap.size w w')
    (c2 : ∀ w, Calls Try.prog 49 #[.int .i64 a] w fun e w' => e = .returned (.bool true) ∧ Below w.heap.size w w')
    (c3 : ∀ w, Calls Try.prog 50 #[.agg #[.int .i64 N, .int .i64 D]] w fun e w' => e = .returned (.agg #[.int .i64 N', .int .i64 D']) ∧ Below w.heap.size w w') (w : World) :
    Calls Try.prog 25 #[.int .i64 a, .agg #[.int .i64 N, .int .i64 D]] w fun e w' => e = .returned (.tuple #[.agg #[.int .i64 a, .int .i64 0, .int .i64 N', .int .i64 D'], .int .i64 0]) ∧ Below w.heap.size w w' := by
  go_enter Try.func25, Try.ntmps25
  go_wp2_with fail
  refine (c1 _).mono ?_
  rintro e w1 ⟨rfl, hb1⟩
  have f_s1 := kp hb1 (ka (na _ _ _) _)
  have f_o1 := kp hb1 (na1 _ _ _ _)
  have hB1 := bB (bA (bA (b0 w) _) _) hb1
  obtain ⟨zs_a, zs_b, ls1⟩ := rcell f_s1
  obtain ⟨zo_a, zo_b, lo1⟩ := rcell f_o1
  go_wp2_with fail
  refine (c2 _).mono ?_
  rintro e w2 ⟨rfl, hb2⟩
  have f_s2 := kp hb2 (f_s1)
  have f_o2 := kp hb2 (f_o1)
  have hB2 := bB hB1 hb2
  clear zo_a zo_b zs_a zs_b
  obtain ⟨zs_a, zs_b, ls2⟩ := rcell f_s2
  obtain ⟨zo_a, zo_b, lo2⟩ := rcell f_o2
  go_wp2_with fail
  refine (c3 _).mono ?_
  rintro e w3 ⟨rfl, hb3⟩
  have f_s3 := kp hb3 (f_s2)
  have f_o3 := kp hb3 (f_o2)
  have hB3 := bB hB2 hb3
  clear zo_a zo_b zs_a zs_b
  obtain ⟨zs_a, zs_b, ls3⟩ := rcell f_s3
  obtain ⟨zo_a, zo_b, lo3⟩ := rcell f_o3
  go_wp2_with fail
  rw [row2 f_s3]
  generalize hT4 : setRow _ _ _ = w4
  obtain ⟨hx4, f_s4⟩ := fin_x (b0 _) f_s3 hT4
  clear hT4
  have f_o4 := kx hx4 (f_o3) (by omega)
  have hB4 := bX hB3 hx4 (by omega)
  clear zo_a zo_b zs_a zs_b
  obtain ⟨zo_a, zo_b, lo4⟩ := rcell f_o4
  obtain ⟨zs_a, zs_b, ls4⟩ := rcell f_s4
  (rw [row4 (f_o4)]; generalize hT : setRow _ _ _ = wE; obtain ⟨hbE, hgE⟩ := ret_row hB4 (by omega) (f_o4) hT; have zE := (rcell hgE).1; clear hT; refine bodyPost_ret (by simp [results, Try.results25, go_sem, zE]; try rfl) rfl ?_)
  exact ⟨rfl, hbE⟩

theorem line_Of_yes (a N D : Int) (hb : bkB a = true) (hs : slB N D = true) (w : World) :
    Calls Try.prog 25 #[.int .i64 a, .agg #[.int .i64 N, .int .i64 D]] w fun e w' => e = .returned (.tuple #[.agg #[.int .i64 a, .int .i64 0, .int .i64 (lwN N D), .int .i64 (lwD N D)], .int .i64 0]) ∧ Below w.heap.size w w' := by
  obtain ⟨d1, d2, d3, d4⟩ := slB_spec hs
  have c1 := line_slopeIs N D
  have c2 := line_backB a
  rw [hs] at c1
  rw [hb] at c2
  exact line_Of_w a N D _ _ c1 c2 (line_lowest N D d1 (by omega) (by omega) (by omega)) w
end Go.Proofs.Ytfdaabdibpcjeaa
