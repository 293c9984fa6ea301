/- yearbookref01 at this program: Fits, Value, Of, Neg, Pow, Add. -/
import Derived.Test.YtmpfbkeamihjbaaGreatR1
set_option linter.unusedSimpArgs false
set_option linter.unusedVariables false
namespace Go.Proofs.YtmpfbkeamihjbaaGreat
open Go.RowKit

set_option maxRecDepth 100000 in
set_option maxHeartbeats 1000000 in
theorem ref_Fits (x : Int) (n : Nat) (hn : n ≤ 900) (A : Option Addr) (c : Nat) (lx : (sz x.natAbs).length ≤ 4096) (w : World) (ha : Rd w A c (sz x.natAbs)) :
    Calls Tryz.prog 106 #[.agg #[.bool (decide (x < 0)), .slice A (sz x.natAbs).length c], .int .i64 ((n : Int) + 1)] w fun e w' => e = .returned (.bool (decide (-((2 ^ n : Nat) : Int) ≤ x ∧ x < ((2 ^ n : Nat) : Int)))) ∧ Below w.heap.size w w' := by
  have c1 := ref_power n (by omega)
  have lp : (sz (2 ^ n)).length ≤ 4096 := Nat.le_trans (sz_len_lt (k := n + 1) (by rw [Nat.pow_succ]; have := Nat.two_pow_pos n; omega)) (by omega)
  have hb : (n : Int) + 1 - 1 = n := by omega
  have b1 : (n : Int) ≤ 900 := by omega
  by_cases h : x < 0
  · have c2 := fun A B c d w ha hb => ref_less (2 ^ n) x.natAbs A B c d lp lx w ha hb
    have e : (!decide (2 ^ n < x.natAbs)) = decide (-((2 ^ n : Nat) : Int) ≤ x ∧ x < ((2 ^ n : Nat) : Int)) := by
      generalize 2 ^ n = P
      by_cases hp : P < x.natAbs
      · rw [decide_eq_true hp, decide_eq_false (by omega)]; rfl
      · rw [decide_eq_false hp, decide_eq_true (by omega)]; rfl
    rw [← e, decide_eq_true h]
    clear e h lp lx
    generalize hP : 2 ^ n = P at *
    generalize x.natAbs = m at *
    generalize decide (P < m) = r at *
    clear hP
    go_enter Tryz.func106, Tryz.ntmps106
    go_wp2_with fail
    have f_a1 := (na w #[.bool true, .slice A (sz m).length c] 127)
    have rd_a1 := (ha.below (bA (b0 _) (.cells #[.bool true, .slice A (sz m).length c] 127)))
    have hB1 := (bA (b0 w) (.cells #[.bool true, .slice A (sz m).length c] 127))
    have la1 := (rcell f_a1).2.2
    refine Abs.wp_region_abs (Abs.cls0 _) [0, 1, 2, 3, 4, 5, 6, 7] (by kernel_rfl) (by kernel_rfl) (Below.refl _ _).drew ?_
    repeat (first | (refine Abs.step_pure rfl rfl (fun K hK => ?_); go_simp; (try go_bits); (first | refine hK _ _ ?_ | (simp only [↓IntWalk.iteOmega]; go_simp; (try go_bits); refine hK _ _ ?_)); clear hK K) | (refine Abs.step_load (v := ?_) rfl rfl (by kernel_rfl) rfl (fun w0 hI => ?_) (fun K hK => ?_); rotate_left; (· have z0 := (rcell (kp hI (f_a1))).1; go_simp; rfl); (simp only [Act.put, List.setIfInBounds_toArray, List.set_cons_zero, List.set_cons_succ]; refine hK _ _ ?_; clear hK K)) | (refine Abs.step_skip rfl rfl (fun K hK => ?_); (simp only [Act.put, List.setIfInBounds_toArray, List.set_cons_zero, List.set_cons_succ]; refine hK _ _ ?_; clear hK K)))
    (refine Abs.step_call (f := ?_) (args := ?_) rfl rfl rfl rfl (SlIs (P)) (fun _ => Cl_SlIs _) (fun w0 => ?_) (fun w0 hI hF => ?_) (fun K hK v w0 hv => ?_); rotate_left 2; (· go_simp; (constructor <;> rfl)); (· exact (c1 _).mono (fun _ _ h => h.sl)); (obtain ⟨A1, d1, rfl, -⟩ := hv; clear w0; simp only [Act.put, List.setIfInBounds_toArray, List.set_cons_zero, List.set_cons_succ]; refine hK _ _ ?_; clear hK K))
    repeat (first | (refine Abs.step_pure rfl rfl (fun K hK => ?_); go_simp; (try go_bits); (first | refine hK _ _ ?_ | (simp only [↓IntWalk.iteOmega]; go_simp; (try go_bits); refine hK _ _ ?_)); clear hK K) | (refine Abs.step_load (v := ?_) rfl rfl (by kernel_rfl) rfl (fun w0 hI => ?_) (fun K hK => ?_); rotate_left; (· have z0 := (rcell (kp hI (f_a1))).1; go_simp; rfl); (simp only [Act.put, List.setIfInBounds_toArray, List.set_cons_zero, List.set_cons_succ]; refine hK _ _ ?_; clear hK K)) | (refine Abs.step_skip rfl rfl (fun K hK => ?_); (simp only [Act.put, List.setIfInBounds_toArray, List.set_cons_zero, List.set_cons_succ]; refine hK _ _ ?_; clear hK K)))
    (refine Abs.step_call (f := ?_) (args := ?_) rfl rfl rfl rfl (fun v _ => v = .bool r) (fun _ _ _ h _ => h) (fun w0 => ?_) (fun w0 hI hF => ?_) (fun K hK v w0 hv => ?_); rotate_left 2; (· go_simp; (constructor <;> rfl)); (· exact (c2 _ _ _ _ _ ((hF 2 (by kernel_rfl)).2 rfl).rd (rd_a1.below hI)).mono (fun _ _ h => ⟨_, h.1, h.2, rfl⟩)); (replace hv : v = .bool r := hv; subst hv; clear w0; simp only [Act.put, List.setIfInBounds_toArray, List.set_cons_zero, List.set_cons_succ]; refine hK _ _ ?_; clear hK K))
    repeat (first | (refine Abs.step_pure rfl rfl (fun K hK => ?_); go_simp; (try go_bits); (first | refine hK _ _ ?_ | (simp only [↓IntWalk.iteOmega]; go_simp; (try go_bits); refine hK _ _ ?_)); clear hK K) | (refine Abs.step_load (v := ?_) rfl rfl (by kernel_rfl) rfl (fun w0 hI => ?_) (fun K hK => ?_); rotate_left; (· have z0 := (rcell (kp hI (f_a1))).1; go_simp; rfl); (simp only [Act.put, List.setIfInBounds_toArray, List.set_cons_zero, List.set_cons_succ]; refine hK _ _ ?_; clear hK K)) | (refine Abs.step_skip rfl rfl (fun K hK => ?_); (simp only [Act.put, List.setIfInBounds_toArray, List.set_cons_zero, List.set_cons_succ]; refine hK _ _ ?_; clear hK K)))
    intro w2 hb2 hx0 hx1 hx2
    clear hx0 hx1 hx2
    simp only [Abs.T_setF, Abs.T_addA, Abs.T_push, Abs.T_start]
    have f_a2 := kp hb2 (f_a1)
    have rd_a2 := rd_a1.below hb2
    have hB2 := bB hB1 hb2
    obtain ⟨za_a, za_b, la2⟩ := rcell f_a2
    go_wp2
    go_ret
    exact ⟨rfl, hB2⟩
  · have c2 := fun A B c d w ha hb => ref_less x.natAbs (2 ^ n) A B c d lx lp w ha hb
    have e : decide (x.natAbs < 2 ^ n) = decide (-((2 ^ n : Nat) : Int) ≤ x ∧ x < ((2 ^ n : Nat) : Int)) := by
      generalize 2 ^ n = P
      exact decide_eq_decide.2 (by omega)
    rw [← e, decide_eq_false h]
    clear e h lp lx
    generalize hP : 2 ^ n = P at *
    generalize x.natAbs = m at *
    generalize decide (m < P) = r at *
    clear hP
    go_enter Tryz.func106, Tryz.ntmps106
    go_wp2_with fail
    have f_a1 := (na w #[.bool false, .slice A (sz m).length c] 127)
    have rd_a1 := (ha.below (bA (b0 _) (.cells #[.bool false, .slice A (sz m).length c] 127)))
    have hB1 := (bA (b0 w) (.cells #[.bool false, .slice A (sz m).length c] 127))
    have la1 := (rcell f_a1).2.2
    refine Abs.wp_region_abs (Abs.cls0 _) [0, 1, 2, 3, 4, 5, 6] (by kernel_rfl) (by kernel_rfl) (Below.refl _ _).drew ?_
    repeat (first | (refine Abs.step_pure rfl rfl (fun K hK => ?_); go_simp; (try go_bits); (first | refine hK _ _ ?_ | (simp only [↓IntWalk.iteOmega]; go_simp; (try go_bits); refine hK _ _ ?_)); clear hK K) | (refine Abs.step_load (v := ?_) rfl rfl (by kernel_rfl) rfl (fun w0 hI => ?_) (fun K hK => ?_); rotate_left; (· have z0 := (rcell (kp hI (f_a1))).1; go_simp; rfl); (simp only [Act.put, List.setIfInBounds_toArray, List.set_cons_zero, List.set_cons_succ]; refine hK _ _ ?_; clear hK K)) | (refine Abs.step_skip rfl rfl (fun K hK => ?_); (simp only [Act.put, List.setIfInBounds_toArray, List.set_cons_zero, List.set_cons_succ]; refine hK _ _ ?_; clear hK K)))
    (refine Abs.step_call (f := ?_) (args := ?_) rfl rfl rfl rfl (SlIs (P)) (fun _ => Cl_SlIs _) (fun w0 => ?_) (fun w0 hI hF => ?_) (fun K hK v w0 hv => ?_); rotate_left 2; (· go_simp; (constructor <;> rfl)); (· exact (c1 _).mono (fun _ _ h => h.sl)); (obtain ⟨A1, d1, rfl, -⟩ := hv; clear w0; simp only [Act.put, List.setIfInBounds_toArray, List.set_cons_zero, List.set_cons_succ]; refine hK _ _ ?_; clear hK K))
    repeat (first | (refine Abs.step_pure rfl rfl (fun K hK => ?_); go_simp; (try go_bits); (first | refine hK _ _ ?_ | (simp only [↓IntWalk.iteOmega]; go_simp; (try go_bits); refine hK _ _ ?_)); clear hK K) | (refine Abs.step_load (v := ?_) rfl rfl (by kernel_rfl) rfl (fun w0 hI => ?_) (fun K hK => ?_); rotate_left; (· have z0 := (rcell (kp hI (f_a1))).1; go_simp; rfl); (simp only [Act.put, List.setIfInBounds_toArray, List.set_cons_zero, List.set_cons_succ]; refine hK _ _ ?_; clear hK K)) | (refine Abs.step_skip rfl rfl (fun K hK => ?_); (simp only [Act.put, List.setIfInBounds_toArray, List.set_cons_zero, List.set_cons_succ]; refine hK _ _ ?_; clear hK K)))
    (refine Abs.step_call (f := ?_) (args := ?_) rfl rfl rfl rfl (fun v _ => v = .bool r) (fun _ _ _ h _ => h) (fun w0 => ?_) (fun w0 hI hF => ?_) (fun K hK v w0 hv => ?_); rotate_left 2; (· go_simp; (constructor <;> rfl)); (· exact (c2 _ _ _ _ _ (rd_a1.below hI) ((hF 4 (by kernel_rfl)).2 rfl).rd).mono (fun _ _ h => ⟨_, h.1, h.2, rfl⟩)); (replace hv : v = .bool r := hv; subst hv; clear w0; simp only [Act.put, List.setIfInBounds_toArray, List.set_cons_zero, List.set_cons_succ]; refine hK _ _ ?_; clear hK K))
    repeat (first | (refine Abs.step_pure rfl rfl (fun K hK => ?_); go_simp; (try go_bits); (first | refine hK _ _ ?_ | (simp only [↓IntWalk.iteOmega]; go_simp; (try go_bits); refine hK _ _ ?_)); clear hK K) | (refine Abs.step_load (v := ?_) rfl rfl (by kernel_rfl) rfl (fun w0 hI => ?_) (fun K hK => ?_); rotate_left; (· have z0 := (rcell (kp hI (f_a1))).1; go_simp; rfl); (simp only [Act.put, List.setIfInBounds_toArray, List.set_cons_zero, List.set_cons_succ]; refine hK _ _ ?_; clear hK K)) | (refine Abs.step_skip rfl rfl (fun K hK => ?_); (simp only [Act.put, List.setIfInBounds_toArray, List.set_cons_zero, List.set_cons_succ]; refine hK _ _ ?_; clear hK K)))
    intro w2 hb2 hx0 hx1 hx2
    clear hx0 hx1 hx2
    simp only [Abs.T_setF, Abs.T_addA, Abs.T_push, Abs.T_start]
    have f_a2 := kp hb2 (f_a1)
    have rd_a2 := rd_a1.below hb2
    have hB2 := bB hB1 hb2
    obtain ⟨za_a, za_b, la2⟩ := rcell f_a2
    go_wp2
    go_ret
    exact ⟨rfl, hB2⟩

set_option maxRecDepth 100000 in
set_option maxHeartbeats 1000000 in
theorem ref_Value_no (x : Int) (A : Option Addr) (c : Nat) (lx : (sz x.natAbs).length ≤ 900) (h : ¬ (-9223372036854775808 ≤ x ∧ x < 9223372036854775808)) (w : World) (ha : Rd w A c (sz x.natAbs)) :
    Calls Tryz.prog 84 #[.agg #[.bool (decide (x < 0)), .slice A (sz x.natAbs).length c]] w fun e w' => e = .returned (.tuple #[.int .i64 0, .bool false]) ∧ Below w.heap.size w w' := by
  have c1 := fun w ha => ref_Fits x 63 (by decide) A c (by omega) w ha
  rw [show decide (-((2 ^ 63 : Nat) : Int) ≤ x ∧ x < ((2 ^ 63 : Nat) : Int)) = false from decide_eq_false (by simpa using h), show ((63 : Nat) : Int) + 1 = 64 from rfl] at c1
  clear h lx
  generalize decide (x < 0) = p at *
  generalize x.natAbs = n at *
  go_enter Tryz.func84, Tryz.ntmps84
  go_wp2_with fail
  refine (c1 _ (ha.below (bA (b0 _) (.cells #[.bool p, .slice A (sz n).length c] 127)))).mono ?_
  rintro e w1 ⟨rfl, hb1⟩
  have f_a1 := kp hb1 (na w #[.bool p, .slice A (sz n).length c] 127)
  have rd_a1 := (ha.below (bA (b0 _) (.cells #[.bool p, .slice A (sz n).length c] 127))).below hb1
  have hB1 := bB (bA (b0 w) (.cells #[.bool p, .slice A (sz n).length c] 127)) hb1
  obtain ⟨za_a, za_b, la1⟩ := rcell f_a1
  go_wp2
  go_ret2
  exact ⟨rfl, hB1⟩
set_option maxRecDepth 100000 in
set_option maxHeartbeats 1000000 in
theorem ref_Value_yes (x : Int) (A : Option Addr) (c : Nat) (h1 : -9223372036854775808 ≤ x) (h2 : x < 9223372036854775808) (w : World) (ha : Rd w A c (sz x.natAbs)) :
    Calls Tryz.prog 84 #[.agg #[.bool (decide (x < 0)), .slice A (sz x.natAbs).length c]] w fun e w' => e = .returned (.tuple #[.int .i64 x, .bool true]) ∧ Below w.heap.size w w' := by
  have c1 := fun w ha => ref_Fits x 63 (by decide) A c (Nat.le_trans (sz_i64 h1 h2) (by decide)) w ha
  have hdec : decide (-((2 ^ 63 : Nat) : Int) ≤ x ∧ x < ((2 ^ 63 : Nat) : Int)) = true := decide_eq_true (by
    have e : ((2 ^ 63 : Nat) : Int) = 9223372036854775808 := by decide
    rw [e]; omega)
  rw [hdec, show ((63 : Nat) : Int) + 1 = 64 from rfl] at c1
  clear hdec
  by_cases hx : x < 0
  · rw [decide_eq_true hx] at c1 ⊢
    have c2 := ref_power 64 (by decide)
    have l1 : (sz (2 ^ 64)).length ≤ 1000 := Nat.le_trans (sz_len_lt (k := 65) (by decide)) (by decide)
    have c3 := fun A B c d w ha hb => ref_minus (2 ^ 64) x.natAbs A B c d l1 (by omega) w ha hb
    have e3 : 2 ^ 64 - x.natAbs < 2 ^ 64 := by omega
    have c4 := fun A c w ha => ref_word (2 ^ 64 - x.natAbs) 0 A c (Nat.le_trans (sz_len_lt e3) (by decide)) (by decide) w ha
    have e4 : ((2 ^ 64 - x.natAbs) / 2 ^ 0 % 18446744073709551616 : Nat) = 2 ^ 64 - x.natAbs := by rw [Nat.pow_zero, Nat.div_one]; omega
    rw [e4] at c4
    have e5 : IntKind.i64.wrap ((2 ^ 64 - x.natAbs : Nat) : Int) = x := by rw [wrap64_i64]; simp only [wrap64]; omega
    have e6 : wrap64 ((2 ^ 64 - x.natAbs : Nat) : Int) = x := by rw [← wrap64_i64]; exact e5
    clear e3 e4 l1 e5
    generalize 2 ^ 64 - x.natAbs = m at *
    have E6 := hide e6
    clear e6
    generalize x.natAbs = n at *
    go_enter Tryz.func84, Tryz.ntmps84
    go_wp2_with fail
    refine (c1 _ (ha.below (bA (b0 _) (.cells #[.bool true, .slice A (sz n).length c] 127)))).mono ?_
    rintro e w1 ⟨rfl, hb1⟩
    have f_a1 := kp hb1 (na w #[.bool true, .slice A (sz n).length c] 127)
    have rd_a1 := (ha.below (bA (b0 _) (.cells #[.bool true, .slice A (sz n).length c] 127))).below hb1
    have hB1 := bB (bA (b0 w) (.cells #[.bool true, .slice A (sz n).length c] 127)) hb1
    obtain ⟨za_a, za_b, la1⟩ := rcell f_a1
    go_wp2_with fail
    refine (c2 _).mono ?_
    rintro e w2 ⟨A2, d2, rfl, hb2, rn_s2⟩
    have f_a2 := kp hb2 (f_a1)
    have rd_a2 := rd_a1.below hb2
    have hB2 := bB hB1 hb2
    clear za_a za_b
    obtain ⟨za_a, za_b, la2⟩ := rcell f_a2
    go_wp2_with fail
    refine (c3 A2 A d2 c _ rn_s2 rd_a2).mono ?_
    rintro e w3 ⟨A3, d3, rfl, hb3, rn_s3⟩
    have f_a3 := kp hb3 (f_a2)
    have rd_a3 := rd_a2.below hb3
    have rd_s23 := rn_s2.below hb3
    have hB3 := bB hB2 hb3
    clear za_a za_b
    obtain ⟨za_a, za_b, la3⟩ := rcell f_a3
    go_wp2_with fail
    refine (c4 A3 d3 _ rn_s3).mono ?_
    rintro e wq ⟨rfl, rfl⟩
    go_wp2
    go_ret2
    exact ⟨by simp [E6.out], hB3⟩
  · rw [decide_eq_false hx] at c1 ⊢
    have e3 : x.natAbs < 2 ^ 64 := by omega
    have c4 := fun A c w ha => ref_word x.natAbs 0 A c (Nat.le_trans (sz_len_lt e3) (by decide)) (by decide) w ha
    have e4 : (x.natAbs / 2 ^ 0 % 18446744073709551616 : Nat) = x.natAbs := by rw [Nat.pow_zero, Nat.div_one]; omega
    rw [e4] at c4
    have e5 : x = (x.natAbs : Int) := by omega
    clear e3 e4
    generalize x.natAbs = n at *
    subst e5
    clear hx
    go_enter Tryz.func84, Tryz.ntmps84
    go_wp2_with fail
    refine (c1 _ (ha.below (bA (b0 _) (.cells #[.bool false, .slice A (sz n).length c] 127)))).mono ?_
    rintro e w1 ⟨rfl, hb1⟩
    have f_a1 := kp hb1 (na w #[.bool false, .slice A (sz n).length c] 127)
    have rd_a1 := (ha.below (bA (b0 _) (.cells #[.bool false, .slice A (sz n).length c] 127))).below hb1
    have hB1 := bB (bA (b0 w) (.cells #[.bool false, .slice A (sz n).length c] 127)) hb1
    obtain ⟨za_a, za_b, la1⟩ := rcell f_a1
    go_wp2_with fail
    refine (c4 A c _ rd_a1).mono ?_
    rintro e wq ⟨rfl, rfl⟩
    go_wp2
    go_ret2
    exact ⟨by simp, hB1⟩

end Go.Proofs.YtmpfbkeamihjbaaGreat
