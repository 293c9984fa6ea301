/- yearbookref01 at this program: Fits, Value, Of, Neg, Pow, Add. yearbookref01 at this program: Of, Add, Div. yearbookref05 at this program, on: Back, Time, Raised; line.Of and line.Raised. yearbookref05 at this program, on: Times, At, Within. yearbookref05 at this program, on: Right. -/
import Derived.Test.YtmpfbkeamihjbaaGreatR1
import Derived.Test.YtmpfbkeamihjbaaGreatP3
set_option linter.unusedSimpArgs false
set_option linter.unusedVariables false
namespace Go.Proofs.YtmpfbkeamihjbaaGreat
open Go.RowKit

set_option maxRecDepth 100000 in
set_option maxHeartbeats 1000000 in
theorem ref_Fits (x : Int) (n : Nat) (hn : n ≤ 900) (A : Option Addr) (c : Nat) (lx : (sz x.natAbs).length ≤ 4096) (w : World) (ha : Rd w A c (sz x.natAbs)) :
    Calls Tryz.prog 106 #[.agg #[.bool (decide (x < 0)), .slice A (sz x.natAbs).length c], .int .i64 ((n : Int) + 1)] w fun e w' => e = .returned (.bool (decide (-((2 ^ n : Nat) : Int) ≤ x ∧ x < ((2 ^ n : Nat) : Int)))) ∧ Below w.heap.size w w' := by
  have c1 := ref_power n (by omega)
  have lp : (sz (2 ^ n)).length ≤ 4096 := Nat.le_trans (sz_len_lt (k := n + 1) (by rw [Nat.pow_succ]; have := Nat.two_pow_pos n; omega)) (by omega)
  have hb : (n : Int) + 1 - 1 = n := by omega
  have b1 : (n : Int) ≤ 900 := by omega
  by_cases h : x < 0
  · have c2 := fun A B c d w ha hb => ref_less (2 ^ n) x.natAbs A B c d lp lx w ha hb
    have e : (!decide (2 ^ n < x.natAbs)) = decide (-((2 ^ n : Nat) : Int) ≤ x ∧ x < ((2 ^ n : Nat) : Int)) := by
      generalize 2 ^ n = P
      by_cases hp : P < x.natAbs
      · rw [decide_eq_true hp, decide_eq_false (by omega)]; rfl
      · rw [decide_eq_false hp, decide_eq_true (by omega)]; rfl
    rw [← e, decide_eq_true h]
    clear e h lp lx
    generalize hP : 2 ^ n = P at *
    generalize x.natAbs = m at *
    generalize decide (P < m) = r at *
    clear hP
    go_enter Tryz.func106, Tryz.ntmps106
    go_wp2_with fail
    have f_a1 := (na w #[.bool true, .slice A (sz m).length c] 127)
    have rd_a1 := (ha.below (bA (b0 _) (.cells #[.bool true, .slice A (sz m).length c] 127)))
    have hB1 := (bA (b0 w) (.cells #[.bool true, .slice A (sz m).length c] 127))
    have la1 := (rcell f_a1).2.2
    refine Abs.wp_region_abs (Abs.cls0 _) [0, 1, 2, 3, 4, 5, 6, 7] (by kernel_rfl) (by kernel_rfl) (Below.refl _ _).drew ?_
    repeat (first | (refine Abs.step_pure rfl rfl (fun K hK => ?_); go_simp; (try go_bits); (first | refine hK _ _ ?_ | (simp only [↓IntWalk.iteOmega]; go_simp; (try go_bits); refine hK _ _ ?_)); clear hK K) | (refine Abs.step_load (v := ?_) rfl rfl (by kernel_rfl) rfl (fun w0 hI => ?_) (fun K hK => ?_); rotate_left; (· have z0 := (rcell (kp hI (f_a1))).1; go_simp; rfl); (simp only [Act.put, List.setIfInBounds_toArray, List.set_cons_zero, List.set_cons_succ]; refine hK _ _ ?_; clear hK K)) | (refine Abs.step_skip rfl rfl (fun K hK => ?_); (simp only [Act.put, List.setIfInBounds_toArray, List.set_cons_zero, List.set_cons_succ]; refine hK _ _ ?_; clear hK K)))
    (refine Abs.step_call (f := ?_) (args := ?_) rfl rfl rfl rfl (SlIs (P)) (fun _ => Cl_SlIs _) (fun w0 => ?_) (fun w0 hI hF => ?_) (fun K hK v w0 hv => ?_); rotate_left 2; (· go_simp; (constructor <;> rfl)); (· exact (c1 _).mono (fun _ _ h => h.sl)); (obtain ⟨A1, d1, rfl, -⟩ := hv; clear w0; simp only [Act.put, List.setIfInBounds_toArray, List.set_cons_zero, List.set_cons_succ]; refine hK _ _ ?_; clear hK K))
    repeat (first | (refine Abs.step_pure rfl rfl (fun K hK => ?_); go_simp; (try go_bits); (first | refine hK _ _ ?_ | (simp only [↓IntWalk.iteOmega]; go_simp; (try go_bits); refine hK _ _ ?_)); clear hK K) | (refine Abs.step_load (v := ?_) rfl rfl (by kernel_rfl) rfl (fun w0 hI => ?_) (fun K hK => ?_); rotate_left; (· have z0 := (rcell (kp hI (f_a1))).1; go_simp; rfl); (simp only [Act.put, List.setIfInBounds_toArray, List.set_cons_zero, List.set_cons_succ]; refine hK _ _ ?_; clear hK K)) | (refine Abs.step_skip rfl rfl (fun K hK => ?_); (simp only [Act.put, List.setIfInBounds_toArray, List.set_cons_zero, List.set_cons_succ]; refine hK _ _ ?_; clear hK K)))
    (refine Abs.step_call (f := ?_) (args := ?_) rfl rfl rfl rfl (fun v _ => v = .bool r) (fun _ _ _ h _ => h) (fun w0 => ?_) (fun w0 hI hF => ?_) (fun K hK v w0 hv => ?_); rotate_left 2; (· go_simp; (constructor <;> rfl)); (· exact (c2 _ _ _ _ _ ((hF 2 (by kernel_rfl)).2 rfl).rd (rd_a1.below hI)).mono (fun _ _ h => ⟨_, h.1, h.2, rfl⟩)); (replace hv : v = .bool r := hv; subst hv; clear w0; simp only [Act.put, List.setIfInBounds_toArray, List.set_cons_zero, List.set_cons_succ]; refine hK _ _ ?_; clear hK K))
    repeat (first | (refine Abs.step_pure rfl rfl (fun K hK => ?_); go_simp; (try go_bits); (first | refine hK _ _ ?_ | (simp only [↓IntWalk.iteOmega]; go_simp; (try go_bits); refine hK _ _ ?_)); clear hK K) | (refine Abs.step_load (v := ?_) rfl rfl (by kernel_rfl) rfl (fun w0 hI => ?_) (fun K hK => ?_); rotate_left; (· have z0 := (rcell (kp hI (f_a1))).1; go_simp; rfl); (simp only [Act.put, List.setIfInBounds_toArray, List.set_cons_zero, List.set_cons_succ]; refine hK _ _ ?_; clear hK K)) | (refine Abs.step_skip rfl rfl (fun K hK => ?_); (simp only [Act.put, List.setIfInBounds_toArray, List.set_cons_zero, List.set_cons_succ]; refine hK _ _ ?_; clear hK K)))
    intro w2 hb2 hx0 hx1 hx2
    clear hx0 hx1 hx2
    simp only [Abs.T_setF, Abs.T_addA, Abs.T_push, Abs.T_start]
    have f_a2 := kp hb2 (f_a1)
    have rd_a2 := rd_a1.below hb2
    have hB2 := bB hB1 hb2
    obtain ⟨za_a, za_b, la2⟩ := rcell f_a2
    go_wp2
    go_ret
    exact ⟨rfl, hB2⟩
  · have c2 := fun A B c d w ha hb => ref_less x.natAbs (2 ^ n) A B c d lx lp w ha hb
    have e : decide (x.natAbs < 2 ^ n) = decide (-((2 ^ n : Nat) : Int) ≤ x ∧ x < ((2 ^ n : Nat) : Int)) := by
      generalize 2 ^ n = P
      exact decide_eq_decide.2 (by omega)
    rw [← e, decide_eq_false h]
    clear e h lp lx
    generalize hP : 2 ^ n = P at *
    generalize x.natAbs = m at *
    generalize decide (m < P) = r at *
    clear hP
    go_enter Tryz.func106, Tryz.ntmps106
    go_wp2_with fail
    have f_a1 := (na w #[.bool false, .slice A (sz m).length c] 127)
    have rd_a1 := (ha.below (bA (b0 _) (.cells #[.bool false, .slice A (sz m).length c] 127)))
    have hB1 := (bA (b0 w) (.cells #[.bool false, .slice A (sz m).length c] 127))
    have la1 := (rcell f_a1).2.2
    refine Abs.wp_region_abs (Abs.cls0 _) [0, 1, 2, 3, 4, 5, 6] (by kernel_rfl) (by kernel_rfl) (Below.refl _ _).drew ?_
    repeat (first | (refine Abs.step_pure rfl rfl (fun K hK => ?_); go_simp; (try go_bits); (first | refine hK _ _ ?_ | (simp only [↓IntWalk.iteOmega]; go_simp; (try go_bits); refine hK _ _ ?_)); clear hK K) | (refine Abs.step_load (v := ?_) rfl rfl (by kernel_rfl) rfl (fun w0 hI => ?_) (fun K hK => ?_); rotate_left; (· have z0 := (rcell (kp hI (f_a1))).1; go_simp; rfl); (simp only [Act.put, List.setIfInBounds_toArray, List.set_cons_zero, List.set_cons_succ]; refine hK _ _ ?_; clear hK K)) | (refine Abs.step_skip rfl rfl (fun K hK => ?_); (simp only [Act.put, List.setIfInBounds_toArray, List.set_cons_zero, List.set_cons_succ]; refine hK _ _ ?_; clear hK K)))
    (refine Abs.step_call (f := ?_) (args := ?_) rfl rfl rfl rfl (SlIs (P)) (fun _ => Cl_SlIs _) (fun w0 => ?_) (fun w0 hI hF => ?_) (fun K hK v w0 hv => ?_); rotate_left 2; (· go_simp; (constructor <;> rfl)); (· exact (c1 _).mono (fun _ _ h => h.sl)); (obtain ⟨A1, d1, rfl, -⟩ := hv; clear w0; simp only [Act.put, List.setIfInBounds_toArray, List.set_cons_zero, List.set_cons_succ]; refine hK _ _ ?_; clear hK K))
    repeat (first | (refine Abs.step_pure rfl rfl (fun K hK => ?_); go_simp; (try go_bits); (first | refine hK _ _ ?_ | (simp only [↓IntWalk.iteOmega]; go_simp; (try go_bits); refine hK _ _ ?_)); clear hK K) | (refine Abs.step_load (v := ?_) rfl rfl (by kernel_rfl) rfl (fun w0 hI => ?_) (fun K hK => ?_); rotate_left; (· have z0 := (rcell (kp hI (f_a1))).1; go_simp; rfl); (simp only [Act.put, List.setIfInBounds_toArray, List.set_cons_zero, List.set_cons_succ]; refine hK _ _ ?_; clear hK K)) | (refine Abs.step_skip rfl rfl (fun K hK => ?_); (simp only [Act.put, List.setIfInBounds_toArray, List.set_cons_zero, List.set_cons_succ]; refine hK _ _ ?_; clear hK K)))
    (refine Abs.step_call (f := ?_) (args := ?_) rfl rfl rfl rfl (fun v _ => v = .bool r) (fun _ _ _ h _ => h) (fun w0 => ?_) (fun w0 hI hF => ?_) (fun K hK v w0 hv => ?_); rotate_left 2; (· go_simp; (constructor <;> rfl)); (· exact (c2 _ _ _ _ _ (rd_a1.below hI) ((hF 4 (by kernel_rfl)).2 rfl).rd).mono (fun _ _ h => ⟨_, h.1, h.2, rfl⟩)); (replace hv : v = .bool r := hv; subst hv; clear w0; simp only [Act.put, List.setIfInBounds_toArray, List.set_cons_zero, List.set_cons_succ]; refine hK _ _ ?_; clear hK K))
    repeat (first | (refine Abs.step_pure rfl rfl (fun K hK => ?_); go_simp; (try go_bits); (first | refine hK _ _ ?_ | (simp only [↓IntWalk.iteOmega]; go_simp; (try go_bits); refine hK _ _ ?_)); clear hK K) | (refine Abs.step_load (v := ?_) rfl rfl (by kernel_rfl) rfl (fun w0 hI => ?_) (fun K hK => ?_); rotate_left; (· have z0 := (rcell (kp hI (f_a1))).1; go_simp; rfl); (simp only [Act.put, List.setIfInBounds_toArray, List.set_cons_zero, List.set_cons_succ]; refine hK _ _ ?_; clear hK K)) | (refine Abs.step_skip rfl rfl (fun K hK => ?_); (simp only [Act.put, List.setIfInBounds_toArray, List.set_cons_zero, List.set_cons_succ]; refine hK _ _ ?_; clear hK K)))
    intro w2 hb2 hx0 hx1 hx2
    clear hx0 hx1 hx2
    simp only [Abs.T_setF, Abs.T_addA, Abs.T_push, Abs.T_start]
    have f_a2 := kp hb2 (f_a1)
    have rd_a2 := rd_a1.below hb2
    have hB2 := bB hB1 hb2
    obtain ⟨za_a, za_b, la2⟩ := rcell f_a2
    go_wp2
    go_ret
    exact ⟨rfl, hB2⟩

set_option maxRecDepth 100000 in
set_option maxHeartbeats 1000000 in
theorem ref_Value_no (x : Int) (A : Option Addr) (c : Nat) (lx : (sz x.natAbs).length ≤ 900) (h : ¬ (-9223372036854775808 ≤ x ∧ x < 9223372036854775808)) (w : World) (ha : Rd w A c (sz x.natAbs)) :
    Calls Tryz.prog 84 #[.agg #[.bool (decide (x < 0)), .slice A (sz x.natAbs).length c]] w fun e w' => e = .returned (.tuple #[.int .i64 0, .bool false]) ∧ Below w.heap.size w w' := by
  have c1 := fun w ha => ref_Fits x 63 (by decide) A c (by omega) w ha
  rw [show decide (-((2 ^ 63 : Nat) : Int) ≤ x ∧ x < ((2 ^ 63 : Nat) : Int)) = false from decide_eq_false (by simpa using h), show ((63 : Nat) : Int) + 1 = 64 from rfl] at c1
  clear h lx
  generalize decide (x < 0) = p at *
  generalize x.natAbs = n at *
  go_enter Tryz.func84, Tryz.ntmps84
  go_wp2_with fail
  refine (c1 _ (ha.below (bA (b0 _) (.cells #[.bool p, .slice A (sz n).length c] 127)))).mono ?_
  rintro e w1 ⟨rfl, hb1⟩
  have f_a1 := kp hb1 (na w #[.bool p, .slice A (sz n).length c] 127)
  have rd_a1 := (ha.below (bA (b0 _) (.cells #[.bool p, .slice A (sz n).length c] 127))).below hb1
  have hB1 := bB (bA (b0 w) (.cells #[.bool p, .slice A (sz n).length c] 127)) hb1
  obtain ⟨za_a, za_b, la1⟩ := rcell f_a1
  go_wp2
  go_ret2
  exact ⟨rfl, hB1⟩
set_option maxRecDepth 100000 in
set_option maxHeartbeats 1000000 in
theorem ref_Value_yes (x : Int) (A : Option Addr) (c : Nat) (h1 : -9223372036854775808 ≤ x) (h2 : x < 9223372036854775808) (w : World) (ha : Rd w A c (sz x.natAbs)) :
    Calls Tryz.prog 84 #[.agg #[.bool (decide (x < 0)), .slice A (sz x.natAbs).length c]] w fun e w' => e = .returned (.tuple #[.int .i64 x, .bool true]) ∧ Below w.heap.size w w' := by
  have c1 := fun w ha => ref_Fits x 63 (by decide) A c (Nat.le_trans (sz_i64 h1 h2) (by decide)) w ha
  have hdec : decide (-((2 ^ 63 : Nat) : Int) ≤ x ∧ x < ((2 ^ 63 : Nat) : Int)) = true := decide_eq_true (by
    have e : ((2 ^ 63 : Nat) : Int) = 9223372036854775808 := by decide
    rw [e]; omega)
  rw [hdec, show ((63 : Nat) : Int) + 1 = 64 from rfl] at c1
  clear hdec
  by_cases hx : x < 0
  · rw [decide_eq_true hx] at c1 ⊢
    have c2 := ref_power 64 (by decide)
    have l1 : (sz (2 ^ 64)).length ≤ 1000 := Nat.le_trans (sz_len_lt (k := 65) (by decide)) (by decide)
    have c3 := fun A B c d w ha hb => ref_minus (2 ^ 64) x.natAbs A B c d l1 (by omega) w ha hb
    have e3 : 2 ^ 64 - x.natAbs < 2 ^ 64 := by omega
    have c4 := fun A c w ha => ref_word (2 ^ 64 - x.natAbs) 0 A c (Nat.le_trans (sz_len_lt e3) (by decide)) (by decide) w ha
    have e4 : ((2 ^ 64 - x.natAbs) / 2 ^ 0 % 18446744073709551616 : Nat) = 2 ^ 64 - x.natAbs := by rw [Nat.pow_zero, Nat.div_one]; omega
    rw [e4] at c4
    have e5 : IntKind.i64.wrap ((2 ^ 64 - x.natAbs : Nat) : Int) = x := by rw [wrap64_i64]; simp only [wrap64]; omega
    have e6 : wrap64 ((2 ^ 64 - x.natAbs : Nat) : Int) = x := by rw [← wrap64_i64]; exact e5
    clear e3 e4 l1 e5
    generalize 2 ^ 64 - x.natAbs = m at *
    have E6 := hide e6
    clear e6
    generalize x.natAbs = n at *
    go_enter Tryz.func84, Tryz.ntmps84
    go_wp2_with fail
    refine (c1 _ (ha.below (bA (b0 _) (.cells #[.bool true, .slice A (sz n).length c] 127)))).mono ?_
    rintro e w1 ⟨rfl, hb1⟩
    have f_a1 := kp hb1 (na w #[.bool true, .slice A (sz n).length c] 127)
    have rd_a1 := (ha.below (bA (b0 _) (.cells #[.bool true, .slice A (sz n).length c] 127))).below hb1
    have hB1 := bB (bA (b0 w) (.cells #[.bool true, .slice A (sz n).length c] 127)) hb1
    obtain ⟨za_a, za_b, la1⟩ := rcell f_a1
    go_wp2_with fail
    refine (c2 _).mono ?_
    rintro e w2 ⟨A2, d2, rfl, hb2, rn_s2⟩
    have f_a2 := kp hb2 (f_a1)
    have rd_a2 := rd_a1.below hb2
    have hB2 := bB hB1 hb2
    clear za_a za_b
    obtain ⟨za_a, za_b, la2⟩ := rcell f_a2
    go_wp2_with fail
    refine (c3 A2 A d2 c _ rn_s2 rd_a2).mono ?_
    rintro e w3 ⟨A3, d3, rfl, hb3, rn_s3⟩
    have f_a3 := kp hb3 (f_a2)
    have rd_a3 := rd_a2.below hb3
    have rd_s23 := rn_s2.below hb3
    have hB3 := bB hB2 hb3
    clear za_a za_b
    obtain ⟨za_a, za_b, la3⟩ := rcell f_a3
    go_wp2_with fail
    refine (c4 A3 d3 _ rn_s3).mono ?_
    rintro e wq ⟨rfl, rfl⟩
    go_wp2
    go_ret2
    exact ⟨by simp [E6.out], hB3⟩
  · rw [decide_eq_false hx] at c1 ⊢
    have e3 : x.natAbs < 2 ^ 64 := by omega
    have c4 := fun A c w ha => ref_word x.natAbs 0 A c (Nat.le_trans (sz_len_lt e3) (by decide)) (by decide) w ha
    have e4 : (x.natAbs / 2 ^ 0 % 18446744073709551616 : Nat) = x.natAbs := by rw [Nat.pow_zero, Nat.div_one]; omega
    rw [e4] at c4
    have e5 : x = (x.natAbs : Int) := by omega
    clear e3 e4
    generalize x.natAbs = n at *
    subst e5
    clear hx
    go_enter Tryz.func84, Tryz.ntmps84
    go_wp2_with fail
    refine (c1 _ (ha.below (bA (b0 _) (.cells #[.bool false, .slice A (sz n).length c] 127)))).mono ?_
    rintro e w1 ⟨rfl, hb1⟩
    have f_a1 := kp hb1 (na w #[.bool false, .slice A (sz n).length c] 127)
    have rd_a1 := (ha.below (bA (b0 _) (.cells #[.bool false, .slice A (sz n).length c] 127))).below hb1
    have hB1 := bB (bA (b0 w) (.cells #[.bool false, .slice A (sz n).length c] 127)) hb1
    obtain ⟨za_a, za_b, la1⟩ := rcell f_a1
    go_wp2_with fail
    refine (c4 A c _ rd_a1).mono ?_
    rintro e wq ⟨rfl, rfl⟩
    go_wp2
    go_ret2
    exact ⟨by simp, hB1⟩

end Go.Proofs.YtmpfbkeamihjbaaGreat

namespace Go.Proofs.YtmpfbkeamihjbaaGreat
open Go.RowKit

set_option maxRecDepth 100000 in
set_option maxHeartbeats 2000000 in
theorem ref_Add (x y : Int) (M : Nat) (A B : Option Addr) (c d : Nat) (hM : M ≤ 900) (hxy : x.natAbs + y.natAbs < 2 ^ M) (w : World) (ha : Rd w A c (sz x.natAbs)) (hb : Rd w B d (sz y.natAbs)) :
    Calls Tryz.prog 103 #[.agg #[.bool (decide (x < 0)), .slice A (sz x.natAbs).length c], .agg #[.bool (decide (y < 0)), .slice B (sz y.natAbs).length d]] w (GivesNum (x + y) w) := by
  have lx : (sz x.natAbs).length ≤ 900 := Nat.le_trans (sz_len_lt (k := M) (by omega)) hM
  have ly : (sz y.natAbs).length ≤ 900 := Nat.le_trans (sz_len_lt (k := M) (by omega)) hM
  by_cases hs : decide (x < 0) = decide (y < 0)
  · have hs2 : x < 0 ↔ y < 0 := decide_eq_decide.1 hs
    have c1 := fun w ha hb => ref_plus x.natAbs y.natAbs M A B c d (by omega) hxy w ha hb
    have e : x.natAbs + y.natAbs = (x + y).natAbs := by omega
    rw [e] at c1
    have c2 := fun A c => ref_made (decide (x < 0)) (x + y).natAbs A c
    have hd : (decide (x < 0) && decide ((x + y).natAbs ≠ 0)) = decide (x + y < 0) := by
      by_cases hx : x < 0
      · rw [decide_eq_true hx, decide_eq_true (show (x + y).natAbs ≠ 0 by omega), decide_eq_true (show x + y < 0 by omega)]; rfl
      · rw [decide_eq_false hx, decide_eq_false (show ¬ x + y < 0 by omega)]; rfl
    rw [hd] at c2
    unfold GivesNum
    rw [← hs]
    clear hd e hxy hs hs2 lx ly
    generalize decide (x + y < 0) = r at *
    generalize (x + y).natAbs = Z at *
    generalize x.natAbs = X at *
    generalize y.natAbs = Y at *
    generalize decide (x < 0) = p at *
    have hpp : (p == p) = true := by simp
    go_enter Tryz.func103, Tryz.ntmps103
    go_wp2_with fail
    have f_a1 := (ka (ka (na w #[.bool p, .slice A (sz X).length c] 127) (.cells #[.bool p, .slice B (sz Y).length d] 127)) (.cells #[.bool false, .slice none 0 0] 127))
    have f_b1 := (ka (na1 w (.cells #[.bool p, .slice A (sz X).length c] 127) #[.bool p, .slice B (sz Y).length d] 127) (.cells #[.bool false, .slice none 0 0] 127))
    have f_o1 := (na2 w (.cells #[.bool p, .slice A (sz X).length c] 127) (.cells #[.bool p, .slice B (sz Y).length d] 127) #[.bool false, .slice none 0 0] 127)
    have rd_a1 := (ha.below (bA (bA (bA (b0 _) (.cells #[.bool p, .slice A (sz X).length c] 127)) (.cells #[.bool p, .slice B (sz Y).length d] 127)) (.cells #[.bool false, .slice none 0 0] 127)))
    have rd_b1 := (hb.below (bA (bA (bA (b0 _) (.cells #[.bool p, .slice A (sz X).length c] 127)) (.cells #[.bool p, .slice B (sz Y).length d] 127)) (.cells #[.bool false, .slice none 0 0] 127)))
    have hB1 := (bA (bA (bA (b0 w) (.cells #[.bool p, .slice A (sz X).length c] 127)) (.cells #[.bool p, .slice B (sz Y).length d] 127)) (.cells #[.bool false, .slice none 0 0] 127))
    have la1 := (rcell f_a1).2.2
    have lb1 := (rcell f_b1).2.2
    have lo1 := (rcell f_o1).2.2
    refine Abs.wp_region_abs (Abs.cls0 _) [0, 1, 2, 3, 4, 5, 6, 7, 8] (by kernel_rfl) (by kernel_rfl) (Below.refl _ _).drew ?_
    repeat (first | (refine Abs.step_pure rfl rfl (fun K hK => ?_); go_simp; (try go_bits); (first | refine hK _ _ ?_ | (simp only [↓IntWalk.iteOmega]; go_simp; (try go_bits); refine hK _ _ ?_)); clear hK K) | (refine Abs.step_load (v := ?_) rfl rfl (by kernel_rfl) rfl (fun w0 hI => ?_) (fun K hK => ?_); rotate_left; (· have z0 := (rcell (kp hI (f_a1))).1; have z1 := (rcell (kp hI (f_b1))).1; go_simp; rfl); (simp only [Act.put, List.setIfInBounds_toArray, List.set_cons_zero, List.set_cons_succ]; refine hK _ _ ?_; clear hK K)) | (refine Abs.step_skip rfl rfl (fun K hK => ?_); (simp only [Act.put, List.setIfInBounds_toArray, List.set_cons_zero, List.set_cons_succ]; refine hK _ _ ?_; clear hK K)))
    (refine Abs.step_call (f := ?_) (args := ?_) rfl rfl rfl rfl (SlIs (Z)) (fun _ => Cl_SlIs _) (fun w0 => ?_) (fun w0 hI hF => ?_) (fun K hK v w0 hv => ?_); rotate_left 2; (· go_simp; (constructor <;> rfl)); (· exact (c1 _ (rd_a1.below hI) (rd_b1.below hI)).mono (fun _ _ h => h.sl)); (obtain ⟨A3, d3, rfl, -⟩ := hv; clear w0; simp only [Act.put, List.setIfInBounds_toArray, List.set_cons_zero, List.set_cons_succ]; refine hK _ _ ?_; clear hK K))
    repeat (first | (refine Abs.step_pure rfl rfl (fun K hK => ?_); go_simp; (try go_bits); (first | refine hK _ _ ?_ | (simp only [↓IntWalk.iteOmega]; go_simp; (try go_bits); refine hK _ _ ?_)); clear hK K) | (refine Abs.step_load (v := ?_) rfl rfl (by kernel_rfl) rfl (fun w0 hI => ?_) (fun K hK => ?_); rotate_left; (· have z0 := (rcell (kp hI (f_a1))).1; have z1 := (rcell (kp hI (f_b1))).1; go_simp; rfl); (simp only [Act.put, List.setIfInBounds_toArray, List.set_cons_zero, List.set_cons_succ]; refine hK _ _ ?_; clear hK K)) | (refine Abs.step_skip rfl rfl (fun K hK => ?_); (simp only [Act.put, List.setIfInBounds_toArray, List.set_cons_zero, List.set_cons_succ]; refine hK _ _ ?_; clear hK K)))
    (refine Abs.step_call_val (f := ?_) (args := ?_) (v := ?_) rfl rfl rfl rfl (fun w0 => ?_) (fun w0 hI => ?_) (fun K hK => ?_); rotate_left 3; (· go_simp; (constructor <;> rfl)); (· exact c2 _ _ _); (simp only [Act.put, List.setIfInBounds_toArray, List.set_cons_zero, List.set_cons_succ]; refine hK _ _ ?_; clear hK K))
    repeat (first | (refine Abs.step_pure rfl rfl (fun K hK => ?_); go_simp; (try go_bits); (first | refine hK _ _ ?_ | (simp only [↓IntWalk.iteOmega]; go_simp; (try go_bits); refine hK _ _ ?_)); clear hK K) | (refine Abs.step_load (v := ?_) rfl rfl (by kernel_rfl) rfl (fun w0 hI => ?_) (fun K hK => ?_); rotate_left; (· have z0 := (rcell (kp hI (f_a1))).1; have z1 := (rcell (kp hI (f_b1))).1; go_simp; rfl); (simp only [Act.put, List.setIfInBounds_toArray, List.set_cons_zero, List.set_cons_succ]; refine hK _ _ ?_; clear hK K)) | (refine Abs.step_skip rfl rfl (fun K hK => ?_); (simp only [Act.put, List.setIfInBounds_toArray, List.set_cons_zero, List.set_cons_succ]; refine hK _ _ ?_; clear hK K)))
    (refine Abs.step_store (T := ?_) rfl rfl rfl (fun w0 hI hF hU => ?_) (fun w0 hI hU hJ => ?_) (fun K hK => ?_); rotate_left; (· have hR := kp hI (f_o1); have hg0 := (rcell hR).1; have hg1 := (rcell hR).2.1; simp only [Abs.T_setF, Abs.T_addA, Abs.T_push, Abs.T_start]; go_simp; exact row2 hR _ _); (· first | exact trivial | exact js hJ rfl _ | exact js hJ (Or.inl rfl) _ | exact js hJ (Or.inr rfl) _); (simp only [Act.put, List.setIfInBounds_toArray, List.set_cons_zero, List.set_cons_succ]; refine hK _ _ ?_; clear hK K))
    repeat (first | (refine Abs.step_pure rfl rfl (fun K hK => ?_); go_simp; (try go_bits); (first | refine hK _ _ ?_ | (simp only [↓IntWalk.iteOmega]; go_simp; (try go_bits); refine hK _ _ ?_)); clear hK K) | (refine Abs.step_load (v := ?_) rfl rfl (by kernel_rfl) rfl (fun w0 hI => ?_) (fun K hK => ?_); rotate_left; (· have z0 := (rcell (kp hI (f_a1))).1; have z1 := (rcell (kp hI (f_b1))).1; go_simp; rfl); (simp only [Act.put, List.setIfInBounds_toArray, List.set_cons_zero, List.set_cons_succ]; refine hK _ _ ?_; clear hK K)) | (refine Abs.step_skip rfl rfl (fun K hK => ?_); (simp only [Act.put, List.setIfInBounds_toArray, List.set_cons_zero, List.set_cons_succ]; refine hK _ _ ?_; clear hK K)))
    intro w0 hI hF hx1 hx2
    clear hx1 hx2
    simp only [Abs.T_push]
    have rn_s := (((hF 6).2 rfl)).rd
    clear hF
    have hQ := kp hI (f_o1)
    generalize hT2 : setRow w0 _ _ = w2
    have hy := (fin_x (b0 _) hQ hT2).1
    replace rn_s := rn_s.exc hy hQ (by decide)
    obtain ⟨hx2, f_o2⟩ := fin_x hI (f_o1) hT2
    clear hT2 hQ hy hI w0
    have f_a2 := kx hx2 (f_a1) (by omega)
    have f_b2 := kx hx2 (f_b1) (by omega)
    have rd_a2 := rd_a1.exc hx2 (f_o1) (by decide)
    have rd_b2 := rd_b1.exc hx2 (f_o1) (by decide)
    have hB2 := bX hB1 hx2 (by omega)
    obtain ⟨za_a, za_b, la2⟩ := rcell f_a2
    obtain ⟨zb_a, zb_b, lb2⟩ := rcell f_b2
    obtain ⟨zo_a, zo_b, lo2⟩ := rcell f_o2
    go_wp2
    refine bodyPost_ret (by simp [results, Tryz.results103, go_sem, zo_a]; try rfl) rfl ⟨A3, d3, rfl, hB2, rn_s⟩
  · have hs2 : ¬ (x < 0 ↔ y < 0) := fun h => hs (decide_eq_decide.2 h)
    have cl := fun w ha hb => ref_less x.natAbs y.natAbs A B c d (by omega) (by omega) w ha hb
    have hq : (decide (x < 0) == decide (y < 0)) = false := by simpa using hs
    by_cases hlt : x.natAbs < y.natAbs
    · rw [decide_eq_true hlt] at cl
      have c1 := fun w hb ha => ref_minus y.natAbs x.natAbs B A d c (by omega) (by omega) w hb ha
      have e : y.natAbs - x.natAbs = (x + y).natAbs := by omega
      rw [e] at c1
      have c2 := fun A c => ref_made (decide (y < 0)) (x + y).natAbs A c
      have hd : (decide (y < 0) && decide ((x + y).natAbs ≠ 0)) = decide (x + y < 0) := by
        by_cases hx : y < 0
        · rw [decide_eq_true hx, decide_eq_true (show (x + y).natAbs ≠ 0 by omega), decide_eq_true (show x + y < 0 by omega)]; rfl
        · rw [decide_eq_false hx, decide_eq_false (show ¬ x + y < 0 by omega)]; rfl
      rw [hd] at c2
      unfold GivesNum
      clear hd e hxy hs hs2 lx ly hlt
      generalize decide (x + y < 0) = r at *
      generalize (x + y).natAbs = Z at *
      generalize x.natAbs = X at *
      generalize y.natAbs = Y at *
      generalize decide (x < 0) = p at *
      generalize decide (y < 0) = q at *
      go_enter Tryz.func103, Tryz.ntmps103
      go_wp2_with fail
      refine (cl _ (ha.below (bA (bA (bA (b0 _) (.cells #[.bool p, .slice A (sz X).length c] 127)) (.cells #[.bool q, .slice B (sz Y).length d] 127)) (.cells #[.bool false, .slice none 0 0] 127))) (hb.below (bA (bA (bA (b0 _) (.cells #[.bool p, .slice A (sz X).length c] 127)) (.cells #[.bool q, .slice B (sz Y).length d] 127)) (.cells #[.bool false, .slice none 0 0] 127)))).mono ?_
      rintro e w1 ⟨rfl, hb1⟩
      have f_a1 := kp hb1 (ka (ka (na w #[.bool p, .slice A (sz X).length c] 127) (.cells #[.bool q, .slice B (sz Y).length d] 127)) (.cells #[.bool false, .slice none 0 0] 127))
      have f_b1 := kp hb1 (ka (na1 w (.cells #[.bool p, .slice A (sz X).length c] 127) #[.bool q, .slice B (sz Y).length d] 127) (.cells #[.bool false, .slice none 0 0] 127))
      have f_o1 := kp hb1 (na2 w (.cells #[.bool p, .slice A (sz X).length c] 127) (.cells #[.bool q, .slice B (sz Y).length d] 127) #[.bool false, .slice none 0 0] 127)
      have rd_a1 := (ha.below (bA (bA (bA (b0 _) (.cells #[.bool p, .slice A (sz X).length c] 127)) (.cells #[.bool q, .slice B (sz Y).length d] 127)) (.cells #[.bool false, .slice none 0 0] 127))).below hb1
      have rd_b1 := (hb.below (bA (bA (bA (b0 _) (.cells #[.bool p, .slice A (sz X).length c] 127)) (.cells #[.bool q, .slice B (sz Y).length d] 127)) (.cells #[.bool false, .slice none 0 0] 127))).below hb1
      have hB1 := bB (bA (bA (bA (b0 w) (.cells #[.bool p, .slice A (sz X).length c] 127)) (.cells #[.bool q, .slice B (sz Y).length d] 127)) (.cells #[.bool false, .slice none 0 0] 127)) hb1
      obtain ⟨za_a, za_b, la1⟩ := rcell f_a1
      obtain ⟨zb_a, zb_b, lb1⟩ := rcell f_b1
      obtain ⟨zo_a, zo_b, lo1⟩ := rcell f_o1
      go_wp2_with fail
      refine Abs.wp_region_abs (Abs.cls0 _) [0, 1, 2, 3, 4, 5, 6, 7, 8] (by kernel_rfl) (by kernel_rfl) (Below.refl _ _).drew ?_
      repeat (first | (refine Abs.step_pure rfl rfl (fun K hK => ?_); go_simp; (try go_bits); (first | refine hK _ _ ?_ | (simp only [↓IntWalk.iteOmega]; go_simp; (try go_bits); refine hK _ _ ?_)); clear hK K) | (refine Abs.step_load (v := ?_) rfl rfl (by kernel_rfl) rfl (fun w0 hI => ?_) (fun K hK => ?_); rotate_left; (· have z0 := (rcell (kp hI (f_a1))).1; have z1 := (rcell (kp hI (f_b1))).1; go_simp; rfl); (simp only [Act.put, List.setIfInBounds_toArray, List.set_cons_zero, List.set_cons_succ]; refine hK _ _ ?_; clear hK K)) | (refine Abs.step_skip rfl rfl (fun K hK => ?_); (simp only [Act.put, List.setIfInBounds_toArray, List.set_cons_zero, List.set_cons_succ]; refine hK _ _ ?_; clear hK K)))
      (refine Abs.step_call (f := ?_) (args := ?_) rfl rfl rfl rfl (SlIs (Z)) (fun _ => Cl_SlIs _) (fun w0 => ?_) (fun w0 hI hF => ?_) (fun K hK v w0 hv => ?_); rotate_left 2; (· go_simp; (constructor <;> rfl)); (· exact (c1 _ (rd_b1.below hI) (rd_a1.below hI)).mono (fun _ _ h => h.sl)); (obtain ⟨A3, d3, rfl, -⟩ := hv; clear w0; simp only [Act.put, List.setIfInBounds_toArray, List.set_cons_zero, List.set_cons_succ]; refine hK _ _ ?_; clear hK K))
      repeat (first | (refine Abs.step_pure rfl rfl (fun K hK => ?_); go_simp; (try go_bits); (first | refine hK _ _ ?_ | (simp only [↓IntWalk.iteOmega]; go_simp; (try go_bits); refine hK _ _ ?_)); clear hK K) | (refine Abs.step_load (v := ?_) rfl rfl (by kernel_rfl) rfl (fun w0 hI => ?_) (fun K hK => ?_); rotate_left; (· have z0 := (rcell (kp hI (f_a1))).1; have z1 := (rcell (kp hI (f_b1))).1; go_simp; rfl); (simp only [Act.put, List.setIfInBounds_toArray, List.set_cons_zero, List.set_cons_succ]; refine hK _ _ ?_; clear hK K)) | (refine Abs.step_skip rfl rfl (fun K hK => ?_); (simp only [Act.put, List.setIfInBounds_toArray, List.set_cons_zero, List.set_cons_succ]; refine hK _ _ ?_; clear hK K)))
      (refine Abs.step_call_val (f := ?_) (args := ?_) (v := ?_) rfl rfl rfl rfl (fun w0 => ?_) (fun w0 hI => ?_) (fun K hK => ?_); rotate_left 3; (· go_simp; (constructor <;> rfl)); (· exact c2 _ _ _); (simp only [Act.put, List.setIfInBounds_toArray, List.set_cons_zero, List.set_cons_succ]; refine hK _ _ ?_; clear hK K))
      repeat (first | (refine Abs.step_pure rfl rfl (fun K hK => ?_); go_simp; (try go_bits); (first | refine hK _ _ ?_ | (simp only [↓IntWalk.iteOmega]; go_simp; (try go_bits); refine hK _ _ ?_)); clear hK K) | (refine Abs.step_load (v := ?_) rfl rfl (by kernel_rfl) rfl (fun w0 hI => ?_) (fun K hK => ?_); rotate_left; (· have z0 := (rcell (kp hI (f_a1))).1; have z1 := (rcell (kp hI (f_b1))).1; go_simp; rfl); (simp only [Act.put, List.setIfInBounds_toArray, List.set_cons_zero, List.set_cons_succ]; refine hK _ _ ?_; clear hK K)) | (refine Abs.step_skip rfl rfl (fun K hK => ?_); (simp only [Act.put, List.setIfInBounds_toArray, List.set_cons_zero, List.set_cons_succ]; refine hK _ _ ?_; clear hK K)))
      (refine Abs.step_store (T := ?_) rfl rfl rfl (fun w0 hI hF hU => ?_) (fun w0 hI hU hJ => ?_) (fun K hK => ?_); rotate_left; (· have hR := kp hI (f_o1); have hg0 := (rcell hR).1; have hg1 := (rcell hR).2.1; simp only [Abs.T_setF, Abs.T_addA, Abs.T_push, Abs.T_start]; go_simp; exact row2 hR _ _); (· first | exact trivial | exact js hJ rfl _ | exact js hJ (Or.inl rfl) _ | exact js hJ (Or.inr rfl) _); (simp only [Act.put, List.setIfInBounds_toArray, List.set_cons_zero, List.set_cons_succ]; refine hK _ _ ?_; clear hK K))
      repeat (first | (refine Abs.step_pure rfl rfl (fun K hK => ?_); go_simp; (try go_bits); (first | refine hK _ _ ?_ | (simp only [↓IntWalk.iteOmega]; go_simp; (try go_bits); refine hK _ _ ?_)); clear hK K) | (refine Abs.step_load (v := ?_) rfl rfl (by kernel_rfl) rfl (fun w0 hI => ?_) (fun K hK => ?_); rotate_left; (· have z0 := (rcell (kp hI (f_a1))).1; have z1 := (rcell (kp hI (f_b1))).1; go_simp; rfl); (simp only [Act.put, List.setIfInBounds_toArray, List.set_cons_zero, List.set_cons_succ]; refine hK _ _ ?_; clear hK K)) | (refine Abs.step_skip rfl rfl (fun K hK => ?_); (simp only [Act.put, List.setIfInBounds_toArray, List.set_cons_zero, List.set_cons_succ]; refine hK _ _ ?_; clear hK K)))
      intro w0 hI hF hx1 hx2
      clear hx1 hx2
      simp only [Abs.T_push]
      have rn_s := (((hF 6).2 rfl)).rd
      clear hF
      have hQ := kp hI (f_o1)
      generalize hT3 : setRow w0 _ _ = w3
      have hy := (fin_x (b0 _) hQ hT3).1
      replace rn_s := rn_s.exc hy hQ (by decide)
      obtain ⟨hx3, f_o3⟩ := fin_x hI (f_o1) hT3
      clear hT3 hQ hy hI w0
      have f_a3 := kx hx3 (f_a1) (by omega)
      have f_b3 := kx hx3 (f_b1) (by omega)
      have rd_a3 := rd_a1.exc hx3 (f_o1) (by decide)
      have rd_b3 := rd_b1.exc hx3 (f_o1) (by decide)
      have hB3 := bX hB1 hx3 (by omega)
      clear za_a za_b zb_a zb_b zo_a zo_b
      obtain ⟨za_a, za_b, la3⟩ := rcell f_a3
      obtain ⟨zb_a, zb_b, lb3⟩ := rcell f_b3
      obtain ⟨zo_a, zo_b, lo3⟩ := rcell f_o3
      go_wp2
      refine bodyPost_ret (by simp [results, Tryz.results103, go_sem, zo_a]; try rfl) rfl ⟨A3, d3, rfl, hB3, rn_s⟩
    · rw [decide_eq_false hlt] at cl
      have c1 := fun w ha hb => ref_minus x.natAbs y.natAbs A B c d (by omega) (by omega) w ha hb
      have e : x.natAbs - y.natAbs = (x + y).natAbs := by omega
      rw [e] at c1
      have c2 := fun A c => ref_made (decide (x < 0)) (x + y).natAbs A c
      have hd : (decide (x < 0) && decide ((x + y).natAbs ≠ 0)) = decide (x + y < 0) := by
        by_cases hx : x < 0
        · by_cases hz : x + y = 0
          · rw [decide_eq_true hx, decide_eq_false (show ¬ (x + y).natAbs ≠ 0 by omega), decide_eq_false (show ¬ x + y < 0 by omega)]; rfl
          · rw [decide_eq_true hx, decide_eq_true (show (x + y).natAbs ≠ 0 by omega), decide_eq_true (show x + y < 0 by omega)]; rfl
        · rw [decide_eq_false hx, decide_eq_false (show ¬ x + y < 0 by omega)]; rfl
      rw [hd] at c2
      unfold GivesNum
      clear hd e hxy hs hs2 lx ly hlt
      generalize decide (x + y < 0) = r at *
      generalize (x + y).natAbs = Z at *
      generalize x.natAbs = X at *
      generalize y.natAbs = Y at *
      generalize decide (x < 0) = p at *
      generalize decide (y < 0) = q at *
      go_enter Tryz.func103, Tryz.ntmps103
      go_wp2_with fail
      refine (cl _ (ha.below (bA (bA (bA (b0 _) (.cells #[.bool p, .slice A (sz X).length c] 127)) (.cells #[.bool q, .slice B (sz Y).length d] 127)) (.cells #[.bool false, .slice none 0 0] 127))) (hb.below (bA (bA (bA (b0 _) (.cells #[.bool p, .slice A (sz X).length c] 127)) (.cells #[.bool q, .slice B (sz Y).length d] 127)) (.cells #[.bool false, .slice none 0 0] 127)))).mono ?_
      rintro e w1 ⟨rfl, hb1⟩
      have f_a1 := kp hb1 (ka (ka (na w #[.bool p, .slice A (sz X).length c] 127) (.cells #[.bool q, .slice B (sz Y).length d] 127)) (.cells #[.bool false, .slice none 0 0] 127))
      have f_b1 := kp hb1 (ka (na1 w (.cells #[.bool p, .slice A (sz X).length c] 127) #[.bool q, .slice B (sz Y).length d] 127) (.cells #[.bool false, .slice none 0 0] 127))
      have f_o1 := kp hb1 (na2 w (.cells #[.bool p, .slice A (sz X).length c] 127) (.cells #[.bool q, .slice B (sz Y).length d] 127) #[.bool false, .slice none 0 0] 127)
      have rd_a1 := (ha.below (bA (bA (bA (b0 _) (.cells #[.bool p, .slice A (sz X).length c] 127)) (.cells #[.bool q, .slice B (sz Y).length d] 127)) (.cells #[.bool false, .slice none 0 0] 127))).below hb1
      have rd_b1 := (hb.below (bA (bA (bA (b0 _) (.cells #[.bool p, .slice A (sz X).length c] 127)) (.cells #[.bool q, .slice B (sz Y).length d] 127)) (.cells #[.bool false, .slice none 0 0] 127))).below hb1
      have hB1 := bB (bA (bA (bA (b0 w) (.cells #[.bool p, .slice A (sz X).length c] 127)) (.cells #[.bool q, .slice B (sz Y).length d] 127)) (.cells #[.bool false, .slice none 0 0] 127)) hb1
      obtain ⟨za_a, za_b, la1⟩ := rcell f_a1
      obtain ⟨zb_a, zb_b, lb1⟩ := rcell f_b1
      obtain ⟨zo_a, zo_b, lo1⟩ := rcell f_o1
      go_wp2_with fail
      refine Abs.wp_region_abs (Abs.cls0 _) [0, 1, 2, 3, 4, 5, 6, 7, 8] (by kernel_rfl) (by kernel_rfl) (Below.refl _ _).drew ?_
      repeat (first | (refine Abs.step_pure rfl rfl (fun K hK => ?_); go_simp; (try go_bits); (first | refine hK _ _ ?_ | (simp only [↓IntWalk.iteOmega]; go_simp; (try go_bits); refine hK _ _ ?_)); clear hK K) | (refine Abs.step_load (v := ?_) rfl rfl (by kernel_rfl) rfl (fun w0 hI => ?_) (fun K hK => ?_); rotate_left; (· have z0 := (rcell (kp hI (f_a1))).1; have z1 := (rcell (kp hI (f_b1))).1; go_simp; rfl); (simp only [Act.put, List.setIfInBounds_toArray, List.set_cons_zero, List.set_cons_succ]; refine hK _ _ ?_; clear hK K)) | (refine Abs.step_skip rfl rfl (fun K hK => ?_); (simp only [Act.put, List.setIfInBounds_toArray, List.set_cons_zero, List.set_cons_succ]; refine hK _ _ ?_; clear hK K)))
      (refine Abs.step_call (f := ?_) (args := ?_) rfl rfl rfl rfl (SlIs (Z)) (fun _ => Cl_SlIs _) (fun w0 => ?_) (fun w0 hI hF => ?_) (fun K hK v w0 hv => ?_); rotate_left 2; (· go_simp; (constructor <;> rfl)); (· exact (c1 _ (rd_a1.below hI) (rd_b1.below hI)).mono (fun _ _ h => h.sl)); (obtain ⟨A3, d3, rfl, -⟩ := hv; clear w0; simp only [Act.put, List.setIfInBounds_toArray, List.set_cons_zero, List.set_cons_succ]; refine hK _ _ ?_; clear hK K))
      repeat (first | (refine Abs.step_pure rfl rfl (fun K hK => ?_); go_simp; (try go_bits); (first | refine hK _ _ ?_ | (simp only [↓IntWalk.iteOmega]; go_simp; (try go_bits); refine hK _ _ ?_)); clear hK K) | (refine Abs.step_load (v := ?_) rfl rfl (by kernel_rfl) rfl (fun w0 hI => ?_) (fun K hK => ?_); rotate_left; (· have z0 := (rcell (kp hI (f_a1))).1; have z1 := (rcell (kp hI (f_b1))).1; go_simp; rfl); (simp only [Act.put, List.setIfInBounds_toArray, List.set_cons_zero, List.set_cons_succ]; refine hK _ _ ?_; clear hK K)) | (refine Abs.step_skip rfl rfl (fun K hK => ?_); (simp only [Act.put, List.setIfInBounds_toArray, List.set_cons_zero, List.set_cons_succ]; refine hK _ _ ?_; clear hK K)))
      (refine Abs.step_call_val (f := ?_) (args := ?_) (v := ?_) rfl rfl rfl rfl (fun w0 => ?_) (fun w0 hI => ?_) (fun K hK => ?_); rotate_left 3; (· go_simp; (constructor <;> rfl)); (· exact c2 _ _ _); (simp only [Act.put, List.setIfInBounds_toArray, List.set_cons_zero, List.set_cons_succ]; refine hK _ _ ?_; clear hK K))
      repeat (first | (refine Abs.step_pure rfl rfl (fun K hK => ?_); go_simp; (try go_bits); (first | refine hK _ _ ?_ | (simp only [↓IntWalk.iteOmega]; go_simp; (try go_bits); refine hK _ _ ?_)); clear hK K) | (refine Abs.step_load (v := ?_) rfl rfl (by kernel_rfl) rfl (fun w0 hI => ?_) (fun K hK => ?_); rotate_left; (· have z0 := (rcell (kp hI (f_a1))).1; have z1 := (rcell (kp hI (f_b1))).1; go_simp; rfl); (simp only [Act.put, List.setIfInBounds_toArray, List.set_cons_zero, List.set_cons_succ]; refine hK _ _ ?_; clear hK K)) | (refine Abs.step_skip rfl rfl (fun K hK => ?_); (simp only [Act.put, List.setIfInBounds_toArray, List.set_cons_zero, List.set_cons_succ]; refine hK _ _ ?_; clear hK K)))
      (refine Abs.step_store (T := ?_) rfl rfl rfl (fun w0 hI hF hU => ?_) (fun w0 hI hU hJ => ?_) (fun K hK => ?_); rotate_left; (· have hR := kp hI (f_o1); have hg0 := (rcell hR).1; have hg1 := (rcell hR).2.1; simp only [Abs.T_setF, Abs.T_addA, Abs.T_push, Abs.T_start]; go_simp; exact row2 hR _ _); (· first | exact trivial | exact js hJ rfl _ | exact js hJ (Or.inl rfl) _ | exact js hJ (Or.inr rfl) _); (simp only [Act.put, List.setIfInBounds_toArray, List.set_cons_zero, List.set_cons_succ]; refine hK _ _ ?_; clear hK K))
      repeat (first | (refine Abs.step_pure rfl rfl (fun K hK => ?_); go_simp; (try go_bits); (first | refine hK _ _ ?_ | (simp only [↓IntWalk.iteOmega]; go_simp; (try go_bits); refine hK _ _ ?_)); clear hK K) | (refine Abs.step_load (v := ?_) rfl rfl (by kernel_rfl) rfl (fun w0 hI => ?_) (fun K hK => ?_); rotate_left; (· have z0 := (rcell (kp hI (f_a1))).1; have z1 := (rcell (kp hI (f_b1))).1; go_simp; rfl); (simp only [Act.put, List.setIfInBounds_toArray, List.set_cons_zero, List.set_cons_succ]; refine hK _ _ ?_; clear hK K)) | (refine Abs.step_skip rfl rfl (fun K hK => ?_); (simp only [Act.put, List.setIfInBounds_toArray, List.set_cons_zero, List.set_cons_succ]; refine hK _ _ ?_; clear hK K)))
      intro w0 hI hF hx1 hx2
      clear hx1 hx2
      simp only [Abs.T_push]
      have rn_s := (((hF 6).2 rfl)).rd
      clear hF
      have hQ := kp hI (f_o1)
      generalize hT3 : setRow w0 _ _ = w3
      have hy := (fin_x (b0 _) hQ hT3).1
      replace rn_s := rn_s.exc hy hQ (by decide)
      obtain ⟨hx3, f_o3⟩ := fin_x hI (f_o1) hT3
      clear hT3 hQ hy hI w0
      have f_a3 := kx hx3 (f_a1) (by omega)
      have f_b3 := kx hx3 (f_b1) (by omega)
      have rd_a3 := rd_a1.exc hx3 (f_o1) (by decide)
      have rd_b3 := rd_b1.exc hx3 (f_o1) (by decide)
      have hB3 := bX hB1 hx3 (by omega)
      clear za_a za_b zb_a zb_b zo_a zo_b
      obtain ⟨za_a, za_b, la3⟩ := rcell f_a3
      obtain ⟨zb_a, zb_b, lb3⟩ := rcell f_b3
      obtain ⟨zo_a, zo_b, lo3⟩ := rcell f_o3
      go_wp2
      refine bodyPost_ret (by simp [results, Tryz.results103, go_sem, zo_a]; try rfl) rfl ⟨A3, d3, rfl, hB3, rn_s⟩

/-- what Div hands back -/
def GivesNum2 (x y : Int) (w : World) (e : Ending) (w' : World) : Prop := ∃ A c A' c', e = .returned (.tuple #[.agg #[.bool (decide (x < 0)), .slice A (sz x.natAbs).length c], .agg #[.bool (decide (y < 0)), .slice A' (sz y.natAbs).length c']]) ∧ Below w.heap.size w w' ∧ Rd w' A c (sz x.natAbs) ∧ Rd w' A' c' (sz y.natAbs)

theorem div_parts (x m : Int) (hm : 0 < m) : (0 ≤ x → x / m = ((x.natAbs / m.natAbs : Nat) : Int) ∧ x % m = ((x.natAbs % m.natAbs : Nat) : Int)) ∧
    (x < 0 → x.natAbs % m.natAbs = 0 → x / m = -((x.natAbs / m.natAbs : Nat) : Int) ∧ x % m = 0) ∧
    (x < 0 → x.natAbs % m.natAbs ≠ 0 → x / m = -((x.natAbs / m.natAbs + 1 : Nat) : Int) ∧ x % m = ((m.natAbs - x.natAbs % m.natAbs : Nat) : Int)) := by
  obtain ⟨M, rfl⟩ := Int.eq_ofNat_of_zero_le (show 0 ≤ m by omega)
  have hM : 0 < M := by omega
  have k1 := Nat.div_add_mod x.natAbs M
  have k2 := Nat.mod_lt x.natAbs hM
  rw [Int.natAbs_natCast]
  generalize x.natAbs / M = Q at *
  generalize x.natAbs % M = R at *
  have f : ∀ z t : Int, x = (M : Int) * z + t → 0 ≤ t → t < M → x / (M : Int) = z ∧ x % (M : Int) = t := by
    intro z t h1 h2 h3
    constructor
    · rw [h1, Int.add_comm, Int.add_mul_ediv_left _ _ (show (M : Int) ≠ 0 by omega), Int.ediv_eq_zero_of_lt h2 h3]; omega
    · rw [h1, Int.add_comm, Int.add_mul_emod_self_left, Int.emod_eq_of_lt h2 h3]
  have k3 : ((M * Q + R : Nat) : Int) = (M : Int) * Q + R := by rw [Int.natCast_add, Int.natCast_mul]
  refine ⟨fun hx => f _ _ (by rw [← k3, k1]; omega) (by omega) (by omega), fun hx hr => ?_, fun hx hr => ?_⟩
  · have := f (-(Q : Int)) 0 (by rw [Int.mul_neg]; omega) (by omega) (by omega)
    exact this
  · refine f _ _ ?_ (by omega) (by omega)
    rw [Int.mul_neg, Int.natCast_add, Int.mul_add]
    omega

set_option maxRecDepth 100000 in
set_option maxHeartbeats 2000000 in
theorem ref_Div (x m : Int) (A B : Option Addr) (c d : Nat) (hm : 0 < m) (lx : (sz x.natAbs).length ≤ 800) (lm : (sz m.natAbs).length ≤ 800) (w : World) (ha : Rd w A c (sz x.natAbs)) (hb : Rd w B d (sz m.natAbs)) :
    Calls Tryz.prog 81 #[.agg #[.bool (decide (x < 0)), .slice A (sz x.natAbs).length c], .agg #[.bool (decide (m < 0)), .slice B (sz m.natAbs).length d]] w (GivesNum2 (x / m) (x % m) w) := by
  have c1 := fun w ha hb => ref_parts x.natAbs m.natAbs A B c d (by omega) (by omega) (by omega) w ha hb
  obtain ⟨k1, k2, k3⟩ := div_parts x m hm
  have hR := Nat.mod_lt x.natAbs (show 0 < m.natAbs by omega)
  have lQ : (sz (x.natAbs / m.natAbs)).length ≤ 800 := by
    have h1 := bv_lt (Bin.sz x.natAbs)
    rw [bv_sz] at h1
    exact Nat.le_trans (sz_len_lt (k := (sz x.natAbs).length) (Nat.lt_of_le_of_lt (Nat.div_le_self _ _) h1)) lx
  have hlen := sz_len0 (x.natAbs % m.natAbs)
  have hQb := bv_lt (Bin.sz (x.natAbs / m.natAbs))
  rw [bv_sz] at hQb
  generalize x.natAbs / m.natAbs = Q at *
  generalize x.natAbs % m.natAbs = R at *
  by_cases hx : x < 0
  · by_cases hr : R = 0
    · obtain ⟨e1, e2⟩ := k2 hx hr
      have hz : ¬ (0 : Int) < ((sz R).length : Int) := fun h => hlen.1 h hr
      have c2 := fun A c => ref_made true Q A c
      have c3 := fun A c => ref_made false R A c
      rw [e1, e2]
      have hd1 : (true && decide (Q ≠ 0)) = decide (-((Q : Nat) : Int) < 0) := by
        rw [Bool.true_and]; exact decide_eq_decide.2 (by omega)
      rw [hd1] at c2
      have hn : (-((Q : Nat) : Int)).natAbs = Q := by rw [Int.natAbs_neg, Int.natAbs_natCast]
      unfold GivesNum2
      rw [hn, decide_eq_true hx, show decide ((0 : Int) < 0) = false from rfl, show (0 : Int).natAbs = R by rw [hr]; rfl]
      clear hn hd1 e1 e2 k1 k2 k3 hR lQ hlen hr hx lx lm
      generalize decide (-((Q : Nat) : Int) < 0) = r1 at *
      generalize x.natAbs = X at *
      generalize m.natAbs = Y at *
      generalize decide (m < 0) = pm at *
      go_enter Tryz.func81, Tryz.ntmps81
      go_wp2_with fail
      refine (c1 _ (ha.below (bA (bA (bA (bA (b0 _) (.cells #[.bool true, .slice A (sz X).length c] 127)) (.cells #[.bool pm, .slice B (sz Y).length d] 127)) (.cells #[.bool false, .slice none 0 0] 127)) (.cells #[.bool false, .slice none 0 0] 127))) (hb.below (bA (bA (bA (bA (b0 _) (.cells #[.bool true, .slice A (sz X).length c] 127)) (.cells #[.bool pm, .slice B (sz Y).length d] 127)) (.cells #[.bool false, .slice none 0 0] 127)) (.cells #[.bool false, .slice none 0 0] 127)))).mono ?_
      rintro e w1 ⟨A1, d1, A2, d2, rfl, hb1, rn_q, rn_t⟩
      have f_a1 := kp hb1 (ka (ka (ka (na w #[.bool true, .slice A (sz X).length c] 127) (.cells #[.bool pm, .slice B (sz Y).length d] 127)) (.cells #[.bool false, .slice none 0 0] 127)) (.cells #[.bool false, .slice none 0 0] 127))
      have f_b1 := kp hb1 (ka (ka (na1 w (.cells #[.bool true, .slice A (sz X).length c] 127) #[.bool pm, .slice B (sz Y).length d] 127) (.cells #[.bool false, .slice none 0 0] 127)) (.cells #[.bool false, .slice none 0 0] 127))
      have f_o1 := kp hb1 (ka (na2 w (.cells #[.bool true, .slice A (sz X).length c] 127) (.cells #[.bool pm, .slice B (sz Y).length d] 127) #[.bool false, .slice none 0 0] 127) (.cells #[.bool false, .slice none 0 0] 127))
      have f_p1 := kp hb1 (na3 w (.cells #[.bool true, .slice A (sz X).length c] 127) (.cells #[.bool pm, .slice B (sz Y).length d] 127) (.cells #[.bool false, .slice none 0 0] 127) #[.bool false, .slice none 0 0] 127)
      have rd_a1 := (ha.below (bA (bA (bA (bA (b0 _) (.cells #[.bool true, .slice A (sz X).length c] 127)) (.cells #[.bool pm, .slice B (sz Y).length d] 127)) (.cells #[.bool false, .slice none 0 0] 127)) (.cells #[.bool false, .slice none 0 0] 127))).below hb1
      have rd_b1 := (hb.below (bA (bA (bA (bA (b0 _) (.cells #[.bool true, .slice A (sz X).length c] 127)) (.cells #[.bool pm, .slice B (sz Y).length d] 127)) (.cells #[.bool false, .slice none 0 0] 127)) (.cells #[.bool false, .slice none 0 0] 127))).below hb1
      have hB1 := bB (bA (bA (bA (bA (b0 w) (.cells #[.bool true, .slice A (sz X).length c] 127)) (.cells #[.bool pm, .slice B (sz Y).length d] 127)) (.cells #[.bool false, .slice none 0 0] 127)) (.cells #[.bool false, .slice none 0 0] 127)) hb1
      obtain ⟨za_a, za_b, la1⟩ := rcell f_a1
      obtain ⟨zb_a, zb_b, lb1⟩ := rcell f_b1
      obtain ⟨zo_a, zo_b, lo1⟩ := rcell f_o1
      obtain ⟨zp_a, zp_b, lp1⟩ := rcell f_p1
      go_wp2_with fail
      refine (c2 _ _ _).mono ?_
      rintro e w2 ⟨rfl, hb2⟩
      have f_a2 := kp hb2 (f_a1)
      have f_b2 := kp hb2 (f_b1)
      have f_o2 := kp hb2 (f_o1)
      have f_p2 := kp hb2 (f_p1)
      have rd_a2 := rd_a1.below hb2
      have rd_b2 := rd_b1.below hb2
      have rd_q2 := rn_q.below hb2
      have rd_t2 := rn_t.below hb2
      have hB2 := bB hB1 hb2
      clear za_a za_b zb_a zb_b zo_a zo_b zp_a zp_b
      obtain ⟨za_a, za_b, la2⟩ := rcell f_a2
      obtain ⟨zb_a, zb_b, lb2⟩ := rcell f_b2
      obtain ⟨zo_a, zo_b, lo2⟩ := rcell f_o2
      obtain ⟨zp_a, zp_b, lp2⟩ := rcell f_p2
      go_wp2_with fail
      refine (c3 _ _ _).mono ?_
      rintro e w3 ⟨rfl, hb3⟩
      have f_a3 := kp hb3 (f_a2)
      have f_b3 := kp hb3 (f_b2)
      have f_o3 := kp hb3 (f_o2)
      have f_p3 := kp hb3 (f_p2)
      have rd_a3 := rd_a2.below hb3
      have rd_b3 := rd_b2.below hb3
      have rd_q3 := rd_q2.below hb3
      have rd_t3 := rd_t2.below hb3
      have hB3 := bB hB2 hb3
      clear za_a za_b zb_a zb_b zo_a zo_b zp_a zp_b
      obtain ⟨za_a, za_b, la3⟩ := rcell f_a3
      obtain ⟨zb_a, zb_b, lb3⟩ := rcell f_b3
      obtain ⟨zo_a, zo_b, lo3⟩ := rcell f_o3
      obtain ⟨zp_a, zp_b, lp3⟩ := rcell f_p3
      go_wp2_with fail
      rw [row2 f_o3]
      generalize hT4 : setRow _ _ _ = w4
      obtain ⟨hx4, f_o4⟩ := fin_x (b0 _) f_o3 hT4
      clear hT4
      have f_a4 := kx hx4 (f_a3) (by omega)
      have f_b4 := kx hx4 (f_b3) (by omega)
      have f_p4 := kx hx4 (f_p3) (by omega)
      have rd_a4 := rd_a3.exc hx4 (f_o3) (by decide)
      have rd_b4 := rd_b3.exc hx4 (f_o3) (by decide)
      have rd_q4 := rd_q3.exc hx4 (f_o3) (by decide)
      have rd_t4 := rd_t3.exc hx4 (f_o3) (by decide)
      have hB4 := bX hB3 hx4 (by omega)
      clear za_a za_b zb_a zb_b zo_a zo_b zp_a zp_b
      obtain ⟨za_a, za_b, la4⟩ := rcell f_a4
      obtain ⟨zb_a, zb_b, lb4⟩ := rcell f_b4
      obtain ⟨zp_a, zp_b, lp4⟩ := rcell f_p4
      obtain ⟨zo_a, zo_b, lo4⟩ := rcell f_o4
      rw [row2 f_p4]
      generalize hT5 : setRow _ _ _ = w5
      obtain ⟨hx5, f_p5⟩ := fin_x (b0 _) f_p4 hT5
      clear hT5
      have f_a5 := kx hx5 (f_a4) (by omega)
      have f_b5 := kx hx5 (f_b4) (by omega)
      have f_o5 := kx hx5 (f_o4) (by omega)
      have rd_a5 := rd_a4.exc hx5 (f_p4) (by decide)
      have rd_b5 := rd_b4.exc hx5 (f_p4) (by decide)
      have rd_q5 := rd_q4.exc hx5 (f_p4) (by decide)
      have rd_t5 := rd_t4.exc hx5 (f_p4) (by decide)
      have hB5 := bX hB4 hx5 (by omega)
      clear za_a za_b zb_a zb_b zo_a zo_b zp_a zp_b
      obtain ⟨za_a, za_b, la5⟩ := rcell f_a5
      obtain ⟨zb_a, zb_b, lb5⟩ := rcell f_b5
      obtain ⟨zo_a, zo_b, lo5⟩ := rcell f_o5
      obtain ⟨zp_a, zp_b, lp5⟩ := rcell f_p5
      refine bodyPost_ret (by simp [results, Tryz.results81, go_sem, zo_a, zp_a]; try rfl) rfl ⟨A1, d1, A2, d2, by simp, hB5, rd_q5, rd_t5⟩
    · obtain ⟨e1, e2⟩ := k3 hx hr
      have hz : (0 : Int) < ((sz R).length : Int) := hlen.2 hr
      have cs1 := ref_Size 1 (by decide)
      have cp := fun A B c d w ha hb => ref_plus Q 1 ((sz Q).length + 1) A B c d (by omega) (by rw [Nat.pow_succ]; have := Nat.two_pow_pos (sz Q).length; omega) w ha hb
      have cm := fun A B c d w ha hb => ref_minus m.natAbs R A B c d (by omega) (by omega) w ha hb
      have c2 := fun A c => ref_made true (Q + 1) A c
      have c3 := fun A c => ref_made false (m.natAbs - R) A c
      rw [e1, e2]
      have hn : (-((Q + 1 : Nat) : Int)).natAbs = Q + 1 := by rw [Int.natAbs_neg, Int.natAbs_natCast]
      unfold GivesNum2
      rw [hn, Int.natAbs_natCast, decide_eq_true hx, decide_eq_true (show -((Q + 1 : Nat) : Int) < 0 by omega), decide_eq_false (show ¬ ((m.natAbs - R : Nat) : Int) < 0 by omega)]
      rw [decide_eq_true (show Q + 1 ≠ 0 by omega)] at c2
      clear hn e1 e2 k1 k2 k3 hR lQ hlen hr hx lx lm
      generalize Q + 1 = Q1 at *
      generalize m.natAbs - R = R1 at *
      generalize x.natAbs = X at *
      generalize m.natAbs = Y at *
      generalize decide (m < 0) = pm at *
      go_enter Tryz.func81, Tryz.ntmps81
      go_wp2_with fail
      refine (c1 _ (ha.below (bA (bA (bA (bA (b0 _) (.cells #[.bool true, .slice A (sz X).length c] 127)) (.cells #[.bool pm, .slice B (sz Y).length d] 127)) (.cells #[.bool false, .slice none 0 0] 127)) (.cells #[.bool false, .slice none 0 0] 127))) (hb.below (bA (bA (bA (bA (b0 _) (.cells #[.bool true, .slice A (sz X).length c] 127)) (.cells #[.bool pm, .slice B (sz Y).length d] 127)) (.cells #[.bool false, .slice none 0 0] 127)) (.cells #[.bool false, .slice none 0 0] 127)))).mono ?_
      rintro e w1 ⟨A1, d1, A2, d2, rfl, hb1, rn_q, rn_t⟩
      have f_a1 := kp hb1 (ka (ka (ka (na w #[.bool true, .slice A (sz X).length c] 127) (.cells #[.bool pm, .slice B (sz Y).length d] 127)) (.cells #[.bool false, .slice none 0 0] 127)) (.cells #[.bool false, .slice none 0 0] 127))
      have f_b1 := kp hb1 (ka (ka (na1 w (.cells #[.bool true, .slice A (sz X).length c] 127) #[.bool pm, .slice B (sz Y).length d] 127) (.cells #[.bool false, .slice none 0 0] 127)) (.cells #[.bool false, .slice none 0 0] 127))
      have f_o1 := kp hb1 (ka (na2 w (.cells #[.bool true, .slice A (sz X).length c] 127) (.cells #[.bool pm, .slice B (sz Y).length d] 127) #[.bool false, .slice none 0 0] 127) (.cells #[.bool false, .slice none 0 0] 127))
      have f_p1 := kp hb1 (na3 w (.cells #[.bool true, .slice A (sz X).length c] 127) (.cells #[.bool pm, .slice B (sz Y).length d] 127) (.cells #[.bool false, .slice none 0 0] 127) #[.bool false, .slice none 0 0] 127)
      have rd_a1 := (ha.below (bA (bA (bA (bA (b0 _) (.cells #[.bool true, .slice A (sz X).length c] 127)) (.cells #[.bool pm, .slice B (sz Y).length d] 127)) (.cells #[.bool false, .slice none 0 0] 127)) (.cells #[.bool false, .slice none 0 0] 127))).below hb1
      have rd_b1 := (hb.below (bA (bA (bA (bA (b0 _) (.cells #[.bool true, .slice A (sz X).length c] 127)) (.cells #[.bool pm, .slice B (sz Y).length d] 127)) (.cells #[.bool false, .slice none 0 0] 127)) (.cells #[.bool false, .slice none 0 0] 127))).below hb1
      have hB1 := bB (bA (bA (bA (bA (b0 w) (.cells #[.bool true, .slice A (sz X).length c] 127)) (.cells #[.bool pm, .slice B (sz Y).length d] 127)) (.cells #[.bool false, .slice none 0 0] 127)) (.cells #[.bool false, .slice none 0 0] 127)) hb1
      obtain ⟨za_a, za_b, la1⟩ := rcell f_a1
      obtain ⟨zb_a, zb_b, lb1⟩ := rcell f_b1
      obtain ⟨zo_a, zo_b, lo1⟩ := rcell f_o1
      obtain ⟨zp_a, zp_b, lp1⟩ := rcell f_p1
      go_wp2_with fail
      refine Abs.wp_region_abs (Abs.cls0 _) [0, 1, 2, 3, 4, 5, 6, 7, 8, 9, 10] (by kernel_rfl) (by kernel_rfl) (Below.refl _ _).drew ?_
      repeat (first | (refine Abs.step_pure rfl rfl (fun K hK => ?_); go_simp; (try go_bits); (first | refine hK _ _ ?_ | (simp only [↓IntWalk.iteOmega]; go_simp; (try go_bits); refine hK _ _ ?_)); clear hK K) | (refine Abs.step_load (v := ?_) rfl rfl (by kernel_rfl) rfl (fun w0 hI => ?_) (fun K hK => ?_); rotate_left; (· have z0 := (rcell (kp hI (f_b1))).1; go_simp; rfl); (simp only [Act.put, List.setIfInBounds_toArray, List.set_cons_zero, List.set_cons_succ]; refine hK _ _ ?_; clear hK K)) | (refine Abs.step_skip rfl rfl (fun K hK => ?_); (simp only [Act.put, List.setIfInBounds_toArray, List.set_cons_zero, List.set_cons_succ]; refine hK _ _ ?_; clear hK K)))
      (refine Abs.step_call (f := ?_) (args := ?_) rfl rfl rfl rfl (SlIs (1)) (fun _ => Cl_SlIs _) (fun w0 => ?_) (fun w0 hI hF => ?_) (fun K hK v w0 hv => ?_); rotate_left 2; (· go_simp; (constructor <;> rfl)); (· exact (cs1 _).mono (fun _ _ h => h.sl)); (obtain ⟨A3, d3, rfl, -⟩ := hv; clear w0; simp only [Act.put, List.setIfInBounds_toArray, List.set_cons_zero, List.set_cons_succ]; refine hK _ _ ?_; clear hK K))
      repeat (first | (refine Abs.step_pure rfl rfl (fun K hK => ?_); go_simp; (try go_bits); (first | refine hK _ _ ?_ | (simp only [↓IntWalk.iteOmega]; go_simp; (try go_bits); refine hK _ _ ?_)); clear hK K) | (refine Abs.step_load (v := ?_) rfl rfl (by kernel_rfl) rfl (fun w0 hI => ?_) (fun K hK => ?_); rotate_left; (· have z0 := (rcell (kp hI (f_b1))).1; go_simp; rfl); (simp only [Act.put, List.setIfInBounds_toArray, List.set_cons_zero, List.set_cons_succ]; refine hK _ _ ?_; clear hK K)) | (refine Abs.step_skip rfl rfl (fun K hK => ?_); (simp only [Act.put, List.setIfInBounds_toArray, List.set_cons_zero, List.set_cons_succ]; refine hK _ _ ?_; clear hK K)))
      (refine Abs.step_call (f := ?_) (args := ?_) rfl rfl rfl rfl (SlIs (Q1)) (fun _ => Cl_SlIs _) (fun w0 => ?_) (fun w0 hI hF => ?_) (fun K hK v w0 hv => ?_); rotate_left 2; (· go_simp; (constructor <;> rfl)); (· exact (cp _ _ _ _ _ (rn_q.below hI) ((hF 1 (by kernel_rfl)).2 rfl).rd).mono (fun _ _ h => h.sl)); (obtain ⟨A4, d4, rfl, -⟩ := hv; clear w0; simp only [Act.put, List.setIfInBounds_toArray, List.set_cons_zero, List.set_cons_succ]; refine hK _ _ ?_; clear hK K))
      repeat (first | (refine Abs.step_pure rfl rfl (fun K hK => ?_); go_simp; (try go_bits); (first | refine hK _ _ ?_ | (simp only [↓IntWalk.iteOmega]; go_simp; (try go_bits); refine hK _ _ ?_)); clear hK K) | (refine Abs.step_load (v := ?_) rfl rfl (by kernel_rfl) rfl (fun w0 hI => ?_) (fun K hK => ?_); rotate_left; (· have z0 := (rcell (kp hI (f_b1))).1; go_simp; rfl); (simp only [Act.put, List.setIfInBounds_toArray, List.set_cons_zero, List.set_cons_succ]; refine hK _ _ ?_; clear hK K)) | (refine Abs.step_skip rfl rfl (fun K hK => ?_); (simp only [Act.put, List.setIfInBounds_toArray, List.set_cons_zero, List.set_cons_succ]; refine hK _ _ ?_; clear hK K)))
      (refine Abs.step_call_val (f := ?_) (args := ?_) (v := ?_) rfl rfl rfl rfl (fun w0 => ?_) (fun w0 hI => ?_) (fun K hK => ?_); rotate_left 3; (· go_simp; (constructor <;> rfl)); (· exact c2 _ _ _); (simp only [Act.put, List.setIfInBounds_toArray, List.set_cons_zero, List.set_cons_succ]; refine hK _ _ ?_; clear hK K))
      repeat (first | (refine Abs.step_pure rfl rfl (fun K hK => ?_); go_simp; (try go_bits); (first | refine hK _ _ ?_ | (simp only [↓IntWalk.iteOmega]; go_simp; (try go_bits); refine hK _ _ ?_)); clear hK K) | (refine Abs.step_load (v := ?_) rfl rfl (by kernel_rfl) rfl (fun w0 hI => ?_) (fun K hK => ?_); rotate_left; (· have z0 := (rcell (kp hI (f_b1))).1; go_simp; rfl); (simp only [Act.put, List.setIfInBounds_toArray, List.set_cons_zero, List.set_cons_succ]; refine hK _ _ ?_; clear hK K)) | (refine Abs.step_skip rfl rfl (fun K hK => ?_); (simp only [Act.put, List.setIfInBounds_toArray, List.set_cons_zero, List.set_cons_succ]; refine hK _ _ ?_; clear hK K)))
      (refine Abs.step_call (f := ?_) (args := ?_) rfl rfl rfl rfl (SlIs (R1)) (fun _ => Cl_SlIs _) (fun w0 => ?_) (fun w0 hI hF => ?_) (fun K hK v w0 hv => ?_); rotate_left 2; (· go_simp; (constructor <;> rfl)); (· exact (cm _ _ _ _ _ (rd_b1.below hI) (rn_t.below hI)).mono (fun _ _ h => h.sl)); (obtain ⟨A5, d5, rfl, -⟩ := hv; clear w0; simp only [Act.put, List.setIfInBounds_toArray, List.set_cons_zero, List.set_cons_succ]; refine hK _ _ ?_; clear hK K))
      repeat (first | (refine Abs.step_pure rfl rfl (fun K hK => ?_); go_simp; (try go_bits); (first | refine hK _ _ ?_ | (simp only [↓IntWalk.iteOmega]; go_simp; (try go_bits); refine hK _ _ ?_)); clear hK K) | (refine Abs.step_load (v := ?_) rfl rfl (by kernel_rfl) rfl (fun w0 hI => ?_) (fun K hK => ?_); rotate_left; (· have z0 := (rcell (kp hI (f_b1))).1; go_simp; rfl); (simp only [Act.put, List.setIfInBounds_toArray, List.set_cons_zero, List.set_cons_succ]; refine hK _ _ ?_; clear hK K)) | (refine Abs.step_skip rfl rfl (fun K hK => ?_); (simp only [Act.put, List.setIfInBounds_toArray, List.set_cons_zero, List.set_cons_succ]; refine hK _ _ ?_; clear hK K)))
      (refine Abs.step_call_val (f := ?_) (args := ?_) (v := ?_) rfl rfl rfl rfl (fun w0 => ?_) (fun w0 hI => ?_) (fun K hK => ?_); rotate_left 3; (· go_simp; (constructor <;> rfl)); (· exact c3 _ _ _); (simp only [Act.put, List.setIfInBounds_toArray, List.set_cons_zero, List.set_cons_succ]; refine hK _ _ ?_; clear hK K))
      repeat (first | (refine Abs.step_pure rfl rfl (fun K hK => ?_); go_simp; (try go_bits); (first | refine hK _ _ ?_ | (simp only [↓IntWalk.iteOmega]; go_simp; (try go_bits); refine hK _ _ ?_)); clear hK K) | (refine Abs.step_load (v := ?_) rfl rfl (by kernel_rfl) rfl (fun w0 hI => ?_) (fun K hK => ?_); rotate_left; (· have z0 := (rcell (kp hI (f_b1))).1; go_simp; rfl); (simp only [Act.put, List.setIfInBounds_toArray, List.set_cons_zero, List.set_cons_succ]; refine hK _ _ ?_; clear hK K)) | (refine Abs.step_skip rfl rfl (fun K hK => ?_); (simp only [Act.put, List.setIfInBounds_toArray, List.set_cons_zero, List.set_cons_succ]; refine hK _ _ ?_; clear hK K)))
      (refine Abs.step_store (T := ?_) rfl rfl rfl (fun w0 hI hF hU => ?_) (fun w0 hI hU hJ => ?_) (fun K hK => ?_); rotate_left; (· have hR := kp hI (f_o1); have hg0 := (rcell hR).1; have hg1 := (rcell hR).2.1; simp only [Abs.T_setF, Abs.T_addA, Abs.T_push, Abs.T_start]; go_simp; exact row2 hR _ _); (· first | exact trivial | exact js hJ rfl _ | exact js hJ (Or.inl rfl) _ | exact js hJ (Or.inr rfl) _); (simp only [Act.put, List.setIfInBounds_toArray, List.set_cons_zero, List.set_cons_succ]; refine hK _ _ ?_; clear hK K))
      repeat (first | (refine Abs.step_pure rfl rfl (fun K hK => ?_); go_simp; (try go_bits); (first | refine hK _ _ ?_ | (simp only [↓IntWalk.iteOmega]; go_simp; (try go_bits); refine hK _ _ ?_)); clear hK K) | (refine Abs.step_load (v := ?_) rfl rfl (by kernel_rfl) rfl (fun w0 hI => ?_) (fun K hK => ?_); rotate_left; (· have z0 := (rcell (kp hI (f_b1))).1; go_simp; rfl); (simp only [Act.put, List.setIfInBounds_toArray, List.set_cons_zero, List.set_cons_succ]; refine hK _ _ ?_; clear hK K)) | (refine Abs.step_skip rfl rfl (fun K hK => ?_); (simp only [Act.put, List.setIfInBounds_toArray, List.set_cons_zero, List.set_cons_succ]; refine hK _ _ ?_; clear hK K)))
      (refine Abs.step_store (T := ?_) rfl rfl rfl (fun w0 hI hF hU => ?_) (fun w0 hI hU hJ => ?_) (fun K hK => ?_); rotate_left; (· have hR := fun cs => (setRow_other (w := w0) (g := w.heap.size + 1 + 1) cs (by omega)).trans (kp hI (f_p1)); have hg0 := fun cs => (rcell (hR cs)).1; have hg1 := fun cs => (rcell (hR cs)).2.1; simp only [Abs.T_setF, Abs.T_addA, Abs.T_push, Abs.T_start]; go_simp; exact row2 (hR _) _ _); (· first | exact trivial | exact js hJ rfl _ | exact js hJ (Or.inl rfl) _ | exact js hJ (Or.inr rfl) _); (simp only [Act.put, List.setIfInBounds_toArray, List.set_cons_zero, List.set_cons_succ]; refine hK _ _ ?_; clear hK K))
      repeat (first | (refine Abs.step_pure rfl rfl (fun K hK => ?_); go_simp; (try go_bits); (first | refine hK _ _ ?_ | (simp only [↓IntWalk.iteOmega]; go_simp; (try go_bits); refine hK _ _ ?_)); clear hK K) | (refine Abs.step_load (v := ?_) rfl rfl (by kernel_rfl) rfl (fun w0 hI => ?_) (fun K hK => ?_); rotate_left; (· have z0 := (rcell (kp hI (f_b1))).1; go_simp; rfl); (simp only [Act.put, List.setIfInBounds_toArray, List.set_cons_zero, List.set_cons_succ]; refine hK _ _ ?_; clear hK K)) | (refine Abs.step_skip rfl rfl (fun K hK => ?_); (simp only [Act.put, List.setIfInBounds_toArray, List.set_cons_zero, List.set_cons_succ]; refine hK _ _ ?_; clear hK K)))
      intro w0 hI hF hx1 hx2
      clear hx1 hx2
      simp only [Abs.T_push]
      have rn_u := ((((hF 2).1).2 rfl)).rd
      have rn_v := (((hF 7).2 rfl)).rd
      clear hF
      have hQ := kp hI (f_o1)
      generalize hT3 : setRow w0 _ _ = w3
      have hy := (fin_x (b0 _) hQ hT3).1
      replace rn_u := rn_u.exc hy hQ (by decide)
      replace rn_v := rn_v.exc hy hQ (by decide)
      obtain ⟨hx3, f_o3⟩ := fin_x hI (f_o1) hT3
      clear hT3 hQ hy hI w0
      have f_a3 := kx hx3 (f_a1) (by omega)
      have f_b3 := kx hx3 (f_b1) (by omega)
      have f_p3 := kx hx3 (f_p1) (by omega)
      have rd_a3 := rd_a1.exc hx3 (f_o1) (by decide)
      have rd_b3 := rd_b1.exc hx3 (f_o1) (by decide)
      have rd_q3 := rn_q.exc hx3 (f_o1) (by decide)
      have rd_t3 := rn_t.exc hx3 (f_o1) (by decide)
      have hB3 := bX hB1 hx3 (by omega)
      clear za_a za_b zb_a zb_b zo_a zo_b zp_a zp_b
      obtain ⟨za_a, za_b, la3⟩ := rcell f_a3
      obtain ⟨zb_a, zb_b, lb3⟩ := rcell f_b3
      obtain ⟨zp_a, zp_b, lp3⟩ := rcell f_p3
      obtain ⟨zo_a, zo_b, lo3⟩ := rcell f_o3
      generalize hT4 : setRow w3 _ _ = w4
      obtain ⟨hx4, f_p4⟩ := fin_x (b0 _) f_p3 hT4
      clear hT4
      have f_a4 := kx hx4 (f_a3) (by omega)
      have f_b4 := kx hx4 (f_b3) (by omega)
      have f_o4 := kx hx4 (f_o3) (by omega)
      have rd_a4 := rd_a3.exc hx4 (f_p3) (by decide)
      have rd_b4 := rd_b3.exc hx4 (f_p3) (by decide)
      have rd_q4 := rd_q3.exc hx4 (f_p3) (by decide)
      have rd_t4 := rd_t3.exc hx4 (f_p3) (by decide)
      have rd_u4 := rn_u.exc hx4 (f_p3) (by decide)
      have rd_v4 := rn_v.exc hx4 (f_p3) (by decide)
      have hB4 := bX hB3 hx4 (by omega)
      clear za_a za_b zb_a zb_b zo_a zo_b zp_a zp_b
      obtain ⟨za_a, za_b, la4⟩ := rcell f_a4
      obtain ⟨zb_a, zb_b, lb4⟩ := rcell f_b4
      obtain ⟨zo_a, zo_b, lo4⟩ := rcell f_o4
      obtain ⟨zp_a, zp_b, lp4⟩ := rcell f_p4
      go_wp2
      refine bodyPost_ret (by simp [results, Tryz.results81, go_sem, zo_a, zp_a]; try rfl) rfl ⟨A4, d4, A5, d5, by simp, hB4, rd_u4, rd_v4⟩
  · obtain ⟨e1, e2⟩ := k1 (by omega)
    have c2 := fun A c => ref_made false Q A c
    have c3 := fun A c => ref_made false R A c
    rw [e1, e2]
    unfold GivesNum2
    rw [Int.natAbs_natCast, Int.natAbs_natCast, decide_eq_false hx, decide_eq_false (show ¬ ((Q : Nat) : Int) < 0 by omega), decide_eq_false (show ¬ ((R : Nat) : Int) < 0 by omega)]
    clear e1 e2 k1 k2 k3 hR lQ hlen hx lx lm
    generalize x.natAbs = X at *
    generalize m.natAbs = Y at *
    generalize decide (m < 0) = pm at *
    go_enter Tryz.func81, Tryz.ntmps81
    go_wp2_with fail
    refine (c1 _ (ha.below (bA (bA (bA (bA (b0 _) (.cells #[.bool false, .slice A (sz X).length c] 127)) (.cells #[.bool pm, .slice B (sz Y).length d] 127)) (.cells #[.bool false, .slice none 0 0] 127)) (.cells #[.bool false, .slice none 0 0] 127))) (hb.below (bA (bA (bA (bA (b0 _) (.cells #[.bool false, .slice A (sz X).length c] 127)) (.cells #[.bool pm, .slice B (sz Y).length d] 127)) (.cells #[.bool false, .slice none 0 0] 127)) (.cells #[.bool false, .slice none 0 0] 127)))).mono ?_
    rintro e w1 ⟨A1, d1, A2, d2, rfl, hb1, rn_q, rn_t⟩
    have f_a1 := kp hb1 (ka (ka (ka (na w #[.bool false, .slice A (sz X).length c] 127) (.cells #[.bool pm, .slice B (sz Y).length d] 127)) (.cells #[.bool false, .slice none 0 0] 127)) (.cells #[.bool false, .slice none 0 0] 127))
    have f_b1 := kp hb1 (ka (ka (na1 w (.cells #[.bool false, .slice A (sz X).length c] 127) #[.bool pm, .slice B (sz Y).length d] 127) (.cells #[.bool false, .slice none 0 0] 127)) (.cells #[.bool false, .slice none 0 0] 127))
    have f_o1 := kp hb1 (ka (na2 w (.cells #[.bool false, .slice A (sz X).length c] 127) (.cells #[.bool pm, .slice B (sz Y).length d] 127) #[.bool false, .slice none 0 0] 127) (.cells #[.bool false, .slice none 0 0] 127))
    have f_p1 := kp hb1 (na3 w (.cells #[.bool false, .slice A (sz X).length c] 127) (.cells #[.bool pm, .slice B (sz Y).length d] 127) (.cells #[.bool false, .slice none 0 0] 127) #[.bool false, .slice none 0 0] 127)
    have rd_a1 := (ha.below (bA (bA (bA (bA (b0 _) (.cells #[.bool false, .slice A (sz X).length c] 127)) (.cells #[.bool pm, .slice B (sz Y).length d] 127)) (.cells #[.bool false, .slice none 0 0] 127)) (.cells #[.bool false, .slice none 0 0] 127))).below hb1
    have rd_b1 := (hb.below (bA (bA (bA (bA (b0 _) (.cells #[.bool false, .slice A (sz X).length c] 127)) (.cells #[.bool pm, .slice B (sz Y).length d] 127)) (.cells #[.bool false, .slice none 0 0] 127)) (.cells #[.bool false, .slice none 0 0] 127))).below hb1
    have hB1 := bB (bA (bA (bA (bA (b0 w) (.cells #[.bool false, .slice A (sz X).length c] 127)) (.cells #[.bool pm, .slice B (sz Y).length d] 127)) (.cells #[.bool false, .slice none 0 0] 127)) (.cells #[.bool false, .slice none 0 0] 127)) hb1
    obtain ⟨za_a, za_b, la1⟩ := rcell f_a1
    obtain ⟨zb_a, zb_b, lb1⟩ := rcell f_b1
    obtain ⟨zo_a, zo_b, lo1⟩ := rcell f_o1
    obtain ⟨zp_a, zp_b, lp1⟩ := rcell f_p1
    go_wp2_with fail
    refine (c2 _ _ _).mono ?_
    rintro e w2 ⟨rfl, hb2⟩
    have f_a2 := kp hb2 (f_a1)
    have f_b2 := kp hb2 (f_b1)
    have f_o2 := kp hb2 (f_o1)
    have f_p2 := kp hb2 (f_p1)
    have rd_a2 := rd_a1.below hb2
    have rd_b2 := rd_b1.below hb2
    have rd_q2 := rn_q.below hb2
    have rd_t2 := rn_t.below hb2
    have hB2 := bB hB1 hb2
    clear za_a za_b zb_a zb_b zo_a zo_b zp_a zp_b
    obtain ⟨za_a, za_b, la2⟩ := rcell f_a2
    obtain ⟨zb_a, zb_b, lb2⟩ := rcell f_b2
    obtain ⟨zo_a, zo_b, lo2⟩ := rcell f_o2
    obtain ⟨zp_a, zp_b, lp2⟩ := rcell f_p2
    go_wp2_with fail
    refine (c3 _ _ _).mono ?_
    rintro e w3 ⟨rfl, hb3⟩
    have f_a3 := kp hb3 (f_a2)
    have f_b3 := kp hb3 (f_b2)
    have f_o3 := kp hb3 (f_o2)
    have f_p3 := kp hb3 (f_p2)
    have rd_a3 := rd_a2.below hb3
    have rd_b3 := rd_b2.below hb3
    have rd_q3 := rd_q2.below hb3
    have rd_t3 := rd_t2.below hb3
    have hB3 := bB hB2 hb3
    clear za_a za_b zb_a zb_b zo_a zo_b zp_a zp_b
    obtain ⟨za_a, za_b, la3⟩ := rcell f_a3
    obtain ⟨zb_a, zb_b, lb3⟩ := rcell f_b3
    obtain ⟨zo_a, zo_b, lo3⟩ := rcell f_o3
    obtain ⟨zp_a, zp_b, lp3⟩ := rcell f_p3
    go_wp2_with fail
    rw [row2 f_o3]
    generalize hT4 : setRow _ _ _ = w4
    obtain ⟨hx4, f_o4⟩ := fin_x (b0 _) f_o3 hT4
    clear hT4
    have f_a4 := kx hx4 (f_a3) (by omega)
    have f_b4 := kx hx4 (f_b3) (by omega)
    have f_p4 := kx hx4 (f_p3) (by omega)
    have rd_a4 := rd_a3.exc hx4 (f_o3) (by decide)
    have rd_b4 := rd_b3.exc hx4 (f_o3) (by decide)
    have rd_q4 := rd_q3.exc hx4 (f_o3) (by decide)
    have rd_t4 := rd_t3.exc hx4 (f_o3) (by decide)
    have hB4 := bX hB3 hx4 (by omega)
    clear za_a za_b zb_a zb_b zo_a zo_b zp_a zp_b
    obtain ⟨za_a, za_b, la4⟩ := rcell f_a4
    obtain ⟨zb_a, zb_b, lb4⟩ := rcell f_b4
    obtain ⟨zp_a, zp_b, lp4⟩ := rcell f_p4
    obtain ⟨zo_a, zo_b, lo4⟩ := rcell f_o4
    rw [row2 f_p4]
    generalize hT5 : setRow _ _ _ = w5
    obtain ⟨hx5, f_p5⟩ := fin_x (b0 _) f_p4 hT5
    clear hT5
    have f_a5 := kx hx5 (f_a4) (by omega)
    have f_b5 := kx hx5 (f_b4) (by omega)
    have f_o5 := kx hx5 (f_o4) (by omega)
    have rd_a5 := rd_a4.exc hx5 (f_p4) (by decide)
    have rd_b5 := rd_b4.exc hx5 (f_p4) (by decide)
    have rd_q5 := rd_q4.exc hx5 (f_p4) (by decide)
    have rd_t5 := rd_t4.exc hx5 (f_p4) (by decide)
    have hB5 := bX hB4 hx5 (by omega)
    clear za_a za_b zb_a zb_b zo_a zo_b zp_a zp_b
    obtain ⟨za_a, za_b, la5⟩ := rcell f_a5
    obtain ⟨zb_a, zb_b, lb5⟩ := rcell f_b5
    obtain ⟨zo_a, zo_b, lo5⟩ := rcell f_o5
    obtain ⟨zp_a, zp_b, lp5⟩ := rcell f_p5
    refine bodyPost_ret (by simp [results, Tryz.results81, go_sem, zo_a, zp_a]; try rfl) rfl ⟨A1, d1, A2, d2, by simp, hB5, rd_q5, rd_t5⟩
end Go.Proofs.YtmpfbkeamihjbaaGreat

namespace Go.Proofs.YtmpfbkeamihjbaaGreat
open Go.RowKit

theorem ref_Back0 (v : Int) (w : World) : Calls Tryz.prog 59 #[.int .i64 v] w fun e w' => e = .returned (.bool (bkB v)) ∧ w = w' := by
  by_cases h1 : -2305844108725321728 ≤ v
  · by_cases h2 : v ≤ 2305844108725321728
    · have hb : bkB v = true := decide_eq_true ⟨h1, h2⟩
      rw [hb]
      clear hb
      go_enter Tryz.func59, Tryz.ntmps59
      go_wp2
      go_ret
      exact ⟨rfl, rfl⟩
    · have hb : bkB v = false := decide_eq_false (fun h => h2 h.2)
      rw [hb]
      clear hb
      go_enter Tryz.func59, Tryz.ntmps59
      go_wp2
      go_ret
      exact ⟨rfl, rfl⟩
  · have hb : bkB v = false := decide_eq_false (fun h => h1 h.1)
    rw [hb]
    clear hb
    go_enter Tryz.func59, Tryz.ntmps59
    go_wp2
    go_ret
    exact ⟨rfl, rfl⟩

set_option maxHeartbeats 1000000 in

theorem ref_Back (v : Int) (w : World) : Calls Tryz.prog 59 #[.int .i64 v] w fun e w' => e = .returned (.bool (bkB v)) ∧ Below w.heap.size w w' :=
  (ref_Back0 v w).mono fun e w' ⟨h1, h2⟩ => ⟨h1, h2 ▸ Below.refl _ _⟩
/-- a value is two numbers -/
def Num2Is (x y : Int) (v : Value) (w : World) : Prop := ∃ A c B d, v = .tuple #[.agg #[.bool (decide (x < 0)), .slice A (sz x.natAbs).length c], .agg #[.bool (decide (y < 0)), .slice B (sz y.natAbs).length d]] ∧ Rd w A c (sz x.natAbs) ∧ Rd w B d (sz y.natAbs)
theorem Num2Is.rds {x y : Int} {A B : Option Addr} {b b' : Bool} {m c n d : Nat} {w : World} (h : Num2Is x y (.tuple #[.agg #[.bool b, .slice A m c], .agg #[.bool b', .slice B n d]]) w) : Rd w A c (sz x.natAbs) ∧ Rd w B d (sz y.natAbs) := by
  obtain ⟨A', c', B', d', e, hr, hs⟩ := h
  simp at e
  obtain ⟨⟨_, rfl, _, rfl⟩, _, rfl, _, rfl⟩ := e
  exact ⟨hr, hs⟩
theorem Cl_Num2Is (x y : Int) {v : Value} : Abs.Cl (fun _ => False) (Num2Is x y v) := by
  intro w w' ⟨A, c, B, d, e, hr, hs⟩ h
  have key : ∀ {A : Option Addr} {c : Nat} {l : List Nat}, Rd w A c l → Rd w' A c l := fun {A c l} hr => by
    refine ⟨hr.cap, fun hl => ?_⟩
    obtain ⟨g, cur, e1, hg, hc⟩ := hr.mem hl
    exact ⟨g, cur, e1, (h.block g (Array.getElem?_eq_some_iff.1 hg).1 (fun hf => hf)).trans hg, hc⟩
  exact ⟨A, c, B, d, e, key hr, key hs⟩
theorem GivesNum2.num2 {x y : Int} {w w' : World} {e : Ending} (h : GivesNum2 x y w e w') : ∃ v, e = .returned v ∧ Below w.heap.size w w' ∧ Num2Is x y v w' := by
  obtain ⟨A, c, B, d, he, hb, hr, hs⟩ := h
  exact ⟨_, he, hb, A, c, B, d, rfl, hr, hs⟩

end Go.Proofs.YtmpfbkeamihjbaaGreat

namespace Go.Proofs.YtmpfbkeamihjbaaGreat
open Go.RowKit

theorem times_bd (A R N D dt : Int) (a1 : -9223372036854775808 ≤ A) (a2 : A < 9223372036854775808) (r1 : -9223372036854775808 ≤ R) (r2 : R < 9223372036854775808) (n1 : -9223372036854775808 ≤ N) (n2 : N < 9223372036854775808) (d1 : -9223372036854775808 ≤ D) (d2 : D < 9223372036854775808) (t1 : -9223372036854775808 ≤ dt) (t2 : dt < 9223372036854775808) : (N * dt + R + A * D).natAbs < 2 ^ 129 := by
  have m1 := mul_bound N dt n1 n2 t1 t2
  have m2 := mul_bound A D a1 a2 d1 d2
  have e : (2 : Nat) ^ 129 = 680564733841876926926749214863536422912 := by decide
  rw [e]
  omega

set_option maxRecDepth 100000 in
set_option maxHeartbeats 2000000 in
theorem ref_Times (A R N D dt : Int) (a1 : -9223372036854775808 ≤ A) (a2 : A < 9223372036854775808) (r1 : -9223372036854775808 ≤ R) (r2 : R < 9223372036854775808) (n1 : -9223372036854775808 ≤ N) (n2 : N < 9223372036854775808) (d1 : -9223372036854775808 ≤ D) (d2 : D < 9223372036854775808) (t1 : -9223372036854775808 ≤ dt) (t2 : dt < 9223372036854775808) (w : World) :
    Calls Tryz.prog 82 #[.agg #[.int .i64 A, .int .i64 R, .int .i64 N, .int .i64 D], .int .i64 dt] w (GivesNum (N * dt + R + A * D) w) := by
  have q1 : N.natAbs * dt.natAbs < 2 ^ 127 := by
    have := Nat.mul_le_mul (show N.natAbs ≤ 9223372036854775808 by omega) (show dt.natAbs ≤ 9223372036854775808 by omega)
    exact Nat.lt_of_le_of_lt this (by decide)
  have q2 : A.natAbs * D.natAbs < 2 ^ 127 := by
    have := Nat.mul_le_mul (show A.natAbs ≤ 9223372036854775808 by omega) (show D.natAbs ≤ 9223372036854775808 by omega)
    exact Nat.lt_of_le_of_lt this (by decide)
  have e126 : (2 : Nat) ^ 127 = 170141183460469231731687303715884105728 := by decide
  have k1 : (N * dt).natAbs < 2 ^ 127 := by rw [Int.natAbs_mul]; exact q1
  have k2 : (A * D).natAbs < 2 ^ 127 := by rw [Int.natAbs_mul]; exact q2
  have s1 : (N * dt).natAbs + R.natAbs < 2 ^ 200 := Nat.lt_of_lt_of_le (show (N * dt).natAbs + R.natAbs < 2 ^ 127 + 9223372036854775809 by omega) (by decide)
  have s2 : (N * dt + R).natAbs + (A * D).natAbs < 2 ^ 200 := Nat.lt_of_lt_of_le (show (N * dt + R).natAbs + (A * D).natAbs < 2 ^ 127 + 9223372036854775809 + 2 ^ 127 by omega) (by decide)
  have cN := ref_Int N n1 n2
  have cT := ref_Int dt t1 t2
  have cR := ref_Int R r1 r2
  have cA := ref_Int A a1 a2
  have cD := ref_Int D d1 d2
  have m1 := fun A B c d w ha hb => ref_Mul N dt 127 A B c d (by decide) q1 (Nat.le_trans (sz_i64 (x := N) (by omega) (by omega)) (by decide)) (Nat.le_trans (sz_i64 (x := dt) (by omega) (by omega)) (by decide)) w ha hb
  have m2 := fun X B c d w ha hb => ref_Mul A D 127 X B c d (by decide) q2 (Nat.le_trans (sz_i64 (x := A) (by omega) (by omega)) (by decide)) (Nat.le_trans (sz_i64 (x := D) (by omega) (by omega)) (by decide)) w ha hb
  have p1 := fun A B c d w ha hb => ref_Add (N * dt) R 200 A B c d (by decide) s1 w ha hb
  have p2 := fun X B c d w ha hb => ref_Add (N * dt + R) (A * D) 200 X B c d (by decide) s2 w ha hb
  clear q1 q2 e126 k1 k2 s1 s2 a1 a2 r1 r2 n1 n2 d1 d2 t1 t2
  generalize N * dt + R + A * D = z at *
  generalize N * dt + R = y at *
  generalize N * dt = x at *
  generalize A * D = v at *
  go_enter Tryz.func82, Tryz.ntmps82
  go_wp2_with fail
  have f_l1 := (ka (na w #[.int .i64 A, .int .i64 R, .int .i64 N, .int .i64 D] 24) (.cells #[.bool false, .slice none 0 0] 127))
  have f_o1 := (na1 w (.cells #[.int .i64 A, .int .i64 R, .int .i64 N, .int .i64 D] 24) #[.bool false, .slice none 0 0] 127)
  have hB1 := (bA (bA (b0 w) (.cells #[.int .i64 A, .int .i64 R, .int .i64 N, .int .i64 D] 24)) (.cells #[.bool false, .slice none 0 0] 127))
  have ll1 := (rcell f_l1).2.2
  have lo1 := (rcell f_o1).2.2
  refine Abs.wp_region_abs (Abs.cls0 _) [0, 1, 2, 3, 4, 5, 6, 7, 8, 9, 10, 11] (by kernel_rfl) (by kernel_rfl) (Below.refl _ _).drew ?_
  repeat (first | (refine Abs.step_pure rfl rfl (fun K hK => ?_); go_simp; (try go_bits); (first | refine hK _ _ ?_ | (simp only [↓IntWalk.iteOmega]; go_simp; (try go_bits); refine hK _ _ ?_)); clear hK K) | (refine Abs.step_load (v := ?_) rfl rfl (by kernel_rfl) rfl (fun w0 hI => ?_) (fun K hK => ?_); rotate_left; (· have z0 := (rcell (kp hI (f_l1))).1; go_simp; rfl); (simp only [Act.put, List.setIfInBounds_toArray, List.set_cons_zero, List.set_cons_succ]; refine hK _ _ ?_; clear hK K)) | (refine Abs.step_skip rfl rfl (fun K hK => ?_); (simp only [Act.put, List.setIfInBounds_toArray, List.set_cons_zero, List.set_cons_succ]; refine hK _ _ ?_; clear hK K)))
  (refine Abs.step_call (f := ?_) (args := ?_) rfl rfl rfl rfl (NumIs (N)) (fun _ => Cl_NumIs _) (fun w0 => ?_) (fun w0 hI hF => ?_) (fun K hK v w0 hv => ?_); rotate_left 2; (· go_simp; (constructor <;> rfl)); (· exact (cN _).mono (fun _ _ h => h.num)); (obtain ⟨A1, e1, rfl, -⟩ := hv; clear w0; simp only [Act.put, List.setIfInBounds_toArray, List.set_cons_zero, List.set_cons_succ]; refine hK _ _ ?_; clear hK K))
  repeat (first | (refine Abs.step_pure rfl rfl (fun K hK => ?_); go_simp; (try go_bits); (first | refine hK _ _ ?_ | (simp only [↓IntWalk.iteOmega]; go_simp; (try go_bits); refine hK _ _ ?_)); clear hK K) | (refine Abs.step_load (v := ?_) rfl rfl (by kernel_rfl) rfl (fun w0 hI => ?_) (fun K hK => ?_); rotate_left; (· have z0 := (rcell (kp hI (f_l1))).1; go_simp; rfl); (simp only [Act.put, List.setIfInBounds_toArray, List.set_cons_zero, List.set_cons_succ]; refine hK _ _ ?_; clear hK K)) | (refine Abs.step_skip rfl rfl (fun K hK => ?_); (simp only [Act.put, List.setIfInBounds_toArray, List.set_cons_zero, List.set_cons_succ]; refine hK _ _ ?_; clear hK K)))
  (refine Abs.step_call (f := ?_) (args := ?_) rfl rfl rfl rfl (NumIs (dt)) (fun _ => Cl_NumIs _) (fun w0 => ?_) (fun w0 hI hF => ?_) (fun K hK v w0 hv => ?_); rotate_left 2; (· go_simp; (constructor <;> rfl)); (· exact (cT _).mono (fun _ _ h => h.num)); (obtain ⟨A2, e2, rfl, -⟩ := hv; clear w0; simp only [Act.put, List.setIfInBounds_toArray, List.set_cons_zero, List.set_cons_succ]; refine hK _ _ ?_; clear hK K))
  repeat (first | (refine Abs.step_pure rfl rfl (fun K hK => ?_); go_simp; (try go_bits); (first | refine hK _ _ ?_ | (simp only [↓IntWalk.iteOmega]; go_simp; (try go_bits); refine hK _ _ ?_)); clear hK K) | (refine Abs.step_load (v := ?_) rfl rfl (by kernel_rfl) rfl (fun w0 hI => ?_) (fun K hK => ?_); rotate_left; (· have z0 := (rcell (kp hI (f_l1))).1; go_simp; rfl); (simp only [Act.put, List.setIfInBounds_toArray, List.set_cons_zero, List.set_cons_succ]; refine hK _ _ ?_; clear hK K)) | (refine Abs.step_skip rfl rfl (fun K hK => ?_); (simp only [Act.put, List.setIfInBounds_toArray, List.set_cons_zero, List.set_cons_succ]; refine hK _ _ ?_; clear hK K)))
  (refine Abs.step_call (f := ?_) (args := ?_) rfl rfl rfl rfl (NumIs (x)) (fun _ => Cl_NumIs _) (fun w0 => ?_) (fun w0 hI hF => ?_) (fun K hK v w0 hv => ?_); rotate_left 2; (· go_simp; (constructor <;> rfl)); (· exact (m1 _ _ _ _ _ (((hF 2 (by kernel_rfl)).1).2 rfl).rd ((hF 4 (by kernel_rfl)).2 rfl).rd).mono (fun _ _ h => h.num)); (obtain ⟨A3, e3, rfl, -⟩ := hv; clear w0; simp only [Act.put, List.setIfInBounds_toArray, List.set_cons_zero, List.set_cons_succ]; refine hK _ _ ?_; clear hK K))
  repeat (first | (refine Abs.step_pure rfl rfl (fun K hK => ?_); go_simp; (try go_bits); (first | refine hK _ _ ?_ | (simp only [↓IntWalk.iteOmega]; go_simp; (try go_bits); refine hK _ _ ?_)); clear hK K) | (refine Abs.step_load (v := ?_) rfl rfl (by kernel_rfl) rfl (fun w0 hI => ?_) (fun K hK => ?_); rotate_left; (· have z0 := (rcell (kp hI (f_l1))).1; go_simp; rfl); (simp only [Act.put, List.setIfInBounds_toArray, List.set_cons_zero, List.set_cons_succ]; refine hK _ _ ?_; clear hK K)) | (refine Abs.step_skip rfl rfl (fun K hK => ?_); (simp only [Act.put, List.setIfInBounds_toArray, List.set_cons_zero, List.set_cons_succ]; refine hK _ _ ?_; clear hK K)))
  (refine Abs.step_call (f := ?_) (args := ?_) rfl rfl rfl rfl (NumIs (R)) (fun _ => Cl_NumIs _) (fun w0 => ?_) (fun w0 hI hF => ?_) (fun K hK v w0 hv => ?_); rotate_left 2; (· go_simp; (constructor <;> rfl)); (· exact (cR _).mono (fun _ _ h => h.num)); (obtain ⟨A4, e4, rfl, -⟩ := hv; clear w0; simp only [Act.put, List.setIfInBounds_toArray, List.set_cons_zero, List.set_cons_succ]; refine hK _ _ ?_; clear hK K))
  repeat (first | (refine Abs.step_pure rfl rfl (fun K hK => ?_); go_simp; (try go_bits); (first | refine hK _ _ ?_ | (simp only [↓IntWalk.iteOmega]; go_simp; (try go_bits); refine hK _ _ ?_)); clear hK K) | (refine Abs.step_load (v := ?_) rfl rfl (by kernel_rfl) rfl (fun w0 hI => ?_) (fun K hK => ?_); rotate_left; (· have z0 := (rcell (kp hI (f_l1))).1; go_simp; rfl); (simp only [Act.put, List.setIfInBounds_toArray, List.set_cons_zero, List.set_cons_succ]; refine hK _ _ ?_; clear hK K)) | (refine Abs.step_skip rfl rfl (fun K hK => ?_); (simp only [Act.put, List.setIfInBounds_toArray, List.set_cons_zero, List.set_cons_succ]; refine hK _ _ ?_; clear hK K)))
  (refine Abs.step_call (f := ?_) (args := ?_) rfl rfl rfl rfl (NumIs (y)) (fun _ => Cl_NumIs _) (fun w0 => ?_) (fun w0 hI hF => ?_) (fun K hK v w0 hv => ?_); rotate_left 2; (· go_simp; (constructor <;> rfl)); (· exact (p1 _ _ _ _ _ (((hF 5 (by kernel_rfl)).1).2 rfl).rd ((hF 8 (by kernel_rfl)).2 rfl).rd).mono (fun _ _ h => h.num)); (obtain ⟨A5, e5, rfl, -⟩ := hv; clear w0; simp only [Act.put, List.setIfInBounds_toArray, List.set_cons_zero, List.set_cons_succ]; refine hK _ _ ?_; clear hK K))
  repeat (first | (refine Abs.step_pure rfl rfl (fun K hK => ?_); go_simp; (try go_bits); (first | refine hK _ _ ?_ | (simp only [↓IntWalk.iteOmega]; go_simp; (try go_bits); refine hK _ _ ?_)); clear hK K) | (refine Abs.step_load (v := ?_) rfl rfl (by kernel_rfl) rfl (fun w0 hI => ?_) (fun K hK => ?_); rotate_left; (· have z0 := (rcell (kp hI (f_l1))).1; go_simp; rfl); (simp only [Act.put, List.setIfInBounds_toArray, List.set_cons_zero, List.set_cons_succ]; refine hK _ _ ?_; clear hK K)) | (refine Abs.step_skip rfl rfl (fun K hK => ?_); (simp only [Act.put, List.setIfInBounds_toArray, List.set_cons_zero, List.set_cons_succ]; refine hK _ _ ?_; clear hK K)))
  (refine Abs.step_var (obj := ?_) rfl rfl rfl rfl (fun w0 => ?_) (fun K hK g_u hv_u hu_u => ?_); rotate_left; (· go_simp; rfl); (simp only [Act.put, List.setIfInBounds_toArray, List.set_cons_zero, List.set_cons_succ]; refine hK _ _ ?_; clear hK K))
  (refine Abs.step_store (T := ?_) rfl rfl rfl (fun w0 hI hF hU => ?_) (fun _ _ _ _ => trivial) (fun K hK => ?_); rotate_left; (· have hR := (hF 10).2 rfl; have hg0 := (rcell hR).1; have hg1 := (rcell hR).2.1; simp only [Abs.T_setF, Abs.T_addA, Abs.T_push, Abs.T_start]; go_simp; exact row2 hR _ _); (simp only [Act.put, List.setIfInBounds_toArray, List.set_cons_zero, List.set_cons_succ]; refine hK _ _ ?_; clear hK K))
  have hs_u := leB hv_u
  try simp only [World.size_alloc] at hs_u
  intro w0 hI hF hx1 hx2
  clear hx1 hx2
  have q1 := (hF 10).2 rfl
  have rn_u := ((hF 9).1.2 rfl).rd
  clear hF
  simp only [Abs.T_push]
  generalize hT2 : setRow w0 _ _ = w2
  have ea := (fin_x (b0 _) q1 hT2).1
  replace rn_u := rn_u.exc ea q1 (by decide)
  obtain ⟨hb2, f_u2⟩ := fin1 hI hv_u q1 hT2
  clear hT2 hI ea q1 w0
  have f_l2 := kp hb2 (f_l1)
  have f_o2 := kp hb2 (f_o1)
  have hB2 := bB hB1 hb2
  obtain ⟨zl_a, zl_b, ll2⟩ := rcell f_l2
  obtain ⟨zo_a, zo_b, lo2⟩ := rcell f_o2
  obtain ⟨zu_a, zu_b, lu2⟩ := rcell f_u2
  go_wp2_with fail
  refine Abs.wp_region_abs (Abs.cls0 _) [0, 1, 2, 3, 4, 5, 6, 7, 8, 9] (by kernel_rfl) (by kernel_rfl) (Below.refl _ _).drew ?_
  repeat (first | (refine Abs.step_pure rfl rfl (fun K hK => ?_); go_simp; (try go_bits); (first | refine hK _ _ ?_ | (simp only [↓IntWalk.iteOmega]; go_simp; (try go_bits); refine hK _ _ ?_)); clear hK K) | (refine Abs.step_load (v := ?_) rfl rfl (by kernel_rfl) rfl (fun w0 hI => ?_) (fun K hK => ?_); rotate_left; (· have z0 := (rcell (kp hI (f_l2))).1; have z1 := (rcell (kp hI (f_u2))).1; go_simp; rfl); (simp only [Act.put, List.setIfInBounds_toArray, List.set_cons_zero, List.set_cons_succ]; refine hK _ _ ?_; clear hK K)) | (refine Abs.step_skip rfl rfl (fun K hK => ?_); (simp only [Act.put, List.setIfInBounds_toArray, List.set_cons_zero, List.set_cons_succ]; refine hK _ _ ?_; clear hK K)))
  (refine Abs.step_call (f := ?_) (args := ?_) rfl rfl rfl rfl (NumIs (A)) (fun _ => Cl_NumIs _) (fun w0 => ?_) (fun w0 hI hF => ?_) (fun K hK v w0 hv => ?_); rotate_left 2; (· go_simp; (constructor <;> rfl)); (· exact (cA _).mono (fun _ _ h => h.num)); (obtain ⟨B1, g1, rfl, -⟩ := hv; clear w0; simp only [Act.put, List.setIfInBounds_toArray, List.set_cons_zero, List.set_cons_succ]; refine hK _ _ ?_; clear hK K))
  repeat (first | (refine Abs.step_pure rfl rfl (fun K hK => ?_); go_simp; (try go_bits); (first | refine hK _ _ ?_ | (simp only [↓IntWalk.iteOmega]; go_simp; (try go_bits); refine hK _ _ ?_)); clear hK K) | (refine Abs.step_load (v := ?_) rfl rfl (by kernel_rfl) rfl (fun w0 hI => ?_) (fun K hK => ?_); rotate_left; (· have z0 := (rcell (kp hI (f_l2))).1; have z1 := (rcell (kp hI (f_u2))).1; go_simp; rfl); (simp only [Act.put, List.setIfInBounds_toArray, List.set_cons_zero, List.set_cons_succ]; refine hK _ _ ?_; clear hK K)) | (refine Abs.step_skip rfl rfl (fun K hK => ?_); (simp only [Act.put, List.setIfInBounds_toArray, List.set_cons_zero, List.set_cons_succ]; refine hK _ _ ?_; clear hK K)))
  (refine Abs.step_call (f := ?_) (args := ?_) rfl rfl rfl rfl (NumIs (D)) (fun _ => Cl_NumIs _) (fun w0 => ?_) (fun w0 hI hF => ?_) (fun K hK v w0 hv => ?_); rotate_left 2; (· go_simp; (constructor <;> rfl)); (· exact (cD _).mono (fun _ _ h => h.num)); (obtain ⟨B2, g2, rfl, -⟩ := hv; clear w0; simp only [Act.put, List.setIfInBounds_toArray, List.set_cons_zero, List.set_cons_succ]; refine hK _ _ ?_; clear hK K))
  repeat (first | (refine Abs.step_pure rfl rfl (fun K hK => ?_); go_simp; (try go_bits); (first | refine hK _ _ ?_ | (simp only [↓IntWalk.iteOmega]; go_simp; (try go_bits); refine hK _ _ ?_)); clear hK K) | (refine Abs.step_load (v := ?_) rfl rfl (by kernel_rfl) rfl (fun w0 hI => ?_) (fun K hK => ?_); rotate_left; (· have z0 := (rcell (kp hI (f_l2))).1; have z1 := (rcell (kp hI (f_u2))).1; go_simp; rfl); (simp only [Act.put, List.setIfInBounds_toArray, List.set_cons_zero, List.set_cons_succ]; refine hK _ _ ?_; clear hK K)) | (refine Abs.step_skip rfl rfl (fun K hK => ?_); (simp only [Act.put, List.setIfInBounds_toArray, List.set_cons_zero, List.set_cons_succ]; refine hK _ _ ?_; clear hK K)))
  (refine Abs.step_call (f := ?_) (args := ?_) rfl rfl rfl rfl (NumIs (v)) (fun _ => Cl_NumIs _) (fun w0 => ?_) (fun w0 hI hF => ?_) (fun K hK v w0 hv => ?_); rotate_left 2; (· go_simp; (constructor <;> rfl)); (· exact (m2 _ _ _ _ _ (((hF 3 (by kernel_rfl)).1).2 rfl).rd ((hF 6 (by kernel_rfl)).2 rfl).rd).mono (fun _ _ h => h.num)); (obtain ⟨B3, g3, rfl, -⟩ := hv; clear w0; simp only [Act.put, List.setIfInBounds_toArray, List.set_cons_zero, List.set_cons_succ]; refine hK _ _ ?_; clear hK K))
  repeat (first | (refine Abs.step_pure rfl rfl (fun K hK => ?_); go_simp; (try go_bits); (first | refine hK _ _ ?_ | (simp only [↓IntWalk.iteOmega]; go_simp; (try go_bits); refine hK _ _ ?_)); clear hK K) | (refine Abs.step_load (v := ?_) rfl rfl (by kernel_rfl) rfl (fun w0 hI => ?_) (fun K hK => ?_); rotate_left; (· have z0 := (rcell (kp hI (f_l2))).1; have z1 := (rcell (kp hI (f_u2))).1; go_simp; rfl); (simp only [Act.put, List.setIfInBounds_toArray, List.set_cons_zero, List.set_cons_succ]; refine hK _ _ ?_; clear hK K)) | (refine Abs.step_skip rfl rfl (fun K hK => ?_); (simp only [Act.put, List.setIfInBounds_toArray, List.set_cons_zero, List.set_cons_succ]; refine hK _ _ ?_; clear hK K)))
  (refine Abs.step_call (f := ?_) (args := ?_) rfl rfl rfl rfl (NumIs (z)) (fun _ => Cl_NumIs _) (fun w0 => ?_) (fun w0 hI hF => ?_) (fun K hK v w0 hv => ?_); rotate_left 2; (· go_simp; (constructor <;> rfl)); (· exact (p2 _ _ _ _ _ (rn_u.below hI) ((hF 7 (by kernel_rfl)).2 rfl).rd).mono (fun _ _ h => h.num)); (obtain ⟨B4, g4, rfl, -⟩ := hv; clear w0; simp only [Act.put, List.setIfInBounds_toArray, List.set_cons_zero, List.set_cons_succ]; refine hK _ _ ?_; clear hK K))
  repeat (first | (refine Abs.step_pure rfl rfl (fun K hK => ?_); go_simp; (try go_bits); (first | refine hK _ _ ?_ | (simp only [↓IntWalk.iteOmega]; go_simp; (try go_bits); refine hK _ _ ?_)); clear hK K) | (refine Abs.step_load (v := ?_) rfl rfl (by kernel_rfl) rfl (fun w0 hI => ?_) (fun K hK => ?_); rotate_left; (· have z0 := (rcell (kp hI (f_l2))).1; have z1 := (rcell (kp hI (f_u2))).1; go_simp; rfl); (simp only [Act.put, List.setIfInBounds_toArray, List.set_cons_zero, List.set_cons_succ]; refine hK _ _ ?_; clear hK K)) | (refine Abs.step_skip rfl rfl (fun K hK => ?_); (simp only [Act.put, List.setIfInBounds_toArray, List.set_cons_zero, List.set_cons_succ]; refine hK _ _ ?_; clear hK K)))
  (refine Abs.step_store (T := ?_) rfl rfl rfl (fun w0 hI hF hU => ?_) (fun w0 hI hU hJ => ?_) (fun K hK => ?_); rotate_left; (· have hR := kp hI (f_o2); have hg0 := (rcell hR).1; have hg1 := (rcell hR).2.1; simp only [Abs.T_setF, Abs.T_addA, Abs.T_push, Abs.T_start]; go_simp; exact row2 hR _ _); (· first | exact trivial | exact js hJ rfl _ | exact js hJ (Or.inl rfl) _ | exact js hJ (Or.inr rfl) _); (simp only [Act.put, List.setIfInBounds_toArray, List.set_cons_zero, List.set_cons_succ]; refine hK _ _ ?_; clear hK K))
  repeat (first | (refine Abs.step_pure rfl rfl (fun K hK => ?_); go_simp; (try go_bits); (first | refine hK _ _ ?_ | (simp only [↓IntWalk.iteOmega]; go_simp; (try go_bits); refine hK _ _ ?_)); clear hK K) | (refine Abs.step_load (v := ?_) rfl rfl (by kernel_rfl) rfl (fun w0 hI => ?_) (fun K hK => ?_); rotate_left; (· have z0 := (rcell (kp hI (f_l2))).1; have z1 := (rcell (kp hI (f_u2))).1; go_simp; rfl); (simp only [Act.put, List.setIfInBounds_toArray, List.set_cons_zero, List.set_cons_succ]; refine hK _ _ ?_; clear hK K)) | (refine Abs.step_skip rfl rfl (fun K hK => ?_); (simp only [Act.put, List.setIfInBounds_toArray, List.set_cons_zero, List.set_cons_succ]; refine hK _ _ ?_; clear hK K)))
  intro w0 hI hF hx1 hx2
  clear hx1 hx2
  simp only [Abs.T_push]
  have rn_s := (((hF 8).2 rfl)).rd
  clear hF
  have hQ := kp hI (f_o2)
  generalize hT4 : setRow w0 _ _ = w4
  have hy := (fin_x (b0 _) hQ hT4).1
  replace rn_s := rn_s.exc hy hQ (by decide)
  obtain ⟨hx4, f_o4⟩ := fin_x hI (f_o2) hT4
  clear hT4 hQ hy hI w0
  have f_l4 := kx hx4 (f_l2) (by omega)
  have f_u4 := kx hx4 (f_u2) (by omega)
  have rd_u4 := rn_u.exc hx4 (f_o2) (by decide)
  have hB4 := bX hB2 hx4 (by omega)
  clear zl_a zl_b zo_a zo_b zu_a zu_b
  obtain ⟨zl_a, zl_b, ll4⟩ := rcell f_l4
  obtain ⟨zu_a, zu_b, lu4⟩ := rcell f_u4
  obtain ⟨zo_a, zo_b, lo4⟩ := rcell f_o4
  go_wp2
  refine bodyPost_ret (by simp [results, Tryz.results82, go_sem, zo_a]; try rfl) rfl ⟨B4, g4, rfl, hB4, rn_s⟩

set_option maxRecDepth 100000 in
set_option maxHeartbeats 2000000 in
theorem at_big (A R N D dt x q r : Int) (c1 : ∀ w, Calls Tryz.prog 82 #[.agg #[.int .i64 A, .int .i64 R, .int .i64 N, .int .i64 D], .int .i64 dt] w (GivesNum x w)) (c2 : ∀ w, Calls Tryz.prog 83 #[.int .i64 D] w (GivesNum D w)) (c3 : ∀ A B c d w, Rd w A c (sz x.natAbs) → Rd w B d (sz D.natAbs) → Calls Tryz.prog 81 #[.agg #[.bool (decide (x < 0)), .slice A (sz x.natAbs).length c], .agg #[.bool (decide (D < 0)), .slice B (sz D.natAbs).length d]] w (GivesNum2 q r w)) (c4 : ∀ A c w, Rd w A c (sz q.natAbs) → Calls Tryz.prog 84 #[.agg #[.bool (decide (q < 0)), .slice A (sz q.natAbs).length c]] w fun e w' => e = .returned (.tuple #[.int .i64 0, .bool false]) ∧ Below w.heap.size w w')  (w : World) :
    Calls Tryz.prog 62 #[.agg #[.int .i64 A, .int .i64 R, .int .i64 N, .int .i64 D], .int .i64 dt] w fun e w' => e = .returned (.tuple #[.int .i64 0, .bool false]) ∧ Below w.heap.size w w' := by
  go_enter Tryz.func62, Tryz.ntmps62
  go_wp2_with fail
  have f_l1 := (na w #[.int .i64 A, .int .i64 R, .int .i64 N, .int .i64 D] 24)
  have hB1 := (bA (b0 w) (.cells #[.int .i64 A, .int .i64 R, .int .i64 N, .int .i64 D] 24))
  have ll1 := (rcell f_l1).2.2
  refine Abs.wp_region_abs (Abs.cls0 _) [0, 1, 2, 3, 4, 5, 6, 7, 8, 9, 10, 11, 12, 13] (by kernel_rfl) (by kernel_rfl) (Below.refl _ _).drew ?_
  repeat (first | (refine Abs.step_pure rfl rfl (fun K hK => ?_); go_simp; (try go_bits); (first | refine hK _ _ ?_ | (simp only [↓IntWalk.iteOmega]; go_simp; (try go_bits); refine hK _ _ ?_)); clear hK K) | (refine Abs.step_load (v := ?_) rfl rfl (by kernel_rfl) rfl (fun w0 hI => ?_) (fun K hK => ?_); rotate_left; (· have z0 := (rcell (kp hI (f_l1))).1; go_simp; rfl); (simp only [Act.put, List.setIfInBounds_toArray, List.set_cons_zero, List.set_cons_succ]; refine hK _ _ ?_; clear hK K)) | (refine Abs.step_skip rfl rfl (fun K hK => ?_); (simp only [Act.put, List.setIfInBounds_toArray, List.set_cons_zero, List.set_cons_succ]; refine hK _ _ ?_; clear hK K)))
  (refine Abs.step_call (f := ?_) (args := ?_) rfl rfl rfl rfl (NumIs (x)) (fun _ => Cl_NumIs _) (fun w0 => ?_) (fun w0 hI hF => ?_) (fun K hK v w0 hv => ?_); rotate_left 2; (· go_simp; (constructor <;> rfl)); (· exact (c1 _).mono (fun _ _ h => h.num)); (obtain ⟨A1, e1, rfl, -⟩ := hv; clear w0; simp only [Act.put, List.setIfInBounds_toArray, List.set_cons_zero, List.set_cons_succ]; refine hK _ _ ?_; clear hK K))
  repeat (first | (refine Abs.step_pure rfl rfl (fun K hK => ?_); go_simp; (try go_bits); (first | refine hK _ _ ?_ | (simp only [↓IntWalk.iteOmega]; go_simp; (try go_bits); refine hK _ _ ?_)); clear hK K) | (refine Abs.step_load (v := ?_) rfl rfl (by kernel_rfl) rfl (fun w0 hI => ?_) (fun K hK => ?_); rotate_left; (· have z0 := (rcell (kp hI (f_l1))).1; go_simp; rfl); (simp only [Act.put, List.setIfInBounds_toArray, List.set_cons_zero, List.set_cons_succ]; refine hK _ _ ?_; clear hK K)) | (refine Abs.step_skip rfl rfl (fun K hK => ?_); (simp only [Act.put, List.setIfInBounds_toArray, List.set_cons_zero, List.set_cons_succ]; refine hK _ _ ?_; clear hK K)))
  (refine Abs.step_call (f := ?_) (args := ?_) rfl rfl rfl rfl (NumIs (D)) (fun _ => Cl_NumIs _) (fun w0 => ?_) (fun w0 hI hF => ?_) (fun K hK v w0 hv => ?_); rotate_left 2; (· go_simp; (constructor <;> rfl)); (· exact (c2 _).mono (fun _ _ h => h.num)); (obtain ⟨A2, e2, rfl, -⟩ := hv; clear w0; simp only [Act.put, List.setIfInBounds_toArray, List.set_cons_zero, List.set_cons_succ]; refine hK _ _ ?_; clear hK K))
  repeat (first | (refine Abs.step_pure rfl rfl (fun K hK => ?_); go_simp; (try go_bits); (first | refine hK _ _ ?_ | (simp only [↓IntWalk.iteOmega]; go_simp; (try go_bits); refine hK _ _ ?_)); clear hK K) | (refine Abs.step_load (v := ?_) rfl rfl (by kernel_rfl) rfl (fun w0 hI => ?_) (fun K hK => ?_); rotate_left; (· have z0 := (rcell (kp hI (f_l1))).1; go_simp; rfl); (simp only [Act.put, List.setIfInBounds_toArray, List.set_cons_zero, List.set_cons_succ]; refine hK _ _ ?_; clear hK K)) | (refine Abs.step_skip rfl rfl (fun K hK => ?_); (simp only [Act.put, List.setIfInBounds_toArray, List.set_cons_zero, List.set_cons_succ]; refine hK _ _ ?_; clear hK K)))
  (refine Abs.step_call (f := ?_) (args := ?_) rfl rfl rfl rfl (Num2Is (q) (r)) (fun _ => Cl_Num2Is _ _) (fun w0 => ?_) (fun w0 hI hF => ?_) (fun K hK v w0 hv => ?_); rotate_left 2; (· go_simp; (constructor <;> rfl)); (· exact (c3 _ _ _ _ _ (((hF 2 (by kernel_rfl)).1).2 rfl).rd ((hF 5 (by kernel_rfl)).2 rfl).rd).mono (fun _ _ h => h.num2)); (obtain ⟨A3, e3, A4, e4, rfl, -, -⟩ := hv; clear w0; simp only [Act.put, List.setIfInBounds_toArray, List.set_cons_zero, List.set_cons_succ]; refine hK _ _ ?_; clear hK K))
  repeat (first | (refine Abs.step_pure rfl rfl (fun K hK => ?_); go_simp; (try go_bits); (first | refine hK _ _ ?_ | (simp only [↓IntWalk.iteOmega]; go_simp; (try go_bits); refine hK _ _ ?_)); clear hK K) | (refine Abs.step_load (v := ?_) rfl rfl (by kernel_rfl) rfl (fun w0 hI => ?_) (fun K hK => ?_); rotate_left; (· have z0 := (rcell (kp hI (f_l1))).1; go_simp; rfl); (simp only [Act.put, List.setIfInBounds_toArray, List.set_cons_zero, List.set_cons_succ]; refine hK _ _ ?_; clear hK K)) | (refine Abs.step_skip rfl rfl (fun K hK => ?_); (simp only [Act.put, List.setIfInBounds_toArray, List.set_cons_zero, List.set_cons_succ]; refine hK _ _ ?_; clear hK K)))
  (refine Abs.step_var (obj := ?_) rfl rfl rfl rfl (fun w0 => ?_) (fun K hK g_q hv_q hu_q => ?_); rotate_left; (· go_simp; rfl); (simp only [Act.put, List.setIfInBounds_toArray, List.set_cons_zero, List.set_cons_succ]; refine hK _ _ ?_; clear hK K))
  repeat (first | (refine Abs.step_pure rfl rfl (fun K hK => ?_); go_simp; (try go_bits); (first | refine hK _ _ ?_ | (simp only [↓IntWalk.iteOmega]; go_simp; (try go_bits); refine hK _ _ ?_)); clear hK K) | (refine Abs.step_load (v := ?_) rfl rfl (by kernel_rfl) rfl (fun w0 hI => ?_) (fun K hK => ?_); rotate_left; (· have z0 := (rcell (kp hI (f_l1))).1; go_simp; rfl); (simp only [Act.put, List.setIfInBounds_toArray, List.set_cons_zero, List.set_cons_succ]; refine hK _ _ ?_; clear hK K)) | (refine Abs.step_skip rfl rfl (fun K hK => ?_); (simp only [Act.put, List.setIfInBounds_toArray, List.set_cons_zero, List.set_cons_succ]; refine hK _ _ ?_; clear hK K)))
  (refine Abs.step_var (obj := ?_) rfl rfl rfl rfl (fun w0 => ?_) (fun K hK g_t hv_t hu_t => ?_); rotate_left; (· go_simp; rfl); (simp only [Act.put, List.setIfInBounds_toArray, List.set_cons_zero, List.set_cons_succ]; refine hK _ _ ?_; clear hK K))
  repeat (first | (refine Abs.step_pure rfl rfl (fun K hK => ?_); go_simp; (try go_bits); (first | refine hK _ _ ?_ | (simp only [↓IntWalk.iteOmega]; go_simp; (try go_bits); refine hK _ _ ?_)); clear hK K) | (refine Abs.step_load (v := ?_) rfl rfl (by kernel_rfl) rfl (fun w0 hI => ?_) (fun K hK => ?_); rotate_left; (· have z0 := (rcell (kp hI (f_l1))).1; go_simp; rfl); (simp only [Act.put, List.setIfInBounds_toArray, List.set_cons_zero, List.set_cons_succ]; refine hK _ _ ?_; clear hK K)) | (refine Abs.step_skip rfl rfl (fun K hK => ?_); (simp only [Act.put, List.setIfInBounds_toArray, List.set_cons_zero, List.set_cons_succ]; refine hK _ _ ?_; clear hK K)))
  (refine Abs.step_store (T := ?_) rfl rfl rfl (fun w0 hI hF hU => ?_) (fun _ _ _ _ => trivial) (fun K hK => ?_); rotate_left; (· have hR := (hF 10).1.2 rfl; have hg0 := (rcell hR).1; have hg1 := (rcell hR).2.1; simp only [Abs.T_setF, Abs.T_addA, Abs.T_push, Abs.T_start]; go_simp; exact row2 hR _ _); (simp only [Act.put, List.setIfInBounds_toArray, List.set_cons_zero, List.set_cons_succ]; refine hK _ _ ?_; clear hK K))
  (refine Abs.step_store (T := ?_) rfl rfl rfl (fun w0 hI hF hU => ?_) (fun _ _ _ _ => trivial) (fun K hK => ?_); rotate_left; (· have hR := fun cs => (setRow_other (w := w0) (g := g_q) cs (fun e => hu_t (Or.inl e))).trans ((hF 11).2 rfl); have hg0 := fun cs => (rcell (hR cs)).1; have hg1 := fun cs => (rcell (hR cs)).2.1; simp only [Abs.T_setF, Abs.T_addA, Abs.T_push, Abs.T_start]; go_simp; exact row2 (hR _) _ _); (simp only [Act.put, List.setIfInBounds_toArray, List.set_cons_zero, List.set_cons_succ]; refine hK _ _ ?_; clear hK K))
  have hs_q := leB hv_q
  try simp only [World.size_alloc] at hs_q
  have hs_t := leB hv_t
  try simp only [World.size_alloc] at hs_t
  have hn : g_t ≠ g_q := fun e => hu_t (Or.inl e)
  intro w0 hI hF hx1 hx2
  clear hx1 hx2
  have q1 := (hF 10).1.2 rfl
  have q2 := (hF 11).2 rfl
  have rn_q := ((hF 6).1.1.2 rfl).rds.1
  have rn_t := ((hF 6).1.1.2 rfl).rds.2
  clear hF
  simp only [Abs.T_push]
  generalize hTa : setRow w0 _ _ = wa
  have ea := (fin_x (b0 _) q1 hTa).1
  replace rn_q := rn_q.exc ea q1 (by decide)
  replace rn_t := rn_t.exc ea q1 (by decide)
  obtain ⟨ba, fa⟩ := fin1 hI hv_q q1 hTa
  have q3 : wa.heap[g_t]? = w0.heap[g_t]? := by rw [← hTa]; exact setRow_other _ hn
  replace q2 := q3.trans q2
  clear q3
  generalize hTb : setRow wa _ _ = w2
  have eb := (fin_x (b0 _) q2 hTb).1
  replace rn_q := rn_q.exc eb q2 (by decide)
  replace rn_t := rn_t.exc eb q2 (by decide)
  obtain ⟨hb2, f_t2⟩ := fin1 ba hv_t q2 hTb
  have q4 : w2.heap[g_q]? = wa.heap[g_q]? := by rw [← hTb]; exact setRow_other _ hn.symm
  have f_q2 := q4.trans fa
  clear q4
  clear hTa hTb ea eb q1 q2 fa ba hI w0
  have f_l2 := kp hb2 (f_l1)
  have hB2 := bB hB1 hb2
  obtain ⟨zl_a, zl_b, ll2⟩ := rcell f_l2
  obtain ⟨zq_a, zq_b, lq2⟩ := rcell f_q2
  obtain ⟨zt_a, zt_b, lt2⟩ := rcell f_t2
  go_wp2_with fail
  refine (c4 _ _ _ rn_q).mono ?_
  rintro e w3 ⟨rfl, hb3⟩
  have f_l3 := kp hb3 (f_l2)
  have f_q3 := kp hb3 (f_q2)
  have f_t3 := kp hb3 (f_t2)
  have rd_q3 := rn_q.below hb3
  have rd_t3 := rn_t.below hb3
  have hB3 := bB hB2 hb3
  clear zl_a zl_b zq_a zq_b zt_a zt_b
  obtain ⟨zl_a, zl_b, ll3⟩ := rcell f_l3
  obtain ⟨zq_a, zq_b, lq3⟩ := rcell f_q3
  obtain ⟨zt_a, zt_b, lt3⟩ := rcell f_t3
  go_wp2
  go_ret2
  exact ⟨by simp, hB3⟩

set_option maxRecDepth 100000 in
set_option maxHeartbeats 2000000 in
theorem at_far (A R N D dt x q r : Int) (c1 : ∀ w, Calls Tryz.prog 82 #[.agg #[.int .i64 A, .int .i64 R, .int .i64 N, .int .i64 D], .int .i64 dt] w (GivesNum x w)) (c2 : ∀ w, Calls Tryz.prog 83 #[.int .i64 D] w (GivesNum D w)) (c3 : ∀ A B c d w, Rd w A c (sz x.natAbs) → Rd w B d (sz D.natAbs) → Calls Tryz.prog 81 #[.agg #[.bool (decide (x < 0)), .slice A (sz x.natAbs).length c], .agg #[.bool (decide (D < 0)), .slice B (sz D.natAbs).length d]] w (GivesNum2 q r w)) (c4 : ∀ A c w, Rd w A c (sz q.natAbs) → Calls Tryz.prog 84 #[.agg #[.bool (decide (q < 0)), .slice A (sz q.natAbs).length c]] w fun e w' => e = .returned (.tuple #[.int .i64 q, .bool true]) ∧ Below w.heap.size w w') (c5 : ∀ w, Calls Tryz.prog 59 #[.int .i64 q] w fun e w' => e = .returned (.bool false) ∧ Below w.heap.size w w') (w : World) :
    Calls Tryz.prog 62 #[.agg #[.int .i64 A, .int .i64 R, .int .i64 N, .int .i64 D], .int .i64 dt] w fun e w' => e = .returned (.tuple #[.int .i64 0, .bool false]) ∧ Below w.heap.size w w' := by
  go_enter Tryz.func62, Tryz.ntmps62
  go_wp2_with fail
  have f_l1 := (na w #[.int .i64 A, .int .i64 R, .int .i64 N, .int .i64 D] 24)
  have hB1 := (bA (b0 w) (.cells #[.int .i64 A, .int .i64 R, .int .i64 N, .int .i64 D] 24))
  have ll1 := (rcell f_l1).2.2
  refine Abs.wp_region_abs (Abs.cls0 _) [0, 1, 2, 3, 4, 5, 6, 7, 8, 9, 10, 11, 12, 13] (by kernel_rfl) (by kernel_rfl) (Below.refl _ _).drew ?_
  repeat (first | (refine Abs.step_pure rfl rfl (fun K hK => ?_); go_simp; (try go_bits); (first | refine hK _ _ ?_ | (simp only [↓IntWalk.iteOmega]; go_simp; (try go_bits); refine hK _ _ ?_)); clear hK K) | (refine Abs.step_load (v := ?_) rfl rfl (by kernel_rfl) rfl (fun w0 hI => ?_) (fun K hK => ?_); rotate_left; (· have z0 := (rcell (kp hI (f_l1))).1; go_simp; rfl); (simp only [Act.put, List.setIfInBounds_toArray, List.set_cons_zero, List.set_cons_succ]; refine hK _ _ ?_; clear hK K)) | (refine Abs.step_skip rfl rfl (fun K hK => ?_); (simp only [Act.put, List.setIfInBounds_toArray, List.set_cons_zero, List.set_cons_succ]; refine hK _ _ ?_; clear hK K)))
  (refine Abs.step_call (f := ?_) (args := ?_) rfl rfl rfl rfl (NumIs (x)) (fun _ => Cl_NumIs _) (fun w0 => ?_) (fun w0 hI hF => ?_) (fun K hK v w0 hv => ?_); rotate_left 2; (· go_simp; (constructor <;> rfl)); (· exact (c1 _).mono (fun _ _ h => h.num)); (obtain ⟨A1, e1, rfl, -⟩ := hv; clear w0; simp only [Act.put, List.setIfInBounds_toArray, List.set_cons_zero, List.set_cons_succ]; refine hK _ _ ?_; clear hK K))
  repeat (first | (refine Abs.step_pure rfl rfl (fun K hK => ?_); go_simp; (try go_bits); (first | refine hK _ _ ?_ | (simp only [↓IntWalk.iteOmega]; go_simp; (try go_bits); refine hK _ _ ?_)); clear hK K) | (refine Abs.step_load (v := ?_) rfl rfl (by kernel_rfl) rfl (fun w0 hI => ?_) (fun K hK => ?_); rotate_left; (· have z0 := (rcell (kp hI (f_l1))).1; go_simp; rfl); (simp only [Act.put, List.setIfInBounds_toArray, List.set_cons_zero, List.set_cons_succ]; refine hK _ _ ?_; clear hK K)) | (refine Abs.step_skip rfl rfl (fun K hK => ?_); (simp only [Act.put, List.setIfInBounds_toArray, List.set_cons_zero, List.set_cons_succ]; refine hK _ _ ?_; clear hK K)))
  (refine Abs.step_call (f := ?_) (args := ?_) rfl rfl rfl rfl (NumIs (D)) (fun _ => Cl_NumIs _) (fun w0 => ?_) (fun w0 hI hF => ?_) (fun K hK v w0 hv => ?_); rotate_left 2; (· go_simp; (constructor <;> rfl)); (· exact (c2 _).mono (fun _ _ h => h.num)); (obtain ⟨A2, e2, rfl, -⟩ := hv; clear w0; simp only [Act.put, List.setIfInBounds_toArray, List.set_cons_zero, List.set_cons_succ]; refine hK _ _ ?_; clear hK K))
  repeat (first | (refine Abs.step_pure rfl rfl (fun K hK => ?_); go_simp; (try go_bits); (first | refine hK _ _ ?_ | (simp only [↓IntWalk.iteOmega]; go_simp; (try go_bits); refine hK _ _ ?_)); clear hK K) | (refine Abs.step_load (v := ?_) rfl rfl (by kernel_rfl) rfl (fun w0 hI => ?_) (fun K hK => ?_); rotate_left; (· have z0 := (rcell (kp hI (f_l1))).1; go_simp; rfl); (simp only [Act.put, List.setIfInBounds_toArray, List.set_cons_zero, List.set_cons_succ]; refine hK _ _ ?_; clear hK K)) | (refine Abs.step_skip rfl rfl (fun K hK => ?_); (simp only [Act.put, List.setIfInBounds_toArray, List.set_cons_zero, List.set_cons_succ]; refine hK _ _ ?_; clear hK K)))
  (refine Abs.step_call (f := ?_) (args := ?_) rfl rfl rfl rfl (Num2Is (q) (r)) (fun _ => Cl_Num2Is _ _) (fun w0 => ?_) (fun w0 hI hF => ?_) (fun K hK v w0 hv => ?_); rotate_left 2; (· go_simp; (constructor <;> rfl)); (· exact (c3 _ _ _ _ _ (((hF 2 (by kernel_rfl)).1).2 rfl).rd ((hF 5 (by kernel_rfl)).2 rfl).rd).mono (fun _ _ h => h.num2)); (obtain ⟨A3, e3, A4, e4, rfl, -, -⟩ := hv; clear w0; simp only [Act.put, List.setIfInBounds_toArray, List.set_cons_zero, List.set_cons_succ]; refine hK _ _ ?_; clear hK K))
  repeat (first | (refine Abs.step_pure rfl rfl (fun K hK => ?_); go_simp; (try go_bits); (first | refine hK _ _ ?_ | (simp only [↓IntWalk.iteOmega]; go_simp; (try go_bits); refine hK _ _ ?_)); clear hK K) | (refine Abs.step_load (v := ?_) rfl rfl (by kernel_rfl) rfl (fun w0 hI => ?_) (fun K hK => ?_); rotate_left; (· have z0 := (rcell (kp hI (f_l1))).1; go_simp; rfl); (simp only [Act.put, List.setIfInBounds_toArray, List.set_cons_zero, List.set_cons_succ]; refine hK _ _ ?_; clear hK K)) | (refine Abs.step_skip rfl rfl (fun K hK => ?_); (simp only [Act.put, List.setIfInBounds_toArray, List.set_cons_zero, List.set_cons_succ]; refine hK _ _ ?_; clear hK K)))
  (refine Abs.step_var (obj := ?_) rfl rfl rfl rfl (fun w0 => ?_) (fun K hK g_q hv_q hu_q => ?_); rotate_left; (· go_simp; rfl); (simp only [Act.put, List.setIfInBounds_toArray, List.set_cons_zero, List.set_cons_succ]; refine hK _ _ ?_; clear hK K))
  repeat (first | (refine Abs.step_pure rfl rfl (fun K hK => ?_); go_simp; (try go_bits); (first | refine hK _ _ ?_ | (simp only [↓IntWalk.iteOmega]; go_simp; (try go_bits); refine hK _ _ ?_)); clear hK K) | (refine Abs.step_load (v := ?_) rfl rfl (by kernel_rfl) rfl (fun w0 hI => ?_) (fun K hK => ?_); rotate_left; (· have z0 := (rcell (kp hI (f_l1))).1; go_simp; rfl); (simp only [Act.put, List.setIfInBounds_toArray, List.set_cons_zero, List.set_cons_succ]; refine hK _ _ ?_; clear hK K)) | (refine Abs.step_skip rfl rfl (fun K hK => ?_); (simp only [Act.put, List.setIfInBounds_toArray, List.set_cons_zero, List.set_cons_succ]; refine hK _ _ ?_; clear hK K)))
  (refine Abs.step_var (obj := ?_) rfl rfl rfl rfl (fun w0 => ?_) (fun K hK g_t hv_t hu_t => ?_); rotate_left; (· go_simp; rfl); (simp only [Act.put, List.setIfInBounds_toArray, List.set_cons_zero, List.set_cons_succ]; refine hK _ _ ?_; clear hK K))
  repeat (first | (refine Abs.step_pure rfl rfl (fun K hK => ?_); go_simp; (try go_bits); (first | refine hK _ _ ?_ | (simp only [↓IntWalk.iteOmega]; go_simp; (try go_bits); refine hK _ _ ?_)); clear hK K) | (refine Abs.step_load (v := ?_) rfl rfl (by kernel_rfl) rfl (fun w0 hI => ?_) (fun K hK => ?_); rotate_left; (· have z0 := (rcell (kp hI (f_l1))).1; go_simp; rfl); (simp only [Act.put, List.setIfInBounds_toArray, List.set_cons_zero, List.set_cons_succ]; refine hK _ _ ?_; clear hK K)) | (refine Abs.step_skip rfl rfl (fun K hK => ?_); (simp only [Act.put, List.setIfInBounds_toArray, List.set_cons_zero, List.set_cons_succ]; refine hK _ _ ?_; clear hK K)))
  (refine Abs.step_store (T := ?_) rfl rfl rfl (fun w0 hI hF hU => ?_) (fun _ _ _ _ => trivial) (fun K hK => ?_); rotate_left; (· have hR := (hF 10).1.2 rfl; have hg0 := (rcell hR).1; have hg1 := (rcell hR).2.1; simp only [Abs.T_setF, Abs.T_addA, Abs.T_push, Abs.T_start]; go_simp; exact row2 hR _ _); (simp only [Act.put, List.setIfInBounds_toArray, List.set_cons_zero, List.set_cons_succ]; refine hK _ _ ?_; clear hK K))
  (refine Abs.step_store (T := ?_) rfl rfl rfl (fun w0 hI hF hU => ?_) (fun _ _ _ _ => trivial) (fun K hK => ?_); rotate_left; (· have hR := fun cs => (setRow_other (w := w0) (g := g_q) cs (fun e => hu_t (Or.inl e))).trans ((hF 11).2 rfl); have hg0 := fun cs => (rcell (hR cs)).1; have hg1 := fun cs => (rcell (hR cs)).2.1; simp only [Abs.T_setF, Abs.T_addA, Abs.T_push, Abs.T_start]; go_simp; exact row2 (hR _) _ _); (simp only [Act.put, List.setIfInBounds_toArray, List.set_cons_zero, List.set_cons_succ]; refine hK _ _ ?_; clear hK K))
  have hs_q := leB hv_q
  try simp only [World.size_alloc] at hs_q
  have hs_t := leB hv_t
  try simp only [World.size_alloc] at hs_t
  have hn : g_t ≠ g_q := fun e => hu_t (Or.inl e)
  intro w0 hI hF hx1 hx2
  clear hx1 hx2
  have q1 := (hF 10).1.2 rfl
  have q2 := (hF 11).2 rfl
  have rn_q := ((hF 6).1.1.2 rfl).rds.1
  have rn_t := ((hF 6).1.1.2 rfl).rds.2
  clear hF
  simp only [Abs.T_push]
  generalize hTa : setRow w0 _ _ = wa
  have ea := (fin_x (b0 _) q1 hTa).1
  replace rn_q := rn_q.exc ea q1 (by decide)
  replace rn_t := rn_t.exc ea q1 (by decide)
  obtain ⟨ba, fa⟩ := fin1 hI hv_q q1 hTa
  have q3 : wa.heap[g_t]? = w0.heap[g_t]? := by rw [← hTa]; exact setRow_other _ hn
  replace q2 := q3.trans q2
  clear q3
  generalize hTb : setRow wa _ _ = w2
  have eb := (fin_x (b0 _) q2 hTb).1
  replace rn_q := rn_q.exc eb q2 (by decide)
  replace rn_t := rn_t.exc eb q2 (by decide)
  obtain ⟨hb2, f_t2⟩ := fin1 ba hv_t q2 hTb
  have q4 : w2.heap[g_q]? = wa.heap[g_q]? := by rw [← hTb]; exact setRow_other _ hn.symm
  have f_q2 := q4.trans fa
  clear q4
  clear hTa hTb ea eb q1 q2 fa ba hI w0
  have f_l2 := kp hb2 (f_l1)
  have hB2 := bB hB1 hb2
  obtain ⟨zl_a, zl_b, ll2⟩ := rcell f_l2
  obtain ⟨zq_a, zq_b, lq2⟩ := rcell f_q2
  obtain ⟨zt_a, zt_b, lt2⟩ := rcell f_t2
  go_wp2_with fail
  refine (c4 _ _ _ rn_q).mono ?_
  rintro e w3 ⟨rfl, hb3⟩
  have f_l3 := kp hb3 (f_l2)
  have f_q3 := kp hb3 (f_q2)
  have f_t3 := kp hb3 (f_t2)
  have rd_q3 := rn_q.below hb3
  have rd_t3 := rn_t.below hb3
  have hB3 := bB hB2 hb3
  clear zl_a zl_b zq_a zq_b zt_a zt_b
  obtain ⟨zl_a, zl_b, ll3⟩ := rcell f_l3
  obtain ⟨zq_a, zq_b, lq3⟩ := rcell f_q3
  obtain ⟨zt_a, zt_b, lt3⟩ := rcell f_t3
  go_wp2_with fail
  refine (c5 _).mono ?_
  rintro e w4 ⟨rfl, hb4⟩
  have f_l4 := kp hb4 (f_l3)
  have f_q4 := kp hb4 (f_q3)
  have f_t4 := kp hb4 (f_t3)
  have rd_q4 := rd_q3.below hb4
  have rd_t4 := rd_t3.below hb4
  have hB4 := bB hB3 hb4
  clear zl_a zl_b zq_a zq_b zt_a zt_b
  obtain ⟨zl_a, zl_b, ll4⟩ := rcell f_l4
  obtain ⟨zq_a, zq_b, lq4⟩ := rcell f_q4
  obtain ⟨zt_a, zt_b, lt4⟩ := rcell f_t4
  go_wp2
  go_ret2
  exact ⟨by simp, hB4⟩

set_option maxRecDepth 100000 in
set_option maxHeartbeats 2000000 in
theorem at_yes (A R N D dt x q r : Int) (c1 : ∀ w, Calls Tryz.prog 82 #[.agg #[.int .i64 A, .int .i64 R, .int .i64 N, .int .i64 D], .int .i64 dt] w (GivesNum x w)) (c2 : ∀ w, Calls Tryz.prog 83 #[.int .i64 D] w (GivesNum D w)) (c3 : ∀ A B c d w, Rd w A c (sz x.natAbs) → Rd w B d (sz D.natAbs) → Calls Tryz.prog 81 #[.agg #[.bool (decide (x < 0)), .slice A (sz x.natAbs).length c], .agg #[.bool (decide (D < 0)), .slice B (sz D.natAbs).length d]] w (GivesNum2 q r w)) (c4 : ∀ A c w, Rd w A c (sz q.natAbs) → Calls Tryz.prog 84 #[.agg #[.bool (decide (q < 0)), .slice A (sz q.natAbs).length c]] w fun e w' => e = .returned (.tuple #[.int .i64 q, .bool true]) ∧ Below w.heap.size w w') (c5 : ∀ w, Calls Tryz.prog 59 #[.int .i64 q] w fun e w' => e = .returned (.bool true) ∧ Below w.heap.size w w') (w : World) :
    Calls Tryz.prog 62 #[.agg #[.int .i64 A, .int .i64 R, .int .i64 N, .int .i64 D], .int .i64 dt] w fun e w' => e = .returned (.tuple #[.int .i64 q, .bool true]) ∧ Below w.heap.size w w' := by
  go_enter Tryz.func62, Tryz.ntmps62
  go_wp2_with fail
  have f_l1 := (na w #[.int .i64 A, .int .i64 R, .int .i64 N, .int .i64 D] 24)
  have hB1 := (bA (b0 w) (.cells #[.int .i64 A, .int .i64 R, .int .i64 N, .int .i64 D] 24))
  have ll1 := (rcell f_l1).2.2
  refine Abs.wp_region_abs (Abs.cls0 _) [0, 1, 2, 3, 4, 5, 6, 7, 8, 9, 10, 11, 12, 13] (by kernel_rfl) (by kernel_rfl) (Below.refl _ _).drew ?_
  repeat (first | (refine Abs.step_pure rfl rfl (fun K hK => ?_); go_simp; (try go_bits); (first | refine hK _ _ ?_ | (simp only [↓IntWalk.iteOmega]; go_simp; (try go_bits); refine hK _ _ ?_)); clear hK K) | (refine Abs.step_load (v := ?_) rfl rfl (by kernel_rfl) rfl (fun w0 hI => ?_) (fun K hK => ?_); rotate_left; (· have z0 := (rcell (kp hI (f_l1))).1; go_simp; rfl); (simp only [Act.put, List.setIfInBounds_toArray, List.set_cons_zero, List.set_cons_succ]; refine hK _ _ ?_; clear hK K)) | (refine Abs.step_skip rfl rfl (fun K hK => ?_); (simp only [Act.put, List.setIfInBounds_toArray, List.set_cons_zero, List.set_cons_succ]; refine hK _ _ ?_; clear hK K)))
  (refine Abs.step_call (f := ?_) (args := ?_) rfl rfl rfl rfl (NumIs (x)) (fun _ => Cl_NumIs _) (fun w0 => ?_) (fun w0 hI hF => ?_) (fun K hK v w0 hv => ?_); rotate_left 2; (· go_simp; (constructor <;> rfl)); (· exact (c1 _).mono (fun _ _ h => h.num)); (obtain ⟨A1, e1, rfl, -⟩ := hv; clear w0; simp only [Act.put, List.setIfInBounds_toArray, List.set_cons_zero, List.set_cons_succ]; refine hK _ _ ?_; clear hK K))
  repeat (first | (refine Abs.step_pure rfl rfl (fun K hK => ?_); go_simp; (try go_bits); (first | refine hK _ _ ?_ | (simp only [↓IntWalk.iteOmega]; go_simp; (try go_bits); refine hK _ _ ?_)); clear hK K) | (refine Abs.step_load (v := ?_) rfl rfl (by kernel_rfl) rfl (fun w0 hI => ?_) (fun K hK => ?_); rotate_left; (· have z0 := (rcell (kp hI (f_l1))).1; go_simp; rfl); (simp only [Act.put, List.setIfInBounds_toArray, List.set_cons_zero, List.set_cons_succ]; refine hK _ _ ?_; clear hK K)) | (refine Abs.step_skip rfl rfl (fun K hK => ?_); (simp only [Act.put, List.setIfInBounds_toArray, List.set_cons_zero, List.set_cons_succ]; refine hK _ _ ?_; clear hK K)))
  (refine Abs.step_call (f := ?_) (args := ?_) rfl rfl rfl rfl (NumIs (D)) (fun _ => Cl_NumIs _) (fun w0 => ?_) (fun w0 hI hF => ?_) (fun K hK v w0 hv => ?_); rotate_left 2; (· go_simp; (constructor <;> rfl)); (· exact (c2 _).mono (fun _ _ h => h.num)); (obtain ⟨A2, e2, rfl, -⟩ := hv; clear w0; simp only [Act.put, List.setIfInBounds_toArray, List.set_cons_zero, List.set_cons_succ]; refine hK _ _ ?_; clear hK K))
  repeat (first | (refine Abs.step_pure rfl rfl (fun K hK => ?_); go_simp; (try go_bits); (first | refine hK _ _ ?_ | (simp only [↓IntWalk.iteOmega]; go_simp; (try go_bits); refine hK _ _ ?_)); clear hK K) | (refine Abs.step_load (v := ?_) rfl rfl (by kernel_rfl) rfl (fun w0 hI => ?_) (fun K hK => ?_); rotate_left; (· have z0 := (rcell (kp hI (f_l1))).1; go_simp; rfl); (simp only [Act.put, List.setIfInBounds_toArray, List.set_cons_zero, List.set_cons_succ]; refine hK _ _ ?_; clear hK K)) | (refine Abs.step_skip rfl rfl (fun K hK => ?_); (simp only [Act.put, List.setIfInBounds_toArray, List.set_cons_zero, List.set_cons_succ]; refine hK _ _ ?_; clear hK K)))
  (refine Abs.step_call (f := ?_) (args := ?_) rfl rfl rfl rfl (Num2Is (q) (r)) (fun _ => Cl_Num2Is _ _) (fun w0 => ?_) (fun w0 hI hF => ?_) (fun K hK v w0 hv => ?_); rotate_left 2; (· go_simp; (constructor <;> rfl)); (· exact (c3 _ _ _ _ _ (((hF 2 (by kernel_rfl)).1).2 rfl).rd ((hF 5 (by kernel_rfl)).2 rfl).rd).mono (fun _ _ h => h.num2)); (obtain ⟨A3, e3, A4, e4, rfl, -, -⟩ := hv; clear w0; simp only [Act.put, List.setIfInBounds_toArray, List.set_cons_zero, List.set_cons_succ]; refine hK _ _ ?_; clear hK K))
  repeat (first | (refine Abs.step_pure rfl rfl (fun K hK => ?_); go_simp; (try go_bits); (first | refine hK _ _ ?_ | (simp only [↓IntWalk.iteOmega]; go_simp; (try go_bits); refine hK _ _ ?_)); clear hK K) | (refine Abs.step_load (v := ?_) rfl rfl (by kernel_rfl) rfl (fun w0 hI => ?_) (fun K hK => ?_); rotate_left; (· have z0 := (rcell (kp hI (f_l1))).1; go_simp; rfl); (simp only [Act.put, List.setIfInBounds_toArray, List.set_cons_zero, List.set_cons_succ]; refine hK _ _ ?_; clear hK K)) | (refine Abs.step_skip rfl rfl (fun K hK => ?_); (simp only [Act.put, List.setIfInBounds_toArray, List.set_cons_zero, List.set_cons_succ]; refine hK _ _ ?_; clear hK K)))
  (refine Abs.step_var (obj := ?_) rfl rfl rfl rfl (fun w0 => ?_) (fun K hK g_q hv_q hu_q => ?_); rotate_left; (· go_simp; rfl); (simp only [Act.put, List.setIfInBounds_toArray, List.set_cons_zero, List.set_cons_succ]; refine hK _ _ ?_; clear hK K))
  repeat (first | (refine Abs.step_pure rfl rfl (fun K hK => ?_); go_simp; (try go_bits); (first | refine hK _ _ ?_ | (simp only [↓IntWalk.iteOmega]; go_simp; (try go_bits); refine hK _ _ ?_)); clear hK K) | (refine Abs.step_load (v := ?_) rfl rfl (by kernel_rfl) rfl (fun w0 hI => ?_) (fun K hK => ?_); rotate_left; (· have z0 := (rcell (kp hI (f_l1))).1; go_simp; rfl); (simp only [Act.put, List.setIfInBounds_toArray, List.set_cons_zero, List.set_cons_succ]; refine hK _ _ ?_; clear hK K)) | (refine Abs.step_skip rfl rfl (fun K hK => ?_); (simp only [Act.put, List.setIfInBounds_toArray, List.set_cons_zero, List.set_cons_succ]; refine hK _ _ ?_; clear hK K)))
  (refine Abs.step_var (obj := ?_) rfl rfl rfl rfl (fun w0 => ?_) (fun K hK g_t hv_t hu_t => ?_); rotate_left; (· go_simp; rfl); (simp only [Act.put, List.setIfInBounds_toArray, List.set_cons_zero, List.set_cons_succ]; refine hK _ _ ?_; clear hK K))
  repeat (first | (refine Abs.step_pure rfl rfl (fun K hK => ?_); go_simp; (try go_bits); (first | refine hK _ _ ?_ | (simp only [↓IntWalk.iteOmega]; go_simp; (try go_bits); refine hK _ _ ?_)); clear hK K) | (refine Abs.step_load (v := ?_) rfl rfl (by kernel_rfl) rfl (fun w0 hI => ?_) (fun K hK => ?_); rotate_left; (· have z0 := (rcell (kp hI (f_l1))).1; go_simp; rfl); (simp only [Act.put, List.setIfInBounds_toArray, List.set_cons_zero, List.set_cons_succ]; refine hK _ _ ?_; clear hK K)) | (refine Abs.step_skip rfl rfl (fun K hK => ?_); (simp only [Act.put, List.setIfInBounds_toArray, List.set_cons_zero, List.set_cons_succ]; refine hK _ _ ?_; clear hK K)))
  (refine Abs.step_store (T := ?_) rfl rfl rfl (fun w0 hI hF hU => ?_) (fun _ _ _ _ => trivial) (fun K hK => ?_); rotate_left; (· have hR := (hF 10).1.2 rfl; have hg0 := (rcell hR).1; have hg1 := (rcell hR).2.1; simp only [Abs.T_setF, Abs.T_addA, Abs.T_push, Abs.T_start]; go_simp; exact row2 hR _ _); (simp only [Act.put, List.setIfInBounds_toArray, List.set_cons_zero, List.set_cons_succ]; refine hK _ _ ?_; clear hK K))
  (refine Abs.step_store (T := ?_) rfl rfl rfl (fun w0 hI hF hU => ?_) (fun _ _ _ _ => trivial) (fun K hK => ?_); rotate_left; (· have hR := fun cs => (setRow_other (w := w0) (g := g_q) cs (fun e => hu_t (Or.inl e))).trans ((hF 11).2 rfl); have hg0 := fun cs => (rcell (hR cs)).1; have hg1 := fun cs => (rcell (hR cs)).2.1; simp only [Abs.T_setF, Abs.T_addA, Abs.T_push, Abs.T_start]; go_simp; exact row2 (hR _) _ _); (simp only [Act.put, List.setIfInBounds_toArray, List.set_cons_zero, List.set_cons_succ]; refine hK _ _ ?_; clear hK K))
  have hs_q := leB hv_q
  try simp only [World.size_alloc] at hs_q
  have hs_t := leB hv_t
  try simp only [World.size_alloc] at hs_t
  have hn : g_t ≠ g_q := fun e => hu_t (Or.inl e)
  intro w0 hI hF hx1 hx2
  clear hx1 hx2
  have q1 := (hF 10).1.2 rfl
  have q2 := (hF 11).2 rfl
  have rn_q := ((hF 6).1.1.2 rfl).rds.1
  have rn_t := ((hF 6).1.1.2 rfl).rds.2
  clear hF
  simp only [Abs.T_push]
  generalize hTa : setRow w0 _ _ = wa
  have ea := (fin_x (b0 _) q1 hTa).1
  replace rn_q := rn_q.exc ea q1 (by decide)
  replace rn_t := rn_t.exc ea q1 (by decide)
  obtain ⟨ba, fa⟩ := fin1 hI hv_q q1 hTa
  have q3 : wa.heap[g_t]? = w0.heap[g_t]? := by rw [← hTa]; exact setRow_other _ hn
  replace q2 := q3.trans q2
  clear q3
  generalize hTb : setRow wa _ _ = w2
  have eb := (fin_x (b0 _) q2 hTb).1
  replace rn_q := rn_q.exc eb q2 (by decide)
  replace rn_t := rn_t.exc eb q2 (by decide)
  obtain ⟨hb2, f_t2⟩ := fin1 ba hv_t q2 hTb
  have q4 : w2.heap[g_q]? = wa.heap[g_q]? := by rw [← hTb]; exact setRow_other _ hn.symm
  have f_q2 := q4.trans fa
  clear q4
  clear hTa hTb ea eb q1 q2 fa ba hI w0
  have f_l2 := kp hb2 (f_l1)
  have hB2 := bB hB1 hb2
  obtain ⟨zl_a, zl_b, ll2⟩ := rcell f_l2
  obtain ⟨zq_a, zq_b, lq2⟩ := rcell f_q2
  obtain ⟨zt_a, zt_b, lt2⟩ := rcell f_t2
  go_wp2_with fail
  refine (c4 _ _ _ rn_q).mono ?_
  rintro e w3 ⟨rfl, hb3⟩
  have f_l3 := kp hb3 (f_l2)
  have f_q3 := kp hb3 (f_q2)
  have f_t3 := kp hb3 (f_t2)
  have rd_q3 := rn_q.below hb3
  have rd_t3 := rn_t.below hb3
  have hB3 := bB hB2 hb3
  clear zl_a zl_b zq_a zq_b zt_a zt_b
  obtain ⟨zl_a, zl_b, ll3⟩ := rcell f_l3
  obtain ⟨zq_a, zq_b, lq3⟩ := rcell f_q3
  obtain ⟨zt_a, zt_b, lt3⟩ := rcell f_t3
  go_wp2_with fail
  refine (c5 _).mono ?_
  rintro e w4 ⟨rfl, hb4⟩
  have f_l4 := kp hb4 (f_l3)
  have f_q4 := kp hb4 (f_q3)
  have f_t4 := kp hb4 (f_t3)
  have rd_q4 := rd_q3.below hb4
  have rd_t4 := rd_t3.below hb4
  have hB4 := bB hB3 hb4
  clear zl_a zl_b zq_a zq_b zt_a zt_b
  obtain ⟨zl_a, zl_b, ll4⟩ := rcell f_l4
  obtain ⟨zq_a, zq_b, lq4⟩ := rcell f_q4
  obtain ⟨zt_a, zt_b, lt4⟩ := rcell f_t4
  go_wp2
  go_ret2
  exact ⟨by simp, hB4⟩

theorem ref_At (A R N D dt : Int) (h : isB A R N D = true) (ht : tmB dt = true) (w : World) :
    Calls Tryz.prog 62 #[.agg #[.int .i64 A, .int .i64 R, .int .i64 N, .int .i64 D], .int .i64 dt] w fun e w' => e = .returned (.tuple #[.int .i64 (if bkB (lnQ A R N D dt) = true then lnQ A R N D dt else 0), .bool (bkB (lnQ A R N D dt))]) ∧ Below w.heap.size w w' := by
  obtain ⟨⟨a1, a2⟩, ⟨d1, d2, n1, n2⟩, _, r1, r2⟩ := isB_spec h
  have ht2 : 0 ≤ dt ∧ dt ≤ 281474976710656 := of_decide_eq_true ht
  have c1 := ref_Times A R N D dt (by omega) (by omega) (by omega) (by omega) (by omega) (by omega) (by omega) (by omega) (by omega) (by omega)
  have bx := times_bd A R N D dt (by omega) (by omega) (by omega) (by omega) (by omega) (by omega) (by omega) (by omega) (by omega) (by omega)
  have c2 := ref_Int D (by omega) (by omega)
  have hq : (N * dt + R + A * D) / D = lnQ A R N D dt := by
    unfold lnQ
    exact Int.add_mul_ediv_right _ _ (show D ≠ 0 by omega)
  generalize N * dt + R + A * D = x at *
  have lx : (sz x.natAbs).length ≤ 800 := Nat.le_trans (sz_len_lt bx) (by decide)
  have lD : (sz D.natAbs).length ≤ 800 := Nat.le_trans (sz_i64 (by omega) (by omega)) (by decide)
  have c3 := fun A B c d w ha hb => ref_Div x D A B c d (by omega) lx lD w ha hb
  rw [hq] at c3
  have lq := lnQ_rng h ht
  generalize lnQ A R N D dt = q at *
  have lq2 : (sz q.natAbs).length ≤ 900 := Nat.le_trans (sz_len_lt (k := 128) (by obtain ⟨x1, x2⟩ := lq; omega)) (by decide)
  by_cases h1 : -9223372036854775808 ≤ q ∧ q < 9223372036854775808
  · have c4 := fun A c w ha => ref_Value_yes q A c h1.1 h1.2 w ha
    have c5 := ref_Back q
    cases h2 : bkB q
    · rw [h2] at c5
      exact at_far A R N D dt x q _ c1 c2 c3 c4 c5 w
    · rw [h2] at c5
      exact at_yes A R N D dt x q _ c1 c2 c3 c4 c5 w
  · have h2 : bkB q = false := decide_eq_false (by omega)
    rw [h2]
    exact at_big A R N D dt x q _ c1 c2 c3 (fun A c w ha => ref_Value_no q A c lq2 h1 w ha) w

end Go.Proofs.YtmpfbkeamihjbaaGreat

namespace Go.Proofs.YtmpfbkeamihjbaaGreat
open Go.RowKit

set_option maxRecDepth 100000 in
set_option maxHeartbeats 2000000 in
theorem right_1 (A R N D n d : Int) (c1 : ∀ w, Calls Tryz.prog 59 #[.int .i64 A] w fun e w' => e = .returned (.bool false) ∧ Below w.heap.size w w')  (w : World) :
    Calls Tryz.prog 34 #[.agg #[.int .i64 A, .int .i64 R, .int .i64 N, .int .i64 D]] w fun e w' => e = .returned (.bool false) ∧ Below w.heap.size w w' := by
  go_enter Tryz.func34, Tryz.ntmps34
  go_wp2_with fail
  have f_l1 := (ka (na w #[.int .i64 A, .int .i64 R, .int .i64 N, .int .i64 D] 24) (.cells #[.int .i64 N, .int .i64 D] 97))
  have f_s1 := (na1 w (.cells #[.int .i64 A, .int .i64 R, .int .i64 N, .int .i64 D] 24) #[.int .i64 N, .int .i64 D] 97)
  have hB1 := (bA (bA (b0 w) (.cells #[.int .i64 A, .int .i64 R, .int .i64 N, .int .i64 D] 24)) (.cells #[.int .i64 N, .int .i64 D] 97))
  have ll1 := (rcell f_l1).2.2
  have ls1 := (rcell f_s1).2.2
  refine Abs.wp_region_abs (Abs.cls0 _) [0, 1, 2, 3, 4, 5, 6, 7, 8, 9, 10, 11, 12, 13, 14, 15, 16, 17, 18, 19, 20, 21, 22, 23, 24, 25] (by kernel_rfl) (by kernel_rfl) (Below.refl _ _).drew ?_
  repeat (first | (refine Abs.step_pure rfl rfl (fun K hK => ?_); go_simp; (try go_bits); (first | refine hK _ _ ?_ | (simp only [↓IntWalk.iteOmega]; go_simp; (try go_bits); refine hK _ _ ?_)); clear hK K) | (refine Abs.step_load (v := ?_) rfl rfl (by kernel_rfl) rfl (fun w0 hI => ?_) (fun K hK => ?_); rotate_left; (· have z0 := (rcell (kp hI (f_l1))).1; have z1 := (rcell (kp hI (f_s1))).1; go_simp; rfl); (simp only [Act.put, List.setIfInBounds_toArray, List.set_cons_zero, List.set_cons_succ]; refine hK _ _ ?_; clear hK K)) | (refine Abs.step_skip rfl rfl (fun K hK => ?_); (simp only [Act.put, List.setIfInBounds_toArray, List.set_cons_zero, List.set_cons_succ]; refine hK _ _ ?_; clear hK K)))
  (refine Abs.step_call_val (f := ?_) (args := ?_) (v := ?_) rfl rfl rfl rfl (fun w0 => ?_) (fun w0 hI => ?_) (fun K hK => ?_); rotate_left 3; (· go_simp; (constructor <;> rfl)); (· exact c1 _); (simp only [Act.put, List.setIfInBounds_toArray, List.set_cons_zero, List.set_cons_succ]; refine hK _ _ ?_; clear hK K))
  repeat (first | (refine Abs.step_pure rfl rfl (fun K hK => ?_); go_simp; (try go_bits); (first | refine hK _ _ ?_ | (simp only [↓IntWalk.iteOmega]; go_simp; (try go_bits); refine hK _ _ ?_)); clear hK K) | (refine Abs.step_load (v := ?_) rfl rfl (by kernel_rfl) rfl (fun w0 hI => ?_) (fun K hK => ?_); rotate_left; (· have z0 := (rcell (kp hI (f_l1))).1; have z1 := (rcell (kp hI (f_s1))).1; go_simp; rfl); (simp only [Act.put, List.setIfInBounds_toArray, List.set_cons_zero, List.set_cons_succ]; refine hK _ _ ?_; clear hK K)) | (refine Abs.step_skip rfl rfl (fun K hK => ?_); (simp only [Act.put, List.setIfInBounds_toArray, List.set_cons_zero, List.set_cons_succ]; refine hK _ _ ?_; clear hK K)))
  intro w2 hb2 hx0 hx1 hx2
  clear hx0 hx1 hx2
  simp only [Abs.T_setF, Abs.T_addA, Abs.T_push, Abs.T_start]
  have f_l2 := kp hb2 (f_l1)
  have f_s2 := kp hb2 (f_s1)
  have hB2 := bB hB1 hb2
  obtain ⟨zl_a, zl_b, ll2⟩ := rcell f_l2
  obtain ⟨zs_a, zs_b, ls2⟩ := rcell f_s2
  go_wp2
  go_ret
  exact ⟨by simp, hB2⟩

set_option maxRecDepth 100000 in
set_option maxHeartbeats 2000000 in
theorem right_2 (A R N D n d : Int) (c1 : ∀ w, Calls Tryz.prog 59 #[.int .i64 A] w fun e w' => e = .returned (.bool true) ∧ Below w.heap.size w w') (c2 : ∀ w, Calls Tryz.prog 60 #[.agg #[.int .i64 N, .int .i64 D]] w fun e w' => e = .returned (.bool false) ∧ Below w.heap.size w w')  (w : World) :
    Calls Tryz.prog 34 #[.agg #[.int .i64 A, .int .i64 R, .int .i64 N, .int .i64 D]] w fun e w' => e = .returned (.bool false) ∧ Below w.heap.size w w' := by
  go_enter Tryz.func34, Tryz.ntmps34
  go_wp2_with fail
  have f_l1 := (ka (na w #[.int .i64 A, .int .i64 R, .int .i64 N, .int .i64 D] 24) (.cells #[.int .i64 N, .int .i64 D] 97))
  have f_s1 := (na1 w (.cells #[.int .i64 A, .int .i64 R, .int .i64 N, .int .i64 D] 24) #[.int .i64 N, .int .i64 D] 97)
  have hB1 := (bA (bA (b0 w) (.cells #[.int .i64 A, .int .i64 R, .int .i64 N, .int .i64 D] 24)) (.cells #[.int .i64 N, .int .i64 D] 97))
  have ll1 := (rcell f_l1).2.2
  have ls1 := (rcell f_s1).2.2
  refine Abs.wp_region_abs (Abs.cls0 _) [0, 1, 2, 3, 4, 5, 6, 7, 8, 9, 10, 11, 12, 13, 14, 15, 16, 17, 18, 19, 20, 21, 22, 23, 24, 25] (by kernel_rfl) (by kernel_rfl) (Below.refl _ _).drew ?_
  repeat (first | (refine Abs.step_pure rfl rfl (fun K hK => ?_); go_simp; (try go_bits); (first | refine hK _ _ ?_ | (simp only [↓IntWalk.iteOmega]; go_simp; (try go_bits); refine hK _ _ ?_)); clear hK K) | (refine Abs.step_load (v := ?_) rfl rfl (by kernel_rfl) rfl (fun w0 hI => ?_) (fun K hK => ?_); rotate_left; (· have z0 := (rcell (kp hI (f_l1))).1; have z1 := (rcell (kp hI (f_s1))).1; go_simp; rfl); (simp only [Act.put, List.setIfInBounds_toArray, List.set_cons_zero, List.set_cons_succ]; refine hK _ _ ?_; clear hK K)) | (refine Abs.step_skip rfl rfl (fun K hK => ?_); (simp only [Act.put, List.setIfInBounds_toArray, List.set_cons_zero, List.set_cons_succ]; refine hK _ _ ?_; clear hK K)))
  (refine Abs.step_call_val (f := ?_) (args := ?_) (v := ?_) rfl rfl rfl rfl (fun w0 => ?_) (fun w0 hI => ?_) (fun K hK => ?_); rotate_left 3; (· go_simp; (constructor <;> rfl)); (· exact c1 _); (simp only [Act.put, List.setIfInBounds_toArray, List.set_cons_zero, List.set_cons_succ]; refine hK _ _ ?_; clear hK K))
  repeat (first | (refine Abs.step_pure rfl rfl (fun K hK => ?_); go_simp; (try go_bits); (first | refine hK _ _ ?_ | (simp only [↓IntWalk.iteOmega]; go_simp; (try go_bits); refine hK _ _ ?_)); clear hK K) | (refine Abs.step_load (v := ?_) rfl rfl (by kernel_rfl) rfl (fun w0 hI => ?_) (fun K hK => ?_); rotate_left; (· have z0 := (rcell (kp hI (f_l1))).1; have z1 := (rcell (kp hI (f_s1))).1; go_simp; rfl); (simp only [Act.put, List.setIfInBounds_toArray, List.set_cons_zero, List.set_cons_succ]; refine hK _ _ ?_; clear hK K)) | (refine Abs.step_skip rfl rfl (fun K hK => ?_); (simp only [Act.put, List.setIfInBounds_toArray, List.set_cons_zero, List.set_cons_succ]; refine hK _ _ ?_; clear hK K)))
  (refine Abs.step_call_val (f := ?_) (args := ?_) (v := ?_) rfl rfl rfl rfl (fun w0 => ?_) (fun w0 hI => ?_) (fun K hK => ?_); rotate_left 3; (· go_simp; (constructor <;> rfl)); (· exact c2 _); (simp only [Act.put, List.setIfInBounds_toArray, List.set_cons_zero, List.set_cons_succ]; refine hK _ _ ?_; clear hK K))
  repeat (first | (refine Abs.step_pure rfl rfl (fun K hK => ?_); go_simp; (try go_bits); (first | refine hK _ _ ?_ | (simp only [↓IntWalk.iteOmega]; go_simp; (try go_bits); refine hK _ _ ?_)); clear hK K) | (refine Abs.step_load (v := ?_) rfl rfl (by kernel_rfl) rfl (fun w0 hI => ?_) (fun K hK => ?_); rotate_left; (· have z0 := (rcell (kp hI (f_l1))).1; have z1 := (rcell (kp hI (f_s1))).1; go_simp; rfl); (simp only [Act.put, List.setIfInBounds_toArray, List.set_cons_zero, List.set_cons_succ]; refine hK _ _ ?_; clear hK K)) | (refine Abs.step_skip rfl rfl (fun K hK => ?_); (simp only [Act.put, List.setIfInBounds_toArray, List.set_cons_zero, List.set_cons_succ]; refine hK _ _ ?_; clear hK K)))
  intro w2 hb2 hx0 hx1 hx2
  clear hx0 hx1 hx2
  simp only [Abs.T_setF, Abs.T_addA, Abs.T_push, Abs.T_start]
  have f_l2 := kp hb2 (f_l1)
  have f_s2 := kp hb2 (f_s1)
  have hB2 := bB hB1 hb2
  obtain ⟨zl_a, zl_b, ll2⟩ := rcell f_l2
  obtain ⟨zs_a, zs_b, ls2⟩ := rcell f_s2
  go_wp2
  go_ret
  exact ⟨by simp, hB2⟩

set_option maxRecDepth 100000 in
set_option maxHeartbeats 2000000 in
theorem right_3 (A R N D n d : Int) (c1 : ∀ w, Calls Tryz.prog 59 #[.int .i64 A] w fun e w' => e = .returned (.bool true) ∧ Below w.heap.size w w') (c2 : ∀ w, Calls Tryz.prog 60 #[.agg #[.int .i64 N, .int .i64 D]] w fun e w' => e = .returned (.bool true) ∧ Below w.heap.size w w') (c3 : ∀ w, Calls Tryz.prog 61 #[.agg #[.int .i64 N, .int .i64 D]] w fun e w' => e = .returned (.agg #[.int .i64 N, .int .i64 d]) ∧ Below w.heap.size w w') (hd : ¬ d = D) (w : World) :
    Calls Tryz.prog 34 #[.agg #[.int .i64 A, .int .i64 R, .int .i64 N, .int .i64 D]] w fun e w' => e = .returned (.bool false) ∧ Below w.heap.size w w' := by
  go_enter Tryz.func34, Tryz.ntmps34
  go_wp2_with fail
  have f_l1 := (ka (na w #[.int .i64 A, .int .i64 R, .int .i64 N, .int .i64 D] 24) (.cells #[.int .i64 N, .int .i64 D] 97))
  have f_s1 := (na1 w (.cells #[.int .i64 A, .int .i64 R, .int .i64 N, .int .i64 D] 24) #[.int .i64 N, .int .i64 D] 97)
  have hB1 := (bA (bA (b0 w) (.cells #[.int .i64 A, .int .i64 R, .int .i64 N, .int .i64 D] 24)) (.cells #[.int .i64 N, .int .i64 D] 97))
  have ll1 := (rcell f_l1).2.2
  have ls1 := (rcell f_s1).2.2
  refine Abs.wp_region_abs (Abs.cls0 _) [0, 1, 2, 3, 4, 5, 6, 7, 8, 9, 10, 11, 12, 13, 14, 15, 16, 17, 18, 19, 20, 21, 22, 23, 24, 25] (by kernel_rfl) (by kernel_rfl) (Below.refl _ _).drew ?_
  repeat (first | (refine Abs.step_pure rfl rfl (fun K hK => ?_); go_simp; (try go_bits); (first | refine hK _ _ ?_ | (simp only [↓IntWalk.iteOmega]; go_simp; (try go_bits); refine hK _ _ ?_)); clear hK K) | (refine Abs.step_load (v := ?_) rfl rfl (by kernel_rfl) rfl (fun w0 hI => ?_) (fun K hK => ?_); rotate_left; (· have z0 := (rcell (kp hI (f_l1))).1; have z1 := (rcell (kp hI (f_s1))).1; go_simp; rfl); (simp only [Act.put, List.setIfInBounds_toArray, List.set_cons_zero, List.set_cons_succ]; refine hK _ _ ?_; clear hK K)) | (refine Abs.step_skip rfl rfl (fun K hK => ?_); (simp only [Act.put, List.setIfInBounds_toArray, List.set_cons_zero, List.set_cons_succ]; refine hK _ _ ?_; clear hK K)))
  (refine Abs.step_call_val (f := ?_) (args := ?_) (v := ?_) rfl rfl rfl rfl (fun w0 => ?_) (fun w0 hI => ?_) (fun K hK => ?_); rotate_left 3; (· go_simp; (constructor <;> rfl)); (· exact c1 _); (simp only [Act.put, List.setIfInBounds_toArray, List.set_cons_zero, List.set_cons_succ]; refine hK _ _ ?_; clear hK K))
  repeat (first | (refine Abs.step_pure rfl rfl (fun K hK => ?_); go_simp; (try go_bits); (first | refine hK _ _ ?_ | (simp only [↓IntWalk.iteOmega]; go_simp; (try go_bits); refine hK _ _ ?_)); clear hK K) | (refine Abs.step_load (v := ?_) rfl rfl (by kernel_rfl) rfl (fun w0 hI => ?_) (fun K hK => ?_); rotate_left; (· have z0 := (rcell (kp hI (f_l1))).1; have z1 := (rcell (kp hI (f_s1))).1; go_simp; rfl); (simp only [Act.put, List.setIfInBounds_toArray, List.set_cons_zero, List.set_cons_succ]; refine hK _ _ ?_; clear hK K)) | (refine Abs.step_skip rfl rfl (fun K hK => ?_); (simp only [Act.put, List.setIfInBounds_toArray, List.set_cons_zero, List.set_cons_succ]; refine hK _ _ ?_; clear hK K)))
  (refine Abs.step_call_val (f := ?_) (args := ?_) (v := ?_) rfl rfl rfl rfl (fun w0 => ?_) (fun w0 hI => ?_) (fun K hK => ?_); rotate_left 3; (· go_simp; (constructor <;> rfl)); (· exact c2 _); (simp only [Act.put, List.setIfInBounds_toArray, List.set_cons_zero, List.set_cons_succ]; refine hK _ _ ?_; clear hK K))
  repeat (first | (refine Abs.step_pure rfl rfl (fun K hK => ?_); go_simp; (try go_bits); (first | refine hK _ _ ?_ | (simp only [↓IntWalk.iteOmega]; go_simp; (try go_bits); refine hK _ _ ?_)); clear hK K) | (refine Abs.step_load (v := ?_) rfl rfl (by kernel_rfl) rfl (fun w0 hI => ?_) (fun K hK => ?_); rotate_left; (· have z0 := (rcell (kp hI (f_l1))).1; have z1 := (rcell (kp hI (f_s1))).1; go_simp; rfl); (simp only [Act.put, List.setIfInBounds_toArray, List.set_cons_zero, List.set_cons_succ]; refine hK _ _ ?_; clear hK K)) | (refine Abs.step_skip rfl rfl (fun K hK => ?_); (simp only [Act.put, List.setIfInBounds_toArray, List.set_cons_zero, List.set_cons_succ]; refine hK _ _ ?_; clear hK K)))
  (refine Abs.step_call_val (f := ?_) (args := ?_) (v := ?_) rfl rfl rfl rfl (fun w0 => ?_) (fun w0 hI => ?_) (fun K hK => ?_); rotate_left 3; (· go_simp; (constructor <;> rfl)); (· exact c3 _); (simp only [Act.put, List.setIfInBounds_toArray, List.set_cons_zero, List.set_cons_succ]; refine hK _ _ ?_; clear hK K))
  repeat (first | (refine Abs.step_pure rfl rfl (fun K hK => ?_); go_simp; (try go_bits); (first | refine hK _ _ ?_ | (simp only [↓IntWalk.iteOmega]; go_simp; (try go_bits); refine hK _ _ ?_)); clear hK K) | (refine Abs.step_load (v := ?_) rfl rfl (by kernel_rfl) rfl (fun w0 hI => ?_) (fun K hK => ?_); rotate_left; (· have z0 := (rcell (kp hI (f_l1))).1; have z1 := (rcell (kp hI (f_s1))).1; go_simp; rfl); (simp only [Act.put, List.setIfInBounds_toArray, List.set_cons_zero, List.set_cons_succ]; refine hK _ _ ?_; clear hK K)) | (refine Abs.step_skip rfl rfl (fun K hK => ?_); (simp only [Act.put, List.setIfInBounds_toArray, List.set_cons_zero, List.set_cons_succ]; refine hK _ _ ?_; clear hK K)))
  intro w2 hb2 hx0 hx1 hx2
  clear hx0 hx1 hx2
  simp only [Abs.T_setF, Abs.T_addA, Abs.T_push, Abs.T_start]
  have f_l2 := kp hb2 (f_l1)
  have f_s2 := kp hb2 (f_s1)
  have hB2 := bB hB1 hb2
  obtain ⟨zl_a, zl_b, ll2⟩ := rcell f_l2
  obtain ⟨zs_a, zs_b, ls2⟩ := rcell f_s2
  go_wp2
  go_ret
  exact ⟨by simp, hB2⟩

set_option maxRecDepth 100000 in
set_option maxHeartbeats 2000000 in
theorem right_4 (A R N D n d : Int) (c1 : ∀ w, Calls Tryz.prog 59 #[.int .i64 A] w fun e w' => e = .returned (.bool true) ∧ Below w.heap.size w w') (c2 : ∀ w, Calls Tryz.prog 60 #[.agg #[.int .i64 N, .int .i64 D]] w fun e w' => e = .returned (.bool true) ∧ Below w.heap.size w w') (c3 : ∀ w, Calls Tryz.prog 61 #[.agg #[.int .i64 N, .int .i64 D]] w fun e w' => e = .returned (.agg #[.int .i64 n, .int .i64 d]) ∧ Below w.heap.size w w') (hn : ¬ n = N) (w : World) :
    Calls Tryz.prog 34 #[.agg #[.int .i64 A, .int .i64 R, .int .i64 N, .int .i64 D]] w fun e w' => e = .returned (.bool false) ∧ Below w.heap.size w w' := by
  go_enter Tryz.func34, Tryz.ntmps34
  go_wp2_with fail
  have f_l1 := (ka (na w #[.int .i64 A, .int .i64 R, .int .i64 N, .int .i64 D] 24) (.cells #[.int .i64 N, .int .i64 D] 97))
  have f_s1 := (na1 w (.cells #[.int .i64 A, .int .i64 R, .int .i64 N, .int .i64 D] 24) #[.int .i64 N, .int .i64 D] 97)
  have hB1 := (bA (bA (b0 w) (.cells #[.int .i64 A, .int .i64 R, .int .i64 N, .int .i64 D] 24)) (.cells #[.int .i64 N, .int .i64 D] 97))
  have ll1 := (rcell f_l1).2.2
  have ls1 := (rcell f_s1).2.2
  refine Abs.wp_region_abs (Abs.cls0 _) [0, 1, 2, 3, 4, 5, 6, 7, 8, 9, 10, 11, 12, 13, 14, 15, 16, 17, 18, 19, 20, 21, 22, 23, 24, 25] (by kernel_rfl) (by kernel_rfl) (Below.refl _ _).drew ?_
  repeat (first | (refine Abs.step_pure rfl rfl (fun K hK => ?_); go_simp; (try go_bits); (first | refine hK _ _ ?_ | (simp only [↓IntWalk.iteOmega]; go_simp; (try go_bits); refine hK _ _ ?_)); clear hK K) | (refine Abs.step_load (v := ?_) rfl rfl (by kernel_rfl) rfl (fun w0 hI => ?_) (fun K hK => ?_); rotate_left; (· have z0 := (rcell (kp hI (f_l1))).1; have z1 := (rcell (kp hI (f_s1))).1; go_simp; rfl); (simp only [Act.put, List.setIfInBounds_toArray, List.set_cons_zero, List.set_cons_succ]; refine hK _ _ ?_; clear hK K)) | (refine Abs.step_skip rfl rfl (fun K hK => ?_); (simp only [Act.put, List.setIfInBounds_toArray, List.set_cons_zero, List.set_cons_succ]; refine hK _ _ ?_; clear hK K)))
  (refine Abs.step_call_val (f := ?_) (args := ?_) (v := ?_) rfl rfl rfl rfl (fun w0 => ?_) (fun w0 hI => ?_) (fun K hK => ?_); rotate_left 3; (· go_simp; (constructor <;> rfl)); (· exact c1 _); (simp only [Act.put, List.setIfInBounds_toArray, List.set_cons_zero, List.set_cons_succ]; refine hK _ _ ?_; clear hK K))
  repeat (first | (refine Abs.step_pure rfl rfl (fun K hK => ?_); go_simp; (try go_bits); (first | refine hK _ _ ?_ | (simp only [↓IntWalk.iteOmega]; go_simp; (try go_bits); refine hK _ _ ?_)); clear hK K) | (refine Abs.step_load (v := ?_) rfl rfl (by kernel_rfl) rfl (fun w0 hI => ?_) (fun K hK => ?_); rotate_left; (· have z0 := (rcell (kp hI (f_l1))).1; have z1 := (rcell (kp hI (f_s1))).1; go_simp; rfl); (simp only [Act.put, List.setIfInBounds_toArray, List.set_cons_zero, List.set_cons_succ]; refine hK _ _ ?_; clear hK K)) | (refine Abs.step_skip rfl rfl (fun K hK => ?_); (simp only [Act.put, List.setIfInBounds_toArray, List.set_cons_zero, List.set_cons_succ]; refine hK _ _ ?_; clear hK K)))
  (refine Abs.step_call_val (f := ?_) (args := ?_) (v := ?_) rfl rfl rfl rfl (fun w0 => ?_) (fun w0 hI => ?_) (fun K hK => ?_); rotate_left 3; (· go_simp; (constructor <;> rfl)); (· exact c2 _); (simp only [Act.put, List.setIfInBounds_toArray, List.set_cons_zero, List.set_cons_succ]; refine hK _ _ ?_; clear hK K))
  repeat (first | (refine Abs.step_pure rfl rfl (fun K hK => ?_); go_simp; (try go_bits); (first | refine hK _ _ ?_ | (simp only [↓IntWalk.iteOmega]; go_simp; (try go_bits); refine hK _ _ ?_)); clear hK K) | (refine Abs.step_load (v := ?_) rfl rfl (by kernel_rfl) rfl (fun w0 hI => ?_) (fun K hK => ?_); rotate_left; (· have z0 := (rcell (kp hI (f_l1))).1; have z1 := (rcell (kp hI (f_s1))).1; go_simp; rfl); (simp only [Act.put, List.setIfInBounds_toArray, List.set_cons_zero, List.set_cons_succ]; refine hK _ _ ?_; clear hK K)) | (refine Abs.step_skip rfl rfl (fun K hK => ?_); (simp only [Act.put, List.setIfInBounds_toArray, List.set_cons_zero, List.set_cons_succ]; refine hK _ _ ?_; clear hK K)))
  (refine Abs.step_call_val (f := ?_) (args := ?_) (v := ?_) rfl rfl rfl rfl (fun w0 => ?_) (fun w0 hI => ?_) (fun K hK => ?_); rotate_left 3; (· go_simp; (constructor <;> rfl)); (· exact c3 _); (simp only [Act.put, List.setIfInBounds_toArray, List.set_cons_zero, List.set_cons_succ]; refine hK _ _ ?_; clear hK K))
  repeat (first | (refine Abs.step_pure rfl rfl (fun K hK => ?_); go_simp; (try go_bits); (first | refine hK _ _ ?_ | (simp only [↓IntWalk.iteOmega]; go_simp; (try go_bits); refine hK _ _ ?_)); clear hK K) | (refine Abs.step_load (v := ?_) rfl rfl (by kernel_rfl) rfl (fun w0 hI => ?_) (fun K hK => ?_); rotate_left; (· have z0 := (rcell (kp hI (f_l1))).1; have z1 := (rcell (kp hI (f_s1))).1; go_simp; rfl); (simp only [Act.put, List.setIfInBounds_toArray, List.set_cons_zero, List.set_cons_succ]; refine hK _ _ ?_; clear hK K)) | (refine Abs.step_skip rfl rfl (fun K hK => ?_); (simp only [Act.put, List.setIfInBounds_toArray, List.set_cons_zero, List.set_cons_succ]; refine hK _ _ ?_; clear hK K)))
  intro w2 hb2 hx0 hx1 hx2
  clear hx0 hx1 hx2
  simp only [Abs.T_setF, Abs.T_addA, Abs.T_push, Abs.T_start]
  have f_l2 := kp hb2 (f_l1)
  have f_s2 := kp hb2 (f_s1)
  have hB2 := bB hB1 hb2
  obtain ⟨zl_a, zl_b, ll2⟩ := rcell f_l2
  obtain ⟨zs_a, zs_b, ls2⟩ := rcell f_s2
  go_wp2
  go_ret
  exact ⟨by simp, hB2⟩

set_option maxRecDepth 100000 in
set_option maxHeartbeats 2000000 in
theorem right_5 (A R N D n d : Int) (c1 : ∀ w, Calls Tryz.prog 59 #[.int .i64 A] w fun e w' => e = .returned (.bool true) ∧ Below w.heap.size w w') (c2 : ∀ w, Calls Tryz.prog 60 #[.agg #[.int .i64 N, .int .i64 D]] w fun e w' => e = .returned (.bool true) ∧ Below w.heap.size w w') (c3 : ∀ w, Calls Tryz.prog 61 #[.agg #[.int .i64 N, .int .i64 D]] w fun e w' => e = .returned (.agg #[.int .i64 N, .int .i64 D]) ∧ Below w.heap.size w w') (hr : ¬ 0 ≤ R) (w : World) :
    Calls Tryz.prog 34 #[.agg #[.int .i64 A, .int .i64 R, .int .i64 N, .int .i64 D]] w fun e w' => e = .returned (.bool false) ∧ Below w.heap.size w w' := by
  have q1 : decide (0 ≤ R) = false := decide_eq_false hr
  clear hr
  go_enter Tryz.func34, Tryz.ntmps34
  go_wp2_with fail
  have f_l1 := (ka (na w #[.int .i64 A, .int .i64 R, .int .i64 N, .int .i64 D] 24) (.cells #[.int .i64 N, .int .i64 D] 97))
  have f_s1 := (na1 w (.cells #[.int .i64 A, .int .i64 R, .int .i64 N, .int .i64 D] 24) #[.int .i64 N, .int .i64 D] 97)
  have hB1 := (bA (bA (b0 w) (.cells #[.int .i64 A, .int .i64 R, .int .i64 N, .int .i64 D] 24)) (.cells #[.int .i64 N, .int .i64 D] 97))
  have ll1 := (rcell f_l1).2.2
  have ls1 := (rcell f_s1).2.2
  refine Abs.wp_region_abs (Abs.cls0 _) [0, 1, 2, 3, 4, 5, 6, 7, 8, 9, 10, 11, 12, 13, 14, 15, 16, 17, 18, 19, 20, 21, 22, 23, 24, 25] (by kernel_rfl) (by kernel_rfl) (Below.refl _ _).drew ?_
  repeat (first | (refine Abs.step_pure rfl rfl (fun K hK => ?_); go_simp; (try go_bits); (first | refine hK _ _ ?_ | (simp only [↓IntWalk.iteOmega]; go_simp; (try go_bits); refine hK _ _ ?_)); clear hK K) | (refine Abs.step_load (v := ?_) rfl rfl (by kernel_rfl) rfl (fun w0 hI => ?_) (fun K hK => ?_); rotate_left; (· have z0 := (rcell (kp hI (f_l1))).1; have z1 := (rcell (kp hI (f_s1))).1; go_simp; rfl); (simp only [Act.put, List.setIfInBounds_toArray, List.set_cons_zero, List.set_cons_succ]; refine hK _ _ ?_; clear hK K)) | (refine Abs.step_skip rfl rfl (fun K hK => ?_); (simp only [Act.put, List.setIfInBounds_toArray, List.set_cons_zero, List.set_cons_succ]; refine hK _ _ ?_; clear hK K)))
  (refine Abs.step_call_val (f := ?_) (args := ?_) (v := ?_) rfl rfl rfl rfl (fun w0 => ?_) (fun w0 hI => ?_) (fun K hK => ?_); rotate_left 3; (· go_simp; (constructor <;> rfl)); (· exact c1 _); (simp only [Act.put, List.setIfInBounds_toArray, List.set_cons_zero, List.set_cons_succ]; refine hK _ _ ?_; clear hK K))
  repeat (first | (refine Abs.step_pure rfl rfl (fun K hK => ?_); go_simp; (try go_bits); (first | refine hK _ _ ?_ | (simp only [↓IntWalk.iteOmega]; go_simp; (try go_bits); refine hK _ _ ?_)); clear hK K) | (refine Abs.step_load (v := ?_) rfl rfl (by kernel_rfl) rfl (fun w0 hI => ?_) (fun K hK => ?_); rotate_left; (· have z0 := (rcell (kp hI (f_l1))).1; have z1 := (rcell (kp hI (f_s1))).1; go_simp; rfl); (simp only [Act.put, List.setIfInBounds_toArray, List.set_cons_zero, List.set_cons_succ]; refine hK _ _ ?_; clear hK K)) | (refine Abs.step_skip rfl rfl (fun K hK => ?_); (simp only [Act.put, List.setIfInBounds_toArray, List.set_cons_zero, List.set_cons_succ]; refine hK _ _ ?_; clear hK K)))
  (refine Abs.step_call_val (f := ?_) (args := ?_) (v := ?_) rfl rfl rfl rfl (fun w0 => ?_) (fun w0 hI => ?_) (fun K hK => ?_); rotate_left 3; (· go_simp; (constructor <;> rfl)); (· exact c2 _); (simp only [Act.put, List.setIfInBounds_toArray, List.set_cons_zero, List.set_cons_succ]; refine hK _ _ ?_; clear hK K))
  repeat (first | (refine Abs.step_pure rfl rfl (fun K hK => ?_); go_simp; (try go_bits); (first | refine hK _ _ ?_ | (simp only [↓IntWalk.iteOmega]; go_simp; (try go_bits); refine hK _ _ ?_)); clear hK K) | (refine Abs.step_load (v := ?_) rfl rfl (by kernel_rfl) rfl (fun w0 hI => ?_) (fun K hK => ?_); rotate_left; (· have z0 := (rcell (kp hI (f_l1))).1; have z1 := (rcell (kp hI (f_s1))).1; go_simp; rfl); (simp only [Act.put, List.setIfInBounds_toArray, List.set_cons_zero, List.set_cons_succ]; refine hK _ _ ?_; clear hK K)) | (refine Abs.step_skip rfl rfl (fun K hK => ?_); (simp only [Act.put, List.setIfInBounds_toArray, List.set_cons_zero, List.set_cons_succ]; refine hK _ _ ?_; clear hK K)))
  (refine Abs.step_call_val (f := ?_) (args := ?_) (v := ?_) rfl rfl rfl rfl (fun w0 => ?_) (fun w0 hI => ?_) (fun K hK => ?_); rotate_left 3; (· go_simp; (constructor <;> rfl)); (· exact c3 _); (simp only [Act.put, List.setIfInBounds_toArray, List.set_cons_zero, List.set_cons_succ]; refine hK _ _ ?_; clear hK K))
  repeat (first | (refine Abs.step_pure rfl rfl (fun K hK => ?_); go_simp; (try go_bits); (first | refine hK _ _ ?_ | (simp only [↓IntWalk.iteOmega]; go_simp; (try go_bits); refine hK _ _ ?_)); clear hK K) | (refine Abs.step_load (v := ?_) rfl rfl (by kernel_rfl) rfl (fun w0 hI => ?_) (fun K hK => ?_); rotate_left; (· have z0 := (rcell (kp hI (f_l1))).1; have z1 := (rcell (kp hI (f_s1))).1; go_simp; rfl); (simp only [Act.put, List.setIfInBounds_toArray, List.set_cons_zero, List.set_cons_succ]; refine hK _ _ ?_; clear hK K)) | (refine Abs.step_skip rfl rfl (fun K hK => ?_); (simp only [Act.put, List.setIfInBounds_toArray, List.set_cons_zero, List.set_cons_succ]; refine hK _ _ ?_; clear hK K)))
  intro w2 hb2 hx0 hx1 hx2
  clear hx0 hx1 hx2
  simp only [Abs.T_setF, Abs.T_addA, Abs.T_push, Abs.T_start]
  have f_l2 := kp hb2 (f_l1)
  have f_s2 := kp hb2 (f_s1)
  have hB2 := bB hB1 hb2
  obtain ⟨zl_a, zl_b, ll2⟩ := rcell f_l2
  obtain ⟨zs_a, zs_b, ls2⟩ := rcell f_s2
  go_wp2
  go_ret
  exact ⟨by simp, hB2⟩

set_option maxRecDepth 100000 in
set_option maxHeartbeats 2000000 in
theorem right_6 (A R N D n d : Int) (c1 : ∀ w, Calls Tryz.prog 59 #[.int .i64 A] w fun e w' => e = .returned (.bool true) ∧ Below w.heap.size w w') (c2 : ∀ w, Calls Tryz.prog 60 #[.agg #[.int .i64 N, .int .i64 D]] w fun e w' => e = .returned (.bool true) ∧ Below w.heap.size w w') (c3 : ∀ w, Calls Tryz.prog 61 #[.agg #[.int .i64 N, .int .i64 D]] w fun e w' => e = .returned (.agg #[.int .i64 N, .int .i64 D]) ∧ Below w.heap.size w w') (hr : 0 ≤ R) (hd : ¬ R < D) (w : World) :
    Calls Tryz.prog 34 #[.agg #[.int .i64 A, .int .i64 R, .int .i64 N, .int .i64 D]] w fun e w' => e = .returned (.bool false) ∧ Below w.heap.size w w' := by
  have q1 : decide (0 ≤ R) = true := decide_eq_true hr
  have q2 : decide (R < D) = false := decide_eq_false hd
  clear hr hd
  go_enter Tryz.func34, Tryz.ntmps34
  go_wp2_with fail
  have f_l1 := (ka (na w #[.int .i64 A, .int .i64 R, .int .i64 N, .int .i64 D] 24) (.cells #[.int .i64 N, .int .i64 D] 97))
  have f_s1 := (na1 w (.cells #[.int .i64 A, .int .i64 R, .int .i64 N, .int .i64 D] 24) #[.int .i64 N, .int .i64 D] 97)
  have hB1 := (bA (bA (b0 w) (.cells #[.int .i64 A, .int .i64 R, .int .i64 N, .int .i64 D] 24)) (.cells #[.int .i64 N, .int .i64 D] 97))
  have ll1 := (rcell f_l1).2.2
  have ls1 := (rcell f_s1).2.2
  refine Abs.wp_region_abs (Abs.cls0 _) [0, 1, 2, 3, 4, 5, 6, 7, 8, 9, 10, 11, 12, 13, 14, 15, 16, 17, 18, 19, 20, 21, 22, 23, 24, 25] (by kernel_rfl) (by kernel_rfl) (Below.refl _ _).drew ?_
  repeat (first | (refine Abs.step_pure rfl rfl (fun K hK => ?_); go_simp; (try go_bits); (first | refine hK _ _ ?_ | (simp only [↓IntWalk.iteOmega]; go_simp; (try go_bits); refine hK _ _ ?_)); clear hK K) | (refine Abs.step_load (v := ?_) rfl rfl (by kernel_rfl) rfl (fun w0 hI => ?_) (fun K hK => ?_); rotate_left; (· have z0 := (rcell (kp hI (f_l1))).1; have z1 := (rcell (kp hI (f_s1))).1; go_simp; rfl); (simp only [Act.put, List.setIfInBounds_toArray, List.set_cons_zero, List.set_cons_succ]; refine hK _ _ ?_; clear hK K)) | (refine Abs.step_skip rfl rfl (fun K hK => ?_); (simp only [Act.put, List.setIfInBounds_toArray, List.set_cons_zero, List.set_cons_succ]; refine hK _ _ ?_; clear hK K)))
  (refine Abs.step_call_val (f := ?_) (args := ?_) (v := ?_) rfl rfl rfl rfl (fun w0 => ?_) (fun w0 hI => ?_) (fun K hK => ?_); rotate_left 3; (· go_simp; (constructor <;> rfl)); (· exact c1 _); (simp only [Act.put, List.setIfInBounds_toArray, List.set_cons_zero, List.set_cons_succ]; refine hK _ _ ?_; clear hK K))
  repeat (first | (refine Abs.step_pure rfl rfl (fun K hK => ?_); go_simp; (try go_bits); (first | refine hK _ _ ?_ | (simp only [↓IntWalk.iteOmega]; go_simp; (try go_bits); refine hK _ _ ?_)); clear hK K) | (refine Abs.step_load (v := ?_) rfl rfl (by kernel_rfl) rfl (fun w0 hI => ?_) (fun K hK => ?_); rotate_left; (· have z0 := (rcell (kp hI (f_l1))).1; have z1 := (rcell (kp hI (f_s1))).1; go_simp; rfl); (simp only [Act.put, List.setIfInBounds_toArray, List.set_cons_zero, List.set_cons_succ]; refine hK _ _ ?_; clear hK K)) | (refine Abs.step_skip rfl rfl (fun K hK => ?_); (simp only [Act.put, List.setIfInBounds_toArray, List.set_cons_zero, List.set_cons_succ]; refine hK _ _ ?_; clear hK K)))
  (refine Abs.step_call_val (f := ?_) (args := ?_) (v := ?_) rfl rfl rfl rfl (fun w0 => ?_) (fun w0 hI => ?_) (fun K hK => ?_); rotate_left 3; (· go_simp; (constructor <;> rfl)); (· exact c2 _); (simp only [Act.put, List.setIfInBounds_toArray, List.set_cons_zero, List.set_cons_succ]; refine hK _ _ ?_; clear hK K))
  repeat (first | (refine Abs.step_pure rfl rfl (fun K hK => ?_); go_simp; (try go_bits); (first | refine hK _ _ ?_ | (simp only [↓IntWalk.iteOmega]; go_simp; (try go_bits); refine hK _ _ ?_)); clear hK K) | (refine Abs.step_load (v := ?_) rfl rfl (by kernel_rfl) rfl (fun w0 hI => ?_) (fun K hK => ?_); rotate_left; (· have z0 := (rcell (kp hI (f_l1))).1; have z1 := (rcell (kp hI (f_s1))).1; go_simp; rfl); (simp only [Act.put, List.setIfInBounds_toArray, List.set_cons_zero, List.set_cons_succ]; refine hK _ _ ?_; clear hK K)) | (refine Abs.step_skip rfl rfl (fun K hK => ?_); (simp only [Act.put, List.setIfInBounds_toArray, List.set_cons_zero, List.set_cons_succ]; refine hK _ _ ?_; clear hK K)))
  (refine Abs.step_call_val (f := ?_) (args := ?_) (v := ?_) rfl rfl rfl rfl (fun w0 => ?_) (fun w0 hI => ?_) (fun K hK => ?_); rotate_left 3; (· go_simp; (constructor <;> rfl)); (· exact c3 _); (simp only [Act.put, List.setIfInBounds_toArray, List.set_cons_zero, List.set_cons_succ]; refine hK _ _ ?_; clear hK K))
  repeat (first | (refine Abs.step_pure rfl rfl (fun K hK => ?_); go_simp; (try go_bits); (first | refine hK _ _ ?_ | (simp only [↓IntWalk.iteOmega]; go_simp; (try go_bits); refine hK _ _ ?_)); clear hK K) | (refine Abs.step_load (v := ?_) rfl rfl (by kernel_rfl) rfl (fun w0 hI => ?_) (fun K hK => ?_); rotate_left; (· have z0 := (rcell (kp hI (f_l1))).1; have z1 := (rcell (kp hI (f_s1))).1; go_simp; rfl); (simp only [Act.put, List.setIfInBounds_toArray, List.set_cons_zero, List.set_cons_succ]; refine hK _ _ ?_; clear hK K)) | (refine Abs.step_skip rfl rfl (fun K hK => ?_); (simp only [Act.put, List.setIfInBounds_toArray, List.set_cons_zero, List.set_cons_succ]; refine hK _ _ ?_; clear hK K)))
  intro w2 hb2 hx0 hx1 hx2
  clear hx0 hx1 hx2
  simp only [Abs.T_setF, Abs.T_addA, Abs.T_push, Abs.T_start]
  have f_l2 := kp hb2 (f_l1)
  have f_s2 := kp hb2 (f_s1)
  have hB2 := bB hB1 hb2
  obtain ⟨zl_a, zl_b, ll2⟩ := rcell f_l2
  obtain ⟨zs_a, zs_b, ls2⟩ := rcell f_s2
  go_wp2
  go_ret
  exact ⟨by simp, hB2⟩

set_option maxRecDepth 100000 in
set_option maxHeartbeats 2000000 in
theorem right_7 (A R N D n d : Int) (c1 : ∀ w, Calls Tryz.prog 59 #[.int .i64 A] w fun e w' => e = .returned (.bool true) ∧ Below w.heap.size w w') (c2 : ∀ w, Calls Tryz.prog 60 #[.agg #[.int .i64 N, .int .i64 D]] w fun e w' => e = .returned (.bool true) ∧ Below w.heap.size w w') (c3 : ∀ w, Calls Tryz.prog 61 #[.agg #[.int .i64 N, .int .i64 D]] w fun e w' => e = .returned (.agg #[.int .i64 N, .int .i64 D]) ∧ Below w.heap.size w w') (hr : 0 ≤ R) (hd : R < D) (w : World) :
    Calls Tryz.prog 34 #[.agg #[.int .i64 A, .int .i64 R, .int .i64 N, .int .i64 D]] w fun e w' => e = .returned (.bool true) ∧ Below w.heap.size w w' := by
  have q1 : decide (0 ≤ R) = true := decide_eq_true hr
  have q2 : decide (R < D) = true := decide_eq_true hd
  clear hr hd
  go_enter Tryz.func34, Tryz.ntmps34
  go_wp2_with fail
  have f_l1 := (ka (na w #[.int .i64 A, .int .i64 R, .int .i64 N, .int .i64 D] 24) (.cells #[.int .i64 N, .int .i64 D] 97))
  have f_s1 := (na1 w (.cells #[.int .i64 A, .int .i64 R, .int .i64 N, .int .i64 D] 24) #[.int .i64 N, .int .i64 D] 97)
  have hB1 := (bA (bA (b0 w) (.cells #[.int .i64 A, .int .i64 R, .int .i64 N, .int .i64 D] 24)) (.cells #[.int .i64 N, .int .i64 D] 97))
  have ll1 := (rcell f_l1).2.2
  have ls1 := (rcell f_s1).2.2
  refine Abs.wp_region_abs (Abs.cls0 _) [0, 1, 2, 3, 4, 5, 6, 7, 8, 9, 10, 11, 12, 13, 14, 15, 16, 17, 18, 19, 20, 21, 22, 23, 24, 25] (by kernel_rfl) (by kernel_rfl) (Below.refl _ _).drew ?_
  repeat (first | (refine Abs.step_pure rfl rfl (fun K hK => ?_); go_simp; (try go_bits); (first | refine hK _ _ ?_ | (simp only [↓IntWalk.iteOmega]; go_simp; (try go_bits); refine hK _ _ ?_)); clear hK K) | (refine Abs.step_load (v := ?_) rfl rfl (by kernel_rfl) rfl (fun w0 hI => ?_) (fun K hK => ?_); rotate_left; (· have z0 := (rcell (kp hI (f_l1))).1; have z1 := (rcell (kp hI (f_s1))).1; go_simp; rfl); (simp only [Act.put, List.setIfInBounds_toArray, List.set_cons_zero, List.set_cons_succ]; refine hK _ _ ?_; clear hK K)) | (refine Abs.step_skip rfl rfl (fun K hK => ?_); (simp only [Act.put, List.setIfInBounds_toArray, List.set_cons_zero, List.set_cons_succ]; refine hK _ _ ?_; clear hK K)))
  (refine Abs.step_call_val (f := ?_) (args := ?_) (v := ?_) rfl rfl rfl rfl (fun w0 => ?_) (fun w0 hI => ?_) (fun K hK => ?_); rotate_left 3; (· go_simp; (constructor <;> rfl)); (· exact c1 _); (simp only [Act.put, List.setIfInBounds_toArray, List.set_cons_zero, List.set_cons_succ]; refine hK _ _ ?_; clear hK K))
  repeat (first | (refine Abs.step_pure rfl rfl (fun K hK => ?_); go_simp; (try go_bits); (first | refine hK _ _ ?_ | (simp only [↓IntWalk.iteOmega]; go_simp; (try go_bits); refine hK _ _ ?_)); clear hK K) | (refine Abs.step_load (v := ?_) rfl rfl (by kernel_rfl) rfl (fun w0 hI => ?_) (fun K hK => ?_); rotate_left; (· have z0 := (rcell (kp hI (f_l1))).1; have z1 := (rcell (kp hI (f_s1))).1; go_simp; rfl); (simp only [Act.put, List.setIfInBounds_toArray, List.set_cons_zero, List.set_cons_succ]; refine hK _ _ ?_; clear hK K)) | (refine Abs.step_skip rfl rfl (fun K hK => ?_); (simp only [Act.put, List.setIfInBounds_toArray, List.set_cons_zero, List.set_cons_succ]; refine hK _ _ ?_; clear hK K)))
  (refine Abs.step_call_val (f := ?_) (args := ?_) (v := ?_) rfl rfl rfl rfl (fun w0 => ?_) (fun w0 hI => ?_) (fun K hK => ?_); rotate_left 3; (· go_simp; (constructor <;> rfl)); (· exact c2 _); (simp only [Act.put, List.setIfInBounds_toArray, List.set_cons_zero, List.set_cons_succ]; refine hK _ _ ?_; clear hK K))
  repeat (first | (refine Abs.step_pure rfl rfl (fun K hK => ?_); go_simp; (try go_bits); (first | refine hK _ _ ?_ | (simp only [↓IntWalk.iteOmega]; go_simp; (try go_bits); refine hK _ _ ?_)); clear hK K) | (refine Abs.step_load (v := ?_) rfl rfl (by kernel_rfl) rfl (fun w0 hI => ?_) (fun K hK => ?_); rotate_left; (· have z0 := (rcell (kp hI (f_l1))).1; have z1 := (rcell (kp hI (f_s1))).1; go_simp; rfl); (simp only [Act.put, List.setIfInBounds_toArray, List.set_cons_zero, List.set_cons_succ]; refine hK _ _ ?_; clear hK K)) | (refine Abs.step_skip rfl rfl (fun K hK => ?_); (simp only [Act.put, List.setIfInBounds_toArray, List.set_cons_zero, List.set_cons_succ]; refine hK _ _ ?_; clear hK K)))
  (refine Abs.step_call_val (f := ?_) (args := ?_) (v := ?_) rfl rfl rfl rfl (fun w0 => ?_) (fun w0 hI => ?_) (fun K hK => ?_); rotate_left 3; (· go_simp; (constructor <;> rfl)); (· exact c3 _); (simp only [Act.put, List.setIfInBounds_toArray, List.set_cons_zero, List.set_cons_succ]; refine hK _ _ ?_; clear hK K))
  repeat (first | (refine Abs.step_pure rfl rfl (fun K hK => ?_); go_simp; (try go_bits); (first | refine hK _ _ ?_ | (simp only [↓IntWalk.iteOmega]; go_simp; (try go_bits); refine hK _ _ ?_)); clear hK K) | (refine Abs.step_load (v := ?_) rfl rfl (by kernel_rfl) rfl (fun w0 hI => ?_) (fun K hK => ?_); rotate_left; (· have z0 := (rcell (kp hI (f_l1))).1; have z1 := (rcell (kp hI (f_s1))).1; go_simp; rfl); (simp only [Act.put, List.setIfInBounds_toArray, List.set_cons_zero, List.set_cons_succ]; refine hK _ _ ?_; clear hK K)) | (refine Abs.step_skip rfl rfl (fun K hK => ?_); (simp only [Act.put, List.setIfInBounds_toArray, List.set_cons_zero, List.set_cons_succ]; refine hK _ _ ?_; clear hK K)))
  intro w2 hb2 hx0 hx1 hx2
  clear hx0 hx1 hx2
  simp only [Abs.T_setF, Abs.T_addA, Abs.T_push, Abs.T_start]
  have f_l2 := kp hb2 (f_l1)
  have f_s2 := kp hb2 (f_s1)
  have hB2 := bB hB1 hb2
  obtain ⟨zl_a, zl_b, ll2⟩ := rcell f_l2
  obtain ⟨zs_a, zs_b, ls2⟩ := rcell f_s2
  go_wp2
  go_ret
  exact ⟨by simp, hB2⟩

theorem ref_Right (A R N D : Int) (w : World) :
    Calls Tryz.prog 34 #[.agg #[.int .i64 A, .int .i64 R, .int .i64 N, .int .i64 D]] w fun e w' => e = .returned (.bool (isB A R N D)) ∧ Below w.heap.size w w' := by
  have c1 := ref_Back A
  have c2 := ref_Slope N D
  by_cases h1 : bkB A = true
  case neg =>
    have hb : isB A R N D = false := decide_eq_false fun h => h1 h.1
    rw [hb]
    have h1' : bkB A = false := by simpa using h1
    rw [h1'] at c1
    exact right_1 A R N D 0 0 c1 w
  rw [h1] at c1
  by_cases h2 : slB N D = true
  case neg =>
    have hb : isB A R N D = false := decide_eq_false fun h => h2 h.2.1
    rw [hb]
    have h2' : slB N D = false := by simpa using h2
    rw [h2'] at c2
    exact right_2 A R N D 0 0 c1 c2 w
  obtain ⟨d1, d2, d3, d4⟩ := slB_spec h2
  have c3 := ref_Lowest N D d1 (by omega) (by omega) (by omega)
  rw [h2] at c2
  by_cases h3 : lwN N D = N ∧ lwD N D = D
  case neg =>
    have hb : isB A R N D = false := decide_eq_false fun h => h3 h.2.2.1
    rw [hb]
    by_cases h4 : lwN N D = N
    · have h5 : ¬ lwD N D = D := fun h => h3 ⟨h4, h⟩
      rw [h4] at c3
      exact right_3 A R N D 0 _ c1 c2 c3 h5 w
    · exact right_4 A R N D _ _ c1 c2 c3 h4 w
  rw [h3.1, h3.2] at c3
  by_cases h4 : 0 ≤ R
  · by_cases h5 : R < D
    · have hb : isB A R N D = true := decide_eq_true ⟨h1, h2, h3, h4, h5⟩
      rw [hb]
      exact right_7 A R N D 0 0 c1 c2 c3 h4 h5 w
    · have hb : isB A R N D = false := decide_eq_false fun h => h5 h.2.2.2.2
      rw [hb]
      exact right_6 A R N D 0 0 c1 c2 c3 h4 h5 w
  · have hb : isB A R N D = false := decide_eq_false fun h => h4 h.2.2.2.1
    rw [hb]
    exact right_5 A R N D 0 0 c1 c2 c3 h4 w
end Go.Proofs.YtmpfbkeamihjbaaGreat
