/- yearbookref01.Wide and yearbookref06.Term, Right at this program. -/
import Derived.Test.YtlgjapjcdpikeaaRef13
set_option linter.unusedSimpArgs false
set_option linter.unusedVariables false
namespace Go.Proofs.Ytlgjapjcdpikeaa
open Go.RowKit

set_option maxRecDepth 100000 in
set_option maxHeartbeats 2000000 in
theorem ref_Wide_yes (x : Int) (A : Option Addr) (c : Nat) (h : Rng x) (w : World) (ha : Rd w A c (sz x.natAbs)) :
    Calls Try.prog 86 #[.agg #[.bool (decide (x < 0)), .slice A (sz x.natAbs).length c]] w fun e w' => e = .returned (.tuple #[.agg #[.int .i64 (hi x), .int .u64 (lo x)], .bool true]) ∧ Below w.heap.size w w' := by
  obtain ⟨h1, h2⟩ := h
  have e128 : (2 : Nat) ^ 128 = 340282366920938463463374607431768211456 := by decide
  have e64 : (2 : Nat) ^ 64 = 18446744073709551616 := by decide
  have c1 := fun w ha => ref_Fits x 127 (by decide) A c (Nat.le_trans (sz_len_lt (k := 128) (by omega)) (by decide)) w ha
  have hdec : decide (-((2 ^ 127 : Nat) : Int) ≤ x ∧ x < ((2 ^ 127 : Nat) : Int)) = true := decide_eq_true (by
    have e : ((2 ^ 127 : Nat) : Int) = 170141183460469231731687303715884105728 := by decide
    rw [e]; omega)
  rw [hdec, show ((127 : Nat) : Int) + 1 = 128 from rfl] at c1
  clear hdec
  by_cases hx : x < 0
  · rw [decide_eq_true hx] at c1 ⊢
    have c2 := ref_power 128 (by decide)
    have l1 : (sz (2 ^ 128)).length ≤ 1000 := Nat.le_trans (sz_len_lt (k := 129) (by decide)) (by decide)
    have c3 := fun A B c d w ha hb => ref_minus (2 ^ 128) x.natAbs A B c d l1 (by omega) w ha hb
    obtain ⟨T, hT⟩ : ∃ T, 2 ^ 128 - x.natAbs = T := ⟨_, rfl⟩
    rw [hT] at c3
    have tT : T < 2 ^ 128 := by omega
    have c4 := fun A c w ha => ref_word T 64 A c (Nat.le_trans (sz_len_lt tT) (by decide)) (by decide) w ha
    have c5 := fun A c w ha => ref_word T 0 A c (Nat.le_trans (sz_len_lt tT) (by decide)) (by decide) w ha
    have e6 : wrap64 ((T / 2 ^ 64 % 18446744073709551616 : Nat) : Int) = hi x := by
      rw [e64]
      simp only [wrap64]
      unfold hi
      omega
    have e7 : ((T / 2 ^ 0 % 18446744073709551616 : Nat) : Int) = lo x := by
      rw [Nat.pow_zero, Nat.div_one]
      unfold lo
      omega
    rw [e7] at c5
    have E6 := hide e6
    clear e6 e7 tT hT l1 e128 e64 h1 h2 hx
    generalize T / 2 ^ 64 % 18446744073709551616 = m at *
    generalize x.natAbs = n at *
    generalize lo x = L at *
    generalize hi x = H at *
    go_enter Try.func86, Try.ntmps86
    go_wp2_with fail
    refine (c1 _ (ha.below (bA (bA (b0 _) (.cells #[.bool true, .slice A (sz n).length c] 55)) (.cells #[.int .i64 0, .int .u64 0] 46)))).mono ?_
    rintro e w1 ⟨rfl, hb1⟩
    have f_a1 := kp hb1 (ka (na w #[.bool true, .slice A (sz n).length c] 55) (.cells #[.int .i64 0, .int .u64 0] 46))
    have f_o1 := kp hb1 (na1 w (.cells #[.bool true, .slice A (sz n).length c] 55) #[.int .i64 0, .int .u64 0] 46)
    have rd_a1 := (ha.below (bA (bA (b0 _) (.cells #[.bool true, .slice A (sz n).length c] 55)) (.cells #[.int .i64 0, .int .u64 0] 46))).below hb1
    have hB1 := bB (bA (bA (b0 w) (.cells #[.bool true, .slice A (sz n).length c] 55)) (.cells #[.int .i64 0, .int .u64 0] 46)) hb1
    obtain ⟨za_a, za_b, la1⟩ := rcell f_a1
    obtain ⟨zo_a, zo_b, lo1⟩ := rcell f_o1
    go_wp2_with fail
    refine (c2 _).mono ?_
    rintro e w2 ⟨A2, d2, rfl, hb2, rn_s2⟩
    have f_a2 := kp hb2 (f_a1)
    have f_o2 := kp hb2 (f_o1)
    have rd_a2 := rd_a1.below hb2
    have hB2 := bB hB1 hb2
    clear za_a za_b zo_a zo_b
    obtain ⟨za_a, za_b, la2⟩ := rcell f_a2
    obtain ⟨zo_a, zo_b, lo2⟩ := rcell f_o2
    go_wp2_with fail
    refine (c3 A2 A d2 c _ rn_s2 rd_a2).mono ?_
    rintro e w3 ⟨A3, d3, rfl, hb3, rn_s3⟩
    have f_a3 := kp hb3 (f_a2)
    have f_o3 := kp hb3 (f_o2)
    have rd_a3 := rd_a2.below hb3
    have rd_s23 := rn_s2.below hb3
    have hB3 := bB hB2 hb3
    clear za_a za_b zo_a zo_b
    obtain ⟨za_a, za_b, la3⟩ := rcell f_a3
    obtain ⟨zo_a, zo_b, lo3⟩ := rcell f_o3
    go_wp2_with fail
    refine (c4 A3 d3 _ rn_s3).mono ?_
    rintro e wq ⟨rfl, rfl⟩
    go_wp2_with fail
    refine (c5 A3 d3 _ rn_s3).mono ?_
    rintro e wq ⟨rfl, rfl⟩
    go_wp2_with fail
    (rw [row2 (f_o3)]; generalize hT : setRow _ _ _ = wE; obtain ⟨hbE, hgE⟩ := ret_row hB3 (by omega) (f_o3) hT; have zE := (rcell hgE).1; clear hT; refine bodyPost_ret (by simp [results, Try.results86, go_sem, zE]; try rfl) rfl ?_)
    exact ⟨by simp [E6.out], hbE⟩
  · rw [decide_eq_false hx] at c1 ⊢
    have tT : x.natAbs < 2 ^ 128 := by omega
    have c4 := fun A c w ha => ref_word x.natAbs 64 A c (Nat.le_trans (sz_len_lt tT) (by decide)) (by decide) w ha
    have c5 := fun A c w ha => ref_word x.natAbs 0 A c (Nat.le_trans (sz_len_lt tT) (by decide)) (by decide) w ha
    have e6 : wrap64 ((x.natAbs / 2 ^ 64 % 18446744073709551616 : Nat) : Int) = hi x := by
      rw [e64]
      simp only [wrap64]
      unfold hi
      omega
    have e7 : ((x.natAbs / 2 ^ 0 % 18446744073709551616 : Nat) : Int) = lo x := by
      rw [Nat.pow_zero, Nat.div_one]
      unfold lo
      omega
    rw [e7] at c5
    have E6 := hide e6
    clear e6 e7 tT e128 e64 h1 h2 hx
    generalize x.natAbs / 2 ^ 64 % 18446744073709551616 = m at *
    generalize x.natAbs = n at *
    generalize lo x = L at *
    generalize hi x = H at *
    go_enter Try.func86, Try.ntmps86
    go_wp2_with fail
    refine (c1 _ (ha.below (bA (bA (b0 _) (.cells #[.bool false, .slice A (sz n).length c] 55)) (.cells #[.int .i64 0, .int .u64 0] 46)))).mono ?_
    rintro e w1 ⟨rfl, hb1⟩
    have f_a1 := kp hb1 (ka (na w #[.bool false, .slice A (sz n).length c] 55) (.cells #[.int .i64 0, .int .u64 0] 46))
    have f_o1 := kp hb1 (na1 w (.cells #[.bool false, .slice A (sz n).length c] 55) #[.int .i64 0, .int .u64 0] 46)
    have rd_a1 := (ha.below (bA (bA (b0 _) (.cells #[.bool false, .slice A (sz n).length c] 55)) (.cells #[.int .i64 0, .int .u64 0] 46))).below hb1
    have hB1 := bB (bA (bA (b0 w) (.cells #[.bool false, .slice A (sz n).length c] 55)) (.cells #[.int .i64 0, .int .u64 0] 46)) hb1
    obtain ⟨za_a, za_b, la1⟩ := rcell f_a1
    obtain ⟨zo_a, zo_b, lo1⟩ := rcell f_o1
    go_wp2_with fail
    refine (c4 A c _ rd_a1).mono ?_
    rintro e wq ⟨rfl, rfl⟩
    go_wp2_with fail
    refine (c5 A c _ rd_a1).mono ?_
    rintro e wq ⟨rfl, rfl⟩
    go_wp2_with fail
    (rw [row2 (f_o1)]; generalize hT : setRow _ _ _ = wE; obtain ⟨hbE, hgE⟩ := ret_row hB1 (by omega) (f_o1) hT; have zE := (rcell hgE).1; clear hT; refine bodyPost_ret (by simp [results, Try.results86, go_sem, zE]; try rfl) rfl ?_)
    exact ⟨by simp [E6.out], hbE⟩

set_option maxRecDepth 100000 in
set_option maxHeartbeats 2000000 in
theorem term_f (x y z H L : Int) (g : Bool) (c1 : ∀ w, Calls Try.prog 34 #[.agg #[.int .i64 H, .int .u64 L]] w (GivesNum x w)) (c2 : ∀ w, Calls Try.prog 105 #[.int .i64 111] w (GivesNum y w)) (c3 : ∀ A B c d w, Rd w A c (sz y.natAbs) → Rd w B d (sz x.natAbs) → Calls Try.prog 61 #[.agg #[.bool (decide (y < 0)), .slice A (sz y.natAbs).length c], .agg #[.bool (decide (x < 0)), .slice B (sz x.natAbs).length d]] w fun e w' => e = .returned (.bool true) ∧ Below w.heap.size w w') (w : World) :
    Calls Try.prog 84 #[.agg #[.int .i64 H, .int .u64 L]] w fun e w' => e = .returned (.bool false) ∧ Below w.heap.size w w' := by
  go_enter Try.func84, Try.ntmps84
  go_wp2_with fail
  refine (c1 _).mono ?_
  rintro e w1 ⟨A1, e1, rfl, hb1, rn_x⟩
  have f_l1 := kp hb1 (na w #[.int .i64 H, .int .u64 L] 46)
  have hB1 := bB (bA (b0 w) (.cells #[.int .i64 H, .int .u64 L] 46)) hb1
  obtain ⟨zl_a, zl_b, ll1⟩ := rcell f_l1
  go_wp2_with fail
  refine (c2 _).mono ?_
  rintro e w2 ⟨A2, e2, rfl, hb2, rn_y⟩
  have f_l2 := kp hb2 (f_l1)
  have rd_x2 := rn_x.below hb2
  have hB2 := bB hB1 hb2
  clear zl_a zl_b
  obtain ⟨zl_a, zl_b, ll2⟩ := rcell f_l2
  go_wp2_with fail
  have f_l3 := (ka (ka (f_l2) (.cells #[.bool (decide (x < 0)), .slice A1 (sz x.natAbs).length e1] 55)) (.cells #[.bool (decide (y < 0)), .slice A2 (sz y.natAbs).length e2] 55))
  have f_u3 := (ka (na w2 #[.bool (decide (x < 0)), .slice A1 (sz x.natAbs).length e1] 55) (.cells #[.bool (decide (y < 0)), .slice A2 (sz y.natAbs).length e2] 55))
  have f_v3 := (na1 w2 (.cells #[.bool (decide (x < 0)), .slice A1 (sz x.natAbs).length e1] 55) #[.bool (decide (y < 0)), .slice A2 (sz y.natAbs).length e2] 55)
  have rd_x3 := (rd_x2.below (bA (bA (b0 _) (.cells #[.bool (decide (x < 0)), .slice A1 (sz x.natAbs).length e1] 55)) (.cells #[.bool (decide (y < 0)), .slice A2 (sz y.natAbs).length e2] 55)))
  have rd_y3 := (rn_y.below (bA (bA (b0 _) (.cells #[.bool (decide (x < 0)), .slice A1 (sz x.natAbs).length e1] 55)) (.cells #[.bool (decide (y < 0)), .slice A2 (sz y.natAbs).length e2] 55)))
  have hB3 := (bA (bA hB2 (.cells #[.bool (decide (x < 0)), .slice A1 (sz x.natAbs).length e1] 55)) (.cells #[.bool (decide (y < 0)), .slice A2 (sz y.natAbs).length e2] 55))
  clear zl_a zl_b
  have ll3 := (rcell f_l3).2.2
  have lu3 := (rcell f_u3).2.2
  have lv3 := (rcell f_v3).2.2
  refine Abs.wp_region_abs (Abs.cls0 _) [0, 1, 2, 3, 4, 5, 6, 7, 8, 9, 10, 11] (by kernel_rfl) (by kernel_rfl) (Below.refl _ _).drew ?_
  repeat (first | (refine Abs.step_pure rfl rfl (fun K hK => ?_); go_simp; (try go_bits); (first | refine hK _ _ ?_ | (simp only [↓IntWalk.iteOmega]; go_simp; (try go_bits); refine hK _ _ ?_)); clear hK K) | (refine Abs.step_load (v := ?_) rfl rfl (by kernel_rfl) rfl (fun w0 hI => ?_) (fun K hK => ?_); rotate_left; (· have z0 := (rcell (kp hI (f_u3))).1; have z1 := (rcell (kp hI (f_v3))).1; go_simp; rfl); (simp only [Act.put, List.setIfInBounds_toArray, List.set_cons_zero, List.set_cons_succ]; refine hK _ _ ?_; clear hK K)) | (refine Abs.step_skip rfl rfl (fun K hK => ?_); (simp only [Act.put, List.setIfInBounds_toArray, List.set_cons_zero, List.set_cons_succ]; refine hK _ _ ?_; clear hK K)))
  (refine Abs.step_call (f := ?_) (args := ?_) rfl rfl rfl rfl (fun v _ => v = .bool true) (fun _ _ _ h _ => h) (fun w0 => ?_) (fun w0 hI hF => ?_) (fun K hK v w0 hv => ?_); rotate_left 2; (· go_simp; (constructor <;> rfl)); (· exact (c3 _ _ _ _ _ (rd_y3.below hI) (rd_x3.below hI)).mono (fun _ _ h => ⟨_, h.1, h.2, rfl⟩)); (replace hv : v = .bool true := hv; subst hv; clear w0; simp only [Act.put, List.setIfInBounds_toArray, List.set_cons_zero, List.set_cons_succ]; refine hK _ _ ?_; clear hK K))
  repeat (first | (refine Abs.step_pure rfl rfl (fun K hK => ?_); go_simp; (try go_bits); (first | refine hK _ _ ?_ | (simp only [↓IntWalk.iteOmega]; go_simp; (try go_bits); refine hK _ _ ?_)); clear hK K) | (refine Abs.step_load (v := ?_) rfl rfl (by kernel_rfl) rfl (fun w0 hI => ?_) (fun K hK => ?_); rotate_left; (· have z0 := (rcell (kp hI (f_u3))).1; have z1 := (rcell (kp hI (f_v3))).1; go_simp; rfl); (simp only [Act.put, List.setIfInBounds_toArray, List.set_cons_zero, List.set_cons_succ]; refine hK _ _ ?_; clear hK K)) | (refine Abs.step_skip rfl rfl (fun K hK => ?_); (simp only [Act.put, List.setIfInBounds_toArray, List.set_cons_zero, List.set_cons_succ]; refine hK _ _ ?_; clear hK K)))
  intro w4 hb4 hx0 hx1 hx2
  clear hx0 hx1 hx2
  simp only [Abs.T_setF, Abs.T_addA, Abs.T_push, Abs.T_start]
  have f_l4 := kp hb4 (f_l3)
  have f_u4 := kp hb4 (f_u3)
  have f_v4 := kp hb4 (f_v3)
  have rd_x4 := rd_x3.below hb4
  have rd_y4 := rd_y3.below hb4
  have hB4 := bB hB3 hb4
  obtain ⟨zl_a, zl_b, ll4⟩ := rcell f_l4
  obtain ⟨zu_a, zu_b, lu4⟩ := rcell f_u4
  obtain ⟨zv_a, zv_b, lv4⟩ := rcell f_v4
  go_wp2
  go_ret
  exact ⟨by simp, hB4⟩

set_option maxRecDepth 100000 in
set_option maxHeartbeats 2000000 in
theorem term_t (x y z H L : Int) (g : Bool) (c1 : ∀ w, Calls Try.prog 34 #[.agg #[.int .i64 H, .int .u64 L]] w (GivesNum x w)) (c2 : ∀ w, Calls Try.prog 105 #[.int .i64 111] w (GivesNum y w)) (c3 : ∀ A B c d w, Rd w A c (sz y.natAbs) → Rd w B d (sz x.natAbs) → Calls Try.prog 61 #[.agg #[.bool (decide (y < 0)), .slice A (sz y.natAbs).length c], .agg #[.bool (decide (x < 0)), .slice B (sz x.natAbs).length d]] w fun e w' => e = .returned (.bool false) ∧ Below w.heap.size w w') (c4 : ∀ A c w, Rd w A c (sz y.natAbs) → Calls Try.prog 106 #[.agg #[.bool (decide (y < 0)), .slice A (sz y.natAbs).length c]] w (GivesNum z w)) (c5 : ∀ A B c d w, Rd w A c (sz x.natAbs) → Rd w B d (sz z.natAbs) → Calls Try.prog 61 #[.agg #[.bool (decide (x < 0)), .slice A (sz x.natAbs).length c], .agg #[.bool (decide (z < 0)), .slice B (sz z.natAbs).length d]] w fun e w' => e = .returned (.bool g) ∧ Below w.heap.size w w') (w : World) :
    Calls Try.prog 84 #[.agg #[.int .i64 H, .int .u64 L]] w fun e w' => e = .returned (.bool (!g)) ∧ Below w.heap.size w w' := by
  go_enter Try.func84, Try.ntmps84
  go_wp2_with fail
  refine (c1 _).mono ?_
  rintro e w1 ⟨A1, e1, rfl, hb1, rn_x⟩
  have f_l1 := kp hb1 (na w #[.int .i64 H, .int .u64 L] 46)
  have hB1 := bB (bA (b0 w) (.cells #[.int .i64 H, .int .u64 L] 46)) hb1
  obtain ⟨zl_a, zl_b, ll1⟩ := rcell f_l1
  go_wp2_with fail
  refine (c2 _).mono ?_
  rintro e w2 ⟨A2, e2, rfl, hb2, rn_y⟩
  have f_l2 := kp hb2 (f_l1)
  have rd_x2 := rn_x.below hb2
  have hB2 := bB hB1 hb2
  clear zl_a zl_b
  obtain ⟨zl_a, zl_b, ll2⟩ := rcell f_l2
  go_wp2_with fail
  have f_l3 := (ka (ka (f_l2) (.cells #[.bool (decide (x < 0)), .slice A1 (sz x.natAbs).length e1] 55)) (.cells #[.bool (decide (y < 0)), .slice A2 (sz y.natAbs).length e2] 55))
  have f_u3 := (ka (na w2 #[.bool (decide (x < 0)), .slice A1 (sz x.natAbs).length e1] 55) (.cells #[.bool (decide (y < 0)), .slice A2 (sz y.natAbs).length e2] 55))
  have f_v3 := (na1 w2 (.cells #[.bool (decide (x < 0)), .slice A1 (sz x.natAbs).length e1] 55) #[.bool (decide (y < 0)), .slice A2 (sz y.natAbs).length e2] 55)
  have rd_x3 := (rd_x2.below (bA (bA (b0 _) (.cells #[.bool (decide (x < 0)), .slice A1 (sz x.natAbs).length e1] 55)) (.cells #[.bool (decide (y < 0)), .slice A2 (sz y.natAbs).length e2] 55)))
  have rd_y3 := (rn_y.below (bA (bA (b0 _) (.cells #[.bool (decide (x < 0)), .slice A1 (sz x.natAbs).length e1] 55)) (.cells #[.bool (decide (y < 0)), .slice A2 (sz y.natAbs).length e2] 55)))
  have hB3 := (bA (bA hB2 (.cells #[.bool (decide (x < 0)), .slice A1 (sz x.natAbs).length e1] 55)) (.cells #[.bool (decide (y < 0)), .slice A2 (sz y.natAbs).length e2] 55))
  clear zl_a zl_b
  have ll3 := (rcell f_l3).2.2
  have lu3 := (rcell f_u3).2.2
  have lv3 := (rcell f_v3).2.2
  refine Abs.wp_region_abs (Abs.cls0 _) [0, 1, 2, 3, 4, 5, 6, 7, 8, 9, 10, 11] (by kernel_rfl) (by kernel_rfl) (Below.refl _ _).drew ?_
  repeat (first | (refine Abs.step_pure rfl rfl (fun K hK => ?_); go_simp; (try go_bits); (first | refine hK _ _ ?_ | (simp only [↓IntWalk.iteOmega]; go_simp; (try go_bits); refine hK _ _ ?_)); clear hK K) | (refine Abs.step_load (v := ?_) rfl rfl (by kernel_rfl) rfl (fun w0 hI => ?_) (fun K hK => ?_); rotate_left; (· have z0 := (rcell (kp hI (f_u3))).1; have z1 := (rcell (kp hI (f_v3))).1; go_simp; rfl); (simp only [Act.put, List.setIfInBounds_toArray, List.set_cons_zero, List.set_cons_succ]; refine hK _ _ ?_; clear hK K)) | (refine Abs.step_skip rfl rfl (fun K hK => ?_); (simp only [Act.put, List.setIfInBounds_toArray, List.set_cons_zero, List.set_cons_succ]; refine hK _ _ ?_; clear hK K)))
  (refine Abs.step_call (f := ?_) (args := ?_) rfl rfl rfl rfl (fun v _ => v = .bool false) (fun _ _ _ h _ => h) (fun w0 => ?_) (fun w0 hI hF => ?_) (fun K hK v w0 hv => ?_); rotate_left 2; (· go_simp; (constructor <;> rfl)); (· exact (c3 _ _ _ _ _ (rd_y3.below hI) (rd_x3.below hI)).mono (fun _ _ h => ⟨_, h.1, h.2, rfl⟩)); (replace hv : v = .bool false := hv; subst hv; clear w0; simp only [Act.put, List.setIfInBounds_toArray, List.set_cons_zero, List.set_cons_succ]; refine hK _ _ ?_; clear hK K))
  repeat (first | (refine Abs.step_pure rfl rfl (fun K hK => ?_); go_simp; (try go_bits); (first | refine hK _ _ ?_ | (simp only [↓IntWalk.iteOmega]; go_simp; (try go_bits); refine hK _ _ ?_)); clear hK K) | (refine Abs.step_load (v := ?_) rfl rfl (by kernel_rfl) rfl (fun w0 hI => ?_) (fun K hK => ?_); rotate_left; (· have z0 := (rcell (kp hI (f_u3))).1; have z1 := (rcell (kp hI (f_v3))).1; go_simp; rfl); (simp only [Act.put, List.setIfInBounds_toArray, List.set_cons_zero, List.set_cons_succ]; refine hK _ _ ?_; clear hK K)) | (refine Abs.step_skip rfl rfl (fun K hK => ?_); (simp only [Act.put, List.setIfInBounds_toArray, List.set_cons_zero, List.set_cons_succ]; refine hK _ _ ?_; clear hK K)))
  (refine Abs.step_call (f := ?_) (args := ?_) rfl rfl rfl rfl (NumIs (z)) (fun _ => Cl_NumIs _) (fun w0 => ?_) (fun w0 hI hF => ?_) (fun K hK v w0 hv => ?_); rotate_left 2; (· go_simp; (constructor <;> rfl)); (· exact (c4 _ _ _ (rd_y3.below hI)).mono (fun _ _ h => h.num)); (obtain ⟨A3, e3, rfl, -⟩ := hv; clear w0; simp only [Act.put, List.setIfInBounds_toArray, List.set_cons_zero, List.set_cons_succ]; refine hK _ _ ?_; clear hK K))
  repeat (first | (refine Abs.step_pure rfl rfl (fun K hK => ?_); go_simp; (try go_bits); (first | refine hK _ _ ?_ | (simp only [↓IntWalk.iteOmega]; go_simp; (try go_bits); refine hK _ _ ?_)); clear hK K) | (refine Abs.step_load (v := ?_) rfl rfl (by kernel_rfl) rfl (fun w0 hI => ?_) (fun K hK => ?_); rotate_left; (· have z0 := (rcell (kp hI (f_u3))).1; have z1 := (rcell (kp hI (f_v3))).1; go_simp; rfl); (simp only [Act.put, List.setIfInBounds_toArray, List.set_cons_zero, List.set_cons_succ]; refine hK _ _ ?_; clear hK K)) | (refine Abs.step_skip rfl rfl (fun K hK => ?_); (simp only [Act.put, List.setIfInBounds_toArray, List.set_cons_zero, List.set_cons_succ]; refine hK _ _ ?_; clear hK K)))
  (refine Abs.step_call (f := ?_) (args := ?_) rfl rfl rfl rfl (fun v _ => v = .bool g) (fun _ _ _ h _ => h) (fun w0 => ?_) (fun w0 hI hF => ?_) (fun K hK v w0 hv => ?_); rotate_left 2; (· go_simp; (constructor <;> rfl)); (· exact (c5 _ _ _ _ _ (rd_x3.below hI) ((hF 7 (by kernel_rfl)).2 rfl).rd).mono (fun _ _ h => ⟨_, h.1, h.2, rfl⟩)); (replace hv : v = .bool g := hv; subst hv; clear w0; simp only [Act.put, List.setIfInBounds_toArray, List.set_cons_zero, List.set_cons_succ]; refine hK _ _ ?_; clear hK K))
  repeat (first | (refine Abs.step_pure rfl rfl (fun K hK => ?_); go_simp; (try go_bits); (first | refine hK _ _ ?_ | (simp only [↓IntWalk.iteOmega]; go_simp; (try go_bits); refine hK _ _ ?_)); clear hK K) | (refine Abs.step_load (v := ?_) rfl rfl (by kernel_rfl) rfl (fun w0 hI => ?_) (fun K hK => ?_); rotate_left; (· have z0 := (rcell (kp hI (f_u3))).1; have z1 := (rcell (kp hI (f_v3))).1; go_simp; rfl); (simp only [Act.put, List.setIfInBounds_toArray, List.set_cons_zero, List.set_cons_succ]; refine hK _ _ ?_; clear hK K)) | (refine Abs.step_skip rfl rfl (fun K hK => ?_); (simp only [Act.put, List.setIfInBounds_toArray, List.set_cons_zero, List.set_cons_succ]; refine hK _ _ ?_; clear hK K)))
  intro w4 hb4 hx0 hx1 hx2
  clear hx0 hx1 hx2
  simp only [Abs.T_setF, Abs.T_addA, Abs.T_push, Abs.T_start]
  have f_l4 := kp hb4 (f_l3)
  have f_u4 := kp hb4 (f_u3)
  have f_v4 := kp hb4 (f_v3)
  have rd_x4 := rd_x3.below hb4
  have rd_y4 := rd_y3.below hb4
  have hB4 := bB hB3 hb4
  obtain ⟨zl_a, zl_b, ll4⟩ := rcell f_l4
  obtain ⟨zu_a, zu_b, lu4⟩ := rcell f_u4
  obtain ⟨zv_a, zv_b, lv4⟩ := rcell f_v4
  go_wp2
  go_ret
  exact ⟨by simp, hB4⟩

theorem ref_Term (x : Int) (hx : Rng x) (w : World) :
    Calls Try.prog 84 #[.agg #[.int .i64 (hi x), .int .u64 (lo x)]] w fun e w' => e = .returned (.bool (trB x)) ∧ Below w.heap.size w w' := by
  have c1 := ref_Of x hx
  have c2 := ref_Pow 111 (by decide)
  have hP : (0 : Int) < ((2 ^ 111 : Nat) : Int) := by decide
  have lP : (sz ((2 ^ 111 : Nat) : Int).natAbs).length ≤ 4096 := by
    rw [Int.natAbs_natCast]
    exact Nat.le_trans (sz_len_lt (k := 112) (by decide)) (by decide)
  have lP2 : (sz (-((2 ^ 111 : Nat) : Int)).natAbs).length ≤ 4096 := by
    rw [Int.natAbs_neg]
    exact lP
  have lx : (sz x.natAbs).length ≤ 4096 := Nat.le_trans (sz_len_lt (k := 128) (by obtain ⟨x1, x2⟩ := hx; omega)) (by decide)
  have c4 := fun A c w ha => ref_Neg ((2 ^ 111 : Nat) : Int) A c w ha
  have eP : ((2 ^ 111 : Nat) : Int) = 2596148429267413814265248164610048 := by decide
  unfold trB
  rw [← eP]
  clear eP
  generalize ((2 ^ 111 : Nat) : Int) = P at *
  have c3 := fun A B c d w ha hb => ref_Less P x A B c d lP lx w ha hb
  have c5 := fun A B c d w ha hb => ref_Less x (-P) A B c d lx lP2 w ha hb
  by_cases h1 : P < x
  · rw [decide_eq_true h1] at c3
    rw [decide_eq_false (show ¬ (-P ≤ x ∧ x ≤ P) by omega)]
    exact term_f x P 0 (hi x) (lo x) false c1 c2 c3 w
  · rw [decide_eq_false h1] at c3
    have e : decide (-P ≤ x ∧ x ≤ P) = !decide (x < -P) := by
      rw [← decide_not]
      exact decide_eq_decide.2 (by omega)
    rw [e]
    exact term_t x P (-P) (hi x) (lo x) _ c1 c2 c3 c4 c5 w
end Go.Proofs.Ytlgjapjcdpikeaa
