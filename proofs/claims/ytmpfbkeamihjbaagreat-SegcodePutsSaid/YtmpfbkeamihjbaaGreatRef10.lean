/- yearbookref01 at this program: Of, Add, Div. -/
import Derived.Test.YtmpfbkeamihjbaaGreatRef9
set_option linter.unusedSimpArgs false
set_option linter.unusedVariables false
namespace Go.Proofs.YtmpfbkeamihjbaaGreat
open Go.RowKit

set_option maxRecDepth 100000 in
set_option maxHeartbeats 2000000 in
theorem ref_Add (x y : Int) (M : Nat) (A B : Option Addr) (c d : Nat) (hM : M ≤ 900) (hxy : x.natAbs + y.natAbs < 2 ^ M) (w : World) (ha : Rd w A c (sz x.natAbs)) (hb : Rd w B d (sz y.natAbs)) :
    Calls Tryz.prog 103 #[.agg #[.bool (decide (x < 0)), .slice A (sz x.natAbs).length c], .agg #[.bool (decide (y < 0)), .slice B (sz y.natAbs).length d]] w (GivesNum (x + y) w) := by
  have lx : (sz x.natAbs).length ≤ 900 := Nat.le_trans (sz_len_lt (k := M) (by omega)) hM
  have ly : (sz y.natAbs).length ≤ 900 := Nat.le_trans (sz_len_lt (k := M) (by omega)) hM
  by_cases hs : decide (x < 0) = decide (y < 0)
  · have hs2 : x < 0 ↔ y < 0 := decide_eq_decide.1 hs
    have c1 := fun w ha hb => ref_plus x.natAbs y.natAbs M A B c d (by omega) hxy w ha hb
    have e : x.natAbs + y.natAbs = (x + y).natAbs := by omega
    rw [e] at c1
    have c2 := fun A c => ref_made (decide (x < 0)) (x + y).natAbs A c
    have hd : (decide (x < 0) && decide ((x + y).natAbs ≠ 0)) = decide (x + y < 0) := by
      by_cases hx : x < 0
      · rw [decide_eq_true hx, decide_eq_true (show (x + y).natAbs ≠ 0 by omega), decide_eq_true (show x + y < 0 by omega)]; rfl
      · rw [decide_eq_false hx, decide_eq_false (show ¬ x + y < 0 by omega)]; rfl
    rw [hd] at c2
    unfold GivesNum
    rw [← hs]
    clear hd e hxy hs hs2 lx ly
    generalize decide (x + y < 0) = r at *
    generalize (x + y).natAbs = Z at *
    generalize x.natAbs = X at *
    generalize y.natAbs = Y at *
    generalize decide (x < 0) = p at *
    have hpp : (p == p) = true := by simp
    go_enter Tryz.func103, Tryz.ntmps103
    go_wp2_with fail
    have f_a1 := (ka (ka (na w #[.bool p, .slice A (sz X).length c] 127) (.cells #[.bool p, .slice B (sz Y).length d] 127)) (.cells #[.bool false, .slice none 0 0] 127))
    have f_b1 := (ka (na1 w (.cells #[.bool p, .slice A (sz X).length c] 127) #[.bool p, .slice B (sz Y).length d] 127) (.cells #[.bool false, .slice none 0 0] 127))
    have f_o1 := (na2 w (.cells #[.bool p, .slice A (sz X).length c] 127) (.cells #[.bool p, .slice B (sz Y).length d] 127) #[.bool false, .slice none 0 0] 127)
    have rd_a1 := (ha.below (bA (bA (bA (b0 _) (.cells #[.bool p, .slice A (sz X).length c] 127)) (.cells #[.bool p, .slice B (sz Y).length d] 127)) (.cells #[.bool false, .slice none 0 0] 127)))
    have rd_b1 := (hb.below (bA (bA (bA (b0 _) (.cells #[.bool p, .slice A (sz X).length c] 127)) (.cells #[.bool p, .slice B (sz Y).length d] 127)) (.cells #[.bool false, .slice none 0 0] 127)))
    have hB1 := (bA (bA (bA (b0 w) (.cells #[.bool p, .slice A (sz X).length c] 127)) (.cells #[.bool p, .slice B (sz Y).length d] 127)) (.cells #[.bool false, .slice none 0 0] 127))
    have la1 := (rcell f_a1).2.2
    have lb1 := (rcell f_b1).2.2
    have lo1 := (rcell f_o1).2.2
    refine Abs.wp_region_abs (Abs.cls0 _) [0, 1, 2, 3, 4, 5, 6, 7, 8] (by kernel_rfl) (by kernel_rfl) (Below.refl _ _).drew ?_
    repeat (first | (refine Abs.step_pure rfl rfl (fun K hK => ?_); go_simp; (try go_bits); (first | refine hK _ _ ?_ | (simp only [↓IntWalk.iteOmega]; go_simp; (try go_bits); refine hK _ _ ?_)); clear hK K) | (refine Abs.step_load (v := ?_) rfl rfl (by kernel_rfl) rfl (fun w0 hI => ?_) (fun K hK => ?_); rotate_left; (· have z0 := (rcell (kp hI (f_a1))).1; have z1 := (rcell (kp hI (f_b1))).1; go_simp; rfl); (simp only [Act.put, List.setIfInBounds_toArray, List.set_cons_zero, List.set_cons_succ]; refine hK _ _ ?_; clear hK K)) | (refine Abs.step_skip rfl rfl (fun K hK => ?_); (simp only [Act.put, List.setIfInBounds_toArray, List.set_cons_zero, List.set_cons_succ]; refine hK _ _ ?_; clear hK K)))
    (refine Abs.step_call (f := ?_) (args := ?_) rfl rfl rfl rfl (SlIs (Z)) (fun _ => Cl_SlIs _) (fun w0 => ?_) (fun w0 hI hF => ?_) (fun K hK v w0 hv => ?_); rotate_left 2; (· go_simp; (constructor <;> rfl)); (· exact (c1 _ (rd_a1.below hI) (rd_b1.below hI)).mono (fun _ _ h => h.sl)); (obtain ⟨A3, d3, rfl, -⟩ := hv; clear w0; simp only [Act.put, List.setIfInBounds_toArray, List.set_cons_zero, List.set_cons_succ]; refine hK _ _ ?_; clear hK K))
    repeat (first | (refine Abs.step_pure rfl rfl (fun K hK => ?_); go_simp; (try go_bits); (first | refine hK _ _ ?_ | (simp only [↓IntWalk.iteOmega]; go_simp; (try go_bits); refine hK _ _ ?_)); clear hK K) | (refine Abs.step_load (v := ?_) rfl rfl (by kernel_rfl) rfl (fun w0 hI => ?_) (fun K hK => ?_); rotate_left; (· have z0 := (rcell (kp hI (f_a1))).1; have z1 := (rcell (kp hI (f_b1))).1; go_simp; rfl); (simp only [Act.put, List.setIfInBounds_toArray, List.set_cons_zero, List.set_cons_succ]; refine hK _ _ ?_; clear hK K)) | (refine Abs.step_skip rfl rfl (fun K hK => ?_); (simp only [Act.put, List.setIfInBounds_toArray, List.set_cons_zero, List.set_cons_succ]; refine hK _ _ ?_; clear hK K)))
    (refine Abs.step_call_val (f := ?_) (args := ?_) (v := ?_) rfl rfl rfl rfl (fun w0 => ?_) (fun w0 hI => ?_) (fun K hK => ?_); rotate_left 3; (· go_simp; (constructor <;> rfl)); (· exact c2 _ _ _); (simp only [Act.put, List.setIfInBounds_toArray, List.set_cons_zero, List.set_cons_succ]; refine hK _ _ ?_; clear hK K))
    repeat (first | (refine Abs.step_pure rfl rfl (fun K hK => ?_); go_simp; (try go_bits); (first | refine hK _ _ ?_ | (simp only [↓IntWalk.iteOmega]; go_simp; (try go_bits); refine hK _ _ ?_)); clear hK K) | (refine Abs.step_load (v := ?_) rfl rfl (by kernel_rfl) rfl (fun w0 hI => ?_) (fun K hK => ?_); rotate_left; (· have z0 := (rcell (kp hI (f_a1))).1; have z1 := (rcell (kp hI (f_b1))).1; go_simp; rfl); (simp only [Act.put, List.setIfInBounds_toArray, List.set_cons_zero, List.set_cons_succ]; refine hK _ _ ?_; clear hK K)) | (refine Abs.step_skip rfl rfl (fun K hK => ?_); (simp only [Act.put, List.setIfInBounds_toArray, List.set_cons_zero, List.set_cons_succ]; refine hK _ _ ?_; clear hK K)))
    (refine Abs.step_store (T := ?_) rfl rfl rfl (fun w0 hI hF hU => ?_) (fun w0 hI hU hJ => ?_) (fun K hK => ?_); rotate_left; (· have hR := kp hI (f_o1); have hg0 := (rcell hR).1; have hg1 := (rcell hR).2.1; simp only [Abs.T_setF, Abs.T_addA, Abs.T_push, Abs.T_start]; go_simp; exact row2 hR _ _); (· first | exact trivial | exact js hJ rfl _ | exact js hJ (Or.inl rfl) _ | exact js hJ (Or.inr rfl) _); (simp only [Act.put, List.setIfInBounds_toArray, List.set_cons_zero, List.set_cons_succ]; refine hK _ _ ?_; clear hK K))
    repeat (first | (refine Abs.step_pure rfl rfl (fun K hK => ?_); go_simp; (try go_bits); (first | refine hK _ _ ?_ | (simp only [↓IntWalk.iteOmega]; go_simp; (try go_bits); refine hK _ _ ?_)); clear hK K) | (refine Abs.step_load (v := ?_) rfl rfl (by kernel_rfl) rfl (fun w0 hI => ?_) (fun K hK => ?_); rotate_left; (· have z0 := (rcell (kp hI (f_a1))).1; have z1 := (rcell (kp hI (f_b1))).1; go_simp; rfl); (simp only [Act.put, List.setIfInBounds_toArray, List.set_cons_zero, List.set_cons_succ]; refine hK _ _ ?_; clear hK K)) | (refine Abs.step_skip rfl rfl (fun K hK => ?_); (simp only [Act.put, List.setIfInBounds_toArray, List.set_cons_zero, List.set_cons_succ]; refine hK _ _ ?_; clear hK K)))
    intro w0 hI hF hx1 hx2
    clear hx1 hx2
    simp only [Abs.T_push]
    have rn_s := (((hF 6).2 rfl)).rd
    clear hF
    have hQ := kp hI (f_o1)
    generalize hT2 : setRow w0 _ _ = w2
    have hy := (fin_x (b0 _) hQ hT2).1
    replace rn_s := rn_s.exc hy hQ (by decide)
    obtain ⟨hx2, f_o2⟩ := fin_x hI (f_o1) hT2
    clear hT2 hQ hy hI w0
    have f_a2 := kx hx2 (f_a1) (by omega)
    have f_b2 := kx hx2 (f_b1) (by omega)
    have rd_a2 := rd_a1.exc hx2 (f_o1) (by decide)
    have rd_b2 := rd_b1.exc hx2 (f_o1) (by decide)
    have hB2 := bX hB1 hx2 (by omega)
    obtain ⟨za_a, za_b, la2⟩ := rcell f_a2
    obtain ⟨zb_a, zb_b, lb2⟩ := rcell f_b2
    obtain ⟨zo_a, zo_b, lo2⟩ := rcell f_o2
    go_wp2
    refine bodyPost_ret (by simp [results, Tryz.results103, go_sem, zo_a]; try rfl) rfl ⟨A3, d3, rfl, hB2, rn_s⟩
  · have hs2 : ¬ (x < 0 ↔ y < 0) := fun h => hs (decide_eq_decide.2 h)
    have cl := fun w ha hb => ref_less x.natAbs y.natAbs A B c d (by omega) (by omega) w ha hb
    have hq : (decide (x < 0) == decide (y < 0)) = false := by simpa using hs
    by_cases hlt : x.natAbs < y.natAbs
    · rw [decide_eq_true hlt] at cl
      have c1 := fun w hb ha => ref_minus y.natAbs x.natAbs B A d c (by omega) (by omega) w hb ha
      have e : y.natAbs - x.natAbs = (x + y).natAbs := by omega
      rw [e] at c1
      have c2 := fun A c => ref_made (decide (y < 0)) (x + y).natAbs A c
      have hd : (decide (y < 0) && decide ((x + y).natAbs ≠ 0)) = decide (x + y < 0) := by
        by_cases hx : y < 0
        · rw [decide_eq_true hx, decide_eq_true (show (x + y).natAbs ≠ 0 by omega), decide_eq_true (show x + y < 0 by omega)]; rfl
        · rw [decide_eq_false hx, decide_eq_false (show ¬ x + y < 0 by omega)]; rfl
      rw [hd] at c2
      unfold GivesNum
      clear hd e hxy hs hs2 lx ly hlt
      generalize decide (x + y < 0) = r at *
      generalize (x + y).natAbs = Z at *
      generalize x.natAbs = X at *
      generalize y.natAbs = Y at *
      generalize decide (x < 0) = p at *
      generalize decide (y < 0) = q at *
      go_enter Tryz.func103, Tryz.ntmps103
      go_wp2_with fail
      refine (cl _ (ha.below (bA (bA (bA (b0 _) (.cells #[.bool p, .slice A (sz X).length c] 127)) (.cells #[.bool q, .slice B (sz Y).length d] 127)) (.cells #[.bool false, .slice none 0 0] 127))) (hb.below (bA (bA (bA (b0 _) (.cells #[.bool p, .slice A (sz X).length c] 127)) (.cells #[.bool q, .slice B (sz Y).length d] 127)) (.cells #[.bool false, .slice none 0 0] 127)))).mono ?_
      rintro e w1 ⟨rfl, hb1⟩
      have f_a1 := kp hb1 (ka (ka (na w #[.bool p, .slice A (sz X).length c] 127) (.cells #[.bool q, .slice B (sz Y).length d] 127)) (.cells #[.bool false, .slice none 0 0] 127))
      have f_b1 := kp hb1 (ka (na1 w (.cells #[.bool p, .slice A (sz X).length c] 127) #[.bool q, .slice B (sz Y).length d] 127) (.cells #[.bool false, .slice none 0 0] 127))
      have f_o1 := kp hb1 (na2 w (.cells #[.bool p, .slice A (sz X).length c] 127) (.cells #[.bool q, .slice B (sz Y).length d] 127) #[.bool false, .slice none 0 0] 127)
      have rd_a1 := (ha.below (bA (bA (bA (b0 _) (.cells #[.bool p, .slice A (sz X).length c] 127)) (.cells #[.bool q, .slice B (sz Y).length d] 127)) (.cells #[.bool false, .slice none 0 0] 127))).below hb1
      have rd_b1 := (hb.below (bA (bA (bA (b0 _) (.cells #[.bool p, .slice A (sz X).length c] 127)) (.cells #[.bool q, .slice B (sz Y).length d] 127)) (.cells #[.bool false, .slice none 0 0] 127))).below hb1
      have hB1 := bB (bA (bA (bA (b0 w) (.cells #[.bool p, .slice A (sz X).length c] 127)) (.cells #[.bool q, .slice B (sz Y).length d] 127)) (.cells #[.bool false, .slice none 0 0] 127)) hb1
      obtain ⟨za_a, za_b, la1⟩ := rcell f_a1
      obtain ⟨zb_a, zb_b, lb1⟩ := rcell f_b1
      obtain ⟨zo_a, zo_b, lo1⟩ := rcell f_o1
      go_wp2_with fail
      refine Abs.wp_region_abs (Abs.cls0 _) [0, 1, 2, 3, 4, 5, 6, 7, 8] (by kernel_rfl) (by kernel_rfl) (Below.refl _ _).drew ?_
      repeat (first | (refine Abs.step_pure rfl rfl (fun K hK => ?_); go_simp; (try go_bits); (first | refine hK _ _ ?_ | (simp only [↓IntWalk.iteOmega]; go_simp; (try go_bits); refine hK _ _ ?_)); clear hK K) | (refine Abs.step_load (v := ?_) rfl rfl (by kernel_rfl) rfl (fun w0 hI => ?_) (fun K hK => ?_); rotate_left; (· have z0 := (rcell (kp hI (f_a1))).1; have z1 := (rcell (kp hI (f_b1))).1; go_simp; rfl); (simp only [Act.put, List.setIfInBounds_toArray, List.set_cons_zero, List.set_cons_succ]; refine hK _ _ ?_; clear hK K)) | (refine Abs.step_skip rfl rfl (fun K hK => ?_); (simp only [Act.put, List.setIfInBounds_toArray, List.set_cons_zero, List.set_cons_succ]; refine hK _ _ ?_; clear hK K)))
      (refine Abs.step_call (f := ?_) (args := ?_) rfl rfl rfl rfl (SlIs (Z)) (fun _ => Cl_SlIs _) (fun w0 => ?_) (fun w0 hI hF => ?_) (fun K hK v w0 hv => ?_); rotate_left 2; (· go_simp; (constructor <;> rfl)); (· exact (c1 _ (rd_b1.below hI) (rd_a1.below hI)).mono (fun _ _ h => h.sl)); (obtain ⟨A3, d3, rfl, -⟩ := hv; clear w0; simp only [Act.put, List.setIfInBounds_toArray, List.set_cons_zero, List.set_cons_succ]; refine hK _ _ ?_; clear hK K))
      repeat (first | (refine Abs.step_pure rfl rfl (fun K hK => ?_); go_simp; (try go_bits); (first | refine hK _ _ ?_ | (simp only [↓IntWalk.iteOmega]; go_simp; (try go_bits); refine hK _ _ ?_)); clear hK K) | (refine Abs.step_load (v := ?_) rfl rfl (by kernel_rfl) rfl (fun w0 hI => ?_) (fun K hK => ?_); rotate_left; (· have z0 := (rcell (kp hI (f_a1))).1; have z1 := (rcell (kp hI (f_b1))).1; go_simp; rfl); (simp only [Act.put, List.setIfInBounds_toArray, List.set_cons_zero, List.set_cons_succ]; refine hK _ _ ?_; clear hK K)) | (refine Abs.step_skip rfl rfl (fun K hK => ?_); (simp only [Act.put, List.setIfInBounds_toArray, List.set_cons_zero, List.set_cons_succ]; refine hK _ _ ?_; clear hK K)))
      (refine Abs.step_call_val (f := ?_) (args := ?_) (v := ?_) rfl rfl rfl rfl (fun w0 => ?_) (fun w0 hI => ?_) (fun K hK => ?_); rotate_left 3; (· go_simp; (constructor <;> rfl)); (· exact c2 _ _ _); (simp only [Act.put, List.setIfInBounds_toArray, List.set_cons_zero, List.set_cons_succ]; refine hK _ _ ?_; clear hK K))
      repeat (first | (refine Abs.step_pure rfl rfl (fun K hK => ?_); go_simp; (try go_bits); (first | refine hK _ _ ?_ | (simp only [↓IntWalk.iteOmega]; go_simp; (try go_bits); refine hK _ _ ?_)); clear hK K) | (refine Abs.step_load (v := ?_) rfl rfl (by kernel_rfl) rfl (fun w0 hI => ?_) (fun K hK => ?_); rotate_left; (· have z0 := (rcell (kp hI (f_a1))).1; have z1 := (rcell (kp hI (f_b1))).1; go_simp; rfl); (simp only [Act.put, List.setIfInBounds_toArray, List.set_cons_zero, List.set_cons_succ]; refine hK _ _ ?_; clear hK K)) | (refine Abs.step_skip rfl rfl (fun K hK => ?_); (simp only [Act.put, List.setIfInBounds_toArray, List.set_cons_zero, List.set_cons_succ]; refine hK _ _ ?_; clear hK K)))
      (refine Abs.step_store (T := ?_) rfl rfl rfl (fun w0 hI hF hU => ?_) (fun w0 hI hU hJ => ?_) (fun K hK => ?_); rotate_left; (· have hR := kp hI (f_o1); have hg0 := (rcell hR).1; have hg1 := (rcell hR).2.1; simp only [Abs.T_setF, Abs.T_addA, Abs.T_push, Abs.T_start]; go_simp; exact row2 hR _ _); (· first | exact trivial | exact js hJ rfl _ | exact js hJ (Or.inl rfl) _ | exact js hJ (Or.inr rfl) _); (simp only [Act.put, List.setIfInBounds_toArray, List.set_cons_zero, List.set_cons_succ]; refine hK _ _ ?_; clear hK K))
      repeat (first | (refine Abs.step_pure rfl rfl (fun K hK => ?_); go_simp; (try go_bits); (first | refine hK _ _ ?_ | (simp only [↓IntWalk.iteOmega]; go_simp; (try go_bits); refine hK _ _ ?_)); clear hK K) | (refine Abs.step_load (v := ?_) rfl rfl (by kernel_rfl) rfl (fun w0 hI => ?_) (fun K hK => ?_); rotate_left; (· have z0 := (rcell (kp hI (f_a1))).1; have z1 := (rcell (kp hI (f_b1))).1; go_simp; rfl); (simp only [Act.put, List.setIfInBounds_toArray, List.set_cons_zero, List.set_cons_succ]; refine hK _ _ ?_; clear hK K)) | (refine Abs.step_skip rfl rfl (fun K hK => ?_); (simp only [Act.put, List.setIfInBounds_toArray, List.set_cons_zero, List.set_cons_succ]; refine hK _ _ ?_; clear hK K)))
      intro w0 hI hF hx1 hx2
      clear hx1 hx2
      simp only [Abs.T_push]
      have rn_s := (((hF 6).2 rfl)).rd
      clear hF
      have hQ := kp hI (f_o1)
      generalize hT3 : setRow w0 _ _ = w3
      have hy := (fin_x (b0 _) hQ hT3).1
      replace rn_s := rn_s.exc hy hQ (by decide)
      obtain ⟨hx3, f_o3⟩ := fin_x hI (f_o1) hT3
      clear hT3 hQ hy hI w0
      have f_a3 := kx hx3 (f_a1) (by omega)
      have f_b3 := kx hx3 (f_b1) (by omega)
      have rd_a3 := rd_a1.exc hx3 (f_o1) (by decide)
      have rd_b3 := rd_b1.exc hx3 (f_o1) (by decide)
      have hB3 := bX hB1 hx3 (by omega)
      clear za_a za_b zb_a zb_b zo_a zo_b
      obtain ⟨za_a, za_b, la3⟩ := rcell f_a3
      obtain ⟨zb_a, zb_b, lb3⟩ := rcell f_b3
      obtain ⟨zo_a, zo_b, lo3⟩ := rcell f_o3
      go_wp2
      refine bodyPost_ret (by simp [results, Tryz.results103, go_sem, zo_a]; try rfl) rfl ⟨A3, d3, rfl, hB3, rn_s⟩
    · rw [decide_eq_false hlt] at cl
      have c1 := fun w ha hb => ref_minus x.natAbs y.natAbs A B c d (by omega) (by omega) w ha hb
      have e : x.natAbs - y.natAbs = (x + y).natAbs := by omega
      rw [e] at c1
      have c2 := fun A c => ref_made (decide (x < 0)) (x + y).natAbs A c
      have hd : (decide (x < 0) && decide ((x + y).natAbs ≠ 0)) = decide (x + y < 0) := by
        by_cases hx : x < 0
        · by_cases hz : x + y = 0
          · rw [decide_eq_true hx, decide_eq_false (show ¬ (x + y).natAbs ≠ 0 by omega), decide_eq_false (show ¬ x + y < 0 by omega)]; rfl
          · rw [decide_eq_true hx, decide_eq_true (show (x + y).natAbs ≠ 0 by omega), decide_eq_true (show x + y < 0 by omega)]; rfl
        · rw [decide_eq_false hx, decide_eq_false (show ¬ x + y < 0 by omega)]; rfl
      rw [hd] at c2
      unfold GivesNum
      clear hd e hxy hs hs2 lx ly hlt
      generalize decide (x + y < 0) = r at *
      generalize (x + y).natAbs = Z at *
      generalize x.natAbs = X at *
      generalize y.natAbs = Y at *
      generalize decide (x < 0) = p at *
      generalize decide (y < 0) = q at *
      go_enter Tryz.func103, Tryz.ntmps103
      go_wp2_with fail
      refine (cl _ (ha.below (bA (bA (bA (b0 _) (.cells #[.bool p, .slice A (sz X).length c] 127)) (.cells #[.bool q, .slice B (sz Y).length d] 127)) (.cells #[.bool false, .slice none 0 0] 127))) (hb.below (bA (bA (bA (b0 _) (.cells #[.bool p, .slice A (sz X).length c] 127)) (.cells #[.bool q, .slice B (sz Y).length d] 127)) (.cells #[.bool false, .slice none 0 0] 127)))).mono ?_
      rintro e w1 ⟨rfl, hb1⟩
      have f_a1 := kp hb1 (ka (ka (na w #[.bool p, .slice A (sz X).length c] 127) (.cells #[.bool q, .slice B (sz Y).length d] 127)) (.cells #[.bool false, .slice none 0 0] 127))
      have f_b1 := kp hb1 (ka (na1 w (.cells #[.bool p, .slice A (sz X).length c] 127) #[.bool q, .slice B (sz Y).length d] 127) (.cells #[.bool false, .slice none 0 0] 127))
      have f_o1 := kp hb1 (na2 w (.cells #[.bool p, .slice A (sz X).length c] 127) (.cells #[.bool q, .slice B (sz Y).length d] 127) #[.bool false, .slice none 0 0] 127)
      have rd_a1 := (ha.below (bA (bA (bA (b0 _) (.cells #[.bool p, .slice A (sz X).length c] 127)) (.cells #[.bool q, .slice B (sz Y).length d] 127)) (.cells #[.bool false, .slice none 0 0] 127))).below hb1
      have rd_b1 := (hb.below (bA (bA (bA (b0 _) (.cells #[.bool p, .slice A (sz X).length c] 127)) (.cells #[.bool q, .slice B (sz Y).length d] 127)) (.cells #[.bool false, .slice none 0 0] 127))).below hb1
      have hB1 := bB (bA (bA (bA (b0 w) (.cells #[.bool p, .slice A (sz X).length c] 127)) (.cells #[.bool q, .slice B (sz Y).length d] 127)) (.cells #[.bool false, .slice none 0 0] 127)) hb1
      obtain ⟨za_a, za_b, la1⟩ := rcell f_a1
      obtain ⟨zb_a, zb_b, lb1⟩ := rcell f_b1
      obtain ⟨zo_a, zo_b, lo1⟩ := rcell f_o1
      go_wp2_with fail
      refine Abs.wp_region_abs (Abs.cls0 _) [0, 1, 2, 3, 4, 5, 6, 7, 8] (by kernel_rfl) (by kernel_rfl) (Below.refl _ _).drew ?_
      repeat (first | (refine Abs.step_pure rfl rfl (fun K hK => ?_); go_simp; (try go_bits); (first | refine hK _ _ ?_ | (simp only [↓IntWalk.iteOmega]; go_simp; (try go_bits); refine hK _ _ ?_)); clear hK K) | (refine Abs.step_load (v := ?_) rfl rfl (by kernel_rfl) rfl (fun w0 hI => ?_) (fun K hK => ?_); rotate_left; (· have z0 := (rcell (kp hI (f_a1))).1; have z1 := (rcell (kp hI (f_b1))).1; go_simp; rfl); (simp only [Act.put, List.setIfInBounds_toArray, List.set_cons_zero, List.set_cons_succ]; refine hK _ _ ?_; clear hK K)) | (refine Abs.step_skip rfl rfl (fun K hK => ?_); (simp only [Act.put, List.setIfInBounds_toArray, List.set_cons_zero, List.set_cons_succ]; refine hK _ _ ?_; clear hK K)))
      (refine Abs.step_call (f := ?_) (args := ?_) rfl rfl rfl rfl (SlIs (Z)) (fun _ => Cl_SlIs _) (fun w0 => ?_) (fun w0 hI hF => ?_) (fun K hK v w0 hv => ?_); rotate_left 2; (· go_simp; (constructor <;> rfl)); (· exact (c1 _ (rd_a1.below hI) (rd_b1.below hI)).mono (fun _ _ h => h.sl)); (obtain ⟨A3, d3, rfl, -⟩ := hv; clear w0; simp only [Act.put, List.setIfInBounds_toArray, List.set_cons_zero, List.set_cons_succ]; refine hK _ _ ?_; clear hK K))
      repeat (first | (refine Abs.step_pure rfl rfl (fun K hK => ?_); go_simp; (try go_bits); (first | refine hK _ _ ?_ | (simp only [↓IntWalk.iteOmega]; go_simp; (try go_bits); refine hK _ _ ?_)); clear hK K) | (refine Abs.step_load (v := ?_) rfl rfl (by kernel_rfl) rfl (fun w0 hI => ?_) (fun K hK => ?_); rotate_left; (· have z0 := (rcell (kp hI (f_a1))).1; have z1 := (rcell (kp hI (f_b1))).1; go_simp; rfl); (simp only [Act.put, List.setIfInBounds_toArray, List.set_cons_zero, List.set_cons_succ]; refine hK _ _ ?_; clear hK K)) | (refine Abs.step_skip rfl rfl (fun K hK => ?_); (simp only [Act.put, List.setIfInBounds_toArray, List.set_cons_zero, List.set_cons_succ]; refine hK _ _ ?_; clear hK K)))
      (refine Abs.step_call_val (f := ?_) (args := ?_) (v := ?_) rfl rfl rfl rfl (fun w0 => ?_) (fun w0 hI => ?_) (fun K hK => ?_); rotate_left 3; (· go_simp; (constructor <;> rfl)); (· exact c2 _ _ _); (simp only [Act.put, List.setIfInBounds_toArray, List.set_cons_zero, List.set_cons_succ]; refine hK _ _ ?_; clear hK K))
      repeat (first | (refine Abs.step_pure rfl rfl (fun K hK => ?_); go_simp; (try go_bits); (first | refine hK _ _ ?_ | (simp only [↓IntWalk.iteOmega]; go_simp; (try go_bits); refine hK _ _ ?_)); clear hK K) | (refine Abs.step_load (v := ?_) rfl rfl (by kernel_rfl) rfl (fun w0 hI => ?_) (fun K hK => ?_); rotate_left; (· have z0 := (rcell (kp hI (f_a1))).1; have z1 := (rcell (kp hI (f_b1))).1; go_simp; rfl); (simp only [Act.put, List.setIfInBounds_toArray, List.set_cons_zero, List.set_cons_succ]; refine hK _ _ ?_; clear hK K)) | (refine Abs.step_skip rfl rfl (fun K hK => ?_); (simp only [Act.put, List.setIfInBounds_toArray, List.set_cons_zero, List.set_cons_succ]; refine hK _ _ ?_; clear hK K)))
      (refine Abs.step_store (T := ?_) rfl rfl rfl (fun w0 hI hF hU => ?_) (fun w0 hI hU hJ => ?_) (fun K hK => ?_); rotate_left; (· have hR := kp hI (f_o1); have hg0 := (rcell hR).1; have hg1 := (rcell hR).2.1; simp only [Abs.T_setF, Abs.T_addA, Abs.T_push, Abs.T_start]; go_simp; exact row2 hR _ _); (· first | exact trivial | exact js hJ rfl _ | exact js hJ (Or.inl rfl) _ | exact js hJ (Or.inr rfl) _); (simp only [Act.put, List.setIfInBounds_toArray, List.set_cons_zero, List.set_cons_succ]; refine hK _ _ ?_; clear hK K))
      repeat (first | (refine Abs.step_pure rfl rfl (fun K hK => ?_); go_simp; (try go_bits); (first | refine hK _ _ ?_ | (simp only [↓IntWalk.iteOmega]; go_simp; (try go_bits); refine hK _ _ ?_)); clear hK K) | (refine Abs.step_load (v := ?_) rfl rfl (by kernel_rfl) rfl (fun w0 hI => ?_) (fun K hK => ?_); rotate_left; (· have z0 := (rcell (kp hI (f_a1))).1; have z1 := (rcell (kp hI (f_b1))).1; go_simp; rfl); (simp only [Act.put, List.setIfInBounds_toArray, List.set_cons_zero, List.set_cons_succ]; refine hK _ _ ?_; clear hK K)) | (refine Abs.step_skip rfl rfl (fun K hK => ?_); (simp only [Act.put, List.setIfInBounds_toArray, List.set_cons_zero, List.set_cons_succ]; refine hK _ _ ?_; clear hK K)))
      intro w0 hI hF hx1 hx2
      clear hx1 hx2
      simp only [Abs.T_push]
      have rn_s := (((hF 6).2 rfl)).rd
      clear hF
      have hQ := kp hI (f_o1)
      generalize hT3 : setRow w0 _ _ = w3
      have hy := (fin_x (b0 _) hQ hT3).1
      replace rn_s := rn_s.exc hy hQ (by decide)
      obtain ⟨hx3, f_o3⟩ := fin_x hI (f_o1) hT3
      clear hT3 hQ hy hI w0
      have f_a3 := kx hx3 (f_a1) (by omega)
      have f_b3 := kx hx3 (f_b1) (by omega)
      have rd_a3 := rd_a1.exc hx3 (f_o1) (by decide)
      have rd_b3 := rd_b1.exc hx3 (f_o1) (by decide)
      have hB3 := bX hB1 hx3 (by omega)
      clear za_a za_b zb_a zb_b zo_a zo_b
      obtain ⟨za_a, za_b, la3⟩ := rcell f_a3
      obtain ⟨zb_a, zb_b, lb3⟩ := rcell f_b3
      obtain ⟨zo_a, zo_b, lo3⟩ := rcell f_o3
      go_wp2
      refine bodyPost_ret (by simp [results, Tryz.results103, go_sem, zo_a]; try rfl) rfl ⟨A3, d3, rfl, hB3, rn_s⟩

/-- what Div hands back -/
def GivesNum2 (x y : Int) (w : World) (e : Ending) (w' : World) : Prop := ∃ A c A' c', e = .returned (.tuple #[.agg #[.bool (decide (x < 0)), .slice A (sz x.natAbs).length c], .agg #[.bool (decide (y < 0)), .slice A' (sz y.natAbs).length c']]) ∧ Below w.heap.size w w' ∧ Rd w' A c (sz x.natAbs) ∧ Rd w' A' c' (sz y.natAbs)

theorem div_parts (x m : Int) (hm : 0 < m) : (0 ≤ x → x / m = ((x.natAbs / m.natAbs : Nat) : Int) ∧ x % m = ((x.natAbs % m.natAbs : Nat) : Int)) ∧
    (x < 0 → x.natAbs % m.natAbs = 0 → x / m = -((x.natAbs / m.natAbs : Nat) : Int) ∧ x % m = 0) ∧
    (x < 0 → x.natAbs % m.natAbs ≠ 0 → x / m = -((x.natAbs / m.natAbs + 1 : Nat) : Int) ∧ x % m = ((m.natAbs - x.natAbs % m.natAbs : Nat) : Int)) := by
  obtain ⟨M, rfl⟩ := Int.eq_ofNat_of_zero_le (show 0 ≤ m by omega)
  have hM : 0 < M := by omega
  have k1 := Nat.div_add_mod x.natAbs M
  have k2 := Nat.mod_lt x.natAbs hM
  rw [Int.natAbs_natCast]
  generalize x.natAbs / M = Q at *
  generalize x.natAbs % M = R at *
  have f : ∀ z t : Int, x = (M : Int) * z + t → 0 ≤ t → t < M → x / (M : Int) = z ∧ x % (M : Int) = t := by
    intro z t h1 h2 h3
    constructor
    · rw [h1, Int.add_comm, Int.add_mul_ediv_left _ _ (show (M : Int) ≠ 0 by omega), Int.ediv_eq_zero_of_lt h2 h3]; omega
    · rw [h1, Int.add_comm, Int.add_mul_emod_self_left, Int.emod_eq_of_lt h2 h3]
  have k3 : ((M * Q + R : Nat) : Int) = (M : Int) * Q + R := by rw [Int.natCast_add, Int.natCast_mul]
  refine ⟨fun hx => f _ _ (by rw [← k3, k1]; omega) (by omega) (by omega), fun hx hr => ?_, fun hx hr => ?_⟩
  · have := f (-(Q : Int)) 0 (by rw [Int.mul_neg]; omega) (by omega) (by omega)
    exact this
  · refine f _ _ ?_ (by omega) (by omega)
    rw [Int.mul_neg, Int.natCast_add, Int.mul_add]
    omega

set_option maxRecDepth 100000 in
set_option maxHeartbeats 2000000 in
theorem ref_Div (x m : Int) (A B : Option Addr) (c d : Nat) (hm : 0 < m) (lx : (sz x.natAbs).length ≤ 800) (lm : (sz m.natAbs).length ≤ 800) (w : World) (ha : Rd w A c (sz x.natAbs)) (hb : Rd w B d (sz m.natAbs)) :
    Calls Tryz.prog 81 #[.agg #[.bool (decide (x < 0)), .slice A (sz x.natAbs).length c], .agg #[.bool (decide (m < 0)), .slice B (sz m.natAbs).length d]] w (GivesNum2 (x / m) (x % m) w) := by
  have c1 := fun w ha hb => ref_parts x.natAbs m.natAbs A B c d (by omega) (by omega) (by omega) w ha hb
  obtain ⟨k1, k2, k3⟩ := div_parts x m hm
  have hR := Nat.mod_lt x.natAbs (show 0 < m.natAbs by omega)
  have lQ : (sz (x.natAbs / m.natAbs)).length ≤ 800 := by
    have h1 := bv_lt (Bin.sz x.natAbs)
    rw [bv_sz] at h1
    exact Nat.le_trans (sz_len_lt (k := (sz x.natAbs).length) (Nat.lt_of_le_of_lt (Nat.div_le_self _ _) h1)) lx
  have hlen := sz_len0 (x.natAbs % m.natAbs)
  have hQb := bv_lt (Bin.sz (x.natAbs / m.natAbs))
  rw [bv_sz] at hQb
  generalize x.natAbs / m.natAbs = Q at *
  generalize x.natAbs % m.natAbs = R at *
  by_cases hx : x < 0
  · by_cases hr : R = 0
    · obtain ⟨e1, e2⟩ := k2 hx hr
      have hz : ¬ (0 : Int) < ((sz R).length : Int) := fun h => hlen.1 h hr
      have c2 := fun A c => ref_made true Q A c
      have c3 := fun A c => ref_made false R A c
      rw [e1, e2]
      have hd1 : (true && decide (Q ≠ 0)) = decide (-((Q : Nat) : Int) < 0) := by
        rw [Bool.true_and]; exact decide_eq_decide.2 (by omega)
      rw [hd1] at c2
      have hn : (-((Q : Nat) : Int)).natAbs = Q := by rw [Int.natAbs_neg, Int.natAbs_natCast]
      unfold GivesNum2
      rw [hn, decide_eq_true hx, show decide ((0 : Int) < 0) = false from rfl, show (0 : Int).natAbs = R by rw [hr]; rfl]
      clear hn hd1 e1 e2 k1 k2 k3 hR lQ hlen hr hx lx lm
      generalize decide (-((Q : Nat) : Int) < 0) = r1 at *
      generalize x.natAbs = X at *
      generalize m.natAbs = Y at *
      generalize decide (m < 0) = pm at *
      go_enter Tryz.func81, Tryz.ntmps81
      go_wp2_with fail
      refine (c1 _ (ha.below (bA (bA (bA (bA (b0 _) (.cells #[.bool true, .slice A (sz X).length c] 127)) (.cells #[.bool pm, .slice B (sz Y).length d] 127)) (.cells #[.bool false, .slice none 0 0] 127)) (.cells #[.bool false, .slice none 0 0] 127))) (hb.below (bA (bA (bA (bA (b0 _) (.cells #[.bool true, .slice A (sz X).length c] 127)) (.cells #[.bool pm, .slice B (sz Y).length d] 127)) (.cells #[.bool false, .slice none 0 0] 127)) (.cells #[.bool false, .slice none 0 0] 127)))).mono ?_
      rintro e w1 ⟨A1, d1, A2, d2, rfl, hb1, rn_q, rn_t⟩
      have f_a1 := kp hb1 (ka (ka (ka (na w #[.bool true, .slice A (sz X).length c] 127) (.cells #[.bool pm, .slice B (sz Y).length d] 127)) (.cells #[.bool false, .slice none 0 0] 127)) (.cells #[.bool false, .slice none 0 0] 127))
      have f_b1 := kp hb1 (ka (ka (na1 w (.cells #[.bool true, .slice A (sz X).length c] 127) #[.bool pm, .slice B (sz Y).length d] 127) (.cells #[.bool false, .slice none 0 0] 127)) (.cells #[.bool false, .slice none 0 0] 127))
      have f_o1 := kp hb1 (ka (na2 w (.cells #[.bool true, .slice A (sz X).length c] 127) (.cells #[.bool pm, .slice B (sz Y).length d] 127) #[.bool false, .slice none 0 0] 127) (.cells #[.bool false, .slice none 0 0] 127))
      have f_p1 := kp hb1 (na3 w (.cells #[.bool true, .slice A (sz X).length c] 127) (.cells #[.bool pm, .slice B (sz Y).length d] 127) (.cells #[.bool false, .slice none 0 0] 127) #[.bool false, .slice none 0 0] 127)
      have rd_a1 := (ha.below (bA (bA (bA (bA (b0 _) (.cells #[.bool true, .slice A (sz X).length c] 127)) (.cells #[.bool pm, .slice B (sz Y).length d] 127)) (.cells #[.bool false, .slice none 0 0] 127)) (.cells #[.bool false, .slice none 0 0] 127))).below hb1
      have rd_b1 := (hb.below (bA (bA (bA (bA (b0 _) (.cells #[.bool true, .slice A (sz X).length c] 127)) (.cells #[.bool pm, .slice B (sz Y).length d] 127)) (.cells #[.bool false, .slice none 0 0] 127)) (.cells #[.bool false, .slice none 0 0] 127))).below hb1
      have hB1 := bB (bA (bA (bA (bA (b0 w) (.cells #[.bool true, .slice A (sz X).length c] 127)) (.cells #[.bool pm, .slice B (sz Y).length d] 127)) (.cells #[.bool false, .slice none 0 0] 127)) (.cells #[.bool false, .slice none 0 0] 127)) hb1
      obtain ⟨za_a, za_b, la1⟩ := rcell f_a1
      obtain ⟨zb_a, zb_b, lb1⟩ := rcell f_b1
      obtain ⟨zo_a, zo_b, lo1⟩ := rcell f_o1
      obtain ⟨zp_a, zp_b, lp1⟩ := rcell f_p1
      go_wp2_with fail
      refine (c2 _ _ _).mono ?_
      rintro e w2 ⟨rfl, hb2⟩
      have f_a2 := kp hb2 (f_a1)
      have f_b2 := kp hb2 (f_b1)
      have f_o2 := kp hb2 (f_o1)
      have f_p2 := kp hb2 (f_p1)
      have rd_a2 := rd_a1.below hb2
      have rd_b2 := rd_b1.below hb2
      have rd_q2 := rn_q.below hb2
      have rd_t2 := rn_t.below hb2
      have hB2 := bB hB1 hb2
      clear za_a za_b zb_a zb_b zo_a zo_b zp_a zp_b
      obtain ⟨za_a, za_b, la2⟩ := rcell f_a2
      obtain ⟨zb_a, zb_b, lb2⟩ := rcell f_b2
      obtain ⟨zo_a, zo_b, lo2⟩ := rcell f_o2
      obtain ⟨zp_a, zp_b, lp2⟩ := rcell f_p2
      go_wp2_with fail
      refine (c3 _ _ _).mono ?_
      rintro e w3 ⟨rfl, hb3⟩
      have f_a3 := kp hb3 (f_a2)
      have f_b3 := kp hb3 (f_b2)
      have f_o3 := kp hb3 (f_o2)
      have f_p3 := kp hb3 (f_p2)
      have rd_a3 := rd_a2.below hb3
      have rd_b3 := rd_b2.below hb3
      have rd_q3 := rd_q2.below hb3
      have rd_t3 := rd_t2.below hb3
      have hB3 := bB hB2 hb3
      clear za_a za_b zb_a zb_b zo_a zo_b zp_a zp_b
      obtain ⟨za_a, za_b, la3⟩ := rcell f_a3
      obtain ⟨zb_a, zb_b, lb3⟩ := rcell f_b3
      obtain ⟨zo_a, zo_b, lo3⟩ := rcell f_o3
      obtain ⟨zp_a, zp_b, lp3⟩ := rcell f_p3
      go_wp2_with fail
      rw [row2 f_o3]
      generalize hT4 : setRow _ _ _ = w4
      obtain ⟨hx4, f_o4⟩ := fin_x (b0 _) f_o3 hT4
      clear hT4
      have f_a4 := kx hx4 (f_a3) (by omega)
      have f_b4 := kx hx4 (f_b3) (by omega)
      have f_p4 := kx hx4 (f_p3) (by omega)
      have rd_a4 := rd_a3.exc hx4 (f_o3) (by decide)
      have rd_b4 := rd_b3.exc hx4 (f_o3) (by decide)
      have rd_q4 := rd_q3.exc hx4 (f_o3) (by decide)
      have rd_t4 := rd_t3.exc hx4 (f_o3) (by decide)
      have hB4 := bX hB3 hx4 (by omega)
      clear za_a za_b zb_a zb_b zo_a zo_b zp_a zp_b
      obtain ⟨za_a, za_b, la4⟩ := rcell f_a4
      obtain ⟨zb_a, zb_b, lb4⟩ := rcell f_b4
      obtain ⟨zp_a, zp_b, lp4⟩ := rcell f_p4
      obtain ⟨zo_a, zo_b, lo4⟩ := rcell f_o4
      rw [row2 f_p4]
      generalize hT5 : setRow _ _ _ = w5
      obtain ⟨hx5, f_p5⟩ := fin_x (b0 _) f_p4 hT5
      clear hT5
      have f_a5 := kx hx5 (f_a4) (by omega)
      have f_b5 := kx hx5 (f_b4) (by omega)
      have f_o5 := kx hx5 (f_o4) (by omega)
      have rd_a5 := rd_a4.exc hx5 (f_p4) (by decide)
      have rd_b5 := rd_b4.exc hx5 (f_p4) (by decide)
      have rd_q5 := rd_q4.exc hx5 (f_p4) (by decide)
      have rd_t5 := rd_t4.exc hx5 (f_p4) (by decide)
      have hB5 := bX hB4 hx5 (by omega)
      clear za_a za_b zb_a zb_b zo_a zo_b zp_a zp_b
      obtain ⟨za_a, za_b, la5⟩ := rcell f_a5
      obtain ⟨zb_a, zb_b, lb5⟩ := rcell f_b5
      obtain ⟨zo_a, zo_b, lo5⟩ := rcell f_o5
      obtain ⟨zp_a, zp_b, lp5⟩ := rcell f_p5
      refine bodyPost_ret (by simp [results, Tryz.results81, go_sem, zo_a, zp_a]; try rfl) rfl ⟨A1, d1, A2, d2, by simp, hB5, rd_q5, rd_t5⟩
    · obtain ⟨e1, e2⟩ := k3 hx hr
      have hz : (0 : Int) < ((sz R).length : Int) := hlen.2 hr
      have cs1 := ref_Size 1 (by decide)
      have cp := fun A B c d w ha hb => ref_plus Q 1 ((sz Q).length + 1) A B c d (by omega) (by rw [Nat.pow_succ]; have := Nat.two_pow_pos (sz Q).length; omega) w ha hb
      have cm := fun A B c d w ha hb => ref_minus m.natAbs R A B c d (by omega) (by omega) w ha hb
      have c2 := fun A c => ref_made true (Q + 1) A c
      have c3 := fun A c => ref_made false (m.natAbs - R) A c
      rw [e1, e2]
      have hn : (-((Q + 1 : Nat) : Int)).natAbs = Q + 1 := by rw [Int.natAbs_neg, Int.natAbs_natCast]
      unfold GivesNum2
      rw [hn, Int.natAbs_natCast, decide_eq_true hx, decide_eq_true (show -((Q + 1 : Nat) : Int) < 0 by omega), decide_eq_false (show ¬ ((m.natAbs - R : Nat) : Int) < 0 by omega)]
      rw [decide_eq_true (show Q + 1 ≠ 0 by omega)] at c2
      clear hn e1 e2 k1 k2 k3 hR lQ hlen hr hx lx lm
      generalize Q + 1 = Q1 at *
      generalize m.natAbs - R = R1 at *
      generalize x.natAbs = X at *
      generalize m.natAbs = Y at *
      generalize decide (m < 0) = pm at *
      go_enter Tryz.func81, Tryz.ntmps81
      go_wp2_with fail
      refine (c1 _ (ha.below (bA (bA (bA (bA (b0 _) (.cells #[.bool true, .slice A (sz X).length c] 127)) (.cells #[.bool pm, .slice B (sz Y).length d] 127)) (.cells #[.bool false, .slice none 0 0] 127)) (.cells #[.bool false, .slice none 0 0] 127))) (hb.below (bA (bA (bA (bA (b0 _) (.cells #[.bool true, .slice A (sz X).length c] 127)) (.cells #[.bool pm, .slice B (sz Y).length d] 127)) (.cells #[.bool false, .slice none 0 0] 127)) (.cells #[.bool false, .slice none 0 0] 127)))).mono ?_
      rintro e w1 ⟨A1, d1, A2, d2, rfl, hb1, rn_q, rn_t⟩
      have f_a1 := kp hb1 (ka (ka (ka (na w #[.bool true, .slice A (sz X).length c] 127) (.cells #[.bool pm, .slice B (sz Y).length d] 127)) (.cells #[.bool false, .slice none 0 0] 127)) (.cells #[.bool false, .slice none 0 0] 127))
      have f_b1 := kp hb1 (ka (ka (na1 w (.cells #[.bool true, .slice A (sz X).length c] 127) #[.bool pm, .slice B (sz Y).length d] 127) (.cells #[.bool false, .slice none 0 0] 127)) (.cells #[.bool false, .slice none 0 0] 127))
      have f_o1 := kp hb1 (ka (na2 w (.cells #[.bool true, .slice A (sz X).length c] 127) (.cells #[.bool pm, .slice B (sz Y).length d] 127) #[.bool false, .slice none 0 0] 127) (.cells #[.bool false, .slice none 0 0] 127))
      have f_p1 := kp hb1 (na3 w (.cells #[.bool true, .slice A (sz X).length c] 127) (.cells #[.bool pm, .slice B (sz Y).length d] 127) (.cells #[.bool false, .slice none 0 0] 127) #[.bool false, .slice none 0 0] 127)
      have rd_a1 := (ha.below (bA (bA (bA (bA (b0 _) (.cells #[.bool true, .slice A (sz X).length c] 127)) (.cells #[.bool pm, .slice B (sz Y).length d] 127)) (.cells #[.bool false, .slice none 0 0] 127)) (.cells #[.bool false, .slice none 0 0] 127))).below hb1
      have rd_b1 := (hb.below (bA (bA (bA (bA (b0 _) (.cells #[.bool true, .slice A (sz X).length c] 127)) (.cells #[.bool pm, .slice B (sz Y).length d] 127)) (.cells #[.bool false, .slice none 0 0] 127)) (.cells #[.bool false, .slice none 0 0] 127))).below hb1
      have hB1 := bB (bA (bA (bA (bA (b0 w) (.cells #[.bool true, .slice A (sz X).length c] 127)) (.cells #[.bool pm, .slice B (sz Y).length d] 127)) (.cells #[.bool false, .slice none 0 0] 127)) (.cells #[.bool false, .slice none 0 0] 127)) hb1
      obtain ⟨za_a, za_b, la1⟩ := rcell f_a1
      obtain ⟨zb_a, zb_b, lb1⟩ := rcell f_b1
      obtain ⟨zo_a, zo_b, lo1⟩ := rcell f_o1
      obtain ⟨zp_a, zp_b, lp1⟩ := rcell f_p1
      go_wp2_with fail
      refine Abs.wp_region_abs (Abs.cls0 _) [0, 1, 2, 3, 4, 5, 6, 7, 8, 9, 10] (by kernel_rfl) (by kernel_rfl) (Below.refl _ _).drew ?_
      repeat (first | (refine Abs.step_pure rfl rfl (fun K hK => ?_); go_simp; (try go_bits); (first | refine hK _ _ ?_ | (simp only [↓IntWalk.iteOmega]; go_simp; (try go_bits); refine hK _ _ ?_)); clear hK K) | (refine Abs.step_load (v := ?_) rfl rfl (by kernel_rfl) rfl (fun w0 hI => ?_) (fun K hK => ?_); rotate_left; (· have z0 := (rcell (kp hI (f_b1))).1; go_simp; rfl); (simp only [Act.put, List.setIfInBounds_toArray, List.set_cons_zero, List.set_cons_succ]; refine hK _ _ ?_; clear hK K)) | (refine Abs.step_skip rfl rfl (fun K hK => ?_); (simp only [Act.put, List.setIfInBounds_toArray, List.set_cons_zero, List.set_cons_succ]; refine hK _ _ ?_; clear hK K)))
      (refine Abs.step_call (f := ?_) (args := ?_) rfl rfl rfl rfl (SlIs (1)) (fun _ => Cl_SlIs _) (fun w0 => ?_) (fun w0 hI hF => ?_) (fun K hK v w0 hv => ?_); rotate_left 2; (· go_simp; (constructor <;> rfl)); (· exact (cs1 _).mono (fun _ _ h => h.sl)); (obtain ⟨A3, d3, rfl, -⟩ := hv; clear w0; simp only [Act.put, List.setIfInBounds_toArray, List.set_cons_zero, List.set_cons_succ]; refine hK _ _ ?_; clear hK K))
      repeat (first | (refine Abs.step_pure rfl rfl (fun K hK => ?_); go_simp; (try go_bits); (first | refine hK _ _ ?_ | (simp only [↓IntWalk.iteOmega]; go_simp; (try go_bits); refine hK _ _ ?_)); clear hK K) | (refine Abs.step_load (v := ?_) rfl rfl (by kernel_rfl) rfl (fun w0 hI => ?_) (fun K hK => ?_); rotate_left; (· have z0 := (rcell (kp hI (f_b1))).1; go_simp; rfl); (simp only [Act.put, List.setIfInBounds_toArray, List.set_cons_zero, List.set_cons_succ]; refine hK _ _ ?_; clear hK K)) | (refine Abs.step_skip rfl rfl (fun K hK => ?_); (simp only [Act.put, List.setIfInBounds_toArray, List.set_cons_zero, List.set_cons_succ]; refine hK _ _ ?_; clear hK K)))
      (refine Abs.step_call (f := ?_) (args := ?_) rfl rfl rfl rfl (SlIs (Q1)) (fun _ => Cl_SlIs _) (fun w0 => ?_) (fun w0 hI hF => ?_) (fun K hK v w0 hv => ?_); rotate_left 2; (· go_simp; (constructor <;> rfl)); (· exact (cp _ _ _ _ _ (rn_q.below hI) ((hF 1 (by kernel_rfl)).2 rfl).rd).mono (fun _ _ h => h.sl)); (obtain ⟨A4, d4, rfl, -⟩ := hv; clear w0; simp only [Act.put, List.setIfInBounds_toArray, List.set_cons_zero, List.set_cons_succ]; refine hK _ _ ?_; clear hK K))
      repeat (first | (refine Abs.step_pure rfl rfl (fun K hK => ?_); go_simp; (try go_bits); (first | refine hK _ _ ?_ | (simp only [↓IntWalk.iteOmega]; go_simp; (try go_bits); refine hK _ _ ?_)); clear hK K) | (refine Abs.step_load (v := ?_) rfl rfl (by kernel_rfl) rfl (fun w0 hI => ?_) (fun K hK => ?_); rotate_left; (· have z0 := (rcell (kp hI (f_b1))).1; go_simp; rfl); (simp only [Act.put, List.setIfInBounds_toArray, List.set_cons_zero, List.set_cons_succ]; refine hK _ _ ?_; clear hK K)) | (refine Abs.step_skip rfl rfl (fun K hK => ?_); (simp only [Act.put, List.setIfInBounds_toArray, List.set_cons_zero, List.set_cons_succ]; refine hK _ _ ?_; clear hK K)))
      (refine Abs.step_call_val (f := ?_) (args := ?_) (v := ?_) rfl rfl rfl rfl (fun w0 => ?_) (fun w0 hI => ?_) (fun K hK => ?_); rotate_left 3; (· go_simp; (constructor <;> rfl)); (· exact c2 _ _ _); (simp only [Act.put, List.setIfInBounds_toArray, List.set_cons_zero, List.set_cons_succ]; refine hK _ _ ?_; clear hK K))
      repeat (first | (refine Abs.step_pure rfl rfl (fun K hK => ?_); go_simp; (try go_bits); (first | refine hK _ _ ?_ | (simp only [↓IntWalk.iteOmega]; go_simp; (try go_bits); refine hK _ _ ?_)); clear hK K) | (refine Abs.step_load (v := ?_) rfl rfl (by kernel_rfl) rfl (fun w0 hI => ?_) (fun K hK => ?_); rotate_left; (· have z0 := (rcell (kp hI (f_b1))).1; go_simp; rfl); (simp only [Act.put, List.setIfInBounds_toArray, List.set_cons_zero, List.set_cons_succ]; refine hK _ _ ?_; clear hK K)) | (refine Abs.step_skip rfl rfl (fun K hK => ?_); (simp only [Act.put, List.setIfInBounds_toArray, List.set_cons_zero, List.set_cons_succ]; refine hK _ _ ?_; clear hK K)))
      (refine Abs.step_call (f := ?_) (args := ?_) rfl rfl rfl rfl (SlIs (R1)) (fun _ => Cl_SlIs _) (fun w0 => ?_) (fun w0 hI hF => ?_) (fun K hK v w0 hv => ?_); rotate_left 2; (· go_simp; (constructor <;> rfl)); (· exact (cm _ _ _ _ _ (rd_b1.below hI) (rn_t.below hI)).mono (fun _ _ h => h.sl)); (obtain ⟨A5, d5, rfl, -⟩ := hv; clear w0; simp only [Act.put, List.setIfInBounds_toArray, List.set_cons_zero, List.set_cons_succ]; refine hK _ _ ?_; clear hK K))
      repeat (first | (refine Abs.step_pure rfl rfl (fun K hK => ?_); go_simp; (try go_bits); (first | refine hK _ _ ?_ | (simp only [↓IntWalk.iteOmega]; go_simp; (try go_bits); refine hK _ _ ?_)); clear hK K) | (refine Abs.step_load (v := ?_) rfl rfl (by kernel_rfl) rfl (fun w0 hI => ?_) (fun K hK => ?_); rotate_left; (· have z0 := (rcell (kp hI (f_b1))).1; go_simp; rfl); (simp only [Act.put, List.setIfInBounds_toArray, List.set_cons_zero, List.set_cons_succ]; refine hK _ _ ?_; clear hK K)) | (refine Abs.step_skip rfl rfl (fun K hK => ?_); (simp only [Act.put, List.setIfInBounds_toArray, List.set_cons_zero, List.set_cons_succ]; refine hK _ _ ?_; clear hK K)))
      (refine Abs.step_call_val (f := ?_) (args := ?_) (v := ?_) rfl rfl rfl rfl (fun w0 => ?_) (fun w0 hI => ?_) (fun K hK => ?_); rotate_left 3; (· go_simp; (constructor <;> rfl)); (· exact c3 _ _ _); (simp only [Act.put, List.setIfInBounds_toArray, List.set_cons_zero, List.set_cons_succ]; refine hK _ _ ?_; clear hK K))
      repeat (first | (refine Abs.step_pure rfl rfl (fun K hK => ?_); go_simp; (try go_bits); (first | refine hK _ _ ?_ | (simp only [↓IntWalk.iteOmega]; go_simp; (try go_bits); refine hK _ _ ?_)); clear hK K) | (refine Abs.step_load (v := ?_) rfl rfl (by kernel_rfl) rfl (fun w0 hI => ?_) (fun K hK => ?_); rotate_left; (· have z0 := (rcell (kp hI (f_b1))).1; go_simp; rfl); (simp only [Act.put, List.setIfInBounds_toArray, List.set_cons_zero, List.set_cons_succ]; refine hK _ _ ?_; clear hK K)) | (refine Abs.step_skip rfl rfl (fun K hK => ?_); (simp only [Act.put, List.setIfInBounds_toArray, List.set_cons_zero, List.set_cons_succ]; refine hK _ _ ?_; clear hK K)))
      (refine Abs.step_store (T := ?_) rfl rfl rfl (fun w0 hI hF hU => ?_) (fun w0 hI hU hJ => ?_) (fun K hK => ?_); rotate_left; (· have hR := kp hI (f_o1); have hg0 := (rcell hR).1; have hg1 := (rcell hR).2.1; simp only [Abs.T_setF, Abs.T_addA, Abs.T_push, Abs.T_start]; go_simp; exact row2 hR _ _); (· first | exact trivial | exact js hJ rfl _ | exact js hJ (Or.inl rfl) _ | exact js hJ (Or.inr rfl) _); (simp only [Act.put, List.setIfInBounds_toArray, List.set_cons_zero, List.set_cons_succ]; refine hK _ _ ?_; clear hK K))
      repeat (first | (refine Abs.step_pure rfl rfl (fun K hK => ?_); go_simp; (try go_bits); (first | refine hK _ _ ?_ | (simp only [↓IntWalk.iteOmega]; go_simp; (try go_bits); refine hK _ _ ?_)); clear hK K) | (refine Abs.step_load (v := ?_) rfl rfl (by kernel_rfl) rfl (fun w0 hI => ?_) (fun K hK => ?_); rotate_left; (· have z0 := (rcell (kp hI (f_b1))).1; go_simp; rfl); (simp only [Act.put, List.setIfInBounds_toArray, List.set_cons_zero, List.set_cons_succ]; refine hK _ _ ?_; clear hK K)) | (refine Abs.step_skip rfl rfl (fun K hK => ?_); (simp only [Act.put, List.setIfInBounds_toArray, List.set_cons_zero, List.set_cons_succ]; refine hK _ _ ?_; clear hK K)))
      (refine Abs.step_store (T := ?_) rfl rfl rfl (fun w0 hI hF hU => ?_) (fun w0 hI hU hJ => ?_) (fun K hK => ?_); rotate_left; (· have hR := fun cs => (setRow_other (w := w0) (g := w.heap.size + 1 + 1) cs (by omega)).trans (kp hI (f_p1)); have hg0 := fun cs => (rcell (hR cs)).1; have hg1 := fun cs => (rcell (hR cs)).2.1; simp only [Abs.T_setF, Abs.T_addA, Abs.T_push, Abs.T_start]; go_simp; exact row2 (hR _) _ _); (· first | exact trivial | exact js hJ rfl _ | exact js hJ (Or.inl rfl) _ | exact js hJ (Or.inr rfl) _); (simp only [Act.put, List.setIfInBounds_toArray, List.set_cons_zero, List.set_cons_succ]; refine hK _ _ ?_; clear hK K))
      repeat (first | (refine Abs.step_pure rfl rfl (fun K hK => ?_); go_simp; (try go_bits); (first | refine hK _ _ ?_ | (simp only [↓IntWalk.iteOmega]; go_simp; (try go_bits); refine hK _ _ ?_)); clear hK K) | (refine Abs.step_load (v := ?_) rfl rfl (by kernel_rfl) rfl (fun w0 hI => ?_) (fun K hK => ?_); rotate_left; (· have z0 := (rcell (kp hI (f_b1))).1; go_simp; rfl); (simp only [Act.put, List.setIfInBounds_toArray, List.set_cons_zero, List.set_cons_succ]; refine hK _ _ ?_; clear hK K)) | (refine Abs.step_skip rfl rfl (fun K hK => ?_); (simp only [Act.put, List.setIfInBounds_toArray, List.set_cons_zero, List.set_cons_succ]; refine hK _ _ ?_; clear hK K)))
      intro w0 hI hF hx1 hx2
      clear hx1 hx2
      simp only [Abs.T_push]
      have rn_u := ((((hF 2).1).2 rfl)).rd
      have rn_v := (((hF 7).2 rfl)).rd
      clear hF
      have hQ := kp hI (f_o1)
      generalize hT3 : setRow w0 _ _ = w3
      have hy := (fin_x (b0 _) hQ hT3).1
      replace rn_u := rn_u.exc hy hQ (by decide)
      replace rn_v := rn_v.exc hy hQ (by decide)
      obtain ⟨hx3, f_o3⟩ := fin_x hI (f_o1) hT3
      clear hT3 hQ hy hI w0
      have f_a3 := kx hx3 (f_a1) (by omega)
      have f_b3 := kx hx3 (f_b1) (by omega)
      have f_p3 := kx hx3 (f_p1) (by omega)
      have rd_a3 := rd_a1.exc hx3 (f_o1) (by decide)
      have rd_b3 := rd_b1.exc hx3 (f_o1) (by decide)
      have rd_q3 := rn_q.exc hx3 (f_o1) (by decide)
      have rd_t3 := rn_t.exc hx3 (f_o1) (by decide)
      have hB3 := bX hB1 hx3 (by omega)
      clear za_a za_b zb_a zb_b zo_a zo_b zp_a zp_b
      obtain ⟨za_a, za_b, la3⟩ := rcell f_a3
      obtain ⟨zb_a, zb_b, lb3⟩ := rcell f_b3
      obtain ⟨zp_a, zp_b, lp3⟩ := rcell f_p3
      obtain ⟨zo_a, zo_b, lo3⟩ := rcell f_o3
      generalize hT4 : setRow w3 _ _ = w4
      obtain ⟨hx4, f_p4⟩ := fin_x (b0 _) f_p3 hT4
      clear hT4
      have f_a4 := kx hx4 (f_a3) (by omega)
      have f_b4 := kx hx4 (f_b3) (by omega)
      have f_o4 := kx hx4 (f_o3) (by omega)
      have rd_a4 := rd_a3.exc hx4 (f_p3) (by decide)
      have rd_b4 := rd_b3.exc hx4 (f_p3) (by decide)
      have rd_q4 := rd_q3.exc hx4 (f_p3) (by decide)
      have rd_t4 := rd_t3.exc hx4 (f_p3) (by decide)
      have rd_u4 := rn_u.exc hx4 (f_p3) (by decide)
      have rd_v4 := rn_v.exc hx4 (f_p3) (by decide)
      have hB4 := bX hB3 hx4 (by omega)
      clear za_a za_b zb_a zb_b zo_a zo_b zp_a zp_b
      obtain ⟨za_a, za_b, la4⟩ := rcell f_a4
      obtain ⟨zb_a, zb_b, lb4⟩ := rcell f_b4
      obtain ⟨zo_a, zo_b, lo4⟩ := rcell f_o4
      obtain ⟨zp_a, zp_b, lp4⟩ := rcell f_p4
      go_wp2
      refine bodyPost_ret (by simp [results, Tryz.results81, go_sem, zo_a, zp_a]; try rfl) rfl ⟨A4, d4, A5, d5, by simp, hB4, rd_u4, rd_v4⟩
  · obtain ⟨e1, e2⟩ := k1 (by omega)
    have c2 := fun A c => ref_made false Q A c
    have c3 := fun A c => ref_made false R A c
    rw [e1, e2]
    unfold GivesNum2
    rw [Int.natAbs_natCast, Int.natAbs_natCast, decide_eq_false hx, decide_eq_false (show ¬ ((Q : Nat) : Int) < 0 by omega), decide_eq_false (show ¬ ((R : Nat) : Int) < 0 by omega)]
    clear e1 e2 k1 k2 k3 hR lQ hlen hx lx lm
    generalize x.natAbs = X at *
    generalize m.natAbs = Y at *
    generalize decide (m < 0) = pm at *
    go_enter Tryz.func81, Tryz.ntmps81
    go_wp2_with fail
    refine (c1 _ (ha.below (bA (bA (bA (bA (b0 _) (.cells #[.bool false, .slice A (sz X).length c] 127)) (.cells #[.bool pm, .slice B (sz Y).length d] 127)) (.cells #[.bool false, .slice none 0 0] 127)) (.cells #[.bool false, .slice none 0 0] 127))) (hb.below (bA (bA (bA (bA (b0 _) (.cells #[.bool false, .slice A (sz X).length c] 127)) (.cells #[.bool pm, .slice B (sz Y).length d] 127)) (.cells #[.bool false, .slice none 0 0] 127)) (.cells #[.bool false, .slice none 0 0] 127)))).mono ?_
    rintro e w1 ⟨A1, d1, A2, d2, rfl, hb1, rn_q, rn_t⟩
    have f_a1 := kp hb1 (ka (ka (ka (na w #[.bool false, .slice A (sz X).length c] 127) (.cells #[.bool pm, .slice B (sz Y).length d] 127)) (.cells #[.bool false, .slice none 0 0] 127)) (.cells #[.bool false, .slice none 0 0] 127))
    have f_b1 := kp hb1 (ka (ka (na1 w (.cells #[.bool false, .slice A (sz X).length c] 127) #[.bool pm, .slice B (sz Y).length d] 127) (.cells #[.bool false, .slice none 0 0] 127)) (.cells #[.bool false, .slice none 0 0] 127))
    have f_o1 := kp hb1 (ka (na2 w (.cells #[.bool false, .slice A (sz X).length c] 127) (.cells #[.bool pm, .slice B (sz Y).length d] 127) #[.bool false, .slice none 0 0] 127) (.cells #[.bool false, .slice none 0 0] 127))
    have f_p1 := kp hb1 (na3 w (.cells #[.bool false, .slice A (sz X).length c] 127) (.cells #[.bool pm, .slice B (sz Y).length d] 127) (.cells #[.bool false, .slice none 0 0] 127) #[.bool false, .slice none 0 0] 127)
    have rd_a1 := (ha.below (bA (bA (bA (bA (b0 _) (.cells #[.bool false, .slice A (sz X).length c] 127)) (.cells #[.bool pm, .slice B (sz Y).length d] 127)) (.cells #[.bool false, .slice none 0 0] 127)) (.cells #[.bool false, .slice none 0 0] 127))).below hb1
    have rd_b1 := (hb.below (bA (bA (bA (bA (b0 _) (.cells #[.bool false, .slice A (sz X).length c] 127)) (.cells #[.bool pm, .slice B (sz Y).length d] 127)) (.cells #[.bool false, .slice none 0 0] 127)) (.cells #[.bool false, .slice none 0 0] 127))).below hb1
    have hB1 := bB (bA (bA (bA (bA (b0 w) (.cells #[.bool false, .slice A (sz X).length c] 127)) (.cells #[.bool pm, .slice B (sz Y).length d] 127)) (.cells #[.bool false, .slice none 0 0] 127)) (.cells #[.bool false, .slice none 0 0] 127)) hb1
    obtain ⟨za_a, za_b, la1⟩ := rcell f_a1
    obtain ⟨zb_a, zb_b, lb1⟩ := rcell f_b1
    obtain ⟨zo_a, zo_b, lo1⟩ := rcell f_o1
    obtain ⟨zp_a, zp_b, lp1⟩ := rcell f_p1
    go_wp2_with fail
    refine (c2 _ _ _).mono ?_
    rintro e w2 ⟨rfl, hb2⟩
    have f_a2 := kp hb2 (f_a1)
    have f_b2 := kp hb2 (f_b1)
    have f_o2 := kp hb2 (f_o1)
    have f_p2 := kp hb2 (f_p1)
    have rd_a2 := rd_a1.below hb2
    have rd_b2 := rd_b1.below hb2
    have rd_q2 := rn_q.below hb2
    have rd_t2 := rn_t.below hb2
    have hB2 := bB hB1 hb2
    clear za_a za_b zb_a zb_b zo_a zo_b zp_a zp_b
    obtain ⟨za_a, za_b, la2⟩ := rcell f_a2
    obtain ⟨zb_a, zb_b, lb2⟩ := rcell f_b2
    obtain ⟨zo_a, zo_b, lo2⟩ := rcell f_o2
    obtain ⟨zp_a, zp_b, lp2⟩ := rcell f_p2
    go_wp2_with fail
    refine (c3 _ _ _).mono ?_
    rintro e w3 ⟨rfl, hb3⟩
    have f_a3 := kp hb3 (f_a2)
    have f_b3 := kp hb3 (f_b2)
    have f_o3 := kp hb3 (f_o2)
    have f_p3 := kp hb3 (f_p2)
    have rd_a3 := rd_a2.below hb3
    have rd_b3 := rd_b2.below hb3
    have rd_q3 := rd_q2.below hb3
    have rd_t3 := rd_t2.below hb3
    have hB3 := bB hB2 hb3
    clear za_a za_b zb_a zb_b zo_a zo_b zp_a zp_b
    obtain ⟨za_a, za_b, la3⟩ := rcell f_a3
    obtain ⟨zb_a, zb_b, lb3⟩ := rcell f_b3
    obtain ⟨zo_a, zo_b, lo3⟩ := rcell f_o3
    obtain ⟨zp_a, zp_b, lp3⟩ := rcell f_p3
    go_wp2_with fail
    rw [row2 f_o3]
    generalize hT4 : setRow _ _ _ = w4
    obtain ⟨hx4, f_o4⟩ := fin_x (b0 _) f_o3 hT4
    clear hT4
    have f_a4 := kx hx4 (f_a3) (by omega)
    have f_b4 := kx hx4 (f_b3) (by omega)
    have f_p4 := kx hx4 (f_p3) (by omega)
    have rd_a4 := rd_a3.exc hx4 (f_o3) (by decide)
    have rd_b4 := rd_b3.exc hx4 (f_o3) (by decide)
    have rd_q4 := rd_q3.exc hx4 (f_o3) (by decide)
    have rd_t4 := rd_t3.exc hx4 (f_o3) (by decide)
    have hB4 := bX hB3 hx4 (by omega)
    clear za_a za_b zb_a zb_b zo_a zo_b zp_a zp_b
    obtain ⟨za_a, za_b, la4⟩ := rcell f_a4
    obtain ⟨zb_a, zb_b, lb4⟩ := rcell f_b4
    obtain ⟨zp_a, zp_b, lp4⟩ := rcell f_p4
    obtain ⟨zo_a, zo_b, lo4⟩ := rcell f_o4
    rw [row2 f_p4]
    generalize hT5 : setRow _ _ _ = w5
    obtain ⟨hx5, f_p5⟩ := fin_x (b0 _) f_p4 hT5
    clear hT5
    have f_a5 := kx hx5 (f_a4) (by omega)
    have f_b5 := kx hx5 (f_b4) (by omega)
    have f_o5 := kx hx5 (f_o4) (by omega)
    have rd_a5 := rd_a4.exc hx5 (f_p4) (by decide)
    have rd_b5 := rd_b4.exc hx5 (f_p4) (by decide)
    have rd_q5 := rd_q4.exc hx5 (f_p4) (by decide)
    have rd_t5 := rd_t4.exc hx5 (f_p4) (by decide)
    have hB5 := bX hB4 hx5 (by omega)
    clear za_a za_b zb_a zb_b zo_a zo_b zp_a zp_b
    obtain ⟨za_a, za_b, la5⟩ := rcell f_a5
    obtain ⟨zb_a, zb_b, lb5⟩ := rcell f_b5
    obtain ⟨zo_a, zo_b, lo5⟩ := rcell f_o5
    obtain ⟨zp_a, zp_b, lp5⟩ := rcell f_p5
    refine bodyPost_ret (by simp [results, Tryz.results81, go_sem, zo_a, zp_a]; try rfl) rfl ⟨A1, d1, A2, d2, by simp, hB5, rd_q5, rd_t5⟩
end Go.Proofs.YtmpfbkeamihjbaaGreat
