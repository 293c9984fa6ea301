/- yearbookref01 at this program: made, Int, Mul, Less: numbers with a sign. -/
import Derived.Test.YtfdaabdibpcjeaaRef5
set_option linter.unusedSimpArgs false
set_option linter.unusedVariables false
namespace Go.Proofs.Ytfdaabdibpcjeaa
open Go.RowKit

/-- a value is a slice of a number's digits -/
def SlIs (n : Nat) (v : Value) (w : World) : Prop := ∃ A c, v = .slice A (sz n).length c ∧ Rd w A c (sz n)
theorem SlIs.rd {n m : Nat} {A : Option Addr} {c : Nat} {w : World} (h : SlIs n (.slice A m c) w) : Rd w A c (sz n) := by
  obtain ⟨A', c', e, hr⟩ := h
  injection e with e1 e2 e3
  subst e1 e3
  exact hr
theorem Cl_SlIs (n : Nat) {v : Value} : Abs.Cl (fun _ => False) (SlIs n v) := by
  intro w w' ⟨A, c, e, hr⟩ h
  refine ⟨A, c, e, hr.cap, fun hl => ?_⟩
  obtain ⟨g, cur, e1, hg, hc⟩ := hr.mem hl
  exact ⟨g, cur, e1, (h.block g (Array.getElem?_eq_some_iff.1 hg).1 (fun hf => hf)).trans hg, hc⟩
theorem GivesSz.sl {n : Nat} {w w' : World} {e : Ending} (h : GivesSz n w e w') : ∃ v, e = .returned v ∧ Below w.heap.size w w' ∧ SlIs n v w' := by
  obtain ⟨A, c, he, hb, hr⟩ := h
  exact ⟨_, he, hb, A, c, rfl, hr⟩
/-- a number's value -/
def numV (x : Int) (A : Option Addr) (c : Nat) : Value := .agg #[.bool (decide (x < 0)), .slice A (sz x.natAbs).length c]
def GivesNum (x : Int) (w : World) (e : Ending) (w' : World) : Prop := ∃ A c, e = .returned (.agg #[.bool (decide (x < 0)), .slice A (sz x.natAbs).length c]) ∧ Below w.heap.size w w' ∧ Rd w' A c (sz x.natAbs)

theorem sz_len0 (n : Nat) : (0 : Int) < ((sz n).length : Int) ↔ n ≠ 0 := by
  have := sz_nil (n := n)
  by_cases h : n = 0
  · subst h; rw [sz_zero]; simp
  · have h2 : sz n ≠ [] := fun e => h (this.1 e)
    have := List.length_pos_iff.2 h2
    constructor
    · intro _; exact h
    · intro _; omega

theorem ref_made (b : Bool) (n : Nat) (A : Option Addr) (c : Nat) (w : World) :
    Calls Try.prog 73 #[.bool b, .slice A (sz n).length c] w fun e w' => e = .returned (.agg #[.bool (b && decide (n ≠ 0)), .slice A (sz n).length c]) ∧ Below w.heap.size w w' := by
  have h := sz_len0 n
  have hd : decide ((0 : Int) < ((sz n).length : Int)) = decide (n ≠ 0) := decide_eq_decide.2 h
  rw [← hd]
  clear hd h
  generalize (sz n).length = m at *
  cases b
  all_goals
    go_enter Try.func73, Try.ntmps73
    go_wp2
    refine bodyPost_ret (by simp [results, Try.results73, go_sem]; try rfl) rfl ⟨?_, bA (b0 w) _⟩
    simp

set_option maxRecDepth 100000 in
set_option maxHeartbeats 1000000 in
theorem ref_Int (x : Int) (h1 : -9223372036854775808 ≤ x) (h2 : x < 9223372036854775808) (w : World) :
    Calls Try.prog 54 #[.int .i64 x] w (GivesNum x w) := by
  by_cases hx : x < 0
  · have hd : decide (x < 0) = true := decide_eq_true hx
    obtain ⟨u, hu⟩ : ∃ u : Nat, IntKind.u64.wrap x = (u : Int) := ⟨(x + 18446744073709551616).toNat, by rw [IntKind.wrap_u64]; omega⟩
    have hu2 : (u : Int) = x + 18446744073709551616 := by rw [← hu, IntKind.wrap_u64]; omega
    have e3 : 2 ^ 64 - u = x.natAbs := by omega
    have c1 := ref_Size u (by omega)
    have c2 := ref_power 64 (by decide)
    have l1 : (sz (2 ^ 64)).length ≤ 1000 := Nat.le_trans (sz_len_lt (k := 65) (by decide)) (by decide)
    have c3 := fun A B c d w ha hb => ref_minus (2 ^ 64) u A B c d l1 (by omega) w ha hb
    rw [e3] at c3
    have hn0 : x.natAbs ≠ 0 := by omega
    have c4 := fun A c => ref_made true x.natAbs A c
    rw [decide_eq_true hn0] at c4
    have HU := hide hu2
    clear hu2 e3 hn0 l1
    go_enter Try.func54, Try.ntmps54
    go_wp2_with fail
    refine (c1 _).mono ?_
    rintro e w1 ⟨A1, d1, rfl, hb1, rn_s1⟩
    have f_o1 := kp hb1 (na w #[.bool false, .slice none 0 0] 93)
    have hB1 := bB (bA (b0 w) (.cells #[.bool false, .slice none 0 0] 93)) hb1
    obtain ⟨zo_a, zo_b, lo1⟩ := rcell f_o1
    go_wp2_with fail
    refine (c2 _).mono ?_
    rintro e w2 ⟨A2, d2, rfl, hb2, rn_s2⟩
    have f_o2 := kp hb2 (f_o1)
    have rd_s12 := rn_s1.below hb2
    have hB2 := bB hB1 hb2
    clear zo_a zo_b
    obtain ⟨zo_a, zo_b, lo2⟩ := rcell f_o2
    go_wp2_with fail
    refine (c3 A2 A1 d2 d1 _ rn_s2 rd_s12).mono ?_
    rintro e w3 ⟨A3, d3, rfl, hb3, rn_s3⟩
    have f_o3 := kp hb3 (f_o2)
    have rd_s13 := rd_s12.below hb3
    have rd_s23 := rn_s2.below hb3
    have hB3 := bB hB2 hb3
    clear zo_a zo_b
    obtain ⟨zo_a, zo_b, lo3⟩ := rcell f_o3
    go_wp2_with fail
    refine (c4 A3 d3 _).mono ?_
    rintro e w4 ⟨rfl, hb4⟩
    have f_o4 := kp hb4 (f_o3)
    have rd_s14 := rd_s13.below hb4
    have rd_s24 := rd_s23.below hb4
    have rd_s34 := rn_s3.below hb4
    have hB4 := bB hB3 hb4
    clear zo_a zo_b
    obtain ⟨zo_a, zo_b, lo4⟩ := rcell f_o4
    go_wp2_with fail
    rw [row2 f_o4]
    generalize hT5 : setRow _ _ _ = w5
    obtain ⟨hx5, f_o5⟩ := fin_x (b0 _) f_o4 hT5
    clear hT5
    have rd_s15 := rd_s14.exc hx5 (f_o4) (by decide)
    have rd_s25 := rd_s24.exc hx5 (f_o4) (by decide)
    have rd_s35 := rd_s34.exc hx5 (f_o4) (by decide)
    have hB5 := bX hB4 hx5 (by omega)
    clear zo_a zo_b
    obtain ⟨zo_a, zo_b, lo5⟩ := rcell f_o5
    refine bodyPost_ret (by simp [results, Try.results54, go_sem, zo_a]; try rfl) rfl ⟨A3, d3, by rw [hd], hB5, rd_s35⟩
  · have hd : decide (x < 0) = false := decide_eq_false hx
    obtain ⟨u, hu⟩ : ∃ u : Nat, IntKind.u64.wrap x = (u : Int) := ⟨x.toNat, by have := IntKind.wrap_u64 x; omega⟩
    have e3 : u = x.natAbs := by have := hu; rw [IntKind.wrap_u64] at this; omega
    have c1 := ref_Size u (by omega)
    have c4 := fun A c => ref_made false u A c
    rw [e3] at c1 c4 hu
    have hu2 : x = (x.natAbs : Int) := by omega
    generalize x.natAbs = m at *
    subst hu2
    clear hu e3 hx
    go_enter Try.func54, Try.ntmps54
    go_wp2_with fail
    refine (c1 _).mono ?_
    rintro e w1 ⟨A1, d1, rfl, hb1, rn_s1⟩
    have f_o1 := kp hb1 (na w #[.bool false, .slice none 0 0] 93)
    have hB1 := bB (bA (b0 w) (.cells #[.bool false, .slice none 0 0] 93)) hb1
    obtain ⟨zo_a, zo_b, lo1⟩ := rcell f_o1
    go_wp2_with fail
    refine (c4 A1 d1 _).mono ?_
    rintro e w2 ⟨rfl, hb2⟩
    have f_o2 := kp hb2 (f_o1)
    have rd_s12 := rn_s1.below hb2
    have hB2 := bB hB1 hb2
    clear zo_a zo_b
    obtain ⟨zo_a, zo_b, lo2⟩ := rcell f_o2
    go_wp2_with fail
    rw [row2 f_o2]
    generalize hT3 : setRow _ _ _ = w3
    obtain ⟨hx3, f_o3⟩ := fin_x (b0 _) f_o2 hT3
    clear hT3
    have rd_s13 := rd_s12.exc hx3 (f_o2) (by decide)
    have hB3 := bX hB2 hx3 (by omega)
    clear zo_a zo_b
    obtain ⟨zo_a, zo_b, lo3⟩ := rcell f_o3
    refine bodyPost_ret (by simp [results, Try.results54, go_sem, zo_a]; try rfl) rfl ⟨A1, d1, by rw [hd]; rfl, hB3, rd_s13⟩

set_option maxRecDepth 100000 in
set_option maxHeartbeats 1000000 in
theorem ref_Mul (x y : Int) (M : Nat) (A B : Option Addr) (c d : Nat) (hM : M ≤ 900) (hxy : x.natAbs * y.natAbs < 2 ^ M) (lx : (sz x.natAbs).length ≤ 900) (ly : (sz y.natAbs).length ≤ 900) (w : World) (ha : Rd w A c (sz x.natAbs)) (hb : Rd w B d (sz y.natAbs)) :
    Calls Try.prog 69 #[.agg #[.bool (decide (x < 0)), .slice A (sz x.natAbs).length c], .agg #[.bool (decide (y < 0)), .slice B (sz y.natAbs).length d]] w (GivesNum (x * y) w) := by
  have hs : (decide (x < 0) != decide (y < 0) && decide ((x * y).natAbs ≠ 0)) = decide (x * y < 0) := by
    by_cases h1 : x < 0 <;> by_cases h2 : y < 0
    · have : 0 < x * y := by have := Int.mul_pos (a := -x) (b := -y) (by omega) (by omega); rw [Int.neg_mul_neg] at this; exact this
      simp [h1, h2]; omega
    · by_cases h3 : y = 0
      · subst h3; simp
      · have : x * y < 0 := Int.mul_neg_of_neg_of_pos h1 (by omega)
        simp [h1, h2, this]; omega
    · by_cases h3 : x = 0
      · subst h3; simp
      · have : x * y < 0 := Int.mul_neg_of_pos_of_neg (by omega) h2
        simp [h1, h2, this]; omega
    · have : 0 ≤ x * y := Int.mul_nonneg (by omega) (by omega)
      simp [h1, h2]; omega
  have hn : x.natAbs * y.natAbs = (x * y).natAbs := (Int.natAbs_mul x y).symm
  have c1 := fun w ha hb => ref_times x.natAbs y.natAbs M A B c d hM hxy lx ly w ha hb
  rw [hn] at c1
  have c2 := fun b A c => ref_made b (x * y).natAbs A c
  have HS := hide hs
  clear hs hn hxy lx ly
  generalize x * y = z at *
  generalize hp : decide (x < 0) = p at *
  generalize hq : decide (y < 0) = q at *
  clear hp hq
  go_enter Try.func69, Try.ntmps69
  go_wp2_with fail
  have f_a1 := (ka (ka (na w #[.bool p, .slice A (sz x.natAbs).length c] 93) (.cells #[.bool q, .slice B (sz y.natAbs).length d] 93)) (.cells #[.bool false, .slice none 0 0] 93))
  have f_b1 := (ka (na1 w (.cells #[.bool p, .slice A (sz x.natAbs).length c] 93) #[.bool q, .slice B (sz y.natAbs).length d] 93) (.cells #[.bool false, .slice none 0 0] 93))
  have f_o1 := (na2 w (.cells #[.bool p, .slice A (sz x.natAbs).length c] 93) (.cells #[.bool q, .slice B (sz y.natAbs).length d] 93) #[.bool false, .slice none 0 0] 93)
  have rd_a1 := (ha.below (bA (bA (bA (b0 _) (.cells #[.bool p, .slice A (sz x.natAbs).length c] 93)) (.cells #[.bool q, .slice B (sz y.natAbs).length d] 93)) (.cells #[.bool false, .slice none 0 0] 93)))
  have rd_b1 := (hb.below (bA (bA (bA (b0 _) (.cells #[.bool p, .slice A (sz x.natAbs).length c] 93)) (.cells #[.bool q, .slice B (sz y.natAbs).length d] 93)) (.cells #[.bool false, .slice none 0 0] 93)))
  have hB1 := (bA (bA (bA (b0 w) (.cells #[.bool p, .slice A (sz x.natAbs).length c] 93)) (.cells #[.bool q, .slice B (sz y.natAbs).length d] 93)) (.cells #[.bool false, .slice none 0 0] 93))
  have la1 := (rcell f_a1).2.2
  have lb1 := (rcell f_b1).2.2
  have lo1 := (rcell f_o1).2.2
  refine Abs.wp_region_abs (Abs.cls0 _) [0, 1, 2, 3, 4, 5, 6, 7, 8, 9, 10, 11] (by kernel_rfl) (by kernel_rfl) (Below.refl _ _).drew ?_
  repeat (first | (refine Abs.step_pure rfl rfl (fun K hK => ?_); go_simp; (try go_bits); (first | refine hK _ _ ?_ | (simp only [↓IntWalk.iteOmega]; go_simp; (try go_bits); refine hK _ _ ?_)); clear hK K) | (refine Abs.step_load (v := ?_) rfl rfl (by kernel_rfl) rfl (fun w0 hI => ?_) (fun K hK => ?_); rotate_left; (· have z0 := (rcell (kp hI (f_a1))).1; have z1 := (rcell (kp hI (f_b1))).1; go_simp; rfl); (simp only [Act.put, List.setIfInBounds_toArray, List.set_cons_zero, List.set_cons_succ]; refine hK _ _ ?_; clear hK K)) | (refine Abs.step_skip rfl rfl (fun K hK => ?_); (simp only [Act.put, List.setIfInBounds_toArray, List.set_cons_zero, List.set_cons_succ]; refine hK _ _ ?_; clear hK K)))
  (refine Abs.step_call (f := ?_) (args := ?_) rfl rfl rfl rfl (SlIs (z.natAbs)) (fun _ => Cl_SlIs _) (fun w0 => ?_) (fun w0 hI hF => ?_) (fun K hK v w0 hv => ?_); rotate_left 2; (· go_simp; (constructor <;> rfl)); (· exact (c1 _ (rd_a1.below hI) (rd_b1.below hI)).mono (fun _ _ h => h.sl)); (obtain ⟨A3, d3, rfl, -⟩ := hv; clear w0; simp only [Act.put, List.setIfInBounds_toArray, List.set_cons_zero, List.set_cons_succ]; refine hK _ _ ?_; clear hK K))
  repeat (first | (refine Abs.step_pure rfl rfl (fun K hK => ?_); go_simp; (try go_bits); (first | refine hK _ _ ?_ | (simp only [↓IntWalk.iteOmega]; go_simp; (try go_bits); refine hK _ _ ?_)); clear hK K) | (refine Abs.step_load (v := ?_) rfl rfl (by kernel_rfl) rfl (fun w0 hI => ?_) (fun K hK => ?_); rotate_left; (· have z0 := (rcell (kp hI (f_a1))).1; have z1 := (rcell (kp hI (f_b1))).1; go_simp; rfl); (simp only [Act.put, List.setIfInBounds_toArray, List.set_cons_zero, List.set_cons_succ]; refine hK _ _ ?_; clear hK K)) | (refine Abs.step_skip rfl rfl (fun K hK => ?_); (simp only [Act.put, List.setIfInBounds_toArray, List.set_cons_zero, List.set_cons_succ]; refine hK _ _ ?_; clear hK K)))
  (refine Abs.step_call_val (f := ?_) (args := ?_) (v := ?_) rfl rfl rfl rfl (fun w0 => ?_) (fun w0 hI => ?_) (fun K hK => ?_); rotate_left 3; (· go_simp; (constructor <;> rfl)); (· exact c2 _ _ _ _); (simp only [Act.put, List.setIfInBounds_toArray, List.set_cons_zero, List.set_cons_succ]; refine hK _ _ ?_; clear hK K))
  repeat (first | (refine Abs.step_pure rfl rfl (fun K hK => ?_); go_simp; (try go_bits); (first | refine hK _ _ ?_ | (simp only [↓IntWalk.iteOmega]; go_simp; (try go_bits); refine hK _ _ ?_)); clear hK K) | (refine Abs.step_load (v := ?_) rfl rfl (by kernel_rfl) rfl (fun w0 hI => ?_) (fun K hK => ?_); rotate_left; (· have z0 := (rcell (kp hI (f_a1))).1; have z1 := (rcell (kp hI (f_b1))).1; go_simp; rfl); (simp only [Act.put, List.setIfInBounds_toArray, List.set_cons_zero, List.set_cons_succ]; refine hK _ _ ?_; clear hK K)) | (refine Abs.step_skip rfl rfl (fun K hK => ?_); (simp only [Act.put, List.setIfInBounds_toArray, List.set_cons_zero, List.set_cons_succ]; refine hK _ _ ?_; clear hK K)))
  (refine Abs.step_store (T := ?_) rfl rfl rfl (fun w0 hI hF hU => ?_) (fun w0 hI hU hJ => ?_) (fun K hK => ?_); rotate_left; (· have hR := kp hI (f_o1); have hg0 := (rcell hR).1; have hg1 := (rcell hR).2.1; simp only [Abs.T_setF, Abs.T_addA, Abs.T_push, Abs.T_start]; go_simp; exact row2 hR _ _); (· first | exact trivial | exact js hJ rfl _ | exact js hJ (Or.inl rfl) _ | exact js hJ (Or.inr rfl) _); (simp only [Act.put, List.setIfInBounds_toArray, List.set_cons_zero, List.set_cons_succ]; refine hK _ _ ?_; clear hK K))
  repeat (first | (refine Abs.step_pure rfl rfl (fun K hK => ?_); go_simp; (try go_bits); (first | refine hK _ _ ?_ | (simp only [↓IntWalk.iteOmega]; go_simp; (try go_bits); refine hK _ _ ?_)); clear hK K) | (refine Abs.step_load (v := ?_) rfl rfl (by kernel_rfl) rfl (fun w0 hI => ?_) (fun K hK => ?_); rotate_left; (· have z0 := (rcell (kp hI (f_a1))).1; have z1 := (rcell (kp hI (f_b1))).1; go_simp; rfl); (simp only [Act.put, List.setIfInBounds_toArray, List.set_cons_zero, List.set_cons_succ]; refine hK _ _ ?_; clear hK K)) | (refine Abs.step_skip rfl rfl (fun K hK => ?_); (simp only [Act.put, List.setIfInBounds_toArray, List.set_cons_zero, List.set_cons_succ]; refine hK _ _ ?_; clear hK K)))
  intro w0 hI hF hx1 hx2
  clear hx1 hx2
  simp only [Abs.T_push]
  have rn_s := (((hF 9).2 rfl)).rd
  clear hF
  have hQ := kp hI (f_o1)
  generalize hT2 : setRow w0 _ _ = w2
  have hy := (fin_x (b0 _) hQ hT2).1
  replace rn_s := rn_s.exc hy hQ (by decide)
  obtain ⟨hx2, f_o2⟩ := fin_x hI (f_o1) hT2
  clear hT2 hQ hy hI w0
  have f_a2 := kx hx2 (f_a1) (by omega)
  have f_b2 := kx hx2 (f_b1) (by omega)
  have rd_a2 := rd_a1.exc hx2 (f_o1) (by decide)
  have rd_b2 := rd_b1.exc hx2 (f_o1) (by decide)
  have hB2 := bX hB1 hx2 (by omega)
  obtain ⟨za_a, za_b, la2⟩ := rcell f_a2
  obtain ⟨zb_a, zb_b, lb2⟩ := rcell f_b2
  obtain ⟨zo_a, zo_b, lo2⟩ := rcell f_o2
  go_wp2
  refine bodyPost_ret (by simp [results, Try.results69, go_sem, zo_a]; try rfl) rfl ⟨A3, d3, ?_, hB2, rn_s⟩
  rw [← HS.out]
  cases p <;> cases q <;> simp

set_option maxRecDepth 100000 in
set_option maxHeartbeats 1000000 in
theorem ref_Less (x y : Int) (A B : Option Addr) (c d : Nat) (lx : (sz x.natAbs).length ≤ 4096) (ly : (sz y.natAbs).length ≤ 4096) (w : World) (ha : Rd w A c (sz x.natAbs)) (hb : Rd w B d (sz y.natAbs)) :
    Calls Try.prog 68 #[.agg #[.bool (decide (x < 0)), .slice A (sz x.natAbs).length c], .agg #[.bool (decide (y < 0)), .slice B (sz y.natAbs).length d]] w fun e w' => e = .returned (.bool (decide (x < y))) ∧ Below w.heap.size w w' := by
  have c1 := fun w ha hb => ref_less x.natAbs y.natAbs A B c d lx ly w ha hb
  have c2 := fun w hb ha => ref_less y.natAbs x.natAbs B A d c ly lx w hb ha
  by_cases h1 : x < 0 <;> by_cases h2 : y < 0
  · rw [show decide (y.natAbs < x.natAbs) = decide (x < y) from decide_eq_decide.2 (by omega)] at c2
    rw [decide_eq_true h1, decide_eq_true h2]
    clear c1 h1 h2
    generalize decide (x < y) = r at *
    go_enter Try.func68, Try.ntmps68
    go_wp2_with fail
    refine (c2 _ (hb.below (bA (bA (b0 _) (.cells #[.bool true, .slice A (sz x.natAbs).length c] 93)) (.cells #[.bool true, .slice B (sz y.natAbs).length d] 93))) (ha.below (bA (bA (b0 _) (.cells #[.bool true, .slice A (sz x.natAbs).length c] 93)) (.cells #[.bool true, .slice B (sz y.natAbs).length d] 93)))).mono ?_
    rintro e w1 ⟨rfl, hb1⟩
    have f_a1 := kp hb1 (ka (na w #[.bool true, .slice A (sz x.natAbs).length c] 93) (.cells #[.bool true, .slice B (sz y.natAbs).length d] 93))
    have f_b1 := kp hb1 (na1 w (.cells #[.bool true, .slice A (sz x.natAbs).length c] 93) #[.bool true, .slice B (sz y.natAbs).length d] 93)
    have rd_a1 := (ha.below (bA (bA (b0 _) (.cells #[.bool true, .slice A (sz x.natAbs).length c] 93)) (.cells #[.bool true, .slice B (sz y.natAbs).length d] 93))).below hb1
    have rd_b1 := (hb.below (bA (bA (b0 _) (.cells #[.bool true, .slice A (sz x.natAbs).length c] 93)) (.cells #[.bool true, .slice B (sz y.natAbs).length d] 93))).below hb1
    have hB1 := bB (bA (bA (b0 w) (.cells #[.bool true, .slice A (sz x.natAbs).length c] 93)) (.cells #[.bool true, .slice B (sz y.natAbs).length d] 93)) hb1
    obtain ⟨za_a, za_b, la1⟩ := rcell f_a1
    obtain ⟨zb_a, zb_b, lb1⟩ := rcell f_b1
    go_wp2
    go_ret
    exact ⟨rfl, hB1⟩
  · rw [show decide (x < y) = true from decide_eq_true (by omega), decide_eq_true h1, decide_eq_false h2]
    clear c1 c2 h1 h2
    go_enter Try.func68, Try.ntmps68
    go_wp2
    go_ret
    exact ⟨rfl, (bA (bA (b0 w) _) _)⟩
  · rw [show decide (x < y) = false from decide_eq_false (by omega), decide_eq_false h1, decide_eq_true h2]
    clear c1 c2 h1 h2
    go_enter Try.func68, Try.ntmps68
    go_wp2
    go_ret
    exact ⟨rfl, (bA (bA (b0 w) _) _)⟩
  · rw [show decide (x.natAbs < y.natAbs) = decide (x < y) from decide_eq_decide.2 (by omega)] at c1
    rw [decide_eq_false h1, decide_eq_false h2]
    clear c2 h1 h2
    generalize decide (x < y) = r at *
    go_enter Try.func68, Try.ntmps68
    go_wp2_with fail
    refine (c1 _ (ha.below (bA (bA (b0 _) (.cells #[.bool false, .slice A (sz x.natAbs).length c] 93)) (.cells #[.bool false, .slice B (sz y.natAbs).length d] 93))) (hb.below (bA (bA (b0 _) (.cells #[.bool false, .slice A (sz x.natAbs).length c] 93)) (.cells #[.bool false, .slice B (sz y.natAbs).length d] 93)))).mono ?_
    rintro e w1 ⟨rfl, hb1⟩
    have f_a1 := kp hb1 (ka (na w #[.bool false, .slice A (sz x.natAbs).length c] 93) (.cells #[.bool false, .slice B (sz y.natAbs).length d] 93))
    have f_b1 := kp hb1 (na1 w (.cells #[.bool false, .slice A (sz x.natAbs).length c] 93) #[.bool false, .slice B (sz y.natAbs).length d] 93)
    have rd_a1 := (ha.below (bA (bA (b0 _) (.cells #[.bool false, .slice A (sz x.natAbs).length c] 93)) (.cells #[.bool false, .slice B (sz y.natAbs).length d] 93))).below hb1
    have rd_b1 := (hb.below (bA (bA (b0 _) (.cells #[.bool false, .slice A (sz x.natAbs).length c] 93)) (.cells #[.bool false, .slice B (sz y.natAbs).length d] 93))).below hb1
    have hB1 := bB (bA (bA (b0 w) (.cells #[.bool false, .slice A (sz x.natAbs).length c] 93)) (.cells #[.bool false, .slice B (sz y.natAbs).length d] 93)) hb1
    obtain ⟨za_a, za_b, la1⟩ := rcell f_a1
    obtain ⟨zb_a, zb_b, lb1⟩ := rcell f_b1
    go_wp2
    go_ret
    exact ⟨rfl, hB1⟩
end Go.Proofs.Ytfdaabdibpcjeaa
