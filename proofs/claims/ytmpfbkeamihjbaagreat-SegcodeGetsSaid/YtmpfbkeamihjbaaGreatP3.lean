/- The package line at this program: what its small functions come to. The package line at this program, on: what a line may be, its values. The package line at this program, on: over, value, At, Check, Within, Lowest, Compare. The package line at this program, on: Lowest, Compare, Within. yearbooklaw05.wakes at this program: true. The package wide at this program, on: Scale where the product fits. Sums of fractions that are each rounded down: plain laws of whole numbers. The package fsum at this program: pairs, term, small. What writes one block that was there. -/
import Derived.Test.YtmpfbkeamihjbaaGreatP2
import Derived.ScopeJumps
set_option linter.unusedSimpArgs false
set_option linter.unusedVariables false
namespace Go.Proofs.YtmpfbkeamihjbaaGreat
open Go.RowKit

theorem gcdI_step (x y : Nat) (_h : x ≠ 0) : Nat.gcd (y % x) x = Nat.gcd x y := (Nat.gcd_rec x y).symm

set_option maxRecDepth 100000 in
theorem divisor_nn (n m : Nat) (hn : n < 9223372036854775808) (hm : m < 9223372036854775808) (a : Int) (ha : a = n ∨ a = -n) (w : World) :
    Calls Tryz.prog 159 #[.int .i64 a, .int .i64 m] w fun e w' => e = .returned (.int .i64 (Nat.gcd n m : Nat)) ∧ w = w' := by
  go_enter Tryz.func159, Tryz.ntmps159
  go_wp2
  refine wp_scope_jumps 0 (fun a' w' => w = w' ∧ ∃ (x y : Nat) (u5 u6 u7 u8 u9 u10 u11 u12 u13 u14 : Value), a' = { tmps := #[.int .i64 x, .int .i64 y, undef, undef, .int .i64 0, u5, u6, u7, u8, u9, u10, u11, u12, u13, u14, undef], defers := [] } ∧ x < 9223372036854775808 ∧ y < 9223372036854775808 ∧ Hid (Nat.gcd x y = Nat.gcd n m)) (fun a' _ => (intOf (a'.tmps.getD 0 undef)).toNat) rfl ?_ ?_
  · have HN := hide (show Nat.gcd n m = Nat.gcd n m from rfl)
    by_cases hneg : a < 0
    · have e0 : a = -n := by omega
      subst e0
      have hp : 0 < n := by omega
      have h1 : ((n : Int) == 0) = false := by simp; omega
      have h2 : ¬ (n : Int) = 0 := by omega
      have h3 : (m : Int) % n = ((m % n : Nat) : Int) := by simp
      have h4 : m % n < n := Nat.mod_lt _ hp
      have H3 := hide h3
      clear h3
      go_wp2
      go_step3
      go_wp2
      go_step3
      rw [H3.out]
      refine ⟨rfl, rfl, m % n, n, _, _, _, _, _, _, _, _, _, _, rfl, by omega, hn, gcdI_step n m (by omega)⟩
    · have e0 : a = n := by omega
      subst e0
      by_cases hz : n = 0
      · subst hz
        go_wp2
        go_step3
        go_wp2
        simp only [Exit.jump]
        go_ret
        exact ⟨by simp, rfl⟩
      · have h1 : ((n : Int) == 0) = false := by simp; omega
        have h2 : ¬ (n : Int) = 0 := by omega
        have h3 : (m : Int) % n = ((m % n : Nat) : Int) := by simp
        have h4 : m % n < n := Nat.mod_lt _ (by omega)
        have H3 := hide h3
        clear h3
        go_wp2
        go_step3
        go_wp2
        go_step3
        rw [H3.out]
        refine ⟨rfl, rfl, m % n, n, _, _, _, _, _, _, _, _, _, _, rfl, by omega, hn, gcdI_step n m (by omega)⟩
  · rintro a' w' ⟨rfl, x, y, u5, u6, u7, u8, u9, u10, u11, u12, u13, u14, rfl, hx, hy, HG⟩
    by_cases h0 : x = 0
    · subst h0
      go_wp2
      simp only [Exit.jump]
      go_ret
      have := HG.out
      rw [Nat.gcd_zero_left] at this
      exact ⟨by simp [this], rfl⟩
    · have h1 : ((x : Int) == 0) = false := by simp; omega
      have h2 : ¬ (x : Int) = 0 := by omega
      have h3 : (y : Int) % x = ((y % x : Nat) : Int) := by simp
      have h4 : y % x < x := Nat.mod_lt _ (by omega)
      have H3 := hide h3
      clear h3
      go_wp2
      go_step3
      rw [H3.out]
      refine ⟨rfl, ⟨rfl, y % x, x, _, _, _, _, _, _, _, _, _, _, rfl, by omega, hx, ?_⟩, ?_⟩
      · rw [Hid, gcdI_step x y h0]; exact HG.out
      · simp [intOf]; omega

def bkB (v : Int) : Bool := decide (-2305844108725321728 ≤ v ∧ v ≤ 2305844108725321728)
def tmB (t : Int) : Bool := decide (0 ≤ t ∧ t ≤ 281474976710656)
def slB (N D : Int) : Bool := decide (1 ≤ D ∧ D ≤ 281474976710656 ∧ -4611688217450643456 ≤ N ∧ N ≤ 4611688217450643456)

theorem line_back (v : Int) (w : World) : Calls Tryz.prog 149 #[.int .i64 v] w fun e w' => e = .returned (.bool (bkB v)) ∧ w = w' := by
  by_cases h1 : -2305844108725321728 ≤ v
  · by_cases h2 : v ≤ 2305844108725321728
    · have hb : bkB v = true := decide_eq_true ⟨h1, h2⟩
      rw [hb]
      clear hb
      go_enter Tryz.func149, Tryz.ntmps149
      go_wp2
      go_ret
      exact ⟨rfl, rfl⟩
    · have hb : bkB v = false := decide_eq_false (fun h => h2 h.2)
      rw [hb]
      clear hb
      go_enter Tryz.func149, Tryz.ntmps149
      go_wp2
      go_ret
      exact ⟨rfl, rfl⟩
  · have hb : bkB v = false := decide_eq_false (fun h => h1 h.1)
    rw [hb]
    clear hb
    go_enter Tryz.func149, Tryz.ntmps149
    go_wp2
    go_ret
    exact ⟨rfl, rfl⟩

theorem line_timeIs (v : Int) (w : World) : Calls Tryz.prog 134 #[.int .i64 v] w fun e w' => e = .returned (.bool (tmB v)) ∧ w = w' := by
  by_cases h1 : 0 ≤ v
  · by_cases h2 : v ≤ 281474976710656
    · have hb : tmB v = true := decide_eq_true ⟨h1, h2⟩
      rw [hb]
      clear hb
      go_enter Tryz.func134, Tryz.ntmps134
      go_wp2
      go_ret
      exact ⟨rfl, rfl⟩
    · have hb : tmB v = false := decide_eq_false (fun h => h2 h.2)
      rw [hb]
      clear hb
      go_enter Tryz.func134, Tryz.ntmps134
      go_wp2
      go_ret
      exact ⟨rfl, rfl⟩
  · have hb : tmB v = false := decide_eq_false (fun h => h1 h.1)
    rw [hb]
    clear hb
    go_enter Tryz.func134, Tryz.ntmps134
    go_wp2
    go_ret
    exact ⟨rfl, rfl⟩

set_option maxHeartbeats 1000000 in
theorem line_slopeIs (N D : Int) (w : World) : Calls Tryz.prog 150 #[.agg #[.int .i64 N, .int .i64 D]] w fun e w' => e = .returned (.bool (slB N D)) ∧ Below w.heap.size w w' := by
  have fin : ∀ b : Bool, slB N D = b → (Calls Tryz.prog 150 #[.agg #[.int .i64 N, .int .i64 D]] w fun e w' => e = .returned (.bool b) ∧ Below w.heap.size w w') → Calls Tryz.prog 150 #[.agg #[.int .i64 N, .int .i64 D]] w fun e w' => e = .returned (.bool (slB N D)) ∧ Below w.heap.size w w' := fun b hb h => by rw [hb]; exact h
  by_cases h1 : 1 ≤ D
  · by_cases h2 : D ≤ 281474976710656
    · by_cases h3 : -4611688217450643456 ≤ N
      · by_cases h4 : N ≤ 4611688217450643456
        · refine fin true (decide_eq_true ⟨h1, h2, h3, h4⟩) ?_
          clear fin
          go_enter Tryz.func150, Tryz.ntmps150
          go_wp2
          go_ret
          exact ⟨rfl, bA (b0 w) _⟩
        · refine fin false (decide_eq_false fun h => h4 h.2.2.2) ?_
          clear fin
          go_enter Tryz.func150, Tryz.ntmps150
          go_wp2
          go_ret
          exact ⟨rfl, bA (b0 w) _⟩
      · refine fin false (decide_eq_false fun h => h3 h.2.2.1) ?_
        clear fin
        go_enter Tryz.func150, Tryz.ntmps150
        go_wp2
        go_ret
        exact ⟨rfl, bA (b0 w) _⟩
    · refine fin false (decide_eq_false fun h => h2 h.2.1) ?_
      clear fin
      go_enter Tryz.func150, Tryz.ntmps150
      go_wp2
      go_ret
      exact ⟨rfl, bA (b0 w) _⟩
  · refine fin false (decide_eq_false fun h => h1 h.1) ?_
    clear fin
    go_enter Tryz.func150, Tryz.ntmps150
    go_wp2
    go_ret
    exact ⟨rfl, bA (b0 w) _⟩

/-- the divisor of a slope's two numbers -/
def dvN (N D : Int) : Nat := Nat.gcd N.natAbs D.toNat
def lwN (N D : Int) : Int := N / dvN N D
def lwD (N D : Int) : Int := D / dvN N D

theorem dvN_pos {N D : Int} (h : 1 ≤ D) : 0 < dvN N D := Nat.gcd_pos_of_pos_right _ (by omega)
theorem dvN_dvdN (N D : Int) : (dvN N D : Int) ∣ N := Int.ofNat_dvd_left.2 (Nat.gcd_dvd_left _ _)
theorem dvN_dvdD {N D : Int} (h : 1 ≤ D) : (dvN N D : Int) ∣ D := by
  have : dvN N D ∣ D.natAbs := by
    have e : D.natAbs = D.toNat := by omega
    rw [e]; exact Nat.gcd_dvd_right _ _
  exact Int.ofNat_dvd_left.2 this
theorem lwN_mul {N D : Int} : lwN N D * dvN N D = N := Int.ediv_mul_cancel (dvN_dvdN N D)
theorem lwD_mul {N D : Int} (h : 1 ≤ D) : lwD N D * dvN N D = D := Int.ediv_mul_cancel (dvN_dvdD h)
theorem lwD_pos {N D : Int} (h : 1 ≤ D) : 1 ≤ lwD N D := by
  have h1 := lwD_mul (N := N) h
  have h2 := dvN_pos (N := N) h
  by_cases hc : lwD N D ≤ 0
  · have : lwD N D * (dvN N D : Int) ≤ 0 := Int.mul_nonpos_of_nonpos_of_nonneg hc (by omega)
    omega
  · omega
theorem lwD_le {N D : Int} (h : 1 ≤ D) : lwD N D ≤ D := Int.ediv_le_self _ (by omega)
theorem lwN_bd {N D : Int} (h : 1 ≤ D) : -(N.natAbs : Int) ≤ lwN N D ∧ lwN N D ≤ N.natAbs := by
  have h1 := lwN_mul (N := N) (D := D)
  have h2 := dvN_pos (N := N) h
  have h3 : ((lwN N D).natAbs : Int) * (dvN N D : Int) = N.natAbs := by
    have := congrArg Int.natAbs h1
    rw [Int.natAbs_mul, Int.natAbs_natCast] at this
    rw [← this]; simp
  have h4 : ((lwN N D).natAbs : Int) * 1 ≤ (lwN N D).natAbs * (dvN N D : Int) := Int.mul_le_mul_of_nonneg_left (by omega) (by omega)
  omega

set_option maxHeartbeats 1000000 in
theorem line_lowest (N D : Int) (hD : 1 ≤ D) (hD' : D < 9223372036854775808) (h1 : -9223372036854775808 < N) (h2 : N < 9223372036854775808) (w : World) :
    Calls Tryz.prog 151 #[.agg #[.int .i64 N, .int .i64 D]] w fun e w' => e = .returned (.agg #[.int .i64 (lwN N D), .int .i64 (lwD N D)]) ∧ Below w.heap.size w w' := by
  have d := divisor_nn N.natAbs D.toNat (by omega) (by omega) N (by omega)
  rw [show ((D.toNat : Nat) : Int) = D by omega] at d
  have p1 := dvN_pos (N := N) hD
  obtain ⟨p3, p4⟩ := lwN_bd (N := N) hD
  have p5 := lwD_pos (N := N) hD
  have p6 := lwD_le (N := N) hD
  have t1 : N.tdiv (dvN N D : Int) = lwN N D := Int.tdiv_eq_ediv_of_dvd (dvN_dvdN N D)
  have t2 : D.tdiv (dvN N D : Int) = lwD N D := Int.tdiv_eq_ediv_of_dvd (dvN_dvdD hD)
  have t3 : D / (dvN N D : Int) = lwD N D := rfl
  have t4 : N / (dvN N D : Int) = lwN N D := rfl
  change ∀ w, Calls _ _ _ w fun e w' => e = .returned (.int .i64 (dvN N D : Nat)) ∧ w = w' at d
  generalize lwN N D = n' at *
  generalize lwD N D = d' at *
  generalize dvN N D = g at *
  have nz : ¬ (g : Int) = 0 := by omega
  have b1 : -9223372036854775808 ≤ n' := by omega
  have b2 : n' < 9223372036854775808 := by omega
  clear p3 p4
  go_enter Tryz.func151, Tryz.ntmps151
  go_wp2_with (go_at_call 159; refine (d _).mono ?_; rintro e w1 ⟨rfl, rfl⟩)
  have a0 := ka (na w #[.int .i64 N, .int .i64 D] 97) (.cells #[.int .i64 0, .int .i64 0] 97)
  have r0 := na1 w (.cells #[.int .i64 N, .int .i64 D] 97) #[.int .i64 0, .int .i64 0] 97
  refine Abs.wp_region_abs (Abs.cls0 _) [0, 1, 2, 3, 4, 5, 6, 7, 8, 9] (by kernel_rfl) (by kernel_rfl) (Below.refl _ _).drew ?_
  repeat (first | (refine Abs.step_pure rfl rfl (fun K hK => ?_); go_simp; (try go_bits); (first | refine hK _ _ ?_ | (simp only [↓IntWalk.iteOmega]; go_simp; (try go_bits); refine hK _ _ ?_)); clear hK K) | (refine Abs.step_load (v := ?_) rfl rfl (by kernel_rfl) rfl (fun w0 hI => ?_) (fun K hK => ?_); rotate_left; (· have z0 := (rcell (kp hI a0)).1; go_simp; rfl); (simp only [Act.put, List.setIfInBounds_toArray, List.set_cons_zero, List.set_cons_succ]; refine hK _ _ ?_; clear hK K)) | (refine Abs.step_skip rfl rfl (fun K hK => ?_); (simp only [Act.put, List.setIfInBounds_toArray, List.set_cons_zero, List.set_cons_succ]; refine hK _ _ ?_; clear hK K)))
  (refine Abs.step_store (T := ?_) rfl rfl rfl (fun w0 hI hF hU => ?_) (fun w0 hI hU hJ => ?_) (fun K hK => ?_); rotate_left; (· have hR := kp hI r0; have hg0 := (rcell hR).1; have hg1 := (rcell hR).2.1; simp only [Abs.T_setF, Abs.T_addA, Abs.T_push, Abs.T_start]; go_simp; exact row2 hR _ _); (· first | exact trivial | exact js hJ rfl _ | exact js hJ (Or.inl rfl) _ | exact js hJ (Or.inr rfl) _); (simp only [Act.put, List.setIfInBounds_toArray, List.set_cons_zero, List.set_cons_succ]; refine hK _ _ ?_; clear hK K))
  (intro w0 hI hF hx1 hx2; clear hx1 hx2 hF; simp only [Abs.T_push]; generalize hT : setRow w0 _ _ = w4; obtain ⟨hO, hN, hS, hG⟩ := fin_old hI r0 hT; clear hT hI w0)
  have zE := (rcell hN).1
  go_wp2
  refine bodyPost_ret (by simp [results, Tryz.results151, go_sem, zE]; try rfl) rfl ⟨rfl, bG (bA (bA (b0 w) _) _) hG (by omega)⟩
end Go.Proofs.YtmpfbkeamihjbaaGreat

namespace Go.Proofs.YtmpfbkeamihjbaaGreat
open Go.RowKit

theorem line_backB (v : Int) (w : World) : Calls Tryz.prog 149 #[.int .i64 v] w fun e w' => e = .returned (.bool (bkB v)) ∧ Below w.heap.size w w' :=
  (line_back v w).mono fun _ _ ⟨h1, h2⟩ => ⟨h1, h2 ▸ b0 _⟩
theorem line_slope (A R N D : Int) (w : World) :
    Calls Tryz.prog 148 #[.agg #[.int .i64 A, .int .i64 R, .int .i64 N, .int .i64 D]] w fun e w' => e = .returned (.agg #[.int .i64 N, .int .i64 D]) ∧ Below w.heap.size w w' := by
  go_enter Tryz.func148, Tryz.ntmps148
  go_wp2
  refine bodyPost_ret (by simp [results, Tryz.results148, go_sem]; try rfl) rfl ⟨rfl, bA (bA (b0 w) _) _⟩

def isB (A R N D : Int) : Bool := decide (bkB A = true ∧ slB N D = true ∧ (lwN N D = N ∧ lwD N D = D) ∧ 0 ≤ R ∧ R < D)

theorem slB_spec {N D : Int} (h : slB N D = true) : 1 ≤ D ∧ D ≤ 281474976710656 ∧ -4611688217450643456 ≤ N ∧ N ≤ 4611688217450643456 := of_decide_eq_true h

theorem is_ok : ((Tryz.f133.body.bind (Abs.findR 2)).map fun o => Abs.okB o [0, 1, 2, 3, 4, 5, 6, 7, 8, 9, 10, 11, 12, 13, 14, 15, 16, 17, 18, 19, 20, 21, 22, 23, 24, 25, 26, 27, 28, 29]) = some true := by kernel_rfl

set_option maxRecDepth 100000 in
set_option maxHeartbeats 1000000 in
theorem is_1 (A R N D _n _d : Int) (w : World) (c1 : ∀ w, Calls Tryz.prog 149 #[.int .i64 A] w fun e w' => e = .returned (.bool false) ∧ Below w.heap.size w w') :
    Calls Tryz.prog 133 #[.agg #[.int .i64 A, .int .i64 R, .int .i64 N, .int .i64 D]] w fun e w' => e = .returned (.bool false) ∧ Below w.heap.size w w' := by
  go_enter Tryz.func133, Tryz.ntmps133
  go_wp2_with (go_at_call 148; refine (line_slope A R N D _).mono ?_; rintro e w1 ⟨rfl, hb1⟩)
  have a1 := ka (kp hb1 (na w #[.int .i64 A, .int .i64 R, .int .i64 N, .int .i64 D] 179)) (.cells #[.int .i64 N, .int .i64 D] 97)
  have a2 := na w1 #[.int .i64 N, .int .i64 D] 97
  refine Abs.wp_region_abs (Abs.cls0 _) [0, 1, 2, 3, 4, 5, 6, 7, 8, 9, 10, 11, 12, 13, 14, 15, 16, 17, 18, 19, 20, 21, 22, 23, 24, 25, 26, 27, 28, 29] (by kernel_rfl) (Abs.ok_of is_ok (by kernel_rfl)) (Below.refl _ _).drew ?_
  repeat (first | (refine Abs.step_pure rfl rfl (fun K hK => ?_); go_simp; (try go_bits); (first | refine hK _ _ ?_ | (simp only [↓IntWalk.iteOmega]; go_simp; (try go_bits); refine hK _ _ ?_)); clear hK K) | (refine Abs.step_load (v := ?_) rfl rfl (by kernel_rfl) rfl (fun w0 hI => ?_) (fun K hK => ?_); rotate_left; (· have z0 := (rcell (kp hI a1)).1; have z1 := (rcell (kp hI a2)).1; go_simp; rfl); (simp only [Act.put, List.setIfInBounds_toArray, List.set_cons_zero, List.set_cons_succ]; refine hK _ _ ?_; clear hK K)) | (refine Abs.step_skip rfl rfl (fun K hK => ?_); (simp only [Act.put, List.setIfInBounds_toArray, List.set_cons_zero, List.set_cons_succ]; refine hK _ _ ?_; clear hK K)))
  (refine Abs.step_call_val (f := ?_) (args := ?_) (v := ?_) rfl rfl rfl rfl (fun w0 => ?_) (fun w0 hI => ?_) (fun K hK => ?_); rotate_left 3; (· go_simp; (constructor <;> rfl)); (· exact c1 _); (simp only [Act.put, List.setIfInBounds_toArray, List.set_cons_zero, List.set_cons_succ]; refine hK _ _ ?_; clear hK K))
  repeat (first | (refine Abs.step_pure rfl rfl (fun K hK => ?_); go_simp; (try go_bits); (first | refine hK _ _ ?_ | (simp only [↓IntWalk.iteOmega]; go_simp; (try go_bits); refine hK _ _ ?_)); clear hK K) | (refine Abs.step_load (v := ?_) rfl rfl (by kernel_rfl) rfl (fun w0 hI => ?_) (fun K hK => ?_); rotate_left; (· have z0 := (rcell (kp hI a1)).1; have z1 := (rcell (kp hI a2)).1; go_simp; rfl); (simp only [Act.put, List.setIfInBounds_toArray, List.set_cons_zero, List.set_cons_succ]; refine hK _ _ ?_; clear hK K)) | (refine Abs.step_skip rfl rfl (fun K hK => ?_); (simp only [Act.put, List.setIfInBounds_toArray, List.set_cons_zero, List.set_cons_succ]; refine hK _ _ ?_; clear hK K)))
  (intro w0 hI hx0 hx1 hx2; clear hx0 hx1 hx2; simp only [Abs.T_setF, Abs.T_addA, Abs.T_push, Abs.T_start])
  go_wp2
  go_ret
  exact ⟨rfl, bB (bA (bB (bA (b0 w) _) hb1) _) hI⟩

set_option maxRecDepth 100000 in
set_option maxHeartbeats 1000000 in
theorem is_2 (A R N D _n _d : Int) (w : World) (c1 : ∀ w, Calls Tryz.prog 149 #[.int .i64 A] w fun e w' => e = .returned (.bool true) ∧ Below w.heap.size w w') (c2 : ∀ w, Calls Tryz.prog 150 #[.agg #[.int .i64 N, .int .i64 D]] w fun e w' => e = .returned (.bool false) ∧ Below w.heap.size w w') :
    Calls Tryz.prog 133 #[.agg #[.int .i64 A, .int .i64 R, .int .i64 N, .int .i64 D]] w fun e w' => e = .returned (.bool false) ∧ Below w.heap.size w w' := by
  go_enter Tryz.func133, Tryz.ntmps133
  go_wp2_with (go_at_call 148; refine (line_slope A R N D _).mono ?_; rintro e w1 ⟨rfl, hb1⟩)
  have a1 := ka (kp hb1 (na w #[.int .i64 A, .int .i64 R, .int .i64 N, .int .i64 D] 179)) (.cells #[.int .i64 N, .int .i64 D] 97)
  have a2 := na w1 #[.int .i64 N, .int .i64 D] 97
  refine Abs.wp_region_abs (Abs.cls0 _) [0, 1, 2, 3, 4, 5, 6, 7, 8, 9, 10, 11, 12, 13, 14, 15, 16, 17, 18, 19, 20, 21, 22, 23, 24, 25, 26, 27, 28, 29] (by kernel_rfl) (Abs.ok_of is_ok (by kernel_rfl)) (Below.refl _ _).drew ?_
  repeat (first | (refine Abs.step_pure rfl rfl (fun K hK => ?_); go_simp; (try go_bits); (first | refine hK _ _ ?_ | (simp only [↓IntWalk.iteOmega]; go_simp; (try go_bits); refine hK _ _ ?_)); clear hK K) | (refine Abs.step_load (v := ?_) rfl rfl (by kernel_rfl) rfl (fun w0 hI => ?_) (fun K hK => ?_); rotate_left; (· have z0 := (rcell (kp hI a1)).1; have z1 := (rcell (kp hI a2)).1; go_simp; rfl); (simp only [Act.put, List.setIfInBounds_toArray, List.set_cons_zero, List.set_cons_succ]; refine hK _ _ ?_; clear hK K)) | (refine Abs.step_skip rfl rfl (fun K hK => ?_); (simp only [Act.put, List.setIfInBounds_toArray, List.set_cons_zero, List.set_cons_succ]; refine hK _ _ ?_; clear hK K)))
  (refine Abs.step_call_val (f := ?_) (args := ?_) (v := ?_) rfl rfl rfl rfl (fun w0 => ?_) (fun w0 hI => ?_) (fun K hK => ?_); rotate_left 3; (· go_simp; (constructor <;> rfl)); (· exact c1 _); (simp only [Act.put, List.setIfInBounds_toArray, List.set_cons_zero, List.set_cons_succ]; refine hK _ _ ?_; clear hK K))
  repeat (first | (refine Abs.step_pure rfl rfl (fun K hK => ?_); go_simp; (try go_bits); (first | refine hK _ _ ?_ | (simp only [↓IntWalk.iteOmega]; go_simp; (try go_bits); refine hK _ _ ?_)); clear hK K) | (refine Abs.step_load (v := ?_) rfl rfl (by kernel_rfl) rfl (fun w0 hI => ?_) (fun K hK => ?_); rotate_left; (· have z0 := (rcell (kp hI a1)).1; have z1 := (rcell (kp hI a2)).1; go_simp; rfl); (simp only [Act.put, List.setIfInBounds_toArray, List.set_cons_zero, List.set_cons_succ]; refine hK _ _ ?_; clear hK K)) | (refine Abs.step_skip rfl rfl (fun K hK => ?_); (simp only [Act.put, List.setIfInBounds_toArray, List.set_cons_zero, List.set_cons_succ]; refine hK _ _ ?_; clear hK K)))
  (refine Abs.step_call_val (f := ?_) (args := ?_) (v := ?_) rfl rfl rfl rfl (fun w0 => ?_) (fun w0 hI => ?_) (fun K hK => ?_); rotate_left 3; (· go_simp; (constructor <;> rfl)); (· exact c2 _); (simp only [Act.put, List.setIfInBounds_toArray, List.set_cons_zero, List.set_cons_succ]; refine hK _ _ ?_; clear hK K))
  repeat (first | (refine Abs.step_pure rfl rfl (fun K hK => ?_); go_simp; (try go_bits); (first | refine hK _ _ ?_ | (simp only [↓IntWalk.iteOmega]; go_simp; (try go_bits); refine hK _ _ ?_)); clear hK K) | (refine Abs.step_load (v := ?_) rfl rfl (by kernel_rfl) rfl (fun w0 hI => ?_) (fun K hK => ?_); rotate_left; (· have z0 := (rcell (kp hI a1)).1; have z1 := (rcell (kp hI a2)).1; go_simp; rfl); (simp only [Act.put, List.setIfInBounds_toArray, List.set_cons_zero, List.set_cons_succ]; refine hK _ _ ?_; clear hK K)) | (refine Abs.step_skip rfl rfl (fun K hK => ?_); (simp only [Act.put, List.setIfInBounds_toArray, List.set_cons_zero, List.set_cons_succ]; refine hK _ _ ?_; clear hK K)))
  (intro w0 hI hx0 hx1 hx2; clear hx0 hx1 hx2; simp only [Abs.T_setF, Abs.T_addA, Abs.T_push, Abs.T_start])
  go_wp2
  go_ret
  exact ⟨rfl, bB (bA (bB (bA (b0 w) _) hb1) _) hI⟩

set_option maxRecDepth 100000 in
set_option maxHeartbeats 1000000 in
theorem is_3 (A R N D n' d' : Int) (w : World) (c1 : ∀ w, Calls Tryz.prog 149 #[.int .i64 A] w fun e w' => e = .returned (.bool true) ∧ Below w.heap.size w w') (c2 : ∀ w, Calls Tryz.prog 150 #[.agg #[.int .i64 N, .int .i64 D]] w fun e w' => e = .returned (.bool true) ∧ Below w.heap.size w w') (c3 : ∀ w, Calls Tryz.prog 151 #[.agg #[.int .i64 N, .int .i64 D]] w fun e w' => e = .returned (.agg #[.int .i64 n', .int .i64 d']) ∧ Below w.heap.size w w') (K1 : (n' = N) = True) (K2 : (d' = D) = False) :
    Calls Tryz.prog 133 #[.agg #[.int .i64 A, .int .i64 R, .int .i64 N, .int .i64 D]] w fun e w' => e = .returned (.bool false) ∧ Below w.heap.size w w' := by
  go_enter Tryz.func133, Tryz.ntmps133
  go_wp2_with (go_at_call 148; refine (line_slope A R N D _).mono ?_; rintro e w1 ⟨rfl, hb1⟩)
  have a1 := ka (kp hb1 (na w #[.int .i64 A, .int .i64 R, .int .i64 N, .int .i64 D] 179)) (.cells #[.int .i64 N, .int .i64 D] 97)
  have a2 := na w1 #[.int .i64 N, .int .i64 D] 97
  refine Abs.wp_region_abs (Abs.cls0 _) [0, 1, 2, 3, 4, 5, 6, 7, 8, 9, 10, 11, 12, 13, 14, 15, 16, 17, 18, 19, 20, 21, 22, 23, 24, 25, 26, 27, 28, 29] (by kernel_rfl) (Abs.ok_of is_ok (by kernel_rfl)) (Below.refl _ _).drew ?_
  repeat (first | (refine Abs.step_pure rfl rfl (fun K hK => ?_); go_simp; (try go_bits); (first | refine hK _ _ ?_ | (simp only [↓IntWalk.iteOmega]; go_simp; (try go_bits); refine hK _ _ ?_)); clear hK K) | (refine Abs.step_load (v := ?_) rfl rfl (by kernel_rfl) rfl (fun w0 hI => ?_) (fun K hK => ?_); rotate_left; (· have z0 := (rcell (kp hI a1)).1; have z1 := (rcell (kp hI a2)).1; go_simp; rfl); (simp only [Act.put, List.setIfInBounds_toArray, List.set_cons_zero, List.set_cons_succ]; refine hK _ _ ?_; clear hK K)) | (refine Abs.step_skip rfl rfl (fun K hK => ?_); (simp only [Act.put, List.setIfInBounds_toArray, List.set_cons_zero, List.set_cons_succ]; refine hK _ _ ?_; clear hK K)))
  (refine Abs.step_call_val (f := ?_) (args := ?_) (v := ?_) rfl rfl rfl rfl (fun w0 => ?_) (fun w0 hI => ?_) (fun K hK => ?_); rotate_left 3; (· go_simp; (constructor <;> rfl)); (· exact c1 _); (simp only [Act.put, List.setIfInBounds_toArray, List.set_cons_zero, List.set_cons_succ]; refine hK _ _ ?_; clear hK K))
  repeat (first | (refine Abs.step_pure rfl rfl (fun K hK => ?_); go_simp; (try go_bits); (first | refine hK _ _ ?_ | (simp only [↓IntWalk.iteOmega]; go_simp; (try go_bits); refine hK _ _ ?_)); clear hK K) | (refine Abs.step_load (v := ?_) rfl rfl (by kernel_rfl) rfl (fun w0 hI => ?_) (fun K hK => ?_); rotate_left; (· have z0 := (rcell (kp hI a1)).1; have z1 := (rcell (kp hI a2)).1; go_simp; rfl); (simp only [Act.put, List.setIfInBounds_toArray, List.set_cons_zero, List.set_cons_succ]; refine hK _ _ ?_; clear hK K)) | (refine Abs.step_skip rfl rfl (fun K hK => ?_); (simp only [Act.put, List.setIfInBounds_toArray, List.set_cons_zero, List.set_cons_succ]; refine hK _ _ ?_; clear hK K)))
  (refine Abs.step_call_val (f := ?_) (args := ?_) (v := ?_) rfl rfl rfl rfl (fun w0 => ?_) (fun w0 hI => ?_) (fun K hK => ?_); rotate_left 3; (· go_simp; (constructor <;> rfl)); (· exact c2 _); (simp only [Act.put, List.setIfInBounds_toArray, List.set_cons_zero, List.set_cons_succ]; refine hK _ _ ?_; clear hK K))
  repeat (first | (refine Abs.step_pure rfl rfl (fun K hK => ?_); go_simp; (try go_bits); (first | refine hK _ _ ?_ | (simp only [↓IntWalk.iteOmega]; go_simp; (try go_bits); refine hK _ _ ?_)); clear hK K) | (refine Abs.step_load (v := ?_) rfl rfl (by kernel_rfl) rfl (fun w0 hI => ?_) (fun K hK => ?_); rotate_left; (· have z0 := (rcell (kp hI a1)).1; have z1 := (rcell (kp hI a2)).1; go_simp; rfl); (simp only [Act.put, List.setIfInBounds_toArray, List.set_cons_zero, List.set_cons_succ]; refine hK _ _ ?_; clear hK K)) | (refine Abs.step_skip rfl rfl (fun K hK => ?_); (simp only [Act.put, List.setIfInBounds_toArray, List.set_cons_zero, List.set_cons_succ]; refine hK _ _ ?_; clear hK K)))
  (refine Abs.step_call_val (f := ?_) (args := ?_) (v := ?_) rfl rfl rfl rfl (fun w0 => ?_) (fun w0 hI => ?_) (fun K hK => ?_); rotate_left 3; (· go_simp; (constructor <;> rfl)); (· exact c3 _); (simp only [Act.put, List.setIfInBounds_toArray, List.set_cons_zero, List.set_cons_succ]; refine hK _ _ ?_; clear hK K))
  repeat (first | (refine Abs.step_pure rfl rfl (fun K hK => ?_); go_simp; (try go_bits); (first | refine hK _ _ ?_ | (simp only [↓IntWalk.iteOmega]; go_simp; (try go_bits); refine hK _ _ ?_)); clear hK K) | (refine Abs.step_load (v := ?_) rfl rfl (by kernel_rfl) rfl (fun w0 hI => ?_) (fun K hK => ?_); rotate_left; (· have z0 := (rcell (kp hI a1)).1; have z1 := (rcell (kp hI a2)).1; go_simp; rfl); (simp only [Act.put, List.setIfInBounds_toArray, List.set_cons_zero, List.set_cons_succ]; refine hK _ _ ?_; clear hK K)) | (refine Abs.step_skip rfl rfl (fun K hK => ?_); (simp only [Act.put, List.setIfInBounds_toArray, List.set_cons_zero, List.set_cons_succ]; refine hK _ _ ?_; clear hK K)))
  (intro w0 hI hx0 hx1 hx2; clear hx0 hx1 hx2; simp only [Abs.T_setF, Abs.T_addA, Abs.T_push, Abs.T_start])
  go_wp2
  go_ret
  exact ⟨rfl, bB (bA (bB (bA (b0 w) _) hb1) _) hI⟩

set_option maxRecDepth 100000 in
set_option maxHeartbeats 1000000 in
theorem is_4 (A R N D n' d' : Int) (w : World) (c1 : ∀ w, Calls Tryz.prog 149 #[.int .i64 A] w fun e w' => e = .returned (.bool true) ∧ Below w.heap.size w w') (c2 : ∀ w, Calls Tryz.prog 150 #[.agg #[.int .i64 N, .int .i64 D]] w fun e w' => e = .returned (.bool true) ∧ Below w.heap.size w w') (c3 : ∀ w, Calls Tryz.prog 151 #[.agg #[.int .i64 N, .int .i64 D]] w fun e w' => e = .returned (.agg #[.int .i64 n', .int .i64 d']) ∧ Below w.heap.size w w') (K1 : (n' = N) = False) :
    Calls Tryz.prog 133 #[.agg #[.int .i64 A, .int .i64 R, .int .i64 N, .int .i64 D]] w fun e w' => e = .returned (.bool false) ∧ Below w.heap.size w w' := by
  go_enter Tryz.func133, Tryz.ntmps133
  go_wp2_with (go_at_call 148; refine (line_slope A R N D _).mono ?_; rintro e w1 ⟨rfl, hb1⟩)
  have a1 := ka (kp hb1 (na w #[.int .i64 A, .int .i64 R, .int .i64 N, .int .i64 D] 179)) (.cells #[.int .i64 N, .int .i64 D] 97)
  have a2 := na w1 #[.int .i64 N, .int .i64 D] 97
  refine Abs.wp_region_abs (Abs.cls0 _) [0, 1, 2, 3, 4, 5, 6, 7, 8, 9, 10, 11, 12, 13, 14, 15, 16, 17, 18, 19, 20, 21, 22, 23, 24, 25, 26, 27, 28, 29] (by kernel_rfl) (Abs.ok_of is_ok (by kernel_rfl)) (Below.refl _ _).drew ?_
  repeat (first | (refine Abs.step_pure rfl rfl (fun K hK => ?_); go_simp; (try go_bits); (first | refine hK _ _ ?_ | (simp only [↓IntWalk.iteOmega]; go_simp; (try go_bits); refine hK _ _ ?_)); clear hK K) | (refine Abs.step_load (v := ?_) rfl rfl (by kernel_rfl) rfl (fun w0 hI => ?_) (fun K hK => ?_); rotate_left; (· have z0 := (rcell (kp hI a1)).1; have z1 := (rcell (kp hI a2)).1; go_simp; rfl); (simp only [Act.put, List.setIfInBounds_toArray, List.set_cons_zero, List.set_cons_succ]; refine hK _ _ ?_; clear hK K)) | (refine Abs.step_skip rfl rfl (fun K hK => ?_); (simp only [Act.put, List.setIfInBounds_toArray, List.set_cons_zero, List.set_cons_succ]; refine hK _ _ ?_; clear hK K)))
  (refine Abs.step_call_val (f := ?_) (args := ?_) (v := ?_) rfl rfl rfl rfl (fun w0 => ?_) (fun w0 hI => ?_) (fun K hK => ?_); rotate_left 3; (· go_simp; (constructor <;> rfl)); (· exact c1 _); (simp only [Act.put, List.setIfInBounds_toArray, List.set_cons_zero, List.set_cons_succ]; refine hK _ _ ?_; clear hK K))
  repeat (first | (refine Abs.step_pure rfl rfl (fun K hK => ?_); go_simp; (try go_bits); (first | refine hK _ _ ?_ | (simp only [↓IntWalk.iteOmega]; go_simp; (try go_bits); refine hK _ _ ?_)); clear hK K) | (refine Abs.step_load (v := ?_) rfl rfl (by kernel_rfl) rfl (fun w0 hI => ?_) (fun K hK => ?_); rotate_left; (· have z0 := (rcell (kp hI a1)).1; have z1 := (rcell (kp hI a2)).1; go_simp; rfl); (simp only [Act.put, List.setIfInBounds_toArray, List.set_cons_zero, List.set_cons_succ]; refine hK _ _ ?_; clear hK K)) | (refine Abs.step_skip rfl rfl (fun K hK => ?_); (simp only [Act.put, List.setIfInBounds_toArray, List.set_cons_zero, List.set_cons_succ]; refine hK _ _ ?_; clear hK K)))
  (refine Abs.step_call_val (f := ?_) (args := ?_) (v := ?_) rfl rfl rfl rfl (fun w0 => ?_) (fun w0 hI => ?_) (fun K hK => ?_); rotate_left 3; (· go_simp; (constructor <;> rfl)); (· exact c2 _); (simp only [Act.put, List.setIfInBounds_toArray, List.set_cons_zero, List.set_cons_succ]; refine hK _ _ ?_; clear hK K))
  repeat (first | (refine Abs.step_pure rfl rfl (fun K hK => ?_); go_simp; (try go_bits); (first | refine hK _ _ ?_ | (simp only [↓IntWalk.iteOmega]; go_simp; (try go_bits); refine hK _ _ ?_)); clear hK K) | (refine Abs.step_load (v := ?_) rfl rfl (by kernel_rfl) rfl (fun w0 hI => ?_) (fun K hK => ?_); rotate_left; (· have z0 := (rcell (kp hI a1)).1; have z1 := (rcell (kp hI a2)).1; go_simp; rfl); (simp only [Act.put, List.setIfInBounds_toArray, List.set_cons_zero, List.set_cons_succ]; refine hK _ _ ?_; clear hK K)) | (refine Abs.step_skip rfl rfl (fun K hK => ?_); (simp only [Act.put, List.setIfInBounds_toArray, List.set_cons_zero, List.set_cons_succ]; refine hK _ _ ?_; clear hK K)))
  (refine Abs.step_call_val (f := ?_) (args := ?_) (v := ?_) rfl rfl rfl rfl (fun w0 => ?_) (fun w0 hI => ?_) (fun K hK => ?_); rotate_left 3; (· go_simp; (constructor <;> rfl)); (· exact c3 _); (simp only [Act.put, List.setIfInBounds_toArray, List.set_cons_zero, List.set_cons_succ]; refine hK _ _ ?_; clear hK K))
  repeat (first | (refine Abs.step_pure rfl rfl (fun K hK => ?_); go_simp; (try go_bits); (first | refine hK _ _ ?_ | (simp only [↓IntWalk.iteOmega]; go_simp; (try go_bits); refine hK _ _ ?_)); clear hK K) | (refine Abs.step_load (v := ?_) rfl rfl (by kernel_rfl) rfl (fun w0 hI => ?_) (fun K hK => ?_); rotate_left; (· have z0 := (rcell (kp hI a1)).1; have z1 := (rcell (kp hI a2)).1; go_simp; rfl); (simp only [Act.put, List.setIfInBounds_toArray, List.set_cons_zero, List.set_cons_succ]; refine hK _ _ ?_; clear hK K)) | (refine Abs.step_skip rfl rfl (fun K hK => ?_); (simp only [Act.put, List.setIfInBounds_toArray, List.set_cons_zero, List.set_cons_succ]; refine hK _ _ ?_; clear hK K)))
  (intro w0 hI hx0 hx1 hx2; clear hx0 hx1 hx2; simp only [Abs.T_setF, Abs.T_addA, Abs.T_push, Abs.T_start])
  go_wp2
  go_ret
  exact ⟨rfl, bB (bA (bB (bA (b0 w) _) hb1) _) hI⟩

set_option maxRecDepth 100000 in
set_option maxHeartbeats 1000000 in
theorem is_5 (A R N D n' d' : Int) (w : World) (c1 : ∀ w, Calls Tryz.prog 149 #[.int .i64 A] w fun e w' => e = .returned (.bool true) ∧ Below w.heap.size w w') (c2 : ∀ w, Calls Tryz.prog 150 #[.agg #[.int .i64 N, .int .i64 D]] w fun e w' => e = .returned (.bool true) ∧ Below w.heap.size w w') (c3 : ∀ w, Calls Tryz.prog 151 #[.agg #[.int .i64 N, .int .i64 D]] w fun e w' => e = .returned (.agg #[.int .i64 n', .int .i64 d']) ∧ Below w.heap.size w w') (K1 : (n' = N) = True) (K2 : (d' = D) = True) (h4 : 0 ≤ R) (h5 : R < D) :
    Calls Tryz.prog 133 #[.agg #[.int .i64 A, .int .i64 R, .int .i64 N, .int .i64 D]] w fun e w' => e = .returned (.bool true) ∧ Below w.heap.size w w' := by
  go_enter Tryz.func133, Tryz.ntmps133
  go_wp2_with (go_at_call 148; refine (line_slope A R N D _).mono ?_; rintro e w1 ⟨rfl, hb1⟩)
  have a1 := ka (kp hb1 (na w #[.int .i64 A, .int .i64 R, .int .i64 N, .int .i64 D] 179)) (.cells #[.int .i64 N, .int .i64 D] 97)
  have a2 := na w1 #[.int .i64 N, .int .i64 D] 97
  have q1 : decide (0 ≤ R) = true := decide_eq_true (by omega)
  have q2 : decide (R < D) = true := decide_eq_true (by omega)
  refine Abs.wp_region_abs (Abs.cls0 _) [0, 1, 2, 3, 4, 5, 6, 7, 8, 9, 10, 11, 12, 13, 14, 15, 16, 17, 18, 19, 20, 21, 22, 23, 24, 25, 26, 27, 28, 29] (by kernel_rfl) (Abs.ok_of is_ok (by kernel_rfl)) (Below.refl _ _).drew ?_
  repeat (first | (refine Abs.step_pure rfl rfl (fun K hK => ?_); go_simp; (try go_bits); (first | refine hK _ _ ?_ | (simp only [↓IntWalk.iteOmega]; go_simp; (try go_bits); refine hK _ _ ?_)); clear hK K) | (refine Abs.step_load (v := ?_) rfl rfl (by kernel_rfl) rfl (fun w0 hI => ?_) (fun K hK => ?_); rotate_left; (· have z0 := (rcell (kp hI a1)).1; have z1 := (rcell (kp hI a2)).1; go_simp; rfl); (simp only [Act.put, List.setIfInBounds_toArray, List.set_cons_zero, List.set_cons_succ]; refine hK _ _ ?_; clear hK K)) | (refine Abs.step_skip rfl rfl (fun K hK => ?_); (simp only [Act.put, List.setIfInBounds_toArray, List.set_cons_zero, List.set_cons_succ]; refine hK _ _ ?_; clear hK K)))
  (refine Abs.step_call_val (f := ?_) (args := ?_) (v := ?_) rfl rfl rfl rfl (fun w0 => ?_) (fun w0 hI => ?_) (fun K hK => ?_); rotate_left 3; (· go_simp; (constructor <;> rfl)); (· exact c1 _); (simp only [Act.put, List.setIfInBounds_toArray, List.set_cons_zero, List.set_cons_succ]; refine hK _ _ ?_; clear hK K))
  repeat (first | (refine Abs.step_pure rfl rfl (fun K hK => ?_); go_simp; (try go_bits); (first | refine hK _ _ ?_ | (simp only [↓IntWalk.iteOmega]; go_simp; (try go_bits); refine hK _ _ ?_)); clear hK K) | (refine Abs.step_load (v := ?_) rfl rfl (by kernel_rfl) rfl (fun w0 hI => ?_) (fun K hK => ?_); rotate_left; (· have z0 := (rcell (kp hI a1)).1; have z1 := (rcell (kp hI a2)).1; go_simp; rfl); (simp only [Act.put, List.setIfInBounds_toArray, List.set_cons_zero, List.set_cons_succ]; refine hK _ _ ?_; clear hK K)) | (refine Abs.step_skip rfl rfl (fun K hK => ?_); (simp only [Act.put, List.setIfInBounds_toArray, List.set_cons_zero, List.set_cons_succ]; refine hK _ _ ?_; clear hK K)))
  (refine Abs.step_call_val (f := ?_) (args := ?_) (v := ?_) rfl rfl rfl rfl (fun w0 => ?_) (fun w0 hI => ?_) (fun K hK => ?_); rotate_left 3; (· go_simp; (constructor <;> rfl)); (· exact c2 _); (simp only [Act.put, List.setIfInBounds_toArray, List.set_cons_zero, List.set_cons_succ]; refine hK _ _ ?_; clear hK K))
  repeat (first | (refine Abs.step_pure rfl rfl (fun K hK => ?_); go_simp; (try go_bits); (first | refine hK _ _ ?_ | (simp only [↓IntWalk.iteOmega]; go_simp; (try go_bits); refine hK _ _ ?_)); clear hK K) | (refine Abs.step_load (v := ?_) rfl rfl (by kernel_rfl) rfl (fun w0 hI => ?_) (fun K hK => ?_); rotate_left; (· have z0 := (rcell (kp hI a1)).1; have z1 := (rcell (kp hI a2)).1; go_simp; rfl); (simp only [Act.put, List.setIfInBounds_toArray, List.set_cons_zero, List.set_cons_succ]; refine hK _ _ ?_; clear hK K)) | (refine Abs.step_skip rfl rfl (fun K hK => ?_); (simp only [Act.put, List.setIfInBounds_toArray, List.set_cons_zero, List.set_cons_succ]; refine hK _ _ ?_; clear hK K)))
  (refine Abs.step_call_val (f := ?_) (args := ?_) (v := ?_) rfl rfl rfl rfl (fun w0 => ?_) (fun w0 hI => ?_) (fun K hK => ?_); rotate_left 3; (· go_simp; (constructor <;> rfl)); (· exact c3 _); (simp only [Act.put, List.setIfInBounds_toArray, List.set_cons_zero, List.set_cons_succ]; refine hK _ _ ?_; clear hK K))
  repeat (first | (refine Abs.step_pure rfl rfl (fun K hK => ?_); go_simp; (try go_bits); (first | refine hK _ _ ?_ | (simp only [↓IntWalk.iteOmega]; go_simp; (try go_bits); refine hK _ _ ?_)); clear hK K) | (refine Abs.step_load (v := ?_) rfl rfl (by kernel_rfl) rfl (fun w0 hI => ?_) (fun K hK => ?_); rotate_left; (· have z0 := (rcell (kp hI a1)).1; have z1 := (rcell (kp hI a2)).1; go_simp; rfl); (simp only [Act.put, List.setIfInBounds_toArray, List.set_cons_zero, List.set_cons_succ]; refine hK _ _ ?_; clear hK K)) | (refine Abs.step_skip rfl rfl (fun K hK => ?_); (simp only [Act.put, List.setIfInBounds_toArray, List.set_cons_zero, List.set_cons_succ]; refine hK _ _ ?_; clear hK K)))
  (intro w0 hI hx0 hx1 hx2; clear hx0 hx1 hx2; simp only [Abs.T_setF, Abs.T_addA, Abs.T_push, Abs.T_start])
  go_wp2
  go_ret
  exact ⟨rfl, bB (bA (bB (bA (b0 w) _) hb1) _) hI⟩

set_option maxRecDepth 100000 in
set_option maxHeartbeats 1000000 in
theorem is_6 (A R N D n' d' : Int) (w : World) (c1 : ∀ w, Calls Tryz.prog 149 #[.int .i64 A] w fun e w' => e = .returned (.bool true) ∧ Below w.heap.size w w') (c2 : ∀ w, Calls Tryz.prog 150 #[.agg #[.int .i64 N, .int .i64 D]] w fun e w' => e = .returned (.bool true) ∧ Below w.heap.size w w') (c3 : ∀ w, Calls Tryz.prog 151 #[.agg #[.int .i64 N, .int .i64 D]] w fun e w' => e = .returned (.agg #[.int .i64 n', .int .i64 d']) ∧ Below w.heap.size w w') (K1 : (n' = N) = True) (K2 : (d' = D) = True) (h4 : 0 ≤ R) (h5 : D ≤ R) :
    Calls Tryz.prog 133 #[.agg #[.int .i64 A, .int .i64 R, .int .i64 N, .int .i64 D]] w fun e w' => e = .returned (.bool false) ∧ Below w.heap.size w w' := by
  go_enter Tryz.func133, Tryz.ntmps133
  go_wp2_with (go_at_call 148; refine (line_slope A R N D _).mono ?_; rintro e w1 ⟨rfl, hb1⟩)
  have a1 := ka (kp hb1 (na w #[.int .i64 A, .int .i64 R, .int .i64 N, .int .i64 D] 179)) (.cells #[.int .i64 N, .int .i64 D] 97)
  have a2 := na w1 #[.int .i64 N, .int .i64 D] 97
  have q1 : decide (0 ≤ R) = true := decide_eq_true (by omega)
  have q2 : decide (R < D) = false := decide_eq_false (by omega)
  refine Abs.wp_region_abs (Abs.cls0 _) [0, 1, 2, 3, 4, 5, 6, 7, 8, 9, 10, 11, 12, 13, 14, 15, 16, 17, 18, 19, 20, 21, 22, 23, 24, 25, 26, 27, 28, 29] (by kernel_rfl) (Abs.ok_of is_ok (by kernel_rfl)) (Below.refl _ _).drew ?_
  repeat (first | (refine Abs.step_pure rfl rfl (fun K hK => ?_); go_simp; (try go_bits); (first | refine hK _ _ ?_ | (simp only [↓IntWalk.iteOmega]; go_simp; (try go_bits); refine hK _ _ ?_)); clear hK K) | (refine Abs.step_load (v := ?_) rfl rfl (by kernel_rfl) rfl (fun w0 hI => ?_) (fun K hK => ?_); rotate_left; (· have z0 := (rcell (kp hI a1)).1; have z1 := (rcell (kp hI a2)).1; go_simp; rfl); (simp only [Act.put, List.setIfInBounds_toArray, List.set_cons_zero, List.set_cons_succ]; refine hK _ _ ?_; clear hK K)) | (refine Abs.step_skip rfl rfl (fun K hK => ?_); (simp only [Act.put, List.setIfInBounds_toArray, List.set_cons_zero, List.set_cons_succ]; refine hK _ _ ?_; clear hK K)))
  (refine Abs.step_call_val (f := ?_) (args := ?_) (v := ?_) rfl rfl rfl rfl (fun w0 => ?_) (fun w0 hI => ?_) (fun K hK => ?_); rotate_left 3; (· go_simp; (constructor <;> rfl)); (· exact c1 _); (simp only [Act.put, List.setIfInBounds_toArray, List.set_cons_zero, List.set_cons_succ]; refine hK _ _ ?_; clear hK K))
  repeat (first | (refine Abs.step_pure rfl rfl (fun K hK => ?_); go_simp; (try go_bits); (first | refine hK _ _ ?_ | (simp only [↓IntWalk.iteOmega]; go_simp; (try go_bits); refine hK _ _ ?_)); clear hK K) | (refine Abs.step_load (v := ?_) rfl rfl (by kernel_rfl) rfl (fun w0 hI => ?_) (fun K hK => ?_); rotate_left; (· have z0 := (rcell (kp hI a1)).1; have z1 := (rcell (kp hI a2)).1; go_simp; rfl); (simp only [Act.put, List.setIfInBounds_toArray, List.set_cons_zero, List.set_cons_succ]; refine hK _ _ ?_; clear hK K)) | (refine Abs.step_skip rfl rfl (fun K hK => ?_); (simp only [Act.put, List.setIfInBounds_toArray, List.set_cons_zero, List.set_cons_succ]; refine hK _ _ ?_; clear hK K)))
  (refine Abs.step_call_val (f := ?_) (args := ?_) (v := ?_) rfl rfl rfl rfl (fun w0 => ?_) (fun w0 hI => ?_) (fun K hK => ?_); rotate_left 3; (· go_simp; (constructor <;> rfl)); (· exact c2 _); (simp only [Act.put, List.setIfInBounds_toArray, List.set_cons_zero, List.set_cons_succ]; refine hK _ _ ?_; clear hK K))
  repeat (first | (refine Abs.step_pure rfl rfl (fun K hK => ?_); go_simp; (try go_bits); (first | refine hK _ _ ?_ | (simp only [↓IntWalk.iteOmega]; go_simp; (try go_bits); refine hK _ _ ?_)); clear hK K) | (refine Abs.step_load (v := ?_) rfl rfl (by kernel_rfl) rfl (fun w0 hI => ?_) (fun K hK => ?_); rotate_left; (· have z0 := (rcell (kp hI a1)).1; have z1 := (rcell (kp hI a2)).1; go_simp; rfl); (simp only [Act.put, List.setIfInBounds_toArray, List.set_cons_zero, List.set_cons_succ]; refine hK _ _ ?_; clear hK K)) | (refine Abs.step_skip rfl rfl (fun K hK => ?_); (simp only [Act.put, List.setIfInBounds_toArray, List.set_cons_zero, List.set_cons_succ]; refine hK _ _ ?_; clear hK K)))
  (refine Abs.step_call_val (f := ?_) (args := ?_) (v := ?_) rfl rfl rfl rfl (fun w0 => ?_) (fun w0 hI => ?_) (fun K hK => ?_); rotate_left 3; (· go_simp; (constructor <;> rfl)); (· exact c3 _); (simp only [Act.put, List.setIfInBounds_toArray, List.set_cons_zero, List.set_cons_succ]; refine hK _ _ ?_; clear hK K))
  repeat (first | (refine Abs.step_pure rfl rfl (fun K hK => ?_); go_simp; (try go_bits); (first | refine hK _ _ ?_ | (simp only [↓IntWalk.iteOmega]; go_simp; (try go_bits); refine hK _ _ ?_)); clear hK K) | (refine Abs.step_load (v := ?_) rfl rfl (by kernel_rfl) rfl (fun w0 hI => ?_) (fun K hK => ?_); rotate_left; (· have z0 := (rcell (kp hI a1)).1; have z1 := (rcell (kp hI a2)).1; go_simp; rfl); (simp only [Act.put, List.setIfInBounds_toArray, List.set_cons_zero, List.set_cons_succ]; refine hK _ _ ?_; clear hK K)) | (refine Abs.step_skip rfl rfl (fun K hK => ?_); (simp only [Act.put, List.setIfInBounds_toArray, List.set_cons_zero, List.set_cons_succ]; refine hK _ _ ?_; clear hK K)))
  (intro w0 hI hx0 hx1 hx2; clear hx0 hx1 hx2; simp only [Abs.T_setF, Abs.T_addA, Abs.T_push, Abs.T_start])
  go_wp2
  go_ret
  exact ⟨rfl, bB (bA (bB (bA (b0 w) _) hb1) _) hI⟩

set_option maxRecDepth 100000 in
set_option maxHeartbeats 1000000 in
theorem is_7 (A R N D n' d' : Int) (w : World) (c1 : ∀ w, Calls Tryz.prog 149 #[.int .i64 A] w fun e w' => e = .returned (.bool true) ∧ Below w.heap.size w w') (c2 : ∀ w, Calls Tryz.prog 150 #[.agg #[.int .i64 N, .int .i64 D]] w fun e w' => e = .returned (.bool true) ∧ Below w.heap.size w w') (c3 : ∀ w, Calls Tryz.prog 151 #[.agg #[.int .i64 N, .int .i64 D]] w fun e w' => e = .returned (.agg #[.int .i64 n', .int .i64 d']) ∧ Below w.heap.size w w') (K1 : (n' = N) = True) (K2 : (d' = D) = True) (h4 : R < 0) :
    Calls Tryz.prog 133 #[.agg #[.int .i64 A, .int .i64 R, .int .i64 N, .int .i64 D]] w fun e w' => e = .returned (.bool false) ∧ Below w.heap.size w w' := by
  go_enter Tryz.func133, Tryz.ntmps133
  go_wp2_with (go_at_call 148; refine (line_slope A R N D _).mono ?_; rintro e w1 ⟨rfl, hb1⟩)
  have a1 := ka (kp hb1 (na w #[.int .i64 A, .int .i64 R, .int .i64 N, .int .i64 D] 179)) (.cells #[.int .i64 N, .int .i64 D] 97)
  have a2 := na w1 #[.int .i64 N, .int .i64 D] 97
  have q1 : decide (0 ≤ R) = false := decide_eq_false (by omega)
  refine Abs.wp_region_abs (Abs.cls0 _) [0, 1, 2, 3, 4, 5, 6, 7, 8, 9, 10, 11, 12, 13, 14, 15, 16, 17, 18, 19, 20, 21, 22, 23, 24, 25, 26, 27, 28, 29] (by kernel_rfl) (Abs.ok_of is_ok (by kernel_rfl)) (Below.refl _ _).drew ?_
  repeat (first | (refine Abs.step_pure rfl rfl (fun K hK => ?_); go_simp; (try go_bits); (first | refine hK _ _ ?_ | (simp only [↓IntWalk.iteOmega]; go_simp; (try go_bits); refine hK _ _ ?_)); clear hK K) | (refine Abs.step_load (v := ?_) rfl rfl (by kernel_rfl) rfl (fun w0 hI => ?_) (fun K hK => ?_); rotate_left; (· have z0 := (rcell (kp hI a1)).1; have z1 := (rcell (kp hI a2)).1; go_simp; rfl); (simp only [Act.put, List.setIfInBounds_toArray, List.set_cons_zero, List.set_cons_succ]; refine hK _ _ ?_; clear hK K)) | (refine Abs.step_skip rfl rfl (fun K hK => ?_); (simp only [Act.put, List.setIfInBounds_toArray, List.set_cons_zero, List.set_cons_succ]; refine hK _ _ ?_; clear hK K)))
  (refine Abs.step_call_val (f := ?_) (args := ?_) (v := ?_) rfl rfl rfl rfl (fun w0 => ?_) (fun w0 hI => ?_) (fun K hK => ?_); rotate_left 3; (· go_simp; (constructor <;> rfl)); (· exact c1 _); (simp only [Act.put, List.setIfInBounds_toArray, List.set_cons_zero, List.set_cons_succ]; refine hK _ _ ?_; clear hK K))
  repeat (first | (refine Abs.step_pure rfl rfl (fun K hK => ?_); go_simp; (try go_bits); (first | refine hK _ _ ?_ | (simp only [↓IntWalk.iteOmega]; go_simp; (try go_bits); refine hK _ _ ?_)); clear hK K) | (refine Abs.step_load (v := ?_) rfl rfl (by kernel_rfl) rfl (fun w0 hI => ?_) (fun K hK => ?_); rotate_left; (· have z0 := (rcell (kp hI a1)).1; have z1 := (rcell (kp hI a2)).1; go_simp; rfl); (simp only [Act.put, List.setIfInBounds_toArray, List.set_cons_zero, List.set_cons_succ]; refine hK _ _ ?_; clear hK K)) | (refine Abs.step_skip rfl rfl (fun K hK => ?_); (simp only [Act.put, List.setIfInBounds_toArray, List.set_cons_zero, List.set_cons_succ]; refine hK _ _ ?_; clear hK K)))
  (refine Abs.step_call_val (f := ?_) (args := ?_) (v := ?_) rfl rfl rfl rfl (fun w0 => ?_) (fun w0 hI => ?_) (fun K hK => ?_); rotate_left 3; (· go_simp; (constructor <;> rfl)); (· exact c2 _); (simp only [Act.put, List.setIfInBounds_toArray, List.set_cons_zero, List.set_cons_succ]; refine hK _ _ ?_; clear hK K))
  repeat (first | (refine Abs.step_pure rfl rfl (fun K hK => ?_); go_simp; (try go_bits); (first | refine hK _ _ ?_ | (simp only [↓IntWalk.iteOmega]; go_simp; (try go_bits); refine hK _ _ ?_)); clear hK K) | (refine Abs.step_load (v := ?_) rfl rfl (by kernel_rfl) rfl (fun w0 hI => ?_) (fun K hK => ?_); rotate_left; (· have z0 := (rcell (kp hI a1)).1; have z1 := (rcell (kp hI a2)).1; go_simp; rfl); (simp only [Act.put, List.setIfInBounds_toArray, List.set_cons_zero, List.set_cons_succ]; refine hK _ _ ?_; clear hK K)) | (refine Abs.step_skip rfl rfl (fun K hK => ?_); (simp only [Act.put, List.setIfInBounds_toArray, List.set_cons_zero, List.set_cons_succ]; refine hK _ _ ?_; clear hK K)))
  (refine Abs.step_call_val (f := ?_) (args := ?_) (v := ?_) rfl rfl rfl rfl (fun w0 => ?_) (fun w0 hI => ?_) (fun K hK => ?_); rotate_left 3; (· go_simp; (constructor <;> rfl)); (· exact c3 _); (simp only [Act.put, List.setIfInBounds_toArray, List.set_cons_zero, List.set_cons_succ]; refine hK _ _ ?_; clear hK K))
  repeat (first | (refine Abs.step_pure rfl rfl (fun K hK => ?_); go_simp; (try go_bits); (first | refine hK _ _ ?_ | (simp only [↓IntWalk.iteOmega]; go_simp; (try go_bits); refine hK _ _ ?_)); clear hK K) | (refine Abs.step_load (v := ?_) rfl rfl (by kernel_rfl) rfl (fun w0 hI => ?_) (fun K hK => ?_); rotate_left; (· have z0 := (rcell (kp hI a1)).1; have z1 := (rcell (kp hI a2)).1; go_simp; rfl); (simp only [Act.put, List.setIfInBounds_toArray, List.set_cons_zero, List.set_cons_succ]; refine hK _ _ ?_; clear hK K)) | (refine Abs.step_skip rfl rfl (fun K hK => ?_); (simp only [Act.put, List.setIfInBounds_toArray, List.set_cons_zero, List.set_cons_succ]; refine hK _ _ ?_; clear hK K)))
  (intro w0 hI hx0 hx1 hx2; clear hx0 hx1 hx2; simp only [Abs.T_setF, Abs.T_addA, Abs.T_push, Abs.T_start])
  go_wp2
  go_ret
  exact ⟨rfl, bB (bA (bB (bA (b0 w) _) hb1) _) hI⟩

theorem line_is (A R N D : Int) (w : World) :
    Calls Tryz.prog 133 #[.agg #[.int .i64 A, .int .i64 R, .int .i64 N, .int .i64 D]] w fun e w' => e = .returned (.bool (isB A R N D)) ∧ Below w.heap.size w w' := by
  have c1 := line_backB A
  have c2 := line_slopeIs N D
  by_cases h1 : bkB A = true
  case neg =>
    have hb : isB A R N D = false := decide_eq_false fun h => h1 h.1
    rw [hb]
    have h1' : bkB A = false := by simpa using h1
    rw [h1'] at c1
    exact is_1 A R N D 0 0 w c1
  rw [h1] at c1
  by_cases h2 : slB N D = true
  case neg =>
    have hb : isB A R N D = false := decide_eq_false fun h => h2 h.2.1
    rw [hb]
    have h2' : slB N D = false := by simpa using h2
    rw [h2'] at c2
    exact is_2 A R N D 0 0 w c1 c2
  obtain ⟨d1, d2, d3, d4⟩ := slB_spec h2
  have c3 := line_lowest N D d1 (by omega) (by omega) (by omega)
  rw [h2] at c2
  by_cases h3 : lwN N D = N ∧ lwD N D = D
  case neg =>
    have hb : isB A R N D = false := decide_eq_false fun h => h3 h.2.2.1
    rw [hb]
    by_cases h4 : lwN N D = N
    · exact is_3 A R N D _ _ w c1 c2 c3 (eq_true h4) (eq_false fun h => h3 ⟨h4, h⟩)
    · exact is_4 A R N D _ _ w c1 c2 c3 (eq_false h4)
  by_cases h4 : 0 ≤ R
  · by_cases h5 : R < D
    · have hb : isB A R N D = true := decide_eq_true ⟨h1, h2, h3, h4, h5⟩
      rw [hb]
      exact is_5 A R N D _ _ w c1 c2 c3 (eq_true h3.1) (eq_true h3.2) h4 h5
    · have hb : isB A R N D = false := decide_eq_false fun h => h5 h.2.2.2.2
      rw [hb]
      exact is_6 A R N D _ _ w c1 c2 c3 (eq_true h3.1) (eq_true h3.2) h4 (by omega)
  · have hb : isB A R N D = false := decide_eq_false fun h => h4 h.2.2.2.1
    rw [hb]
    exact is_7 A R N D _ _ w c1 c2 c3 (eq_true h3.1) (eq_true h3.2) (by omega)
end Go.Proofs.YtmpfbkeamihjbaaGreat

namespace Go.Proofs.YtmpfbkeamihjbaaGreat
open Go.RowKit

set_option maxHeartbeats 1000000 in
theorem line_over (A R N D dt : Int) (w : World) (hD : 1 ≤ D) (hD' : D < 9223372036854775808) (n1 : -9223372036854775808 ≤ N) (n2 : N < 9223372036854775808) (t1 : -9223372036854775808 ≤ dt) (t2 : dt < 9223372036854775808)
    (r1 : -9223372036854775808 ≤ R) (r2 : R < 9223372036854775808) (a1' : -9223372036854775808 ≤ A) (a2' : A < 9223372036854775808)
    (x1 : Rng (N * dt)) (x2 : Rng R) (x3 : Rng (N * dt + R)) (x4 : Rng ((N * dt + R) / D)) (x5 : Rng A) (x6 : Rng ((N * dt + R) / D + A)) :
    Calls Tryz.prog 152 #[.agg #[.int .i64 A, .int .i64 R, .int .i64 N, .int .i64 D], .int .i64 dt] w fun e w' => e = .returned (.tuple #[.agg #[.int .i64 (hi ((N * dt + R) / D + A)), .int .u64 (lo ((N * dt + R) / D + A))], .int .i64 ((N * dt + R) % D)]) ∧ Below w.heap.size w w' := by
  go_enter Tryz.func152, Tryz.ntmps152
  go_wp2_with fail
  have a0 := ka (na w #[.int .i64 A, .int .i64 R, .int .i64 N, .int .i64 D] 179) (.cells #[.int .i64 0, .int .u64 0] 160)
  refine Abs.wp_region_abs (Abs.cls0 _) [0, 1, 2, 3, 4, 5, 6, 7, 8, 9, 10, 11, 12, 13, 14, 15] (by kernel_rfl) (by kernel_rfl) (Below.refl _ _).drew ?_
  repeat (first | (refine Abs.step_pure rfl rfl (fun K hK => ?_); go_simp; (try go_bits); (first | refine hK _ _ ?_ | (simp only [↓IntWalk.iteOmega]; go_simp; (try go_bits); refine hK _ _ ?_)); clear hK K) | (refine Abs.step_load (v := ?_) rfl rfl (by kernel_rfl) rfl (fun w0 hI => ?_) (fun K hK => ?_); rotate_left; (· have z0 := (rcell (kp hI a0)).1; go_simp; rfl); (simp only [Act.put, List.setIfInBounds_toArray, List.set_cons_zero, List.set_cons_succ]; refine hK _ _ ?_; clear hK K)) | (refine Abs.step_skip rfl rfl (fun K hK => ?_); (simp only [Act.put, List.setIfInBounds_toArray, List.set_cons_zero, List.set_cons_succ]; refine hK _ _ ?_; clear hK K)))
  (refine Abs.step_call_val (f := ?_) (args := ?_) (v := ?_) rfl rfl rfl rfl (fun w0 => ?_) (fun w0 hI => ?_) (fun K hK => ?_); rotate_left 3; (· go_simp; (constructor <;> rfl)); (· exact wide_Mul N dt n1 n2 t1 t2 _); (simp only [Act.put, List.setIfInBounds_toArray, List.set_cons_zero, List.set_cons_succ]; refine hK _ _ ?_; clear hK K))
  repeat (first | (refine Abs.step_pure rfl rfl (fun K hK => ?_); go_simp; (try go_bits); (first | refine hK _ _ ?_ | (simp only [↓IntWalk.iteOmega]; go_simp; (try go_bits); refine hK _ _ ?_)); clear hK K) | (refine Abs.step_load (v := ?_) rfl rfl (by kernel_rfl) rfl (fun w0 hI => ?_) (fun K hK => ?_); rotate_left; (· have z0 := (rcell (kp hI a0)).1; go_simp; rfl); (simp only [Act.put, List.setIfInBounds_toArray, List.set_cons_zero, List.set_cons_succ]; refine hK _ _ ?_; clear hK K)) | (refine Abs.step_skip rfl rfl (fun K hK => ?_); (simp only [Act.put, List.setIfInBounds_toArray, List.set_cons_zero, List.set_cons_succ]; refine hK _ _ ?_; clear hK K)))
  (refine Abs.step_call_val (f := ?_) (args := ?_) (v := ?_) rfl rfl rfl rfl (fun w0 => ?_) (fun w0 hI => ?_) (fun K hK => ?_); rotate_left 3; (· go_simp; (constructor <;> rfl)); (· exact wide_Of R r1 r2 _); (simp only [Act.put, List.setIfInBounds_toArray, List.set_cons_zero, List.set_cons_succ]; refine hK _ _ ?_; clear hK K))
  repeat (first | (refine Abs.step_pure rfl rfl (fun K hK => ?_); go_simp; (try go_bits); (first | refine hK _ _ ?_ | (simp only [↓IntWalk.iteOmega]; go_simp; (try go_bits); refine hK _ _ ?_)); clear hK K) | (refine Abs.step_load (v := ?_) rfl rfl (by kernel_rfl) rfl (fun w0 hI => ?_) (fun K hK => ?_); rotate_left; (· go_simp; rfl); (simp only [Act.put, List.setIfInBounds_toArray, List.set_cons_zero, List.set_cons_succ]; refine hK _ _ ?_; clear hK K)) | (refine Abs.step_skip rfl rfl (fun K hK => ?_); (simp only [Act.put, List.setIfInBounds_toArray, List.set_cons_zero, List.set_cons_succ]; refine hK _ _ ?_; clear hK K)))
  (refine Abs.step_call_val (f := ?_) (args := ?_) (v := ?_) rfl rfl rfl rfl (fun w0 => ?_) (fun w0 hI => ?_) (fun K hK => ?_); rotate_left 3; (· go_simp; (constructor <;> rfl)); (· exact wide_Add _ _ x1 x2 x3 _); (simp only [Act.put, List.setIfInBounds_toArray, List.set_cons_zero, List.set_cons_succ]; refine hK _ _ ?_; clear hK K))
  repeat (first | (refine Abs.step_pure rfl rfl (fun K hK => ?_); go_simp; (try go_bits); (first | refine hK _ _ ?_ | (simp only [↓IntWalk.iteOmega]; go_simp; (try go_bits); refine hK _ _ ?_)); clear hK K) | (refine Abs.step_load (v := ?_) rfl rfl (by kernel_rfl) rfl (fun w0 hI => ?_) (fun K hK => ?_); rotate_left; (· go_simp; rfl); (simp only [Act.put, List.setIfInBounds_toArray, List.set_cons_zero, List.set_cons_succ]; refine hK _ _ ?_; clear hK K)) | (refine Abs.step_skip rfl rfl (fun K hK => ?_); (simp only [Act.put, List.setIfInBounds_toArray, List.set_cons_zero, List.set_cons_succ]; refine hK _ _ ?_; clear hK K)))
  (refine Abs.step_var (obj := ?_) rfl rfl rfl rfl (fun w0 => ?_) (fun K hK g hB hU => ?_); rotate_left; (· go_simp; rfl); (simp only [Act.put, List.setIfInBounds_toArray, List.set_cons_zero, List.set_cons_succ]; refine hK _ _ ?_; clear hK K))
  (refine Abs.step_store (T := ?_) rfl rfl rfl (fun w0 hI hF hU => ?_) (fun _ _ _ _ => trivial) (fun K hK => ?_); rotate_left; (· simp only [Abs.F_setF, Abs.F_addA, Abs.F_push, Abs.F_start, true_and] at hF; have hg0 := (rcell hF).1; have hg1 := (rcell hF).2.1; simp only [Abs.T_setF, Abs.T_addA, Abs.T_push, Abs.T_start]; go_simp; exact row2 hF _ _); (simp only [Act.put, List.setIfInBounds_toArray, List.set_cons_zero, List.set_cons_succ]; refine hK _ _ ?_; clear hK K))
  repeat (first | (refine Abs.step_pure rfl rfl (fun K hK => ?_); go_simp; (try go_bits); (first | refine hK _ _ ?_ | (simp only [↓IntWalk.iteOmega]; go_simp; (try go_bits); refine hK _ _ ?_)); clear hK K) | (refine Abs.step_load (v := ?_) rfl rfl (by kernel_rfl) rfl (fun w0 hI => ?_) (fun K hK => ?_); rotate_left; (· go_simp; rfl); (simp only [Act.put, List.setIfInBounds_toArray, List.set_cons_zero, List.set_cons_succ]; refine hK _ _ ?_; clear hK K)) | (refine Abs.step_skip rfl rfl (fun K hK => ?_); (simp only [Act.put, List.setIfInBounds_toArray, List.set_cons_zero, List.set_cons_succ]; refine hK _ _ ?_; clear hK K)))
  (intro w0 hI hF hx1 hx2; clear hx1 hx2; simp only [Abs.F_setF, Abs.F_addA, Abs.F_push, Abs.F_start, true_and, Abs.T_push] at hF ⊢; generalize hT : setRow w0 _ _ = w1; obtain ⟨hb, hg⟩ := fin1 hI hB hF hT; clear hT hI hF w0)
  have a1 := kp hb a0
  have rr1 := kp hb (na1 w _ _ _)
  obtain ⟨q1, -, l1⟩ := rcell a1
  obtain ⟨q2, -, l2⟩ := rcell hg
  go_wp2_with (go_at_call 160; refine (wide_Div _ D x3 hD hD' _).mono ?_; rintro e w2 ⟨rfl, hb2⟩)
  have a2 := ka (kp hb2 a1) (.cells #[.int .i64 (hi ((N * dt + R) / D)), .int .u64 (lo ((N * dt + R) / D))] 160)
  have n2 := na w2 #[.int .i64 (hi ((N * dt + R) / D)), .int .u64 (lo ((N * dt + R) / D))] 160
  have r2 := ka (kp hb2 rr1) (.cells #[.int .i64 (hi ((N * dt + R) / D)), .int .u64 (lo ((N * dt + R) / D))] 160)
  refine Abs.wp_region_abs (Abs.cls0 _) [0, 1, 2, 3, 4, 5, 6, 7, 8, 9, 10, 11] (by kernel_rfl) (by kernel_rfl) (Below.refl _ _).drew ?_
  repeat (first | (refine Abs.step_pure rfl rfl (fun K hK => ?_); go_simp; (try go_bits); (first | refine hK _ _ ?_ | (simp only [↓IntWalk.iteOmega]; go_simp; (try go_bits); refine hK _ _ ?_)); clear hK K) | (refine Abs.step_load (v := ?_) rfl rfl (by kernel_rfl) rfl (fun w0 hI => ?_) (fun K hK => ?_); rotate_left; (· have z0 := (rcell (kp hI a2)).1; have z1 := (rcell (kp hI n2)).1; go_simp; rfl); (simp only [Act.put, List.setIfInBounds_toArray, List.set_cons_zero, List.set_cons_succ]; refine hK _ _ ?_; clear hK K)) | (refine Abs.step_skip rfl rfl (fun K hK => ?_); (simp only [Act.put, List.setIfInBounds_toArray, List.set_cons_zero, List.set_cons_succ]; refine hK _ _ ?_; clear hK K)))
  (refine Abs.step_call_val (f := ?_) (args := ?_) (v := ?_) rfl rfl rfl rfl (fun w0 => ?_) (fun w0 hI => ?_) (fun K hK => ?_); rotate_left 3; (· go_simp; (constructor <;> rfl)); (· exact wide_Of A a1' a2' _); (simp only [Act.put, List.setIfInBounds_toArray, List.set_cons_zero, List.set_cons_succ]; refine hK _ _ ?_; clear hK K))
  repeat (first | (refine Abs.step_pure rfl rfl (fun K hK => ?_); go_simp; (try go_bits); (first | refine hK _ _ ?_ | (simp only [↓IntWalk.iteOmega]; go_simp; (try go_bits); refine hK _ _ ?_)); clear hK K) | (refine Abs.step_load (v := ?_) rfl rfl (by kernel_rfl) rfl (fun w0 hI => ?_) (fun K hK => ?_); rotate_left; (· go_simp; rfl); (simp only [Act.put, List.setIfInBounds_toArray, List.set_cons_zero, List.set_cons_succ]; refine hK _ _ ?_; clear hK K)) | (refine Abs.step_skip rfl rfl (fun K hK => ?_); (simp only [Act.put, List.setIfInBounds_toArray, List.set_cons_zero, List.set_cons_succ]; refine hK _ _ ?_; clear hK K)))
  (refine Abs.step_call_val (f := ?_) (args := ?_) (v := ?_) rfl rfl rfl rfl (fun w0 => ?_) (fun w0 hI => ?_) (fun K hK => ?_); rotate_left 3; (· go_simp; (constructor <;> rfl)); (· exact wide_Add _ _ x4 x5 x6 _); (simp only [Act.put, List.setIfInBounds_toArray, List.set_cons_zero, List.set_cons_succ]; refine hK _ _ ?_; clear hK K))
  repeat (first | (refine Abs.step_pure rfl rfl (fun K hK => ?_); go_simp; (try go_bits); (first | refine hK _ _ ?_ | (simp only [↓IntWalk.iteOmega]; go_simp; (try go_bits); refine hK _ _ ?_)); clear hK K) | (refine Abs.step_load (v := ?_) rfl rfl (by kernel_rfl) rfl (fun w0 hI => ?_) (fun K hK => ?_); rotate_left; (· go_simp; rfl); (simp only [Act.put, List.setIfInBounds_toArray, List.set_cons_zero, List.set_cons_succ]; refine hK _ _ ?_; clear hK K)) | (refine Abs.step_skip rfl rfl (fun K hK => ?_); (simp only [Act.put, List.setIfInBounds_toArray, List.set_cons_zero, List.set_cons_succ]; refine hK _ _ ?_; clear hK K)))
  (refine Abs.step_var (obj := ?_) rfl rfl rfl rfl (fun w0 => ?_) (fun K hK g' hB' hU => ?_); rotate_left; (· go_simp; rfl); (simp only [Act.put, List.setIfInBounds_toArray, List.set_cons_zero, List.set_cons_succ]; refine hK _ _ ?_; clear hK K))
  (refine Abs.step_store (T := ?_) rfl rfl rfl (fun w0 hI hF hU => ?_) (fun _ _ _ _ => trivial) (fun K hK => ?_); rotate_left; (· simp only [Abs.F_setF, Abs.F_addA, Abs.F_push, Abs.F_start, true_and] at hF; have hg0 := (rcell hF).1; have hg1 := (rcell hF).2.1; simp only [Abs.T_setF, Abs.T_addA, Abs.T_push, Abs.T_start]; go_simp; exact row2 hF _ _); (simp only [Act.put, List.setIfInBounds_toArray, List.set_cons_zero, List.set_cons_succ]; refine hK _ _ ?_; clear hK K))
  repeat (first | (refine Abs.step_pure rfl rfl (fun K hK => ?_); go_simp; (try go_bits); (first | refine hK _ _ ?_ | (simp only [↓IntWalk.iteOmega]; go_simp; (try go_bits); refine hK _ _ ?_)); clear hK K) | (refine Abs.step_load (v := ?_) rfl rfl (by kernel_rfl) rfl (fun w0 hI => ?_) (fun K hK => ?_); rotate_left; (· go_simp; rfl); (simp only [Act.put, List.setIfInBounds_toArray, List.set_cons_zero, List.set_cons_succ]; refine hK _ _ ?_; clear hK K)) | (refine Abs.step_skip rfl rfl (fun K hK => ?_); (simp only [Act.put, List.setIfInBounds_toArray, List.set_cons_zero, List.set_cons_succ]; refine hK _ _ ?_; clear hK K)))
  (intro w0 hI hF hx1 hx2; clear hx1 hx2; simp only [Abs.F_setF, Abs.F_addA, Abs.F_push, Abs.F_start, true_and, Abs.T_push] at hF ⊢; generalize hT : setRow w0 _ _ = w3; obtain ⟨hb3, hg'⟩ := fin1 hI hB' hF hT; clear hT hI hF w0)
  obtain ⟨y1, y2, -⟩ := rcell hg'
  obtain ⟨y3, y4, -⟩ := rcell (kp hb3 r2)
  go_wp2
  (rw [row2 (kp hb3 r2)]; generalize hT : setRow _ _ _ = wE; obtain ⟨hbE, hgE⟩ := ret_row (bB (bA (bB (bB (bA (bA (b0 w) _) _) hb) hb2) _) hb3) (by omega) (kp hb3 r2) hT; have zE := (rcell hgE).1; clear hT; refine bodyPost_ret (by simp [results, Tryz.results152, go_sem, zE]; try rfl) rfl ?_)
  exact ⟨rfl, hbE⟩

/-- a line's value, not yet held against what may be told -/
def lnQ (A R N D dt : Int) : Int := (N * dt + R) / D + A

theorem isB_spec {A R N D : Int} (h : isB A R N D = true) : (-2305844108725321728 ≤ A ∧ A ≤ 2305844108725321728) ∧ (1 ≤ D ∧ D ≤ 281474976710656 ∧ -4611688217450643456 ≤ N ∧ N ≤ 4611688217450643456) ∧ (lwN N D = N ∧ lwD N D = D) ∧ 0 ≤ R ∧ R < D := by
  obtain ⟨h1, h2, h3, h4, h5⟩ := of_decide_eq_true h
  exact ⟨of_decide_eq_true h1, of_decide_eq_true h2, h3, h4, h5⟩

theorem ln_bd {A R N D dt : Int} (h : isB A R N D = true) (ht : tmB dt = true) : (-1298074214633706907132624082305024 * 1024 ≤ N * dt ∧ N * dt ≤ 1298074214633706907132624082305024 * 1024) ∧
    (-1298074214633706907132624082305024 * 1024 ≤ (N * dt + R) / D ∧ (N * dt + R) / D ≤ 1298074214633706907132624082305024 * 1024 + 281474976710656) := by
  obtain ⟨_, ⟨d1, d2, d3, d4⟩, _, r1, r2⟩ := isB_spec h
  obtain ⟨t1, t2⟩ : 0 ≤ dt ∧ dt ≤ 281474976710656 := of_decide_eq_true ht
  have k1 : N * dt ≤ 4611688217450643456 * 281474976710656 := Int.le_trans (Int.mul_le_mul_of_nonneg_right d4 t1) (Int.mul_le_mul_of_nonneg_left t2 (by decide))
  have k2 : -4611688217450643456 * 281474976710656 ≤ N * dt := Int.le_trans (by have := Int.mul_le_mul_of_nonneg_left t2 (show (0 : Int) ≤ 4611688217450643456 by decide); omega) (Int.mul_le_mul_of_nonneg_right d3 t1)
  refine ⟨⟨by omega, by omega⟩, ?_, ?_⟩
  · refine (Int.le_ediv_iff_mul_le (by omega)).2 ?_
    have : (-1298074214633706907132624082305024 * 1024 : Int) * D ≤ (-1298074214633706907132624082305024 * 1024) * 1 := Int.mul_le_mul_of_nonpos_left (by decide) d1
    omega
  · have h6 : (N * dt + R) / D < 1298074214633706907132624082305024 * 1024 + 281474976710657 := by
      refine (Int.ediv_lt_iff_lt_mul (by omega)).2 ?_
      have : (1298074214633706907132624082305024 * 1024 + 281474976710657 : Int) * 1 ≤ (1298074214633706907132624082305024 * 1024 + 281474976710657) * D := Int.mul_le_mul_of_nonneg_left d1 (by decide)
      omega
    omega

theorem line_overB (A R N D dt : Int) (h : isB A R N D = true) (ht : tmB dt = true) (w : World) :
    Calls Tryz.prog 152 #[.agg #[.int .i64 A, .int .i64 R, .int .i64 N, .int .i64 D], .int .i64 dt] w fun e w' => e = .returned (.tuple #[.agg #[.int .i64 (hi (lnQ A R N D dt)), .int .u64 (lo (lnQ A R N D dt))], .int .i64 ((N * dt + R) % D)]) ∧ Below w.heap.size w w' := by
  obtain ⟨⟨a1, a2⟩, ⟨d1, d2, d3, d4⟩, _, r1, r2⟩ := isB_spec h
  obtain ⟨t1, t2⟩ : 0 ≤ dt ∧ dt ≤ 281474976710656 := of_decide_eq_true ht
  obtain ⟨⟨b1, b2⟩, b3, b4⟩ := ln_bd h ht
  exact line_over A R N D dt w d1 (by omega) (by omega) (by omega) (by omega) (by omega) (by omega) (by omega) (by omega) (by omega)
    ⟨by omega, by omega⟩ ⟨by omega, by omega⟩ ⟨by omega, by omega⟩ ⟨by omega, by omega⟩ ⟨by omega, by omega⟩ ⟨by omega, by omega⟩
theorem lnQ_rng {A R N D dt : Int} (h : isB A R N D = true) (ht : tmB dt = true) : Rng (lnQ A R N D dt) := by
  obtain ⟨⟨a1, a2⟩, _⟩ := isB_spec h
  obtain ⟨_, b3, b4⟩ := ln_bd h ht
  unfold lnQ
  exact ⟨by omega, by omega⟩

set_option maxHeartbeats 1000000 in
theorem line_value (A R N D dt : Int) (h : isB A R N D = true) (ht : tmB dt = true) (w : World) :
    Calls Tryz.prog 135 #[.agg #[.int .i64 A, .int .i64 R, .int .i64 N, .int .i64 D], .int .i64 dt] w fun e w' =>
      e = .returned (.tuple #[.int .i64 (if bkB (lnQ A R N D dt) then lnQ A R N D dt else 0), .int .i64 (if bkB (lnQ A R N D dt) then 0 else 5)]) ∧ Below w.heap.size w w' := by
  have c1 := line_overB A R N D dt h ht
  have c2 := wide_Int _ (lnQ_rng h ht)
  generalize lnQ A R N D dt = Q at *
  generalize (N * dt + R) % D = rr at *
  have c3 := line_back Q
  clear h ht
  by_cases hb : bkB Q = true
  · obtain ⟨q1, q2⟩ : -2305844108725321728 ≤ Q ∧ Q ≤ 2305844108725321728 := of_decide_eq_true hb
    have q3 : -9223372036854775808 ≤ Q ∧ Q < 9223372036854775808 := ⟨by omega, by omega⟩
    rw [if_pos q3, if_pos q3] at c2
    rw [hb] at c3
    rw [if_pos hb, if_pos hb]
    clear hb q3
    go_enter Tryz.func135, Tryz.ntmps135
    go_wp2_with (first | (go_at_call 152; refine (c1 _).mono ?_; rintro e w1 ⟨rfl, hb1⟩) | (go_at_call 153; refine (c2 _).mono ?_; rintro e w2 ⟨rfl, hb2⟩) | (go_at_call 149; refine (c3 _).mono ?_; rintro e w3 ⟨rfl, rfl⟩))
    go_ret2
    exact ⟨rfl, bB (bA (bB (bA (b0 w) _) hb1) _) hb2⟩
  · rw [if_neg hb, if_neg hb]
    have hb' : bkB Q = false := by simpa using hb
    rw [hb'] at c3
    clear hb hb'
    by_cases q3 : -9223372036854775808 ≤ Q ∧ Q < 9223372036854775808
    · rw [if_pos q3, if_pos q3] at c2
      clear q3
      go_enter Tryz.func135, Tryz.ntmps135
      go_wp2_with (first | (go_at_call 152; refine (c1 _).mono ?_; rintro e w1 ⟨rfl, hb1⟩) | (go_at_call 153; refine (c2 _).mono ?_; rintro e w2 ⟨rfl, hb2⟩) | (go_at_call 149; refine (c3 _).mono ?_; rintro e w3 ⟨rfl, rfl⟩))
      go_ret2
      exact ⟨rfl, bB (bA (bB (bA (b0 w) _) hb1) _) hb2⟩
    · rw [if_neg q3, if_neg q3] at c2
      clear q3
      go_enter Tryz.func135, Tryz.ntmps135
      go_wp2_with (first | (go_at_call 152; refine (c1 _).mono ?_; rintro e w1 ⟨rfl, hb1⟩) | (go_at_call 153; refine (c2 _).mono ?_; rintro e w2 ⟨rfl, hb2⟩))
      go_ret2
      exact ⟨rfl, bB (bA (bB (bA (b0 w) _) hb1) _) hb2⟩

end Go.Proofs.YtmpfbkeamihjbaaGreat

namespace Go.Proofs.YtmpfbkeamihjbaaGreat
open Go.RowKit

end Go.Proofs.YtmpfbkeamihjbaaGreat

namespace Go.Proofs.YtmpfbkeamihjbaaGreat
open Go.RowKit

end Go.Proofs.YtmpfbkeamihjbaaGreat

namespace Go.Proofs.YtmpfbkeamihjbaaGreat
open Go.RowKit

end Go.Proofs.YtmpfbkeamihjbaaGreat

namespace Go.Proofs.YtmpfbkeamihjbaaGreat

/-- a sum of n terms -/
def sm (f : Nat → Int) : Nat → Int
  | 0 => 0
  | n + 1 => sm f n + f n
/-- what is left of a row's steps -/
def rs (n : Nat) (a b m : Int) : Int := sm (fun i => (a * i + b) % m) n
/-! the laws -/
end Go.Proofs.YtmpfbkeamihjbaaGreat

namespace Go.Proofs.YtmpfbkeamihjbaaGreat
open Go.RowKit

end Go.Proofs.YtmpfbkeamihjbaaGreat

namespace Go.Proofs.YtmpfbkeamihjbaaGreat
open Go.RowKit

/-- all but the block g is as it was -/
structure Exc (g : Nat) (w w' : World) : Prop where
  le : g ≤ w.heap.size
  low : Below g w w'
  size : w.heap.size ≤ w'.heap.size
  other : ∀ b, b < w.heap.size → b ≠ g → w'.heap[b]? = w.heap[b]?
theorem Exc.of_below {g : Nat} {w w' : World} (h : Below w.heap.size w w') (hg : g ≤ w.heap.size) : Exc g w w' := ⟨hg, h.mono hg, h.size, fun b hb _ => h.block b hb⟩
theorem Exc.trans {g : Nat} {w w1 w2 : World} (h1 : Exc g w w1) (h2 : Exc g w1 w2) : Exc g w w2 :=
  ⟨h1.le, h1.low.trans h2.low, Nat.le_trans h1.size h2.size, fun b hb hg => (h2.other b (Nat.lt_of_lt_of_le hb h1.size) hg).trans (h1.other b hb hg)⟩
theorem kx {g k : Nat} {W w1 : World} {cs : Array Value} {t : TypeId} (hx : Exc g W w1) (h : W.heap[k]? = some (.cells cs t (0, 0))) (hk : k ≠ g) : w1.heap[k]? = some (.cells cs t (0, 0)) :=
  (hx.other k (rcell h).2.2 hk).trans h
theorem x0 (g : Nat) (w : World) (h : g ≤ w.heap.size) : Exc g w w := Exc.of_below (b0 w) h
theorem xB {g : Nat} {w W w1 : World} (h : Exc g w W) (hb : Below W.heap.size W w1) : Exc g w w1 :=
  ⟨h.le, h.low.trans (hb.mono (Nat.le_trans h.le h.size)), Nat.le_trans h.size hb.size, fun b hb' hg => (hb.block b (Nat.lt_of_lt_of_le hb' h.size)).trans (h.other b hb' hg)⟩
theorem xA {g : Nat} {w W : World} (h : Exc g w W) (o : Obj) : Exc g w (W.alloc o) := xB h (bA (b0 W) o)
theorem bX {k : Nat} {w W w1 : World} (h : Below w.heap.size w W) (hx : Exc k W w1) (hk : w.heap.size ≤ k) : Below w.heap.size w w1 := bG h hx.low hk
theorem xX {g k : Nat} {w W w1 : World} (h : Exc g w W) (hx : Exc k W w1) (hk : k = g ∨ w.heap.size ≤ k ∧ g ≤ k) : Exc g w w1 := by
  rcases hk with rfl | ⟨h1, h2⟩
  · exact h.trans hx
  · exact ⟨h.le, h.low.trans (hx.low.mono h2), Nat.le_trans h.size hx.size, fun b hb hg => (hx.other b (Nat.lt_of_lt_of_le hb h.size) (by omega)).trans (h.other b hb hg)⟩
theorem fin_x {base w0 w1 : World} {g : Nat} {t : TypeId} {cs cs' : Array Value} (hI : Below base.heap.size base w0) (hF : base.heap[g]? = some (.cells cs t (0, 0))) (hT : setRow w0 g cs' = w1) :
    Exc g base w1 ∧ w1.heap[g]? = some (.cells cs' t (0, 0)) := by
  obtain ⟨hO, hN, hS, hG⟩ := fin_old hI hF hT
  exact ⟨⟨Nat.le_of_lt (rcell hF).2.2, hG, hS, hO⟩, hN⟩
theorem leB {w : World} {g : Nat} (h : (Abs.cls0 w).B ≤ g) : w.heap.size ≤ g := h
theorem na3 (W : World) (o o2 o3 : Obj) (cs : Array Value) (t : TypeId) : ((((W.alloc o).alloc o2).alloc o3).alloc (.cells cs t)).heap[W.heap.size + 1 + 1 + 1]? = some (.cells cs t (0, 0)) := by
  have := na (((W.alloc o).alloc o2).alloc o3) cs t
  simp only [World.size_alloc] at this
  exact this
end Go.Proofs.YtmpfbkeamihjbaaGreat
