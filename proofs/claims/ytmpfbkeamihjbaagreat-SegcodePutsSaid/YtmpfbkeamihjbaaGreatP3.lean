/- The package line at this program: what its small functions come to. The package line at this program, on: what a line may be, its values. The package line at this program, on: over, value, At, Check, Within, Lowest, Compare. The package line at this program, on: Lowest, Compare, Within. yearbooklaw05.wakes at this program: true. The package wide at this program, on: Scale where the product fits. Sums of fractions that are each rounded down: plain laws of whole numbers. The package fsum at this program: pairs, term, small. What writes one block that was there. -/
import Derived.Test.YtmpfbkeamihjbaaGreatP2
import Derived.ScopeJumps
set_option linter.unusedSimpArgs false
set_option linter.unusedVariables false
namespace Go.Proofs.YtmpfbkeamihjbaaGreat
open Go.RowKit

def gcdI (a b : Int) : Int := (Int.gcd a b : Nat)
theorem gcdI_step (x y : Nat) (_h : x ≠ 0) : Nat.gcd (y % x) x = Nat.gcd x y := (Nat.gcd_rec x y).symm

set_option maxRecDepth 100000 in
theorem divisor_nn (n m : Nat) (hn : n < 9223372036854775808) (hm : m < 9223372036854775808) (a : Int) (ha : a = n ∨ a = -n) (w : World) :
    Calls Tryz.prog 159 #[.int .i64 a, .int .i64 m] w fun e w' => e = .returned (.int .i64 (Nat.gcd n m : Nat)) ∧ w = w' := by
  go_enter Tryz.func159, Tryz.ntmps159
  go_wp2
  refine wp_scope_jumps 0 (fun a' w' => w = w' ∧ ∃ (x y : Nat) (u5 u6 u7 u8 u9 u10 u11 u12 u13 u14 : Value), a' = { tmps := #[.int .i64 x, .int .i64 y, undef, undef, .int .i64 0, u5, u6, u7, u8, u9, u10, u11, u12, u13, u14, undef], defers := [] } ∧ x < 9223372036854775808 ∧ y < 9223372036854775808 ∧ Hid (Nat.gcd x y = Nat.gcd n m)) (fun a' _ => (intOf (a'.tmps.getD 0 undef)).toNat) rfl ?_ ?_
  · have HN := hide (show Nat.gcd n m = Nat.gcd n m from rfl)
    by_cases hneg : a < 0
    · have e0 : a = -n := by omega
      subst e0
      have hp : 0 < n := by omega
      have h1 : ((n : Int) == 0) = false := by simp; omega
      have h2 : ¬ (n : Int) = 0 := by omega
      have h3 : (m : Int) % n = ((m % n : Nat) : Int) := by simp
      have h4 : m % n < n := Nat.mod_lt _ hp
      have H3 := hide h3
      clear h3
      go_wp2
      go_step3
      go_wp2
      go_step3
      rw [H3.out]
      refine ⟨rfl, rfl, m % n, n, _, _, _, _, _, _, _, _, _, _, rfl, by omega, hn, gcdI_step n m (by omega)⟩
    · have e0 : a = n := by omega
      subst e0
      by_cases hz : n = 0
      · subst hz
        go_wp2
        go_step3
        go_wp2
        simp only [Exit.jump]
        go_ret
        exact ⟨by simp, rfl⟩
      · have h1 : ((n : Int) == 0) = false := by simp; omega
        have h2 : ¬ (n : Int) = 0 := by omega
        have h3 : (m : Int) % n = ((m % n : Nat) : Int) := by simp
        have h4 : m % n < n := Nat.mod_lt _ (by omega)
        have H3 := hide h3
        clear h3
        go_wp2
        go_step3
        go_wp2
        go_step3
        rw [H3.out]
        refine ⟨rfl, rfl, m % n, n, _, _, _, _, _, _, _, _, _, _, rfl, by omega, hn, gcdI_step n m (by omega)⟩
  · rintro a' w' ⟨rfl, x, y, u5, u6, u7, u8, u9, u10, u11, u12, u13, u14, rfl, hx, hy, HG⟩
    by_cases h0 : x = 0
    · subst h0
      go_wp2
      simp only [Exit.jump]
      go_ret
      have := HG.out
      rw [Nat.gcd_zero_left] at this
      exact ⟨by simp [this], rfl⟩
    · have h1 : ((x : Int) == 0) = false := by simp; omega
      have h2 : ¬ (x : Int) = 0 := by omega
      have h3 : (y : Int) % x = ((y % x : Nat) : Int) := by simp
      have h4 : y % x < x := Nat.mod_lt _ (by omega)
      have H3 := hide h3
      clear h3
      go_wp2
      go_step3
      rw [H3.out]
      refine ⟨rfl, ⟨rfl, y % x, x, _, _, _, _, _, _, _, _, _, _, rfl, by omega, hx, ?_⟩, ?_⟩
      · rw [Hid, gcdI_step x y h0]; exact HG.out
      · simp [intOf]; omega

def bkB (v : Int) : Bool := decide (-2305844108725321728 ≤ v ∧ v ≤ 2305844108725321728)
def tmB (t : Int) : Bool := decide (0 ≤ t ∧ t ≤ 281474976710656)
def slB (N D : Int) : Bool := decide (1 ≤ D ∧ D ≤ 281474976710656 ∧ -4611688217450643456 ≤ N ∧ N ≤ 4611688217450643456)

theorem line_back (v : Int) (w : World) : Calls Tryz.prog 149 #[.int .i64 v] w fun e w' => e = .returned (.bool (bkB v)) ∧ w = w' := by
  by_cases h1 : -2305844108725321728 ≤ v
  · by_cases h2 : v ≤ 2305844108725321728
    · have hb : bkB v = true := decide_eq_true ⟨h1, h2⟩
      rw [hb]
      clear hb
      go_enter Tryz.func149, Tryz.ntmps149
      go_wp2
      go_ret
      exact ⟨rfl, rfl⟩
    · have hb : bkB v = false := decide_eq_false (fun h => h2 h.2)
      rw [hb]
      clear hb
      go_enter Tryz.func149, Tryz.ntmps149
      go_wp2
      go_ret
      exact ⟨rfl, rfl⟩
  · have hb : bkB v = false := decide_eq_false (fun h => h1 h.1)
    rw [hb]
    clear hb
    go_enter Tryz.func149, Tryz.ntmps149
    go_wp2
    go_ret
    exact ⟨rfl, rfl⟩

theorem line_timeIs (v : Int) (w : World) : Calls Tryz.prog 134 #[.int .i64 v] w fun e w' => e = .returned (.bool (tmB v)) ∧ w = w' := by
  by_cases h1 : 0 ≤ v
  · by_cases h2 : v ≤ 281474976710656
    · have hb : tmB v = true := decide_eq_true ⟨h1, h2⟩
      rw [hb]
      clear hb
      go_enter Tryz.func134, Tryz.ntmps134
      go_wp2
      go_ret
      exact ⟨rfl, rfl⟩
    · have hb : tmB v = false := decide_eq_false (fun h => h2 h.2)
      rw [hb]
      clear hb
      go_enter Tryz.func134, Tryz.ntmps134
      go_wp2
      go_ret
      exact ⟨rfl, rfl⟩
  · have hb : tmB v = false := decide_eq_false (fun h => h1 h.1)
    rw [hb]
    clear hb
    go_enter Tryz.func134, Tryz.ntmps134
    go_wp2
    go_ret
    exact ⟨rfl, rfl⟩

set_option maxHeartbeats 1000000 in
theorem line_slopeIs (N D : Int) (w : World) : Calls Tryz.prog 150 #[.agg #[.int .i64 N, .int .i64 D]] w fun e w' => e = .returned (.bool (slB N D)) ∧ Below w.heap.size w w' := by
  have fin : ∀ b : Bool, slB N D = b → (Calls Tryz.prog 150 #[.agg #[.int .i64 N, .int .i64 D]] w fun e w' => e = .returned (.bool b) ∧ Below w.heap.size w w') → Calls Tryz.prog 150 #[.agg #[.int .i64 N, .int .i64 D]] w fun e w' => e = .returned (.bool (slB N D)) ∧ Below w.heap.size w w' := fun b hb h => by rw [hb]; exact h
  by_cases h1 : 1 ≤ D
  · by_cases h2 : D ≤ 281474976710656
    · by_cases h3 : -4611688217450643456 ≤ N
      · by_cases h4 : N ≤ 4611688217450643456
        · refine fin true (decide_eq_true ⟨h1, h2, h3, h4⟩) ?_
          clear fin
          go_enter Tryz.func150, Tryz.ntmps150
          go_wp2
          go_ret
          exact ⟨rfl, bA (b0 w) _⟩
        · refine fin false (decide_eq_false fun h => h4 h.2.2.2) ?_
          clear fin
          go_enter Tryz.func150, Tryz.ntmps150
          go_wp2
          go_ret
          exact ⟨rfl, bA (b0 w) _⟩
      · refine fin false (decide_eq_false fun h => h3 h.2.2.1) ?_
        clear fin
        go_enter Tryz.func150, Tryz.ntmps150
        go_wp2
        go_ret
        exact ⟨rfl, bA (b0 w) _⟩
    · refine fin false (decide_eq_false fun h => h2 h.2.1) ?_
      clear fin
      go_enter Tryz.func150, Tryz.ntmps150
      go_wp2
      go_ret
      exact ⟨rfl, bA (b0 w) _⟩
  · refine fin false (decide_eq_false fun h => h1 h.1) ?_
    clear fin
    go_enter Tryz.func150, Tryz.ntmps150
    go_wp2
    go_ret
    exact ⟨rfl, bA (b0 w) _⟩

/-- the divisor of a slope's two numbers -/
def dvN (N D : Int) : Nat := Nat.gcd N.natAbs D.toNat
def lwN (N D : Int) : Int := N / dvN N D
def lwD (N D : Int) : Int := D / dvN N D

theorem dvN_pos {N D : Int} (h : 1 ≤ D) : 0 < dvN N D := Nat.gcd_pos_of_pos_right _ (by omega)
theorem dvN_le {N D : Int} (h : 1 ≤ D) : (dvN N D : Int) ≤ D := by
  have : dvN N D ≤ D.toNat := Nat.gcd_le_right _ (by omega)
  omega
theorem dvN_dvdN (N D : Int) : (dvN N D : Int) ∣ N := Int.ofNat_dvd_left.2 (Nat.gcd_dvd_left _ _)
theorem dvN_dvdD {N D : Int} (h : 1 ≤ D) : (dvN N D : Int) ∣ D := by
  have : dvN N D ∣ D.natAbs := by
    have e : D.natAbs = D.toNat := by omega
    rw [e]; exact Nat.gcd_dvd_right _ _
  exact Int.ofNat_dvd_left.2 this
theorem lwN_mul {N D : Int} : lwN N D * dvN N D = N := Int.ediv_mul_cancel (dvN_dvdN N D)
theorem lwD_mul {N D : Int} (h : 1 ≤ D) : lwD N D * dvN N D = D := Int.ediv_mul_cancel (dvN_dvdD h)
theorem lwD_pos {N D : Int} (h : 1 ≤ D) : 1 ≤ lwD N D := by
  have h1 := lwD_mul (N := N) h
  have h2 := dvN_pos (N := N) h
  by_cases hc : lwD N D ≤ 0
  · have : lwD N D * (dvN N D : Int) ≤ 0 := Int.mul_nonpos_of_nonpos_of_nonneg hc (by omega)
    omega
  · omega
theorem lwD_le {N D : Int} (h : 1 ≤ D) : lwD N D ≤ D := Int.ediv_le_self _ (by omega)
theorem lwN_bd {N D : Int} (h : 1 ≤ D) : -(N.natAbs : Int) ≤ lwN N D ∧ lwN N D ≤ N.natAbs := by
  have h1 := lwN_mul (N := N) (D := D)
  have h2 := dvN_pos (N := N) h
  have h3 : ((lwN N D).natAbs : Int) * (dvN N D : Int) = N.natAbs := by
    have := congrArg Int.natAbs h1
    rw [Int.natAbs_mul, Int.natAbs_natCast] at this
    rw [← this]; simp
  have h4 : ((lwN N D).natAbs : Int) * 1 ≤ (lwN N D).natAbs * (dvN N D : Int) := Int.mul_le_mul_of_nonneg_left (by omega) (by omega)
  omega

set_option maxHeartbeats 1000000 in
theorem line_lowest (N D : Int) (hD : 1 ≤ D) (hD' : D < 9223372036854775808) (h1 : -9223372036854775808 < N) (h2 : N < 9223372036854775808) (w : World) :
    Calls Tryz.prog 151 #[.agg #[.int .i64 N, .int .i64 D]] w fun e w' => e = .returned (.agg #[.int .i64 (lwN N D), .int .i64 (lwD N D)]) ∧ Below w.heap.size w w' := by
  have d := divisor_nn N.natAbs D.toNat (by omega) (by omega) N (by omega)
  rw [show ((D.toNat : Nat) : Int) = D by omega] at d
  have p1 := dvN_pos (N := N) hD
  obtain ⟨p3, p4⟩ := lwN_bd (N := N) hD
  have p5 := lwD_pos (N := N) hD
  have p6 := lwD_le (N := N) hD
  have t1 : N.tdiv (dvN N D : Int) = lwN N D := Int.tdiv_eq_ediv_of_dvd (dvN_dvdN N D)
  have t2 : D.tdiv (dvN N D : Int) = lwD N D := Int.tdiv_eq_ediv_of_dvd (dvN_dvdD hD)
  have t3 : D / (dvN N D : Int) = lwD N D := rfl
  have t4 : N / (dvN N D : Int) = lwN N D := rfl
  change ∀ w, Calls _ _ _ w fun e w' => e = .returned (.int .i64 (dvN N D : Nat)) ∧ w = w' at d
  generalize lwN N D = n' at *
  generalize lwD N D = d' at *
  generalize dvN N D = g at *
  have nz : ¬ (g : Int) = 0 := by omega
  have b1 : -9223372036854775808 ≤ n' := by omega
  have b2 : n' < 9223372036854775808 := by omega
  clear p3 p4
  go_enter Tryz.func151, Tryz.ntmps151
  go_wp2_with (go_at_call 159; refine (d _).mono ?_; rintro e w1 ⟨rfl, rfl⟩)
  have a0 := ka (na w #[.int .i64 N, .int .i64 D] 97) (.cells #[.int .i64 0, .int .i64 0] 97)
  have r0 := na1 w (.cells #[.int .i64 N, .int .i64 D] 97) #[.int .i64 0, .int .i64 0] 97
  refine Abs.wp_region_abs (Abs.cls0 _) [0, 1, 2, 3, 4, 5, 6, 7, 8, 9] (by kernel_rfl) (by kernel_rfl) (Below.refl _ _).drew ?_
  repeat (first | (refine Abs.step_pure rfl rfl (fun K hK => ?_); go_simp; (try go_bits); (first | refine hK _ _ ?_ | (simp only [↓IntWalk.iteOmega]; go_simp; (try go_bits); refine hK _ _ ?_)); clear hK K) | (refine Abs.step_load (v := ?_) rfl rfl (by kernel_rfl) rfl (fun w0 hI => ?_) (fun K hK => ?_); rotate_left; (· have z0 := (rcell (kp hI a0)).1; go_simp; rfl); (simp only [Act.put, List.setIfInBounds_toArray, List.set_cons_zero, List.set_cons_succ]; refine hK _ _ ?_; clear hK K)) | (refine Abs.step_skip rfl rfl (fun K hK => ?_); (simp only [Act.put, List.setIfInBounds_toArray, List.set_cons_zero, List.set_cons_succ]; refine hK _ _ ?_; clear hK K)))
  (refine Abs.step_store (T := ?_) rfl rfl rfl (fun w0 hI hF hU => ?_) (fun w0 hI hU hJ => ?_) (fun K hK => ?_); rotate_left; (· have hR := kp hI r0; have hg0 := (rcell hR).1; have hg1 := (rcell hR).2.1; simp only [Abs.T_setF, Abs.T_addA, Abs.T_push, Abs.T_start]; go_simp; exact row2 hR _ _); (· first | exact trivial | exact js hJ rfl _ | exact js hJ (Or.inl rfl) _ | exact js hJ (Or.inr rfl) _); (simp only [Act.put, List.setIfInBounds_toArray, List.set_cons_zero, List.set_cons_succ]; refine hK _ _ ?_; clear hK K))
  (intro w0 hI hF hx1 hx2; clear hx1 hx2 hF; simp only [Abs.T_push]; generalize hT : setRow w0 _ _ = w4; obtain ⟨hO, hN, hS, hG⟩ := fin_old hI r0 hT; clear hT hI w0)
  have zE := (rcell hN).1
  go_wp2
  refine bodyPost_ret (by simp [results, Tryz.results151, go_sem, zE]; try rfl) rfl ⟨rfl, bG (bA (bA (b0 w) _) _) hG (by omega)⟩
end Go.Proofs.YtmpfbkeamihjbaaGreat

namespace Go.Proofs.YtmpfbkeamihjbaaGreat
open Go.RowKit

theorem line_backB (v : Int) (w : World) : Calls Tryz.prog 149 #[.int .i64 v] w fun e w' => e = .returned (.bool (bkB v)) ∧ Below w.heap.size w w' :=
  (line_back v w).mono fun _ _ ⟨h1, h2⟩ => ⟨h1, h2 ▸ b0 _⟩
theorem line_timeB (v : Int) (w : World) : Calls Tryz.prog 134 #[.int .i64 v] w fun e w' => e = .returned (.bool (tmB v)) ∧ Below w.heap.size w w' :=
  (line_timeIs v w).mono fun _ _ ⟨h1, h2⟩ => ⟨h1, h2 ▸ b0 _⟩

theorem line_slope (A R N D : Int) (w : World) :
    Calls Tryz.prog 148 #[.agg #[.int .i64 A, .int .i64 R, .int .i64 N, .int .i64 D]] w fun e w' => e = .returned (.agg #[.int .i64 N, .int .i64 D]) ∧ Below w.heap.size w w' := by
  go_enter Tryz.func148, Tryz.ntmps148
  go_wp2
  refine bodyPost_ret (by simp [results, Tryz.results148, go_sem]; try rfl) rfl ⟨rfl, bA (bA (b0 w) _) _⟩

def isB (A R N D : Int) : Bool := decide (bkB A = true ∧ slB N D = true ∧ (lwN N D = N ∧ lwD N D = D) ∧ 0 ≤ R ∧ R < D)

theorem slB_spec {N D : Int} (h : slB N D = true) : 1 ≤ D ∧ D ≤ 281474976710656 ∧ -4611688217450643456 ≤ N ∧ N ≤ 4611688217450643456 := of_decide_eq_true h

theorem is_ok : ((Tryz.f133.body.bind (Abs.findR 2)).map fun o => Abs.okB o [0, 1, 2, 3, 4, 5, 6, 7, 8, 9, 10, 11, 12, 13, 14, 15, 16, 17, 18, 19, 20, 21, 22, 23, 24, 25, 26, 27, 28, 29]) = some true := by kernel_rfl

set_option maxRecDepth 100000 in
set_option maxHeartbeats 1000000 in
theorem is_1 (A R N D _n _d : Int) (w : World) (c1 : ∀ w, Calls Tryz.prog 149 #[.int .i64 A] w fun e w' => e = .returned (.bool false) ∧ Below w.heap.size w w') :
    Calls Tryz.prog 133 #[.agg #[.int .i64 A, .int .i64 R, .int .i64 N, .int .i64 D]] w fun e w' => e = .returned (.bool false) ∧ Below w.heap.size w w' := by
  go_enter Tryz.func133, Tryz.ntmps133
  go_wp2_with (go_at_call 148; refine (line_slope A R N D _).mono ?_; rintro e w1 ⟨rfl, hb1⟩)
  have a1 := ka (kp hb1 (na w #[.int .i64 A, .int .i64 R, .int .i64 N, .int .i64 D] 179)) (.cells #[.int .i64 N, .int .i64 D] 97)
  have a2 := na w1 #[.int .i64 N, .int .i64 D] 97
  refine Abs.wp_region_abs (Abs.cls0 _) [0, 1, 2, 3, 4, 5, 6, 7, 8, 9, 10, 11, 12, 13, 14, 15, 16, 17, 18, 19, 20, 21, 22, 23, 24, 25, 26, 27, 28, 29] (by kernel_rfl) (Abs.ok_of is_ok (by kernel_rfl)) (Below.refl _ _).drew ?_
  repeat (first | (refine Abs.step_pure rfl rfl (fun K hK => ?_); go_simp; (try go_bits); (first | refine hK _ _ ?_ | (simp only [↓IntWalk.iteOmega]; go_simp; (try go_bits); refine hK _ _ ?_)); clear hK K) | (refine Abs.step_load (v := ?_) rfl rfl (by kernel_rfl) rfl (fun w0 hI => ?_) (fun K hK => ?_); rotate_left; (· have z0 := (rcell (kp hI a1)).1; have z1 := (rcell (kp hI a2)).1; go_simp; rfl); (simp only [Act.put, List.setIfInBounds_toArray, List.set_cons_zero, List.set_cons_succ]; refine hK _ _ ?_; clear hK K)) | (refine Abs.step_skip rfl rfl (fun K hK => ?_); (simp only [Act.put, List.setIfInBounds_toArray, List.set_cons_zero, List.set_cons_succ]; refine hK _ _ ?_; clear hK K)))
  (refine Abs.step_call_val (f := ?_) (args := ?_) (v := ?_) rfl rfl rfl rfl (fun w0 => ?_) (fun w0 hI => ?_) (fun K hK => ?_); rotate_left 3; (· go_simp; (constructor <;> rfl)); (· exact c1 _); (simp only [Act.put, List.setIfInBounds_toArray, List.set_cons_zero, List.set_cons_succ]; refine hK _ _ ?_; clear hK K))
  repeat (first | (refine Abs.step_pure rfl rfl (fun K hK => ?_); go_simp; (try go_bits); (first | refine hK _ _ ?_ | (simp only [↓IntWalk.iteOmega]; go_simp; (try go_bits); refine hK _ _ ?_)); clear hK K) | (refine Abs.step_load (v := ?_) rfl rfl (by kernel_rfl) rfl (fun w0 hI => ?_) (fun K hK => ?_); rotate_left; (· have z0 := (rcell (kp hI a1)).1; have z1 := (rcell (kp hI a2)).1; go_simp; rfl); (simp only [Act.put, List.setIfInBounds_toArray, List.set_cons_zero, List.set_cons_succ]; refine hK _ _ ?_; clear hK K)) | (refine Abs.step_skip rfl rfl (fun K hK => ?_); (simp only [Act.put, List.setIfInBounds_toArray, List.set_cons_zero, List.set_cons_succ]; refine hK _ _ ?_; clear hK K)))
  (intro w0 hI hx0 hx1 hx2; clear hx0 hx1 hx2; simp only [Abs.T_setF, Abs.T_addA, Abs.T_push, Abs.T_start])
  go_wp2
  go_ret
  exact ⟨rfl, bB (bA (bB (bA (b0 w) _) hb1) _) hI⟩

set_option maxRecDepth 100000 in
set_option maxHeartbeats 1000000 in
theorem is_2 (A R N D _n _d : Int) (w : World) (c1 : ∀ w, Calls Tryz.prog 149 #[.int .i64 A] w fun e w' => e = .returned (.bool true) ∧ Below w.heap.size w w') (c2 : ∀ w, Calls Tryz.prog 150 #[.agg #[.int .i64 N, .int .i64 D]] w fun e w' => e = .returned (.bool false) ∧ Below w.heap.size w w') :
    Calls Tryz.prog 133 #[.agg #[.int .i64 A, .int .i64 R, .int .i64 N, .int .i64 D]] w fun e w' => e = .returned (.bool false) ∧ Below w.heap.size w w' := by
  go_enter Tryz.func133, Tryz.ntmps133
  go_wp2_with (go_at_call 148; refine (line_slope A R N D _).mono ?_; rintro e w1 ⟨rfl, hb1⟩)
  have a1 := ka (kp hb1 (na w #[.int .i64 A, .int .i64 R, .int .i64 N, .int .i64 D] 179)) (.cells #[.int .i64 N, .int .i64 D] 97)
  have a2 := na w1 #[.int .i64 N, .int .i64 D] 97
  refine Abs.wp_region_abs (Abs.cls0 _) [0, 1, 2, 3, 4, 5, 6, 7, 8, 9, 10, 11, 12, 13, 14, 15, 16, 17, 18, 19, 20, 21, 22, 23, 24, 25, 26, 27, 28, 29] (by kernel_rfl) (Abs.ok_of is_ok (by kernel_rfl)) (Below.refl _ _).drew ?_
  repeat (first | (refine Abs.step_pure rfl rfl (fun K hK => ?_); go_simp; (try go_bits); (first | refine hK _ _ ?_ | (simp only [↓IntWalk.iteOmega]; go_simp; (try go_bits); refine hK _ _ ?_)); clear hK K) | (refine Abs.step_load (v := ?_) rfl rfl (by kernel_rfl) rfl (fun w0 hI => ?_) (fun K hK => ?_); rotate_left; (· have z0 := (rcell (kp hI a1)).1; have z1 := (rcell (kp hI a2)).1; go_simp; rfl); (simp only [Act.put, List.setIfInBounds_toArray, List.set_cons_zero, List.set_cons_succ]; refine hK _ _ ?_; clear hK K)) | (refine Abs.step_skip rfl rfl (fun K hK => ?_); (simp only [Act.put, List.setIfInBounds_toArray, List.set_cons_zero, List.set_cons_succ]; refine hK _ _ ?_; clear hK K)))
  (refine Abs.step_call_val (f := ?_) (args := ?_) (v := ?_) rfl rfl rfl rfl (fun w0 => ?_) (fun w0 hI => ?_) (fun K hK => ?_); rotate_left 3; (· go_simp; (constructor <;> rfl)); (· exact c1 _); (simp only [Act.put, List.setIfInBounds_toArray, List.set_cons_zero, List.set_cons_succ]; refine hK _ _ ?_; clear hK K))
  repeat (first | (refine Abs.step_pure rfl rfl (fun K hK => ?_); go_simp; (try go_bits); (first | refine hK _ _ ?_ | (simp only [↓IntWalk.iteOmega]; go_simp; (try go_bits); refine hK _ _ ?_)); clear hK K) | (refine Abs.step_load (v := ?_) rfl rfl (by kernel_rfl) rfl (fun w0 hI => ?_) (fun K hK => ?_); rotate_left; (· have z0 := (rcell (kp hI a1)).1; have z1 := (rcell (kp hI a2)).1; go_simp; rfl); (simp only [Act.put, List.setIfInBounds_toArray, List.set_cons_zero, List.set_cons_succ]; refine hK _ _ ?_; clear hK K)) | (refine Abs.step_skip rfl rfl (fun K hK => ?_); (simp only [Act.put, List.setIfInBounds_toArray, List.set_cons_zero, List.set_cons_succ]; refine hK _ _ ?_; clear hK K)))
  (refine Abs.step_call_val (f := ?_) (args := ?_) (v := ?_) rfl rfl rfl rfl (fun w0 => ?_) (fun w0 hI => ?_) (fun K hK => ?_); rotate_left 3; (· go_simp; (constructor <;> rfl)); (· exact c2 _); (simp only [Act.put, List.setIfInBounds_toArray, List.set_cons_zero, List.set_cons_succ]; refine hK _ _ ?_; clear hK K))
  repeat (first | (refine Abs.step_pure rfl rfl (fun K hK => ?_); go_simp; (try go_bits); (first | refine hK _ _ ?_ | (simp only [↓IntWalk.iteOmega]; go_simp; (try go_bits); refine hK _ _ ?_)); clear hK K) | (refine Abs.step_load (v := ?_) rfl rfl (by kernel_rfl) rfl (fun w0 hI => ?_) (fun K hK => ?_); rotate_left; (· have z0 := (rcell (kp hI a1)).1; have z1 := (rcell (kp hI a2)).1; go_simp; rfl); (simp only [Act.put, List.setIfInBounds_toArray, List.set_cons_zero, List.set_cons_succ]; refine hK _ _ ?_; clear hK K)) | (refine Abs.step_skip rfl rfl (fun K hK => ?_); (simp only [Act.put, List.setIfInBounds_toArray, List.set_cons_zero, List.set_cons_succ]; refine hK _ _ ?_; clear hK K)))
  (intro w0 hI hx0 hx1 hx2; clear hx0 hx1 hx2; simp only [Abs.T_setF, Abs.T_addA, Abs.T_push, Abs.T_start])
  go_wp2
  go_ret
  exact ⟨rfl, bB (bA (bB (bA (b0 w) _) hb1) _) hI⟩

set_option maxRecDepth 100000 in
set_option maxHeartbeats 1000000 in
theorem is_3 (A R N D n' d' : Int) (w : World) (c1 : ∀ w, Calls Tryz.prog 149 #[.int .i64 A] w fun e w' => e = .returned (.bool true) ∧ Below w.heap.size w w') (c2 : ∀ w, Calls Tryz.prog 150 #[.agg #[.int .i64 N, .int .i64 D]] w fun e w' => e = .returned (.bool true) ∧ Below w.heap.size w w') (c3 : ∀ w, Calls Tryz.prog 151 #[.agg #[.int .i64 N, .int .i64 D]] w fun e w' => e = .returned (.agg #[.int .i64 n', .int .i64 d']) ∧ Below w.heap.size w w') (K1 : (n' = N) = True) (K2 : (d' = D) = False) :
    Calls Tryz.prog 133 #[.agg #[.int .i64 A, .int .i64 R, .int .i64 N, .int .i64 D]] w fun e w' => e = .returned (.bool false) ∧ Below w.heap.size w w' := by
  go_enter Tryz.func133, Tryz.ntmps133
  go_wp2_with (go_at_call 148; refine (line_slope A R N D _).mono ?_; rintro e w1 ⟨rfl, hb1⟩)
  have a1 := ka (kp hb1 (na w #[.int .i64 A, .int .i64 R, .int .i64 N, .int .i64 D] 179)) (.cells #[.int .i64 N, .int .i64 D] 97)
  have a2 := na w1 #[.int .i64 N, .int .i64 D] 97
  refine Abs.wp_region_abs (Abs.cls0 _) [0, 1, 2, 3, 4, 5, 6, 7, 8, 9, 10, 11, 12, 13, 14, 15, 16, 17, 18, 19, 20, 21, 22, 23, 24, 25, 26, 27, 28, 29] (by kernel_rfl) (Abs.ok_of is_ok (by kernel_rfl)) (Below.refl _ _).drew ?_
  repeat (first | (refine Abs.step_pure rfl rfl (fun K hK => ?_); go_simp; (try go_bits); (first | refine hK _ _ ?_ | (simp only [↓IntWalk.iteOmega]; go_simp; (try go_bits); refine hK _ _ ?_)); clear hK K) | (refine Abs.step_load (v := ?_) rfl rfl (by kernel_rfl) rfl (fun w0 hI => ?_) (fun K hK => ?_); rotate_left; (· have z0 := (rcell (kp hI a1)).1; have z1 := (rcell (kp hI a2)).1; go_simp; rfl); (simp only [Act.put, List.setIfInBounds_toArray, List.set_cons_zero, List.set_cons_succ]; refine hK _ _ ?_; clear hK K)) | (refine Abs.step_skip rfl rfl (fun K hK => ?_); (simp only [Act.put, List.setIfInBounds_toArray, List.set_cons_zero, List.set_cons_succ]; refine hK _ _ ?_; clear hK K)))
  (refine Abs.step_call_val (f := ?_) (args := ?_) (v := ?_) rfl rfl rfl rfl (fun w0 => ?_) (fun w0 hI => ?_) (fun K hK => ?_); rotate_left 3; (· go_simp; (constructor <;> rfl)); (· exact c1 _); (simp only [Act.put, List.setIfInBounds_toArray, List.set_cons_zero, List.set_cons_succ]; refine hK _ _ ?_; clear hK K))
  repeat (first | (refine Abs.step_pure rfl rfl (fun K hK => ?_); go_simp; (try go_bits); (first | refine hK _ _ ?_ | (simp only [↓IntWalk.iteOmega]; go_simp; (try go_bits); refine hK _ _ ?_)); clear hK K) | (refine Abs.step_load (v := ?_) rfl rfl (by kernel_rfl) rfl (fun w0 hI => ?_) (fun K hK => ?_); rotate_left; (· have z0 := (rcell (kp hI a1)).1; have z1 := (rcell (kp hI a2)).1; go_simp; rfl); (simp only [Act.put, List.setIfInBounds_toArray, List.set_cons_zero, List.set_cons_succ]; refine hK _ _ ?_; clear hK K)) | (refine Abs.step_skip rfl rfl (fun K hK => ?_); (simp only [Act.put, List.setIfInBounds_toArray, List.set_cons_zero, List.set_cons_succ]; refine hK _ _ ?_; clear hK K)))
  (refine Abs.step_call_val (f := ?_) (args := ?_) (v := ?_) rfl rfl rfl rfl (fun w0 => ?_) (fun w0 hI => ?_) (fun K hK => ?_); rotate_left 3; (· go_simp; (constructor <;> rfl)); (· exact c2 _); (simp only [Act.put, List.setIfInBounds_toArray, List.set_cons_zero, List.set_cons_succ]; refine hK _ _ ?_; clear hK K))
  repeat (first | (refine Abs.step_pure rfl rfl (fun K hK => ?_); go_simp; (try go_bits); (first | refine hK _ _ ?_ | (simp only [↓IntWalk.iteOmega]; go_simp; (try go_bits); refine hK _ _ ?_)); clear hK K) | (refine Abs.step_load (v := ?_) rfl rfl (by kernel_rfl) rfl (fun w0 hI => ?_) (fun K hK => ?_); rotate_left; (· have z0 := (rcell (kp hI a1)).1; have z1 := (rcell (kp hI a2)).1; go_simp; rfl); (simp only [Act.put, List.setIfInBounds_toArray, List.set_cons_zero, List.set_cons_succ]; refine hK _ _ ?_; clear hK K)) | (refine Abs.step_skip rfl rfl (fun K hK => ?_); (simp only [Act.put, List.setIfInBounds_toArray, List.set_cons_zero, List.set_cons_succ]; refine hK _ _ ?_; clear hK K)))
  (refine Abs.step_call_val (f := ?_) (args := ?_) (v := ?_) rfl rfl rfl rfl (fun w0 => ?_) (fun w0 hI => ?_) (fun K hK => ?_); rotate_left 3; (· go_simp; (constructor <;> rfl)); (· exact c3 _); (simp only [Act.put, List.setIfInBounds_toArray, List.set_cons_zero, List.set_cons_succ]; refine hK _ _ ?_; clear hK K))
  repeat (first | (refine Abs.step_pure rfl rfl (fun K hK => ?_); go_simp; (try go_bits); (first | refine hK _ _ ?_ | (simp only [↓IntWalk.iteOmega]; go_simp; (try go_bits); refine hK _ _ ?_)); clear hK K) | (refine Abs.step_load (v := ?_) rfl rfl (by kernel_rfl) rfl (fun w0 hI => ?_) (fun K hK => ?_); rotate_left; (· have z0 := (rcell (kp hI a1)).1; have z1 := (rcell (kp hI a2)).1; go_simp; rfl); (simp only [Act.put, List.setIfInBounds_toArray, List.set_cons_zero, List.set_cons_succ]; refine hK _ _ ?_; clear hK K)) | (refine Abs.step_skip rfl rfl (fun K hK => ?_); (simp only [Act.put, List.setIfInBounds_toArray, List.set_cons_zero, List.set_cons_succ]; refine hK _ _ ?_; clear hK K)))
  (intro w0 hI hx0 hx1 hx2; clear hx0 hx1 hx2; simp only [Abs.T_setF, Abs.T_addA, Abs.T_push, Abs.T_start])
  go_wp2
  go_ret
  exact ⟨rfl, bB (bA (bB (bA (b0 w) _) hb1) _) hI⟩

set_option maxRecDepth 100000 in
set_option maxHeartbeats 1000000 in
theorem is_4 (A R N D n' d' : Int) (w : World) (c1 : ∀ w, Calls Tryz.prog 149 #[.int .i64 A] w fun e w' => e = .returned (.bool true) ∧ Below w.heap.size w w') (c2 : ∀ w, Calls Tryz.prog 150 #[.agg #[.int .i64 N, .int .i64 D]] w fun e w' => e = .returned (.bool true) ∧ Below w.heap.size w w') (c3 : ∀ w, Calls Tryz.prog 151 #[.agg #[.int .i64 N, .int .i64 D]] w fun e w' => e = .returned (.agg #[.int .i64 n', .int .i64 d']) ∧ Below w.heap.size w w') (K1 : (n' = N) = False) :
    Calls Tryz.prog 133 #[.agg #[.int .i64 A, .int .i64 R, .int .i64 N, .int .i64 D]] w fun e w' => e = .returned (.bool false) ∧ Below w.heap.size w w' := by
  go_enter Tryz.func133, Tryz.ntmps133
  go_wp2_with (go_at_call 148; refine (line_slope A R N D _).mono ?_; rintro e w1 ⟨rfl, hb1⟩)
  have a1 := ka (kp hb1 (na w #[.int .i64 A, .int .i64 R, .int .i64 N, .int .i64 D] 179)) (.cells #[.int .i64 N, .int .i64 D] 97)
  have a2 := na w1 #[.int .i64 N, .int .i64 D] 97
  refine Abs.wp_region_abs (Abs.cls0 _) [0, 1, 2, 3, 4, 5, 6, 7, 8, 9, 10, 11, 12, 13, 14, 15, 16, 17, 18, 19, 20, 21, 22, 23, 24, 25, 26, 27, 28, 29] (by kernel_rfl) (Abs.ok_of is_ok (by kernel_rfl)) (Below.refl _ _).drew ?_
  repeat (first | (refine Abs.step_pure rfl rfl (fun K hK => ?_); go_simp; (try go_bits); (first | refine hK _ _ ?_ | (simp only [↓IntWalk.iteOmega]; go_simp; (try go_bits); refine hK _ _ ?_)); clear hK K) | (refine Abs.step_load (v := ?_) rfl rfl (by kernel_rfl) rfl (fun w0 hI => ?_) (fun K hK => ?_); rotate_left; (· have z0 := (rcell (kp hI a1)).1; have z1 := (rcell (kp hI a2)).1; go_simp; rfl); (simp only [Act.put, List.setIfInBounds_toArray, List.set_cons_zero, List.set_cons_succ]; refine hK _ _ ?_; clear hK K)) | (refine Abs.step_skip rfl rfl (fun K hK => ?_); (simp only [Act.put, List.setIfInBounds_toArray, List.set_cons_zero, List.set_cons_succ]; refine hK _ _ ?_; clear hK K)))
  (refine Abs.step_call_val (f := ?_) (args := ?_) (v := ?_) rfl rfl rfl rfl (fun w0 => ?_) (fun w0 hI => ?_) (fun K hK => ?_); rotate_left 3; (· go_simp; (constructor <;> rfl)); (· exact c1 _); (simp only [Act.put, List.setIfInBounds_toArray, List.set_cons_zero, List.set_cons_succ]; refine hK _ _ ?_; clear hK K))
  repeat (first | (refine Abs.step_pure rfl rfl (fun K hK => ?_); go_simp; (try go_bits); (first | refine hK _ _ ?_ | (simp only [↓IntWalk.iteOmega]; go_simp; (try go_bits); refine hK _ _ ?_)); clear hK K) | (refine Abs.step_load (v := ?_) rfl rfl (by kernel_rfl) rfl (fun w0 hI => ?_) (fun K hK => ?_); rotate_left; (· have z0 := (rcell (kp hI a1)).1; have z1 := (rcell (kp hI a2)).1; go_simp; rfl); (simp only [Act.put, List.setIfInBounds_toArray, List.set_cons_zero, List.set_cons_succ]; refine hK _ _ ?_; clear hK K)) | (refine Abs.step_skip rfl rfl (fun K hK => ?_); (simp only [Act.put, List.setIfInBounds_toArray, List.set_cons_zero, List.set_cons_succ]; refine hK _ _ ?_; clear hK K)))
  (refine Abs.step_call_val (f := ?_) (args := ?_) (v := ?_) rfl rfl rfl rfl (fun w0 => ?_) (fun w0 hI => ?_) (fun K hK => ?_); rotate_left 3; (· go_simp; (constructor <;> rfl)); (· exact c2 _); (simp only [Act.put, List.setIfInBounds_toArray, List.set_cons_zero, List.set_cons_succ]; refine hK _ _ ?_; clear hK K))
  repeat (first | (refine Abs.step_pure rfl rfl (fun K hK => ?_); go_simp; (try go_bits); (first | refine hK _ _ ?_ | (simp only [↓IntWalk.iteOmega]; go_simp; (try go_bits); refine hK _ _ ?_)); clear hK K) | (refine Abs.step_load (v := ?_) rfl rfl (by kernel_rfl) rfl (fun w0 hI => ?_) (fun K hK => ?_); rotate_left; (· have z0 := (rcell (kp hI a1)).1; have z1 := (rcell (kp hI a2)).1; go_simp; rfl); (simp only [Act.put, List.setIfInBounds_toArray, List.set_cons_zero, List.set_cons_succ]; refine hK _ _ ?_; clear hK K)) | (refine Abs.step_skip rfl rfl (fun K hK => ?_); (simp only [Act.put, List.setIfInBounds_toArray, List.set_cons_zero, List.set_cons_succ]; refine hK _ _ ?_; clear hK K)))
  (refine Abs.step_call_val (f := ?_) (args := ?_) (v := ?_) rfl rfl rfl rfl (fun w0 => ?_) (fun w0 hI => ?_) (fun K hK => ?_); rotate_left 3; (· go_simp; (constructor <;> rfl)); (· exact c3 _); (simp only [Act.put, List.setIfInBounds_toArray, List.set_cons_zero, List.set_cons_succ]; refine hK _ _ ?_; clear hK K))
  repeat (first | (refine Abs.step_pure rfl rfl (fun K hK => ?_); go_simp; (try go_bits); (first | refine hK _ _ ?_ | (simp only [↓IntWalk.iteOmega]; go_simp; (try go_bits); refine hK _ _ ?_)); clear hK K) | (refine Abs.step_load (v := ?_) rfl rfl (by kernel_rfl) rfl (fun w0 hI => ?_) (fun K hK => ?_); rotate_left; (· have z0 := (rcell (kp hI a1)).1; have z1 := (rcell (kp hI a2)).1; go_simp; rfl); (simp only [Act.put, List.setIfInBounds_toArray, List.set_cons_zero, List.set_cons_succ]; refine hK _ _ ?_; clear hK K)) | (refine Abs.step_skip rfl rfl (fun K hK => ?_); (simp only [Act.put, List.setIfInBounds_toArray, List.set_cons_zero, List.set_cons_succ]; refine hK _ _ ?_; clear hK K)))
  (intro w0 hI hx0 hx1 hx2; clear hx0 hx1 hx2; simp only [Abs.T_setF, Abs.T_addA, Abs.T_push, Abs.T_start])
  go_wp2
  go_ret
  exact ⟨rfl, bB (bA (bB (bA (b0 w) _) hb1) _) hI⟩

set_option maxRecDepth 100000 in
set_option maxHeartbeats 1000000 in
theorem is_5 (A R N D n' d' : Int) (w : World) (c1 : ∀ w, Calls Tryz.prog 149 #[.int .i64 A] w fun e w' => e = .returned (.bool true) ∧ Below w.heap.size w w') (c2 : ∀ w, Calls Tryz.prog 150 #[.agg #[.int .i64 N, .int .i64 D]] w fun e w' => e = .returned (.bool true) ∧ Below w.heap.size w w') (c3 : ∀ w, Calls Tryz.prog 151 #[.agg #[.int .i64 N, .int .i64 D]] w fun e w' => e = .returned (.agg #[.int .i64 n', .int .i64 d']) ∧ Below w.heap.size w w') (K1 : (n' = N) = True) (K2 : (d' = D) = True) (h4 : 0 ≤ R) (h5 : R < D) :
    Calls Tryz.prog 133 #[.agg #[.int .i64 A, .int .i64 R, .int .i64 N, .int .i64 D]] w fun e w' => e = .returned (.bool true) ∧ Below w.heap.size w w' := by
  go_enter Tryz.func133, Tryz.ntmps133
  go_wp2_with (go_at_call 148; refine (line_slope A R N D _).mono ?_; rintro e w1 ⟨rfl, hb1⟩)
  have a1 := ka (kp hb1 (na w #[.int .i64 A, .int .i64 R, .int .i64 N, .int .i64 D] 179)) (.cells #[.int .i64 N, .int .i64 D] 97)
  have a2 := na w1 #[.int .i64 N, .int .i64 D] 97
  have q1 : decide (0 ≤ R) = true := decide_eq_true (by omega)
  have q2 : decide (R < D) = true := decide_eq_true (by omega)
  refine Abs.wp_region_abs (Abs.cls0 _) [0, 1, 2, 3, 4, 5, 6, 7, 8, 9, 10, 11, 12, 13, 14, 15, 16, 17, 18, 19, 20, 21, 22, 23, 24, 25, 26, 27, 28, 29] (by kernel_rfl) (Abs.ok_of is_ok (by kernel_rfl)) (Below.refl _ _).drew ?_
  repeat (first | (refine Abs.step_pure rfl rfl (fun K hK => ?_); go_simp; (try go_bits); (first | refine hK _ _ ?_ | (simp only [↓IntWalk.iteOmega]; go_simp; (try go_bits); refine hK _ _ ?_)); clear hK K) | (refine Abs.step_load (v := ?_) rfl rfl (by kernel_rfl) rfl (fun w0 hI => ?_) (fun K hK => ?_); rotate_left; (· have z0 := (rcell (kp hI a1)).1; have z1 := (rcell (kp hI a2)).1; go_simp; rfl); (simp only [Act.put, List.setIfInBounds_toArray, List.set_cons_zero, List.set_cons_succ]; refine hK _ _ ?_; clear hK K)) | (refine Abs.step_skip rfl rfl (fun K hK => ?_); (simp only [Act.put, List.setIfInBounds_toArray, List.set_cons_zero, List.set_cons_succ]; refine hK _ _ ?_; clear hK K)))
  (refine Abs.step_call_val (f := ?_) (args := ?_) (v := ?_) rfl rfl rfl rfl (fun w0 => ?_) (fun w0 hI => ?_) (fun K hK => ?_); rotate_left 3; (· go_simp; (constructor <;> rfl)); (· exact c1 _); (simp only [Act.put, List.setIfInBounds_toArray, List.set_cons_zero, List.set_cons_succ]; refine hK _ _ ?_; clear hK K))
  repeat (first | (refine Abs.step_pure rfl rfl (fun K hK => ?_); go_simp; (try go_bits); (first | refine hK _ _ ?_ | (simp only [↓IntWalk.iteOmega]; go_simp; (try go_bits); refine hK _ _ ?_)); clear hK K) | (refine Abs.step_load (v := ?_) rfl rfl (by kernel_rfl) rfl (fun w0 hI => ?_) (fun K hK => ?_); rotate_left; (· have z0 := (rcell (kp hI a1)).1; have z1 := (rcell (kp hI a2)).1; go_simp; rfl); (simp only [Act.put, List.setIfInBounds_toArray, List.set_cons_zero, List.set_cons_succ]; refine hK _ _ ?_; clear hK K)) | (refine Abs.step_skip rfl rfl (fun K hK => ?_); (simp only [Act.put, List.setIfInBounds_toArray, List.set_cons_zero, List.set_cons_succ]; refine hK _ _ ?_; clear hK K)))
  (refine Abs.step_call_val (f := ?_) (args := ?_) (v := ?_) rfl rfl rfl rfl (fun w0 => ?_) (fun w0 hI => ?_) (fun K hK => ?_); rotate_left 3; (· go_simp; (constructor <;> rfl)); (· exact c2 _); (simp only [Act.put, List.setIfInBounds_toArray, List.set_cons_zero, List.set_cons_succ]; refine hK _ _ ?_; clear hK K))
  repeat (first | (refine Abs.step_pure rfl rfl (fun K hK => ?_); go_simp; (try go_bits); (first | refine hK _ _ ?_ | (simp only [↓IntWalk.iteOmega]; go_simp; (try go_bits); refine hK _ _ ?_)); clear hK K) | (refine Abs.step_load (v := ?_) rfl rfl (by kernel_rfl) rfl (fun w0 hI => ?_) (fun K hK => ?_); rotate_left; (· have z0 := (rcell (kp hI a1)).1; have z1 := (rcell (kp hI a2)).1; go_simp; rfl); (simp only [Act.put, List.setIfInBounds_toArray, List.set_cons_zero, List.set_cons_succ]; refine hK _ _ ?_; clear hK K)) | (refine Abs.step_skip rfl rfl (fun K hK => ?_); (simp only [Act.put, List.setIfInBounds_toArray, List.set_cons_zero, List.set_cons_succ]; refine hK _ _ ?_; clear hK K)))
  (refine Abs.step_call_val (f := ?_) (args := ?_) (v := ?_) rfl rfl rfl rfl (fun w0 => ?_) (fun w0 hI => ?_) (fun K hK => ?_); rotate_left 3; (· go_simp; (constructor <;> rfl)); (· exact c3 _); (simp only [Act.put, List.setIfInBounds_toArray, List.set_cons_zero, List.set_cons_succ]; refine hK _ _ ?_; clear hK K))
  repeat (first | (refine Abs.step_pure rfl rfl (fun K hK => ?_); go_simp; (try go_bits); (first | refine hK _ _ ?_ | (simp only [↓IntWalk.iteOmega]; go_simp; (try go_bits); refine hK _ _ ?_)); clear hK K) | (refine Abs.step_load (v := ?_) rfl rfl (by kernel_rfl) rfl (fun w0 hI => ?_) (fun K hK => ?_); rotate_left; (· have z0 := (rcell (kp hI a1)).1; have z1 := (rcell (kp hI a2)).1; go_simp; rfl); (simp only [Act.put, List.setIfInBounds_toArray, List.set_cons_zero, List.set_cons_succ]; refine hK _ _ ?_; clear hK K)) | (refine Abs.step_skip rfl rfl (fun K hK => ?_); (simp only [Act.put, List.setIfInBounds_toArray, List.set_cons_zero, List.set_cons_succ]; refine hK _ _ ?_; clear hK K)))
  (intro w0 hI hx0 hx1 hx2; clear hx0 hx1 hx2; simp only [Abs.T_setF, Abs.T_addA, Abs.T_push, Abs.T_start])
  go_wp2
  go_ret
  exact ⟨rfl, bB (bA (bB (bA (b0 w) _) hb1) _) hI⟩

set_option maxRecDepth 100000 in
set_option maxHeartbeats 1000000 in
theorem is_6 (A R N D n' d' : Int) (w : World) (c1 : ∀ w, Calls Tryz.prog 149 #[.int .i64 A] w fun e w' => e = .returned (.bool true) ∧ Below w.heap.size w w') (c2 : ∀ w, Calls Tryz.prog 150 #[.agg #[.int .i64 N, .int .i64 D]] w fun e w' => e = .returned (.bool true) ∧ Below w.heap.size w w') (c3 : ∀ w, Calls Tryz.prog 151 #[.agg #[.int .i64 N, .int .i64 D]] w fun e w' => e = .returned (.agg #[.int .i64 n', .int .i64 d']) ∧ Below w.heap.size w w') (K1 : (n' = N) = True) (K2 : (d' = D) = True) (h4 : 0 ≤ R) (h5 : D ≤ R) :
    Calls Tryz.prog 133 #[.agg #[.int .i64 A, .int .i64 R, .int .i64 N, .int .i64 D]] w fun e w' => e = .returned (.bool false) ∧ Below w.heap.size w w' := by
  go_enter Tryz.func133, Tryz.ntmps133
  go_wp2_with (go_at_call 148; refine (line_slope A R N D _).mono ?_; rintro e w1 ⟨rfl, hb1⟩)
  have a1 := ka (kp hb1 (na w #[.int .i64 A, .int .i64 R, .int .i64 N, .int .i64 D] 179)) (.cells #[.int .i64 N, .int .i64 D] 97)
  have a2 := na w1 #[.int .i64 N, .int .i64 D] 97
  have q1 : decide (0 ≤ R) = true := decide_eq_true (by omega)
  have q2 : decide (R < D) = false := decide_eq_false (by omega)
  refine Abs.wp_region_abs (Abs.cls0 _) [0, 1, 2, 3, 4, 5, 6, 7, 8, 9, 10, 11, 12, 13, 14, 15, 16, 17, 18, 19, 20, 21, 22, 23, 24, 25, 26, 27, 28, 29] (by kernel_rfl) (Abs.ok_of is_ok (by kernel_rfl)) (Below.refl _ _).drew ?_
  repeat (first | (refine Abs.step_pure rfl rfl (fun K hK => ?_); go_simp; (try go_bits); (first | refine hK _ _ ?_ | (simp only [↓IntWalk.iteOmega]; go_simp; (try go_bits); refine hK _ _ ?_)); clear hK K) | (refine Abs.step_load (v := ?_) rfl rfl (by kernel_rfl) rfl (fun w0 hI => ?_) (fun K hK => ?_); rotate_left; (· have z0 := (rcell (kp hI a1)).1; have z1 := (rcell (kp hI a2)).1; go_simp; rfl); (simp only [Act.put, List.setIfInBounds_toArray, List.set_cons_zero, List.set_cons_succ]; refine hK _ _ ?_; clear hK K)) | (refine Abs.step_skip rfl rfl (fun K hK => ?_); (simp only [Act.put, List.setIfInBounds_toArray, List.set_cons_zero, List.set_cons_succ]; refine hK _ _ ?_; clear hK K)))
  (refine Abs.step_call_val (f := ?_) (args := ?_) (v := ?_) rfl rfl rfl rfl (fun w0 => ?_) (fun w0 hI => ?_) (fun K hK => ?_); rotate_left 3; (· go_simp; (constructor <;> rfl)); (· exact c1 _); (simp only [Act.put, List.setIfInBounds_toArray, List.set_cons_zero, List.set_cons_succ]; refine hK _ _ ?_; clear hK K))
  repeat (first | (refine Abs.step_pure rfl rfl (fun K hK => ?_); go_simp; (try go_bits); (first | refine hK _ _ ?_ | (simp only [↓IntWalk.iteOmega]; go_simp; (try go_bits); refine hK _ _ ?_)); clear hK K) | (refine Abs.step_load (v := ?_) rfl rfl (by kernel_rfl) rfl (fun w0 hI => ?_) (fun K hK => ?_); rotate_left; (· have z0 := (rcell (kp hI a1)).1; have z1 := (rcell (kp hI a2)).1; go_simp; rfl); (simp only [Act.put, List.setIfInBounds_toArray, List.set_cons_zero, List.set_cons_succ]; refine hK _ _ ?_; clear hK K)) | (refine Abs.step_skip rfl rfl (fun K hK => ?_); (simp only [Act.put, List.setIfInBounds_toArray, List.set_cons_zero, List.set_cons_succ]; refine hK _ _ ?_; clear hK K)))
  (refine Abs.step_call_val (f := ?_) (args := ?_) (v := ?_) rfl rfl rfl rfl (fun w0 => ?_) (fun w0 hI => ?_) (fun K hK => ?_); rotate_left 3; (· go_simp; (constructor <;> rfl)); (· exact c2 _); (simp only [Act.put, List.setIfInBounds_toArray, List.set_cons_zero, List.set_cons_succ]; refine hK _ _ ?_; clear hK K))
  repeat (first | (refine Abs.step_pure rfl rfl (fun K hK => ?_); go_simp; (try go_bits); (first | refine hK _ _ ?_ | (simp only [↓IntWalk.iteOmega]; go_simp; (try go_bits); refine hK _ _ ?_)); clear hK K) | (refine Abs.step_load (v := ?_) rfl rfl (by kernel_rfl) rfl (fun w0 hI => ?_) (fun K hK => ?_); rotate_left; (· have z0 := (rcell (kp hI a1)).1; have z1 := (rcell (kp hI a2)).1; go_simp; rfl); (simp only [Act.put, List.setIfInBounds_toArray, List.set_cons_zero, List.set_cons_succ]; refine hK _ _ ?_; clear hK K)) | (refine Abs.step_skip rfl rfl (fun K hK => ?_); (simp only [Act.put, List.setIfInBounds_toArray, List.set_cons_zero, List.set_cons_succ]; refine hK _ _ ?_; clear hK K)))
  (refine Abs.step_call_val (f := ?_) (args := ?_) (v := ?_) rfl rfl rfl rfl (fun w0 => ?_) (fun w0 hI => ?_) (fun K hK => ?_); rotate_left 3; (· go_simp; (constructor <;> rfl)); (· exact c3 _); (simp only [Act.put, List.setIfInBounds_toArray, List.set_cons_zero, List.set_cons_succ]; refine hK _ _ ?_; clear hK K))
  repeat (first | (refine Abs.step_pure rfl rfl (fun K hK => ?_); go_simp; (try go_bits); (first | refine hK _ _ ?_ | (simp only [↓IntWalk.iteOmega]; go_simp; (try go_bits); refine hK _ _ ?_)); clear hK K) | (refine Abs.step_load (v := ?_) rfl rfl (by kernel_rfl) rfl (fun w0 hI => ?_) (fun K hK => ?_); rotate_left; (· have z0 := (rcell (kp hI a1)).1; have z1 := (rcell (kp hI a2)).1; go_simp; rfl); (simp only [Act.put, List.setIfInBounds_toArray, List.set_cons_zero, List.set_cons_succ]; refine hK _ _ ?_; clear hK K)) | (refine Abs.step_skip rfl rfl (fun K hK => ?_); (simp only [Act.put, List.setIfInBounds_toArray, List.set_cons_zero, List.set_cons_succ]; refine hK _ _ ?_; clear hK K)))
  (intro w0 hI hx0 hx1 hx2; clear hx0 hx1 hx2; simp only [Abs.T_setF, Abs.T_addA, Abs.T_push, Abs.T_start])
  go_wp2
  go_ret
  exact ⟨rfl, bB (bA (bB (bA (b0 w) _) hb1) _) hI⟩

set_option maxRecDepth 100000 in
set_option maxHeartbeats 1000000 in
theorem is_7 (A R N D n' d' : Int) (w : World) (c1 : ∀ w, Calls Tryz.prog 149 #[.int .i64 A] w fun e w' => e = .returned (.bool true) ∧ Below w.heap.size w w') (c2 : ∀ w, Calls Tryz.prog 150 #[.agg #[.int .i64 N, .int .i64 D]] w fun e w' => e = .returned (.bool true) ∧ Below w.heap.size w w') (c3 : ∀ w, Calls Tryz.prog 151 #[.agg #[.int .i64 N, .int .i64 D]] w fun e w' => e = .returned (.agg #[.int .i64 n', .int .i64 d']) ∧ Below w.heap.size w w') (K1 : (n' = N) = True) (K2 : (d' = D) = True) (h4 : R < 0) :
    Calls Tryz.prog 133 #[.agg #[.int .i64 A, .int .i64 R, .int .i64 N, .int .i64 D]] w fun e w' => e = .returned (.bool false) ∧ Below w.heap.size w w' := by
  go_enter Tryz.func133, Tryz.ntmps133
  go_wp2_with (go_at_call 148; refine (line_slope A R N D _).mono ?_; rintro e w1 ⟨rfl, hb1⟩)
  have a1 := ka (kp hb1 (na w #[.int .i64 A, .int .i64 R, .int .i64 N, .int .i64 D] 179)) (.cells #[.int .i64 N, .int .i64 D] 97)
  have a2 := na w1 #[.int .i64 N, .int .i64 D] 97
  have q1 : decide (0 ≤ R) = false := decide_eq_false (by omega)
  refine Abs.wp_region_abs (Abs.cls0 _) [0, 1, 2, 3, 4, 5, 6, 7, 8, 9, 10, 11, 12, 13, 14, 15, 16, 17, 18, 19, 20, 21, 22, 23, 24, 25, 26, 27, 28, 29] (by kernel_rfl) (Abs.ok_of is_ok (by kernel_rfl)) (Below.refl _ _).drew ?_
  repeat (first | (refine Abs.step_pure rfl rfl (fun K hK => ?_); go_simp; (try go_bits); (first | refine hK _ _ ?_ | (simp only [↓IntWalk.iteOmega]; go_simp; (try go_bits); refine hK _ _ ?_)); clear hK K) | (refine Abs.step_load (v := ?_) rfl rfl (by kernel_rfl) rfl (fun w0 hI => ?_) (fun K hK => ?_); rotate_left; (· have z0 := (rcell (kp hI a1)).1; have z1 := (rcell (kp hI a2)).1; go_simp; rfl); (simp only [Act.put, List.setIfInBounds_toArray, List.set_cons_zero, List.set_cons_succ]; refine hK _ _ ?_; clear hK K)) | (refine Abs.step_skip rfl rfl (fun K hK => ?_); (simp only [Act.put, List.setIfInBounds_toArray, List.set_cons_zero, List.set_cons_succ]; refine hK _ _ ?_; clear hK K)))
  (refine Abs.step_call_val (f := ?_) (args := ?_) (v := ?_) rfl rfl rfl rfl (fun w0 => ?_) (fun w0 hI => ?_) (fun K hK => ?_); rotate_left 3; (· go_simp; (constructor <;> rfl)); (· exact c1 _); (simp only [Act.put, List.setIfInBounds_toArray, List.set_cons_zero, List.set_cons_succ]; refine hK _ _ ?_; clear hK K))
  repeat (first | (refine Abs.step_pure rfl rfl (fun K hK => ?_); go_simp; (try go_bits); (first | refine hK _ _ ?_ | (simp only [↓IntWalk.iteOmega]; go_simp; (try go_bits); refine hK _ _ ?_)); clear hK K) | (refine Abs.step_load (v := ?_) rfl rfl (by kernel_rfl) rfl (fun w0 hI => ?_) (fun K hK => ?_); rotate_left; (· have z0 := (rcell (kp hI a1)).1; have z1 := (rcell (kp hI a2)).1; go_simp; rfl); (simp only [Act.put, List.setIfInBounds_toArray, List.set_cons_zero, List.set_cons_succ]; refine hK _ _ ?_; clear hK K)) | (refine Abs.step_skip rfl rfl (fun K hK => ?_); (simp only [Act.put, List.setIfInBounds_toArray, List.set_cons_zero, List.set_cons_succ]; refine hK _ _ ?_; clear hK K)))
  (refine Abs.step_call_val (f := ?_) (args := ?_) (v := ?_) rfl rfl rfl rfl (fun w0 => ?_) (fun w0 hI => ?_) (fun K hK => ?_); rotate_left 3; (· go_simp; (constructor <;> rfl)); (· exact c2 _); (simp only [Act.put, List.setIfInBounds_toArray, List.set_cons_zero, List.set_cons_succ]; refine hK _ _ ?_; clear hK K))
  repeat (first | (refine Abs.step_pure rfl rfl (fun K hK => ?_); go_simp; (try go_bits); (first | refine hK _ _ ?_ | (simp only [↓IntWalk.iteOmega]; go_simp; (try go_bits); refine hK _ _ ?_)); clear hK K) | (refine Abs.step_load (v := ?_) rfl rfl (by kernel_rfl) rfl (fun w0 hI => ?_) (fun K hK => ?_); rotate_left; (· have z0 := (rcell (kp hI a1)).1; have z1 := (rcell (kp hI a2)).1; go_simp; rfl); (simp only [Act.put, List.setIfInBounds_toArray, List.set_cons_zero, List.set_cons_succ]; refine hK _ _ ?_; clear hK K)) | (refine Abs.step_skip rfl rfl (fun K hK => ?_); (simp only [Act.put, List.setIfInBounds_toArray, List.set_cons_zero, List.set_cons_succ]; refine hK _ _ ?_; clear hK K)))
  (refine Abs.step_call_val (f := ?_) (args := ?_) (v := ?_) rfl rfl rfl rfl (fun w0 => ?_) (fun w0 hI => ?_) (fun K hK => ?_); rotate_left 3; (· go_simp; (constructor <;> rfl)); (· exact c3 _); (simp only [Act.put, List.setIfInBounds_toArray, List.set_cons_zero, List.set_cons_succ]; refine hK _ _ ?_; clear hK K))
  repeat (first | (refine Abs.step_pure rfl rfl (fun K hK => ?_); go_simp; (try go_bits); (first | refine hK _ _ ?_ | (simp only [↓IntWalk.iteOmega]; go_simp; (try go_bits); refine hK _ _ ?_)); clear hK K) | (refine Abs.step_load (v := ?_) rfl rfl (by kernel_rfl) rfl (fun w0 hI => ?_) (fun K hK => ?_); rotate_left; (· have z0 := (rcell (kp hI a1)).1; have z1 := (rcell (kp hI a2)).1; go_simp; rfl); (simp only [Act.put, List.setIfInBounds_toArray, List.set_cons_zero, List.set_cons_succ]; refine hK _ _ ?_; clear hK K)) | (refine Abs.step_skip rfl rfl (fun K hK => ?_); (simp only [Act.put, List.setIfInBounds_toArray, List.set_cons_zero, List.set_cons_succ]; refine hK _ _ ?_; clear hK K)))
  (intro w0 hI hx0 hx1 hx2; clear hx0 hx1 hx2; simp only [Abs.T_setF, Abs.T_addA, Abs.T_push, Abs.T_start])
  go_wp2
  go_ret
  exact ⟨rfl, bB (bA (bB (bA (b0 w) _) hb1) _) hI⟩

theorem line_is (A R N D : Int) (w : World) :
    Calls Tryz.prog 133 #[.agg #[.int .i64 A, .int .i64 R, .int .i64 N, .int .i64 D]] w fun e w' => e = .returned (.bool (isB A R N D)) ∧ Below w.heap.size w w' := by
  have c1 := line_backB A
  have c2 := line_slopeIs N D
  by_cases h1 : bkB A = true
  case neg =>
    have hb : isB A R N D = false := decide_eq_false fun h => h1 h.1
    rw [hb]
    have h1' : bkB A = false := by simpa using h1
    rw [h1'] at c1
    exact is_1 A R N D 0 0 w c1
  rw [h1] at c1
  by_cases h2 : slB N D = true
  case neg =>
    have hb : isB A R N D = false := decide_eq_false fun h => h2 h.2.1
    rw [hb]
    have h2' : slB N D = false := by simpa using h2
    rw [h2'] at c2
    exact is_2 A R N D 0 0 w c1 c2
  obtain ⟨d1, d2, d3, d4⟩ := slB_spec h2
  have c3 := line_lowest N D d1 (by omega) (by omega) (by omega)
  rw [h2] at c2
  by_cases h3 : lwN N D = N ∧ lwD N D = D
  case neg =>
    have hb : isB A R N D = false := decide_eq_false fun h => h3 h.2.2.1
    rw [hb]
    by_cases h4 : lwN N D = N
    · exact is_3 A R N D _ _ w c1 c2 c3 (eq_true h4) (eq_false fun h => h3 ⟨h4, h⟩)
    · exact is_4 A R N D _ _ w c1 c2 c3 (eq_false h4)
  by_cases h4 : 0 ≤ R
  · by_cases h5 : R < D
    · have hb : isB A R N D = true := decide_eq_true ⟨h1, h2, h3, h4, h5⟩
      rw [hb]
      exact is_5 A R N D _ _ w c1 c2 c3 (eq_true h3.1) (eq_true h3.2) h4 h5
    · have hb : isB A R N D = false := decide_eq_false fun h => h5 h.2.2.2.2
      rw [hb]
      exact is_6 A R N D _ _ w c1 c2 c3 (eq_true h3.1) (eq_true h3.2) h4 (by omega)
  · have hb : isB A R N D = false := decide_eq_false fun h => h4 h.2.2.2.1
    rw [hb]
    exact is_7 A R N D _ _ w c1 c2 c3 (eq_true h3.1) (eq_true h3.2) (by omega)
end Go.Proofs.YtmpfbkeamihjbaaGreat

namespace Go.Proofs.YtmpfbkeamihjbaaGreat
open Go.RowKit

set_option maxHeartbeats 1000000 in
theorem line_over (A R N D dt : Int) (w : World) (hD : 1 ≤ D) (hD' : D < 9223372036854775808) (n1 : -9223372036854775808 ≤ N) (n2 : N < 9223372036854775808) (t1 : -9223372036854775808 ≤ dt) (t2 : dt < 9223372036854775808)
    (r1 : -9223372036854775808 ≤ R) (r2 : R < 9223372036854775808) (a1' : -9223372036854775808 ≤ A) (a2' : A < 9223372036854775808)
    (x1 : Rng (N * dt)) (x2 : Rng R) (x3 : Rng (N * dt + R)) (x4 : Rng ((N * dt + R) / D)) (x5 : Rng A) (x6 : Rng ((N * dt + R) / D + A)) :
    Calls Tryz.prog 152 #[.agg #[.int .i64 A, .int .i64 R, .int .i64 N, .int .i64 D], .int .i64 dt] w fun e w' => e = .returned (.tuple #[.agg #[.int .i64 (hi ((N * dt + R) / D + A)), .int .u64 (lo ((N * dt + R) / D + A))], .int .i64 ((N * dt + R) % D)]) ∧ Below w.heap.size w w' := by
  go_enter Tryz.func152, Tryz.ntmps152
  go_wp2_with fail
  have a0 := ka (na w #[.int .i64 A, .int .i64 R, .int .i64 N, .int .i64 D] 179) (.cells #[.int .i64 0, .int .u64 0] 160)
  refine Abs.wp_region_abs (Abs.cls0 _) [0, 1, 2, 3, 4, 5, 6, 7, 8, 9, 10, 11, 12, 13, 14, 15] (by kernel_rfl) (by kernel_rfl) (Below.refl _ _).drew ?_
  repeat (first | (refine Abs.step_pure rfl rfl (fun K hK => ?_); go_simp; (try go_bits); (first | refine hK _ _ ?_ | (simp only [↓IntWalk.iteOmega]; go_simp; (try go_bits); refine hK _ _ ?_)); clear hK K) | (refine Abs.step_load (v := ?_) rfl rfl (by kernel_rfl) rfl (fun w0 hI => ?_) (fun K hK => ?_); rotate_left; (· have z0 := (rcell (kp hI a0)).1; go_simp; rfl); (simp only [Act.put, List.setIfInBounds_toArray, List.set_cons_zero, List.set_cons_succ]; refine hK _ _ ?_; clear hK K)) | (refine Abs.step_skip rfl rfl (fun K hK => ?_); (simp only [Act.put, List.setIfInBounds_toArray, List.set_cons_zero, List.set_cons_succ]; refine hK _ _ ?_; clear hK K)))
  (refine Abs.step_call_val (f := ?_) (args := ?_) (v := ?_) rfl rfl rfl rfl (fun w0 => ?_) (fun w0 hI => ?_) (fun K hK => ?_); rotate_left 3; (· go_simp; (constructor <;> rfl)); (· exact wide_Mul N dt n1 n2 t1 t2 _); (simp only [Act.put, List.setIfInBounds_toArray, List.set_cons_zero, List.set_cons_succ]; refine hK _ _ ?_; clear hK K))
  repeat (first | (refine Abs.step_pure rfl rfl (fun K hK => ?_); go_simp; (try go_bits); (first | refine hK _ _ ?_ | (simp only [↓IntWalk.iteOmega]; go_simp; (try go_bits); refine hK _ _ ?_)); clear hK K) | (refine Abs.step_load (v := ?_) rfl rfl (by kernel_rfl) rfl (fun w0 hI => ?_) (fun K hK => ?_); rotate_left; (· have z0 := (rcell (kp hI a0)).1; go_simp; rfl); (simp only [Act.put, List.setIfInBounds_toArray, List.set_cons_zero, List.set_cons_succ]; refine hK _ _ ?_; clear hK K)) | (refine Abs.step_skip rfl rfl (fun K hK => ?_); (simp only [Act.put, List.setIfInBounds_toArray, List.set_cons_zero, List.set_cons_succ]; refine hK _ _ ?_; clear hK K)))
  (refine Abs.step_call_val (f := ?_) (args := ?_) (v := ?_) rfl rfl rfl rfl (fun w0 => ?_) (fun w0 hI => ?_) (fun K hK => ?_); rotate_left 3; (· go_simp; (constructor <;> rfl)); (· exact wide_Of R r1 r2 _); (simp only [Act.put, List.setIfInBounds_toArray, List.set_cons_zero, List.set_cons_succ]; refine hK _ _ ?_; clear hK K))
  repeat (first | (refine Abs.step_pure rfl rfl (fun K hK => ?_); go_simp; (try go_bits); (first | refine hK _ _ ?_ | (simp only [↓IntWalk.iteOmega]; go_simp; (try go_bits); refine hK _ _ ?_)); clear hK K) | (refine Abs.step_load (v := ?_) rfl rfl (by kernel_rfl) rfl (fun w0 hI => ?_) (fun K hK => ?_); rotate_left; (· go_simp; rfl); (simp only [Act.put, List.setIfInBounds_toArray, List.set_cons_zero, List.set_cons_succ]; refine hK _ _ ?_; clear hK K)) | (refine Abs.step_skip rfl rfl (fun K hK => ?_); (simp only [Act.put, List.setIfInBounds_toArray, List.set_cons_zero, List.set_cons_succ]; refine hK _ _ ?_; clear hK K)))
  (refine Abs.step_call_val (f := ?_) (args := ?_) (v := ?_) rfl rfl rfl rfl (fun w0 => ?_) (fun w0 hI => ?_) (fun K hK => ?_); rotate_left 3; (· go_simp; (constructor <;> rfl)); (· exact wide_Add _ _ x1 x2 x3 _); (simp only [Act.put, List.setIfInBounds_toArray, List.set_cons_zero, List.set_cons_succ]; refine hK _ _ ?_; clear hK K))
  repeat (first | (refine Abs.step_pure rfl rfl (fun K hK => ?_); go_simp; (try go_bits); (first | refine hK _ _ ?_ | (simp only [↓IntWalk.iteOmega]; go_simp; (try go_bits); refine hK _ _ ?_)); clear hK K) | (refine Abs.step_load (v := ?_) rfl rfl (by kernel_rfl) rfl (fun w0 hI => ?_) (fun K hK => ?_); rotate_left; (· go_simp; rfl); (simp only [Act.put, List.setIfInBounds_toArray, List.set_cons_zero, List.set_cons_succ]; refine hK _ _ ?_; clear hK K)) | (refine Abs.step_skip rfl rfl (fun K hK => ?_); (simp only [Act.put, List.setIfInBounds_toArray, List.set_cons_zero, List.set_cons_succ]; refine hK _ _ ?_; clear hK K)))
  (refine Abs.step_var (obj := ?_) rfl rfl rfl rfl (fun w0 => ?_) (fun K hK g hB hU => ?_); rotate_left; (· go_simp; rfl); (simp only [Act.put, List.setIfInBounds_toArray, List.set_cons_zero, List.set_cons_succ]; refine hK _ _ ?_; clear hK K))
  (refine Abs.step_store (T := ?_) rfl rfl rfl (fun w0 hI hF hU => ?_) (fun _ _ _ _ => trivial) (fun K hK => ?_); rotate_left; (· simp only [Abs.F_setF, Abs.F_addA, Abs.F_push, Abs.F_start, true_and] at hF; have hg0 := (rcell hF).1; have hg1 := (rcell hF).2.1; simp only [Abs.T_setF, Abs.T_addA, Abs.T_push, Abs.T_start]; go_simp; exact row2 hF _ _); (simp only [Act.put, List.setIfInBounds_toArray, List.set_cons_zero, List.set_cons_succ]; refine hK _ _ ?_; clear hK K))
  repeat (first | (refine Abs.step_pure rfl rfl (fun K hK => ?_); go_simp; (try go_bits); (first | refine hK _ _ ?_ | (simp only [↓IntWalk.iteOmega]; go_simp; (try go_bits); refine hK _ _ ?_)); clear hK K) | (refine Abs.step_load (v := ?_) rfl rfl (by kernel_rfl) rfl (fun w0 hI => ?_) (fun K hK => ?_); rotate_left; (· go_simp; rfl); (simp only [Act.put, List.setIfInBounds_toArray, List.set_cons_zero, List.set_cons_succ]; refine hK _ _ ?_; clear hK K)) | (refine Abs.step_skip rfl rfl (fun K hK => ?_); (simp only [Act.put, List.setIfInBounds_toArray, List.set_cons_zero, List.set_cons_succ]; refine hK _ _ ?_; clear hK K)))
  (intro w0 hI hF hx1 hx2; clear hx1 hx2; simp only [Abs.F_setF, Abs.F_addA, Abs.F_push, Abs.F_start, true_and, Abs.T_push] at hF ⊢; generalize hT : setRow w0 _ _ = w1; obtain ⟨hb, hg⟩ := fin1 hI hB hF hT; clear hT hI hF w0)
  have a1 := kp hb a0
  have rr1 := kp hb (na1 w _ _ _)
  obtain ⟨q1, -, l1⟩ := rcell a1
  obtain ⟨q2, -, l2⟩ := rcell hg
  go_wp2_with (go_at_call 160; refine (wide_Div _ D x3 hD hD' _).mono ?_; rintro e w2 ⟨rfl, hb2⟩)
  have a2 := ka (kp hb2 a1) (.cells #[.int .i64 (hi ((N * dt + R) / D)), .int .u64 (lo ((N * dt + R) / D))] 160)
  have n2 := na w2 #[.int .i64 (hi ((N * dt + R) / D)), .int .u64 (lo ((N * dt + R) / D))] 160
  have r2 := ka (kp hb2 rr1) (.cells #[.int .i64 (hi ((N * dt + R) / D)), .int .u64 (lo ((N * dt + R) / D))] 160)
  refine Abs.wp_region_abs (Abs.cls0 _) [0, 1, 2, 3, 4, 5, 6, 7, 8, 9, 10, 11] (by kernel_rfl) (by kernel_rfl) (Below.refl _ _).drew ?_
  repeat (first | (refine Abs.step_pure rfl rfl (fun K hK => ?_); go_simp; (try go_bits); (first | refine hK _ _ ?_ | (simp only [↓IntWalk.iteOmega]; go_simp; (try go_bits); refine hK _ _ ?_)); clear hK K) | (refine Abs.step_load (v := ?_) rfl rfl (by kernel_rfl) rfl (fun w0 hI => ?_) (fun K hK => ?_); rotate_left; (· have z0 := (rcell (kp hI a2)).1; have z1 := (rcell (kp hI n2)).1; go_simp; rfl); (simp only [Act.put, List.setIfInBounds_toArray, List.set_cons_zero, List.set_cons_succ]; refine hK _ _ ?_; clear hK K)) | (refine Abs.step_skip rfl rfl (fun K hK => ?_); (simp only [Act.put, List.setIfInBounds_toArray, List.set_cons_zero, List.set_cons_succ]; refine hK _ _ ?_; clear hK K)))
  (refine Abs.step_call_val (f := ?_) (args := ?_) (v := ?_) rfl rfl rfl rfl (fun w0 => ?_) (fun w0 hI => ?_) (fun K hK => ?_); rotate_left 3; (· go_simp; (constructor <;> rfl)); (· exact wide_Of A a1' a2' _); (simp only [Act.put, List.setIfInBounds_toArray, List.set_cons_zero, List.set_cons_succ]; refine hK _ _ ?_; clear hK K))
  repeat (first | (refine Abs.step_pure rfl rfl (fun K hK => ?_); go_simp; (try go_bits); (first | refine hK _ _ ?_ | (simp only [↓IntWalk.iteOmega]; go_simp; (try go_bits); refine hK _ _ ?_)); clear hK K) | (refine Abs.step_load (v := ?_) rfl rfl (by kernel_rfl) rfl (fun w0 hI => ?_) (fun K hK => ?_); rotate_left; (· go_simp; rfl); (simp only [Act.put, List.setIfInBounds_toArray, List.set_cons_zero, List.set_cons_succ]; refine hK _ _ ?_; clear hK K)) | (refine Abs.step_skip rfl rfl (fun K hK => ?_); (simp only [Act.put, List.setIfInBounds_toArray, List.set_cons_zero, List.set_cons_succ]; refine hK _ _ ?_; clear hK K)))
  (refine Abs.step_call_val (f := ?_) (args := ?_) (v := ?_) rfl rfl rfl rfl (fun w0 => ?_) (fun w0 hI => ?_) (fun K hK => ?_); rotate_left 3; (· go_simp; (constructor <;> rfl)); (· exact wide_Add _ _ x4 x5 x6 _); (simp only [Act.put, List.setIfInBounds_toArray, List.set_cons_zero, List.set_cons_succ]; refine hK _ _ ?_; clear hK K))
  repeat (first | (refine Abs.step_pure rfl rfl (fun K hK => ?_); go_simp; (try go_bits); (first | refine hK _ _ ?_ | (simp only [↓IntWalk.iteOmega]; go_simp; (try go_bits); refine hK _ _ ?_)); clear hK K) | (refine Abs.step_load (v := ?_) rfl rfl (by kernel_rfl) rfl (fun w0 hI => ?_) (fun K hK => ?_); rotate_left; (· go_simp; rfl); (simp only [Act.put, List.setIfInBounds_toArray, List.set_cons_zero, List.set_cons_succ]; refine hK _ _ ?_; clear hK K)) | (refine Abs.step_skip rfl rfl (fun K hK => ?_); (simp only [Act.put, List.setIfInBounds_toArray, List.set_cons_zero, List.set_cons_succ]; refine hK _ _ ?_; clear hK K)))
  (refine Abs.step_var (obj := ?_) rfl rfl rfl rfl (fun w0 => ?_) (fun K hK g' hB' hU => ?_); rotate_left; (· go_simp; rfl); (simp only [Act.put, List.setIfInBounds_toArray, List.set_cons_zero, List.set_cons_succ]; refine hK _ _ ?_; clear hK K))
  (refine Abs.step_store (T := ?_) rfl rfl rfl (fun w0 hI hF hU => ?_) (fun _ _ _ _ => trivial) (fun K hK => ?_); rotate_left; (· simp only [Abs.F_setF, Abs.F_addA, Abs.F_push, Abs.F_start, true_and] at hF; have hg0 := (rcell hF).1; have hg1 := (rcell hF).2.1; simp only [Abs.T_setF, Abs.T_addA, Abs.T_push, Abs.T_start]; go_simp; exact row2 hF _ _); (simp only [Act.put, List.setIfInBounds_toArray, List.set_cons_zero, List.set_cons_succ]; refine hK _ _ ?_; clear hK K))
  repeat (first | (refine Abs.step_pure rfl rfl (fun K hK => ?_); go_simp; (try go_bits); (first | refine hK _ _ ?_ | (simp only [↓IntWalk.iteOmega]; go_simp; (try go_bits); refine hK _ _ ?_)); clear hK K) | (refine Abs.step_load (v := ?_) rfl rfl (by kernel_rfl) rfl (fun w0 hI => ?_) (fun K hK => ?_); rotate_left; (· go_simp; rfl); (simp only [Act.put, List.setIfInBounds_toArray, List.set_cons_zero, List.set_cons_succ]; refine hK _ _ ?_; clear hK K)) | (refine Abs.step_skip rfl rfl (fun K hK => ?_); (simp only [Act.put, List.setIfInBounds_toArray, List.set_cons_zero, List.set_cons_succ]; refine hK _ _ ?_; clear hK K)))
  (intro w0 hI hF hx1 hx2; clear hx1 hx2; simp only [Abs.F_setF, Abs.F_addA, Abs.F_push, Abs.F_start, true_and, Abs.T_push] at hF ⊢; generalize hT : setRow w0 _ _ = w3; obtain ⟨hb3, hg'⟩ := fin1 hI hB' hF hT; clear hT hI hF w0)
  obtain ⟨y1, y2, -⟩ := rcell hg'
  obtain ⟨y3, y4, -⟩ := rcell (kp hb3 r2)
  go_wp2
  (rw [row2 (kp hb3 r2)]; generalize hT : setRow _ _ _ = wE; obtain ⟨hbE, hgE⟩ := ret_row (bB (bA (bB (bB (bA (bA (b0 w) _) _) hb) hb2) _) hb3) (by omega) (kp hb3 r2) hT; have zE := (rcell hgE).1; clear hT; refine bodyPost_ret (by simp [results, Tryz.results152, go_sem, zE]; try rfl) rfl ?_)
  exact ⟨rfl, hbE⟩

/-- a line's value, not yet held against what may be told -/
def lnQ (A R N D dt : Int) : Int := (N * dt + R) / D + A

theorem isB_spec {A R N D : Int} (h : isB A R N D = true) : (-2305844108725321728 ≤ A ∧ A ≤ 2305844108725321728) ∧ (1 ≤ D ∧ D ≤ 281474976710656 ∧ -4611688217450643456 ≤ N ∧ N ≤ 4611688217450643456) ∧ (lwN N D = N ∧ lwD N D = D) ∧ 0 ≤ R ∧ R < D := by
  obtain ⟨h1, h2, h3, h4, h5⟩ := of_decide_eq_true h
  exact ⟨of_decide_eq_true h1, of_decide_eq_true h2, h3, h4, h5⟩

theorem ln_bd {A R N D dt : Int} (h : isB A R N D = true) (ht : tmB dt = true) : (-1298074214633706907132624082305024 * 1024 ≤ N * dt ∧ N * dt ≤ 1298074214633706907132624082305024 * 1024) ∧
    (-1298074214633706907132624082305024 * 1024 ≤ (N * dt + R) / D ∧ (N * dt + R) / D ≤ 1298074214633706907132624082305024 * 1024 + 281474976710656) := by
  obtain ⟨_, ⟨d1, d2, d3, d4⟩, _, r1, r2⟩ := isB_spec h
  obtain ⟨t1, t2⟩ : 0 ≤ dt ∧ dt ≤ 281474976710656 := of_decide_eq_true ht
  have k1 : N * dt ≤ 4611688217450643456 * 281474976710656 := Int.le_trans (Int.mul_le_mul_of_nonneg_right d4 t1) (Int.mul_le_mul_of_nonneg_left t2 (by decide))
  have k2 : -4611688217450643456 * 281474976710656 ≤ N * dt := Int.le_trans (by have := Int.mul_le_mul_of_nonneg_left t2 (show (0 : Int) ≤ 4611688217450643456 by decide); omega) (Int.mul_le_mul_of_nonneg_right d3 t1)
  refine ⟨⟨by omega, by omega⟩, ?_, ?_⟩
  · refine (Int.le_ediv_iff_mul_le (by omega)).2 ?_
    have : (-1298074214633706907132624082305024 * 1024 : Int) * D ≤ (-1298074214633706907132624082305024 * 1024) * 1 := Int.mul_le_mul_of_nonpos_left (by decide) d1
    omega
  · have h6 : (N * dt + R) / D < 1298074214633706907132624082305024 * 1024 + 281474976710657 := by
      refine (Int.ediv_lt_iff_lt_mul (by omega)).2 ?_
      have : (1298074214633706907132624082305024 * 1024 + 281474976710657 : Int) * 1 ≤ (1298074214633706907132624082305024 * 1024 + 281474976710657) * D := Int.mul_le_mul_of_nonneg_left d1 (by decide)
      omega
    omega

theorem line_overB (A R N D dt : Int) (h : isB A R N D = true) (ht : tmB dt = true) (w : World) :
    Calls Tryz.prog 152 #[.agg #[.int .i64 A, .int .i64 R, .int .i64 N, .int .i64 D], .int .i64 dt] w fun e w' => e = .returned (.tuple #[.agg #[.int .i64 (hi (lnQ A R N D dt)), .int .u64 (lo (lnQ A R N D dt))], .int .i64 ((N * dt + R) % D)]) ∧ Below w.heap.size w w' := by
  obtain ⟨⟨a1, a2⟩, ⟨d1, d2, d3, d4⟩, _, r1, r2⟩ := isB_spec h
  obtain ⟨t1, t2⟩ : 0 ≤ dt ∧ dt ≤ 281474976710656 := of_decide_eq_true ht
  obtain ⟨⟨b1, b2⟩, b3, b4⟩ := ln_bd h ht
  exact line_over A R N D dt w d1 (by omega) (by omega) (by omega) (by omega) (by omega) (by omega) (by omega) (by omega) (by omega)
    ⟨by omega, by omega⟩ ⟨by omega, by omega⟩ ⟨by omega, by omega⟩ ⟨by omega, by omega⟩ ⟨by omega, by omega⟩ ⟨by omega, by omega⟩
theorem lnQ_rng {A R N D dt : Int} (h : isB A R N D = true) (ht : tmB dt = true) : Rng (lnQ A R N D dt) := by
  obtain ⟨⟨a1, a2⟩, _⟩ := isB_spec h
  obtain ⟨_, b3, b4⟩ := ln_bd h ht
  unfold lnQ
  exact ⟨by omega, by omega⟩

set_option maxHeartbeats 1000000 in
theorem line_value (A R N D dt : Int) (h : isB A R N D = true) (ht : tmB dt = true) (w : World) :
    Calls Tryz.prog 135 #[.agg #[.int .i64 A, .int .i64 R, .int .i64 N, .int .i64 D], .int .i64 dt] w fun e w' =>
      e = .returned (.tuple #[.int .i64 (if bkB (lnQ A R N D dt) then lnQ A R N D dt else 0), .int .i64 (if bkB (lnQ A R N D dt) then 0 else 5)]) ∧ Below w.heap.size w w' := by
  have c1 := line_overB A R N D dt h ht
  have c2 := wide_Int _ (lnQ_rng h ht)
  generalize lnQ A R N D dt = Q at *
  generalize (N * dt + R) % D = rr at *
  have c3 := line_back Q
  clear h ht
  by_cases hb : bkB Q = true
  · obtain ⟨q1, q2⟩ : -2305844108725321728 ≤ Q ∧ Q ≤ 2305844108725321728 := of_decide_eq_true hb
    have q3 : -9223372036854775808 ≤ Q ∧ Q < 9223372036854775808 := ⟨by omega, by omega⟩
    rw [if_pos q3, if_pos q3] at c2
    rw [hb] at c3
    rw [if_pos hb, if_pos hb]
    clear hb q3
    go_enter Tryz.func135, Tryz.ntmps135
    go_wp2_with (first | (go_at_call 152; refine (c1 _).mono ?_; rintro e w1 ⟨rfl, hb1⟩) | (go_at_call 153; refine (c2 _).mono ?_; rintro e w2 ⟨rfl, hb2⟩) | (go_at_call 149; refine (c3 _).mono ?_; rintro e w3 ⟨rfl, rfl⟩))
    go_ret2
    exact ⟨rfl, bB (bA (bB (bA (b0 w) _) hb1) _) hb2⟩
  · rw [if_neg hb, if_neg hb]
    have hb' : bkB Q = false := by simpa using hb
    rw [hb'] at c3
    clear hb hb'
    by_cases q3 : -9223372036854775808 ≤ Q ∧ Q < 9223372036854775808
    · rw [if_pos q3, if_pos q3] at c2
      clear q3
      go_enter Tryz.func135, Tryz.ntmps135
      go_wp2_with (first | (go_at_call 152; refine (c1 _).mono ?_; rintro e w1 ⟨rfl, hb1⟩) | (go_at_call 153; refine (c2 _).mono ?_; rintro e w2 ⟨rfl, hb2⟩) | (go_at_call 149; refine (c3 _).mono ?_; rintro e w3 ⟨rfl, rfl⟩))
      go_ret2
      exact ⟨rfl, bB (bA (bB (bA (b0 w) _) hb1) _) hb2⟩
    · rw [if_neg q3, if_neg q3] at c2
      clear q3
      go_enter Tryz.func135, Tryz.ntmps135
      go_wp2_with (first | (go_at_call 152; refine (c1 _).mono ?_; rintro e w1 ⟨rfl, hb1⟩) | (go_at_call 153; refine (c2 _).mono ?_; rintro e w2 ⟨rfl, hb2⟩))
      go_ret2
      exact ⟨rfl, bB (bA (bB (bA (b0 w) _) hb1) _) hb2⟩

/-- what line.At tells -/
def atV (A R N D dt : Int) : Int := if isB A R N D = true ∧ tmB dt = true ∧ bkB (lnQ A R N D dt) = true then lnQ A R N D dt else 0
def atE (A R N D dt : Int) : Int := if isB A R N D = true then (if tmB dt = true then (if bkB (lnQ A R N D dt) = true then 0 else 5) else 2) else 150

theorem line_Check (A R N D : Int) (w : World) :
    Calls Tryz.prog 140 #[.agg #[.int .i64 A, .int .i64 R, .int .i64 N, .int .i64 D]] w fun e w' => e = .returned (.int .i64 (if isB A R N D = true then 0 else 150)) ∧ Below w.heap.size w w' := by
  have c1 := line_is A R N D
  cases hb : isB A R N D
  all_goals
    rw [hb] at c1
    clear hb
    go_enter Tryz.func140, Tryz.ntmps140
    go_wp2_with (go_at_call 133; refine (c1 _).mono ?_; rintro e w1 ⟨rfl, hb1⟩)
    go_ret
    exact ⟨rfl, bB (bA (b0 w) _) hb1⟩
end Go.Proofs.YtmpfbkeamihjbaaGreat

namespace Go.Proofs.YtmpfbkeamihjbaaGreat
open Go.RowKit

theorem sl_mul {N D N' D' : Int} (h : slB N D = true) (h' : slB N' D' = true) : Rng (N * D') := by
  obtain ⟨_, _, d3, d4⟩ := slB_spec h
  obtain ⟨e1, e2, _, _⟩ := slB_spec h'
  obtain ⟨k1, k2⟩ := mul_bound N D' (by omega) (by omega) (by omega) (by omega)
  exact ⟨by omega, by omega⟩

def winB (A R N D dt l h : Int) : Bool := decide (isB A R N D = true ∧ tmB dt = true ∧ l ≤ lnQ A R N D dt ∧ (lnQ A R N D dt < h ∨ lnQ A R N D dt = h ∧ (N * dt + R) % D = 0))

end Go.Proofs.YtmpfbkeamihjbaaGreat

namespace Go.Proofs.YtmpfbkeamihjbaaGreat
open Go.RowKit

theorem cmpI_lt {a b : Int} (h : a < b) : cmpI a b = -1 := by unfold cmpI; rw [if_pos h]
theorem cmpI_eq {a b : Int} (h : a = b) : cmpI a b = 0 := by unfold cmpI; rw [if_neg (by omega), if_pos h]
theorem cmpI_gt {a b : Int} (h : b < a) : cmpI a b = 1 := by unfold cmpI; rw [if_neg (by omega), if_neg (by omega)]

end Go.Proofs.YtmpfbkeamihjbaaGreat

namespace Go.Proofs.YtmpfbkeamihjbaaGreat
open Go.RowKit

set_option maxRecDepth 100000 in
set_option maxHeartbeats 1000000 in
theorem scale_1 (ah al n sH sL tH T CA LO MI M2 rh rl : Int) (h1 : (ah < 0) = True) (h2 : (n < 0) = True)
    (c1 : ∀ w, Calls Tryz.prog 165 #[.agg #[.int .i64 ah, .int .u64 al]] w fun e w' => e = .returned (.tuple #[.int .u64 sH, .int .u64 sL]) ∧ Below w.heap.size w w')
    (c2 : ∀ w, Calls Tryz.prog 126 #[.int .i64 n] w fun e w' => e = .returned (.agg #[.int .i64 (hi n), .int .u64 (lo n)]) ∧ Below w.heap.size w w')
    (c3 : ∀ w, Calls Tryz.prog 165 #[.agg #[.int .i64 (hi n), .int .u64 (lo n)]] w fun e w' => e = .returned (.tuple #[.int .u64 tH, .int .u64 T]) ∧ Below w.heap.size w w')
    (c4 : ∀ w, Calls Tryz.prog 154 #[.int .u64 sL, .int .u64 T] w fun e w' => e = .returned (.tuple #[.int .u64 CA, .int .u64 LO]) ∧ w = w')
    (c5 : ∀ w, Calls Tryz.prog 154 #[.int .u64 sH, .int .u64 T] w fun e w' => e = .returned (.tuple #[.int .u64 0, .int .u64 MI]) ∧ w = w')
    (d : ∀ w, (callFunc 158 #[.int .u64 MI, .int .u64 CA, .int .u64 0]).run Tryz.prog w = .ok (.value (.tuple #[.int .u64 M2, .int .u64 0])) w)
    (c6 : ∀ w, Calls Tryz.prog 166 #[.bool false, .int .u64 M2, .int .u64 LO] w fun e w' => e = .returned (.tuple #[.agg #[.int .i64 rh, .int .u64 rl], .bool true]) ∧ Below w.heap.size w w')
    (w : World) :
    Calls Tryz.prog 157 #[.agg #[.int .i64 ah, .int .u64 al], .int .i64 n] w fun e w' => e = .returned (.tuple #[.agg #[.int .i64 rh, .int .u64 rl], .int .i64 0]) ∧ Below w.heap.size w w' := by
  go_enter Tryz.func157, Tryz.ntmps157
  go_wp2_with fail
  refine (c1 _).mono ?_
  rintro e w1 ⟨rfl, hb1⟩
  have a1 := kp hb1 (ka (na w #[.int .i64 ah, .int .u64 al] 160) (.cells #[.int .i64 0, .int .u64 0] 160))
  have r1 := kp hb1 (na1 w (.cells #[.int .i64 ah, .int .u64 al] 160) #[.int .i64 0, .int .u64 0] 160)
  go_wp2_with fail
  refine (c2 _).mono ?_
  rintro e w2 ⟨rfl, hb2⟩
  go_wp2_with fail
  refine (c3 _).mono ?_
  rintro e w3 ⟨rfl, hb3⟩
  have a3 := kp hb3 (kp hb2 a1)
  have r3 := kp hb3 (kp hb2 r1)
  have hB3 := bB (bB (bB (bA (bA (b0 w) (.cells #[.int .i64 ah, .int .u64 al] 160)) (.cells #[.int .i64 0, .int .u64 0] 160)) hb1) hb2) hb3
  obtain ⟨z1, z2, z3⟩ := rcell a3
  go_wp2_with fail
  refine (c4 _).mono ?_
  rintro e w4 ⟨rfl, rfl⟩
  go_wp2_with fail
  refine (c5 _).mono ?_
  rintro e w4 ⟨rfl, rfl⟩
  go_wp2_with fail
  refine (c6 _).mono ?_
  rintro e w6 ⟨rfl, hb6⟩
  have r6 := kp hb6 r3
  have hB6 := bB hB3 hb6
  have n6 := na w6 #[.int .i64 rh, .int .u64 rl] 160
  obtain ⟨y1, y2, y3⟩ := rcell n6
  go_wp2_with fail
  refine (wide_told _ _ _).mono ?_
  rintro e w7 ⟨rfl, hb7⟩
  have r7 := kp hb7 (ka r6 (.cells #[.int .i64 rh, .int .u64 rl] 160))
  have hB7 := bB (bA hB6 (.cells #[.int .i64 rh, .int .u64 rl] 160)) hb7
  obtain ⟨x1, x2, x3⟩ := rcell r7
  go_wp2_with fail
  (rw [row2 r7]; generalize hT : setRow _ _ _ = wE; obtain ⟨hbE, hgE⟩ := ret_row hB7 (by omega) r7 hT; have zE := (rcell hgE).1; clear hT; refine bodyPost_ret (by simp [results, Tryz.results157, go_sem, zE]; try rfl) rfl ?_)
  exact ⟨rfl, hbE⟩

set_option maxRecDepth 100000 in
set_option maxHeartbeats 1000000 in
theorem scale_2 (ah al n sH sL tH T CA LO MI M2 rh rl : Int) (h1 : (ah < 0) = True) (h2 : (n < 0) = False)
    (c1 : ∀ w, Calls Tryz.prog 165 #[.agg #[.int .i64 ah, .int .u64 al]] w fun e w' => e = .returned (.tuple #[.int .u64 sH, .int .u64 sL]) ∧ Below w.heap.size w w')
    (c2 : ∀ w, Calls Tryz.prog 126 #[.int .i64 n] w fun e w' => e = .returned (.agg #[.int .i64 (hi n), .int .u64 (lo n)]) ∧ Below w.heap.size w w')
    (c3 : ∀ w, Calls Tryz.prog 165 #[.agg #[.int .i64 (hi n), .int .u64 (lo n)]] w fun e w' => e = .returned (.tuple #[.int .u64 tH, .int .u64 T]) ∧ Below w.heap.size w w')
    (c4 : ∀ w, Calls Tryz.prog 154 #[.int .u64 sL, .int .u64 T] w fun e w' => e = .returned (.tuple #[.int .u64 CA, .int .u64 LO]) ∧ w = w')
    (c5 : ∀ w, Calls Tryz.prog 154 #[.int .u64 sH, .int .u64 T] w fun e w' => e = .returned (.tuple #[.int .u64 0, .int .u64 MI]) ∧ w = w')
    (d : ∀ w, (callFunc 158 #[.int .u64 MI, .int .u64 CA, .int .u64 0]).run Tryz.prog w = .ok (.value (.tuple #[.int .u64 M2, .int .u64 0])) w)
    (c6 : ∀ w, Calls Tryz.prog 166 #[.bool true, .int .u64 M2, .int .u64 LO] w fun e w' => e = .returned (.tuple #[.agg #[.int .i64 rh, .int .u64 rl], .bool true]) ∧ Below w.heap.size w w')
    (w : World) :
    Calls Tryz.prog 157 #[.agg #[.int .i64 ah, .int .u64 al], .int .i64 n] w fun e w' => e = .returned (.tuple #[.agg #[.int .i64 rh, .int .u64 rl], .int .i64 0]) ∧ Below w.heap.size w w' := by
  go_enter Tryz.func157, Tryz.ntmps157
  go_wp2_with fail
  refine (c1 _).mono ?_
  rintro e w1 ⟨rfl, hb1⟩
  have a1 := kp hb1 (ka (na w #[.int .i64 ah, .int .u64 al] 160) (.cells #[.int .i64 0, .int .u64 0] 160))
  have r1 := kp hb1 (na1 w (.cells #[.int .i64 ah, .int .u64 al] 160) #[.int .i64 0, .int .u64 0] 160)
  go_wp2_with fail
  refine (c2 _).mono ?_
  rintro e w2 ⟨rfl, hb2⟩
  go_wp2_with fail
  refine (c3 _).mono ?_
  rintro e w3 ⟨rfl, hb3⟩
  have a3 := kp hb3 (kp hb2 a1)
  have r3 := kp hb3 (kp hb2 r1)
  have hB3 := bB (bB (bB (bA (bA (b0 w) (.cells #[.int .i64 ah, .int .u64 al] 160)) (.cells #[.int .i64 0, .int .u64 0] 160)) hb1) hb2) hb3
  obtain ⟨z1, z2, z3⟩ := rcell a3
  go_wp2_with fail
  refine (c4 _).mono ?_
  rintro e w4 ⟨rfl, rfl⟩
  go_wp2_with fail
  refine (c5 _).mono ?_
  rintro e w4 ⟨rfl, rfl⟩
  go_wp2_with fail
  refine (c6 _).mono ?_
  rintro e w6 ⟨rfl, hb6⟩
  have r6 := kp hb6 r3
  have hB6 := bB hB3 hb6
  have n6 := na w6 #[.int .i64 rh, .int .u64 rl] 160
  obtain ⟨y1, y2, y3⟩ := rcell n6
  go_wp2_with fail
  refine (wide_told _ _ _).mono ?_
  rintro e w7 ⟨rfl, hb7⟩
  have r7 := kp hb7 (ka r6 (.cells #[.int .i64 rh, .int .u64 rl] 160))
  have hB7 := bB (bA hB6 (.cells #[.int .i64 rh, .int .u64 rl] 160)) hb7
  obtain ⟨x1, x2, x3⟩ := rcell r7
  go_wp2_with fail
  (rw [row2 r7]; generalize hT : setRow _ _ _ = wE; obtain ⟨hbE, hgE⟩ := ret_row hB7 (by omega) r7 hT; have zE := (rcell hgE).1; clear hT; refine bodyPost_ret (by simp [results, Tryz.results157, go_sem, zE]; try rfl) rfl ?_)
  exact ⟨rfl, hbE⟩

set_option maxRecDepth 100000 in
set_option maxHeartbeats 1000000 in
theorem scale_3 (ah al n sH sL tH T CA LO MI M2 rh rl : Int) (h1 : (ah < 0) = False) (h2 : (n < 0) = True)
    (c1 : ∀ w, Calls Tryz.prog 165 #[.agg #[.int .i64 ah, .int .u64 al]] w fun e w' => e = .returned (.tuple #[.int .u64 sH, .int .u64 sL]) ∧ Below w.heap.size w w')
    (c2 : ∀ w, Calls Tryz.prog 126 #[.int .i64 n] w fun e w' => e = .returned (.agg #[.int .i64 (hi n), .int .u64 (lo n)]) ∧ Below w.heap.size w w')
    (c3 : ∀ w, Calls Tryz.prog 165 #[.agg #[.int .i64 (hi n), .int .u64 (lo n)]] w fun e w' => e = .returned (.tuple #[.int .u64 tH, .int .u64 T]) ∧ Below w.heap.size w w')
    (c4 : ∀ w, Calls Tryz.prog 154 #[.int .u64 sL, .int .u64 T] w fun e w' => e = .returned (.tuple #[.int .u64 CA, .int .u64 LO]) ∧ w = w')
    (c5 : ∀ w, Calls Tryz.prog 154 #[.int .u64 sH, .int .u64 T] w fun e w' => e = .returned (.tuple #[.int .u64 0, .int .u64 MI]) ∧ w = w')
    (d : ∀ w, (callFunc 158 #[.int .u64 MI, .int .u64 CA, .int .u64 0]).run Tryz.prog w = .ok (.value (.tuple #[.int .u64 M2, .int .u64 0])) w)
    (c6 : ∀ w, Calls Tryz.prog 166 #[.bool true, .int .u64 M2, .int .u64 LO] w fun e w' => e = .returned (.tuple #[.agg #[.int .i64 rh, .int .u64 rl], .bool true]) ∧ Below w.heap.size w w')
    (w : World) :
    Calls Tryz.prog 157 #[.agg #[.int .i64 ah, .int .u64 al], .int .i64 n] w fun e w' => e = .returned (.tuple #[.agg #[.int .i64 rh, .int .u64 rl], .int .i64 0]) ∧ Below w.heap.size w w' := by
  go_enter Tryz.func157, Tryz.ntmps157
  go_wp2_with fail
  refine (c1 _).mono ?_
  rintro e w1 ⟨rfl, hb1⟩
  have a1 := kp hb1 (ka (na w #[.int .i64 ah, .int .u64 al] 160) (.cells #[.int .i64 0, .int .u64 0] 160))
  have r1 := kp hb1 (na1 w (.cells #[.int .i64 ah, .int .u64 al] 160) #[.int .i64 0, .int .u64 0] 160)
  go_wp2_with fail
  refine (c2 _).mono ?_
  rintro e w2 ⟨rfl, hb2⟩
  go_wp2_with fail
  refine (c3 _).mono ?_
  rintro e w3 ⟨rfl, hb3⟩
  have a3 := kp hb3 (kp hb2 a1)
  have r3 := kp hb3 (kp hb2 r1)
  have hB3 := bB (bB (bB (bA (bA (b0 w) (.cells #[.int .i64 ah, .int .u64 al] 160)) (.cells #[.int .i64 0, .int .u64 0] 160)) hb1) hb2) hb3
  obtain ⟨z1, z2, z3⟩ := rcell a3
  go_wp2_with fail
  refine (c4 _).mono ?_
  rintro e w4 ⟨rfl, rfl⟩
  go_wp2_with fail
  refine (c5 _).mono ?_
  rintro e w4 ⟨rfl, rfl⟩
  go_wp2_with fail
  refine (c6 _).mono ?_
  rintro e w6 ⟨rfl, hb6⟩
  have r6 := kp hb6 r3
  have hB6 := bB hB3 hb6
  have n6 := na w6 #[.int .i64 rh, .int .u64 rl] 160
  obtain ⟨y1, y2, y3⟩ := rcell n6
  go_wp2_with fail
  refine (wide_told _ _ _).mono ?_
  rintro e w7 ⟨rfl, hb7⟩
  have r7 := kp hb7 (ka r6 (.cells #[.int .i64 rh, .int .u64 rl] 160))
  have hB7 := bB (bA hB6 (.cells #[.int .i64 rh, .int .u64 rl] 160)) hb7
  obtain ⟨x1, x2, x3⟩ := rcell r7
  go_wp2_with fail
  (rw [row2 r7]; generalize hT : setRow _ _ _ = wE; obtain ⟨hbE, hgE⟩ := ret_row hB7 (by omega) r7 hT; have zE := (rcell hgE).1; clear hT; refine bodyPost_ret (by simp [results, Tryz.results157, go_sem, zE]; try rfl) rfl ?_)
  exact ⟨rfl, hbE⟩

set_option maxRecDepth 100000 in
set_option maxHeartbeats 1000000 in
theorem scale_4 (ah al n sH sL tH T CA LO MI M2 rh rl : Int) (h1 : (ah < 0) = False) (h2 : (n < 0) = False)
    (c1 : ∀ w, Calls Tryz.prog 165 #[.agg #[.int .i64 ah, .int .u64 al]] w fun e w' => e = .returned (.tuple #[.int .u64 sH, .int .u64 sL]) ∧ Below w.heap.size w w')
    (c2 : ∀ w, Calls Tryz.prog 126 #[.int .i64 n] w fun e w' => e = .returned (.agg #[.int .i64 (hi n), .int .u64 (lo n)]) ∧ Below w.heap.size w w')
    (c3 : ∀ w, Calls Tryz.prog 165 #[.agg #[.int .i64 (hi n), .int .u64 (lo n)]] w fun e w' => e = .returned (.tuple #[.int .u64 tH, .int .u64 T]) ∧ Below w.heap.size w w')
    (c4 : ∀ w, Calls Tryz.prog 154 #[.int .u64 sL, .int .u64 T] w fun e w' => e = .returned (.tuple #[.int .u64 CA, .int .u64 LO]) ∧ w = w')
    (c5 : ∀ w, Calls Tryz.prog 154 #[.int .u64 sH, .int .u64 T] w fun e w' => e = .returned (.tuple #[.int .u64 0, .int .u64 MI]) ∧ w = w')
    (d : ∀ w, (callFunc 158 #[.int .u64 MI, .int .u64 CA, .int .u64 0]).run Tryz.prog w = .ok (.value (.tuple #[.int .u64 M2, .int .u64 0])) w)
    (c6 : ∀ w, Calls Tryz.prog 166 #[.bool false, .int .u64 M2, .int .u64 LO] w fun e w' => e = .returned (.tuple #[.agg #[.int .i64 rh, .int .u64 rl], .bool true]) ∧ Below w.heap.size w w')
    (w : World) :
    Calls Tryz.prog 157 #[.agg #[.int .i64 ah, .int .u64 al], .int .i64 n] w fun e w' => e = .returned (.tuple #[.agg #[.int .i64 rh, .int .u64 rl], .int .i64 0]) ∧ Below w.heap.size w w' := by
  go_enter Tryz.func157, Tryz.ntmps157
  go_wp2_with fail
  refine (c1 _).mono ?_
  rintro e w1 ⟨rfl, hb1⟩
  have a1 := kp hb1 (ka (na w #[.int .i64 ah, .int .u64 al] 160) (.cells #[.int .i64 0, .int .u64 0] 160))
  have r1 := kp hb1 (na1 w (.cells #[.int .i64 ah, .int .u64 al] 160) #[.int .i64 0, .int .u64 0] 160)
  go_wp2_with fail
  refine (c2 _).mono ?_
  rintro e w2 ⟨rfl, hb2⟩
  go_wp2_with fail
  refine (c3 _).mono ?_
  rintro e w3 ⟨rfl, hb3⟩
  have a3 := kp hb3 (kp hb2 a1)
  have r3 := kp hb3 (kp hb2 r1)
  have hB3 := bB (bB (bB (bA (bA (b0 w) (.cells #[.int .i64 ah, .int .u64 al] 160)) (.cells #[.int .i64 0, .int .u64 0] 160)) hb1) hb2) hb3
  obtain ⟨z1, z2, z3⟩ := rcell a3
  go_wp2_with fail
  refine (c4 _).mono ?_
  rintro e w4 ⟨rfl, rfl⟩
  go_wp2_with fail
  refine (c5 _).mono ?_
  rintro e w4 ⟨rfl, rfl⟩
  go_wp2_with fail
  refine (c6 _).mono ?_
  rintro e w6 ⟨rfl, hb6⟩
  have r6 := kp hb6 r3
  have hB6 := bB hB3 hb6
  have n6 := na w6 #[.int .i64 rh, .int .u64 rl] 160
  obtain ⟨y1, y2, y3⟩ := rcell n6
  go_wp2_with fail
  refine (wide_told _ _ _).mono ?_
  rintro e w7 ⟨rfl, hb7⟩
  have r7 := kp hb7 (ka r6 (.cells #[.int .i64 rh, .int .u64 rl] 160))
  have hB7 := bB (bA hB6 (.cells #[.int .i64 rh, .int .u64 rl] 160)) hb7
  obtain ⟨x1, x2, x3⟩ := rcell r7
  go_wp2_with fail
  (rw [row2 r7]; generalize hT : setRow _ _ _ = wE; obtain ⟨hbE, hgE⟩ := ret_row hB7 (by omega) r7 hT; have zE := (rcell hgE).1; clear hT; refine bodyPost_ret (by simp [results, Tryz.results157, go_sem, zE]; try rfl) rfl ?_)
  exact ⟨rfl, hbE⟩

/-- the words of a product of sizes -/
theorem scale_math (p q : Int) (hp : 0 ≤ p) (hp2 : p ≤ 170141183460469231731687303715884105728) (hq : 0 ≤ q) (hq2 : q ≤ 9223372036854775808) (h : p * q ≤ 170141183460469231731687303715884105728) :
    lo p * q / 18446744073709551616 + hi p * q = hi (p * q) ∧ lo p * q % 18446744073709551616 = lo (p * q) ∧ hi p * q < 18446744073709551616 ∧ 0 ≤ hi p * q ∧ 0 ≤ lo p * q ∧ hi (p * q) < 18446744073709551616 := by
  have e : p * q = (hi p * q) * 18446744073709551616 + lo p * q := by
    have e1 : p = hi p * 18446744073709551616 + lo p := by unfold hi lo; omega
    conv => lhs; rw [e1]
    rw [Int.add_mul]
    ac_rfl
  have l1 : 0 ≤ lo p := by unfold lo; omega
  have l2 : 0 ≤ hi p := by unfold hi; omega
  have k1 : 0 ≤ hi p * q := Int.mul_nonneg l2 hq
  have k2 : 0 ≤ lo p * q := Int.mul_nonneg l1 hq
  generalize hi p * q = x at *
  generalize lo p * q = y at *
  unfold hi lo
  rw [e] at h ⊢
  refine ⟨by omega, by omega, by omega, k1, k2, by omega⟩

/-- the facts of the middle, named -/
theorem scale_mid (p q : Int) (hp : 0 ≤ p) (hp2 : p ≤ 170141183460469231731687303715884105728) (hq : 0 ≤ q) (hq2 : q ≤ 9223372036854775808) (h : p * q ≤ 170141183460469231731687303715884105728) :
    ∃ CA MI : Int, (∀ w, Calls Tryz.prog 154 #[.int .u64 (lo p), .int .u64 q] w fun e w' => e = .returned (.tuple #[.int .u64 CA, .int .u64 (lo (p * q))]) ∧ w = w') ∧
      (∀ w, Calls Tryz.prog 154 #[.int .u64 (hi p), .int .u64 q] w fun e w' => e = .returned (.tuple #[.int .u64 0, .int .u64 MI]) ∧ w = w') ∧
      (∀ w, (callFunc 158 #[.int .u64 MI, .int .u64 CA, .int .u64 0]).run Tryz.prog w = .ok (.value (.tuple #[.int .u64 (hi (p * q)), .int .u64 0])) w) := by
  obtain ⟨m1, m2, m3, m4, m5, m6⟩ := scale_math p q hp hp2 hq hq2 h
  have b1 := lo_lo p
  have b2 : 0 ≤ hi p ∧ hi p < 18446744073709551616 := by unfold hi; omega
  have b3 : 0 ≤ hi (p * q) := by have := Int.mul_nonneg hp hq; unfold hi; omega
  have c4 := mul64 (lo p) q b1.1 b1.2 hq (by omega)
  have c5 := mul64 (hi p) q b2.1 b2.2 hq (by omega)
  have d := add64_0 (hi p * q) (lo p * q / 18446744073709551616) m4 (Int.ediv_nonneg m5 (by decide))
  rw [m2] at c4
  generalize hi p * q = x at *
  generalize lo p * q / 18446744073709551616 = y at *
  generalize hi (p * q) = z at *
  rw [show x / 18446744073709551616 = 0 from Int.ediv_eq_zero_of_lt m4 m3, show x % 18446744073709551616 = x from Int.emod_eq_of_lt m4 m3] at c5
  have e : x + y = z := by omega
  rw [e, show z / 18446744073709551616 = 0 from Int.ediv_eq_zero_of_lt b3 m6, show z % 18446744073709551616 = z from Int.emod_eq_of_lt b3 m6] at d
  exact ⟨_, _, c4, c5, d⟩

theorem lo_self (q : Int) (h : 0 ≤ q) (h2 : q < 18446744073709551616) : lo q = q := Int.emod_eq_of_lt h h2

set_option maxRecDepth 100000 in
/-- Scale where the product fits -/
theorem wide_Scale (x n : Int) (h : Rng x) (n1 : -9223372036854775808 ≤ n) (n2 : n < 9223372036854775808) (hp : Rng (x * n)) (w : World) :
    Calls Tryz.prog 157 #[.agg #[.int .i64 (hi x), .int .u64 (lo x)], .int .i64 n] w fun e w' => e = .returned (.tuple #[.agg #[.int .i64 (hi (x * n)), .int .u64 (lo (x * n))], .int .i64 0]) ∧ Below w.heap.size w w' := by
  have hn : Rng n := ⟨by omega, by omega⟩
  have c2 := wide_Of n n1 n2
  obtain ⟨h1, h2⟩ := id h
  obtain ⟨p1, p2⟩ := hp
  have hs : hi x < 0 ↔ x < 0 := by unfold hi; omega
  by_cases hx : x < 0
  · have g1 : (hi x < 0) = True := eq_true (hs.2 hx)
    have c1 := size_neg x h hx
    by_cases hm : n < 0
    · have e : (-x) * (-n) = x * n := Int.neg_mul_neg x n
      have k : 0 ≤ x * n := by rw [← e]; exact Int.mul_nonneg (by omega) (by omega)
      obtain ⟨CA, MI, c4, c5, d⟩ := scale_mid (-x) (-n) (by omega) (by omega) (by omega) (by omega) (by rw [e]; omega)
      rw [e] at c4 d
      have c3 := size_neg n hn hm
      rw [lo_self (-n) (by omega) (by omega)] at c3
      exact scale_1 (hi x) (lo x) n _ _ _ _ _ _ _ _ (hi (x * n)) (lo (x * n)) g1 (eq_true hm) c1 c2 c3 c4 c5 d (signed_f (x * n) k p2) w
    · have t1 := lo_self n (by omega) (by omega)
      have e : (-x) * lo n = -(x * n) := by rw [t1]; exact Int.neg_mul x n
      have k : 0 ≤ -(x * n) := by rw [← e]; exact Int.mul_nonneg (by omega) (by omega)
      obtain ⟨CA, MI, c4, c5, d⟩ := scale_mid (-x) (lo n) (by omega) (by omega) (by omega) (by omega) (by rw [e]; omega)
      rw [e] at c4 d
      have c3 := size_nn n hn (by omega)
      have c6 := signed_t (-(x * n)) k (by omega)
      rw [Int.neg_neg] at c6
      exact scale_2 (hi x) (lo x) n _ _ _ _ _ _ _ _ (hi (x * n)) (lo (x * n)) g1 (eq_false hm) c1 c2 c3 c4 c5 d c6 w
  · have g1 : (hi x < 0) = False := eq_false (fun hh => hx (hs.1 hh))
    have c1 := size_nn x h (by omega)
    by_cases hm : n < 0
    · have e : x * (-n) = -(x * n) := Int.mul_neg x n
      have k : 0 ≤ -(x * n) := by rw [← e]; exact Int.mul_nonneg (by omega) (by omega)
      obtain ⟨CA, MI, c4, c5, d⟩ := scale_mid x (-n) (by omega) (by omega) (by omega) (by omega) (by rw [e]; omega)
      rw [e] at c4 d
      have c3 := size_neg n hn hm
      rw [lo_self (-n) (by omega) (by omega)] at c3
      have c6 := signed_t (-(x * n)) k (by omega)
      rw [Int.neg_neg] at c6
      exact scale_3 (hi x) (lo x) n _ _ _ _ _ _ _ _ (hi (x * n)) (lo (x * n)) g1 (eq_true hm) c1 c2 c3 c4 c5 d c6 w
    · have t1 := lo_self n (by omega) (by omega)
      have e : x * lo n = x * n := by rw [t1]
      have k : 0 ≤ x * n := Int.mul_nonneg (by omega) (by omega)
      obtain ⟨CA, MI, c4, c5, d⟩ := scale_mid x (lo n) (by omega) (by omega) (by omega) (by omega) (by rw [e]; omega)
      rw [e] at c4 d
      have c3 := size_nn n hn (by omega)
      exact scale_4 (hi x) (lo x) n _ _ _ _ _ _ _ _ (hi (x * n)) (lo (x * n)) g1 (eq_false hm) c1 c2 c3 c4 c5 d (signed_f (x * n) k p2) w
end Go.Proofs.YtmpfbkeamihjbaaGreat

namespace Go.Proofs.YtmpfbkeamihjbaaGreat

/-- a sum of n terms -/
def sm (f : Nat → Int) : Nat → Int
  | 0 => 0
  | n + 1 => sm f n + f n
theorem sm_congr {f g : Nat → Int} : ∀ n, (∀ i, i < n → f i = g i) → sm f n = sm g n
  | 0, _ => rfl
  | n + 1, h => by simp only [sm]; rw [sm_congr n (fun i hi => h i (by omega)), h n (by omega)]
theorem sm_add (f g : Nat → Int) : ∀ n, sm (fun i => f i + g i) n = sm f n + sm g n
  | 0 => rfl
  | n + 1 => by simp only [sm]; rw [sm_add f g n]; omega
theorem sm_const (c : Int) : ∀ n : Nat, sm (fun _ => c) n = c * n
  | 0 => by simp [sm]
  | n + 1 => by simp only [sm]; rw [sm_const c n, Int.natCast_add, Int.mul_add]; simp
theorem sm_zero (n : Nat) : sm (fun _ => 0) n = 0 := by rw [sm_const]; simp
theorem sm_mul (c : Int) (f : Nat → Int) : ∀ n, sm (fun i => c * f i) n = c * sm f n
  | 0 => by simp [sm]
  | n + 1 => by simp only [sm]; rw [sm_mul c f n, Int.mul_add]
theorem sm_split (f : Nat → Int) (k : Nat) : ∀ n, sm f (k + n) = sm f k + sm (fun i => f (k + i)) n
  | 0 => by simp [sm]
  | n + 1 => by rw [← Nat.add_assoc]; simp only [sm]; rw [sm_split f k n]; omega
theorem sm_head (f : Nat → Int) (n : Nat) : sm f (n + 1) = f 0 + sm (fun i => f (i + 1)) n := by
  rw [Nat.add_comm n 1, sm_split f 1 n]
  simp only [sm, Int.zero_add]
  congr 1
  exact sm_congr n (fun i _ => by rw [Nat.add_comm])
theorem sm_rev (f : Nat → Int) : ∀ n, sm (fun i => f (n - 1 - i)) n = sm f n
  | 0 => rfl
  | n + 1 => by
    rw [sm_head]
    simp only [sm, Nat.add_sub_cancel, Nat.sub_zero]
    rw [sm_congr (g := fun i => f (n - 1 - i)) n (fun i _ => by congr 1; omega), sm_rev f n]
    omega
theorem sm_swap (f : Nat → Nat → Int) (m : Nat) : ∀ n, sm (fun i => sm (fun j => f i j) m) n = sm (fun j => sm (fun i => f i j) n) m
  | 0 => by simp only [sm]; rw [sm_zero]
  | n + 1 => by simp only [sm]; rw [sm_swap f m n, ← sm_add]
theorem sm_mono {f g : Nat → Int} : ∀ n, (∀ i, i < n → f i ≤ g i) → sm f n ≤ sm g n
  | 0, _ => Int.le_refl _
  | n + 1, h => by
    have h1 := sm_mono n (fun i hi => h i (by omega))
    have h2 := h n (by omega)
    simp only [sm]; omega
theorem sm_nn {f : Nat → Int} (n : Nat) (h : ∀ i, i < n → 0 ≤ f i) : 0 ≤ sm f n := by
  have := sm_mono (f := fun _ => 0) n h
  rw [sm_zero] at this; exact this
theorem sm_two : ∀ n : Nat, 2 * sm (fun i => (i : Int)) n = n * ((n : Int) - 1)
  | 0 => by simp [sm]
  | n + 1 => by
    simp only [sm]; rw [Int.mul_add, sm_two n, Int.natCast_add, Int.mul_sub, Int.mul_sub, Int.add_mul, Int.mul_add]; simp; omega

/-- how many pairs there are of so many -/
def prs (n : Int) : Int := n * (n - 1) / 2
theorem sm_prs (n : Nat) : sm (fun i => (i : Int)) n = prs n := by
  have := sm_two n
  unfold prs
  omega
theorem prs_nn (n : Nat) : 0 ≤ prs n := by rw [← sm_prs]; exact sm_nn n (fun i _ => by omega)

/-- a row's sum -/
def fl (n : Nat) (a b m : Int) : Int := sm (fun i => (a * i + b) / m) n

theorem cnt {x m : Int} (hm : 0 < m) (hx : 0 ≤ x) : ∀ N : Nat, sm (fun j => if ((j : Int) + 1) * m ≤ x then 1 else 0) N = min (x / m) N
  | 0 => by
    have := Int.ediv_nonneg hx (Int.le_of_lt hm)
    simp only [sm]; omega
  | N + 1 => by
    simp only [sm]; rw [cnt hm hx N]
    by_cases h : ((N : Int) + 1) * m ≤ x
    · rw [if_pos h]
      have := (Int.le_ediv_iff_mul_le hm).2 h
      omega
    · rw [if_neg h]
      have : ¬ ((N : Int) + 1) ≤ x / m := fun h' => h ((Int.le_ediv_iff_mul_le hm).1 h')
      omega
theorem cnt_le {x m : Int} (hm : 0 < m) (hx : 0 ≤ x) (N : Nat) (h : x / m ≤ N) : sm (fun j => if ((j : Int) + 1) * m ≤ x then 1 else 0) N = x / m := by
  rw [cnt hm hx]; omega

theorem fl_mod (n : Nat) (a b m : Int) (hm : 0 < m) : fl n a b m = a / m * prs n + b / m * n + fl n (a % m) (b % m) m := by
  unfold fl
  rw [← sm_prs, ← sm_mul, ← sm_const, ← sm_add, ← sm_add]
  refine sm_congr n (fun i _ => ?_)
  have e : a * i + b = (a % m * i + b % m) + m * (a / m * i + b / m) := by
    have e1 := Int.mul_ediv_add_emod a m
    have e2 := Int.mul_ediv_add_emod b m
    conv => lhs; rw [← e1, ← e2]
    rw [Int.add_mul, Int.mul_add, Int.mul_assoc]
    omega
  rw [e, Int.add_mul_ediv_left _ _ (by omega)]
  omega

theorem fl_small (n : Nat) (a b m : Int) (hm : 0 < m) (ha : 0 ≤ a) (hb : 0 ≤ b) (h : a * n + b < m) : fl n a b m = 0 := by
  unfold fl
  rw [sm_congr (g := fun _ => 0) n, sm_zero]
  intro i hi
  have h1 : a * (i : Int) ≤ a * n := Int.mul_le_mul_of_nonneg_left (by omega) ha
  have h2 : 0 ≤ a * (i : Int) := Int.mul_nonneg ha (by omega)
  exact Int.ediv_eq_zero_of_lt (by omega) (by omega)

theorem fl_nn (n : Nat) (a b m : Int) (hm : 0 < m) (ha : 0 ≤ a) (hb : 0 ≤ b) : 0 ≤ fl n a b m :=
  sm_nn n (fun i _ => Int.ediv_nonneg (by have := Int.mul_nonneg ha (show 0 ≤ (i : Int) by omega); omega) (by omega))

/-- the roles change -/
theorem fl_turn (n N : Nat) (a b m R : Int) (hm : 0 < m) (ha : 0 < a) (hb : 0 ≤ b) (hb2 : b < m) (hR : 0 ≤ R) (h : a * n + b = N * m + R) (hR2 : R < m) : fl n a b m = fl N m R a := by
  unfold fl
  have e1 : sm (fun i => (a * i + b) / m) n = sm (fun i => sm (fun j => if ((j : Int) + 1) * m ≤ a * i + b then 1 else 0) N) n := by
    refine sm_congr n (fun i hi => ?_)
    have h1 : a * (i : Int) ≤ a * n := Int.mul_le_mul_of_nonneg_left (by omega) (by omega)
    have h2 : 0 ≤ a * (i : Int) := Int.mul_nonneg (by omega) (by omega)
    refine (cnt_le hm (by omega) N ?_).symm
    have h3 : a * (i : Int) + b < (N + 1) * m := by rw [Int.add_mul]; omega
    have := Int.ediv_lt_of_lt_mul hm h3
    omega
  rw [e1, sm_swap, ← sm_rev]
  refine sm_congr N (fun k hk => ?_)
  have c : ((N - 1 - k : Nat) : Int) + 1 = N - k := by omega
  rw [← sm_rev]
  have e2 : ∀ t : Nat, t < n → (if (((N - 1 - k : Nat) : Int) + 1) * m ≤ a * ((n - 1 - t : Nat) : Int) + b then (1 : Int) else 0) = if ((t : Int) + 1) * a ≤ m * k + R then 1 else 0 := by
    intro t ht
    have c2 : ((n - 1 - t : Nat) : Int) = n - (t + 1) := by omega
    rw [c, c2, Int.mul_sub, Int.sub_mul, Int.mul_comm a ((t : Int) + 1), Int.mul_comm (k : Int) m]
    by_cases hh : ((t : Int) + 1) * a ≤ m * k + R
    · rw [if_pos hh, if_pos (by omega)]
    · rw [if_neg hh, if_neg (by omega)]
  rw [sm_congr n e2]
  have k2 : 0 ≤ m * (k : Int) := Int.mul_nonneg (by omega) (by omega)
  refine cnt_le ha (by omega) n ?_
  have h4 : m * (k : Int) + R < (n + 1) * a := by
    have h5 : m * ((k : Int) + 1) ≤ m * N := Int.mul_le_mul_of_nonneg_left (by omega) (by omega)
    rw [Int.mul_add, Int.mul_comm m (N : Int)] at h5
    rw [Int.add_mul, Int.mul_comm (n : Int) a]
    omega
  have := Int.ediv_lt_of_lt_mul ha h4
  omega

theorem fl_top (n : Nat) (a b m : Int) (hm : 0 < m) (ha : 0 ≤ a) (ha2 : a < m) (hb2 : b < m) : fl n a b m ≤ prs n + n := by
  unfold fl
  have h := sm_mono (f := fun i => (a * i + b) / m) (g := fun i => (i : Int) + 1) n (fun i _ => by
    have h1 : a * (i : Int) ≤ m * i := Int.mul_le_mul_of_nonneg_right (by omega) (by omega)
    have h3 : a * (i : Int) + b < ((i : Int) + 2) * m := by rw [Int.add_mul, Int.mul_comm (i : Int) m]; omega
    have := Int.ediv_lt_of_lt_mul hm h3
    omega)
  rw [sm_add, sm_prs, sm_const] at h
  omega

/-- what is left of a row's steps -/
def rs (n : Nat) (a b m : Int) : Int := sm (fun i => (a * i + b) % m) n
theorem rs_eq (n : Nat) (a b m : Int) : rs n a b m = a * prs n + b * n - fl n a b m * m := by
  unfold rs fl
  have h : sm (fun i => (a * (i : Int) + b) % m) n + m * sm (fun i => (a * (i : Int) + b) / m) n = a * sm (fun i => (i : Int)) n + sm (fun _ => b) n := by
    rw [← sm_mul, ← sm_mul, ← sm_add, ← sm_add]
    exact sm_congr n (fun i _ => by have := Int.mul_ediv_add_emod (a * (i : Int) + b) m; omega)
  rw [sm_prs, sm_const, Int.mul_comm m] at h
  omega
theorem rs_nn (n : Nat) (a b m : Int) (hm : 0 < m) : 0 ≤ rs n a b m := sm_nn n (fun i _ => Int.emod_nonneg _ (by omega))
theorem rs_top (n : Nat) (a b m : Int) (hm : 0 < m) : rs n a b m ≤ n * (m - 1) := by
  have h := sm_mono (f := fun i => (a * i + b) % m) (g := fun _ => m - 1) n (fun i _ => by have := Int.emod_lt_of_pos (a * (i : Int) + b) hm; omega)
  rw [sm_const, Int.mul_comm] at h
  exact h

/-! the laws -/
theorem fl_split (k n : Nat) (a b m : Int) : fl (k + n) a b m = fl k a b m + fl n a (b + a * k) m := by
  unfold fl
  rw [sm_split]
  congr 1
  refine sm_congr n (fun i _ => ?_)
  rw [Int.natCast_add, Int.mul_add]
  congr 1; omega
theorem fl_back (n : Nat) (a b m : Int) : fl n (-a) (b + a * ((n : Int) - 1)) m = fl n a b m := by
  unfold fl
  rw [← sm_rev (fun i => (a * (i : Int) + b) / m)]
  refine sm_congr n (fun i hi => ?_)
  have c : ((n - 1 - i : Nat) : Int) = n - 1 - i := by omega
  rw [c, Int.mul_sub a ((n : Int) - 1) i, Int.neg_mul]
  congr 1; omega
theorem fl_up (n : Nat) (a b m : Int) (hm : 0 < m) : fl n (a + m) b m = fl n a b m + prs n := by
  unfold fl
  rw [← sm_prs, ← sm_add]
  refine sm_congr n (fun i _ => ?_)
  have e : (a + m) * i + b = (a * i + b) + m * i := by rw [Int.add_mul]; omega
  rw [e, Int.add_mul_ediv_left _ _ (by omega)]
theorem fl_down (n : Nat) (a b m : Int) (hm : 0 < m) : fl n a (b - m) m = fl n a b m - n := by
  unfold fl
  have h : sm (fun i => (a * (i : Int) + (b - m)) / m) n + sm (fun _ => 1) n = sm (fun i => (a * (i : Int) + b) / m) n := by
    rw [← sm_add]
    refine sm_congr n (fun i _ => ?_)
    have e : a * (i : Int) + (b - m) = (a * i + b) + m * (-1) := by omega
    rw [e, Int.add_mul_ediv_left _ _ (by omega)]; omega
  rw [sm_const] at h
  omega
theorem rs_same (n : Nat) (a b m : Int) (hm : 0 < m) : rs n (a - m) (b + m) m = rs n a b m := by
  unfold rs
  refine sm_congr n (fun i _ => ?_)
  have e : (a - m) * (i : Int) + (b + m) = (a * i + b) + m * (1 - i) := by rw [Int.sub_mul, Int.mul_sub]; omega
  rw [e, Int.add_mul_emod_self_left]

/-- Hermite's identity -/
theorem fl_hermite (n : Nat) (b : Int) (hn : 0 < n) : fl n 1 b n = b := by
  have hp : (0 : Int) < n := by omega
  unfold fl
  have q1 := Int.mul_ediv_add_emod b n
  have q2 := Int.emod_nonneg b (show (n : Int) ≠ 0 by omega)
  have q3 := Int.emod_lt_of_pos b hp
  have h : sm (fun i => (1 * (i : Int) + b) / n) n = sm (fun _ => b / n) n + sm (fun i => (1 * (i : Int) + b % n) / n) n := by
    rw [← sm_add]
    refine sm_congr n (fun i _ => ?_)
    have e : 1 * (i : Int) + b = (1 * (i : Int) + b % n) + n * (b / n) := by omega
    rw [e, Int.add_mul_ediv_left _ _ (by omega)]; omega
  have h2 : sm (fun i => (1 * (i : Int) + b % n) / n) n = b % n := by
    have e2 : ∀ i : Nat, i < n → (1 * ((n - 1 - i : Nat) : Int) + b % n) / n = if ((i : Int) + 1) * 1 ≤ b % n then 1 else 0 := by
      intro i hi
      have c : ((n - 1 - i : Nat) : Int) = n - 1 - i := by omega
      rw [c]
      by_cases hh : ((i : Int) + 1) * 1 ≤ b % n
      · rw [if_pos hh]
        have e : 1 * ((n : Int) - 1 - i) + b % n = (b % n - 1 - i) + n * 1 := by omega
        rw [e, Int.add_mul_ediv_left _ _ (by omega), Int.ediv_eq_zero_of_lt (by omega) (by omega)]; rfl
      · rw [if_neg hh]
        exact Int.ediv_eq_zero_of_lt (by omega) (by omega)
    rw [← sm_rev, sm_congr n e2, cnt_le (by omega) q2 n (by rw [Int.ediv_one]; omega), Int.ediv_one]
  rw [h, h2, sm_const, Int.mul_comm]
  exact q1

/-- multiples over a number without a common divisor -/
theorem fl_recip (n a : Nat) (hn : 0 < n) (hg : Nat.gcd a n = 1) : 2 * fl n a 0 n = ((a : Int) - 1) * ((n : Int) - 1) := by
  obtain ⟨k, rfl⟩ : ∃ k, n = k + 1 := ⟨n - 1, by omega⟩
  unfold fl
  rw [sm_head]
  have hp : (0 : Int) < ((k + 1 : Nat) : Int) := by omega
  have z : ((a : Int) * ((0 : Nat) : Int) + 0) / ((k + 1 : Nat) : Int) = 0 := by simp
  rw [z, Int.zero_add]
  have h : sm (fun i => ((a : Int) * ((i + 1 : Nat) : Int) + 0) / ((k + 1 : Nat) : Int)) k + sm (fun i => ((a : Int) * ((k - 1 - i + 1 : Nat) : Int) + 0) / ((k + 1 : Nat) : Int)) k = sm (fun _ => (a : Int) - 1) k := by
    rw [← sm_add]
    refine sm_congr k (fun i hi => ?_)
    have c : ((k - 1 - i + 1 : Nat) : Int) = ((k + 1 : Nat) : Int) - ((i + 1 : Nat) : Int) := by omega
    rw [c, Int.mul_sub]
    have hnd : ¬ ((a : Int) * ((i + 1 : Nat) : Int)) % ((k + 1 : Nat) : Int) = 0 := by
      intro hd
      have h1 : (k + 1) ∣ a * (i + 1) := by
        refine Nat.dvd_of_mod_eq_zero ?_
        have h2 : ((a * (i + 1) % (k + 1) : Nat) : Int) = 0 := by rw [Int.natCast_emod, Int.natCast_mul]; exact hd
        omega
      have h3 : Nat.Coprime (k + 1) a := by rw [Nat.Coprime, Nat.gcd_comm]; exact hg
      have h4 := Nat.le_of_dvd (by omega) (h3.dvd_of_dvd_mul_left h1)
      omega
    generalize (a : Int) * ((i + 1 : Nat) : Int) = x at *
    generalize hN : ((k + 1 : Nat) : Int) = N at *
    have q1 := Int.mul_ediv_add_emod x N
    have q2 := Int.emod_nonneg x (show N ≠ 0 by omega)
    have q3 := Int.emod_lt_of_pos x hp
    have e : (a : Int) * N - x + 0 = (N - x % N) + N * (a - x / N - 1) := by
      have e0 : N * ((a : Int) - x / N - 1) = (a : Int) * N - N * (x / N) - N := by rw [Int.mul_sub, Int.mul_sub, Int.mul_comm N (a : Int)]; omega
      omega
    rw [Int.add_zero x, e, Int.add_mul_ediv_left _ _ (by omega), show (N - x % N) / N = 0 from Int.ediv_eq_zero_of_lt (by omega) (by omega)]
    omega
  rw [sm_rev (fun i => ((a : Int) * ((i + 1 : Nat) : Int) + 0) / ((k + 1 : Nat) : Int)), sm_const] at h
  have e2 : ((k + 1 : Nat) : Int) - 1 = k := by omega
  rw [e2]
  omega
end Go.Proofs.YtmpfbkeamihjbaaGreat

namespace Go.Proofs.YtmpfbkeamihjbaaGreat
open Go.RowKit

theorem fsum_pairs (n : Int) (h0 : 0 ≤ n) (h1 : n ≤ 256) (w : World) :
    Calls Tryz.prog 163 #[.int .i64 n] w fun e w' => e = .returned (.int .i64 (prs n)) ∧ Below w.heap.size w w' := by
  have hp : ∃ x, n * (n - 1) = x ∧ 0 ≤ x ∧ x ≤ 65536 := by
    refine ⟨_, rfl, ?_, ?_⟩
    · by_cases hz : n = 0
      · subst hz; simp
      · exact Int.mul_nonneg h0 (by omega)
    · have h2 : n * (n - 1) ≤ 256 * 256 := by
        by_cases hz : n = 0
        · subst hz; simp
        · exact Int.mul_le_mul h1 (by omega) (by omega) (by omega)
      omega
  obtain ⟨x, hx, x0, x1⟩ := hp
  have e : prs n = x / 2 := by unfold prs; rw [hx]
  rw [e]
  clear e
  go_enter Tryz.func163, Tryz.ntmps163
  go_wp2
  go_ret
  exact ⟨rfl, b0 w⟩

/-- may a number be a term? -/
def trB (x : Int) : Bool := decide (-2596148429267413814265248164610048 ≤ x ∧ x ≤ 2596148429267413814265248164610048)

theorem term_walk (x c1 c2 : Int) (r : Bool) (h : (c1 ≤ 0 ∧ 0 ≤ c2 ∧ r = true) ∨ (¬ c1 ≤ 0 ∧ r = false) ∨ (c1 ≤ 0 ∧ ¬ 0 ≤ c2 ∧ r = false))
    (d1 : ∀ w, Calls Tryz.prog 162 #[.agg #[.int .i64 (hi x), .int .u64 (lo x)], .agg #[.int .i64 140737488355328, .int .u64 0]] w fun e w' => e = .returned (.int .i64 c1) ∧ Below w.heap.size w w')
    (d2 : ∀ w, Calls Tryz.prog 162 #[.agg #[.int .i64 (hi x), .int .u64 (lo x)], .agg #[.int .i64 (-140737488355328), .int .u64 0]] w fun e w' => e = .returned (.int .i64 c2) ∧ Below w.heap.size w w') (w : World) :
    Calls Tryz.prog 155 #[.agg #[.int .i64 (hi x), .int .u64 (lo x)]] w fun e w' => e = .returned (.bool r) ∧ Below w.heap.size w w' := by
  rcases h with ⟨h1, h2, rfl⟩ | ⟨h1, rfl⟩ | ⟨h1, h2, rfl⟩
  · have e1 : decide (c1 ≤ 0) = true := decide_eq_true h1
    have e2 : decide (0 ≤ c2) = true := decide_eq_true h2
    go_enter Tryz.func155, Tryz.ntmps155
    go_wp2_with fail
    refine (d1 _).mono ?_
    rintro e w1 ⟨rfl, hb1⟩
    have f_x1 := kp hb1 (na _ _ _)
    have hB1 := bB (bA (b0 w) _) hb1
    obtain ⟨zx_a, zx_b, lx1⟩ := rcell f_x1
    go_wp2_with fail
    refine (d2 _).mono ?_
    rintro e w2 ⟨rfl, hb2⟩
    have f_x2 := kp hb2 (f_x1)
    have hB2 := bB hB1 hb2
    clear zx_a zx_b
    obtain ⟨zx_a, zx_b, lx2⟩ := rcell f_x2
    go_wp2
    go_ret
    exact ⟨by simp [e2], hB2⟩
  · have e1 : decide (c1 ≤ 0) = false := decide_eq_false h1
    go_enter Tryz.func155, Tryz.ntmps155
    go_wp2_with fail
    refine (d1 _).mono ?_
    rintro e w1 ⟨rfl, hb1⟩
    have f_x1 := kp hb1 (na _ _ _)
    have hB1 := bB (bA (b0 w) _) hb1
    obtain ⟨zx_a, zx_b, lx1⟩ := rcell f_x1
    go_wp2
    go_ret
    exact ⟨rfl, hB1⟩
  · have e1 : decide (c1 ≤ 0) = true := decide_eq_true h1
    have e2 : decide (0 ≤ c2) = false := decide_eq_false h2
    go_enter Tryz.func155, Tryz.ntmps155
    go_wp2_with fail
    refine (d1 _).mono ?_
    rintro e w1 ⟨rfl, hb1⟩
    have f_x1 := kp hb1 (na _ _ _)
    have hB1 := bB (bA (b0 w) _) hb1
    obtain ⟨zx_a, zx_b, lx1⟩ := rcell f_x1
    go_wp2_with fail
    refine (d2 _).mono ?_
    rintro e w2 ⟨rfl, hb2⟩
    have f_x2 := kp hb2 (f_x1)
    have hB2 := bB hB1 hb2
    clear zx_a zx_b
    obtain ⟨zx_a, zx_b, lx2⟩ := rcell f_x2
    go_wp2
    go_ret
    exact ⟨by simp [e2], hB2⟩

theorem fsum_term (x : Int) (h : Rng x) (w : World) :
    Calls Tryz.prog 155 #[.agg #[.int .i64 (hi x), .int .u64 (lo x)]] w fun e w' => e = .returned (.bool (trB x)) ∧ Below w.heap.size w w' := by
  have d1 := wide_Compare x 2596148429267413814265248164610048 h ⟨by decide, by decide⟩
  have d2 := wide_Compare x (-2596148429267413814265248164610048) h ⟨by decide, by decide⟩
  rw [show hi 2596148429267413814265248164610048 = 140737488355328 by decide +kernel, show lo 2596148429267413814265248164610048 = 0 by decide +kernel] at d1
  rw [show hi (-2596148429267413814265248164610048) = -140737488355328 by decide +kernel, show lo (-2596148429267413814265248164610048) = 0 by decide +kernel] at d2
  refine term_walk x _ _ _ ?_ d1 d2 w
  unfold trB cmpI
  by_cases k1 : x ≤ 2596148429267413814265248164610048
  · by_cases k2 : -2596148429267413814265248164610048 ≤ x
    · refine .inl ⟨?_, ?_, decide_eq_true ⟨k2, k1⟩⟩
      · split
        · omega
        · split <;> omega
      · split
        · omega
        · split <;> omega
    · refine .inr (.inr ⟨?_, ?_, decide_eq_false fun h => k2 h.1⟩)
      · split
        · omega
        · split <;> omega
      · rw [if_pos (by omega)]; omega
  · refine .inr (.inl ⟨?_, decide_eq_false fun h => k1 h.2⟩)
    rw [if_neg (by omega), if_neg (by omega)]; omega

/-- one turn, in numbers -/
theorem small_turn (n a b m t S : Int) (n0 : 0 ≤ n) (n1 : n ≤ 256) (a0 : 0 ≤ a) (b0 : 0 ≤ b) (m1 : 1 ≤ m) (m2 : m ≤ 281474976710656) (t0 : 0 ≤ t) (hS : t + fl n.toNat a b m = S) (S1 : S ≤ 1099511627776) :
    (0 ≤ a / m * prs n ∧ a / m * prs n ≤ 1099511627776) ∧ (0 ≤ b / m * n ∧ b / m * n ≤ 1099511627776) ∧ (0 ≤ t + (a / m * prs n + b / m * n) ∧ t + (a / m * prs n + b / m * n) ≤ 1099511627776) ∧ (0 ≤ a % m ∧ a % m < m) ∧ (0 ≤ b % m ∧ b % m < m) ∧ (0 ≤ a % m * n ∧ a % m * n ≤ 72057594037927936) ∧
    (a % m * n + b % m < m → t + (a / m * prs n + b / m * n) = S) ∧
    (¬ a % m * n + b % m < m → (0 ≤ (a % m * n + b % m) / m ∧ (a % m * n + b % m) / m ≤ n) ∧ (0 ≤ (a % m * n + b % m) % m ∧ (a % m * n + b % m) % m < m) ∧ 1 ≤ a % m ∧
      t + (a / m * prs n + b / m * n) + fl ((a % m * n + b % m) / m).toNat m ((a % m * n + b % m) % m) (a % m) = S) := by
  have hn : ((n.toNat : Nat) : Int) = n := Int.toNat_of_nonneg n0
  have hm := fl_mod n.toNat a b m (by omega)
  rw [hn] at hm
  have x1 : 0 ≤ a % m := Int.emod_nonneg _ (by omega)
  have x2 : a % m < m := Int.emod_lt_of_pos _ (by omega)
  have y1 : 0 ≤ b % m := Int.emod_nonneg _ (by omega)
  have y2 : b % m < m := Int.emod_lt_of_pos _ (by omega)
  have p0 : 0 ≤ prs n := by rw [← hn]; exact prs_nn _
  have q1 : 0 ≤ a / m * prs n := Int.mul_nonneg (Int.ediv_nonneg a0 (by omega)) p0
  have q2 : 0 ≤ b / m * n := Int.mul_nonneg (Int.ediv_nonneg b0 (by omega)) n0
  have f0 := fl_nn n.toNat (a % m) (b % m) m (by omega) x1 y1
  have z1 : 0 ≤ a % m * n := Int.mul_nonneg x1 n0
  have z2 : a % m * n ≤ 281474976710656 * 256 := Int.mul_le_mul (by omega) n1 n0 (by omega)
  refine ⟨⟨q1, by omega⟩, ⟨q2, by omega⟩, ⟨by omega, by omega⟩, ⟨x1, x2⟩, ⟨y1, y2⟩, ⟨z1, by omega⟩, fun h => ?_, fun h => ?_⟩
  · have := fl_small n.toNat (a % m) (b % m) m (by omega) x1 y1 (by rw [hn]; exact h)
    omega
  · have w1 : 0 ≤ (a % m * n + b % m) % m := Int.emod_nonneg _ (by omega)
    have w2 : (a % m * n + b % m) % m < m := Int.emod_lt_of_pos _ (by omega)
    have w3 : 0 ≤ (a % m * n + b % m) / m := Int.ediv_nonneg (by omega) (by omega)
    have w4 : (a % m * n + b % m) / m ≤ n := by
      have g : a % m * n ≤ (m - 1) * n := Int.mul_le_mul_of_nonneg_right (by omega) n0
      have : (a % m * n + b % m) / m < n + 1 := Int.ediv_lt_of_lt_mul (by omega) (by rw [Int.add_mul, Int.mul_comm n m]; rw [Int.sub_mul] at g; omega)
      omega
    have e1 : 1 ≤ a % m := by
      by_cases hz : a % m = 0
      · rw [hz] at h; omega
      · omega
    refine ⟨⟨w3, w4⟩, ⟨w1, w2⟩, e1, ?_⟩
    have key := fl_turn n.toNat ((a % m * n + b % m) / m).toNat (a % m) (b % m) m ((a % m * n + b % m) % m) (by omega) (by omega) y1 y2 w1 (by
      rw [hn, Int.toNat_of_nonneg w3]
      have := Int.mul_ediv_add_emod (a % m * n + b % m) m
      rw [Int.mul_comm] at this
      exact this.symm) w2
    rw [← key]
    omega

/-- what holds at the turn's head -/
def smallJ (w : World) (S : Int) (a' : Act) (w' : World) : Prop := Below w.heap.size w w' ∧ ∃ (n a b m t : Int) (u10 u11 u12 u13 u14 u15 u16 u17 u18 u19 u20 u21 u22 u23 u24 u25 u26 u27 u28 u29 u30 u31 u32 u33 u34 u35 u36 u37 u38 u39 u40 u41 u42 u43 u44 u45 u46 : Value), a' = { tmps := #[.int .i64 n, .int .i64 a, .int .i64 b, .int .i64 m, undef, undef, undef, undef, .int .i64 0, .int .i64 t, u10, u11, u12, u13, u14, u15, u16, u17, u18, u19, u20, u21, u22, u23, u24, u25, u26, u27, u28, u29, u30, u31, u32, u33, u34, u35, u36, u37, u38, u39, u40, u41, u42, u43, u44, u45, u46, undef], defers := [] } ∧ 0 ≤ n ∧ n ≤ 256 ∧ 0 ≤ a ∧ a ≤ 281474976710656 ∧ 0 ≤ b ∧ b ≤ 281474976710656 ∧ 1 ≤ m ∧ m ≤ 281474976710656 ∧ 0 ≤ t ∧ Hid (t + fl n.toNat a b m = S)

set_option maxRecDepth 100000 in
set_option maxHeartbeats 2000000 in
theorem fsum_small (n a b m S : Int) (n0 : 0 ≤ n) (n1 : n ≤ 256) (a0 : 0 ≤ a) (a1 : a ≤ 281474976710656) (b0' : 0 ≤ b) (b1 : b ≤ 281474976710656) (m1 : 1 ≤ m) (m2 : m ≤ 281474976710656) (hS : fl n.toNat a b m = S) (S1 : S ≤ 1099511627776) (w : World) :
    Calls Tryz.prog 164 #[.int .i64 n, .int .i64 a, .int .i64 b, .int .i64 m] w fun e w' => e = .returned (.int .i64 S) ∧ Below w.heap.size w w' := by
  have hS' : Hid ((0 : Int) + fl n.toNat a b m = S) := by rw [Hid, Int.zero_add]; exact hS
  clear hS
  go_enter Tryz.func164, Tryz.ntmps164
  go_wp2
  refine wp_scope_jumps 0 (smallJ w S) (fun a' _ => (intOf (a'.tmps.getD 3 undef)).toNat) rfl ?_ ?_
  · have hb0 := b0 w
    have t0 : (0 : Int) ≤ 0 := Int.le_refl _
    have hS := hS'
    clear hS'
    obtain ⟨⟨p1, p2⟩, ⟨r1, r2⟩, ⟨s1, s2⟩, ⟨x1, x2⟩, ⟨y1, y2⟩, ⟨z1, z2⟩, hend, hgo⟩ := small_turn n a b m 0 S n0 n1 a0 b0' m1 m2 t0 hS.out S1
    clear hS
    have nz : ¬ m = 0 := by omega
    have cp := fsum_pairs n n0 n1
    have HE := hide hend
    have HG := hide hgo
    clear hend hgo
    by_cases hl : a % m * n + b % m < m
    simp only [Int.zero_add] at s1 s2 HE HG
    · go_wp2
      go_step3
      go_wp2_with fail
      refine Abs.wp_region_abs (Abs.cls0 _) [0, 1, 2, 3, 4, 5, 6, 7, 8, 9, 10, 11, 12, 13, 14] (by kernel_rfl) (by kernel_rfl) (Below.refl _ _).drew ?_
      repeat (first | (refine Abs.step_pure rfl rfl (fun K hK => ?_); go_simp; (try go_bits); (first | refine hK _ _ ?_ | (simp only [↓IntWalk.iteOmega]; go_simp; (try go_bits); refine hK _ _ ?_)); clear hK K) | (refine Abs.step_load (v := ?_) rfl rfl (by kernel_rfl) rfl (fun w0 hI => ?_) (fun K hK => ?_); rotate_left; (· go_simp; rfl); (simp only [Act.put, List.setIfInBounds_toArray, List.set_cons_zero, List.set_cons_succ]; refine hK _ _ ?_; clear hK K)) | (refine Abs.step_skip rfl rfl (fun K hK => ?_); (simp only [Act.put, List.setIfInBounds_toArray, List.set_cons_zero, List.set_cons_succ]; refine hK _ _ ?_; clear hK K)))
      (refine Abs.step_call_val (f := ?_) (args := ?_) (v := ?_) rfl rfl rfl rfl (fun w0 => ?_) (fun w0 hI => ?_) (fun K hK => ?_); rotate_left 3; (· go_simp; (constructor <;> rfl)); (· exact cp _); (simp only [Act.put, List.setIfInBounds_toArray, List.set_cons_zero, List.set_cons_succ]; refine hK _ _ ?_; clear hK K))
      repeat (first | (refine Abs.step_pure rfl rfl (fun K hK => ?_); go_simp; (try go_bits); (first | refine hK _ _ ?_ | (simp only [↓IntWalk.iteOmega]; go_simp; (try go_bits); refine hK _ _ ?_)); clear hK K) | (refine Abs.step_load (v := ?_) rfl rfl (by kernel_rfl) rfl (fun w0 hI => ?_) (fun K hK => ?_); rotate_left; (· go_simp; rfl); (simp only [Act.put, List.setIfInBounds_toArray, List.set_cons_zero, List.set_cons_succ]; refine hK _ _ ?_; clear hK K)) | (refine Abs.step_skip rfl rfl (fun K hK => ?_); (simp only [Act.put, List.setIfInBounds_toArray, List.set_cons_zero, List.set_cons_succ]; refine hK _ _ ?_; clear hK K)))
      (intro wB hB hx0 hx1 hx2; clear hx0 hx1 hx2; simp only [Abs.T_setF, Abs.T_addA, Abs.T_push, Abs.T_start])
      go_wp2_with fail
      refine Abs.wp_region_abs (Abs.cls0 _) [0, 1, 2, 3, 4, 5, 6, 7] (by kernel_rfl) (by kernel_rfl) (Below.refl _ _).drew ?_
      repeat (first | (refine Abs.step_pure rfl rfl (fun K hK => ?_); go_simp; (try go_bits); (first | refine hK _ _ ?_ | (simp only [↓IntWalk.iteOmega]; go_simp; (try go_bits); refine hK _ _ ?_)); clear hK K) | (refine Abs.step_load (v := ?_) rfl rfl (by kernel_rfl) rfl (fun w0 hI => ?_) (fun K hK => ?_); rotate_left; (· go_simp; rfl); (simp only [Act.put, List.setIfInBounds_toArray, List.set_cons_zero, List.set_cons_succ]; refine hK _ _ ?_; clear hK K)) | (refine Abs.step_skip rfl rfl (fun K hK => ?_); (simp only [Act.put, List.setIfInBounds_toArray, List.set_cons_zero, List.set_cons_succ]; refine hK _ _ ?_; clear hK K)))
      (intro wC hC hx0 hx1 hx2; clear hx0 hx1 hx2; simp only [Abs.T_setF, Abs.T_addA, Abs.T_push, Abs.T_start])
      go_wp2_with fail
      simp only [Exit.jump]
      go_ret
      exact ⟨by rw [HE.out hl]; rfl, bB (bB hb0 hB) hC⟩
    · obtain ⟨⟨g1, g2⟩, ⟨g3, g4⟩, g5, g6⟩ := HG.out hl
      have G6 := hide g6
      clear HG HE g6
      have hl2 : ¬ a % m * n + b % m < m := hl
      go_wp2
      go_step3
      go_wp2_with fail
      refine Abs.wp_region_abs (Abs.cls0 _) [0, 1, 2, 3, 4, 5, 6, 7, 8, 9, 10, 11, 12, 13, 14] (by kernel_rfl) (by kernel_rfl) (Below.refl _ _).drew ?_
      repeat (first | (refine Abs.step_pure rfl rfl (fun K hK => ?_); go_simp; (try go_bits); (first | refine hK _ _ ?_ | (simp only [↓IntWalk.iteOmega]; go_simp; (try go_bits); refine hK _ _ ?_)); clear hK K) | (refine Abs.step_load (v := ?_) rfl rfl (by kernel_rfl) rfl (fun w0 hI => ?_) (fun K hK => ?_); rotate_left; (· go_simp; rfl); (simp only [Act.put, List.setIfInBounds_toArray, List.set_cons_zero, List.set_cons_succ]; refine hK _ _ ?_; clear hK K)) | (refine Abs.step_skip rfl rfl (fun K hK => ?_); (simp only [Act.put, List.setIfInBounds_toArray, List.set_cons_zero, List.set_cons_succ]; refine hK _ _ ?_; clear hK K)))
      (refine Abs.step_call_val (f := ?_) (args := ?_) (v := ?_) rfl rfl rfl rfl (fun w0 => ?_) (fun w0 hI => ?_) (fun K hK => ?_); rotate_left 3; (· go_simp; (constructor <;> rfl)); (· exact cp _); (simp only [Act.put, List.setIfInBounds_toArray, List.set_cons_zero, List.set_cons_succ]; refine hK _ _ ?_; clear hK K))
      repeat (first | (refine Abs.step_pure rfl rfl (fun K hK => ?_); go_simp; (try go_bits); (first | refine hK _ _ ?_ | (simp only [↓IntWalk.iteOmega]; go_simp; (try go_bits); refine hK _ _ ?_)); clear hK K) | (refine Abs.step_load (v := ?_) rfl rfl (by kernel_rfl) rfl (fun w0 hI => ?_) (fun K hK => ?_); rotate_left; (· go_simp; rfl); (simp only [Act.put, List.setIfInBounds_toArray, List.set_cons_zero, List.set_cons_succ]; refine hK _ _ ?_; clear hK K)) | (refine Abs.step_skip rfl rfl (fun K hK => ?_); (simp only [Act.put, List.setIfInBounds_toArray, List.set_cons_zero, List.set_cons_succ]; refine hK _ _ ?_; clear hK K)))
      (intro wB hB hx0 hx1 hx2; clear hx0 hx1 hx2; simp only [Abs.T_setF, Abs.T_addA, Abs.T_push, Abs.T_start])
      go_wp2_with fail
      refine Abs.wp_region_abs (Abs.cls0 _) [0, 1, 2, 3, 4, 5, 6, 7] (by kernel_rfl) (by kernel_rfl) (Below.refl _ _).drew ?_
      repeat (first | (refine Abs.step_pure rfl rfl (fun K hK => ?_); go_simp; (try go_bits); (first | refine hK _ _ ?_ | (simp only [↓IntWalk.iteOmega]; go_simp; (try go_bits); refine hK _ _ ?_)); clear hK K) | (refine Abs.step_load (v := ?_) rfl rfl (by kernel_rfl) rfl (fun w0 hI => ?_) (fun K hK => ?_); rotate_left; (· go_simp; rfl); (simp only [Act.put, List.setIfInBounds_toArray, List.set_cons_zero, List.set_cons_succ]; refine hK _ _ ?_; clear hK K)) | (refine Abs.step_skip rfl rfl (fun K hK => ?_); (simp only [Act.put, List.setIfInBounds_toArray, List.set_cons_zero, List.set_cons_succ]; refine hK _ _ ?_; clear hK K)))
      (intro wC hC hx0 hx1 hx2; clear hx0 hx1 hx2; simp only [Abs.T_setF, Abs.T_addA, Abs.T_push, Abs.T_start])
      go_wp2_with fail
      refine Abs.wp_region_abs (Abs.cls0 _) [0, 1, 2, 3, 4, 5, 6, 7] (by kernel_rfl) (by kernel_rfl) (Below.refl _ _).drew ?_
      repeat (first | (refine Abs.step_pure rfl rfl (fun K hK => ?_); go_simp; (try go_bits); (first | refine hK _ _ ?_ | (simp only [↓IntWalk.iteOmega]; go_simp; (try go_bits); refine hK _ _ ?_)); clear hK K) | (refine Abs.step_load (v := ?_) rfl rfl (by kernel_rfl) rfl (fun w0 hI => ?_) (fun K hK => ?_); rotate_left; (· go_simp; rfl); (simp only [Act.put, List.setIfInBounds_toArray, List.set_cons_zero, List.set_cons_succ]; refine hK _ _ ?_; clear hK K)) | (refine Abs.step_skip rfl rfl (fun K hK => ?_); (simp only [Act.put, List.setIfInBounds_toArray, List.set_cons_zero, List.set_cons_succ]; refine hK _ _ ?_; clear hK K)))
      (intro wD hD hx0 hx1 hx2; clear hx0 hx1 hx2; simp only [Abs.T_setF, Abs.T_addA, Abs.T_push, Abs.T_start])
      go_wp2
      go_step3
      go_wp2
      have e9 : (a % m * n + b % m) % m = (a % m * n + b) % m := by simp
      rw [e9] at g3 g4
      have G7 := G6.out
      rw [e9] at G7
      rw [Int.zero_add] at G7 s1
      exact ⟨rfl, bB (bB (bB hb0 hB) hC) hD, _, _, _, _, _, _, _, _, _, _, _, _, _, _, _, _, _, _, _, _, _, _, _, _, _, _, _, _, _, _, _, _, _, _, _, _, _, _, _, _, _, _, rfl, g1, by omega, by omega, m2, g3, by omega, g5, by omega, s1, G7⟩
  · rintro a' wA ⟨hb0, n, a, b, m, t, u10, u11, u12, u13, u14, u15, u16, u17, u18, u19, u20, u21, u22, u23, u24, u25, u26, u27, u28, u29, u30, u31, u32, u33, u34, u35, u36, u37, u38, u39, u40, u41, u42, u43, u44, u45, u46, rfl, n0, n1, a0, a1, b0', b1, m1, m2, t0, hS⟩
    obtain ⟨⟨p1, p2⟩, ⟨r1, r2⟩, ⟨s1, s2⟩, ⟨x1, x2⟩, ⟨y1, y2⟩, ⟨z1, z2⟩, hend, hgo⟩ := small_turn n a b m t S n0 n1 a0 b0' m1 m2 t0 hS.out S1
    clear hS
    have nz : ¬ m = 0 := by omega
    have cp := fsum_pairs n n0 n1
    have HE := hide hend
    have HG := hide hgo
    clear hend hgo
    by_cases hl : a % m * n + b % m < m
    · go_wp2_with fail
      refine Abs.wp_region_abs (Abs.cls0 _) [0, 1, 2, 3, 4, 5, 6, 7, 8, 9, 10, 11, 12, 13, 14] (by kernel_rfl) (by kernel_rfl) (Below.refl _ _).drew ?_
      repeat (first | (refine Abs.step_pure rfl rfl (fun K hK => ?_); go_simp; (try go_bits); (first | refine hK _ _ ?_ | (simp only [↓IntWalk.iteOmega]; go_simp; (try go_bits); refine hK _ _ ?_)); clear hK K) | (refine Abs.step_load (v := ?_) rfl rfl (by kernel_rfl) rfl (fun w0 hI => ?_) (fun K hK => ?_); rotate_left; (· go_simp; rfl); (simp only [Act.put, List.setIfInBounds_toArray, List.set_cons_zero, List.set_cons_succ]; refine hK _ _ ?_; clear hK K)) | (refine Abs.step_skip rfl rfl (fun K hK => ?_); (simp only [Act.put, List.setIfInBounds_toArray, List.set_cons_zero, List.set_cons_succ]; refine hK _ _ ?_; clear hK K)))
      (refine Abs.step_call_val (f := ?_) (args := ?_) (v := ?_) rfl rfl rfl rfl (fun w0 => ?_) (fun w0 hI => ?_) (fun K hK => ?_); rotate_left 3; (· go_simp; (constructor <;> rfl)); (· exact cp _); (simp only [Act.put, List.setIfInBounds_toArray, List.set_cons_zero, List.set_cons_succ]; refine hK _ _ ?_; clear hK K))
      repeat (first | (refine Abs.step_pure rfl rfl (fun K hK => ?_); go_simp; (try go_bits); (first | refine hK _ _ ?_ | (simp only [↓IntWalk.iteOmega]; go_simp; (try go_bits); refine hK _ _ ?_)); clear hK K) | (refine Abs.step_load (v := ?_) rfl rfl (by kernel_rfl) rfl (fun w0 hI => ?_) (fun K hK => ?_); rotate_left; (· go_simp; rfl); (simp only [Act.put, List.setIfInBounds_toArray, List.set_cons_zero, List.set_cons_succ]; refine hK _ _ ?_; clear hK K)) | (refine Abs.step_skip rfl rfl (fun K hK => ?_); (simp only [Act.put, List.setIfInBounds_toArray, List.set_cons_zero, List.set_cons_succ]; refine hK _ _ ?_; clear hK K)))
      (intro wB hB hx0 hx1 hx2; clear hx0 hx1 hx2; simp only [Abs.T_setF, Abs.T_addA, Abs.T_push, Abs.T_start])
      go_wp2_with fail
      refine Abs.wp_region_abs (Abs.cls0 _) [0, 1, 2, 3, 4, 5, 6, 7] (by kernel_rfl) (by kernel_rfl) (Below.refl _ _).drew ?_
      repeat (first | (refine Abs.step_pure rfl rfl (fun K hK => ?_); go_simp; (try go_bits); (first | refine hK _ _ ?_ | (simp only [↓IntWalk.iteOmega]; go_simp; (try go_bits); refine hK _ _ ?_)); clear hK K) | (refine Abs.step_load (v := ?_) rfl rfl (by kernel_rfl) rfl (fun w0 hI => ?_) (fun K hK => ?_); rotate_left; (· go_simp; rfl); (simp only [Act.put, List.setIfInBounds_toArray, List.set_cons_zero, List.set_cons_succ]; refine hK _ _ ?_; clear hK K)) | (refine Abs.step_skip rfl rfl (fun K hK => ?_); (simp only [Act.put, List.setIfInBounds_toArray, List.set_cons_zero, List.set_cons_succ]; refine hK _ _ ?_; clear hK K)))
      (intro wC hC hx0 hx1 hx2; clear hx0 hx1 hx2; simp only [Abs.T_setF, Abs.T_addA, Abs.T_push, Abs.T_start])
      go_wp2_with fail
      simp only [Exit.jump]
      go_ret
      exact ⟨by rw [HE.out hl]; rfl, bB (bB hb0 hB) hC⟩
    · obtain ⟨⟨g1, g2⟩, ⟨g3, g4⟩, g5, g6⟩ := HG.out hl
      have G6 := hide g6
      clear HG HE g6
      have hl2 : ¬ a % m * n + b % m < m := hl
      go_wp2_with fail
      refine Abs.wp_region_abs (Abs.cls0 _) [0, 1, 2, 3, 4, 5, 6, 7, 8, 9, 10, 11, 12, 13, 14] (by kernel_rfl) (by kernel_rfl) (Below.refl _ _).drew ?_
      repeat (first | (refine Abs.step_pure rfl rfl (fun K hK => ?_); go_simp; (try go_bits); (first | refine hK _ _ ?_ | (simp only [↓IntWalk.iteOmega]; go_simp; (try go_bits); refine hK _ _ ?_)); clear hK K) | (refine Abs.step_load (v := ?_) rfl rfl (by kernel_rfl) rfl (fun w0 hI => ?_) (fun K hK => ?_); rotate_left; (· go_simp; rfl); (simp only [Act.put, List.setIfInBounds_toArray, List.set_cons_zero, List.set_cons_succ]; refine hK _ _ ?_; clear hK K)) | (refine Abs.step_skip rfl rfl (fun K hK => ?_); (simp only [Act.put, List.setIfInBounds_toArray, List.set_cons_zero, List.set_cons_succ]; refine hK _ _ ?_; clear hK K)))
      (refine Abs.step_call_val (f := ?_) (args := ?_) (v := ?_) rfl rfl rfl rfl (fun w0 => ?_) (fun w0 hI => ?_) (fun K hK => ?_); rotate_left 3; (· go_simp; (constructor <;> rfl)); (· exact cp _); (simp only [Act.put, List.setIfInBounds_toArray, List.set_cons_zero, List.set_cons_succ]; refine hK _ _ ?_; clear hK K))
      repeat (first | (refine Abs.step_pure rfl rfl (fun K hK => ?_); go_simp; (try go_bits); (first | refine hK _ _ ?_ | (simp only [↓IntWalk.iteOmega]; go_simp; (try go_bits); refine hK _ _ ?_)); clear hK K) | (refine Abs.step_load (v := ?_) rfl rfl (by kernel_rfl) rfl (fun w0 hI => ?_) (fun K hK => ?_); rotate_left; (· go_simp; rfl); (simp only [Act.put, List.setIfInBounds_toArray, List.set_cons_zero, List.set_cons_succ]; refine hK _ _ ?_; clear hK K)) | (refine Abs.step_skip rfl rfl (fun K hK => ?_); (simp only [Act.put, List.setIfInBounds_toArray, List.set_cons_zero, List.set_cons_succ]; refine hK _ _ ?_; clear hK K)))
      (intro wB hB hx0 hx1 hx2; clear hx0 hx1 hx2; simp only [Abs.T_setF, Abs.T_addA, Abs.T_push, Abs.T_start])
      go_wp2_with fail
      refine Abs.wp_region_abs (Abs.cls0 _) [0, 1, 2, 3, 4, 5, 6, 7] (by kernel_rfl) (by kernel_rfl) (Below.refl _ _).drew ?_
      repeat (first | (refine Abs.step_pure rfl rfl (fun K hK => ?_); go_simp; (try go_bits); (first | refine hK _ _ ?_ | (simp only [↓IntWalk.iteOmega]; go_simp; (try go_bits); refine hK _ _ ?_)); clear hK K) | (refine Abs.step_load (v := ?_) rfl rfl (by kernel_rfl) rfl (fun w0 hI => ?_) (fun K hK => ?_); rotate_left; (· go_simp; rfl); (simp only [Act.put, List.setIfInBounds_toArray, List.set_cons_zero, List.set_cons_succ]; refine hK _ _ ?_; clear hK K)) | (refine Abs.step_skip rfl rfl (fun K hK => ?_); (simp only [Act.put, List.setIfInBounds_toArray, List.set_cons_zero, List.set_cons_succ]; refine hK _ _ ?_; clear hK K)))
      (intro wC hC hx0 hx1 hx2; clear hx0 hx1 hx2; simp only [Abs.T_setF, Abs.T_addA, Abs.T_push, Abs.T_start])
      go_wp2_with fail
      refine Abs.wp_region_abs (Abs.cls0 _) [0, 1, 2, 3, 4, 5, 6, 7] (by kernel_rfl) (by kernel_rfl) (Below.refl _ _).drew ?_
      repeat (first | (refine Abs.step_pure rfl rfl (fun K hK => ?_); go_simp; (try go_bits); (first | refine hK _ _ ?_ | (simp only [↓IntWalk.iteOmega]; go_simp; (try go_bits); refine hK _ _ ?_)); clear hK K) | (refine Abs.step_load (v := ?_) rfl rfl (by kernel_rfl) rfl (fun w0 hI => ?_) (fun K hK => ?_); rotate_left; (· go_simp; rfl); (simp only [Act.put, List.setIfInBounds_toArray, List.set_cons_zero, List.set_cons_succ]; refine hK _ _ ?_; clear hK K)) | (refine Abs.step_skip rfl rfl (fun K hK => ?_); (simp only [Act.put, List.setIfInBounds_toArray, List.set_cons_zero, List.set_cons_succ]; refine hK _ _ ?_; clear hK K)))
      (intro wD hD hx0 hx1 hx2; clear hx0 hx1 hx2; simp only [Abs.T_setF, Abs.T_addA, Abs.T_push, Abs.T_start])
      go_wp2
      go_step3
      have e9 : (a % m * n + b % m) % m = (a % m * n + b) % m := by simp
      rw [e9] at g3 g4
      have G7 := G6.out
      rw [e9] at G7
      refine ⟨rfl, ⟨bB (bB (bB hb0 hB) hC) hD, _, _, _, _, _, _, _, _, _, _, _, _, _, _, _, _, _, _, _, _, _, _, _, _, _, _, _, _, _, _, _, _, _, _, _, _, _, _, _, _, _, _, rfl, g1, by omega, by omega, m2, g3, by omega, g5, by omega, s1, G7⟩, ?_⟩
      simp [intOf]; omega
end Go.Proofs.YtmpfbkeamihjbaaGreat

namespace Go.Proofs.YtmpfbkeamihjbaaGreat
open Go.RowKit

/-- all but the block g is as it was -/
structure Exc (g : Nat) (w w' : World) : Prop where
  le : g ≤ w.heap.size
  low : Below g w w'
  size : w.heap.size ≤ w'.heap.size
  other : ∀ b, b < w.heap.size → b ≠ g → w'.heap[b]? = w.heap[b]?
theorem Exc.of_below {g : Nat} {w w' : World} (h : Below w.heap.size w w') (hg : g ≤ w.heap.size) : Exc g w w' := ⟨hg, h.mono hg, h.size, fun b hb _ => h.block b hb⟩
theorem Exc.trans {g : Nat} {w w1 w2 : World} (h1 : Exc g w w1) (h2 : Exc g w1 w2) : Exc g w w2 :=
  ⟨h1.le, h1.low.trans h2.low, Nat.le_trans h1.size h2.size, fun b hb hg => (h2.other b (Nat.lt_of_lt_of_le hb h1.size) hg).trans (h1.other b hb hg)⟩
theorem kx {g k : Nat} {W w1 : World} {cs : Array Value} {t : TypeId} (hx : Exc g W w1) (h : W.heap[k]? = some (.cells cs t (0, 0))) (hk : k ≠ g) : w1.heap[k]? = some (.cells cs t (0, 0)) :=
  (hx.other k (rcell h).2.2 hk).trans h
theorem x0 (g : Nat) (w : World) (h : g ≤ w.heap.size) : Exc g w w := Exc.of_below (b0 w) h
theorem xB {g : Nat} {w W w1 : World} (h : Exc g w W) (hb : Below W.heap.size W w1) : Exc g w w1 :=
  ⟨h.le, h.low.trans (hb.mono (Nat.le_trans h.le h.size)), Nat.le_trans h.size hb.size, fun b hb' hg => (hb.block b (Nat.lt_of_lt_of_le hb' h.size)).trans (h.other b hb' hg)⟩
theorem xA {g : Nat} {w W : World} (h : Exc g w W) (o : Obj) : Exc g w (W.alloc o) := xB h (bA (b0 W) o)
theorem bX {k : Nat} {w W w1 : World} (h : Below w.heap.size w W) (hx : Exc k W w1) (hk : w.heap.size ≤ k) : Below w.heap.size w w1 := bG h hx.low hk
theorem xX {g k : Nat} {w W w1 : World} (h : Exc g w W) (hx : Exc k W w1) (hk : k = g ∨ w.heap.size ≤ k ∧ g ≤ k) : Exc g w w1 := by
  rcases hk with rfl | ⟨h1, h2⟩
  · exact h.trans hx
  · exact ⟨h.le, h.low.trans (hx.low.mono h2), Nat.le_trans h.size hx.size, fun b hb hg => (hx.other b (Nat.lt_of_lt_of_le hb h.size) (by omega)).trans (h.other b hb hg)⟩
theorem fin_x {base w0 w1 : World} {g : Nat} {t : TypeId} {cs cs' : Array Value} (hI : Below base.heap.size base w0) (hF : base.heap[g]? = some (.cells cs t (0, 0))) (hT : setRow w0 g cs' = w1) :
    Exc g base w1 ∧ w1.heap[g]? = some (.cells cs' t (0, 0)) := by
  obtain ⟨hO, hN, hS, hG⟩ := fin_old hI hF hT
  exact ⟨⟨Nat.le_of_lt (rcell hF).2.2, hG, hS, hO⟩, hN⟩
theorem leB {w : World} {g : Nat} (h : (Abs.cls0 w).B ≤ g) : w.heap.size ≤ g := h
theorem na3 (W : World) (o o2 o3 : Obj) (cs : Array Value) (t : TypeId) : ((((W.alloc o).alloc o2).alloc o3).alloc (.cells cs t)).heap[W.heap.size + 1 + 1 + 1]? = some (.cells cs t (0, 0)) := by
  have := na (((W.alloc o).alloc o2).alloc o3) cs t
  simp only [World.size_alloc] at this
  exact this
theorem na4 (W : World) (o o2 o3 o4 : Obj) (cs : Array Value) (t : TypeId) : (((((W.alloc o).alloc o2).alloc o3).alloc o4).alloc (.cells cs t)).heap[W.heap.size + 1 + 1 + 1 + 1]? = some (.cells cs t (0, 0)) := by
  have := na ((((W.alloc o).alloc o2).alloc o3).alloc o4) cs t
  simp only [World.size_alloc] at this
  exact this

theorem row6 {w : World} {g : Nat} {a0 a1 a2 a3 a4 a5 : Value} {t : TypeId} {f : Nat × Nat} (h : w.heap[g]? = some (.cells #[a0, a1, a2, a3, a4, a5] t f)) (v0 v1 v2 v3 v4 v5 : Value) :
    (((((w.setCell ⟨g, 0, none⟩ v0).setCell ⟨g, 1, none⟩ v1).setCell ⟨g, 2, none⟩ v2).setCell ⟨g, 3, none⟩ v3).setCell ⟨g, 4, none⟩ v4).setCell ⟨g, 5, none⟩ v5 = setRow w g #[v0, v1, v2, v3, v4, v5] := by
  rw [setRow_of_setCell (cs' := #[v0, a1, a2, a3, a4, a5]) h v0 rfl, setRow_of_setCell (cs' := #[v0, v1, a2, a3, a4, a5]) (setRow_same h) v1 rfl, setRow_setRow,
    setRow_of_setCell (cs' := #[v0, v1, v2, a3, a4, a5]) (setRow_same h) v2 rfl, setRow_setRow, setRow_of_setCell (cs' := #[v0, v1, v2, v3, a4, a5]) (setRow_same h) v3 rfl, setRow_setRow,
    setRow_of_setCell (cs' := #[v0, v1, v2, v3, v4, a5]) (setRow_same h) v4 rfl, setRow_setRow, setRow_of_setCell (cs' := #[v0, v1, v2, v3, v4, v5]) (setRow_same h) v5 rfl, setRow_setRow]
/-- a pair is put at the head of a row of eight -/
theorem r8_2 {w : World} {g : Nat} {a0 a1 a2 a3 a4 a5 a6 a7 : Value} {t : TypeId} {f : Nat × Nat} (h : w.heap[g]? = some (.cells #[a0, a1, a2, a3, a4, a5, a6, a7] t f)) (v0 v1 : Value) :
    (w.setCell ⟨g, 0, none⟩ v0).setCell ⟨g, 1, none⟩ v1 = setRow w g #[v0, v1, a2, a3, a4, a5, a6, a7] := by
  rw [setRow_of_setCell (cs' := #[v0, a1, a2, a3, a4, a5, a6, a7]) h v0 rfl, setRow_of_setCell (cs' := #[v0, v1, a2, a3, a4, a5, a6, a7]) (setRow_same h) v1 rfl, setRow_setRow]
end Go.Proofs.YtmpfbkeamihjbaaGreat
