/- The package line at this program: what its small functions come to. -/
import Derived.Test.YtfdaabdibpcjeaaWide5
set_option linter.unusedSimpArgs false
set_option linter.unusedVariables false
namespace Go.Proofs.Ytfdaabdibpcjeaa
open Go.RowKit

def gcdI (a b : Int) : Int := (Int.gcd a b : Nat)
theorem gcdI_step (x y : Nat) (_h : x ≠ 0) : Nat.gcd (y % x) x = Nat.gcd x y := (Nat.gcd_rec x y).symm

set_option maxRecDepth 100000 in
theorem divisor_nn (n m : Nat) (hn : n < 9223372036854775808) (hm : m < 9223372036854775808) (a : Int) (ha : a = n ∨ a = -n) (w : World) :
    Calls Try.prog 71 #[.int .i64 a, .int .i64 m] w fun e w' => e = .returned (.int .i64 (Nat.gcd n m : Nat)) ∧ w = w' := by
  go_enter Try.func71, Try.ntmps71
  go_wp2
  refine wp_scope_jumps 0 (fun a' w' => w = w' ∧ ∃ (x y : Nat) (u5 u6 u7 u8 u9 u10 u11 u12 u13 u14 : Value), a' = { tmps := #[.int .i64 x, .int .i64 y, undef, undef, .int .i64 0, u5, u6, u7, u8, u9, u10, u11, u12, u13, u14, undef], defers := [] } ∧ x < 9223372036854775808 ∧ y < 9223372036854775808 ∧ Hid (Nat.gcd x y = Nat.gcd n m)) (fun a' _ => (intOf (a'.tmps.getD 0 undef)).toNat) rfl ?_ ?_
  · have HN := hide (show Nat.gcd n m = Nat.gcd n m from rfl)
    by_cases hneg : a < 0
    · have e0 : a = -n := by omega
      subst e0
      have hp : 0 < n := by omega
      have h1 : ((n : Int) == 0) = false := by simp; omega
      have h2 : ¬ (n : Int) = 0 := by omega
      have h3 : (m : Int) % n = ((m % n : Nat) : Int) := by simp
      have h4 : m % n < n := Nat.mod_lt _ hp
      have H3 := hide h3
      clear h3
      go_wp2
      go_step3
      go_wp2
      go_step3
      rw [H3.out]
      refine ⟨rfl, rfl, m % n, n, _, _, _, _, _, _, _, _, _, _, rfl, by omega, hn, gcdI_step n m (by omega)⟩
    · have e0 : a = n := by omega
      subst e0
      by_cases hz : n = 0
      · subst hz
        go_wp2
        go_step3
        go_wp2
        simp only [Exit.jump]
        go_ret
        exact ⟨by simp, rfl⟩
      · have h1 : ((n : Int) == 0) = false := by simp; omega
        have h2 : ¬ (n : Int) = 0 := by omega
        have h3 : (m : Int) % n = ((m % n : Nat) : Int) := by simp
        have h4 : m % n < n := Nat.mod_lt _ (by omega)
        have H3 := hide h3
        clear h3
        go_wp2
        go_step3
        go_wp2
        go_step3
        rw [H3.out]
        refine ⟨rfl, rfl, m % n, n, _, _, _, _, _, _, _, _, _, _, rfl, by omega, hn, gcdI_step n m (by omega)⟩
  · rintro a' w' ⟨rfl, x, y, u5, u6, u7, u8, u9, u10, u11, u12, u13, u14, rfl, hx, hy, HG⟩
    by_cases h0 : x = 0
    · subst h0
      go_wp2
      simp only [Exit.jump]
      go_ret
      have := HG.out
      rw [Nat.gcd_zero_left] at this
      exact ⟨by simp [this], rfl⟩
    · have h1 : ((x : Int) == 0) = false := by simp; omega
      have h2 : ¬ (x : Int) = 0 := by omega
      have h3 : (y : Int) % x = ((y % x : Nat) : Int) := by simp
      have h4 : y % x < x := Nat.mod_lt _ (by omega)
      have H3 := hide h3
      clear h3
      go_wp2
      go_step3
      rw [H3.out]
      refine ⟨rfl, ⟨rfl, y % x, x, _, _, _, _, _, _, _, _, _, _, rfl, by omega, hx, ?_⟩, ?_⟩
      · rw [Hid, gcdI_step x y h0]; exact HG.out
      · simp [intOf]; omega

def bkB (v : Int) : Bool := decide (-2305844108725321728 ≤ v ∧ v ≤ 2305844108725321728)
def tmB (t : Int) : Bool := decide (0 ≤ t ∧ t ≤ 281474976710656)
def slB (N D : Int) : Bool := decide (1 ≤ D ∧ D ≤ 281474976710656 ∧ -4611688217450643456 ≤ N ∧ N ≤ 4611688217450643456)

theorem line_back (v : Int) (w : World) : Calls Try.prog 49 #[.int .i64 v] w fun e w' => e = .returned (.bool (bkB v)) ∧ w = w' := by
  by_cases h1 : -2305844108725321728 ≤ v
  · by_cases h2 : v ≤ 2305844108725321728
    · have hb : bkB v = true := decide_eq_true ⟨h1, h2⟩
      rw [hb]
      clear hb
      go_enter Try.func49, Try.ntmps49
      go_wp2
      go_ret
      exact ⟨rfl, rfl⟩
    · have hb : bkB v = false := decide_eq_false (fun h => h2 h.2)
      rw [hb]
      clear hb
      go_enter Try.func49, Try.ntmps49
      go_wp2
      go_ret
      exact ⟨rfl, rfl⟩
  · have hb : bkB v = false := decide_eq_false (fun h => h1 h.1)
    rw [hb]
    clear hb
    go_enter Try.func49, Try.ntmps49
    go_wp2
    go_ret
    exact ⟨rfl, rfl⟩

theorem line_timeIs (v : Int) (w : World) : Calls Try.prog 59 #[.int .i64 v] w fun e w' => e = .returned (.bool (tmB v)) ∧ w = w' := by
  by_cases h1 : 0 ≤ v
  · by_cases h2 : v ≤ 281474976710656
    · have hb : tmB v = true := decide_eq_true ⟨h1, h2⟩
      rw [hb]
      clear hb
      go_enter Try.func59, Try.ntmps59
      go_wp2
      go_ret
      exact ⟨rfl, rfl⟩
    · have hb : tmB v = false := decide_eq_false (fun h => h2 h.2)
      rw [hb]
      clear hb
      go_enter Try.func59, Try.ntmps59
      go_wp2
      go_ret
      exact ⟨rfl, rfl⟩
  · have hb : tmB v = false := decide_eq_false (fun h => h1 h.1)
    rw [hb]
    clear hb
    go_enter Try.func59, Try.ntmps59
    go_wp2
    go_ret
    exact ⟨rfl, rfl⟩

set_option maxHeartbeats 1000000 in
theorem line_slopeIs (N D : Int) (w : World) : Calls Try.prog 48 #[.agg #[.int .i64 N, .int .i64 D]] w fun e w' => e = .returned (.bool (slB N D)) ∧ Below w.heap.size w w' := by
  have fin : ∀ b : Bool, slB N D = b → (Calls Try.prog 48 #[.agg #[.int .i64 N, .int .i64 D]] w fun e w' => e = .returned (.bool b) ∧ Below w.heap.size w w') → Calls Try.prog 48 #[.agg #[.int .i64 N, .int .i64 D]] w fun e w' => e = .returned (.bool (slB N D)) ∧ Below w.heap.size w w' := fun b hb h => by rw [hb]; exact h
  by_cases h1 : 1 ≤ D
  · by_cases h2 : D ≤ 281474976710656
    · by_cases h3 : -4611688217450643456 ≤ N
      · by_cases h4 : N ≤ 4611688217450643456
        · refine fin true (decide_eq_true ⟨h1, h2, h3, h4⟩) ?_
          clear fin
          go_enter Try.func48, Try.ntmps48
          go_wp2
          go_ret
          exact ⟨rfl, bA (b0 w) _⟩
        · refine fin false (decide_eq_false fun h => h4 h.2.2.2) ?_
          clear fin
          go_enter Try.func48, Try.ntmps48
          go_wp2
          go_ret
          exact ⟨rfl, bA (b0 w) _⟩
      · refine fin false (decide_eq_false fun h => h3 h.2.2.1) ?_
        clear fin
        go_enter Try.func48, Try.ntmps48
        go_wp2
        go_ret
        exact ⟨rfl, bA (b0 w) _⟩
    · refine fin false (decide_eq_false fun h => h2 h.2.1) ?_
      clear fin
      go_enter Try.func48, Try.ntmps48
      go_wp2
      go_ret
      exact ⟨rfl, bA (b0 w) _⟩
  · refine fin false (decide_eq_false fun h => h1 h.1) ?_
    clear fin
    go_enter Try.func48, Try.ntmps48
    go_wp2
    go_ret
    exact ⟨rfl, bA (b0 w) _⟩

/-- the divisor of a slope's two numbers -/
def dvN (N D : Int) : Nat := Nat.gcd N.natAbs D.toNat
def lwN (N D : Int) : Int := N / dvN N D
def lwD (N D : Int) : Int := D / dvN N D

theorem dvN_pos {N D : Int} (h : 1 ≤ D) : 0 < dvN N D := Nat.gcd_pos_of_pos_right _ (by omega)
theorem dvN_le {N D : Int} (h : 1 ≤ D) : (dvN N D : Int) ≤ D := by
  have : dvN N D ≤ D.toNat := Nat.gcd_le_right _ (by omega)
  omega
theorem dvN_dvdN (N D : Int) : (dvN N D : Int) ∣ N := Int.ofNat_dvd_left.2 (Nat.gcd_dvd_left _ _)
theorem dvN_dvdD {N D : Int} (h : 1 ≤ D) : (dvN N D : Int) ∣ D := by
  have : dvN N D ∣ D.natAbs := by
    have e : D.natAbs = D.toNat := by omega
    rw [e]; exact Nat.gcd_dvd_right _ _
  exact Int.ofNat_dvd_left.2 this
theorem lwN_mul {N D : Int} : lwN N D * dvN N D = N := Int.ediv_mul_cancel (dvN_dvdN N D)
theorem lwD_mul {N D : Int} (h : 1 ≤ D) : lwD N D * dvN N D = D := Int.ediv_mul_cancel (dvN_dvdD h)
theorem lwD_pos {N D : Int} (h : 1 ≤ D) : 1 ≤ lwD N D := by
  have h1 := lwD_mul (N := N) h
  have h2 := dvN_pos (N := N) h
  by_cases hc : lwD N D ≤ 0
  · have : lwD N D * (dvN N D : Int) ≤ 0 := Int.mul_nonpos_of_nonpos_of_nonneg hc (by omega)
    omega
  · omega
theorem lwD_le {N D : Int} (h : 1 ≤ D) : lwD N D ≤ D := Int.ediv_le_self _ (by omega)
theorem lwN_bd {N D : Int} (h : 1 ≤ D) : -(N.natAbs : Int) ≤ lwN N D ∧ lwN N D ≤ N.natAbs := by
  have h1 := lwN_mul (N := N) (D := D)
  have h2 := dvN_pos (N := N) h
  have h3 : ((lwN N D).natAbs : Int) * (dvN N D : Int) = N.natAbs := by
    have := congrArg Int.natAbs h1
    rw [Int.natAbs_mul, Int.natAbs_natCast] at this
    rw [← this]; simp
  have h4 : ((lwN N D).natAbs : Int) * 1 ≤ (lwN N D).natAbs * (dvN N D : Int) := Int.mul_le_mul_of_nonneg_left (by omega) (by omega)
  omega

set_option maxHeartbeats 1000000 in
theorem line_lowest (N D : Int) (hD : 1 ≤ D) (hD' : D < 9223372036854775808) (h1 : -9223372036854775808 < N) (h2 : N < 9223372036854775808) (w : World) :
    Calls Try.prog 50 #[.agg #[.int .i64 N, .int .i64 D]] w fun e w' => e = .returned (.agg #[.int .i64 (lwN N D), .int .i64 (lwD N D)]) ∧ Below w.heap.size w w' := by
  have d := divisor_nn N.natAbs D.toNat (by omega) (by omega) N (by omega)
  rw [show ((D.toNat : Nat) : Int) = D by omega] at d
  have p1 := dvN_pos (N := N) hD
  obtain ⟨p3, p4⟩ := lwN_bd (N := N) hD
  have p5 := lwD_pos (N := N) hD
  have p6 := lwD_le (N := N) hD
  have t1 : N.tdiv (dvN N D : Int) = lwN N D := Int.tdiv_eq_ediv_of_dvd (dvN_dvdN N D)
  have t2 : D.tdiv (dvN N D : Int) = lwD N D := Int.tdiv_eq_ediv_of_dvd (dvN_dvdD hD)
  have t3 : D / (dvN N D : Int) = lwD N D := rfl
  have t4 : N / (dvN N D : Int) = lwN N D := rfl
  change ∀ w, Calls _ _ _ w fun e w' => e = .returned (.int .i64 (dvN N D : Nat)) ∧ w = w' at d
  generalize lwN N D = n' at *
  generalize lwD N D = d' at *
  generalize dvN N D = g at *
  have nz : ¬ (g : Int) = 0 := by omega
  have b1 : -9223372036854775808 ≤ n' := by omega
  have b2 : n' < 9223372036854775808 := by omega
  clear p3 p4
  go_enter Try.func50, Try.ntmps50
  go_wp2_with (go_at_call 71; refine (d _).mono ?_; rintro e w1 ⟨rfl, rfl⟩)
  have a0 := ka (na w #[.int .i64 N, .int .i64 D] 52) (.cells #[.int .i64 0, .int .i64 0] 52)
  have r0 := na1 w (.cells #[.int .i64 N, .int .i64 D] 52) #[.int .i64 0, .int .i64 0] 52
  refine Abs.wp_region_abs (Abs.cls0 _) [0, 1, 2, 3, 4, 5, 6, 7, 8, 9] (by kernel_rfl) (by kernel_rfl) (Below.refl _ _).drew ?_
  repeat (first | (refine Abs.step_pure rfl rfl (fun K hK => ?_); go_simp; (try go_bits); (first | refine hK _ _ ?_ | (simp only [↓IntWalk.iteOmega]; go_simp; (try go_bits); refine hK _ _ ?_)); clear hK K) | (refine Abs.step_load (v := ?_) rfl rfl (by kernel_rfl) rfl (fun w0 hI => ?_) (fun K hK => ?_); rotate_left; (· have z0 := (rcell (kp hI a0)).1; go_simp; rfl); (simp only [Act.put, List.setIfInBounds_toArray, List.set_cons_zero, List.set_cons_succ]; refine hK _ _ ?_; clear hK K)) | (refine Abs.step_skip rfl rfl (fun K hK => ?_); (simp only [Act.put, List.setIfInBounds_toArray, List.set_cons_zero, List.set_cons_succ]; refine hK _ _ ?_; clear hK K)))
  (refine Abs.step_store (T := ?_) rfl rfl rfl (fun w0 hI hF hU => ?_) (fun w0 hI hU hJ => ?_) (fun K hK => ?_); rotate_left; (· have hR := kp hI r0; have hg0 := (rcell hR).1; have hg1 := (rcell hR).2.1; simp only [Abs.T_setF, Abs.T_addA, Abs.T_push, Abs.T_start]; go_simp; exact row2 hR _ _); (· first | exact trivial | exact js hJ rfl _ | exact js hJ (Or.inl rfl) _ | exact js hJ (Or.inr rfl) _); (simp only [Act.put, List.setIfInBounds_toArray, List.set_cons_zero, List.set_cons_succ]; refine hK _ _ ?_; clear hK K))
  (intro w0 hI hF hx1 hx2; clear hx1 hx2 hF; simp only [Abs.T_push]; generalize hT : setRow w0 _ _ = w4; obtain ⟨hO, hN, hS, hG⟩ := fin_old hI r0 hT; clear hT hI w0)
  have zE := (rcell hN).1
  go_wp2
  refine bodyPost_ret (by simp [results, Try.results50, go_sem, zE]; try rfl) rfl ⟨rfl, bG (bA (bA (b0 w) _) _) hG (by omega)⟩
end Go.Proofs.Ytfdaabdibpcjeaa
