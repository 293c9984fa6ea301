/- The package fsum at this program: pairs, term, small. -/
import Derived.Test.YtlgjapjcdpikeaaFsumM
import Derived.ScopeJumps
set_option linter.unusedSimpArgs false
set_option linter.unusedVariables false
namespace Go.Proofs.Ytlgjapjcdpikeaa
open Go.RowKit

theorem fsum_pairs (n : Int) (h0 : 0 ≤ n) (h1 : n ≤ 256) (w : World) :
    Calls Try.prog 83 #[.int .i64 n] w fun e w' => e = .returned (.int .i64 (prs n)) ∧ Below w.heap.size w w' := by
  have hp : ∃ x, n * (n - 1) = x ∧ 0 ≤ x ∧ x ≤ 65536 := by
    refine ⟨_, rfl, ?_, ?_⟩
    · by_cases hz : n = 0
      · subst hz; simp
      · exact Int.mul_nonneg h0 (by omega)
    · have h2 : n * (n - 1) ≤ 256 * 256 := by
        by_cases hz : n = 0
        · subst hz; simp
        · exact Int.mul_le_mul h1 (by omega) (by omega) (by omega)
      omega
  obtain ⟨x, hx, x0, x1⟩ := hp
  have e : prs n = x / 2 := by unfold prs; rw [hx]
  rw [e]
  clear e
  go_enter Try.func83, Try.ntmps83
  go_wp2
  go_ret
  exact ⟨rfl, b0 w⟩

/-- may a number be a term? -/
def trB (x : Int) : Bool := decide (-2596148429267413814265248164610048 ≤ x ∧ x ≤ 2596148429267413814265248164610048)

theorem term_walk (x c1 c2 : Int) (r : Bool) (h : (c1 ≤ 0 ∧ 0 ≤ c2 ∧ r = true) ∨ (¬ c1 ≤ 0 ∧ r = false) ∨ (c1 ≤ 0 ∧ ¬ 0 ≤ c2 ∧ r = false))
    (d1 : ∀ w, Calls Try.prog 55 #[.agg #[.int .i64 (hi x), .int .u64 (lo x)], .agg #[.int .i64 140737488355328, .int .u64 0]] w fun e w' => e = .returned (.int .i64 c1) ∧ Below w.heap.size w w')
    (d2 : ∀ w, Calls Try.prog 55 #[.agg #[.int .i64 (hi x), .int .u64 (lo x)], .agg #[.int .i64 (-140737488355328), .int .u64 0]] w fun e w' => e = .returned (.int .i64 c2) ∧ Below w.heap.size w w') (w : World) :
    Calls Try.prog 103 #[.agg #[.int .i64 (hi x), .int .u64 (lo x)]] w fun e w' => e = .returned (.bool r) ∧ Below w.heap.size w w' := by
  rcases h with ⟨h1, h2, rfl⟩ | ⟨h1, rfl⟩ | ⟨h1, h2, rfl⟩
  · have e1 : decide (c1 ≤ 0) = true := decide_eq_true h1
    have e2 : decide (0 ≤ c2) = true := decide_eq_true h2
    go_enter Try.func103, Try.ntmps103
    go_wp2_with fail
    refine (d1 _).mono ?_
    rintro e w1 ⟨rfl, hb1⟩
    have f_x1 := kp hb1 (na _ _ _)
    have hB1 := bB (bA (b0 w) _) hb1
    obtain ⟨zx_a, zx_b, lx1⟩ := rcell f_x1
    go_wp2_with fail
    refine (d2 _).mono ?_
    rintro e w2 ⟨rfl, hb2⟩
    have f_x2 := kp hb2 (f_x1)
    have hB2 := bB hB1 hb2
    clear zx_a zx_b
    obtain ⟨zx_a, zx_b, lx2⟩ := rcell f_x2
    go_wp2
    go_ret
    exact ⟨by simp [e2], hB2⟩
  · have e1 : decide (c1 ≤ 0) = false := decide_eq_false h1
    go_enter Try.func103, Try.ntmps103
    go_wp2_with fail
    refine (d1 _).mono ?_
    rintro e w1 ⟨rfl, hb1⟩
    have f_x1 := kp hb1 (na _ _ _)
    have hB1 := bB (bA (b0 w) _) hb1
    obtain ⟨zx_a, zx_b, lx1⟩ := rcell f_x1
    go_wp2
    go_ret
    exact ⟨rfl, hB1⟩
  · have e1 : decide (c1 ≤ 0) = true := decide_eq_true h1
    have e2 : decide (0 ≤ c2) = false := decide_eq_false h2
    go_enter Try.func103, Try.ntmps103
    go_wp2_with fail
    refine (d1 _).mono ?_
    rintro e w1 ⟨rfl, hb1⟩
    have f_x1 := kp hb1 (na _ _ _)
    have hB1 := bB (bA (b0 w) _) hb1
    obtain ⟨zx_a, zx_b, lx1⟩ := rcell f_x1
    go_wp2_with fail
    refine (d2 _).mono ?_
    rintro e w2 ⟨rfl, hb2⟩
    have f_x2 := kp hb2 (f_x1)
    have hB2 := bB hB1 hb2
    clear zx_a zx_b
    obtain ⟨zx_a, zx_b, lx2⟩ := rcell f_x2
    go_wp2
    go_ret
    exact ⟨by simp [e2], hB2⟩

theorem fsum_term (x : Int) (h : Rng x) (w : World) :
    Calls Try.prog 103 #[.agg #[.int .i64 (hi x), .int .u64 (lo x)]] w fun e w' => e = .returned (.bool (trB x)) ∧ Below w.heap.size w w' := by
  have d1 := wide_Compare x 2596148429267413814265248164610048 h ⟨by decide, by decide⟩
  have d2 := wide_Compare x (-2596148429267413814265248164610048) h ⟨by decide, by decide⟩
  rw [show hi 2596148429267413814265248164610048 = 140737488355328 by decide +kernel, show lo 2596148429267413814265248164610048 = 0 by decide +kernel] at d1
  rw [show hi (-2596148429267413814265248164610048) = -140737488355328 by decide +kernel, show lo (-2596148429267413814265248164610048) = 0 by decide +kernel] at d2
  refine term_walk x _ _ _ ?_ d1 d2 w
  unfold trB cmpI
  by_cases k1 : x ≤ 2596148429267413814265248164610048
  · by_cases k2 : -2596148429267413814265248164610048 ≤ x
    · refine .inl ⟨?_, ?_, decide_eq_true ⟨k2, k1⟩⟩
      · split
        · omega
        · split <;> omega
      · split
        · omega
        · split <;> omega
    · refine .inr (.inr ⟨?_, ?_, decide_eq_false fun h => k2 h.1⟩)
      · split
        · omega
        · split <;> omega
      · rw [if_pos (by omega)]; omega
  · refine .inr (.inl ⟨?_, decide_eq_false fun h => k1 h.2⟩)
    rw [if_neg (by omega), if_neg (by omega)]; omega

/-- one turn, in numbers -/
theorem small_turn (n a b m t S : Int) (n0 : 0 ≤ n) (n1 : n ≤ 256) (a0 : 0 ≤ a) (b0 : 0 ≤ b) (m1 : 1 ≤ m) (m2 : m ≤ 281474976710656) (t0 : 0 ≤ t) (hS : t + fl n.toNat a b m = S) (S1 : S ≤ 1099511627776) :
    (0 ≤ a / m * prs n ∧ a / m * prs n ≤ 1099511627776) ∧ (0 ≤ b / m * n ∧ b / m * n ≤ 1099511627776) ∧ (0 ≤ t + (a / m * prs n + b / m * n) ∧ t + (a / m * prs n + b / m * n) ≤ 1099511627776) ∧ (0 ≤ a % m ∧ a % m < m) ∧ (0 ≤ b % m ∧ b % m < m) ∧ (0 ≤ a % m * n ∧ a % m * n ≤ 72057594037927936) ∧
    (a % m * n + b % m < m → t + (a / m * prs n + b / m * n) = S) ∧
    (¬ a % m * n + b % m < m → (0 ≤ (a % m * n + b % m) / m ∧ (a % m * n + b % m) / m ≤ n) ∧ (0 ≤ (a % m * n + b % m) % m ∧ (a % m * n + b % m) % m < m) ∧ 1 ≤ a % m ∧
      t + (a / m * prs n + b / m * n) + fl ((a % m * n + b % m) / m).toNat m ((a % m * n + b % m) % m) (a % m) = S) := by
  have hn : ((n.toNat : Nat) : Int) = n := Int.toNat_of_nonneg n0
  have hm := fl_mod n.toNat a b m (by omega)
  rw [hn] at hm
  have x1 : 0 ≤ a % m := Int.emod_nonneg _ (by omega)
  have x2 : a % m < m := Int.emod_lt_of_pos _ (by omega)
  have y1 : 0 ≤ b % m := Int.emod_nonneg _ (by omega)
  have y2 : b % m < m := Int.emod_lt_of_pos _ (by omega)
  have p0 : 0 ≤ prs n := by rw [← hn]; exact prs_nn _
  have q1 : 0 ≤ a / m * prs n := Int.mul_nonneg (Int.ediv_nonneg a0 (by omega)) p0
  have q2 : 0 ≤ b / m * n := Int.mul_nonneg (Int.ediv_nonneg b0 (by omega)) n0
  have f0 := fl_nn n.toNat (a % m) (b % m) m (by omega) x1 y1
  have z1 : 0 ≤ a % m * n := Int.mul_nonneg x1 n0
  have z2 : a % m * n ≤ 281474976710656 * 256 := Int.mul_le_mul (by omega) n1 n0 (by omega)
  refine ⟨⟨q1, by omega⟩, ⟨q2, by omega⟩, ⟨by omega, by omega⟩, ⟨x1, x2⟩, ⟨y1, y2⟩, ⟨z1, by omega⟩, fun h => ?_, fun h => ?_⟩
  · have := fl_small n.toNat (a % m) (b % m) m (by omega) x1 y1 (by rw [hn]; exact h)
    omega
  · have w1 : 0 ≤ (a % m * n + b % m) % m := Int.emod_nonneg _ (by omega)
    have w2 : (a % m * n + b % m) % m < m := Int.emod_lt_of_pos _ (by omega)
    have w3 : 0 ≤ (a % m * n + b % m) / m := Int.ediv_nonneg (by omega) (by omega)
    have w4 : (a % m * n + b % m) / m ≤ n := by
      have g : a % m * n ≤ (m - 1) * n := Int.mul_le_mul_of_nonneg_right (by omega) n0
      have : (a % m * n + b % m) / m < n + 1 := Int.ediv_lt_of_lt_mul (by omega) (by rw [Int.add_mul, Int.mul_comm n m]; rw [Int.sub_mul] at g; omega)
      omega
    have e1 : 1 ≤ a % m := by
      by_cases hz : a % m = 0
      · rw [hz] at h; omega
      · omega
    refine ⟨⟨w3, w4⟩, ⟨w1, w2⟩, e1, ?_⟩
    have key := fl_turn n.toNat ((a % m * n + b % m) / m).toNat (a % m) (b % m) m ((a % m * n + b % m) % m) (by omega) (by omega) y1 y2 w1 (by
      rw [hn, Int.toNat_of_nonneg w3]
      have := Int.mul_ediv_add_emod (a % m * n + b % m) m
      rw [Int.mul_comm] at this
      exact this.symm) w2
    rw [← key]
    omega

/-- what holds at the turn's head -/
def smallJ (w : World) (S : Int) (a' : Act) (w' : World) : Prop := Below w.heap.size w w' ∧ ∃ (n a b m t : Int) (u10 u11 u12 u13 u14 u15 u16 u17 u18 u19 u20 u21 u22 u23 u24 u25 u26 u27 u28 u29 u30 u31 u32 u33 u34 u35 u36 u37 u38 u39 u40 u41 u42 u43 u44 u45 u46 : Value), a' = { tmps := #[.int .i64 n, .int .i64 a, .int .i64 b, .int .i64 m, undef, undef, undef, undef, .int .i64 0, .int .i64 t, u10, u11, u12, u13, u14, u15, u16, u17, u18, u19, u20, u21, u22, u23, u24, u25, u26, u27, u28, u29, u30, u31, u32, u33, u34, u35, u36, u37, u38, u39, u40, u41, u42, u43, u44, u45, u46, undef], defers := [] } ∧ 0 ≤ n ∧ n ≤ 256 ∧ 0 ≤ a ∧ a ≤ 281474976710656 ∧ 0 ≤ b ∧ b ≤ 281474976710656 ∧ 1 ≤ m ∧ m ≤ 281474976710656 ∧ 0 ≤ t ∧ Hid (t + fl n.toNat a b m = S)

set_option maxRecDepth 100000 in
set_option maxHeartbeats 2000000 in
theorem fsum_small (n a b m S : Int) (n0 : 0 ≤ n) (n1 : n ≤ 256) (a0 : 0 ≤ a) (a1 : a ≤ 281474976710656) (b0' : 0 ≤ b) (b1 : b ≤ 281474976710656) (m1 : 1 ≤ m) (m2 : m ≤ 281474976710656) (hS : fl n.toNat a b m = S) (S1 : S ≤ 1099511627776) (w : World) :
    Calls Try.prog 112 #[.int .i64 n, .int .i64 a, .int .i64 b, .int .i64 m] w fun e w' => e = .returned (.int .i64 S) ∧ Below w.heap.size w w' := by
  have hS' : Hid ((0 : Int) + fl n.toNat a b m = S) := by rw [Hid, Int.zero_add]; exact hS
  clear hS
  go_enter Try.func112, Try.ntmps112
  go_wp2
  refine wp_scope_jumps 0 (smallJ w S) (fun a' _ => (intOf (a'.tmps.getD 3 undef)).toNat) rfl ?_ ?_
  · have hb0 := b0 w
    have t0 : (0 : Int) ≤ 0 := Int.le_refl _
    have hS := hS'
    clear hS'
    obtain ⟨⟨p1, p2⟩, ⟨r1, r2⟩, ⟨s1, s2⟩, ⟨x1, x2⟩, ⟨y1, y2⟩, ⟨z1, z2⟩, hend, hgo⟩ := small_turn n a b m 0 S n0 n1 a0 b0' m1 m2 t0 hS.out S1
    clear hS
    have nz : ¬ m = 0 := by omega
    have cp := fsum_pairs n n0 n1
    have HE := hide hend
    have HG := hide hgo
    clear hend hgo
    by_cases hl : a % m * n + b % m < m
    simp only [Int.zero_add] at s1 s2 HE HG
    · go_wp2
      go_step3
      go_wp2_with fail
      refine Abs.wp_region_abs (Abs.cls0 _) [0, 1, 2, 3, 4, 5, 6, 7, 8, 9, 10, 11, 12, 13, 14] (by kernel_rfl) (by kernel_rfl) (Below.refl _ _).drew ?_
      repeat (first | (refine Abs.step_pure rfl rfl (fun K hK => ?_); go_simp; (try go_bits); (first | refine hK _ _ ?_ | (simp only [↓IntWalk.iteOmega]; go_simp; (try go_bits); refine hK _ _ ?_)); clear hK K) | (refine Abs.step_load (v := ?_) rfl rfl (by kernel_rfl) rfl (fun w0 hI => ?_) (fun K hK => ?_); rotate_left; (· go_simp; rfl); (simp only [Act.put, List.setIfInBounds_toArray, List.set_cons_zero, List.set_cons_succ]; refine hK _ _ ?_; clear hK K)) | (refine Abs.step_skip rfl rfl (fun K hK => ?_); (simp only [Act.put, List.setIfInBounds_toArray, List.set_cons_zero, List.set_cons_succ]; refine hK _ _ ?_; clear hK K)))
      (refine Abs.step_call_val (f := ?_) (args := ?_) (v := ?_) rfl rfl rfl rfl (fun w0 => ?_) (fun w0 hI => ?_) (fun K hK => ?_); rotate_left 3; (· go_simp; (constructor <;> rfl)); (· exact cp _); (simp only [Act.put, List.setIfInBounds_toArray, List.set_cons_zero, List.set_cons_succ]; refine hK _ _ ?_; clear hK K))
      repeat (first | (refine Abs.step_pure rfl rfl (fun K hK => ?_); go_simp; (try go_bits); (first | refine hK _ _ ?_ | (simp only [↓IntWalk.iteOmega]; go_simp; (try go_bits); refine hK _ _ ?_)); clear hK K) | (refine Abs.step_load (v := ?_) rfl rfl (by kernel_rfl) rfl (fun w0 hI => ?_) (fun K hK => ?_); rotate_left; (· go_simp; rfl); (simp only [Act.put, List.setIfInBounds_toArray, List.set_cons_zero, List.set_cons_succ]; refine hK _ _ ?_; clear hK K)) | (refine Abs.step_skip rfl rfl (fun K hK => ?_); (simp only [Act.put, List.setIfInBounds_toArray, List.set_cons_zero, List.set_cons_succ]; refine hK _ _ ?_; clear hK K)))
      (intro wB hB hx0 hx1 hx2; clear hx0 hx1 hx2; simp only [Abs.T_setF, Abs.T_addA, Abs.T_push, Abs.T_start])
      go_wp2_with fail
      refine Abs.wp_region_abs (Abs.cls0 _) [0, 1, 2, 3, 4, 5, 6, 7] (by kernel_rfl) (by kernel_rfl) (Below.refl _ _).drew ?_
      repeat (first | (refine Abs.step_pure rfl rfl (fun K hK => ?_); go_simp; (try go_bits); (first | refine hK _ _ ?_ | (simp only [↓IntWalk.iteOmega]; go_simp; (try go_bits); refine hK _ _ ?_)); clear hK K) | (refine Abs.step_load (v := ?_) rfl rfl (by kernel_rfl) rfl (fun w0 hI => ?_) (fun K hK => ?_); rotate_left; (· go_simp; rfl); (simp only [Act.put, List.setIfInBounds_toArray, List.set_cons_zero, List.set_cons_succ]; refine hK _ _ ?_; clear hK K)) | (refine Abs.step_skip rfl rfl (fun K hK => ?_); (simp only [Act.put, List.setIfInBounds_toArray, List.set_cons_zero, List.set_cons_succ]; refine hK _ _ ?_; clear hK K)))
      (intro wC hC hx0 hx1 hx2; clear hx0 hx1 hx2; simp only [Abs.T_setF, Abs.T_addA, Abs.T_push, Abs.T_start])
      go_wp2_with fail
      simp only [Exit.jump]
      go_ret
      exact ⟨by rw [HE.out hl]; rfl, bB (bB hb0 hB) hC⟩
    · obtain ⟨⟨g1, g2⟩, ⟨g3, g4⟩, g5, g6⟩ := HG.out hl
      have G6 := hide g6
      clear HG HE g6
      have hl2 : ¬ a % m * n + b % m < m := hl
      go_wp2
      go_step3
      go_wp2_with fail
      refine Abs.wp_region_abs (Abs.cls0 _) [0, 1, 2, 3, 4, 5, 6, 7, 8, 9, 10, 11, 12, 13, 14] (by kernel_rfl) (by kernel_rfl) (Below.refl _ _).drew ?_
      repeat (first | (refine Abs.step_pure rfl rfl (fun K hK => ?_); go_simp; (try go_bits); (first | refine hK _ _ ?_ | (simp only [↓IntWalk.iteOmega]; go_simp; (try go_bits); refine hK _ _ ?_)); clear hK K) | (refine Abs.step_load (v := ?_) rfl rfl (by kernel_rfl) rfl (fun w0 hI => ?_) (fun K hK => ?_); rotate_left; (· go_simp; rfl); (simp only [Act.put, List.setIfInBounds_toArray, List.set_cons_zero, List.set_cons_succ]; refine hK _ _ ?_; clear hK K)) | (refine Abs.step_skip rfl rfl (fun K hK => ?_); (simp only [Act.put, List.setIfInBounds_toArray, List.set_cons_zero, List.set_cons_succ]; refine hK _ _ ?_; clear hK K)))
      (refine Abs.step_call_val (f := ?_) (args := ?_) (v := ?_) rfl rfl rfl rfl (fun w0 => ?_) (fun w0 hI => ?_) (fun K hK => ?_); rotate_left 3; (· go_simp; (constructor <;> rfl)); (· exact cp _); (simp only [Act.put, List.setIfInBounds_toArray, List.set_cons_zero, List.set_cons_succ]; refine hK _ _ ?_; clear hK K))
      repeat (first | (refine Abs.step_pure rfl rfl (fun K hK => ?_); go_simp; (try go_bits); (first | refine hK _ _ ?_ | (simp only [↓IntWalk.iteOmega]; go_simp; (try go_bits); refine hK _ _ ?_)); clear hK K) | (refine Abs.step_load (v := ?_) rfl rfl (by kernel_rfl) rfl (fun w0 hI => ?_) (fun K hK => ?_); rotate_left; (· go_simp; rfl); (simp only [Act.put, List.setIfInBounds_toArray, List.set_cons_zero, List.set_cons_succ]; refine hK _ _ ?_; clear hK K)) | (refine Abs.step_skip rfl rfl (fun K hK => ?_); (simp only [Act.put, List.setIfInBounds_toArray, List.set_cons_zero, List.set_cons_succ]; refine hK _ _ ?_; clear hK K)))
      (intro wB hB hx0 hx1 hx2; clear hx0 hx1 hx2; simp only [Abs.T_setF, Abs.T_addA, Abs.T_push, Abs.T_start])
      go_wp2_with fail
      refine Abs.wp_region_abs (Abs.cls0 _) [0, 1, 2, 3, 4, 5, 6, 7] (by kernel_rfl) (by kernel_rfl) (Below.refl _ _).drew ?_
      repeat (first | (refine Abs.step_pure rfl rfl (fun K hK => ?_); go_simp; (try go_bits); (first | refine hK _ _ ?_ | (simp only [↓IntWalk.iteOmega]; go_simp; (try go_bits); refine hK _ _ ?_)); clear hK K) | (refine Abs.step_load (v := ?_) rfl rfl (by kernel_rfl) rfl (fun w0 hI => ?_) (fun K hK => ?_); rotate_left; (· go_simp; rfl); (simp only [Act.put, List.setIfInBounds_toArray, List.set_cons_zero, List.set_cons_succ]; refine hK _ _ ?_; clear hK K)) | (refine Abs.step_skip rfl rfl (fun K hK => ?_); (simp only [Act.put, List.setIfInBounds_toArray, List.set_cons_zero, List.set_cons_succ]; refine hK _ _ ?_; clear hK K)))
      (intro wC hC hx0 hx1 hx2; clear hx0 hx1 hx2; simp only [Abs.T_setF, Abs.T_addA, Abs.T_push, Abs.T_start])
      go_wp2_with fail
      refine Abs.wp_region_abs (Abs.cls0 _) [0, 1, 2, 3, 4, 5, 6, 7] (by kernel_rfl) (by kernel_rfl) (Below.refl _ _).drew ?_
      repeat (first | (refine Abs.step_pure rfl rfl (fun K hK => ?_); go_simp; (try go_bits); (first | refine hK _ _ ?_ | (simp only [↓IntWalk.iteOmega]; go_simp; (try go_bits); refine hK _ _ ?_)); clear hK K) | (refine Abs.step_load (v := ?_) rfl rfl (by kernel_rfl) rfl (fun w0 hI => ?_) (fun K hK => ?_); rotate_left; (· go_simp; rfl); (simp only [Act.put, List.setIfInBounds_toArray, List.set_cons_zero, List.set_cons_succ]; refine hK _ _ ?_; clear hK K)) | (refine Abs.step_skip rfl rfl (fun K hK => ?_); (simp only [Act.put, List.setIfInBounds_toArray, List.set_cons_zero, List.set_cons_succ]; refine hK _ _ ?_; clear hK K)))
      (intro wD hD hx0 hx1 hx2; clear hx0 hx1 hx2; simp only [Abs.T_setF, Abs.T_addA, Abs.T_push, Abs.T_start])
      go_wp2
      go_step3
      go_wp2
      have e9 : (a % m * n + b % m) % m = (a % m * n + b) % m := by simp
      rw [e9] at g3 g4
      have G7 := G6.out
      rw [e9] at G7
      rw [Int.zero_add] at G7 s1
      exact ⟨rfl, bB (bB (bB hb0 hB) hC) hD, _, _, _, _, _, _, _, _, _, _, _, _, _, _, _, _, _, _, _, _, _, _, _, _, _, _, _, _, _, _, _, _, _, _, _, _, _, _, _, _, _, _, rfl, g1, by omega, by omega, m2, g3, by omega, g5, by omega, s1, G7⟩
  · rintro a' wA ⟨hb0, n, a, b, m, t, u10, u11, u12, u13, u14, u15, u16, u17, u18, u19, u20, u21, u22, u23, u24, u25, u26, u27, u28, u29, u30, u31, u32, u33, u34, u35, u36, u37, u38, u39, u40, u41, u42, u43, u44, u45, u46, rfl, n0, n1, a0, a1, b0', b1, m1, m2, t0, hS⟩
    obtain ⟨⟨p1, p2⟩, ⟨r1, r2⟩, ⟨s1, s2⟩, ⟨x1, x2⟩, ⟨y1, y2⟩, ⟨z1, z2⟩, hend, hgo⟩ := small_turn n a b m t S n0 n1 a0 b0' m1 m2 t0 hS.out S1
    clear hS
    have nz : ¬ m = 0 := by omega
    have cp := fsum_pairs n n0 n1
    have HE := hide hend
    have HG := hide hgo
    clear hend hgo
    by_cases hl : a % m * n + b % m < m
    · go_wp2_with fail
      refine Abs.wp_region_abs (Abs.cls0 _) [0, 1, 2, 3, 4, 5, 6, 7, 8, 9, 10, 11, 12, 13, 14] (by kernel_rfl) (by kernel_rfl) (Below.refl _ _).drew ?_
      repeat (first | (refine Abs.step_pure rfl rfl (fun K hK => ?_); go_simp; (try go_bits); (first | refine hK _ _ ?_ | (simp only [↓IntWalk.iteOmega]; go_simp; (try go_bits); refine hK _ _ ?_)); clear hK K) | (refine Abs.step_load (v := ?_) rfl rfl (by kernel_rfl) rfl (fun w0 hI => ?_) (fun K hK => ?_); rotate_left; (· go_simp; rfl); (simp only [Act.put, List.setIfInBounds_toArray, List.set_cons_zero, List.set_cons_succ]; refine hK _ _ ?_; clear hK K)) | (refine Abs.step_skip rfl rfl (fun K hK => ?_); (simp only [Act.put, List.setIfInBounds_toArray, List.set_cons_zero, List.set_cons_succ]; refine hK _ _ ?_; clear hK K)))
      (refine Abs.step_call_val (f := ?_) (args := ?_) (v := ?_) rfl rfl rfl rfl (fun w0 => ?_) (fun w0 hI => ?_) (fun K hK => ?_); rotate_left 3; (· go_simp; (constructor <;> rfl)); (· exact cp _); (simp only [Act.put, List.setIfInBounds_toArray, List.set_cons_zero, List.set_cons_succ]; refine hK _ _ ?_; clear hK K))
      repeat (first | (refine Abs.step_pure rfl rfl (fun K hK => ?_); go_simp; (try go_bits); (first | refine hK _ _ ?_ | (simp only [↓IntWalk.iteOmega]; go_simp; (try go_bits); refine hK _ _ ?_)); clear hK K) | (refine Abs.step_load (v := ?_) rfl rfl (by kernel_rfl) rfl (fun w0 hI => ?_) (fun K hK => ?_); rotate_left; (· go_simp; rfl); (simp only [Act.put, List.setIfInBounds_toArray, List.set_cons_zero, List.set_cons_succ]; refine hK _ _ ?_; clear hK K)) | (refine Abs.step_skip rfl rfl (fun K hK => ?_); (simp only [Act.put, List.setIfInBounds_toArray, List.set_cons_zero, List.set_cons_succ]; refine hK _ _ ?_; clear hK K)))
      (intro wB hB hx0 hx1 hx2; clear hx0 hx1 hx2; simp only [Abs.T_setF, Abs.T_addA, Abs.T_push, Abs.T_start])
      go_wp2_with fail
      refine Abs.wp_region_abs (Abs.cls0 _) [0, 1, 2, 3, 4, 5, 6, 7] (by kernel_rfl) (by kernel_rfl) (Below.refl _ _).drew ?_
      repeat (first | (refine Abs.step_pure rfl rfl (fun K hK => ?_); go_simp; (try go_bits); (first | refine hK _ _ ?_ | (simp only [↓IntWalk.iteOmega]; go_simp; (try go_bits); refine hK _ _ ?_)); clear hK K) | (refine Abs.step_load (v := ?_) rfl rfl (by kernel_rfl) rfl (fun w0 hI => ?_) (fun K hK => ?_); rotate_left; (· go_simp; rfl); (simp only [Act.put, List.setIfInBounds_toArray, List.set_cons_zero, List.set_cons_succ]; refine hK _ _ ?_; clear hK K)) | (refine Abs.step_skip rfl rfl (fun K hK => ?_); (simp only [Act.put, List.setIfInBounds_toArray, List.set_cons_zero, List.set_cons_succ]; refine hK _ _ ?_; clear hK K)))
      (intro wC hC hx0 hx1 hx2; clear hx0 hx1 hx2; simp only [Abs.T_setF, Abs.T_addA, Abs.T_push, Abs.T_start])
      go_wp2_with fail
      simp only [Exit.jump]
      go_ret
      exact ⟨by rw [HE.out hl]; rfl, bB (bB hb0 hB) hC⟩
    · obtain ⟨⟨g1, g2⟩, ⟨g3, g4⟩, g5, g6⟩ := HG.out hl
      have G6 := hide g6
      clear HG HE g6
      have hl2 : ¬ a % m * n + b % m < m := hl
      go_wp2_with fail
      refine Abs.wp_region_abs (Abs.cls0 _) [0, 1, 2, 3, 4, 5, 6, 7, 8, 9, 10, 11, 12, 13, 14] (by kernel_rfl) (by kernel_rfl) (Below.refl _ _).drew ?_
      repeat (first | (refine Abs.step_pure rfl rfl (fun K hK => ?_); go_simp; (try go_bits); (first | refine hK _ _ ?_ | (simp only [↓IntWalk.iteOmega]; go_simp; (try go_bits); refine hK _ _ ?_)); clear hK K) | (refine Abs.step_load (v := ?_) rfl rfl (by kernel_rfl) rfl (fun w0 hI => ?_) (fun K hK => ?_); rotate_left; (· go_simp; rfl); (simp only [Act.put, List.setIfInBounds_toArray, List.set_cons_zero, List.set_cons_succ]; refine hK _ _ ?_; clear hK K)) | (refine Abs.step_skip rfl rfl (fun K hK => ?_); (simp only [Act.put, List.setIfInBounds_toArray, List.set_cons_zero, List.set_cons_succ]; refine hK _ _ ?_; clear hK K)))
      (refine Abs.step_call_val (f := ?_) (args := ?_) (v := ?_) rfl rfl rfl rfl (fun w0 => ?_) (fun w0 hI => ?_) (fun K hK => ?_); rotate_left 3; (· go_simp; (constructor <;> rfl)); (· exact cp _); (simp only [Act.put, List.setIfInBounds_toArray, List.set_cons_zero, List.set_cons_succ]; refine hK _ _ ?_; clear hK K))
      repeat (first | (refine Abs.step_pure rfl rfl (fun K hK => ?_); go_simp; (try go_bits); (first | refine hK _ _ ?_ | (simp only [↓IntWalk.iteOmega]; go_simp; (try go_bits); refine hK _ _ ?_)); clear hK K) | (refine Abs.step_load (v := ?_) rfl rfl (by kernel_rfl) rfl (fun w0 hI => ?_) (fun K hK => ?_); rotate_left; (· go_simp; rfl); (simp only [Act.put, List.setIfInBounds_toArray, List.set_cons_zero, List.set_cons_succ]; refine hK _ _ ?_; clear hK K)) | (refine Abs.step_skip rfl rfl (fun K hK => ?_); (simp only [Act.put, List.setIfInBounds_toArray, List.set_cons_zero, List.set_cons_succ]; refine hK _ _ ?_; clear hK K)))
      (intro wB hB hx0 hx1 hx2; clear hx0 hx1 hx2; simp only [Abs.T_setF, Abs.T_addA, Abs.T_push, Abs.T_start])
      go_wp2_with fail
      refine Abs.wp_region_abs (Abs.cls0 _) [0, 1, 2, 3, 4, 5, 6, 7] (by kernel_rfl) (by kernel_rfl) (Below.refl _ _).drew ?_
      repeat (first | (refine Abs.step_pure rfl rfl (fun K hK => ?_); go_simp; (try go_bits); (first | refine hK _ _ ?_ | (simp only [↓IntWalk.iteOmega]; go_simp; (try go_bits); refine hK _ _ ?_)); clear hK K) | (refine Abs.step_load (v := ?_) rfl rfl (by kernel_rfl) rfl (fun w0 hI => ?_) (fun K hK => ?_); rotate_left; (· go_simp; rfl); (simp only [Act.put, List.setIfInBounds_toArray, List.set_cons_zero, List.set_cons_succ]; refine hK _ _ ?_; clear hK K)) | (refine Abs.step_skip rfl rfl (fun K hK => ?_); (simp only [Act.put, List.setIfInBounds_toArray, List.set_cons_zero, List.set_cons_succ]; refine hK _ _ ?_; clear hK K)))
      (intro wC hC hx0 hx1 hx2; clear hx0 hx1 hx2; simp only [Abs.T_setF, Abs.T_addA, Abs.T_push, Abs.T_start])
      go_wp2_with fail
      refine Abs.wp_region_abs (Abs.cls0 _) [0, 1, 2, 3, 4, 5, 6, 7] (by kernel_rfl) (by kernel_rfl) (Below.refl _ _).drew ?_
      repeat (first | (refine Abs.step_pure rfl rfl (fun K hK => ?_); go_simp; (try go_bits); (first | refine hK _ _ ?_ | (simp only [↓IntWalk.iteOmega]; go_simp; (try go_bits); refine hK _ _ ?_)); clear hK K) | (refine Abs.step_load (v := ?_) rfl rfl (by kernel_rfl) rfl (fun w0 hI => ?_) (fun K hK => ?_); rotate_left; (· go_simp; rfl); (simp only [Act.put, List.setIfInBounds_toArray, List.set_cons_zero, List.set_cons_succ]; refine hK _ _ ?_; clear hK K)) | (refine Abs.step_skip rfl rfl (fun K hK => ?_); (simp only [Act.put, List.setIfInBounds_toArray, List.set_cons_zero, List.set_cons_succ]; refine hK _ _ ?_; clear hK K)))
      (intro wD hD hx0 hx1 hx2; clear hx0 hx1 hx2; simp only [Abs.T_setF, Abs.T_addA, Abs.T_push, Abs.T_start])
      go_wp2
      go_step3
      have e9 : (a % m * n + b % m) % m = (a % m * n + b) % m := by simp
      rw [e9] at g3 g4
      have G7 := G6.out
      rw [e9] at G7
      refine ⟨rfl, ⟨bB (bB (bB hb0 hB) hC) hD, _, _, _, _, _, _, _, _, _, _, _, _, _, _, _, _, _, _, _, _, _, _, _, _, _, _, _, _, _, _, _, _, _, _, _, _, _, _, _, _, _, _, rfl, g1, by omega, by omega, m2, g3, by omega, g5, by omega, s1, G7⟩, ?_⟩
      simp [intOf]; omega
end Go.Proofs.Ytlgjapjcdpikeaa
