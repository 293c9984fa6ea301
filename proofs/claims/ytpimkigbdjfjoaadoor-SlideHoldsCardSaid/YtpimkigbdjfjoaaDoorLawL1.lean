/- (Ray).through at this program. -/
import Derived.Test.YtpimkigbdjfjoaaDoorLawA4
set_option linter.unusedSimpArgs false
set_option linter.unusedVariables false
namespace Go.Proofs.YtpimkigbdjfjoaaDoor
open Go.RowKit
attribute [local go_sem] Oper.semAt_some

/-- a ray at a band -/
def rayW (A R N D dt lo hi : Int) : Bool := decide (lo * D ≤ A * D + N * dt + R ∧ A * D + N * dt + R ≤ hi * D)
def rayB (A R N D t0 : Int) (l : List Bd) : Bool := l.all fun b => rayW A R N D (b.t - t0) b.lo b.hi
theorem rayB_take {A R N D t0 : Int} {l : List Bd} {k : Nat} (hk : k < l.length) : rayB A R N D t0 (l.take (k + 1)) = (rayB A R N D t0 (l.take k) && rayW A R N D ((bd l k).t - t0) (bd l k).lo (bd l k).hi) := by
  unfold rayB
  rw [take_snoc l k hk, List.all_append, bd_eq hk]
  simp
theorem rayB_no {A R N D t0 : Int} {l : List Bd} {k : Nat} (h : rayB A R N D t0 (l.take k) = false) : rayB A R N D t0 l = false := by
  cases e : rayB A R N D t0 l with
  | false => rfl
  | true =>
    have : rayB A R N D t0 (l.take k) = true := by
      unfold rayB at *
      rw [List.all_eq_true] at *
      exact fun b hb => e b (List.mem_of_mem_take hb)
    rw [this] at h; cases h
theorem rayB_lets {A R N D : Int} {l : List Bd} (hD : 1 ≤ D) {t0 : Int} (h : rayB A R N D t0 l = true) : Lets l := by
  unfold rayB at h
  rw [List.all_eq_true] at h
  refine ⟨N, D, by omega, fun a ha b hb => ?_⟩
  have h1 := of_decide_eq_true (h a ha)
  have h2 := of_decide_eq_true (h b hb)
  rw [Int.mul_sub] at h1 h2
  omega

theorem mul_bd2 {a b A B : Int} (h1 : -A ≤ a) (h2 : a ≤ A) (h3 : -B ≤ b) (h4 : b ≤ B) (hA : 0 ≤ A) (hB : 0 ≤ B) : -(A * B) ≤ a * b ∧ a * b ≤ A * B := by
  by_cases hb : 0 ≤ b
  · exact mul_bd h1 h2 hb h4 hA
  · have := mul_bd h1 h2 (show 0 ≤ -b by omega) (show -b ≤ B by omega) hA
    rw [Int.mul_neg] at this
    omega

set_option maxRecDepth 100000 in
set_option maxHeartbeats 4000000 in
theorem ray_through_in (A R N D : Int) (rA : -9223372036854775808 ≤ A ∧ A < 9223372036854775808) (rR : -9223372036854775808 ≤ R ∧ R < 9223372036854775808) (rN : -9223372036854775808 ≤ N ∧ N < 9223372036854775808) (rD : 1 ≤ D ∧ D < 9223372036854775808)
    (g o c : Nat) (l : List Bd) (h : Hid (okF (-1) l = true)) (hl : l.length ≤ 256) (cur : Array Value) (E : Bool) (hE : Hid (rayB A R N D (bd l 0).t l = E)) (h0 : 0 < l.length) (w : World) (hg : w.heap[g]? = some (.cells cur 37 (0, 0)))
    (HC : Hid (∀ i, i < l.length → cur[o + i * 3]? = some (.int .i64 (bd l i).t) ∧ cur[o + i * 3 + 1]? = some (.int .i64 (bd l i).lo) ∧ cur[o + i * 3 + 2]? = some (.int .i64 (bd l i).hi))) :
    Calls Tryd.prog 28 #[.agg #[.int .i64 A, .int .i64 R, .int .i64 N, .int .i64 D], .slice (some ⟨g, o, none⟩) l.length c] w fun e w' => e = .returned (.bool E) ∧ Below w.heap.size w w' := by
  have he := (HC.out 0 h0).1
  simp only [Nat.zero_mul, Nat.add_zero] at he
  have hr0 := bd_rg h.out 0 h0
  have HL := hide (fun k hk => lw_t h.out k hk)
  have HG := hide (fun k hk => bd_rg h.out k hk)
  have HT := hide (fun k (hk : k < l.length) => rayB_take (A := A) (R := R) (N := N) (D := D) (t0 := (bd l 0).t) hk)
  obtain ⟨t1, t2, -⟩ := hr0
  generalize (bd l 0).t = t0 at *
  clear h
  have mP := mul_bd2 (a := A) (b := D) (A := 9223372036854775808) (B := 9223372036854775808) (by omega) (by omega) (by omega) (by omega) (by omega) (by omega)
  go_enter Tryd.func28, Tryd.ntmps28
  obtain ⟨zg_a, zg_b, lg0⟩ := rcell hg
  go_wp2_with fail
  go_loopw [12] (fun vi wr => ∃ k : Nat, vi = .int .i64 k ∧ k ≤ l.length ∧ Hid (rayB A R N D t0 (l.take k) = true) ∧ wr.heap[g]? = some (.cells cur 37 (0, 0)) ∧ wr.heap[w.heap.size]? = some (.cells #[.int .i64 A, .int .i64 R, .int .i64 N, .int .i64 D] 52 (0, 0)) ∧ Below w.heap.size w wr) (fun vi _ => l.length - (intOf vi).toNat)
  case atStart => exact ⟨0, rfl, by omega, hide rfl, (ka (hg) (.cells #[.int .i64 A, .int .i64 R, .int .i64 N, .int .i64 D] 52)), (na w #[.int .i64 A, .int .i64 R, .int .i64 N, .int .i64 D] 52), (bA (b0 w) (.cells #[.int .i64 A, .int .i64 R, .int .i64 N, .int .i64 D] 52))⟩
  case round =>
    obtain ⟨k, rfl, hk, hT, j1, j2, hb⟩ := hrel
    by_cases hlt : k < l.length
    · obtain ⟨q1, q2, q3⟩ := HC.out k hlt
      obtain ⟨r1, r2, -, ⟨r3, r4⟩, r5, r6⟩ := HG.out k hlt
      obtain ⟨l1, l2⟩ := HL.out k hlt
      have HTk := hide (HT.out k hlt)
      have mQ := mul_bd2 (a := N) (b := (bd l k).t - t0) (A := 9223372036854775808) (B := 281474976710656) (by omega) (by omega) (by omega) (by omega) (by omega) (by omega)
      have mU := mul_bd2 (a := (bd l k).lo) (b := D) (A := 2305844108725321728) (B := 9223372036854775808) (by omega) (by omega) (by omega) (by omega) (by omega) (by omega)
      have mV := mul_bd2 (a := (bd l k).hi) (b := D) (A := 2305844108725321728) (B := 9223372036854775808) (by omega) (by omega) (by omega) (by omega) (by omega) (by omega)
      have c1 := wide_Mul N ((bd l k).t - t0) (by omega) (by omega) (by omega) (by omega)
      have c2 := wide_Mul A D (by omega) (by omega) (by omega) (by omega)
      have c3 := wide_Add (A * D) (N * ((bd l k).t - t0)) (rng_of (by omega) (by omega)) (rng_of (by omega) (by omega)) (rng_of (by omega) (by omega))
      have c4 := wide_Of R (by omega) (by omega)
      have c5 := wide_Add (A * D + N * ((bd l k).t - t0)) R (rng_of (by omega) (by omega)) (rng_of (by omega) (by omega)) (rng_of (by omega) (by omega))
      have c6 := wide_Mul (bd l k).lo D (by omega) (by omega) (by omega) (by omega)
      have c7 := wide_Compare (A * D + N * ((bd l k).t - t0) + R) ((bd l k).lo * D) (rng_of (by omega) (by omega)) (rng_of (by omega) (by omega))
      have c8 := wide_Mul (bd l k).hi D (by omega) (by omega) (by omega) (by omega)
      have c9 := wide_Compare (A * D + N * ((bd l k).t - t0) + R) ((bd l k).hi * D) (rng_of (by omega) (by omega)) (rng_of (by omega) (by omega))
      have HX : Hid (rayW A R N D ((bd l k).t - t0) (bd l k).lo (bd l k).hi = (!decide (cmpI (A * D + N * ((bd l k).t - t0) + R) ((bd l k).lo * D) < 0) && !decide (0 < cmpI (A * D + N * ((bd l k).t - t0) + R) ((bd l k).hi * D)))) := hide (by
        unfold rayW
        rw [cmp_neg, cmp_pos, Bool.eq_iff_iff]
        simp)
      clear mQ mU mV
      generalize bd l k = b at *
      obtain ⟨bt, bl, bh⟩ := b
      simp only at q1 q2 q3 r1 r2 r3 r4 r5 r6 c1 c2 c3 c4 c5 c6 c7 c8 c9 l1 l2
      have HX2 : Hid (rayW A R N D (bt - t0) bl bh = (!decide (cmpI (A * D + N * (bt - t0) + R) (bl * D) < 0) && !decide (0 < cmpI (A * D + N * (bt - t0) + R) (bh * D)))) := HX
      clear HX
      generalize A * D + N * (bt - t0) + R = Y at *
      generalize A * D + N * (bt - t0) = S at *
      generalize A * D = P at *
      generalize N * (bt - t0) = Q at *
      generalize bl * D = U at *
      generalize bh * D = V at *
      generalize cmpI Y U = u at *
      generalize cmpI Y V = v at *
      obtain ⟨zg_a, zg_b, lg1⟩ := rcell j1
      obtain ⟨zy_a, zy_b, ly2⟩ := rcell j2
      go_wp2_with fail
      have f_g3 := (ka (j1) (.cells #[.int .i64 bt, .int .i64 bl, .int .i64 bh] 37))
      have f_y3 := (ka (j2) (.cells #[.int .i64 bt, .int .i64 bl, .int .i64 bh] 37))
      have f_b3 := (na wr #[.int .i64 bt, .int .i64 bl, .int .i64 bh] 37)
      have hB3 := (bA hb (.cells #[.int .i64 bt, .int .i64 bl, .int .i64 bh] 37))
      clear zg_a zg_b zy_a zy_b
      have lg3 := (rcell f_g3).2.2
      have ly3 := (rcell f_y3).2.2
      have lb3 := (rcell f_b3).2.2
      refine Abs.wp_region_abs (Abs.cls0 _) [0, 1, 2, 3, 4, 5, 6, 7, 8, 9, 10, 11] (by kernel_rfl) (by kernel_rfl) (Below.refl _ _).drew ?_
      repeat (first | (refine Abs.step_pure rfl rfl (fun K hK => ?_); go_simp; (try go_bits); (first | refine hK _ _ ?_ | (simp only [↓IntWalk.iteOmega]; go_simp; (try go_bits); refine hK _ _ ?_)); clear hK K) | (refine Abs.step_load (v := ?_) rfl rfl (by kernel_rfl) rfl (fun w0 hI => ?_) (fun K hK => ?_); rotate_left; (· have z0 := (rcell (kp hI (f_g3))).1; have z1 := (rcell (kp hI (f_y3))).1; have z2 := (rcell (kp hI (f_b3))).1; go_simp; rfl); (simp only [Act.put, List.setIfInBounds_toArray, List.set_cons_zero, List.set_cons_succ]; refine hK _ _ ?_; clear hK K)) | (refine Abs.step_skip rfl rfl (fun K hK => ?_); (simp only [Act.put, List.setIfInBounds_toArray, List.set_cons_zero, List.set_cons_succ]; refine hK _ _ ?_; clear hK K)))
      (refine Abs.step_call_val (f := ?_) (args := ?_) (v := ?_) rfl rfl rfl rfl (fun w0 => ?_) (fun w0 hI => ?_) (fun K hK => ?_); rotate_left 3; (· go_simp; (constructor <;> rfl)); (· exact c1 _); (simp only [Act.put, List.setIfInBounds_toArray, List.set_cons_zero, List.set_cons_succ]; refine hK _ _ ?_; clear hK K))
      repeat (first | (refine Abs.step_pure rfl rfl (fun K hK => ?_); go_simp; (try go_bits); (first | refine hK _ _ ?_ | (simp only [↓IntWalk.iteOmega]; go_simp; (try go_bits); refine hK _ _ ?_)); clear hK K) | (refine Abs.step_load (v := ?_) rfl rfl (by kernel_rfl) rfl (fun w0 hI => ?_) (fun K hK => ?_); rotate_left; (· have z0 := (rcell (kp hI (f_g3))).1; have z1 := (rcell (kp hI (f_y3))).1; have z2 := (rcell (kp hI (f_b3))).1; go_simp; rfl); (simp only [Act.put, List.setIfInBounds_toArray, List.set_cons_zero, List.set_cons_succ]; refine hK _ _ ?_; clear hK K)) | (refine Abs.step_skip rfl rfl (fun K hK => ?_); (simp only [Act.put, List.setIfInBounds_toArray, List.set_cons_zero, List.set_cons_succ]; refine hK _ _ ?_; clear hK K)))
      (refine Abs.step_var (obj := ?_) rfl rfl rfl rfl (fun w0 => ?_) (fun K hK g_n hv_n hu_n => ?_); rotate_left; (· go_simp; rfl); (simp only [Act.put, List.setIfInBounds_toArray, List.set_cons_zero, List.set_cons_succ]; refine hK _ _ ?_; clear hK K))
      repeat (first | (refine Abs.step_pure rfl rfl (fun K hK => ?_); go_simp; (try go_bits); (first | refine hK _ _ ?_ | (simp only [↓IntWalk.iteOmega]; go_simp; (try go_bits); refine hK _ _ ?_)); clear hK K) | (refine Abs.step_load (v := ?_) rfl rfl (by kernel_rfl) rfl (fun w0 hI => ?_) (fun K hK => ?_); rotate_left; (· have z0 := (rcell (kp hI (f_g3))).1; have z1 := (rcell (kp hI (f_y3))).1; have z2 := (rcell (kp hI (f_b3))).1; go_simp; rfl); (simp only [Act.put, List.setIfInBounds_toArray, List.set_cons_zero, List.set_cons_succ]; refine hK _ _ ?_; clear hK K)) | (refine Abs.step_skip rfl rfl (fun K hK => ?_); (simp only [Act.put, List.setIfInBounds_toArray, List.set_cons_zero, List.set_cons_succ]; refine hK _ _ ?_; clear hK K)))
      (refine Abs.step_store (T := ?_) rfl rfl rfl (fun w0 hI hF hU => ?_) (fun _ _ _ _ => trivial) (fun K hK => ?_); rotate_left; (· simp only [Abs.F_setF, Abs.F_addA, Abs.F_push, Abs.F_start, true_and] at hF; have hg0 := (rcell hF).1; have hg1 := (rcell hF).2.1; simp only [Abs.T_setF, Abs.T_addA, Abs.T_push, Abs.T_start]; go_simp; exact row2 hF _ _); (simp only [Act.put, List.setIfInBounds_toArray, List.set_cons_zero, List.set_cons_succ]; refine hK _ _ ?_; clear hK K))
      repeat (first | (refine Abs.step_pure rfl rfl (fun K hK => ?_); go_simp; (try go_bits); (first | refine hK _ _ ?_ | (simp only [↓IntWalk.iteOmega]; go_simp; (try go_bits); refine hK _ _ ?_)); clear hK K) | (refine Abs.step_load (v := ?_) rfl rfl (by kernel_rfl) rfl (fun w0 hI => ?_) (fun K hK => ?_); rotate_left; (· have z0 := (rcell (kp hI (f_g3))).1; have z1 := (rcell (kp hI (f_y3))).1; have z2 := (rcell (kp hI (f_b3))).1; go_simp; rfl); (simp only [Act.put, List.setIfInBounds_toArray, List.set_cons_zero, List.set_cons_succ]; refine hK _ _ ?_; clear hK K)) | (refine Abs.step_skip rfl rfl (fun K hK => ?_); (simp only [Act.put, List.setIfInBounds_toArray, List.set_cons_zero, List.set_cons_succ]; refine hK _ _ ?_; clear hK K)))
      have hs_n := leB hv_n
      try simp only [World.size_alloc] at hs_n
      intro w0 hI hF hx1 hx2
      clear hx1 hx2
      simp only [Abs.F_setF, Abs.F_addA, Abs.F_push, Abs.F_start, true_and, Abs.T_push] at hF ⊢
      generalize hT4 : setRow w0 _ _ = w4
      obtain ⟨hb4, f_n4⟩ := fin1 hI hv_n hF hT4
      clear hT4 hI hF w0
      have f_g4 := kp hb4 (f_g3)
      have f_y4 := kp hb4 (f_y3)
      have f_b4 := kp hb4 (f_b3)
      have hB4 := bB hB3 hb4
      obtain ⟨zg_a, zg_b, lg4⟩ := rcell f_g4
      obtain ⟨zy_a, zy_b, ly4⟩ := rcell f_y4
      obtain ⟨zb_a, zb_b, lb4⟩ := rcell f_b4
      obtain ⟨zn_a, zn_b, ln4⟩ := rcell f_n4
      go_wp2_with fail
      refine Abs.wp_region_abs (Abs.cls0 _) [0, 1, 2, 3, 4, 5, 6, 7, 8, 9, 10, 11, 12] (by kernel_rfl) (by kernel_rfl) (Below.refl _ _).drew ?_
      repeat (first | (refine Abs.step_pure rfl rfl (fun K hK => ?_); go_simp; (try go_bits); (first | refine hK _ _ ?_ | (simp only [↓IntWalk.iteOmega]; go_simp; (try go_bits); refine hK _ _ ?_)); clear hK K) | (refine Abs.step_load (v := ?_) rfl rfl (by kernel_rfl) rfl (fun w0 hI => ?_) (fun K hK => ?_); rotate_left; (· have z0 := (rcell (kp hI (f_g4))).1; have z1 := (rcell (kp hI (f_y4))).1; have z2 := (rcell (kp hI (f_b4))).1; have z3 := (rcell (kp hI (f_n4))).1; go_simp; rfl); (simp only [Act.put, List.setIfInBounds_toArray, List.set_cons_zero, List.set_cons_succ]; refine hK _ _ ?_; clear hK K)) | (refine Abs.step_skip rfl rfl (fun K hK => ?_); (simp only [Act.put, List.setIfInBounds_toArray, List.set_cons_zero, List.set_cons_succ]; refine hK _ _ ?_; clear hK K)))
      (refine Abs.step_call_val (f := ?_) (args := ?_) (v := ?_) rfl rfl rfl rfl (fun w0 => ?_) (fun w0 hI => ?_) (fun K hK => ?_); rotate_left 3; (· go_simp; (constructor <;> rfl)); (· exact c2 _); (simp only [Act.put, List.setIfInBounds_toArray, List.set_cons_zero, List.set_cons_succ]; refine hK _ _ ?_; clear hK K))
      repeat (first | (refine Abs.step_pure rfl rfl (fun K hK => ?_); go_simp; (try go_bits); (first | refine hK _ _ ?_ | (simp only [↓IntWalk.iteOmega]; go_simp; (try go_bits); refine hK _ _ ?_)); clear hK K) | (refine Abs.step_load (v := ?_) rfl rfl (by kernel_rfl) rfl (fun w0 hI => ?_) (fun K hK => ?_); rotate_left; (· have z0 := (rcell (kp hI (f_g4))).1; have z1 := (rcell (kp hI (f_y4))).1; have z2 := (rcell (kp hI (f_b4))).1; have z3 := (rcell (kp hI (f_n4))).1; go_simp; rfl); (simp only [Act.put, List.setIfInBounds_toArray, List.set_cons_zero, List.set_cons_succ]; refine hK _ _ ?_; clear hK K)) | (refine Abs.step_skip rfl rfl (fun K hK => ?_); (simp only [Act.put, List.setIfInBounds_toArray, List.set_cons_zero, List.set_cons_succ]; refine hK _ _ ?_; clear hK K)))
      (refine Abs.step_call_val (f := ?_) (args := ?_) (v := ?_) rfl rfl rfl rfl (fun w0 => ?_) (fun w0 hI => ?_) (fun K hK => ?_); rotate_left 3; (· go_simp; (constructor <;> rfl)); (· exact c3 _); (simp only [Act.put, List.setIfInBounds_toArray, List.set_cons_zero, List.set_cons_succ]; refine hK _ _ ?_; clear hK K))
      repeat (first | (refine Abs.step_pure rfl rfl (fun K hK => ?_); go_simp; (try go_bits); (first | refine hK _ _ ?_ | (simp only [↓IntWalk.iteOmega]; go_simp; (try go_bits); refine hK _ _ ?_)); clear hK K) | (refine Abs.step_load (v := ?_) rfl rfl (by kernel_rfl) rfl (fun w0 hI => ?_) (fun K hK => ?_); rotate_left; (· have z0 := (rcell (kp hI (f_g4))).1; have z1 := (rcell (kp hI (f_y4))).1; have z2 := (rcell (kp hI (f_b4))).1; have z3 := (rcell (kp hI (f_n4))).1; go_simp; rfl); (simp only [Act.put, List.setIfInBounds_toArray, List.set_cons_zero, List.set_cons_succ]; refine hK _ _ ?_; clear hK K)) | (refine Abs.step_skip rfl rfl (fun K hK => ?_); (simp only [Act.put, List.setIfInBounds_toArray, List.set_cons_zero, List.set_cons_succ]; refine hK _ _ ?_; clear hK K)))
      (refine Abs.step_var (obj := ?_) rfl rfl rfl rfl (fun w0 => ?_) (fun K hK g_z hv_z hu_z => ?_); rotate_left; (· go_simp; rfl); (simp only [Act.put, List.setIfInBounds_toArray, List.set_cons_zero, List.set_cons_succ]; refine hK _ _ ?_; clear hK K))
      repeat (first | (refine Abs.step_pure rfl rfl (fun K hK => ?_); go_simp; (try go_bits); (first | refine hK _ _ ?_ | (simp only [↓IntWalk.iteOmega]; go_simp; (try go_bits); refine hK _ _ ?_)); clear hK K) | (refine Abs.step_load (v := ?_) rfl rfl (by kernel_rfl) rfl (fun w0 hI => ?_) (fun K hK => ?_); rotate_left; (· have z0 := (rcell (kp hI (f_g4))).1; have z1 := (rcell (kp hI (f_y4))).1; have z2 := (rcell (kp hI (f_b4))).1; have z3 := (rcell (kp hI (f_n4))).1; go_simp; rfl); (simp only [Act.put, List.setIfInBounds_toArray, List.set_cons_zero, List.set_cons_succ]; refine hK _ _ ?_; clear hK K)) | (refine Abs.step_skip rfl rfl (fun K hK => ?_); (simp only [Act.put, List.setIfInBounds_toArray, List.set_cons_zero, List.set_cons_succ]; refine hK _ _ ?_; clear hK K)))
      (refine Abs.step_store (T := ?_) rfl rfl rfl (fun w0 hI hF hU => ?_) (fun _ _ _ _ => trivial) (fun K hK => ?_); rotate_left; (· simp only [Abs.F_setF, Abs.F_addA, Abs.F_push, Abs.F_start, true_and] at hF; have hg0 := (rcell hF).1; have hg1 := (rcell hF).2.1; simp only [Abs.T_setF, Abs.T_addA, Abs.T_push, Abs.T_start]; go_simp; exact row2 hF _ _); (simp only [Act.put, List.setIfInBounds_toArray, List.set_cons_zero, List.set_cons_succ]; refine hK _ _ ?_; clear hK K))
      repeat (first | (refine Abs.step_pure rfl rfl (fun K hK => ?_); go_simp; (try go_bits); (first | refine hK _ _ ?_ | (simp only [↓IntWalk.iteOmega]; go_simp; (try go_bits); refine hK _ _ ?_)); clear hK K) | (refine Abs.step_load (v := ?_) rfl rfl (by kernel_rfl) rfl (fun w0 hI => ?_) (fun K hK => ?_); rotate_left; (· have z0 := (rcell (kp hI (f_g4))).1; have z1 := (rcell (kp hI (f_y4))).1; have z2 := (rcell (kp hI (f_b4))).1; have z3 := (rcell (kp hI (f_n4))).1; go_simp; rfl); (simp only [Act.put, List.setIfInBounds_toArray, List.set_cons_zero, List.set_cons_succ]; refine hK _ _ ?_; clear hK K)) | (refine Abs.step_skip rfl rfl (fun K hK => ?_); (simp only [Act.put, List.setIfInBounds_toArray, List.set_cons_zero, List.set_cons_succ]; refine hK _ _ ?_; clear hK K)))
      have hs_z := leB hv_z
      try simp only [World.size_alloc] at hs_z
      intro w0 hI hF hx1 hx2
      clear hx1 hx2
      simp only [Abs.F_setF, Abs.F_addA, Abs.F_push, Abs.F_start, true_and, Abs.T_push] at hF ⊢
      generalize hT6 : setRow w0 _ _ = w6
      obtain ⟨hb6, f_z6⟩ := fin1 hI hv_z hF hT6
      clear hT6 hI hF w0
      have f_g6 := kp hb6 (f_g4)
      have f_y6 := kp hb6 (f_y4)
      have f_b6 := kp hb6 (f_b4)
      have f_n6 := kp hb6 (f_n4)
      have hB6 := bB hB4 hb6
      clear zb_a zb_b zg_a zg_b zn_a zn_b zy_a zy_b
      obtain ⟨zg_a, zg_b, lg6⟩ := rcell f_g6
      obtain ⟨zy_a, zy_b, ly6⟩ := rcell f_y6
      obtain ⟨zb_a, zb_b, lb6⟩ := rcell f_b6
      obtain ⟨zn_a, zn_b, ln6⟩ := rcell f_n6
      obtain ⟨zz_a, zz_b, lz6⟩ := rcell f_z6
      go_wp2_with fail
      refine Abs.wp_region_abs (Abs.cls0 _) [0, 1, 2, 3, 4, 5, 6, 7, 8] (by kernel_rfl) (by kernel_rfl) (Below.refl _ _).drew ?_
      repeat (first | (refine Abs.step_pure rfl rfl (fun K hK => ?_); go_simp; (try go_bits); (first | refine hK _ _ ?_ | (simp only [↓IntWalk.iteOmega]; go_simp; (try go_bits); refine hK _ _ ?_)); clear hK K) | (refine Abs.step_load (v := ?_) rfl rfl (by kernel_rfl) rfl (fun w0 hI => ?_) (fun K hK => ?_); rotate_left; (· have z0 := (rcell (kp hI (f_g6))).1; have z1 := (rcell (kp hI (f_y6))).1; have z2 := (rcell (kp hI (f_b6))).1; have z3 := (rcell (kp hI (f_z6))).1; go_simp; rfl); (simp only [Act.put, List.setIfInBounds_toArray, List.set_cons_zero, List.set_cons_succ]; refine hK _ _ ?_; clear hK K)) | (refine Abs.step_skip rfl rfl (fun K hK => ?_); (simp only [Act.put, List.setIfInBounds_toArray, List.set_cons_zero, List.set_cons_succ]; refine hK _ _ ?_; clear hK K)))
      (refine Abs.step_call_val (f := ?_) (args := ?_) (v := ?_) rfl rfl rfl rfl (fun w0 => ?_) (fun w0 hI => ?_) (fun K hK => ?_); rotate_left 3; (· go_simp; (constructor <;> rfl)); (· exact c4 _); (simp only [Act.put, List.setIfInBounds_toArray, List.set_cons_zero, List.set_cons_succ]; refine hK _ _ ?_; clear hK K))
      repeat (first | (refine Abs.step_pure rfl rfl (fun K hK => ?_); go_simp; (try go_bits); (first | refine hK _ _ ?_ | (simp only [↓IntWalk.iteOmega]; go_simp; (try go_bits); refine hK _ _ ?_)); clear hK K) | (refine Abs.step_load (v := ?_) rfl rfl (by kernel_rfl) rfl (fun w0 hI => ?_) (fun K hK => ?_); rotate_left; (· have z0 := (rcell (kp hI (f_g6))).1; have z1 := (rcell (kp hI (f_y6))).1; have z2 := (rcell (kp hI (f_b6))).1; have z3 := (rcell (kp hI (f_z6))).1; go_simp; rfl); (simp only [Act.put, List.setIfInBounds_toArray, List.set_cons_zero, List.set_cons_succ]; refine hK _ _ ?_; clear hK K)) | (refine Abs.step_skip rfl rfl (fun K hK => ?_); (simp only [Act.put, List.setIfInBounds_toArray, List.set_cons_zero, List.set_cons_succ]; refine hK _ _ ?_; clear hK K)))
      (refine Abs.step_call_val (f := ?_) (args := ?_) (v := ?_) rfl rfl rfl rfl (fun w0 => ?_) (fun w0 hI => ?_) (fun K hK => ?_); rotate_left 3; (· go_simp; (constructor <;> rfl)); (· exact c5 _); (simp only [Act.put, List.setIfInBounds_toArray, List.set_cons_zero, List.set_cons_succ]; refine hK _ _ ?_; clear hK K))
      repeat (first | (refine Abs.step_pure rfl rfl (fun K hK => ?_); go_simp; (try go_bits); (first | refine hK _ _ ?_ | (simp only [↓IntWalk.iteOmega]; go_simp; (try go_bits); refine hK _ _ ?_)); clear hK K) | (refine Abs.step_load (v := ?_) rfl rfl (by kernel_rfl) rfl (fun w0 hI => ?_) (fun K hK => ?_); rotate_left; (· have z0 := (rcell (kp hI (f_g6))).1; have z1 := (rcell (kp hI (f_y6))).1; have z2 := (rcell (kp hI (f_b6))).1; have z3 := (rcell (kp hI (f_z6))).1; go_simp; rfl); (simp only [Act.put, List.setIfInBounds_toArray, List.set_cons_zero, List.set_cons_succ]; refine hK _ _ ?_; clear hK K)) | (refine Abs.step_skip rfl rfl (fun K hK => ?_); (simp only [Act.put, List.setIfInBounds_toArray, List.set_cons_zero, List.set_cons_succ]; refine hK _ _ ?_; clear hK K)))
      (refine Abs.step_store (T := ?_) rfl rfl rfl (fun w0 hI hF hU => ?_) (fun w0 hI hU hJ => ?_) (fun K hK => ?_); rotate_left; (· have hR := kp hI (f_z6); have hg0 := (rcell hR).1; have hg1 := (rcell hR).2.1; simp only [Abs.T_setF, Abs.T_addA, Abs.T_push, Abs.T_start]; go_simp; exact row2 hR _ _); (· first | exact trivial | exact js hJ rfl _ | exact js hJ (Or.inl rfl) _ | exact js hJ (Or.inr rfl) _); (simp only [Act.put, List.setIfInBounds_toArray, List.set_cons_zero, List.set_cons_succ]; refine hK _ _ ?_; clear hK K))
      repeat (first | (refine Abs.step_pure rfl rfl (fun K hK => ?_); go_simp; (try go_bits); (first | refine hK _ _ ?_ | (simp only [↓IntWalk.iteOmega]; go_simp; (try go_bits); refine hK _ _ ?_)); clear hK K) | (refine Abs.step_load (v := ?_) rfl rfl (by kernel_rfl) rfl (fun w0 hI => ?_) (fun K hK => ?_); rotate_left; (· have z0 := (rcell (kp hI (f_g6))).1; have z1 := (rcell (kp hI (f_y6))).1; have z2 := (rcell (kp hI (f_b6))).1; have z3 := (rcell (kp hI (f_z6))).1; go_simp; rfl); (simp only [Act.put, List.setIfInBounds_toArray, List.set_cons_zero, List.set_cons_succ]; refine hK _ _ ?_; clear hK K)) | (refine Abs.step_skip rfl rfl (fun K hK => ?_); (simp only [Act.put, List.setIfInBounds_toArray, List.set_cons_zero, List.set_cons_succ]; refine hK _ _ ?_; clear hK K)))
      intro w0 hI hF hx1 hx2
      clear hx1 hx2 hF
      simp only [Abs.T_push]
      generalize hT8 : setRow w0 _ _ = w8
      obtain ⟨hx8, f_z8⟩ := fin_x hI (f_z6) hT8
      clear hT8 hI w0
      have f_g8 := kx hx8 (f_g6) (by omega)
      have f_y8 := kx hx8 (f_y6) (by omega)
      have f_b8 := kx hx8 (f_b6) (by omega)
      have f_n8 := kx hx8 (f_n6) (by omega)
      have hB8 := bX hB6 hx8 (by omega)
      clear zb_a zb_b zg_a zg_b zn_a zn_b zy_a zy_b zz_a zz_b
      obtain ⟨zg_a, zg_b, lg8⟩ := rcell f_g8
      obtain ⟨zy_a, zy_b, ly8⟩ := rcell f_y8
      obtain ⟨zb_a, zb_b, lb8⟩ := rcell f_b8
      obtain ⟨zn_a, zn_b, ln8⟩ := rcell f_n8
      obtain ⟨zz_a, zz_b, lz8⟩ := rcell f_z8
      go_wp2_with fail
      cases x1 : decide (u < 0)
      · skip
        refine Abs.wp_region_abs (Abs.cls0 _) [0, 1, 2, 3, 4, 5, 6, 7, 8, 9, 10, 11, 12, 13, 14, 15, 16, 17] (by kernel_rfl) (by kernel_rfl) (Below.refl _ _).drew ?_
        repeat (first | (refine Abs.step_pure rfl rfl (fun K hK => ?_); go_simp; (try go_bits); (first | refine hK _ _ ?_ | (simp only [↓IntWalk.iteOmega]; go_simp; (try go_bits); refine hK _ _ ?_)); clear hK K) | (refine Abs.step_load (v := ?_) rfl rfl (by kernel_rfl) rfl (fun w0 hI => ?_) (fun K hK => ?_); rotate_left; (· have z0 := (rcell (kp hI (f_g8))).1; have z1 := (rcell (kp hI (f_y8))).1; have z2 := (rcell (kp hI (f_b8))).1; have z3 := (rcell (kp hI (f_z8))).1; go_simp; rfl); (simp only [Act.put, List.setIfInBounds_toArray, List.set_cons_zero, List.set_cons_succ]; refine hK _ _ ?_; clear hK K)) | (refine Abs.step_skip rfl rfl (fun K hK => ?_); (simp only [Act.put, List.setIfInBounds_toArray, List.set_cons_zero, List.set_cons_succ]; refine hK _ _ ?_; clear hK K)))
        (refine Abs.step_call_val (f := ?_) (args := ?_) (v := ?_) rfl rfl rfl rfl (fun w0 => ?_) (fun w0 hI => ?_) (fun K hK => ?_); rotate_left 3; (· go_simp; (constructor <;> rfl)); (· exact c6 _); (simp only [Act.put, List.setIfInBounds_toArray, List.set_cons_zero, List.set_cons_succ]; refine hK _ _ ?_; clear hK K))
        repeat (first | (refine Abs.step_pure rfl rfl (fun K hK => ?_); go_simp; (try go_bits); (first | refine hK _ _ ?_ | (simp only [↓IntWalk.iteOmega]; go_simp; (try go_bits); refine hK _ _ ?_)); clear hK K) | (refine Abs.step_load (v := ?_) rfl rfl (by kernel_rfl) rfl (fun w0 hI => ?_) (fun K hK => ?_); rotate_left; (· have z0 := (rcell (kp hI (f_g8))).1; have z1 := (rcell (kp hI (f_y8))).1; have z2 := (rcell (kp hI (f_b8))).1; have z3 := (rcell (kp hI (f_z8))).1; go_simp; rfl); (simp only [Act.put, List.setIfInBounds_toArray, List.set_cons_zero, List.set_cons_succ]; refine hK _ _ ?_; clear hK K)) | (refine Abs.step_skip rfl rfl (fun K hK => ?_); (simp only [Act.put, List.setIfInBounds_toArray, List.set_cons_zero, List.set_cons_succ]; refine hK _ _ ?_; clear hK K)))
        (refine Abs.step_call_val (f := ?_) (args := ?_) (v := ?_) rfl rfl rfl rfl (fun w0 => ?_) (fun w0 hI => ?_) (fun K hK => ?_); rotate_left 3; (· go_simp; (constructor <;> rfl)); (· exact c7 _); (simp only [Act.put, List.setIfInBounds_toArray, List.set_cons_zero, List.set_cons_succ]; refine hK _ _ ?_; clear hK K))
        repeat (first | (refine Abs.step_pure rfl rfl (fun K hK => ?_); go_simp; (try go_bits); (first | refine hK _ _ ?_ | (simp only [↓IntWalk.iteOmega]; go_simp; (try go_bits); refine hK _ _ ?_)); clear hK K) | (refine Abs.step_load (v := ?_) rfl rfl (by kernel_rfl) rfl (fun w0 hI => ?_) (fun K hK => ?_); rotate_left; (· have z0 := (rcell (kp hI (f_g8))).1; have z1 := (rcell (kp hI (f_y8))).1; have z2 := (rcell (kp hI (f_b8))).1; have z3 := (rcell (kp hI (f_z8))).1; go_simp; rfl); (simp only [Act.put, List.setIfInBounds_toArray, List.set_cons_zero, List.set_cons_succ]; refine hK _ _ ?_; clear hK K)) | (refine Abs.step_skip rfl rfl (fun K hK => ?_); (simp only [Act.put, List.setIfInBounds_toArray, List.set_cons_zero, List.set_cons_succ]; refine hK _ _ ?_; clear hK K)))
        (refine Abs.step_call_val (f := ?_) (args := ?_) (v := ?_) rfl rfl rfl rfl (fun w0 => ?_) (fun w0 hI => ?_) (fun K hK => ?_); rotate_left 3; (· go_simp; (constructor <;> rfl)); (· exact c8 _); (simp only [Act.put, List.setIfInBounds_toArray, List.set_cons_zero, List.set_cons_succ]; refine hK _ _ ?_; clear hK K))
        repeat (first | (refine Abs.step_pure rfl rfl (fun K hK => ?_); go_simp; (try go_bits); (first | refine hK _ _ ?_ | (simp only [↓IntWalk.iteOmega]; go_simp; (try go_bits); refine hK _ _ ?_)); clear hK K) | (refine Abs.step_load (v := ?_) rfl rfl (by kernel_rfl) rfl (fun w0 hI => ?_) (fun K hK => ?_); rotate_left; (· have z0 := (rcell (kp hI (f_g8))).1; have z1 := (rcell (kp hI (f_y8))).1; have z2 := (rcell (kp hI (f_b8))).1; have z3 := (rcell (kp hI (f_z8))).1; go_simp; rfl); (simp only [Act.put, List.setIfInBounds_toArray, List.set_cons_zero, List.set_cons_succ]; refine hK _ _ ?_; clear hK K)) | (refine Abs.step_skip rfl rfl (fun K hK => ?_); (simp only [Act.put, List.setIfInBounds_toArray, List.set_cons_zero, List.set_cons_succ]; refine hK _ _ ?_; clear hK K)))
        (refine Abs.step_call_val (f := ?_) (args := ?_) (v := ?_) rfl rfl rfl rfl (fun w0 => ?_) (fun w0 hI => ?_) (fun K hK => ?_); rotate_left 3; (· go_simp; (constructor <;> rfl)); (· exact c9 _); (simp only [Act.put, List.setIfInBounds_toArray, List.set_cons_zero, List.set_cons_succ]; refine hK _ _ ?_; clear hK K))
        repeat (first | (refine Abs.step_pure rfl rfl (fun K hK => ?_); go_simp; (try go_bits); (first | refine hK _ _ ?_ | (simp only [↓IntWalk.iteOmega]; go_simp; (try go_bits); refine hK _ _ ?_)); clear hK K) | (refine Abs.step_load (v := ?_) rfl rfl (by kernel_rfl) rfl (fun w0 hI => ?_) (fun K hK => ?_); rotate_left; (· have z0 := (rcell (kp hI (f_g8))).1; have z1 := (rcell (kp hI (f_y8))).1; have z2 := (rcell (kp hI (f_b8))).1; have z3 := (rcell (kp hI (f_z8))).1; go_simp; rfl); (simp only [Act.put, List.setIfInBounds_toArray, List.set_cons_zero, List.set_cons_succ]; refine hK _ _ ?_; clear hK K)) | (refine Abs.step_skip rfl rfl (fun K hK => ?_); (simp only [Act.put, List.setIfInBounds_toArray, List.set_cons_zero, List.set_cons_succ]; refine hK _ _ ?_; clear hK K)))
        intro w10 hb10 hx0 hx1 hx2
        clear hx0 hx1 hx2
        simp only [Abs.T_setF, Abs.T_addA, Abs.T_push, Abs.T_start]
        have f_g10 := kp hb10 (f_g8)
        have f_y10 := kp hb10 (f_y8)
        have f_b10 := kp hb10 (f_b8)
        have f_n10 := kp hb10 (f_n8)
        have f_z10 := kp hb10 (f_z8)
        have hB10 := bB hB8 hb10
        clear zb_a zb_b zg_a zg_b zn_a zn_b zy_a zy_b zz_a zz_b
        obtain ⟨zg_a, zg_b, lg10⟩ := rcell f_g10
        obtain ⟨zy_a, zy_b, ly10⟩ := rcell f_y10
        obtain ⟨zb_a, zb_b, lb10⟩ := rcell f_b10
        obtain ⟨zn_a, zn_b, ln10⟩ := rcell f_n10
        obtain ⟨zz_a, zz_b, lz10⟩ := rcell f_z10
        cases x2 : decide (0 < v)
        · have HT2 : Hid (rayB A R N D t0 (l.take (k + 1)) = true) := hide (by rw [HTk.out, hT.out]; show (true && rayW A R N D (bt - t0) bl bh) = true; rw [HX2.out, x1, x2]; rfl)
          clear HTk HX2
          go_wp2
          go_roundw
          case rel => exact ⟨k + 1, by go_num, by omega, HT2, (f_g10), (f_y10), hB10⟩
          case measure => simp [intOf]; omega
        · have e : E = false := by rw [← hE.out]; exact rayB_no (k := k + 1) (by rw [HTk.out, hT.out]; show (true && rayW A R N D (bt - t0) bl bh) = false; rw [HX2.out, x1, x2]; rfl)
          subst e
          clear hE HTk HX2
          go_wp2
          go_ret
          exact ⟨rfl, hB10⟩
      · skip
        refine Abs.wp_region_abs (Abs.cls0 _) [0, 1, 2, 3, 4, 5, 6, 7, 8, 9, 10, 11, 12, 13, 14, 15, 16, 17] (by kernel_rfl) (by kernel_rfl) (Below.refl _ _).drew ?_
        repeat (first | (refine Abs.step_pure rfl rfl (fun K hK => ?_); go_simp; (try go_bits); (first | refine hK _ _ ?_ | (simp only [↓IntWalk.iteOmega]; go_simp; (try go_bits); refine hK _ _ ?_)); clear hK K) | (refine Abs.step_load (v := ?_) rfl rfl (by kernel_rfl) rfl (fun w0 hI => ?_) (fun K hK => ?_); rotate_left; (· have z0 := (rcell (kp hI (f_g8))).1; have z1 := (rcell (kp hI (f_y8))).1; have z2 := (rcell (kp hI (f_b8))).1; have z3 := (rcell (kp hI (f_z8))).1; go_simp; rfl); (simp only [Act.put, List.setIfInBounds_toArray, List.set_cons_zero, List.set_cons_succ]; refine hK _ _ ?_; clear hK K)) | (refine Abs.step_skip rfl rfl (fun K hK => ?_); (simp only [Act.put, List.setIfInBounds_toArray, List.set_cons_zero, List.set_cons_succ]; refine hK _ _ ?_; clear hK K)))
        (refine Abs.step_call_val (f := ?_) (args := ?_) (v := ?_) rfl rfl rfl rfl (fun w0 => ?_) (fun w0 hI => ?_) (fun K hK => ?_); rotate_left 3; (· go_simp; (constructor <;> rfl)); (· exact c6 _); (simp only [Act.put, List.setIfInBounds_toArray, List.set_cons_zero, List.set_cons_succ]; refine hK _ _ ?_; clear hK K))
        repeat (first | (refine Abs.step_pure rfl rfl (fun K hK => ?_); go_simp; (try go_bits); (first | refine hK _ _ ?_ | (simp only [↓IntWalk.iteOmega]; go_simp; (try go_bits); refine hK _ _ ?_)); clear hK K) | (refine Abs.step_load (v := ?_) rfl rfl (by kernel_rfl) rfl (fun w0 hI => ?_) (fun K hK => ?_); rotate_left; (· have z0 := (rcell (kp hI (f_g8))).1; have z1 := (rcell (kp hI (f_y8))).1; have z2 := (rcell (kp hI (f_b8))).1; have z3 := (rcell (kp hI (f_z8))).1; go_simp; rfl); (simp only [Act.put, List.setIfInBounds_toArray, List.set_cons_zero, List.set_cons_succ]; refine hK _ _ ?_; clear hK K)) | (refine Abs.step_skip rfl rfl (fun K hK => ?_); (simp only [Act.put, List.setIfInBounds_toArray, List.set_cons_zero, List.set_cons_succ]; refine hK _ _ ?_; clear hK K)))
        (refine Abs.step_call_val (f := ?_) (args := ?_) (v := ?_) rfl rfl rfl rfl (fun w0 => ?_) (fun w0 hI => ?_) (fun K hK => ?_); rotate_left 3; (· go_simp; (constructor <;> rfl)); (· exact c7 _); (simp only [Act.put, List.setIfInBounds_toArray, List.set_cons_zero, List.set_cons_succ]; refine hK _ _ ?_; clear hK K))
        repeat (first | (refine Abs.step_pure rfl rfl (fun K hK => ?_); go_simp; (try go_bits); (first | refine hK _ _ ?_ | (simp only [↓IntWalk.iteOmega]; go_simp; (try go_bits); refine hK _ _ ?_)); clear hK K) | (refine Abs.step_load (v := ?_) rfl rfl (by kernel_rfl) rfl (fun w0 hI => ?_) (fun K hK => ?_); rotate_left; (· have z0 := (rcell (kp hI (f_g8))).1; have z1 := (rcell (kp hI (f_y8))).1; have z2 := (rcell (kp hI (f_b8))).1; have z3 := (rcell (kp hI (f_z8))).1; go_simp; rfl); (simp only [Act.put, List.setIfInBounds_toArray, List.set_cons_zero, List.set_cons_succ]; refine hK _ _ ?_; clear hK K)) | (refine Abs.step_skip rfl rfl (fun K hK => ?_); (simp only [Act.put, List.setIfInBounds_toArray, List.set_cons_zero, List.set_cons_succ]; refine hK _ _ ?_; clear hK K)))
        intro w10 hb10 hx0 hx1 hx2
        clear hx0 hx1 hx2
        simp only [Abs.T_setF, Abs.T_addA, Abs.T_push, Abs.T_start]
        have f_g10 := kp hb10 (f_g8)
        have f_y10 := kp hb10 (f_y8)
        have f_b10 := kp hb10 (f_b8)
        have f_n10 := kp hb10 (f_n8)
        have f_z10 := kp hb10 (f_z8)
        have hB10 := bB hB8 hb10
        clear zb_a zb_b zg_a zg_b zn_a zn_b zy_a zy_b zz_a zz_b
        obtain ⟨zg_a, zg_b, lg10⟩ := rcell f_g10
        obtain ⟨zy_a, zy_b, ly10⟩ := rcell f_y10
        obtain ⟨zb_a, zb_b, lb10⟩ := rcell f_b10
        obtain ⟨zn_a, zn_b, ln10⟩ := rcell f_n10
        obtain ⟨zz_a, zz_b, lz10⟩ := rcell f_z10
        have e : E = false := by rw [← hE.out]; exact rayB_no (k := k + 1) (by rw [HTk.out, hT.out]; show (true && rayW A R N D (bt - t0) bl bh) = false; rw [HX2.out, x1]; rfl)
        subst e
        clear hE HTk HX2
        go_wp2
        go_ret
        exact ⟨rfl, hB10⟩
    · obtain rfl : k = l.length := by omega
      rw [List.take_length] at hT
      have e : E = true := by rw [← hE.out]; exact hT.out
      subst e
      clear hE
      go_wp2
      go_ret
      exact ⟨rfl, hb⟩

theorem ray_through (A R N D : Int) (rA : -9223372036854775808 ≤ A ∧ A < 9223372036854775808) (rR : -9223372036854775808 ≤ R ∧ R < 9223372036854775808) (rN : -9223372036854775808 ≤ N ∧ N < 9223372036854775808) (rD : 1 ≤ D ∧ D < 9223372036854775808)
    (X : Option Addr) (c : Nat) (l : List Bd) (h : okB l = true) (w : World) (hR : BR w X c l) :
    Calls Tryd.prog 28 #[.agg #[.int .i64 A, .int .i64 R, .int .i64 N, .int .i64 D], .slice X l.length c] w fun e w' => e = .returned (.bool (rayB A R N D (bd l 0).t l)) ∧ Below w.heap.size w w' := by
  obtain ⟨k0, k1, k2⟩ := okB_spec h
  obtain ⟨g, o, cur, rfl, hg, hc⟩ := hR.mem k0
  exact ray_through_in A R N D rA rR rN rD g o c l (hide k2) k1 cur _ (hide rfl) k0 w hg (hide fun i hi => by
    have := hc i hi
    rw [bd_eq hi] at this
    exact this)
end Go.Proofs.YtpimkigbdjfjoaaDoor
