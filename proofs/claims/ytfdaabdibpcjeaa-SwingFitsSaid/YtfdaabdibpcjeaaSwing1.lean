/- swing.at, (door).slope at this program. -/
import Derived.Test.YtfdaabdibpcjeaaMid
import Derived.Test.YtfdaabdibpcjeaaRef7
set_option linter.unusedSimpArgs false
set_option linter.unusedVariables false
namespace Go.Proofs.Ytfdaabdibpcjeaa
open Go.RowKit

theorem pmc_Check (A : Option Addr) (c : Nat) (l : List Bd) (w : World) (hR : BR w A c l) :
    Calls Try.prog 33 #[.slice A l.length c] w fun e w' => e = .returned (.int .i64 (chE l)) ∧ Below w.heap.size w w' := by
  by_cases h0 : 0 < l.length
  · by_cases h1 : l.length ≤ 256
    · refine pmc_Check_in A c l (chE l) (hide ⟨fun h => chE_yes ?_, fun h => chE_no ?_⟩) h0 h1 w hR
      · unfold okB; rw [h]; simp [h1]; exact h0
      · unfold okB; rw [h]; simp
    · have e : chE l = 180 := chE_no (by unfold okB; simp [h1])
      rw [e]
      have n0 : ((l.length : Int) == 0) = false := by rw [beq_eq_false_iff_ne]; omega
      have n1 : decide (256 < (l.length : Int)) = true := by rw [decide_eq_true_iff]; omega
      go_enter Try.func33, Try.ntmps33
      go_wp2
      go_ret
      exact ⟨rfl, b0 w⟩
  · have e : chE l = 180 := chE_no (by unfold okB; simp; intro h; exact absurd h h0)
    rw [e]
    have n0 : ((l.length : Int) == 0) = true := by rw [beq_iff_eq]; omega
    go_enter Try.func33, Try.ntmps33
    go_wp2
    go_ret
    exact ⟨rfl, b0 w⟩

theorem bkB_spec {v : Int} (h : bkB v = true) : -2305844108725321728 ≤ v ∧ v ≤ 2305844108725321728 := of_decide_eq_true h

/-- the middle -/
def hgB (b : Bd) : Int := (b.lo + b.hi) / 2

set_option maxRecDepth 100000 in
theorem swing_at (b : Bd) (h1 : bkB b.lo = true) (h2 : bkB b.hi = true) (w : World) :
    Calls Try.prog 47 #[.agg #[.int .i64 b.t, .int .i64 b.lo, .int .i64 b.hi]] w fun e w' => e = .returned (.agg #[.int .i64 b.t, .int .i64 (hgB b)]) ∧ Below w.heap.size w w' := by
  go_enter Try.func47, Try.ntmps47
  go_wp2_with fail
  have f_b1 := (ka (na w #[.int .i64 b.t, .int .i64 b.lo, .int .i64 b.hi] 38) (.cells #[.int .i64 0, .int .i64 0] 69))
  have f_o1 := (na1 w (.cells #[.int .i64 b.t, .int .i64 b.lo, .int .i64 b.hi] 38) #[.int .i64 0, .int .i64 0] 69)
  have hB1 := (bA (bA (b0 w) (.cells #[.int .i64 b.t, .int .i64 b.lo, .int .i64 b.hi] 38)) (.cells #[.int .i64 0, .int .i64 0] 69))
  have lb1 := (rcell f_b1).2.2
  have lo1 := (rcell f_o1).2.2
  refine Abs.wp_region_abs (Abs.cls0 _) [0, 1, 2, 3, 4, 5] (by kernel_rfl) (by kernel_rfl) (Below.refl _ _).drew ?_
  repeat (first | (refine Abs.step_pure rfl rfl (fun K hK => ?_); go_simp; (try go_bits); (first | refine hK _ _ ?_ | (simp only [↓IntWalk.iteOmega]; go_simp; (try go_bits); refine hK _ _ ?_)); clear hK K) | (refine Abs.step_load (v := ?_) rfl rfl (by kernel_rfl) rfl (fun w0 hI => ?_) (fun K hK => ?_); rotate_left; (· have z0 := (rcell (kp hI (f_b1))).1; have z1 := (rcell (kp hI (f_o1))).1; go_simp; rfl); (simp only [Act.put, List.setIfInBounds_toArray, List.set_cons_zero, List.set_cons_succ]; refine hK _ _ ?_; clear hK K)) | (refine Abs.step_skip rfl rfl (fun K hK => ?_); (simp only [Act.put, List.setIfInBounds_toArray, List.set_cons_zero, List.set_cons_succ]; refine hK _ _ ?_; clear hK K)))
  intro w2 hb2 hx0 hx1 hx2
  clear hx0 hx1 hx2
  simp only [Abs.T_setF, Abs.T_addA, Abs.T_push, Abs.T_start]
  have f_b2 := kp hb2 (f_b1)
  have f_o2 := kp hb2 (f_o1)
  have hB2 := bB hB1 hb2
  obtain ⟨zb_a, zb_b, lb2⟩ := rcell f_b2
  obtain ⟨zo_a, zo_b, lo2⟩ := rcell f_o2
  go_wp2_with fail
  rw [bits_mid _ _ (bkB_spec h1).1 (bkB_spec h1).2 (bkB_spec h2).1 (bkB_spec h2).2]
  (rw [row2 (f_o2)]; generalize hT : setRow _ _ _ = wE; obtain ⟨hbE, hgE⟩ := ret_row hB2 (by omega) (f_o2) hT; have zE := (rcell hgE).1; clear hT; refine bodyPost_ret (by simp [results, Try.results47, go_sem, zE]; try rfl) rfl ?_)
  exact ⟨rfl, hbE⟩

/-- a door -/
structure Dr where
  t : Int
  v : Int
  n0 : Int
  d0 : Int
  n1 : Int
  d1 : Int
  many : Int
  deriving DecidableEq
def Dr.cs (d : Dr) : Array Value := #[.int .i64 d.t, .int .i64 d.v, .int .i64 d.n0, .int .i64 d.d0, .int .i64 d.n1, .int .i64 d.d1, .int .i64 d.many]

set_option maxRecDepth 100000 in
set_option maxHeartbeats 1000000 in
theorem door_slope (g : Nat) (dt dv n0 d0 n1 d1 m bt bl bh v : Int) (h : slB (v - dv) (bt - dt) = true) (x1 : -9223372036854775808 ≤ v - dv) (x2 : v - dv ≤ 9223372036854775807) (x3 : -9223372036854775808 ≤ bt - dt) (x4 : bt - dt ≤ 9223372036854775807) (w : World)
    (hg : w.heap[g]? = some (.cells #[.int .i64 dt, .int .i64 dv, .int .i64 n0, .int .i64 d0, .int .i64 n1, .int .i64 d1, .int .i64 m] 72 (0, 0))) :
    Calls Try.prog 91 #[.pointer (some ⟨g, 0, none⟩), .agg #[.int .i64 bt, .int .i64 bl, .int .i64 bh], .int .i64 v] w fun e w' => e = .returned (.agg #[.int .i64 (lwN (v - dv) (bt - dt)), .int .i64 (lwD (v - dv) (bt - dt))]) ∧ Below w.heap.size w w' := by
  have c1 := line_Lowest_yes (v - dv) (bt - dt) h
  generalize lwN (v - dv) (bt - dt) = N at *
  generalize lwD (v - dv) (bt - dt) = D at *
  go_enter Try.func91, Try.ntmps91
  obtain ⟨zg_a, zg_b, lg0⟩ := rcell hg
  go_wp2_with fail
  have f_g1 := (ka (ka (hg) (.cells #[.int .i64 bt, .int .i64 bl, .int .i64 bh] 38)) (.cells #[.int .i64 0, .int .i64 0] 52))
  have f_b1 := (ka (na w #[.int .i64 bt, .int .i64 bl, .int .i64 bh] 38) (.cells #[.int .i64 0, .int .i64 0] 52))
  have f_o1 := (na1 w (.cells #[.int .i64 bt, .int .i64 bl, .int .i64 bh] 38) #[.int .i64 0, .int .i64 0] 52)
  have hB1 := (bA (bA (b0 w) (.cells #[.int .i64 bt, .int .i64 bl, .int .i64 bh] 38)) (.cells #[.int .i64 0, .int .i64 0] 52))
  clear zg_a zg_b
  have lg1 := (rcell f_g1).2.2
  have lb1 := (rcell f_b1).2.2
  have lo1 := (rcell f_o1).2.2
  refine Abs.wp_region_abs (Abs.cls0 _) [0, 1, 2, 3, 4, 5, 6, 7, 8, 9, 10, 11, 12, 13, 14, 15, 16, 17, 18, 19, 20, 21, 22] (by kernel_rfl) (by kernel_rfl) (Below.refl _ _).drew ?_
  repeat (first | (refine Abs.step_pure rfl rfl (fun K hK => ?_); go_simp; (try go_bits); (first | refine hK _ _ ?_ | (simp only [↓IntWalk.iteOmega]; go_simp; (try go_bits); refine hK _ _ ?_)); clear hK K) | (refine Abs.step_load (v := ?_) rfl rfl (by kernel_rfl) rfl (fun w0 hI => ?_) (fun K hK => ?_); rotate_left; (· have z0 := (rcell (kp hI (f_g1))).1; have z1 := (rcell (kp hI (f_b1))).1; have z2 := (rcell (kp hI (f_o1))).1; go_simp; rfl); (simp only [Act.put, List.setIfInBounds_toArray, List.set_cons_zero, List.set_cons_succ]; refine hK _ _ ?_; clear hK K)) | (refine Abs.step_skip rfl rfl (fun K hK => ?_); (simp only [Act.put, List.setIfInBounds_toArray, List.set_cons_zero, List.set_cons_succ]; refine hK _ _ ?_; clear hK K)))
  (refine Abs.step_call_val (f := ?_) (args := ?_) (v := ?_) rfl rfl rfl rfl (fun w0 => ?_) (fun w0 hI => ?_) (fun K hK => ?_); rotate_left 3; (· go_simp; (constructor <;> rfl)); (· exact c1 _); (simp only [Act.put, List.setIfInBounds_toArray, List.set_cons_zero, List.set_cons_succ]; refine hK _ _ ?_; clear hK K))
  repeat (first | (refine Abs.step_pure rfl rfl (fun K hK => ?_); go_simp; (try go_bits); (first | refine hK _ _ ?_ | (simp only [↓IntWalk.iteOmega]; go_simp; (try go_bits); refine hK _ _ ?_)); clear hK K) | (refine Abs.step_load (v := ?_) rfl rfl (by kernel_rfl) rfl (fun w0 hI => ?_) (fun K hK => ?_); rotate_left; (· have z0 := (rcell (kp hI (f_g1))).1; have z1 := (rcell (kp hI (f_b1))).1; have z2 := (rcell (kp hI (f_o1))).1; go_simp; rfl); (simp only [Act.put, List.setIfInBounds_toArray, List.set_cons_zero, List.set_cons_succ]; refine hK _ _ ?_; clear hK K)) | (refine Abs.step_skip rfl rfl (fun K hK => ?_); (simp only [Act.put, List.setIfInBounds_toArray, List.set_cons_zero, List.set_cons_succ]; refine hK _ _ ?_; clear hK K)))
  (refine Abs.step_var (obj := ?_) rfl rfl rfl rfl (fun w0 => ?_) (fun K hK g_s hv_s hu_s => ?_); rotate_left; (· go_simp; rfl); (simp only [Act.put, List.setIfInBounds_toArray, List.set_cons_zero, List.set_cons_succ]; refine hK _ _ ?_; clear hK K))
  repeat (first | (refine Abs.step_pure rfl rfl (fun K hK => ?_); go_simp; (try go_bits); (first | refine hK _ _ ?_ | (simp only [↓IntWalk.iteOmega]; go_simp; (try go_bits); refine hK _ _ ?_)); clear hK K) | (refine Abs.step_load (v := ?_) rfl rfl (by kernel_rfl) rfl (fun w0 hI => ?_) (fun K hK => ?_); rotate_left; (· have z0 := (rcell (kp hI (f_g1))).1; have z1 := (rcell (kp hI (f_b1))).1; have z2 := (rcell (kp hI (f_o1))).1; go_simp; rfl); (simp only [Act.put, List.setIfInBounds_toArray, List.set_cons_zero, List.set_cons_succ]; refine hK _ _ ?_; clear hK K)) | (refine Abs.step_skip rfl rfl (fun K hK => ?_); (simp only [Act.put, List.setIfInBounds_toArray, List.set_cons_zero, List.set_cons_succ]; refine hK _ _ ?_; clear hK K)))
  (refine Abs.step_store (T := ?_) rfl rfl rfl (fun w0 hI hF hU => ?_) (fun _ _ _ _ => trivial) (fun K hK => ?_); rotate_left; (· simp only [Abs.F_setF, Abs.F_addA, Abs.F_push, Abs.F_start, true_and] at hF; have hg0 := (rcell hF).1; have hg1 := (rcell hF).2.1; simp only [Abs.T_setF, Abs.T_addA, Abs.T_push, Abs.T_start]; go_simp; exact row2 hF _ _); (simp only [Act.put, List.setIfInBounds_toArray, List.set_cons_zero, List.set_cons_succ]; refine hK _ _ ?_; clear hK K))
  repeat (first | (refine Abs.step_pure rfl rfl (fun K hK => ?_); go_simp; (try go_bits); (first | refine hK _ _ ?_ | (simp only [↓IntWalk.iteOmega]; go_simp; (try go_bits); refine hK _ _ ?_)); clear hK K) | (refine Abs.step_load (v := ?_) rfl rfl (by kernel_rfl) rfl (fun w0 hI => ?_) (fun K hK => ?_); rotate_left; (· have z0 := (rcell (kp hI (f_g1))).1; have z1 := (rcell (kp hI (f_b1))).1; have z2 := (rcell (kp hI (f_o1))).1; go_simp; rfl); (simp only [Act.put, List.setIfInBounds_toArray, List.set_cons_zero, List.set_cons_succ]; refine hK _ _ ?_; clear hK K)) | (refine Abs.step_skip rfl rfl (fun K hK => ?_); (simp only [Act.put, List.setIfInBounds_toArray, List.set_cons_zero, List.set_cons_succ]; refine hK _ _ ?_; clear hK K)))
  have hs_s := leB hv_s
  try simp only [World.size_alloc] at hs_s
  intro w0 hI hF hx1 hx2
  clear hx1 hx2
  simp only [Abs.F_setF, Abs.F_addA, Abs.F_push, Abs.F_start, true_and, Abs.T_push] at hF ⊢
  generalize hT2 : setRow w0 _ _ = w2
  obtain ⟨hb2, f_s2⟩ := fin1 hI hv_s hF hT2
  clear hT2 hI hF w0
  have f_g2 := kp hb2 (f_g1)
  have f_b2 := kp hb2 (f_b1)
  have f_o2 := kp hb2 (f_o1)
  have hB2 := bB hB1 hb2
  obtain ⟨zg_a, zg_b, lg2⟩ := rcell f_g2
  obtain ⟨zb_a, zb_b, lb2⟩ := rcell f_b2
  obtain ⟨zo_a, zo_b, lo2⟩ := rcell f_o2
  obtain ⟨zs_a, zs_b, ls2⟩ := rcell f_s2
  go_wp2_with fail
  (rw [row2 (f_o2)]; generalize hT : setRow _ _ _ = wE; obtain ⟨hbE, hgE⟩ := ret_row hB2 (by omega) (f_o2) hT; have zE := (rcell hgE).1; clear hT; refine bodyPost_ret (by simp [results, Try.results91, go_sem, zE]; try rfl) rfl ?_)
  exact ⟨rfl, hbE⟩
end Go.Proofs.Ytfdaabdibpcjeaa
