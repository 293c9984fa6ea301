/- The package fsum at this program, on: Line where it tells. -/
import Derived.Test.YtlgjapjcdpikeaaFsum5
set_option linter.unusedSimpArgs false
set_option linter.unusedVariables false
namespace Go.Proofs.Ytlgjapjcdpikeaa
open Go.RowKit

theorem fl_bd {n a b m : Int} (h : RowOk n a b m) : -90000000000000000000000000000000000000 ≤ fl n.toNat a b m ∧ fl n.toNat a b m ≤ 90000000000000000000000000000000000000 := by
  obtain ⟨-, -, -, -, -, -, -, ⟨f0, f1⟩, -, he⟩ := steps_math h
  obtain ⟨n0, n1, a0, a1, b0, b1, m1, m2⟩ := h
  have p := prs_bd n n0 n1
  have da := div_bd a m _ a0 a1 m1
  have db := div_bd b m _ b0 b1 m1
  have ka := mul_bd (a / m) (prs n) _ _ da.1 da.2 p.1 p.2
  have kb := mul_bd (b / m) n _ _ db.1 db.2 n0 n1
  omega

/-- what fsum.Line comes to -/
def flnQ (A R N D from_ step n : Int) : Int := fl n.toNat (N * step) (N * from_ + R) D + A * n

theorem line_row {A R N D f s n : Int} (h : isB A R N D = true) (n0 : 0 ≤ n) (n1 : n ≤ 256) (f0 : 0 ≤ f) (f1 : f ≤ 281474976710656) (s0 : 0 ≤ s) (s1 : s ≤ 281474976710656) :
    RowOk n (N * s) (N * f + R) D ∧ (Rng (N * s) ∧ Rng (N * f) ∧ Rng (N * f + R)) ∧ (Rng (A * n) ∧ Rng (flnQ A R N D f s n)) := by
  obtain ⟨⟨a1, a2⟩, ⟨d1, d2, d3, d4⟩, _, r1, r2⟩ := isB_spec h
  have k1 := mul_bd N s _ _ d3 d4 s0 s1
  have k2 := mul_bd N f _ _ d3 d4 f0 f1
  have k3 := mul_bd A n _ _ a1 a2 n0 n1
  have hr : RowOk n (N * s) (N * f + R) D := ⟨n0, n1, by omega, by omega, by omega, by omega, d1, d2⟩
  have k4 := fl_bd hr
  unfold flnQ
  exact ⟨hr, ⟨⟨by omega, by omega⟩, ⟨by omega, by omega⟩, ⟨by omega, by omega⟩⟩, ⟨by omega, by omega⟩, ⟨by omega, by omega⟩⟩

set_option maxRecDepth 100000 in
set_option maxHeartbeats 4000000 in
theorem fsum_Line_p (A R N D f s n x y1 y2 yb : Int) (n0 : 0 ≤ n) (n1 : n ≤ 256) (f0 : 0 ≤ f) (f1 : f ≤ 281474976710656) (s0 : 0 ≤ s) (s1 : s ≤ 281474976710656) (hx : (n - 1) * s = x) (x0 : -281474976710656 ≤ x) (x1 : x ≤ 72057594037927936) (hp : 0 < n) (hx2 : x ≤ 281474976710656 - f)
    (c0 : ∀ w, Calls Try.prog 21 #[.agg #[.int .i64 A, .int .i64 R, .int .i64 N, .int .i64 D]] w fun e w' => e = .returned (.int .i64 0) ∧ Below w.heap.size w w')
    (c1 : ∀ w, Calls Try.prog 59 #[.int .i64 N, .int .i64 f] w fun e w' => e = .returned (.agg #[.int .i64 (hi (N * f)), .int .u64 (lo (N * f))]) ∧ Below w.heap.size w w')
    (c2 : ∀ w, Calls Try.prog 56 #[.int .i64 R] w fun e w' => e = .returned (.agg #[.int .i64 (hi R), .int .u64 (lo R)]) ∧ Below w.heap.size w w')
    (c3 : ∀ w, Calls Try.prog 87 #[.agg #[.int .i64 (hi (N * f)), .int .u64 (lo (N * f))], .agg #[.int .i64 (hi R), .int .u64 (lo R)]] w fun e w' => e = .returned (.tuple #[.agg #[.int .i64 (hi yb), .int .u64 (lo yb)], .int .i64 0]) ∧ Below w.heap.size w w')
    (c4 : ∀ w, Calls Try.prog 59 #[.int .i64 N, .int .i64 s] w fun e w' => e = .returned (.agg #[.int .i64 (hi (N * s)), .int .u64 (lo (N * s))]) ∧ Below w.heap.size w w')
    (c5 : ∀ (kl : Nat) (w : World), w.heap[kl]? = some (.cells #[.int .i64 A, .int .i64 R, .int .i64 N, .int .i64 D] 23 (0, 0)) → Calls Try.prog 78 #[.agg #[.int .i64 0, .int .u64 0, .int .i64 n, .int .i64 (hi (N * s)), .int .u64 (lo (N * s)), .int .i64 (hi yb), .int .u64 (lo yb), .int .i64 D], .func (Fn.func 88) #[] #[.pointer (some ⟨kl, 0, none⟩)]] w fun e w' => e = .returned (.tuple #[.agg #[.int .i64 y1, .int .u64 y2], .int .i64 0]) ∧ Below w.heap.size w w')
    (w : World) :
    Calls Try.prog 45 #[.agg #[.int .i64 A, .int .i64 R, .int .i64 N, .int .i64 D], .int .i64 f, .int .i64 s, .int .i64 n] w fun e w' => e = .returned (.tuple #[.agg #[.int .i64 y1, .int .u64 y2], .int .i64 0]) ∧ Below w.heap.size w w' := by
  have hmf : ∀ (fn : Fn) (first cap : Array Value) (w : World), (Instr.makeFunc fn first cap).run Try.prog w = .ok (.func fn first cap) w := fun _ _ _ _ => rfl
  go_enter Try.func45, Try.ntmps45
  go_wp2_with fail
  refine (c0 _).mono ?_
  rintro e w1 ⟨rfl, hb1⟩
  have f_l1 := kp hb1 (ka (na w #[.int .i64 A, .int .i64 R, .int .i64 N, .int .i64 D] 23) (.cells #[.int .i64 0, .int .u64 0] 46))
  have f_o1 := kp hb1 (na1 w (.cells #[.int .i64 A, .int .i64 R, .int .i64 N, .int .i64 D] 23) #[.int .i64 0, .int .u64 0] 46)
  have hB1 := bB (bA (bA (b0 w) (.cells #[.int .i64 A, .int .i64 R, .int .i64 N, .int .i64 D] 23)) (.cells #[.int .i64 0, .int .u64 0] 46)) hb1
  obtain ⟨zl_a, zl_b, ll1⟩ := rcell f_l1
  obtain ⟨zo_a, zo_b, lo1⟩ := rcell f_o1
  go_wp2_with fail
  refine Abs.wp_region_abs (Abs.cls0 _) [0, 1, 2, 3, 4, 5, 6, 7, 8, 9, 10, 11, 12, 13] (by kernel_rfl) (by kernel_rfl) (Below.refl _ _).drew ?_
  repeat (first | (refine Abs.step_pure rfl rfl (fun K hK => ?_); go_simp; (try go_bits); (first | refine hK _ _ ?_ | (simp only [↓IntWalk.iteOmega]; go_simp; (try go_bits); refine hK _ _ ?_)); clear hK K) | (refine Abs.step_load (v := ?_) rfl rfl (by kernel_rfl) rfl (fun w0 hI => ?_) (fun K hK => ?_); rotate_left; (· have z0 := (rcell (kp hI (f_l1))).1; go_simp; rfl); (simp only [Act.put, List.setIfInBounds_toArray, List.set_cons_zero, List.set_cons_succ]; refine hK _ _ ?_; clear hK K)) | (refine Abs.step_skip rfl rfl (fun K hK => ?_); (simp only [Act.put, List.setIfInBounds_toArray, List.set_cons_zero, List.set_cons_succ]; refine hK _ _ ?_; clear hK K)))
  (refine Abs.step_call_val (f := ?_) (args := ?_) (v := ?_) rfl rfl rfl rfl (fun w0 => ?_) (fun w0 hI => ?_) (fun K hK => ?_); rotate_left 3; (· go_simp; (constructor <;> rfl)); (· exact c1 _); (simp only [Act.put, List.setIfInBounds_toArray, List.set_cons_zero, List.set_cons_succ]; refine hK _ _ ?_; clear hK K))
  repeat (first | (refine Abs.step_pure rfl rfl (fun K hK => ?_); go_simp; (try go_bits); (first | refine hK _ _ ?_ | (simp only [↓IntWalk.iteOmega]; go_simp; (try go_bits); refine hK _ _ ?_)); clear hK K) | (refine Abs.step_load (v := ?_) rfl rfl (by kernel_rfl) rfl (fun w0 hI => ?_) (fun K hK => ?_); rotate_left; (· have z0 := (rcell (kp hI (f_l1))).1; go_simp; rfl); (simp only [Act.put, List.setIfInBounds_toArray, List.set_cons_zero, List.set_cons_succ]; refine hK _ _ ?_; clear hK K)) | (refine Abs.step_skip rfl rfl (fun K hK => ?_); (simp only [Act.put, List.setIfInBounds_toArray, List.set_cons_zero, List.set_cons_succ]; refine hK _ _ ?_; clear hK K)))
  (refine Abs.step_call_val (f := ?_) (args := ?_) (v := ?_) rfl rfl rfl rfl (fun w0 => ?_) (fun w0 hI => ?_) (fun K hK => ?_); rotate_left 3; (· go_simp; (constructor <;> rfl)); (· exact c2 _); (simp only [Act.put, List.setIfInBounds_toArray, List.set_cons_zero, List.set_cons_succ]; refine hK _ _ ?_; clear hK K))
  repeat (first | (refine Abs.step_pure rfl rfl (fun K hK => ?_); go_simp; (try go_bits); (first | refine hK _ _ ?_ | (simp only [↓IntWalk.iteOmega]; go_simp; (try go_bits); refine hK _ _ ?_)); clear hK K) | (refine Abs.step_load (v := ?_) rfl rfl (by kernel_rfl) rfl (fun w0 hI => ?_) (fun K hK => ?_); rotate_left; (· have z0 := (rcell (kp hI (f_l1))).1; go_simp; rfl); (simp only [Act.put, List.setIfInBounds_toArray, List.set_cons_zero, List.set_cons_succ]; refine hK _ _ ?_; clear hK K)) | (refine Abs.step_skip rfl rfl (fun K hK => ?_); (simp only [Act.put, List.setIfInBounds_toArray, List.set_cons_zero, List.set_cons_succ]; refine hK _ _ ?_; clear hK K)))
  (refine Abs.step_call_val (f := ?_) (args := ?_) (v := ?_) rfl rfl rfl rfl (fun w0 => ?_) (fun w0 hI => ?_) (fun K hK => ?_); rotate_left 3; (· go_simp; (constructor <;> rfl)); (· exact c3 _); (simp only [Act.put, List.setIfInBounds_toArray, List.set_cons_zero, List.set_cons_succ]; refine hK _ _ ?_; clear hK K))
  repeat (first | (refine Abs.step_pure rfl rfl (fun K hK => ?_); go_simp; (try go_bits); (first | refine hK _ _ ?_ | (simp only [↓IntWalk.iteOmega]; go_simp; (try go_bits); refine hK _ _ ?_)); clear hK K) | (refine Abs.step_load (v := ?_) rfl rfl (by kernel_rfl) rfl (fun w0 hI => ?_) (fun K hK => ?_); rotate_left; (· have z0 := (rcell (kp hI (f_l1))).1; go_simp; rfl); (simp only [Act.put, List.setIfInBounds_toArray, List.set_cons_zero, List.set_cons_succ]; refine hK _ _ ?_; clear hK K)) | (refine Abs.step_skip rfl rfl (fun K hK => ?_); (simp only [Act.put, List.setIfInBounds_toArray, List.set_cons_zero, List.set_cons_succ]; refine hK _ _ ?_; clear hK K)))
  (refine Abs.step_var (obj := ?_) rfl rfl rfl rfl (fun w0 => ?_) (fun K hK g_b hv_b hu_b => ?_); rotate_left; (· go_simp; rfl); (simp only [Act.put, List.setIfInBounds_toArray, List.set_cons_zero, List.set_cons_succ]; refine hK _ _ ?_; clear hK K))
  (refine Abs.step_store (T := ?_) rfl rfl rfl (fun w0 hI hF hU => ?_) (fun _ _ _ _ => trivial) (fun K hK => ?_); rotate_left; (· simp only [Abs.F_setF, Abs.F_addA, Abs.F_push, Abs.F_start, true_and] at hF; have hg0 := (rcell hF).1; have hg1 := (rcell hF).2.1; simp only [Abs.T_setF, Abs.T_addA, Abs.T_push, Abs.T_start]; go_simp; exact row2 hF _ _); (simp only [Act.put, List.setIfInBounds_toArray, List.set_cons_zero, List.set_cons_succ]; refine hK _ _ ?_; clear hK K))
  repeat (first | (refine Abs.step_pure rfl rfl (fun K hK => ?_); go_simp; (try go_bits); (first | refine hK _ _ ?_ | (simp only [↓IntWalk.iteOmega]; go_simp; (try go_bits); refine hK _ _ ?_)); clear hK K) | (refine Abs.step_load (v := ?_) rfl rfl (by kernel_rfl) rfl (fun w0 hI => ?_) (fun K hK => ?_); rotate_left; (· have z0 := (rcell (kp hI (f_l1))).1; go_simp; rfl); (simp only [Act.put, List.setIfInBounds_toArray, List.set_cons_zero, List.set_cons_succ]; refine hK _ _ ?_; clear hK K)) | (refine Abs.step_skip rfl rfl (fun K hK => ?_); (simp only [Act.put, List.setIfInBounds_toArray, List.set_cons_zero, List.set_cons_succ]; refine hK _ _ ?_; clear hK K)))
  have hs_b := leB hv_b
  try simp only [World.size_alloc] at hs_b
  intro w0 hI hF hx1 hx2
  clear hx1 hx2
  simp only [Abs.F_setF, Abs.F_addA, Abs.F_push, Abs.F_start, true_and, Abs.T_push] at hF ⊢
  generalize hT3 : setRow w0 _ _ = w3
  obtain ⟨hb3, f_b3⟩ := fin1 hI hv_b hF hT3
  clear hT3 hI hF w0
  have f_l3 := kp hb3 (f_l1)
  have f_o3 := kp hb3 (f_o1)
  have hB3 := bB hB1 hb3
  clear zl_a zl_b zo_a zo_b
  obtain ⟨zl_a, zl_b, ll3⟩ := rcell f_l3
  obtain ⟨zo_a, zo_b, lo3⟩ := rcell f_o3
  obtain ⟨zb_a, zb_b, lb3⟩ := rcell f_b3
  go_wp2_with fail
  refine Abs.wp_region_abs (Abs.cls0 _) [0, 1, 2, 3, 4, 5, 6, 7, 8, 9, 10, 11, 12, 13, 14] (by kernel_rfl) (by kernel_rfl) (Below.refl _ _).drew ?_
  repeat (first | (refine Abs.step_pure rfl rfl (fun K hK => ?_); go_simp; (try go_bits); (first | refine hK _ _ ?_ | (simp only [↓IntWalk.iteOmega]; go_simp; (try go_bits); refine hK _ _ ?_)); clear hK K) | (refine Abs.step_load (v := ?_) rfl rfl (by kernel_rfl) rfl (fun w0 hI => ?_) (fun K hK => ?_); rotate_left; (· have z0 := (rcell (kp hI (f_l3))).1; have z1 := (rcell (kp hI (f_b3))).1; go_simp; rfl); (simp only [Act.put, List.setIfInBounds_toArray, List.set_cons_zero, List.set_cons_succ]; refine hK _ _ ?_; clear hK K)) | (refine Abs.step_skip rfl rfl (fun K hK => ?_); (simp only [Act.put, List.setIfInBounds_toArray, List.set_cons_zero, List.set_cons_succ]; refine hK _ _ ?_; clear hK K)))
  (refine Abs.step_call_val (f := ?_) (args := ?_) (v := ?_) rfl rfl rfl rfl (fun w0 => ?_) (fun w0 hI => ?_) (fun K hK => ?_); rotate_left 3; (· go_simp; (constructor <;> rfl)); (· exact c4 _); (simp only [Act.put, List.setIfInBounds_toArray, List.set_cons_zero, List.set_cons_succ]; refine hK _ _ ?_; clear hK K))
  repeat (first | (refine Abs.step_pure rfl rfl (fun K hK => ?_); go_simp; (try go_bits); (first | refine hK _ _ ?_ | (simp only [↓IntWalk.iteOmega]; go_simp; (try go_bits); refine hK _ _ ?_)); clear hK K) | (refine Abs.step_load (v := ?_) rfl rfl (by kernel_rfl) rfl (fun w0 hI => ?_) (fun K hK => ?_); rotate_left; (· have z0 := (rcell (kp hI (f_l3))).1; have z1 := (rcell (kp hI (f_b3))).1; go_simp; rfl); (simp only [Act.put, List.setIfInBounds_toArray, List.set_cons_zero, List.set_cons_succ]; refine hK _ _ ?_; clear hK K)) | (refine Abs.step_skip rfl rfl (fun K hK => ?_); (simp only [Act.put, List.setIfInBounds_toArray, List.set_cons_zero, List.set_cons_succ]; refine hK _ _ ?_; clear hK K)))
  (refine Abs.step_call_val (f := ?_) (args := ?_) (v := ?_) rfl rfl rfl rfl (fun w0 => ?_) (fun w0 hI => ?_) (fun K hK => ?_); rotate_left 3; (· go_simp; (constructor <;> rfl)); (· exact c5 _ _ (kp hI (f_l3))); (simp only [Act.put, List.setIfInBounds_toArray, List.set_cons_zero, List.set_cons_succ]; refine hK _ _ ?_; clear hK K))
  repeat (first | (refine Abs.step_pure rfl rfl (fun K hK => ?_); go_simp; (try go_bits); (first | refine hK _ _ ?_ | (simp only [↓IntWalk.iteOmega]; go_simp; (try go_bits); refine hK _ _ ?_)); clear hK K) | (refine Abs.step_load (v := ?_) rfl rfl (by kernel_rfl) rfl (fun w0 hI => ?_) (fun K hK => ?_); rotate_left; (· have z0 := (rcell (kp hI (f_l3))).1; have z1 := (rcell (kp hI (f_b3))).1; go_simp; rfl); (simp only [Act.put, List.setIfInBounds_toArray, List.set_cons_zero, List.set_cons_succ]; refine hK _ _ ?_; clear hK K)) | (refine Abs.step_skip rfl rfl (fun K hK => ?_); (simp only [Act.put, List.setIfInBounds_toArray, List.set_cons_zero, List.set_cons_succ]; refine hK _ _ ?_; clear hK K)))
  (refine Abs.step_store (T := ?_) rfl rfl rfl (fun w0 hI hF hU => ?_) (fun w0 hI hU hJ => ?_) (fun K hK => ?_); rotate_left; (· have hR := kp hI (f_o3); have hg0 := (rcell hR).1; have hg1 := (rcell hR).2.1; simp only [Abs.T_setF, Abs.T_addA, Abs.T_push, Abs.T_start]; go_simp; exact row2 hR _ _); (· first | exact trivial | exact js hJ rfl _); (simp only [Act.put, List.setIfInBounds_toArray, List.set_cons_zero, List.set_cons_succ]; refine hK _ _ ?_; clear hK K))
  repeat (first | (refine Abs.step_pure rfl rfl (fun K hK => ?_); go_simp; (try go_bits); (first | refine hK _ _ ?_ | (simp only [↓IntWalk.iteOmega]; go_simp; (try go_bits); refine hK _ _ ?_)); clear hK K) | (refine Abs.step_load (v := ?_) rfl rfl (by kernel_rfl) rfl (fun w0 hI => ?_) (fun K hK => ?_); rotate_left; (· have z0 := (rcell (kp hI (f_l3))).1; have z1 := (rcell (kp hI (f_b3))).1; go_simp; rfl); (simp only [Act.put, List.setIfInBounds_toArray, List.set_cons_zero, List.set_cons_succ]; refine hK _ _ ?_; clear hK K)) | (refine Abs.step_skip rfl rfl (fun K hK => ?_); (simp only [Act.put, List.setIfInBounds_toArray, List.set_cons_zero, List.set_cons_succ]; refine hK _ _ ?_; clear hK K)))
  intro w0 hI hF hx1 hx2
  clear hx1 hx2 hF
  simp only [Abs.T_push]
  generalize hT5 : setRow w0 _ _ = w5
  obtain ⟨hx5, f_o5⟩ := fin_x hI (f_o3) hT5
  clear hT5 hI w0
  have f_l5 := kx hx5 (f_l3) (by omega)
  have f_b5 := kx hx5 (f_b3) (by omega)
  have hB5 := bX hB3 hx5 (by omega)
  clear zb_a zb_b zl_a zl_b zo_a zo_b
  obtain ⟨zl_a, zl_b, ll5⟩ := rcell f_l5
  obtain ⟨zb_a, zb_b, lb5⟩ := rcell f_b5
  obtain ⟨zo_a, zo_b, lo5⟩ := rcell f_o5
  go_wp2
  refine bodyPost_ret (by simp [results, Try.results45, go_sem, zo_a]; try rfl) rfl ⟨rfl, hB5⟩

set_option maxRecDepth 100000 in
set_option maxHeartbeats 4000000 in
theorem fsum_Line_z (A R N D f s n x y1 y2 yb : Int) (n0 : 0 ≤ n) (n1 : n ≤ 256) (f0 : 0 ≤ f) (f1 : f ≤ 281474976710656) (s0 : 0 ≤ s) (s1 : s ≤ 281474976710656) (hx : (n - 1) * s = x) (x0 : -281474976710656 ≤ x) (x1 : x ≤ 72057594037927936) (hp : ¬ 0 < n)
    (c0 : ∀ w, Calls Try.prog 21 #[.agg #[.int .i64 A, .int .i64 R, .int .i64 N, .int .i64 D]] w fun e w' => e = .returned (.int .i64 0) ∧ Below w.heap.size w w')
    (c1 : ∀ w, Calls Try.prog 59 #[.int .i64 N, .int .i64 f] w fun e w' => e = .returned (.agg #[.int .i64 (hi (N * f)), .int .u64 (lo (N * f))]) ∧ Below w.heap.size w w')
    (c2 : ∀ w, Calls Try.prog 56 #[.int .i64 R] w fun e w' => e = .returned (.agg #[.int .i64 (hi R), .int .u64 (lo R)]) ∧ Below w.heap.size w w')
    (c3 : ∀ w, Calls Try.prog 87 #[.agg #[.int .i64 (hi (N * f)), .int .u64 (lo (N * f))], .agg #[.int .i64 (hi R), .int .u64 (lo R)]] w fun e w' => e = .returned (.tuple #[.agg #[.int .i64 (hi yb), .int .u64 (lo yb)], .int .i64 0]) ∧ Below w.heap.size w w')
    (c4 : ∀ w, Calls Try.prog 59 #[.int .i64 N, .int .i64 s] w fun e w' => e = .returned (.agg #[.int .i64 (hi (N * s)), .int .u64 (lo (N * s))]) ∧ Below w.heap.size w w')
    (c5 : ∀ (kl : Nat) (w : World), w.heap[kl]? = some (.cells #[.int .i64 A, .int .i64 R, .int .i64 N, .int .i64 D] 23 (0, 0)) → Calls Try.prog 78 #[.agg #[.int .i64 0, .int .u64 0, .int .i64 n, .int .i64 (hi (N * s)), .int .u64 (lo (N * s)), .int .i64 (hi yb), .int .u64 (lo yb), .int .i64 D], .func (Fn.func 88) #[] #[.pointer (some ⟨kl, 0, none⟩)]] w fun e w' => e = .returned (.tuple #[.agg #[.int .i64 y1, .int .u64 y2], .int .i64 0]) ∧ Below w.heap.size w w')
    (w : World) :
    Calls Try.prog 45 #[.agg #[.int .i64 A, .int .i64 R, .int .i64 N, .int .i64 D], .int .i64 f, .int .i64 s, .int .i64 n] w fun e w' => e = .returned (.tuple #[.agg #[.int .i64 y1, .int .u64 y2], .int .i64 0]) ∧ Below w.heap.size w w' := by
  have hmf : ∀ (fn : Fn) (first cap : Array Value) (w : World), (Instr.makeFunc fn first cap).run Try.prog w = .ok (.func fn first cap) w := fun _ _ _ _ => rfl
  go_enter Try.func45, Try.ntmps45
  go_wp2_with fail
  refine (c0 _).mono ?_
  rintro e w1 ⟨rfl, hb1⟩
  have f_l1 := kp hb1 (ka (na w #[.int .i64 A, .int .i64 R, .int .i64 N, .int .i64 D] 23) (.cells #[.int .i64 0, .int .u64 0] 46))
  have f_o1 := kp hb1 (na1 w (.cells #[.int .i64 A, .int .i64 R, .int .i64 N, .int .i64 D] 23) #[.int .i64 0, .int .u64 0] 46)
  have hB1 := bB (bA (bA (b0 w) (.cells #[.int .i64 A, .int .i64 R, .int .i64 N, .int .i64 D] 23)) (.cells #[.int .i64 0, .int .u64 0] 46)) hb1
  obtain ⟨zl_a, zl_b, ll1⟩ := rcell f_l1
  obtain ⟨zo_a, zo_b, lo1⟩ := rcell f_o1
  go_wp2_with fail
  refine Abs.wp_region_abs (Abs.cls0 _) [0, 1, 2, 3, 4, 5, 6, 7, 8, 9, 10, 11, 12, 13] (by kernel_rfl) (by kernel_rfl) (Below.refl _ _).drew ?_
  repeat (first | (refine Abs.step_pure rfl rfl (fun K hK => ?_); go_simp; (try go_bits); (first | refine hK _ _ ?_ | (simp only [↓IntWalk.iteOmega]; go_simp; (try go_bits); refine hK _ _ ?_)); clear hK K) | (refine Abs.step_load (v := ?_) rfl rfl (by kernel_rfl) rfl (fun w0 hI => ?_) (fun K hK => ?_); rotate_left; (· have z0 := (rcell (kp hI (f_l1))).1; go_simp; rfl); (simp only [Act.put, List.setIfInBounds_toArray, List.set_cons_zero, List.set_cons_succ]; refine hK _ _ ?_; clear hK K)) | (refine Abs.step_skip rfl rfl (fun K hK => ?_); (simp only [Act.put, List.setIfInBounds_toArray, List.set_cons_zero, List.set_cons_succ]; refine hK _ _ ?_; clear hK K)))
  (refine Abs.step_call_val (f := ?_) (args := ?_) (v := ?_) rfl rfl rfl rfl (fun w0 => ?_) (fun w0 hI => ?_) (fun K hK => ?_); rotate_left 3; (· go_simp; (constructor <;> rfl)); (· exact c1 _); (simp only [Act.put, List.setIfInBounds_toArray, List.set_cons_zero, List.set_cons_succ]; refine hK _ _ ?_; clear hK K))
  repeat (first | (refine Abs.step_pure rfl rfl (fun K hK => ?_); go_simp; (try go_bits); (first | refine hK _ _ ?_ | (simp only [↓IntWalk.iteOmega]; go_simp; (try go_bits); refine hK _ _ ?_)); clear hK K) | (refine Abs.step_load (v := ?_) rfl rfl (by kernel_rfl) rfl (fun w0 hI => ?_) (fun K hK => ?_); rotate_left; (· have z0 := (rcell (kp hI (f_l1))).1; go_simp; rfl); (simp only [Act.put, List.setIfInBounds_toArray, List.set_cons_zero, List.set_cons_succ]; refine hK _ _ ?_; clear hK K)) | (refine Abs.step_skip rfl rfl (fun K hK => ?_); (simp only [Act.put, List.setIfInBounds_toArray, List.set_cons_zero, List.set_cons_succ]; refine hK _ _ ?_; clear hK K)))
  (refine Abs.step_call_val (f := ?_) (args := ?_) (v := ?_) rfl rfl rfl rfl (fun w0 => ?_) (fun w0 hI => ?_) (fun K hK => ?_); rotate_left 3; (· go_simp; (constructor <;> rfl)); (· exact c2 _); (simp only [Act.put, List.setIfInBounds_toArray, List.set_cons_zero, List.set_cons_succ]; refine hK _ _ ?_; clear hK K))
  repeat (first | (refine Abs.step_pure rfl rfl (fun K hK => ?_); go_simp; (try go_bits); (first | refine hK _ _ ?_ | (simp only [↓IntWalk.iteOmega]; go_simp; (try go_bits); refine hK _ _ ?_)); clear hK K) | (refine Abs.step_load (v := ?_) rfl rfl (by kernel_rfl) rfl (fun w0 hI => ?_) (fun K hK => ?_); rotate_left; (· have z0 := (rcell (kp hI (f_l1))).1; go_simp; rfl); (simp only [Act.put, List.setIfInBounds_toArray, List.set_cons_zero, List.set_cons_succ]; refine hK _ _ ?_; clear hK K)) | (refine Abs.step_skip rfl rfl (fun K hK => ?_); (simp only [Act.put, List.setIfInBounds_toArray, List.set_cons_zero, List.set_cons_succ]; refine hK _ _ ?_; clear hK K)))
  (refine Abs.step_call_val (f := ?_) (args := ?_) (v := ?_) rfl rfl rfl rfl (fun w0 => ?_) (fun w0 hI => ?_) (fun K hK => ?_); rotate_left 3; (· go_simp; (constructor <;> rfl)); (· exact c3 _); (simp only [Act.put, List.setIfInBounds_toArray, List.set_cons_zero, List.set_cons_succ]; refine hK _ _ ?_; clear hK K))
  repeat (first | (refine Abs.step_pure rfl rfl (fun K hK => ?_); go_simp; (try go_bits); (first | refine hK _ _ ?_ | (simp only [↓IntWalk.iteOmega]; go_simp; (try go_bits); refine hK _ _ ?_)); clear hK K) | (refine Abs.step_load (v := ?_) rfl rfl (by kernel_rfl) rfl (fun w0 hI => ?_) (fun K hK => ?_); rotate_left; (· have z0 := (rcell (kp hI (f_l1))).1; go_simp; rfl); (simp only [Act.put, List.setIfInBounds_toArray, List.set_cons_zero, List.set_cons_succ]; refine hK _ _ ?_; clear hK K)) | (refine Abs.step_skip rfl rfl (fun K hK => ?_); (simp only [Act.put, List.setIfInBounds_toArray, List.set_cons_zero, List.set_cons_succ]; refine hK _ _ ?_; clear hK K)))
  (refine Abs.step_var (obj := ?_) rfl rfl rfl rfl (fun w0 => ?_) (fun K hK g_b hv_b hu_b => ?_); rotate_left; (· go_simp; rfl); (simp only [Act.put, List.setIfInBounds_toArray, List.set_cons_zero, List.set_cons_succ]; refine hK _ _ ?_; clear hK K))
  (refine Abs.step_store (T := ?_) rfl rfl rfl (fun w0 hI hF hU => ?_) (fun _ _ _ _ => trivial) (fun K hK => ?_); rotate_left; (· simp only [Abs.F_setF, Abs.F_addA, Abs.F_push, Abs.F_start, true_and] at hF; have hg0 := (rcell hF).1; have hg1 := (rcell hF).2.1; simp only [Abs.T_setF, Abs.T_addA, Abs.T_push, Abs.T_start]; go_simp; exact row2 hF _ _); (simp only [Act.put, List.setIfInBounds_toArray, List.set_cons_zero, List.set_cons_succ]; refine hK _ _ ?_; clear hK K))
  repeat (first | (refine Abs.step_pure rfl rfl (fun K hK => ?_); go_simp; (try go_bits); (first | refine hK _ _ ?_ | (simp only [↓IntWalk.iteOmega]; go_simp; (try go_bits); refine hK _ _ ?_)); clear hK K) | (refine Abs.step_load (v := ?_) rfl rfl (by kernel_rfl) rfl (fun w0 hI => ?_) (fun K hK => ?_); rotate_left; (· have z0 := (rcell (kp hI (f_l1))).1; go_simp; rfl); (simp only [Act.put, List.setIfInBounds_toArray, List.set_cons_zero, List.set_cons_succ]; refine hK _ _ ?_; clear hK K)) | (refine Abs.step_skip rfl rfl (fun K hK => ?_); (simp only [Act.put, List.setIfInBounds_toArray, List.set_cons_zero, List.set_cons_succ]; refine hK _ _ ?_; clear hK K)))
  have hs_b := leB hv_b
  try simp only [World.size_alloc] at hs_b
  intro w0 hI hF hx1 hx2
  clear hx1 hx2
  simp only [Abs.F_setF, Abs.F_addA, Abs.F_push, Abs.F_start, true_and, Abs.T_push] at hF ⊢
  generalize hT3 : setRow w0 _ _ = w3
  obtain ⟨hb3, f_b3⟩ := fin1 hI hv_b hF hT3
  clear hT3 hI hF w0
  have f_l3 := kp hb3 (f_l1)
  have f_o3 := kp hb3 (f_o1)
  have hB3 := bB hB1 hb3
  clear zl_a zl_b zo_a zo_b
  obtain ⟨zl_a, zl_b, ll3⟩ := rcell f_l3
  obtain ⟨zo_a, zo_b, lo3⟩ := rcell f_o3
  obtain ⟨zb_a, zb_b, lb3⟩ := rcell f_b3
  go_wp2_with fail
  refine Abs.wp_region_abs (Abs.cls0 _) [0, 1, 2, 3, 4, 5, 6, 7, 8, 9, 10, 11, 12, 13, 14] (by kernel_rfl) (by kernel_rfl) (Below.refl _ _).drew ?_
  repeat (first | (refine Abs.step_pure rfl rfl (fun K hK => ?_); go_simp; (try go_bits); (first | refine hK _ _ ?_ | (simp only [↓IntWalk.iteOmega]; go_simp; (try go_bits); refine hK _ _ ?_)); clear hK K) | (refine Abs.step_load (v := ?_) rfl rfl (by kernel_rfl) rfl (fun w0 hI => ?_) (fun K hK => ?_); rotate_left; (· have z0 := (rcell (kp hI (f_l3))).1; have z1 := (rcell (kp hI (f_b3))).1; go_simp; rfl); (simp only [Act.put, List.setIfInBounds_toArray, List.set_cons_zero, List.set_cons_succ]; refine hK _ _ ?_; clear hK K)) | (refine Abs.step_skip rfl rfl (fun K hK => ?_); (simp only [Act.put, List.setIfInBounds_toArray, List.set_cons_zero, List.set_cons_succ]; refine hK _ _ ?_; clear hK K)))
  (refine Abs.step_call_val (f := ?_) (args := ?_) (v := ?_) rfl rfl rfl rfl (fun w0 => ?_) (fun w0 hI => ?_) (fun K hK => ?_); rotate_left 3; (· go_simp; (constructor <;> rfl)); (· exact c4 _); (simp only [Act.put, List.setIfInBounds_toArray, List.set_cons_zero, List.set_cons_succ]; refine hK _ _ ?_; clear hK K))
  repeat (first | (refine Abs.step_pure rfl rfl (fun K hK => ?_); go_simp; (try go_bits); (first | refine hK _ _ ?_ | (simp only [↓IntWalk.iteOmega]; go_simp; (try go_bits); refine hK _ _ ?_)); clear hK K) | (refine Abs.step_load (v := ?_) rfl rfl (by kernel_rfl) rfl (fun w0 hI => ?_) (fun K hK => ?_); rotate_left; (· have z0 := (rcell (kp hI (f_l3))).1; have z1 := (rcell (kp hI (f_b3))).1; go_simp; rfl); (simp only [Act.put, List.setIfInBounds_toArray, List.set_cons_zero, List.set_cons_succ]; refine hK _ _ ?_; clear hK K)) | (refine Abs.step_skip rfl rfl (fun K hK => ?_); (simp only [Act.put, List.setIfInBounds_toArray, List.set_cons_zero, List.set_cons_succ]; refine hK _ _ ?_; clear hK K)))
  (refine Abs.step_call_val (f := ?_) (args := ?_) (v := ?_) rfl rfl rfl rfl (fun w0 => ?_) (fun w0 hI => ?_) (fun K hK => ?_); rotate_left 3; (· go_simp; (constructor <;> rfl)); (· exact c5 _ _ (kp hI (f_l3))); (simp only [Act.put, List.setIfInBounds_toArray, List.set_cons_zero, List.set_cons_succ]; refine hK _ _ ?_; clear hK K))
  repeat (first | (refine Abs.step_pure rfl rfl (fun K hK => ?_); go_simp; (try go_bits); (first | refine hK _ _ ?_ | (simp only [↓IntWalk.iteOmega]; go_simp; (try go_bits); refine hK _ _ ?_)); clear hK K) | (refine Abs.step_load (v := ?_) rfl rfl (by kernel_rfl) rfl (fun w0 hI => ?_) (fun K hK => ?_); rotate_left; (· have z0 := (rcell (kp hI (f_l3))).1; have z1 := (rcell (kp hI (f_b3))).1; go_simp; rfl); (simp only [Act.put, List.setIfInBounds_toArray, List.set_cons_zero, List.set_cons_succ]; refine hK _ _ ?_; clear hK K)) | (refine Abs.step_skip rfl rfl (fun K hK => ?_); (simp only [Act.put, List.setIfInBounds_toArray, List.set_cons_zero, List.set_cons_succ]; refine hK _ _ ?_; clear hK K)))
  (refine Abs.step_store (T := ?_) rfl rfl rfl (fun w0 hI hF hU => ?_) (fun w0 hI hU hJ => ?_) (fun K hK => ?_); rotate_left; (· have hR := kp hI (f_o3); have hg0 := (rcell hR).1; have hg1 := (rcell hR).2.1; simp only [Abs.T_setF, Abs.T_addA, Abs.T_push, Abs.T_start]; go_simp; exact row2 hR _ _); (· first | exact trivial | exact js hJ rfl _); (simp only [Act.put, List.setIfInBounds_toArray, List.set_cons_zero, List.set_cons_succ]; refine hK _ _ ?_; clear hK K))
  repeat (first | (refine Abs.step_pure rfl rfl (fun K hK => ?_); go_simp; (try go_bits); (first | refine hK _ _ ?_ | (simp only [↓IntWalk.iteOmega]; go_simp; (try go_bits); refine hK _ _ ?_)); clear hK K) | (refine Abs.step_load (v := ?_) rfl rfl (by kernel_rfl) rfl (fun w0 hI => ?_) (fun K hK => ?_); rotate_left; (· have z0 := (rcell (kp hI (f_l3))).1; have z1 := (rcell (kp hI (f_b3))).1; go_simp; rfl); (simp only [Act.put, List.setIfInBounds_toArray, List.set_cons_zero, List.set_cons_succ]; refine hK _ _ ?_; clear hK K)) | (refine Abs.step_skip rfl rfl (fun K hK => ?_); (simp only [Act.put, List.setIfInBounds_toArray, List.set_cons_zero, List.set_cons_succ]; refine hK _ _ ?_; clear hK K)))
  intro w0 hI hF hx1 hx2
  clear hx1 hx2 hF
  simp only [Abs.T_push]
  generalize hT5 : setRow w0 _ _ = w5
  obtain ⟨hx5, f_o5⟩ := fin_x hI (f_o3) hT5
  clear hT5 hI w0
  have f_l5 := kx hx5 (f_l3) (by omega)
  have f_b5 := kx hx5 (f_b3) (by omega)
  have hB5 := bX hB3 hx5 (by omega)
  clear zb_a zb_b zl_a zl_b zo_a zo_b
  obtain ⟨zl_a, zl_b, ll5⟩ := rcell f_l5
  obtain ⟨zb_a, zb_b, lb5⟩ := rcell f_b5
  obtain ⟨zo_a, zo_b, lo5⟩ := rcell f_o5
  go_wp2
  refine bodyPost_ret (by simp [results, Try.results45, go_sem, zo_a]; try rfl) rfl ⟨rfl, hB5⟩

theorem fsum_Line (A R N D f s n : Int) (h : isB A R N D = true) (n0 : 0 ≤ n) (n1 : n ≤ 256) (f0 : 0 ≤ f) (f1 : f ≤ 281474976710656) (s0 : 0 ≤ s) (s1 : s ≤ 281474976710656) (hx2 : 0 < n → (n - 1) * s ≤ 281474976710656 - f) (w : World) :
    Calls Try.prog 45 #[.agg #[.int .i64 A, .int .i64 R, .int .i64 N, .int .i64 D], .int .i64 f, .int .i64 s, .int .i64 n] w fun e w' => e = .returned (.tuple #[.agg #[.int .i64 (hi (flnQ A R N D f s n)), .int .u64 (lo (flnQ A R N D f s n))], .int .i64 0]) ∧ Below w.heap.size w w' := by
  obtain ⟨hr, ⟨q1, q2, q3⟩, q4, q5⟩ := line_row h n0 n1 f0 f1 s0 s1
  obtain ⟨⟨a1, a2⟩, ⟨d1, d2, d3, d4⟩, _, r1, r2⟩ := isB_spec h
  have c0 := line_Check A R N D
  rw [if_pos h] at c0
  have k4 := fl_bd hr
  have c5 := fun (kl : Nat) (w : World) hl => tellsL n (N * s) (N * f + R) D (hi (flnQ A R N D f s n)) (lo (flnQ A R N D f s n)) kl A R N D hr
    (fun k w hne hl hk => line_fn n (N * s) (N * f + R) D ⟨by omega, by omega⟩ A R N D (by omega) (by omega) (by omega) (by omega) q4 q5 kl k w hne hl hk) w hl
  have xs : -281474976710656 ≤ (n - 1) * s ∧ (n - 1) * s ≤ 72057594037927936 := by
    have k1 : (n - 1) * s ≤ 256 * s := Int.mul_le_mul_of_nonneg_right (by omega) s0
    have k2 : -1 * s ≤ (n - 1) * s := Int.mul_le_mul_of_nonneg_right (by omega) s0
    omega
  by_cases hp : 0 < n
  · exact fsum_Line_p A R N D f s n _ _ _ _ n0 n1 f0 f1 s0 s1 rfl xs.1 xs.2 hp (hx2 hp) c0 (wide_Mul N f (by omega) (by omega) (by omega) (by omega)) (wide_Of R (by omega) (by omega)) (wide_Add _ _ q2 ⟨by omega, by omega⟩ q3) (wide_Mul N s (by omega) (by omega) (by omega) (by omega)) c5 w
  · exact fsum_Line_z A R N D f s n _ _ _ _ n0 n1 f0 f1 s0 s1 rfl xs.1 xs.2 hp c0 (wide_Mul N f (by omega) (by omega) (by omega) (by omega)) (wide_Of R (by omega) (by omega)) (wide_Add _ _ q2 ⟨by omega, by omega⟩ q3) (wide_Mul N s (by omega) (by omega) (by omega) (by omega)) c5 w
end Go.Proofs.Ytlgjapjcdpikeaa
