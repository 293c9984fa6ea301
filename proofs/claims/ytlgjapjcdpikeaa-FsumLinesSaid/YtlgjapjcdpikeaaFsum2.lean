/- The package fsum at this program, on: (*sum).add, onto a row's sum and onto a sum alone. -/
import Derived.Test.YtlgjapjcdpikeaaTail
set_option linter.unusedSimpArgs false
set_option linter.unusedVariables false
namespace Go.Proofs.Ytlgjapjcdpikeaa
open Go.RowKit

set_option maxRecDepth 100000 in
set_option maxHeartbeats 2000000 in
theorem fsum_add8 (g : Nat) (s x n : Int) (v2 v3 v4 v5 v6 v7 : Value) (hs : Rng s) (hx : Rng x) (n1 : -9223372036854775808 ≤ n) (n2 : n < 9223372036854775808) (hp : Rng (x * n)) (ha : Rng (s + x * n)) (w : World)
    (hg : w.heap[g]? = some (.cells #[.int .i64 (hi s), .int .u64 (lo s), v2, v3, v4, v5, v6, v7] 116 (0, 0))) :
    Calls Try.prog 82 #[.pointer (some ⟨g, 0, none⟩), .agg #[.int .i64 (hi x), .int .u64 (lo x)], .int .i64 n] w fun e w' => e = .returned (.tuple #[]) ∧ Exc g w w' ∧ w'.heap[g]? = some (.cells #[.int .i64 (hi (s + x * n)), .int .u64 (lo (s + x * n)), v2, v3, v4, v5, v6, v7] 116 (0, 0)) := by
  have c1 := wide_Scale x n hx n1 n2 hp
  have c2 := wide_Add s (x * n) hs hp ha
  generalize x * n = p at *
  generalize s + p = q at *
  have l_g := (rcell hg).2.2
  obtain ⟨zg_a, zg_b, -⟩ := rcell hg
  go_enter Try.func82, Try.ntmps82
  go_wp2_with fail
  refine (c1 _).mono ?_
  rintro e w1 ⟨rfl, hb1⟩
  have f_g1 := kp hb1 (ka (hg) _)
  have f_x1 := kp hb1 (na _ _ _)
  have hB1 := xB (xA (x0 g w (Nat.le_of_lt (rcell hg).2.2)) _) hb1
  clear zg_a zg_b
  obtain ⟨zg_a, zg_b, lg1⟩ := rcell f_g1
  obtain ⟨zx_a, zx_b, lx1⟩ := rcell f_x1
  go_wp2_with fail
  rw [row2 f_x1]
  generalize hT2 : setRow _ _ _ = w2
  obtain ⟨hx2, f_x2⟩ := fin_x (b0 _) f_x1 hT2
  clear hT2
  have f_g2 := kx hx2 (f_g1) (by omega)
  have hB2 := xX hB1 hx2 (by omega)
  clear zg_a zg_b zx_a zx_b
  obtain ⟨zg_a, zg_b, lg2⟩ := rcell f_g2
  obtain ⟨zx_a, zx_b, lx2⟩ := rcell f_x2
  refine Abs.wp_region_abs (Abs.cls0 _) [0, 1, 2, 3, 4, 5, 6, 7, 8, 9, 10, 11, 12] (by kernel_rfl) (by kernel_rfl) (Below.refl _ _).drew ?_
  repeat (first | (refine Abs.step_pure rfl rfl (fun K hK => ?_); go_simp; (try go_bits); (first | refine hK _ _ ?_ | (simp only [↓IntWalk.iteOmega]; go_simp; (try go_bits); refine hK _ _ ?_)); clear hK K) | (refine Abs.step_load (v := ?_) rfl rfl (by kernel_rfl) rfl (fun w0 hI => ?_) (fun K hK => ?_); rotate_left; (· have z0 := (rcell (kp hI (f_g2))).1; have z1 := (rcell (kp hI (f_x2))).1; go_simp; rfl); (simp only [Act.put, List.setIfInBounds_toArray, List.set_cons_zero, List.set_cons_succ]; refine hK _ _ ?_; clear hK K)) | (refine Abs.step_skip rfl rfl (fun K hK => ?_); (simp only [Act.put, List.setIfInBounds_toArray, List.set_cons_zero, List.set_cons_succ]; refine hK _ _ ?_; clear hK K)))
  (refine Abs.step_call_val (f := ?_) (args := ?_) (v := ?_) rfl rfl rfl rfl (fun w0 => ?_) (fun w0 hI => ?_) (fun K hK => ?_); rotate_left 3; (· go_simp; (constructor <;> rfl)); (· exact c2 _); (simp only [Act.put, List.setIfInBounds_toArray, List.set_cons_zero, List.set_cons_succ]; refine hK _ _ ?_; clear hK K))
  repeat (first | (refine Abs.step_pure rfl rfl (fun K hK => ?_); go_simp; (try go_bits); (first | refine hK _ _ ?_ | (simp only [↓IntWalk.iteOmega]; go_simp; (try go_bits); refine hK _ _ ?_)); clear hK K) | (refine Abs.step_load (v := ?_) rfl rfl (by kernel_rfl) rfl (fun w0 hI => ?_) (fun K hK => ?_); rotate_left; (· have z0 := (rcell (kp hI (f_g2))).1; have z1 := (rcell (kp hI (f_x2))).1; go_simp; rfl); (simp only [Act.put, List.setIfInBounds_toArray, List.set_cons_zero, List.set_cons_succ]; refine hK _ _ ?_; clear hK K)) | (refine Abs.step_skip rfl rfl (fun K hK => ?_); (simp only [Act.put, List.setIfInBounds_toArray, List.set_cons_zero, List.set_cons_succ]; refine hK _ _ ?_; clear hK K)))
  (refine Abs.step_store (T := ?_) rfl rfl rfl (fun w0 hI hF hU => ?_) (fun w0 hI hU hJ => ?_) (fun K hK => ?_); rotate_left; (· have hR := kp hI (f_g2); have hg0 := (rcell hR).1; have hg1 := (rcell hR).2.1; simp only [Abs.T_setF, Abs.T_addA, Abs.T_push, Abs.T_start]; go_simp; exact r8_2 hR _ _); (· first | exact trivial | exact js hJ rfl _); (simp only [Act.put, List.setIfInBounds_toArray, List.set_cons_zero, List.set_cons_succ]; refine hK _ _ ?_; clear hK K))
  repeat (first | (refine Abs.step_pure rfl rfl (fun K hK => ?_); go_simp; (try go_bits); (first | refine hK _ _ ?_ | (simp only [↓IntWalk.iteOmega]; go_simp; (try go_bits); refine hK _ _ ?_)); clear hK K) | (refine Abs.step_load (v := ?_) rfl rfl (by kernel_rfl) rfl (fun w0 hI => ?_) (fun K hK => ?_); rotate_left; (· have z0 := (rcell (kp hI (f_g2))).1; have z1 := (rcell (kp hI (f_x2))).1; go_simp; rfl); (simp only [Act.put, List.setIfInBounds_toArray, List.set_cons_zero, List.set_cons_succ]; refine hK _ _ ?_; clear hK K)) | (refine Abs.step_skip rfl rfl (fun K hK => ?_); (simp only [Act.put, List.setIfInBounds_toArray, List.set_cons_zero, List.set_cons_succ]; refine hK _ _ ?_; clear hK K)))
  intro w0 hI hF hx1 hx2
  clear hx1 hx2 hF
  simp only [Abs.T_push]
  generalize hT4 : setRow w0 _ _ = w4
  obtain ⟨hx4, f_g4⟩ := fin_x hI (f_g2) hT4
  clear hT4 hI w0
  have f_x4 := kx hx4 (f_x2) (by omega)
  have hB4 := xX hB2 hx4 (by omega)
  clear zg_a zg_b zx_a zx_b
  obtain ⟨zx_a, zx_b, lx4⟩ := rcell f_x4
  obtain ⟨zg_a, zg_b, lg4⟩ := rcell f_g4
  go_wp2
  refine bodyPost_end (by simp [results, Try.results82, go_sem]; try rfl) rfl ⟨rfl, hB4, (f_g4)⟩

set_option maxRecDepth 100000 in
set_option maxHeartbeats 2000000 in
theorem fsum_add2 (g : Nat) (s x n : Int) (hs : Rng s) (hx : Rng x) (n1 : -9223372036854775808 ≤ n) (n2 : n < 9223372036854775808) (hp : Rng (x * n)) (ha : Rng (s + x * n)) (w : World)
    (hg : w.heap[g]? = some (.cells #[.int .i64 (hi s), .int .u64 (lo s)] 114 (0, 0))) :
    Calls Try.prog 82 #[.pointer (some ⟨g, 0, none⟩), .agg #[.int .i64 (hi x), .int .u64 (lo x)], .int .i64 n] w fun e w' => e = .returned (.tuple #[]) ∧ Exc g w w' ∧ w'.heap[g]? = some (.cells #[.int .i64 (hi (s + x * n)), .int .u64 (lo (s + x * n))] 114 (0, 0)) := by
  have c1 := wide_Scale x n hx n1 n2 hp
  have c2 := wide_Add s (x * n) hs hp ha
  generalize x * n = p at *
  generalize s + p = q at *
  have l_g := (rcell hg).2.2
  obtain ⟨zg_a, zg_b, -⟩ := rcell hg
  go_enter Try.func82, Try.ntmps82
  go_wp2_with fail
  refine (c1 _).mono ?_
  rintro e w1 ⟨rfl, hb1⟩
  have f_g1 := kp hb1 (ka (hg) _)
  have f_x1 := kp hb1 (na _ _ _)
  have hB1 := xB (xA (x0 g w (Nat.le_of_lt (rcell hg).2.2)) _) hb1
  clear zg_a zg_b
  obtain ⟨zg_a, zg_b, lg1⟩ := rcell f_g1
  obtain ⟨zx_a, zx_b, lx1⟩ := rcell f_x1
  go_wp2_with fail
  rw [row2 f_x1]
  generalize hT2 : setRow _ _ _ = w2
  obtain ⟨hx2, f_x2⟩ := fin_x (b0 _) f_x1 hT2
  clear hT2
  have f_g2 := kx hx2 (f_g1) (by omega)
  have hB2 := xX hB1 hx2 (by omega)
  clear zg_a zg_b zx_a zx_b
  obtain ⟨zg_a, zg_b, lg2⟩ := rcell f_g2
  obtain ⟨zx_a, zx_b, lx2⟩ := rcell f_x2
  refine Abs.wp_region_abs (Abs.cls0 _) [0, 1, 2, 3, 4, 5, 6, 7, 8, 9, 10, 11, 12] (by kernel_rfl) (by kernel_rfl) (Below.refl _ _).drew ?_
  repeat (first | (refine Abs.step_pure rfl rfl (fun K hK => ?_); go_simp; (try go_bits); (first | refine hK _ _ ?_ | (simp only [↓IntWalk.iteOmega]; go_simp; (try go_bits); refine hK _ _ ?_)); clear hK K) | (refine Abs.step_load (v := ?_) rfl rfl (by kernel_rfl) rfl (fun w0 hI => ?_) (fun K hK => ?_); rotate_left; (· have z0 := (rcell (kp hI (f_g2))).1; have z1 := (rcell (kp hI (f_x2))).1; go_simp; rfl); (simp only [Act.put, List.setIfInBounds_toArray, List.set_cons_zero, List.set_cons_succ]; refine hK _ _ ?_; clear hK K)) | (refine Abs.step_skip rfl rfl (fun K hK => ?_); (simp only [Act.put, List.setIfInBounds_toArray, List.set_cons_zero, List.set_cons_succ]; refine hK _ _ ?_; clear hK K)))
  (refine Abs.step_call_val (f := ?_) (args := ?_) (v := ?_) rfl rfl rfl rfl (fun w0 => ?_) (fun w0 hI => ?_) (fun K hK => ?_); rotate_left 3; (· go_simp; (constructor <;> rfl)); (· exact c2 _); (simp only [Act.put, List.setIfInBounds_toArray, List.set_cons_zero, List.set_cons_succ]; refine hK _ _ ?_; clear hK K))
  repeat (first | (refine Abs.step_pure rfl rfl (fun K hK => ?_); go_simp; (try go_bits); (first | refine hK _ _ ?_ | (simp only [↓IntWalk.iteOmega]; go_simp; (try go_bits); refine hK _ _ ?_)); clear hK K) | (refine Abs.step_load (v := ?_) rfl rfl (by kernel_rfl) rfl (fun w0 hI => ?_) (fun K hK => ?_); rotate_left; (· have z0 := (rcell (kp hI (f_g2))).1; have z1 := (rcell (kp hI (f_x2))).1; go_simp; rfl); (simp only [Act.put, List.setIfInBounds_toArray, List.set_cons_zero, List.set_cons_succ]; refine hK _ _ ?_; clear hK K)) | (refine Abs.step_skip rfl rfl (fun K hK => ?_); (simp only [Act.put, List.setIfInBounds_toArray, List.set_cons_zero, List.set_cons_succ]; refine hK _ _ ?_; clear hK K)))
  (refine Abs.step_store (T := ?_) rfl rfl rfl (fun w0 hI hF hU => ?_) (fun w0 hI hU hJ => ?_) (fun K hK => ?_); rotate_left; (· have hR := kp hI (f_g2); have hg0 := (rcell hR).1; have hg1 := (rcell hR).2.1; simp only [Abs.T_setF, Abs.T_addA, Abs.T_push, Abs.T_start]; go_simp; exact row2 hR _ _); (· first | exact trivial | exact js hJ rfl _); (simp only [Act.put, List.setIfInBounds_toArray, List.set_cons_zero, List.set_cons_succ]; refine hK _ _ ?_; clear hK K))
  repeat (first | (refine Abs.step_pure rfl rfl (fun K hK => ?_); go_simp; (try go_bits); (first | refine hK _ _ ?_ | (simp only [↓IntWalk.iteOmega]; go_simp; (try go_bits); refine hK _ _ ?_)); clear hK K) | (refine Abs.step_load (v := ?_) rfl rfl (by kernel_rfl) rfl (fun w0 hI => ?_) (fun K hK => ?_); rotate_left; (· have z0 := (rcell (kp hI (f_g2))).1; have z1 := (rcell (kp hI (f_x2))).1; go_simp; rfl); (simp only [Act.put, List.setIfInBounds_toArray, List.set_cons_zero, List.set_cons_succ]; refine hK _ _ ?_; clear hK K)) | (refine Abs.step_skip rfl rfl (fun K hK => ?_); (simp only [Act.put, List.setIfInBounds_toArray, List.set_cons_zero, List.set_cons_succ]; refine hK _ _ ?_; clear hK K)))
  intro w0 hI hF hx1 hx2
  clear hx1 hx2 hF
  simp only [Abs.T_push]
  generalize hT4 : setRow w0 _ _ = w4
  obtain ⟨hx4, f_g4⟩ := fin_x hI (f_g2) hT4
  clear hT4 hI w0
  have f_x4 := kx hx4 (f_x2) (by omega)
  have hB4 := xX hB2 hx4 (by omega)
  clear zg_a zg_b zx_a zx_b
  obtain ⟨zx_a, zx_b, lx4⟩ := rcell f_x4
  obtain ⟨zg_a, zg_b, lg4⟩ := rcell f_g4
  go_wp2
  refine bodyPost_end (by simp [results, Try.results82, go_sem]; try rfl) rfl ⟨rfl, hB4, (f_g4)⟩

end Go.Proofs.Ytlgjapjcdpikeaa
