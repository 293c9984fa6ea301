/- (door).take at this program. -/
import Derived.Test.YtpimkigbdjfjoaaDoorP7
set_option linter.unusedSimpArgs false
set_option linter.unusedVariables false
namespace Go.Proofs.YtpimkigbdjfjoaaDoor
open Go.RowKit

theorem r7h2 {w : World} {g : Nat} {a0 a1 a2 a3 a4 a5 a6 : Value} {t : TypeId} {f : Nat × Nat} (h : w.heap[g]? = some (.cells #[a0, a1, a2, a3, a4, a5, a6] t f)) (v0 v1 : Value) :
    (w.setCell ⟨g, 0, none⟩ v0).setCell ⟨g, 1, none⟩ v1 = setRow w g #[v0, v1, a2, a3, a4, a5, a6] := by
  rw [setRow_of_setCell (cs' := #[v0, a1, a2, a3, a4, a5, a6]) h v0 rfl, setRow_of_setCell (cs' := #[v0, v1, a2, a3, a4, a5, a6]) (setRow_same h) v1 rfl, setRow_setRow]
theorem r7a2 {w : World} {g : Nat} {a0 a1 a2 a3 a4 a5 a6 : Value} {t : TypeId} {f : Nat × Nat} (h : w.heap[g]? = some (.cells #[a0, a1, a2, a3, a4, a5, a6] t f)) (v0 v1 : Value) :
    (w.setCell ⟨g, 2, none⟩ v0).setCell ⟨g, 3, none⟩ v1 = setRow w g #[a0, a1, v0, v1, a4, a5, a6] := by
  rw [setRow_of_setCell (cs' := #[a0, a1, v0, a3, a4, a5, a6]) h v0 rfl, setRow_of_setCell (cs' := #[a0, a1, v0, v1, a4, a5, a6]) (setRow_same h) v1 rfl, setRow_setRow]
theorem r7b2 {w : World} {g : Nat} {a0 a1 a2 a3 a4 a5 a6 : Value} {t : TypeId} {f : Nat × Nat} (h : w.heap[g]? = some (.cells #[a0, a1, a2, a3, a4, a5, a6] t f)) (v0 v1 : Value) :
    (w.setCell ⟨g, 4, none⟩ v0).setCell ⟨g, 5, none⟩ v1 = setRow w g #[a0, a1, a2, a3, v0, v1, a6] := by
  rw [setRow_of_setCell (cs' := #[a0, a1, a2, a3, v0, a5, a6]) h v0 rfl, setRow_of_setCell (cs' := #[a0, a1, a2, a3, v0, v1, a6]) (setRow_same h) v1 rfl, setRow_setRow]
theorem r7m1 {w : World} {g : Nat} {a0 a1 a2 a3 a4 a5 a6 : Value} {t : TypeId} {f : Nat × Nat} (h : w.heap[g]? = some (.cells #[a0, a1, a2, a3, a4, a5, a6] t f)) (v0 : Value) :
    w.setCell ⟨g, 6, none⟩ v0 = setRow w g #[a0, a1, a2, a3, a4, a5, v0] :=
  setRow_of_setCell h v0 rfl
theorem r7_7 {w : World} {g : Nat} {a0 a1 a2 a3 a4 a5 a6 : Value} {t : TypeId} {f : Nat × Nat} (h : w.heap[g]? = some (.cells #[a0, a1, a2, a3, a4, a5, a6] t f)) (v0 v1 v2 v3 v4 v5 v6 : Value) :
    ((((((w.setCell ⟨g, 0, none⟩ v0).setCell ⟨g, 1, none⟩ v1).setCell ⟨g, 2, none⟩ v2).setCell ⟨g, 3, none⟩ v3).setCell ⟨g, 4, none⟩ v4).setCell ⟨g, 5, none⟩ v5).setCell ⟨g, 6, none⟩ v6 = setRow w g #[v0, v1, v2, v3, v4, v5, v6] := by
  have h1 := setRow_same (cs' := #[v0, v1, a2, a3, a4, a5, a6]) h
  have h2 := setRow_same (cs' := #[v0, v1, v2, v3, a4, a5, a6]) h
  have h3 := setRow_same (cs' := #[v0, v1, v2, v3, v4, v5, a6]) h
  rw [r7h2 h, r7a2 h1, setRow_setRow, r7b2 h2, setRow_setRow, r7m1 h3, setRow_setRow]

/-- two slopes are the same -/
def eqP (a b c d : Int) : Bool := decide (a = c ∧ b = d)
theorem eqP_ite {α : Type} (a b c d : Int) (f : Bool → α) : (if a = c then if b = d then f true else f false else f false) = f (eqP a b c d) := by
  unfold eqP
  by_cases h1 : a = c <;> by_cases h2 : b = d <;> simp [h1, h2]

theorem ends_at0 (b o : Nat) (w : World) : (Instr.indexAt 72 (.pointer (some ⟨b, o, none⟩)) (.int .i64 0)).run Tryd.prog w = .ok (.pointer (some ⟨b, o, none⟩)) w := by
  simp [Instr.indexAt, Instr.sureAddr, run_underlying Tryd.underlying72, asIntOf, go_sem]
theorem ends_at1 (b o : Nat) (w : World) : (Instr.indexAt 72 (.pointer (some ⟨b, o, none⟩)) (.int .i64 1)).run Tryd.prog w = .ok (.pointer (some ⟨b, o + 2, none⟩)) w := by
  simp [Instr.indexAt, Instr.sureAddr, run_underlying Tryd.underlying72, asIntOf, go_sem]

set_option maxRecDepth 100000 in
set_option maxHeartbeats 1000000 in
/-- the first band -/
theorem take_1 (g : Nat) (dt dv n0 d0 n1 d1 : Int) (b : Bd) (h1 : bkB b.lo = true) (h2 : bkB b.hi = true) (w : World)
    (hg : w.heap[g]? = some (.cells #[.int .i64 dt, .int .i64 dv, .int .i64 n0, .int .i64 d0, .int .i64 n1, .int .i64 d1, .int .i64 0] 120 (0, 0))) :
    Calls Tryd.prog 131 #[.pointer (some ⟨g, 0, none⟩), .agg #[.int .i64 b.t, .int .i64 b.lo, .int .i64 b.hi]] w fun e w' => e = .returned (.bool true) ∧ Exc g w w' ∧
      w'.heap[g]? = some (.cells #[.int .i64 b.t, .int .i64 (hgB b), .int .i64 n0, .int .i64 d0, .int .i64 n1, .int .i64 d1, .int .i64 1] 120 (0, 0)) := by
  have c1 := swing_at b h1 h2
  have l_g := (rcell hg).2.2
  obtain ⟨zg_a, zg_b, -⟩ := rcell hg
  go_enter Tryd.func131, Tryd.ntmps131
  go_wp2_with fail
  rw [r7m1 hg]
  generalize hT1 : setRow _ _ _ = w1
  have hz1 : w1.heap.size = w.heap.size := by rw [← hT1]; exact setRow_size _ _ _
  obtain ⟨hx1, f_g1⟩ := fin_x (b0 _) hg hT1
  clear hT1
  have hB1 := xX (x0 g w (Nat.le_of_lt (rcell hg).2.2)) hx1 (by omega)
  clear zg_a zg_b
  obtain ⟨zg_a, zg_b, lg1⟩ := rcell f_g1
  go_wp2_with fail
  refine (c1 _).mono ?_
  rintro e w2 ⟨rfl, hb2⟩
  have f_g2 := kp hb2 (ka (f_g1) (.cells #[.int .i64 b.t, .int .i64 b.lo, .int .i64 b.hi] 37))
  have f_b2 := kp hb2 ((hz1 ▸ na w1 #[.int .i64 b.t, .int .i64 b.lo, .int .i64 b.hi] 37))
  have hB2 := xB (xA hB1 (.cells #[.int .i64 b.t, .int .i64 b.lo, .int .i64 b.hi] 37)) hb2
  clear zg_a zg_b
  obtain ⟨zg_a, zg_b, lg2⟩ := rcell f_g2
  obtain ⟨zb_a, zb_b, lb2⟩ := rcell f_b2
  go_wp2_with fail
  rw [r7h2 f_g2]
  generalize hT3 : setRow _ _ _ = w3
  obtain ⟨hx3, f_g3⟩ := fin_x (b0 _) f_g2 hT3
  clear hT3
  have f_b3 := kx hx3 (f_b2) (by omega)
  have hB3 := xX hB2 hx3 (by omega)
  clear zb_a zb_b zg_a zg_b
  obtain ⟨zb_a, zb_b, lb3⟩ := rcell f_b3
  obtain ⟨zg_a, zg_b, lg3⟩ := rcell f_g3
  go_ret
  exact ⟨rfl, hB3, (f_g3)⟩
-- BELOW: by mk_take.py
set_option maxRecDepth 100000 in
set_option maxHeartbeats 2000000 in
theorem take_2 (g : Nat) (dt dv n0 d0 n1 d1 m bt bl bh N0 D0 N1 D1 k1 k2 k3 : Int) (o1 o2 o3 e : Bool)  (hm2 : m < 1000000) (he : (eqP N0 D0 N1 D1 || decide (k3 < 0)) = e)
    (cs0 : ∀ w, w.heap[g]? = some (.cells #[.int .i64 dt, .int .i64 dv, .int .i64 n0, .int .i64 d0, .int .i64 n1, .int .i64 d1, .int .i64 (2)] 120 (0, 0)) → Calls Tryd.prog 136 #[.pointer (some ⟨g, 0, none⟩), .agg #[.int .i64 bt, .int .i64 bl, .int .i64 bh], .int .i64 bl] w fun e w' => e = .returned (.agg #[.int .i64 N0, .int .i64 D0]) ∧ Below w.heap.size w w')
    (cs1 : ∀ w, w.heap[g]? = some (.cells #[.int .i64 dt, .int .i64 dv, .int .i64 n0, .int .i64 d0, .int .i64 n1, .int .i64 d1, .int .i64 (2)] 120 (0, 0)) → Calls Tryd.prog 136 #[.pointer (some ⟨g, 0, none⟩), .agg #[.int .i64 bt, .int .i64 bl, .int .i64 bh], .int .i64 bh] w fun e w' => e = .returned (.agg #[.int .i64 N1, .int .i64 D1]) ∧ Below w.heap.size w w')
    (cc1 : ∀ w, Calls Tryd.prog 80 #[.agg #[.int .i64 N0, .int .i64 D0], .agg #[.int .i64 n0, .int .i64 d0]] w fun e w' => e = .returned (.tuple #[.int .i64 k1, .bool o1]) ∧ Below w.heap.size w w')
    (cc2 : ∀ w, Calls Tryd.prog 80 #[.agg #[.int .i64 N1, .int .i64 D1], .agg #[.int .i64 n1, .int .i64 d1]] w fun e w' => e = .returned (.tuple #[.int .i64 k2, .bool o2]) ∧ Below w.heap.size w w')
    (cc3 : ∀ w, Calls Tryd.prog 80 #[.agg #[.int .i64 N0, .int .i64 D0], .agg #[.int .i64 N1, .int .i64 D1]] w fun e w' => e = .returned (.tuple #[.int .i64 k3, .bool o3]) ∧ Below w.heap.size w w')
    (w : World) (hg : w.heap[g]? = some (.cells #[.int .i64 dt, .int .i64 dv, .int .i64 n0, .int .i64 d0, .int .i64 n1, .int .i64 d1, .int .i64 (1)] 120 (0, 0))) :
    Calls Tryd.prog 131 #[.pointer (some ⟨g, 0, none⟩), .agg #[.int .i64 bt, .int .i64 bl, .int .i64 bh]] w fun x w' => x = .returned (.bool e) ∧ Exc g w w' ∧
      w'.heap[g]? = some (.cells #[.int .i64 dt, .int .i64 dv, .int .i64 N0, .int .i64 D0, .int .i64 N1, .int .i64 D1, .int .i64 (2)] 120 (0, 0)) := by
  have i0 := ends_at0
  have i1 := ends_at1

  have HE := hide he
  clear he
  have l_g := (rcell hg).2.2
  obtain ⟨zg_a, zg_b, -⟩ := rcell hg
  go_enter Tryd.func131, Tryd.ntmps131
  go_wp2_with fail
  rw [r7m1 hg]
  generalize hT1 : setRow _ _ _ = w1
  have hz1 : w1.heap.size = w.heap.size := by rw [← hT1]; exact setRow_size _ _ _
  obtain ⟨hx1, f_g1⟩ := fin_x (b0 _) hg hT1
  clear hT1
  have hB1 := xX (x0 g w (Nat.le_of_lt (rcell hg).2.2)) hx1 (by omega)
  clear zg_a zg_b
  obtain ⟨zg_a, zg_b, lg1⟩ := rcell f_g1
  have f_g2 := (ka (f_g1) (.cells #[.int .i64 bt, .int .i64 bl, .int .i64 bh] 37))
  have f_b2 := ((hz1 ▸ na w1 #[.int .i64 bt, .int .i64 bl, .int .i64 bh] 37))
  have hB2 := (xA hB1 (.cells #[.int .i64 bt, .int .i64 bl, .int .i64 bh] 37))
  clear zg_a zg_b
  have lg2 := (rcell f_g2).2.2
  have lb2 := (rcell f_b2).2.2
  refine Abs.wp_region_abs (Abs.cls0 _) [0, 1, 2, 3, 4, 5, 6, 7, 8, 9, 10, 11, 12, 13] (by kernel_rfl) (by kernel_rfl) (Below.refl _ _).drew ?_
  repeat (first | (refine Abs.step_pure rfl rfl (fun K hK => ?_); go_simp; (try go_bits); (first | refine hK _ _ ?_ | (simp only [↓IntWalk.iteOmega]; go_simp; (try go_bits); refine hK _ _ ?_)); clear hK K) | (refine Abs.step_load (v := ?_) rfl rfl (by kernel_rfl) rfl (fun w0 hI => ?_) (fun K hK => ?_); rotate_left; (· have z0 := (rcell (kp hI (f_g2))).1; have z1 := (rcell (kp hI (f_b2))).1; go_simp; rfl); (simp only [Act.put, List.setIfInBounds_toArray, List.set_cons_zero, List.set_cons_succ]; refine hK _ _ ?_; clear hK K)) | (refine Abs.step_skip rfl rfl (fun K hK => ?_); (simp only [Act.put, List.setIfInBounds_toArray, List.set_cons_zero, List.set_cons_succ]; refine hK _ _ ?_; clear hK K)))
  (refine Abs.step_call_val (f := ?_) (args := ?_) (v := ?_) rfl rfl rfl rfl (fun w0 => ?_) (fun w0 hI => ?_) (fun K hK => ?_); rotate_left 3; (· go_simp; (constructor <;> rfl)); (· exact cs0 _ (kp hI (f_g2))); (simp only [Act.put, List.setIfInBounds_toArray, List.set_cons_zero, List.set_cons_succ]; refine hK _ _ ?_; clear hK K))
  repeat (first | (refine Abs.step_pure rfl rfl (fun K hK => ?_); go_simp; (try go_bits); (first | refine hK _ _ ?_ | (simp only [↓IntWalk.iteOmega]; go_simp; (try go_bits); refine hK _ _ ?_)); clear hK K) | (refine Abs.step_load (v := ?_) rfl rfl (by kernel_rfl) rfl (fun w0 hI => ?_) (fun K hK => ?_); rotate_left; (· have z0 := (rcell (kp hI (f_g2))).1; have z1 := (rcell (kp hI (f_b2))).1; go_simp; rfl); (simp only [Act.put, List.setIfInBounds_toArray, List.set_cons_zero, List.set_cons_succ]; refine hK _ _ ?_; clear hK K)) | (refine Abs.step_skip rfl rfl (fun K hK => ?_); (simp only [Act.put, List.setIfInBounds_toArray, List.set_cons_zero, List.set_cons_succ]; refine hK _ _ ?_; clear hK K)))
  (refine Abs.step_call_val (f := ?_) (args := ?_) (v := ?_) rfl rfl rfl rfl (fun w0 => ?_) (fun w0 hI => ?_) (fun K hK => ?_); rotate_left 3; (· go_simp; (constructor <;> rfl)); (· exact cs1 _ (kp hI (f_g2))); (simp only [Act.put, List.setIfInBounds_toArray, List.set_cons_zero, List.set_cons_succ]; refine hK _ _ ?_; clear hK K))
  repeat (first | (refine Abs.step_pure rfl rfl (fun K hK => ?_); go_simp; (try go_bits); (first | refine hK _ _ ?_ | (simp only [↓IntWalk.iteOmega]; go_simp; (try go_bits); refine hK _ _ ?_)); clear hK K) | (refine Abs.step_load (v := ?_) rfl rfl (by kernel_rfl) rfl (fun w0 hI => ?_) (fun K hK => ?_); rotate_left; (· have z0 := (rcell (kp hI (f_g2))).1; have z1 := (rcell (kp hI (f_b2))).1; go_simp; rfl); (simp only [Act.put, List.setIfInBounds_toArray, List.set_cons_zero, List.set_cons_succ]; refine hK _ _ ?_; clear hK K)) | (refine Abs.step_skip rfl rfl (fun K hK => ?_); (simp only [Act.put, List.setIfInBounds_toArray, List.set_cons_zero, List.set_cons_succ]; refine hK _ _ ?_; clear hK K)))
  (refine Abs.step_var (obj := ?_) rfl rfl rfl rfl (fun w0 => ?_) (fun K hK g_lo hv_lo hu_lo => ?_); rotate_left; (· go_simp; rfl); (simp only [Act.put, List.setIfInBounds_toArray, List.set_cons_zero, List.set_cons_succ]; refine hK _ _ ?_; clear hK K))
  (refine Abs.step_var (obj := ?_) rfl rfl rfl rfl (fun w0 => ?_) (fun K hK g_hi hv_hi hu_hi => ?_); rotate_left; (· go_simp; rfl); (simp only [Act.put, List.setIfInBounds_toArray, List.set_cons_zero, List.set_cons_succ]; refine hK _ _ ?_; clear hK K))
  repeat (first | (refine Abs.step_pure rfl rfl (fun K hK => ?_); go_simp; (try go_bits); (first | refine hK _ _ ?_ | (simp only [↓IntWalk.iteOmega]; go_simp; (try go_bits); refine hK _ _ ?_)); clear hK K) | (refine Abs.step_load (v := ?_) rfl rfl (by kernel_rfl) rfl (fun w0 hI => ?_) (fun K hK => ?_); rotate_left; (· have z0 := (rcell (kp hI (f_g2))).1; have z1 := (rcell (kp hI (f_b2))).1; go_simp; rfl); (simp only [Act.put, List.setIfInBounds_toArray, List.set_cons_zero, List.set_cons_succ]; refine hK _ _ ?_; clear hK K)) | (refine Abs.step_skip rfl rfl (fun K hK => ?_); (simp only [Act.put, List.setIfInBounds_toArray, List.set_cons_zero, List.set_cons_succ]; refine hK _ _ ?_; clear hK K)))
  (refine Abs.step_store (T := ?_) rfl rfl rfl (fun w0 hI hF hU => ?_) (fun _ _ _ _ => trivial) (fun K hK => ?_); rotate_left; (· have hR := (hF 10).1.2 rfl; have hg0 := (rcell hR).1; have hg1 := (rcell hR).2.1; simp only [Abs.T_setF, Abs.T_addA, Abs.T_push, Abs.T_start]; go_simp; exact row2 hR _ _); (simp only [Act.put, List.setIfInBounds_toArray, List.set_cons_zero, List.set_cons_succ]; refine hK _ _ ?_; clear hK K))
  (refine Abs.step_store (T := ?_) rfl rfl rfl (fun w0 hI hF hU => ?_) (fun _ _ _ _ => trivial) (fun K hK => ?_); rotate_left; (· have hR := fun cs => (setRow_other (w := w0) (g := g_lo) cs (fun e => hu_hi (Or.inl e))).trans ((hF 11).2 rfl); have hg0 := fun cs => (rcell (hR cs)).1; have hg1 := fun cs => (rcell (hR cs)).2.1; simp only [Abs.T_setF, Abs.T_addA, Abs.T_push, Abs.T_start]; go_simp; exact row2 (hR _) _ _); (simp only [Act.put, List.setIfInBounds_toArray, List.set_cons_zero, List.set_cons_succ]; refine hK _ _ ?_; clear hK K))
  have hs_lo := leB hv_lo
  try simp only [World.size_alloc] at hs_lo
  have hs_hi := leB hv_hi
  try simp only [World.size_alloc] at hs_hi
  have hn : g_hi ≠ g_lo := fun e => hu_hi (Or.inl e)
  intro w0 hI hF hx1 hx2
  clear hx1 hx2
  have q1 := (hF 10).1.2 rfl
  have q2 := (hF 11).2 rfl
  clear hF
  simp only [Abs.T_push]
  generalize hTa : setRow w0 _ _ = wa
  have ea := (fin_x (b0 _) q1 hTa).1
  obtain ⟨ba, fa⟩ := fin1 hI hv_lo q1 hTa
  have q3 : wa.heap[g_hi]? = w0.heap[g_hi]? := by rw [← hTa]; exact setRow_other _ hn
  replace q2 := q3.trans q2
  clear q3
  generalize hTb : setRow wa _ _ = w3
  have eb := (fin_x (b0 _) q2 hTb).1
  obtain ⟨hb3, f_hi3⟩ := fin1 ba hv_hi q2 hTb
  have q4 : w3.heap[g_lo]? = wa.heap[g_lo]? := by rw [← hTb]; exact setRow_other _ hn.symm
  have f_lo3 := q4.trans fa
  clear q4
  clear hTa hTb ea eb q1 q2 fa ba hI w0
  have f_g3 := kp hb3 (f_g2)
  have f_b3 := kp hb3 (f_b2)
  have hB3 := xB hB2 hb3
  obtain ⟨zg_a, zg_b, lg3⟩ := rcell f_g3
  obtain ⟨zb_a, zb_b, lb3⟩ := rcell f_b3
  obtain ⟨zlo_a, zlo_b, llo3⟩ := rcell f_lo3
  obtain ⟨zhi_a, zhi_b, lhi3⟩ := rcell f_hi3
  go_wp2_with fail
  refine Abs.wp_region_abs (Abs.cls0 _) [0, 1, 2, 3, 4, 5, 6, 7, 8, 9, 10, 11] (by kernel_rfl) (by kernel_rfl) (Below.refl _ _).drew ?_
  repeat (first | (refine Abs.step_pure rfl rfl (fun K hK => ?_); go_simp; (try go_bits); (first | refine hK _ _ ?_ | (simp only [↓IntWalk.iteOmega]; go_simp; (try go_bits); refine hK _ _ ?_)); clear hK K) | (refine Abs.step_load (v := ?_) rfl rfl (by kernel_rfl) rfl (fun w0 hI => ?_) (fun K hK => ?_); rotate_left; (· have z0 := (rcell (kp hI (f_g3))).1; have z1 := (rcell (kp hI (f_lo3))).1; have z2 := (rcell (kp hI (f_hi3))).1; go_simp; rfl); (simp only [Act.put, List.setIfInBounds_toArray, List.set_cons_zero, List.set_cons_succ]; refine hK _ _ ?_; clear hK K)) | (refine Abs.step_skip rfl rfl (fun K hK => ?_); (simp only [Act.put, List.setIfInBounds_toArray, List.set_cons_zero, List.set_cons_succ]; refine hK _ _ ?_; clear hK K)))
  (refine Abs.step_call_val (f := ?_) (args := ?_) (v := ?_) rfl rfl rfl rfl (fun w0 => ?_) (fun w0 hI => ?_) (fun K hK => ?_); rotate_left 3; (· go_simp; (constructor <;> rfl)); (· exact cc1 _); (simp only [Act.put, List.setIfInBounds_toArray, List.set_cons_zero, List.set_cons_succ]; refine hK _ _ ?_; clear hK K))
  repeat (first | (refine Abs.step_pure rfl rfl (fun K hK => ?_); go_simp; (try go_bits); (first | refine hK _ _ ?_ | (simp only [↓IntWalk.iteOmega]; go_simp; (try go_bits); refine hK _ _ ?_)); clear hK K) | (refine Abs.step_load (v := ?_) rfl rfl (by kernel_rfl) rfl (fun w0 hI => ?_) (fun K hK => ?_); rotate_left; (· have z0 := (rcell (kp hI (f_g3))).1; have z1 := (rcell (kp hI (f_lo3))).1; have z2 := (rcell (kp hI (f_hi3))).1; go_simp; rfl); (simp only [Act.put, List.setIfInBounds_toArray, List.set_cons_zero, List.set_cons_succ]; refine hK _ _ ?_; clear hK K)) | (refine Abs.step_skip rfl rfl (fun K hK => ?_); (simp only [Act.put, List.setIfInBounds_toArray, List.set_cons_zero, List.set_cons_succ]; refine hK _ _ ?_; clear hK K)))
  intro w5 hb5 hx0 hx1 hx2
  clear hx0 hx1 hx2
  simp only [Abs.T_setF, Abs.T_addA, Abs.T_push, Abs.T_start]
  have f_g5 := kp hb5 (f_g3)
  have f_b5 := kp hb5 (f_b3)
  have f_lo5 := kp hb5 (f_lo3)
  have f_hi5 := kp hb5 (f_hi3)
  have hB5 := xB hB3 hb5
  clear zb_a zb_b zg_a zg_b zhi_a zhi_b zlo_a zlo_b
  obtain ⟨zg_a, zg_b, lg5⟩ := rcell f_g5
  obtain ⟨zb_a, zb_b, lb5⟩ := rcell f_b5
  obtain ⟨zlo_a, zlo_b, llo5⟩ := rcell f_lo5
  obtain ⟨zhi_a, zhi_b, lhi5⟩ := rcell f_hi5
  go_wp2_with fail
  refine Abs.wp_region_abs (Abs.cls0 _) [0, 1, 2, 3, 4, 5] (by kernel_rfl) (by kernel_rfl) (Below.refl _ _).drew ?_
  repeat (first | (refine Abs.step_pure rfl rfl (fun K hK => ?_); go_simp; (try go_bits); (first | refine hK _ _ ?_ | (simp only [↓IntWalk.iteOmega]; go_simp; (try go_bits); refine hK _ _ ?_)); clear hK K) | (refine Abs.step_load (v := ?_) rfl rfl (by kernel_rfl) rfl (fun w0 hI => ?_) (fun K hK => ?_); rotate_left; (· have z0 := (rcell (kp hI (f_g5))).1; have z1 := (rcell (kp hI (f_lo5))).1; have z2 := (rcell (kp hI (f_hi5))).1; go_simp; rfl); (simp only [Act.put, List.setIfInBounds_toArray, List.set_cons_zero, List.set_cons_succ]; refine hK _ _ ?_; clear hK K)) | (refine Abs.step_skip rfl rfl (fun K hK => ?_); (simp only [Act.put, List.setIfInBounds_toArray, List.set_cons_zero, List.set_cons_succ]; refine hK _ _ ?_; clear hK K)))
  (refine Abs.step_store (T := ?_) rfl rfl rfl (fun w0 hI hF hU => ?_) (fun w0 hI hU hJ => ?_) (fun K hK => ?_); rotate_left; (· have hR := kp hI (f_g5); have hg0 := (rcell hR).1; have hg1 := (rcell hR).2.1; simp only [Abs.T_setF, Abs.T_addA, Abs.T_push, Abs.T_start]; go_simp; exact r7a2 hR _ _); (· first | exact trivial | exact js hJ rfl _ | exact js hJ (Or.inl rfl) _ | exact js hJ (Or.inr rfl) _); (simp only [Act.put, List.setIfInBounds_toArray, List.set_cons_zero, List.set_cons_succ]; refine hK _ _ ?_; clear hK K))
  intro w0 hI hF hx1 hx2
  clear hx1 hx2 hF
  simp only [Abs.T_push]
  generalize hT7 : setRow w0 _ _ = w7
  obtain ⟨hx7, f_g7⟩ := fin_x hI (f_g5) hT7
  clear hT7 hI w0
  have f_b7 := kx hx7 (f_b5) (by omega)
  have f_lo7 := kx hx7 (f_lo5) (by omega)
  have f_hi7 := kx hx7 (f_hi5) (by omega)
  have hB7 := xX hB5 hx7 (by omega)
  clear zb_a zb_b zg_a zg_b zhi_a zhi_b zlo_a zlo_b
  obtain ⟨zb_a, zb_b, lb7⟩ := rcell f_b7
  obtain ⟨zlo_a, zlo_b, llo7⟩ := rcell f_lo7
  obtain ⟨zhi_a, zhi_b, lhi7⟩ := rcell f_hi7
  obtain ⟨zg_a, zg_b, lg7⟩ := rcell f_g7
  go_wp2_with fail
  refine Abs.wp_region_abs (Abs.cls0 _) [0, 1, 2, 3, 4, 5, 6, 7, 8, 9, 10, 11] (by kernel_rfl) (by kernel_rfl) (Below.refl _ _).drew ?_
  repeat (first | (refine Abs.step_pure rfl rfl (fun K hK => ?_); go_simp; (try go_bits); (first | refine hK _ _ ?_ | (simp only [↓IntWalk.iteOmega]; go_simp; (try go_bits); refine hK _ _ ?_)); clear hK K) | (refine Abs.step_load (v := ?_) rfl rfl (by kernel_rfl) rfl (fun w0 hI => ?_) (fun K hK => ?_); rotate_left; (· have z0 := (rcell (kp hI (f_g7))).1; have z1 := (rcell (kp hI (f_lo7))).1; have z2 := (rcell (kp hI (f_hi7))).1; go_simp; rfl); (simp only [Act.put, List.setIfInBounds_toArray, List.set_cons_zero, List.set_cons_succ]; refine hK _ _ ?_; clear hK K)) | (refine Abs.step_skip rfl rfl (fun K hK => ?_); (simp only [Act.put, List.setIfInBounds_toArray, List.set_cons_zero, List.set_cons_succ]; refine hK _ _ ?_; clear hK K)))
  (refine Abs.step_call_val (f := ?_) (args := ?_) (v := ?_) rfl rfl rfl rfl (fun w0 => ?_) (fun w0 hI => ?_) (fun K hK => ?_); rotate_left 3; (· go_simp; (constructor <;> rfl)); (· exact cc2 _); (simp only [Act.put, List.setIfInBounds_toArray, List.set_cons_zero, List.set_cons_succ]; refine hK _ _ ?_; clear hK K))
  repeat (first | (refine Abs.step_pure rfl rfl (fun K hK => ?_); go_simp; (try go_bits); (first | refine hK _ _ ?_ | (simp only [↓IntWalk.iteOmega]; go_simp; (try go_bits); refine hK _ _ ?_)); clear hK K) | (refine Abs.step_load (v := ?_) rfl rfl (by kernel_rfl) rfl (fun w0 hI => ?_) (fun K hK => ?_); rotate_left; (· have z0 := (rcell (kp hI (f_g7))).1; have z1 := (rcell (kp hI (f_lo7))).1; have z2 := (rcell (kp hI (f_hi7))).1; go_simp; rfl); (simp only [Act.put, List.setIfInBounds_toArray, List.set_cons_zero, List.set_cons_succ]; refine hK _ _ ?_; clear hK K)) | (refine Abs.step_skip rfl rfl (fun K hK => ?_); (simp only [Act.put, List.setIfInBounds_toArray, List.set_cons_zero, List.set_cons_succ]; refine hK _ _ ?_; clear hK K)))
  intro w9 hb9 hx0 hx1 hx2
  clear hx0 hx1 hx2
  simp only [Abs.T_setF, Abs.T_addA, Abs.T_push, Abs.T_start]
  have f_b9 := kp hb9 (f_b7)
  have f_lo9 := kp hb9 (f_lo7)
  have f_hi9 := kp hb9 (f_hi7)
  have f_g9 := kp hb9 (f_g7)
  have hB9 := xB hB7 hb9
  clear zb_a zb_b zg_a zg_b zhi_a zhi_b zlo_a zlo_b
  obtain ⟨zb_a, zb_b, lb9⟩ := rcell f_b9
  obtain ⟨zlo_a, zlo_b, llo9⟩ := rcell f_lo9
  obtain ⟨zhi_a, zhi_b, lhi9⟩ := rcell f_hi9
  obtain ⟨zg_a, zg_b, lg9⟩ := rcell f_g9
  go_wp2_with fail
  refine Abs.wp_region_abs (Abs.cls0 _) [0, 1, 2, 3, 4, 5] (by kernel_rfl) (by kernel_rfl) (Below.refl _ _).drew ?_
  repeat (first | (refine Abs.step_pure rfl rfl (fun K hK => ?_); go_simp; (try go_bits); (first | refine hK _ _ ?_ | (simp only [↓IntWalk.iteOmega]; go_simp; (try go_bits); refine hK _ _ ?_)); clear hK K) | (refine Abs.step_load (v := ?_) rfl rfl (by kernel_rfl) rfl (fun w0 hI => ?_) (fun K hK => ?_); rotate_left; (· have z0 := (rcell (kp hI (f_g9))).1; have z1 := (rcell (kp hI (f_lo9))).1; have z2 := (rcell (kp hI (f_hi9))).1; go_simp; rfl); (simp only [Act.put, List.setIfInBounds_toArray, List.set_cons_zero, List.set_cons_succ]; refine hK _ _ ?_; clear hK K)) | (refine Abs.step_skip rfl rfl (fun K hK => ?_); (simp only [Act.put, List.setIfInBounds_toArray, List.set_cons_zero, List.set_cons_succ]; refine hK _ _ ?_; clear hK K)))
  (refine Abs.step_store (T := ?_) rfl rfl rfl (fun w0 hI hF hU => ?_) (fun w0 hI hU hJ => ?_) (fun K hK => ?_); rotate_left; (· have hR := kp hI (f_g9); have hg0 := (rcell hR).1; have hg1 := (rcell hR).2.1; simp only [Abs.T_setF, Abs.T_addA, Abs.T_push, Abs.T_start]; go_simp; exact r7b2 hR _ _); (· first | exact trivial | exact js hJ rfl _ | exact js hJ (Or.inl rfl) _ | exact js hJ (Or.inr rfl) _); (simp only [Act.put, List.setIfInBounds_toArray, List.set_cons_zero, List.set_cons_succ]; refine hK _ _ ?_; clear hK K))
  intro w0 hI hF hx1 hx2
  clear hx1 hx2 hF
  simp only [Abs.T_push]
  generalize hT11 : setRow w0 _ _ = w11
  obtain ⟨hx11, f_g11⟩ := fin_x hI (f_g9) hT11
  clear hT11 hI w0
  have f_b11 := kx hx11 (f_b9) (by omega)
  have f_lo11 := kx hx11 (f_lo9) (by omega)
  have f_hi11 := kx hx11 (f_hi9) (by omega)
  have hB11 := xX hB9 hx11 (by omega)
  clear zb_a zb_b zg_a zg_b zhi_a zhi_b zlo_a zlo_b
  obtain ⟨zb_a, zb_b, lb11⟩ := rcell f_b11
  obtain ⟨zlo_a, zlo_b, llo11⟩ := rcell f_lo11
  obtain ⟨zhi_a, zhi_b, lhi11⟩ := rcell f_hi11
  obtain ⟨zg_a, zg_b, lg11⟩ := rcell f_g11
  go_wp2_with fail
  refine Abs.wp_region_abs (Abs.cls0 _) [0, 1, 2, 3, 4, 5, 6, 7, 8, 9, 10, 11, 12, 13, 14, 15] (by kernel_rfl) (by kernel_rfl) (Below.refl _ _).drew ?_
  repeat (first | (refine Abs.step_pure rfl rfl (fun K hK => ?_); go_simp; (try go_bits); (first | refine hK _ _ ?_ | (simp only [↓IntWalk.iteOmega]; go_simp; (try go_bits); refine hK _ _ ?_)); clear hK K) | (refine Abs.step_load (v := ?_) rfl rfl (by kernel_rfl) rfl (fun w0 hI => ?_) (fun K hK => ?_); rotate_left; (· have z0 := (rcell (kp hI (f_g11))).1; have z1 := (rcell (kp hI (f_lo11))).1; have z2 := (rcell (kp hI (f_hi11))).1; go_simp; rfl); (simp only [Act.put, List.setIfInBounds_toArray, List.set_cons_zero, List.set_cons_succ]; refine hK _ _ ?_; clear hK K)) | (refine Abs.step_skip rfl rfl (fun K hK => ?_); (simp only [Act.put, List.setIfInBounds_toArray, List.set_cons_zero, List.set_cons_succ]; refine hK _ _ ?_; clear hK K)))
  (refine Abs.step_call_val (f := ?_) (args := ?_) (v := ?_) rfl rfl rfl rfl (fun w0 => ?_) (fun w0 hI => ?_) (fun K hK => ?_); rotate_left 3; (· go_simp; (constructor <;> rfl)); (· exact cc3 _); (simp only [Act.put, List.setIfInBounds_toArray, List.set_cons_zero, List.set_cons_succ]; refine hK _ _ ?_; clear hK K))
  repeat (first | (refine Abs.step_pure rfl rfl (fun K hK => ?_); go_simp; (try go_bits); (first | refine hK _ _ ?_ | (simp only [↓IntWalk.iteOmega]; go_simp; (try go_bits); refine hK _ _ ?_)); clear hK K) | (refine Abs.step_load (v := ?_) rfl rfl (by kernel_rfl) rfl (fun w0 hI => ?_) (fun K hK => ?_); rotate_left; (· have z0 := (rcell (kp hI (f_g11))).1; have z1 := (rcell (kp hI (f_lo11))).1; have z2 := (rcell (kp hI (f_hi11))).1; go_simp; rfl); (simp only [Act.put, List.setIfInBounds_toArray, List.set_cons_zero, List.set_cons_succ]; refine hK _ _ ?_; clear hK K)) | (refine Abs.step_skip rfl rfl (fun K hK => ?_); (simp only [Act.put, List.setIfInBounds_toArray, List.set_cons_zero, List.set_cons_succ]; refine hK _ _ ?_; clear hK K)))
  intro w13 hb13 hx0 hx1 hx2
  clear hx0 hx1 hx2
  simp only [Abs.T_setF, Abs.T_addA, Abs.T_push, Abs.T_start]
  have f_b13 := kp hb13 (f_b11)
  have f_lo13 := kp hb13 (f_lo11)
  have f_hi13 := kp hb13 (f_hi11)
  have f_g13 := kp hb13 (f_g11)
  have hB13 := xB hB11 hb13
  clear zb_a zb_b zg_a zg_b zhi_a zhi_b zlo_a zlo_b
  obtain ⟨zb_a, zb_b, lb13⟩ := rcell f_b13
  obtain ⟨zlo_a, zlo_b, llo13⟩ := rcell f_lo13
  obtain ⟨zhi_a, zhi_b, lhi13⟩ := rcell f_hi13
  obtain ⟨zg_a, zg_b, lg13⟩ := rcell f_g13
  go_wp2_with fail
  cases q1 : eqP N0 D0 N1 D1
  · refine Abs.wp_region_abs (Abs.cls0 _) [0, 1, 2, 3, 4, 5, 6, 7, 8, 9, 10, 11, 12, 13, 14, 15] (by kernel_rfl) (by kernel_rfl) (Below.refl _ _).drew ?_
    repeat (first | (refine Abs.step_pure rfl rfl (fun K hK => ?_); go_simp; (try go_bits); (first | refine hK _ _ ?_ | (simp only [↓IntWalk.iteOmega]; go_simp; (try go_bits); refine hK _ _ ?_)); clear hK K) | (refine Abs.step_load (v := ?_) rfl rfl (by kernel_rfl) rfl (fun w0 hI => ?_) (fun K hK => ?_); rotate_left; (· have z0 := (rcell (kp hI (f_g13))).1; have z1 := (rcell (kp hI (f_lo13))).1; have z2 := (rcell (kp hI (f_hi13))).1; go_simp; rfl); (simp only [Act.put, List.setIfInBounds_toArray, List.set_cons_zero, List.set_cons_succ]; refine hK _ _ ?_; clear hK K)) | (refine Abs.step_skip rfl rfl (fun K hK => ?_); (simp only [Act.put, List.setIfInBounds_toArray, List.set_cons_zero, List.set_cons_succ]; refine hK _ _ ?_; clear hK K)))
    (refine Abs.step_pure rfl rfl (fun K hK => ?_); go_simp; refine ⟨.bool (eqP N0 D0 N1 D1), fun w => eqP_ite _ _ _ _ (fun b => Result.ok (Next.value (Value.bool b)) w), ?_⟩; simp only [q1]; refine hK _ _ ?_; clear hK K)
    repeat (first | (refine Abs.step_pure rfl rfl (fun K hK => ?_); go_simp; (try go_bits); (first | refine hK _ _ ?_ | (simp only [↓IntWalk.iteOmega]; go_simp; (try go_bits); refine hK _ _ ?_)); clear hK K) | (refine Abs.step_load (v := ?_) rfl rfl (by kernel_rfl) rfl (fun w0 hI => ?_) (fun K hK => ?_); rotate_left; (· have z0 := (rcell (kp hI (f_g13))).1; have z1 := (rcell (kp hI (f_lo13))).1; have z2 := (rcell (kp hI (f_hi13))).1; go_simp; rfl); (simp only [Act.put, List.setIfInBounds_toArray, List.set_cons_zero, List.set_cons_succ]; refine hK _ _ ?_; clear hK K)) | (refine Abs.step_skip rfl rfl (fun K hK => ?_); (simp only [Act.put, List.setIfInBounds_toArray, List.set_cons_zero, List.set_cons_succ]; refine hK _ _ ?_; clear hK K)))
    intro w15 hb15 hx0 hx1 hx2
    clear hx0 hx1 hx2
    simp only [Abs.T_setF, Abs.T_addA, Abs.T_push, Abs.T_start]
    have f_b15 := kp hb15 (f_b13)
    have f_lo15 := kp hb15 (f_lo13)
    have f_hi15 := kp hb15 (f_hi13)
    have f_g15 := kp hb15 (f_g13)
    have hB15 := xB hB13 hb15
    clear zb_a zb_b zg_a zg_b zhi_a zhi_b zlo_a zlo_b
    obtain ⟨zb_a, zb_b, lb15⟩ := rcell f_b15
    obtain ⟨zlo_a, zlo_b, llo15⟩ := rcell f_lo15
    obtain ⟨zhi_a, zhi_b, lhi15⟩ := rcell f_hi15
    obtain ⟨zg_a, zg_b, lg15⟩ := rcell f_g15
    go_wp2
    go_ret
    exact ⟨by rw [← HE.out, q1]; simp, hB15, (f_g15)⟩
  · refine Abs.wp_region_abs (Abs.cls0 _) [0, 1, 2, 3, 4, 5, 6, 7, 8, 9, 10, 11, 12, 13, 14, 15] (by kernel_rfl) (by kernel_rfl) (Below.refl _ _).drew ?_
    repeat (first | (refine Abs.step_pure rfl rfl (fun K hK => ?_); go_simp; (try go_bits); (first | refine hK _ _ ?_ | (simp only [↓IntWalk.iteOmega]; go_simp; (try go_bits); refine hK _ _ ?_)); clear hK K) | (refine Abs.step_load (v := ?_) rfl rfl (by kernel_rfl) rfl (fun w0 hI => ?_) (fun K hK => ?_); rotate_left; (· have z0 := (rcell (kp hI (f_g13))).1; have z1 := (rcell (kp hI (f_lo13))).1; have z2 := (rcell (kp hI (f_hi13))).1; go_simp; rfl); (simp only [Act.put, List.setIfInBounds_toArray, List.set_cons_zero, List.set_cons_succ]; refine hK _ _ ?_; clear hK K)) | (refine Abs.step_skip rfl rfl (fun K hK => ?_); (simp only [Act.put, List.setIfInBounds_toArray, List.set_cons_zero, List.set_cons_succ]; refine hK _ _ ?_; clear hK K)))
    (refine Abs.step_pure rfl rfl (fun K hK => ?_); go_simp; refine ⟨.bool (eqP N0 D0 N1 D1), fun w => eqP_ite _ _ _ _ (fun b => Result.ok (Next.value (Value.bool b)) w), ?_⟩; simp only [q1]; refine hK _ _ ?_; clear hK K)
    repeat (first | (refine Abs.step_pure rfl rfl (fun K hK => ?_); go_simp; (try go_bits); (first | refine hK _ _ ?_ | (simp only [↓IntWalk.iteOmega]; go_simp; (try go_bits); refine hK _ _ ?_)); clear hK K) | (refine Abs.step_load (v := ?_) rfl rfl (by kernel_rfl) rfl (fun w0 hI => ?_) (fun K hK => ?_); rotate_left; (· have z0 := (rcell (kp hI (f_g13))).1; have z1 := (rcell (kp hI (f_lo13))).1; have z2 := (rcell (kp hI (f_hi13))).1; go_simp; rfl); (simp only [Act.put, List.setIfInBounds_toArray, List.set_cons_zero, List.set_cons_succ]; refine hK _ _ ?_; clear hK K)) | (refine Abs.step_skip rfl rfl (fun K hK => ?_); (simp only [Act.put, List.setIfInBounds_toArray, List.set_cons_zero, List.set_cons_succ]; refine hK _ _ ?_; clear hK K)))
    intro w15 hb15 hx0 hx1 hx2
    clear hx0 hx1 hx2
    simp only [Abs.T_setF, Abs.T_addA, Abs.T_push, Abs.T_start]
    have f_b15 := kp hb15 (f_b13)
    have f_lo15 := kp hb15 (f_lo13)
    have f_hi15 := kp hb15 (f_hi13)
    have f_g15 := kp hb15 (f_g13)
    have hB15 := xB hB13 hb15
    clear zb_a zb_b zg_a zg_b zhi_a zhi_b zlo_a zlo_b
    obtain ⟨zb_a, zb_b, lb15⟩ := rcell f_b15
    obtain ⟨zlo_a, zlo_b, llo15⟩ := rcell f_lo15
    obtain ⟨zhi_a, zhi_b, lhi15⟩ := rcell f_hi15
    obtain ⟨zg_a, zg_b, lg15⟩ := rcell f_g15
    go_wp2
    go_ret
    exact ⟨by rw [← HE.out, q1]; simp, hB15, (f_g15)⟩


set_option maxRecDepth 100000 in
set_option maxHeartbeats 2000000 in
theorem take_tt (g : Nat) (dt dv n0 d0 n1 d1 m bt bl bh N0 D0 N1 D1 k1 k2 k3 : Int) (o1 o2 o3 e : Bool) (hm : 2 ≤ m) (hp : decide (0 < k1) = true) (hq : decide (k2 < 0) = true) (hm2 : m < 1000000) (he : (eqP N0 D0 N1 D1 || decide (k3 < 0)) = e)
    (cs0 : ∀ w, w.heap[g]? = some (.cells #[.int .i64 dt, .int .i64 dv, .int .i64 n0, .int .i64 d0, .int .i64 n1, .int .i64 d1, .int .i64 (m + 1)] 120 (0, 0)) → Calls Tryd.prog 136 #[.pointer (some ⟨g, 0, none⟩), .agg #[.int .i64 bt, .int .i64 bl, .int .i64 bh], .int .i64 bl] w fun e w' => e = .returned (.agg #[.int .i64 N0, .int .i64 D0]) ∧ Below w.heap.size w w')
    (cs1 : ∀ w, w.heap[g]? = some (.cells #[.int .i64 dt, .int .i64 dv, .int .i64 n0, .int .i64 d0, .int .i64 n1, .int .i64 d1, .int .i64 (m + 1)] 120 (0, 0)) → Calls Tryd.prog 136 #[.pointer (some ⟨g, 0, none⟩), .agg #[.int .i64 bt, .int .i64 bl, .int .i64 bh], .int .i64 bh] w fun e w' => e = .returned (.agg #[.int .i64 N1, .int .i64 D1]) ∧ Below w.heap.size w w')
    (cc1 : ∀ w, Calls Tryd.prog 80 #[.agg #[.int .i64 N0, .int .i64 D0], .agg #[.int .i64 n0, .int .i64 d0]] w fun e w' => e = .returned (.tuple #[.int .i64 k1, .bool o1]) ∧ Below w.heap.size w w')
    (cc2 : ∀ w, Calls Tryd.prog 80 #[.agg #[.int .i64 N1, .int .i64 D1], .agg #[.int .i64 n1, .int .i64 d1]] w fun e w' => e = .returned (.tuple #[.int .i64 k2, .bool o2]) ∧ Below w.heap.size w w')
    (cc3 : ∀ w, Calls Tryd.prog 80 #[.agg #[.int .i64 N0, .int .i64 D0], .agg #[.int .i64 N1, .int .i64 D1]] w fun e w' => e = .returned (.tuple #[.int .i64 k3, .bool o3]) ∧ Below w.heap.size w w')
    (w : World) (hg : w.heap[g]? = some (.cells #[.int .i64 dt, .int .i64 dv, .int .i64 n0, .int .i64 d0, .int .i64 n1, .int .i64 d1, .int .i64 (m)] 120 (0, 0))) :
    Calls Tryd.prog 131 #[.pointer (some ⟨g, 0, none⟩), .agg #[.int .i64 bt, .int .i64 bl, .int .i64 bh]] w fun x w' => x = .returned (.bool e) ∧ Exc g w w' ∧
      w'.heap[g]? = some (.cells #[.int .i64 dt, .int .i64 dv, .int .i64 N0, .int .i64 D0, .int .i64 N1, .int .i64 D1, .int .i64 (m + 1)] 120 (0, 0)) := by
  have i0 := ends_at0
  have i1 := ends_at1
  have e1 : (m + 1 == 1) = false := by rw [beq_eq_false_iff_ne]; omega
  have e2 : (m + 1 == 2) = false := by rw [beq_eq_false_iff_ne]; omega
  have HE := hide he
  clear he
  have l_g := (rcell hg).2.2
  obtain ⟨zg_a, zg_b, -⟩ := rcell hg
  go_enter Tryd.func131, Tryd.ntmps131
  go_wp2_with fail
  rw [r7m1 hg]
  generalize hT1 : setRow _ _ _ = w1
  have hz1 : w1.heap.size = w.heap.size := by rw [← hT1]; exact setRow_size _ _ _
  obtain ⟨hx1, f_g1⟩ := fin_x (b0 _) hg hT1
  clear hT1
  have hB1 := xX (x0 g w (Nat.le_of_lt (rcell hg).2.2)) hx1 (by omega)
  clear zg_a zg_b
  obtain ⟨zg_a, zg_b, lg1⟩ := rcell f_g1
  have f_g2 := (ka (f_g1) (.cells #[.int .i64 bt, .int .i64 bl, .int .i64 bh] 37))
  have f_b2 := ((hz1 ▸ na w1 #[.int .i64 bt, .int .i64 bl, .int .i64 bh] 37))
  have hB2 := (xA hB1 (.cells #[.int .i64 bt, .int .i64 bl, .int .i64 bh] 37))
  clear zg_a zg_b
  have lg2 := (rcell f_g2).2.2
  have lb2 := (rcell f_b2).2.2
  refine Abs.wp_region_abs (Abs.cls0 _) [0, 1, 2, 3, 4, 5, 6, 7, 8, 9, 10, 11, 12, 13] (by kernel_rfl) (by kernel_rfl) (Below.refl _ _).drew ?_
  repeat (first | (refine Abs.step_pure rfl rfl (fun K hK => ?_); go_simp; (try go_bits); (first | refine hK _ _ ?_ | (simp only [↓IntWalk.iteOmega]; go_simp; (try go_bits); refine hK _ _ ?_)); clear hK K) | (refine Abs.step_load (v := ?_) rfl rfl (by kernel_rfl) rfl (fun w0 hI => ?_) (fun K hK => ?_); rotate_left; (· have z0 := (rcell (kp hI (f_g2))).1; have z1 := (rcell (kp hI (f_b2))).1; go_simp; rfl); (simp only [Act.put, List.setIfInBounds_toArray, List.set_cons_zero, List.set_cons_succ]; refine hK _ _ ?_; clear hK K)) | (refine Abs.step_skip rfl rfl (fun K hK => ?_); (simp only [Act.put, List.setIfInBounds_toArray, List.set_cons_zero, List.set_cons_succ]; refine hK _ _ ?_; clear hK K)))
  (refine Abs.step_call_val (f := ?_) (args := ?_) (v := ?_) rfl rfl rfl rfl (fun w0 => ?_) (fun w0 hI => ?_) (fun K hK => ?_); rotate_left 3; (· go_simp; (constructor <;> rfl)); (· exact cs0 _ (kp hI (f_g2))); (simp only [Act.put, List.setIfInBounds_toArray, List.set_cons_zero, List.set_cons_succ]; refine hK _ _ ?_; clear hK K))
  repeat (first | (refine Abs.step_pure rfl rfl (fun K hK => ?_); go_simp; (try go_bits); (first | refine hK _ _ ?_ | (simp only [↓IntWalk.iteOmega]; go_simp; (try go_bits); refine hK _ _ ?_)); clear hK K) | (refine Abs.step_load (v := ?_) rfl rfl (by kernel_rfl) rfl (fun w0 hI => ?_) (fun K hK => ?_); rotate_left; (· have z0 := (rcell (kp hI (f_g2))).1; have z1 := (rcell (kp hI (f_b2))).1; go_simp; rfl); (simp only [Act.put, List.setIfInBounds_toArray, List.set_cons_zero, List.set_cons_succ]; refine hK _ _ ?_; clear hK K)) | (refine Abs.step_skip rfl rfl (fun K hK => ?_); (simp only [Act.put, List.setIfInBounds_toArray, List.set_cons_zero, List.set_cons_succ]; refine hK _ _ ?_; clear hK K)))
  (refine Abs.step_call_val (f := ?_) (args := ?_) (v := ?_) rfl rfl rfl rfl (fun w0 => ?_) (fun w0 hI => ?_) (fun K hK => ?_); rotate_left 3; (· go_simp; (constructor <;> rfl)); (· exact cs1 _ (kp hI (f_g2))); (simp only [Act.put, List.setIfInBounds_toArray, List.set_cons_zero, List.set_cons_succ]; refine hK _ _ ?_; clear hK K))
  repeat (first | (refine Abs.step_pure rfl rfl (fun K hK => ?_); go_simp; (try go_bits); (first | refine hK _ _ ?_ | (simp only [↓IntWalk.iteOmega]; go_simp; (try go_bits); refine hK _ _ ?_)); clear hK K) | (refine Abs.step_load (v := ?_) rfl rfl (by kernel_rfl) rfl (fun w0 hI => ?_) (fun K hK => ?_); rotate_left; (· have z0 := (rcell (kp hI (f_g2))).1; have z1 := (rcell (kp hI (f_b2))).1; go_simp; rfl); (simp only [Act.put, List.setIfInBounds_toArray, List.set_cons_zero, List.set_cons_succ]; refine hK _ _ ?_; clear hK K)) | (refine Abs.step_skip rfl rfl (fun K hK => ?_); (simp only [Act.put, List.setIfInBounds_toArray, List.set_cons_zero, List.set_cons_succ]; refine hK _ _ ?_; clear hK K)))
  (refine Abs.step_var (obj := ?_) rfl rfl rfl rfl (fun w0 => ?_) (fun K hK g_lo hv_lo hu_lo => ?_); rotate_left; (· go_simp; rfl); (simp only [Act.put, List.setIfInBounds_toArray, List.set_cons_zero, List.set_cons_succ]; refine hK _ _ ?_; clear hK K))
  (refine Abs.step_var (obj := ?_) rfl rfl rfl rfl (fun w0 => ?_) (fun K hK g_hi hv_hi hu_hi => ?_); rotate_left; (· go_simp; rfl); (simp only [Act.put, List.setIfInBounds_toArray, List.set_cons_zero, List.set_cons_succ]; refine hK _ _ ?_; clear hK K))
  repeat (first | (refine Abs.step_pure rfl rfl (fun K hK => ?_); go_simp; (try go_bits); (first | refine hK _ _ ?_ | (simp only [↓IntWalk.iteOmega]; go_simp; (try go_bits); refine hK _ _ ?_)); clear hK K) | (refine Abs.step_load (v := ?_) rfl rfl (by kernel_rfl) rfl (fun w0 hI => ?_) (fun K hK => ?_); rotate_left; (· have z0 := (rcell (kp hI (f_g2))).1; have z1 := (rcell (kp hI (f_b2))).1; go_simp; rfl); (simp only [Act.put, List.setIfInBounds_toArray, List.set_cons_zero, List.set_cons_succ]; refine hK _ _ ?_; clear hK K)) | (refine Abs.step_skip rfl rfl (fun K hK => ?_); (simp only [Act.put, List.setIfInBounds_toArray, List.set_cons_zero, List.set_cons_succ]; refine hK _ _ ?_; clear hK K)))
  (refine Abs.step_store (T := ?_) rfl rfl rfl (fun w0 hI hF hU => ?_) (fun _ _ _ _ => trivial) (fun K hK => ?_); rotate_left; (· have hR := (hF 10).1.2 rfl; have hg0 := (rcell hR).1; have hg1 := (rcell hR).2.1; simp only [Abs.T_setF, Abs.T_addA, Abs.T_push, Abs.T_start]; go_simp; exact row2 hR _ _); (simp only [Act.put, List.setIfInBounds_toArray, List.set_cons_zero, List.set_cons_succ]; refine hK _ _ ?_; clear hK K))
  (refine Abs.step_store (T := ?_) rfl rfl rfl (fun w0 hI hF hU => ?_) (fun _ _ _ _ => trivial) (fun K hK => ?_); rotate_left; (· have hR := fun cs => (setRow_other (w := w0) (g := g_lo) cs (fun e => hu_hi (Or.inl e))).trans ((hF 11).2 rfl); have hg0 := fun cs => (rcell (hR cs)).1; have hg1 := fun cs => (rcell (hR cs)).2.1; simp only [Abs.T_setF, Abs.T_addA, Abs.T_push, Abs.T_start]; go_simp; exact row2 (hR _) _ _); (simp only [Act.put, List.setIfInBounds_toArray, List.set_cons_zero, List.set_cons_succ]; refine hK _ _ ?_; clear hK K))
  have hs_lo := leB hv_lo
  try simp only [World.size_alloc] at hs_lo
  have hs_hi := leB hv_hi
  try simp only [World.size_alloc] at hs_hi
  have hn : g_hi ≠ g_lo := fun e => hu_hi (Or.inl e)
  intro w0 hI hF hx1 hx2
  clear hx1 hx2
  have q1 := (hF 10).1.2 rfl
  have q2 := (hF 11).2 rfl
  clear hF
  simp only [Abs.T_push]
  generalize hTa : setRow w0 _ _ = wa
  have ea := (fin_x (b0 _) q1 hTa).1
  obtain ⟨ba, fa⟩ := fin1 hI hv_lo q1 hTa
  have q3 : wa.heap[g_hi]? = w0.heap[g_hi]? := by rw [← hTa]; exact setRow_other _ hn
  replace q2 := q3.trans q2
  clear q3
  generalize hTb : setRow wa _ _ = w3
  have eb := (fin_x (b0 _) q2 hTb).1
  obtain ⟨hb3, f_hi3⟩ := fin1 ba hv_hi q2 hTb
  have q4 : w3.heap[g_lo]? = wa.heap[g_lo]? := by rw [← hTb]; exact setRow_other _ hn.symm
  have f_lo3 := q4.trans fa
  clear q4
  clear hTa hTb ea eb q1 q2 fa ba hI w0
  have f_g3 := kp hb3 (f_g2)
  have f_b3 := kp hb3 (f_b2)
  have hB3 := xB hB2 hb3
  obtain ⟨zg_a, zg_b, lg3⟩ := rcell f_g3
  obtain ⟨zb_a, zb_b, lb3⟩ := rcell f_b3
  obtain ⟨zlo_a, zlo_b, llo3⟩ := rcell f_lo3
  obtain ⟨zhi_a, zhi_b, lhi3⟩ := rcell f_hi3
  go_wp2_with fail
  refine Abs.wp_region_abs (Abs.cls0 _) [0, 1, 2, 3, 4, 5, 6, 7, 8, 9, 10, 11] (by kernel_rfl) (by kernel_rfl) (Below.refl _ _).drew ?_
  repeat (first | (refine Abs.step_pure rfl rfl (fun K hK => ?_); go_simp; (try go_bits); (first | refine hK _ _ ?_ | (simp only [↓IntWalk.iteOmega]; go_simp; (try go_bits); refine hK _ _ ?_)); clear hK K) | (refine Abs.step_load (v := ?_) rfl rfl (by kernel_rfl) rfl (fun w0 hI => ?_) (fun K hK => ?_); rotate_left; (· have z0 := (rcell (kp hI (f_g3))).1; have z1 := (rcell (kp hI (f_lo3))).1; have z2 := (rcell (kp hI (f_hi3))).1; go_simp; rfl); (simp only [Act.put, List.setIfInBounds_toArray, List.set_cons_zero, List.set_cons_succ]; refine hK _ _ ?_; clear hK K)) | (refine Abs.step_skip rfl rfl (fun K hK => ?_); (simp only [Act.put, List.setIfInBounds_toArray, List.set_cons_zero, List.set_cons_succ]; refine hK _ _ ?_; clear hK K)))
  (refine Abs.step_call_val (f := ?_) (args := ?_) (v := ?_) rfl rfl rfl rfl (fun w0 => ?_) (fun w0 hI => ?_) (fun K hK => ?_); rotate_left 3; (· go_simp; (constructor <;> rfl)); (· exact cc1 _); (simp only [Act.put, List.setIfInBounds_toArray, List.set_cons_zero, List.set_cons_succ]; refine hK _ _ ?_; clear hK K))
  repeat (first | (refine Abs.step_pure rfl rfl (fun K hK => ?_); go_simp; (try go_bits); (first | refine hK _ _ ?_ | (simp only [↓IntWalk.iteOmega]; go_simp; (try go_bits); refine hK _ _ ?_)); clear hK K) | (refine Abs.step_load (v := ?_) rfl rfl (by kernel_rfl) rfl (fun w0 hI => ?_) (fun K hK => ?_); rotate_left; (· have z0 := (rcell (kp hI (f_g3))).1; have z1 := (rcell (kp hI (f_lo3))).1; have z2 := (rcell (kp hI (f_hi3))).1; go_simp; rfl); (simp only [Act.put, List.setIfInBounds_toArray, List.set_cons_zero, List.set_cons_succ]; refine hK _ _ ?_; clear hK K)) | (refine Abs.step_skip rfl rfl (fun K hK => ?_); (simp only [Act.put, List.setIfInBounds_toArray, List.set_cons_zero, List.set_cons_succ]; refine hK _ _ ?_; clear hK K)))
  intro w5 hb5 hx0 hx1 hx2
  clear hx0 hx1 hx2
  simp only [Abs.T_setF, Abs.T_addA, Abs.T_push, Abs.T_start]
  have f_g5 := kp hb5 (f_g3)
  have f_b5 := kp hb5 (f_b3)
  have f_lo5 := kp hb5 (f_lo3)
  have f_hi5 := kp hb5 (f_hi3)
  have hB5 := xB hB3 hb5
  clear zb_a zb_b zg_a zg_b zhi_a zhi_b zlo_a zlo_b
  obtain ⟨zg_a, zg_b, lg5⟩ := rcell f_g5
  obtain ⟨zb_a, zb_b, lb5⟩ := rcell f_b5
  obtain ⟨zlo_a, zlo_b, llo5⟩ := rcell f_lo5
  obtain ⟨zhi_a, zhi_b, lhi5⟩ := rcell f_hi5
  go_wp2_with fail
  refine Abs.wp_region_abs (Abs.cls0 _) [0, 1, 2, 3, 4, 5] (by kernel_rfl) (by kernel_rfl) (Below.refl _ _).drew ?_
  repeat (first | (refine Abs.step_pure rfl rfl (fun K hK => ?_); go_simp; (try go_bits); (first | refine hK _ _ ?_ | (simp only [↓IntWalk.iteOmega]; go_simp; (try go_bits); refine hK _ _ ?_)); clear hK K) | (refine Abs.step_load (v := ?_) rfl rfl (by kernel_rfl) rfl (fun w0 hI => ?_) (fun K hK => ?_); rotate_left; (· have z0 := (rcell (kp hI (f_g5))).1; have z1 := (rcell (kp hI (f_lo5))).1; have z2 := (rcell (kp hI (f_hi5))).1; go_simp; rfl); (simp only [Act.put, List.setIfInBounds_toArray, List.set_cons_zero, List.set_cons_succ]; refine hK _ _ ?_; clear hK K)) | (refine Abs.step_skip rfl rfl (fun K hK => ?_); (simp only [Act.put, List.setIfInBounds_toArray, List.set_cons_zero, List.set_cons_succ]; refine hK _ _ ?_; clear hK K)))
  (refine Abs.step_store (T := ?_) rfl rfl rfl (fun w0 hI hF hU => ?_) (fun w0 hI hU hJ => ?_) (fun K hK => ?_); rotate_left; (· have hR := kp hI (f_g5); have hg0 := (rcell hR).1; have hg1 := (rcell hR).2.1; simp only [Abs.T_setF, Abs.T_addA, Abs.T_push, Abs.T_start]; go_simp; exact r7a2 hR _ _); (· first | exact trivial | exact js hJ rfl _ | exact js hJ (Or.inl rfl) _ | exact js hJ (Or.inr rfl) _); (simp only [Act.put, List.setIfInBounds_toArray, List.set_cons_zero, List.set_cons_succ]; refine hK _ _ ?_; clear hK K))
  intro w0 hI hF hx1 hx2
  clear hx1 hx2 hF
  simp only [Abs.T_push]
  generalize hT7 : setRow w0 _ _ = w7
  obtain ⟨hx7, f_g7⟩ := fin_x hI (f_g5) hT7
  clear hT7 hI w0
  have f_b7 := kx hx7 (f_b5) (by omega)
  have f_lo7 := kx hx7 (f_lo5) (by omega)
  have f_hi7 := kx hx7 (f_hi5) (by omega)
  have hB7 := xX hB5 hx7 (by omega)
  clear zb_a zb_b zg_a zg_b zhi_a zhi_b zlo_a zlo_b
  obtain ⟨zb_a, zb_b, lb7⟩ := rcell f_b7
  obtain ⟨zlo_a, zlo_b, llo7⟩ := rcell f_lo7
  obtain ⟨zhi_a, zhi_b, lhi7⟩ := rcell f_hi7
  obtain ⟨zg_a, zg_b, lg7⟩ := rcell f_g7
  go_wp2_with fail
  refine Abs.wp_region_abs (Abs.cls0 _) [0, 1, 2, 3, 4, 5, 6, 7, 8, 9, 10, 11] (by kernel_rfl) (by kernel_rfl) (Below.refl _ _).drew ?_
  repeat (first | (refine Abs.step_pure rfl rfl (fun K hK => ?_); go_simp; (try go_bits); (first | refine hK _ _ ?_ | (simp only [↓IntWalk.iteOmega]; go_simp; (try go_bits); refine hK _ _ ?_)); clear hK K) | (refine Abs.step_load (v := ?_) rfl rfl (by kernel_rfl) rfl (fun w0 hI => ?_) (fun K hK => ?_); rotate_left; (· have z0 := (rcell (kp hI (f_g7))).1; have z1 := (rcell (kp hI (f_lo7))).1; have z2 := (rcell (kp hI (f_hi7))).1; go_simp; rfl); (simp only [Act.put, List.setIfInBounds_toArray, List.set_cons_zero, List.set_cons_succ]; refine hK _ _ ?_; clear hK K)) | (refine Abs.step_skip rfl rfl (fun K hK => ?_); (simp only [Act.put, List.setIfInBounds_toArray, List.set_cons_zero, List.set_cons_succ]; refine hK _ _ ?_; clear hK K)))
  (refine Abs.step_call_val (f := ?_) (args := ?_) (v := ?_) rfl rfl rfl rfl (fun w0 => ?_) (fun w0 hI => ?_) (fun K hK => ?_); rotate_left 3; (· go_simp; (constructor <;> rfl)); (· exact cc2 _); (simp only [Act.put, List.setIfInBounds_toArray, List.set_cons_zero, List.set_cons_succ]; refine hK _ _ ?_; clear hK K))
  repeat (first | (refine Abs.step_pure rfl rfl (fun K hK => ?_); go_simp; (try go_bits); (first | refine hK _ _ ?_ | (simp only [↓IntWalk.iteOmega]; go_simp; (try go_bits); refine hK _ _ ?_)); clear hK K) | (refine Abs.step_load (v := ?_) rfl rfl (by kernel_rfl) rfl (fun w0 hI => ?_) (fun K hK => ?_); rotate_left; (· have z0 := (rcell (kp hI (f_g7))).1; have z1 := (rcell (kp hI (f_lo7))).1; have z2 := (rcell (kp hI (f_hi7))).1; go_simp; rfl); (simp only [Act.put, List.setIfInBounds_toArray, List.set_cons_zero, List.set_cons_succ]; refine hK _ _ ?_; clear hK K)) | (refine Abs.step_skip rfl rfl (fun K hK => ?_); (simp only [Act.put, List.setIfInBounds_toArray, List.set_cons_zero, List.set_cons_succ]; refine hK _ _ ?_; clear hK K)))
  intro w9 hb9 hx0 hx1 hx2
  clear hx0 hx1 hx2
  simp only [Abs.T_setF, Abs.T_addA, Abs.T_push, Abs.T_start]
  have f_b9 := kp hb9 (f_b7)
  have f_lo9 := kp hb9 (f_lo7)
  have f_hi9 := kp hb9 (f_hi7)
  have f_g9 := kp hb9 (f_g7)
  have hB9 := xB hB7 hb9
  clear zb_a zb_b zg_a zg_b zhi_a zhi_b zlo_a zlo_b
  obtain ⟨zb_a, zb_b, lb9⟩ := rcell f_b9
  obtain ⟨zlo_a, zlo_b, llo9⟩ := rcell f_lo9
  obtain ⟨zhi_a, zhi_b, lhi9⟩ := rcell f_hi9
  obtain ⟨zg_a, zg_b, lg9⟩ := rcell f_g9
  go_wp2_with fail
  refine Abs.wp_region_abs (Abs.cls0 _) [0, 1, 2, 3, 4, 5] (by kernel_rfl) (by kernel_rfl) (Below.refl _ _).drew ?_
  repeat (first | (refine Abs.step_pure rfl rfl (fun K hK => ?_); go_simp; (try go_bits); (first | refine hK _ _ ?_ | (simp only [↓IntWalk.iteOmega]; go_simp; (try go_bits); refine hK _ _ ?_)); clear hK K) | (refine Abs.step_load (v := ?_) rfl rfl (by kernel_rfl) rfl (fun w0 hI => ?_) (fun K hK => ?_); rotate_left; (· have z0 := (rcell (kp hI (f_g9))).1; have z1 := (rcell (kp hI (f_lo9))).1; have z2 := (rcell (kp hI (f_hi9))).1; go_simp; rfl); (simp only [Act.put, List.setIfInBounds_toArray, List.set_cons_zero, List.set_cons_succ]; refine hK _ _ ?_; clear hK K)) | (refine Abs.step_skip rfl rfl (fun K hK => ?_); (simp only [Act.put, List.setIfInBounds_toArray, List.set_cons_zero, List.set_cons_succ]; refine hK _ _ ?_; clear hK K)))
  (refine Abs.step_store (T := ?_) rfl rfl rfl (fun w0 hI hF hU => ?_) (fun w0 hI hU hJ => ?_) (fun K hK => ?_); rotate_left; (· have hR := kp hI (f_g9); have hg0 := (rcell hR).1; have hg1 := (rcell hR).2.1; simp only [Abs.T_setF, Abs.T_addA, Abs.T_push, Abs.T_start]; go_simp; exact r7b2 hR _ _); (· first | exact trivial | exact js hJ rfl _ | exact js hJ (Or.inl rfl) _ | exact js hJ (Or.inr rfl) _); (simp only [Act.put, List.setIfInBounds_toArray, List.set_cons_zero, List.set_cons_succ]; refine hK _ _ ?_; clear hK K))
  intro w0 hI hF hx1 hx2
  clear hx1 hx2 hF
  simp only [Abs.T_push]
  generalize hT11 : setRow w0 _ _ = w11
  obtain ⟨hx11, f_g11⟩ := fin_x hI (f_g9) hT11
  clear hT11 hI w0
  have f_b11 := kx hx11 (f_b9) (by omega)
  have f_lo11 := kx hx11 (f_lo9) (by omega)
  have f_hi11 := kx hx11 (f_hi9) (by omega)
  have hB11 := xX hB9 hx11 (by omega)
  clear zb_a zb_b zg_a zg_b zhi_a zhi_b zlo_a zlo_b
  obtain ⟨zb_a, zb_b, lb11⟩ := rcell f_b11
  obtain ⟨zlo_a, zlo_b, llo11⟩ := rcell f_lo11
  obtain ⟨zhi_a, zhi_b, lhi11⟩ := rcell f_hi11
  obtain ⟨zg_a, zg_b, lg11⟩ := rcell f_g11
  go_wp2_with fail
  refine Abs.wp_region_abs (Abs.cls0 _) [0, 1, 2, 3, 4, 5, 6, 7, 8, 9, 10, 11, 12, 13, 14, 15] (by kernel_rfl) (by kernel_rfl) (Below.refl _ _).drew ?_
  repeat (first | (refine Abs.step_pure rfl rfl (fun K hK => ?_); go_simp; (try go_bits); (first | refine hK _ _ ?_ | (simp only [↓IntWalk.iteOmega]; go_simp; (try go_bits); refine hK _ _ ?_)); clear hK K) | (refine Abs.step_load (v := ?_) rfl rfl (by kernel_rfl) rfl (fun w0 hI => ?_) (fun K hK => ?_); rotate_left; (· have z0 := (rcell (kp hI (f_g11))).1; have z1 := (rcell (kp hI (f_lo11))).1; have z2 := (rcell (kp hI (f_hi11))).1; go_simp; rfl); (simp only [Act.put, List.setIfInBounds_toArray, List.set_cons_zero, List.set_cons_succ]; refine hK _ _ ?_; clear hK K)) | (refine Abs.step_skip rfl rfl (fun K hK => ?_); (simp only [Act.put, List.setIfInBounds_toArray, List.set_cons_zero, List.set_cons_succ]; refine hK _ _ ?_; clear hK K)))
  (refine Abs.step_call_val (f := ?_) (args := ?_) (v := ?_) rfl rfl rfl rfl (fun w0 => ?_) (fun w0 hI => ?_) (fun K hK => ?_); rotate_left 3; (· go_simp; (constructor <;> rfl)); (· exact cc3 _); (simp only [Act.put, List.setIfInBounds_toArray, List.set_cons_zero, List.set_cons_succ]; refine hK _ _ ?_; clear hK K))
  repeat (first | (refine Abs.step_pure rfl rfl (fun K hK => ?_); go_simp; (try go_bits); (first | refine hK _ _ ?_ | (simp only [↓IntWalk.iteOmega]; go_simp; (try go_bits); refine hK _ _ ?_)); clear hK K) | (refine Abs.step_load (v := ?_) rfl rfl (by kernel_rfl) rfl (fun w0 hI => ?_) (fun K hK => ?_); rotate_left; (· have z0 := (rcell (kp hI (f_g11))).1; have z1 := (rcell (kp hI (f_lo11))).1; have z2 := (rcell (kp hI (f_hi11))).1; go_simp; rfl); (simp only [Act.put, List.setIfInBounds_toArray, List.set_cons_zero, List.set_cons_succ]; refine hK _ _ ?_; clear hK K)) | (refine Abs.step_skip rfl rfl (fun K hK => ?_); (simp only [Act.put, List.setIfInBounds_toArray, List.set_cons_zero, List.set_cons_succ]; refine hK _ _ ?_; clear hK K)))
  intro w13 hb13 hx0 hx1 hx2
  clear hx0 hx1 hx2
  simp only [Abs.T_setF, Abs.T_addA, Abs.T_push, Abs.T_start]
  have f_b13 := kp hb13 (f_b11)
  have f_lo13 := kp hb13 (f_lo11)
  have f_hi13 := kp hb13 (f_hi11)
  have f_g13 := kp hb13 (f_g11)
  have hB13 := xB hB11 hb13
  clear zb_a zb_b zg_a zg_b zhi_a zhi_b zlo_a zlo_b
  obtain ⟨zb_a, zb_b, lb13⟩ := rcell f_b13
  obtain ⟨zlo_a, zlo_b, llo13⟩ := rcell f_lo13
  obtain ⟨zhi_a, zhi_b, lhi13⟩ := rcell f_hi13
  obtain ⟨zg_a, zg_b, lg13⟩ := rcell f_g13
  go_wp2_with fail
  cases q1 : eqP N0 D0 N1 D1
  · refine Abs.wp_region_abs (Abs.cls0 _) [0, 1, 2, 3, 4, 5, 6, 7, 8, 9, 10, 11, 12, 13, 14, 15] (by kernel_rfl) (by kernel_rfl) (Below.refl _ _).drew ?_
    repeat (first | (refine Abs.step_pure rfl rfl (fun K hK => ?_); go_simp; (try go_bits); (first | refine hK _ _ ?_ | (simp only [↓IntWalk.iteOmega]; go_simp; (try go_bits); refine hK _ _ ?_)); clear hK K) | (refine Abs.step_load (v := ?_) rfl rfl (by kernel_rfl) rfl (fun w0 hI => ?_) (fun K hK => ?_); rotate_left; (· have z0 := (rcell (kp hI (f_g13))).1; have z1 := (rcell (kp hI (f_lo13))).1; have z2 := (rcell (kp hI (f_hi13))).1; go_simp; rfl); (simp only [Act.put, List.setIfInBounds_toArray, List.set_cons_zero, List.set_cons_succ]; refine hK _ _ ?_; clear hK K)) | (refine Abs.step_skip rfl rfl (fun K hK => ?_); (simp only [Act.put, List.setIfInBounds_toArray, List.set_cons_zero, List.set_cons_succ]; refine hK _ _ ?_; clear hK K)))
    (refine Abs.step_pure rfl rfl (fun K hK => ?_); go_simp; refine ⟨.bool (eqP N0 D0 N1 D1), fun w => eqP_ite _ _ _ _ (fun b => Result.ok (Next.value (Value.bool b)) w), ?_⟩; simp only [q1]; refine hK _ _ ?_; clear hK K)
    repeat (first | (refine Abs.step_pure rfl rfl (fun K hK => ?_); go_simp; (try go_bits); (first | refine hK _ _ ?_ | (simp only [↓IntWalk.iteOmega]; go_simp; (try go_bits); refine hK _ _ ?_)); clear hK K) | (refine Abs.step_load (v := ?_) rfl rfl (by kernel_rfl) rfl (fun w0 hI => ?_) (fun K hK => ?_); rotate_left; (· have z0 := (rcell (kp hI (f_g13))).1; have z1 := (rcell (kp hI (f_lo13))).1; have z2 := (rcell (kp hI (f_hi13))).1; go_simp; rfl); (simp only [Act.put, List.setIfInBounds_toArray, List.set_cons_zero, List.set_cons_succ]; refine hK _ _ ?_; clear hK K)) | (refine Abs.step_skip rfl rfl (fun K hK => ?_); (simp only [Act.put, List.setIfInBounds_toArray, List.set_cons_zero, List.set_cons_succ]; refine hK _ _ ?_; clear hK K)))
    intro w15 hb15 hx0 hx1 hx2
    clear hx0 hx1 hx2
    simp only [Abs.T_setF, Abs.T_addA, Abs.T_push, Abs.T_start]
    have f_b15 := kp hb15 (f_b13)
    have f_lo15 := kp hb15 (f_lo13)
    have f_hi15 := kp hb15 (f_hi13)
    have f_g15 := kp hb15 (f_g13)
    have hB15 := xB hB13 hb15
    clear zb_a zb_b zg_a zg_b zhi_a zhi_b zlo_a zlo_b
    obtain ⟨zb_a, zb_b, lb15⟩ := rcell f_b15
    obtain ⟨zlo_a, zlo_b, llo15⟩ := rcell f_lo15
    obtain ⟨zhi_a, zhi_b, lhi15⟩ := rcell f_hi15
    obtain ⟨zg_a, zg_b, lg15⟩ := rcell f_g15
    go_wp2
    go_ret
    exact ⟨by rw [← HE.out, q1]; simp, hB15, (f_g15)⟩
  · refine Abs.wp_region_abs (Abs.cls0 _) [0, 1, 2, 3, 4, 5, 6, 7, 8, 9, 10, 11, 12, 13, 14, 15] (by kernel_rfl) (by kernel_rfl) (Below.refl _ _).drew ?_
    repeat (first | (refine Abs.step_pure rfl rfl (fun K hK => ?_); go_simp; (try go_bits); (first | refine hK _ _ ?_ | (simp only [↓IntWalk.iteOmega]; go_simp; (try go_bits); refine hK _ _ ?_)); clear hK K) | (refine Abs.step_load (v := ?_) rfl rfl (by kernel_rfl) rfl (fun w0 hI => ?_) (fun K hK => ?_); rotate_left; (· have z0 := (rcell (kp hI (f_g13))).1; have z1 := (rcell (kp hI (f_lo13))).1; have z2 := (rcell (kp hI (f_hi13))).1; go_simp; rfl); (simp only [Act.put, List.setIfInBounds_toArray, List.set_cons_zero, List.set_cons_succ]; refine hK _ _ ?_; clear hK K)) | (refine Abs.step_skip rfl rfl (fun K hK => ?_); (simp only [Act.put, List.setIfInBounds_toArray, List.set_cons_zero, List.set_cons_succ]; refine hK _ _ ?_; clear hK K)))
    (refine Abs.step_pure rfl rfl (fun K hK => ?_); go_simp; refine ⟨.bool (eqP N0 D0 N1 D1), fun w => eqP_ite _ _ _ _ (fun b => Result.ok (Next.value (Value.bool b)) w), ?_⟩; simp only [q1]; refine hK _ _ ?_; clear hK K)
    repeat (first | (refine Abs.step_pure rfl rfl (fun K hK => ?_); go_simp; (try go_bits); (first | refine hK _ _ ?_ | (simp only [↓IntWalk.iteOmega]; go_simp; (try go_bits); refine hK _ _ ?_)); clear hK K) | (refine Abs.step_load (v := ?_) rfl rfl (by kernel_rfl) rfl (fun w0 hI => ?_) (fun K hK => ?_); rotate_left; (· have z0 := (rcell (kp hI (f_g13))).1; have z1 := (rcell (kp hI (f_lo13))).1; have z2 := (rcell (kp hI (f_hi13))).1; go_simp; rfl); (simp only [Act.put, List.setIfInBounds_toArray, List.set_cons_zero, List.set_cons_succ]; refine hK _ _ ?_; clear hK K)) | (refine Abs.step_skip rfl rfl (fun K hK => ?_); (simp only [Act.put, List.setIfInBounds_toArray, List.set_cons_zero, List.set_cons_succ]; refine hK _ _ ?_; clear hK K)))
    intro w15 hb15 hx0 hx1 hx2
    clear hx0 hx1 hx2
    simp only [Abs.T_setF, Abs.T_addA, Abs.T_push, Abs.T_start]
    have f_b15 := kp hb15 (f_b13)
    have f_lo15 := kp hb15 (f_lo13)
    have f_hi15 := kp hb15 (f_hi13)
    have f_g15 := kp hb15 (f_g13)
    have hB15 := xB hB13 hb15
    clear zb_a zb_b zg_a zg_b zhi_a zhi_b zlo_a zlo_b
    obtain ⟨zb_a, zb_b, lb15⟩ := rcell f_b15
    obtain ⟨zlo_a, zlo_b, llo15⟩ := rcell f_lo15
    obtain ⟨zhi_a, zhi_b, lhi15⟩ := rcell f_hi15
    obtain ⟨zg_a, zg_b, lg15⟩ := rcell f_g15
    go_wp2
    go_ret
    exact ⟨by rw [← HE.out, q1]; simp, hB15, (f_g15)⟩


set_option maxRecDepth 100000 in
set_option maxHeartbeats 2000000 in
theorem take_tf (g : Nat) (dt dv n0 d0 n1 d1 m bt bl bh N0 D0 N1 D1 k1 k2 k3 : Int) (o1 o2 o3 e : Bool) (hm : 2 ≤ m) (hp : decide (0 < k1) = true) (hq : decide (k2 < 0) = false) (hm2 : m < 1000000) (he : (eqP N0 D0 n1 d1 || decide (k3 < 0)) = e)
    (cs0 : ∀ w, w.heap[g]? = some (.cells #[.int .i64 dt, .int .i64 dv, .int .i64 n0, .int .i64 d0, .int .i64 n1, .int .i64 d1, .int .i64 (m + 1)] 120 (0, 0)) → Calls Tryd.prog 136 #[.pointer (some ⟨g, 0, none⟩), .agg #[.int .i64 bt, .int .i64 bl, .int .i64 bh], .int .i64 bl] w fun e w' => e = .returned (.agg #[.int .i64 N0, .int .i64 D0]) ∧ Below w.heap.size w w')
    (cs1 : ∀ w, w.heap[g]? = some (.cells #[.int .i64 dt, .int .i64 dv, .int .i64 n0, .int .i64 d0, .int .i64 n1, .int .i64 d1, .int .i64 (m + 1)] 120 (0, 0)) → Calls Tryd.prog 136 #[.pointer (some ⟨g, 0, none⟩), .agg #[.int .i64 bt, .int .i64 bl, .int .i64 bh], .int .i64 bh] w fun e w' => e = .returned (.agg #[.int .i64 N1, .int .i64 D1]) ∧ Below w.heap.size w w')
    (cc1 : ∀ w, Calls Tryd.prog 80 #[.agg #[.int .i64 N0, .int .i64 D0], .agg #[.int .i64 n0, .int .i64 d0]] w fun e w' => e = .returned (.tuple #[.int .i64 k1, .bool o1]) ∧ Below w.heap.size w w')
    (cc2 : ∀ w, Calls Tryd.prog 80 #[.agg #[.int .i64 N1, .int .i64 D1], .agg #[.int .i64 n1, .int .i64 d1]] w fun e w' => e = .returned (.tuple #[.int .i64 k2, .bool o2]) ∧ Below w.heap.size w w')
    (cc3 : ∀ w, Calls Tryd.prog 80 #[.agg #[.int .i64 N0, .int .i64 D0], .agg #[.int .i64 n1, .int .i64 d1]] w fun e w' => e = .returned (.tuple #[.int .i64 k3, .bool o3]) ∧ Below w.heap.size w w')
    (w : World) (hg : w.heap[g]? = some (.cells #[.int .i64 dt, .int .i64 dv, .int .i64 n0, .int .i64 d0, .int .i64 n1, .int .i64 d1, .int .i64 (m)] 120 (0, 0))) :
    Calls Tryd.prog 131 #[.pointer (some ⟨g, 0, none⟩), .agg #[.int .i64 bt, .int .i64 bl, .int .i64 bh]] w fun x w' => x = .returned (.bool e) ∧ Exc g w w' ∧
      w'.heap[g]? = some (.cells #[.int .i64 dt, .int .i64 dv, .int .i64 N0, .int .i64 D0, .int .i64 n1, .int .i64 d1, .int .i64 (m + 1)] 120 (0, 0)) := by
  have i0 := ends_at0
  have i1 := ends_at1
  have e1 : (m + 1 == 1) = false := by rw [beq_eq_false_iff_ne]; omega
  have e2 : (m + 1 == 2) = false := by rw [beq_eq_false_iff_ne]; omega
  have HE := hide he
  clear he
  have l_g := (rcell hg).2.2
  obtain ⟨zg_a, zg_b, -⟩ := rcell hg
  go_enter Tryd.func131, Tryd.ntmps131
  go_wp2_with fail
  rw [r7m1 hg]
  generalize hT1 : setRow _ _ _ = w1
  have hz1 : w1.heap.size = w.heap.size := by rw [← hT1]; exact setRow_size _ _ _
  obtain ⟨hx1, f_g1⟩ := fin_x (b0 _) hg hT1
  clear hT1
  have hB1 := xX (x0 g w (Nat.le_of_lt (rcell hg).2.2)) hx1 (by omega)
  clear zg_a zg_b
  obtain ⟨zg_a, zg_b, lg1⟩ := rcell f_g1
  have f_g2 := (ka (f_g1) (.cells #[.int .i64 bt, .int .i64 bl, .int .i64 bh] 37))
  have f_b2 := ((hz1 ▸ na w1 #[.int .i64 bt, .int .i64 bl, .int .i64 bh] 37))
  have hB2 := (xA hB1 (.cells #[.int .i64 bt, .int .i64 bl, .int .i64 bh] 37))
  clear zg_a zg_b
  have lg2 := (rcell f_g2).2.2
  have lb2 := (rcell f_b2).2.2
  refine Abs.wp_region_abs (Abs.cls0 _) [0, 1, 2, 3, 4, 5, 6, 7, 8, 9, 10, 11, 12, 13] (by kernel_rfl) (by kernel_rfl) (Below.refl _ _).drew ?_
  repeat (first | (refine Abs.step_pure rfl rfl (fun K hK => ?_); go_simp; (try go_bits); (first | refine hK _ _ ?_ | (simp only [↓IntWalk.iteOmega]; go_simp; (try go_bits); refine hK _ _ ?_)); clear hK K) | (refine Abs.step_load (v := ?_) rfl rfl (by kernel_rfl) rfl (fun w0 hI => ?_) (fun K hK => ?_); rotate_left; (· have z0 := (rcell (kp hI (f_g2))).1; have z1 := (rcell (kp hI (f_b2))).1; go_simp; rfl); (simp only [Act.put, List.setIfInBounds_toArray, List.set_cons_zero, List.set_cons_succ]; refine hK _ _ ?_; clear hK K)) | (refine Abs.step_skip rfl rfl (fun K hK => ?_); (simp only [Act.put, List.setIfInBounds_toArray, List.set_cons_zero, List.set_cons_succ]; refine hK _ _ ?_; clear hK K)))
  (refine Abs.step_call_val (f := ?_) (args := ?_) (v := ?_) rfl rfl rfl rfl (fun w0 => ?_) (fun w0 hI => ?_) (fun K hK => ?_); rotate_left 3; (· go_simp; (constructor <;> rfl)); (· exact cs0 _ (kp hI (f_g2))); (simp only [Act.put, List.setIfInBounds_toArray, List.set_cons_zero, List.set_cons_succ]; refine hK _ _ ?_; clear hK K))
  repeat (first | (refine Abs.step_pure rfl rfl (fun K hK => ?_); go_simp; (try go_bits); (first | refine hK _ _ ?_ | (simp only [↓IntWalk.iteOmega]; go_simp; (try go_bits); refine hK _ _ ?_)); clear hK K) | (refine Abs.step_load (v := ?_) rfl rfl (by kernel_rfl) rfl (fun w0 hI => ?_) (fun K hK => ?_); rotate_left; (· have z0 := (rcell (kp hI (f_g2))).1; have z1 := (rcell (kp hI (f_b2))).1; go_simp; rfl); (simp only [Act.put, List.setIfInBounds_toArray, List.set_cons_zero, List.set_cons_succ]; refine hK _ _ ?_; clear hK K)) | (refine Abs.step_skip rfl rfl (fun K hK => ?_); (simp only [Act.put, List.setIfInBounds_toArray, List.set_cons_zero, List.set_cons_succ]; refine hK _ _ ?_; clear hK K)))
  (refine Abs.step_call_val (f := ?_) (args := ?_) (v := ?_) rfl rfl rfl rfl (fun w0 => ?_) (fun w0 hI => ?_) (fun K hK => ?_); rotate_left 3; (· go_simp; (constructor <;> rfl)); (· exact cs1 _ (kp hI (f_g2))); (simp only [Act.put, List.setIfInBounds_toArray, List.set_cons_zero, List.set_cons_succ]; refine hK _ _ ?_; clear hK K))
  repeat (first | (refine Abs.step_pure rfl rfl (fun K hK => ?_); go_simp; (try go_bits); (first | refine hK _ _ ?_ | (simp only [↓IntWalk.iteOmega]; go_simp; (try go_bits); refine hK _ _ ?_)); clear hK K) | (refine Abs.step_load (v := ?_) rfl rfl (by kernel_rfl) rfl (fun w0 hI => ?_) (fun K hK => ?_); rotate_left; (· have z0 := (rcell (kp hI (f_g2))).1; have z1 := (rcell (kp hI (f_b2))).1; go_simp; rfl); (simp only [Act.put, List.setIfInBounds_toArray, List.set_cons_zero, List.set_cons_succ]; refine hK _ _ ?_; clear hK K)) | (refine Abs.step_skip rfl rfl (fun K hK => ?_); (simp only [Act.put, List.setIfInBounds_toArray, List.set_cons_zero, List.set_cons_succ]; refine hK _ _ ?_; clear hK K)))
  (refine Abs.step_var (obj := ?_) rfl rfl rfl rfl (fun w0 => ?_) (fun K hK g_lo hv_lo hu_lo => ?_); rotate_left; (· go_simp; rfl); (simp only [Act.put, List.setIfInBounds_toArray, List.set_cons_zero, List.set_cons_succ]; refine hK _ _ ?_; clear hK K))
  (refine Abs.step_var (obj := ?_) rfl rfl rfl rfl (fun w0 => ?_) (fun K hK g_hi hv_hi hu_hi => ?_); rotate_left; (· go_simp; rfl); (simp only [Act.put, List.setIfInBounds_toArray, List.set_cons_zero, List.set_cons_succ]; refine hK _ _ ?_; clear hK K))
  repeat (first | (refine Abs.step_pure rfl rfl (fun K hK => ?_); go_simp; (try go_bits); (first | refine hK _ _ ?_ | (simp only [↓IntWalk.iteOmega]; go_simp; (try go_bits); refine hK _ _ ?_)); clear hK K) | (refine Abs.step_load (v := ?_) rfl rfl (by kernel_rfl) rfl (fun w0 hI => ?_) (fun K hK => ?_); rotate_left; (· have z0 := (rcell (kp hI (f_g2))).1; have z1 := (rcell (kp hI (f_b2))).1; go_simp; rfl); (simp only [Act.put, List.setIfInBounds_toArray, List.set_cons_zero, List.set_cons_succ]; refine hK _ _ ?_; clear hK K)) | (refine Abs.step_skip rfl rfl (fun K hK => ?_); (simp only [Act.put, List.setIfInBounds_toArray, List.set_cons_zero, List.set_cons_succ]; refine hK _ _ ?_; clear hK K)))
  (refine Abs.step_store (T := ?_) rfl rfl rfl (fun w0 hI hF hU => ?_) (fun _ _ _ _ => trivial) (fun K hK => ?_); rotate_left; (· have hR := (hF 10).1.2 rfl; have hg0 := (rcell hR).1; have hg1 := (rcell hR).2.1; simp only [Abs.T_setF, Abs.T_addA, Abs.T_push, Abs.T_start]; go_simp; exact row2 hR _ _); (simp only [Act.put, List.setIfInBounds_toArray, List.set_cons_zero, List.set_cons_succ]; refine hK _ _ ?_; clear hK K))
  (refine Abs.step_store (T := ?_) rfl rfl rfl (fun w0 hI hF hU => ?_) (fun _ _ _ _ => trivial) (fun K hK => ?_); rotate_left; (· have hR := fun cs => (setRow_other (w := w0) (g := g_lo) cs (fun e => hu_hi (Or.inl e))).trans ((hF 11).2 rfl); have hg0 := fun cs => (rcell (hR cs)).1; have hg1 := fun cs => (rcell (hR cs)).2.1; simp only [Abs.T_setF, Abs.T_addA, Abs.T_push, Abs.T_start]; go_simp; exact row2 (hR _) _ _); (simp only [Act.put, List.setIfInBounds_toArray, List.set_cons_zero, List.set_cons_succ]; refine hK _ _ ?_; clear hK K))
  have hs_lo := leB hv_lo
  try simp only [World.size_alloc] at hs_lo
  have hs_hi := leB hv_hi
  try simp only [World.size_alloc] at hs_hi
  have hn : g_hi ≠ g_lo := fun e => hu_hi (Or.inl e)
  intro w0 hI hF hx1 hx2
  clear hx1 hx2
  have q1 := (hF 10).1.2 rfl
  have q2 := (hF 11).2 rfl
  clear hF
  simp only [Abs.T_push]
  generalize hTa : setRow w0 _ _ = wa
  have ea := (fin_x (b0 _) q1 hTa).1
  obtain ⟨ba, fa⟩ := fin1 hI hv_lo q1 hTa
  have q3 : wa.heap[g_hi]? = w0.heap[g_hi]? := by rw [← hTa]; exact setRow_other _ hn
  replace q2 := q3.trans q2
  clear q3
  generalize hTb : setRow wa _ _ = w3
  have eb := (fin_x (b0 _) q2 hTb).1
  obtain ⟨hb3, f_hi3⟩ := fin1 ba hv_hi q2 hTb
  have q4 : w3.heap[g_lo]? = wa.heap[g_lo]? := by rw [← hTb]; exact setRow_other _ hn.symm
  have f_lo3 := q4.trans fa
  clear q4
  clear hTa hTb ea eb q1 q2 fa ba hI w0
  have f_g3 := kp hb3 (f_g2)
  have f_b3 := kp hb3 (f_b2)
  have hB3 := xB hB2 hb3
  obtain ⟨zg_a, zg_b, lg3⟩ := rcell f_g3
  obtain ⟨zb_a, zb_b, lb3⟩ := rcell f_b3
  obtain ⟨zlo_a, zlo_b, llo3⟩ := rcell f_lo3
  obtain ⟨zhi_a, zhi_b, lhi3⟩ := rcell f_hi3
  go_wp2_with fail
  refine Abs.wp_region_abs (Abs.cls0 _) [0, 1, 2, 3, 4, 5, 6, 7, 8, 9, 10, 11] (by kernel_rfl) (by kernel_rfl) (Below.refl _ _).drew ?_
  repeat (first | (refine Abs.step_pure rfl rfl (fun K hK => ?_); go_simp; (try go_bits); (first | refine hK _ _ ?_ | (simp only [↓IntWalk.iteOmega]; go_simp; (try go_bits); refine hK _ _ ?_)); clear hK K) | (refine Abs.step_load (v := ?_) rfl rfl (by kernel_rfl) rfl (fun w0 hI => ?_) (fun K hK => ?_); rotate_left; (· have z0 := (rcell (kp hI (f_g3))).1; have z1 := (rcell (kp hI (f_lo3))).1; have z2 := (rcell (kp hI (f_hi3))).1; go_simp; rfl); (simp only [Act.put, List.setIfInBounds_toArray, List.set_cons_zero, List.set_cons_succ]; refine hK _ _ ?_; clear hK K)) | (refine Abs.step_skip rfl rfl (fun K hK => ?_); (simp only [Act.put, List.setIfInBounds_toArray, List.set_cons_zero, List.set_cons_succ]; refine hK _ _ ?_; clear hK K)))
  (refine Abs.step_call_val (f := ?_) (args := ?_) (v := ?_) rfl rfl rfl rfl (fun w0 => ?_) (fun w0 hI => ?_) (fun K hK => ?_); rotate_left 3; (· go_simp; (constructor <;> rfl)); (· exact cc1 _); (simp only [Act.put, List.setIfInBounds_toArray, List.set_cons_zero, List.set_cons_succ]; refine hK _ _ ?_; clear hK K))
  repeat (first | (refine Abs.step_pure rfl rfl (fun K hK => ?_); go_simp; (try go_bits); (first | refine hK _ _ ?_ | (simp only [↓IntWalk.iteOmega]; go_simp; (try go_bits); refine hK _ _ ?_)); clear hK K) | (refine Abs.step_load (v := ?_) rfl rfl (by kernel_rfl) rfl (fun w0 hI => ?_) (fun K hK => ?_); rotate_left; (· have z0 := (rcell (kp hI (f_g3))).1; have z1 := (rcell (kp hI (f_lo3))).1; have z2 := (rcell (kp hI (f_hi3))).1; go_simp; rfl); (simp only [Act.put, List.setIfInBounds_toArray, List.set_cons_zero, List.set_cons_succ]; refine hK _ _ ?_; clear hK K)) | (refine Abs.step_skip rfl rfl (fun K hK => ?_); (simp only [Act.put, List.setIfInBounds_toArray, List.set_cons_zero, List.set_cons_succ]; refine hK _ _ ?_; clear hK K)))
  intro w5 hb5 hx0 hx1 hx2
  clear hx0 hx1 hx2
  simp only [Abs.T_setF, Abs.T_addA, Abs.T_push, Abs.T_start]
  have f_g5 := kp hb5 (f_g3)
  have f_b5 := kp hb5 (f_b3)
  have f_lo5 := kp hb5 (f_lo3)
  have f_hi5 := kp hb5 (f_hi3)
  have hB5 := xB hB3 hb5
  clear zb_a zb_b zg_a zg_b zhi_a zhi_b zlo_a zlo_b
  obtain ⟨zg_a, zg_b, lg5⟩ := rcell f_g5
  obtain ⟨zb_a, zb_b, lb5⟩ := rcell f_b5
  obtain ⟨zlo_a, zlo_b, llo5⟩ := rcell f_lo5
  obtain ⟨zhi_a, zhi_b, lhi5⟩ := rcell f_hi5
  go_wp2_with fail
  refine Abs.wp_region_abs (Abs.cls0 _) [0, 1, 2, 3, 4, 5] (by kernel_rfl) (by kernel_rfl) (Below.refl _ _).drew ?_
  repeat (first | (refine Abs.step_pure rfl rfl (fun K hK => ?_); go_simp; (try go_bits); (first | refine hK _ _ ?_ | (simp only [↓IntWalk.iteOmega]; go_simp; (try go_bits); refine hK _ _ ?_)); clear hK K) | (refine Abs.step_load (v := ?_) rfl rfl (by kernel_rfl) rfl (fun w0 hI => ?_) (fun K hK => ?_); rotate_left; (· have z0 := (rcell (kp hI (f_g5))).1; have z1 := (rcell (kp hI (f_lo5))).1; have z2 := (rcell (kp hI (f_hi5))).1; go_simp; rfl); (simp only [Act.put, List.setIfInBounds_toArray, List.set_cons_zero, List.set_cons_succ]; refine hK _ _ ?_; clear hK K)) | (refine Abs.step_skip rfl rfl (fun K hK => ?_); (simp only [Act.put, List.setIfInBounds_toArray, List.set_cons_zero, List.set_cons_succ]; refine hK _ _ ?_; clear hK K)))
  (refine Abs.step_store (T := ?_) rfl rfl rfl (fun w0 hI hF hU => ?_) (fun w0 hI hU hJ => ?_) (fun K hK => ?_); rotate_left; (· have hR := kp hI (f_g5); have hg0 := (rcell hR).1; have hg1 := (rcell hR).2.1; simp only [Abs.T_setF, Abs.T_addA, Abs.T_push, Abs.T_start]; go_simp; exact r7a2 hR _ _); (· first | exact trivial | exact js hJ rfl _ | exact js hJ (Or.inl rfl) _ | exact js hJ (Or.inr rfl) _); (simp only [Act.put, List.setIfInBounds_toArray, List.set_cons_zero, List.set_cons_succ]; refine hK _ _ ?_; clear hK K))
  intro w0 hI hF hx1 hx2
  clear hx1 hx2 hF
  simp only [Abs.T_push]
  generalize hT7 : setRow w0 _ _ = w7
  obtain ⟨hx7, f_g7⟩ := fin_x hI (f_g5) hT7
  clear hT7 hI w0
  have f_b7 := kx hx7 (f_b5) (by omega)
  have f_lo7 := kx hx7 (f_lo5) (by omega)
  have f_hi7 := kx hx7 (f_hi5) (by omega)
  have hB7 := xX hB5 hx7 (by omega)
  clear zb_a zb_b zg_a zg_b zhi_a zhi_b zlo_a zlo_b
  obtain ⟨zb_a, zb_b, lb7⟩ := rcell f_b7
  obtain ⟨zlo_a, zlo_b, llo7⟩ := rcell f_lo7
  obtain ⟨zhi_a, zhi_b, lhi7⟩ := rcell f_hi7
  obtain ⟨zg_a, zg_b, lg7⟩ := rcell f_g7
  go_wp2_with fail
  refine Abs.wp_region_abs (Abs.cls0 _) [0, 1, 2, 3, 4, 5, 6, 7, 8, 9, 10, 11] (by kernel_rfl) (by kernel_rfl) (Below.refl _ _).drew ?_
  repeat (first | (refine Abs.step_pure rfl rfl (fun K hK => ?_); go_simp; (try go_bits); (first | refine hK _ _ ?_ | (simp only [↓IntWalk.iteOmega]; go_simp; (try go_bits); refine hK _ _ ?_)); clear hK K) | (refine Abs.step_load (v := ?_) rfl rfl (by kernel_rfl) rfl (fun w0 hI => ?_) (fun K hK => ?_); rotate_left; (· have z0 := (rcell (kp hI (f_g7))).1; have z1 := (rcell (kp hI (f_lo7))).1; have z2 := (rcell (kp hI (f_hi7))).1; go_simp; rfl); (simp only [Act.put, List.setIfInBounds_toArray, List.set_cons_zero, List.set_cons_succ]; refine hK _ _ ?_; clear hK K)) | (refine Abs.step_skip rfl rfl (fun K hK => ?_); (simp only [Act.put, List.setIfInBounds_toArray, List.set_cons_zero, List.set_cons_succ]; refine hK _ _ ?_; clear hK K)))
  (refine Abs.step_call_val (f := ?_) (args := ?_) (v := ?_) rfl rfl rfl rfl (fun w0 => ?_) (fun w0 hI => ?_) (fun K hK => ?_); rotate_left 3; (· go_simp; (constructor <;> rfl)); (· exact cc2 _); (simp only [Act.put, List.setIfInBounds_toArray, List.set_cons_zero, List.set_cons_succ]; refine hK _ _ ?_; clear hK K))
  repeat (first | (refine Abs.step_pure rfl rfl (fun K hK => ?_); go_simp; (try go_bits); (first | refine hK _ _ ?_ | (simp only [↓IntWalk.iteOmega]; go_simp; (try go_bits); refine hK _ _ ?_)); clear hK K) | (refine Abs.step_load (v := ?_) rfl rfl (by kernel_rfl) rfl (fun w0 hI => ?_) (fun K hK => ?_); rotate_left; (· have z0 := (rcell (kp hI (f_g7))).1; have z1 := (rcell (kp hI (f_lo7))).1; have z2 := (rcell (kp hI (f_hi7))).1; go_simp; rfl); (simp only [Act.put, List.setIfInBounds_toArray, List.set_cons_zero, List.set_cons_succ]; refine hK _ _ ?_; clear hK K)) | (refine Abs.step_skip rfl rfl (fun K hK => ?_); (simp only [Act.put, List.setIfInBounds_toArray, List.set_cons_zero, List.set_cons_succ]; refine hK _ _ ?_; clear hK K)))
  intro w9 hb9 hx0 hx1 hx2
  clear hx0 hx1 hx2
  simp only [Abs.T_setF, Abs.T_addA, Abs.T_push, Abs.T_start]
  have f_b9 := kp hb9 (f_b7)
  have f_lo9 := kp hb9 (f_lo7)
  have f_hi9 := kp hb9 (f_hi7)
  have f_g9 := kp hb9 (f_g7)
  have hB9 := xB hB7 hb9
  clear zb_a zb_b zg_a zg_b zhi_a zhi_b zlo_a zlo_b
  obtain ⟨zb_a, zb_b, lb9⟩ := rcell f_b9
  obtain ⟨zlo_a, zlo_b, llo9⟩ := rcell f_lo9
  obtain ⟨zhi_a, zhi_b, lhi9⟩ := rcell f_hi9
  obtain ⟨zg_a, zg_b, lg9⟩ := rcell f_g9
  go_wp2_with fail
  refine Abs.wp_region_abs (Abs.cls0 _) [0, 1, 2, 3, 4, 5, 6, 7, 8, 9, 10, 11, 12, 13, 14, 15] (by kernel_rfl) (by kernel_rfl) (Below.refl _ _).drew ?_
  repeat (first | (refine Abs.step_pure rfl rfl (fun K hK => ?_); go_simp; (try go_bits); (first | refine hK _ _ ?_ | (simp only [↓IntWalk.iteOmega]; go_simp; (try go_bits); refine hK _ _ ?_)); clear hK K) | (refine Abs.step_load (v := ?_) rfl rfl (by kernel_rfl) rfl (fun w0 hI => ?_) (fun K hK => ?_); rotate_left; (· have z0 := (rcell (kp hI (f_g9))).1; have z1 := (rcell (kp hI (f_lo9))).1; have z2 := (rcell (kp hI (f_hi9))).1; go_simp; rfl); (simp only [Act.put, List.setIfInBounds_toArray, List.set_cons_zero, List.set_cons_succ]; refine hK _ _ ?_; clear hK K)) | (refine Abs.step_skip rfl rfl (fun K hK => ?_); (simp only [Act.put, List.setIfInBounds_toArray, List.set_cons_zero, List.set_cons_succ]; refine hK _ _ ?_; clear hK K)))
  (refine Abs.step_call_val (f := ?_) (args := ?_) (v := ?_) rfl rfl rfl rfl (fun w0 => ?_) (fun w0 hI => ?_) (fun K hK => ?_); rotate_left 3; (· go_simp; (constructor <;> rfl)); (· exact cc3 _); (simp only [Act.put, List.setIfInBounds_toArray, List.set_cons_zero, List.set_cons_succ]; refine hK _ _ ?_; clear hK K))
  repeat (first | (refine Abs.step_pure rfl rfl (fun K hK => ?_); go_simp; (try go_bits); (first | refine hK _ _ ?_ | (simp only [↓IntWalk.iteOmega]; go_simp; (try go_bits); refine hK _ _ ?_)); clear hK K) | (refine Abs.step_load (v := ?_) rfl rfl (by kernel_rfl) rfl (fun w0 hI => ?_) (fun K hK => ?_); rotate_left; (· have z0 := (rcell (kp hI (f_g9))).1; have z1 := (rcell (kp hI (f_lo9))).1; have z2 := (rcell (kp hI (f_hi9))).1; go_simp; rfl); (simp only [Act.put, List.setIfInBounds_toArray, List.set_cons_zero, List.set_cons_succ]; refine hK _ _ ?_; clear hK K)) | (refine Abs.step_skip rfl rfl (fun K hK => ?_); (simp only [Act.put, List.setIfInBounds_toArray, List.set_cons_zero, List.set_cons_succ]; refine hK _ _ ?_; clear hK K)))
  intro w11 hb11 hx0 hx1 hx2
  clear hx0 hx1 hx2
  simp only [Abs.T_setF, Abs.T_addA, Abs.T_push, Abs.T_start]
  have f_b11 := kp hb11 (f_b9)
  have f_lo11 := kp hb11 (f_lo9)
  have f_hi11 := kp hb11 (f_hi9)
  have f_g11 := kp hb11 (f_g9)
  have hB11 := xB hB9 hb11
  clear zb_a zb_b zg_a zg_b zhi_a zhi_b zlo_a zlo_b
  obtain ⟨zb_a, zb_b, lb11⟩ := rcell f_b11
  obtain ⟨zlo_a, zlo_b, llo11⟩ := rcell f_lo11
  obtain ⟨zhi_a, zhi_b, lhi11⟩ := rcell f_hi11
  obtain ⟨zg_a, zg_b, lg11⟩ := rcell f_g11
  go_wp2_with fail
  cases q1 : eqP N0 D0 n1 d1
  · refine Abs.wp_region_abs (Abs.cls0 _) [0, 1, 2, 3, 4, 5, 6, 7, 8, 9, 10, 11, 12, 13, 14, 15] (by kernel_rfl) (by kernel_rfl) (Below.refl _ _).drew ?_
    repeat (first | (refine Abs.step_pure rfl rfl (fun K hK => ?_); go_simp; (try go_bits); (first | refine hK _ _ ?_ | (simp only [↓IntWalk.iteOmega]; go_simp; (try go_bits); refine hK _ _ ?_)); clear hK K) | (refine Abs.step_load (v := ?_) rfl rfl (by kernel_rfl) rfl (fun w0 hI => ?_) (fun K hK => ?_); rotate_left; (· have z0 := (rcell (kp hI (f_g11))).1; have z1 := (rcell (kp hI (f_lo11))).1; have z2 := (rcell (kp hI (f_hi11))).1; go_simp; rfl); (simp only [Act.put, List.setIfInBounds_toArray, List.set_cons_zero, List.set_cons_succ]; refine hK _ _ ?_; clear hK K)) | (refine Abs.step_skip rfl rfl (fun K hK => ?_); (simp only [Act.put, List.setIfInBounds_toArray, List.set_cons_zero, List.set_cons_succ]; refine hK _ _ ?_; clear hK K)))
    (refine Abs.step_pure rfl rfl (fun K hK => ?_); go_simp; refine ⟨.bool (eqP N0 D0 n1 d1), fun w => eqP_ite _ _ _ _ (fun b => Result.ok (Next.value (Value.bool b)) w), ?_⟩; simp only [q1]; refine hK _ _ ?_; clear hK K)
    repeat (first | (refine Abs.step_pure rfl rfl (fun K hK => ?_); go_simp; (try go_bits); (first | refine hK _ _ ?_ | (simp only [↓IntWalk.iteOmega]; go_simp; (try go_bits); refine hK _ _ ?_)); clear hK K) | (refine Abs.step_load (v := ?_) rfl rfl (by kernel_rfl) rfl (fun w0 hI => ?_) (fun K hK => ?_); rotate_left; (· have z0 := (rcell (kp hI (f_g11))).1; have z1 := (rcell (kp hI (f_lo11))).1; have z2 := (rcell (kp hI (f_hi11))).1; go_simp; rfl); (simp only [Act.put, List.setIfInBounds_toArray, List.set_cons_zero, List.set_cons_succ]; refine hK _ _ ?_; clear hK K)) | (refine Abs.step_skip rfl rfl (fun K hK => ?_); (simp only [Act.put, List.setIfInBounds_toArray, List.set_cons_zero, List.set_cons_succ]; refine hK _ _ ?_; clear hK K)))
    intro w13 hb13 hx0 hx1 hx2
    clear hx0 hx1 hx2
    simp only [Abs.T_setF, Abs.T_addA, Abs.T_push, Abs.T_start]
    have f_b13 := kp hb13 (f_b11)
    have f_lo13 := kp hb13 (f_lo11)
    have f_hi13 := kp hb13 (f_hi11)
    have f_g13 := kp hb13 (f_g11)
    have hB13 := xB hB11 hb13
    clear zb_a zb_b zg_a zg_b zhi_a zhi_b zlo_a zlo_b
    obtain ⟨zb_a, zb_b, lb13⟩ := rcell f_b13
    obtain ⟨zlo_a, zlo_b, llo13⟩ := rcell f_lo13
    obtain ⟨zhi_a, zhi_b, lhi13⟩ := rcell f_hi13
    obtain ⟨zg_a, zg_b, lg13⟩ := rcell f_g13
    go_wp2
    go_ret
    exact ⟨by rw [← HE.out, q1]; simp, hB13, (f_g13)⟩
  · refine Abs.wp_region_abs (Abs.cls0 _) [0, 1, 2, 3, 4, 5, 6, 7, 8, 9, 10, 11, 12, 13, 14, 15] (by kernel_rfl) (by kernel_rfl) (Below.refl _ _).drew ?_
    repeat (first | (refine Abs.step_pure rfl rfl (fun K hK => ?_); go_simp; (try go_bits); (first | refine hK _ _ ?_ | (simp only [↓IntWalk.iteOmega]; go_simp; (try go_bits); refine hK _ _ ?_)); clear hK K) | (refine Abs.step_load (v := ?_) rfl rfl (by kernel_rfl) rfl (fun w0 hI => ?_) (fun K hK => ?_); rotate_left; (· have z0 := (rcell (kp hI (f_g11))).1; have z1 := (rcell (kp hI (f_lo11))).1; have z2 := (rcell (kp hI (f_hi11))).1; go_simp; rfl); (simp only [Act.put, List.setIfInBounds_toArray, List.set_cons_zero, List.set_cons_succ]; refine hK _ _ ?_; clear hK K)) | (refine Abs.step_skip rfl rfl (fun K hK => ?_); (simp only [Act.put, List.setIfInBounds_toArray, List.set_cons_zero, List.set_cons_succ]; refine hK _ _ ?_; clear hK K)))
    (refine Abs.step_pure rfl rfl (fun K hK => ?_); go_simp; refine ⟨.bool (eqP N0 D0 n1 d1), fun w => eqP_ite _ _ _ _ (fun b => Result.ok (Next.value (Value.bool b)) w), ?_⟩; simp only [q1]; refine hK _ _ ?_; clear hK K)
    repeat (first | (refine Abs.step_pure rfl rfl (fun K hK => ?_); go_simp; (try go_bits); (first | refine hK _ _ ?_ | (simp only [↓IntWalk.iteOmega]; go_simp; (try go_bits); refine hK _ _ ?_)); clear hK K) | (refine Abs.step_load (v := ?_) rfl rfl (by kernel_rfl) rfl (fun w0 hI => ?_) (fun K hK => ?_); rotate_left; (· have z0 := (rcell (kp hI (f_g11))).1; have z1 := (rcell (kp hI (f_lo11))).1; have z2 := (rcell (kp hI (f_hi11))).1; go_simp; rfl); (simp only [Act.put, List.setIfInBounds_toArray, List.set_cons_zero, List.set_cons_succ]; refine hK _ _ ?_; clear hK K)) | (refine Abs.step_skip rfl rfl (fun K hK => ?_); (simp only [Act.put, List.setIfInBounds_toArray, List.set_cons_zero, List.set_cons_succ]; refine hK _ _ ?_; clear hK K)))
    intro w13 hb13 hx0 hx1 hx2
    clear hx0 hx1 hx2
    simp only [Abs.T_setF, Abs.T_addA, Abs.T_push, Abs.T_start]
    have f_b13 := kp hb13 (f_b11)
    have f_lo13 := kp hb13 (f_lo11)
    have f_hi13 := kp hb13 (f_hi11)
    have f_g13 := kp hb13 (f_g11)
    have hB13 := xB hB11 hb13
    clear zb_a zb_b zg_a zg_b zhi_a zhi_b zlo_a zlo_b
    obtain ⟨zb_a, zb_b, lb13⟩ := rcell f_b13
    obtain ⟨zlo_a, zlo_b, llo13⟩ := rcell f_lo13
    obtain ⟨zhi_a, zhi_b, lhi13⟩ := rcell f_hi13
    obtain ⟨zg_a, zg_b, lg13⟩ := rcell f_g13
    go_wp2
    go_ret
    exact ⟨by rw [← HE.out, q1]; simp, hB13, (f_g13)⟩


set_option maxRecDepth 100000 in
set_option maxHeartbeats 2000000 in
theorem take_ft (g : Nat) (dt dv n0 d0 n1 d1 m bt bl bh N0 D0 N1 D1 k1 k2 k3 : Int) (o1 o2 o3 e : Bool) (hm : 2 ≤ m) (hp : decide (0 < k1) = false) (hq : decide (k2 < 0) = true) (hm2 : m < 1000000) (he : (eqP n0 d0 N1 D1 || decide (k3 < 0)) = e)
    (cs0 : ∀ w, w.heap[g]? = some (.cells #[.int .i64 dt, .int .i64 dv, .int .i64 n0, .int .i64 d0, .int .i64 n1, .int .i64 d1, .int .i64 (m + 1)] 120 (0, 0)) → Calls Tryd.prog 136 #[.pointer (some ⟨g, 0, none⟩), .agg #[.int .i64 bt, .int .i64 bl, .int .i64 bh], .int .i64 bl] w fun e w' => e = .returned (.agg #[.int .i64 N0, .int .i64 D0]) ∧ Below w.heap.size w w')
    (cs1 : ∀ w, w.heap[g]? = some (.cells #[.int .i64 dt, .int .i64 dv, .int .i64 n0, .int .i64 d0, .int .i64 n1, .int .i64 d1, .int .i64 (m + 1)] 120 (0, 0)) → Calls Tryd.prog 136 #[.pointer (some ⟨g, 0, none⟩), .agg #[.int .i64 bt, .int .i64 bl, .int .i64 bh], .int .i64 bh] w fun e w' => e = .returned (.agg #[.int .i64 N1, .int .i64 D1]) ∧ Below w.heap.size w w')
    (cc1 : ∀ w, Calls Tryd.prog 80 #[.agg #[.int .i64 N0, .int .i64 D0], .agg #[.int .i64 n0, .int .i64 d0]] w fun e w' => e = .returned (.tuple #[.int .i64 k1, .bool o1]) ∧ Below w.heap.size w w')
    (cc2 : ∀ w, Calls Tryd.prog 80 #[.agg #[.int .i64 N1, .int .i64 D1], .agg #[.int .i64 n1, .int .i64 d1]] w fun e w' => e = .returned (.tuple #[.int .i64 k2, .bool o2]) ∧ Below w.heap.size w w')
    (cc3 : ∀ w, Calls Tryd.prog 80 #[.agg #[.int .i64 n0, .int .i64 d0], .agg #[.int .i64 N1, .int .i64 D1]] w fun e w' => e = .returned (.tuple #[.int .i64 k3, .bool o3]) ∧ Below w.heap.size w w')
    (w : World) (hg : w.heap[g]? = some (.cells #[.int .i64 dt, .int .i64 dv, .int .i64 n0, .int .i64 d0, .int .i64 n1, .int .i64 d1, .int .i64 (m)] 120 (0, 0))) :
    Calls Tryd.prog 131 #[.pointer (some ⟨g, 0, none⟩), .agg #[.int .i64 bt, .int .i64 bl, .int .i64 bh]] w fun x w' => x = .returned (.bool e) ∧ Exc g w w' ∧
      w'.heap[g]? = some (.cells #[.int .i64 dt, .int .i64 dv, .int .i64 n0, .int .i64 d0, .int .i64 N1, .int .i64 D1, .int .i64 (m + 1)] 120 (0, 0)) := by
  have i0 := ends_at0
  have i1 := ends_at1
  have e1 : (m + 1 == 1) = false := by rw [beq_eq_false_iff_ne]; omega
  have e2 : (m + 1 == 2) = false := by rw [beq_eq_false_iff_ne]; omega
  have HE := hide he
  clear he
  have l_g := (rcell hg).2.2
  obtain ⟨zg_a, zg_b, -⟩ := rcell hg
  go_enter Tryd.func131, Tryd.ntmps131
  go_wp2_with fail
  rw [r7m1 hg]
  generalize hT1 : setRow _ _ _ = w1
  have hz1 : w1.heap.size = w.heap.size := by rw [← hT1]; exact setRow_size _ _ _
  obtain ⟨hx1, f_g1⟩ := fin_x (b0 _) hg hT1
  clear hT1
  have hB1 := xX (x0 g w (Nat.le_of_lt (rcell hg).2.2)) hx1 (by omega)
  clear zg_a zg_b
  obtain ⟨zg_a, zg_b, lg1⟩ := rcell f_g1
  have f_g2 := (ka (f_g1) (.cells #[.int .i64 bt, .int .i64 bl, .int .i64 bh] 37))
  have f_b2 := ((hz1 ▸ na w1 #[.int .i64 bt, .int .i64 bl, .int .i64 bh] 37))
  have hB2 := (xA hB1 (.cells #[.int .i64 bt, .int .i64 bl, .int .i64 bh] 37))
  clear zg_a zg_b
  have lg2 := (rcell f_g2).2.2
  have lb2 := (rcell f_b2).2.2
  refine Abs.wp_region_abs (Abs.cls0 _) [0, 1, 2, 3, 4, 5, 6, 7, 8, 9, 10, 11, 12, 13] (by kernel_rfl) (by kernel_rfl) (Below.refl _ _).drew ?_
  repeat (first | (refine Abs.step_pure rfl rfl (fun K hK => ?_); go_simp; (try go_bits); (first | refine hK _ _ ?_ | (simp only [↓IntWalk.iteOmega]; go_simp; (try go_bits); refine hK _ _ ?_)); clear hK K) | (refine Abs.step_load (v := ?_) rfl rfl (by kernel_rfl) rfl (fun w0 hI => ?_) (fun K hK => ?_); rotate_left; (· have z0 := (rcell (kp hI (f_g2))).1; have z1 := (rcell (kp hI (f_b2))).1; go_simp; rfl); (simp only [Act.put, List.setIfInBounds_toArray, List.set_cons_zero, List.set_cons_succ]; refine hK _ _ ?_; clear hK K)) | (refine Abs.step_skip rfl rfl (fun K hK => ?_); (simp only [Act.put, List.setIfInBounds_toArray, List.set_cons_zero, List.set_cons_succ]; refine hK _ _ ?_; clear hK K)))
  (refine Abs.step_call_val (f := ?_) (args := ?_) (v := ?_) rfl rfl rfl rfl (fun w0 => ?_) (fun w0 hI => ?_) (fun K hK => ?_); rotate_left 3; (· go_simp; (constructor <;> rfl)); (· exact cs0 _ (kp hI (f_g2))); (simp only [Act.put, List.setIfInBounds_toArray, List.set_cons_zero, List.set_cons_succ]; refine hK _ _ ?_; clear hK K))
  repeat (first | (refine Abs.step_pure rfl rfl (fun K hK => ?_); go_simp; (try go_bits); (first | refine hK _ _ ?_ | (simp only [↓IntWalk.iteOmega]; go_simp; (try go_bits); refine hK _ _ ?_)); clear hK K) | (refine Abs.step_load (v := ?_) rfl rfl (by kernel_rfl) rfl (fun w0 hI => ?_) (fun K hK => ?_); rotate_left; (· have z0 := (rcell (kp hI (f_g2))).1; have z1 := (rcell (kp hI (f_b2))).1; go_simp; rfl); (simp only [Act.put, List.setIfInBounds_toArray, List.set_cons_zero, List.set_cons_succ]; refine hK _ _ ?_; clear hK K)) | (refine Abs.step_skip rfl rfl (fun K hK => ?_); (simp only [Act.put, List.setIfInBounds_toArray, List.set_cons_zero, List.set_cons_succ]; refine hK _ _ ?_; clear hK K)))
  (refine Abs.step_call_val (f := ?_) (args := ?_) (v := ?_) rfl rfl rfl rfl (fun w0 => ?_) (fun w0 hI => ?_) (fun K hK => ?_); rotate_left 3; (· go_simp; (constructor <;> rfl)); (· exact cs1 _ (kp hI (f_g2))); (simp only [Act.put, List.setIfInBounds_toArray, List.set_cons_zero, List.set_cons_succ]; refine hK _ _ ?_; clear hK K))
  repeat (first | (refine Abs.step_pure rfl rfl (fun K hK => ?_); go_simp; (try go_bits); (first | refine hK _ _ ?_ | (simp only [↓IntWalk.iteOmega]; go_simp; (try go_bits); refine hK _ _ ?_)); clear hK K) | (refine Abs.step_load (v := ?_) rfl rfl (by kernel_rfl) rfl (fun w0 hI => ?_) (fun K hK => ?_); rotate_left; (· have z0 := (rcell (kp hI (f_g2))).1; have z1 := (rcell (kp hI (f_b2))).1; go_simp; rfl); (simp only [Act.put, List.setIfInBounds_toArray, List.set_cons_zero, List.set_cons_succ]; refine hK _ _ ?_; clear hK K)) | (refine Abs.step_skip rfl rfl (fun K hK => ?_); (simp only [Act.put, List.setIfInBounds_toArray, List.set_cons_zero, List.set_cons_succ]; refine hK _ _ ?_; clear hK K)))
  (refine Abs.step_var (obj := ?_) rfl rfl rfl rfl (fun w0 => ?_) (fun K hK g_lo hv_lo hu_lo => ?_); rotate_left; (· go_simp; rfl); (simp only [Act.put, List.setIfInBounds_toArray, List.set_cons_zero, List.set_cons_succ]; refine hK _ _ ?_; clear hK K))
  (refine Abs.step_var (obj := ?_) rfl rfl rfl rfl (fun w0 => ?_) (fun K hK g_hi hv_hi hu_hi => ?_); rotate_left; (· go_simp; rfl); (simp only [Act.put, List.setIfInBounds_toArray, List.set_cons_zero, List.set_cons_succ]; refine hK _ _ ?_; clear hK K))
  repeat (first | (refine Abs.step_pure rfl rfl (fun K hK => ?_); go_simp; (try go_bits); (first | refine hK _ _ ?_ | (simp only [↓IntWalk.iteOmega]; go_simp; (try go_bits); refine hK _ _ ?_)); clear hK K) | (refine Abs.step_load (v := ?_) rfl rfl (by kernel_rfl) rfl (fun w0 hI => ?_) (fun K hK => ?_); rotate_left; (· have z0 := (rcell (kp hI (f_g2))).1; have z1 := (rcell (kp hI (f_b2))).1; go_simp; rfl); (simp only [Act.put, List.setIfInBounds_toArray, List.set_cons_zero, List.set_cons_succ]; refine hK _ _ ?_; clear hK K)) | (refine Abs.step_skip rfl rfl (fun K hK => ?_); (simp only [Act.put, List.setIfInBounds_toArray, List.set_cons_zero, List.set_cons_succ]; refine hK _ _ ?_; clear hK K)))
  (refine Abs.step_store (T := ?_) rfl rfl rfl (fun w0 hI hF hU => ?_) (fun _ _ _ _ => trivial) (fun K hK => ?_); rotate_left; (· have hR := (hF 10).1.2 rfl; have hg0 := (rcell hR).1; have hg1 := (rcell hR).2.1; simp only [Abs.T_setF, Abs.T_addA, Abs.T_push, Abs.T_start]; go_simp; exact row2 hR _ _); (simp only [Act.put, List.setIfInBounds_toArray, List.set_cons_zero, List.set_cons_succ]; refine hK _ _ ?_; clear hK K))
  (refine Abs.step_store (T := ?_) rfl rfl rfl (fun w0 hI hF hU => ?_) (fun _ _ _ _ => trivial) (fun K hK => ?_); rotate_left; (· have hR := fun cs => (setRow_other (w := w0) (g := g_lo) cs (fun e => hu_hi (Or.inl e))).trans ((hF 11).2 rfl); have hg0 := fun cs => (rcell (hR cs)).1; have hg1 := fun cs => (rcell (hR cs)).2.1; simp only [Abs.T_setF, Abs.T_addA, Abs.T_push, Abs.T_start]; go_simp; exact row2 (hR _) _ _); (simp only [Act.put, List.setIfInBounds_toArray, List.set_cons_zero, List.set_cons_succ]; refine hK _ _ ?_; clear hK K))
  have hs_lo := leB hv_lo
  try simp only [World.size_alloc] at hs_lo
  have hs_hi := leB hv_hi
  try simp only [World.size_alloc] at hs_hi
  have hn : g_hi ≠ g_lo := fun e => hu_hi (Or.inl e)
  intro w0 hI hF hx1 hx2
  clear hx1 hx2
  have q1 := (hF 10).1.2 rfl
  have q2 := (hF 11).2 rfl
  clear hF
  simp only [Abs.T_push]
  generalize hTa : setRow w0 _ _ = wa
  have ea := (fin_x (b0 _) q1 hTa).1
  obtain ⟨ba, fa⟩ := fin1 hI hv_lo q1 hTa
  have q3 : wa.heap[g_hi]? = w0.heap[g_hi]? := by rw [← hTa]; exact setRow_other _ hn
  replace q2 := q3.trans q2
  clear q3
  generalize hTb : setRow wa _ _ = w3
  have eb := (fin_x (b0 _) q2 hTb).1
  obtain ⟨hb3, f_hi3⟩ := fin1 ba hv_hi q2 hTb
  have q4 : w3.heap[g_lo]? = wa.heap[g_lo]? := by rw [← hTb]; exact setRow_other _ hn.symm
  have f_lo3 := q4.trans fa
  clear q4
  clear hTa hTb ea eb q1 q2 fa ba hI w0
  have f_g3 := kp hb3 (f_g2)
  have f_b3 := kp hb3 (f_b2)
  have hB3 := xB hB2 hb3
  obtain ⟨zg_a, zg_b, lg3⟩ := rcell f_g3
  obtain ⟨zb_a, zb_b, lb3⟩ := rcell f_b3
  obtain ⟨zlo_a, zlo_b, llo3⟩ := rcell f_lo3
  obtain ⟨zhi_a, zhi_b, lhi3⟩ := rcell f_hi3
  go_wp2_with fail
  refine Abs.wp_region_abs (Abs.cls0 _) [0, 1, 2, 3, 4, 5, 6, 7, 8, 9, 10, 11] (by kernel_rfl) (by kernel_rfl) (Below.refl _ _).drew ?_
  repeat (first | (refine Abs.step_pure rfl rfl (fun K hK => ?_); go_simp; (try go_bits); (first | refine hK _ _ ?_ | (simp only [↓IntWalk.iteOmega]; go_simp; (try go_bits); refine hK _ _ ?_)); clear hK K) | (refine Abs.step_load (v := ?_) rfl rfl (by kernel_rfl) rfl (fun w0 hI => ?_) (fun K hK => ?_); rotate_left; (· have z0 := (rcell (kp hI (f_g3))).1; have z1 := (rcell (kp hI (f_lo3))).1; have z2 := (rcell (kp hI (f_hi3))).1; go_simp; rfl); (simp only [Act.put, List.setIfInBounds_toArray, List.set_cons_zero, List.set_cons_succ]; refine hK _ _ ?_; clear hK K)) | (refine Abs.step_skip rfl rfl (fun K hK => ?_); (simp only [Act.put, List.setIfInBounds_toArray, List.set_cons_zero, List.set_cons_succ]; refine hK _ _ ?_; clear hK K)))
  (refine Abs.step_call_val (f := ?_) (args := ?_) (v := ?_) rfl rfl rfl rfl (fun w0 => ?_) (fun w0 hI => ?_) (fun K hK => ?_); rotate_left 3; (· go_simp; (constructor <;> rfl)); (· exact cc1 _); (simp only [Act.put, List.setIfInBounds_toArray, List.set_cons_zero, List.set_cons_succ]; refine hK _ _ ?_; clear hK K))
  repeat (first | (refine Abs.step_pure rfl rfl (fun K hK => ?_); go_simp; (try go_bits); (first | refine hK _ _ ?_ | (simp only [↓IntWalk.iteOmega]; go_simp; (try go_bits); refine hK _ _ ?_)); clear hK K) | (refine Abs.step_load (v := ?_) rfl rfl (by kernel_rfl) rfl (fun w0 hI => ?_) (fun K hK => ?_); rotate_left; (· have z0 := (rcell (kp hI (f_g3))).1; have z1 := (rcell (kp hI (f_lo3))).1; have z2 := (rcell (kp hI (f_hi3))).1; go_simp; rfl); (simp only [Act.put, List.setIfInBounds_toArray, List.set_cons_zero, List.set_cons_succ]; refine hK _ _ ?_; clear hK K)) | (refine Abs.step_skip rfl rfl (fun K hK => ?_); (simp only [Act.put, List.setIfInBounds_toArray, List.set_cons_zero, List.set_cons_succ]; refine hK _ _ ?_; clear hK K)))
  intro w5 hb5 hx0 hx1 hx2
  clear hx0 hx1 hx2
  simp only [Abs.T_setF, Abs.T_addA, Abs.T_push, Abs.T_start]
  have f_g5 := kp hb5 (f_g3)
  have f_b5 := kp hb5 (f_b3)
  have f_lo5 := kp hb5 (f_lo3)
  have f_hi5 := kp hb5 (f_hi3)
  have hB5 := xB hB3 hb5
  clear zb_a zb_b zg_a zg_b zhi_a zhi_b zlo_a zlo_b
  obtain ⟨zg_a, zg_b, lg5⟩ := rcell f_g5
  obtain ⟨zb_a, zb_b, lb5⟩ := rcell f_b5
  obtain ⟨zlo_a, zlo_b, llo5⟩ := rcell f_lo5
  obtain ⟨zhi_a, zhi_b, lhi5⟩ := rcell f_hi5
  go_wp2_with fail
  refine Abs.wp_region_abs (Abs.cls0 _) [0, 1, 2, 3, 4, 5, 6, 7, 8, 9, 10, 11] (by kernel_rfl) (by kernel_rfl) (Below.refl _ _).drew ?_
  repeat (first | (refine Abs.step_pure rfl rfl (fun K hK => ?_); go_simp; (try go_bits); (first | refine hK _ _ ?_ | (simp only [↓IntWalk.iteOmega]; go_simp; (try go_bits); refine hK _ _ ?_)); clear hK K) | (refine Abs.step_load (v := ?_) rfl rfl (by kernel_rfl) rfl (fun w0 hI => ?_) (fun K hK => ?_); rotate_left; (· have z0 := (rcell (kp hI (f_g5))).1; have z1 := (rcell (kp hI (f_lo5))).1; have z2 := (rcell (kp hI (f_hi5))).1; go_simp; rfl); (simp only [Act.put, List.setIfInBounds_toArray, List.set_cons_zero, List.set_cons_succ]; refine hK _ _ ?_; clear hK K)) | (refine Abs.step_skip rfl rfl (fun K hK => ?_); (simp only [Act.put, List.setIfInBounds_toArray, List.set_cons_zero, List.set_cons_succ]; refine hK _ _ ?_; clear hK K)))
  (refine Abs.step_call_val (f := ?_) (args := ?_) (v := ?_) rfl rfl rfl rfl (fun w0 => ?_) (fun w0 hI => ?_) (fun K hK => ?_); rotate_left 3; (· go_simp; (constructor <;> rfl)); (· exact cc2 _); (simp only [Act.put, List.setIfInBounds_toArray, List.set_cons_zero, List.set_cons_succ]; refine hK _ _ ?_; clear hK K))
  repeat (first | (refine Abs.step_pure rfl rfl (fun K hK => ?_); go_simp; (try go_bits); (first | refine hK _ _ ?_ | (simp only [↓IntWalk.iteOmega]; go_simp; (try go_bits); refine hK _ _ ?_)); clear hK K) | (refine Abs.step_load (v := ?_) rfl rfl (by kernel_rfl) rfl (fun w0 hI => ?_) (fun K hK => ?_); rotate_left; (· have z0 := (rcell (kp hI (f_g5))).1; have z1 := (rcell (kp hI (f_lo5))).1; have z2 := (rcell (kp hI (f_hi5))).1; go_simp; rfl); (simp only [Act.put, List.setIfInBounds_toArray, List.set_cons_zero, List.set_cons_succ]; refine hK _ _ ?_; clear hK K)) | (refine Abs.step_skip rfl rfl (fun K hK => ?_); (simp only [Act.put, List.setIfInBounds_toArray, List.set_cons_zero, List.set_cons_succ]; refine hK _ _ ?_; clear hK K)))
  intro w7 hb7 hx0 hx1 hx2
  clear hx0 hx1 hx2
  simp only [Abs.T_setF, Abs.T_addA, Abs.T_push, Abs.T_start]
  have f_g7 := kp hb7 (f_g5)
  have f_b7 := kp hb7 (f_b5)
  have f_lo7 := kp hb7 (f_lo5)
  have f_hi7 := kp hb7 (f_hi5)
  have hB7 := xB hB5 hb7
  clear zb_a zb_b zg_a zg_b zhi_a zhi_b zlo_a zlo_b
  obtain ⟨zg_a, zg_b, lg7⟩ := rcell f_g7
  obtain ⟨zb_a, zb_b, lb7⟩ := rcell f_b7
  obtain ⟨zlo_a, zlo_b, llo7⟩ := rcell f_lo7
  obtain ⟨zhi_a, zhi_b, lhi7⟩ := rcell f_hi7
  go_wp2_with fail
  refine Abs.wp_region_abs (Abs.cls0 _) [0, 1, 2, 3, 4, 5] (by kernel_rfl) (by kernel_rfl) (Below.refl _ _).drew ?_
  repeat (first | (refine Abs.step_pure rfl rfl (fun K hK => ?_); go_simp; (try go_bits); (first | refine hK _ _ ?_ | (simp only [↓IntWalk.iteOmega]; go_simp; (try go_bits); refine hK _ _ ?_)); clear hK K) | (refine Abs.step_load (v := ?_) rfl rfl (by kernel_rfl) rfl (fun w0 hI => ?_) (fun K hK => ?_); rotate_left; (· have z0 := (rcell (kp hI (f_g7))).1; have z1 := (rcell (kp hI (f_lo7))).1; have z2 := (rcell (kp hI (f_hi7))).1; go_simp; rfl); (simp only [Act.put, List.setIfInBounds_toArray, List.set_cons_zero, List.set_cons_succ]; refine hK _ _ ?_; clear hK K)) | (refine Abs.step_skip rfl rfl (fun K hK => ?_); (simp only [Act.put, List.setIfInBounds_toArray, List.set_cons_zero, List.set_cons_succ]; refine hK _ _ ?_; clear hK K)))
  (refine Abs.step_store (T := ?_) rfl rfl rfl (fun w0 hI hF hU => ?_) (fun w0 hI hU hJ => ?_) (fun K hK => ?_); rotate_left; (· have hR := kp hI (f_g7); have hg0 := (rcell hR).1; have hg1 := (rcell hR).2.1; simp only [Abs.T_setF, Abs.T_addA, Abs.T_push, Abs.T_start]; go_simp; exact r7b2 hR _ _); (· first | exact trivial | exact js hJ rfl _ | exact js hJ (Or.inl rfl) _ | exact js hJ (Or.inr rfl) _); (simp only [Act.put, List.setIfInBounds_toArray, List.set_cons_zero, List.set_cons_succ]; refine hK _ _ ?_; clear hK K))
  intro w0 hI hF hx1 hx2
  clear hx1 hx2 hF
  simp only [Abs.T_push]
  generalize hT9 : setRow w0 _ _ = w9
  obtain ⟨hx9, f_g9⟩ := fin_x hI (f_g7) hT9
  clear hT9 hI w0
  have f_b9 := kx hx9 (f_b7) (by omega)
  have f_lo9 := kx hx9 (f_lo7) (by omega)
  have f_hi9 := kx hx9 (f_hi7) (by omega)
  have hB9 := xX hB7 hx9 (by omega)
  clear zb_a zb_b zg_a zg_b zhi_a zhi_b zlo_a zlo_b
  obtain ⟨zb_a, zb_b, lb9⟩ := rcell f_b9
  obtain ⟨zlo_a, zlo_b, llo9⟩ := rcell f_lo9
  obtain ⟨zhi_a, zhi_b, lhi9⟩ := rcell f_hi9
  obtain ⟨zg_a, zg_b, lg9⟩ := rcell f_g9
  go_wp2_with fail
  refine Abs.wp_region_abs (Abs.cls0 _) [0, 1, 2, 3, 4, 5, 6, 7, 8, 9, 10, 11, 12, 13, 14, 15] (by kernel_rfl) (by kernel_rfl) (Below.refl _ _).drew ?_
  repeat (first | (refine Abs.step_pure rfl rfl (fun K hK => ?_); go_simp; (try go_bits); (first | refine hK _ _ ?_ | (simp only [↓IntWalk.iteOmega]; go_simp; (try go_bits); refine hK _ _ ?_)); clear hK K) | (refine Abs.step_load (v := ?_) rfl rfl (by kernel_rfl) rfl (fun w0 hI => ?_) (fun K hK => ?_); rotate_left; (· have z0 := (rcell (kp hI (f_g9))).1; have z1 := (rcell (kp hI (f_lo9))).1; have z2 := (rcell (kp hI (f_hi9))).1; go_simp; rfl); (simp only [Act.put, List.setIfInBounds_toArray, List.set_cons_zero, List.set_cons_succ]; refine hK _ _ ?_; clear hK K)) | (refine Abs.step_skip rfl rfl (fun K hK => ?_); (simp only [Act.put, List.setIfInBounds_toArray, List.set_cons_zero, List.set_cons_succ]; refine hK _ _ ?_; clear hK K)))
  (refine Abs.step_call_val (f := ?_) (args := ?_) (v := ?_) rfl rfl rfl rfl (fun w0 => ?_) (fun w0 hI => ?_) (fun K hK => ?_); rotate_left 3; (· go_simp; (constructor <;> rfl)); (· exact cc3 _); (simp only [Act.put, List.setIfInBounds_toArray, List.set_cons_zero, List.set_cons_succ]; refine hK _ _ ?_; clear hK K))
  repeat (first | (refine Abs.step_pure rfl rfl (fun K hK => ?_); go_simp; (try go_bits); (first | refine hK _ _ ?_ | (simp only [↓IntWalk.iteOmega]; go_simp; (try go_bits); refine hK _ _ ?_)); clear hK K) | (refine Abs.step_load (v := ?_) rfl rfl (by kernel_rfl) rfl (fun w0 hI => ?_) (fun K hK => ?_); rotate_left; (· have z0 := (rcell (kp hI (f_g9))).1; have z1 := (rcell (kp hI (f_lo9))).1; have z2 := (rcell (kp hI (f_hi9))).1; go_simp; rfl); (simp only [Act.put, List.setIfInBounds_toArray, List.set_cons_zero, List.set_cons_succ]; refine hK _ _ ?_; clear hK K)) | (refine Abs.step_skip rfl rfl (fun K hK => ?_); (simp only [Act.put, List.setIfInBounds_toArray, List.set_cons_zero, List.set_cons_succ]; refine hK _ _ ?_; clear hK K)))
  intro w11 hb11 hx0 hx1 hx2
  clear hx0 hx1 hx2
  simp only [Abs.T_setF, Abs.T_addA, Abs.T_push, Abs.T_start]
  have f_b11 := kp hb11 (f_b9)
  have f_lo11 := kp hb11 (f_lo9)
  have f_hi11 := kp hb11 (f_hi9)
  have f_g11 := kp hb11 (f_g9)
  have hB11 := xB hB9 hb11
  clear zb_a zb_b zg_a zg_b zhi_a zhi_b zlo_a zlo_b
  obtain ⟨zb_a, zb_b, lb11⟩ := rcell f_b11
  obtain ⟨zlo_a, zlo_b, llo11⟩ := rcell f_lo11
  obtain ⟨zhi_a, zhi_b, lhi11⟩ := rcell f_hi11
  obtain ⟨zg_a, zg_b, lg11⟩ := rcell f_g11
  go_wp2_with fail
  cases q1 : eqP n0 d0 N1 D1
  · refine Abs.wp_region_abs (Abs.cls0 _) [0, 1, 2, 3, 4, 5, 6, 7, 8, 9, 10, 11, 12, 13, 14, 15] (by kernel_rfl) (by kernel_rfl) (Below.refl _ _).drew ?_
    repeat (first | (refine Abs.step_pure rfl rfl (fun K hK => ?_); go_simp; (try go_bits); (first | refine hK _ _ ?_ | (simp only [↓IntWalk.iteOmega]; go_simp; (try go_bits); refine hK _ _ ?_)); clear hK K) | (refine Abs.step_load (v := ?_) rfl rfl (by kernel_rfl) rfl (fun w0 hI => ?_) (fun K hK => ?_); rotate_left; (· have z0 := (rcell (kp hI (f_g11))).1; have z1 := (rcell (kp hI (f_lo11))).1; have z2 := (rcell (kp hI (f_hi11))).1; go_simp; rfl); (simp only [Act.put, List.setIfInBounds_toArray, List.set_cons_zero, List.set_cons_succ]; refine hK _ _ ?_; clear hK K)) | (refine Abs.step_skip rfl rfl (fun K hK => ?_); (simp only [Act.put, List.setIfInBounds_toArray, List.set_cons_zero, List.set_cons_succ]; refine hK _ _ ?_; clear hK K)))
    (refine Abs.step_pure rfl rfl (fun K hK => ?_); go_simp; refine ⟨.bool (eqP n0 d0 N1 D1), fun w => eqP_ite _ _ _ _ (fun b => Result.ok (Next.value (Value.bool b)) w), ?_⟩; simp only [q1]; refine hK _ _ ?_; clear hK K)
    repeat (first | (refine Abs.step_pure rfl rfl (fun K hK => ?_); go_simp; (try go_bits); (first | refine hK _ _ ?_ | (simp only [↓IntWalk.iteOmega]; go_simp; (try go_bits); refine hK _ _ ?_)); clear hK K) | (refine Abs.step_load (v := ?_) rfl rfl (by kernel_rfl) rfl (fun w0 hI => ?_) (fun K hK => ?_); rotate_left; (· have z0 := (rcell (kp hI (f_g11))).1; have z1 := (rcell (kp hI (f_lo11))).1; have z2 := (rcell (kp hI (f_hi11))).1; go_simp; rfl); (simp only [Act.put, List.setIfInBounds_toArray, List.set_cons_zero, List.set_cons_succ]; refine hK _ _ ?_; clear hK K)) | (refine Abs.step_skip rfl rfl (fun K hK => ?_); (simp only [Act.put, List.setIfInBounds_toArray, List.set_cons_zero, List.set_cons_succ]; refine hK _ _ ?_; clear hK K)))
    intro w13 hb13 hx0 hx1 hx2
    clear hx0 hx1 hx2
    simp only [Abs.T_setF, Abs.T_addA, Abs.T_push, Abs.T_start]
    have f_b13 := kp hb13 (f_b11)
    have f_lo13 := kp hb13 (f_lo11)
    have f_hi13 := kp hb13 (f_hi11)
    have f_g13 := kp hb13 (f_g11)
    have hB13 := xB hB11 hb13
    clear zb_a zb_b zg_a zg_b zhi_a zhi_b zlo_a zlo_b
    obtain ⟨zb_a, zb_b, lb13⟩ := rcell f_b13
    obtain ⟨zlo_a, zlo_b, llo13⟩ := rcell f_lo13
    obtain ⟨zhi_a, zhi_b, lhi13⟩ := rcell f_hi13
    obtain ⟨zg_a, zg_b, lg13⟩ := rcell f_g13
    go_wp2
    go_ret
    exact ⟨by rw [← HE.out, q1]; simp, hB13, (f_g13)⟩
  · refine Abs.wp_region_abs (Abs.cls0 _) [0, 1, 2, 3, 4, 5, 6, 7, 8, 9, 10, 11, 12, 13, 14, 15] (by kernel_rfl) (by kernel_rfl) (Below.refl _ _).drew ?_
    repeat (first | (refine Abs.step_pure rfl rfl (fun K hK => ?_); go_simp; (try go_bits); (first | refine hK _ _ ?_ | (simp only [↓IntWalk.iteOmega]; go_simp; (try go_bits); refine hK _ _ ?_)); clear hK K) | (refine Abs.step_load (v := ?_) rfl rfl (by kernel_rfl) rfl (fun w0 hI => ?_) (fun K hK => ?_); rotate_left; (· have z0 := (rcell (kp hI (f_g11))).1; have z1 := (rcell (kp hI (f_lo11))).1; have z2 := (rcell (kp hI (f_hi11))).1; go_simp; rfl); (simp only [Act.put, List.setIfInBounds_toArray, List.set_cons_zero, List.set_cons_succ]; refine hK _ _ ?_; clear hK K)) | (refine Abs.step_skip rfl rfl (fun K hK => ?_); (simp only [Act.put, List.setIfInBounds_toArray, List.set_cons_zero, List.set_cons_succ]; refine hK _ _ ?_; clear hK K)))
    (refine Abs.step_pure rfl rfl (fun K hK => ?_); go_simp; refine ⟨.bool (eqP n0 d0 N1 D1), fun w => eqP_ite _ _ _ _ (fun b => Result.ok (Next.value (Value.bool b)) w), ?_⟩; simp only [q1]; refine hK _ _ ?_; clear hK K)
    repeat (first | (refine Abs.step_pure rfl rfl (fun K hK => ?_); go_simp; (try go_bits); (first | refine hK _ _ ?_ | (simp only [↓IntWalk.iteOmega]; go_simp; (try go_bits); refine hK _ _ ?_)); clear hK K) | (refine Abs.step_load (v := ?_) rfl rfl (by kernel_rfl) rfl (fun w0 hI => ?_) (fun K hK => ?_); rotate_left; (· have z0 := (rcell (kp hI (f_g11))).1; have z1 := (rcell (kp hI (f_lo11))).1; have z2 := (rcell (kp hI (f_hi11))).1; go_simp; rfl); (simp only [Act.put, List.setIfInBounds_toArray, List.set_cons_zero, List.set_cons_succ]; refine hK _ _ ?_; clear hK K)) | (refine Abs.step_skip rfl rfl (fun K hK => ?_); (simp only [Act.put, List.setIfInBounds_toArray, List.set_cons_zero, List.set_cons_succ]; refine hK _ _ ?_; clear hK K)))
    intro w13 hb13 hx0 hx1 hx2
    clear hx0 hx1 hx2
    simp only [Abs.T_setF, Abs.T_addA, Abs.T_push, Abs.T_start]
    have f_b13 := kp hb13 (f_b11)
    have f_lo13 := kp hb13 (f_lo11)
    have f_hi13 := kp hb13 (f_hi11)
    have f_g13 := kp hb13 (f_g11)
    have hB13 := xB hB11 hb13
    clear zb_a zb_b zg_a zg_b zhi_a zhi_b zlo_a zlo_b
    obtain ⟨zb_a, zb_b, lb13⟩ := rcell f_b13
    obtain ⟨zlo_a, zlo_b, llo13⟩ := rcell f_lo13
    obtain ⟨zhi_a, zhi_b, lhi13⟩ := rcell f_hi13
    obtain ⟨zg_a, zg_b, lg13⟩ := rcell f_g13
    go_wp2
    go_ret
    exact ⟨by rw [← HE.out, q1]; simp, hB13, (f_g13)⟩


set_option maxRecDepth 100000 in
set_option maxHeartbeats 2000000 in
theorem take_ff (g : Nat) (dt dv n0 d0 n1 d1 m bt bl bh N0 D0 N1 D1 k1 k2 k3 : Int) (o1 o2 o3 e : Bool) (hm : 2 ≤ m) (hp : decide (0 < k1) = false) (hq : decide (k2 < 0) = false) (hm2 : m < 1000000) (he : (eqP n0 d0 n1 d1 || decide (k3 < 0)) = e)
    (cs0 : ∀ w, w.heap[g]? = some (.cells #[.int .i64 dt, .int .i64 dv, .int .i64 n0, .int .i64 d0, .int .i64 n1, .int .i64 d1, .int .i64 (m + 1)] 120 (0, 0)) → Calls Tryd.prog 136 #[.pointer (some ⟨g, 0, none⟩), .agg #[.int .i64 bt, .int .i64 bl, .int .i64 bh], .int .i64 bl] w fun e w' => e = .returned (.agg #[.int .i64 N0, .int .i64 D0]) ∧ Below w.heap.size w w')
    (cs1 : ∀ w, w.heap[g]? = some (.cells #[.int .i64 dt, .int .i64 dv, .int .i64 n0, .int .i64 d0, .int .i64 n1, .int .i64 d1, .int .i64 (m + 1)] 120 (0, 0)) → Calls Tryd.prog 136 #[.pointer (some ⟨g, 0, none⟩), .agg #[.int .i64 bt, .int .i64 bl, .int .i64 bh], .int .i64 bh] w fun e w' => e = .returned (.agg #[.int .i64 N1, .int .i64 D1]) ∧ Below w.heap.size w w')
    (cc1 : ∀ w, Calls Tryd.prog 80 #[.agg #[.int .i64 N0, .int .i64 D0], .agg #[.int .i64 n0, .int .i64 d0]] w fun e w' => e = .returned (.tuple #[.int .i64 k1, .bool o1]) ∧ Below w.heap.size w w')
    (cc2 : ∀ w, Calls Tryd.prog 80 #[.agg #[.int .i64 N1, .int .i64 D1], .agg #[.int .i64 n1, .int .i64 d1]] w fun e w' => e = .returned (.tuple #[.int .i64 k2, .bool o2]) ∧ Below w.heap.size w w')
    (cc3 : ∀ w, Calls Tryd.prog 80 #[.agg #[.int .i64 n0, .int .i64 d0], .agg #[.int .i64 n1, .int .i64 d1]] w fun e w' => e = .returned (.tuple #[.int .i64 k3, .bool o3]) ∧ Below w.heap.size w w')
    (w : World) (hg : w.heap[g]? = some (.cells #[.int .i64 dt, .int .i64 dv, .int .i64 n0, .int .i64 d0, .int .i64 n1, .int .i64 d1, .int .i64 (m)] 120 (0, 0))) :
    Calls Tryd.prog 131 #[.pointer (some ⟨g, 0, none⟩), .agg #[.int .i64 bt, .int .i64 bl, .int .i64 bh]] w fun x w' => x = .returned (.bool e) ∧ Exc g w w' ∧
      w'.heap[g]? = some (.cells #[.int .i64 dt, .int .i64 dv, .int .i64 n0, .int .i64 d0, .int .i64 n1, .int .i64 d1, .int .i64 (m + 1)] 120 (0, 0)) := by
  have i0 := ends_at0
  have i1 := ends_at1
  have e1 : (m + 1 == 1) = false := by rw [beq_eq_false_iff_ne]; omega
  have e2 : (m + 1 == 2) = false := by rw [beq_eq_false_iff_ne]; omega
  have HE := hide he
  clear he
  have l_g := (rcell hg).2.2
  obtain ⟨zg_a, zg_b, -⟩ := rcell hg
  go_enter Tryd.func131, Tryd.ntmps131
  go_wp2_with fail
  rw [r7m1 hg]
  generalize hT1 : setRow _ _ _ = w1
  have hz1 : w1.heap.size = w.heap.size := by rw [← hT1]; exact setRow_size _ _ _
  obtain ⟨hx1, f_g1⟩ := fin_x (b0 _) hg hT1
  clear hT1
  have hB1 := xX (x0 g w (Nat.le_of_lt (rcell hg).2.2)) hx1 (by omega)
  clear zg_a zg_b
  obtain ⟨zg_a, zg_b, lg1⟩ := rcell f_g1
  have f_g2 := (ka (f_g1) (.cells #[.int .i64 bt, .int .i64 bl, .int .i64 bh] 37))
  have f_b2 := ((hz1 ▸ na w1 #[.int .i64 bt, .int .i64 bl, .int .i64 bh] 37))
  have hB2 := (xA hB1 (.cells #[.int .i64 bt, .int .i64 bl, .int .i64 bh] 37))
  clear zg_a zg_b
  have lg2 := (rcell f_g2).2.2
  have lb2 := (rcell f_b2).2.2
  refine Abs.wp_region_abs (Abs.cls0 _) [0, 1, 2, 3, 4, 5, 6, 7, 8, 9, 10, 11, 12, 13] (by kernel_rfl) (by kernel_rfl) (Below.refl _ _).drew ?_
  repeat (first | (refine Abs.step_pure rfl rfl (fun K hK => ?_); go_simp; (try go_bits); (first | refine hK _ _ ?_ | (simp only [↓IntWalk.iteOmega]; go_simp; (try go_bits); refine hK _ _ ?_)); clear hK K) | (refine Abs.step_load (v := ?_) rfl rfl (by kernel_rfl) rfl (fun w0 hI => ?_) (fun K hK => ?_); rotate_left; (· have z0 := (rcell (kp hI (f_g2))).1; have z1 := (rcell (kp hI (f_b2))).1; go_simp; rfl); (simp only [Act.put, List.setIfInBounds_toArray, List.set_cons_zero, List.set_cons_succ]; refine hK _ _ ?_; clear hK K)) | (refine Abs.step_skip rfl rfl (fun K hK => ?_); (simp only [Act.put, List.setIfInBounds_toArray, List.set_cons_zero, List.set_cons_succ]; refine hK _ _ ?_; clear hK K)))
  (refine Abs.step_call_val (f := ?_) (args := ?_) (v := ?_) rfl rfl rfl rfl (fun w0 => ?_) (fun w0 hI => ?_) (fun K hK => ?_); rotate_left 3; (· go_simp; (constructor <;> rfl)); (· exact cs0 _ (kp hI (f_g2))); (simp only [Act.put, List.setIfInBounds_toArray, List.set_cons_zero, List.set_cons_succ]; refine hK _ _ ?_; clear hK K))
  repeat (first | (refine Abs.step_pure rfl rfl (fun K hK => ?_); go_simp; (try go_bits); (first | refine hK _ _ ?_ | (simp only [↓IntWalk.iteOmega]; go_simp; (try go_bits); refine hK _ _ ?_)); clear hK K) | (refine Abs.step_load (v := ?_) rfl rfl (by kernel_rfl) rfl (fun w0 hI => ?_) (fun K hK => ?_); rotate_left; (· have z0 := (rcell (kp hI (f_g2))).1; have z1 := (rcell (kp hI (f_b2))).1; go_simp; rfl); (simp only [Act.put, List.setIfInBounds_toArray, List.set_cons_zero, List.set_cons_succ]; refine hK _ _ ?_; clear hK K)) | (refine Abs.step_skip rfl rfl (fun K hK => ?_); (simp only [Act.put, List.setIfInBounds_toArray, List.set_cons_zero, List.set_cons_succ]; refine hK _ _ ?_; clear hK K)))
  (refine Abs.step_call_val (f := ?_) (args := ?_) (v := ?_) rfl rfl rfl rfl (fun w0 => ?_) (fun w0 hI => ?_) (fun K hK => ?_); rotate_left 3; (· go_simp; (constructor <;> rfl)); (· exact cs1 _ (kp hI (f_g2))); (simp only [Act.put, List.setIfInBounds_toArray, List.set_cons_zero, List.set_cons_succ]; refine hK _ _ ?_; clear hK K))
  repeat (first | (refine Abs.step_pure rfl rfl (fun K hK => ?_); go_simp; (try go_bits); (first | refine hK _ _ ?_ | (simp only [↓IntWalk.iteOmega]; go_simp; (try go_bits); refine hK _ _ ?_)); clear hK K) | (refine Abs.step_load (v := ?_) rfl rfl (by kernel_rfl) rfl (fun w0 hI => ?_) (fun K hK => ?_); rotate_left; (· have z0 := (rcell (kp hI (f_g2))).1; have z1 := (rcell (kp hI (f_b2))).1; go_simp; rfl); (simp only [Act.put, List.setIfInBounds_toArray, List.set_cons_zero, List.set_cons_succ]; refine hK _ _ ?_; clear hK K)) | (refine Abs.step_skip rfl rfl (fun K hK => ?_); (simp only [Act.put, List.setIfInBounds_toArray, List.set_cons_zero, List.set_cons_succ]; refine hK _ _ ?_; clear hK K)))
  (refine Abs.step_var (obj := ?_) rfl rfl rfl rfl (fun w0 => ?_) (fun K hK g_lo hv_lo hu_lo => ?_); rotate_left; (· go_simp; rfl); (simp only [Act.put, List.setIfInBounds_toArray, List.set_cons_zero, List.set_cons_succ]; refine hK _ _ ?_; clear hK K))
  (refine Abs.step_var (obj := ?_) rfl rfl rfl rfl (fun w0 => ?_) (fun K hK g_hi hv_hi hu_hi => ?_); rotate_left; (· go_simp; rfl); (simp only [Act.put, List.setIfInBounds_toArray, List.set_cons_zero, List.set_cons_succ]; refine hK _ _ ?_; clear hK K))
  repeat (first | (refine Abs.step_pure rfl rfl (fun K hK => ?_); go_simp; (try go_bits); (first | refine hK _ _ ?_ | (simp only [↓IntWalk.iteOmega]; go_simp; (try go_bits); refine hK _ _ ?_)); clear hK K) | (refine Abs.step_load (v := ?_) rfl rfl (by kernel_rfl) rfl (fun w0 hI => ?_) (fun K hK => ?_); rotate_left; (· have z0 := (rcell (kp hI (f_g2))).1; have z1 := (rcell (kp hI (f_b2))).1; go_simp; rfl); (simp only [Act.put, List.setIfInBounds_toArray, List.set_cons_zero, List.set_cons_succ]; refine hK _ _ ?_; clear hK K)) | (refine Abs.step_skip rfl rfl (fun K hK => ?_); (simp only [Act.put, List.setIfInBounds_toArray, List.set_cons_zero, List.set_cons_succ]; refine hK _ _ ?_; clear hK K)))
  (refine Abs.step_store (T := ?_) rfl rfl rfl (fun w0 hI hF hU => ?_) (fun _ _ _ _ => trivial) (fun K hK => ?_); rotate_left; (· have hR := (hF 10).1.2 rfl; have hg0 := (rcell hR).1; have hg1 := (rcell hR).2.1; simp only [Abs.T_setF, Abs.T_addA, Abs.T_push, Abs.T_start]; go_simp; exact row2 hR _ _); (simp only [Act.put, List.setIfInBounds_toArray, List.set_cons_zero, List.set_cons_succ]; refine hK _ _ ?_; clear hK K))
  (refine Abs.step_store (T := ?_) rfl rfl rfl (fun w0 hI hF hU => ?_) (fun _ _ _ _ => trivial) (fun K hK => ?_); rotate_left; (· have hR := fun cs => (setRow_other (w := w0) (g := g_lo) cs (fun e => hu_hi (Or.inl e))).trans ((hF 11).2 rfl); have hg0 := fun cs => (rcell (hR cs)).1; have hg1 := fun cs => (rcell (hR cs)).2.1; simp only [Abs.T_setF, Abs.T_addA, Abs.T_push, Abs.T_start]; go_simp; exact row2 (hR _) _ _); (simp only [Act.put, List.setIfInBounds_toArray, List.set_cons_zero, List.set_cons_succ]; refine hK _ _ ?_; clear hK K))
  have hs_lo := leB hv_lo
  try simp only [World.size_alloc] at hs_lo
  have hs_hi := leB hv_hi
  try simp only [World.size_alloc] at hs_hi
  have hn : g_hi ≠ g_lo := fun e => hu_hi (Or.inl e)
  intro w0 hI hF hx1 hx2
  clear hx1 hx2
  have q1 := (hF 10).1.2 rfl
  have q2 := (hF 11).2 rfl
  clear hF
  simp only [Abs.T_push]
  generalize hTa : setRow w0 _ _ = wa
  have ea := (fin_x (b0 _) q1 hTa).1
  obtain ⟨ba, fa⟩ := fin1 hI hv_lo q1 hTa
  have q3 : wa.heap[g_hi]? = w0.heap[g_hi]? := by rw [← hTa]; exact setRow_other _ hn
  replace q2 := q3.trans q2
  clear q3
  generalize hTb : setRow wa _ _ = w3
  have eb := (fin_x (b0 _) q2 hTb).1
  obtain ⟨hb3, f_hi3⟩ := fin1 ba hv_hi q2 hTb
  have q4 : w3.heap[g_lo]? = wa.heap[g_lo]? := by rw [← hTb]; exact setRow_other _ hn.symm
  have f_lo3 := q4.trans fa
  clear q4
  clear hTa hTb ea eb q1 q2 fa ba hI w0
  have f_g3 := kp hb3 (f_g2)
  have f_b3 := kp hb3 (f_b2)
  have hB3 := xB hB2 hb3
  obtain ⟨zg_a, zg_b, lg3⟩ := rcell f_g3
  obtain ⟨zb_a, zb_b, lb3⟩ := rcell f_b3
  obtain ⟨zlo_a, zlo_b, llo3⟩ := rcell f_lo3
  obtain ⟨zhi_a, zhi_b, lhi3⟩ := rcell f_hi3
  go_wp2_with fail
  refine Abs.wp_region_abs (Abs.cls0 _) [0, 1, 2, 3, 4, 5, 6, 7, 8, 9, 10, 11] (by kernel_rfl) (by kernel_rfl) (Below.refl _ _).drew ?_
  repeat (first | (refine Abs.step_pure rfl rfl (fun K hK => ?_); go_simp; (try go_bits); (first | refine hK _ _ ?_ | (simp only [↓IntWalk.iteOmega]; go_simp; (try go_bits); refine hK _ _ ?_)); clear hK K) | (refine Abs.step_load (v := ?_) rfl rfl (by kernel_rfl) rfl (fun w0 hI => ?_) (fun K hK => ?_); rotate_left; (· have z0 := (rcell (kp hI (f_g3))).1; have z1 := (rcell (kp hI (f_lo3))).1; have z2 := (rcell (kp hI (f_hi3))).1; go_simp; rfl); (simp only [Act.put, List.setIfInBounds_toArray, List.set_cons_zero, List.set_cons_succ]; refine hK _ _ ?_; clear hK K)) | (refine Abs.step_skip rfl rfl (fun K hK => ?_); (simp only [Act.put, List.setIfInBounds_toArray, List.set_cons_zero, List.set_cons_succ]; refine hK _ _ ?_; clear hK K)))
  (refine Abs.step_call_val (f := ?_) (args := ?_) (v := ?_) rfl rfl rfl rfl (fun w0 => ?_) (fun w0 hI => ?_) (fun K hK => ?_); rotate_left 3; (· go_simp; (constructor <;> rfl)); (· exact cc1 _); (simp only [Act.put, List.setIfInBounds_toArray, List.set_cons_zero, List.set_cons_succ]; refine hK _ _ ?_; clear hK K))
  repeat (first | (refine Abs.step_pure rfl rfl (fun K hK => ?_); go_simp; (try go_bits); (first | refine hK _ _ ?_ | (simp only [↓IntWalk.iteOmega]; go_simp; (try go_bits); refine hK _ _ ?_)); clear hK K) | (refine Abs.step_load (v := ?_) rfl rfl (by kernel_rfl) rfl (fun w0 hI => ?_) (fun K hK => ?_); rotate_left; (· have z0 := (rcell (kp hI (f_g3))).1; have z1 := (rcell (kp hI (f_lo3))).1; have z2 := (rcell (kp hI (f_hi3))).1; go_simp; rfl); (simp only [Act.put, List.setIfInBounds_toArray, List.set_cons_zero, List.set_cons_succ]; refine hK _ _ ?_; clear hK K)) | (refine Abs.step_skip rfl rfl (fun K hK => ?_); (simp only [Act.put, List.setIfInBounds_toArray, List.set_cons_zero, List.set_cons_succ]; refine hK _ _ ?_; clear hK K)))
  intro w5 hb5 hx0 hx1 hx2
  clear hx0 hx1 hx2
  simp only [Abs.T_setF, Abs.T_addA, Abs.T_push, Abs.T_start]
  have f_g5 := kp hb5 (f_g3)
  have f_b5 := kp hb5 (f_b3)
  have f_lo5 := kp hb5 (f_lo3)
  have f_hi5 := kp hb5 (f_hi3)
  have hB5 := xB hB3 hb5
  clear zb_a zb_b zg_a zg_b zhi_a zhi_b zlo_a zlo_b
  obtain ⟨zg_a, zg_b, lg5⟩ := rcell f_g5
  obtain ⟨zb_a, zb_b, lb5⟩ := rcell f_b5
  obtain ⟨zlo_a, zlo_b, llo5⟩ := rcell f_lo5
  obtain ⟨zhi_a, zhi_b, lhi5⟩ := rcell f_hi5
  go_wp2_with fail
  refine Abs.wp_region_abs (Abs.cls0 _) [0, 1, 2, 3, 4, 5, 6, 7, 8, 9, 10, 11] (by kernel_rfl) (by kernel_rfl) (Below.refl _ _).drew ?_
  repeat (first | (refine Abs.step_pure rfl rfl (fun K hK => ?_); go_simp; (try go_bits); (first | refine hK _ _ ?_ | (simp only [↓IntWalk.iteOmega]; go_simp; (try go_bits); refine hK _ _ ?_)); clear hK K) | (refine Abs.step_load (v := ?_) rfl rfl (by kernel_rfl) rfl (fun w0 hI => ?_) (fun K hK => ?_); rotate_left; (· have z0 := (rcell (kp hI (f_g5))).1; have z1 := (rcell (kp hI (f_lo5))).1; have z2 := (rcell (kp hI (f_hi5))).1; go_simp; rfl); (simp only [Act.put, List.setIfInBounds_toArray, List.set_cons_zero, List.set_cons_succ]; refine hK _ _ ?_; clear hK K)) | (refine Abs.step_skip rfl rfl (fun K hK => ?_); (simp only [Act.put, List.setIfInBounds_toArray, List.set_cons_zero, List.set_cons_succ]; refine hK _ _ ?_; clear hK K)))
  (refine Abs.step_call_val (f := ?_) (args := ?_) (v := ?_) rfl rfl rfl rfl (fun w0 => ?_) (fun w0 hI => ?_) (fun K hK => ?_); rotate_left 3; (· go_simp; (constructor <;> rfl)); (· exact cc2 _); (simp only [Act.put, List.setIfInBounds_toArray, List.set_cons_zero, List.set_cons_succ]; refine hK _ _ ?_; clear hK K))
  repeat (first | (refine Abs.step_pure rfl rfl (fun K hK => ?_); go_simp; (try go_bits); (first | refine hK _ _ ?_ | (simp only [↓IntWalk.iteOmega]; go_simp; (try go_bits); refine hK _ _ ?_)); clear hK K) | (refine Abs.step_load (v := ?_) rfl rfl (by kernel_rfl) rfl (fun w0 hI => ?_) (fun K hK => ?_); rotate_left; (· have z0 := (rcell (kp hI (f_g5))).1; have z1 := (rcell (kp hI (f_lo5))).1; have z2 := (rcell (kp hI (f_hi5))).1; go_simp; rfl); (simp only [Act.put, List.setIfInBounds_toArray, List.set_cons_zero, List.set_cons_succ]; refine hK _ _ ?_; clear hK K)) | (refine Abs.step_skip rfl rfl (fun K hK => ?_); (simp only [Act.put, List.setIfInBounds_toArray, List.set_cons_zero, List.set_cons_succ]; refine hK _ _ ?_; clear hK K)))
  intro w7 hb7 hx0 hx1 hx2
  clear hx0 hx1 hx2
  simp only [Abs.T_setF, Abs.T_addA, Abs.T_push, Abs.T_start]
  have f_g7 := kp hb7 (f_g5)
  have f_b7 := kp hb7 (f_b5)
  have f_lo7 := kp hb7 (f_lo5)
  have f_hi7 := kp hb7 (f_hi5)
  have hB7 := xB hB5 hb7
  clear zb_a zb_b zg_a zg_b zhi_a zhi_b zlo_a zlo_b
  obtain ⟨zg_a, zg_b, lg7⟩ := rcell f_g7
  obtain ⟨zb_a, zb_b, lb7⟩ := rcell f_b7
  obtain ⟨zlo_a, zlo_b, llo7⟩ := rcell f_lo7
  obtain ⟨zhi_a, zhi_b, lhi7⟩ := rcell f_hi7
  go_wp2_with fail
  refine Abs.wp_region_abs (Abs.cls0 _) [0, 1, 2, 3, 4, 5, 6, 7, 8, 9, 10, 11, 12, 13, 14, 15] (by kernel_rfl) (by kernel_rfl) (Below.refl _ _).drew ?_
  repeat (first | (refine Abs.step_pure rfl rfl (fun K hK => ?_); go_simp; (try go_bits); (first | refine hK _ _ ?_ | (simp only [↓IntWalk.iteOmega]; go_simp; (try go_bits); refine hK _ _ ?_)); clear hK K) | (refine Abs.step_load (v := ?_) rfl rfl (by kernel_rfl) rfl (fun w0 hI => ?_) (fun K hK => ?_); rotate_left; (· have z0 := (rcell (kp hI (f_g7))).1; have z1 := (rcell (kp hI (f_lo7))).1; have z2 := (rcell (kp hI (f_hi7))).1; go_simp; rfl); (simp only [Act.put, List.setIfInBounds_toArray, List.set_cons_zero, List.set_cons_succ]; refine hK _ _ ?_; clear hK K)) | (refine Abs.step_skip rfl rfl (fun K hK => ?_); (simp only [Act.put, List.setIfInBounds_toArray, List.set_cons_zero, List.set_cons_succ]; refine hK _ _ ?_; clear hK K)))
  (refine Abs.step_call_val (f := ?_) (args := ?_) (v := ?_) rfl rfl rfl rfl (fun w0 => ?_) (fun w0 hI => ?_) (fun K hK => ?_); rotate_left 3; (· go_simp; (constructor <;> rfl)); (· exact cc3 _); (simp only [Act.put, List.setIfInBounds_toArray, List.set_cons_zero, List.set_cons_succ]; refine hK _ _ ?_; clear hK K))
  repeat (first | (refine Abs.step_pure rfl rfl (fun K hK => ?_); go_simp; (try go_bits); (first | refine hK _ _ ?_ | (simp only [↓IntWalk.iteOmega]; go_simp; (try go_bits); refine hK _ _ ?_)); clear hK K) | (refine Abs.step_load (v := ?_) rfl rfl (by kernel_rfl) rfl (fun w0 hI => ?_) (fun K hK => ?_); rotate_left; (· have z0 := (rcell (kp hI (f_g7))).1; have z1 := (rcell (kp hI (f_lo7))).1; have z2 := (rcell (kp hI (f_hi7))).1; go_simp; rfl); (simp only [Act.put, List.setIfInBounds_toArray, List.set_cons_zero, List.set_cons_succ]; refine hK _ _ ?_; clear hK K)) | (refine Abs.step_skip rfl rfl (fun K hK => ?_); (simp only [Act.put, List.setIfInBounds_toArray, List.set_cons_zero, List.set_cons_succ]; refine hK _ _ ?_; clear hK K)))
  intro w9 hb9 hx0 hx1 hx2
  clear hx0 hx1 hx2
  simp only [Abs.T_setF, Abs.T_addA, Abs.T_push, Abs.T_start]
  have f_g9 := kp hb9 (f_g7)
  have f_b9 := kp hb9 (f_b7)
  have f_lo9 := kp hb9 (f_lo7)
  have f_hi9 := kp hb9 (f_hi7)
  have hB9 := xB hB7 hb9
  clear zb_a zb_b zg_a zg_b zhi_a zhi_b zlo_a zlo_b
  obtain ⟨zg_a, zg_b, lg9⟩ := rcell f_g9
  obtain ⟨zb_a, zb_b, lb9⟩ := rcell f_b9
  obtain ⟨zlo_a, zlo_b, llo9⟩ := rcell f_lo9
  obtain ⟨zhi_a, zhi_b, lhi9⟩ := rcell f_hi9
  go_wp2_with fail
  cases q1 : eqP n0 d0 n1 d1
  · refine Abs.wp_region_abs (Abs.cls0 _) [0, 1, 2, 3, 4, 5, 6, 7, 8, 9, 10, 11, 12, 13, 14, 15] (by kernel_rfl) (by kernel_rfl) (Below.refl _ _).drew ?_
    repeat (first | (refine Abs.step_pure rfl rfl (fun K hK => ?_); go_simp; (try go_bits); (first | refine hK _ _ ?_ | (simp only [↓IntWalk.iteOmega]; go_simp; (try go_bits); refine hK _ _ ?_)); clear hK K) | (refine Abs.step_load (v := ?_) rfl rfl (by kernel_rfl) rfl (fun w0 hI => ?_) (fun K hK => ?_); rotate_left; (· have z0 := (rcell (kp hI (f_g9))).1; have z1 := (rcell (kp hI (f_lo9))).1; have z2 := (rcell (kp hI (f_hi9))).1; go_simp; rfl); (simp only [Act.put, List.setIfInBounds_toArray, List.set_cons_zero, List.set_cons_succ]; refine hK _ _ ?_; clear hK K)) | (refine Abs.step_skip rfl rfl (fun K hK => ?_); (simp only [Act.put, List.setIfInBounds_toArray, List.set_cons_zero, List.set_cons_succ]; refine hK _ _ ?_; clear hK K)))
    (refine Abs.step_pure rfl rfl (fun K hK => ?_); go_simp; refine ⟨.bool (eqP n0 d0 n1 d1), fun w => eqP_ite _ _ _ _ (fun b => Result.ok (Next.value (Value.bool b)) w), ?_⟩; simp only [q1]; refine hK _ _ ?_; clear hK K)
    repeat (first | (refine Abs.step_pure rfl rfl (fun K hK => ?_); go_simp; (try go_bits); (first | refine hK _ _ ?_ | (simp only [↓IntWalk.iteOmega]; go_simp; (try go_bits); refine hK _ _ ?_)); clear hK K) | (refine Abs.step_load (v := ?_) rfl rfl (by kernel_rfl) rfl (fun w0 hI => ?_) (fun K hK => ?_); rotate_left; (· have z0 := (rcell (kp hI (f_g9))).1; have z1 := (rcell (kp hI (f_lo9))).1; have z2 := (rcell (kp hI (f_hi9))).1; go_simp; rfl); (simp only [Act.put, List.setIfInBounds_toArray, List.set_cons_zero, List.set_cons_succ]; refine hK _ _ ?_; clear hK K)) | (refine Abs.step_skip rfl rfl (fun K hK => ?_); (simp only [Act.put, List.setIfInBounds_toArray, List.set_cons_zero, List.set_cons_succ]; refine hK _ _ ?_; clear hK K)))
    intro w11 hb11 hx0 hx1 hx2
    clear hx0 hx1 hx2
    simp only [Abs.T_setF, Abs.T_addA, Abs.T_push, Abs.T_start]
    have f_g11 := kp hb11 (f_g9)
    have f_b11 := kp hb11 (f_b9)
    have f_lo11 := kp hb11 (f_lo9)
    have f_hi11 := kp hb11 (f_hi9)
    have hB11 := xB hB9 hb11
    clear zb_a zb_b zg_a zg_b zhi_a zhi_b zlo_a zlo_b
    obtain ⟨zg_a, zg_b, lg11⟩ := rcell f_g11
    obtain ⟨zb_a, zb_b, lb11⟩ := rcell f_b11
    obtain ⟨zlo_a, zlo_b, llo11⟩ := rcell f_lo11
    obtain ⟨zhi_a, zhi_b, lhi11⟩ := rcell f_hi11
    go_wp2
    go_ret
    exact ⟨by rw [← HE.out, q1]; simp, hB11, (f_g11)⟩
  · refine Abs.wp_region_abs (Abs.cls0 _) [0, 1, 2, 3, 4, 5, 6, 7, 8, 9, 10, 11, 12, 13, 14, 15] (by kernel_rfl) (by kernel_rfl) (Below.refl _ _).drew ?_
    repeat (first | (refine Abs.step_pure rfl rfl (fun K hK => ?_); go_simp; (try go_bits); (first | refine hK _ _ ?_ | (simp only [↓IntWalk.iteOmega]; go_simp; (try go_bits); refine hK _ _ ?_)); clear hK K) | (refine Abs.step_load (v := ?_) rfl rfl (by kernel_rfl) rfl (fun w0 hI => ?_) (fun K hK => ?_); rotate_left; (· have z0 := (rcell (kp hI (f_g9))).1; have z1 := (rcell (kp hI (f_lo9))).1; have z2 := (rcell (kp hI (f_hi9))).1; go_simp; rfl); (simp only [Act.put, List.setIfInBounds_toArray, List.set_cons_zero, List.set_cons_succ]; refine hK _ _ ?_; clear hK K)) | (refine Abs.step_skip rfl rfl (fun K hK => ?_); (simp only [Act.put, List.setIfInBounds_toArray, List.set_cons_zero, List.set_cons_succ]; refine hK _ _ ?_; clear hK K)))
    (refine Abs.step_pure rfl rfl (fun K hK => ?_); go_simp; refine ⟨.bool (eqP n0 d0 n1 d1), fun w => eqP_ite _ _ _ _ (fun b => Result.ok (Next.value (Value.bool b)) w), ?_⟩; simp only [q1]; refine hK _ _ ?_; clear hK K)
    repeat (first | (refine Abs.step_pure rfl rfl (fun K hK => ?_); go_simp; (try go_bits); (first | refine hK _ _ ?_ | (simp only [↓IntWalk.iteOmega]; go_simp; (try go_bits); refine hK _ _ ?_)); clear hK K) | (refine Abs.step_load (v := ?_) rfl rfl (by kernel_rfl) rfl (fun w0 hI => ?_) (fun K hK => ?_); rotate_left; (· have z0 := (rcell (kp hI (f_g9))).1; have z1 := (rcell (kp hI (f_lo9))).1; have z2 := (rcell (kp hI (f_hi9))).1; go_simp; rfl); (simp only [Act.put, List.setIfInBounds_toArray, List.set_cons_zero, List.set_cons_succ]; refine hK _ _ ?_; clear hK K)) | (refine Abs.step_skip rfl rfl (fun K hK => ?_); (simp only [Act.put, List.setIfInBounds_toArray, List.set_cons_zero, List.set_cons_succ]; refine hK _ _ ?_; clear hK K)))
    intro w11 hb11 hx0 hx1 hx2
    clear hx0 hx1 hx2
    simp only [Abs.T_setF, Abs.T_addA, Abs.T_push, Abs.T_start]
    have f_g11 := kp hb11 (f_g9)
    have f_b11 := kp hb11 (f_b9)
    have f_lo11 := kp hb11 (f_lo9)
    have f_hi11 := kp hb11 (f_hi9)
    have hB11 := xB hB9 hb11
    clear zb_a zb_b zg_a zg_b zhi_a zhi_b zlo_a zlo_b
    obtain ⟨zg_a, zg_b, lg11⟩ := rcell f_g11
    obtain ⟨zb_a, zb_b, lb11⟩ := rcell f_b11
    obtain ⟨zlo_a, zlo_b, llo11⟩ := rcell f_lo11
    obtain ⟨zhi_a, zhi_b, lhi11⟩ := rcell f_hi11
    go_wp2
    go_ret
    exact ⟨by rw [← HE.out, q1]; simp, hB11, (f_g11)⟩


end Go.Proofs.YtpimkigbdjfjoaaDoor
