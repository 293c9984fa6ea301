/- slices.Clone of runs, of int64 and of bytes; yearbooklaw12.own at this program. yearbooklaw12.own at this program. -/
import Derived.Test.YtmpfbkeamihjbaaGreatQ1
import Derived.Test.YtmpfbkeamihjbaaGreatAbsM
import Derived.Test.YtmpfbkeamihjbaaGreatQ2
import Derived.Deep.Slices
set_option linter.unusedSimpArgs false
set_option linter.unusedVariables false
/- USE AbsM -/
namespace Go.Proofs.YtmpfbkeamihjbaaGreat
open Go.RowKit
attribute [local go_sem] Oper.semAt_some

theorem eqIn_nilR (d : Nat) (a : Option Addr) (l c : Nat) (w : World) : (Op.equalIn (d + 1) 22 (.slice a l c) (.slice none 0 0)).run Tryz.prog w = .ok a.isNone w := by
  cases a <;> simp [Op.equalIn, run_underlying Tryz.underlying22]
theorem eq_nilR (a : Option Addr) (l c : Nat) (w : World) : (Op.equal 22 (.slice a l c) (.slice none 0 0)).run Tryz.prog w = .ok a.isNone w := eqIn_nilR 9999 a l c w
theorem eql_nilR (a : Option Addr) (l c : Nat) (w : World) : (binOp .eql 22 (.slice a l c) (.slice none 0 0)).run Tryz.prog w = .ok (.bool a.isNone) w := by
  simp [binOp, eq_nilR]
theorem eqIn_nilV (d : Nat) (a : Option Addr) (l c : Nat) (w : World) : (Op.equalIn (d + 1) 25 (.slice a l c) (.slice none 0 0)).run Tryz.prog w = .ok a.isNone w := by
  cases a <;> simp [Op.equalIn, run_underlying Tryz.underlying25]
theorem eq_nilV (a : Option Addr) (l c : Nat) (w : World) : (Op.equal 25 (.slice a l c) (.slice none 0 0)).run Tryz.prog w = .ok a.isNone w := eqIn_nilV 9999 a l c w
theorem eql_nilV (a : Option Addr) (l c : Nat) (w : World) : (binOp .eql 25 (.slice a l c) (.slice none 0 0)).run Tryz.prog w = .ok (.bool a.isNone) w := by
  simp [binOp, eq_nilV]

def SlR (ys : List Rn) (v : Value) (w : World) : Prop := ∃ A c n, v = .slice A n c ∧ n = ys.length ∧ RR w A c ys
def SlV (ys : List Int) (v : Value) (w : World) : Prop := ∃ A c n, v = .slice A n c ∧ n = ys.length ∧ VR w A c ys
theorem SlR.rr {ys : List Rn} {A : Option Addr} {n c : Nat} {w : World} (h : SlR ys (.slice A n c) w) : n = ys.length ∧ RR w A c ys := by
  obtain ⟨A', c', n', e, h1, h2⟩ := h
  injection e with e1 e2 e3
  subst e1 e2 e3
  exact ⟨h1, h2⟩
theorem SlV.vr {ys : List Int} {A : Option Addr} {n c : Nat} {w : World} (h : SlV ys (.slice A n c) w) : n = ys.length ∧ VR w A c ys := by
  obtain ⟨A', c', n', e, h1, h2⟩ := h
  injection e with e1 e2 e3
  subst e1 e2 e3
  exact ⟨h1, h2⟩
theorem Cl_SlR (ys : List Rn) {v : Value} : AbsM.Cl (fun _ => False) (SlR ys v) := by
  intro w w' ⟨A, c, n, e, hn, hr⟩ h
  refine ⟨A, c, n, e, hn, hr.cap, hr.top, fun hl => ?_⟩
  obtain ⟨g, o, cur, e1, hg, hc⟩ := hr.mem hl
  exact ⟨g, o, cur, e1, (h.block g (Array.getElem?_eq_some_iff.1 hg).1 (fun hf => hf)).trans hg, hc⟩
theorem Cl_SlV (ys : List Int) {v : Value} : AbsM.Cl (fun _ => False) (SlV ys v) := by
  intro w w' ⟨A, c, n, e, hn, hr⟩ h
  refine ⟨A, c, n, e, hn, hr.cap, hr.top, fun hl => ?_⟩
  obtain ⟨g, o, cur, e1, hg, hc⟩ := hr.mem hl
  exact ⟨g, o, cur, e1, (h.block g (Array.getElem?_eq_some_iff.1 hg).1 (fun hf => hf)).trans hg, hc⟩

set_option maxRecDepth 100000 in
theorem clone_runs (X : Option Addr) (C n : Nat) (ys : List Rn) (hny : n = ys.length) (h4 : ys.length ≤ 4096) (w : World) (hT : InR w X ys) :
    Calls Tryz.prog 26 #[.slice X n C] w fun e w' => ∃ v, e = .returned v ∧ Below w.heap.size w w' ∧ SlR ys v w' := by
  subst hny
  have hq := eql_nilR
  rcases X with _ | ad
  · obtain rfl : ys = [] := by
      by_cases h0 : 0 < ys.length
      · obtain ⟨ad, e, _⟩ := hT h0
        cases e
      · exact List.eq_nil_of_length_eq_zero (by omega)
    go_enter Tryz.func26, Tryz.ntmps26
    go_wp2
    go_ret
    exact ⟨_, rfl, b0 w, none, 0, 0, rfl, rfl, RR.nil _ _ _ (by decide)⟩
  · have hlen : ([] : List Rn).length + ys.length ≤ 4096 := by simp; omega
    go_enter Tryz.func26, Tryz.ntmps26
    go_wp2_with (at_builtin; refine wpList_pushR rfl _ _ rfl w.heap.size _ [] ys (some ad) C rfl rfl (OwnR.fresh w) (hT.below (bA (b0 w) _)) hlen (by simp) ?_; intro v1 w1 ho1 hb1 hs1)
    go_ret
    rw [List.nil_append] at ho1
    obtain ⟨A, c, rfl, hr⟩ := ho1.rr
    exact ⟨_, rfl, hb1 _ (bA (b0 w) _), A, c, _, rfl, rfl, hr⟩
set_option maxRecDepth 100000 in
theorem clone_longs (X : Option Addr) (C n : Nat) (ys : List Int) (hny : n = ys.length) (h4 : ys.length ≤ 4096) (w : World) (hT : InC .i64 w X ys) :
    Calls Tryz.prog 27 #[.slice X n C] w fun e w' => ∃ v, e = .returned v ∧ Below w.heap.size w w' ∧ SlV ys v w' := by
  subst hny
  have hq := eql_nilV
  rcases X with _ | ad
  · obtain rfl : ys = [] := by
      by_cases h0 : 0 < ys.length
      · obtain ⟨ad, e, _⟩ := hT h0
        cases e
      · exact List.eq_nil_of_length_eq_zero (by omega)
    go_enter Tryz.func27, Tryz.ntmps27
    go_wp2
    go_ret
    exact ⟨_, rfl, b0 w, none, 0, 0, rfl, rfl, CR.nil _ _ _ (by decide)⟩
  · have hlen : ([] : List Int).length + ys.length ≤ 1048576 := by simp; omega
    go_enter Tryz.func27, Tryz.ntmps27
    go_wp2_with (at_builtin; refine wpList_pushC rfl _ _ 25 rfl 8 Tryz.underlying25 long_info (by decide) w.heap.size _ [] ys (some ad) C rfl rfl (OwnC.fresh w) (hT.below (bA (b0 w) _)) hlen (by simp) ?_; intro v1 w1 ho1 hb1 hs1)
    go_ret
    rw [List.nil_append] at ho1
    obtain ⟨A, c, rfl, hr⟩ := ho1.cr
    exact ⟨_, rfl, hb1 _ (bA (b0 w) _), A, c, _, rfl, rfl, hr⟩
end Go.Proofs.YtmpfbkeamihjbaaGreat

/- USE AbsM -/
namespace Go.Proofs.YtmpfbkeamihjbaaGreat
open Go.RowKit
attribute [local go_sem] Oper.semAt_some

section
variable (X Y : Option Addr) (C E n m k j : Nat) (xs : List Rn) (ys : List Int) (kd A R N D er : Int)
set_option maxRecDepth 100000 in
set_option maxHeartbeats 8000000 in
theorem own_in (hk : (if (257 : Int) < (n : Int) then (257 : Int) else (n : Int)) = (k : Int)) (hj : (if (257 : Int) < (m : Int) then (257 : Int) else (m : Int)) = (j : Int)) (hn : n ≤ C) (hm : m ≤ E) (hkx : k = xs.length) (hjy : j = ys.length) (w : World) (hX : InR w X xs) (hY : InC .i64 w Y ys) :
    Calls Tryz.prog 9 #[.agg #[.int .i64 kd, .slice X n C, .int .i64 A, .int .i64 R, .int .i64 N, .int .i64 D, .slice Y m E, .int .i64 er]] w fun e w' => ∃ RA rc k' VA vc j', e = .returned (.agg #[.int .i64 kd, .slice RA k' rc, .int .i64 A, .int .i64 R, .int .i64 N, .int .i64 D, .slice VA j' vc, .int .i64 er]) ∧ Hid (k' = xs.length ∧ j' = ys.length) ∧ RR w' RA rc xs ∧ VR w' VA vc ys ∧ Below w.heap.size w w' := by
  have hkn : k ≤ n := by split at hk <;> omega
  have hk257 : k ≤ 257 := by split at hk <;> omega
  have hjm : j ≤ m := by split at hj <;> omega
  have hj257 : j ≤ 257 := by split at hj <;> omega
  have c1 := fun (c : Nat) w hX => clone_runs X c k xs hkx (by omega) w hX
  have c2 := fun (c : Nat) w hY => clone_longs Y c j ys hjy (by omega) w hY
  have HK := hide hkx
  have HJ := hide hjy
  clear hkx hjy
  go_enter Tryz.func9, Tryz.ntmps9
  go_wp2_with fail
  have hX1 := hX.below (bA (bA (b0 w) (.cells #[.int .i64 kd, .slice X n C, .int .i64 A, .int .i64 R, .int .i64 N, .int .i64 D, .slice Y m E, .int .i64 er] 27)) (.cells #[.int .i64 0, .slice none 0 0, .int .i64 0, .int .i64 0, .int .i64 0, .int .i64 0, .slice none 0 0, .int .i64 0] 27))
  have hY1 := hY.below (bA (bA (b0 w) (.cells #[.int .i64 kd, .slice X n C, .int .i64 A, .int .i64 R, .int .i64 N, .int .i64 D, .slice Y m E, .int .i64 er] 27)) (.cells #[.int .i64 0, .slice none 0 0, .int .i64 0, .int .i64 0, .int .i64 0, .int .i64 0, .slice none 0 0, .int .i64 0] 27))
  have f_s1 := (ka (na w #[.int .i64 kd, .slice X n C, .int .i64 A, .int .i64 R, .int .i64 N, .int .i64 D, .slice Y m E, .int .i64 er] 27) (.cells #[.int .i64 0, .slice none 0 0, .int .i64 0, .int .i64 0, .int .i64 0, .int .i64 0, .slice none 0 0, .int .i64 0] 27))
  have f_o1 := (na1 w (.cells #[.int .i64 kd, .slice X n C, .int .i64 A, .int .i64 R, .int .i64 N, .int .i64 D, .slice Y m E, .int .i64 er] 27) #[.int .i64 0, .slice none 0 0, .int .i64 0, .int .i64 0, .int .i64 0, .int .i64 0, .slice none 0 0, .int .i64 0] 27)
  have hB1 := (bA (bA (b0 w) (.cells #[.int .i64 kd, .slice X n C, .int .i64 A, .int .i64 R, .int .i64 N, .int .i64 D, .slice Y m E, .int .i64 er] 27)) (.cells #[.int .i64 0, .slice none 0 0, .int .i64 0, .int .i64 0, .int .i64 0, .int .i64 0, .slice none 0 0, .int .i64 0] 27))
  have ls1 := (rcell f_s1).2.2
  have lo1 := (rcell f_o1).2.2
  refine AbsM.wp_region_abs (AbsM.cls0 _) [0, 1, 2, 3, 4, 5, 6, 7, 8, 9, 10, 11, 12, 13, 14, 15, 16, 17, 18, 19] (by kernel_rfl) (by kernel_rfl) (Below.refl _ _).drew ?_
  repeat (first | (refine AbsM.step_pure rfl rfl (fun K hK => ?_); go_simp; (try go_bits); (first | refine hK _ _ ?_ | (simp only [↓IntWalk.iteOmega]; go_simp; (try go_bits); refine hK _ _ ?_)); clear hK K) | (refine AbsM.step_load (v := ?_) rfl rfl (by kernel_rfl) rfl (fun w0 hI => ?_) (fun K hK => ?_); rotate_left; (· have z0 := (rcell (kp hI (f_s1))).1; go_simp; rfl); (simp only [Act.put, List.setIfInBounds_toArray, List.set_cons_zero, List.set_cons_succ]; refine hK _ _ ?_; clear hK K)) | (refine AbsM.step_skip rfl rfl (fun K hK => ?_); (simp only [Act.put, List.setIfInBounds_toArray, List.set_cons_zero, List.set_cons_succ]; refine hK _ _ ?_; clear hK K)))
  (refine AbsM.step_call (f := ?_) (args := ?_) rfl rfl rfl rfl (SlR xs) (fun _ => Cl_SlR xs) (fun w0 => ?_) (fun w0 hI hF => ?_) (fun K hK v w0 hv => ?_); rotate_left 2; (· go_simp; (constructor <;> rfl)); (· exact c1 _ w0 (hX1.below hI)); (obtain ⟨A1, d1, n1, rfl, -⟩ := hv; clear w0; simp only [Act.put, List.setIfInBounds_toArray, List.set_cons_zero, List.set_cons_succ]; refine hK _ _ ?_; clear hK K))
  repeat (first | (refine AbsM.step_pure rfl rfl (fun K hK => ?_); go_simp; (try go_bits); (first | refine hK _ _ ?_ | (simp only [↓IntWalk.iteOmega]; go_simp; (try go_bits); refine hK _ _ ?_)); clear hK K) | (refine AbsM.step_load (v := ?_) rfl rfl (by kernel_rfl) rfl (fun w0 hI => ?_) (fun K hK => ?_); rotate_left; (· have z0 := (rcell (kp hI (f_s1))).1; go_simp; rfl); (simp only [Act.put, List.setIfInBounds_toArray, List.set_cons_zero, List.set_cons_succ]; refine hK _ _ ?_; clear hK K)) | (refine AbsM.step_skip rfl rfl (fun K hK => ?_); (simp only [Act.put, List.setIfInBounds_toArray, List.set_cons_zero, List.set_cons_succ]; refine hK _ _ ?_; clear hK K)))
  (refine AbsM.step_call (f := ?_) (args := ?_) rfl rfl rfl rfl (SlV ys) (fun _ => Cl_SlV ys) (fun w0 => ?_) (fun w0 hI hF => ?_) (fun K hK v w0 hv => ?_); rotate_left 2; (· go_simp; (constructor <;> rfl)); (· exact c2 _ w0 (hY1.below hI)); (obtain ⟨A2, d2, n2, rfl, -⟩ := hv; clear w0; simp only [Act.put, List.setIfInBounds_toArray, List.set_cons_zero, List.set_cons_succ]; refine hK _ _ ?_; clear hK K))
  repeat (first | (refine AbsM.step_pure rfl rfl (fun K hK => ?_); go_simp; (try go_bits); (first | refine hK _ _ ?_ | (simp only [↓IntWalk.iteOmega]; go_simp; (try go_bits); refine hK _ _ ?_)); clear hK K) | (refine AbsM.step_load (v := ?_) rfl rfl (by kernel_rfl) rfl (fun w0 hI => ?_) (fun K hK => ?_); rotate_left; (· have z0 := (rcell (kp hI (f_s1))).1; go_simp; rfl); (simp only [Act.put, List.setIfInBounds_toArray, List.set_cons_zero, List.set_cons_succ]; refine hK _ _ ?_; clear hK K)) | (refine AbsM.step_skip rfl rfl (fun K hK => ?_); (simp only [Act.put, List.setIfInBounds_toArray, List.set_cons_zero, List.set_cons_succ]; refine hK _ _ ?_; clear hK K)))
  (refine AbsM.step_store (T := ?_) rfl rfl rfl (fun w0 hI hF hU => ?_) (fun w0 hI hU hJ => ?_) (fun K hK => ?_); rotate_left; (· have hR := kp hI (f_s1); have hg0 := (rcell hR).1; have hg1 := (rcell hR).2.1; simp only [AbsM.T_setF, AbsM.T_addA, AbsM.T_push, AbsM.T_start]; go_simp; exact r8_at1 hR _); (· first | exact trivial | exact js hJ rfl _ | exact js hJ (Or.inl rfl) _ | exact js hJ (Or.inr rfl) _); (simp only [Act.put, List.setIfInBounds_toArray, List.set_cons_zero, List.set_cons_succ]; refine hK _ _ ?_; clear hK K))
  repeat (first | (refine AbsM.step_pure rfl rfl (fun K hK => ?_); go_simp; (try go_bits); (first | refine hK _ _ ?_ | (simp only [↓IntWalk.iteOmega]; go_simp; (try go_bits); refine hK _ _ ?_)); clear hK K) | (refine AbsM.step_load (v := ?_) rfl rfl (by kernel_rfl) rfl (fun w0 hI => ?_) (fun K hK => ?_); rotate_left; (· have z0 := (rcell (kp hI (f_s1))).1; go_simp; rfl); (simp only [Act.put, List.setIfInBounds_toArray, List.set_cons_zero, List.set_cons_succ]; refine hK _ _ ?_; clear hK K)) | (refine AbsM.step_skip rfl rfl (fun K hK => ?_); (simp only [Act.put, List.setIfInBounds_toArray, List.set_cons_zero, List.set_cons_succ]; refine hK _ _ ?_; clear hK K)))
  (refine AbsM.step_store (T := ?_) rfl rfl rfl (fun w0 hI hF hU => ?_) (fun w0 hI hU hJ => ?_) (fun K hK => ?_); rotate_left; (· have hR := setRow_same (cs' := #[.int .i64 kd, .slice A1 n1 d1, .int .i64 A, .int .i64 R, .int .i64 N, .int .i64 D, .slice Y m E, .int .i64 er]) (kp hI (f_s1)); have hg0 := (rcell hR).1; have hg1 := (rcell hR).2.1; simp only [AbsM.T_setF, AbsM.T_addA, AbsM.T_push, AbsM.T_start]; go_simp; exact r8_at6 hR _); (· exact trivial); (simp only [Act.put, List.setIfInBounds_toArray, List.set_cons_zero, List.set_cons_succ]; refine hK _ _ ?_; clear hK K))
  intro w0 hI hF hx1 hx2
  clear hx1 hx2
  simp only [AbsM.T_push]
  have q1 := SlR.rr ((hF 7).1.2 rfl)
  have q2 := SlV.vr ((hF 15).2 rfl)
  clear hF
  rw [setRow_setRow]
  have fo := kp hI (f_o1)
  have fs := kp hI (f_s1)
  generalize hT : setRow w0 w.heap.size _ = w2
  obtain ⟨hy, fs2⟩ := fin_x (b0 _) fs hT
  have r1 := q1.2.exc hy fs (by decide)
  have r2 := q2.2.exc hy fs (by decide)
  have B2 : Below w.heap.size w w2 := bX (bB hB1 hI) hy (Nat.le_refl _)
  have fo2 := kx hy fo (by omega)
  have HN := hide (And.intro q1.1 q2.1)
  clear hT hy fs fo q1 q2
  obtain ⟨zs_a, zs_b, ls2⟩ := rcell fs2
  obtain ⟨zo_a, zo_b, lo3⟩ := rcell fo2
  go_wp2_with fail
  rw [row8 (fo2)]
  generalize hT : setRow _ _ _ = w5
  obtain ⟨hx4, f4⟩ := fin_x (b0 _) (fo2) hT
  have r3 := r1.exc hx4 (fo2) (by decide)
  have r4 := r2.exc hx4 (fo2) (by decide)
  clear hT
  have zE := (rcell f4).1
  have zL := (rcell f4).2.2
  refine bodyPost_ret (by simp [results, Tryz.results9, go_sem, zE, zL]; try rfl) rfl ?_
  exact ⟨A1, d1, n1, A2, d2, n2, rfl, HN, r3, r4, bX B2 hx4 (by omega)⟩
end
end Go.Proofs.YtmpfbkeamihjbaaGreat
