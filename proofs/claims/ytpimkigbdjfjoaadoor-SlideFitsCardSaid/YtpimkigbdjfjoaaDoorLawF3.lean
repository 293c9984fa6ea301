/- yearbookref10.Fit at this program. -/
import Derived.Test.YtpimkigbdjfjoaaDoorLawF2
import Derived.Test.YtpimkigbdjfjoaaDoorP5
set_option linter.unusedSimpArgs false
set_option linter.unusedVariables false
namespace Go.Proofs.YtpimkigbdjfjoaaDoor
open Go.RowKit
attribute [local go_sem] Oper.semAt_some

set_option maxRecDepth 100000 in
set_option maxHeartbeats 1000000 in
theorem fit10_no (A : Option Addr) (c n : Nat) (R : World → Prop) (w : World) (hR : R w)
    (c1 : ∀ w, R w → Calls Tryd.prog 17 #[.slice A n c] w fun e w' => e = .returned (.tuple #[.agg #[.int .i64 0, .int .i64 0], .agg #[.int .i64 0, .int .i64 0], .bool false]) ∧ Below w.heap.size w w')
    (hb : ∀ w w', R w → Below w.heap.size w w' → R w') :
    Calls Tryd.prog 18 #[.slice A n c] w fun e w' => e = .returned (.tuple #[.agg #[.int .i64 0, .int .i64 0, .int .i64 0, .int .i64 0], .bool false]) ∧ Below w.heap.size w w' := by
  have hR1 := fun o => hb w _ hR (bA (b0 w) o)
  go_enter Tryd.func18, Tryd.ntmps18
  go_wp2_with fail
  refine (c1 _ (hR1 _)).mono ?_
  rintro e w1 ⟨rfl, hb1⟩
  have f_o1 := kp hb1 (na w #[.int .i64 0, .int .i64 0, .int .i64 0, .int .i64 0] 31)
  have hB1 := bB (bA (b0 w) (.cells #[.int .i64 0, .int .i64 0, .int .i64 0, .int .i64 0] 31)) hb1
  obtain ⟨zo_a, zo_b, lo1⟩ := rcell f_o1
  go_wp2_with fail
  rw [row4 f_o1]
  generalize hT2 : setRow _ _ _ = w2
  have hz2 : w2.heap.size = w1.heap.size := by rw [← hT2]; exact setRow_size _ _ _
  obtain ⟨hx2, f_o2⟩ := fin_x (b0 _) f_o1 hT2
  clear hT2
  have hB2 := bX hB1 hx2 (by omega)
  clear zo_a zo_b
  obtain ⟨zo_a, zo_b, lo2⟩ := rcell f_o2
  go_wp2_with fail
  have zz := (rcell (ka (ka (f_o2) (.cells #[.int .i64 0, .int .i64 0] 26)) (.cells #[.int .i64 0, .int .i64 0] 26))).1
  refine bodyPost_ret (by simp [results, Tryd.results18, go_sem, zz]; try rfl) rfl ⟨rfl, (bA (bA hB2 (.cells #[.int .i64 0, .int .i64 0] 26)) (.cells #[.int .i64 0, .int .i64 0] 26))⟩

set_option maxRecDepth 100000 in
set_option maxHeartbeats 1000000 in
theorem fit10_yes (A : Option Addr) (c n : Nat) (x0 x1 x2 x3 N D q r cc : Int) (ys : List Bd) (hn : Hid (ys.length = n)) (w : World) (hR : BR w A c ys)
    (c1 : ∀ w, BR w A c ys → Calls Tryd.prog 17 #[.slice A n c] w fun e w' => e = .returned (.tuple #[.agg #[.int .i64 x0, .int .i64 x1], .agg #[.int .i64 x2, .int .i64 x3], .bool true]) ∧ Below w.heap.size w w')
    (c2 : ∀ w, Calls Tryd.prog 50 #[.agg #[.int .i64 x0, .int .i64 x1], .agg #[.int .i64 x2, .int .i64 x3]] w fun e w' => e = .returned (.agg #[.int .i64 N, .int .i64 D]) ∧ Below w.heap.size w w')
    (c3 : ∀ w, BR w A c ys → Calls Tryd.prog 52 #[.slice A n c, .agg #[.int .i64 N, .int .i64 D]] w (GivesNum cc w))
    (c4 : ∀ A c w, Rd w A c (sz cc.natAbs) → Calls Tryd.prog 51 #[.agg #[.bool (decide (cc < 0)), .slice A (sz cc.natAbs).length c], .agg #[.int .i64 N, .int .i64 D]] w fun e w' => e = .returned (.tuple #[.agg #[.int .i64 q, .int .i64 r, .int .i64 N, .int .i64 D], .bool true]) ∧ Below w.heap.size w w') :
    Calls Tryd.prog 18 #[.slice A n c] w fun e w' => e = .returned (.tuple #[.agg #[.int .i64 q, .int .i64 r, .int .i64 N, .int .i64 D], .bool true]) ∧ Below w.heap.size w w' := by
  go_enter Tryd.func18, Tryd.ntmps18
  go_wp2_with fail
  refine (c1 _ (hR.below (bA (b0 _) (.cells #[.int .i64 0, .int .i64 0, .int .i64 0, .int .i64 0] 31)))).mono ?_
  rintro e w1 ⟨rfl, hb1⟩
  have f_o1 := kp hb1 (na w #[.int .i64 0, .int .i64 0, .int .i64 0, .int .i64 0] 31)
  have rd_l1 := (hR.below (bA (b0 _) (.cells #[.int .i64 0, .int .i64 0, .int .i64 0, .int .i64 0] 31))).below hb1
  have hB1 := bB (bA (b0 w) (.cells #[.int .i64 0, .int .i64 0, .int .i64 0, .int .i64 0] 31)) hb1
  obtain ⟨zo_a, zo_b, lo1⟩ := rcell f_o1
  go_wp2_with fail
  refine (c2 _).mono ?_
  rintro e w2 ⟨rfl, hb2⟩
  have f_o2 := kp hb2 (ka (ka (f_o1) (.cells #[.int .i64 x0, .int .i64 x1] 26)) (.cells #[.int .i64 x2, .int .i64 x3] 26))
  have f_a2 := kp hb2 (ka (na w1 #[.int .i64 x0, .int .i64 x1] 26) (.cells #[.int .i64 x2, .int .i64 x3] 26))
  have f_b2 := kp hb2 (na1 w1 (.cells #[.int .i64 x0, .int .i64 x1] 26) #[.int .i64 x2, .int .i64 x3] 26)
  have rd_l2 := (rd_l1.below (bA (bA (b0 _) (.cells #[.int .i64 x0, .int .i64 x1] 26)) (.cells #[.int .i64 x2, .int .i64 x3] 26))).below hb2
  have hB2 := bB (bA (bA hB1 (.cells #[.int .i64 x0, .int .i64 x1] 26)) (.cells #[.int .i64 x2, .int .i64 x3] 26)) hb2
  clear zo_a zo_b
  obtain ⟨zo_a, zo_b, lo2⟩ := rcell f_o2
  obtain ⟨za_a, za_b, la2⟩ := rcell f_a2
  obtain ⟨zb_a, zb_b, lb2⟩ := rcell f_b2
  go_wp2_with fail
  have f_o3 := (ka (f_o2) (.cells #[.int .i64 N, .int .i64 D] 26))
  have f_a3 := (ka (f_a2) (.cells #[.int .i64 N, .int .i64 D] 26))
  have f_b3 := (ka (f_b2) (.cells #[.int .i64 N, .int .i64 D] 26))
  have f_s3 := (na w2 #[.int .i64 N, .int .i64 D] 26)
  have rd_l3 := (rd_l2.below (bA (b0 _) (.cells #[.int .i64 N, .int .i64 D] 26)))
  have hB3 := (bA hB2 (.cells #[.int .i64 N, .int .i64 D] 26))
  clear za_a za_b zb_a zb_b zo_a zo_b
  have lo3 := (rcell f_o3).2.2
  have la3 := (rcell f_a3).2.2
  have lb3 := (rcell f_b3).2.2
  have ls3 := (rcell f_s3).2.2
  refine Abs.wp_region_abs (Abs.cls0 _) [0, 1, 2, 3, 4, 5, 6, 7, 8] (by kernel_rfl) (by kernel_rfl) (Below.refl _ _).drew ?_
  repeat (first | (refine Abs.step_pure rfl rfl (fun K hK => ?_); go_simp; (try go_bits); (first | refine hK _ _ ?_ | (simp only [↓IntWalk.iteOmega]; go_simp; (try go_bits); refine hK _ _ ?_)); clear hK K) | (refine Abs.step_load (v := ?_) rfl rfl (by kernel_rfl) rfl (fun w0 hI => ?_) (fun K hK => ?_); rotate_left; (· have z0 := (rcell (kp hI (f_s3))).1; go_simp; rfl); (simp only [Act.put, List.setIfInBounds_toArray, List.set_cons_zero, List.set_cons_succ]; refine hK _ _ ?_; clear hK K)) | (refine Abs.step_skip rfl rfl (fun K hK => ?_); (simp only [Act.put, List.setIfInBounds_toArray, List.set_cons_zero, List.set_cons_succ]; refine hK _ _ ?_; clear hK K)))
  (refine Abs.step_call (f := ?_) (args := ?_) rfl rfl rfl rfl (NumIs (cc)) (fun _ => Cl_NumIs _) (fun w0 => ?_) (fun w0 hI hF => ?_) (fun K hK v w0 hv => ?_); rotate_left 2; (· go_simp; (constructor <;> rfl)); (· exact (c3 _ (rd_l3.below hI)).mono (fun _ _ h => h.num)); (obtain ⟨A1, e1, rfl, -⟩ := hv; clear w0; simp only [Act.put, List.setIfInBounds_toArray, List.set_cons_zero, List.set_cons_succ]; refine hK _ _ ?_; clear hK K))
  repeat (first | (refine Abs.step_pure rfl rfl (fun K hK => ?_); go_simp; (try go_bits); (first | refine hK _ _ ?_ | (simp only [↓IntWalk.iteOmega]; go_simp; (try go_bits); refine hK _ _ ?_)); clear hK K) | (refine Abs.step_load (v := ?_) rfl rfl (by kernel_rfl) rfl (fun w0 hI => ?_) (fun K hK => ?_); rotate_left; (· have z0 := (rcell (kp hI (f_s3))).1; go_simp; rfl); (simp only [Act.put, List.setIfInBounds_toArray, List.set_cons_zero, List.set_cons_succ]; refine hK _ _ ?_; clear hK K)) | (refine Abs.step_skip rfl rfl (fun K hK => ?_); (simp only [Act.put, List.setIfInBounds_toArray, List.set_cons_zero, List.set_cons_succ]; refine hK _ _ ?_; clear hK K)))
  (refine Abs.step_call (f := ?_) (args := ?_) rfl rfl rfl rfl (fun v _ => v = .tuple #[.agg #[.int .i64 q, .int .i64 r, .int .i64 N, .int .i64 D], .bool true]) (fun _ _ _ h _ => h) (fun w0 => ?_) (fun w0 hI hF => ?_) (fun K hK v w0 hv => ?_); rotate_left 2; (· go_simp; (constructor <;> rfl)); (· exact (c4 _ _ _ ((hF 2 (by kernel_rfl)).2 rfl).rd).mono (fun _ _ h => ⟨_, h.1, h.2, rfl⟩)); (replace hv : v = .tuple #[.agg #[.int .i64 q, .int .i64 r, .int .i64 N, .int .i64 D], .bool true] := hv; subst hv; clear w0; simp only [Act.put, List.setIfInBounds_toArray, List.set_cons_zero, List.set_cons_succ]; refine hK _ _ ?_; clear hK K))
  repeat (first | (refine Abs.step_pure rfl rfl (fun K hK => ?_); go_simp; (try go_bits); (first | refine hK _ _ ?_ | (simp only [↓IntWalk.iteOmega]; go_simp; (try go_bits); refine hK _ _ ?_)); clear hK K) | (refine Abs.step_load (v := ?_) rfl rfl (by kernel_rfl) rfl (fun w0 hI => ?_) (fun K hK => ?_); rotate_left; (· have z0 := (rcell (kp hI (f_s3))).1; go_simp; rfl); (simp only [Act.put, List.setIfInBounds_toArray, List.set_cons_zero, List.set_cons_succ]; refine hK _ _ ?_; clear hK K)) | (refine Abs.step_skip rfl rfl (fun K hK => ?_); (simp only [Act.put, List.setIfInBounds_toArray, List.set_cons_zero, List.set_cons_succ]; refine hK _ _ ?_; clear hK K)))
  (refine Abs.step_store (T := ?_) rfl rfl rfl (fun w0 hI hF hU => ?_) (fun w0 hI hU hJ => ?_) (fun K hK => ?_); rotate_left; (· have hR := kp hI (f_o3); have hg0 := (rcell hR).1; have hg1 := (rcell hR).2.1; simp only [Abs.T_setF, Abs.T_addA, Abs.T_push, Abs.T_start]; go_simp; exact row4 hR _ _ _ _); (· first | exact trivial | exact js hJ rfl _ | exact js hJ (Or.inl rfl) _ | exact js hJ (Or.inr rfl) _); (simp only [Act.put, List.setIfInBounds_toArray, List.set_cons_zero, List.set_cons_succ]; refine hK _ _ ?_; clear hK K))
  repeat (first | (refine Abs.step_pure rfl rfl (fun K hK => ?_); go_simp; (try go_bits); (first | refine hK _ _ ?_ | (simp only [↓IntWalk.iteOmega]; go_simp; (try go_bits); refine hK _ _ ?_)); clear hK K) | (refine Abs.step_load (v := ?_) rfl rfl (by kernel_rfl) rfl (fun w0 hI => ?_) (fun K hK => ?_); rotate_left; (· have z0 := (rcell (kp hI (f_s3))).1; go_simp; rfl); (simp only [Act.put, List.setIfInBounds_toArray, List.set_cons_zero, List.set_cons_succ]; refine hK _ _ ?_; clear hK K)) | (refine Abs.step_skip rfl rfl (fun K hK => ?_); (simp only [Act.put, List.setIfInBounds_toArray, List.set_cons_zero, List.set_cons_succ]; refine hK _ _ ?_; clear hK K)))
  intro w0 hI hF hx1 hx2
  clear hx1 hx2 hF
  simp only [Abs.T_push]
  generalize hT4 : setRow w0 _ _ = w4
  obtain ⟨hx4, f_o4⟩ := fin_x hI (f_o3) hT4
  clear hT4 hI w0
  have f_a4 := kx hx4 (f_a3) (by omega)
  have f_b4 := kx hx4 (f_b3) (by omega)
  have f_s4 := kx hx4 (f_s3) (by omega)
  have rd_l4 := rd_l3.exc hx4 (f_o3) (by decide)
  have hB4 := bX hB3 hx4 (by omega)
  obtain ⟨za_a, za_b, la4⟩ := rcell f_a4
  obtain ⟨zb_a, zb_b, lb4⟩ := rcell f_b4
  obtain ⟨zs_a, zs_b, ls4⟩ := rcell f_s4
  obtain ⟨zo_a, zo_b, lo4⟩ := rcell f_o4
  go_wp2_with fail
  refine bodyPost_ret (by simp [results, Tryd.results18, go_sem, zo_a]; try rfl) rfl ⟨rfl, hB4⟩

/-- the nearest slope of lowest ones is that of the ones they stand for -/
theorem nrS_lows {s : Sl × Sl} (h1 : slIs s.1 = true) (h2 : slIs s.2 = true) :
    nrN (lwN s.1.n s.1.d) (lwD s.1.n s.1.d) (lwN s.2.n s.2.d) (lwD s.2.n s.2.d) = (nrS s).n ∧ nrD (lwN s.1.n s.1.d) (lwD s.1.n s.1.d) (lwN s.2.n s.2.d) (lwD s.2.n s.2.d) = (nrS s).d := by
  obtain ⟨-, a1, a2⟩ := low_low h1
  obtain ⟨-, b1, b2⟩ := low_low h2
  have p1 := dvN_pos (N := s.1.n) (D := s.1.d) (slB_spec h1).1
  have p2 := dvN_pos (N := s.2.n) (D := s.2.d) (slB_spec h2).1
  have m1 : s.1.n = lwN s.1.n s.1.d * dvN s.1.n s.1.d := lwN_mul.symm
  have m2 : s.2.n = lwN s.2.n s.2.d * dvN s.2.n s.2.d := lwN_mul.symm
  have e1 : (0 < lwN s.1.n s.1.d) = (0 < s.1.n) := propext ⟨fun h => by rw [m1]; exact Int.mul_pos h (by omega), fun h => by
    rcases Int.lt_or_le 0 (lwN s.1.n s.1.d) with h' | h'
    · exact h'
    · have := Int.mul_nonneg (show 0 ≤ -lwN s.1.n s.1.d by omega) (show (0 : Int) ≤ dvN s.1.n s.1.d by omega)
      rw [Int.neg_mul] at this
      omega⟩
  have e2 : (lwN s.2.n s.2.d < 0) = (s.2.n < 0) := propext ⟨fun h => by
      have := Int.mul_pos (show 0 < -lwN s.2.n s.2.d by omega) (show (0 : Int) < dvN s.2.n s.2.d by omega)
      rw [Int.neg_mul] at this
      omega, fun h => by
    rcases Int.lt_or_le (lwN s.2.n s.2.d) 0 with h' | h'
    · exact h'
    · have := Int.mul_nonneg h' (show (0 : Int) ≤ dvN s.2.n s.2.d by omega)
      omega⟩
  unfold nrS nrN nrD
  dsimp only
  rw [a1, a2, b1, b2]
  simp only [e1, e2, and_self]

theorem ref10_Fit_yes (A : Option Addr) (c : Nat) (l : List Bd) (h : okB l = true) (ho : slOpen (sk l l.length) = true) (w : World) (hR : BR w A c l) :
    Calls Tryd.prog 18 #[.slice A l.length c] w fun e w' => e = .returned (.tuple #[.agg #[.int .i64 (fC l / (fS l).d), .int .i64 (fC l % (fS l).d), .int .i64 (fS l).n, .int .i64 (fS l).d], .bool true]) ∧ Below w.heap.size w w' := by
  obtain ⟨k0, k1, k2⟩ := okB_spec h
  have hv := sk_inv k2 l.length (Nat.le_refl _)
  have hL := fS_low h
  obtain ⟨n1, n2⟩ := nrS_lows hv.v1 hv.v2
  have g1 := (low_low hv.v1).1
  have g2 := (low_low hv.v2).1
  have hK := lwK_rng k2 hL.1 l.length (Nat.le_refl _)
  have lx : (sz (fC l).natAbs).length ≤ 800 := by
    have e : (2 : Nat) ^ 127 = 170141183460469231731687303715884105728 := by decide
    exact Nat.le_trans (sz_len_lt (k := 127) (by rw [e]; unfold fC; omega)) (by decide)
  have cN := fun w => ref_Nearest _ _ _ _ g1 g2 w
  rw [n1, n2] at cN
  exact fit10_yes A c l.length _ _ _ _ (fS l).n (fS l).d (fC l / (fS l).d) (fC l % (fS l).d) (fC l) l (hide rfl) w hR
    (fun w hR => ref10_Slopes A c l h true ho _ _ _ _ (fun e => by cases e) (fun _ => ⟨rfl, rfl, rfl, rfl⟩) w hR) cN
    (fun w hR => ref10_Low A c l h (fS l).n (fS l).d hL.1 w hR)
    (fun A c w ha => ref_Raised_yes (fC l) (fS l).n (fS l).d A c hL.1 lx (fC_bk h ho) w ha)
theorem ref10_Fit_no (A : Option Addr) (c : Nat) (l : List Bd) (h : okB l = true) (ho : slOpen (sk l l.length) = false) (w : World) (hR : BR w A c l) :
    Calls Tryd.prog 18 #[.slice A l.length c] w fun e w' => e = .returned (.tuple #[.agg #[.int .i64 0, .int .i64 0, .int .i64 0, .int .i64 0], .bool false]) ∧ Below w.heap.size w w' :=
  fit10_no A c l.length (fun w => BR w A c l) w hR
    (fun w hR => ref10_Slopes A c l h false ho 0 0 0 0 (fun _ => ⟨rfl, rfl, rfl, rfl⟩) (fun e => by cases e) w hR) (fun w w' h hb => h.below hb)
end Go.Proofs.YtpimkigbdjfjoaaDoor
