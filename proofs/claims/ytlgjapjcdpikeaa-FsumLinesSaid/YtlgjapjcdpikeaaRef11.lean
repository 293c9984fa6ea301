/- yearbookref05 at this program, on: Back, Time, Raised; line.Of and line.Raised. -/
import Derived.Test.YtlgjapjcdpikeaaRef10
import Derived.Test.YtlgjapjcdpikeaaLineOf
set_option linter.unusedSimpArgs false
set_option linter.unusedVariables false
namespace Go.Proofs.Ytlgjapjcdpikeaa
open Go.RowKit

theorem ref_Back0 (v : Int) (w : World) : Calls Try.prog 32 #[.int .i64 v] w fun e w' => e = .returned (.bool (bkB v)) ∧ w = w' := by
  by_cases h1 : -2305844108725321728 ≤ v
  · by_cases h2 : v ≤ 2305844108725321728
    · have hb : bkB v = true := decide_eq_true ⟨h1, h2⟩
      rw [hb]
      clear hb
      go_enter Try.func32, Try.ntmps32
      go_wp2
      go_ret
      exact ⟨rfl, rfl⟩
    · have hb : bkB v = false := decide_eq_false (fun h => h2 h.2)
      rw [hb]
      clear hb
      go_enter Try.func32, Try.ntmps32
      go_wp2
      go_ret
      exact ⟨rfl, rfl⟩
  · have hb : bkB v = false := decide_eq_false (fun h => h1 h.1)
    rw [hb]
    clear hb
    go_enter Try.func32, Try.ntmps32
    go_wp2
    go_ret
    exact ⟨rfl, rfl⟩

theorem ref_Time0 (v : Int) (w : World) : Calls Try.prog 37 #[.int .i64 v] w fun e w' => e = .returned (.bool (tmB v)) ∧ w = w' := by
  by_cases h1 : 0 ≤ v
  · by_cases h2 : v ≤ 281474976710656
    · have hb : tmB v = true := decide_eq_true ⟨h1, h2⟩
      rw [hb]
      clear hb
      go_enter Try.func37, Try.ntmps37
      go_wp2
      go_ret
      exact ⟨rfl, rfl⟩
    · have hb : tmB v = false := decide_eq_false (fun h => h2 h.2)
      rw [hb]
      clear hb
      go_enter Try.func37, Try.ntmps37
      go_wp2
      go_ret
      exact ⟨rfl, rfl⟩
  · have hb : tmB v = false := decide_eq_false (fun h => h1 h.1)
    rw [hb]
    clear hb
    go_enter Try.func37, Try.ntmps37
    go_wp2
    go_ret
    exact ⟨rfl, rfl⟩

set_option maxHeartbeats 1000000 in

theorem ref_Back (v : Int) (w : World) : Calls Try.prog 32 #[.int .i64 v] w fun e w' => e = .returned (.bool (bkB v)) ∧ Below w.heap.size w w' :=
  (ref_Back0 v w).mono fun e w' ⟨h1, h2⟩ => ⟨h1, h2 ▸ Below.refl _ _⟩
theorem ref_Time (v : Int) (w : World) : Calls Try.prog 37 #[.int .i64 v] w fun e w' => e = .returned (.bool (tmB v)) ∧ Below w.heap.size w w' :=
  (ref_Time0 v w).mono fun e w' ⟨h1, h2⟩ => ⟨h1, h2 ▸ Below.refl _ _⟩

/-- a value is two numbers -/
def Num2Is (x y : Int) (v : Value) (w : World) : Prop := ∃ A c B d, v = .tuple #[.agg #[.bool (decide (x < 0)), .slice A (sz x.natAbs).length c], .agg #[.bool (decide (y < 0)), .slice B (sz y.natAbs).length d]] ∧ Rd w A c (sz x.natAbs) ∧ Rd w B d (sz y.natAbs)
theorem Num2Is.rds {x y : Int} {A B : Option Addr} {b b' : Bool} {m c n d : Nat} {w : World} (h : Num2Is x y (.tuple #[.agg #[.bool b, .slice A m c], .agg #[.bool b', .slice B n d]]) w) : Rd w A c (sz x.natAbs) ∧ Rd w B d (sz y.natAbs) := by
  obtain ⟨A', c', B', d', e, hr, hs⟩ := h
  simp at e
  obtain ⟨⟨_, rfl, _, rfl⟩, _, rfl, _, rfl⟩ := e
  exact ⟨hr, hs⟩
theorem Cl_Num2Is (x y : Int) {v : Value} : Abs.Cl (fun _ => False) (Num2Is x y v) := by
  intro w w' ⟨A, c, B, d, e, hr, hs⟩ h
  have key : ∀ {A : Option Addr} {c : Nat} {l : List Nat}, Rd w A c l → Rd w' A c l := fun {A c l} hr => by
    refine ⟨hr.cap, fun hl => ?_⟩
    obtain ⟨g, cur, e1, hg, hc⟩ := hr.mem hl
    exact ⟨g, cur, e1, (h.block g (Array.getElem?_eq_some_iff.1 hg).1 (fun hf => hf)).trans hg, hc⟩
  exact ⟨A, c, B, d, e, key hr, key hs⟩
theorem GivesNum2.num2 {x y : Int} {w w' : World} {e : Ending} (h : GivesNum2 x y w e w') : ∃ v, e = .returned v ∧ Below w.heap.size w w' ∧ Num2Is x y v w' := by
  obtain ⟨A, c, B, d, he, hb, hr, hs⟩ := h
  exact ⟨_, he, hb, A, c, B, d, rfl, hr, hs⟩

set_option maxRecDepth 100000 in
set_option maxHeartbeats 2000000 in
theorem ref_Raised_yes (x N D : Int) (A : Option Addr) (c : Nat) (h : slB N D = true) (lx : (sz x.natAbs).length ≤ 800) (hq : bkB (x / D) = true) (w : World) (ha : Rd w A c (sz x.natAbs)) :
    Calls Try.prog 33 #[.agg #[.bool (decide (x < 0)), .slice A (sz x.natAbs).length c], .agg #[.int .i64 N, .int .i64 D]] w fun e w' => e = .returned (.tuple #[.agg #[.int .i64 (x / D), .int .i64 (x % D), .int .i64 N, .int .i64 D], .bool true]) ∧ Below w.heap.size w w' := by
  obtain ⟨d1, d2, d3, d4⟩ := slB_spec h
  have lD : (sz D.natAbs).length ≤ 800 := Nat.le_trans (sz_i64 (by omega) (by omega)) (by decide)
  have c1 := ref_Int D (by omega) (by omega)
  have c2 := fun B d w ha hb => ref_Div x D A B c d (by omega) lx lD w ha hb
  have hq2 : -2305844108725321728 ≤ x / D ∧ x / D ≤ 2305844108725321728 := of_decide_eq_true hq
  have r0 : 0 ≤ x % D := Int.emod_nonneg _ (by omega)
  have r1 : x % D < D := Int.emod_lt_of_pos _ (by omega)
  have c3 := fun A c w ha => ref_Value_yes (x / D) A c (by omega) (by omega) w ha
  have c4 := ref_Back (x / D)
  have c5 := fun A c w ha => ref_Value_yes (x % D) A c (by omega) (by omega) w ha
  rw [hq] at c4
  clear h lx hq hq2 r0 r1 lD d1 d2 d3 d4
  generalize x / D = q at *
  generalize x % D = r at *
  generalize x.natAbs = X at *
  generalize decide (x < 0) = p at *
  go_enter Try.func33, Try.ntmps33
  go_wp2_with fail
  have f_a1 := (ka (ka (na w #[.bool p, .slice A (sz X).length c] 55) (.cells #[.int .i64 N, .int .i64 D] 33)) (.cells #[.int .i64 0, .int .i64 0, .int .i64 0, .int .i64 0] 23))
  have f_s1 := (ka (na1 w (.cells #[.bool p, .slice A (sz X).length c] 55) #[.int .i64 N, .int .i64 D] 33) (.cells #[.int .i64 0, .int .i64 0, .int .i64 0, .int .i64 0] 23))
  have f_o1 := (na2 w (.cells #[.bool p, .slice A (sz X).length c] 55) (.cells #[.int .i64 N, .int .i64 D] 33) #[.int .i64 0, .int .i64 0, .int .i64 0, .int .i64 0] 23)
  have rd_a1 := (ha.below (bA (bA (bA (b0 _) (.cells #[.bool p, .slice A (sz X).length c] 55)) (.cells #[.int .i64 N, .int .i64 D] 33)) (.cells #[.int .i64 0, .int .i64 0, .int .i64 0, .int .i64 0] 23)))
  have hB1 := (bA (bA (bA (b0 w) (.cells #[.bool p, .slice A (sz X).length c] 55)) (.cells #[.int .i64 N, .int .i64 D] 33)) (.cells #[.int .i64 0, .int .i64 0, .int .i64 0, .int .i64 0] 23))
  have la1 := (rcell f_a1).2.2
  have ls1 := (rcell f_s1).2.2
  have lo1 := (rcell f_o1).2.2
  refine Abs.wp_region_abs (Abs.cls0 _) [0, 1, 2, 3, 4, 5, 6, 7, 8, 9, 10, 11] (by kernel_rfl) (by kernel_rfl) (Below.refl _ _).drew ?_
  repeat (first | (refine Abs.step_pure rfl rfl (fun K hK => ?_); go_simp; (try go_bits); (first | refine hK _ _ ?_ | (simp only [↓IntWalk.iteOmega]; go_simp; (try go_bits); refine hK _ _ ?_)); clear hK K) | (refine Abs.step_load (v := ?_) rfl rfl (by kernel_rfl) rfl (fun w0 hI => ?_) (fun K hK => ?_); rotate_left; (· have z0 := (rcell (kp hI (f_a1))).1; have z1 := (rcell (kp hI (f_s1))).1; go_simp; rfl); (simp only [Act.put, List.setIfInBounds_toArray, List.set_cons_zero, List.set_cons_succ]; refine hK _ _ ?_; clear hK K)) | (refine Abs.step_skip rfl rfl (fun K hK => ?_); (simp only [Act.put, List.setIfInBounds_toArray, List.set_cons_zero, List.set_cons_succ]; refine hK _ _ ?_; clear hK K)))
  (refine Abs.step_call (f := ?_) (args := ?_) rfl rfl rfl rfl (NumIs (D)) (fun _ => Cl_NumIs _) (fun w0 => ?_) (fun w0 hI hF => ?_) (fun K hK v w0 hv => ?_); rotate_left 2; (· go_simp; (constructor <;> rfl)); (· exact (c1 _).mono (fun _ _ h => h.num)); (obtain ⟨A1, e1, rfl, -⟩ := hv; clear w0; simp only [Act.put, List.setIfInBounds_toArray, List.set_cons_zero, List.set_cons_succ]; refine hK _ _ ?_; clear hK K))
  repeat (first | (refine Abs.step_pure rfl rfl (fun K hK => ?_); go_simp; (try go_bits); (first | refine hK _ _ ?_ | (simp only [↓IntWalk.iteOmega]; go_simp; (try go_bits); refine hK _ _ ?_)); clear hK K) | (refine Abs.step_load (v := ?_) rfl rfl (by kernel_rfl) rfl (fun w0 hI => ?_) (fun K hK => ?_); rotate_left; (· have z0 := (rcell (kp hI (f_a1))).1; have z1 := (rcell (kp hI (f_s1))).1; go_simp; rfl); (simp only [Act.put, List.setIfInBounds_toArray, List.set_cons_zero, List.set_cons_succ]; refine hK _ _ ?_; clear hK K)) | (refine Abs.step_skip rfl rfl (fun K hK => ?_); (simp only [Act.put, List.setIfInBounds_toArray, List.set_cons_zero, List.set_cons_succ]; refine hK _ _ ?_; clear hK K)))
  (refine Abs.step_call (f := ?_) (args := ?_) rfl rfl rfl rfl (Num2Is (q) (r)) (fun _ => Cl_Num2Is _ _) (fun w0 => ?_) (fun w0 hI hF => ?_) (fun K hK v w0 hv => ?_); rotate_left 2; (· go_simp; (constructor <;> rfl)); (· exact (c2 _ _ _ (rd_a1.below hI) ((hF 3 (by kernel_rfl)).2 rfl).rd).mono (fun _ _ h => h.num2)); (obtain ⟨A2, e2, A3, e3, rfl, -, -⟩ := hv; clear w0; simp only [Act.put, List.setIfInBounds_toArray, List.set_cons_zero, List.set_cons_succ]; refine hK _ _ ?_; clear hK K))
  repeat (first | (refine Abs.step_pure rfl rfl (fun K hK => ?_); go_simp; (try go_bits); (first | refine hK _ _ ?_ | (simp only [↓IntWalk.iteOmega]; go_simp; (try go_bits); refine hK _ _ ?_)); clear hK K) | (refine Abs.step_load (v := ?_) rfl rfl (by kernel_rfl) rfl (fun w0 hI => ?_) (fun K hK => ?_); rotate_left; (· have z0 := (rcell (kp hI (f_a1))).1; have z1 := (rcell (kp hI (f_s1))).1; go_simp; rfl); (simp only [Act.put, List.setIfInBounds_toArray, List.set_cons_zero, List.set_cons_succ]; refine hK _ _ ?_; clear hK K)) | (refine Abs.step_skip rfl rfl (fun K hK => ?_); (simp only [Act.put, List.setIfInBounds_toArray, List.set_cons_zero, List.set_cons_succ]; refine hK _ _ ?_; clear hK K)))
  (refine Abs.step_var (obj := ?_) rfl rfl rfl rfl (fun w0 => ?_) (fun K hK g_q hv_q hu_q => ?_); rotate_left; (· go_simp; rfl); (simp only [Act.put, List.setIfInBounds_toArray, List.set_cons_zero, List.set_cons_succ]; refine hK _ _ ?_; clear hK K))
  repeat (first | (refine Abs.step_pure rfl rfl (fun K hK => ?_); go_simp; (try go_bits); (first | refine hK _ _ ?_ | (simp only [↓IntWalk.iteOmega]; go_simp; (try go_bits); refine hK _ _ ?_)); clear hK K) | (refine Abs.step_load (v := ?_) rfl rfl (by kernel_rfl) rfl (fun w0 hI => ?_) (fun K hK => ?_); rotate_left; (· have z0 := (rcell (kp hI (f_a1))).1; have z1 := (rcell (kp hI (f_s1))).1; go_simp; rfl); (simp only [Act.put, List.setIfInBounds_toArray, List.set_cons_zero, List.set_cons_succ]; refine hK _ _ ?_; clear hK K)) | (refine Abs.step_skip rfl rfl (fun K hK => ?_); (simp only [Act.put, List.setIfInBounds_toArray, List.set_cons_zero, List.set_cons_succ]; refine hK _ _ ?_; clear hK K)))
  (refine Abs.step_var (obj := ?_) rfl rfl rfl rfl (fun w0 => ?_) (fun K hK g_t hv_t hu_t => ?_); rotate_left; (· go_simp; rfl); (simp only [Act.put, List.setIfInBounds_toArray, List.set_cons_zero, List.set_cons_succ]; refine hK _ _ ?_; clear hK K))
  repeat (first | (refine Abs.step_pure rfl rfl (fun K hK => ?_); go_simp; (try go_bits); (first | refine hK _ _ ?_ | (simp only [↓IntWalk.iteOmega]; go_simp; (try go_bits); refine hK _ _ ?_)); clear hK K) | (refine Abs.step_load (v := ?_) rfl rfl (by kernel_rfl) rfl (fun w0 hI => ?_) (fun K hK => ?_); rotate_left; (· have z0 := (rcell (kp hI (f_a1))).1; have z1 := (rcell (kp hI (f_s1))).1; go_simp; rfl); (simp only [Act.put, List.setIfInBounds_toArray, List.set_cons_zero, List.set_cons_succ]; refine hK _ _ ?_; clear hK K)) | (refine Abs.step_skip rfl rfl (fun K hK => ?_); (simp only [Act.put, List.setIfInBounds_toArray, List.set_cons_zero, List.set_cons_succ]; refine hK _ _ ?_; clear hK K)))
  (refine Abs.step_store (T := ?_) rfl rfl rfl (fun w0 hI hF hU => ?_) (fun _ _ _ _ => trivial) (fun K hK => ?_); rotate_left; (· have hR := (hF 8).1.2 rfl; have hg0 := (rcell hR).1; have hg1 := (rcell hR).2.1; simp only [Abs.T_setF, Abs.T_addA, Abs.T_push, Abs.T_start]; go_simp; exact row2 hR _ _); (simp only [Act.put, List.setIfInBounds_toArray, List.set_cons_zero, List.set_cons_succ]; refine hK _ _ ?_; clear hK K))
  (refine Abs.step_store (T := ?_) rfl rfl rfl (fun w0 hI hF hU => ?_) (fun _ _ _ _ => trivial) (fun K hK => ?_); rotate_left; (· have hR := fun cs => (setRow_other (w := w0) (g := g_q) cs (fun e => hu_t (Or.inl e))).trans ((hF 9).2 rfl); have hg0 := fun cs => (rcell (hR cs)).1; have hg1 := fun cs => (rcell (hR cs)).2.1; simp only [Abs.T_setF, Abs.T_addA, Abs.T_push, Abs.T_start]; go_simp; exact row2 (hR _) _ _); (simp only [Act.put, List.setIfInBounds_toArray, List.set_cons_zero, List.set_cons_succ]; refine hK _ _ ?_; clear hK K))
  have hs_q := leB hv_q
  try simp only [World.size_alloc] at hs_q
  have hs_t := leB hv_t
  try simp only [World.size_alloc] at hs_t
  have hn : g_t ≠ g_q := fun e => hu_t (Or.inl e)
  intro w0 hI hF hx1 hx2
  clear hx1 hx2
  have q1 := (hF 8).1.2 rfl
  have q2 := (hF 9).2 rfl
  have rn_q := ((hF 4).1.1.2 rfl).rds.1
  have rn_t := ((hF 4).1.1.2 rfl).rds.2
  clear hF
  simp only [Abs.T_push]
  generalize hTa : setRow w0 _ _ = wa
  have ea := (fin_x (b0 _) q1 hTa).1
  replace rn_q := rn_q.exc ea q1 (by decide)
  replace rn_t := rn_t.exc ea q1 (by decide)
  obtain ⟨ba, fa⟩ := fin1 hI hv_q q1 hTa
  have q3 : wa.heap[g_t]? = w0.heap[g_t]? := by rw [← hTa]; exact setRow_other _ hn
  replace q2 := q3.trans q2
  clear q3
  generalize hTb : setRow wa _ _ = w2
  have eb := (fin_x (b0 _) q2 hTb).1
  replace rn_q := rn_q.exc eb q2 (by decide)
  replace rn_t := rn_t.exc eb q2 (by decide)
  obtain ⟨hb2, f_t2⟩ := fin1 ba hv_t q2 hTb
  have q4 : w2.heap[g_q]? = wa.heap[g_q]? := by rw [← hTb]; exact setRow_other _ hn.symm
  have f_q2 := q4.trans fa
  clear q4
  clear hTa hTb ea eb q1 q2 fa ba hI w0
  have f_a2 := kp hb2 (f_a1)
  have f_s2 := kp hb2 (f_s1)
  have f_o2 := kp hb2 (f_o1)
  have rd_a2 := rd_a1.below hb2
  have hB2 := bB hB1 hb2
  obtain ⟨za_a, za_b, la2⟩ := rcell f_a2
  obtain ⟨zs_a, zs_b, ls2⟩ := rcell f_s2
  obtain ⟨zo_a, zo_b, lo2⟩ := rcell f_o2
  obtain ⟨zq_a, zq_b, lq2⟩ := rcell f_q2
  obtain ⟨zt_a, zt_b, lt2⟩ := rcell f_t2
  go_wp2_with fail
  refine (c3 _ _ _ rn_q).mono ?_
  rintro e w3 ⟨rfl, hb3⟩
  have f_a3 := kp hb3 (f_a2)
  have f_s3 := kp hb3 (f_s2)
  have f_o3 := kp hb3 (f_o2)
  have f_q3 := kp hb3 (f_q2)
  have f_t3 := kp hb3 (f_t2)
  have rd_a3 := rd_a2.below hb3
  have rd_q3 := rn_q.below hb3
  have rd_t3 := rn_t.below hb3
  have hB3 := bB hB2 hb3
  clear za_a za_b zo_a zo_b zq_a zq_b zs_a zs_b zt_a zt_b
  obtain ⟨za_a, za_b, la3⟩ := rcell f_a3
  obtain ⟨zs_a, zs_b, ls3⟩ := rcell f_s3
  obtain ⟨zo_a, zo_b, lo3⟩ := rcell f_o3
  obtain ⟨zq_a, zq_b, lq3⟩ := rcell f_q3
  obtain ⟨zt_a, zt_b, lt3⟩ := rcell f_t3
  go_wp2_with fail
  refine (c4 _).mono ?_
  rintro e w4 ⟨rfl, hb4⟩
  have f_a4 := kp hb4 (f_a3)
  have f_s4 := kp hb4 (f_s3)
  have f_o4 := kp hb4 (f_o3)
  have f_q4 := kp hb4 (f_q3)
  have f_t4 := kp hb4 (f_t3)
  have rd_a4 := rd_a3.below hb4
  have rd_q4 := rd_q3.below hb4
  have rd_t4 := rd_t3.below hb4
  have hB4 := bB hB3 hb4
  clear za_a za_b zo_a zo_b zq_a zq_b zs_a zs_b zt_a zt_b
  obtain ⟨za_a, za_b, la4⟩ := rcell f_a4
  obtain ⟨zs_a, zs_b, ls4⟩ := rcell f_s4
  obtain ⟨zo_a, zo_b, lo4⟩ := rcell f_o4
  obtain ⟨zq_a, zq_b, lq4⟩ := rcell f_q4
  obtain ⟨zt_a, zt_b, lt4⟩ := rcell f_t4
  go_wp2_with fail
  refine (c5 _ _ _ rd_t4).mono ?_
  rintro e w5 ⟨rfl, hb5⟩
  have f_a5 := kp hb5 (f_a4)
  have f_s5 := kp hb5 (f_s4)
  have f_o5 := kp hb5 (f_o4)
  have f_q5 := kp hb5 (f_q4)
  have f_t5 := kp hb5 (f_t4)
  have rd_a5 := rd_a4.below hb5
  have rd_q5 := rd_q4.below hb5
  have rd_t5 := rd_t4.below hb5
  have hB5 := bB hB4 hb5
  clear za_a za_b zo_a zo_b zq_a zq_b zs_a zs_b zt_a zt_b
  obtain ⟨za_a, za_b, la5⟩ := rcell f_a5
  obtain ⟨zs_a, zs_b, ls5⟩ := rcell f_s5
  obtain ⟨zo_a, zo_b, lo5⟩ := rcell f_o5
  obtain ⟨zq_a, zq_b, lq5⟩ := rcell f_q5
  obtain ⟨zt_a, zt_b, lt5⟩ := rcell f_t5
  go_wp2_with fail
  (rw [row4 (f_o5)]; generalize hT : setRow _ _ _ = wE; obtain ⟨hbE, hgE⟩ := ret_row hB5 (by omega) (f_o5) hT; have zE := (rcell hgE).1; clear hT; refine bodyPost_ret (by simp [results, Try.results33, go_sem, zE]; try rfl) rfl ?_)
  exact ⟨rfl, hbE⟩

set_option maxRecDepth 100000 in
set_option maxHeartbeats 2000000 in
theorem ref_Raised_big (x N D : Int) (A : Option Addr) (c : Nat) (h : slB N D = true) (lx : (sz x.natAbs).length ≤ 800) (hq : ¬ (-9223372036854775808 ≤ x / D ∧ x / D < 9223372036854775808)) (w : World) (ha : Rd w A c (sz x.natAbs)) :
    Calls Try.prog 33 #[.agg #[.bool (decide (x < 0)), .slice A (sz x.natAbs).length c], .agg #[.int .i64 N, .int .i64 D]] w fun e w' => e = .returned (.tuple #[.agg #[.int .i64 0, .int .i64 0, .int .i64 0, .int .i64 0], .bool false]) ∧ Below w.heap.size w w' := by
  obtain ⟨d1, d2, d3, d4⟩ := slB_spec h
  have lD : (sz D.natAbs).length ≤ 800 := Nat.le_trans (sz_i64 (by omega) (by omega)) (by decide)
  have c1 := ref_Int D (by omega) (by omega)
  have c2 := fun B d w ha hb => ref_Div x D A B c d (by omega) lx lD w ha hb
  have lq : (sz (x / D).natAbs).length ≤ 900 := by
    have h1 := bv_lt (Bin.sz x.natAbs)
    rw [bv_sz] at h1
    have h2 : (x / D).natAbs ≤ x.natAbs := by
      rcases Int.lt_or_le x 0 with hx | hx
      · have h3 := Int.ediv_neg_of_neg_of_pos hx (show 0 < D by omega)
        have h4 := Int.ediv_mul_le x (show D ≠ 0 by omega)
        have h5 := Int.lt_ediv_add_one_mul_self x (show 0 < D by omega)
        have h6 : x ≤ x / D := by
          refine (Int.le_ediv_iff_mul_le (show 0 < D by omega)).2 ?_
          have h7 : -x * 1 ≤ -x * D := Int.mul_le_mul_of_nonneg_left (by omega) (by omega)
          rw [Int.neg_mul, Int.neg_mul] at h7
          omega
        omega
      · have h3 := Int.ediv_nonneg hx (show 0 ≤ D by omega)
        have h4 := Int.ediv_le_self D hx
        omega
    exact Nat.le_trans (sz_len_lt (k := (sz x.natAbs).length) (Nat.lt_of_le_of_lt h2 h1)) (by omega)
  have c3 := fun A c w ha => ref_Value_no (x / D) A c lq hq w ha
  clear lq
  clear h lx hq lD d1 d2 d3 d4
  generalize x / D = q at *
  generalize x % D = r at *
  generalize x.natAbs = X at *
  generalize decide (x < 0) = p at *
  go_enter Try.func33, Try.ntmps33
  go_wp2_with fail
  have f_a1 := (ka (ka (na w #[.bool p, .slice A (sz X).length c] 55) (.cells #[.int .i64 N, .int .i64 D] 33)) (.cells #[.int .i64 0, .int .i64 0, .int .i64 0, .int .i64 0] 23))
  have f_s1 := (ka (na1 w (.cells #[.bool p, .slice A (sz X).length c] 55) #[.int .i64 N, .int .i64 D] 33) (.cells #[.int .i64 0, .int .i64 0, .int .i64 0, .int .i64 0] 23))
  have f_o1 := (na2 w (.cells #[.bool p, .slice A (sz X).length c] 55) (.cells #[.int .i64 N, .int .i64 D] 33) #[.int .i64 0, .int .i64 0, .int .i64 0, .int .i64 0] 23)
  have rd_a1 := (ha.below (bA (bA (bA (b0 _) (.cells #[.bool p, .slice A (sz X).length c] 55)) (.cells #[.int .i64 N, .int .i64 D] 33)) (.cells #[.int .i64 0, .int .i64 0, .int .i64 0, .int .i64 0] 23)))
  have hB1 := (bA (bA (bA (b0 w) (.cells #[.bool p, .slice A (sz X).length c] 55)) (.cells #[.int .i64 N, .int .i64 D] 33)) (.cells #[.int .i64 0, .int .i64 0, .int .i64 0, .int .i64 0] 23))
  have la1 := (rcell f_a1).2.2
  have ls1 := (rcell f_s1).2.2
  have lo1 := (rcell f_o1).2.2
  refine Abs.wp_region_abs (Abs.cls0 _) [0, 1, 2, 3, 4, 5, 6, 7, 8, 9, 10, 11] (by kernel_rfl) (by kernel_rfl) (Below.refl _ _).drew ?_
  repeat (first | (refine Abs.step_pure rfl rfl (fun K hK => ?_); go_simp; (try go_bits); (first | refine hK _ _ ?_ | (simp only [↓IntWalk.iteOmega]; go_simp; (try go_bits); refine hK _ _ ?_)); clear hK K) | (refine Abs.step_load (v := ?_) rfl rfl (by kernel_rfl) rfl (fun w0 hI => ?_) (fun K hK => ?_); rotate_left; (· have z0 := (rcell (kp hI (f_a1))).1; have z1 := (rcell (kp hI (f_s1))).1; go_simp; rfl); (simp only [Act.put, List.setIfInBounds_toArray, List.set_cons_zero, List.set_cons_succ]; refine hK _ _ ?_; clear hK K)) | (refine Abs.step_skip rfl rfl (fun K hK => ?_); (simp only [Act.put, List.setIfInBounds_toArray, List.set_cons_zero, List.set_cons_succ]; refine hK _ _ ?_; clear hK K)))
  (refine Abs.step_call (f := ?_) (args := ?_) rfl rfl rfl rfl (NumIs (D)) (fun _ => Cl_NumIs _) (fun w0 => ?_) (fun w0 hI hF => ?_) (fun K hK v w0 hv => ?_); rotate_left 2; (· go_simp; (constructor <;> rfl)); (· exact (c1 _).mono (fun _ _ h => h.num)); (obtain ⟨A1, e1, rfl, -⟩ := hv; clear w0; simp only [Act.put, List.setIfInBounds_toArray, List.set_cons_zero, List.set_cons_succ]; refine hK _ _ ?_; clear hK K))
  repeat (first | (refine Abs.step_pure rfl rfl (fun K hK => ?_); go_simp; (try go_bits); (first | refine hK _ _ ?_ | (simp only [↓IntWalk.iteOmega]; go_simp; (try go_bits); refine hK _ _ ?_)); clear hK K) | (refine Abs.step_load (v := ?_) rfl rfl (by kernel_rfl) rfl (fun w0 hI => ?_) (fun K hK => ?_); rotate_left; (· have z0 := (rcell (kp hI (f_a1))).1; have z1 := (rcell (kp hI (f_s1))).1; go_simp; rfl); (simp only [Act.put, List.setIfInBounds_toArray, List.set_cons_zero, List.set_cons_succ]; refine hK _ _ ?_; clear hK K)) | (refine Abs.step_skip rfl rfl (fun K hK => ?_); (simp only [Act.put, List.setIfInBounds_toArray, List.set_cons_zero, List.set_cons_succ]; refine hK _ _ ?_; clear hK K)))
  (refine Abs.step_call (f := ?_) (args := ?_) rfl rfl rfl rfl (Num2Is (q) (r)) (fun _ => Cl_Num2Is _ _) (fun w0 => ?_) (fun w0 hI hF => ?_) (fun K hK v w0 hv => ?_); rotate_left 2; (· go_simp; (constructor <;> rfl)); (· exact (c2 _ _ _ (rd_a1.below hI) ((hF 3 (by kernel_rfl)).2 rfl).rd).mono (fun _ _ h => h.num2)); (obtain ⟨A2, e2, A3, e3, rfl, -, -⟩ := hv; clear w0; simp only [Act.put, List.setIfInBounds_toArray, List.set_cons_zero, List.set_cons_succ]; refine hK _ _ ?_; clear hK K))
  repeat (first | (refine Abs.step_pure rfl rfl (fun K hK => ?_); go_simp; (try go_bits); (first | refine hK _ _ ?_ | (simp only [↓IntWalk.iteOmega]; go_simp; (try go_bits); refine hK _ _ ?_)); clear hK K) | (refine Abs.step_load (v := ?_) rfl rfl (by kernel_rfl) rfl (fun w0 hI => ?_) (fun K hK => ?_); rotate_left; (· have z0 := (rcell (kp hI (f_a1))).1; have z1 := (rcell (kp hI (f_s1))).1; go_simp; rfl); (simp only [Act.put, List.setIfInBounds_toArray, List.set_cons_zero, List.set_cons_succ]; refine hK _ _ ?_; clear hK K)) | (refine Abs.step_skip rfl rfl (fun K hK => ?_); (simp only [Act.put, List.setIfInBounds_toArray, List.set_cons_zero, List.set_cons_succ]; refine hK _ _ ?_; clear hK K)))
  (refine Abs.step_var (obj := ?_) rfl rfl rfl rfl (fun w0 => ?_) (fun K hK g_q hv_q hu_q => ?_); rotate_left; (· go_simp; rfl); (simp only [Act.put, List.setIfInBounds_toArray, List.set_cons_zero, List.set_cons_succ]; refine hK _ _ ?_; clear hK K))
  repeat (first | (refine Abs.step_pure rfl rfl (fun K hK => ?_); go_simp; (try go_bits); (first | refine hK _ _ ?_ | (simp only [↓IntWalk.iteOmega]; go_simp; (try go_bits); refine hK _ _ ?_)); clear hK K) | (refine Abs.step_load (v := ?_) rfl rfl (by kernel_rfl) rfl (fun w0 hI => ?_) (fun K hK => ?_); rotate_left; (· have z0 := (rcell (kp hI (f_a1))).1; have z1 := (rcell (kp hI (f_s1))).1; go_simp; rfl); (simp only [Act.put, List.setIfInBounds_toArray, List.set_cons_zero, List.set_cons_succ]; refine hK _ _ ?_; clear hK K)) | (refine Abs.step_skip rfl rfl (fun K hK => ?_); (simp only [Act.put, List.setIfInBounds_toArray, List.set_cons_zero, List.set_cons_succ]; refine hK _ _ ?_; clear hK K)))
  (refine Abs.step_var (obj := ?_) rfl rfl rfl rfl (fun w0 => ?_) (fun K hK g_t hv_t hu_t => ?_); rotate_left; (· go_simp; rfl); (simp only [Act.put, List.setIfInBounds_toArray, List.set_cons_zero, List.set_cons_succ]; refine hK _ _ ?_; clear hK K))
  repeat (first | (refine Abs.step_pure rfl rfl (fun K hK => ?_); go_simp; (try go_bits); (first | refine hK _ _ ?_ | (simp only [↓IntWalk.iteOmega]; go_simp; (try go_bits); refine hK _ _ ?_)); clear hK K) | (refine Abs.step_load (v := ?_) rfl rfl (by kernel_rfl) rfl (fun w0 hI => ?_) (fun K hK => ?_); rotate_left; (· have z0 := (rcell (kp hI (f_a1))).1; have z1 := (rcell (kp hI (f_s1))).1; go_simp; rfl); (simp only [Act.put, List.setIfInBounds_toArray, List.set_cons_zero, List.set_cons_succ]; refine hK _ _ ?_; clear hK K)) | (refine Abs.step_skip rfl rfl (fun K hK => ?_); (simp only [Act.put, List.setIfInBounds_toArray, List.set_cons_zero, List.set_cons_succ]; refine hK _ _ ?_; clear hK K)))
  (refine Abs.step_store (T := ?_) rfl rfl rfl (fun w0 hI hF hU => ?_) (fun _ _ _ _ => trivial) (fun K hK => ?_); rotate_left; (· have hR := (hF 8).1.2 rfl; have hg0 := (rcell hR).1; have hg1 := (rcell hR).2.1; simp only [Abs.T_setF, Abs.T_addA, Abs.T_push, Abs.T_start]; go_simp; exact row2 hR _ _); (simp only [Act.put, List.setIfInBounds_toArray, List.set_cons_zero, List.set_cons_succ]; refine hK _ _ ?_; clear hK K))
  (refine Abs.step_store (T := ?_) rfl rfl rfl (fun w0 hI hF hU => ?_) (fun _ _ _ _ => trivial) (fun K hK => ?_); rotate_left; (· have hR := fun cs => (setRow_other (w := w0) (g := g_q) cs (fun e => hu_t (Or.inl e))).trans ((hF 9).2 rfl); have hg0 := fun cs => (rcell (hR cs)).1; have hg1 := fun cs => (rcell (hR cs)).2.1; simp only [Abs.T_setF, Abs.T_addA, Abs.T_push, Abs.T_start]; go_simp; exact row2 (hR _) _ _); (simp only [Act.put, List.setIfInBounds_toArray, List.set_cons_zero, List.set_cons_succ]; refine hK _ _ ?_; clear hK K))
  have hs_q := leB hv_q
  try simp only [World.size_alloc] at hs_q
  have hs_t := leB hv_t
  try simp only [World.size_alloc] at hs_t
  have hn : g_t ≠ g_q := fun e => hu_t (Or.inl e)
  intro w0 hI hF hx1 hx2
  clear hx1 hx2
  have q1 := (hF 8).1.2 rfl
  have q2 := (hF 9).2 rfl
  have rn_q := ((hF 4).1.1.2 rfl).rds.1
  have rn_t := ((hF 4).1.1.2 rfl).rds.2
  clear hF
  simp only [Abs.T_push]
  generalize hTa : setRow w0 _ _ = wa
  have ea := (fin_x (b0 _) q1 hTa).1
  replace rn_q := rn_q.exc ea q1 (by decide)
  replace rn_t := rn_t.exc ea q1 (by decide)
  obtain ⟨ba, fa⟩ := fin1 hI hv_q q1 hTa
  have q3 : wa.heap[g_t]? = w0.heap[g_t]? := by rw [← hTa]; exact setRow_other _ hn
  replace q2 := q3.trans q2
  clear q3
  generalize hTb : setRow wa _ _ = w2
  have eb := (fin_x (b0 _) q2 hTb).1
  replace rn_q := rn_q.exc eb q2 (by decide)
  replace rn_t := rn_t.exc eb q2 (by decide)
  obtain ⟨hb2, f_t2⟩ := fin1 ba hv_t q2 hTb
  have q4 : w2.heap[g_q]? = wa.heap[g_q]? := by rw [← hTb]; exact setRow_other _ hn.symm
  have f_q2 := q4.trans fa
  clear q4
  clear hTa hTb ea eb q1 q2 fa ba hI w0
  have f_a2 := kp hb2 (f_a1)
  have f_s2 := kp hb2 (f_s1)
  have f_o2 := kp hb2 (f_o1)
  have rd_a2 := rd_a1.below hb2
  have hB2 := bB hB1 hb2
  obtain ⟨za_a, za_b, la2⟩ := rcell f_a2
  obtain ⟨zs_a, zs_b, ls2⟩ := rcell f_s2
  obtain ⟨zo_a, zo_b, lo2⟩ := rcell f_o2
  obtain ⟨zq_a, zq_b, lq2⟩ := rcell f_q2
  obtain ⟨zt_a, zt_b, lt2⟩ := rcell f_t2
  go_wp2_with fail
  refine (c3 _ _ _ rn_q).mono ?_
  rintro e w3 ⟨rfl, hb3⟩
  have f_a3 := kp hb3 (f_a2)
  have f_s3 := kp hb3 (f_s2)
  have f_o3 := kp hb3 (f_o2)
  have f_q3 := kp hb3 (f_q2)
  have f_t3 := kp hb3 (f_t2)
  have rd_a3 := rd_a2.below hb3
  have rd_q3 := rn_q.below hb3
  have rd_t3 := rn_t.below hb3
  have hB3 := bB hB2 hb3
  clear za_a za_b zo_a zo_b zq_a zq_b zs_a zs_b zt_a zt_b
  obtain ⟨za_a, za_b, la3⟩ := rcell f_a3
  obtain ⟨zs_a, zs_b, ls3⟩ := rcell f_s3
  obtain ⟨zo_a, zo_b, lo3⟩ := rcell f_o3
  obtain ⟨zq_a, zq_b, lq3⟩ := rcell f_q3
  obtain ⟨zt_a, zt_b, lt3⟩ := rcell f_t3
  go_wp2_with fail
  (rw [row4 (f_o3)]; generalize hT : setRow _ _ _ = wE; obtain ⟨hbE, hgE⟩ := ret_row hB3 (by omega) (f_o3) hT; have zE := (rcell hgE).1; clear hT; refine bodyPost_ret (by simp [results, Try.results33, go_sem, zE]; try rfl) rfl ?_)
  exact ⟨rfl, hbE⟩

set_option maxRecDepth 100000 in
set_option maxHeartbeats 2000000 in
theorem ref_Raised_far (x N D : Int) (A : Option Addr) (c : Nat) (h : slB N D = true) (lx : (sz x.natAbs).length ≤ 800) (hq2 : -9223372036854775808 ≤ x / D ∧ x / D < 9223372036854775808) (hq : bkB (x / D) = false) (w : World) (ha : Rd w A c (sz x.natAbs)) :
    Calls Try.prog 33 #[.agg #[.bool (decide (x < 0)), .slice A (sz x.natAbs).length c], .agg #[.int .i64 N, .int .i64 D]] w fun e w' => e = .returned (.tuple #[.agg #[.int .i64 0, .int .i64 0, .int .i64 0, .int .i64 0], .bool false]) ∧ Below w.heap.size w w' := by
  obtain ⟨d1, d2, d3, d4⟩ := slB_spec h
  have lD : (sz D.natAbs).length ≤ 800 := Nat.le_trans (sz_i64 (by omega) (by omega)) (by decide)
  have c1 := ref_Int D (by omega) (by omega)
  have c2 := fun B d w ha hb => ref_Div x D A B c d (by omega) lx lD w ha hb
  have c3 := fun A c w ha => ref_Value_yes (x / D) A c (by omega) (by omega) w ha
  have c4 := ref_Back (x / D)
  rw [hq] at c4
  clear hq2
  clear h lx hq lD d1 d2 d3 d4
  generalize x / D = q at *
  generalize x % D = r at *
  generalize x.natAbs = X at *
  generalize decide (x < 0) = p at *
  go_enter Try.func33, Try.ntmps33
  go_wp2_with fail
  have f_a1 := (ka (ka (na w #[.bool p, .slice A (sz X).length c] 55) (.cells #[.int .i64 N, .int .i64 D] 33)) (.cells #[.int .i64 0, .int .i64 0, .int .i64 0, .int .i64 0] 23))
  have f_s1 := (ka (na1 w (.cells #[.bool p, .slice A (sz X).length c] 55) #[.int .i64 N, .int .i64 D] 33) (.cells #[.int .i64 0, .int .i64 0, .int .i64 0, .int .i64 0] 23))
  have f_o1 := (na2 w (.cells #[.bool p, .slice A (sz X).length c] 55) (.cells #[.int .i64 N, .int .i64 D] 33) #[.int .i64 0, .int .i64 0, .int .i64 0, .int .i64 0] 23)
  have rd_a1 := (ha.below (bA (bA (bA (b0 _) (.cells #[.bool p, .slice A (sz X).length c] 55)) (.cells #[.int .i64 N, .int .i64 D] 33)) (.cells #[.int .i64 0, .int .i64 0, .int .i64 0, .int .i64 0] 23)))
  have hB1 := (bA (bA (bA (b0 w) (.cells #[.bool p, .slice A (sz X).length c] 55)) (.cells #[.int .i64 N, .int .i64 D] 33)) (.cells #[.int .i64 0, .int .i64 0, .int .i64 0, .int .i64 0] 23))
  have la1 := (rcell f_a1).2.2
  have ls1 := (rcell f_s1).2.2
  have lo1 := (rcell f_o1).2.2
  refine Abs.wp_region_abs (Abs.cls0 _) [0, 1, 2, 3, 4, 5, 6, 7, 8, 9, 10, 11] (by kernel_rfl) (by kernel_rfl) (Below.refl _ _).drew ?_
  repeat (first | (refine Abs.step_pure rfl rfl (fun K hK => ?_); go_simp; (try go_bits); (first | refine hK _ _ ?_ | (simp only [↓IntWalk.iteOmega]; go_simp; (try go_bits); refine hK _ _ ?_)); clear hK K) | (refine Abs.step_load (v := ?_) rfl rfl (by kernel_rfl) rfl (fun w0 hI => ?_) (fun K hK => ?_); rotate_left; (· have z0 := (rcell (kp hI (f_a1))).1; have z1 := (rcell (kp hI (f_s1))).1; go_simp; rfl); (simp only [Act.put, List.setIfInBounds_toArray, List.set_cons_zero, List.set_cons_succ]; refine hK _ _ ?_; clear hK K)) | (refine Abs.step_skip rfl rfl (fun K hK => ?_); (simp only [Act.put, List.setIfInBounds_toArray, List.set_cons_zero, List.set_cons_succ]; refine hK _ _ ?_; clear hK K)))
  (refine Abs.step_call (f := ?_) (args := ?_) rfl rfl rfl rfl (NumIs (D)) (fun _ => Cl_NumIs _) (fun w0 => ?_) (fun w0 hI hF => ?_) (fun K hK v w0 hv => ?_); rotate_left 2; (· go_simp; (constructor <;> rfl)); (· exact (c1 _).mono (fun _ _ h => h.num)); (obtain ⟨A1, e1, rfl, -⟩ := hv; clear w0; simp only [Act.put, List.setIfInBounds_toArray, List.set_cons_zero, List.set_cons_succ]; refine hK _ _ ?_; clear hK K))
  repeat (first | (refine Abs.step_pure rfl rfl (fun K hK => ?_); go_simp; (try go_bits); (first | refine hK _ _ ?_ | (simp only [↓IntWalk.iteOmega]; go_simp; (try go_bits); refine hK _ _ ?_)); clear hK K) | (refine Abs.step_load (v := ?_) rfl rfl (by kernel_rfl) rfl (fun w0 hI => ?_) (fun K hK => ?_); rotate_left; (· have z0 := (rcell (kp hI (f_a1))).1; have z1 := (rcell (kp hI (f_s1))).1; go_simp; rfl); (simp only [Act.put, List.setIfInBounds_toArray, List.set_cons_zero, List.set_cons_succ]; refine hK _ _ ?_; clear hK K)) | (refine Abs.step_skip rfl rfl (fun K hK => ?_); (simp only [Act.put, List.setIfInBounds_toArray, List.set_cons_zero, List.set_cons_succ]; refine hK _ _ ?_; clear hK K)))
  (refine Abs.step_call (f := ?_) (args := ?_) rfl rfl rfl rfl (Num2Is (q) (r)) (fun _ => Cl_Num2Is _ _) (fun w0 => ?_) (fun w0 hI hF => ?_) (fun K hK v w0 hv => ?_); rotate_left 2; (· go_simp; (constructor <;> rfl)); (· exact (c2 _ _ _ (rd_a1.below hI) ((hF 3 (by kernel_rfl)).2 rfl).rd).mono (fun _ _ h => h.num2)); (obtain ⟨A2, e2, A3, e3, rfl, -, -⟩ := hv; clear w0; simp only [Act.put, List.setIfInBounds_toArray, List.set_cons_zero, List.set_cons_succ]; refine hK _ _ ?_; clear hK K))
  repeat (first | (refine Abs.step_pure rfl rfl (fun K hK => ?_); go_simp; (try go_bits); (first | refine hK _ _ ?_ | (simp only [↓IntWalk.iteOmega]; go_simp; (try go_bits); refine hK _ _ ?_)); clear hK K) | (refine Abs.step_load (v := ?_) rfl rfl (by kernel_rfl) rfl (fun w0 hI => ?_) (fun K hK => ?_); rotate_left; (· have z0 := (rcell (kp hI (f_a1))).1; have z1 := (rcell (kp hI (f_s1))).1; go_simp; rfl); (simp only [Act.put, List.setIfInBounds_toArray, List.set_cons_zero, List.set_cons_succ]; refine hK _ _ ?_; clear hK K)) | (refine Abs.step_skip rfl rfl (fun K hK => ?_); (simp only [Act.put, List.setIfInBounds_toArray, List.set_cons_zero, List.set_cons_succ]; refine hK _ _ ?_; clear hK K)))
  (refine Abs.step_var (obj := ?_) rfl rfl rfl rfl (fun w0 => ?_) (fun K hK g_q hv_q hu_q => ?_); rotate_left; (· go_simp; rfl); (simp only [Act.put, List.setIfInBounds_toArray, List.set_cons_zero, List.set_cons_succ]; refine hK _ _ ?_; clear hK K))
  repeat (first | (refine Abs.step_pure rfl rfl (fun K hK => ?_); go_simp; (try go_bits); (first | refine hK _ _ ?_ | (simp only [↓IntWalk.iteOmega]; go_simp; (try go_bits); refine hK _ _ ?_)); clear hK K) | (refine Abs.step_load (v := ?_) rfl rfl (by kernel_rfl) rfl (fun w0 hI => ?_) (fun K hK => ?_); rotate_left; (· have z0 := (rcell (kp hI (f_a1))).1; have z1 := (rcell (kp hI (f_s1))).1; go_simp; rfl); (simp only [Act.put, List.setIfInBounds_toArray, List.set_cons_zero, List.set_cons_succ]; refine hK _ _ ?_; clear hK K)) | (refine Abs.step_skip rfl rfl (fun K hK => ?_); (simp only [Act.put, List.setIfInBounds_toArray, List.set_cons_zero, List.set_cons_succ]; refine hK _ _ ?_; clear hK K)))
  (refine Abs.step_var (obj := ?_) rfl rfl rfl rfl (fun w0 => ?_) (fun K hK g_t hv_t hu_t => ?_); rotate_left; (· go_simp; rfl); (simp only [Act.put, List.setIfInBounds_toArray, List.set_cons_zero, List.set_cons_succ]; refine hK _ _ ?_; clear hK K))
  repeat (first | (refine Abs.step_pure rfl rfl (fun K hK => ?_); go_simp; (try go_bits); (first | refine hK _ _ ?_ | (simp only [↓IntWalk.iteOmega]; go_simp; (try go_bits); refine hK _ _ ?_)); clear hK K) | (refine Abs.step_load (v := ?_) rfl rfl (by kernel_rfl) rfl (fun w0 hI => ?_) (fun K hK => ?_); rotate_left; (· have z0 := (rcell (kp hI (f_a1))).1; have z1 := (rcell (kp hI (f_s1))).1; go_simp; rfl); (simp only [Act.put, List.setIfInBounds_toArray, List.set_cons_zero, List.set_cons_succ]; refine hK _ _ ?_; clear hK K)) | (refine Abs.step_skip rfl rfl (fun K hK => ?_); (simp only [Act.put, List.setIfInBounds_toArray, List.set_cons_zero, List.set_cons_succ]; refine hK _ _ ?_; clear hK K)))
  (refine Abs.step_store (T := ?_) rfl rfl rfl (fun w0 hI hF hU => ?_) (fun _ _ _ _ => trivial) (fun K hK => ?_); rotate_left; (· have hR := (hF 8).1.2 rfl; have hg0 := (rcell hR).1; have hg1 := (rcell hR).2.1; simp only [Abs.T_setF, Abs.T_addA, Abs.T_push, Abs.T_start]; go_simp; exact row2 hR _ _); (simp only [Act.put, List.setIfInBounds_toArray, List.set_cons_zero, List.set_cons_succ]; refine hK _ _ ?_; clear hK K))
  (refine Abs.step_store (T := ?_) rfl rfl rfl (fun w0 hI hF hU => ?_) (fun _ _ _ _ => trivial) (fun K hK => ?_); rotate_left; (· have hR := fun cs => (setRow_other (w := w0) (g := g_q) cs (fun e => hu_t (Or.inl e))).trans ((hF 9).2 rfl); have hg0 := fun cs => (rcell (hR cs)).1; have hg1 := fun cs => (rcell (hR cs)).2.1; simp only [Abs.T_setF, Abs.T_addA, Abs.T_push, Abs.T_start]; go_simp; exact row2 (hR _) _ _); (simp only [Act.put, List.setIfInBounds_toArray, List.set_cons_zero, List.set_cons_succ]; refine hK _ _ ?_; clear hK K))
  have hs_q := leB hv_q
  try simp only [World.size_alloc] at hs_q
  have hs_t := leB hv_t
  try simp only [World.size_alloc] at hs_t
  have hn : g_t ≠ g_q := fun e => hu_t (Or.inl e)
  intro w0 hI hF hx1 hx2
  clear hx1 hx2
  have q1 := (hF 8).1.2 rfl
  have q2 := (hF 9).2 rfl
  have rn_q := ((hF 4).1.1.2 rfl).rds.1
  have rn_t := ((hF 4).1.1.2 rfl).rds.2
  clear hF
  simp only [Abs.T_push]
  generalize hTa : setRow w0 _ _ = wa
  have ea := (fin_x (b0 _) q1 hTa).1
  replace rn_q := rn_q.exc ea q1 (by decide)
  replace rn_t := rn_t.exc ea q1 (by decide)
  obtain ⟨ba, fa⟩ := fin1 hI hv_q q1 hTa
  have q3 : wa.heap[g_t]? = w0.heap[g_t]? := by rw [← hTa]; exact setRow_other _ hn
  replace q2 := q3.trans q2
  clear q3
  generalize hTb : setRow wa _ _ = w2
  have eb := (fin_x (b0 _) q2 hTb).1
  replace rn_q := rn_q.exc eb q2 (by decide)
  replace rn_t := rn_t.exc eb q2 (by decide)
  obtain ⟨hb2, f_t2⟩ := fin1 ba hv_t q2 hTb
  have q4 : w2.heap[g_q]? = wa.heap[g_q]? := by rw [← hTb]; exact setRow_other _ hn.symm
  have f_q2 := q4.trans fa
  clear q4
  clear hTa hTb ea eb q1 q2 fa ba hI w0
  have f_a2 := kp hb2 (f_a1)
  have f_s2 := kp hb2 (f_s1)
  have f_o2 := kp hb2 (f_o1)
  have rd_a2 := rd_a1.below hb2
  have hB2 := bB hB1 hb2
  obtain ⟨za_a, za_b, la2⟩ := rcell f_a2
  obtain ⟨zs_a, zs_b, ls2⟩ := rcell f_s2
  obtain ⟨zo_a, zo_b, lo2⟩ := rcell f_o2
  obtain ⟨zq_a, zq_b, lq2⟩ := rcell f_q2
  obtain ⟨zt_a, zt_b, lt2⟩ := rcell f_t2
  go_wp2_with fail
  refine (c3 _ _ _ rn_q).mono ?_
  rintro e w3 ⟨rfl, hb3⟩
  have f_a3 := kp hb3 (f_a2)
  have f_s3 := kp hb3 (f_s2)
  have f_o3 := kp hb3 (f_o2)
  have f_q3 := kp hb3 (f_q2)
  have f_t3 := kp hb3 (f_t2)
  have rd_a3 := rd_a2.below hb3
  have rd_q3 := rn_q.below hb3
  have rd_t3 := rn_t.below hb3
  have hB3 := bB hB2 hb3
  clear za_a za_b zo_a zo_b zq_a zq_b zs_a zs_b zt_a zt_b
  obtain ⟨za_a, za_b, la3⟩ := rcell f_a3
  obtain ⟨zs_a, zs_b, ls3⟩ := rcell f_s3
  obtain ⟨zo_a, zo_b, lo3⟩ := rcell f_o3
  obtain ⟨zq_a, zq_b, lq3⟩ := rcell f_q3
  obtain ⟨zt_a, zt_b, lt3⟩ := rcell f_t3
  go_wp2_with fail
  refine (c4 _).mono ?_
  rintro e w4 ⟨rfl, hb4⟩
  have f_a4 := kp hb4 (f_a3)
  have f_s4 := kp hb4 (f_s3)
  have f_o4 := kp hb4 (f_o3)
  have f_q4 := kp hb4 (f_q3)
  have f_t4 := kp hb4 (f_t3)
  have rd_a4 := rd_a3.below hb4
  have rd_q4 := rd_q3.below hb4
  have rd_t4 := rd_t3.below hb4
  have hB4 := bB hB3 hb4
  clear za_a za_b zo_a zo_b zq_a zq_b zs_a zs_b zt_a zt_b
  obtain ⟨za_a, za_b, la4⟩ := rcell f_a4
  obtain ⟨zs_a, zs_b, ls4⟩ := rcell f_s4
  obtain ⟨zo_a, zo_b, lo4⟩ := rcell f_o4
  obtain ⟨zq_a, zq_b, lq4⟩ := rcell f_q4
  obtain ⟨zt_a, zt_b, lt4⟩ := rcell f_t4
  go_wp2_with fail
  (rw [row4 (f_o4)]; generalize hT : setRow _ _ _ = wE; obtain ⟨hbE, hgE⟩ := ret_row hB4 (by omega) (f_o4) hT; have zE := (rcell hgE).1; clear hT; refine bodyPost_ret (by simp [results, Try.results33, go_sem, zE]; try rfl) rfl ?_)
  exact ⟨rfl, hbE⟩

set_option maxRecDepth 100000 in
set_option maxHeartbeats 2000000 in
theorem line_Of_slope (a N D : Int) (h : slB N D = false) (w : World) :
    Calls Try.prog 30 #[.int .i64 a, .agg #[.int .i64 N, .int .i64 D]] w fun e w' => e = .returned (.tuple #[.agg #[.int .i64 0, .int .i64 0, .int .i64 0, .int .i64 0], .int .i64 151]) ∧ Below w.heap.size w w' := by
  have c1 := line_slopeIs N D
  rw [h] at c1
  clear h
  go_enter Try.func30, Try.ntmps30
  go_wp2_with fail
  refine (c1 _).mono ?_
  rintro e w1 ⟨rfl, hb1⟩
  have f_s1 := kp hb1 (ka (na w #[.int .i64 N, .int .i64 D] 33) (.cells #[.int .i64 0, .int .i64 0, .int .i64 0, .int .i64 0] 23))
  have f_o1 := kp hb1 (na1 w (.cells #[.int .i64 N, .int .i64 D] 33) #[.int .i64 0, .int .i64 0, .int .i64 0, .int .i64 0] 23)
  have hB1 := bB (bA (bA (b0 w) (.cells #[.int .i64 N, .int .i64 D] 33)) (.cells #[.int .i64 0, .int .i64 0, .int .i64 0, .int .i64 0] 23)) hb1
  obtain ⟨zs_a, zs_b, ls1⟩ := rcell f_s1
  obtain ⟨zo_a, zo_b, lo1⟩ := rcell f_o1
  go_wp2_with fail
  (rw [row4 (f_o1)]; generalize hT : setRow _ _ _ = wE; obtain ⟨hbE, hgE⟩ := ret_row hB1 (by omega) (f_o1) hT; have zE := (rcell hgE).1; clear hT; refine bodyPost_ret (by simp [results, Try.results30, go_sem, zE]; try rfl) rfl ?_)
  exact ⟨rfl, hbE⟩

set_option maxRecDepth 100000 in
set_option maxHeartbeats 2000000 in
theorem line_Of_back (a N D : Int) (h : slB N D = true) (hb : bkB a = false) (w : World) :
    Calls Try.prog 30 #[.int .i64 a, .agg #[.int .i64 N, .int .i64 D]] w fun e w' => e = .returned (.tuple #[.agg #[.int .i64 0, .int .i64 0, .int .i64 0, .int .i64 0], .int .i64 2]) ∧ Below w.heap.size w w' := by
  have c1 := line_slopeIs N D
  have c2 := line_backB a
  rw [h] at c1
  rw [hb] at c2
  clear h hb
  go_enter Try.func30, Try.ntmps30
  go_wp2_with fail
  refine (c1 _).mono ?_
  rintro e w1 ⟨rfl, hb1⟩
  have f_s1 := kp hb1 (ka (na w #[.int .i64 N, .int .i64 D] 33) (.cells #[.int .i64 0, .int .i64 0, .int .i64 0, .int .i64 0] 23))
  have f_o1 := kp hb1 (na1 w (.cells #[.int .i64 N, .int .i64 D] 33) #[.int .i64 0, .int .i64 0, .int .i64 0, .int .i64 0] 23)
  have hB1 := bB (bA (bA (b0 w) (.cells #[.int .i64 N, .int .i64 D] 33)) (.cells #[.int .i64 0, .int .i64 0, .int .i64 0, .int .i64 0] 23)) hb1
  obtain ⟨zs_a, zs_b, ls1⟩ := rcell f_s1
  obtain ⟨zo_a, zo_b, lo1⟩ := rcell f_o1
  go_wp2_with fail
  refine (c2 _).mono ?_
  rintro e w2 ⟨rfl, hb2⟩
  have f_s2 := kp hb2 (f_s1)
  have f_o2 := kp hb2 (f_o1)
  have hB2 := bB hB1 hb2
  clear zo_a zo_b zs_a zs_b
  obtain ⟨zs_a, zs_b, ls2⟩ := rcell f_s2
  obtain ⟨zo_a, zo_b, lo2⟩ := rcell f_o2
  go_wp2_with fail
  (rw [row4 (f_o2)]; generalize hT : setRow _ _ _ = wE; obtain ⟨hbE, hgE⟩ := ret_row hB2 (by omega) (f_o2) hT; have zE := (rcell hgE).1; clear hT; refine bodyPost_ret (by simp [results, Try.results30, go_sem, zE]; try rfl) rfl ?_)
  exact ⟨rfl, hbE⟩

set_option maxRecDepth 100000 in
set_option maxHeartbeats 2000000 in
theorem line_Raised_slope (x N D : Int) (h : slB N D = false) (w : World) :
    Calls Try.prog 31 #[.agg #[.int .i64 (hi x), .int .u64 (lo x)], .agg #[.int .i64 N, .int .i64 D]] w fun e w' => e = .returned (.tuple #[.agg #[.int .i64 0, .int .i64 0, .int .i64 0, .int .i64 0], .int .i64 151]) ∧ Below w.heap.size w w' := by
  have c1 := line_slopeIs N D
  rw [h] at c1
  clear h
  generalize hi x = H at *
  generalize lo x = L at *
  go_enter Try.func31, Try.ntmps31
  go_wp2_with fail
  refine (c1 _).mono ?_
  rintro e w1 ⟨rfl, hb1⟩
  have f_c1 := kp hb1 (ka (ka (na w #[.int .i64 H, .int .u64 L] 46) (.cells #[.int .i64 N, .int .i64 D] 33)) (.cells #[.int .i64 0, .int .i64 0, .int .i64 0, .int .i64 0] 23))
  have f_s1 := kp hb1 (ka (na1 w (.cells #[.int .i64 H, .int .u64 L] 46) #[.int .i64 N, .int .i64 D] 33) (.cells #[.int .i64 0, .int .i64 0, .int .i64 0, .int .i64 0] 23))
  have f_o1 := kp hb1 (na2 w (.cells #[.int .i64 H, .int .u64 L] 46) (.cells #[.int .i64 N, .int .i64 D] 33) #[.int .i64 0, .int .i64 0, .int .i64 0, .int .i64 0] 23)
  have hB1 := bB (bA (bA (bA (b0 w) (.cells #[.int .i64 H, .int .u64 L] 46)) (.cells #[.int .i64 N, .int .i64 D] 33)) (.cells #[.int .i64 0, .int .i64 0, .int .i64 0, .int .i64 0] 23)) hb1
  obtain ⟨zc_a, zc_b, lc1⟩ := rcell f_c1
  obtain ⟨zs_a, zs_b, ls1⟩ := rcell f_s1
  obtain ⟨zo_a, zo_b, lo1⟩ := rcell f_o1
  go_wp2_with fail
  (rw [row4 (f_o1)]; generalize hT : setRow _ _ _ = wE; obtain ⟨hbE, hgE⟩ := ret_row hB1 (by omega) (f_o1) hT; have zE := (rcell hgE).1; clear hT; refine bodyPost_ret (by simp [results, Try.results31, go_sem, zE]; try rfl) rfl ?_)
  exact ⟨rfl, hbE⟩

set_option maxRecDepth 100000 in
set_option maxHeartbeats 2000000 in
theorem line_Raised_low (x N D : Int) (h : slB N D = true) (hl : ¬ (lwN N D = N ∧ lwD N D = D)) (w : World) :
    Calls Try.prog 31 #[.agg #[.int .i64 (hi x), .int .u64 (lo x)], .agg #[.int .i64 N, .int .i64 D]] w fun e w' => e = .returned (.tuple #[.agg #[.int .i64 0, .int .i64 0, .int .i64 0, .int .i64 0], .int .i64 2]) ∧ Below w.heap.size w w' := by
  obtain ⟨d1, d2, d3, d4⟩ := slB_spec h
  have c1 := line_slopeIs N D
  have c2 := line_lowest N D d1 (by omega) (by omega) (by omega)
  rw [h] at c1
  clear h d1 d2 d3 d4
  generalize lwN N D = n at *
  generalize lwD N D = d at *
  generalize hi x = H at *
  generalize lo x = L at *
  by_cases hn : n = N
  · have hd : ¬ d = D := fun e => hl ⟨hn, e⟩
    clear hl
    go_enter Try.func31, Try.ntmps31
    go_wp2_with fail
    refine (c1 _).mono ?_
    rintro e w1 ⟨rfl, hb1⟩
    have f_c1 := kp hb1 (ka (ka (na w #[.int .i64 H, .int .u64 L] 46) (.cells #[.int .i64 N, .int .i64 D] 33)) (.cells #[.int .i64 0, .int .i64 0, .int .i64 0, .int .i64 0] 23))
    have f_s1 := kp hb1 (ka (na1 w (.cells #[.int .i64 H, .int .u64 L] 46) #[.int .i64 N, .int .i64 D] 33) (.cells #[.int .i64 0, .int .i64 0, .int .i64 0, .int .i64 0] 23))
    have f_o1 := kp hb1 (na2 w (.cells #[.int .i64 H, .int .u64 L] 46) (.cells #[.int .i64 N, .int .i64 D] 33) #[.int .i64 0, .int .i64 0, .int .i64 0, .int .i64 0] 23)
    have hB1 := bB (bA (bA (bA (b0 w) (.cells #[.int .i64 H, .int .u64 L] 46)) (.cells #[.int .i64 N, .int .i64 D] 33)) (.cells #[.int .i64 0, .int .i64 0, .int .i64 0, .int .i64 0] 23)) hb1
    obtain ⟨zc_a, zc_b, lc1⟩ := rcell f_c1
    obtain ⟨zs_a, zs_b, ls1⟩ := rcell f_s1
    obtain ⟨zo_a, zo_b, lo1⟩ := rcell f_o1
    go_wp2_with fail
    refine Abs.wp_region_abs (Abs.cls0 _) [0, 1, 2, 3, 4] (by kernel_rfl) (by kernel_rfl) (Below.refl _ _).drew ?_
    repeat (first | (refine Abs.step_pure rfl rfl (fun K hK => ?_); go_simp; (try go_bits); (first | refine hK _ _ ?_ | (simp only [↓IntWalk.iteOmega]; go_simp; (try go_bits); refine hK _ _ ?_)); clear hK K) | (refine Abs.step_load (v := ?_) rfl rfl (by kernel_rfl) rfl (fun w0 hI => ?_) (fun K hK => ?_); rotate_left; (· have z0 := (rcell (kp hI (f_s1))).1; go_simp; rfl); (simp only [Act.put, List.setIfInBounds_toArray, List.set_cons_zero, List.set_cons_succ]; refine hK _ _ ?_; clear hK K)) | (refine Abs.step_skip rfl rfl (fun K hK => ?_); (simp only [Act.put, List.setIfInBounds_toArray, List.set_cons_zero, List.set_cons_succ]; refine hK _ _ ?_; clear hK K)))
    (refine Abs.step_call_val (f := ?_) (args := ?_) (v := ?_) rfl rfl rfl rfl (fun w0 => ?_) (fun w0 hI => ?_) (fun K hK => ?_); rotate_left 3; (· go_simp; (constructor <;> rfl)); (· exact c2 _); (simp only [Act.put, List.setIfInBounds_toArray, List.set_cons_zero, List.set_cons_succ]; refine hK _ _ ?_; clear hK K))
    repeat (first | (refine Abs.step_pure rfl rfl (fun K hK => ?_); go_simp; (try go_bits); (first | refine hK _ _ ?_ | (simp only [↓IntWalk.iteOmega]; go_simp; (try go_bits); refine hK _ _ ?_)); clear hK K) | (refine Abs.step_load (v := ?_) rfl rfl (by kernel_rfl) rfl (fun w0 hI => ?_) (fun K hK => ?_); rotate_left; (· have z0 := (rcell (kp hI (f_s1))).1; go_simp; rfl); (simp only [Act.put, List.setIfInBounds_toArray, List.set_cons_zero, List.set_cons_succ]; refine hK _ _ ?_; clear hK K)) | (refine Abs.step_skip rfl rfl (fun K hK => ?_); (simp only [Act.put, List.setIfInBounds_toArray, List.set_cons_zero, List.set_cons_succ]; refine hK _ _ ?_; clear hK K)))
    intro w3 hb3 hx0 hx1 hx2
    clear hx0 hx1 hx2
    simp only [Abs.T_setF, Abs.T_addA, Abs.T_push, Abs.T_start]
    have f_c3 := kp hb3 (f_c1)
    have f_s3 := kp hb3 (f_s1)
    have f_o3 := kp hb3 (f_o1)
    have hB3 := bB hB1 hb3
    clear zc_a zc_b zo_a zo_b zs_a zs_b
    obtain ⟨zc_a, zc_b, lc3⟩ := rcell f_c3
    obtain ⟨zs_a, zs_b, ls3⟩ := rcell f_s3
    obtain ⟨zo_a, zo_b, lo3⟩ := rcell f_o3
    go_wp2_with fail
    (rw [row4 (f_o3)]; generalize hT : setRow _ _ _ = wE; obtain ⟨hbE, hgE⟩ := ret_row hB3 (by omega) (f_o3) hT; have zE := (rcell hgE).1; clear hT; refine bodyPost_ret (by simp [results, Try.results31, go_sem, zE]; try rfl) rfl ?_)
    exact ⟨rfl, hbE⟩
  · clear hl
    go_enter Try.func31, Try.ntmps31
    go_wp2_with fail
    refine (c1 _).mono ?_
    rintro e w1 ⟨rfl, hb1⟩
    have f_c1 := kp hb1 (ka (ka (na w #[.int .i64 H, .int .u64 L] 46) (.cells #[.int .i64 N, .int .i64 D] 33)) (.cells #[.int .i64 0, .int .i64 0, .int .i64 0, .int .i64 0] 23))
    have f_s1 := kp hb1 (ka (na1 w (.cells #[.int .i64 H, .int .u64 L] 46) #[.int .i64 N, .int .i64 D] 33) (.cells #[.int .i64 0, .int .i64 0, .int .i64 0, .int .i64 0] 23))
    have f_o1 := kp hb1 (na2 w (.cells #[.int .i64 H, .int .u64 L] 46) (.cells #[.int .i64 N, .int .i64 D] 33) #[.int .i64 0, .int .i64 0, .int .i64 0, .int .i64 0] 23)
    have hB1 := bB (bA (bA (bA (b0 w) (.cells #[.int .i64 H, .int .u64 L] 46)) (.cells #[.int .i64 N, .int .i64 D] 33)) (.cells #[.int .i64 0, .int .i64 0, .int .i64 0, .int .i64 0] 23)) hb1
    obtain ⟨zc_a, zc_b, lc1⟩ := rcell f_c1
    obtain ⟨zs_a, zs_b, ls1⟩ := rcell f_s1
    obtain ⟨zo_a, zo_b, lo1⟩ := rcell f_o1
    go_wp2_with fail
    refine Abs.wp_region_abs (Abs.cls0 _) [0, 1, 2, 3, 4] (by kernel_rfl) (by kernel_rfl) (Below.refl _ _).drew ?_
    repeat (first | (refine Abs.step_pure rfl rfl (fun K hK => ?_); go_simp; (try go_bits); (first | refine hK _ _ ?_ | (simp only [↓IntWalk.iteOmega]; go_simp; (try go_bits); refine hK _ _ ?_)); clear hK K) | (refine Abs.step_load (v := ?_) rfl rfl (by kernel_rfl) rfl (fun w0 hI => ?_) (fun K hK => ?_); rotate_left; (· have z0 := (rcell (kp hI (f_s1))).1; go_simp; rfl); (simp only [Act.put, List.setIfInBounds_toArray, List.set_cons_zero, List.set_cons_succ]; refine hK _ _ ?_; clear hK K)) | (refine Abs.step_skip rfl rfl (fun K hK => ?_); (simp only [Act.put, List.setIfInBounds_toArray, List.set_cons_zero, List.set_cons_succ]; refine hK _ _ ?_; clear hK K)))
    (refine Abs.step_call_val (f := ?_) (args := ?_) (v := ?_) rfl rfl rfl rfl (fun w0 => ?_) (fun w0 hI => ?_) (fun K hK => ?_); rotate_left 3; (· go_simp; (constructor <;> rfl)); (· exact c2 _); (simp only [Act.put, List.setIfInBounds_toArray, List.set_cons_zero, List.set_cons_succ]; refine hK _ _ ?_; clear hK K))
    repeat (first | (refine Abs.step_pure rfl rfl (fun K hK => ?_); go_simp; (try go_bits); (first | refine hK _ _ ?_ | (simp only [↓IntWalk.iteOmega]; go_simp; (try go_bits); refine hK _ _ ?_)); clear hK K) | (refine Abs.step_load (v := ?_) rfl rfl (by kernel_rfl) rfl (fun w0 hI => ?_) (fun K hK => ?_); rotate_left; (· have z0 := (rcell (kp hI (f_s1))).1; go_simp; rfl); (simp only [Act.put, List.setIfInBounds_toArray, List.set_cons_zero, List.set_cons_succ]; refine hK _ _ ?_; clear hK K)) | (refine Abs.step_skip rfl rfl (fun K hK => ?_); (simp only [Act.put, List.setIfInBounds_toArray, List.set_cons_zero, List.set_cons_succ]; refine hK _ _ ?_; clear hK K)))
    intro w3 hb3 hx0 hx1 hx2
    clear hx0 hx1 hx2
    simp only [Abs.T_setF, Abs.T_addA, Abs.T_push, Abs.T_start]
    have f_c3 := kp hb3 (f_c1)
    have f_s3 := kp hb3 (f_s1)
    have f_o3 := kp hb3 (f_o1)
    have hB3 := bB hB1 hb3
    clear zc_a zc_b zo_a zo_b zs_a zs_b
    obtain ⟨zc_a, zc_b, lc3⟩ := rcell f_c3
    obtain ⟨zs_a, zs_b, ls3⟩ := rcell f_s3
    obtain ⟨zo_a, zo_b, lo3⟩ := rcell f_o3
    go_wp2_with fail
    (rw [row4 (f_o3)]; generalize hT : setRow _ _ _ = wE; obtain ⟨hbE, hgE⟩ := ret_row hB3 (by omega) (f_o3) hT; have zE := (rcell hgE).1; clear hT; refine bodyPost_ret (by simp [results, Try.results31, go_sem, zE]; try rfl) rfl ?_)
    exact ⟨rfl, hbE⟩

set_option maxRecDepth 100000 in
set_option maxHeartbeats 2000000 in
theorem line_Raised_yes (x N D : Int) (hx : Rng x) (h : slB N D = true) (hl : lwN N D = N ∧ lwD N D = D) (hq : bkB (x / D) = true) (w : World) :
    Calls Try.prog 31 #[.agg #[.int .i64 (hi x), .int .u64 (lo x)], .agg #[.int .i64 N, .int .i64 D]] w fun e w' => e = .returned (.tuple #[.agg #[.int .i64 (x / D), .int .i64 (x % D), .int .i64 N, .int .i64 D], .int .i64 0]) ∧ Below w.heap.size w w' := by
  obtain ⟨d1, d2, d3, d4⟩ := slB_spec h
  have c1 := line_slopeIs N D
  have c2 := line_lowest N D d1 (by omega) (by omega) (by omega)
  have c3 := wide_Div x D hx d1 (by omega)
  have hR : Rng (x / D) := by
    obtain ⟨x1, x2⟩ := hx
    have e0 : (0 : Int) < D := by omega
    constructor
    · refine (Int.le_ediv_iff_mul_le e0).2 ?_
      have h7 : (170141183460469231731687303715884105728 : Int) * 1 ≤ 170141183460469231731687303715884105728 * D := Int.mul_le_mul_of_nonneg_left (by omega) (by decide)
      omega
    · refine (Int.ediv_lt_iff_lt_mul e0).2 ?_
      have h7 : (170141183460469231731687303715884105728 : Int) * 1 ≤ 170141183460469231731687303715884105728 * D := Int.mul_le_mul_of_nonneg_left (by omega) (by decide)
      omega
  have c4 := wide_Int (x / D) hR
  rw [h] at c1
  rw [hl.1, hl.2] at c2
  have hq2 : -2305844108725321728 ≤ x / D ∧ x / D ≤ 2305844108725321728 := of_decide_eq_true hq
  have c5 := line_backB (x / D)
  rw [hq] at c5
  have hq3 : -9223372036854775808 ≤ x / D ∧ x / D < 9223372036854775808 := by omega
  rw [if_pos hq3, if_pos hq3] at c4
  clear hq hq2 hq3 hR h hl hx d1 d2 d3 d4
  generalize hi (x / D) = QH at *
  generalize lo (x / D) = QL at *
  generalize x / D = q at *
  generalize x % D = r at *
  generalize hi x = H at *
  generalize lo x = L at *
  go_enter Try.func31, Try.ntmps31
  go_wp2_with fail
  refine (c1 _).mono ?_
  rintro e w1 ⟨rfl, hb1⟩
  have f_c1 := kp hb1 (ka (ka (na w #[.int .i64 H, .int .u64 L] 46) (.cells #[.int .i64 N, .int .i64 D] 33)) (.cells #[.int .i64 0, .int .i64 0, .int .i64 0, .int .i64 0] 23))
  have f_s1 := kp hb1 (ka (na1 w (.cells #[.int .i64 H, .int .u64 L] 46) #[.int .i64 N, .int .i64 D] 33) (.cells #[.int .i64 0, .int .i64 0, .int .i64 0, .int .i64 0] 23))
  have f_o1 := kp hb1 (na2 w (.cells #[.int .i64 H, .int .u64 L] 46) (.cells #[.int .i64 N, .int .i64 D] 33) #[.int .i64 0, .int .i64 0, .int .i64 0, .int .i64 0] 23)
  have hB1 := bB (bA (bA (bA (b0 w) (.cells #[.int .i64 H, .int .u64 L] 46)) (.cells #[.int .i64 N, .int .i64 D] 33)) (.cells #[.int .i64 0, .int .i64 0, .int .i64 0, .int .i64 0] 23)) hb1
  obtain ⟨zc_a, zc_b, lc1⟩ := rcell f_c1
  obtain ⟨zs_a, zs_b, ls1⟩ := rcell f_s1
  obtain ⟨zo_a, zo_b, lo1⟩ := rcell f_o1
  go_wp2_with fail
  refine Abs.wp_region_abs (Abs.cls0 _) [0, 1, 2, 3, 4] (by kernel_rfl) (by kernel_rfl) (Below.refl _ _).drew ?_
  repeat (first | (refine Abs.step_pure rfl rfl (fun K hK => ?_); go_simp; (try go_bits); (first | refine hK _ _ ?_ | (simp only [↓IntWalk.iteOmega]; go_simp; (try go_bits); refine hK _ _ ?_)); clear hK K) | (refine Abs.step_load (v := ?_) rfl rfl (by kernel_rfl) rfl (fun w0 hI => ?_) (fun K hK => ?_); rotate_left; (· have z0 := (rcell (kp hI (f_s1))).1; go_simp; rfl); (simp only [Act.put, List.setIfInBounds_toArray, List.set_cons_zero, List.set_cons_succ]; refine hK _ _ ?_; clear hK K)) | (refine Abs.step_skip rfl rfl (fun K hK => ?_); (simp only [Act.put, List.setIfInBounds_toArray, List.set_cons_zero, List.set_cons_succ]; refine hK _ _ ?_; clear hK K)))
  (refine Abs.step_call_val (f := ?_) (args := ?_) (v := ?_) rfl rfl rfl rfl (fun w0 => ?_) (fun w0 hI => ?_) (fun K hK => ?_); rotate_left 3; (· go_simp; (constructor <;> rfl)); (· exact c2 _); (simp only [Act.put, List.setIfInBounds_toArray, List.set_cons_zero, List.set_cons_succ]; refine hK _ _ ?_; clear hK K))
  repeat (first | (refine Abs.step_pure rfl rfl (fun K hK => ?_); go_simp; (try go_bits); (first | refine hK _ _ ?_ | (simp only [↓IntWalk.iteOmega]; go_simp; (try go_bits); refine hK _ _ ?_)); clear hK K) | (refine Abs.step_load (v := ?_) rfl rfl (by kernel_rfl) rfl (fun w0 hI => ?_) (fun K hK => ?_); rotate_left; (· have z0 := (rcell (kp hI (f_s1))).1; go_simp; rfl); (simp only [Act.put, List.setIfInBounds_toArray, List.set_cons_zero, List.set_cons_succ]; refine hK _ _ ?_; clear hK K)) | (refine Abs.step_skip rfl rfl (fun K hK => ?_); (simp only [Act.put, List.setIfInBounds_toArray, List.set_cons_zero, List.set_cons_succ]; refine hK _ _ ?_; clear hK K)))
  intro w3 hb3 hx0 hx1 hx2
  clear hx0 hx1 hx2
  simp only [Abs.T_setF, Abs.T_addA, Abs.T_push, Abs.T_start]
  have f_c3 := kp hb3 (f_c1)
  have f_s3 := kp hb3 (f_s1)
  have f_o3 := kp hb3 (f_o1)
  have hB3 := bB hB1 hb3
  clear zc_a zc_b zo_a zo_b zs_a zs_b
  obtain ⟨zc_a, zc_b, lc3⟩ := rcell f_c3
  obtain ⟨zs_a, zs_b, ls3⟩ := rcell f_s3
  obtain ⟨zo_a, zo_b, lo3⟩ := rcell f_o3
  go_wp2_with fail
  refine (c3 _).mono ?_
  rintro e w4 ⟨rfl, hb4⟩
  have f_c4 := kp hb4 (f_c3)
  have f_s4 := kp hb4 (f_s3)
  have f_o4 := kp hb4 (f_o3)
  have hB4 := bB hB3 hb4
  clear zc_a zc_b zo_a zo_b zs_a zs_b
  obtain ⟨zc_a, zc_b, lc4⟩ := rcell f_c4
  obtain ⟨zs_a, zs_b, ls4⟩ := rcell f_s4
  obtain ⟨zo_a, zo_b, lo4⟩ := rcell f_o4
  go_wp2_with fail
  refine (c4 _).mono ?_
  rintro e w5 ⟨rfl, hb5⟩
  have f_c5 := kp hb5 (ka (f_c4) (.cells #[.int .i64 QH, .int .u64 QL] 46))
  have f_s5 := kp hb5 (ka (f_s4) (.cells #[.int .i64 QH, .int .u64 QL] 46))
  have f_o5 := kp hb5 (ka (f_o4) (.cells #[.int .i64 QH, .int .u64 QL] 46))
  have f_q5 := kp hb5 (na w4 #[.int .i64 QH, .int .u64 QL] 46)
  have hB5 := bB (bA hB4 (.cells #[.int .i64 QH, .int .u64 QL] 46)) hb5
  clear zc_a zc_b zo_a zo_b zs_a zs_b
  obtain ⟨zc_a, zc_b, lc5⟩ := rcell f_c5
  obtain ⟨zs_a, zs_b, ls5⟩ := rcell f_s5
  obtain ⟨zo_a, zo_b, lo5⟩ := rcell f_o5
  obtain ⟨zq_a, zq_b, lq5⟩ := rcell f_q5
  go_wp2_with fail
  refine (c5 _).mono ?_
  rintro e w6 ⟨rfl, hb6⟩
  have f_c6 := kp hb6 (f_c5)
  have f_s6 := kp hb6 (f_s5)
  have f_o6 := kp hb6 (f_o5)
  have f_q6 := kp hb6 (f_q5)
  have hB6 := bB hB5 hb6
  clear zc_a zc_b zo_a zo_b zq_a zq_b zs_a zs_b
  obtain ⟨zc_a, zc_b, lc6⟩ := rcell f_c6
  obtain ⟨zs_a, zs_b, ls6⟩ := rcell f_s6
  obtain ⟨zo_a, zo_b, lo6⟩ := rcell f_o6
  obtain ⟨zq_a, zq_b, lq6⟩ := rcell f_q6
  go_wp2_with fail
  (rw [row4 (f_o6)]; generalize hT : setRow _ _ _ = wE; obtain ⟨hbE, hgE⟩ := ret_row hB6 (by omega) (f_o6) hT; have zE := (rcell hgE).1; clear hT; refine bodyPost_ret (by simp [results, Try.results31, go_sem, zE]; try rfl) rfl ?_)
  exact ⟨rfl, hbE⟩

set_option maxRecDepth 100000 in
set_option maxHeartbeats 2000000 in
theorem line_Raised_big (x N D : Int) (hx : Rng x) (h : slB N D = true) (hl : lwN N D = N ∧ lwD N D = D) (hq : ¬ (-9223372036854775808 ≤ x / D ∧ x / D < 9223372036854775808)) (w : World) :
    Calls Try.prog 31 #[.agg #[.int .i64 (hi x), .int .u64 (lo x)], .agg #[.int .i64 N, .int .i64 D]] w fun e w' => e = .returned (.tuple #[.agg #[.int .i64 0, .int .i64 0, .int .i64 0, .int .i64 0], .int .i64 5]) ∧ Below w.heap.size w w' := by
  obtain ⟨d1, d2, d3, d4⟩ := slB_spec h
  have c1 := line_slopeIs N D
  have c2 := line_lowest N D d1 (by omega) (by omega) (by omega)
  have c3 := wide_Div x D hx d1 (by omega)
  have hR : Rng (x / D) := by
    obtain ⟨x1, x2⟩ := hx
    have e0 : (0 : Int) < D := by omega
    constructor
    · refine (Int.le_ediv_iff_mul_le e0).2 ?_
      have h7 : (170141183460469231731687303715884105728 : Int) * 1 ≤ 170141183460469231731687303715884105728 * D := Int.mul_le_mul_of_nonneg_left (by omega) (by decide)
      omega
    · refine (Int.ediv_lt_iff_lt_mul e0).2 ?_
      have h7 : (170141183460469231731687303715884105728 : Int) * 1 ≤ 170141183460469231731687303715884105728 * D := Int.mul_le_mul_of_nonneg_left (by omega) (by decide)
      omega
  have c4 := wide_Int (x / D) hR
  rw [h] at c1
  rw [hl.1, hl.2] at c2
  rw [if_neg hq, if_neg hq] at c4
  clear hq hR h hl hx d1 d2 d3 d4
  generalize hi (x / D) = QH at *
  generalize lo (x / D) = QL at *
  generalize x / D = q at *
  generalize x % D = r at *
  generalize hi x = H at *
  generalize lo x = L at *
  go_enter Try.func31, Try.ntmps31
  go_wp2_with fail
  refine (c1 _).mono ?_
  rintro e w1 ⟨rfl, hb1⟩
  have f_c1 := kp hb1 (ka (ka (na w #[.int .i64 H, .int .u64 L] 46) (.cells #[.int .i64 N, .int .i64 D] 33)) (.cells #[.int .i64 0, .int .i64 0, .int .i64 0, .int .i64 0] 23))
  have f_s1 := kp hb1 (ka (na1 w (.cells #[.int .i64 H, .int .u64 L] 46) #[.int .i64 N, .int .i64 D] 33) (.cells #[.int .i64 0, .int .i64 0, .int .i64 0, .int .i64 0] 23))
  have f_o1 := kp hb1 (na2 w (.cells #[.int .i64 H, .int .u64 L] 46) (.cells #[.int .i64 N, .int .i64 D] 33) #[.int .i64 0, .int .i64 0, .int .i64 0, .int .i64 0] 23)
  have hB1 := bB (bA (bA (bA (b0 w) (.cells #[.int .i64 H, .int .u64 L] 46)) (.cells #[.int .i64 N, .int .i64 D] 33)) (.cells #[.int .i64 0, .int .i64 0, .int .i64 0, .int .i64 0] 23)) hb1
  obtain ⟨zc_a, zc_b, lc1⟩ := rcell f_c1
  obtain ⟨zs_a, zs_b, ls1⟩ := rcell f_s1
  obtain ⟨zo_a, zo_b, lo1⟩ := rcell f_o1
  go_wp2_with fail
  refine Abs.wp_region_abs (Abs.cls0 _) [0, 1, 2, 3, 4] (by kernel_rfl) (by kernel_rfl) (Below.refl _ _).drew ?_
  repeat (first | (refine Abs.step_pure rfl rfl (fun K hK => ?_); go_simp; (try go_bits); (first | refine hK _ _ ?_ | (simp only [↓IntWalk.iteOmega]; go_simp; (try go_bits); refine hK _ _ ?_)); clear hK K) | (refine Abs.step_load (v := ?_) rfl rfl (by kernel_rfl) rfl (fun w0 hI => ?_) (fun K hK => ?_); rotate_left; (· have z0 := (rcell (kp hI (f_s1))).1; go_simp; rfl); (simp only [Act.put, List.setIfInBounds_toArray, List.set_cons_zero, List.set_cons_succ]; refine hK _ _ ?_; clear hK K)) | (refine Abs.step_skip rfl rfl (fun K hK => ?_); (simp only [Act.put, List.setIfInBounds_toArray, List.set_cons_zero, List.set_cons_succ]; refine hK _ _ ?_; clear hK K)))
  (refine Abs.step_call_val (f := ?_) (args := ?_) (v := ?_) rfl rfl rfl rfl (fun w0 => ?_) (fun w0 hI => ?_) (fun K hK => ?_); rotate_left 3; (· go_simp; (constructor <;> rfl)); (· exact c2 _); (simp only [Act.put, List.setIfInBounds_toArray, List.set_cons_zero, List.set_cons_succ]; refine hK _ _ ?_; clear hK K))
  repeat (first | (refine Abs.step_pure rfl rfl (fun K hK => ?_); go_simp; (try go_bits); (first | refine hK _ _ ?_ | (simp only [↓IntWalk.iteOmega]; go_simp; (try go_bits); refine hK _ _ ?_)); clear hK K) | (refine Abs.step_load (v := ?_) rfl rfl (by kernel_rfl) rfl (fun w0 hI => ?_) (fun K hK => ?_); rotate_left; (· have z0 := (rcell (kp hI (f_s1))).1; go_simp; rfl); (simp only [Act.put, List.setIfInBounds_toArray, List.set_cons_zero, List.set_cons_succ]; refine hK _ _ ?_; clear hK K)) | (refine Abs.step_skip rfl rfl (fun K hK => ?_); (simp only [Act.put, List.setIfInBounds_toArray, List.set_cons_zero, List.set_cons_succ]; refine hK _ _ ?_; clear hK K)))
  intro w3 hb3 hx0 hx1 hx2
  clear hx0 hx1 hx2
  simp only [Abs.T_setF, Abs.T_addA, Abs.T_push, Abs.T_start]
  have f_c3 := kp hb3 (f_c1)
  have f_s3 := kp hb3 (f_s1)
  have f_o3 := kp hb3 (f_o1)
  have hB3 := bB hB1 hb3
  clear zc_a zc_b zo_a zo_b zs_a zs_b
  obtain ⟨zc_a, zc_b, lc3⟩ := rcell f_c3
  obtain ⟨zs_a, zs_b, ls3⟩ := rcell f_s3
  obtain ⟨zo_a, zo_b, lo3⟩ := rcell f_o3
  go_wp2_with fail
  refine (c3 _).mono ?_
  rintro e w4 ⟨rfl, hb4⟩
  have f_c4 := kp hb4 (f_c3)
  have f_s4 := kp hb4 (f_s3)
  have f_o4 := kp hb4 (f_o3)
  have hB4 := bB hB3 hb4
  clear zc_a zc_b zo_a zo_b zs_a zs_b
  obtain ⟨zc_a, zc_b, lc4⟩ := rcell f_c4
  obtain ⟨zs_a, zs_b, ls4⟩ := rcell f_s4
  obtain ⟨zo_a, zo_b, lo4⟩ := rcell f_o4
  go_wp2_with fail
  refine (c4 _).mono ?_
  rintro e w5 ⟨rfl, hb5⟩
  have f_c5 := kp hb5 (ka (f_c4) (.cells #[.int .i64 QH, .int .u64 QL] 46))
  have f_s5 := kp hb5 (ka (f_s4) (.cells #[.int .i64 QH, .int .u64 QL] 46))
  have f_o5 := kp hb5 (ka (f_o4) (.cells #[.int .i64 QH, .int .u64 QL] 46))
  have f_q5 := kp hb5 (na w4 #[.int .i64 QH, .int .u64 QL] 46)
  have hB5 := bB (bA hB4 (.cells #[.int .i64 QH, .int .u64 QL] 46)) hb5
  clear zc_a zc_b zo_a zo_b zs_a zs_b
  obtain ⟨zc_a, zc_b, lc5⟩ := rcell f_c5
  obtain ⟨zs_a, zs_b, ls5⟩ := rcell f_s5
  obtain ⟨zo_a, zo_b, lo5⟩ := rcell f_o5
  obtain ⟨zq_a, zq_b, lq5⟩ := rcell f_q5
  go_wp2_with fail
  (rw [row4 (f_o5)]; generalize hT : setRow _ _ _ = wE; obtain ⟨hbE, hgE⟩ := ret_row hB5 (by omega) (f_o5) hT; have zE := (rcell hgE).1; clear hT; refine bodyPost_ret (by simp [results, Try.results31, go_sem, zE]; try rfl) rfl ?_)
  exact ⟨rfl, hbE⟩

set_option maxRecDepth 100000 in
set_option maxHeartbeats 2000000 in
theorem line_Raised_far (x N D : Int) (hx : Rng x) (h : slB N D = true) (hl : lwN N D = N ∧ lwD N D = D) (hq3 : -9223372036854775808 ≤ x / D ∧ x / D < 9223372036854775808) (hq : bkB (x / D) = false) (w : World) :
    Calls Try.prog 31 #[.agg #[.int .i64 (hi x), .int .u64 (lo x)], .agg #[.int .i64 N, .int .i64 D]] w fun e w' => e = .returned (.tuple #[.agg #[.int .i64 0, .int .i64 0, .int .i64 0, .int .i64 0], .int .i64 5]) ∧ Below w.heap.size w w' := by
  obtain ⟨d1, d2, d3, d4⟩ := slB_spec h
  have c1 := line_slopeIs N D
  have c2 := line_lowest N D d1 (by omega) (by omega) (by omega)
  have c3 := wide_Div x D hx d1 (by omega)
  have hR : Rng (x / D) := by
    obtain ⟨x1, x2⟩ := hx
    have e0 : (0 : Int) < D := by omega
    constructor
    · refine (Int.le_ediv_iff_mul_le e0).2 ?_
      have h7 : (170141183460469231731687303715884105728 : Int) * 1 ≤ 170141183460469231731687303715884105728 * D := Int.mul_le_mul_of_nonneg_left (by omega) (by decide)
      omega
    · refine (Int.ediv_lt_iff_lt_mul e0).2 ?_
      have h7 : (170141183460469231731687303715884105728 : Int) * 1 ≤ 170141183460469231731687303715884105728 * D := Int.mul_le_mul_of_nonneg_left (by omega) (by decide)
      omega
  have c4 := wide_Int (x / D) hR
  rw [h] at c1
  rw [hl.1, hl.2] at c2
  have c5 := line_backB (x / D)
  rw [hq] at c5
  rw [if_pos hq3, if_pos hq3] at c4
  clear hq hq3 hR h hl hx d1 d2 d3 d4
  generalize hi (x / D) = QH at *
  generalize lo (x / D) = QL at *
  generalize x / D = q at *
  generalize x % D = r at *
  generalize hi x = H at *
  generalize lo x = L at *
  go_enter Try.func31, Try.ntmps31
  go_wp2_with fail
  refine (c1 _).mono ?_
  rintro e w1 ⟨rfl, hb1⟩
  have f_c1 := kp hb1 (ka (ka (na w #[.int .i64 H, .int .u64 L] 46) (.cells #[.int .i64 N, .int .i64 D] 33)) (.cells #[.int .i64 0, .int .i64 0, .int .i64 0, .int .i64 0] 23))
  have f_s1 := kp hb1 (ka (na1 w (.cells #[.int .i64 H, .int .u64 L] 46) #[.int .i64 N, .int .i64 D] 33) (.cells #[.int .i64 0, .int .i64 0, .int .i64 0, .int .i64 0] 23))
  have f_o1 := kp hb1 (na2 w (.cells #[.int .i64 H, .int .u64 L] 46) (.cells #[.int .i64 N, .int .i64 D] 33) #[.int .i64 0, .int .i64 0, .int .i64 0, .int .i64 0] 23)
  have hB1 := bB (bA (bA (bA (b0 w) (.cells #[.int .i64 H, .int .u64 L] 46)) (.cells #[.int .i64 N, .int .i64 D] 33)) (.cells #[.int .i64 0, .int .i64 0, .int .i64 0, .int .i64 0] 23)) hb1
  obtain ⟨zc_a, zc_b, lc1⟩ := rcell f_c1
  obtain ⟨zs_a, zs_b, ls1⟩ := rcell f_s1
  obtain ⟨zo_a, zo_b, lo1⟩ := rcell f_o1
  go_wp2_with fail
  refine Abs.wp_region_abs (Abs.cls0 _) [0, 1, 2, 3, 4] (by kernel_rfl) (by kernel_rfl) (Below.refl _ _).drew ?_
  repeat (first | (refine Abs.step_pure rfl rfl (fun K hK => ?_); go_simp; (try go_bits); (first | refine hK _ _ ?_ | (simp only [↓IntWalk.iteOmega]; go_simp; (try go_bits); refine hK _ _ ?_)); clear hK K) | (refine Abs.step_load (v := ?_) rfl rfl (by kernel_rfl) rfl (fun w0 hI => ?_) (fun K hK => ?_); rotate_left; (· have z0 := (rcell (kp hI (f_s1))).1; go_simp; rfl); (simp only [Act.put, List.setIfInBounds_toArray, List.set_cons_zero, List.set_cons_succ]; refine hK _ _ ?_; clear hK K)) | (refine Abs.step_skip rfl rfl (fun K hK => ?_); (simp only [Act.put, List.setIfInBounds_toArray, List.set_cons_zero, List.set_cons_succ]; refine hK _ _ ?_; clear hK K)))
  (refine Abs.step_call_val (f := ?_) (args := ?_) (v := ?_) rfl rfl rfl rfl (fun w0 => ?_) (fun w0 hI => ?_) (fun K hK => ?_); rotate_left 3; (· go_simp; (constructor <;> rfl)); (· exact c2 _); (simp only [Act.put, List.setIfInBounds_toArray, List.set_cons_zero, List.set_cons_succ]; refine hK _ _ ?_; clear hK K))
  repeat (first | (refine Abs.step_pure rfl rfl (fun K hK => ?_); go_simp; (try go_bits); (first | refine hK _ _ ?_ | (simp only [↓IntWalk.iteOmega]; go_simp; (try go_bits); refine hK _ _ ?_)); clear hK K) | (refine Abs.step_load (v := ?_) rfl rfl (by kernel_rfl) rfl (fun w0 hI => ?_) (fun K hK => ?_); rotate_left; (· have z0 := (rcell (kp hI (f_s1))).1; go_simp; rfl); (simp only [Act.put, List.setIfInBounds_toArray, List.set_cons_zero, List.set_cons_succ]; refine hK _ _ ?_; clear hK K)) | (refine Abs.step_skip rfl rfl (fun K hK => ?_); (simp only [Act.put, List.setIfInBounds_toArray, List.set_cons_zero, List.set_cons_succ]; refine hK _ _ ?_; clear hK K)))
  intro w3 hb3 hx0 hx1 hx2
  clear hx0 hx1 hx2
  simp only [Abs.T_setF, Abs.T_addA, Abs.T_push, Abs.T_start]
  have f_c3 := kp hb3 (f_c1)
  have f_s3 := kp hb3 (f_s1)
  have f_o3 := kp hb3 (f_o1)
  have hB3 := bB hB1 hb3
  clear zc_a zc_b zo_a zo_b zs_a zs_b
  obtain ⟨zc_a, zc_b, lc3⟩ := rcell f_c3
  obtain ⟨zs_a, zs_b, ls3⟩ := rcell f_s3
  obtain ⟨zo_a, zo_b, lo3⟩ := rcell f_o3
  go_wp2_with fail
  refine (c3 _).mono ?_
  rintro e w4 ⟨rfl, hb4⟩
  have f_c4 := kp hb4 (f_c3)
  have f_s4 := kp hb4 (f_s3)
  have f_o4 := kp hb4 (f_o3)
  have hB4 := bB hB3 hb4
  clear zc_a zc_b zo_a zo_b zs_a zs_b
  obtain ⟨zc_a, zc_b, lc4⟩ := rcell f_c4
  obtain ⟨zs_a, zs_b, ls4⟩ := rcell f_s4
  obtain ⟨zo_a, zo_b, lo4⟩ := rcell f_o4
  go_wp2_with fail
  refine (c4 _).mono ?_
  rintro e w5 ⟨rfl, hb5⟩
  have f_c5 := kp hb5 (ka (f_c4) (.cells #[.int .i64 QH, .int .u64 QL] 46))
  have f_s5 := kp hb5 (ka (f_s4) (.cells #[.int .i64 QH, .int .u64 QL] 46))
  have f_o5 := kp hb5 (ka (f_o4) (.cells #[.int .i64 QH, .int .u64 QL] 46))
  have f_q5 := kp hb5 (na w4 #[.int .i64 QH, .int .u64 QL] 46)
  have hB5 := bB (bA hB4 (.cells #[.int .i64 QH, .int .u64 QL] 46)) hb5
  clear zc_a zc_b zo_a zo_b zs_a zs_b
  obtain ⟨zc_a, zc_b, lc5⟩ := rcell f_c5
  obtain ⟨zs_a, zs_b, ls5⟩ := rcell f_s5
  obtain ⟨zo_a, zo_b, lo5⟩ := rcell f_o5
  obtain ⟨zq_a, zq_b, lq5⟩ := rcell f_q5
  go_wp2_with fail
  refine (c5 _).mono ?_
  rintro e w6 ⟨rfl, hb6⟩
  have f_c6 := kp hb6 (f_c5)
  have f_s6 := kp hb6 (f_s5)
  have f_o6 := kp hb6 (f_o5)
  have f_q6 := kp hb6 (f_q5)
  have hB6 := bB hB5 hb6
  clear zc_a zc_b zo_a zo_b zq_a zq_b zs_a zs_b
  obtain ⟨zc_a, zc_b, lc6⟩ := rcell f_c6
  obtain ⟨zs_a, zs_b, ls6⟩ := rcell f_s6
  obtain ⟨zo_a, zo_b, lo6⟩ := rcell f_o6
  obtain ⟨zq_a, zq_b, lq6⟩ := rcell f_q6
  go_wp2_with fail
  (rw [row4 (f_o6)]; generalize hT : setRow _ _ _ = wE; obtain ⟨hbE, hgE⟩ := ret_row hB6 (by omega) (f_o6) hT; have zE := (rcell hgE).1; clear hT; refine bodyPost_ret (by simp [results, Try.results31, go_sem, zE]; try rfl) rfl ?_)
  exact ⟨rfl, hbE⟩

end Go.Proofs.Ytlgjapjcdpikeaa
