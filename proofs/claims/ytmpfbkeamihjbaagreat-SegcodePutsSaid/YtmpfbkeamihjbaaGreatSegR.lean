/- What is written is read: plain law, no program in sight. -/
import Derived.Test.YtmpfbkeamihjbaaGreatQ6
import Derived.Test.YtmpfbkeamihjbaaGreatQ4
set_option linter.unusedSimpArgs false
set_option linter.unusedVariables false
namespace Go.Proofs.YtmpfbkeamihjbaaGreat
open Go.RowKit

theorem gt_ub : ∀ (n i acc : Nat) (r : List Int), n * 128 ^ i < 18446744073709551616 → (0 < i → 0 < n) → gt (ub n ++ r) i acc = .ok (acc + n * 128 ^ i, i + (ub n).length) := by
  intro n
  induction n using Nat.strongRecOn with
  | ind n ih =>
    intro i acc r hn hi
    have p9 : (128 : Nat) ^ 9 = 9223372036854775808 := by decide
    by_cases h : n < 128
    · rw [ub_low h, List.cons_append, List.nil_append, gt]
      have h9 : ¬ (i = 9 ∧ (1 : Int) < (n : Int)) := by
        rintro ⟨rfl, h1⟩
        rw [p9] at hn
        omega
      rw [if_neg h9, if_neg (by omega), if_pos (by omega)]
      rw [show ((n : Int) % 128).toNat = n by omega]
      rfl
    · rw [ub_high (by omega), List.cons_append, gt]
      have hi9 : i ≠ 9 := by
        rintro rfl
        rw [p9] at hn
        omega
      rw [if_neg (by omega), if_neg (by omega), if_neg (by omega)]
      rw [show (((n % 128 + 128 : Nat) : Int) % 128).toNat = n % 128 by omega]
      have hm : n / 128 * 128 ^ (i + 1) ≤ n * 128 ^ i := by
        rw [Nat.pow_succ, ← Nat.mul_assoc, Nat.mul_right_comm]
        exact Nat.mul_le_mul_right _ (Nat.div_mul_le_self n 128)
      rw [ih (n / 128) (by omega) (i + 1) _ r (by omega) (fun _ => by omega)]
      congr 2
      · rw [Nat.add_assoc]
        congr 1
        have e : n * 128 ^ i = (n % 128 + 128 * (n / 128)) * 128 ^ i := by rw [Nat.mod_add_div]
        rw [e, Nat.add_mul, Nat.pow_succ]
        congr 1
        rw [Nat.mul_comm 128 (n / 128), Nat.mul_assoc, Nat.mul_comm 128 (128 ^ i)]
      · rw [List.length_cons]
        omega

/-- the bytes behind a place begin so -/
def At (b : List Int) (at' : Nat) (l : List Int) : Prop := ∃ r, b.drop at' = l ++ r
theorem At.app {b : List Int} {at' : Nat} {l m : List Int} (h : At b at' (l ++ m)) : At b at' l ∧ At b (at' + l.length) m := by
  obtain ⟨r, h⟩ := h
  refine ⟨⟨m ++ r, by rw [h, List.append_assoc]⟩, r, ?_⟩
  rw [← List.drop_drop, h, List.append_assoc, List.drop_left]
theorem gU_ub {b : List Int} {at' n : Nat} (hn : n < 18446744073709551616) (h : At b at' (ub n)) : gU b at' = .ok (n, at' + (ub n).length) := by
  obtain ⟨r, h⟩ := h
  unfold gU
  rw [h, gt_ub n 0 0 r (by simpa using hn) (fun h => absurd h (by decide))]
  simp
theorem pU_ub {b : List Int} {at' n most : Nat} (hm : most < 18446744073709551616) (hn : n ≤ most) (h : At b at' (ub n)) : pU b most at' = .ok (n, at' + (ub n).length) := by
  unfold pU
  rw [gU_ub (by omega) h]
  simp only
  rw [if_pos hn]
theorem pS_ub {b : List Int} {at' : Nat} {n : Int} (h0 : -9223372036854775808 ≤ n) (h1 : n ≤ 9223372036854775807) (h : At b at' (ub (fold n))) : pS b at' = .ok (n, at' + (ub (fold n)).length) := by
  unfold pS
  rw [gU_ub (fold_lt h0 h1) h]
  simp only
  rw [unfold_fold]
theorem pR1_w {b : List Int} {at' : Nat} {a : Int} {r : Rn} (hr : rnIs r = true) (hs : (r.n == 1) = (r.s == 0)) (hl : rlast r ≤ 281474976710656) (ha : 0 ≤ a) (hf : a ≤ r.f) (h : At b at' (wR1 a r)) :
    pR1 b a at' = .ok (r, at' + (wR1 a r).length) := by
  obtain ⟨q1, q2, q3, q4, q5, q6⟩ := rnIs_spec hr
  obtain ⟨f, s, n⟩ := r
  simp only at *
  unfold wR1 at h ⊢
  simp only at h ⊢
  obtain ⟨h1, h2⟩ := h.app
  obtain ⟨h2, h3⟩ := h2.app
  have e1 := pU_ub (most := 281474976710656) (by decide) (show (f - a).toNat ≤ 281474976710656 by omega) h1
  have e2 := pU_ub (most := 256) (by decide) (show n.toNat ≤ 256 by omega) h2
  have hfa : a + (((f - a).toNat : Nat) : Int) = f := by omega
  have hnn : ((n.toNat : Nat) : Int) = n := by omega
  rw [pR1, e1]
  simp only
  rw [e2]
  simp only
  rw [if_neg (by omega), hfa, hnn]
  unfold rlast at hl
  simp only at hl
  by_cases h1n : n = 1
  · have hs0 : s = 0 := by
      subst h1n
      simp at hs
      exact hs
    subst h1n hs0
    rw [if_pos (by decide), if_pos (by omega)]
    simp
    omega
  · rw [if_neg (by omega)]
    rw [if_neg h1n] at h3 ⊢
    have e3 := pU_ub (most := 281474976710656) (by decide) (show s.toNat ≤ 281474976710656 by omega) h3
    rw [e3]
    have hss : ((s.toNat : Nat) : Int) = s := by omega
    simp only
    rw [hss, if_pos hl]
    simp only [List.length_append]
    congr 2
    omega
/-- no run begins ahead of the last time before it -/
def Chain' : Int → List Rn → Prop
  | _, [] => True
  | a, r :: l => a ≤ r.f ∧ Chain' (rlast r) l
theorem pRs_w {b : List Int} : ∀ (l : List Rn) (a : Int) (at' : Nat), (∀ r ∈ l, rnIs r = true ∧ ((r.n == 1) = (r.s == 0)) ∧ rlast r ≤ 281474976710656) → 0 ≤ a → Chain' a l → At b at' (wRs a l) → pRs b l.length a at' = .ok (l, at' + (wRs a l).length)
  | [], _, _, _, _, _, _ => rfl
  | r :: l, a, at', hr, ha, hc, h => by
    rw [wRs] at h ⊢
    obtain ⟨h1, h2⟩ := h.app
    obtain ⟨q1, q2, q3⟩ := hr r (List.mem_cons_self ..)
    have e1 := pR1_w q1 q2 q3 ha hc.1 h1
    have e2 := pRs_w l (rlast r) _ (fun x hx => hr x (List.mem_cons_of_mem _ hx)) (rlast_nn q1) hc.2 h2
    rw [List.length_cons, pRs, e1]
    simp only
    rw [e2]
    simp only [List.length_append]
    congr 2
    omega
theorem rn_form {l : List Rn} (h : ∀ i, i < l.length → rnAt l i = true) : ∀ r ∈ l, rnIs r = true ∧ ((r.n == 1) = (r.s == 0)) ∧ rlast r ≤ 281474976710656 := fun r hr => by
  obtain ⟨i, hi, rfl⟩ := List.mem_iff_getElem.1 hr
  rw [rn_eq hi]
  obtain ⟨h1, h2, -⟩ := rnAt_spec (h i hi)
  unfold rnForm at h2
  simp only [Bool.and_eq_true, decide_eq_true_eq] at h2
  exact ⟨h1, h2.1.1, by rw [rlast_eq]; exact h2.2⟩
theorem rn_chain {l : List Rn} (h : ∀ i, i < l.length → rnAt l i = true) : ∀ (m k : Nat), k + m = l.length → 0 < k → Chain' (rlast (rn l (k - 1))) (l.drop k)
  | 0, k, hk, _ => by
    rw [show k = l.length by omega, List.drop_length]
    trivial
  | m + 1, k, hk, h0 => by
    have hlt : k < l.length := by omega
    rw [rn_drop hlt]
    exact ⟨from_le h hlt h0, by have := rn_chain h m (k + 1) (by omega) (by omega); rwa [Nat.add_sub_cancel] at this⟩
theorem rn_chain0 {l : List Rn} (h : ∀ i, i < l.length → rnAt l i = true) : Chain' 0 l := by
  by_cases h0 : 0 < l.length
  · have e : l = l.drop 0 := rfl
    rw [e, rn_drop h0]
    have q := rnIs_spec (rnAt_spec (h 0 h0)).1
    refine ⟨q.2.2.1, ?_⟩
    have := rn_chain h (l.length - 1) 1 (by omega) (by omega)
    exact this
  · obtain rfl : l = [] := List.eq_nil_of_length_eq_zero (by omega)
    trivial
theorem pRuns_w {b : List Int} {at' : Nat} {l : List Rn} (h : rnB l = true) (hw : At b at' (wRuns l)) : pRuns b at' = .ok (l, at' + (wRuns l).length) := by
  obtain ⟨k0, k1, k2, k3⟩ := rnB_spec h
  unfold wRuns at hw ⊢
  obtain ⟨h1, h2⟩ := hw.app
  have e1 := pU_ub (most := 256) (by decide) k1 h1
  have e2 := pRs_w l 0 _ (rn_form k2) (Int.le_refl _) (rn_chain0 k2) h2
  rw [pRuns, e1]
  simp only
  rw [if_neg (by omega), e2]
  simp only
  rw [if_pos h, List.length_append]
  congr 2
  omega
theorem pVs_w {b : List Int} : ∀ (l : List Int) (a : Int) (at' : Nat), l.all bkV = true → bkV a = true → At b at' (wVs a l) → pVs b l.length a at' = .ok (l, at' + (wVs a l).length)
  | [], _, _, _, _, _ => rfl
  | v :: l, a, at', h, ha, hw => by
    simp only [List.all_cons, Bool.and_eq_true] at h
    have b1 := bkV_spec h.1
    have b2 := bkV_spec ha
    rw [wVs] at hw ⊢
    obtain ⟨h1, h2⟩ := hw.app
    have e1 := pS_ub (n := v - a) (by omega) (by omega) h1
    have e2 := pVs_w l v _ h.2 h.1 h2
    rw [List.length_cons, pVs, e1]
    simp only
    rw [show a + (v - a) = v by omega, if_pos h.1, e2]
    simp only [List.length_append]
    congr 2
    omega
theorem kd_line {s : Sg} (h : sgB s = true) : (s.kd = 1 → s.q.N = 0 ∧ isB s.q.A s.q.R s.q.N s.q.D = true) ∧ (s.kd = 2 → s.q.R = 0) := by
  unfold sgB at h
  simp only [Bool.and_eq_true, decide_eq_true_eq] at h
  obtain ⟨-, -, -, -, -, h6⟩ := h
  refine ⟨fun e => ?_, fun e => ?_⟩
  · unfold kdB at h6
    rw [if_pos e] at h6
    simp only [Bool.and_eq_true, decide_eq_true_eq] at h6
    exact ⟨h6.1, (lnB_spec h6.2).1⟩
  · unfold kdB at h6
    rw [if_neg (by omega), if_pos e] at h6
    simp only [Bool.and_eq_true, decide_eq_true_eq] at h6
    exact h6.2.1
theorem lwD_zero {D : Int} (h : 1 ≤ D) : lwD 0 D = 1 := by
  have : dvN 0 D = D.toNat := by unfold dvN; simp
  unfold lwD
  rw [this, show ((D.toNat : Nat) : Int) = D by omega]
  exact Int.ediv_self (by omega)
theorem flat_q {s : Sg} (h : sgB s = true) (hk : s.kd = 1) : s.q = ⟨s.q.A, 0, 0, 1⟩ := by
  obtain ⟨h1, h2⟩ := (kd_line h).1 hk
  obtain ⟨i1, i2, ⟨i3, i4⟩, i5, i6⟩ := isB_parts h2
  obtain ⟨j1, j2, j3, j4⟩ := slB_spec i2
  rw [h1, lwD_zero j1] at i4
  obtain ⟨kd, l, ⟨A, R, N, D⟩, vs, er⟩ := s
  simp only at *
  have : R = 0 := by omega
  subst this h1
  rw [i4]
theorem pL_w {b : List Int} {at' : Nat} {s : Sg} (h : sgB s = true) (hw : At b at' (wL s.kd s.q)) : pL b s.kd at' = .ok (s.q, at' + (wL s.kd s.q).length) := by
  have ok := sg_ok h
  have hA := fun at' => pS_ub (b := b) (at' := at') (n := s.q.A) (by have := ok.A0; omega) (by have := ok.A1; omega)
  have hN := fun at' => pS_ub (b := b) (at' := at') (n := s.q.N) (by have := ok.N0; omega) (by have := ok.N1; omega)
  have hR := fun at' => pU_ub (b := b) (at' := at') (n := s.q.R.toNat) (most := 281474976710656) (by decide) (by have := ok.R1; omega)
  have hD := fun at' => pU_ub (b := b) (at' := at') (n := s.q.D.toNat) (most := 281474976710656) (by decide) (by have := ok.D1; omega)
  have r0 : ((s.q.R.toNat : Nat) : Int) = s.q.R := by have := ok.R0; omega
  have d0 : ((s.q.D.toNat : Nat) : Int) = s.q.D := by have := ok.D0; omega
  rcases (show s.kd = 1 ∨ s.kd = 2 ∨ s.kd = 3 ∨ s.kd = 4 by have := ok.k1; have := ok.k4; omega) with e | e | e | e
  · have hq := flat_q h e
    rw [e] at hw ⊢
    have hl : wL 1 s.q = ub (fold s.q.A) := by unfold wL; simp
    rw [hl] at hw ⊢
    have e1 := hA at' hw
    rw [pL, if_neg (by decide), if_neg (by decide), if_pos rfl, pLA, e1]
    simp only
    rw [← hq]
  · have hq := (kd_line h).2 e
    rw [e] at hw ⊢
    have hl : wL 2 s.q = ub (fold s.q.N) ++ (ub s.q.D.toNat ++ ub (fold s.q.A)) := by unfold wL; simp
    rw [hl] at hw ⊢
    obtain ⟨h1, h2⟩ := hw.app
    obtain ⟨h2, h3⟩ := h2.app
    rw [pL, if_neg (by decide), if_pos rfl, pLN, hN _ h1]
    simp only
    rw [hD _ h2]
    simp only
    rw [pLA, hA _ h3]
    simp only [List.length_append]
    rw [d0, ← hq]
    congr 2
    omega
  · rw [e] at hw ⊢
    have hl : wL 3 s.q = ub s.q.R.toNat ++ (ub (fold s.q.N) ++ (ub s.q.D.toNat ++ ub (fold s.q.A))) := by unfold wL; simp
    rw [hl] at hw ⊢
    obtain ⟨h1, h2⟩ := hw.app
    obtain ⟨h2, h3⟩ := h2.app
    obtain ⟨h3, h4⟩ := h3.app
    rw [pL, if_pos rfl, hR _ h1]
    simp only
    rw [pLN, hN _ h2]
    simp only
    rw [hD _ h3]
    simp only
    rw [pLA, hA _ h4]
    simp only [List.length_append]
    rw [d0, r0]
    congr 2
    omega
  · rw [e, (ok.q4 e).1]
    have hl : wL 4 (⟨0, 0, 0, 0⟩ : L4) = [] := by unfold wL; simp
    rw [hl, pL, if_neg (by decide), if_neg (by decide), if_neg (by decide)]
    rfl
theorem At.head {b : List Int} {at' : Nat} {k : Int} {l : List Int} (h : At b at' (k :: l)) : b[at']? = some k ∧ At b (at' + 1) l := by
  obtain ⟨r, h⟩ := h
  refine ⟨?_, r, ?_⟩
  · have := congrArg (·[0]?) h
    simpa using this
  · rw [← List.drop_drop, h]
    rfl
/-- WHAT WAS WRITTEN IS READ -/
theorem pSeg_w {b : List Int} {at' : Nat} {s : Sg} (h : sgB s = true) (hw : At b at' (wSeg s)) : pSeg b at' = .ok (s, at' + (wSeg s).length) := by
  have ok := sg_ok h
  unfold wSeg at hw ⊢
  obtain ⟨h0, hw⟩ := hw.head
  obtain ⟨h1, hw⟩ := hw.app
  obtain ⟨h2, hw⟩ := hw.app
  obtain ⟨h3, h4⟩ := hw.app
  have e0 : pK b at' = .ok (s.kd, at' + 1) := by unfold pK; rw [h0]; simp only; rw [if_pos ⟨ok.k1, ok.k4⟩]
  have e1 := pU_ub (most := 1099511627776) (by decide) (by have := ok.e1; omega) h1
  have e2 := pRuns_w ok.rn h2
  have e3 := pL_w h h3
  have er0 : ((s.er.toNat : Nat) : Int) = s.er := by have := ok.e0; omega
  rw [pSeg, e0]
  simp only
  rw [e1]
  simp only
  rw [e2]
  simp only
  rw [e3]
  simp only
  by_cases hk : s.kd = 4
  · obtain ⟨hq, hv⟩ := ok.q4 hk
    have e4 := pVs_w s.vs 0 _ ok.vs (by decide) h4
    have hm : (rnSum s.l s.l.length).toNat = s.vs.length := by omega
    rw [if_pos hk, hm, e4]
    simp only
    rw [er0, if_pos h]
    simp only [List.length_append, List.length_cons]
    congr 2
    omega
  · have hv := ok.v4 hk
    obtain ⟨kd, l, q, vs, er⟩ := s
    simp only at *
    subst hv
    rw [if_neg hk]
    simp only
    rw [er0, if_pos h]
    simp only [List.length_append, List.length_cons, wVs, List.length_nil]
    congr 2
    omega
end Go.Proofs.YtmpfbkeamihjbaaGreat
