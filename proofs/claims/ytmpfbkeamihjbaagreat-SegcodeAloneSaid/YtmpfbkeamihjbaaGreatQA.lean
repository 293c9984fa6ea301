/- What is written is read: plain law, no program in sight. What is read, cut off: plain law, no program in sight. -/
import Derived.Test.YtmpfbkeamihjbaaGreatQ6
import Derived.Test.YtmpfbkeamihjbaaGreatQ4
set_option linter.unusedSimpArgs false
set_option linter.unusedVariables false
namespace Go.Proofs.YtmpfbkeamihjbaaGreat
open Go.RowKit

theorem gt_ub : ∀ (n i acc : Nat) (r : List Int), n * 128 ^ i < 18446744073709551616 → (0 < i → 0 < n) → gt (ub n ++ r) i acc = .ok (acc + n * 128 ^ i, i + (ub n).length) := by
  intro n
  induction n using Nat.strongRecOn with
  | ind n ih =>
    intro i acc r hn hi
    have p9 : (128 : Nat) ^ 9 = 9223372036854775808 := by decide
    by_cases h : n < 128
    · rw [ub_low h, List.cons_append, List.nil_append, gt]
      have h9 : ¬ (i = 9 ∧ (1 : Int) < (n : Int)) := by
        rintro ⟨rfl, h1⟩
        rw [p9] at hn
        omega
      rw [if_neg h9, if_neg (by omega), if_pos (by omega)]
      rw [show ((n : Int) % 128).toNat = n by omega]
      rfl
    · rw [ub_high (by omega), List.cons_append, gt]
      have hi9 : i ≠ 9 := by
        rintro rfl
        rw [p9] at hn
        omega
      rw [if_neg (by omega), if_neg (by omega), if_neg (by omega)]
      rw [show (((n % 128 + 128 : Nat) : Int) % 128).toNat = n % 128 by omega]
      have hm : n / 128 * 128 ^ (i + 1) ≤ n * 128 ^ i := by
        rw [Nat.pow_succ, ← Nat.mul_assoc, Nat.mul_right_comm]
        exact Nat.mul_le_mul_right _ (Nat.div_mul_le_self n 128)
      rw [ih (n / 128) (by omega) (i + 1) _ r (by omega) (fun _ => by omega)]
      congr 2
      · rw [Nat.add_assoc]
        congr 1
        have e : n * 128 ^ i = (n % 128 + 128 * (n / 128)) * 128 ^ i := by rw [Nat.mod_add_div]
        rw [e, Nat.add_mul, Nat.pow_succ]
        congr 1
        rw [Nat.mul_comm 128 (n / 128), Nat.mul_assoc, Nat.mul_comm 128 (128 ^ i)]
      · rw [List.length_cons]
        omega

/-- the bytes behind a place begin so -/
def At (b : List Int) (at' : Nat) (l : List Int) : Prop := ∃ r, b.drop at' = l ++ r
theorem At.app {b : List Int} {at' : Nat} {l m : List Int} (h : At b at' (l ++ m)) : At b at' l ∧ At b (at' + l.length) m := by
  obtain ⟨r, h⟩ := h
  refine ⟨⟨m ++ r, by rw [h, List.append_assoc]⟩, r, ?_⟩
  rw [← List.drop_drop, h, List.append_assoc, List.drop_left]
theorem gU_ub {b : List Int} {at' n : Nat} (hn : n < 18446744073709551616) (h : At b at' (ub n)) : gU b at' = .ok (n, at' + (ub n).length) := by
  obtain ⟨r, h⟩ := h
  unfold gU
  rw [h, gt_ub n 0 0 r (by simpa using hn) (fun h => absurd h (by decide))]
  simp
theorem pU_ub {b : List Int} {at' n most : Nat} (hm : most < 18446744073709551616) (hn : n ≤ most) (h : At b at' (ub n)) : pU b most at' = .ok (n, at' + (ub n).length) := by
  unfold pU
  rw [gU_ub (by omega) h]
  simp only
  rw [if_pos hn]
theorem pS_ub {b : List Int} {at' : Nat} {n : Int} (h0 : -9223372036854775808 ≤ n) (h1 : n ≤ 9223372036854775807) (h : At b at' (ub (fold n))) : pS b at' = .ok (n, at' + (ub (fold n)).length) := by
  unfold pS
  rw [gU_ub (fold_lt h0 h1) h]
  simp only
  rw [unfold_fold]
theorem pR1_w {b : List Int} {at' : Nat} {a : Int} {r : Rn} (hr : rnIs r = true) (hs : (r.n == 1) = (r.s == 0)) (hl : rlast r ≤ 281474976710656) (ha : 0 ≤ a) (hf : a ≤ r.f) (h : At b at' (wR1 a r)) :
    pR1 b a at' = .ok (r, at' + (wR1 a r).length) := by
  obtain ⟨q1, q2, q3, q4, q5, q6⟩ := rnIs_spec hr
  obtain ⟨f, s, n⟩ := r
  simp only at *
  unfold wR1 at h ⊢
  simp only at h ⊢
  obtain ⟨h1, h2⟩ := h.app
  obtain ⟨h2, h3⟩ := h2.app
  have e1 := pU_ub (most := 281474976710656) (by decide) (show (f - a).toNat ≤ 281474976710656 by omega) h1
  have e2 := pU_ub (most := 256) (by decide) (show n.toNat ≤ 256 by omega) h2
  have hfa : a + (((f - a).toNat : Nat) : Int) = f := by omega
  have hnn : ((n.toNat : Nat) : Int) = n := by omega
  rw [pR1, e1]
  simp only
  rw [e2]
  simp only
  rw [if_neg (by omega), hfa, hnn]
  unfold rlast at hl
  simp only at hl
  by_cases h1n : n = 1
  · have hs0 : s = 0 := by
      subst h1n
      simp at hs
      exact hs
    subst h1n hs0
    rw [if_pos (by decide), if_pos (by omega)]
    simp
    omega
  · rw [if_neg (by omega)]
    rw [if_neg h1n] at h3 ⊢
    have e3 := pU_ub (most := 281474976710656) (by decide) (show s.toNat ≤ 281474976710656 by omega) h3
    rw [e3]
    have hss : ((s.toNat : Nat) : Int) = s := by omega
    simp only
    rw [hss, if_pos hl]
    simp only [List.length_append]
    congr 2
    omega
/-- no run begins ahead of the last time before it -/
def Chain' : Int → List Rn → Prop
  | _, [] => True
  | a, r :: l => a ≤ r.f ∧ Chain' (rlast r) l
theorem pRs_w {b : List Int} : ∀ (l : List Rn) (a : Int) (at' : Nat), (∀ r ∈ l, rnIs r = true ∧ ((r.n == 1) = (r.s == 0)) ∧ rlast r ≤ 281474976710656) → 0 ≤ a → Chain' a l → At b at' (wRs a l) → pRs b l.length a at' = .ok (l, at' + (wRs a l).length)
  | [], _, _, _, _, _, _ => rfl
  | r :: l, a, at', hr, ha, hc, h => by
    rw [wRs] at h ⊢
    obtain ⟨h1, h2⟩ := h.app
    obtain ⟨q1, q2, q3⟩ := hr r (List.mem_cons_self ..)
    have e1 := pR1_w q1 q2 q3 ha hc.1 h1
    have e2 := pRs_w l (rlast r) _ (fun x hx => hr x (List.mem_cons_of_mem _ hx)) (rlast_nn q1) hc.2 h2
    rw [List.length_cons, pRs, e1]
    simp only
    rw [e2]
    simp only [List.length_append]
    congr 2
    omega
theorem rn_form {l : List Rn} (h : ∀ i, i < l.length → rnAt l i = true) : ∀ r ∈ l, rnIs r = true ∧ ((r.n == 1) = (r.s == 0)) ∧ rlast r ≤ 281474976710656 := fun r hr => by
  obtain ⟨i, hi, rfl⟩ := List.mem_iff_getElem.1 hr
  rw [rn_eq hi]
  obtain ⟨h1, h2, -⟩ := rnAt_spec (h i hi)
  unfold rnForm at h2
  simp only [Bool.and_eq_true, decide_eq_true_eq] at h2
  exact ⟨h1, h2.1.1, by rw [rlast_eq]; exact h2.2⟩
theorem rn_chain {l : List Rn} (h : ∀ i, i < l.length → rnAt l i = true) : ∀ (m k : Nat), k + m = l.length → 0 < k → Chain' (rlast (rn l (k - 1))) (l.drop k)
  | 0, k, hk, _ => by
    rw [show k = l.length by omega, List.drop_length]
    trivial
  | m + 1, k, hk, h0 => by
    have hlt : k < l.length := by omega
    rw [rn_drop hlt]
    exact ⟨from_le h hlt h0, by have := rn_chain h m (k + 1) (by omega) (by omega); rwa [Nat.add_sub_cancel] at this⟩
theorem rn_chain0 {l : List Rn} (h : ∀ i, i < l.length → rnAt l i = true) : Chain' 0 l := by
  by_cases h0 : 0 < l.length
  · have e : l = l.drop 0 := rfl
    rw [e, rn_drop h0]
    have q := rnIs_spec (rnAt_spec (h 0 h0)).1
    refine ⟨q.2.2.1, ?_⟩
    have := rn_chain h (l.length - 1) 1 (by omega) (by omega)
    exact this
  · obtain rfl : l = [] := List.eq_nil_of_length_eq_zero (by omega)
    trivial
theorem pRuns_w {b : List Int} {at' : Nat} {l : List Rn} (h : rnB l = true) (hw : At b at' (wRuns l)) : pRuns b at' = .ok (l, at' + (wRuns l).length) := by
  obtain ⟨k0, k1, k2, k3⟩ := rnB_spec h
  unfold wRuns at hw ⊢
  obtain ⟨h1, h2⟩ := hw.app
  have e1 := pU_ub (most := 256) (by decide) k1 h1
  have e2 := pRs_w l 0 _ (rn_form k2) (Int.le_refl _) (rn_chain0 k2) h2
  rw [pRuns, e1]
  simp only
  rw [if_neg (by omega), e2]
  simp only
  rw [if_pos h, List.length_append]
  congr 2
  omega
theorem pVs_w {b : List Int} : ∀ (l : List Int) (a : Int) (at' : Nat), l.all bkV = true → bkV a = true → At b at' (wVs a l) → pVs b l.length a at' = .ok (l, at' + (wVs a l).length)
  | [], _, _, _, _, _ => rfl
  | v :: l, a, at', h, ha, hw => by
    simp only [List.all_cons, Bool.and_eq_true] at h
    have b1 := bkV_spec h.1
    have b2 := bkV_spec ha
    rw [wVs] at hw ⊢
    obtain ⟨h1, h2⟩ := hw.app
    have e1 := pS_ub (n := v - a) (by omega) (by omega) h1
    have e2 := pVs_w l v _ h.2 h.1 h2
    rw [List.length_cons, pVs, e1]
    simp only
    rw [show a + (v - a) = v by omega, if_pos h.1, e2]
    simp only [List.length_append]
    congr 2
    omega
theorem kd_line {s : Sg} (h : sgB s = true) : (s.kd = 1 → s.q.N = 0 ∧ isB s.q.A s.q.R s.q.N s.q.D = true) ∧ (s.kd = 2 → s.q.R = 0) := by
  unfold sgB at h
  simp only [Bool.and_eq_true, decide_eq_true_eq] at h
  obtain ⟨-, -, -, -, -, h6⟩ := h
  refine ⟨fun e => ?_, fun e => ?_⟩
  · unfold kdB at h6
    rw [if_pos e] at h6
    simp only [Bool.and_eq_true, decide_eq_true_eq] at h6
    exact ⟨h6.1, (lnB_spec h6.2).1⟩
  · unfold kdB at h6
    rw [if_neg (by omega), if_pos e] at h6
    simp only [Bool.and_eq_true, decide_eq_true_eq] at h6
    exact h6.2.1
theorem lwD_zero {D : Int} (h : 1 ≤ D) : lwD 0 D = 1 := by
  have : dvN 0 D = D.toNat := by unfold dvN; simp
  unfold lwD
  rw [this, show ((D.toNat : Nat) : Int) = D by omega]
  exact Int.ediv_self (by omega)
theorem flat_q {s : Sg} (h : sgB s = true) (hk : s.kd = 1) : s.q = ⟨s.q.A, 0, 0, 1⟩ := by
  obtain ⟨h1, h2⟩ := (kd_line h).1 hk
  obtain ⟨i1, i2, ⟨i3, i4⟩, i5, i6⟩ := isB_parts h2
  obtain ⟨j1, j2, j3, j4⟩ := slB_spec i2
  rw [h1, lwD_zero j1] at i4
  obtain ⟨kd, l, ⟨A, R, N, D⟩, vs, er⟩ := s
  simp only at *
  have : R = 0 := by omega
  subst this h1
  rw [i4]
theorem pL_w {b : List Int} {at' : Nat} {s : Sg} (h : sgB s = true) (hw : At b at' (wL s.kd s.q)) : pL b s.kd at' = .ok (s.q, at' + (wL s.kd s.q).length) := by
  have ok := sg_ok h
  have hA := fun at' => pS_ub (b := b) (at' := at') (n := s.q.A) (by have := ok.A0; omega) (by have := ok.A1; omega)
  have hN := fun at' => pS_ub (b := b) (at' := at') (n := s.q.N) (by have := ok.N0; omega) (by have := ok.N1; omega)
  have hR := fun at' => pU_ub (b := b) (at' := at') (n := s.q.R.toNat) (most := 281474976710656) (by decide) (by have := ok.R1; omega)
  have hD := fun at' => pU_ub (b := b) (at' := at') (n := s.q.D.toNat) (most := 281474976710656) (by decide) (by have := ok.D1; omega)
  have r0 : ((s.q.R.toNat : Nat) : Int) = s.q.R := by have := ok.R0; omega
  have d0 : ((s.q.D.toNat : Nat) : Int) = s.q.D := by have := ok.D0; omega
  rcases (show s.kd = 1 ∨ s.kd = 2 ∨ s.kd = 3 ∨ s.kd = 4 by have := ok.k1; have := ok.k4; omega) with e | e | e | e
  · have hq := flat_q h e
    rw [e] at hw ⊢
    have hl : wL 1 s.q = ub (fold s.q.A) := by unfold wL; simp
    rw [hl] at hw ⊢
    have e1 := hA at' hw
    rw [pL, if_neg (by decide), if_neg (by decide), if_pos rfl, pLA, e1]
    simp only
    rw [← hq]
  · have hq := (kd_line h).2 e
    rw [e] at hw ⊢
    have hl : wL 2 s.q = ub (fold s.q.N) ++ (ub s.q.D.toNat ++ ub (fold s.q.A)) := by unfold wL; simp
    rw [hl] at hw ⊢
    obtain ⟨h1, h2⟩ := hw.app
    obtain ⟨h2, h3⟩ := h2.app
    rw [pL, if_neg (by decide), if_pos rfl, pLN, hN _ h1]
    simp only
    rw [hD _ h2]
    simp only
    rw [pLA, hA _ h3]
    simp only [List.length_append]
    rw [d0, ← hq]
    congr 2
    omega
  · rw [e] at hw ⊢
    have hl : wL 3 s.q = ub s.q.R.toNat ++ (ub (fold s.q.N) ++ (ub s.q.D.toNat ++ ub (fold s.q.A))) := by unfold wL; simp
    rw [hl] at hw ⊢
    obtain ⟨h1, h2⟩ := hw.app
    obtain ⟨h2, h3⟩ := h2.app
    obtain ⟨h3, h4⟩ := h3.app
    rw [pL, if_pos rfl, hR _ h1]
    simp only
    rw [pLN, hN _ h2]
    simp only
    rw [hD _ h3]
    simp only
    rw [pLA, hA _ h4]
    simp only [List.length_append]
    rw [d0, r0]
    congr 2
    omega
  · rw [e, (ok.q4 e).1]
    have hl : wL 4 (⟨0, 0, 0, 0⟩ : L4) = [] := by unfold wL; simp
    rw [hl, pL, if_neg (by decide), if_neg (by decide), if_neg (by decide)]
    rfl
theorem At.head {b : List Int} {at' : Nat} {k : Int} {l : List Int} (h : At b at' (k :: l)) : b[at']? = some k ∧ At b (at' + 1) l := by
  obtain ⟨r, h⟩ := h
  refine ⟨?_, r, ?_⟩
  · have := congrArg (·[0]?) h
    simpa using this
  · rw [← List.drop_drop, h]
    rfl
/-- WHAT WAS WRITTEN IS READ -/
theorem pSeg_w {b : List Int} {at' : Nat} {s : Sg} (h : sgB s = true) (hw : At b at' (wSeg s)) : pSeg b at' = .ok (s, at' + (wSeg s).length) := by
  have ok := sg_ok h
  unfold wSeg at hw ⊢
  obtain ⟨h0, hw⟩ := hw.head
  obtain ⟨h1, hw⟩ := hw.app
  obtain ⟨h2, hw⟩ := hw.app
  obtain ⟨h3, h4⟩ := hw.app
  have e0 : pK b at' = .ok (s.kd, at' + 1) := by unfold pK; rw [h0]; simp only; rw [if_pos ⟨ok.k1, ok.k4⟩]
  have e1 := pU_ub (most := 1099511627776) (by decide) (by have := ok.e1; omega) h1
  have e2 := pRuns_w ok.rn h2
  have e3 := pL_w h h3
  have er0 : ((s.er.toNat : Nat) : Int) = s.er := by have := ok.e0; omega
  rw [pSeg, e0]
  simp only
  rw [e1]
  simp only
  rw [e2]
  simp only
  rw [e3]
  simp only
  by_cases hk : s.kd = 4
  · obtain ⟨hq, hv⟩ := ok.q4 hk
    have e4 := pVs_w s.vs 0 _ ok.vs (by decide) h4
    have hm : (rnSum s.l s.l.length).toNat = s.vs.length := by omega
    rw [if_pos hk, hm, e4]
    simp only
    rw [er0, if_pos h]
    simp only [List.length_append, List.length_cons]
    congr 2
    omega
  · have hv := ok.v4 hk
    obtain ⟨kd, l, q, vs, er⟩ := s
    simp only at *
    subst hv
    rw [if_neg hk]
    simp only
    rw [er0, if_pos h]
    simp only [List.length_append, List.length_cons, wVs, List.length_nil]
    congr 2
    omega
end Go.Proofs.YtmpfbkeamihjbaaGreat

namespace Go.Proofs.YtmpfbkeamihjbaaGreat
open Go.RowKit

/-- bytes cut off where the reading still goes on end too early; cut off behind it they read the same -/
def Keeps {α : Type} (p : List Int → Nat → Except Int (α × Nat)) : Prop :=
  ∀ b at' x nx, p b at' = .ok (x, nx) → at' ≤ nx ∧ ∀ i, at' ≤ i → p (b.take i) at' = if i < nx then .error 6 else .ok (x, nx)
def bnd {α β : Type} (p : List Int → Nat → Except Int (α × Nat)) (q : α → List Int → Nat → Except Int (β × Nat)) (b : List Int) (at' : Nat) : Except Int (β × Nat) :=
  match p b at' with
  | .error e => .error e
  | .ok (x, n1) => q x b n1
theorem keeps_bnd {α β : Type} {p : List Int → Nat → Except Int (α × Nat)} {q : α → List Int → Nat → Except Int (β × Nat)} (hp : Keeps p) (hq : ∀ x, Keeps (q x)) : Keeps (bnd p q) := by
  intro b at' y nx h
  unfold bnd at h
  split at h
  · cases h
  · next x n1 e =>
    obtain ⟨h1, h2⟩ := hp b at' x n1 e
    obtain ⟨h3, h4⟩ := hq x b n1 y nx h
    refine ⟨Nat.le_trans h1 h3, fun i hi => ?_⟩
    unfold bnd
    rw [h2 i hi]
    by_cases hi1 : i < n1
    · rw [if_pos hi1, if_pos (by omega)]
    · rw [if_neg hi1]
      exact h4 i (by omega)
theorem keeps_pure {α : Type} (x : α) : Keeps fun _ at' => .ok (x, at') := by
  intro b at' y nx h
  injection h with h
  injection h with h h2
  subst h h2
  exact ⟨Nat.le_refl _, fun i hi => by rw [if_neg (by omega)]⟩
theorem keeps_err {α : Type} (e : Int) : Keeps (α := α) fun _ _ => .error e := by
  intro b at' y nx h
  cases h
theorem keeps_ite {α : Type} (c : Prop) [Decidable c] {p q : List Int → Nat → Except Int (α × Nat)} (hp : Keeps p) (hq : Keeps q) : Keeps fun b at' => if c then p b at' else q b at' := by
  by_cases h : c
  · simpa only [if_pos h] using hp
  · simpa only [if_neg h] using hq
theorem gt_cut : ∀ (l : List Int) (k acc : Nat) (N m : Nat), gt l k acc = .ok (N, m) → ∀ j, gt (l.take j) k acc = if k + j < m then .error 6 else .ok (N, m)
  | [], _, _, _, _, h, _ => by cases h
  | x :: r, k, acc, N, m, h, j => by
    have hle := gt_le _ _ _ _ _ h
    cases j with
    | zero =>
      rw [List.take_zero, if_pos (by omega)]
      rfl
    | succ j =>
      rw [List.take_succ_cons, gt]
      rw [gt] at h
      split at h
      · cases h
      · next c1 =>
        rw [if_neg c1]
        split at h
        · cases h
        · next c2 =>
          rw [if_neg c2]
          split at h
          · next c3 =>
            rw [if_pos c3]
            injection h with h
            injection h with h h2
            rw [if_neg (by omega), h, h2]
          · next c3 =>
            rw [if_neg c3, gt_cut r (k + 1) _ N m h j]
            rw [show k + 1 + j = k + (j + 1) by omega]
theorem keeps_gU : Keeps gU := by
  intro b at' N nx h
  unfold gU at h
  split at h
  · next n k e =>
    injection h with h
    injection h with h h2
    subst h h2
    refine ⟨by omega, fun i hi => ?_⟩
    have hd : (b.take i).drop at' = (b.drop at').take (i - at') := by rw [List.drop_take]
    unfold gU
    rw [hd, gt_cut _ _ _ _ _ e (i - at')]
    by_cases c : i < at' + k
    · rw [if_pos (by omega), if_pos c]
    · rw [if_neg (by omega), if_neg c]
  · cases h
theorem keeps_pU (m : Nat) : Keeps fun b at' => pU b m at' := by
  have := keeps_bnd keeps_gU (q := fun n _ nx => if n ≤ m then .ok (n, nx) else .error 7) fun n => keeps_ite (n ≤ m) (keeps_pure n) (keeps_err 7)
  intro b at' x nx h
  have e : ∀ b at', pU b m at' = bnd gU (fun n _ nx => if n ≤ m then .ok (n, nx) else .error 7) b at' := fun b at' => by unfold pU bnd; cases gU b at' <;> rfl
  simp only [e] at h ⊢
  exact this b at' x nx h
theorem keeps_pS : Keeps pS := by
  have := keeps_bnd keeps_gU (q := fun n _ nx => .ok (unfold' n, nx)) fun n => keeps_pure (unfold' n)
  intro b at' x nx h
  have e : ∀ b at', pS b at' = bnd gU (fun n _ nx => .ok (unfold' n, nx)) b at' := fun b at' => by unfold pS bnd; cases gU b at' <;> rfl
  simp only [e] at h ⊢
  exact this b at' x nx h
theorem keeps_pK : Keeps pK := by
  intro b at' k nx h
  unfold pK at h
  split at h
  · next k' e =>
    split at h
    · next hk =>
      injection h with h
      injection h with h h2
      subst h h2
      refine ⟨by omega, fun i hi => ?_⟩
      unfold pK
      rw [List.getElem?_take]
      by_cases c : at' < i
      · rw [if_pos c, e]
        simp only
        rw [if_pos hk, if_neg (by omega)]
      · rw [if_neg c, if_pos (by omega)]
    · cases h
  · cases h
theorem keeps_of {α : Type} {p q : List Int → Nat → Except Int (α × Nat)} (h : ∀ b at', p b at' = q b at') (hq : Keeps q) : Keeps p := by
  have : p = q := by funext b at'; exact h b at'
  rw [this]
  exact hq
theorem keeps_pR1 (a : Int) : Keeps fun b at' => pR1 b a at' := by
  refine keeps_of (q := bnd (fun b at' => pU b 281474976710656 at') fun f => bnd (fun b at' => pU b 256 at') fun c b n2 =>
    if c = 0 then .error 7 else if c = 1 then (if a + (f : Int) ≤ 281474976710656 then .ok (⟨a + f, 0, c⟩, n2) else .error 7)
    else bnd (fun b at' => pU b 281474976710656 at') (fun s _ n3 => if a + (f : Int) + ((c : Int) - 1) * (s : Int) ≤ 281474976710656 then .ok (⟨a + f, s, c⟩, n3) else .error 7) b n2) (fun b at' => ?_) ?_
  · unfold pR1 bnd
    try dsimp only
    cases pU b 281474976710656 at' with
    | error e => rfl
    | ok p =>
      simp only
      cases pU b 256 p.2 with
      | error e => rfl
      | ok q =>
        simp only
        split
        · rfl
        · split
          · rfl
          · cases pU b 281474976710656 q.2 <;> rfl
  · exact keeps_bnd (keeps_pU _) fun f => keeps_bnd (keeps_pU _) fun c => keeps_ite _ (keeps_err 7) (keeps_ite _ (keeps_ite _ (keeps_pure _) (keeps_err 7)) (keeps_bnd (keeps_pU _) fun s => keeps_ite _ (keeps_pure _) (keeps_err 7)))
theorem keeps_pRs : ∀ (m : Nat) (a : Int), Keeps fun b at' => pRs b m a at'
  | 0, _ => keeps_pure []
  | m + 1, a => by
    refine keeps_of (q := bnd (fun b at' => pR1 b a at') fun r => bnd (fun b at' => pRs b m (rlast r) at') fun l _ ny => .ok (r :: l, ny)) (fun b at' => ?_) (keeps_bnd (keeps_pR1 a) fun r => keeps_bnd (keeps_pRs m _) fun l => keeps_pure _)
    rw [pRs]
    unfold bnd
    try dsimp only
    cases pR1 b a at' with
    | error e => rfl
    | ok p =>
      simp only
      cases pRs b m (rlast p.1) p.2 <;> rfl
theorem keeps_pRuns : Keeps pRuns := by
  refine keeps_of (q := bnd (fun b at' => pU b 256 at') fun m b n1 => if m = 0 then .error 7 else bnd (fun b at' => pRs b m 0 at') (fun l _ n2 => if rnB l = true then .ok (l, n2) else .error 7) b n1) (fun b at' => ?_) (keeps_bnd (keeps_pU _) fun m => keeps_ite _ (keeps_err 7) (keeps_bnd (keeps_pRs m 0) fun l => keeps_ite _ (keeps_pure _) (keeps_err 7)))
  unfold pRuns bnd
  try dsimp only
  cases pU b 256 at' with
  | error e => rfl
  | ok p =>
    simp only
    split
    · rfl
    · cases pRs b p.1 0 p.2 <;> rfl
theorem keeps_pLA (R N D : Int) : Keeps fun b at' => pLA b R N D at' := by
  refine keeps_of (q := bnd pS fun A _ nx => .ok (⟨A, R, N, D⟩, nx)) (fun b at' => ?_) (keeps_bnd keeps_pS fun A => keeps_pure _)
  unfold pLA bnd
  try dsimp only
  cases pS b at' <;> rfl
theorem keeps_pLN (R : Int) : Keeps fun b at' => pLN b R at' := by
  refine keeps_of (q := bnd pS fun N => bnd (fun b at' => pU b 281474976710656 at') fun D b n2 => pLA b R N D n2) (fun b at' => ?_) (keeps_bnd keeps_pS fun N => keeps_bnd (keeps_pU _) fun D => keeps_pLA R N D)
  unfold pLN bnd
  try dsimp only
  cases pS b at' with
  | error e => rfl
  | ok p =>
    simp only
    cases pU b 281474976710656 p.2 <;> rfl
theorem keeps_pL (kd : Int) : Keeps fun b at' => pL b kd at' := by
  refine keeps_of (q := fun b at' => if kd = 3 then bnd (fun b at' => pU b 281474976710656 at') (fun R b n1 => pLN b R n1) b at' else if kd = 2 then pLN b 0 at' else if kd = 1 then pLA b 0 0 1 at' else .ok (⟨0, 0, 0, 0⟩, at')) (fun b at' => ?_)
    (keeps_ite _ (keeps_bnd (keeps_pU _) fun R => keeps_pLN R) (keeps_ite _ (keeps_pLN 0) (keeps_ite _ (keeps_pLA 0 0 1) (keeps_pure _))))
  unfold pL
  split
  · unfold bnd
    try dsimp only
    cases pU b 281474976710656 at' <;> rfl
  · rfl
theorem keeps_pVs : ∀ (m : Nat) (v : Int), Keeps fun b at' => pVs b m v at'
  | 0, _ => keeps_pure []
  | m + 1, v => by
    refine keeps_of (q := bnd pS fun d b n1 => if bkV (v + d) = true then bnd (fun b at' => pVs b m (v + d) at') (fun l _ n2 => .ok ((v + d) :: l, n2)) b n1 else .error 7) (fun b at' => ?_) (keeps_bnd keeps_pS fun d => keeps_ite _ (keeps_bnd (keeps_pVs m _) fun l => keeps_pure _) (keeps_err 7))
    rw [pVs]
    unfold bnd
    try dsimp only
    cases pS b at' with
    | error e => rfl
    | ok p =>
      simp only
      split
      · cases pVs b m (v + p.1) p.2 <;> rfl
      · rfl
theorem keeps_pSeg : Keeps pSeg := by
  refine keeps_of (q := bnd pK fun kd => bnd (fun b at' => pU b 1099511627776 at') fun er => bnd pRuns fun l => bnd (fun b at' => pL b kd at') fun q => bnd (fun b at' => if kd = 4 then pVs b (rnSum l l.length).toNat 0 at' else .ok ([], at')) fun vs _ n5 =>
    if sgB ⟨kd, l, q, vs, er⟩ = true then .ok (⟨kd, l, q, vs, er⟩, n5) else .error 7) (fun b at' => ?_)
    (keeps_bnd keeps_pK fun kd => keeps_bnd (keeps_pU _) fun er => keeps_bnd keeps_pRuns fun l => keeps_bnd (keeps_pL kd) fun q => keeps_bnd (keeps_ite _ (keeps_pVs _ _) (keeps_pure _)) fun vs => keeps_ite _ (keeps_pure _) (keeps_err 7))
  unfold pSeg bnd
  try dsimp only
  cases pK b at' with
  | error e => rfl
  | ok p =>
    simp only
    cases pU b 1099511627776 p.2 with
    | error e => rfl
    | ok p2 =>
      simp only
      cases pRuns b p2.2 with
      | error e => rfl
      | ok p3 =>
        simp only
        cases pL b p.1 p3.2 with
        | error e => rfl
        | ok p4 =>
          simp only
          cases (if p.1 = 4 then pVs b (rnSum p3.1 p3.1.length).toNat 0 p4.2 else .ok ([], p4.2) : Except Int (List Int × Nat)) <;> rfl
/-- a segment's bytes, cut off anywhere, end too early -/
theorem cut_dec {s : Sg} (h : sgB s = true) {i : Nat} (hi : i < (wSeg s).length) : dSeg ((wSeg s).take i) = .error 6 := by
  have e := pSeg_w (b := wSeg s) (at' := 0) h ⟨[], by simp⟩
  have := (keeps_pSeg _ _ _ _ e).2 i (Nat.zero_le _)
  unfold dSeg
  rw [this, if_pos (by omega)]
theorem dec_enc {s : Sg} (h : sgB s = true) : dSeg (wSeg s) = .ok s := by
  have e := pSeg_w (b := wSeg s) (at' := 0) h ⟨[], by simp⟩
  unfold dSeg
  rw [e]
  simp only
  rw [if_neg (by omega)]
theorem dec_long {s : Sg} (h : sgB s = true) {l : List Int} (hl : 0 < l.length) : dSeg (wSeg s ++ l) = .error 7 := by
  have e := pSeg_w (b := wSeg s ++ l) (at' := 0) h ⟨l, by simp⟩
  unfold dSeg
  rw [e]
  simp only
  rw [if_pos (by rw [List.length_append]; omega)]
theorem get_mid {s : Sg} (h : sgB s = true) (a l : List Int) : pSeg (a ++ (wSeg s ++ l)) a.length = .ok (s, a.length + (wSeg s).length) :=
  pSeg_w h ⟨l, by rw [List.drop_left]⟩
end Go.Proofs.YtmpfbkeamihjbaaGreat
