/- What is read was written so: plain law, no program in sight. -/
import Derived.Test.YtmpfbkeamihjbaaGreatQA
set_option linter.unusedSimpArgs false
set_option linter.unusedVariables false
namespace Go.Proofs.YtmpfbkeamihjbaaGreat
open Go.RowKit

theorem gt_inv : ∀ (l : List Int) (k acc : Nat) (N m : Nat), Byt l → gt l k acc = .ok (N, m) → ∃ n, N = acc + n * 128 ^ k ∧ l.take (m - k) = ub n ∧ (0 < k → 0 < n)
  | [], _, _, _, _, _, h => by cases h
  | x :: r, k, acc, N, m, hb, h => by
    have hx := hb x (List.mem_cons_self ..)
    have hle := gt_le _ _ _ _ _ h
    rw [gt] at h
    split at h
    · cases h
    · split at h
      · cases h
      · next c2 =>
        split at h
        · next c3 =>
          injection h with h
          injection h with h h2
          refine ⟨x.toNat, ?_, ?_, fun hk => ?_⟩
          · rw [← h, show (x % 128).toNat = x.toNat by omega]
          · rw [show m - k = 1 by omega, ub_low (by omega), List.take_succ_cons, List.take_zero]
            congr 1
            omega
          · by_cases e : x = 0
            · exact absurd ⟨e, hk⟩ c2
            · omega
        · next c3 =>
          have hle2 := gt_le _ _ _ _ _ h
          obtain ⟨n', h1, h2, h3⟩ := gt_inv r (k + 1) _ N m (fun y hy => hb y (List.mem_cons_of_mem _ hy)) h
          have hn' := h3 (by omega)
          refine ⟨(x - 128).toNat + 128 * n', ?_, ?_, fun _ => by omega⟩
          · rw [h1, show (x % 128).toNat = (x - 128).toNat by omega, Nat.add_mul, Nat.pow_succ]
            rw [show n' * (128 ^ k * 128) = 128 * n' * 128 ^ k by rw [Nat.mul_comm (128 ^ k) 128, ← Nat.mul_assoc, Nat.mul_comm n' 128]]
            omega
          · rw [ub_high (by omega), show m - k = (m - (k + 1)) + 1 by omega, List.take_succ_cons, h2]
            rw [show ((x - 128).toNat + 128 * n') % 128 = (x - 128).toNat by omega, show ((x - 128).toNat + 128 * n') / 128 = n' by omega]
            congr 1
            omega

/-- the bytes from a place up to another -/
def Sl (b : List Int) (at' nx : Nat) : List Int := (b.drop at').take (nx - at')
theorem sl_app {b : List Int} {p q r : Nat} (h1 : p ≤ q) (h2 : q ≤ r) : Sl b p r = Sl b p q ++ Sl b q r := by
  unfold Sl
  rw [show r - p = (q - p) + (r - q) by omega, List.take_add, List.drop_drop, show p + (q - p) = q by omega]
theorem sl_nil (b : List Int) (p : Nat) : Sl b p p = [] := by unfold Sl; rw [Nat.sub_self, List.take_zero]
theorem gU_inv {b : List Int} {at' N nx : Nat} (hb : Byt b) (h : gU b at' = .ok (N, nx)) : Sl b at' nx = ub N := by
  unfold gU at h
  split at h
  · next n k e =>
    injection h with h
    injection h with h h2
    subst h h2
    obtain ⟨n', h1, h2, -⟩ := gt_inv _ _ _ _ _ (fun y hy => hb y (List.mem_of_mem_drop hy)) e
    unfold Sl
    rw [show at' + k - at' = k - 0 by omega, h2]
    congr 1
    rw [h1]
    simp
  · cases h
theorem pU_inv {b : List Int} {most at' N nx : Nat} (hb : Byt b) (h : pU b most at' = .ok (N, nx)) : Sl b at' nx = ub N := gU_inv hb (pU_gU h).1
theorem pS_inv {b : List Int} {at' : Nat} {n : Int} {nx : Nat} (hb : Byt b) (h : pS b at' = .ok (n, nx)) : Sl b at' nx = ub (fold n) := by
  obtain ⟨N, h1, rfl⟩ := pS_gU h
  rw [gU_inv hb h1, fold_unfold]
theorem pU_mono {b : List Int} {most at' N nx : Nat} (h : pU b most at' = .ok (N, nx)) : at' ≤ nx := (keeps_pU most b at' N nx h).1
theorem pS_mono {b : List Int} {at' : Nat} {n : Int} {nx : Nat} (h : pS b at' = .ok (n, nx)) : at' ≤ nx := (keeps_pS b at' n nx h).1
theorem pR1_inv {b : List Int} {a : Int} {at' : Nat} {r : Rn} {nx : Nat} (hb : Byt b) (h : pR1 b a at' = .ok (r, nx)) : Sl b at' nx = wR1 a r := by
  unfold pR1 at h
  split at h
  · cases h
  · next f n1 e1 =>
    split at h
    · cases h
    · next c n2 e2 =>
      have m1 := pU_mono e1
      have m2 := pU_mono e2
      have b1 := pU_inv hb e1
      have b2 := pU_inv hb e2
      split at h
      · cases h
      · next c0 =>
        split at h
        · next c1 =>
          split at h
          · injection h with h
            injection h with h h2
            subst h h2
            unfold wR1
            simp only
            rw [sl_app m1 m2, b1, b2, if_pos (by omega), List.append_nil, show (a + (f : Int) - a).toNat = f by omega, Int.toNat_natCast]
          · cases h
        · next c1 =>
          split at h
          · cases h
          · next s n3 e3 =>
            split at h
            · injection h with h
              injection h with h h2
              subst h h2
              have m3 := pU_mono e3
              have b3 := pU_inv hb e3
              unfold wR1
              simp only
              rw [sl_app m1 (Nat.le_trans m2 m3), sl_app m2 m3, b1, b2, b3, if_neg (by omega), show (a + (f : Int) - a).toNat = f by omega, Int.toNat_natCast, Int.toNat_natCast]
            · cases h
theorem pRs_inv {b : List Int} (hb : Byt b) : ∀ (m : Nat) (a : Int) (at' : Nat) (l : List Rn) (nx : Nat), pRs b m a at' = .ok (l, nx) → Sl b at' nx = wRs a l ∧ l.length = m
  | 0, a, at', l, nx, h => by
    injection h with h
    injection h with h h2
    subst h h2
    exact ⟨sl_nil b _, rfl⟩
  | m + 1, a, at', l, nx, h => by
    rw [pRs] at h
    split at h
    · cases h
    · next r n1 e1 =>
      split at h
      · cases h
      · next l' n2 e2 =>
        injection h with h
        injection h with h h2
        subst h h2
        obtain ⟨q1, q2⟩ := pRs_inv hb m _ _ _ _ e2
        rw [sl_app (keeps_pR1 a b at' r n1 e1).1 (keeps_pRs m _ b n1 l' n2 e2).1, pR1_inv hb e1, q1, wRs, List.length_cons, q2]
        exact ⟨rfl, rfl⟩
theorem pRuns_inv {b : List Int} {at' : Nat} {l : List Rn} {nx : Nat} (hb : Byt b) (h : pRuns b at' = .ok (l, nx)) : Sl b at' nx = wRuns l := by
  unfold pRuns at h
  split at h
  · cases h
  · next m n1 e1 =>
    split at h
    · cases h
    · split at h
      · cases h
      · next l' n2 e2 =>
        split at h
        · injection h with h
          injection h with h h2
          subst h h2
          obtain ⟨q1, q2⟩ := pRs_inv hb m _ _ _ _ e2
          unfold wRuns
          rw [sl_app (pU_mono e1) (keeps_pRs m _ b n1 l' n2 e2).1, pU_inv hb e1, q1, q2]
        · cases h
theorem pLA_inv {b : List Int} {R N D : Int} {at' : Nat} {q : L4} {nx : Nat} (hb : Byt b) (h : pLA b R N D at' = .ok (q, nx)) : Sl b at' nx = ub (fold q.A) ∧ q.R = R ∧ q.N = N ∧ q.D = D := by
  unfold pLA at h
  split at h
  · cases h
  · next A n1 e1 =>
    injection h with h
    injection h with h h2
    subst h h2
    exact ⟨pS_inv hb e1, rfl, rfl, rfl⟩
theorem pLN_inv {b : List Int} {R : Int} {at' : Nat} {q : L4} {nx : Nat} (hb : Byt b) (h : pLN b R at' = .ok (q, nx)) : Sl b at' nx = ub (fold q.N) ++ (ub q.D.toNat ++ ub (fold q.A)) ∧ q.R = R := by
  unfold pLN at h
  split at h
  · cases h
  · next N n1 e1 =>
    split at h
    · cases h
    · next D n2 e2 =>
      obtain ⟨q1, q2, q3, q4⟩ := pLA_inv hb h
      have m3 := (keeps_pLA R N D b n2 q nx h).1
      rw [sl_app (pS_mono e1) (Nat.le_trans (pU_mono e2) m3), sl_app (pU_mono e2) m3, pS_inv hb e1, pU_inv hb e2, q1, q3, q4, Int.toNat_natCast]
      exact ⟨rfl, q2⟩
theorem pL_inv {b : List Int} {kd : Int} {at' : Nat} {q : L4} {nx : Nat} (hb : Byt b) (h : pL b kd at' = .ok (q, nx)) : Sl b at' nx = wL kd q := by
  unfold pL at h
  unfold wL
  split at h
  · next k3 =>
    subst k3
    split at h
    · cases h
    · next R n1 e1 =>
      obtain ⟨q1, q2⟩ := pLN_inv hb h
      rw [sl_app (pU_mono e1) (keeps_pLN R b n1 q nx h).1, pU_inv hb e1, q1, q2, Int.toNat_natCast]
      simp
  · next k3 =>
    split at h
    · next k2 =>
      subst k2
      obtain ⟨q1, -⟩ := pLN_inv hb h
      rw [q1]
      simp
    · next k2 =>
      split at h
      · next k1 =>
        subst k1
        obtain ⟨q1, -⟩ := pLA_inv hb h
        rw [q1]
        simp
      · next k1 =>
        injection h with h
        injection h with h h2
        subst h2
        rw [sl_nil, if_neg k3, if_neg (by omega), if_neg (by omega)]
        rfl
theorem pVs_inv {b : List Int} (hb : Byt b) : ∀ (m : Nat) (v : Int) (at' : Nat) (l : List Int) (nx : Nat), pVs b m v at' = .ok (l, nx) → Sl b at' nx = wVs v l
  | 0, v, at', l, nx, h => by
    injection h with h
    injection h with h h2
    subst h h2
    exact sl_nil b _
  | m + 1, v, at', l, nx, h => by
    rw [pVs] at h
    split at h
    · cases h
    · next d n1 e1 =>
      split at h
      · split at h
        · cases h
        · next l' n2 e2 =>
          injection h with h
          injection h with h h2
          subst h h2
          rw [sl_app (pS_mono e1) (keeps_pVs m _ b n1 l' n2 e2).1, pS_inv hb e1, pVs_inv hb m _ _ _ _ e2, wVs, show v + d - v = d by omega]
      · cases h
theorem pK_inv {b : List Int} {at' : Nat} {k : Int} {nx : Nat} (h : pK b at' = .ok (k, nx)) : Sl b at' nx = [k] := by
  unfold pK at h
  split at h
  · next k' e =>
    split at h
    · injection h with h
      injection h with h h2
      subst h h2
      unfold Sl
      obtain ⟨hlt, e2⟩ := List.getElem?_eq_some_iff.1 e
      rw [show at' + 1 - at' = 1 by omega, List.drop_eq_getElem_cons hlt, List.take_succ_cons, List.take_zero, e2]
    · cases h
  · cases h
/-- WHAT IS READ WAS WRITTEN SO -/
theorem pSeg_inv {b : List Int} {at' : Nat} {s : Sg} {nx : Nat} (hb : Byt b) (h : pSeg b at' = .ok (s, nx)) : sgB s = true ∧ Sl b at' nx = wSeg s := by
  unfold pSeg at h
  split at h
  · cases h
  · next kd n1 e1 =>
    split at h
    · cases h
    · next er n2 e2 =>
      split at h
      · cases h
      · next l n3 e3 =>
        split at h
        · cases h
        · next q n4 e4 =>
          split at h
          · cases h
          · next vs n5 e5 =>
            split at h
            · next hs =>
              injection h with h
              injection h with h h2
              subst h h2
              refine ⟨hs, ?_⟩
              have m1 := (keeps_pK b at' kd n1 e1).1
              have m2 := pU_mono e2
              have m3 := (keeps_pRuns b n2 l n3 e3).1
              have m4 := (keeps_pL kd b n3 q n4 e4).1
              have h5 : n4 ≤ n5 ∧ Sl b n4 n5 = wVs 0 vs := by
                split at e5
                · exact ⟨(keeps_pVs _ _ b n4 vs n5 e5).1, pVs_inv hb _ _ _ _ _ e5⟩
                · injection e5 with e5
                  injection e5 with e5 e6
                  subst e5 e6
                  exact ⟨Nat.le_refl _, sl_nil b _⟩
              unfold wSeg
              rw [sl_app m1 (by omega), sl_app m2 (by omega), sl_app m3 (by omega), sl_app m4 h5.1, pK_inv e1, pU_inv hb e2, pRuns_inv hb e3, pL_inv hb e4, h5.2]
              simp
            · cases h
/-- no segment's bytes are the beginning of another's -/
theorem pre_same {s t : Sg} (hs : sgB s = true) (ht : sgB t = true) {r : List Int} (h : wSeg t = wSeg s ++ r) : s = t := by
  have e1 := pSeg_w (b := wSeg t) (at' := 0) ht ⟨[], by simp⟩
  have e2 := pSeg_w (b := wSeg t) (at' := 0) hs ⟨r, by simpa using h⟩
  rw [e1] at e2
  injection e2 with e2
  injection e2 with e2 _
  exact e2.symm
end Go.Proofs.YtmpfbkeamihjbaaGreat
