/- The line of bands that slide: plain arithmetic. -/
import Derived.Test.YtpimkigbdjfjoaaDoorSlideM
import Derived.Test.YtpimkigbdjfjoaaDoorPA
set_option linter.unusedSimpArgs false
set_option linter.unusedVariables false
namespace Go.Proofs.YtpimkigbdjfjoaaDoor
open Go.RowKit

theorem mul_bd {a b A B : Int} (h1 : -A ≤ a) (h2 : a ≤ A) (h3 : 0 ≤ b) (h4 : b ≤ B) (hA : 0 ≤ A) : -(A * B) ≤ a * b ∧ a * b ≤ A * B := by
  have k1 := Int.mul_le_mul_of_nonneg_right h2 h3
  have k2 := Int.mul_le_mul_of_nonneg_right h1 h3
  have k3 := Int.mul_le_mul_of_nonneg_left h4 hA
  rw [Int.neg_mul] at k2
  omega

/-- Lo times D less N times dt -/
def lwAt (l : List Bd) (N D : Int) (i : Nat) : Int := (bd l i).lo * D - N * ((bd l i).t - (bd l 0).t)
/-- the greatest of the first k -/
def lwK (l : List Bd) (N D : Int) : Nat → Int
  | 0 => 0
  | k + 1 => if k = 0 ∨ lwK l N D k < lwAt l N D k then lwAt l N D k else lwK l N D k
theorem lwK_is (l : List Bd) (N D : Int) : ∀ k, 0 < k → (∀ i, i < k → lwAt l N D i ≤ lwK l N D k) ∧ ∃ i, i < k ∧ lwK l N D k = lwAt l N D i
  | 0, h => absurd h (by omega)
  | 1, _ => by
    rw [lwK, if_pos (.inl rfl)]
    exact ⟨fun i hi => by rw [show i = 0 by omega]; exact Int.le_refl _, 0, by omega, rfl⟩
  | k + 2, _ => by
    obtain ⟨h1, i, h2, h3⟩ := lwK_is l N D (k + 1) (by omega)
    rw [lwK]
    split
    · next h =>
      have hlt : lwK l N D (k + 1) < lwAt l N D (k + 1) := by
        rcases h with h | h
        · omega
        · exact h
      refine ⟨fun j hj => ?_, k + 1, by omega, rfl⟩
      by_cases e : j = k + 1
      · subst e; exact Int.le_refl _
      · have := h1 j (by omega)
        omega
    · next h =>
      refine ⟨fun j hj => ?_, i, by omega, h3⟩
      by_cases e : j = k + 1
      · subst e
        rcases Int.lt_or_le (lwK l N D (k + 1)) (lwAt l N D (k + 1)) with h' | h'
        · exact absurd (.inr h') h
        · exact h'
      · exact h1 j (by omega)
theorem lw_t {l : List Bd} (h : okF (-1) l = true) (i : Nat) (hi : i < l.length) : 0 ≤ (bd l i).t - (bd l 0).t ∧ (bd l i).t - (bd l 0).t ≤ 281474976710656 := by
  have r0 := bd_rg h 0 (by omega)
  have ri := bd_rg h i hi
  by_cases e : i = 0
  · subst e; omega
  · have := t_lt h 0 i (by omega) hi
    omega
theorem lwAt_bd {l : List Bd} (h : okF (-1) l = true) {N D : Int} (hs : slB N D = true) (i : Nat) (hi : i < l.length) :
    (-(2305844108725321728 * 281474976710656) ≤ (bd l i).lo * D ∧ (bd l i).lo * D ≤ 2305844108725321728 * 281474976710656) ∧
    (-(4611688217450643456 * 281474976710656) ≤ N * ((bd l i).t - (bd l 0).t) ∧ N * ((bd l i).t - (bd l 0).t) ≤ 4611688217450643456 * 281474976710656) := by
  have ri := bd_rg h i hi
  have hl := lw_t h i hi
  have hd := slB_spec hs
  exact ⟨mul_bd (by omega) (by omega) (by omega) (by omega) (by omega), mul_bd (by omega) (by omega) (by omega) (by omega) (by omega)⟩
theorem lwAt_rng {l : List Bd} (h : okF (-1) l = true) {N D : Int} (hs : slB N D = true) (i : Nat) (hi : i < l.length) :
    -2596148429267413814265248164610048 ≤ lwAt l N D i ∧ lwAt l N D i ≤ 2596148429267413814265248164610048 := by
  have := lwAt_bd h hs i hi
  unfold lwAt
  omega
theorem lwK_rng {l : List Bd} (h : okF (-1) l = true) {N D : Int} (hs : slB N D = true) (k : Nat) (hk : k ≤ l.length) :
    -2596148429267413814265248164610048 ≤ lwK l N D k ∧ lwK l N D k ≤ 2596148429267413814265248164610048 := by
  by_cases h0 : k = 0
  · subst h0
    rw [lwK]; omega
  · obtain ⟨_, i, hi, e⟩ := lwK_is l N D k (by omega)
    rw [e]
    exact lwAt_rng h hs i (by omega)

/-- the slope nearest to nothing -/
def nrS (s : Sl × Sl) : Sl := ⟨nrN s.1.n s.1.d s.2.n s.2.d, nrD s.1.n s.1.d s.2.n s.2.d⟩
theorem nrS_low {s : Sl × Sl} (h1 : slIs s.1 = true) (h2 : slIs s.2 = true) : Low (nrS s).n (nrS s).d := by
  unfold nrS nrN nrD
  dsimp only
  split
  · exact low_low h1
  · split
    · exact low_low h2
    · exact ⟨rfl, rfl, rfl⟩
theorem nrS_mid {s : Sl × Sl} (h1 : slIs s.1 = true) (h2 : slIs s.2 = true) (ho : slOpen s = true) : s.1.le (nrS s) ∧ (nrS s).le s.2 := by
  have hle := slOpen_iff.1 ho
  unfold Sl.le at *
  have hL := nrS_low h1 h2
  have p1 := slIs_pos h1
  have p2 := slIs_pos h2
  unfold nrS nrN nrD at *
  dsimp only at *
  by_cases c1 : 0 < s.1.n
  · simp only [if_pos c1] at *
    have e := low_cross (N := s.1.n) (D := s.1.d) (by omega)
    have := slB_spec hL.1
    exact ⟨Int.le_of_eq e, frac_trans (by omega) p1 p2 (Int.le_of_eq e.symm) hle⟩
  · simp only [if_neg c1] at *
    by_cases c2 : s.2.n < 0
    · simp only [if_pos c2] at *
      have e := low_cross (N := s.2.n) (D := s.2.d) (by omega)
      have := slB_spec hL.1
      exact ⟨frac_trans p1 p2 (by omega) hle (Int.le_of_eq e), Int.le_of_eq e.symm⟩
    · simp only [if_neg c2] at *
      omega

/-- the slope, and the least of the line that is told -/
def fS (l : List Bd) : Sl := nrS (sk l l.length)
def fC (l : List Bd) : Int := lwK l (fS l).n (fS l).d l.length

theorem fS_low {l : List Bd} (h : okB l = true) : Low (fS l).n (fS l).d := by
  have hv := sk_inv (okB_spec h).2.2 l.length (Nat.le_refl _)
  exact nrS_low hv.v1 hv.v2
theorem fC_lo {l : List Bd} (h : okB l = true) (i : Nat) (hi : i < l.length) : (bd l i).lo * (fS l).d - (fS l).n * ((bd l i).t - (bd l 0).t) ≤ fC l :=
  (lwK_is l _ _ l.length (okB_spec h).1).1 i hi
theorem fC_hi {l : List Bd} (h : okB l = true) (ho : slOpen (sk l l.length) = true) (i : Nat) (hi : i < l.length) : fC l ≤ (bd l i).hi * (fS l).d - (fS l).n * ((bd l i).t - (bd l 0).t) := by
  obtain ⟨k0, k1, k2⟩ := okB_spec h
  have hv := sk_inv k2 l.length (Nat.le_refl _)
  obtain ⟨m1, m2⟩ := nrS_mid hv.v1 hv.v2 ho
  have hD := (slB_spec (fS_low h).1).1
  obtain ⟨_, j, hj, e⟩ := lwK_is l (fS l).n (fS l).d l.length k0
  have hp := sk_pair k2 (Nat.le_refl _) (N := (fS l).n) (D := (fS l).d) (by omega) m1 m2 j i hj hi
  unfold fC
  rw [e]
  unfold lwAt
  rw [Int.mul_sub, Int.mul_sub]
  omega
theorem fC_bk {l : List Bd} (h : okB l = true) (ho : slOpen (sk l l.length) = true) : bkB (fC l / (fS l).d) = true := by
  obtain ⟨k0, k1, k2⟩ := okB_spec h
  have r0 := bd_rg k2 0 k0
  have a := fC_lo h 0 k0
  have b := fC_hi h ho 0 k0
  have hD := (slB_spec (fS_low h).1).1
  rw [Int.sub_self, Int.mul_zero, Int.sub_zero] at a b
  have c1 := (Int.le_ediv_iff_mul_le (show (0 : Int) < (fS l).d by omega)).2 a
  have c2 := Int.ediv_le_ediv (show (0 : Int) < (fS l).d by omega) b
  rw [Int.mul_ediv_cancel _ (by omega)] at c2
  exact bk_of (by omega) (by omega)
theorem fit_isB {l : List Bd} (h : okB l = true) (ho : slOpen (sk l l.length) = true) : isB (fC l / (fS l).d) (fC l % (fS l).d) (fS l).n (fS l).d = true := by
  have hL := fS_low h
  have hD := (slB_spec hL.1).1
  unfold isB
  rw [decide_eq_true_iff]
  exact ⟨fC_bk h ho, hL.1, hL.2, Int.emod_nonneg _ (by omega), Int.emod_lt_of_pos _ (by omega)⟩
/-- the line that is told goes through -/
theorem fitS_win {l : List Bd} (h : okB l = true) (ho : slOpen (sk l l.length) = true) (i : Nat) (hi : i < l.length) :
    winB (fC l / (fS l).d) (fC l % (fS l).d) (fS l).n (fS l).d ((bd l i).t - (bd l 0).t) (bd l i).lo (bd l i).hi = true := by
  obtain ⟨k0, k1, k2⟩ := okB_spec h
  have ht := lw_t k2 i hi
  have hD := (slB_spec (fS_low h).1).1
  rw [win_iff (fit_isB h ho) (tm_of ht.1 ht.2)]
  have a := fC_lo h i hi
  have b := fC_hi h ho i hi
  have e := Int.mul_ediv_add_emod (fC l) (fS l).d
  rw [Int.mul_comm] at e
  omega
theorem fitS_thr {l : List Bd} (h : okB l = true) (ho : slOpen (sk l l.length) = true) : thrB (fC l / (fS l).d) (fC l % (fS l).d) (fS l).n (fS l).d (l.headD ⟨0, 0, 0⟩).t l = true := by
  rw [bd_head (okB_spec h).1]
  exact thrB_all fun i hi => fitS_win h ho i hi
end Go.Proofs.YtpimkigbdjfjoaaDoor
