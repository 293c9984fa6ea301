/- The line that is fitted goes through: plain arithmetic. -/
import Derived.Test.YtfdaabdibpcjeaaSwingP
set_option linter.unusedSimpArgs false
set_option linter.unusedVariables false
namespace Go.Proofs.Ytfdaabdibpcjeaa
open Go.RowKit

theorem nr_mid {a b c d : Int} (h : Low a b) (h' : Low c d) (hc : a * d ≤ c * b) : a * nrD a b c d ≤ nrN a b c d * b ∧ nrN a b c d * d ≤ c * nrD a b c d := by
  unfold nrN nrD
  by_cases h1 : 0 < a
  · rw [if_pos h1, if_pos h1, h.2.1, h.2.2]
    exact ⟨Int.le_refl _, hc⟩
  · rw [if_neg h1, if_neg h1]
    by_cases h2 : c < 0
    · rw [if_pos h2, if_pos h2, h'.2.1, h'.2.2]
      exact ⟨hc, Int.le_refl _⟩
    · rw [if_neg h2, if_neg h2]
      simp
      omega

theorem fit_slope {l : List Bd} (h : okB l = true) (ho : drOpen (dk l l.length) = true) (i : Nat) (h1 : 1 ≤ i) (hi : i < l.length) :
    ((bd l i).lo - hgB (bd l 0)) * flD (dk l l.length) ≤ flN (dk l l.length) * ((bd l i).t - (bd l 0).t) ∧ flN (dk l l.length) * ((bd l i).t - (bd l 0).t) ≤ ((bd l i).hi - hgB (bd l 0)) * flD (dk l l.length) := by
  obtain ⟨k0, k1, k2⟩ := okB_spec h
  obtain ⟨i1, i2, i3, i4, i5, i6, i7⟩ := dr_inv h l.length (by omega) (Nat.le_refl _)
  clear i5 i6
  have hm := dk_many l l.length (Nat.le_refl _)
  have hd := dk_ok h l.length (by omega) (Nat.le_refl _)
  have hpos : 0 < (bd l i).t - (bd l 0).t := by
    have := t_lt k2 0 i (by omega) (by omega)
    omega
  have hl := fl_low hd
  have hfl : 0 < flD (dk l l.length) := by have := (slB_spec hl.1).1; omega
  unfold flN flD at *
  have n1 : ¬ (dk l l.length).many = 1 := by rw [hm]; omega
  rw [if_neg n1] at hfl ⊢
  rw [if_neg n1]
  obtain ⟨l0, l1⟩ := hd.two n1
  have hc : (dk l l.length).n0 * (dk l l.length).d1 ≤ (dk l l.length).n1 * (dk l l.length).d0 := by
    have := of_decide_eq_true ho
    omega
  obtain ⟨m1, m2⟩ := nr_mid l0 l1 hc
  obtain ⟨q0, q1⟩ := i7 (by omega)
  have a1 := i3 i h1 hi
  have a2 := i4 i h1 hi
  rw [i1, i2] at a1 a2
  exact ⟨frac_trans hpos q0 hfl a1 m1, frac_trans hfl q1 hpos m2 a2⟩

theorem fit_win {l : List Bd} (h : okB l = true) (ho : drOpen (dk l l.length) = true) (i : Nat) (hi : i < l.length) :
    winB (dk l l.length).v 0 (flN (dk l l.length)) (flD (dk l l.length)) ((bd l i).t - (bd l 0).t) (bd l i).lo (bd l i).hi = true := by
  obtain ⟨k0, k1, k2⟩ := okB_spec h
  have hd := dk_ok h l.length (by omega) (Nat.le_refl _)
  have hv := (dr_inv h l.length (by omega) (Nat.le_refl _)).v
  have hl := fl_low hd
  have r0 := bd_rg k2 0 k0
  have ri := bd_rg k2 i hi
  have hdt : 0 ≤ (bd l i).t - (bd l 0).t := by
    by_cases e : i = 0
    · subst e; omega
    · have := t_lt k2 0 i (by omega) hi
      omega
  rw [win_iff (isB_zero hd.v hl) (tm_of hdt (by omega)), hv]
  have hD := (slB_spec hl.1).1
  by_cases e : i = 0
  · subst e
    have hm := hgB_mid r0.2.2.1
    rw [Int.sub_self, Int.mul_zero]
    have x1 := Int.mul_le_mul_of_nonneg_right hm.1 (show (0 : Int) ≤ flD (dk l l.length) by omega)
    have x2 := Int.mul_le_mul_of_nonneg_right hm.2 (show (0 : Int) ≤ flD (dk l l.length) by omega)
    omega
  · have := fit_slope h ho i (by omega) hi
    rw [Int.sub_mul, Int.sub_mul] at this
    omega

theorem thrB_all {x y n d t0 : Int} {l : List Bd} (h : ∀ i, i < l.length → winB x y n d ((bd l i).t - t0) (bd l i).lo (bd l i).hi = true) : thrB x y n d t0 l = true := by
  unfold thrB
  rw [List.all_eq_true]
  intro b hb
  obtain ⟨i, hi, rfl⟩ := List.mem_iff_getElem.1 hb
  rw [bd_eq hi]
  exact h i hi
theorem thrB_el {x y n d t0 : Int} {l : List Bd} (h : thrB x y n d t0 l = true) (i : Nat) (hi : i < l.length) : winB x y n d ((bd l i).t - t0) (bd l i).lo (bd l i).hi = true := by
  unfold thrB at h
  rw [List.all_eq_true] at h
  have := h l[i] (List.getElem_mem hi)
  rw [bd_eq hi] at this
  exact this
theorem fit_thr {l : List Bd} (h : okB l = true) (ho : drOpen (dk l l.length) = true) : thrB (dk l l.length).v 0 (flN (dk l l.length)) (flD (dk l l.length)) (l.headD ⟨0, 0, 0⟩).t l = true := by
  rw [bd_head (okB_spec h).1]
  exact thrB_all fun i hi => fit_win h ho i hi

theorem win_at {A R N D dt lo hi : Int} (h : winB A R N D dt lo hi = true) (h1 : -2305844108725321728 ≤ lo) (h2 : hi ≤ 2305844108725321728) : atE A R N D dt = 0 ∧ lo ≤ atV A R N D dt ∧ atV A R N D dt ≤ hi := by
  unfold winB at h
  rw [decide_eq_true_iff] at h
  obtain ⟨q1, q2, q3, q4⟩ := h
  have hq : bkB (lnQ A R N D dt) = true := bk_of (by omega) (by omega)
  unfold atE atV
  rw [if_pos q1, if_pos q2, if_pos hq, if_pos ⟨q1, q2, hq⟩]
  exact ⟨rfl, q3, by omega⟩
theorem one_open {l : List Bd} (h : okB l = true) (h1 : l.length = 1) : drOpen (dk l l.length) = true := by
  have hm := dk_many l l.length (Nat.le_refl _)
  unfold drOpen
  rw [decide_eq_true_iff]
  left; rw [hm, h1]; rfl
end Go.Proofs.Ytfdaabdibpcjeaa
