/- Doors, and the lines through them: plain arithmetic. -/
import Derived.Test.YtfdaabdibpcjeaaSwing10
set_option linter.unusedSimpArgs false
set_option linter.unusedVariables false
namespace Go.Proofs.Ytfdaabdibpcjeaa
open Go.RowKit

def bd (l : List Bd) (i : Nat) : Bd := l.getD i ⟨0, 0, 0⟩
theorem bd_eq {l : List Bd} {i : Nat} (h : i < l.length) : l[i] = bd l i := by unfold bd; simp [h]
theorem bd_take {l : List Bd} {i k : Nat} (h : i < k) : bd (l.take k) i = bd l i := by
  unfold bd
  simp [List.getD, List.getElem?_take, h]
theorem bd_head {l : List Bd} (h : 0 < l.length) : l.headD ⟨0, 0, 0⟩ = bd l 0 := by rw [headD_0 h, bd_eq h]

theorem t_step {l : List Bd} (h : okF (-1) l = true) (k : Nat) (hk : k + 1 < l.length) : (bd l k).t < (bd l (k + 1)).t := by
  obtain ⟨h1, h2⟩ := el_bd h (k + 1) hk
  have h3 := (bdB_spec h2).1
  rw [take_snoc l k (by omega), lastT_snoc] at h3
  rw [← bd_eq hk, ← bd_eq (show k < l.length by omega)]
  exact h3
theorem t_lt {l : List Bd} (h : okF (-1) l = true) (i : Nat) : ∀ j, i < j → j < l.length → (bd l i).t < (bd l j).t
  | 0, h1, _ => absurd h1 (by omega)
  | j + 1, h1, h2 => by
    have h3 := t_step h j h2
    by_cases e : i = j
    · subst e; exact h3
    · have := t_lt h i j (by omega) (by omega)
      omega
theorem bd_rg {l : List Bd} (h : okF (-1) l = true) (k : Nat) (hk : k < l.length) : 0 ≤ (bd l k).t ∧ (bd l k).t ≤ 281474976710656 ∧ (bd l k).lo ≤ (bd l k).hi ∧ (-2305844108725321728 ≤ (bd l k).lo ∧ (bd l k).lo ≤ 2305844108725321728) ∧ (-2305844108725321728 ≤ (bd l k).hi ∧ (bd l k).hi ≤ 2305844108725321728) := by
  have := el_rg h k hk
  rw [bd_eq hk] at this
  exact this

theorem frac_trans {a b c d e f : Int} (hb : 0 < b) (hd : 0 < d) (hf : 0 < f) (h1 : a * d ≤ c * b) (h2 : c * f ≤ e * d) : a * f ≤ e * b := by
  have k1 := Int.mul_le_mul_of_nonneg_right h1 (Int.le_of_lt hf)
  have k2 := Int.mul_le_mul_of_nonneg_right h2 (Int.le_of_lt hb)
  have e1 : a * d * f = (a * f) * d := by rw [Int.mul_assoc, Int.mul_comm d f, ← Int.mul_assoc]
  have e2 : c * b * f = c * f * b := by rw [Int.mul_assoc, Int.mul_comm b f, ← Int.mul_assoc]
  have e3 : e * d * b = (e * b) * d := by rw [Int.mul_assoc, Int.mul_comm d b, ← Int.mul_assoc]
  rw [e1, e2] at k1
  rw [e3] at k2
  exact Int.le_of_mul_le_mul_right (Int.le_trans k1 k2) hd

/-- what a door of some bands is -/
structure DrInv (l : List Bd) (k : Nat) (d : Dr) : Prop where
  t : d.t = (bd l 0).t
  v : d.v = hgB (bd l 0)
  lo : ∀ i, 1 ≤ i → i < k → ((bd l i).lo - d.v) * d.d0 ≤ d.n0 * ((bd l i).t - d.t)
  hi : ∀ i, 1 ≤ i → i < k → d.n1 * ((bd l i).t - d.t) ≤ ((bd l i).hi - d.v) * d.d1
  loIs : 2 ≤ k → ∃ i, 1 ≤ i ∧ i < k ∧ ((bd l i).lo - d.v) * d.d0 = d.n0 * ((bd l i).t - d.t)
  hiIs : 2 ≤ k → ∃ i, 1 ≤ i ∧ i < k ∧ ((bd l i).hi - d.v) * d.d1 = d.n1 * ((bd l i).t - d.t)
  pos : 2 ≤ k → 0 < d.d0 ∧ 0 < d.d1

theorem dr_inv {l : List Bd} (h : okB l = true) : ∀ k, 1 ≤ k → k ≤ l.length → DrInv l k (dk l k)
  | 0, h1, _ => absurd h1 (by omega)
  | k + 1, _, hk => by
    obtain ⟨k0, k1, k2⟩ := okB_spec h
    have es := dk_succ l k hk
    rw [bd_eq hk] at es
    rw [es]
    by_cases h0 : k = 0
    · subst h0
      have e : drTake (dk l 0) (bd l 0) = ⟨(bd l 0).t, hgB (bd l 0), 0, 0, 0, 0, 1⟩ := rfl
      rw [e]
      exact ⟨rfl, rfl, fun i h1 h2 => by omega, fun i h1 h2 => by omega, fun h => by omega, fun h => by omega, fun h => by omega⟩
    · obtain ⟨i1, i2, i3, i4, i5, i6, i7⟩ := dr_inv h k (by omega) (by omega)
      have I5 := hide i5
      have I6 := hide i6
      clear i5 i6
      have hm := dk_many l k (by omega)
      have hd := dk_ok h k (by omega) (by omega)
      have hel := okF_el k2 k hk
      rw [bd_eq hk] at hel
      have hb := bdB_spec hel
      have s0 := slope_sl hd hel hb.2.2.2.1
      have s1 := slope_sl hd hel hb.2.2.2.2
      have hdt := (slB_spec s0).1
      have x0 := low_cross (N := (bd l k).lo - (dk l k).v) (D := (bd l k).t - (dk l k).t) hdt
      have x1 := low_cross (N := (bd l k).hi - (dk l k).v) (D := (bd l k).t - (dk l k).t) hdt
      have p0 := lwD_pos (N := (bd l k).lo - (dk l k).v) (D := (bd l k).t - (dk l k).t) hdt
      have p1 := lwD_pos (N := (bd l k).hi - (dk l k).v) (D := (bd l k).t - (dk l k).t) hdt
      have hpos : ∀ i, 1 ≤ i → i < k → 0 < (bd l i).t - (dk l k).t := fun i a b => by
        have := t_lt k2 0 i (by omega) (by omega)
        rw [i1]; omega
      generalize dk l k = d at *
      unfold drTake
      rw [if_neg (by omega)]
      generalize lwN ((bd l k).lo - d.v) ((bd l k).t - d.t) = N0 at *
      generalize lwD ((bd l k).lo - d.v) ((bd l k).t - d.t) = D0 at *
      generalize lwN ((bd l k).hi - d.v) ((bd l k).t - d.t) = N1 at *
      generalize lwD ((bd l k).hi - d.v) ((bd l k).t - d.t) = D1 at *
      refine ⟨i1, i2, ?_, ?_, ?_, ?_, ?_⟩
      · intro i a b
        dsimp only
        by_cases p : d.many = 1 ∨ d.n0 * D0 < N0 * d.d0
        · rw [if_pos p, if_pos p]
          by_cases e : i = k
          · subst e; omega
          · have hk2 : 2 ≤ k := by omega
            rcases p with p | p
            · rw [hm] at p; omega
            · exact frac_trans (hpos i a (by omega)) (i7 hk2).1 (by omega) (i3 i a (by omega)) (Int.le_of_lt p)
        · rw [if_neg p, if_neg p]
          by_cases e : i = k
          · subst e
            have hk2 : 2 ≤ i := by
              rcases Nat.lt_or_ge i 2 with h' | h'
              · exfalso; exact p (.inl (by rw [hm]; omega))
              · exact h'
            have p' : N0 * d.d0 ≤ d.n0 * D0 := by
              rcases Int.lt_or_le (d.n0 * D0) (N0 * d.d0) with h' | h'
              · exact absurd (.inr h') p
              · exact h'
            exact frac_trans (by omega) (show 0 < D0 by omega) (i7 hk2).1 (by omega) p'
          · exact i3 i a (by omega)
      · intro i a b
        dsimp only
        by_cases p : d.many = 1 ∨ N1 * d.d1 < d.n1 * D1
        · rw [if_pos p, if_pos p]
          by_cases e : i = k
          · subst e; omega
          · have hk2 : 2 ≤ k := by omega
            rcases p with p | p
            · rw [hm] at p; omega
            · exact frac_trans (show 0 < D1 by omega) (i7 hk2).2 (hpos i a (by omega)) (Int.le_of_lt p) (i4 i a (by omega))
        · rw [if_neg p, if_neg p]
          by_cases e : i = k
          · subst e
            have hk2 : 2 ≤ i := by
              rcases Nat.lt_or_ge i 2 with h' | h'
              · exfalso; exact p (.inl (by rw [hm]; omega))
              · exact h'
            have p' : d.n1 * D1 ≤ N1 * d.d1 := by
              rcases Int.lt_or_le (N1 * d.d1) (d.n1 * D1) with h' | h'
              · exact absurd (.inr h') p
              · exact h'
            exact frac_trans (i7 hk2).2 (show 0 < D1 by omega) (by omega) p' (by omega)
          · exact i4 i a (by omega)
      · intro _
        dsimp only
        by_cases p : d.many = 1 ∨ d.n0 * D0 < N0 * d.d0
        · rw [if_pos p, if_pos p]
          exact ⟨k, by omega, by omega, by omega⟩
        · rw [if_neg p, if_neg p]
          have hk2 : 2 ≤ k := by
            rcases Nat.lt_or_ge k 2 with h' | h'
            · exfalso; exact p (.inl (by rw [hm]; omega))
            · exact h'
          obtain ⟨i, a, b, e⟩ := I5.out hk2
          exact ⟨i, a, by omega, e⟩
      · intro _
        dsimp only
        by_cases p : d.many = 1 ∨ N1 * d.d1 < d.n1 * D1
        · rw [if_pos p, if_pos p]
          exact ⟨k, by omega, by omega, by omega⟩
        · rw [if_neg p, if_neg p]
          have hk2 : 2 ≤ k := by
            rcases Nat.lt_or_ge k 2 with h' | h'
            · exfalso; exact p (.inl (by rw [hm]; omega))
            · exact h'
          obtain ⟨i, a, b, e⟩ := I6.out hk2
          exact ⟨i, a, by omega, e⟩
      · intro _
        dsimp only
        constructor
        · by_cases p : d.many = 1 ∨ d.n0 * D0 < N0 * d.d0
          · rw [if_pos p]; omega
          · rw [if_neg p]
            have hk2 : 2 ≤ k := by
              rcases Nat.lt_or_ge k 2 with h' | h'
              · exfalso; exact p (.inl (by rw [hm]; omega))
              · exact h'
            exact (i7 hk2).1
        · by_cases p : d.many = 1 ∨ N1 * d.d1 < d.n1 * D1
          · rw [if_pos p]; omega
          · rw [if_neg p]
            have hk2 : 2 ≤ k := by
              rcases Nat.lt_or_ge k 2 with h' | h'
              · exfalso; exact p (.inl (by rw [hm]; omega))
              · exact h'
            exact (i7 hk2).2

/-- some line from the hinge lets them all: no lower end is above an upper one -/
def Opn (l : List Bd) (k : Nat) : Prop := ∀ i j, 1 ≤ i → i < k → 1 ≤ j → j < k → ((bd l i).lo - hgB (bd l 0)) * ((bd l j).t - (bd l 0).t) ≤ ((bd l j).hi - hgB (bd l 0)) * ((bd l i).t - (bd l 0).t)
theorem open_iff {l : List Bd} (h : okB l = true) (k : Nat) (h1 : 1 ≤ k) (hk : k ≤ l.length) : drOpen (dk l k) = true ↔ Opn l k := by
  obtain ⟨k0, k1, k2⟩ := okB_spec h
  obtain ⟨i1, i2, i3, i4, i5, i6, i7⟩ := dr_inv h k h1 hk
  have I5 := hide i5
  have I6 := hide i6
  clear i5 i6
  have hm := dk_many l k hk
  have hpos : ∀ i, 1 ≤ i → i < k → 0 < (bd l i).t - (bd l 0).t := fun i a b => by
    have := t_lt k2 0 i (by omega) (by omega)
    omega
  generalize dk l k = d at *
  rw [i1, i2] at i3 i4 I5 I6
  unfold drOpen Opn
  rw [decide_eq_true_iff]
  constructor
  · rintro (h' | h') i j a b a' b'
    · omega
    · have hk2 : 2 ≤ k := by omega
      obtain ⟨q0, q1⟩ := i7 hk2
      have e1 := frac_trans (hpos i a b) q0 q1 (i3 i a b) h'
      exact frac_trans (hpos i a b) q1 (hpos j a' b') e1 (i4 j a' b')
  · intro H
    by_cases e1 : k = 1
    · left; rw [hm, e1]; rfl
    · right
      have hk2 : 2 ≤ k := by omega
      obtain ⟨q0, q1⟩ := i7 hk2
      obtain ⟨i, a, b, e⟩ := I5.out hk2
      obtain ⟨j, a', b', e'⟩ := I6.out hk2
      have hh := H i j a b a' b'
      have e2 := frac_trans q0 (hpos i a b) (hpos j a' b') (Int.le_of_eq e.symm) hh
      exact frac_trans q0 (hpos j a' b') q1 e2 (Int.le_of_eq e')

theorem win_iff {A R N D dt l h : Int} (hI : isB A R N D = true) (ht : tmB dt = true) : winB A R N D dt l h = true ↔ l * D ≤ N * dt + R + A * D ∧ N * dt + R + A * D ≤ h * D := by
  have hD := (isB_spec hI).2.1.1
  unfold winB
  rw [decide_eq_true_iff]
  have e0 : lnQ A R N D dt = (N * dt + R) / D + A := rfl
  rw [e0]
  generalize N * dt + R = X
  have hX : X = X / D * D + X % D := by
    have := Int.mul_ediv_add_emod X D
    rw [Int.mul_comm] at this
    omega
  have r0 := Int.emod_nonneg X (show D ≠ 0 by omega)
  have r1 := Int.emod_lt_of_pos X (show 0 < D by omega)
  generalize X / D = q at *
  generalize X % D = r at *
  have eq1 : X + A * D = (q + A) * D + r := by rw [Int.add_mul]; omega
  rw [eq1]
  generalize q + A = Q
  have m1 : ∀ a b : Int, a ≤ b → a * D ≤ b * D := fun a b h => Int.mul_le_mul_of_nonneg_right h (by omega)
  have s1 : (Q + 1) * D = Q * D + D := by rw [Int.add_mul]; omega
  constructor
  · rintro ⟨-, -, h1, h2⟩
    refine ⟨?_, ?_⟩
    · have := m1 _ _ h1; omega
    · rcases h2 with h2 | ⟨h2, h3⟩
      · have := m1 (Q + 1) h (by omega); omega
      · rw [h2]; omega
  · rintro ⟨h1, h2⟩
    refine ⟨hI, ht, ?_, ?_⟩
    · rcases Int.lt_or_le Q l with h' | h'
      · have := m1 (Q + 1) l (by omega); omega
      · exact h'
    · rcases Int.lt_trichotomy Q h with h' | h' | h'
      · exact .inl h'
      · refine .inr ⟨h', ?_⟩
        rw [h'] at h2; omega
      · have := m1 (h + 1) Q (by omega)
        have s2 : (h + 1) * D = h * D + D := by rw [Int.add_mul]; omega
        omega
theorem isB_zero {A N D : Int} (hA : bkB A = true) (hl : Low N D) : isB A 0 N D = true := by
  unfold isB
  rw [decide_eq_true_iff]
  exact ⟨hA, hl.1, hl.2, Int.le_refl _, by have := (slB_spec hl.1).1; omega⟩
theorem tm_of {dt : Int} (h1 : 0 ≤ dt) (h2 : dt ≤ 281474976710656) : tmB dt = true := decide_eq_true ⟨h1, h2⟩
end Go.Proofs.Ytfdaabdibpcjeaa
