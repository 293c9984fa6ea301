/- LineLowest (yearbooklaw05): the plain law of lowest terms and of the order of slopes, and the walk for all slopes. -/
import Derived.Test.YtpimkigbdjfjoaaDoorP3
set_option linter.unusedSimpArgs false
set_option linter.unusedVariables false
namespace Go.Proofs.YtpimkigbdjfjoaaDoor
open Go.RowKit

theorem cop {N D : Int} (h : 1 ≤ D) : Nat.gcd (lwN N D).natAbs (lwD N D).toNat = 1 := by
  have hg := dvN_pos (N := N) h
  have hd := lwD_pos (N := N) h
  have e1 : N.natAbs = (lwN N D).natAbs * dvN N D := by
    have := congrArg Int.natAbs (lwN_mul (N := N) (D := D))
    rw [Int.natAbs_mul] at this
    simpa using this.symm
  have e2 : D.toNat = (lwD N D).toNat * dvN N D := by
    have h1 := lwD_mul (N := N) h
    have h2 : (((lwD N D).toNat * dvN N D : Nat) : Int) = D := by
      rw [Int.natCast_mul, Int.toNat_of_nonneg (by omega)]
      exact h1
    omega
  have e3 : dvN N D = Nat.gcd (lwN N D).natAbs (lwD N D).toNat * dvN N D := by
    conv => lhs; unfold dvN
    rw [e1, e2, Nat.gcd_mul_right]
  generalize Nat.gcd (lwN N D).natAbs (lwD N D).toNat = k at *
  have e4 : 1 * dvN N D = k * dvN N D := by rw [Nat.one_mul]; exact e3
  exact (Nat.eq_of_mul_eq_mul_right hg e4).symm

theorem low_idem {N D : Int} (h : 1 ≤ D) : lwN (lwN N D) (lwD N D) = lwN N D ∧ lwD (lwN N D) (lwD N D) = lwD N D := by
  have e : dvN (lwN N D) (lwD N D) = 1 := cop h
  constructor
  · unfold lwN at e ⊢
    rw [e]
    simp
  · unfold lwD at e ⊢
    rw [e]
    simp

theorem low_sl {N D : Int} (h : slB N D = true) : slB (lwN N D) (lwD N D) = true := by
  obtain ⟨d1, d2, d3, d4⟩ := slB_spec h
  obtain ⟨p3, p4⟩ := lwN_bd (N := N) d1
  have p5 := lwD_pos (N := N) d1
  have p6 := lwD_le (N := N) d1
  exact decide_eq_true ⟨by omega, by omega, by omega, by omega⟩

theorem low_cross {N D : Int} (h : 1 ≤ D) : N * lwD N D = lwN N D * D := by
  have h1 := lwN_mul (N := N) (D := D)
  have h2 := lwD_mul (N := N) h
  generalize lwN N D = n at *
  generalize lwD N D = d at *
  generalize (dvN N D : Int) = g at *
  subst h1 h2
  rw [Int.mul_assoc, Int.mul_comm g d]

theorem div_of {n n' d d' : Int} (hd : 1 ≤ d) (hd' : 1 ≤ d') (hc : Nat.gcd n.natAbs d.toNat = 1) (e : n * d' = n' * d) : d ≤ d' := by
  have e1 : n.natAbs * d'.toNat = n'.natAbs * d.toNat := by
    have := congrArg Int.natAbs e
    rw [Int.natAbs_mul, Int.natAbs_mul] at this
    rw [show d'.toNat = d'.natAbs by omega, show d.toNat = d.natAbs by omega]
    exact this
  have hdv : d.toNat ∣ n.natAbs * d'.toNat := by rw [e1]; exact Nat.dvd_mul_left _ _
  have hc' : Nat.gcd d.toNat n.natAbs = 1 := by rw [Nat.gcd_comm]; exact hc
  have h3 : d.toNat ∣ d'.toNat := Nat.Coprime.dvd_of_dvd_mul_left hc' hdv
  have := Nat.le_of_dvd (by omega) h3
  omega

theorem low_uniq {N D N' D' : Int} (h : 1 ≤ D) (h' : 1 ≤ D') (e : N * D' = N' * D) : lwN N D = lwN N' D' ∧ lwD N D = lwD N' D' := by
  have c1 := cop (N := N) h
  have c2 := cop (N := N') h'
  have p1 := lwD_pos (N := N) h
  have p2 := lwD_pos (N := N') h'
  have g1 := dvN_pos (N := N) h
  have g2 := dvN_pos (N := N') h'
  have a1 := lwN_mul (N := N) (D := D)
  have a2 := lwD_mul (N := N) h
  have b1 := lwN_mul (N := N') (D := D')
  have b2 := lwD_mul (N := N') h'
  have k : lwN N D * lwD N' D' = lwN N' D' * lwD N D := by
    have k1 : (lwN N D * dvN N D) * (lwD N' D' * dvN N' D') = (lwN N' D' * dvN N' D') * (lwD N D * dvN N D) := by rw [a1, a2, b1, b2]; exact e
    have k2 : (lwN N D * lwD N' D') * ((dvN N D : Int) * dvN N' D') = (lwN N' D' * lwD N D) * ((dvN N D : Int) * dvN N' D') := by
      rw [show (lwN N D * lwD N' D') * ((dvN N D : Int) * dvN N' D') = (lwN N D * dvN N D) * (lwD N' D' * dvN N' D') by ac_rfl, k1]
      ac_rfl
    have k3 : ((dvN N D : Int) * dvN N' D') ≠ 0 := Int.mul_ne_zero (by omega) (by omega)
    exact Int.eq_of_mul_eq_mul_right k3 k2
  have q1 := div_of p1 p2 c1 k
  have q2 := div_of p2 p1 c2 k.symm
  have q : lwD N D = lwD N' D' := by omega
  refine ⟨?_, q⟩
  rw [q] at k
  exact Int.eq_of_mul_eq_mul_right (by omega) k

theorem low_same {N D N' D' : Int} (h : 1 ≤ D) (h' : 1 ≤ D') (e : lwN N D = lwN N' D') (f : lwD N D = lwD N' D') : N * D' = N' * D := by
  have a1 := lwN_mul (N := N) (D := D)
  have a2 := lwD_mul (N := N) h
  have b1 := lwN_mul (N := N') (D := D')
  have b2 := lwD_mul (N := N') h'
  rw [← a1, ← b1]
  conv => lhs; rw [← b2]
  conv => rhs; rw [← a2]
  rw [e, f]
  ac_rfl

theorem cross_le {a d b e c f : Int} (hd : 1 ≤ d) (he : 1 ≤ e) (hf : 1 ≤ f) (h1 : a * e ≤ b * d) (h2 : b * f ≤ c * e) : a * f ≤ c * d := by
  have k1 : (a * e) * f ≤ (b * d) * f := Int.mul_le_mul_of_nonneg_right h1 (by omega)
  have k2 : (b * f) * d ≤ (c * e) * d := Int.mul_le_mul_of_nonneg_right h2 (by omega)
  have k3 : (a * f) * e ≤ (c * d) * e := by
    rw [show (a * f) * e = (a * e) * f by ac_rfl, show (c * d) * e = (c * e) * d by ac_rfl]
    rw [show (b * d) * f = (b * f) * d by ac_rfl] at k1
    omega
  exact Int.le_of_mul_le_mul_right k3 (by omega)

theorem cmpI_le {a b : Int} : ¬ cmpI a b > 0 ↔ a ≤ b := by
  unfold cmpI
  split
  · omega
  · split <;> omega
theorem cmpI_ge {a b : Int} : ¬ cmpI a b < 0 ↔ b ≤ a := by
  unfold cmpI
  split
  · omega
  · split <;> omega

end Go.Proofs.YtpimkigbdjfjoaaDoor
