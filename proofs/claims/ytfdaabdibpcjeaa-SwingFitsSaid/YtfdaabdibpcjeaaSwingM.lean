/- Doors: plain arithmetic. -/
import Derived.Test.YtfdaabdibpcjeaaSwing2
import Derived.Test.YtfdaabdibpcjeaaLineLowestP
set_option linter.unusedSimpArgs false
set_option linter.unusedVariables false
namespace Go.Proofs.Ytfdaabdibpcjeaa
open Go.RowKit

def drTake (d : Dr) (b : Bd) : Dr :=
  if d.many = 0 then { d with t := b.t, v := hgB b, many := 1 } else
    { d with
      n0 := if d.many = 1 ∨ d.n0 * lwD (b.lo - d.v) (b.t - d.t) < lwN (b.lo - d.v) (b.t - d.t) * d.d0 then lwN (b.lo - d.v) (b.t - d.t) else d.n0
      d0 := if d.many = 1 ∨ d.n0 * lwD (b.lo - d.v) (b.t - d.t) < lwN (b.lo - d.v) (b.t - d.t) * d.d0 then lwD (b.lo - d.v) (b.t - d.t) else d.d0
      n1 := if d.many = 1 ∨ lwN (b.hi - d.v) (b.t - d.t) * d.d1 < d.n1 * lwD (b.hi - d.v) (b.t - d.t) then lwN (b.hi - d.v) (b.t - d.t) else d.n1
      d1 := if d.many = 1 ∨ lwN (b.hi - d.v) (b.t - d.t) * d.d1 < d.n1 * lwD (b.hi - d.v) (b.t - d.t) then lwD (b.hi - d.v) (b.t - d.t) else d.d1
      many := d.many + 1 }
def drOpen (d : Dr) : Bool := decide (d.many = 1 ∨ d.n0 * d.d1 ≤ d.n1 * d.d0)
def dr0 : Dr := ⟨0, 0, 0, 0, 0, 0, 0⟩

/-- a slope that may be, in lowest terms -/
def Low (N D : Int) : Prop := slB N D = true ∧ lwN N D = N ∧ lwD N D = D
/-- a door that has taken bands, the last of them at a time -/
structure DrOk (d : Dr) (last : Int) : Prop where
  m1 : 1 ≤ d.many
  m2 : d.many ≤ 1000
  t0 : 0 ≤ d.t
  tl : d.t ≤ last
  ts : last ≤ 281474976710656
  v : bkB d.v = true
  one : d.many = 1 → d.n0 = 0 ∧ d.d0 = 0 ∧ d.n1 = 0 ∧ d.d1 = 0
  two : d.many ≠ 1 → Low d.n0 d.d0 ∧ Low d.n1 d.d1

theorem hgB_mid {b : Bd} (h : b.lo ≤ b.hi) : b.lo ≤ hgB b ∧ hgB b ≤ b.hi := by unfold hgB; omega
theorem bk_of {v : Int} (h1 : -2305844108725321728 ≤ v) (h2 : v ≤ 2305844108725321728) : bkB v = true := decide_eq_true ⟨h1, h2⟩
theorem bdB_spec {last : Int} {b : Bd} (h : bdB last b = true) : last < b.t ∧ b.t ≤ 281474976710656 ∧ b.lo ≤ b.hi ∧ bkB b.lo = true ∧ bkB b.hi = true := by
  unfold bdB at h
  simp only [Bool.and_eq_true, decide_eq_true_eq] at h
  exact ⟨h.1.1.1.1, h.1.1.1.2, h.1.1.2, h.1.2, h.2⟩
theorem hg_bk {last : Int} {b : Bd} (h : bdB last b = true) : bkB (hgB b) = true := by
  obtain ⟨_, _, h3, h4, h5⟩ := bdB_spec h
  have := hgB_mid h3
  have := bkB_spec h4
  have := bkB_spec h5
  exact bk_of (by omega) (by omega)
theorem slope_sl {d : Dr} {last : Int} {b : Bd} (hd : DrOk d last) (h : bdB last b = true) {x : Int} (hx : bkB x = true) : slB (x - d.v) (b.t - d.t) = true := by
  obtain ⟨h1, h2, h3, h4, h5⟩ := bdB_spec h
  obtain ⟨m1, m2, t0, tl, ts, v, _, _⟩ := hd
  have := bkB_spec v
  have := bkB_spec hx
  exact decide_eq_true ⟨by omega, by omega, by omega, by omega⟩
theorem low_low {N D : Int} (h : slB N D = true) : Low (lwN N D) (lwD N D) := ⟨low_sl h, low_idem (slB_spec h).1⟩

theorem DrOk.first {b : Bd} (h : bdB (-1) b = true) : DrOk (drTake dr0 b) b.t := by
  obtain ⟨h1, h2, h3, h4, h5⟩ := bdB_spec h
  have e : drTake dr0 b = ⟨b.t, hgB b, 0, 0, 0, 0, 1⟩ := rfl
  rw [e]
  exact ⟨Int.le_refl 1, (by decide : (1 : Int) ≤ 1000), by show 0 ≤ b.t; omega, Int.le_refl _, h2, hg_bk h, fun _ => ⟨rfl, rfl, rfl, rfl⟩, fun h => absurd rfl h⟩
theorem DrOk.next {d : Dr} {last : Int} {b : Bd} (hd : DrOk d last) (h : bdB last b = true) (hm : d.many < 1000) : DrOk (drTake d b) b.t := by
  have s0 := low_low (slope_sl hd h (bdB_spec h).2.2.2.1)
  have s1 := low_low (slope_sl hd h (bdB_spec h).2.2.2.2)
  obtain ⟨h1, h2, h3, h4, h5⟩ := bdB_spec h
  obtain ⟨m1, m2, t0, tl, ts, v, one, two⟩ := hd
  have n0 : ¬ d.many = 0 := by omega
  unfold drTake
  rw [if_neg n0]
  refine ⟨by show 1 ≤ d.many + 1; omega, by show d.many + 1 ≤ 1000; omega, t0, by show d.t ≤ b.t; omega, h2, v, fun h => ?_, fun _ => ?_⟩
  · have h' : d.many + 1 = 1 := h
    omega
  · dsimp only
    by_cases e1 : d.many = 1
    · simp only [e1, true_or, if_true]
      exact ⟨s0, s1⟩
    · obtain ⟨k0, k1⟩ := two e1
      constructor
      · split
        · exact s0
        · exact k0
      · split
        · exact s1
        · exact k1

theorem eqP_cross {a b c d : Int} (h : Low a b) (h' : Low c d) : (eqP a b c d || decide (cmpI (a * d) (c * b) < 0)) = decide (a * d ≤ c * b) := by
  have k : (a = c ∧ b = d) ↔ a * d = c * b := by
    constructor
    · rintro ⟨rfl, rfl⟩; rfl
    · intro e
      have := low_uniq (slB_spec h.1).1 (slB_spec h'.1).1 e
      rw [h.2.1, h.2.2, h'.2.1, h'.2.2] at this
      exact this
  have ke : decide (a = c ∧ b = d) = decide (a * d = c * b) := decide_eq_decide.2 k
  unfold eqP cmpI
  rw [ke]
  rcases Int.lt_trichotomy (a * d) (c * b) with h1 | h1 | h1
  · rw [if_pos h1]; simp; omega
  · simp [h1]
  · rw [if_neg (by omega), if_neg (by omega)]; simp; omega
theorem cmp_pos (a b : Int) : decide (0 < cmpI a b) = decide (b < a) := by
  unfold cmpI
  split
  · rw [decide_eq_decide]; omega
  · split <;> rw [decide_eq_decide] <;> omega
theorem cmp_neg (a b : Int) : decide (cmpI a b < 0) = decide (a < b) := by
  unfold cmpI
  split
  · rw [decide_eq_decide]; omega
  · split <;> rw [decide_eq_decide] <;> omega
end Go.Proofs.Ytfdaabdibpcjeaa
