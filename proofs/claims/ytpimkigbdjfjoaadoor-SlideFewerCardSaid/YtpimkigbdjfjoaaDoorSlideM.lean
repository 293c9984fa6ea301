/- What bands let, each two of them: the plain law of slide. -/
import Derived.Test.YtpimkigbdjfjoaaDoorPA
set_option linter.unusedSimpArgs false
set_option linter.unusedVariables false
namespace Go.Proofs.YtpimkigbdjfjoaaDoor
open Go.RowKit

/-- a slope -/
structure Sl where
  (n d : Int)
def Sl.lt (a b : Sl) : Bool := decide (a.n * b.d < b.n * a.d)
/-- what a band that was taken lets with a later one: the least, the greatest slope -/
def lo2 (a b : Bd) : Sl := ⟨b.lo - a.hi, b.t - a.t⟩
def hi2 (a b : Bd) : Sl := ⟨b.hi - a.lo, b.t - a.t⟩
def let1 (b : Bd) (s : Sl × Sl) (a : Bd) : Sl × Sl := (if s.1.lt (lo2 a b) then lo2 a b else s.1, if (hi2 a b).lt s.2 then hi2 a b else s.2)
def all0 : Sl × Sl := (⟨-4611688217450643456, 1⟩, ⟨4611688217450643456, 1⟩)
/-- what the first i bands let with band j, behind what was let ahead -/
def lk (l : List Bd) (j : Nat) (s : Sl × Sl) : Nat → Sl × Sl
  | 0 => s
  | i + 1 => let1 (bd l j) (lk l j s i) (bd l i)
/-- what the first k bands let -/
def sk (l : List Bd) : Nat → Sl × Sl
  | 0 => all0
  | k + 1 => lk l k (sk l k) k
def slOpen (s : Sl × Sl) : Bool := !(s.2.lt s.1)

def slIs (a : Sl) : Bool := slB a.n a.d
theorem lo2_is {l : List Bd} (h : okF (-1) l = true) {i j : Nat} (hij : i < j) (hj : j < l.length) : slIs (lo2 (bd l i) (bd l j)) = true := by
  have h1 := bd_rg h i (by omega)
  have h2 := bd_rg h j hj
  have h3 := t_lt h i j hij hj
  unfold slIs slB lo2
  simp only
  exact decide_eq_true ⟨by omega, by omega, by omega, by omega⟩
theorem hi2_is {l : List Bd} (h : okF (-1) l = true) {i j : Nat} (hij : i < j) (hj : j < l.length) : slIs (hi2 (bd l i) (bd l j)) = true := by
  have h1 := bd_rg h i (by omega)
  have h2 := bd_rg h j hj
  have h3 := t_lt h i j hij hj
  unfold slIs slB hi2
  simp only
  exact decide_eq_true ⟨by omega, by omega, by omega, by omega⟩
theorem slIs_pos {a : Sl} (h : slIs a = true) : 0 < a.d := by have := slB_spec h; omega

/-- slopes s that are the greatest of the lower ones and the least of the upper ones, of the pairs that p names -/
structure SkInv (l : List Bd) (p : Nat → Nat → Prop) (s : Sl × Sl) : Prop where
  v1 : slIs s.1 = true
  v2 : slIs s.2 = true
  lo : ∀ i j, p i j → (lo2 (bd l i) (bd l j)).n * s.1.d ≤ s.1.n * (lo2 (bd l i) (bd l j)).d
  hi : ∀ i j, p i j → s.2.n * (hi2 (bd l i) (bd l j)).d ≤ (hi2 (bd l i) (bd l j)).n * s.2.d
  loIs : s.1 = all0.1 ∨ ∃ i j, p i j ∧ s.1 = lo2 (bd l i) (bd l j)
  hiIs : s.2 = all0.2 ∨ ∃ i j, p i j ∧ s.2 = hi2 (bd l i) (bd l j)

theorem SkInv.step {l : List Bd} (h : okF (-1) l = true) {p q : Nat → Nat → Prop} {s : Sl × Sl} (hs : SkInv l p s) {i0 j0 : Nat} (hij : i0 < j0) (hj : j0 < l.length) (hp : ∀ i j, p i j → i < j ∧ j < l.length) (hq : ∀ i j, q i j ↔ p i j ∨ (i = i0 ∧ j = j0)) :
    SkInv l q (let1 (bd l j0) s (bd l i0)) := by
  have k1 := lo2_is h hij hj
  have k2 := hi2_is h hij hj
  have p1 := slIs_pos hs.v1
  have p2 := slIs_pos hs.v2
  have p3 := slIs_pos k1
  have p4 := slIs_pos k2
  unfold let1
  refine ⟨?_, ?_, fun i j hij' => ?_, fun i j hij' => ?_, ?_, ?_⟩
  · simp only; split
    · exact k1
    · exact hs.v1
  · simp only; split
    · exact k2
    · exact hs.v2
  · simp only; split
    · rename_i hlt
      have hlt' := of_decide_eq_true hlt
      rcases (hq i j).1 hij' with hpi | ⟨rfl, rfl⟩
      · obtain ⟨a1, a2⟩ := hp i j hpi
        exact frac_trans (slIs_pos (lo2_is h a1 a2)) p1 p3 (hs.lo i j hpi) (Int.le_of_lt hlt')
      · exact Int.le_refl _
    · rename_i hlt
      rcases (hq i j).1 hij' with hpi | ⟨rfl, rfl⟩
      · exact hs.lo i j hpi
      · unfold Sl.lt at hlt
        rw [decide_eq_true_iff] at hlt
        omega
  · simp only; split
    · rename_i hlt
      have hlt' := of_decide_eq_true hlt
      rcases (hq i j).1 hij' with hpi | ⟨rfl, rfl⟩
      · obtain ⟨a1, a2⟩ := hp i j hpi
        exact frac_trans p4 p2 (slIs_pos (hi2_is h a1 a2)) (Int.le_of_lt hlt') (hs.hi i j hpi)
      · exact Int.le_refl _
    · rename_i hlt
      rcases (hq i j).1 hij' with hpi | ⟨rfl, rfl⟩
      · exact hs.hi i j hpi
      · unfold Sl.lt at hlt
        rw [decide_eq_true_iff] at hlt
        omega
  · simp only; split
    · exact .inr ⟨i0, j0, (hq i0 j0).2 (.inr ⟨rfl, rfl⟩), rfl⟩
    · rcases hs.loIs with e | ⟨i, j, hpi, e⟩
      · exact .inl e
      · exact .inr ⟨i, j, (hq i j).2 (.inl hpi), e⟩
  · simp only; split
    · exact .inr ⟨i0, j0, (hq i0 j0).2 (.inr ⟨rfl, rfl⟩), rfl⟩
    · rcases hs.hiIs with e | ⟨i, j, hpi, e⟩
      · exact .inl e
      · exact .inr ⟨i, j, (hq i j).2 (.inl hpi), e⟩

theorem lk_inv {l : List Bd} (h : okF (-1) l = true) {k : Nat} (hk : k < l.length) {s : Sl × Sl} (hs : SkInv l (fun i j => i < j ∧ j < k) s) :
    ∀ m, m ≤ k → SkInv l (fun i j => i < j ∧ j < k ∨ i < m ∧ j = k) (lk l k s m)
  | 0, _ => by
    rw [lk]
    exact ⟨hs.v1, hs.v2, fun i j hp => hs.lo i j (by omega), fun i j hp => hs.hi i j (by omega), hs.loIs.imp id fun ⟨i, j, hp, e⟩ => ⟨i, j, .inl hp, e⟩, hs.hiIs.imp id fun ⟨i, j, hp, e⟩ => ⟨i, j, .inl hp, e⟩⟩
  | m + 1, hm => by
    rw [lk]
    exact (lk_inv h hk hs m (by omega)).step h (i0 := m) (j0 := k) (by omega) hk (fun i j hp => by omega) (fun i j => by omega)

theorem sk_inv {l : List Bd} (h : okF (-1) l = true) : ∀ k, k ≤ l.length → SkInv l (fun i j => i < j ∧ j < k) (sk l k)
  | 0, _ => ⟨show slIs all0.1 = true by decide, show slIs all0.2 = true by decide, fun i j hp => absurd hp (by omega), fun i j hp => absurd hp (by omega), .inl rfl, .inl rfl⟩
  | k + 1, hk => by
    rw [sk]
    have := lk_inv h (k := k) (by omega) (sk_inv h k (by omega)) k (Nat.le_refl _)
    exact ⟨this.v1, this.v2, fun i j hp => this.lo i j (by omega), fun i j hp => this.hi i j (by omega), this.loIs.imp id fun ⟨i, j, hp, e⟩ => ⟨i, j, by omega, e⟩, this.hiIs.imp id fun ⟨i, j, hp, e⟩ => ⟨i, j, by omega, e⟩⟩

def Sl.le (a b : Sl) : Prop := a.n * b.d ≤ b.n * a.d
theorem slOpen_iff {s : Sl × Sl} : slOpen s = true ↔ s.1.le s.2 := by
  unfold slOpen Sl.lt Sl.le
  rw [Bool.not_eq_true', decide_eq_false_iff_not]
  omega
theorem all_le {a : Sl} (h : slIs a = true) : all0.1.le a ∧ a.le all0.2 := by
  have := slB_spec h
  unfold Sl.le all0
  simp only
  constructor <;> omega
theorem SkInv.mono {l : List Bd} {p q : Nat → Nat → Prop} {s r : Sl × Sl} (hs : SkInv l p s) (hr : SkInv l q r) (h : ∀ i j, p i j → q i j) : s.1.le r.1 ∧ r.2.le s.2 := by
  constructor
  · rcases hs.loIs with e | ⟨i, j, hp, e⟩
    · rw [e]; exact (all_le hr.v1).1
    · rw [e]; exact hr.lo i j (h i j hp)
  · rcases hs.hiIs with e | ⟨i, j, hp, e⟩
    · rw [e]; exact (all_le hr.v2).2
    · rw [e]; exact hr.hi i j (h i j hp)
theorem sk_open_down {l : List Bd} (h : okF (-1) l = true) {k m : Nat} (hkm : k ≤ m) (hm : m ≤ l.length) (ho : slOpen (sk l m) = true) : slOpen (sk l k) = true := by
  have h1 := sk_inv h k (by omega)
  have h2 := sk_inv h m hm
  obtain ⟨e1, e2⟩ := h1.mono h2 (fun i j hp => by omega)
  rw [slOpen_iff] at ho ⊢
  have p1 := slIs_pos h1.v1
  have p2 := slIs_pos h1.v2
  have p3 := slIs_pos h2.v1
  have p4 := slIs_pos h2.v2
  exact frac_trans p1 p4 p2 (frac_trans p1 p3 p4 e1 ho) e2
/-- a slope that is let: each band's lower end is not above any band's upper end, along it -/
theorem sk_pair {l : List Bd} (h : okF (-1) l = true) {k : Nat} (hk : k ≤ l.length) {N D : Int} (hD : 0 < D) (h1 : (sk l k).1.le ⟨N, D⟩) (h2 : Sl.le ⟨N, D⟩ (sk l k).2) (i j : Nat) (hi : i < k) (hj : j < k) :
    (bd l i).lo * D - N * (bd l i).t ≤ (bd l j).hi * D - N * (bd l j).t := by
  have hs := sk_inv h k hk
  have p1 := slIs_pos hs.v1
  have p2 := slIs_pos hs.v2
  rcases Nat.lt_trichotomy i j with hij | rfl | hij
  · have a := hs.hi i j ⟨hij, hj⟩
    have p3 := slIs_pos (hi2_is h hij (by omega))
    have b : N * ((bd l j).t - (bd l i).t) ≤ ((bd l j).hi - (bd l i).lo) * D := frac_trans hD p2 p3 h2 a
    rw [Int.mul_sub, Int.sub_mul] at b
    omega
  · have := bd_rg h i (by omega)
    have := Int.mul_le_mul_of_nonneg_right this.2.2.1 (Int.le_of_lt hD)
    omega
  · have a := hs.lo j i ⟨hij, hi⟩
    have p3 := slIs_pos (lo2_is h hij (by omega))
    have b : ((bd l i).lo - (bd l j).hi) * D ≤ N * ((bd l i).t - (bd l j).t) := frac_trans p3 p1 hD a h1
    rw [Int.mul_sub, Int.sub_mul] at b
    omega
/-- the other way: a slope along which that holds is let -/
theorem pair_sk {l : List Bd} (h : okF (-1) l = true) {k : Nat} (hk : k ≤ l.length) {N D : Int} (hD : 0 < D) (hN : slIs ⟨N, D⟩ = true ∨ 2 ≤ k) (hp : ∀ i j, i < k → j < k → (bd l i).lo * D - N * (bd l i).t ≤ (bd l j).hi * D - N * (bd l j).t) :
    ((sk l k).1 = all0.1 ∨ (sk l k).1.le ⟨N, D⟩) ∧ ((sk l k).2 = all0.2 ∨ Sl.le ⟨N, D⟩ (sk l k).2) := by
  have hs := sk_inv h k hk
  constructor
  · rcases hs.loIs with e | ⟨i, j, ⟨hij, hj⟩, e⟩
    · exact .inl e
    · right
      have := hp j i hj (by omega)
      rw [e]
      show ((bd l j).lo - (bd l i).hi) * D ≤ N * ((bd l j).t - (bd l i).t)
      rw [Int.mul_sub, Int.sub_mul]
      omega
  · rcases hs.hiIs with e | ⟨i, j, ⟨hij, hj⟩, e⟩
    · exact .inl e
    · right
      have := hp i j (by omega) hj
      rw [e]
      show N * ((bd l j).t - (bd l i).t) ≤ ((bd l j).hi - (bd l i).lo) * D
      rw [Int.mul_sub, Int.sub_mul]
      omega
end Go.Proofs.YtpimkigbdjfjoaaDoor
