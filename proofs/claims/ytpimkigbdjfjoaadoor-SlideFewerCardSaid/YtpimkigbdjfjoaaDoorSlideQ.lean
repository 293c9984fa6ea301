/- Ways to cut bands into parts through which a line goes: plain law. -/
import Derived.Test.YtpimkigbdjfjoaaDoorSlideP
import Derived.Test.YtpimkigbdjfjoaaDoorRef10o
set_option linter.unusedSimpArgs false
set_option linter.unusedVariables false
namespace Go.Proofs.YtpimkigbdjfjoaaDoor
open Go.RowKit

/-- some slope is let by all of these bands -/
def Lets (l : List Bd) : Prop := ∃ N D : Int, 0 < D ∧ ∀ a ∈ l, ∀ b ∈ l, a.lo * D - N * a.t ≤ b.hi * D - N * b.t
theorem Lets.sub {l m : List Bd} (h : Lets l) (hs : ∀ a ∈ m, a ∈ l) : Lets m := by
  obtain ⟨N, D, hD, hp⟩ := h
  exact ⟨N, D, hD, fun a ha b hb => hp a (hs a ha) b (hs b hb)⟩
theorem lets_nil : Lets [] := ⟨0, 1, by decide, fun a ha => by cases ha⟩
theorem bd_mem {l : List Bd} {i : Nat} (h : i < l.length) : bd l i ∈ l := by rw [← bd_eq h]; exact List.getElem_mem h
theorem mem_bd {l : List Bd} {a : Bd} (h : a ∈ l) : ∃ i, i < l.length ∧ bd l i = a := by
  obtain ⟨i, hi, rfl⟩ := List.mem_iff_getElem.1 h
  exact ⟨i, hi, (bd_eq hi).symm⟩

theorem lk_take (l : List Bd) (n j : Nat) (hj : j < n) (s : Sl × Sl) : ∀ m, m ≤ n → lk (l.take n) j s m = lk l j s m
  | 0, _ => rfl
  | m + 1, hm => by rw [lk, lk, lk_take l n j hj s m (by omega), bd_take hj, bd_take (show m < n by omega)]
theorem sk_take (l : List Bd) (n : Nat) : ∀ k, k ≤ n → sk (l.take n) k = sk l k
  | 0, _ => rfl
  | k + 1, hk => by rw [sk, sk, sk_take l n k (by omega), lk_take l n k (by omega) _ k (by omega)]

theorem lets_of_open {l : List Bd} (h : okF (-1) l = true) {k : Nat} (hk : k ≤ l.length) (ho : slOpen (sk l k) = true) : Lets (l.take k) := by
  have hv := sk_inv h k hk
  obtain ⟨m1, m2⟩ := nrS_mid hv.v1 hv.v2 ho
  have hL := nrS_low hv.v1 hv.v2
  have hD := (slB_spec hL.1).1
  refine ⟨(nrS (sk l k)).n, (nrS (sk l k)).d, by omega, fun a ha b hb => ?_⟩
  obtain ⟨i, hi, rfl⟩ := mem_bd ha
  obtain ⟨j, hj, rfl⟩ := mem_bd hb
  rw [List.length_take] at hi hj
  rw [bd_take (show i < k by omega), bd_take (show j < k by omega)]
  exact sk_pair h hk (N := (nrS (sk l k)).n) (D := (nrS (sk l k)).d) (by omega) m1 m2 i j (by omega) (by omega)
theorem open_of_lets {l : List Bd} (h : okF (-1) l = true) {k : Nat} (hk : k ≤ l.length) (hl : Lets (l.take k)) : slOpen (sk l k) = true := by
  rcases Nat.lt_or_ge k 2 with h2 | h2
  · have : k = 0 ∨ k = 1 := by omega
    rcases this with rfl | rfl <;> rfl
  · obtain ⟨N, D, hD, hp⟩ := hl
    have hv := sk_inv h k hk
    have hm : ∀ i, i < k → bd l i ∈ l.take k := fun i hi => by
      rw [← bd_take hi]
      exact bd_mem (by rw [List.length_take]; omega)
    obtain ⟨q1, q2⟩ := pair_sk h hk (N := N) (D := D) hD (.inr h2) fun i j hi hj => hp _ (hm i hi) _ (hm j hj)
    rw [slOpen_iff]
    rcases q1 with e | q1
    · rw [e]; exact (all_le hv.v2).1
    · rcases q2 with e | q2
      · rw [e]; exact (all_le hv.v1).2
      · exact frac_trans (slIs_pos hv.v1) hD (slIs_pos hv.v2) q1 q2

theorem firstS_max {l : List Bd} (h : okF (-1) l = true) {n : Nat} (hn : n ≤ l.length) (hl : Lets (l.take n)) : n ≤ firstS l := by
  have hF := firstS_is l
  rcases Nat.lt_or_ge (firstS l) n with h' | h'
  · have h1 := hF.no (by omega)
    rw [sk_open_down h h' hn (open_of_lets h hn hl)] at h1
    cases h1
  · exact h'
theorem firstS_open (l : List Bd) : slOpen (sk l (firstS l)) = true := by
  have hF := firstS_is l
  rcases Nat.eq_zero_or_pos (firstS l) with e | e
  · rw [e]; rfl
  · have := hF.yes (firstS l - 1) (by omega)
    rwa [show firstS l - 1 + 1 = firstS l by omega] at this
theorem firstS_lets {l : List Bd} (h : okF (-1) l = true) : Lets (l.take (firstS l)) := lets_of_open h (firstS_is l).le (firstS_open l)

/-- how many bands are in each part -/
def cutsS (l : List Bd) : List Nat := if h : 0 < l.length then firstS l :: cutsS (l.drop (firstS l)) else []
termination_by l.length
decreasing_by
  have := firstS_pos h
  rw [List.length_drop]
  omega
theorem cutsS_nil {l : List Bd} (h : ¬ 0 < l.length) : cutsS l = [] := by rw [cutsS, dif_neg h]
theorem cutsS_cons {l : List Bd} (h : 0 < l.length) : cutsS l = firstS l :: cutsS (l.drop (firstS l)) := by rw [cutsS, dif_pos h]

/-- so many parts are enough -/
def Parts : Nat → List Bd → Prop
  | 0, l => l = []
  | m + 1, l => ∃ n, Lets (l.take n) ∧ Parts m (l.drop n)
theorem Parts.more : ∀ {m : Nat} {l : List Bd}, Parts m l → Parts (m + 1) l := fun {m l} h => ⟨0, by simpa using lets_nil, by simpa using h⟩
theorem Parts.up {m n : Nat} {l : List Bd} (h : Parts m l) (hn : m ≤ n) : Parts n l := by
  induction n with
  | zero => rw [show m = 0 by omega] at h; exact h
  | succ n ih =>
    by_cases e : m = n + 1
    · rw [← e]; exact h
    · exact (ih (by omega)).more
theorem Parts.drop : ∀ (m : Nat) {l : List Bd} (j : Nat), Parts m l → Parts m (l.drop j)
  | 0, l, j, h => by
    have h' : l = [] := h
    subst h'
    show List.drop j [] = []
    simp
  | m + 1, l, j, ⟨n, h1, h2⟩ => by
    rcases Nat.lt_or_ge n j with hj | hj
    · have := Parts.drop m (j - n) h2
      rw [List.drop_drop, show n + (j - n) = j by omega] at this
      exact this.more
    · refine ⟨n - j, h1.sub fun a ha => ?_, ?_⟩
      · rw [List.take_drop, show j + (n - j) = n by omega] at ha
        exact List.mem_of_mem_drop ha
      · rw [List.drop_drop, show j + (n - j) = n by omega]
        exact h2
/-- none has fewer -/
theorem cutsS_least : ∀ (m : Nat) {l : List Bd}, okF (-1) l = true → Parts m l → (cutsS l).length ≤ m
  | 0, l, _, h => by
    have h' : l = [] := h
    rw [h', cutsS_nil (by simp)]; simp
  | m + 1, l, hk, ⟨n, h1, h2⟩ => by
    by_cases h0 : 0 < l.length
    · rw [cutsS_cons h0, List.length_cons]
      have hle : min n l.length ≤ firstS l := firstS_max hk (Nat.min_le_right _ _) (by rw [← List.take_eq_take_min]; exact h1)
      have hfl := (firstS_is l).le
      have hd : Parts m (l.drop (firstS l)) := by
        rcases Nat.lt_or_ge n (firstS l) with hj | hj
        · have := Parts.drop m (firstS l - n) h2
          rwa [List.drop_drop, show n + (firstS l - n) = firstS l by omega] at this
        · have e : firstS l = l.length ∨ n = firstS l := by omega
          rcases e with e | e
          · rw [e, List.drop_length]
            have : ∀ k, Parts k [] := fun k => Parts.up (m := 0) rfl (Nat.zero_le _)
            exact this m
          · rw [← e]; exact h2
      have := cutsS_least m (okF_drop l (-1) (Int.le_refl _) hk _) hd
      omega
    · rw [cutsS_nil h0]; simp
theorem cutsS_parts (l : List Bd) (h : okF (-1) l = true) : Parts (cutsS l).length l := by
  by_cases h0 : 0 < l.length
  · have := firstS_pos h0
    have ih := cutsS_parts (l.drop (firstS l)) (okF_drop l (-1) (Int.le_refl _) h _)
    rw [cutsS_cons h0, List.length_cons]
    exact ⟨firstS l, firstS_lets h, ih⟩
  · rw [cutsS_nil h0]
    exact List.eq_nil_of_length_eq_zero (by omega)
termination_by l.length
decreasing_by
  rw [List.length_drop]
  omega
theorem Parts.app : ∀ (a : Nat) {b k : Nat} {l : List Bd}, k ≤ l.length → Parts a (l.take k) → Parts b (l.drop k) → Parts (a + b) l
  | 0, b, k, l, hk, h1, h2 => by
    have h' : l.take k = [] := h1
    have : k = 0 ∨ l = [] := by
      rw [List.take_eq_nil_iff] at h'
      exact h'
    rcases this with rfl | rfl
    · simpa using h2
    · simpa using h2
  | a + 1, b, k, l, hk, ⟨n, h1, h3⟩, h2 => by
    rw [show a + 1 + b = (a + b) + 1 by omega]
    rw [List.take_take] at h1
    refine ⟨min n k, h1, ?_⟩
    refine Parts.app a (k := k - min n k) (by rw [List.length_drop]; omega) ?_ (by rw [List.drop_drop, show min n k + (k - min n k) = k by omega]; exact h2)
    rw [List.drop_take] at h3
    rcases Nat.lt_or_ge k n with hj | hj
    · rw [show min n k = k by omega, Nat.sub_self, List.take_zero]
      rw [show k - n = 0 by omega, List.take_zero] at h3
      exact h3
    · rw [show min n k = n by omega]; exact h3
theorem Parts.part : ∀ (m : Nat) {l : List Bd} (k : Nat), Parts m l → ∃ i j, Parts i (l.take k) ∧ Parts j (l.drop k) ∧ i + j ≤ m + 1
  | 0, l, k, h => by
    have h' : l = [] := h
    subst h'
    exact ⟨0, 0, by show List.take k [] = []; simp, by show List.drop k [] = []; simp, by omega⟩
  | m + 1, l, k, ⟨n, h1, h2⟩ => by
    rcases Nat.lt_or_ge k n with hj | hj
    · refine ⟨1, m + 1, ⟨k, h1.sub fun a ha => ?_, ?_⟩, Parts.drop (m + 1) k ⟨n, h1, h2⟩, by omega⟩
      · rw [List.take_take, Nat.min_self] at ha
        have : l.take k = (l.take n).take k := by rw [List.take_take, show min k n = k by omega]
        rw [this] at ha
        exact List.mem_of_mem_take ha
      · show (l.take k).drop k = []
        rw [List.drop_eq_nil_iff, List.length_take]
        omega
    · obtain ⟨i, j, p1, p2, p3⟩ := Parts.part m (k - n) h2
      refine ⟨i + 1, j, ⟨n, ?_, ?_⟩, ?_, by omega⟩
      · rw [List.take_take, show min n k = n by omega]; exact h1
      · rw [List.drop_take]; exact p1
      · rw [List.drop_drop, show n + (k - n) = k by omega] at p2
        exact p2
/-- bands in two rows, cut by themselves -/
theorem cutsS_two {l : List Bd} (h : okF (-1) l = true) (k : Nat) (hk : k ≤ l.length) :
    (cutsS l).length ≤ (cutsS (l.take k)).length + (cutsS (l.drop k)).length ∧ (cutsS (l.take k)).length + (cutsS (l.drop k)).length ≤ (cutsS l).length + 1 := by
  have h1 := okF_pre (-1) l k h
  have h2 := okF_drop l (-1) (Int.le_refl _) h k
  constructor
  · exact cutsS_least _ h (Parts.app _ hk (cutsS_parts _ h1) (cutsS_parts _ h2))
  · obtain ⟨i, j, p1, p2, p3⟩ := Parts.part _ k (cutsS_parts l h)
    have q1 := cutsS_least _ h1 p1
    have q2 := cutsS_least _ h2 p2
    omega
end Go.Proofs.YtpimkigbdjfjoaaDoor
