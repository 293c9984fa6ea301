/- Numbers as lists of binary digits, from the lowest on: plain laws. No program is used. -/
import Derived.Test.YtfdaabdibpcjeaaExc
set_option linter.unusedSimpArgs false
set_option linter.unusedVariables false
namespace Go.Proofs.Ytfdaabdibpcjeaa

/-- the number of a list of digits -/
def bv : List Nat → Nat
  | [] => 0
  | x :: l => x + 2 * bv l
def Bin (l : List Nat) : Prop := ∀ x ∈ l, x < 2
/-- a number's digits, without noughts at the end -/
def sz (n : Nat) : List Nat := if h : n = 0 then [] else (n % 2) :: sz (n / 2)
termination_by n

theorem sz_zero : sz 0 = [] := by rw [sz]; simp
theorem sz_pos {n : Nat} (h : n ≠ 0) : sz n = (n % 2) :: sz (n / 2) := by rw [sz]; simp [h]
theorem bv_sz (n : Nat) : bv (sz n) = n := by
  induction n using Nat.strongRecOn with
  | _ n ih =>
    by_cases h : n = 0
    · subst h; rw [sz_zero]; rfl
    · rw [sz_pos h]; simp only [bv]; rw [ih (n / 2) (by omega)]; omega
theorem Bin.sz (n : Nat) : Bin (sz n) := by
  induction n using Nat.strongRecOn with
  | _ n ih =>
    by_cases h : n = 0
    · subst h; rw [sz_zero]; intro x hx; cases hx
    · rw [sz_pos h]
      intro x hx
      rcases List.mem_cons.1 hx with rfl | hx
      · omega
      · exact ih (n / 2) (by omega) x hx
theorem Bin.nil : Bin [] := fun x hx => by cases hx
theorem Bin.cons {x : Nat} {l : List Nat} (hx : x < 2) (h : Bin l) : Bin (x :: l) := fun y hy => by
  rcases List.mem_cons.1 hy with rfl | hy
  · exact hx
  · exact h y hy
theorem Bin.append {l m : List Nat} (h : Bin l) (h' : Bin m) : Bin (l ++ m) := fun x hx => (List.mem_append.1 hx).elim (h x) (h' x)
theorem Bin.take {l : List Nat} (h : Bin l) (k : Nat) : Bin (l.take k) := fun x hx => h x (List.mem_of_mem_take hx)
theorem Bin.drop {l : List Nat} (h : Bin l) (k : Nat) : Bin (l.drop k) := fun x hx => h x (List.mem_of_mem_drop hx)
theorem Bin.get {l : List Nat} (h : Bin l) {k : Nat} (hk : k < l.length) : l[k] < 2 := h _ (List.getElem_mem hk)

theorem bv_append (l m : List Nat) : bv (l ++ m) = bv l + 2 ^ l.length * bv m := by
  induction l with
  | nil => simp [bv]
  | cons x l ih =>
    simp only [List.cons_append, bv, List.length_cons]
    rw [ih, Nat.pow_succ]
    have : 2 ^ l.length * 2 * bv m = 2 * (2 ^ l.length * bv m) := by ac_rfl
    omega
theorem bv_lt {l : List Nat} (h : Bin l) : bv l < 2 ^ l.length := by
  induction l with
  | nil => simp [bv]
  | cons x l ih =>
    have h1 := h x (by simp)
    have h2 := ih (fun y hy => h y (by simp [hy]))
    simp only [bv, List.length_cons]
    rw [Nat.pow_succ]
    omega
theorem bv_split (l : List Nat) (k : Nat) (hk : k ≤ l.length) : bv l = bv (l.take k) + 2 ^ k * bv (l.drop k) := by
  have h := bv_append (l.take k) (l.drop k)
  rw [List.take_append_drop, List.length_take, Nat.min_eq_left hk] at h
  exact h
theorem bv_take_succ (l : List Nat) (k : Nat) (hk : k < l.length) : bv (l.take (k + 1)) = bv (l.take k) + 2 ^ k * l[k] := by
  rw [List.take_succ_eq_append_getElem hk, bv_append, List.length_take, Nat.min_eq_left (by omega)]
  simp [bv]
theorem bv_drop (l : List Nat) (k : Nat) (hk : k < l.length) : bv (l.drop k) = l[k] + 2 * bv (l.drop (k + 1)) := by
  rw [List.drop_eq_getElem_cons hk]; rfl
theorem bv_zero {l : List Nat} (h : ∀ x ∈ l, x = 0) : bv l = 0 := by
  induction l with
  | nil => rfl
  | cons x l ih =>
    simp only [bv]
    rw [ih (fun y hy => h y (by simp [hy])), h x (by simp)]

/-- one list only -/
theorem sz_bv {l : List Nat} (h : Bin l) (hc : l = [] ∨ 2 ^ (l.length - 1) ≤ bv l) : sz (bv l) = l := by
  induction l with
  | nil => simp [bv, sz_zero]
  | cons x l ih =>
    have h1 := h x (by simp)
    have hb : Bin l := fun y hy => h y (by simp [hy])
    rcases hc with hc | hc
    · cases hc
    · simp only [List.length_cons, Nat.add_sub_cancel, bv] at hc
      have hpos : x + 2 * bv l ≠ 0 := by
        have := Nat.two_pow_pos l.length
        omega
      simp only [bv]
      rw [sz_pos hpos, show (x + 2 * bv l) % 2 = x by omega, show (x + 2 * bv l) / 2 = bv l by omega]
      rw [ih hb]
      by_cases hl : l = []
      · exact .inl hl
      · refine .inr ?_
        have hlen : 0 < l.length := List.length_pos_iff.2 hl
        have : 2 ^ l.length = 2 * 2 ^ (l.length - 1) := by
          rw [show l.length = (l.length - 1) + 1 by omega, Nat.pow_succ, Nat.add_sub_cancel]; omega
        omega
theorem sz_len_lt {n k : Nat} (h : n < 2 ^ k) : (sz n).length ≤ k := by
  induction k generalizing n with
  | zero =>
    have : n = 0 := by simpa using h
    subst this; rw [sz_zero]; simp
  | succ k ih =>
    by_cases hn : n = 0
    · subst hn; rw [sz_zero]; simp
    · rw [sz_pos hn]
      rw [Nat.pow_succ] at h
      have := ih (n := n / 2) (by omega)
      simp only [List.length_cons]; omega
theorem sz_len_ge {n : Nat} (h : sz n ≠ []) : 2 ^ ((sz n).length - 1) ≤ n := by
  induction n using Nat.strongRecOn with
  | _ n ih =>
    by_cases hn : n = 0
    · subst hn; exact absurd sz_zero h
    · rw [sz_pos hn]
      simp only [List.length_cons, Nat.add_sub_cancel]
      by_cases h2 : sz (n / 2) = []
      · rw [h2]; simp; omega
      · have := ih (n / 2) (by omega) h2
        have hlen : 0 < (sz (n / 2)).length := List.length_pos_iff.2 h2
        rw [show (sz (n / 2)).length = ((sz (n / 2)).length - 1) + 1 by omega, Nat.pow_succ]
        omega
theorem sz_nil {n : Nat} : sz n = [] ↔ n = 0 := by
  constructor
  · intro h
    have := bv_sz n
    rw [h] at this
    exact this.symm
  · rintro rfl; exact sz_zero
/-- lengths tell what is less, where they differ -/
theorem sz_len_cmp {a b : Nat} (h : (sz a).length < (sz b).length) : a < b := by
  have h1 := bv_lt (Bin.sz a)
  rw [bv_sz] at h1
  have h2 := sz_len_ge (n := b) (by intro hb; rw [hb] at h; simp at h)
  have h3 : 2 ^ (sz a).length ≤ 2 ^ ((sz b).length - 1) := Nat.pow_le_pow_right (by decide) (by omega)
  omega
/-- noughts struck at the end -/
theorem sz_trim {l : List Nat} (h : Bin l) (k : Nat) (hk : k ≤ l.length) (hz : ∀ x ∈ l.drop k, x = 0) (hl : k = 0 ∨ ∃ j, ∃ hj : j < l.length, k = j + 1 ∧ l[j] ≠ 0) : l.take k = sz (bv l) := by
  have e : bv l = bv (l.take k) := by rw [bv_split l k hk, bv_zero hz]; omega
  rw [e]
  refine (sz_bv (h.take k) ?_).symm
  rcases hl with rfl | ⟨j, hj, rfl, hne⟩
  · exact .inl (by simp)
  · refine .inr ?_
    rw [bv_take_succ l j hj, List.length_take, Nat.min_eq_left (by omega), Nat.add_sub_cancel]
    have : l[j] = 1 := by have := h.get hj; omega
    rw [this]; omega
theorem sz_pow (n : Nat) : List.replicate n 0 ++ [1] = sz (2 ^ n) := by
  have e : bv (List.replicate n 0 ++ [1]) = 2 ^ n := by
    rw [bv_append, bv_zero (fun x hx => (List.mem_replicate.1 hx).2), List.length_replicate]
    simp [bv]
  have hb : Bin (List.replicate n 0 ++ [1]) := Bin.append (fun x hx => by rw [(List.mem_replicate.1 hx).2]; decide) (Bin.cons (by decide) Bin.nil)
  rw [← sz_bv hb (.inr (by rw [e]; simp)), e]
end Go.Proofs.Ytfdaabdibpcjeaa
