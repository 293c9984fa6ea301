/- Sums of fractions that are each rounded down: plain laws of whole numbers. -/
import Derived.Test.YtfdaabdibpcjeaaScale
set_option linter.unusedSimpArgs false
set_option linter.unusedVariables false
namespace Go.Proofs.Ytfdaabdibpcjeaa

/-- a sum of n terms -/
def sm (f : Nat → Int) : Nat → Int
  | 0 => 0
  | n + 1 => sm f n + f n
theorem sm_congr {f g : Nat → Int} : ∀ n, (∀ i, i < n → f i = g i) → sm f n = sm g n
  | 0, _ => rfl
  | n + 1, h => by simp only [sm]; rw [sm_congr n (fun i hi => h i (by omega)), h n (by omega)]
theorem sm_add (f g : Nat → Int) : ∀ n, sm (fun i => f i + g i) n = sm f n + sm g n
  | 0 => rfl
  | n + 1 => by simp only [sm]; rw [sm_add f g n]; omega
theorem sm_const (c : Int) : ∀ n : Nat, sm (fun _ => c) n = c * n
  | 0 => by simp [sm]
  | n + 1 => by simp only [sm]; rw [sm_const c n, Int.natCast_add, Int.mul_add]; simp
theorem sm_zero (n : Nat) : sm (fun _ => 0) n = 0 := by rw [sm_const]; simp
theorem sm_mul (c : Int) (f : Nat → Int) : ∀ n, sm (fun i => c * f i) n = c * sm f n
  | 0 => by simp [sm]
  | n + 1 => by simp only [sm]; rw [sm_mul c f n, Int.mul_add]
theorem sm_split (f : Nat → Int) (k : Nat) : ∀ n, sm f (k + n) = sm f k + sm (fun i => f (k + i)) n
  | 0 => by simp [sm]
  | n + 1 => by rw [← Nat.add_assoc]; simp only [sm]; rw [sm_split f k n]; omega
theorem sm_head (f : Nat → Int) (n : Nat) : sm f (n + 1) = f 0 + sm (fun i => f (i + 1)) n := by
  rw [Nat.add_comm n 1, sm_split f 1 n]
  simp only [sm, Int.zero_add]
  congr 1
  exact sm_congr n (fun i _ => by rw [Nat.add_comm])
theorem sm_rev (f : Nat → Int) : ∀ n, sm (fun i => f (n - 1 - i)) n = sm f n
  | 0 => rfl
  | n + 1 => by
    rw [sm_head]
    simp only [sm, Nat.add_sub_cancel, Nat.sub_zero]
    rw [sm_congr (g := fun i => f (n - 1 - i)) n (fun i _ => by congr 1; omega), sm_rev f n]
    omega
theorem sm_swap (f : Nat → Nat → Int) (m : Nat) : ∀ n, sm (fun i => sm (fun j => f i j) m) n = sm (fun j => sm (fun i => f i j) n) m
  | 0 => by simp only [sm]; rw [sm_zero]
  | n + 1 => by simp only [sm]; rw [sm_swap f m n, ← sm_add]
theorem sm_mono {f g : Nat → Int} : ∀ n, (∀ i, i < n → f i ≤ g i) → sm f n ≤ sm g n
  | 0, _ => Int.le_refl _
  | n + 1, h => by
    have h1 := sm_mono n (fun i hi => h i (by omega))
    have h2 := h n (by omega)
    simp only [sm]; omega
theorem sm_nn {f : Nat → Int} (n : Nat) (h : ∀ i, i < n → 0 ≤ f i) : 0 ≤ sm f n := by
  have := sm_mono (f := fun _ => 0) n h
  rw [sm_zero] at this; exact this
theorem sm_two : ∀ n : Nat, 2 * sm (fun i => (i : Int)) n = n * ((n : Int) - 1)
  | 0 => by simp [sm]
  | n + 1 => by
    simp only [sm]; rw [Int.mul_add, sm_two n, Int.natCast_add, Int.mul_sub, Int.mul_sub, Int.add_mul, Int.mul_add]; simp; omega

/-- how many pairs there are of so many -/
def prs (n : Int) : Int := n * (n - 1) / 2
theorem sm_prs (n : Nat) : sm (fun i => (i : Int)) n = prs n := by
  have := sm_two n
  unfold prs
  omega
theorem prs_nn (n : Nat) : 0 ≤ prs n := by rw [← sm_prs]; exact sm_nn n (fun i _ => by omega)

/-- a row's sum -/
def fl (n : Nat) (a b m : Int) : Int := sm (fun i => (a * i + b) / m) n

theorem cnt {x m : Int} (hm : 0 < m) (hx : 0 ≤ x) : ∀ N : Nat, sm (fun j => if ((j : Int) + 1) * m ≤ x then 1 else 0) N = min (x / m) N
  | 0 => by
    have := Int.ediv_nonneg hx (Int.le_of_lt hm)
    simp only [sm]; omega
  | N + 1 => by
    simp only [sm]; rw [cnt hm hx N]
    by_cases h : ((N : Int) + 1) * m ≤ x
    · rw [if_pos h]
      have := (Int.le_ediv_iff_mul_le hm).2 h
      omega
    · rw [if_neg h]
      have : ¬ ((N : Int) + 1) ≤ x / m := fun h' => h ((Int.le_ediv_iff_mul_le hm).1 h')
      omega
theorem cnt_le {x m : Int} (hm : 0 < m) (hx : 0 ≤ x) (N : Nat) (h : x / m ≤ N) : sm (fun j => if ((j : Int) + 1) * m ≤ x then 1 else 0) N = x / m := by
  rw [cnt hm hx]; omega

theorem fl_mod (n : Nat) (a b m : Int) (hm : 0 < m) : fl n a b m = a / m * prs n + b / m * n + fl n (a % m) (b % m) m := by
  unfold fl
  rw [← sm_prs, ← sm_mul, ← sm_const, ← sm_add, ← sm_add]
  refine sm_congr n (fun i _ => ?_)
  have e : a * i + b = (a % m * i + b % m) + m * (a / m * i + b / m) := by
    have e1 := Int.mul_ediv_add_emod a m
    have e2 := Int.mul_ediv_add_emod b m
    conv => lhs; rw [← e1, ← e2]
    rw [Int.add_mul, Int.mul_add, Int.mul_assoc]
    omega
  rw [e, Int.add_mul_ediv_left _ _ (by omega)]
  omega

theorem fl_small (n : Nat) (a b m : Int) (hm : 0 < m) (ha : 0 ≤ a) (hb : 0 ≤ b) (h : a * n + b < m) : fl n a b m = 0 := by
  unfold fl
  rw [sm_congr (g := fun _ => 0) n, sm_zero]
  intro i hi
  have h1 : a * (i : Int) ≤ a * n := Int.mul_le_mul_of_nonneg_left (by omega) ha
  have h2 : 0 ≤ a * (i : Int) := Int.mul_nonneg ha (by omega)
  exact Int.ediv_eq_zero_of_lt (by omega) (by omega)

theorem fl_nn (n : Nat) (a b m : Int) (hm : 0 < m) (ha : 0 ≤ a) (hb : 0 ≤ b) : 0 ≤ fl n a b m :=
  sm_nn n (fun i _ => Int.ediv_nonneg (by have := Int.mul_nonneg ha (show 0 ≤ (i : Int) by omega); omega) (by omega))

/-- the roles change -/
theorem fl_turn (n N : Nat) (a b m R : Int) (hm : 0 < m) (ha : 0 < a) (hb : 0 ≤ b) (hb2 : b < m) (hR : 0 ≤ R) (h : a * n + b = N * m + R) (hR2 : R < m) : fl n a b m = fl N m R a := by
  unfold fl
  have e1 : sm (fun i => (a * i + b) / m) n = sm (fun i => sm (fun j => if ((j : Int) + 1) * m ≤ a * i + b then 1 else 0) N) n := by
    refine sm_congr n (fun i hi => ?_)
    have h1 : a * (i : Int) ≤ a * n := Int.mul_le_mul_of_nonneg_left (by omega) (by omega)
    have h2 : 0 ≤ a * (i : Int) := Int.mul_nonneg (by omega) (by omega)
    refine (cnt_le hm (by omega) N ?_).symm
    have h3 : a * (i : Int) + b < (N + 1) * m := by rw [Int.add_mul]; omega
    have := Int.ediv_lt_of_lt_mul hm h3
    omega
  rw [e1, sm_swap, ← sm_rev]
  refine sm_congr N (fun k hk => ?_)
  have c : ((N - 1 - k : Nat) : Int) + 1 = N - k := by omega
  rw [← sm_rev]
  have e2 : ∀ t : Nat, t < n → (if (((N - 1 - k : Nat) : Int) + 1) * m ≤ a * ((n - 1 - t : Nat) : Int) + b then (1 : Int) else 0) = if ((t : Int) + 1) * a ≤ m * k + R then 1 else 0 := by
    intro t ht
    have c2 : ((n - 1 - t : Nat) : Int) = n - (t + 1) := by omega
    rw [c, c2, Int.mul_sub, Int.sub_mul, Int.mul_comm a ((t : Int) + 1), Int.mul_comm (k : Int) m]
    by_cases hh : ((t : Int) + 1) * a ≤ m * k + R
    · rw [if_pos hh, if_pos (by omega)]
    · rw [if_neg hh, if_neg (by omega)]
  rw [sm_congr n e2]
  have k2 : 0 ≤ m * (k : Int) := Int.mul_nonneg (by omega) (by omega)
  refine cnt_le ha (by omega) n ?_
  have h4 : m * (k : Int) + R < (n + 1) * a := by
    have h5 : m * ((k : Int) + 1) ≤ m * N := Int.mul_le_mul_of_nonneg_left (by omega) (by omega)
    rw [Int.mul_add, Int.mul_comm m (N : Int)] at h5
    rw [Int.add_mul, Int.mul_comm (n : Int) a]
    omega
  have := Int.ediv_lt_of_lt_mul ha h4
  omega

theorem fl_top (n : Nat) (a b m : Int) (hm : 0 < m) (ha : 0 ≤ a) (ha2 : a < m) (hb2 : b < m) : fl n a b m ≤ prs n + n := by
  unfold fl
  have h := sm_mono (f := fun i => (a * i + b) / m) (g := fun i => (i : Int) + 1) n (fun i _ => by
    have h1 : a * (i : Int) ≤ m * i := Int.mul_le_mul_of_nonneg_right (by omega) (by omega)
    have h3 : a * (i : Int) + b < ((i : Int) + 2) * m := by rw [Int.add_mul, Int.mul_comm (i : Int) m]; omega
    have := Int.ediv_lt_of_lt_mul hm h3
    omega)
  rw [sm_add, sm_prs, sm_const] at h
  omega

/-- what is left of a row's steps -/
def rs (n : Nat) (a b m : Int) : Int := sm (fun i => (a * i + b) % m) n
theorem rs_eq (n : Nat) (a b m : Int) : rs n a b m = a * prs n + b * n - fl n a b m * m := by
  unfold rs fl
  have h : sm (fun i => (a * (i : Int) + b) % m) n + m * sm (fun i => (a * (i : Int) + b) / m) n = a * sm (fun i => (i : Int)) n + sm (fun _ => b) n := by
    rw [← sm_mul, ← sm_mul, ← sm_add, ← sm_add]
    exact sm_congr n (fun i _ => by have := Int.mul_ediv_add_emod (a * (i : Int) + b) m; omega)
  rw [sm_prs, sm_const, Int.mul_comm m] at h
  omega
theorem rs_nn (n : Nat) (a b m : Int) (hm : 0 < m) : 0 ≤ rs n a b m := sm_nn n (fun i _ => Int.emod_nonneg _ (by omega))
theorem rs_top (n : Nat) (a b m : Int) (hm : 0 < m) : rs n a b m ≤ n * (m - 1) := by
  have h := sm_mono (f := fun i => (a * i + b) % m) (g := fun _ => m - 1) n (fun i _ => by have := Int.emod_lt_of_pos (a * (i : Int) + b) hm; omega)
  rw [sm_const, Int.mul_comm] at h
  exact h

/-! the laws -/
theorem fl_split (k n : Nat) (a b m : Int) : fl (k + n) a b m = fl k a b m + fl n a (b + a * k) m := by
  unfold fl
  rw [sm_split]
  congr 1
  refine sm_congr n (fun i _ => ?_)
  rw [Int.natCast_add, Int.mul_add]
  congr 1; omega
theorem fl_back (n : Nat) (a b m : Int) : fl n (-a) (b + a * ((n : Int) - 1)) m = fl n a b m := by
  unfold fl
  rw [← sm_rev (fun i => (a * (i : Int) + b) / m)]
  refine sm_congr n (fun i hi => ?_)
  have c : ((n - 1 - i : Nat) : Int) = n - 1 - i := by omega
  rw [c, Int.mul_sub a ((n : Int) - 1) i, Int.neg_mul]
  congr 1; omega
theorem fl_up (n : Nat) (a b m : Int) (hm : 0 < m) : fl n (a + m) b m = fl n a b m + prs n := by
  unfold fl
  rw [← sm_prs, ← sm_add]
  refine sm_congr n (fun i _ => ?_)
  have e : (a + m) * i + b = (a * i + b) + m * i := by rw [Int.add_mul]; omega
  rw [e, Int.add_mul_ediv_left _ _ (by omega)]
theorem fl_down (n : Nat) (a b m : Int) (hm : 0 < m) : fl n a (b - m) m = fl n a b m - n := by
  unfold fl
  have h : sm (fun i => (a * (i : Int) + (b - m)) / m) n + sm (fun _ => 1) n = sm (fun i => (a * (i : Int) + b) / m) n := by
    rw [← sm_add]
    refine sm_congr n (fun i _ => ?_)
    have e : a * (i : Int) + (b - m) = (a * i + b) + m * (-1) := by omega
    rw [e, Int.add_mul_ediv_left _ _ (by omega)]; omega
  rw [sm_const] at h
  omega
theorem rs_same (n : Nat) (a b m : Int) (hm : 0 < m) : rs n (a - m) (b + m) m = rs n a b m := by
  unfold rs
  refine sm_congr n (fun i _ => ?_)
  have e : (a - m) * (i : Int) + (b + m) = (a * i + b) + m * (1 - i) := by rw [Int.sub_mul, Int.mul_sub]; omega
  rw [e, Int.add_mul_emod_self_left]

/-- Hermite's identity -/
theorem fl_hermite (n : Nat) (b : Int) (hn : 0 < n) : fl n 1 b n = b := by
  have hp : (0 : Int) < n := by omega
  unfold fl
  have q1 := Int.mul_ediv_add_emod b n
  have q2 := Int.emod_nonneg b (show (n : Int) ≠ 0 by omega)
  have q3 := Int.emod_lt_of_pos b hp
  have h : sm (fun i => (1 * (i : Int) + b) / n) n = sm (fun _ => b / n) n + sm (fun i => (1 * (i : Int) + b % n) / n) n := by
    rw [← sm_add]
    refine sm_congr n (fun i _ => ?_)
    have e : 1 * (i : Int) + b = (1 * (i : Int) + b % n) + n * (b / n) := by omega
    rw [e, Int.add_mul_ediv_left _ _ (by omega)]; omega
  have h2 : sm (fun i => (1 * (i : Int) + b % n) / n) n = b % n := by
    have e2 : ∀ i : Nat, i < n → (1 * ((n - 1 - i : Nat) : Int) + b % n) / n = if ((i : Int) + 1) * 1 ≤ b % n then 1 else 0 := by
      intro i hi
      have c : ((n - 1 - i : Nat) : Int) = n - 1 - i := by omega
      rw [c]
      by_cases hh : ((i : Int) + 1) * 1 ≤ b % n
      · rw [if_pos hh]
        have e : 1 * ((n : Int) - 1 - i) + b % n = (b % n - 1 - i) + n * 1 := by omega
        rw [e, Int.add_mul_ediv_left _ _ (by omega), Int.ediv_eq_zero_of_lt (by omega) (by omega)]; rfl
      · rw [if_neg hh]
        exact Int.ediv_eq_zero_of_lt (by omega) (by omega)
    rw [← sm_rev, sm_congr n e2, cnt_le (by omega) q2 n (by rw [Int.ediv_one]; omega), Int.ediv_one]
  rw [h, h2, sm_const, Int.mul_comm]
  exact q1

/-- multiples over a number without a common divisor -/
theorem fl_recip (n a : Nat) (hn : 0 < n) (hg : Nat.gcd a n = 1) : 2 * fl n a 0 n = ((a : Int) - 1) * ((n : Int) - 1) := by
  obtain ⟨k, rfl⟩ : ∃ k, n = k + 1 := ⟨n - 1, by omega⟩
  unfold fl
  rw [sm_head]
  have hp : (0 : Int) < ((k + 1 : Nat) : Int) := by omega
  have z : ((a : Int) * ((0 : Nat) : Int) + 0) / ((k + 1 : Nat) : Int) = 0 := by simp
  rw [z, Int.zero_add]
  have h : sm (fun i => ((a : Int) * ((i + 1 : Nat) : Int) + 0) / ((k + 1 : Nat) : Int)) k + sm (fun i => ((a : Int) * ((k - 1 - i + 1 : Nat) : Int) + 0) / ((k + 1 : Nat) : Int)) k = sm (fun _ => (a : Int) - 1) k := by
    rw [← sm_add]
    refine sm_congr k (fun i hi => ?_)
    have c : ((k - 1 - i + 1 : Nat) : Int) = ((k + 1 : Nat) : Int) - ((i + 1 : Nat) : Int) := by omega
    rw [c, Int.mul_sub]
    have hnd : ¬ ((a : Int) * ((i + 1 : Nat) : Int)) % ((k + 1 : Nat) : Int) = 0 := by
      intro hd
      have h1 : (k + 1) ∣ a * (i + 1) := by
        refine Nat.dvd_of_mod_eq_zero ?_
        have h2 : ((a * (i + 1) % (k + 1) : Nat) : Int) = 0 := by rw [Int.natCast_emod, Int.natCast_mul]; exact hd
        omega
      have h3 : Nat.Coprime (k + 1) a := by rw [Nat.Coprime, Nat.gcd_comm]; exact hg
      have h4 := Nat.le_of_dvd (by omega) (h3.dvd_of_dvd_mul_left h1)
      omega
    generalize (a : Int) * ((i + 1 : Nat) : Int) = x at *
    generalize hN : ((k + 1 : Nat) : Int) = N at *
    have q1 := Int.mul_ediv_add_emod x N
    have q2 := Int.emod_nonneg x (show N ≠ 0 by omega)
    have q3 := Int.emod_lt_of_pos x hp
    have e : (a : Int) * N - x + 0 = (N - x % N) + N * (a - x / N - 1) := by
      have e0 : N * ((a : Int) - x / N - 1) = (a : Int) * N - N * (x / N) - N := by rw [Int.mul_sub, Int.mul_sub, Int.mul_comm N (a : Int)]; omega
      omega
    rw [Int.add_zero x, e, Int.add_mul_ediv_left _ _ (by omega), show (N - x % N) / N = 0 from Int.ediv_eq_zero_of_lt (by omega) (by omega)]
    omega
  rw [sm_rev (fun i => ((a : Int) * ((i + 1 : Nat) : Int) + 0) / ((k + 1 : Nat) : Int)), sm_const] at h
  have e2 : ((k + 1 : Nat) : Int) - 1 = k := by omega
  rw [e2]
  omega
end Go.Proofs.Ytfdaabdibpcjeaa
