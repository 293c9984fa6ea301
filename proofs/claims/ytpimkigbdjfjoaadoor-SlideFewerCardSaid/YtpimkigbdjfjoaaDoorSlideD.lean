/- Bands upside down, bands at later times: plain law. -/
import Derived.Test.YtpimkigbdjfjoaaDoorSlideQ
set_option linter.unusedSimpArgs false
set_option linter.unusedVariables false
namespace Go.Proofs.YtpimkigbdjfjoaaDoor
open Go.RowKit

theorem okF_ofS {l : List Bd} (last : Int) (h : ∀ i, i < l.length → (if i = 0 then last else (bd l (i - 1)).t) < (bd l i).t ∧ (bd l i).t ≤ 281474976710656 ∧ -2305844108725321728 ≤ (bd l i).lo ∧ (bd l i).lo ≤ (bd l i).hi ∧ (bd l i).hi ≤ 2305844108725321728) : okF last l = true := by
  induction l generalizing last with
  | nil => rfl
  | cons b l ih =>
    have h0 := h 0 (by simp)
    rw [if_pos rfl] at h0
    have e0 : bd (b :: l) 0 = b := rfl
    rw [e0] at h0
    rw [okF, Bool.and_eq_true]
    refine ⟨?_, ih b.t fun i hi => ?_⟩
    · unfold bdB
      simp only [Bool.and_eq_true, decide_eq_true_eq]
      exact ⟨⟨⟨⟨h0.1, h0.2.1⟩, h0.2.2.2.1⟩, bk_of (by omega) (by omega)⟩, bk_of (by omega) (by omega)⟩
    · have h1 := h (i + 1) (by simpa using hi)
      have e1 : bd (b :: l) (i + 1) = bd l i := rfl
      rw [if_neg (by omega), e1] at h1
      cases i with
      | zero => rw [if_pos rfl]; exact h1
      | succ j => rw [if_neg (by omega)]; exact h1

/-- the first k bands changed -/
def mpK (F : Bd → Bd) (ys : List Bd) (k : Nat) : List Bd := (List.range ys.length).map fun i => if i < k then F (bd ys i) else bd ys i
theorem mpK_len (F : Bd → Bd) (ys : List Bd) (k : Nat) : (mpK F ys k).length = ys.length := by simp [mpK]
theorem mpK_bd {F : Bd → Bd} {ys : List Bd} {k i : Nat} (h : i < ys.length) : bd (mpK F ys k) i = if i < k then F (bd ys i) else bd ys i := by
  have e : (mpK F ys k)[i]? = some (if i < k then F (bd ys i) else bd ys i) := by simp [mpK, h]
  show (mpK F ys k).getD i ⟨0, 0, 0⟩ = _
  rw [List.getD_eq_getElem?_getD, e]
  rfl
theorem mpK_zero (F : Bd → Bd) (ys : List Bd) : mpK F ys 0 = ys := by
  apply List.ext_getElem
  · exact mpK_len F ys 0
  · intro i h1 h2
    rw [bd_eq h1, mpK_bd h2, if_neg (by omega), bd_eq h2]
theorem bd_map (F : Bd → Bd) {ys : List Bd} {i : Nat} (h : i < ys.length) : bd (ys.map F) i = F (bd ys i) := by
  have h' : i < (ys.map F).length := by simpa using h
  rw [← bd_eq h', List.getElem_map, bd_eq h]
theorem mpK_all (F : Bd → Bd) (ys : List Bd) : mpK F ys ys.length = ys.map F := by
  apply List.ext_getElem
  · rw [mpK_len, List.length_map]
  · intro i h1 h2
    rw [mpK_len] at h1
    rw [bd_eq h2, bd_map F h1, bd_eq, mpK_bd h1, if_pos h1]

theorem firstS_congr {l m : List Bd} (hl : l.length = m.length) (h : ∀ k, k ≤ l.length → slOpen (sk l k) = slOpen (sk m k)) : firstS l = firstS m := by
  have a := firstS_is l
  have b := firstS_is m
  have a1 := a.le
  have b1 := b.le
  rcases Nat.lt_trichotomy (firstS l) (firstS m) with e | e | e
  · have x := a.no (by omega)
    have y := b.yes _ e
    rw [h _ (by omega), y] at x
    cases x
  · exact e
  · have x := b.no (by omega)
    have y := a.yes _ e
    rw [← h _ (by omega), y] at x
    cases x

/-! ### upside down -/
def dnB (b : Bd) : Bd := ⟨b.t, -b.hi, -b.lo⟩
def ng (a : Sl) : Sl := ⟨-a.n, a.d⟩
def ngs (s : Sl × Sl) : Sl × Sl := (ng s.2, ng s.1)
theorem ng_lt (a b : Sl) : (ng a).lt (ng b) = b.lt a := by
  unfold ng Sl.lt
  rw [decide_eq_decide]
  simp only [Int.neg_mul]
  omega
theorem lo2_dn (a b : Bd) : lo2 (dnB a) (dnB b) = ng (hi2 a b) := by
  unfold lo2 dnB ng hi2
  simp only [Sl.mk.injEq, and_true]
  omega
theorem hi2_dn (a b : Bd) : hi2 (dnB a) (dnB b) = ng (lo2 a b) := by
  unfold lo2 dnB ng hi2
  simp only [Sl.mk.injEq, and_true]
  omega
theorem let1_dn (a b : Bd) (s : Sl × Sl) : let1 (dnB b) (ngs s) (dnB a) = ngs (let1 b s a) := by
  unfold let1 ngs
  simp only [lo2_dn, hi2_dn, ng_lt, Prod.mk.injEq]
  constructor <;> split <;> rfl
theorem lk_dn (l : List Bd) (j : Nat) (hj : j < l.length) (s : Sl × Sl) : ∀ m, m ≤ l.length → lk (l.map dnB) j (ngs s) m = ngs (lk l j s m)
  | 0, _ => rfl
  | m + 1, hm => by rw [lk, lk, lk_dn l j hj s m (by omega), bd_map dnB hj, bd_map dnB (show m < l.length by omega), let1_dn]
theorem sk_dn (l : List Bd) : ∀ k, k ≤ l.length → sk (l.map dnB) k = ngs (sk l k)
  | 0, _ => rfl
  | k + 1, hk => by rw [sk, sk, sk_dn l k (by omega), lk_dn l k (by omega) _ k (by omega)]
theorem ngs_open (s : Sl × Sl) : slOpen (ngs s) = slOpen s := by
  unfold slOpen ngs
  simp only [ng_lt]
theorem firstS_dn (l : List Bd) : firstS (l.map dnB) = firstS l := by
  refine firstS_congr (by simp) fun k hk => ?_
  rw [List.length_map] at hk
  rw [sk_dn l k hk, ngs_open]
theorem cutsS_dn (l : List Bd) : cutsS (l.map dnB) = cutsS l := by
  by_cases h0 : 0 < l.length
  · have hp := firstS_pos h0
    rw [cutsS_cons h0, cutsS_cons (by simpa using h0), firstS_dn, ← List.map_drop, cutsS_dn (l.drop (firstS l))]
  · rw [cutsS_nil h0, cutsS_nil (by simpa using h0)]
termination_by l.length
decreasing_by
  rw [List.length_drop]
  omega
theorem ok_dn {l : List Bd} (h : okB l = true) : okB (l.map dnB) = true := by
  obtain ⟨k0, k1, k2⟩ := okB_spec h
  unfold okB
  rw [List.length_map]
  simp only [Bool.and_eq_true, decide_eq_true_eq]
  refine ⟨⟨k0, k1⟩, okF_ofS (-1) fun i hi => ?_⟩
  rw [List.length_map] at hi
  rw [bd_map dnB hi]
  obtain ⟨r1, r2, r3, ⟨r4, r5⟩, r6, r7⟩ := bd_rg k2 i hi
  refine ⟨?_, r2, by show _ ≤ -_; omega, by show -_ ≤ -_; omega, by show -_ ≤ _; omega⟩
  split
  · show -1 < (bd l i).t
    omega
  · rw [bd_map dnB (show i - 1 < l.length by omega)]
    exact t_lt k2 (i - 1) i (by omega) hi
theorem lwN_ng (N D : Int) : lwN (-N) D = -lwN N D ∧ lwD (-N) D = lwD N D := by
  have e : dvN (-N) D = dvN N D := by unfold dvN; rw [Int.natAbs_neg]
  unfold lwN lwD
  rw [e]
  exact ⟨Int.neg_ediv_of_dvd (dvN_dvdN N D), rfl⟩

/-! ### later -/
def laB (m : Int) (b : Bd) : Bd := ⟨b.t + m, b.lo, b.hi⟩
theorem lo2_la (m : Int) (a b : Bd) : lo2 (laB m a) (laB m b) = lo2 a b := by
  unfold lo2 laB
  simp only [Sl.mk.injEq, true_and]
  omega
theorem hi2_la (m : Int) (a b : Bd) : hi2 (laB m a) (laB m b) = hi2 a b := by
  unfold hi2 laB
  simp only [Sl.mk.injEq, true_and]
  omega
theorem let1_la (m : Int) (a b : Bd) (s : Sl × Sl) : let1 (laB m b) s (laB m a) = let1 b s a := by
  unfold let1
  simp only [lo2_la, hi2_la]
theorem lk_la (x : Int) (l : List Bd) (j : Nat) (hj : j < l.length) (s : Sl × Sl) : ∀ m, m ≤ l.length → lk (l.map (laB x)) j s m = lk l j s m
  | 0, _ => rfl
  | m + 1, hm => by rw [lk, lk, lk_la x l j hj s m (by omega), bd_map _ hj, bd_map _ (show m < l.length by omega), let1_la]
theorem sk_la (x : Int) (l : List Bd) : ∀ k, k ≤ l.length → sk (l.map (laB x)) k = sk l k
  | 0, _ => rfl
  | k + 1, hk => by rw [sk, sk, sk_la x l k (by omega), lk_la x l k (by omega) _ k (by omega)]
theorem fS_la (x : Int) (l : List Bd) : fS (l.map (laB x)) = fS l := by
  unfold fS
  rw [List.length_map, sk_la x l _ (Nat.le_refl _)]
theorem lwAt_la (x : Int) (l : List Bd) (N D : Int) (i : Nat) (hi : i < l.length) : lwAt (l.map (laB x)) N D i = lwAt l N D i := by
  unfold lwAt
  rw [bd_map _ hi, bd_map _ (show 0 < l.length by omega)]
  show (bd l i).lo * D - N * ((bd l i).t + x - ((bd l 0).t + x)) = _
  rw [show (bd l i).t + x - ((bd l 0).t + x) = (bd l i).t - (bd l 0).t by omega]
theorem lwK_la (x : Int) (l : List Bd) (N D : Int) : ∀ k, k ≤ l.length → lwK (l.map (laB x)) N D k = lwK l N D k
  | 0, _ => rfl
  | k + 1, hk => by rw [lwK, lwK, lwK_la x l N D k (by omega), lwAt_la x l N D k (by omega)]
theorem fC_la (x : Int) (l : List Bd) : fC (l.map (laB x)) = fC l := by
  unfold fC
  rw [fS_la, List.length_map, lwK_la x l _ _ _ (Nat.le_refl _)]
theorem ok_la {l : List Bd} {x : Int} (h : okB l = true) (h0 : 0 ≤ x) (h1 : (bd l (l.length - 1)).t + x ≤ 281474976710656) : okB (l.map (laB x)) = true := by
  obtain ⟨k0, k1, k2⟩ := okB_spec h
  unfold okB
  rw [List.length_map]
  simp only [Bool.and_eq_true, decide_eq_true_eq]
  refine ⟨⟨k0, k1⟩, okF_ofS (-1) fun i hi => ?_⟩
  rw [List.length_map] at hi
  rw [bd_map _ hi]
  obtain ⟨r1, r2, r3, ⟨r4, r5⟩, r6, r7⟩ := bd_rg k2 i hi
  refine ⟨?_, ?_, r4, r3, r7⟩
  · split
    · show -1 < (bd l i).t + x
      omega
    · rw [bd_map _ (show i - 1 < l.length by omega)]
      have := t_lt k2 (i - 1) i (by omega) hi
      show (bd l (i - 1)).t + x < (bd l i).t + x
      omega
  · show (bd l i).t + x ≤ _
    by_cases e : i = l.length - 1
    · subst e; exact h1
    · have := t_lt k2 i (l.length - 1) (by omega) (by omega)
      omega

/-! ### rows of cells that are changed one by one -/
def BCs (cur : Array Value) (o : Nat) (l : List Bd) : Prop := ∀ i (hi : i < l.length), cur[o + i * 3]? = some (.int .i64 (bd l i).t) ∧ cur[o + i * 3 + 1]? = some (.int .i64 (bd l i).lo) ∧ cur[o + i * 3 + 2]? = some (.int .i64 (bd l i).hi)
theorem get_setS {cur : Array Value} {i j : Nat} {v : Value} {x : Value} (h : cur[i]? = some x) : (cur.setIfInBounds i v)[j]? = if j = i then some v else cur[j]? := by
  have hi : i < cur.size := (Array.getElem?_eq_some_iff.1 h).1
  by_cases e : j = i
  · subst e; simp [hi]
  · rw [if_neg e, Array.getElem?_setIfInBounds_ne (Ne.symm e)]
theorem BCs.dn {cur : Array Value} {o : Nat} {ys : List Bd} {k : Nat} (h : BCs cur o (mpK dnB ys k)) (hk : k < ys.length) :
    BCs ((cur.setIfInBounds (o + k * 3 + 1) (.int .i64 (-(bd ys k).hi))).setIfInBounds (o + k * 3 + 2) (.int .i64 (-(bd ys k).lo))) o (mpK dnB ys (k + 1)) := by
  intro i hi
  rw [mpK_len] at hi
  obtain ⟨p1, p2, p3⟩ := h k (by rw [mpK_len]; exact hk)
  obtain ⟨q1, q2, q3⟩ := h i (by rw [mpK_len]; exact hi)
  have p3' : (cur.setIfInBounds (o + k * 3 + 1) (.int .i64 (-(bd ys k).hi)))[o + k * 3 + 2]? = some (.int .i64 (bd (mpK dnB ys k) k).hi) := by rw [get_setS p2, if_neg (by omega)]; exact p3
  rw [get_setS p3', get_setS p3', get_setS p3', get_setS p2, get_setS p2, get_setS p2]
  by_cases e : i = k
  · subst e
    have hd : bd (mpK dnB ys (i + 1)) i = dnB (bd ys i) := by rw [mpK_bd hi, if_pos (by omega)]
    rw [hd]
    rw [if_neg (by omega), if_neg (by omega), if_neg (by omega), if_pos rfl, if_pos rfl, q1]
    rw [mpK_bd hi, if_neg (by omega)]
    exact ⟨rfl, rfl, rfl⟩
  · rw [if_neg (by omega), if_neg (by omega), if_neg (by omega), if_neg (by omega), if_neg (by omega), if_neg (by omega), q1, q2, q3]
    rw [mpK_bd hi, mpK_bd hi]
    by_cases e2 : i < k
    · rw [if_pos e2, if_pos (by omega)]; exact ⟨rfl, rfl, rfl⟩
    · rw [if_neg e2, if_neg (by omega)]; exact ⟨rfl, rfl, rfl⟩
theorem BCs.la {cur : Array Value} {o : Nat} {ys : List Bd} {k : Nat} {x : Int} (h : BCs cur o (mpK (laB x) ys k)) (hk : k < ys.length) :
    BCs (cur.setIfInBounds (o + k * 3) (.int .i64 ((bd ys k).t + x))) o (mpK (laB x) ys (k + 1)) := by
  intro i hi
  rw [mpK_len] at hi
  obtain ⟨p1, p2, p3⟩ := h k (by rw [mpK_len]; exact hk)
  obtain ⟨q1, q2, q3⟩ := h i (by rw [mpK_len]; exact hi)
  rw [get_setS p1, get_setS p1, get_setS p1]
  by_cases e : i = k
  · subst e
    have hd : bd (mpK (laB x) ys (i + 1)) i = laB x (bd ys i) := by rw [mpK_bd hi, if_pos (by omega)]
    rw [hd]
    rw [if_pos rfl, if_neg (by omega), if_neg (by omega), q2, q3]
    rw [mpK_bd hi, if_neg (by omega)]
    exact ⟨rfl, rfl, rfl⟩
  · rw [if_neg (by omega), if_neg (by omega), if_neg (by omega), q1, q2, q3]
    rw [mpK_bd hi, mpK_bd hi]
    by_cases e2 : i < k
    · rw [if_pos e2, if_pos (by omega)]; exact ⟨rfl, rfl, rfl⟩
    · rw [if_neg e2, if_neg (by omega)]; exact ⟨rfl, rfl, rfl⟩
end Go.Proofs.YtpimkigbdjfjoaaDoor
