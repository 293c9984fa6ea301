/- The walk of SwingWider (yearbooklaw09). -/
import Derived.Test.YtfdaabdibpcjeaaPA
set_option linter.unusedSimpArgs false
set_option linter.unusedVariables false
namespace Go.Proofs.Ytfdaabdibpcjeaa
open Go.RowKit

/-- all the first bands of bands that swing swing, and so they are one part -/
theorem opn_less {l : List Bd} {k j : Nat} (h : Opn l k) (hj : j ≤ k) : Opn l j := fun a b h1 h2 h3 h4 => h a b h1 (by omega) h3 (by omega)
theorem cuts_one {l : List Bd} (h : okB l = true) (ho : drOpen (dk l l.length) = true) : cuts l = [l.length] := by
  obtain ⟨k0, k1, k2⟩ := okB_spec h
  have hO := (open_iff h l.length (by omega) (Nat.le_refl _)).1 ho
  have hF : IsFirst l l.length := ⟨Nat.le_refl _, fun k hk => (open_iff h (k + 1) (by omega) hk).2 (opn_less hO hk), fun h => absurd h (Nat.lt_irrefl _)⟩
  have e := hF.uniq (firstN_is l)
  rw [cuts_cons k0, ← e, List.drop_length, cuts_nil (by simp)]

/-- a band made wider -/
def wd (b : Bd) (m : Int) : Bd := if -2305844108725321728 + m ≤ b.lo ∧ b.hi ≤ 2305844108725321728 - m then ⟨b.t, b.lo - m, b.hi + m⟩ else b
/-- the first k bands made wider -/
def wl (ys : List Bd) (f : Nat → Int) (k : Nat) : List Bd := (List.range ys.length).map fun i => if i < k then wd (bd ys i) (f i) else bd ys i
theorem wl_len (ys : List Bd) (f : Nat → Int) (k : Nat) : (wl ys f k).length = ys.length := by simp [wl]
theorem wl_bd {ys : List Bd} {f : Nat → Int} {k i : Nat} (h : i < ys.length) : bd (wl ys f k) i = if i < k then wd (bd ys i) (f i) else bd ys i := by
  have e : (wl ys f k)[i]? = some (if i < k then wd (bd ys i) (f i) else bd ys i) := by simp [wl, h]
  show (wl ys f k).getD i ⟨0, 0, 0⟩ = _
  rw [List.getD_eq_getElem?_getD, e]
  rfl
theorem wl_zero (ys : List Bd) (f : Nat → Int) : wl ys f 0 = ys := by
  apply List.ext_getElem
  · exact wl_len ys f 0
  · intro i h1 h2
    rw [bd_eq h1, wl_bd h2, if_neg (by omega), bd_eq h2]
theorem wd_spec (b : Bd) (m : Int) (hm : 0 ≤ m) : (wd b m).t = b.t ∧ (wd b m).lo + (wd b m).hi = b.lo + b.hi ∧ (wd b m).lo ≤ b.lo ∧ b.hi ≤ (wd b m).hi ∧
    ((-2305844108725321728 ≤ b.lo ∧ b.lo ≤ b.hi ∧ b.hi ≤ 2305844108725321728) → -2305844108725321728 ≤ (wd b m).lo ∧ (wd b m).lo ≤ (wd b m).hi ∧ (wd b m).hi ≤ 2305844108725321728) := by
  unfold wd
  split
  · exact ⟨rfl, by dsimp only; omega, by dsimp only; omega, by dsimp only; omega, fun h => ⟨by dsimp only; omega, by dsimp only; omega, by dsimp only; omega⟩⟩
  · exact ⟨rfl, rfl, Int.le_refl _, Int.le_refl _, fun h => h⟩
theorem wl_spec {ys : List Bd} {f : Nat → Int} (hf : ∀ i, 0 ≤ f i) {k i : Nat} (h : i < ys.length) : (bd (wl ys f k) i).t = (bd ys i).t ∧ (bd (wl ys f k) i).lo + (bd (wl ys f k) i).hi = (bd ys i).lo + (bd ys i).hi ∧ (bd (wl ys f k) i).lo ≤ (bd ys i).lo ∧ (bd ys i).hi ≤ (bd (wl ys f k) i).hi ∧
    ((-2305844108725321728 ≤ (bd ys i).lo ∧ (bd ys i).lo ≤ (bd ys i).hi ∧ (bd ys i).hi ≤ 2305844108725321728) → -2305844108725321728 ≤ (bd (wl ys f k) i).lo ∧ (bd (wl ys f k) i).lo ≤ (bd (wl ys f k) i).hi ∧ (bd (wl ys f k) i).hi ≤ 2305844108725321728) := by
  rw [wl_bd h]
  split
  · exact wd_spec _ _ (hf i)
  · exact ⟨rfl, rfl, Int.le_refl _, Int.le_refl _, fun h => h⟩
theorem okF_of {l : List Bd} (last : Int) (h : ∀ i, i < l.length → (if i = 0 then last else (bd l (i - 1)).t) < (bd l i).t ∧ (bd l i).t ≤ 281474976710656 ∧ -2305844108725321728 ≤ (bd l i).lo ∧ (bd l i).lo ≤ (bd l i).hi ∧ (bd l i).hi ≤ 2305844108725321728) : okF last l = true := by
  induction l generalizing last with
  | nil => rfl
  | cons b l ih =>
    have h0 := h 0 (by simp)
    rw [if_pos rfl] at h0
    have e0 : bd (b :: l) 0 = b := rfl
    rw [e0] at h0
    rw [okF, Bool.and_eq_true]
    refine ⟨?_, ih b.t fun i hi => ?_⟩
    · unfold bdB
      simp only [Bool.and_eq_true, decide_eq_true_eq]
      exact ⟨⟨⟨⟨h0.1, h0.2.1⟩, h0.2.2.2.1⟩, bk_of (by omega) (by omega)⟩, bk_of (by omega) (by omega)⟩
    · have h1 := h (i + 1) (by simpa using hi)
      have e1 : bd (b :: l) (i + 1) = bd l i := rfl
      rw [if_neg (by omega), e1] at h1
      cases i with
      | zero => rw [if_pos rfl]; exact h1
      | succ j => rw [if_neg (by omega)]; exact h1
theorem wl_ok {ys : List Bd} {f : Nat → Int} (hf : ∀ i, 0 ≤ f i) (k : Nat) (h : okB ys = true) : okB (wl ys f k) = true := by
  obtain ⟨k0, k1, k2⟩ := okB_spec h
  unfold okB
  rw [wl_len]
  simp only [Bool.and_eq_true, decide_eq_true_eq]
  refine ⟨⟨k0, k1⟩, okF_of (-1) fun i hi => ?_⟩
  rw [wl_len] at hi
  have s := wl_spec (f := f) hf (k := k) hi
  have r := bd_rg k2 i hi
  have q := s.2.2.2.2 ⟨r.2.2.2.1.1, r.2.2.1, r.2.2.2.2.2⟩
  refine ⟨?_, by rw [s.1]; exact r.2.1, q.1, q.2.1, q.2.2⟩
  split
  · rw [s.1]; omega
  · next hi0 =>
    rw [s.1, (wl_spec (f := f) hf (k := k) (show i - 1 < ys.length by omega)).1]
    exact t_lt k2 (i - 1) i (by omega) hi
theorem wl_open {ys : List Bd} {f : Nat → Int} (hf : ∀ i, 0 ≤ f i) (k : Nat) (h : okB ys = true) (ho : drOpen (dk ys ys.length) = true) : drOpen (dk (wl ys f k) (wl ys f k).length) = true := by
  obtain ⟨k0, k1, k2⟩ := okB_spec h
  have hO := (open_iff h ys.length (by omega) (Nat.le_refl _)).1 ho
  rw [open_iff (wl_ok hf k h) _ (by rw [wl_len]; omega) (Nat.le_refl _), wl_len]
  intro i j a b a' b'
  have s0 := wl_spec (f := f) hf (k := k) k0
  have si := wl_spec (f := f) hf (k := k) b
  have sj := wl_spec (f := f) hf (k := k) b'
  have hv : hgB (bd (wl ys f k) 0) = hgB (bd ys 0) := by unfold hgB; rw [s0.2.1]
  have p1 := t_lt k2 0 i (by omega) b
  have p2 := t_lt k2 0 j (by omega) b'
  rw [hv, s0.1, si.1, sj.1]
  have m0 := hO i j a b a' b'
  have m1 := Int.mul_le_mul_of_nonneg_right (show (bd (wl ys f k) i).lo - hgB (bd ys 0) ≤ (bd ys i).lo - hgB (bd ys 0) by omega) (show 0 ≤ (bd ys j).t - (bd ys 0).t by omega)
  have m2 := Int.mul_le_mul_of_nonneg_right (show (bd ys j).hi - hgB (bd ys 0) ≤ (bd (wl ys f k) j).hi - hgB (bd ys 0) by omega) (show 0 ≤ (bd ys i).t - (bd ys 0).t by omega)
  omega

/-- a slice of 16-bit numbers that came in -/
def InU (w : World) (X : Option Addr) (ms : List Int) : Prop :=
  0 < ms.length → ∃ ad, X = some ad ∧ ad.block < w.heap.size ∧ ∀ i (hi : i < ms.length), w.cell? (ad.add i) = some (.int .u16 ms[i]) ∧ 0 ≤ ms[i] ∧ ms[i] < 65536
theorem InU.below {w w' : World} {X : Option Addr} {ms : List Int} (h : InU w X ms) (hb : Below w.heap.size w w') : InU w' X ms := fun h0 => by
  obtain ⟨ad, e, h1, h2⟩ := h h0
  have hc : ∀ j, w'.cell? (ad.add j) = w.cell? (ad.add j) := fun j => hb.cell (p := ad.add j) (by rw [show (ad.add j).block = ad.block by unfold Addr.add; split <;> rfl]; exact h1)
  exact ⟨ad, e, Nat.lt_of_lt_of_le h1 hb.size, fun i hi => ⟨by rw [hc]; exact (h2 i hi).1, (h2 i hi).2⟩⟩

/-- the cells of bands -/
def BC (cur : Array Value) (o : Nat) (l : List Bd) : Prop := ∀ i (hi : i < l.length), cur[o + i * 3]? = some (.int .i64 (bd l i).t) ∧ cur[o + i * 3 + 1]? = some (.int .i64 (bd l i).lo) ∧ cur[o + i * 3 + 2]? = some (.int .i64 (bd l i).hi)
theorem get_set {cur : Array Value} {i j : Nat} {v : Value} {x : Value} (h : cur[i]? = some x) : (cur.setIfInBounds i v)[j]? = if j = i then some v else cur[j]? := by
  have hi : i < cur.size := (Array.getElem?_eq_some_iff.1 h).1
  by_cases e : j = i
  · subst e; simp [hi]
  · rw [if_neg e, Array.getElem?_setIfInBounds_ne (Ne.symm e)]
theorem BC.set_ {cur : Array Value} {o : Nat} {ys : List Bd} {f : Nat → Int} {k : Nat} (h : BC cur o (wl ys f k)) (hk : k < ys.length) {x y : Int}
    (hd : bd (wl ys f (k + 1)) k = ⟨(bd ys k).t, x, y⟩) : BC ((cur.setIfInBounds (o + k * 3 + 1) (.int .i64 x)).setIfInBounds (o + k * 3 + 2) (.int .i64 y)) o (wl ys f (k + 1)) := by
  intro i hi
  rw [wl_len] at hi
  have hk' : k < (wl ys f k).length := by rw [wl_len]; exact hk
  obtain ⟨p1, p2, p3⟩ := h k hk'
  obtain ⟨q1, q2, q3⟩ := h i (by rw [wl_len]; exact hi)
  have p3' : (cur.setIfInBounds (o + k * 3 + 1) (.int .i64 x))[o + k * 3 + 2]? = some (.int .i64 (bd (wl ys f k) k).hi) := by rw [get_set p2, if_neg (by omega)]; exact p3
  rw [get_set p3', get_set p3', get_set p3', get_set p2, get_set p2, get_set p2]
  by_cases e : i = k
  · subst e
    rw [hd]
    rw [if_neg (by omega), if_neg (by omega), if_neg (by omega), if_pos rfl, if_pos rfl, q1]
    rw [wl_bd hi, if_neg (by omega)]
    exact ⟨rfl, rfl, rfl⟩
  · rw [if_neg (by omega), if_neg (by omega), if_neg (by omega), if_neg (by omega), if_neg (by omega), if_neg (by omega), q1, q2, q3]
    rw [wl_bd hi, wl_bd hi]
    by_cases e2 : i < k
    · rw [if_pos e2, if_pos (by omega)]; exact ⟨rfl, rfl, rfl⟩
    · rw [if_neg e2, if_neg (by omega)]; exact ⟨rfl, rfl, rfl⟩
theorem BC.same {cur : Array Value} {o : Nat} {ys : List Bd} {f : Nat → Int} {k : Nat} (h : BC cur o (wl ys f k)) (hk : k < ys.length) (hd : bd (wl ys f (k + 1)) k = bd ys k) : BC cur o (wl ys f (k + 1)) := by
  intro i hi
  rw [wl_len] at hi
  have q := h i (by rw [wl_len]; exact hi)
  have e3 : bd (wl ys f k) i = bd (wl ys f (k + 1)) i := by
    by_cases e : i = k
    · subst e; rw [hd, wl_bd hi, if_neg (by omega)]
    · rw [wl_bd hi, wl_bd hi]
      by_cases e2 : i < k
      · rw [if_pos e2, if_pos (by omega)]
      · rw [if_neg e2, if_neg (by omega)]
  rw [← e3]
  exact q
theorem rowi1 {w : World} {g i : Nat} {cur : Array Value} {t : TypeId} {f : Nat × Nat} (h : w.heap[g]? = some (.cells cur t f)) (v : Value) : w.setCell ⟨g, i, none⟩ v = setRow w g (cur.setIfInBounds i v) := setRow_of_setCell h v rfl

theorem OwnB.br2 {B : Nat} {w : World} {v : Value} {l : List Bd} (h : OwnB B w v l) : ∃ A c, v = .slice A l.length c ∧ BR w A c l ∧ ∀ g o, A = some ⟨g, o, none⟩ → B ≤ g := by
  obtain ⟨A, c, rfl, hr⟩ := h.br
  refine ⟨A, c, rfl, hr, fun g o e => ?_⟩
  subst e
  exact h.lt g rfl

set_option maxRecDepth 100000 in
theorem own_many2 (X : Option Addr) (C n : Nat) (ys : List Bd) (h1 : 260 < n) (hn : n ≤ C) (hy : ys.length = 260) (w : World) (hT : InB w X ys) :
    Calls Try.prog 11 #[.slice X n C] w fun e w' => ∃ A c, e = .returned (.slice A ys.length c) ∧ BR w' A c ys ∧ (∀ g o, A = some ⟨g, o, none⟩ → w.heap.size ≤ g) ∧ Below w.heap.size w w' := by
  have hlen : ([] : List Bd).length + ys.length ≤ 4096 := by simp; omega
  have HE := hide hy
  clear hy
  go_enter Try.func11, Try.ntmps11
  go_wp2_with (at_builtin; refine wpList_pushB rfl _ _ rfl w.heap.size _ [] ys X C rfl (by rw [HE.out]; rfl) (OwnB.fresh w) (hT.below (bA (b0 w) _)) hlen (by simp) ?_; intro v1 w1 ho1 hb1 hs1)
  go_ret
  rw [List.nil_append] at ho1
  obtain ⟨A, c, rfl, hr⟩ := ho1.br2
  exact ⟨A, c, rfl, hr.1, hr.2, hb1 _ (bA (b0 w) _)⟩

set_option maxRecDepth 100000 in
theorem own_few2 (X : Option Addr) (C : Nat) (ys : List Bd) (h1 : ys.length ≤ 260) (hn : ys.length ≤ C) (w : World) (hT : InB w X ys) :
    Calls Try.prog 11 #[.slice X ys.length C] w fun e w' => ∃ A c, e = .returned (.slice A ys.length c) ∧ BR w' A c ys ∧ (∀ g o, A = some ⟨g, o, none⟩ → w.heap.size ≤ g) ∧ Below w.heap.size w w' := by
  have hlen : ([] : List Bd).length + ys.length ≤ 4096 := by simp; omega
  have h2 : (ys.length : Int) ≤ 260 := by omega
  go_enter Try.func11, Try.ntmps11
  go_wp2_with (at_builtin; refine wpList_pushB rfl _ _ rfl w.heap.size _ [] ys X C rfl rfl (OwnB.fresh w) (hT.below (bA (b0 w) _)) hlen (by simp) ?_; intro v1 w1 ho1 hb1 hs1)
  all_goals
    go_ret
    rw [List.nil_append] at ho1
    obtain ⟨A, c, rfl, hr⟩ := ho1.br2
    exact ⟨A, c, rfl, hr.1, hr.2, hb1 _ (bA (b0 w) _)⟩

theorem law9_own2 (X : Option Addr) (C k : Nat) (xs : List Bd) (hk : k = 260) (hn : xs.length ≤ C) (w : World) (hX : InB w X xs) :
    Calls Try.prog 11 #[.slice X xs.length C] w fun e w' => ∃ A c, e = .returned (.slice A (xs.take k).length c) ∧ BR w' A c (xs.take k) ∧ (∀ g o, A = some ⟨g, o, none⟩ → w.heap.size ≤ g) ∧ Below w.heap.size w w' := by
  have hl : (xs.take k).length = min k xs.length := List.length_take
  have hT := hX.take k
  by_cases h1 : k < xs.length
  · exact own_many2 X C xs.length (xs.take k) (by omega) hn (by omega) w hT
  · have e : xs.take k = xs := List.take_of_length_le (by omega)
    rw [e]
    exact own_few2 X C xs (by omega) hn w hX

set_option maxRecDepth 100000 in
set_option maxHeartbeats 2000000 in
theorem wider_1 (X : Option Addr) (C : Nat) (xs ys : List Bd) (Y : Option Addr) (m c' : Nat) (w : World) (e1 : Int) (he : e1 = 180 ∨ e1 = 4)
    (c1 : ∀ w', Below w.heap.size w w' → Calls Try.prog 11 #[.slice X xs.length C] w' fun e w'' => ∃ A c, e = .returned (.slice A ys.length c) ∧ BR w'' A c ys ∧ Below w'.heap.size w' w'')
    (c2 : ∀ A c w, BR w A c ys → Calls Try.prog 12 #[.slice A ys.length c] w fun e w' => e = .returned (.tuple #[.agg #[.int .i64 0, .int .i64 0, .int .i64 0, .int .i64 0], .int .i64 e1]) ∧ Below w.heap.size w w') :
    Calls Try.prog 4 #[.slice X xs.length C, .slice Y m c'] w fun e w' => e = .returned (.bool true) ∧ Below w.heap.size w w' := by
  have hw := wakes9
  go_enter Try.func4, Try.ntmps4
  go_wp2_with fail
  refine (hw _).mono ?_
  rintro e w1 ⟨rfl, hb1⟩
  have hB1 := bB (b0 w) hb1
  go_wp2_with fail
  refine (c1 _ hB1).mono ?_
  rintro e wo ⟨A, c, rfl, hR, hbo⟩
  have hBo := bB hB1 hbo
  clear c1 hw
  go_wp2_with fail
  refine (c2 _ _ _ hR).mono ?_
  rintro e w2 ⟨rfl, hb2⟩
  have hB2 := bB hBo hb2
  rcases he with rfl | rfl
  · go_wp2
    go_ret
    exact ⟨rfl, bA hB2 _⟩
  · go_wp2
    go_ret
    exact ⟨rfl, bA hB2 _⟩

set_option maxRecDepth 100000 in
set_option maxHeartbeats 4000000 in
theorem wider_2 (X : Option Addr) (C : Nat) (xs ys : List Bd) (h0 : 0 < ys.length) (h1 : ys.length ≤ 256) (Y : Option Addr) (c' : Nat) (ms : List Int) (hmc : ms.length ≤ c') (f : Nat → Int) (hf : ∀ i (hi : i < ms.length), f i = ms[i]) (v N D v' N' D' : Int) (hbd : ∀ i, i < ys.length → (-2305844108725321728 ≤ (bd ys i).lo ∧ (bd ys i).lo ≤ (bd ys i).hi ∧ (bd ys i).hi ≤ 2305844108725321728)) (w : World) (hY : InU w Y ms)
    (c1 : ∀ w', Below w.heap.size w w' → Calls Try.prog 11 #[.slice X xs.length C] w' fun e w'' => ∃ A c, e = .returned (.slice A ys.length c) ∧ BR w'' A c ys ∧ (∀ g o, A = some ⟨g, o, none⟩ → w'.heap.size ≤ g) ∧ Below w'.heap.size w' w'')
    (c2 : ∀ A c w, BR w A c ys → Calls Try.prog 12 #[.slice A ys.length c] w fun e w' => e = .returned (.tuple #[.agg #[.int .i64 v, .int .i64 0, .int .i64 N, .int .i64 D], .int .i64 0]) ∧ Below w.heap.size w w')
    (c3 : ∀ k A c w, BR w A c (wl ys f k) → Calls Try.prog 12 #[.slice A ys.length c] w fun e w' => ∃ v N D, e = .returned (.tuple #[.agg #[.int .i64 v, .int .i64 0, .int .i64 N, .int .i64 D], .int .i64 0]) ∧ Below w.heap.size w w')
    (c4 : ∀ A c w, BR w A c ys → Calls Try.prog 19 #[.slice A ys.length c] w fun e w' => ∃ A c, e = .returned (.tuple #[.slice A 1 c, .int .i64 0]) ∧ Below w.heap.size w w')
    (c5 : ∀ k A c w, BR w A c (wl ys f k) → Calls Try.prog 19 #[.slice A ys.length c] w fun e w' => ∃ A c, e = .returned (.tuple #[.slice A 1 c, .int .i64 0]) ∧ Below w.heap.size w w') :
    Calls Try.prog 4 #[.slice X xs.length C, .slice Y ms.length c'] w fun e w' => e = .returned (.bool true) ∧ Below w.heap.size w w' := by
  have hw := wakes9
  have HF := hide hf
  have HB := hide hbd
  clear hf hbd
  go_enter Try.func4, Try.ntmps4
  go_wp2_with fail
  refine (hw _).mono ?_
  rintro e w1 ⟨rfl, hb1⟩
  have hB1 := bB (b0 w) hb1
  go_wp2_with fail
  refine (c1 _ hB1).mono ?_
  rintro e wo ⟨A, c, rfl, hR, -, hbo⟩
  have hBo := bB hB1 hbo
  clear hw
  go_wp2_with fail
  refine (c2 _ _ _ hR).mono ?_
  rintro e w2 ⟨rfl, hb2⟩
  have hB2 := bB hBo hb2
  have hRl := hide (hR.below (bA hb2 (.cells #[.int .i64 v, .int .i64 0, .int .i64 N, .int .i64 D] 23)))
  go_wp2_with fail
  refine (c1 _ (bA hB2 _)).mono ?_
  rintro e wp ⟨A2, c2', rfl, hR2, hfr, hbp⟩
  have hBp := bB (bA hB2 (.cells #[.int .i64 v, .int .i64 0, .int .i64 N, .int .i64 D] 23)) hbp
  have hRl2 := hide (hRl.out.below hbp)
  obtain ⟨g, o, cur, rfl, hg, hc⟩ := hR2.mem h0
  have hgw := hfr g o rfl
  have hBC : BC cur o (wl ys f 0) := by
    rw [wl_zero]
    intro i hi
    have := hc i hi
    rw [bd_eq hi] at this
    exact this
  have hcap := hR2.cap
  have htop := hR2.top
  have hgs : w.heap.size ≤ g := by
    have := (bA hB2 (.cells #[.int .i64 v, .int .i64 0, .int .i64 N, .int .i64 D] 23)).size
    omega
  have HG := hide hgw
  have HCT := hide (And.intro hcap htop)
  clear c1 hR hbo hc hfr hR2 hcap htop hgw
  go_wp2_with fail
  go_loopw [39] (fun vi wr => ∃ (k : Nat) (cur' : Array Value), vi = .int .i64 k ∧ k ≤ ms.length ∧ k ≤ ys.length ∧ wr.heap[g]? = some (.cells cur' 38 (0, 0)) ∧ Hid (BC cur' o (wl ys f k)) ∧ Exc g wp wr) (fun vi _ => ms.length - (intOf vi).toNat)
  case atStart => exact ⟨0, cur, rfl, by omega, by omega, hg, hide hBC, x0 g wp (Nat.le_of_lt (rcell hg).2.2)⟩
  case round =>
    obtain ⟨k, cur', rfl, hk, hk2, hg', hbc, hx⟩ := hrel
    have hBr := bX hBp hx hgs
    by_cases hlt : k < ms.length
    · obtain ⟨ad, rfl, hadb, hall⟩ := (hY.below hBr) (by omega)
      obtain ⟨a1, a2, a3⟩ := hall k hlt
      clear hall
      have hfk := HF.out k hlt
      rw [← hfk] at a1 a2 a3
      have HFK := hide hfk
      clear hfk
      generalize hm0 : f k = m at a1 a2 a3
      have HM := hide hm0
      clear hm0
      by_cases he : k = ys.length
      · have n1 : ((k : Int) == (ys.length : Int)) = true := by rw [beq_iff_eq]; omega
        have hlt' : (k : Int) < (ms.length : Int) := by omega
        have HBC : Hid (BC cur' o (wl ys f ys.length)) := by rw [← he]; exact hbc
        clear he hbc
        go_wp2_with fail
        have hRz : BR wr (some ⟨g, o, none⟩) c2' (wl ys f ys.length) := ⟨by rw [wl_len]; exact HCT.out.1, HCT.out.2, fun _ => ⟨g, o, cur', rfl, hg', fun i hi => by rw [bd_eq hi]; exact HBC.out i hi⟩⟩
        have hRv := hRl.out.below (hbp.trans (hx.low.mono HG.out))
        clear hRl hRl2 HBC
        refine (c3 _ _ _ _ hRz).mono ?_
        rintro e w5 ⟨v5, N5, D5, rfl, hb5⟩
        have hB5 := bB hBr hb5
        go_wp2_with fail
        refine (c4 _ _ _ (hRv.below (bA hb5 _))).mono ?_
        rintro e w6 ⟨A6, c6, rfl, hb6⟩
        go_wp2_with fail
        refine (c5 _ _ _ _ (hRz.below (bB (bA hb5 _) hb6))).mono ?_
        rintro e w7 ⟨A7, c7, rfl, hb7⟩
        go_wp2
        go_ret
        exact ⟨rfl, bB (bB (bA hB5 _) hb6) hb7⟩
      · have n1 : ((k : Int) == (ys.length : Int)) = false := by rw [beq_eq_false_iff_ne]; omega
        have hlt2 : k < ys.length := by omega
        obtain ⟨q1, q2, q3⟩ := hbc.out k (by rw [wl_len]; exact hlt2)
        rw [wl_bd hlt2, if_neg (Nat.lt_irrefl _)] at q1 q2 q3
        have HBD := HB.out k hlt2
        obtain ⟨zg, zgf, lg⟩ := rcell hg'
        generalize hb0 : bd ys k = b at *
        have HB0 := hide hb0
        clear hb0 he
        obtain ⟨bt, bl, bh⟩ := b
        simp only at q1 q2 q3 HBD
        obtain ⟨u1, u2, u3⟩ := HBD
        cases p1 : decide (-2305844108725321728 + m ≤ bl)
        · have hsame : bd (wl ys f (k + 1)) k = bd ys k := by
            rw [wl_bd hlt2, if_pos (by omega), HB0.out, HM.out]
            unfold wd
            rw [if_neg (by have := of_decide_eq_false p1; dsimp only; omega)]
          have HBC := hide (hbc.out.same hlt2 hsame)
          clear hsame
          go_wp2
          go_roundw
          case rel => exact ⟨k + 1, cur', by go_num, by omega, by omega, hg', HBC, hx⟩
          case measure => simp [intOf]; omega
        · cases p2 : decide (bh ≤ 2305844108725321728 - m)
          · have hsame : bd (wl ys f (k + 1)) k = bd ys k := by
              rw [wl_bd hlt2, if_pos (by omega), HB0.out, HM.out]
              unfold wd
              rw [if_neg (by have := of_decide_eq_false p2; dsimp only; omega)]
            have HBC := hide (hbc.out.same hlt2 hsame)
            clear hsame
            go_wp2
            go_roundw
            case rel => exact ⟨k + 1, cur', by go_num, by omega, by omega, hg', HBC, hx⟩
            case measure => simp [intOf]; omega
          · have hsame : bd (wl ys f (k + 1)) k = ⟨(bd ys k).t, bl - m, bh + m⟩ := by
              rw [wl_bd hlt2, if_pos (by omega), HB0.out, HM.out]
              unfold wd
              rw [if_pos (by have := of_decide_eq_true p1; have := of_decide_eq_true p2; dsimp only; omega)]
            have HBC := hide (hbc.out.set_ hlt2 hsame)
            clear hsame
            have b1 := of_decide_eq_true p1
            have b2 := of_decide_eq_true p2
            go_wp2_with fail
            obtain ⟨zg_a, zg_b, lg1⟩ := rcell hg'
            refine Abs.wp_region_abs (Abs.cls0 _) [0, 1, 2, 3, 4, 5, 6, 7, 8, 9, 10, 11, 12, 13, 14, 15, 16, 17, 18, 19, 20, 21] (by kernel_rfl) (by kernel_rfl) (Below.refl _ _).drew ?_
            repeat (first | (refine Abs.step_pure rfl rfl (fun K hK => ?_); go_simp; (try go_bits); (first | refine hK _ _ ?_ | (simp only [↓IntWalk.iteOmega]; go_simp; (try go_bits); refine hK _ _ ?_)); clear hK K) | (refine Abs.step_load (v := ?_) rfl rfl (by kernel_rfl) rfl (fun w0 hI => ?_) (fun K hK => ?_); rotate_left; (· have z0 := (rcell (kp hI (hg'))).1; go_simp; rfl); (simp only [Act.put, List.setIfInBounds_toArray, List.set_cons_zero, List.set_cons_succ]; refine hK _ _ ?_; clear hK K)) | (refine Abs.step_skip rfl rfl (fun K hK => ?_); (simp only [Act.put, List.setIfInBounds_toArray, List.set_cons_zero, List.set_cons_succ]; refine hK _ _ ?_; clear hK K)))
            (refine Abs.step_store (T := ?_) rfl rfl rfl (fun w0 hI hF hU => ?_) (fun _ _ _ _ => trivial) (fun K hK => ?_); rotate_left; (· have hR := kp hI hg'; have hg0 := (rcell hR).1; have hg1 := (rcell hR).2.1; simp only [Abs.T_setF, Abs.T_addA, Abs.T_push, Abs.T_start]; go_simp; exact rowi1 hR _); (simp only [Act.put, List.setIfInBounds_toArray, List.set_cons_zero, List.set_cons_succ]; refine hK _ _ ?_; clear hK K))
            repeat (first | (refine Abs.step_pure rfl rfl (fun K hK => ?_); go_simp; (try go_bits); (first | refine hK _ _ ?_ | (simp only [↓IntWalk.iteOmega]; go_simp; (try go_bits); refine hK _ _ ?_)); clear hK K) | (refine Abs.step_load (v := ?_) rfl rfl (by kernel_rfl) rfl (fun w0 hI => ?_) (fun K hK => ?_); rotate_left; (· have z0 := (rcell (kp hI (hg'))).1; go_simp; rfl); (simp only [Act.put, List.setIfInBounds_toArray, List.set_cons_zero, List.set_cons_succ]; refine hK _ _ ?_; clear hK K)) | (refine Abs.step_skip rfl rfl (fun K hK => ?_); (simp only [Act.put, List.setIfInBounds_toArray, List.set_cons_zero, List.set_cons_succ]; refine hK _ _ ?_; clear hK K)))
            (refine Abs.step_store (T := ?_) rfl rfl rfl (fun w0 hI hF hU => ?_) (fun _ _ _ _ => trivial) (fun K hK => ?_); rotate_left; (· have hR := fun cs => setRow_same (cs' := cs) (kp hI hg'); have hg0 := fun cs => (rcell (hR cs)).1; have hg1 := fun cs => (rcell (hR cs)).2.1; simp only [Abs.T_setF, Abs.T_addA, Abs.T_push, Abs.T_start]; go_simp; exact rowi1 (hR _) _); (simp only [Act.put, List.setIfInBounds_toArray, List.set_cons_zero, List.set_cons_succ]; refine hK _ _ ?_; clear hK K))
            intro w0 hI hF hx1 hx2
            clear hx1 hx2 hF
            simp only [Abs.T_push, setRow_setRow]
            generalize hT5 : setRow w0 _ _ = w5
            obtain ⟨hx5, hg5⟩ := fin_x hI hg' hT5
            have hx6 := hx.trans hx5
            go_wp2
            go_roundw
            case rel => exact ⟨k + 1, _, by go_num, by omega, by omega, hg5, HBC, hx6⟩
            case measure => simp [intOf]; omega
    · have HBC := hbc
      clear hbc
      go_wp2_with fail
      have hRz : BR wr (some ⟨g, o, none⟩) c2' (wl ys f k) := ⟨by rw [wl_len]; exact HCT.out.1, HCT.out.2, fun _ => ⟨g, o, cur', rfl, hg', fun i hi => by rw [bd_eq hi]; exact HBC.out i hi⟩⟩
      have hRv := hRl.out.below (hbp.trans (hx.low.mono HG.out))
      clear hRl hRl2 HBC
      refine (c3 _ _ _ _ hRz).mono ?_
      rintro e w5 ⟨v5, N5, D5, rfl, hb5⟩
      have hB5 := bB hBr hb5
      go_wp2_with fail
      refine (c4 _ _ _ (hRv.below (bA hb5 _))).mono ?_
      rintro e w6 ⟨A6, c6, rfl, hb6⟩
      go_wp2_with fail
      refine (c5 _ _ _ _ (hRz.below (bB (bA hb5 _) hb6))).mono ?_
      rintro e w7 ⟨A7, c7, rfl, hb7⟩
      go_wp2
      go_ret
      exact ⟨rfl, bB (bB (bA hB5 _) hb6) hb7⟩

theorem cut_one (l : List Bd) (n : Nat) (hn : l.length = n) (h : okB l = true) (ho : drOpen (dk l l.length) = true) (A : Option Addr) (c : Nat) (w : World) (hR : BR w A c l) :
    Calls Try.prog 19 #[.slice A n c] w fun e w' => ∃ A c, e = .returned (.tuple #[.slice A 1 c, .int .i64 0]) ∧ Below w.heap.size w w' := by
  have := swing_Cut_yes A c l h w hR
  rw [cuts_one h ho, hn] at this
  exact this.mono fun e w' ⟨A', c', he, _, hb⟩ => ⟨A', c', he, hb⟩

theorem swing_wider (X : Option Addr) (C : Nat) (xs : List Bd) (hn : xs.length ≤ C) (Y : Option Addr) (c' : Nat) (ms : List Int) (hmc : ms.length ≤ c') (w : World) (hX : InB w X xs) (hY : InU w Y ms) :
    Calls Try.prog 4 #[.slice X xs.length C, .slice Y ms.length c'] w fun e w' => e = .returned (.bool true) ∧ Below w.heap.size w w' := by
  have c1 := fun w' (hb : Below w.heap.size w w') => law9_own2 X C 260 xs rfl hn w' (hX.below hb)
  generalize xs.take 260 = ys at *
  have c1' : ∀ w', Below w.heap.size w w' → Calls Try.prog 11 #[.slice X xs.length C] w' fun e w'' => ∃ A c, e = .returned (.slice A ys.length c) ∧ BR w'' A c ys ∧ Below w'.heap.size w' w'' :=
    fun w' hb => (c1 w' hb).mono fun e w'' ⟨A, c, h1, h2, _, h3⟩ => ⟨A, c, h1, h2, h3⟩
  cases h : okB ys
  · exact wider_1 X C xs ys Y _ c' w 180 (.inl rfl) c1' (fun A c w hR => swing_Fit_no A c ys h w hR)
  · obtain ⟨k0, k1, k2⟩ := okB_spec h
    cases ho : drOpen (dk ys ys.length)
    · exact wider_1 X C xs ys Y _ c' w 4 (.inr rfl) c1' (fun A c w hR => swing_Fit_shut A c ys h ho w hR)
    · have hf0 : ∀ i, 0 ≤ (fun i => max (ms.getD i 0) 0) i := fun i => by dsimp only; omega
      refine wider_2 X C xs ys k0 k1 Y c' ms hmc (fun i => max (ms.getD i 0) 0) (fun i hi => ?_) _ _ _ 0 0 0 (fun i hi => ?_) w hY c1 (fun A c w hR => swing_Fit_yes A c ys h ho w hR) (fun k A c w hR => ?_) (cut_one ys _ rfl h ho) (fun k => cut_one _ _ (wl_len _ _ _) (wl_ok hf0 k h) (wl_open hf0 k h ho))
      · obtain ⟨ad, _, _, hall⟩ := hY (by omega)
        have := (hall i hi).2
        show max (ms.getD i 0) 0 = ms[i]
        rw [show ms.getD i 0 = ms[i] by simp [hi]]
        omega
      · have r := bd_rg k2 i hi
        exact ⟨r.2.2.2.1.1, r.2.2.1, r.2.2.2.2.2⟩
      · have := swing_Fit_yes A c _ (wl_ok hf0 k h) (wl_open hf0 k h ho) w hR
        rw [wl_len] at this
        exact this.mono fun e w' ⟨he, hb⟩ => ⟨_, _, _, he, hb⟩
end Go.Proofs.Ytfdaabdibpcjeaa
