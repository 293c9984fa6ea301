/- Bands that come in, and a row of one's own of them; yearbooklaw09.own at this program. -/
import Derived.Test.YtfdaabdibpcjeaaEqual
set_option linter.unusedSimpArgs false
set_option linter.unusedVariables false
namespace Go.Proofs.Ytfdaabdibpcjeaa
open Go.RowKit

def bvals : List Bd → List Value
  | [] => []
  | b :: l => .int .i64 b.t :: .int .i64 b.lo :: .int .i64 b.hi :: bvals l
theorem bvals_len (l : List Bd) : (bvals l).length = l.length * 3 := by
  induction l with
  | nil => rfl
  | cons b l ih => simp [bvals, ih]; omega
theorem bvals_append (l m : List Bd) : bvals (l ++ m) = bvals l ++ bvals m := by
  induction l with
  | nil => rfl
  | cons b l ih => simp [bvals, ih]
theorem bvals_get : ∀ (l : List Bd) (i : Nat) (hi : i < l.length), (bvals l)[i * 3]? = some (.int .i64 l[i].t) ∧ (bvals l)[i * 3 + 1]? = some (.int .i64 l[i].lo) ∧ (bvals l)[i * 3 + 2]? = some (.int .i64 l[i].hi)
  | b :: l, 0, _ => ⟨rfl, rfl, rfl⟩
  | b :: l, i + 1, hi => by
    have := bvals_get l i (by simpa using hi)
    rw [show (i + 1) * 3 = i * 3 + 3 by omega]
    exact this
theorem bvals_one (l : List Bd) : ∀ u ∈ bvals l, u.oneCell' = true := by
  induction l with
  | nil => intro u h; cases h
  | cons b l ih =>
    intro u h
    simp only [bvals, List.mem_cons] at h
    rcases h with rfl | rfl | rfl | h
    · rfl
    · rfl
    · rfl
    · exact ih u h

/-- a slice of bands that came in, or lies somewhere -/
def InB (w : World) (X : Option Addr) (xs : List Bd) : Prop :=
  0 < xs.length → ∃ ad, X = some ad ∧ ad.block < w.heap.size ∧ ∀ i (hi : i < xs.length), w.cell? (ad.add (i * 3)) = some (.int .i64 xs[i].t) ∧ w.cell? (ad.add (i * 3 + 1)) = some (.int .i64 xs[i].lo) ∧ w.cell? (ad.add (i * 3 + 2)) = some (.int .i64 xs[i].hi)
theorem InB.below {w w' : World} {X : Option Addr} {xs : List Bd} (h : InB w X xs) (hb : Below w.heap.size w w') : InB w' X xs := fun h0 => by
  obtain ⟨ad, e, h1, h2⟩ := h h0
  have hc : ∀ j, w'.cell? (ad.add j) = w.cell? (ad.add j) := fun j => hb.cell (p := ad.add j) (by rw [show (ad.add j).block = ad.block by unfold Addr.add; split <;> rfl]; exact h1)
  exact ⟨ad, e, Nat.lt_of_lt_of_le h1 hb.size, fun i hi => by rw [hc, hc, hc]; exact h2 i hi⟩
theorem InB.take {w : World} {X : Option Addr} {xs : List Bd} (h : InB w X xs) (k : Nat) : InB w X (xs.take k) := fun h0 => by
  rw [List.length_take] at h0
  obtain ⟨ad, e, h1, h2⟩ := h (by omega)
  refine ⟨ad, e, h1, fun i hi => ?_⟩
  rw [List.length_take] at hi
  have := h2 i (by omega)
  simpa using this
theorem InB.flat {w : World} {ad : Addr} {xs : List Bd} (h : InB w (some ad) xs) : ∀ j u, (bvals xs)[j]? = some u → w.cell? (ad.add j) = some u := by
  intro j u hu
  have hj : j < xs.length * 3 := by rw [← bvals_len]; exact (List.getElem?_eq_some_iff.1 hu).1
  obtain ⟨ad', e, -, h2⟩ := h (by omega)
  obtain rfl : ad = ad' := Option.some.inj e
  obtain ⟨q1, q2, q3⟩ := h2 (j / 3) (by omega)
  obtain ⟨p1, p2, p3⟩ := bvals_get xs (j / 3) (by omega)
  have hm : j % 3 = 0 ∨ j % 3 = 1 ∨ j % 3 = 2 := by omega
  rcases hm with hm | hm | hm
  · have e : j / 3 * 3 = j := by omega
    rw [e] at p1 q1
    rw [q1, ← p1, hu]
  · have e : j / 3 * 3 + 1 = j := by omega
    rw [e] at p2 q2
    rw [q2, ← p2, hu]
  · have e : j / 3 * 3 + 2 = j := by omega
    rw [e] at p3 q3
    rw [q3, ← p3, hu]

/-- a row of bands of the call's own -/
def OwnB (B : Nat) (w : World) (v : Value) (l : List Bd) : Prop := w.ownsRow B 38 3 v l.length (bvals l)
theorem OwnB.br {B : Nat} {w : World} {v : Value} {l : List Bd} (h : OwnB B w v l) : ∃ A c, v = .slice A l.length c ∧ BR w A c l := by
  obtain ⟨h1, ⟨rfl, h2⟩ | ⟨g, cap, cur, rfl, hb, hg, hn, hm, hs, ht⟩⟩ := h
  · exact ⟨none, 0, by rw [h2], by omega, by omega, fun hl => by omega⟩
  · refine ⟨some ⟨g, 0, none⟩, cap, rfl, hn, by unfold maxLen at hm; omega, fun hl => ⟨g, 0, cur, rfl, hg, fun i hi => ?_⟩⟩
    have hk : ∀ j, j < l.length * 3 → cur[j]? = (bvals l)[j]? := fun j hj => by
      rw [← ht, List.getElem?_take, if_pos hj]
      simp
    have := bvals_get l i hi
    rw [Nat.zero_add, hk _ (by omega), hk _ (by omega), hk _ (by omega)]
    exact this
theorem OwnB.lift {B : Nat} {w w' : World} {v : Value} {l : List Bd} (h : OwnB B w v l) (hb : Below w.heap.size w w') : OwnB B w' v l := by
  obtain ⟨h1, h2⟩ := h
  refine ⟨h1, ?_⟩
  rcases h2 with h2 | ⟨g, cap, cur, h3, h4, h5, h6⟩
  · exact .inl h2
  · exact .inr ⟨g, cap, cur, h3, h4, (hb.block g (Array.getElem?_eq_some_iff.1 h5).1).trans h5, h6⟩
theorem OwnB.lt {B : Nat} {w : World} {v : Value} {l : List Bd} (h : OwnB B w v l) : ∀ k, v.ownBlock = some k → B ≤ k := fun k hk => (World.ownsRow.lt h k hk).1
theorem OwnB.fresh (w : World) : OwnB w.heap.size (w.alloc (.cells #[] 38)) (.slice (some ⟨w.heap.size, 0, none⟩) 0 0) [] :=
  ⟨rfl, .inr ⟨w.heap.size, 0, _, rfl, Nat.le_refl _, na w _ _, Nat.le_refl _, by decide, rfl, rfl⟩⟩
theorem OwnB.nil (B : Nat) (w : World) : OwnB B w (.slice none 0 0) [] := World.ownsRow_nil w B _ 3

theorem band_info : (Try.prog.info? 38).map (fun i => (i.zero, i.size, i.bytes)) = some (some (.agg #[.int .i64 0, .int .i64 0, .int .i64 0]), 3, 24) := by kernel_rfl

set_option maxRecDepth 100000 in
theorem pushB_run (w : World) (ty : TypeId) {B : Nat} {v : Value} {l m : List Bd} {A : Option Addr} {c : Nat} (hown : OwnB B w v l) (hr : InB w A m) (hlen : l.length + m.length ≤ 4096) (hB : B ≤ w.heap.size) :
    ∃ v' w', (Builtin.append_ #[24, 24] ty #[v, .slice A m.length c]).run Try.prog w = .ok v' w' ∧ OwnB B w' v' (l ++ m) ∧ w.grownBy w' v.ownBlock := by
  obtain ⟨i0, hi0, hz0, hz1, hz2⟩ := info_parts band_info
  rcases A with _ | ad
  · have hm : m = [] := by
      by_cases h0 : 0 < m.length
      · obtain ⟨ad, e, _⟩ := hr h0
        cases e
      · exact List.eq_nil_of_length_eq_zero (by omega)
    subst hm
    refine ⟨v, w, ?_, by simpa using hown, World.grownBy.refl w _⟩
    rcases hown.2 with ⟨rfl, _⟩ | ⟨g, cap, cur, rfl, _, _, hn, _⟩
    · simp [Builtin.append_, run_underlying Try.underlying24, sizeOf, typeInfo, hi0, Builtin.lenOf, Builtin.firstCells]
    · simp [Builtin.append_, run_underlying Try.underlying24, sizeOf, typeInfo, hi0, Builtin.lenOf, Builtin.firstCells, hn, storeCells]
  · obtain ⟨v', w', hrun, h2, h3, _, _⟩ := run_append_own_at (P := Try.prog) w B 24 ty 38 i0 (.agg #[.int .i64 0, .int .i64 0, .int .i64 0]) 3 24 Try.underlying24 hi0 hz0 hz1 hz2 rfl (by decide) v l.length (bvals l) hown ad m.length c (bvals m) (bvals_len m) hr.flat
      (bvals_one m) (by simp only [maxLen]; omega) (by omega) hB
    refine ⟨v', w', hrun, ?_, h3⟩
    unfold OwnB
    rw [List.length_append, bvals_append]
    exact h2

set_option maxRecDepth 100000 in
theorem wpList_pushB {ops : Array Oper} {rest : List Oper} {o : Oper} {a : Act} {w : World} {Q : Exit → Act → World → Prop} (hgd : o.guard = none) (s x : Operand)
    (ho : o.op = .call { callee := .builtin .append, args := #[s, x], argTypes := #[24, 24] }) (B : Nat) (v : Value) (l m : List Bd) (A : Option Addr) (c : Nat)
    (hs : a.eval s = v) (hx : a.eval x = .slice A m.length c) (hown : OwnB B w v l) (hr : InB w A m) (hlen : l.length + m.length ≤ 4096) (hB : B ≤ w.heap.size)
    (h : ∀ v' w', OwnB B w' v' (l ++ m) → (∀ w0 : World, Below B w0 w → Below B w0 w') → w.heap.size ≤ w'.heap.size → wpList Try.prog ops Q rest (a.put o.dst v') w') : wpList Try.prog ops Q (o :: rest) a w := by
  obtain ⟨v', w', hrun, h2, h3⟩ := pushB_run w o.type hown hr hlen hB
  refine wpList_plain hgd fun _ hK => ?_
  unfold Oper.wp execOp
  simp only [ho, resolve, invoke, builtin, Sem.run_bind, Sem.run_pure, Result.andThen_ok, List.map_toArray, List.map_cons, List.map_nil, hs, hx]
  rw [hrun]
  exact hK _ _ (h v' w' h2 (fun w0 hb => hb.grown h3 hB hown.lt) h3.size)

set_option maxRecDepth 100000 in
theorem own_many (X : Option Addr) (C n : Nat) (ys : List Bd) (h1 : 260 < n) (hn : n ≤ C) (hy : ys.length = 260) (w : World) (hT : InB w X ys) :
    Calls Try.prog 11 #[.slice X n C] w fun e w' => ∃ A c, e = .returned (.slice A ys.length c) ∧ BR w' A c ys ∧ Below w.heap.size w w' := by
  have hlen : ([] : List Bd).length + ys.length ≤ 4096 := by simp; omega
  have HE := hide hy
  clear hy
  go_enter Try.func11, Try.ntmps11
  go_wp2_with (at_builtin; refine wpList_pushB rfl _ _ rfl w.heap.size _ [] ys X C rfl (by rw [HE.out]; rfl) (OwnB.fresh w) (hT.below (bA (b0 w) _)) hlen (by simp) ?_; intro v1 w1 ho1 hb1 hs1)
  go_ret
  rw [List.nil_append] at ho1
  obtain ⟨A, c, rfl, hr⟩ := ho1.br
  exact ⟨A, c, rfl, hr, hb1 _ (bA (b0 w) _)⟩

set_option maxRecDepth 100000 in
theorem own_few (X : Option Addr) (C : Nat) (ys : List Bd) (h1 : ys.length ≤ 260) (hn : ys.length ≤ C) (w : World) (hT : InB w X ys) :
    Calls Try.prog 11 #[.slice X ys.length C] w fun e w' => ∃ A c, e = .returned (.slice A ys.length c) ∧ BR w' A c ys ∧ Below w.heap.size w w' := by
  have hlen : ([] : List Bd).length + ys.length ≤ 4096 := by simp; omega
  have h2 : (ys.length : Int) ≤ 260 := by omega
  go_enter Try.func11, Try.ntmps11
  go_wp2_with (at_builtin; refine wpList_pushB rfl _ _ rfl w.heap.size _ [] ys X C rfl rfl (OwnB.fresh w) (hT.below (bA (b0 w) _)) hlen (by simp) ?_; intro v1 w1 ho1 hb1 hs1)
  all_goals
    go_ret
    rw [List.nil_append] at ho1
    obtain ⟨A, c, rfl, hr⟩ := ho1.br
    exact ⟨A, c, rfl, hr, hb1 _ (bA (b0 w) _)⟩

theorem law9_own (X : Option Addr) (C k : Nat) (xs : List Bd) (hk : k = 260) (hn : xs.length ≤ C) (w : World) (hX : InB w X xs) :
    Calls Try.prog 11 #[.slice X xs.length C] w fun e w' => ∃ A c, e = .returned (.slice A (xs.take k).length c) ∧ BR w' A c (xs.take k) ∧ Below w.heap.size w w' := by
  have hl : (xs.take k).length = min k xs.length := List.length_take
  have hT := hX.take k
  by_cases h1 : k < xs.length
  · exact own_many X C xs.length (xs.take k) (by omega) hn (by omega) w hT
  · have e : xs.take k = xs := List.take_of_length_le (by omega)
    rw [e]
    exact own_few X C xs (by omega) hn w hX
end Go.Proofs.Ytfdaabdibpcjeaa
