/- Rows of lines of the program's own. -/
import Derived.Test.YtfdaabdibpcjeaaPA
set_option linter.unusedSimpArgs false
set_option linter.unusedVariables false
namespace Go.Proofs.Ytfdaabdibpcjeaa
open Go.RowKit

/-- a line -/
structure Ln where
  (x y n d : Int)
def Ln.cs (b : Ln) : Array Value := #[.int .i64 b.x, .int .i64 b.y, .int .i64 b.n, .int .i64 b.d]
def lvals : List Ln → List Value
  | [] => []
  | b :: l => .int .i64 b.x :: .int .i64 b.y :: .int .i64 b.n :: .int .i64 b.d :: lvals l
theorem lvals_len (l : List Ln) : (lvals l).length = l.length * 4 := by
  induction l with
  | nil => rfl
  | cons b l ih => simp only [lvals, List.length_cons, ih]; omega
theorem lvals_append (l m : List Ln) : lvals (l ++ m) = lvals l ++ lvals m := by
  induction l with
  | nil => rfl
  | cons b l ih => simp only [lvals, List.cons_append, ih]
theorem lvals_get : ∀ (l : List Ln) (i : Nat) (hi : i < l.length), (lvals l)[i * 4]? = some (.int .i64 l[i].x) ∧ (lvals l)[i * 4 + 1]? = some (.int .i64 l[i].y) ∧ (lvals l)[i * 4 + 2]? = some (.int .i64 l[i].n) ∧ (lvals l)[i * 4 + 3]? = some (.int .i64 l[i].d)
  | b :: l, 0, _ => ⟨rfl, rfl, rfl, rfl⟩
  | b :: l, i + 1, h => by
    have := lvals_get l i (by simp at h; omega)
    rw [show (i + 1) * 4 = i * 4 + 1 + 1 + 1 + 1 by omega]
    simpa [lvals] using this
theorem lvals_one (l : List Ln) : ∀ u ∈ lvals l, u.oneCell' = true := by
  induction l with
  | nil => intro u h; cases h
  | cons b l ih =>
    intro u h
    simp only [lvals, List.mem_cons] at h
    rcases h with rfl | rfl | rfl | rfl | h
    · rfl
    · rfl
    · rfl
    · rfl
    · exact ih u h

/-- a slice of lines, from its block's first cell on -/
def LR (w : World) (A : Option Addr) (c : Nat) (l : List Ln) : Prop :=
  l.length ≤ c ∧ c ≤ 9223372036854775807 ∧ (0 < l.length → ∃ g cur, A = some ⟨g, 0, none⟩ ∧ w.heap[g]? = some (.cells cur 23 (0, 0)) ∧ ∀ i (hi : i < l.length), cur[i * 4]? = some (.int .i64 l[i].x) ∧ cur[i * 4 + 1]? = some (.int .i64 l[i].y) ∧ cur[i * 4 + 2]? = some (.int .i64 l[i].n) ∧ cur[i * 4 + 3]? = some (.int .i64 l[i].d))
theorem LR.below {w w' : World} {A : Option Addr} {c : Nat} {l : List Ln} (h : LR w A c l) (hb : Below w.heap.size w w') : LR w' A c l :=
  ⟨h.1, h.2.1, fun h0 => by
    obtain ⟨g, cur, e, h1, h2⟩ := h.2.2 h0
    exact ⟨g, cur, e, (hb.block g (Array.getElem?_eq_some_iff.1 h1).1).trans h1, h2⟩⟩

/-- a row of lines of the call's own -/
def OwnL (B : Nat) (w : World) (v : Value) (l : List Ln) : Prop := w.ownsRow B 23 4 v l.length (lvals l)
theorem OwnL.lr {B : Nat} {w : World} {v : Value} {l : List Ln} (h : OwnL B w v l) : ∃ A c, v = .slice A l.length c ∧ LR w A c l := by
  obtain ⟨h1, ⟨rfl, h2⟩ | ⟨g, cap, cur, rfl, hb, hg, hn, hm, hs, ht⟩⟩ := h
  · exact ⟨none, 0, by rw [h2], by omega, by omega, fun hl => by omega⟩
  · refine ⟨some ⟨g, 0, none⟩, cap, rfl, hn, by unfold maxLen at hm; omega, fun hl => ⟨g, cur, rfl, hg, fun i hi => ?_⟩⟩
    have hk : ∀ j, j < l.length * 4 → cur[j]? = (lvals l)[j]? := fun j hj => by
      rw [← ht, List.getElem?_take, if_pos hj]
      simp
    have := lvals_get l i hi
    rw [hk _ (by omega), hk _ (by omega), hk _ (by omega), hk _ (by omega)]
    exact this
theorem OwnL.lift {B : Nat} {w w' : World} {v : Value} {l : List Ln} (h : OwnL B w v l) (hb : Below w.heap.size w w') : OwnL B w' v l := by
  obtain ⟨h1, h2⟩ := h
  refine ⟨h1, ?_⟩
  rcases h2 with h2 | ⟨g, cap, cur, h3, h4, h5, h6⟩
  · exact .inl h2
  · exact .inr ⟨g, cap, cur, h3, h4, (hb.block g (Array.getElem?_eq_some_iff.1 h5).1).trans h5, h6⟩
theorem OwnL.lt {B : Nat} {w : World} {v : Value} {l : List Ln} (h : OwnL B w v l) : ∀ k, v.ownBlock = some k → B ≤ k := fun k hk => (World.ownsRow.lt h k hk).1
theorem OwnL.nil (B : Nat) (w : World) : OwnL B w (.slice none 0 0) [] := World.ownsRow_nil w B _ 4

theorem line_info : (Try.prog.info? 23).map (fun i => (i.zero, i.size, i.bytes)) = some (some (.agg #[.int .i64 0, .int .i64 0, .int .i64 0, .int .i64 0]), 4, 32) := by kernel_rfl

set_option maxRecDepth 100000 in
theorem pushL_run (w : World) (ty : TypeId) {B : Nat} {v : Value} {l : List Ln} {b : Ln} {g c : Nat} (hown : OwnL B w v l) (hg : w.heap[g]? = some (.cells b.cs 23 (0, 0))) (hlen : l.length + 1 ≤ 4096) (hB : B ≤ w.heap.size) :
    ∃ v' w', (Builtin.append_ #[43, 43] ty #[v, .slice (some ⟨g, 0, none⟩) 1 c]).run Try.prog w = .ok v' w' ∧ OwnL B w' v' (l ++ [b]) ∧ w.grownBy w' v.ownBlock := by
  obtain ⟨i0, hi0, hz0, hz1, hz2⟩ := info_parts line_info
  have hflat : ∀ j u, (lvals [b])[j]? = some u → w.cell? ((⟨g, 0, none⟩ : Addr).add j) = some u := fun j u hu => by
    rw [add_off, (rcell hg).1, ← hu, ← Array.getElem?_toList]
    rfl
  obtain ⟨v', w', hrun, h2, h3, _, _⟩ := run_append_own_at (P := Try.prog) w B 43 ty 23 i0 (.agg #[.int .i64 0, .int .i64 0, .int .i64 0, .int .i64 0]) 4 32 Try.underlying43 hi0 hz0 hz1 hz2 rfl (by decide) v l.length (lvals l) hown ⟨g, 0, none⟩ 1 c (lvals [b]) (lvals_len [b]) hflat
    (lvals_one [b]) (by simp only [maxLen]; omega) (by omega) hB
  refine ⟨v', w', hrun, ?_, h3⟩
  unfold OwnL
  rw [List.length_append, lvals_append]
  exact h2

set_option maxRecDepth 100000 in
theorem wpList_pushL {ops : Array Oper} {rest : List Oper} {o : Oper} {a : Act} {w : World} {Q : Exit → Act → World → Prop} (hgd : o.guard = none) (s x : Operand)
    (ho : o.op = .call { callee := .builtin .append, args := #[s, x], argTypes := #[43, 43] }) (B : Nat) (v : Value) (l : List Ln) (b : Ln) (g c : Nat)
    (hs : a.eval s = v) (hx : a.eval x = .slice (some ⟨g, 0, none⟩) 1 c) (hown : OwnL B w v l) (hg : w.heap[g]? = some (.cells b.cs 23 (0, 0))) (hlen : l.length + 1 ≤ 4096) (hB : B ≤ w.heap.size)
    (h : ∀ v' w', OwnL B w' v' (l ++ [b]) → (∀ w0 : World, Below B w0 w → Below B w0 w') → w.heap.size ≤ w'.heap.size → wpList Try.prog ops Q rest (a.put o.dst v') w') : wpList Try.prog ops Q (o :: rest) a w := by
  obtain ⟨v', w', hrun, h2, h3⟩ := pushL_run (c := c) w o.type hown hg hlen hB
  refine wpList_plain hgd fun _ hK => ?_
  unfold Oper.wp execOp
  simp only [ho, resolve, invoke, builtin, Sem.run_bind, Sem.run_pure, Result.andThen_ok, List.map_toArray, List.map_cons, List.map_nil, hs, hx]
  rw [hrun]
  exact hK _ _ (h v' w' h2 (fun w0 hb => hb.grown h3 hB hown.lt) h3.size)
end Go.Proofs.Ytfdaabdibpcjeaa
