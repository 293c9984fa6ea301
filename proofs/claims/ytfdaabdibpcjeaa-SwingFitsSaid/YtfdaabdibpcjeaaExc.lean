/- What writes one block that was there. -/
import Derived.Test.YtfdaabdibpcjeaaFsum1
set_option linter.unusedSimpArgs false
set_option linter.unusedVariables false
namespace Go.Proofs.Ytfdaabdibpcjeaa
open Go.RowKit

/-- all but the block g is as it was -/
structure Exc (g : Nat) (w w' : World) : Prop where
  le : g ≤ w.heap.size
  low : Below g w w'
  size : w.heap.size ≤ w'.heap.size
  other : ∀ b, b < w.heap.size → b ≠ g → w'.heap[b]? = w.heap[b]?
theorem Exc.of_below {g : Nat} {w w' : World} (h : Below w.heap.size w w') (hg : g ≤ w.heap.size) : Exc g w w' := ⟨hg, h.mono hg, h.size, fun b hb _ => h.block b hb⟩
theorem Exc.trans {g : Nat} {w w1 w2 : World} (h1 : Exc g w w1) (h2 : Exc g w1 w2) : Exc g w w2 :=
  ⟨h1.le, h1.low.trans h2.low, Nat.le_trans h1.size h2.size, fun b hb hg => (h2.other b (Nat.lt_of_lt_of_le hb h1.size) hg).trans (h1.other b hb hg)⟩
theorem kx {g k : Nat} {W w1 : World} {cs : Array Value} {t : TypeId} (hx : Exc g W w1) (h : W.heap[k]? = some (.cells cs t (0, 0))) (hk : k ≠ g) : w1.heap[k]? = some (.cells cs t (0, 0)) :=
  (hx.other k (rcell h).2.2 hk).trans h
theorem x0 (g : Nat) (w : World) (h : g ≤ w.heap.size) : Exc g w w := Exc.of_below (b0 w) h
theorem xB {g : Nat} {w W w1 : World} (h : Exc g w W) (hb : Below W.heap.size W w1) : Exc g w w1 :=
  ⟨h.le, h.low.trans (hb.mono (Nat.le_trans h.le h.size)), Nat.le_trans h.size hb.size, fun b hb' hg => (hb.block b (Nat.lt_of_lt_of_le hb' h.size)).trans (h.other b hb' hg)⟩
theorem xA {g : Nat} {w W : World} (h : Exc g w W) (o : Obj) : Exc g w (W.alloc o) := xB h (bA (b0 W) o)
theorem bX {k : Nat} {w W w1 : World} (h : Below w.heap.size w W) (hx : Exc k W w1) (hk : w.heap.size ≤ k) : Below w.heap.size w w1 := bG h hx.low hk
theorem xX {g k : Nat} {w W w1 : World} (h : Exc g w W) (hx : Exc k W w1) (hk : k = g ∨ w.heap.size ≤ k ∧ g ≤ k) : Exc g w w1 := by
  rcases hk with rfl | ⟨h1, h2⟩
  · exact h.trans hx
  · exact ⟨h.le, h.low.trans (hx.low.mono h2), Nat.le_trans h.size hx.size, fun b hb hg => (hx.other b (Nat.lt_of_lt_of_le hb h.size) (by omega)).trans (h.other b hb hg)⟩
theorem fin_x {base w0 w1 : World} {g : Nat} {t : TypeId} {cs cs' : Array Value} (hI : Below base.heap.size base w0) (hF : base.heap[g]? = some (.cells cs t (0, 0))) (hT : setRow w0 g cs' = w1) :
    Exc g base w1 ∧ w1.heap[g]? = some (.cells cs' t (0, 0)) := by
  obtain ⟨hO, hN, hS, hG⟩ := fin_old hI hF hT
  exact ⟨⟨Nat.le_of_lt (rcell hF).2.2, hG, hS, hO⟩, hN⟩
theorem leB {w : World} {g : Nat} (h : (Abs.cls0 w).B ≤ g) : w.heap.size ≤ g := h
theorem na3 (W : World) (o o2 o3 : Obj) (cs : Array Value) (t : TypeId) : ((((W.alloc o).alloc o2).alloc o3).alloc (.cells cs t)).heap[W.heap.size + 1 + 1 + 1]? = some (.cells cs t (0, 0)) := by
  have := na (((W.alloc o).alloc o2).alloc o3) cs t
  simp only [World.size_alloc] at this
  exact this
theorem na4 (W : World) (o o2 o3 o4 : Obj) (cs : Array Value) (t : TypeId) : (((((W.alloc o).alloc o2).alloc o3).alloc o4).alloc (.cells cs t)).heap[W.heap.size + 1 + 1 + 1 + 1]? = some (.cells cs t (0, 0)) := by
  have := na ((((W.alloc o).alloc o2).alloc o3).alloc o4) cs t
  simp only [World.size_alloc] at this
  exact this

theorem row6 {w : World} {g : Nat} {a0 a1 a2 a3 a4 a5 : Value} {t : TypeId} {f : Nat × Nat} (h : w.heap[g]? = some (.cells #[a0, a1, a2, a3, a4, a5] t f)) (v0 v1 v2 v3 v4 v5 : Value) :
    (((((w.setCell ⟨g, 0, none⟩ v0).setCell ⟨g, 1, none⟩ v1).setCell ⟨g, 2, none⟩ v2).setCell ⟨g, 3, none⟩ v3).setCell ⟨g, 4, none⟩ v4).setCell ⟨g, 5, none⟩ v5 = setRow w g #[v0, v1, v2, v3, v4, v5] := by
  rw [setRow_of_setCell (cs' := #[v0, a1, a2, a3, a4, a5]) h v0 rfl, setRow_of_setCell (cs' := #[v0, v1, a2, a3, a4, a5]) (setRow_same h) v1 rfl, setRow_setRow,
    setRow_of_setCell (cs' := #[v0, v1, v2, a3, a4, a5]) (setRow_same h) v2 rfl, setRow_setRow, setRow_of_setCell (cs' := #[v0, v1, v2, v3, a4, a5]) (setRow_same h) v3 rfl, setRow_setRow,
    setRow_of_setCell (cs' := #[v0, v1, v2, v3, v4, a5]) (setRow_same h) v4 rfl, setRow_setRow, setRow_of_setCell (cs' := #[v0, v1, v2, v3, v4, v5]) (setRow_same h) v5 rfl, setRow_setRow]
/-- a pair is put at the head of a row of eight -/
theorem r8_2 {w : World} {g : Nat} {a0 a1 a2 a3 a4 a5 a6 a7 : Value} {t : TypeId} {f : Nat × Nat} (h : w.heap[g]? = some (.cells #[a0, a1, a2, a3, a4, a5, a6, a7] t f)) (v0 v1 : Value) :
    (w.setCell ⟨g, 0, none⟩ v0).setCell ⟨g, 1, none⟩ v1 = setRow w g #[v0, v1, a2, a3, a4, a5, a6, a7] := by
  rw [setRow_of_setCell (cs' := #[v0, a1, a2, a3, a4, a5, a6, a7]) h v0 rfl, setRow_of_setCell (cs' := #[v0, v1, a2, a3, a4, a5, a6, a7]) (setRow_same h) v1 rfl, setRow_setRow]
end Go.Proofs.Ytfdaabdibpcjeaa
