/- Arguments that are slices of pieces, or rays, opened. -/
import Derived.Test.YtpimkigbdjfjoaaDoorPiece
import Derived.Test.YtpimkigbdjfjoaaDoorFrame9
set_option linter.unusedSimpArgs false
set_option linter.unusedVariables false
namespace Go.Proofs.YtpimkigbdjfjoaaDoor
open Go.ChangeShapes Go.WideShapes Go.ChangeAt Go.RowKit Go.Joins Go.Deep

section
variable {H : Type} {enc : TypeId × Value → H} {w : World} {base : Nat} {v : Value} {d : DataW H} {p : List MemPlace}
set_option maxRecDepth 100000 in
theorem open_ray4 {fuel : Nat} {cs : List Value} {x : DataW H × List MemPlace} {sp : Nat → Bool} {held : Bool} (h : DataW.trod enc Tryd.prog w base sp held fuel 52 cs = some x) :
    ∃ a r n e : Int, cs = [.int .i64 a, .int .i64 r, .int .i64 n, .int .i64 e] ∧ i64B a ∧ i64B r ∧ i64B n ∧ i64B e := by
  obtain ⟨xs, n, _, _, hlen, hxl, hf⟩ := DataW.trod_struct Tryd.underlying52 h
  have hC : Tryd.prog.cellsOf 52 = 4 := by kernel_rfl
  have hC1 : Tryd.prog.cellsOf 2 = 1 := by kernel_rfl
  rw [hC] at hlen
  match cs, hlen, xs, hxl with
  | [c0, c1, c2, c3], _, [y0, y1, y2, y3], _ =>
    have k0 : DataW.trod enc Tryd.prog w base sp held n 2 ((([c0, c1, c2, c3] : List Value).drop 0).take (Tryd.prog.cellsOf 2)) = some y0 := hf 0 _ rfl
    have k1 : DataW.trod enc Tryd.prog w base sp held n 2 ((([c0, c1, c2, c3] : List Value).drop 1).take (Tryd.prog.cellsOf 2)) = some y1 := hf 1 _ rfl
    have k2 : DataW.trod enc Tryd.prog w base sp held n 2 ((([c0, c1, c2, c3] : List Value).drop 2).take (Tryd.prog.cellsOf 2)) = some y2 := hf 2 _ rfl
    have k3 : DataW.trod enc Tryd.prog w base sp held n 2 ((([c0, c1, c2, c3] : List Value).drop 3).take (Tryd.prog.cellsOf 2)) = some y3 := hf 3 _ rfl
    rw [hC1] at k0 k1 k2 k3
    obtain ⟨a, e0, _, g0⟩ := DataW.trod_int Tryd.underlying2 k0
    obtain ⟨b, e1, _, g1⟩ := DataW.trod_int Tryd.underlying2 k1
    obtain ⟨c, e2, _, g2⟩ := DataW.trod_int Tryd.underlying2 k2
    obtain ⟨e, e3, _, g3⟩ := DataW.trod_int Tryd.underlying2 k3
    simp at e0 e1 e2 e3
    exact ⟨a, b, c, e, by rw [e0, e1, e2, e3], wf_i64 g0, wf_i64 g1, wf_i64 g2, wf_i64 g3⟩

set_option maxRecDepth 100000 in
theorem open_piece {fuel : Nat} {cs : List Value} {x : DataW H × List MemPlace} {sp : Nat → Bool} {held : Bool} (h : DataW.trod enc Tryd.prog w base sp held fuel 63 cs = some x) :
    ∃ q : Pc, cs = [.int .i64 q.n, .int .i64 q.a, .int .i64 q.r, .int .i64 q.m, .int .i64 q.d] ∧ PcOk q := by
  obtain ⟨xs, n, _, _, hlen, hxl, hf⟩ := DataW.trod_struct Tryd.underlying63 h
  have hC : Tryd.prog.cellsOf 63 = 5 := by kernel_rfl
  have hC1 : Tryd.prog.cellsOf 3 = 1 := by kernel_rfl
  have hC4 : Tryd.prog.cellsOf 52 = 4 := by kernel_rfl
  rw [hC] at hlen
  match cs, hlen, xs, hxl with
  | [c0, c1, c2, c3, c4], _, [y0, y1], _ =>
    have k0 : DataW.trod enc Tryd.prog w base sp held n 3 ((([c0, c1, c2, c3, c4] : List Value).drop 0).take (Tryd.prog.cellsOf 3)) = some y0 := hf 0 _ rfl
    have k1 : DataW.trod enc Tryd.prog w base sp held n 52 ((([c0, c1, c2, c3, c4] : List Value).drop 1).take (Tryd.prog.cellsOf 52)) = some y1 := hf 1 _ rfl
    rw [hC1] at k0
    rw [hC4] at k1
    obtain ⟨a, e0, _, g0⟩ := DataW.trod_int Tryd.underlying3 k0
    obtain ⟨b, c, e, f, e1, h1, h2, h3, h4⟩ := open_ray4 k1
    simp at e0 e1
    obtain ⟨rfl, rfl, rfl, rfl⟩ := e1
    exact ⟨⟨a, b, c, e, f⟩, by rw [e0], wf_i64 g0, h1, h2, h3, h4⟩

theorem pieces_at {cell : Nat → Pc → Prop} (n : Nat) (h : ∀ i, i < n → ∃ b, cell i b) : ∃ xs : List Pc, xs.length = n ∧ ∀ i (hi : i < xs.length), cell i xs[i] := by
  induction n with
  | zero => exact ⟨[], rfl, fun i hi => by simp at hi⟩
  | succ n ih =>
    obtain ⟨xs, h1, h2⟩ := ih fun i hi => h i (by omega)
    obtain ⟨b, hb⟩ := h n (by omega)
    refine ⟨xs ++ [b], by simp [h1], fun i hi => ?_⟩
    by_cases e : i < xs.length
    · rw [List.getElem_append_left e]; exact h2 i e
    · have e' : i = n := by simp at hi; omega
      subst e'
      rw [List.getElem_append_right (by omega)]
      simpa [h1] using hb

set_option maxRecDepth 100000 in
theorem open_pieces {r : Reach} {b0 : Nat} (hv0 : Value.okWide Tryd.prog w r b0 61 v) (h : DataW.Trod enc Tryd.prog w base (fun _ => true) true 61 v d p) :
    ∃ (X : Option Addr) (C : Nat) (xs : List Pc), v = .slice X xs.length C ∧ xs.length ≤ C ∧ C ≤ 9223372036854775807 ∧ InP w X xs ∧ ∀ i (hi : i < xs.length), PcOk xs[i] := by
  obtain ⟨n, hn⟩ := h
  have hC : Tryd.prog.cellsOf 63 = 5 := by kernel_rfl
  obtain ⟨a0, len0, cap0, rfl⟩ := okWide_slice Tryd.underlying61 hv0
  have key : ∀ cs x, DataW.trod enc Tryd.prog w base (fun _ => true) true n 61 cs = some x → ∃ (X : Option Addr) (C : Nat) (xs : List Pc), cs = [.slice X xs.length C] ∧ xs.length ≤ C ∧ C ≤ 9223372036854775807 ∧ InP w X xs ∧ ∀ i (hi : i < xs.length), PcOk xs[i] := by
    intro cs x hx
    rcases open_slice Tryd.underlying61 hx with ⟨rfl, _⟩ | ⟨a, len, cap, m, n', D, Pl, rfl, hb, hl, hm, hmm, _, hi⟩
    · exact ⟨none, 0, [], rfl, Nat.le_refl _, by decide, (fun h => by simp at h), fun i hi => by simp at hi⟩
    · have hlm : len ≤ m := by rw [hmm]; split <;> omega
      obtain ⟨xs, h1, h2⟩ := pieces_at (cell := fun i b => (w.cell? (a.add (i * 5)) = some (.int .i64 b.n) ∧ w.cell? (a.add (i * 5 + 1)) = some (.int .i64 b.a) ∧ w.cell? (a.add (i * 5 + 2)) = some (.int .i64 b.r) ∧ w.cell? (a.add (i * 5 + 3)) = some (.int .i64 b.m) ∧ w.cell? (a.add (i * 5 + 4)) = some (.int .i64 b.d)) ∧ PcOk b) len (fun i him => by
        obtain ⟨cs', hc, ht'⟩ := hi i (by omega)
        rw [hC] at hc
        obtain ⟨_, _, hat⟩ := World.cells?_some hc
        obtain ⟨b, rfl, hok⟩ := open_piece ht'
        have q0 := hat 0 (by decide)
        have q1 := hat 1 (by decide)
        have q2 := hat 2 (by decide)
        have q3 := hat 3 (by decide)
        have q4 := hat 4 (by decide)
        rw [Go.Deep.add_add] at q0 q1 q2 q3 q4
        exact ⟨b, ⟨by simpa using q0, by simpa using q1, by simpa using q2, by simpa using q3, by simpa using q4⟩, hok⟩)
      subst h1
      refine ⟨some a, cap, xs, rfl, hl, by unfold maxLen at hm; omega, fun h0 => ⟨a, rfl, ?_, fun i hi => (h2 i hi).1⟩, fun i hi => (h2 i hi).2⟩
      have := lt_of_cell (h2 0 h0).1.1
      rw [Nat.zero_mul] at this
      exact this
  obtain ⟨X, C, xs, e, r1, r2, r3⟩ := key _ _ hn
  refine ⟨X, C, xs, ?_, r1, r2, r3⟩
  simpa [Value.cells] using e

set_option maxRecDepth 100000 in
theorem open_ray {r : Reach} {b0 : Nat} {sp : Nat → Bool} {held : Bool} (hv : Value.okWide Tryd.prog w r b0 52 v) (h : DataW.Trod enc Tryd.prog w base sp held 52 v d p) :
    ∃ a b c e : Int, v = .agg #[.int .i64 a, .int .i64 b, .int .i64 c, .int .i64 e] ∧ i64B a ∧ i64B b ∧ i64B c ∧ i64B e := by
  obtain ⟨c0, c1, c2, c3, y0, y1, y2, y3, m, rfl, rfl, rfl, h0, h1, h2, h3⟩ := open_agg4 Tryd.underlying52 (by kernel_rfl) (by kernel_rfl) hv h
  obtain ⟨a, e0, rfl, wa⟩ := DataW.trod_int Tryd.underlying2 h0
  obtain ⟨b, e1, rfl, wb⟩ := DataW.trod_int Tryd.underlying2 h1
  obtain ⟨c, e2, rfl, wc⟩ := DataW.trod_int Tryd.underlying2 h2
  obtain ⟨e, e3, rfl, we⟩ := DataW.trod_int Tryd.underlying2 h3
  simp at e0 e1 e2 e3
  subst e0 e1 e2 e3
  exact ⟨a, b, c, e, rfl, wf_i64 wa, wf_i64 wb, wf_i64 wc, wf_i64 we⟩
end
end Go.Proofs.YtpimkigbdjfjoaaDoor
