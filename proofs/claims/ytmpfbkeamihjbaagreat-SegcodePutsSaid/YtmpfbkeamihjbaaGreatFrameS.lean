/- Arguments that are segments, or bytes, opened. -/
import Derived.Test.YtmpfbkeamihjbaaGreatFrame
import Derived.Test.YtmpfbkeamihjbaaGreatQ1
import Derived.Carry
import Derived.Deep.Slices
set_option linter.unusedSimpArgs false
set_option linter.unusedVariables false
namespace Go.Proofs.YtmpfbkeamihjbaaGreat
open Go.ChangeShapes Go.WideShapes Go.ChangeAt Go.RowKit Go.Joins Go.Deep

theorem laid_out : laidOutB Tryz.prog = true := by kernel_rfl

section
variable {H : Type} {enc : TypeId × Value → H} {P : Program}
theorem trodAll_stays (hl : laidOutB P = true) {W W' : World} (hb : Below W.heap.size W W') {sp : Nat → Bool} : ∀ {ts : List TypeId} {vs : List Value} {ds : List (DataW H)} {ps : List MemPlace}, (∀ t ∈ ts, P.readableRec t = true ∧ t < P.types.size) →
    DataW.TrodAll enc P W 0 (fun _ => true) true ts vs ds ps → (∀ x ∈ ps, x.block < W.heap.size) → (∀ x ∈ ps, sp x.block = true) → DataW.TrodAll enc P W' 0 sp true ts vs ds ps
  | [], [], [], _, _, h, _, _ => h
  | _ :: _, _ :: _, _ :: _, _, hT, ⟨p, q, h1, h2, e⟩, hlt, hs =>
    ⟨p, q, WideElems.Trod_stays hl (hT _ (List.mem_cons.2 (.inl rfl))).1 (hT _ (List.mem_cons.2 (.inl rfl))).2 h1 (fun x hx => hb.same (hlt x (by rw [e]; exact List.mem_append_left _ hx))) (fun x hx => hs x (by rw [e]; exact List.mem_append_left _ hx)),
      trodAll_stays hl hb (fun t ht => hT t (List.mem_cons.2 (.inr ht))) h2 (fun x hx => hlt x (by rw [e]; exact List.mem_append_right _ hx)) (fun x hx => hs x (by rw [e]; exact List.mem_append_right _ hx)), e⟩
end

theorem lt_of_cell {w : World} {a : Addr} {v : Value} (h : w.cell? a = some v) : a.block < w.heap.size := by
  rcases Nat.lt_or_ge a.block w.heap.size with h' | h'
  · exact h'
  · exfalso
    unfold World.cell? at h
    rw [Array.getElem?_eq_none h'] at h
    simp at h
theorem list_at {α : Type} {cell : Nat → α → Prop} (n : Nat) (h : ∀ i, i < n → ∃ b, cell i b) : ∃ xs : List α, xs.length = n ∧ ∀ i (hi : i < xs.length), cell i xs[i] := by
  induction n with
  | zero => exact ⟨[], rfl, fun i hi => by simp at hi⟩
  | succ n ih =>
    obtain ⟨xs, h1, h2⟩ := ih fun i hi => h i (by omega)
    obtain ⟨b, hb⟩ := h n (by omega)
    refine ⟨xs ++ [b], by simp [h1], fun i hi => ?_⟩
    by_cases e : i < xs.length
    · rw [List.getElem_append_left e]; exact h2 i e
    · have e' : i = n := by simp at hi; omega
      subst e'
      rw [List.getElem_append_right (by omega)]
      simpa using hb

section
variable {H : Type} {enc : TypeId × Value → H} {w : World} {base : Nat} {v : Value} {d : DataW H} {p : List MemPlace}
set_option maxRecDepth 100000 in
theorem open_run {fuel : Nat} {cs : List Value} {x : DataW H × List MemPlace} {sp : Nat → Bool} {held : Bool} (h : DataW.trod enc Tryz.prog w base sp held fuel 46 cs = some x) : ∃ b : Rn, cs = [.int .i64 b.f, .int .i64 b.s, .int .i64 b.n] := by
  obtain ⟨xs, n, _, _, hlen, hxl, hf⟩ := DataW.trod_struct Tryz.underlying46 h
  have hC : Tryz.prog.cellsOf 46 = 3 := by kernel_rfl
  have hC1 : Tryz.prog.cellsOf 2 = 1 := by kernel_rfl
  have hC2 : Tryz.prog.cellsOf 3 = 1 := by kernel_rfl
  rw [hC] at hlen
  match cs, hlen, xs, hxl with
  | [c0, c1, c2], _, [y0, y1, y2], _ =>
    have k0 : DataW.trod enc Tryz.prog w base sp held n 2 ((([c0, c1, c2] : List Value).drop 0).take (Tryz.prog.cellsOf 2)) = some y0 := hf 0 _ rfl
    have k1 : DataW.trod enc Tryz.prog w base sp held n 2 ((([c0, c1, c2] : List Value).drop 1).take (Tryz.prog.cellsOf 2)) = some y1 := hf 1 _ rfl
    have k2 : DataW.trod enc Tryz.prog w base sp held n 3 ((([c0, c1, c2] : List Value).drop 2).take (Tryz.prog.cellsOf 3)) = some y2 := hf 2 _ rfl
    rw [hC1] at k0 k1
    rw [hC2] at k2
    obtain ⟨a, e0, _, _⟩ := DataW.trod_int Tryz.underlying2 k0
    obtain ⟨b, e1, _, _⟩ := DataW.trod_int Tryz.underlying2 k1
    obtain ⟨c, e2, _, _⟩ := DataW.trod_int Tryz.underlying3 k2
    simp at e0 e1 e2
    exact ⟨⟨a, b, c⟩, by rw [e0, e1, e2]⟩
set_option maxRecDepth 100000 in
theorem open_line_cs {fuel : Nat} {cs : List Value} {x : DataW H × List MemPlace} {sp : Nat → Bool} {held : Bool} (h : DataW.trod enc Tryz.prog w base sp held fuel 24 cs = some x) : ∃ A R N D : Int, cs = [.int .i64 A, .int .i64 R, .int .i64 N, .int .i64 D] := by
  obtain ⟨xs, n, _, _, hlen, hxl, hf⟩ := DataW.trod_struct Tryz.underlying24 h
  have hC : Tryz.prog.cellsOf 24 = 4 := by kernel_rfl
  have hC1 : Tryz.prog.cellsOf 2 = 1 := by kernel_rfl
  rw [hC] at hlen
  match cs, hlen, xs, hxl with
  | [c0, c1, c2, c3], _, [y0, y1, y2, y3], _ =>
    have k0 : DataW.trod enc Tryz.prog w base sp held n 2 ((([c0, c1, c2, c3] : List Value).drop 0).take (Tryz.prog.cellsOf 2)) = some y0 := hf 0 _ rfl
    have k1 : DataW.trod enc Tryz.prog w base sp held n 2 ((([c0, c1, c2, c3] : List Value).drop 1).take (Tryz.prog.cellsOf 2)) = some y1 := hf 1 _ rfl
    have k2 : DataW.trod enc Tryz.prog w base sp held n 2 ((([c0, c1, c2, c3] : List Value).drop 2).take (Tryz.prog.cellsOf 2)) = some y2 := hf 2 _ rfl
    have k3 : DataW.trod enc Tryz.prog w base sp held n 2 ((([c0, c1, c2, c3] : List Value).drop 3).take (Tryz.prog.cellsOf 2)) = some y3 := hf 3 _ rfl
    rw [hC1] at k0 k1 k2 k3
    obtain ⟨a, e0, _, _⟩ := DataW.trod_int Tryz.underlying2 k0
    obtain ⟨b, e1, _, _⟩ := DataW.trod_int Tryz.underlying2 k1
    obtain ⟨c, e2, _, _⟩ := DataW.trod_int Tryz.underlying2 k2
    obtain ⟨e, e3, _, _⟩ := DataW.trod_int Tryz.underlying2 k3
    simp at e0 e1 e2 e3
    exact ⟨a, b, c, e, by rw [e0, e1, e2, e3]⟩

set_option maxRecDepth 100000 in
theorem open_runs_cs {n : Nat} {cs : List Value} {x : DataW H × List MemPlace} (hx : DataW.trod enc Tryz.prog w base (fun _ => true) true n 22 cs = some x) :
    ∃ (X : Option Addr) (C : Nat) (xs : List Rn), cs = [.slice X xs.length C] ∧ xs.length ≤ C ∧ C ≤ 9223372036854775807 ∧ InR w X xs := by
  have hC : Tryz.prog.cellsOf 46 = 3 := by kernel_rfl
  rcases open_slice Tryz.underlying22 hx with ⟨rfl, _⟩ | ⟨a, len, cap, m, n', D, Pl, rfl, hb, hl, hm, hmm, _, hi⟩
  · exact ⟨none, 0, [], rfl, Nat.le_refl _, by decide, fun h => by simp at h⟩
  · have hlm : len ≤ m := by rw [hmm]; split <;> omega
    obtain ⟨xs, h1, h2⟩ := list_at (cell := fun i (b : Rn) => w.cell? (a.add (i * 3)) = some (.int .i64 b.f) ∧ w.cell? (a.add (i * 3 + 1)) = some (.int .i64 b.s) ∧ w.cell? (a.add (i * 3 + 2)) = some (.int .i64 b.n)) len (fun i him => by
      obtain ⟨cs', hc, ht'⟩ := hi i (by omega)
      rw [hC] at hc
      obtain ⟨_, _, hat⟩ := World.cells?_some hc
      obtain ⟨b, rfl⟩ := open_run ht'
      have q0 := hat 0 (by decide)
      have q1 := hat 1 (by decide)
      have q2 := hat 2 (by decide)
      rw [Go.Deep.add_add] at q0 q1 q2
      exact ⟨b, by simpa using q0, by simpa using q1, by simpa using q2⟩)
    subst h1
    refine ⟨some a, cap, xs, rfl, hl, by unfold maxLen at hm; omega, fun h0 => ⟨a, rfl, ?_, h2⟩⟩
    have := lt_of_cell (h2 0 h0).1
    rw [Nat.zero_mul] at this
    exact this
set_option maxRecDepth 100000 in
theorem open_longs_cs {n : Nat} {cs : List Value} {x : DataW H × List MemPlace} (hx : DataW.trod enc Tryz.prog w base (fun _ => true) true n 25 cs = some x) :
    ∃ (X : Option Addr) (C : Nat) (xs : List Int), cs = [.slice X xs.length C] ∧ xs.length ≤ C ∧ C ≤ 9223372036854775807 ∧ InC .i64 w X xs := by
  have hC : Tryz.prog.cellsOf 2 = 1 := by kernel_rfl
  rcases open_slice Tryz.underlying25 hx with ⟨rfl, _⟩ | ⟨a, len, cap, m, n', D, Pl, rfl, hb, hl, hm, hmm, _, hi⟩
  · exact ⟨none, 0, [], rfl, Nat.le_refl _, by decide, fun h => by simp at h⟩
  · have hlm : len ≤ m := by rw [hmm]; split <;> omega
    obtain ⟨xs, h1, h2⟩ := list_at (cell := fun i (b : Int) => w.cell? (a.add i) = some (.int .i64 b)) len (fun i him => by
      obtain ⟨cs', hc, ht'⟩ := hi i (by omega)
      rw [hC] at hc
      obtain ⟨_, _, hat⟩ := World.cells?_some hc
      obtain ⟨b, rfl, _, _⟩ := DataW.trod_int Tryz.underlying2 ht'
      have q0 := hat 0 (by decide)
      rw [Go.Deep.add_add] at q0
      exact ⟨b, by simpa using q0⟩)
    subst h1
    refine ⟨some a, cap, xs, rfl, hl, by unfold maxLen at hm; omega, fun h0 => ⟨a, rfl, ?_, h2⟩⟩
    exact lt_of_cell (h2 0 h0)

set_option maxRecDepth 100000 in
theorem open_seg {r : Reach} {b0 : Nat} (hv0 : Value.okWide Tryz.prog w r b0 27 v) (h : DataW.Trod enc Tryz.prog w base (fun _ => true) true 27 v d p) :
    ∃ (X Y : Option Addr) (C E : Nat) (xs : List Rn) (ys : List Int) (kd A R N D er : Int), v = .agg #[.int .i64 kd, .slice X xs.length C, .int .i64 A, .int .i64 R, .int .i64 N, .int .i64 D, .slice Y ys.length E, .int .i64 er] ∧ xs.length ≤ C ∧ ys.length ≤ E ∧ InR w X xs ∧ InC .i64 w Y ys := by
  obtain ⟨cs, rfl, hsz⟩ := okWide_struct Tryz.underlying27 hv0
  have hC8 : Tryz.prog.cellsOf 27 = 8 := by kernel_rfl
  obtain ⟨fuel, hf⟩ := h
  obtain ⟨zs, n, _, _, hlen, hxl, hg⟩ := DataW.trod_struct Tryz.underlying27 hf
  rw [hC8] at hlen
  have hcells : (Value.agg cs).cells.toList = cs.toList := by simp [Value.cells]
  rw [hcells] at hlen hg
  have hC1 : Tryz.prog.cellsOf 2 = 1 := by kernel_rfl
  have hC2 : Tryz.prog.cellsOf 3 = 1 := by kernel_rfl
  have hC3 : Tryz.prog.cellsOf 22 = 1 := by kernel_rfl
  have hC4 : Tryz.prog.cellsOf 25 = 1 := by kernel_rfl
  have hC5 : Tryz.prog.cellsOf 24 = 4 := by kernel_rfl
  generalize hcs : cs.toList = L at hlen hg
  match L, hlen, zs, hxl with
  | [c0, c1, c2, c3, c4, c5, c6, c7], _, [y0, y1, y2, y3, y4], _ =>
    have k0 : DataW.trod enc Tryz.prog w base (fun _ => true) true n 3 ((([c0, c1, c2, c3, c4, c5, c6, c7] : List Value).drop 0).take (Tryz.prog.cellsOf 3)) = some y0 := hg 0 _ rfl
    have k1 : DataW.trod enc Tryz.prog w base (fun _ => true) true n 22 ((([c0, c1, c2, c3, c4, c5, c6, c7] : List Value).drop 1).take (Tryz.prog.cellsOf 22)) = some y1 := hg 1 _ rfl
    have k2 : DataW.trod enc Tryz.prog w base (fun _ => true) true n 24 ((([c0, c1, c2, c3, c4, c5, c6, c7] : List Value).drop 2).take (Tryz.prog.cellsOf 24)) = some y2 := hg 2 _ rfl
    have k3 : DataW.trod enc Tryz.prog w base (fun _ => true) true n 25 ((([c0, c1, c2, c3, c4, c5, c6, c7] : List Value).drop 6).take (Tryz.prog.cellsOf 25)) = some y3 := hg 3 _ rfl
    have k4 : DataW.trod enc Tryz.prog w base (fun _ => true) true n 2 ((([c0, c1, c2, c3, c4, c5, c6, c7] : List Value).drop 7).take (Tryz.prog.cellsOf 2)) = some y4 := hg 4 _ rfl
    rw [hC2] at k0
    rw [hC3] at k1
    rw [hC5] at k2
    rw [hC4] at k3
    rw [hC1] at k4
    obtain ⟨kd, e0, _, _⟩ := DataW.trod_int Tryz.underlying3 k0
    obtain ⟨X, C, xs, e1, p1, p2, p3⟩ := open_runs_cs k1
    obtain ⟨A, R, N, D, e2⟩ := open_line_cs k2
    obtain ⟨Y, E, ys, e3, q1, q2, q3⟩ := open_longs_cs k3
    obtain ⟨er, e4, _, _⟩ := DataW.trod_int Tryz.underlying2 k4
    simp at e0 e1 e2 e3 e4
    obtain ⟨r0, r1, r2, r3⟩ := e2
    subst e0 e1 r0 r1 r2 r3 e3 e4
    refine ⟨X, Y, C, E, xs, ys, kd, A, R, N, D, er, ?_, p1, q1, p3, q3⟩
    have := congrArg List.toArray hcs
    rw [Array.toArray_toList] at this
    rw [this]
end
end Go.Proofs.YtmpfbkeamihjbaaGreat
