/- Arguments that are slices of bands, opened; all arguments read behind a call as they did. -/
import Derived.Test.YtpimkigbdjfjoaaDoorFrame
import Derived.Test.YtpimkigbdjfjoaaDoorPA
import Derived.Carry
import Derived.Deep.Slices
set_option linter.unusedSimpArgs false
set_option linter.unusedVariables false
namespace Go.Proofs.YtpimkigbdjfjoaaDoor
open Go.ChangeShapes Go.WideShapes Go.ChangeAt Go.RowKit Go.Joins Go.Deep

theorem laid_out : laidOutB Tryd.prog = true := by kernel_rfl

section
variable {H : Type} {enc : TypeId × Value → H} {P : Program}
theorem trodAll_stays (hl : laidOutB P = true) {W W' : World} (hb : Below W.heap.size W W') {sp : Nat → Bool} : ∀ {ts : List TypeId} {vs : List Value} {ds : List (DataW H)} {ps : List MemPlace}, (∀ t ∈ ts, P.readableRec t = true ∧ t < P.types.size) →
    DataW.TrodAll enc P W 0 (fun _ => true) true ts vs ds ps → (∀ x ∈ ps, x.block < W.heap.size) → (∀ x ∈ ps, sp x.block = true) → DataW.TrodAll enc P W' 0 sp true ts vs ds ps
  | [], [], [], _, _, h, _, _ => h
  | _ :: _, _ :: _, _ :: _, _, hT, ⟨p, q, h1, h2, e⟩, hlt, hs =>
    ⟨p, q, WideElems.Trod_stays hl (hT _ (List.mem_cons.2 (.inl rfl))).1 (hT _ (List.mem_cons.2 (.inl rfl))).2 h1 (fun x hx => hb.same (hlt x (by rw [e]; exact List.mem_append_left _ hx))) (fun x hx => hs x (by rw [e]; exact List.mem_append_left _ hx)),
      trodAll_stays hl hb (fun t ht => hT t (List.mem_cons.2 (.inr ht))) h2 (fun x hx => hlt x (by rw [e]; exact List.mem_append_right _ hx)) (fun x hx => hs x (by rw [e]; exact List.mem_append_right _ hx)), e⟩
end

theorem lt_of_cell {w : World} {a : Addr} {v : Value} (h : w.cell? a = some v) : a.block < w.heap.size := by
  rcases Nat.lt_or_ge a.block w.heap.size with h' | h'
  · exact h'
  · exfalso
    unfold World.cell? at h
    rw [Array.getElem?_eq_none h'] at h
    simp at h

section
variable {H : Type} {enc : TypeId × Value → H} {w : World} {base : Nat} {v : Value} {d : DataW H} {p : List MemPlace}
set_option maxRecDepth 100000 in
theorem open_band {fuel : Nat} {cs : List Value} {x : DataW H × List MemPlace} {sp : Nat → Bool} {held : Bool} (h : DataW.trod enc Tryd.prog w base sp held fuel 37 cs = some x) : ∃ b : Bd, cs = [.int .i64 b.t, .int .i64 b.lo, .int .i64 b.hi] := by
  obtain ⟨xs, n, _, _, hlen, hxl, hf⟩ := DataW.trod_struct Tryd.underlying37 h
  have hC : Tryd.prog.cellsOf 37 = 3 := by kernel_rfl
  have hC1 : Tryd.prog.cellsOf 2 = 1 := by kernel_rfl
  rw [hC] at hlen
  match cs, hlen, xs, hxl with
  | [c0, c1, c2], _, [y0, y1, y2], _ =>
    have k0 : DataW.trod enc Tryd.prog w base sp held n 2 ((([c0, c1, c2] : List Value).drop 0).take (Tryd.prog.cellsOf 2)) = some y0 := hf 0 _ rfl
    have k1 : DataW.trod enc Tryd.prog w base sp held n 2 ((([c0, c1, c2] : List Value).drop 1).take (Tryd.prog.cellsOf 2)) = some y1 := hf 1 _ rfl
    have k2 : DataW.trod enc Tryd.prog w base sp held n 2 ((([c0, c1, c2] : List Value).drop 2).take (Tryd.prog.cellsOf 2)) = some y2 := hf 2 _ rfl
    rw [hC1] at k0 k1 k2
    obtain ⟨a, e0, _, _⟩ := DataW.trod_int Tryd.underlying2 k0
    obtain ⟨b, e1, _, _⟩ := DataW.trod_int Tryd.underlying2 k1
    obtain ⟨c, e2, _, _⟩ := DataW.trod_int Tryd.underlying2 k2
    simp at e0 e1 e2
    exact ⟨⟨a, b, c⟩, by rw [e0, e1, e2]⟩

theorem bands_at {cell : Nat → Bd → Prop} (n : Nat) (h : ∀ i, i < n → ∃ b, cell i b) : ∃ xs : List Bd, xs.length = n ∧ ∀ i (hi : i < xs.length), cell i xs[i] := by
  induction n with
  | zero => exact ⟨[], rfl, fun i hi => by simp at hi⟩
  | succ n ih =>
    obtain ⟨xs, h1, h2⟩ := ih fun i hi => h i (by omega)
    obtain ⟨b, hb⟩ := h n (by omega)
    refine ⟨xs ++ [b], by simp [h1], fun i hi => ?_⟩
    by_cases e : i < xs.length
    · rw [List.getElem_append_left e]; exact h2 i e
    · have e' : i = n := by simp at hi; omega
      subst e'
      rw [List.getElem_append_right (by omega)]
      simpa using hb

set_option maxRecDepth 100000 in
theorem open_bands {r : Reach} {b0 : Nat} (hv0 : Value.okWide Tryd.prog w r b0 22 v) (h : DataW.Trod enc Tryd.prog w base (fun _ => true) true 22 v d p) :
    ∃ (X : Option Addr) (C : Nat) (xs : List Bd), v = .slice X xs.length C ∧ xs.length ≤ C ∧ C ≤ 9223372036854775807 ∧ InB w X xs := by
  obtain ⟨n, hn⟩ := h
  have hC : Tryd.prog.cellsOf 37 = 3 := by kernel_rfl
  obtain ⟨a0, len0, cap0, rfl⟩ := okWide_slice Tryd.underlying22 hv0
  have key : ∀ cs x, DataW.trod enc Tryd.prog w base (fun _ => true) true n 22 cs = some x → ∃ (X : Option Addr) (C : Nat) (xs : List Bd), cs = [.slice X xs.length C] ∧ xs.length ≤ C ∧ C ≤ 9223372036854775807 ∧ InB w X xs := by
    intro cs x hx
    rcases open_slice Tryd.underlying22 hx with ⟨rfl, _⟩ | ⟨a, len, cap, m, n', D, Pl, rfl, hb, hl, hm, hmm, _, hi⟩
    · exact ⟨none, 0, [], rfl, Nat.le_refl _, by decide, fun h => by simp at h⟩
    · have hlm : len ≤ m := by rw [hmm]; split <;> omega
      obtain ⟨xs, h1, h2⟩ := bands_at (cell := fun i b => w.cell? (a.add (i * 3)) = some (.int .i64 b.t) ∧ w.cell? (a.add (i * 3 + 1)) = some (.int .i64 b.lo) ∧ w.cell? (a.add (i * 3 + 2)) = some (.int .i64 b.hi)) len (fun i him => by
        obtain ⟨cs', hc, ht'⟩ := hi i (by omega)
        rw [hC] at hc
        obtain ⟨_, _, hat⟩ := World.cells?_some hc
        obtain ⟨b, rfl⟩ := open_band ht'
        have q0 := hat 0 (by decide)
        have q1 := hat 1 (by decide)
        have q2 := hat 2 (by decide)
        rw [Go.Deep.add_add] at q0 q1 q2
        exact ⟨b, by simpa using q0, by simpa using q1, by simpa using q2⟩)
      subst h1
      refine ⟨some a, cap, xs, rfl, hl, by unfold maxLen at hm; omega, fun h0 => ⟨a, rfl, ?_, h2⟩⟩
      have := lt_of_cell (h2 0 h0).1
      rw [Nat.zero_mul] at this
      exact this
  obtain ⟨X, C, xs, e, r1, r2, r3⟩ := key _ _ hn
  refine ⟨X, C, xs, ?_, r1, r2, r3⟩
  simpa [Value.cells] using e
end
end Go.Proofs.YtpimkigbdjfjoaaDoor
