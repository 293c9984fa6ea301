/- Arguments that are slices of 16-bit numbers, opened. -/
import Derived.Test.YtfdaabdibpcjeaaFrame9
import Derived.Test.YtfdaabdibpcjeaaSwingWiderW
set_option linter.unusedSimpArgs false
set_option linter.unusedVariables false
namespace Go.Proofs.Ytfdaabdibpcjeaa
open Go.ChangeShapes Go.WideShapes Go.ChangeAt Go.RowKit Go.Joins Go.Deep

theorem ints_at {cell : Nat → Int → Prop} (n : Nat) (h : ∀ i, i < n → ∃ b, cell i b) : ∃ xs : List Int, xs.length = n ∧ ∀ i (hi : i < xs.length), cell i xs[i] := by
  induction n with
  | zero => exact ⟨[], rfl, fun i hi => by simp at hi⟩
  | succ n ih =>
    obtain ⟨xs, h1, h2⟩ := ih fun i hi => h i (by omega)
    obtain ⟨b, hb⟩ := h n (by omega)
    refine ⟨xs ++ [b], by simp [h1], fun i hi => ?_⟩
    by_cases e : i < xs.length
    · rw [List.getElem_append_left e]; exact h2 i e
    · have e' : i = n := by simp at hi; omega
      subst e'
      rw [List.getElem_append_right (by omega)]
      simpa using hb

section
variable {H : Type} {enc : TypeId × Value → H} {w : World} {base : Nat} {v : Value} {d : DataW H} {p : List MemPlace}
set_option maxRecDepth 100000 in
theorem open_u16s {r : Reach} {b0 : Nat} (hv0 : Value.okWide Try.prog w r b0 34 v) (h : DataW.Trod enc Try.prog w base (fun _ => true) true 34 v d p) :
    ∃ (X : Option Addr) (C : Nat) (ms : List Int), v = .slice X ms.length C ∧ ms.length ≤ C ∧ InU w X ms := by
  obtain ⟨n, hn⟩ := h
  have hC : Try.prog.cellsOf 35 = 1 := by kernel_rfl
  obtain ⟨a0, len0, cap0, rfl⟩ := okWide_slice Try.underlying34 hv0
  have key : ∀ cs x, DataW.trod enc Try.prog w base (fun _ => true) true n 34 cs = some x → ∃ (X : Option Addr) (C : Nat) (ms : List Int), cs = [.slice X ms.length C] ∧ ms.length ≤ C ∧ InU w X ms := by
    intro cs x hx
    rcases open_slice Try.underlying34 hx with ⟨rfl, _⟩ | ⟨a, len, cap, m, n', D, Pl, rfl, hb, hl, hm, hmm, _, hi⟩
    · exact ⟨none, 0, [], rfl, Nat.le_refl _, fun h => by simp at h⟩
    · have hlm : len ≤ m := by rw [hmm]; split <;> omega
      obtain ⟨xs, h1, h2⟩ := ints_at (cell := fun i b => w.cell? (a.add i) = some (.int .u16 b) ∧ 0 ≤ b ∧ b < 65536) len (fun i him => by
        obtain ⟨cs', hc, ht'⟩ := hi i (by omega)
        rw [hC] at hc
        obtain ⟨_, _, hat⟩ := World.cells?_some hc
        obtain ⟨b, rfl, _, wb⟩ := DataW.trod_int Try.underlying35 ht'
        have q0 := hat 0 (by decide)
        rw [Go.Deep.add_add] at q0
        have wb' : 0 ≤ b ∧ b < 65536 := by
          simp [Lit.wf, IntKind.min, IntKind.max, IntKind.signed, IntKind.bits] at wb
          exact ⟨by omega, by omega⟩
        exact ⟨b, by simpa using q0, wb'⟩)
      subst h1
      refine ⟨some a, cap, xs, rfl, hl, fun h0 => ⟨a, rfl, ?_, h2⟩⟩
      have := lt_of_cell (h2 0 h0).1
      exact this
  obtain ⟨X, C, xs, e, r1, r3⟩ := key _ _ hn
  refine ⟨X, C, xs, ?_, r1, r3⟩
  simpa [Value.cells] using e
end
end Go.Proofs.Ytfdaabdibpcjeaa
