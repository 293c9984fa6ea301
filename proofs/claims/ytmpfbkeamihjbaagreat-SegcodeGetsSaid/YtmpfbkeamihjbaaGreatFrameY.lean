/- Arguments that are bytes, opened. -/
import Derived.Test.YtmpfbkeamihjbaaGreatFrameS
import Derived.Test.YtmpfbkeamihjbaaGreatQ3
set_option linter.unusedSimpArgs false
set_option linter.unusedVariables false
namespace Go.Proofs.YtmpfbkeamihjbaaGreat
open Go.ChangeShapes Go.WideShapes Go.ChangeAt Go.RowKit Go.Joins Go.Deep

theorem wf_u8 {x : Int} (h : (Lit.int .u8 x).wf = true) : 0 ≤ x ∧ x < 256 := by
  simp [Lit.wf, IntKind.min, IntKind.max, IntKind.signed, IntKind.bits] at h
  exact ⟨by omega, by omega⟩
section
variable {H : Type} {enc : TypeId × Value → H} {w : World} {base : Nat} {v : Value} {d : DataW H} {p : List MemPlace}
set_option maxRecDepth 100000 in
theorem open_bytes {r : Reach} {b0 : Nat} (hv0 : Value.okWide Tryz.prog w r b0 30 v) (h : DataW.Trod enc Tryz.prog w base (fun _ => true) true 30 v d p) :
    ∃ (X : Option Addr) (C : Nat) (xs : List Int), v = .slice X xs.length C ∧ xs.length ≤ C ∧ C ≤ 9223372036854775807 ∧ InC .u8 w X xs ∧ Byt xs := by
  obtain ⟨n, hn⟩ := h
  have hC : Tryz.prog.cellsOf 5 = 1 := by kernel_rfl
  obtain ⟨a0, len0, cap0, rfl⟩ := okWide_slice Tryz.underlying30 hv0
  have key : ∀ cs x, DataW.trod enc Tryz.prog w base (fun _ => true) true n 30 cs = some x → ∃ (X : Option Addr) (C : Nat) (xs : List Int), cs = [.slice X xs.length C] ∧ xs.length ≤ C ∧ C ≤ 9223372036854775807 ∧ InC .u8 w X xs ∧ Byt xs := by
    intro cs x hx
    rcases open_slice Tryz.underlying30 hx with ⟨rfl, _⟩ | ⟨a, len, cap, m, n', D, Pl, rfl, hb, hl, hm, hmm, _, hi⟩
    · exact ⟨none, 0, [], rfl, Nat.le_refl _, by decide, (fun h => by simp at h), fun x hx => by cases hx⟩
    · have hlm : len ≤ m := by rw [hmm]; split <;> omega
      obtain ⟨xs, h1, h2⟩ := list_at (cell := fun i (b : Int) => w.cell? (a.add i) = some (.int .u8 b) ∧ 0 ≤ b ∧ b < 256) len (fun i him => by
        obtain ⟨cs', hc, ht'⟩ := hi i (by omega)
        rw [hC] at hc
        obtain ⟨_, _, hat⟩ := World.cells?_some hc
        obtain ⟨b, rfl, _, hwf⟩ := DataW.trod_int Tryz.underlying5 ht'
        have q0 := hat 0 (by decide)
        rw [Go.Deep.add_add] at q0
        exact ⟨b, by simpa using q0, wf_u8 hwf⟩)
      subst h1
      refine ⟨some a, cap, xs, rfl, hl, by unfold maxLen at hm; omega, (fun h0 => ⟨a, rfl, ?_, fun i hi => (h2 i hi).1⟩), fun x hx => ?_⟩
      · exact lt_of_cell (h2 0 h0).1
      · obtain ⟨i, hi, rfl⟩ := List.mem_iff_getElem.1 hx
        exact (h2 i hi).2
  obtain ⟨X, C, xs, e, r1, r2, r3⟩ := key _ _ hn
  refine ⟨X, C, xs, ?_, r1, r2, r3⟩
  simpa [Value.cells] using e
end
end Go.Proofs.YtmpfbkeamihjbaaGreat
