/- Pieces and rays that come in. -/
import Derived.Test.YtpimkigbdjfjoaaDoorLawL1
import Derived.Deep.Slices
set_option linter.unusedSimpArgs false
set_option linter.unusedVariables false
namespace Go.Proofs.YtpimkigbdjfjoaaDoor
open Go.RowKit

theorem okB_mk {l : List Bd} (h0 : 0 < l.length) (h1 : l.length ≤ 256) (h : okF (-1) l = true) : okB l = true := by
  unfold okB
  rw [h, decide_eq_true h0, decide_eq_true h1]; rfl

/-- a piece: how many bands, and a ray -/
structure Pc where
  (n a r m d : Int)
def i64B (x : Int) : Prop := -9223372036854775808 ≤ x ∧ x < 9223372036854775808
structure PcOk (p : Pc) : Prop where
  n : i64B p.n
  a : i64B p.a
  r : i64B p.r
  m : i64B p.m
  d : i64B p.d
/-- a slice of pieces that came in -/
def InP (w : World) (X : Option Addr) (ps : List Pc) : Prop :=
  0 < ps.length → ∃ ad, X = some ad ∧ ad.block < w.heap.size ∧ ∀ i (hi : i < ps.length), w.cell? (ad.add (i * 5)) = some (.int .i64 ps[i].n) ∧ w.cell? (ad.add (i * 5 + 1)) = some (.int .i64 ps[i].a) ∧ w.cell? (ad.add (i * 5 + 2)) = some (.int .i64 ps[i].r) ∧ w.cell? (ad.add (i * 5 + 3)) = some (.int .i64 ps[i].m) ∧ w.cell? (ad.add (i * 5 + 4)) = some (.int .i64 ps[i].d)
theorem InP.below {w w' : World} {X : Option Addr} {ps : List Pc} (h : InP w X ps) (hb : Below w.heap.size w w') : InP w' X ps := fun h0 => by
  obtain ⟨ad, e, h1, h2⟩ := h h0
  have hc : ∀ j, w'.cell? (ad.add j) = w.cell? (ad.add j) := fun j => hb.cell (p := ad.add j) (by rw [show (ad.add j).block = ad.block by unfold Addr.add; split <;> rfl]; exact h1)
  exact ⟨ad, e, Nat.lt_of_lt_of_le h1 hb.size, fun i hi => by rw [hc, hc, hc, hc, hc]; exact h2 i hi⟩
def pc (ps : List Pc) (i : Nat) : Pc := ps.getD i ⟨0, 0, 0, 0, 0⟩
theorem pc_eq {ps : List Pc} {i : Nat} (h : i < ps.length) : ps[i] = pc ps i := by unfold pc; simp [h]
theorem inP_cells {w0 : World} {ad : Addr} {ps : List Pc} (h : InP w0 (some ad) ps) (k : Nat) (hk : k < ps.length) :
    w0.cell? (ad.add (k * 5)) = some (.int .i64 (pc ps k).n) ∧ w0.cell? { block := (ad.add (k * 5)).block, off := (ad.add (k * 5)).off + 1 } = some (.int .i64 (pc ps k).a) ∧ w0.cell? { block := (ad.add (k * 5)).block, off := (ad.add (k * 5)).off + 2 } = some (.int .i64 (pc ps k).r) ∧
      w0.cell? { block := (ad.add (k * 5)).block, off := (ad.add (k * 5)).off + 3 } = some (.int .i64 (pc ps k).m) ∧ w0.cell? { block := (ad.add (k * 5)).block, off := (ad.add (k * 5)).off + 4 } = some (.int .i64 (pc ps k).d) := by
  obtain ⟨ad', e, -, h2⟩ := h (by omega)
  obtain rfl : ad = ad' := Option.some.inj e
  obtain ⟨q1, q2, q3, q4, q5⟩ := h2 k hk
  rw [pc_eq hk] at q1 q2 q3 q4 q5
  have e1 : (ad.add (k * 5)).add 1 = ad.add (k * 5 + 1) := Go.Deep.add_add _ _ _
  have e2 : (ad.add (k * 5)).add 2 = ad.add (k * 5 + 2) := Go.Deep.add_add _ _ _
  have e3 : (ad.add (k * 5)).add 3 = ad.add (k * 5 + 3) := Go.Deep.add_add _ _ _
  have e4 : (ad.add (k * 5)).add 4 = ad.add (k * 5 + 4) := Go.Deep.add_add _ _ _
  rw [← e1] at q2
  rw [← e2] at q3
  rw [← e3] at q4
  rw [← e4] at q5
  exact ⟨q1, q2, q3, q4, q5⟩
end Go.Proofs.YtpimkigbdjfjoaaDoor
