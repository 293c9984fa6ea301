/- The console at this program: the report's line of a reply that has no rows. The console at this program: the report's line of what was scanned. The console at this program: the report's line of buckets. The document's answer for the console at this program: a number's word. The document's answer for -/
import Derived.Test.YtbiedfkmmcaplaaGreatDoorRb
set_option linter.all false
namespace Go.Proofs.YtbiedfkmmcaplaaGreatDoor
open Go.RowKit
attribute [local go_sem] Oper.semAt_some

end Go.Proofs.YtbiedfkmmcaplaaGreatDoor

namespace Go.Proofs.YtbiedfkmmcaplaaGreatDoor
open Go.RowKit
attribute [local go_sem] Oper.semAt_some

def InR (k : Nat) (w : World) (X : Option Addr) (rows : List (List Value)) : Prop :=
  0 < rows.length → ∃ ad, X = some ad ∧ ad.block < w.heap.size ∧ ∀ i (hi : i < rows.length) j v, (rows[i])[j]? = some v → w.cell? (ad.add (i * k + j)) = some v
theorem InR.below {k : Nat} {w w' : World} {X : Option Addr} {rows : List (List Value)} (h : InR k w X rows) (hb : Below w.heap.size w w') : InR k w' X rows := fun h0 => by
  obtain ⟨ad, e, h1, h2⟩ := h h0
  have hc : ∀ j, w'.cell? (ad.add j) = w.cell? (ad.add j) := fun j => hb.cell (p := ad.add j) (by rw [show (ad.add j).block = ad.block by unfold Addr.add; split <;> rfl]; exact h1)
  exact ⟨ad, e, Nat.lt_of_lt_of_le h1 hb.size, fun i hi j v hv => by rw [hc]; exact h2 i hi j v hv⟩

theorem bytesOf_itoa : ∀ l : List Int, (∀ x ∈ l, i64In x) → bytesOf (l.map itoaB) ≤ l.length * 20 := by
  intro l
  induction l with
  | nil => intro _; simp [bytesOf]
  | cons x l ih =>
    intro h
    have := ih fun y hy => h y (by simp [hy])
    have h2 := itoaB_len x (h x (by simp))
    simp only [bytesOf, List.map_cons, List.sum_cons, List.length_cons] at *
    omega

structure Bk where
  t : Int
  v : Int
  e : Int
def Bk.l (b : Bk) : List Int := [b.t, b.v, b.e]
def Bk.cs (b : Bk) : List Value := intV b.l

end Go.Proofs.YtbiedfkmmcaplaaGreatDoor

namespace Go.Proofs.YtbiedfkmmcaplaaGreatDoor
open Go.RowKit
attribute [local go_sem] Oper.semAt_some

def Ans.rs (a : Ans) : List Value := intV a.l
theorem joinB_size (sep : ByteArray) (ss : List ByteArray) : (joinB sep ss).size ≤ bytesOf ss + ss.length * sep.size := by
  have := join_len sep.data.toList (ss.map (·.data.toList))
  have e1 : ((ss.map (·.data.toList)).map List.length).sum = bytesOf ss := by
    unfold bytesOf
    rw [List.map_map]
    congr 1
  rw [e1, List.length_map] at this
  exact this
end Go.Proofs.YtbiedfkmmcaplaaGreatDoor

namespace Go.Proofs.YtbiedfkmmcaplaaGreatDoor
open Go.RowKit
attribute [local go_sem] Oper.semAt_some

end Go.Proofs.YtbiedfkmmcaplaaGreatDoor

namespace Go.Proofs.YtbiedfkmmcaplaaGreatDoor
open Go.RowKit
attribute [local go_sem] Oper.semAt_some

end Go.Proofs.YtbiedfkmmcaplaaGreatDoor

namespace Go.Proofs.YtbiedfkmmcaplaaGreatDoor
open Go.RowKit
attribute [local go_sem] Oper.semAt_some

end Go.Proofs.YtbiedfkmmcaplaaGreatDoor

namespace Go.Proofs.YtbiedfkmmcaplaaGreatDoor
open Go.RowKit
attribute [local go_sem] Oper.semAt_some

theorem InV.of {w : World} {g : Nat} {vs : List Value} {cs : Array Value} {t : TypeId} (h : w.heap[g]? = some (.cells cs t (0, 0))) (hc : cs = vs.toArray) : InV w (some ⟨g, 0, none⟩) vs := fun h0 =>
  ⟨_, rfl, (Array.getElem?_eq_some_iff.1 h).1, fun i hi => by
    subst hc
    rw [show (⟨g, 0, none⟩ : Addr).add i = ⟨g, i, none⟩ by
      unfold Addr.add
      split
      · next h0 => simp [h0]
      · simp]
    rw [cell_of_row _ _ i _ _ (0, 0) h]
    simp [hi]⟩

end Go.Proofs.YtbiedfkmmcaplaaGreatDoor

namespace Go.Proofs.YtbiedfkmmcaplaaGreatDoor
open Go.RowKit
attribute [local go_sem] Oper.semAt_some

end Go.Proofs.YtbiedfkmmcaplaaGreatDoor

namespace Go.Proofs.YtbiedfkmmcaplaaGreatDoor
open Go.RowKit
attribute [local go_sem] Oper.semAt_some

end Go.Proofs.YtbiedfkmmcaplaaGreatDoor

namespace Go.Proofs.YtbiedfkmmcaplaaGreatDoor
open Go.RowKit

def tailB (sep : ByteArray) : List ByteArray → ByteArray
  | [] => ⟨#[]⟩
  | y :: l => sep ++ y ++ tailB sep l
end Go.Proofs.YtbiedfkmmcaplaaGreatDoor
