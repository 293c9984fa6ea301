/- A range over a function: a law where the iterator keeps a state of its own in variables, and the loop's variables may be boxed. No program is imported. -/
import Derived.Test.YtmpfbkeamihjbaaGreatP3
import Derived.RangeFuncNested
import Derived.RangeFuncBound
import Derived.RangeFuncCalls
import Derived.RangeFuncLeaves
import Derived.Shelf.Abstract
import Derived.Shelf.RegionOpen
import Derived.WalkKit
import Derived.OwnWalkIn
import Derived.TacticsInMore
import Derived.LoopNIn
import Derived.LoopIn
set_option linter.unusedSimpArgs false
set_option linter.unusedVariables false
namespace Go.Proofs.YtmpfbkeamihjbaaGreat
open Go.RowKit

/-- from block B on all that was there is as it was -/
structure Upper (B : Nat) (W W' : World) : Prop where
  size : W.heap.size ≤ W'.heap.size
  block : ∀ k, B ≤ k → k < W.heap.size → W'.heap[k]? = W.heap[k]?
theorem Upper.refl (B : Nat) (W : World) : Upper B W W := ⟨Nat.le_refl _, fun _ _ _ => rfl⟩
theorem Upper.trans {B : Nat} {X Y Z : World} (h : Upper B X Y) (h' : Upper B Y Z) : Upper B X Z :=
  ⟨Nat.le_trans h.size h'.size, fun k h1 h2 => (h'.block k h1 (Nat.lt_of_lt_of_le h2 h.size)).trans (h.block k h1 h2)⟩
theorem Upper.of_below {B : Nat} {W W' : World} (h : Below W.heap.size W W') : Upper B W W' := ⟨h.size, fun k _ h2 => h.block k h2⟩
theorem Upper.up {B B' : Nat} {W W' : World} (h : Upper B W W') (hB : B ≤ B') : Upper B' W W' := ⟨h.size, fun k h1 h2 => h.block k (Nat.le_trans hB h1) h2⟩
theorem Upper.exc {B k : Nat} {W W' : World} (h : Exc k W W') (hk : k < B) : Upper B W W' := ⟨h.size, fun b h1 h2 => h.other b h2 (by omega)⟩
/-- the loop's record has turned, no more -/
structure Turned (l : Nat) (W W' : World) : Prop where
  os : W'.os = W.os
  tape : W'.tape = W.tape
  output : W'.output = W.output
  size : W'.heap.size = W.heap.size
  block : ∀ k, k ≠ l → W'.heap[k]? = W.heap[k]?
theorem turned_put (W : World) (l : Nat) (o : Obj) : Turned l W (W.putObj l o) := ⟨rfl, rfl, rfl, World.putObj_size, fun _ hk => World.putObj_heap_other hk⟩
theorem Turned.low {l B : Nat} {W W' : World} (h : Turned l W W') (hl : B ≤ l) : Below B W W' := ⟨h.os, h.tape, h.output, Nat.le_of_eq h.size.symm, fun k hk => h.block k (by omega)⟩
theorem Turned.up {l B : Nat} {W W' : World} (h : Turned l W W') (hl : l < B) : Upper B W W' := ⟨Nat.le_of_eq h.size.symm, fun k hk _ => h.block k (by omega)⟩
theorem kt {l k : Nat} {W W' : World} {cs : Array Value} {t : TypeId} (ht : Turned l W W') (h : W.heap[k]? = some (.cells cs t (0, 0))) (hk : k ≠ l) : W'.heap[k]? = some (.cells cs t (0, 0)) := (ht.block k hk).trans h

section
variable {P : Program}
/-- the contract of a function whose body holds such a loop -/
theorem calls_of_wp_marks {f : FuncId} {fn : Func} {c : Code} {args : Array Value} {w : World} {R : Ending → World → Prop} (hf : P.funcs[f]? = some fn) (hb : fn.body = some c)
    (h : c.wp P (bodyPostM Fence.wide 3 P fn R) { tmps := args ++ Array.replicate (fn.ntmps - args.size) undef, defers := [] } w) : Calls P f args w R :=
  (callsIn_wide (n := 3)).1 (callsIn_of_wp_marks hf hb trivial (wpIn_wide.2 h))

/-- its return -/
theorem marks_ret {fn : Func} {R : Ending → World → Prop} {a : Act} {w : World} {D : Nat} {v : Value} (hd : a.defers = [{ target := .collected D, args := #[] }]) (hD : w.heap[D]? = some (.deferred (some [])))
    (hr : (results fn a.tmps).run P (w.putObj D (.deferred none)) = .ok v (w.putObj D (.deferred none))) (hR : R (.returned v) (w.putObj D (.deferred none))) : bodyPostM Fence.wide 3 P fn R .ret a w := by
  unfold bodyPostM
  simp only [hd]
  exact ⟨by simp, .inl ⟨D, _, rfl, run_takeDeferred hD, _, hr, hR⟩⟩
end
end Go.Proofs.YtmpfbkeamihjbaaGreat
