/- Doors: plain arithmetic. (door).take, told by plain arithmetic; (door).line. A range over a function: a law where the iterator keeps a state of its own in variables, and the loop's variables may be boxed. No program is imported. swing.doors at this program. -/
import Derived.Test.YtpimkigbdjfjoaaDoorSwing2
import Derived.Test.YtpimkigbdjfjoaaDoorLineLowestP
import Derived.Test.YtpimkigbdjfjoaaDoorP3
import Derived.RangeFuncNested
import Derived.RangeFuncBound
import Derived.RangeFuncCalls
import Derived.RangeFuncLeaves
import Derived.Shelf.Abstract
import Derived.Shelf.RegionOpen
import Derived.WalkKit
import Derived.OwnWalkIn
import Derived.TacticsInMore
import Derived.LoopNIn
import Derived.LoopIn
set_option linter.unusedSimpArgs false
set_option linter.unusedVariables false
namespace Go.Proofs.YtpimkigbdjfjoaaDoor
open Go.RowKit

def drTake (d : Dr) (b : Bd) : Dr :=
  if d.many = 0 then { d with t := b.t, v := hgB b, many := 1 } else
    { d with
      n0 := if d.many = 1 ∨ d.n0 * lwD (b.lo - d.v) (b.t - d.t) < lwN (b.lo - d.v) (b.t - d.t) * d.d0 then lwN (b.lo - d.v) (b.t - d.t) else d.n0
      d0 := if d.many = 1 ∨ d.n0 * lwD (b.lo - d.v) (b.t - d.t) < lwN (b.lo - d.v) (b.t - d.t) * d.d0 then lwD (b.lo - d.v) (b.t - d.t) else d.d0
      n1 := if d.many = 1 ∨ lwN (b.hi - d.v) (b.t - d.t) * d.d1 < d.n1 * lwD (b.hi - d.v) (b.t - d.t) then lwN (b.hi - d.v) (b.t - d.t) else d.n1
      d1 := if d.many = 1 ∨ lwN (b.hi - d.v) (b.t - d.t) * d.d1 < d.n1 * lwD (b.hi - d.v) (b.t - d.t) then lwD (b.hi - d.v) (b.t - d.t) else d.d1
      many := d.many + 1 }
def drOpen (d : Dr) : Bool := decide (d.many = 1 ∨ d.n0 * d.d1 ≤ d.n1 * d.d0)
def dr0 : Dr := ⟨0, 0, 0, 0, 0, 0, 0⟩

/-- a slope that may be, in lowest terms -/
def Low (N D : Int) : Prop := slB N D = true ∧ lwN N D = N ∧ lwD N D = D
/-- a door that has taken bands, the last of them at a time -/
structure DrOk (d : Dr) (last : Int) : Prop where
  m1 : 1 ≤ d.many
  m2 : d.many ≤ 1000
  t0 : 0 ≤ d.t
  tl : d.t ≤ last
  ts : last ≤ 281474976710656
  v : bkB d.v = true
  one : d.many = 1 → d.n0 = 0 ∧ d.d0 = 0 ∧ d.n1 = 0 ∧ d.d1 = 0
  two : d.many ≠ 1 → Low d.n0 d.d0 ∧ Low d.n1 d.d1

theorem hgB_mid {b : Bd} (h : b.lo ≤ b.hi) : b.lo ≤ hgB b ∧ hgB b ≤ b.hi := by unfold hgB; omega
theorem bk_of {v : Int} (h1 : -2305844108725321728 ≤ v) (h2 : v ≤ 2305844108725321728) : bkB v = true := decide_eq_true ⟨h1, h2⟩
theorem bdB_spec {last : Int} {b : Bd} (h : bdB last b = true) : last < b.t ∧ b.t ≤ 281474976710656 ∧ b.lo ≤ b.hi ∧ bkB b.lo = true ∧ bkB b.hi = true := by
  unfold bdB at h
  simp only [Bool.and_eq_true, decide_eq_true_eq] at h
  exact ⟨h.1.1.1.1, h.1.1.1.2, h.1.1.2, h.1.2, h.2⟩
theorem hg_bk {last : Int} {b : Bd} (h : bdB last b = true) : bkB (hgB b) = true := by
  obtain ⟨_, _, h3, h4, h5⟩ := bdB_spec h
  have := hgB_mid h3
  have := bkB_spec h4
  have := bkB_spec h5
  exact bk_of (by omega) (by omega)
theorem slope_sl {d : Dr} {last : Int} {b : Bd} (hd : DrOk d last) (h : bdB last b = true) {x : Int} (hx : bkB x = true) : slB (x - d.v) (b.t - d.t) = true := by
  obtain ⟨h1, h2, h3, h4, h5⟩ := bdB_spec h
  obtain ⟨m1, m2, t0, tl, ts, v, _, _⟩ := hd
  have := bkB_spec v
  have := bkB_spec hx
  exact decide_eq_true ⟨by omega, by omega, by omega, by omega⟩
theorem low_low {N D : Int} (h : slB N D = true) : Low (lwN N D) (lwD N D) := ⟨low_sl h, low_idem (slB_spec h).1⟩

theorem DrOk.first {b : Bd} (h : bdB (-1) b = true) : DrOk (drTake dr0 b) b.t := by
  obtain ⟨h1, h2, h3, h4, h5⟩ := bdB_spec h
  have e : drTake dr0 b = ⟨b.t, hgB b, 0, 0, 0, 0, 1⟩ := rfl
  rw [e]
  exact ⟨Int.le_refl 1, (by decide : (1 : Int) ≤ 1000), by show 0 ≤ b.t; omega, Int.le_refl _, h2, hg_bk h, fun _ => ⟨rfl, rfl, rfl, rfl⟩, fun h => absurd rfl h⟩
theorem DrOk.next {d : Dr} {last : Int} {b : Bd} (hd : DrOk d last) (h : bdB last b = true) (hm : d.many < 1000) : DrOk (drTake d b) b.t := by
  have s0 := low_low (slope_sl hd h (bdB_spec h).2.2.2.1)
  have s1 := low_low (slope_sl hd h (bdB_spec h).2.2.2.2)
  obtain ⟨h1, h2, h3, h4, h5⟩ := bdB_spec h
  obtain ⟨m1, m2, t0, tl, ts, v, one, two⟩ := hd
  have n0 : ¬ d.many = 0 := by omega
  unfold drTake
  rw [if_neg n0]
  refine ⟨by show 1 ≤ d.many + 1; omega, by show d.many + 1 ≤ 1000; omega, t0, by show d.t ≤ b.t; omega, h2, v, fun h => ?_, fun _ => ?_⟩
  · have h' : d.many + 1 = 1 := h
    omega
  · dsimp only
    by_cases e1 : d.many = 1
    · simp only [e1, true_or, if_true]
      exact ⟨s0, s1⟩
    · obtain ⟨k0, k1⟩ := two e1
      constructor
      · split
        · exact s0
        · exact k0
      · split
        · exact s1
        · exact k1

theorem eqP_cross {a b c d : Int} (h : Low a b) (h' : Low c d) : (eqP a b c d || decide (cmpI (a * d) (c * b) < 0)) = decide (a * d ≤ c * b) := by
  have k : (a = c ∧ b = d) ↔ a * d = c * b := by
    constructor
    · rintro ⟨rfl, rfl⟩; rfl
    · intro e
      have := low_uniq (slB_spec h.1).1 (slB_spec h'.1).1 e
      rw [h.2.1, h.2.2, h'.2.1, h'.2.2] at this
      exact this
  have ke : decide (a = c ∧ b = d) = decide (a * d = c * b) := decide_eq_decide.2 k
  unfold eqP cmpI
  rw [ke]
  rcases Int.lt_trichotomy (a * d) (c * b) with h1 | h1 | h1
  · rw [if_pos h1]; simp; omega
  · simp [h1]
  · rw [if_neg (by omega), if_neg (by omega)]; simp; omega
theorem cmp_pos (a b : Int) : decide (0 < cmpI a b) = decide (b < a) := by
  unfold cmpI
  split
  · rw [decide_eq_decide]; omega
  · split <;> rw [decide_eq_decide] <;> omega
theorem cmp_neg (a b : Int) : decide (cmpI a b < 0) = decide (a < b) := by
  unfold cmpI
  split
  · rw [decide_eq_decide]; omega
  · split <;> rw [decide_eq_decide] <;> omega
end Go.Proofs.YtpimkigbdjfjoaaDoor

namespace Go.Proofs.YtpimkigbdjfjoaaDoor
open Go.RowKit

theorem slope_rg {d : Dr} {last : Int} {b : Bd} (hd : DrOk d last) (h : bdB last b = true) {x : Int} (hx : bkB x = true) :
    (-9223372036854775808 ≤ x - d.v ∧ x - d.v ≤ 9223372036854775807) ∧ (-9223372036854775808 ≤ b.t - d.t ∧ b.t - d.t ≤ 9223372036854775807) := by
  have := slB_spec (slope_sl hd h hx)
  omega

theorem door_take_2 (g : Nat) (d : Dr) (last : Int) (b : Bd) (hd : DrOk d last) (h : bdB last b = true) (hm : d.many = 1) (w : World) (hg : w.heap[g]? = some (.cells d.cs 120 (0, 0))) :
    Calls Tryd.prog 131 #[.pointer (some ⟨g, 0, none⟩), .agg #[.int .i64 b.t, .int .i64 b.lo, .int .i64 b.hi]] w fun x w' => x = .returned (.bool (drOpen (drTake d b))) ∧ Exc g w w' ∧
      w'.heap[g]? = some (.cells (drTake d b).cs 120 (0, 0)) := by
  have hb := bdB_spec h
  have s0 := slope_sl hd h hb.2.2.2.1
  have s1 := slope_sl hd h hb.2.2.2.2
  obtain ⟨⟨x1, x2⟩, x3, x4⟩ := slope_rg hd h hb.2.2.2.1
  obtain ⟨⟨y1, y2⟩, y3, y4⟩ := slope_rg hd h hb.2.2.2.2
  have l0 := low_low s0
  have l1 := low_low s1
  obtain ⟨z0, z1, z2, z3⟩ := hd.one hm
  have hz : ¬ (slB (lwN (b.lo - d.v) (b.t - d.t)) (lwD (b.lo - d.v) (b.t - d.t)) = true ∧ slB 0 0 = true) := fun h => absurd h.2 (by decide)
  have hz' : ¬ (slB (lwN (b.hi - d.v) (b.t - d.t)) (lwD (b.hi - d.v) (b.t - d.t)) = true ∧ slB 0 0 = true) := fun h => absurd h.2 (by decide)
  have e : (drTake d b).cs = #[.int .i64 d.t, .int .i64 d.v, .int .i64 (lwN (b.lo - d.v) (b.t - d.t)), .int .i64 (lwD (b.lo - d.v) (b.t - d.t)), .int .i64 (lwN (b.hi - d.v) (b.t - d.t)), .int .i64 (lwD (b.hi - d.v) (b.t - d.t)), .int .i64 2] := by
    unfold drTake Dr.cs
    rw [if_neg (by omega)]
    simp [hm]
  have eo : drOpen (drTake d b) = (eqP (lwN (b.lo - d.v) (b.t - d.t)) (lwD (b.lo - d.v) (b.t - d.t)) (lwN (b.hi - d.v) (b.t - d.t)) (lwD (b.hi - d.v) (b.t - d.t)) || decide (cmpI (lwN (b.lo - d.v) (b.t - d.t) * lwD (b.hi - d.v) (b.t - d.t)) (lwN (b.hi - d.v) (b.t - d.t) * lwD (b.lo - d.v) (b.t - d.t)) < 0)) := by
    rw [eqP_cross l0 l1]
    unfold drOpen drTake
    rw [if_neg (by omega)]
    simp [hm]
  rw [e, eo]
  have e0 : d.cs = #[.int .i64 d.t, .int .i64 d.v, .int .i64 0, .int .i64 0, .int .i64 0, .int .i64 0, .int .i64 1] := by
    unfold Dr.cs
    rw [z0, z1, z2, z3, hm]
  rw [e0] at hg
  exact take_2 g d.t d.v 0 0 0 0 1 b.t b.lo b.hi _ _ _ _ 0 0 _ false false true _ (by decide) rfl
    (fun w hw => door_slope g d.t d.v 0 0 0 0 2 b.t b.lo b.hi b.lo s0 x1 x2 x3 x4 w hw) (fun w hw => door_slope g d.t d.v 0 0 0 0 2 b.t b.lo b.hi b.hi s1 y1 y2 y3 y4 w hw)
    (line_Compare_no _ _ _ _ hz) (line_Compare_no _ _ _ _ hz') (line_Compare_yes _ _ _ _ l0.1 l1.1) w hg

theorem door_take_3 (g : Nat) (d : Dr) (last : Int) (b : Bd) (hd : DrOk d last) (h : bdB last b = true) (hm : 2 ≤ d.many) (w : World) (hg : w.heap[g]? = some (.cells d.cs 120 (0, 0))) :
    Calls Tryd.prog 131 #[.pointer (some ⟨g, 0, none⟩), .agg #[.int .i64 b.t, .int .i64 b.lo, .int .i64 b.hi]] w fun x w' => x = .returned (.bool (drOpen (drTake d b))) ∧ Exc g w w' ∧
      w'.heap[g]? = some (.cells (drTake d b).cs 120 (0, 0)) := by
  have hb := bdB_spec h
  have s0 := slope_sl hd h hb.2.2.2.1
  have s1 := slope_sl hd h hb.2.2.2.2
  obtain ⟨⟨x1, x2⟩, x3, x4⟩ := slope_rg hd h hb.2.2.2.1
  obtain ⟨⟨y1, y2⟩, y3, y4⟩ := slope_rg hd h hb.2.2.2.2
  have l0 := low_low s0
  have l1 := low_low s1
  obtain ⟨k0, k1⟩ := hd.two (by omega)
  have m2 := hd.m2
  have c0 := fun w hw => door_slope g d.t d.v d.n0 d.d0 d.n1 d.d1 (d.many + 1) b.t b.lo b.hi b.lo s0 x1 x2 x3 x4 w hw
  have c1 := fun w hw => door_slope g d.t d.v d.n0 d.d0 d.n1 d.d1 (d.many + 1) b.t b.lo b.hi b.hi s1 y1 y2 y3 y4 w hw
  have n0 : ¬ d.many = 0 := by omega
  have n1 : ¬ d.many = 1 := by omega
  have n2 : ¬ d.many + 1 = 1 := by omega
  have f1 := fun b0 => cmp_pos (lwN (b.lo - d.v) (b.t - d.t) * d.d0) (d.n0 * lwD (b.lo - d.v) (b.t - d.t)) |>.trans (b := decide (d.n0 * lwD (b.lo - d.v) (b.t - d.t) < lwN (b.lo - d.v) (b.t - d.t) * d.d0)) (c := b0)
  have f2 := fun b0 => cmp_neg (lwN (b.hi - d.v) (b.t - d.t) * d.d1) (d.n1 * lwD (b.hi - d.v) (b.t - d.t)) |>.trans (b := decide (lwN (b.hi - d.v) (b.t - d.t) * d.d1 < d.n1 * lwD (b.hi - d.v) (b.t - d.t))) (c := b0)
  unfold drOpen drTake
  rw [if_neg n0]
  simp only [n1, n2, false_or]
  by_cases p : d.n0 * lwD (b.lo - d.v) (b.t - d.t) < lwN (b.lo - d.v) (b.t - d.t) * d.d0 <;> by_cases q : lwN (b.hi - d.v) (b.t - d.t) * d.d1 < d.n1 * lwD (b.hi - d.v) (b.t - d.t)
  · simp only [if_pos p, if_pos q]
    exact take_tt g d.t d.v d.n0 d.d0 d.n1 d.d1 d.many b.t b.lo b.hi _ _ _ _ _ _ _ true true true _ hm (f1 _ (decide_eq_true p)) (f2 _ (decide_eq_true q)) (by omega) (eqP_cross l0 l1) c0 c1
      (line_Compare_yes _ _ _ _ l0.1 k0.1) (line_Compare_yes _ _ _ _ l1.1 k1.1) (line_Compare_yes _ _ _ _ l0.1 l1.1) w hg
  · simp only [if_pos p, if_neg q]
    exact take_tf g d.t d.v d.n0 d.d0 d.n1 d.d1 d.many b.t b.lo b.hi _ _ _ _ _ _ _ true true true _ hm (f1 _ (decide_eq_true p)) (f2 _ (decide_eq_false q)) (by omega) (eqP_cross l0 k1) c0 c1
      (line_Compare_yes _ _ _ _ l0.1 k0.1) (line_Compare_yes _ _ _ _ l1.1 k1.1) (line_Compare_yes _ _ _ _ l0.1 k1.1) w hg
  · simp only [if_neg p, if_pos q]
    exact take_ft g d.t d.v d.n0 d.d0 d.n1 d.d1 d.many b.t b.lo b.hi _ _ _ _ _ _ _ true true true _ hm (f1 _ (decide_eq_false p)) (f2 _ (decide_eq_true q)) (by omega) (eqP_cross k0 l1) c0 c1
      (line_Compare_yes _ _ _ _ l0.1 k0.1) (line_Compare_yes _ _ _ _ l1.1 k1.1) (line_Compare_yes _ _ _ _ k0.1 l1.1) w hg
  · simp only [if_neg p, if_neg q]
    exact take_ff g d.t d.v d.n0 d.d0 d.n1 d.d1 d.many b.t b.lo b.hi _ _ _ _ _ _ _ true true true _ hm (f1 _ (decide_eq_false p)) (f2 _ (decide_eq_false q)) (by omega) (eqP_cross k0 k1) c0 c1
      (line_Compare_yes _ _ _ _ l0.1 k0.1) (line_Compare_yes _ _ _ _ l1.1 k1.1) (line_Compare_yes _ _ _ _ k0.1 k1.1) w hg

/-- a door that may take the next band -/
def DrAt (d : Dr) (last : Int) : Prop := (d = dr0 ∧ last = -1) ∨ DrOk d last
theorem DrAt.next {d : Dr} {last : Int} {b : Bd} (hd : DrAt d last) (h : bdB last b = true) (hm : d.many < 1000) : DrOk (drTake d b) b.t := by
  rcases hd with ⟨rfl, rfl⟩ | hd
  · exact DrOk.first h
  · exact hd.next h hm

theorem door_take (g : Nat) (d : Dr) (last : Int) (b : Bd) (hd : DrAt d last) (h : bdB last b = true) (w : World) (hg : w.heap[g]? = some (.cells d.cs 120 (0, 0))) :
    Calls Tryd.prog 131 #[.pointer (some ⟨g, 0, none⟩), .agg #[.int .i64 b.t, .int .i64 b.lo, .int .i64 b.hi]] w fun x w' => x = .returned (.bool (drOpen (drTake d b))) ∧ Exc g w w' ∧
      w'.heap[g]? = some (.cells (drTake d b).cs 120 (0, 0)) := by
  have hb := bdB_spec h
  rcases hd with ⟨rfl, rfl⟩ | hd
  · exact take_1 g 0 0 0 0 0 0 b hb.2.2.2.1 hb.2.2.2.2 w hg
  · by_cases hm : d.many = 1
    · exact door_take_2 g d last b hd h hm w hg
    · exact door_take_3 g d last b hd h (by have := hd.m1; omega) w hg
end Go.Proofs.YtpimkigbdjfjoaaDoor

namespace Go.Proofs.YtpimkigbdjfjoaaDoor
open Go.RowKit

/-- from block B on all that was there is as it was -/
structure Upper (B : Nat) (W W' : World) : Prop where
  size : W.heap.size ≤ W'.heap.size
  block : ∀ k, B ≤ k → k < W.heap.size → W'.heap[k]? = W.heap[k]?
theorem Upper.refl (B : Nat) (W : World) : Upper B W W := ⟨Nat.le_refl _, fun _ _ _ => rfl⟩
theorem Upper.trans {B : Nat} {X Y Z : World} (h : Upper B X Y) (h' : Upper B Y Z) : Upper B X Z :=
  ⟨Nat.le_trans h.size h'.size, fun k h1 h2 => (h'.block k h1 (Nat.lt_of_lt_of_le h2 h.size)).trans (h.block k h1 h2)⟩
theorem Upper.of_below {B : Nat} {W W' : World} (h : Below W.heap.size W W') : Upper B W W' := ⟨h.size, fun k _ h2 => h.block k h2⟩
theorem Upper.up {B B' : Nat} {W W' : World} (h : Upper B W W') (hB : B ≤ B') : Upper B' W W' := ⟨h.size, fun k h1 h2 => h.block k (Nat.le_trans hB h1) h2⟩
theorem Upper.exc {B k : Nat} {W W' : World} (h : Exc k W W') (hk : k < B) : Upper B W W' := ⟨h.size, fun b h1 h2 => h.other b h2 (by omega)⟩
theorem ku {B k : Nat} {W W' : World} {cs : Array Value} {t : TypeId} (hu : Upper B W W') (h : W.heap[k]? = some (.cells cs t (0, 0))) (hk : B ≤ k) : W'.heap[k]? = some (.cells cs t (0, 0)) := (hu.block k hk (rcell h).2.2).trans h

/-- the loop's record has turned, no more -/
structure Turned (l : Nat) (W W' : World) : Prop where
  os : W'.os = W.os
  tape : W'.tape = W.tape
  output : W'.output = W.output
  size : W'.heap.size = W.heap.size
  block : ∀ k, k ≠ l → W'.heap[k]? = W.heap[k]?
theorem turned_put (W : World) (l : Nat) (o : Obj) : Turned l W (W.putObj l o) := ⟨rfl, rfl, rfl, World.putObj_size, fun _ hk => World.putObj_heap_other hk⟩
theorem Turned.low {l B : Nat} {W W' : World} (h : Turned l W W') (hl : B ≤ l) : Below B W W' := ⟨h.os, h.tape, h.output, Nat.le_of_eq h.size.symm, fun k hk => h.block k (by omega)⟩
theorem Turned.up {l B : Nat} {W W' : World} (h : Turned l W W') (hl : l < B) : Upper B W W' := ⟨Nat.le_of_eq h.size.symm, fun k hk _ => h.block k (by omega)⟩
theorem kt {l k : Nat} {W W' : World} {cs : Array Value} {t : TypeId} (ht : Turned l W W') (h : W.heap[k]? = some (.cells cs t (0, 0))) (hk : k ≠ l) : W'.heap[k]? = some (.cells cs t (0, 0)) := (ht.block k hk).trans h

/-- what an iterator promises -/
def SeqU {α : Type} (P : Program) (g : Nat) (lb : Array Value) (encs : α → Array Value) (Kr : World → Prop) (S Sp : List α → Prop) (N : Nat) (w : World) : Prop :=
  ∀ (l : Nat) (J Jx : List α → World → Prop) (W : World), Below w.heap.size w W → l < W.heap.size → (∀ s X Y, J s X → Below W.heap.size X Y → J s Y) → (∀ s X Y, Jx s X → Below W.heap.size X Y → Jx s Y) → (∀ s X, J s X → Kr X) →
    (∀ pre x W1, J pre W1 → W.heap.size ≤ W1.heap.size → pre.length < N → YieldAt Fence.wide 1 P l (encs x) W1 fun e W' =>
      (e = .returned (.bool true) ∧ J (pre ++ [x]) W' ∧ Upper W.heap.size W1 W') ∨ (e = .returned (.bool false) ∧ Jx (pre ++ [x]) W')) →
    J [] W →
    CallsIn Fence.wide 2 P g (#[.func (.yield l) #[] #[]] ++ lb) W fun e W' => (∃ v, e = .returned v) ∧ ((∃ xs, S xs ∧ J xs W') ∨ (∃ pre, Sp pre ∧ Jx pre W'))

/-- how a round's body may be left -/
def postU {α : Type} (B : Nat) (I : List α → World → Prop) (Ix : Code → List α → World → Prop) (xs : List α) (W : World) : Exit → Act → World → Prop
  | .normal, _, W' => Upper B W W' ∧ I xs W'
  | .ret, _, W' => Upper B W W' ∧ Ix .ret xs W'
  | .exit id, _, W' => Upper B W W' ∧ Ix (.exit id) xs W'
  | .goto t, _, W' => Upper B W W' ∧ Ix (.goto t) xs W'
  | .panic _, _, _ => False
  | .outgrown, _, _ => False

section
variable {P : Program}
/-- THE LAW -/
theorem wp_rangeFunc_seq {α : Type} {g : Operand} {ps : Array Tmp} {assign body : Code} {Q : Exit → Act → World → Prop} {a : Act} {w : World}
    {gf : Nat} {lb : Array Value} (hg : a.eval g = .func (.func gf) #[] lb) (eg : ∀ args w, (callFunc gf args).run P w = .ok (.enter gf args) w)
    {encs : α → Array Value} {Kr : World → Prop} {S Sp : List α → Prop} {N : Nat} (hseq : SeqU P gf lb encs Kr S Sp N w) (hps : ∀ x, (encs x).size = ps.size)
    (I : List α → World → Prop) (Ix : Code → List α → World → Prop) (hI : ∀ s X Y, I s X → Below w.heap.size X Y → I s Y) (hIx : ∀ c s X Y, Ix c s X → Below w.heap.size X Y → Ix c s Y) (hIr : ∀ s X, I s X → Kr X) (h0 : I [] w)
    (hround : ∀ (l : Nat) (pre : List α) (x : α) (W : World) (K : Act → World → Prop), w.heap.size ≤ l → l < W.heap.size → I pre W → pre.length < N →
      (∀ a' W₁, Below W.heap.size W W₁ → (∀ W₂, Turned l W₁ W₂ → body.wpIn (Fence.wide.inRound l) 1 P (postU w.heap.size I Ix (pre ++ [x]) W₂) a' W₂) → K a' W₁) →
      assign.wpIn (Fence.wide.inRound l) 1 P (Exit.then K (fun _ _ _ => False)) { tmps := (ps.zip (encs x)).foldl (fun t (p, v) => t.setIfInBounds p v) a.tmps, defers := [] } W)
    (hdone : ∀ (D : Nat) (xs : List α) (W : World), w.heap.size ≤ D → S xs → I xs W → W.heap[D]? = some (.deferred (some [])) → Q .normal { a with defers := { target := .collected D, args := #[] } :: a.defers } W)
    (hstop : ∀ (D : Nat) (c : Code) (pre : List α) (W : World), w.heap.size ≤ D → Sp pre → Ix c pre W → W.heap[D]? = some (.deferred (some [])) → c.wp P Q { a with defers := { target := .collected D, args := #[] } :: a.defers } W) :
    (Code.rangeFunc g ps assign body).wp P Q a w := by
  refine (wpIn_wide (n := 3)).1 (wpIn_rangeFunc ?_)
  intro fn hfn
  show ∃ (l : Nat) (mark : List Deferred) (w₁ : World) (d : Deferred) (w₁' : World) (f : FuncId) (args : Array Value) (w₂ : World),
      (Instr.enterLoop fn a.tmps ps assign body none).run P w = .ok (l, mark) w₁ ∧ _
  obtain ⟨rec, hrec⟩ : ∃ rec : LoopState → Option Code → Loop, rec = fun st pe => { state := st, pending := pe, fn, tmps := a.tmps, params := ps, assign, body, defers := w.heap.size } := ⟨_, rfl⟩
  obtain ⟨W1, hW1⟩ : ∃ W1, (w.alloc (.deferred (some []))).alloc (.loop (rec .ready none)) = W1 := ⟨_, rfl⟩
  have hL1 : W1.heap[w.heap.size + 1]? = some (.loop (rec .ready none)) := by
    rw [← hW1]; have := World.alloc_heap_new (w.alloc (.deferred (some []))) (.loop (rec .ready none)); rwa [World.size_alloc] at this
  have hK1 : W1.heap[w.heap.size]? = some (.deferred (some [])) := by
    rw [← hW1]; exact (Below.heap_alloc _ _ _ (by simp)).trans (World.alloc_heap_new w _)
  have hs1 : W1.heap.size = w.heap.size + 2 := by rw [← hW1]; simp
  have hb1 : Below w.heap.size w W1 := by
    rw [← hW1]; exact ((Below.refl _ w).alloc (Nat.le_refl _) _).alloc (by simp) _
  refine ⟨w.heap.size + 1, [{ target := .collected w.heap.size, args := #[] }], W1, { target := .fn (.func gf) lb, args := #[.func (.yield (w.heap.size + 1)) #[] #[]] }, W1, gf,
    #[.func (.yield (w.heap.size + 1)) #[] #[]] ++ lb, W1, ?_, ?_, ?_, ?_, fun _ => by omega, ?_⟩
  · rw [← hW1, hrec]; exact run_enterLoop_outer _ _ _ _ _
  · simp only [resolve, hg]
    simp [go_sem]
  · intro f' hf'; trivial
  · simp [invoke, go_sem, eg]
  · refine (hseq (w.heap.size + 1)
      (fun pre W => I pre W ∧ W.heap[w.heap.size + 1]? = some (.loop (rec .ready none)) ∧ W.heap[w.heap.size]? = some (.deferred (some [])))
      (fun pre W => ∃ c, Ix c pre W ∧ W.heap[w.heap.size + 1]? = some (.loop (rec .done (some c))) ∧ W.heap[w.heap.size]? = some (.deferred (some [])))
      W1 hb1 (by omega)
      (fun s X Y hs hb => ⟨hI s X Y hs.1 (hb.mono (by omega)), (hb.block _ (by omega)).trans hs.2.1, (hb.block _ (by omega)).trans hs.2.2⟩)
      (fun s X Y hs hb => by
        obtain ⟨c, hc, hl, hk⟩ := hs
        exact ⟨c, hIx c s X Y hc (hb.mono (by omega)), (hb.block _ (by omega)).trans hl, (hb.block _ (by omega)).trans hk⟩)
      (fun s X hs => hIr s X hs.1)
      ?_ ⟨hI [] _ _ h0 hb1, hL1, hK1⟩).mono ?_
    · -- one round
      rintro pre x W ⟨hi, hl, hk⟩ hW1s hlen
      have hlt : w.heap.size + 1 < W.heap.size := (Array.getElem?_eq_some_iff.1 hl).1
      have hy := run_yield (P := P) (args := encs x) hl (by rw [hrec]; exact hps x)
      rw [hrec] at hy
      refine ⟨fn, _, assign, body, hy, roundIn_of_wpIn trivial (hround _ pre x W _ (by omega) hlt hi hlen ?_)⟩
      clear hy
      intro a' Wa hba hbody
      have hla := (hba.block _ hlt).trans hl
      have hka := (hba.block _ (by omega)).trans hk
      refine ⟨_, run_beginRound hla (by rw [hrec]), ?_⟩
      refine wpIn_mono (hbody _ (turned_put _ _ _)) ?_
      have hlta : w.heap.size + 1 < Wa.heap.size := (Array.getElem?_eq_some_iff.1 hla).1
      have hl2 : (Wa.putObj (w.heap.size + 1) (.loop { rec .ready none with state := .busy })).heap[w.heap.size + 1]? = some (.loop { rec .ready none with state := .busy }) := World.putObj_heap_same hlta
      have hk2 : (Wa.putObj (w.heap.size + 1) (.loop { rec .ready none with state := .busy })).heap[w.heap.size]? = some (.deferred (some [])) := (World.putObj_heap_other (by omega)).trans hka
      have hsz : (Wa.putObj (w.heap.size + 1) (.loop { rec .ready none with state := .busy })).heap.size = Wa.heap.size := World.putObj_size
      have fin : ∀ (jump : Option Code) (W3 : World), Upper w.heap.size (Wa.putObj (w.heap.size + 1) (.loop { rec .ready none with state := .busy })) W3 →
          (Instr.endRound (w.heap.size + 1) jump).run P W3 = .ok (.bool jump.isNone) (W3.putObj (w.heap.size + 1) (.loop (rec (if jump.isNone then .ready else .done) jump))) ∧
          (W3.putObj (w.heap.size + 1) (.loop (rec (if jump.isNone then .ready else .done) jump))).heap[w.heap.size + 1]? = some (.loop (rec (if jump.isNone then .ready else .done) jump)) ∧
          (W3.putObj (w.heap.size + 1) (.loop (rec (if jump.isNone then .ready else .done) jump))).heap[w.heap.size]? = some (.deferred (some [])) ∧
          Below w.heap.size W3 (W3.putObj (w.heap.size + 1) (.loop (rec (if jump.isNone then .ready else .done) jump))) := fun jump W3 hk3 => by
        have hl3 := (hk3.block _ (by omega) (by omega)).trans hl2
        have := run_endRound (P := P) jump hl3
        rw [hrec] at this ⊢
        exact ⟨this, World.putObj_heap_same (Array.getElem?_eq_some_iff.1 hl3).1, (World.putObj_heap_other (by omega)).trans ((hk3.block _ (Nat.le_refl _) (by omega)).trans hk2), (turned_put _ _ _).low (by omega)⟩
      rintro e a3 W3 hp
      cases e with
      | normal =>
        obtain ⟨hk3, hi3⟩ := hp
        obtain ⟨hr, hl4, hk4, hb4⟩ := fin none W3 hk3
        exact ⟨_, _, hr, .inl ⟨rfl, ⟨hI _ _ _ hi3 hb4, hl4, hk4⟩, ((((Upper.of_below hba).trans ((turned_put _ _ _).up (by omega))).trans (hk3.up (by omega))).trans ((turned_put _ _ _).up (by omega)))⟩⟩
      | ret =>
        obtain ⟨hk3, hi3⟩ := hp
        obtain ⟨hr, hl4, hk4, hb4⟩ := fin (some .ret) W3 hk3
        exact ⟨_, _, hr, .inr ⟨rfl, .ret, hIx _ _ _ _ hi3 hb4, hl4, hk4⟩⟩
      | exit id =>
        obtain ⟨hk3, hi3⟩ := hp
        obtain ⟨hr, hl4, hk4, hb4⟩ := fin (some (.exit id)) W3 hk3
        exact ⟨_, _, hr, .inr ⟨rfl, .exit id, hIx _ _ _ _ hi3 hb4, hl4, hk4⟩⟩
      | goto t =>
        obtain ⟨hk3, hi3⟩ := hp
        obtain ⟨hr, hl4, hk4, hb4⟩ := fin (some (.goto t)) W3 hk3
        exact ⟨_, _, hr, .inr ⟨rfl, .goto t, hIx _ _ _ _ hi3 hb4, hl4, hk4⟩⟩
      | panic ch => exact hp.elim
      | outgrown => exact hp.elim
    · -- behind the iterator
      rintro e W2 ⟨⟨v, rfl⟩, (⟨xs, hS, hi, hl, hk⟩ | ⟨pre, hSp, c, hi, hl, hk⟩)⟩
      · exact ⟨none, _, by have := run_endLoop (P := P) hl (by rw [hrec]; simp); rw [hrec] at this; exact this, hdone _ xs _ (Nat.le_refl _) hS (hI _ _ _ hi ((turned_put _ _ _).low (by omega))) ((World.putObj_heap_other (by omega)).trans hk)⟩
      · exact ⟨some c, _, by have := run_endLoop (P := P) hl (by rw [hrec]; simp); rw [hrec] at this; exact this, wpIn_wide.2 (hstop _ c pre _ (Nat.le_refl _) hSp (hIx _ _ _ _ hi ((turned_put _ _ _).low (by omega))) ((World.putObj_heap_other (by omega)).trans hk))⟩

/-- the contract of a function whose body holds such a loop -/
theorem calls_of_wp_marks {f : FuncId} {fn : Func} {c : Code} {args : Array Value} {w : World} {R : Ending → World → Prop} (hf : P.funcs[f]? = some fn) (hb : fn.body = some c)
    (h : c.wp P (bodyPostM Fence.wide 3 P fn R) { tmps := args ++ Array.replicate (fn.ntmps - args.size) undef, defers := [] } w) : Calls P f args w R :=
  (callsIn_wide (n := 3)).1 (callsIn_of_wp_marks hf hb trivial (wpIn_wide.2 h))

/-- its return -/
theorem marks_ret {fn : Func} {R : Ending → World → Prop} {a : Act} {w : World} {D : Nat} {v : Value} (hd : a.defers = [{ target := .collected D, args := #[] }]) (hD : w.heap[D]? = some (.deferred (some [])))
    (hr : (results fn a.tmps).run P (w.putObj D (.deferred none)) = .ok v (w.putObj D (.deferred none))) (hR : R (.returned v) (w.putObj D (.deferred none))) : bodyPostM Fence.wide 3 P fn R .ret a w := by
  unfold bodyPostM
  simp only [hd]
  exact ⟨by simp, .inl ⟨D, _, rfl, run_takeDeferred hD, _, hr, hR⟩⟩
end
end Go.Proofs.YtpimkigbdjfjoaaDoor

namespace Go.Proofs.YtpimkigbdjfjoaaDoor
open Go.RowKit
attribute [local go_sem] Oper.semAt_some

/-- what has come when k rounds are over -/
def upto {α : Type} (f : Nat → α) (k : Nat) : List α := (List.range k).map f
theorem upto_succ {α : Type} (f : Nat → α) (k : Nat) : upto f (k + 1) = upto f k ++ [f k] := by simp [upto, List.range_succ]
theorem upto_length {α : Type} (f : Nat → α) (k : Nat) : (upto f k).length = k := by simp [upto]

/-- the door behind the first k bands -/
def dk (l : List Bd) (k : Nat) : Dr := (l.take k).foldl drTake dr0
theorem dk_succ (l : List Bd) (k : Nat) (h : k < l.length) : dk l (k + 1) = drTake (dk l k) l[k] := by
  unfold dk
  rw [take_snoc l k h, List.foldl_append]; rfl
theorem dk_many (l : List Bd) (k : Nat) (h : k ≤ l.length) : (dk l k).many = k := by
  induction k with
  | zero => rfl
  | succ k ih =>
    rw [dk_succ l k h]
    have := ih (by omega)
    unfold drTake
    split
    · show (1 : Int) = _
      omega
    · show (dk l k).many + 1 = _
      rw [this]; omega
theorem dk_at (l : List Bd) (h : okF (-1) l = true) (hl : l.length ≤ 256) (k : Nat) (hk : k ≤ l.length) : DrAt (dk l k) (lastT (l.take k)) ∧ (0 < k → DrOk (dk l k) (lastT (l.take k))) := by
  induction k with
  | zero => exact ⟨.inl ⟨rfl, rfl⟩, fun h => absurd h (by omega)⟩
  | succ k ih =>
    have h1 := okF_pre (-1) l (k + 1) h
    rw [okF_take l k hk, Bool.and_eq_true] at h1
    have h2 := (ih (by omega)).1.next h1.2 (by rw [dk_many l k (by omega)]; omega)
    rw [dk_succ l k hk, take_snoc l k hk, lastT_snoc]
    exact ⟨.inr h2, fun _ => h2⟩
def dl (l : List Bd) (k : Nat) : Dr × Bool := (dk l (k + 1), drOpen (dk l (k + 1)))
def encD (x : Dr × Bool) : Array Value := #[.agg x.1.cs, .bool x.2]

set_option maxRecDepth 100000 in
theorem swing_doors (A : Option Addr) (n c : Nat) (w : World) :
    Calls Tryd.prog 124 #[.slice A n c] w fun e w' => e = .returned (.func (Fn.func 130) #[] #[.pointer (some ⟨w.heap.size, 0, none⟩)]) ∧ w' = w.alloc (.cells #[.slice A n c] 22) := by
  go_enter Tryd.func124, Tryd.ntmps124
  go_wp2
  go_ret
  exact ⟨rfl, rfl⟩

set_option maxRecDepth 100000 in
set_option maxHeartbeats 2000000 in
theorem doors_seq (Bs c : Nat) (A : Option Addr) (l : List Bd) (hok : okF (-1) l = true) (hl : l.length ≤ 256) (w : World) (hBs : w.heap[Bs]? = some (.cells #[.slice A l.length c] 22 (0, 0))) (h0 : 0 < l.length) :
    SeqU Tryd.prog 130 #[.pointer (some ⟨Bs, 0, none⟩)] encD (fun W => BR W A c l) (fun xs => xs = upto (dl l) l.length) (fun pre => ∃ k, k < l.length ∧ pre = upto (dl l) (k + 1)) l.length w := by
  intro l' J Jx W hW hl' hJ hJx hJr hY hJ0
  have hB := (hW.block _ (rcell hBs).2.2).trans hBs
  obtain ⟨g, o, cur, rfl, hg, -⟩ := (hJr _ _ hJ0).mem h0
  have zB := (rcell hB).1 0
  have zlt := (rcell hB).2.2
  simp at zB
  refine callsIn_of_wp Tryd.func130 rfl trivial ?_ rfl
  simp only [Tryd.ntmps130, List.size_toArray, List.length_cons, List.length_nil, Nat.reduceAdd, Nat.reduceSub, Array.replicate_succ, Array.replicate_zero, List.push_toArray, List.append_toArray, List.nil_append, List.cons_append]
  have hmf : ∀ (fn : Fn) (first cap : Array Value) (w : World), (Instr.makeFunc fn first cap).run Tryd.prog w = .ok (.func fn first cap) w := fun _ _ _ _ => rfl
  gi_wp2
  gi_loopw [11] (fun vi wr => ∃ k : Nat, vi = .int .i64 k ∧ k ≤ l.length ∧ wr.heap[W.heap.size]? = some (.cells (dk l k).cs 120 (0, 0)) ∧ J (upto (dl l) k) wr) (fun vi _ => l.length - (intOf vi).toNat)
  case atStart => exact ⟨0, rfl, by omega, na W _ _, hJ [] _ _ hJ0 (bA (b0 W) _)⟩
  case round =>
    obtain ⟨k, rfl, hk, hd, hj⟩ := hrel
    by_cases hlt : k < l.length
    · obtain ⟨g', o', e', z1, z2, z3⟩ := (hJr _ _ hj).at_ hlt
      obtain ⟨rfl, rfl⟩ : g = g' ∧ o = o' := by injection e' with e'; injection e' with e1 e2; exact ⟨e1, e2⟩
      clear e'
      have ht := okF_take l k hlt
      rw [okF_pre (-1) l (k + 1) hok] at ht
      have hbd : bdB (lastT (l.take k)) l[k] = true := by
        cases e : bdB (lastT (l.take k)) l[k]
        · rw [e, Bool.and_false] at ht; cases ht
        · rfl
      have hat := (dk_at l hok hl k hk).1
      have ct := fun w hw => door_take W.heap.size (dk l k) _ _ hat hbd w hw
      clear ht hbd hat
      have ed := dk_succ l k hlt
      rw [← ed] at ct
      have hYk := hY (upto (dl l) k) (dl l k)
      rw [← upto_succ] at hYk
      have ezl : encD (dl l k) = #[.agg (dk l (k + 1)).cs, .bool (drOpen (dk l (k + 1)))] := rfl
      rw [ezl] at hYk
      clear ezl ed
      generalize hgen : dk l (k + 1) = d' at *
      have HG := hide hgen
      clear hgen
      generalize l[k] = b at *
      obtain ⟨bt, bl, bh⟩ := b
      simp only at z1 z2 z3 ct
      gi_wp2
      refine ⟨trivial, (callsIn_wide.2 (ct _ (ka hd _))).mono ?_⟩
      rintro e w1 ⟨rfl, hx1, hd1⟩
      have hd2 : w1.heap[W.heap.size]? = some (.cells #[.int .i64 d'.t, .int .i64 d'.v, .int .i64 d'.n0, .int .i64 d'.d0, .int .i64 d'.n1, .int .i64 d'.d1, .int .i64 d'.many] 120 (0, 0)) := hd1
      have lD := (rcell hd).2.2
      have hlow : Below W.heap.size wr w1 := ((b0 wr).mono (Nat.le_of_lt lD) |>.alloc (Nat.le_of_lt lD) _).trans hx1.low
      have hj1 := hJ _ _ _ hj hlow
      have hsz : W.heap.size ≤ w1.heap.size := Nat.le_trans (Nat.le_of_lt lD) hlow.size
      obtain ⟨fn, tmps, assign, body, hy, hR⟩ := hYk w1 hj1 hsz (by rw [upto_length]; exact hlt)
      clear hYk ct z1 z2 z3 hj1
      obtain ⟨zd, -, lD1⟩ := rcell hd2
      have ec : d'.cs = #[.int .i64 d'.t, .int .i64 d'.v, .int .i64 d'.n0, .int .i64 d'.d0, .int .i64 d'.n1, .int .i64 d'.d1, .int .i64 d'.many] := rfl
      rw [ec] at hy
      clear ec
      gi_wp2
      refine hR.mono ?_
      clear hR hy
      rintro e W3 (⟨rfl, hj3, hu3⟩ | ⟨rfl, hjx3⟩)
      · have hd3 := ku hu3 hd1 (Nat.le_refl _)
        gi_wp2
        go_roundw
        case rel => exact ⟨k + 1, by go_num, by omega, by rw [HG.out]; exact hd3, hj3⟩
        case measure => simp [intOf]; omega
      · gi_wp2
        refine bodyPost_ret (results_none rfl _ _ _) rfl ⟨⟨_, rfl⟩, .inr ⟨_, ⟨k, hlt, rfl⟩, hjx3⟩⟩
    · obtain rfl : k = l.length := by omega
      clear hY
      gi_wp2
      go_end0
      exact ⟨⟨_, rfl⟩, .inl ⟨_, rfl, hj⟩⟩
end Go.Proofs.YtpimkigbdjfjoaaDoor
