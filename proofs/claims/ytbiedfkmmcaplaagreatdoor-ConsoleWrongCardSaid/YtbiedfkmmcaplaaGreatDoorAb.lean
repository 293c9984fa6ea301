/- A region that draws its order, walked once: a general law over any program. No program is imported. What writes one block that was there. -/
import Derived.Deep.Quiet
import Derived.Below
import Derived.Test.YtbiedfkmmcaplaaGreatDoorProg
import Derived.WalkKit
import Derived.WalkSpells
import Derived.WalkLawsBesides
import Derived.Handy
import Derived.KernelRfl
import Derived.Deep.CutBlock
import Derived.Deep.DeepCutAuto
import Derived.Deep.LoopGhost
import Derived.Lib.Mul64
import Derived.Laws.Bits64b
import Derived.ScopeJumps
set_option linter.all false
namespace Go.Proofs.YtbiedfkmmcaplaaGreatDoor
open Go.RowKit

theorem hide {p : Prop} (h : p) : Hid p := h

namespace Abs

structure Rel (tch : Nat → Prop) (w w' : World) : Prop where
  os : w'.os = w.os
  tape : w'.tape = w.tape
  output : w'.output = w.output
  size : w.heap.size ≤ w'.heap.size
  block : ∀ k, k < w.heap.size → ¬ tch k → w'.heap[k]? = w.heap[k]?

theorem Rel.refl (tch : Nat → Prop) (w : World) : Rel tch w w := ⟨rfl, rfl, rfl, Nat.le_refl _, fun _ _ _ => rfl⟩
theorem Rel.of_below {tch : Nat → Prop} {w w' : World} (h : Below w.heap.size w w') : Rel tch w w' := ⟨h.os, h.tape, h.output, h.size, fun k hk _ => h.block k hk⟩
theorem Rel.alloc (tch : Nat → Prop) (w : World) (o : Obj) : Rel tch w (w.alloc o) := Rel.of_below ((Below.refl _ _).alloc (Nat.le_refl _) _)

def Cl (tch : Nat → Prop) (φ : World → Prop) : Prop := ∀ w w', φ w → Rel tch w w' → φ w'

inductive Kd where
  | q | k | a | s
  deriving DecidableEq

def kindOf (o : Oper) : Kd :=
  match o.op with
  | .store .. => .s
  | .call c => (match c.callee with | .builtin .len => .q | _ => .k)
  | .alloc .. => .a
  | .box .. => .a
  | .buildSlice .. => .a
  | .makeSlice .. => .a
  | .makeFunc .. => .a
  | _ => .q

def maskOf (acc : List Nat) (es : List Edge) : Nat := es.foldl (fun s e => if Region.binds .any e then s ||| (2 ^ e.on ||| acc.getD e.on 0) else s) 0
def masks : List Oper → List Nat → List Nat
  | [], acc => acc
  | o :: l, acc => masks l (acc ++ [maskOf acc o.after.toList])
def reach (ops : Array Oper) (i j : Nat) : Bool := ((masks ops.toList []).getD i 0).testBit j

def sunk (ops : Array Oper) (i : Nat) : Bool :=
  (List.range ops.size).all fun j => match ops[j]? with
    | some o => if kindOf o = .s then reach ops j i else true
    | none => true

def compat (x y : Kd) : Bool :=
  match x, y with
  | .q, _ => true
  | _, .q => true
  | .k, .a => true
  | .a, .a => true
  | _, _ => false

def freeOf (ops : Array Oper) (listed : Array Bool) (i : Nat) : Bool :=
  match ops[i]? with
  | none => false
  | some oi => (List.range ops.size).all fun j => j == i || listed.getD j true || match ops[j]? with
      | some oj => reach ops j i || (oi.apart ops oj && compat (kindOf oi) (kindOf oj))
      | none => true

def okFrom (ops : Array Oper) : List Nat → Array Bool → Bool
  | [], listed => (Region.ready .any ops listed).isEmpty
  | i :: l, listed => (Region.ready .any ops listed).contains i && freeOf ops listed i && okFrom ops l (listed.setIfInBounds i true)

def okB (ops : Array Oper) (ord : List Nat) : Bool := Region.noSelect ops && okFrom ops ord (Array.replicate ops.size false) && (ord.length == ops.size)

structure St where
  F : Nat → World → Prop
  U : Nat → Prop
  T : World → World
  t : Bool

def upd (F : Nat → World → Prop) (i : Nat) (φ : World → Prop) : Nat → World → Prop := fun j w => F j w ∧ (j = i → φ w)
theorem upd_comm (F : Nat → World → Prop) (i j : Nat) (φ ψ : World → Prop) : upd (upd F i φ) j ψ = upd (upd F j ψ) i φ := by
  funext k w
  unfold upd
  exact propext and_right_comm

def St.setF (s : St) (i : Nat) (φ : World → Prop) : St := { s with F := upd s.F i φ }
def St.addA (s : St) (i g : Nat) (obj : Obj) : St := { s with F := upd s.F i (fun w => w.heap[g]? = some obj), U := fun k => k = g ∨ s.U k }
def St.push (s : St) (T : World → World) : St := { s with T := T, t := true }

structure Cls where
  tch : Nat → Prop
  B : Nat
  I : World → Prop
  J : World → Prop
  clI : Cl tch I
  clJ : Cl tch J
  IJ : ∀ w, I w → J w
  hB : ∀ w, I w → B ≤ w.heap.size
  low : ∀ k, tch k → k < B

variable (P : Program) (ops : Array Oper) (C : Cls)

def Sat (s : St) (w : World) : Prop :=
  C.J w ∧ ∃ w0, C.I w0 ∧ (∀ j, s.F j w0) ∧ (∀ k, s.U k → k < w0.heap.size) ∧ w = s.T w0 ∧ (s.t = false → w = w0)

def yld (o : Oper) (a : Act) (w : World) (v : Value) : Prop := (execOp a.eval o).run P w = .ok (.value v) w

def nonq (o : Oper) (a : Act) (w : World) (R : Value → World → Prop) : Prop :=
  match (execOp a.eval o).run P w with
  | .ok (.value v) w' => R v w'
  | .ok (.enter f args) w' => Calls P f args w' fun e w'' => ∃ v, e = .returned v ∧ R v w''
  | _ => False

def FV (i : Nat) (o : Oper) (a : Act) (s : St) (v : Value) : Prop :=
  (Region.wanted o (yielded ops a.tmps) = false ∧ v = undef) ∨
  (Region.wanted o (yielded ops a.tmps) = true ∧
    ((∀ w, C.J w → yld P o a w v) ∨
     (sunk ops i = true ∧ s.t = false ∧ ∀ w, C.I w → yld P o a w v) ∨
     (kindOf o = .a ∧ s.t = false ∧ ∀ w, C.I w → ∃ w', (execOp a.eval o).run P w = .ok (.value v) w' ∧ Rel C.tch w w' ∧ w'.heap.size = w.heap.size)))

def KR (i : Nat) (o : Oper) (a : Act) (s : St) (K : Act → St → Prop) : Prop :=
  Region.wanted o (yielded ops a.tmps) = true ∧ kindOf o = .k ∧ s.t = false ∧ ∃ φ : Value → World → Prop, (∀ v, Cl C.tch (φ v)) ∧
    (∀ w, C.I w → (∀ j, reach ops i j = true → s.F j w) → nonq P o a w fun v w' => Rel C.tch w w' ∧ φ v w') ∧ ∀ v, K (a.put o.dst v) (s.setF i (φ v))

def AR (i : Nat) (o : Oper) (a : Act) (s : St) (K : Act → St → Prop) : Prop :=
  Region.wanted o (yielded ops a.tmps) = true ∧ kindOf o = .a ∧ s.t = false ∧ ∃ (f : Nat → Value) (obj : Obj),
    (∀ w, (execOp a.eval o).run P w = .ok (.value (f w.heap.size)) (w.alloc obj)) ∧ ∀ g, C.B ≤ g → ¬ s.U g → K (a.put o.dst (f g)) (s.addA i g obj)

def SR (o : Oper) (a : Act) (s : St) (K : Act → St → Prop) : Prop :=
  Region.wanted o (yielded ops a.tmps) = true ∧ kindOf o = .s ∧ ∃ (T : World → World),
    (∀ w0, C.I w0 → (∀ j, s.F j w0) → (∀ k, s.U k → k < w0.heap.size) → (execOp a.eval o).run P (s.T w0) = .ok .skip (T w0) ∧ (C.J (s.T w0) → C.J (T w0))) ∧ K (a.put o.dst undef) (s.push T)

def Does (i : Nat) (o : Oper) (a : Act) (s : St) (K : Act → St → Prop) : Prop :=
  (∃ v, FV P ops C i o a s v ∧ K (a.put o.dst v) s) ∨ KR P ops C i o a s K ∨ AR P ops C i o a s K ∨ SR P ops C o a s K

def Good (s : St) : Prop := (∃ w, Sat C s w) ∧ (∀ j, Cl C.tch (s.F j)) ∧ (s.t = false → ∀ w, s.T w = w)
def grd (K : Act → St → Prop) (a : Act) (s : St) : Prop := Good C s → K a s

def aOp (i : Nat) (K : Act → St → Prop) (a : Act) (s : St) : Prop :=
  match ops[i]? with
  | none => K a s
  | some o => Does P ops C i o a s (grd C K)

theorem Does_mono {i : Nat} {o : Oper} {a : Act} {s : St} {K K' : Act → St → Prop} (h : ∀ a s, K a s → K' a s) (hh : Does P ops C i o a s K) : Does P ops C i o a s K' := by
  rcases hh with ⟨v, h1, h2⟩ | ⟨h1, h2, h3, φ, h4, h5, h6⟩ | ⟨h1, h2, h3, f, obj, h4, h5⟩ | ⟨h1, h2, T, h3, h4⟩
  · exact .inl ⟨v, h1, h _ _ h2⟩
  · exact .inr (.inl ⟨h1, h2, h3, φ, h4, h5, fun v => h _ _ (h6 v)⟩)
  · exact .inr (.inr (.inl ⟨h1, h2, h3, f, obj, h4, fun g hb hg => h _ _ (h5 g hb hg)⟩))
  · exact .inr (.inr (.inr ⟨h1, h2, T, h3, h _ _ h4⟩))

theorem grd_mono {K K' : Act → St → Prop} (h : ∀ a s, K a s → K' a s) (a : Act) (s : St) (hh : grd C K a s) : grd C K' a s := fun hne => h _ _ (hh hne)

theorem aOp_mono {i : Nat} {a : Act} {s : St} {K K' : Act → St → Prop} (h : ∀ a s, K a s → K' a s) (hh : aOp P ops C i K a s) : aOp P ops C i K' a s := by
  unfold aOp at *
  split
  · rename_i ho; simp only [ho] at hh; exact h _ _ hh
  · rename_i o ho; simp only [ho] at hh; exact Does_mono P ops C (grd_mono C h) hh

def wpAnyA (Q : Act → St → Prop) : Nat → Array Bool → Act → St → Prop
  | 0, listed, a, s => Region.ready .any ops listed = [] ∧ Q a s
  | n + 1, listed, a, s => (Region.ready .any ops listed = [] → Q a s) ∧ ∀ i ∈ Region.ready .any ops listed, aOp P ops C i (wpAnyA Q n (listed.setIfInBounds i true)) a s

def wpOrd (Q : Act → St → Prop) : List Nat → Act → St → Prop
  | [], a, s => Q a s
  | i :: l, a, s => aOp P ops C i (wpOrd Q l) a s

/-! ### exchange -/

section
variable {P ops C}

theorem FV.of_same {i : Nat} {o : Oper} {a a' : Act} {s s' : St} {v : Value} (h : FV P ops C i o a s v) (he : execOp a'.eval o = execOp a.eval o)
    (hw : Region.wanted o (yielded ops a'.tmps) = Region.wanted o (yielded ops a.tmps)) (hs : s'.t = s.t) : FV P ops C i o a' s' v := by
  unfold FV yld at *
  rw [he, hw, hs]
  exact h

theorem FV.of_push {i : Nat} {o : Oper} {a a' : Act} {s s' : St} {v : Value} (h : FV P ops C i o a s v) (he : execOp a'.eval o = execOp a.eval o)
    (hw : Region.wanted o (yielded ops a'.tmps) = Region.wanted o (yielded ops a.tmps)) (hq : kindOf o = .q ∨ kindOf o = .k) (hns : sunk ops i = false) : FV P ops C i o a' s' v := by
  unfold FV yld at *
  rw [he, hw]
  rcases h with h | ⟨h1, h | h | h⟩
  · exact .inl h
  · exact .inr ⟨h1, .inl h⟩
  · rw [hns] at h; cases h.1
  · exfalso
    rcases hq with hq | hq
    all_goals (rw [hq] at h; cases h.1)

theorem FV.det {i : Nat} {o : Oper} {a : Act} {s : St} {u v : Value} {w : World} (hw : Sat C s w) (h : FV P ops C i o a s u) (h' : FV P ops C i o a s v) : u = v := by
  obtain ⟨hJ, w0, hI, _, _, hT, ht⟩ := hw
  rcases h with ⟨h1, h2⟩ | ⟨h1, h2⟩
  · rcases h' with ⟨_, h2'⟩ | ⟨h1', _⟩
    · rw [h2, h2']
    · rw [h1] at h1'; cases h1'
  · rcases h' with ⟨h1', _⟩ | ⟨_, h2'⟩
    · rw [h1] at h1'; cases h1'
    · have key : ∀ x : Value, ((∀ w, C.J w → yld P o a w x) ∨ (sunk ops i = true ∧ s.t = false ∧ ∀ w, C.I w → yld P o a w x) ∨ (kindOf o = .a ∧ s.t = false ∧ ∀ w, C.I w → ∃ w', (execOp a.eval o).run P w = .ok (.value x) w' ∧ Rel C.tch w w' ∧ w'.heap.size = w.heap.size)) →
          ∃ w', (execOp a.eval o).run P w = .ok (.value x) w' := by
        intro x hx
        rcases hx with hx | ⟨_, ht', hx⟩ | ⟨_, ht', hx⟩
        · exact ⟨w, hx w hJ⟩
        · rw [ht ht'] at *; exact ⟨w0, hx w0 hI⟩
        · rw [ht ht'] at *; obtain ⟨w', hr, _⟩ := hx w0 hI; exact ⟨w', hr⟩
      obtain ⟨w1, e1⟩ := key u h2
      obtain ⟨w2, e2⟩ := key v h2'
      rw [e1] at e2
      injection e2 with e2 _
      injection e2

theorem Sat.ext {s s' : St} (hF : ∀ w, (∀ j, s'.F j w) → ∀ j, s.F j w) (hU : ∀ k, s.U k → s'.U k) (hT : s'.T = s.T) (ht : s'.t = s.t) {w : World} (h : Sat C s' w) : Sat C s w := by
  obtain ⟨hJ, w0, hI, h1, h2, h3, h4⟩ := h
  exact ⟨hJ, w0, hI, hF _ h1, fun k hk => h2 k (hU k hk), by rw [← hT]; exact h3, by rw [← ht]; exact h4⟩

theorem nonq_ex {o : Oper} {a : Act} {w : World} {R : Value → World → Prop} (h : nonq P o a w R) : ∃ v w', R v w' := by
  unfold nonq at h
  split at h
  · exact ⟨_, _, h⟩
  · obtain ⟨e, w', fr, ⟨v, _, hR⟩, _⟩ := h []
    exact ⟨v, w', hR⟩
  · exact h.elim

theorem nonq_same {o : Oper} {a a' : Act} {w : World} {R : Value → World → Prop} (he : execOp a'.eval o = execOp a.eval o) (h : nonq P o a w R) : nonq P o a' w R := by
  unfold nonq at *
  rw [he]
  exact h

theorem Cl_upd {tch : Nat → Prop} {F : Nat → World → Prop} {i : Nat} {φ : World → Prop} (hF : ∀ j, Cl tch (F j)) (hφ : Cl tch φ) : ∀ j, Cl tch (upd F i φ j) :=
  fun j w w' ⟨h1, h2⟩ hr => ⟨hF j w w' h1 hr, fun e => hφ w w' (h2 e) hr⟩

theorem Cl_block {tch : Nat → Prop} {g : Nat} {obj : Obj} (hg : ¬ tch g) : Cl tch (fun w => w.heap[g]? = some obj) := fun w w' h hr => by
  have hlt : g < w.heap.size := by
    rcases Nat.lt_or_ge g w.heap.size with h' | h'
    · exact h'
    · have h2 : w.heap[g]? = some obj := h
      rw [Array.getElem?_eq_none h'] at h2; cases h2
  exact (hr.block g hlt hg).trans h

theorem Good.setF {s : St} {i : Nat} {φ : World → Prop} (h : Good C s) {w w' : World} (ht : s.t = false) (hw : Sat C s w) (hr : Rel C.tch w w') (hp : φ w') : Sat C (s.setF i φ) w' := by
  obtain ⟨hJ, w0, hI, h1, h2, h3, h4⟩ := hw
  have e := h4 ht
  subst e
  exact ⟨C.clJ _ _ hJ hr, w', C.clI _ _ hI hr, fun j => ⟨h.2.1 j _ _ (h1 j) hr, fun _ => hp⟩, fun k hk => Nat.lt_of_lt_of_le (h2 k hk) hr.size, (h.2.2 ht w').symm, fun _ => rfl⟩

theorem Sat.of_addA {s : St} {i g : Nat} {obj : Obj} {w : World} (h : Sat C (s.addA i g obj) w) : Sat C s w :=
  Sat.ext (s := s) (s' := s.addA i g obj) (fun _ hw j => (hw j).1) (fun _ hk => Or.inr hk) rfl rfl h

theorem Good.addA {s : St} {i : Nat} {obj : Obj} (h : Good C s) {w : World} (ht : s.t = false) (hw : Sat C s w) : Sat C (s.addA i w.heap.size obj) (w.alloc obj) := by
  obtain ⟨hJ, w0, hI, h1, h2, h3, h4⟩ := hw
  have e := h4 ht
  subst e
  have hr : Rel C.tch w (w.alloc obj) := Rel.alloc _ _ _
  refine ⟨C.clJ _ _ hJ hr, _, C.clI _ _ hI hr, fun j => ⟨h.2.1 j _ _ (h1 j) hr, fun _ => ?_⟩, fun k hk => ?_, (h.2.2 ht _).symm, fun _ => rfl⟩
  · show (w.heap.push obj)[w.heap.size]? = some obj
    simp
  · show k < (w.heap.push obj).size
    rw [Array.size_push]
    rcases hk with hk | hk
    · omega
    · have := h2 k hk; omega

theorem AR_det {o : Oper} {a : Act} {f f' : Nat → Value} {obj obj' : Obj} (h : ∀ w : World, (execOp a.eval o).run P w = .ok (.value (f w.heap.size)) (w.alloc obj))
    (h' : ∀ w : World, (execOp a.eval o).run P w = .ok (.value (f' w.heap.size)) (w.alloc obj')) : f = f' ∧ obj = obj' := by
  have key : ∀ w : World, f w.heap.size = f' w.heap.size ∧ obj = obj' := fun w => by
    have e := (h w).symm.trans (h' w)
    injection e with e1 e2
    injection e1 with e1
    refine ⟨e1, ?_⟩
    have e3 : w.heap.push obj = w.heap.push obj' := congrArg World.heap e2
    have e4 : (w.heap.push obj)[w.heap.size]? = (w.heap.push obj')[w.heap.size]? := by rw [e3]
    simpa using e4
  refine ⟨funext fun n => ?_, (key default).2⟩
  have := (key { (default : World) with heap := Array.replicate n default }).1
  simpa using this

theorem FV_AR {i : Nat} {o : Oper} {a : Act} {s : St} {v : Value} {f : Nat → Value} {obj : Obj} {w : World} (hw : Sat C s w) (ht : s.t = false) (h : FV P ops C i o a s v) (hwan : Region.wanted o (yielded ops a.tmps) = true)
    (h' : ∀ w : World, (execOp a.eval o).run P w = .ok (.value (f w.heap.size)) (w.alloc obj)) : False := by
  obtain ⟨hJ, w0, hI, _, _, _, h4⟩ := hw
  have e := h4 ht
  subst e
  have key : ∃ w', (execOp a.eval o).run P w = .ok (.value v) w' ∧ w'.heap.size = w.heap.size := by
    rcases h with ⟨h1, _⟩ | ⟨_, h | ⟨_, _, h⟩ | ⟨_, _, h⟩⟩
    · rw [hwan] at h1; cases h1
    · exact ⟨w, h w hJ, rfl⟩
    · exact ⟨w, h w hI, rfl⟩
    · obtain ⟨w', h1, _, h2⟩ := h w hI; exact ⟨w', h1, h2⟩
  obtain ⟨w', h1, h2⟩ := key
  rw [h' w] at h1
  injection h1 with _ h1
  rw [← h1] at h2
  have : (w.heap.push obj).size = w.heap.size := h2
  rw [Array.size_push] at this
  omega

theorem swap {i j : Nat} {oi oj : Oper} (hi : ops[i]? = some oi) (hj : ops[j]? = some oj) (hap : oi.apart ops oj = true) (hc : compat (kindOf oi) (kindOf oj) = true)
    (hsi : ∀ cs b, oi.op ≠ .select cs b) (hsj : ∀ cs b, oj.op ≠ .select cs b) (hij : kindOf oj = .s → sunk ops i = false)
    {a : Act} {s : St} {K : Act → St → Prop} (hg : Good C s) (h : aOp P ops C i (aOp P ops C j K) a s) : aOp P ops C j (aOp P ops C i K) a s := by
  obtain ⟨p1, p2, p3⟩ := Oper.apart_spec hap
  have ej : ∀ v, execOp (a.put oi.dst v).eval oj = execOp a.eval oj := fun v => execOp_put oj hsj a oi.dst v p1
  have wj : ∀ v, Region.wanted oj (yielded ops (a.put oi.dst v).tmps) = Region.wanted oj (yielded ops a.tmps) := fun v => wanted_put oj a oi.dst v p1
  have ei : ∀ v, execOp (a.put oj.dst v).eval oi = execOp a.eval oi := fun v => execOp_put oi hsi a oj.dst v p3
  have wi : ∀ v, Region.wanted oi (yielded ops (a.put oj.dst v).tmps) = Region.wanted oi (yielded ops a.tmps) := fun v => wanted_put oi a oj.dst v p3
  have pc : ∀ u v, (a.put oj.dst u).put oi.dst v = (a.put oi.dst v).put oj.dst u := fun u v => (Act.put_comm a v u p2).symm
  unfold aOp at h ⊢
  simp only [hi, hj] at h ⊢
  rcases h with ⟨v, hv, hK⟩ | ⟨h1, h2, h3, φ, h4, h5, h6⟩ | ⟨h1, h2, h3, f, obj, h4, h5⟩ | ⟨h1, h2, T, h3, h4⟩
  · -- i is fixed
    have hK' : Does P ops C j oj _ _ (grd C K) := hK hg
    rcases hK' with ⟨u, hu, hK2⟩ | ⟨g1, g2, g3, φ, g4, g5, g6⟩ | ⟨g1, g2, g3, f, obj, g4, g5⟩ | ⟨g1, g2, T, g3, g4⟩
    · exact .inl ⟨u, hu.of_same (ej v).symm (wj v).symm rfl, fun hg' => by show Does P ops C i oi _ _ (grd C K); exact .inl ⟨v, hv.of_same (ei u) (wi u) rfl, by rw [pc]; exact hK2⟩⟩
    · exact .inr (.inl ⟨(wj v).symm.trans g1, g2, g3, φ, g4, fun w hw hF => nonq_same (ej v).symm (g5 w hw hF), fun x hg' => by show Does P ops C i oi _ _ (grd C K); exact .inl ⟨v, hv.of_same (ei x) (wi x) rfl, by rw [pc]; exact g6 x⟩⟩)
    · exact .inr (.inr (.inl ⟨(wj v).symm.trans g1, g2, g3, f, obj, fun w => by rw [← ej v]; exact g4 w, fun g hb hu hg' => by show Does P ops C i oi _ _ (grd C K); exact .inl ⟨v, hv.of_same (ei _) (wi _) rfl, by rw [pc]; exact g5 g hb hu⟩⟩))
    · have hk : kindOf oi = .q := by
        rw [g2] at hc
        cases hki : kindOf oi <;> rw [hki] at hc <;> first | rfl | cases hc
      exact .inr (.inr (.inr ⟨(wj v).symm.trans g1, g2, T, fun w0 x1 x2 x3 => by rw [← ej v]; exact g3 w0 x1 x2 x3, fun hg' => by
        show Does P ops C i oi _ _ (grd C K); exact .inl ⟨v, hv.of_push (ei undef) (wi undef) (.inl hk) (hij g2), by rw [pc]; exact g4⟩⟩))
  · -- i is a call
    obtain ⟨w, hw⟩ := hg.1
    have hst : ∀ x w', Rel C.tch w w' ∧ φ x w' → Good C (s.setF i (φ x)) := fun x w' ⟨hr, hp⟩ => ⟨⟨w', Good.setF hg h3 hw hr hp⟩, Cl_upd hg.2.1 (h4 x), hg.2.2⟩
    obtain ⟨hJ, w0, hI, x1, x2, x3, x4⟩ := id hw
    have e := x4 h3
    subst e
    obtain ⟨v0, w', hr⟩ := nonq_ex (h5 w hI (fun j _ => x1 j))
    have hK0 : Does P ops C j oj _ _ (grd C K) := h6 v0 (hst v0 w' hr)
    have hKv : ∀ x, Good C (s.setF i (φ x)) → Does P ops C j oj (a.put oi.dst x) (s.setF i (φ x)) (grd C K) := fun x hgx => h6 x hgx
    have hkj : kindOf oj = .q ∨ kindOf oj = .a := by
      rw [h2] at hc
      cases hkj : kindOf oj <;> rw [hkj] at hc <;> first | exact .inl rfl | exact .inr rfl | cases hc
    rcases hK0 with ⟨u, hu, hK2⟩ | ⟨g1, g2, g3, ψ, g4, g5, g6⟩ | ⟨g1, g2, g3, f, obj, g4, g5⟩ | ⟨g1, g2, T, g3, g4⟩
    · have hu0 : FV P ops C j oj a s u := hu.of_same (ej v0).symm (wj v0).symm rfl
      refine .inl ⟨u, hu0, fun hg' => ?_⟩
      show Does P ops C i oi _ _ (grd C K)
      refine .inr (.inl ⟨(wi u).trans h1, h2, h3, φ, h4, fun w hw hF => nonq_same (ei u) (h5 w hw hF), fun x hgx => ?_⟩)
      rw [pc]
      rcases hKv x hgx with ⟨u', hu', hK3⟩ | ⟨_, g2, _⟩ | ⟨g1, g2, g3, f, obj, g4, g5⟩ | ⟨_, g2, _⟩
      · have : u' = u := FV.det hw (hu'.of_same (ej x).symm (wj x).symm rfl) hu0
        subst this
        exact hK3 hgx
      · rcases hkj with e | e <;> rw [e] at g2 <;> cases g2
      · exact (FV_AR hw h3 hu0 ((wj x).symm.trans g1) (fun w => by rw [← ej x]; exact g4 w)).elim
      · rcases hkj with e | e <;> rw [e] at g2 <;> cases g2
    · rcases hkj with e | e <;> rw [e] at g2 <;> cases g2
    · have g4' : ∀ w : World, (execOp a.eval oj).run P w = .ok (.value (f w.heap.size)) (w.alloc obj) := fun w => by rw [← ej v0]; exact g4 w
      refine .inr (.inr (.inl ⟨(wj v0).symm.trans g1, g2, h3, f, obj, g4', fun g hb hgu hg' => ?_⟩))
      show Does P ops C i oi _ _ (grd C K)
      refine .inr (.inl ⟨(wi _).trans h1, h2, h3, φ, h4, fun w hw hF => nonq_same (ei _) (h5 w hw (fun j' hj' => (hF j' hj').1)), fun x hgx => ?_⟩)
      have est : (s.addA j g obj).setF i (φ x) = (s.setF i (φ x)).addA j g obj := by
        unfold St.addA St.setF
        simp only [upd_comm s.F i j]
      rw [est] at hgx ⊢
      rw [pc]
      obtain ⟨⟨wx, hwx⟩, hgx2, hgx3⟩ := hgx
      have hgx' : Good C (s.setF i (φ x)) := ⟨⟨wx, hwx.of_addA⟩, Cl_upd hg.2.1 (h4 x), hg.2.2⟩
      rcases hKv x hgx' with ⟨u', hu', hK3⟩ | ⟨_, g2', _⟩ | ⟨q1, q2, q3, f', obj', q4, q5⟩ | ⟨_, g2', _⟩
      · exact (FV_AR hw h3 (hu'.of_same (ej x).symm (wj x).symm rfl) ((wj v0).symm.trans g1) g4').elim
      · rw [g2] at g2'; cases g2'
      · obtain ⟨e1, e2⟩ := AR_det g4' (fun w => by rw [← ej x]; exact q4 w)
        subst e1 e2
        exact q5 g hb hgu ⟨⟨wx, hwx⟩, hgx2, hgx3⟩
      · rw [g2] at g2'; cases g2'
    · rcases hkj with e | e <;> rw [e] at g2 <;> cases g2
  · -- i is a new block
    obtain ⟨w, hw⟩ := hg.1
    have hgood : ∀ g, C.B ≤ g → (∃ w, Sat C (s.addA i g obj) w) → Good C (s.addA i g obj) := fun g hb hex =>
      ⟨hex, Cl_upd hg.2.1 (Cl_block fun ht => Nat.lt_irrefl _ (Nat.lt_of_lt_of_le (C.low g ht) hb)), hg.2.2⟩
    obtain ⟨hJ, w0, hI, x1, x2, x3, x4⟩ := id hw
    have e := x4 h3
    subst e
    have hB0 := C.hB w hI
    have hU0 : ¬ s.U w.heap.size := fun hu => Nat.lt_irrefl _ (x2 _ hu)
    have hK0 : Does P ops C j oj _ _ (grd C K) := h5 w.heap.size hB0 hU0 (hgood _ hB0 ⟨_, Good.addA hg h3 hw⟩)
    have hKv : ∀ g, C.B ≤ g → ¬ s.U g → Good C (s.addA i g obj) → Does P ops C j oj (a.put oi.dst (f g)) (s.addA i g obj) (grd C K) := fun g hb hu hgx => h5 g hb hu hgx
    have hkj : kindOf oj = .q ∨ kindOf oj = .a := by
      rw [h2] at hc
      cases hkj : kindOf oj <;> rw [hkj] at hc <;> first | exact .inl rfl | exact .inr rfl | cases hc
    rcases hK0 with ⟨u, hu, hK2⟩ | ⟨g1, g2, g3, ψ, g4, g5, g6⟩ | ⟨g1, g2, g3, f2, obj2, g4, g5⟩ | ⟨g1, g2, T, g3, g4⟩
    · have hu0 : FV P ops C j oj a s u := hu.of_same (ej _).symm (wj _).symm rfl
      refine .inl ⟨u, hu0, fun hg' => ?_⟩
      show Does P ops C i oi _ _ (grd C K)
      refine .inr (.inr (.inl ⟨(wi u).trans h1, h2, h3, f, obj, fun w => by rw [ei u]; exact h4 w, fun g hb hgu hgx => ?_⟩))
      rw [pc]
      rcases hKv g hb hgu hgx with ⟨u', hu', hK3⟩ | ⟨_, g2, _⟩ | ⟨g1, g2, g3, f2, obj2, g4, g5⟩ | ⟨_, g2, _⟩
      · have : u' = u := FV.det hw (hu'.of_same (ej _).symm (wj _).symm rfl) hu0
        subst this
        exact hK3 hgx
      · rcases hkj with e | e <;> rw [e] at g2 <;> cases g2
      · exact (FV_AR hw h3 hu0 ((wj _).symm.trans g1) (fun w => by rw [← ej (f g)]; exact g4 w)).elim
      · rcases hkj with e | e <;> rw [e] at g2 <;> cases g2
    · rcases hkj with e | e <;> rw [e] at g2 <;> cases g2
    · have g4' : ∀ w : World, (execOp a.eval oj).run P w = .ok (.value (f2 w.heap.size)) (w.alloc obj2) := fun w' => by rw [← ej (f w.heap.size)]; exact g4 w'
      refine .inr (.inr (.inl ⟨(wj _).symm.trans g1, g2, h3, f2, obj2, g4', fun g' hb' hgu' hg' => ?_⟩))
      show Does P ops C i oi _ _ (grd C K)
      refine .inr (.inr (.inl ⟨(wi _).trans h1, h2, h3, f, obj, fun w => by rw [ei]; exact h4 w, fun g hb hgu hgx => ?_⟩))
      have est : (s.addA j g' obj2).addA i g obj = (s.addA i g obj).addA j g' obj2 := by
        unfold St.addA
        simp only [upd_comm s.F i j]
        congr 1
        funext k
        exact propext or_left_comm
      rw [est] at hgx ⊢
      rw [pc]
      obtain ⟨⟨wx, hwx⟩, hgx2, hgx3⟩ := hgx
      have hgu1 : ¬ s.U g := fun hu => hgu (.inr hu)
      have hne : g ≠ g' := fun e => hgu (.inl e)
      rcases hKv g hb hgu1 (hgood g hb ⟨wx, hwx.of_addA⟩) with ⟨u', hu', hK3⟩ | ⟨_, g2', _⟩ | ⟨q1, q2, q3, f', obj', q4, q5⟩ | ⟨_, g2', _⟩
      · exact (FV_AR hw h3 (hu'.of_same (ej _).symm (wj _).symm rfl) ((wj _).symm.trans g1) g4').elim
      · rw [g2] at g2'; cases g2'
      · obtain ⟨e1, e2⟩ := AR_det g4' (fun w => by rw [← ej (f g)]; exact q4 w)
        subst e1 e2
        exact q5 g' hb' (fun hu => by rcases hu with hu | hu; exact hne hu.symm; exact hgu' hu) ⟨⟨wx, hwx⟩, hgx2, hgx3⟩
      · rw [g2] at g2'; cases g2'
    · rcases hkj with e | e <;> rw [e] at g2 <;> cases g2
  · -- i is a store
    have hkj : kindOf oj = .q := by
      rw [h2] at hc
      cases hkj : kindOf oj <;> rw [hkj] at hc <;> first | rfl | cases hc
    obtain ⟨w, hw⟩ := hg.1
    have hgp : Good C (s.push T) := by
      obtain ⟨hJ, w0, hI, x1, x2, x3, x4⟩ := hw
      obtain ⟨_, q⟩ := h3 w0 hI x1 x2
      refine ⟨⟨T w0, q (x3 ▸ hJ), w0, hI, x1, x2, rfl, fun e => by cases e⟩, hg.2.1, fun e => by cases e⟩
    have hK0 : Does P ops C j oj _ _ (grd C K) := h4 hgp
    rcases hK0 with ⟨u, hu, hK2⟩ | ⟨_, g2, _⟩ | ⟨_, g2, _⟩ | ⟨_, g2, _⟩
    · have hu0 : FV P ops C j oj a s u := by
        rcases hu with ⟨y1, y2⟩ | ⟨y1, y2 | ⟨_, y2, _⟩ | ⟨_, y2, _⟩⟩
        · exact .inl ⟨(wj undef).symm.trans y1, y2⟩
        · exact .inr ⟨(wj undef).symm.trans y1, .inl fun w hw => by unfold yld; rw [← ej undef]; exact y2 w hw⟩
        · cases y2
        · cases y2
      refine .inl ⟨u, hu0, fun hg' => ?_⟩
      show Does P ops C i oi _ _ (grd C K)
      exact .inr (.inr (.inr ⟨(wi u).trans h1, h2, T, fun w0 x1 x2 x3 => by rw [ei u]; exact h3 w0 x1 x2 x3, by rw [pc]; exact fun _ => hK2 hgp⟩))
    all_goals (rw [hkj] at g2; cases g2)

/-! ### any order -/

def Closed (ops : Array Oper) (listed : Array Bool) : Prop :=
  ∀ j oj, ops[j]? = some oj → listed.getD j false = true → ∀ e ∈ oj.after, Region.binds .any e = true → listed.getD e.on false = true

theorem Closed.set {listed : Array Bool} {i : Nat} (h : Closed ops listed) (hi : i ∈ Region.ready .any ops listed) : Closed ops (listed.setIfInBounds i true) := by
  obtain ⟨_, oi, hoi, hall⟩ := mem_ready.1 hi
  intro j oj hj hl e he hb
  by_cases hij : i = j
  · subst hij
    have e1 : oj = oi := Option.some.inj (hj.symm.trans hoi)
    subst e1
    exact getD_set_true (hall e he hb)
  · rw [getD_set_ne false hij] at hl
    exact getD_set_true (h j oj hj hl e he hb)

theorem maskOf_spec (acc : List Nat) (j : Nat) : ∀ (es : List Edge) (s : Nat), (es.foldl (fun s e => if Region.binds .any e then s ||| (2 ^ e.on ||| acc.getD e.on 0) else s) s).testBit j = true →
    s.testBit j = true ∨ ∃ e ∈ es, Region.binds .any e = true ∧ (e.on = j ∨ (acc.getD e.on 0).testBit j = true)
  | [], s, h => .inl h
  | e :: es, s, h => by
    rw [List.foldl_cons] at h
    rcases maskOf_spec acc j es _ h with h | ⟨e', he', hb, h⟩
    · by_cases hb : Region.binds .any e = true
      · rw [if_pos hb, Nat.testBit_or, Nat.testBit_or, Nat.testBit_two_pow, Bool.or_eq_true, Bool.or_eq_true] at h
        rcases h with h | h | h
        · exact .inl h
        · exact .inr ⟨e, List.mem_cons_self, hb, .inl (of_decide_eq_true h)⟩
        · exact .inr ⟨e, List.mem_cons_self, hb, .inr h⟩
      · rw [if_neg hb] at h
        exact .inl h
    · exact .inr ⟨e', List.mem_cons_of_mem _ he', hb, h⟩

theorem getD_none (acc : List Nat) (i : Nat) (h : acc.length ≤ i) : acc.getD i 0 = 0 := by
  rw [List.getD_eq_getElem?_getD, List.getElem?_eq_none h]; rfl
theorem getD_old (acc : List Nat) (x i : Nat) (h : i < acc.length) : (acc ++ [x]).getD i 0 = acc.getD i 0 := by
  rw [List.getD_eq_getElem?_getD, List.getD_eq_getElem?_getD, List.getElem?_append_left h]
theorem getD_new (acc : List Nat) (x : Nat) : (acc ++ [x]).getD acc.length 0 = x := by
  rw [List.getD_eq_getElem?_getD, List.getElem?_append_right (Nat.le_refl _), Nat.sub_self]; rfl

theorem masks_spec {listed : Array Bool} (hc : Closed ops listed) : ∀ (l : List Oper) (acc : List Nat), (∀ k, l[k]? = ops[acc.length + k]?) →
    (∀ i oi j, ops[i]? = some oi → (∀ e ∈ oi.after, Region.binds .any e = true → listed.getD e.on false = true) → (acc.getD i 0).testBit j = true → listed.getD j false = true) →
    ∀ i oi j, ops[i]? = some oi → (∀ e ∈ oi.after, Region.binds .any e = true → listed.getD e.on false = true) → ((masks l acc).getD i 0).testBit j = true → listed.getD j false = true
  | [], _, _, h => h
  | o :: l, acc, hl, h => by
    refine masks_spec hc l (acc ++ [maskOf acc o.after.toList]) (fun k => ?_) ?_
    · have := hl (k + 1)
      rw [List.length_append, List.length_singleton, Nat.add_assoc, Nat.add_comm 1 k, ← this]
      rfl
    · intro i oi j hi hall ht
      by_cases hlt : i < acc.length
      · rw [getD_old _ _ _ hlt] at ht
        exact h i oi j hi hall ht
      · by_cases heq : i = acc.length
        · subst heq
          rw [getD_new] at ht
          have h0 : some o = ops[acc.length]? := by simpa using hl 0
          have eo : oi = o := Option.some.inj (hi.symm.trans h0.symm)
          subst eo
          rcases maskOf_spec acc j oi.after.toList 0 ht with ht | ⟨e, he, hb, ht⟩
          · simp at ht
          · have he' : e ∈ oi.after := by simpa using he
            have hle := hall e he' hb
            rcases ht with ht | ht
            · rw [← ht]; exact hle
            · cases ho : ops[e.on]? with
              | none => 
                by_cases hlt' : e.on < acc.length
                · exfalso
                  have h1 : ops.size ≤ e.on := by
                    rcases Nat.lt_or_ge e.on ops.size with h2 | h2
                    · rw [Array.getElem?_eq_getElem h2] at ho; cases ho
                    · exact h2
                  have h3 : acc.length < ops.size := by
                    rcases Nat.lt_or_ge acc.length ops.size with h2 | h2
                    · exact h2
                    · rw [Array.getElem?_eq_none h2] at hi; cases hi
                  omega
                · rw [getD_none _ _ (by omega)] at ht
                  simp at ht
              | some oe => exact h e.on oe j ho (fun e' he' hb' => hc e.on oe ho hle e' he' hb') ht
        · rw [getD_none _ _ (by simp; omega)] at ht
          simp at ht

theorem reach_listed {listed : Array Bool} (hc : Closed ops listed) (i j : Nat) (oi : Oper) (hi : ops[i]? = some oi) (hall : ∀ e ∈ oi.after, Region.binds .any e = true → listed.getD e.on false = true) (h : reach ops i j = true) : listed.getD j false = true :=
  masks_spec hc ops.toList [] (by simp) (fun i oi j _ _ h => by simp at h) i oi j hi hall h

theorem sunk_spec {i j : Nat} {oj : Oper} (h : sunk ops i = true) (hj : ops[j]? = some oj) (hk : kindOf oj = .s) : reach ops j i = true := by
  unfold sunk at h
  rw [List.all_eq_true] at h
  have hlt : j < ops.size := (Array.getElem?_eq_some_iff.1 hj).1
  have := h j (List.mem_range.2 hlt)
  simpa [hj, hk] using this

theorem first {Q : Act → St → Prop} {i : Nat} {oi : Oper} (hi : ops[i]? = some oi) (hsel : ∀ (j : Nat) (o : Oper) cs b, ops[j]? = some o → o.op ≠ .select cs b) :
    ∀ (n : Nat) (listed : Array Bool) (a : Act) (s : St), Closed ops listed →
      (∀ j oj, ops[j]? = some oj → j ≠ i → listed.getD j true = false → reach ops j i = true ∨ (oi.apart ops oj = true ∧ compat (kindOf oi) (kindOf oj) = true)) →
      i ∈ Region.ready .any ops listed → Good C s → aOp P ops C i (wpAnyA P ops C Q n (listed.setIfInBounds i true)) a s → wpAnyA P ops C Q (n + 1) listed a s := by
  intro n
  induction n with
  | zero =>
    intro listed a s hcl hfree hr hg H
    refine ⟨fun h => (by rw [h] at hr; cases hr), fun j hj => ?_⟩
    by_cases hji : j = i
    · subst hji; exact H
    · -- nothing else can be ready: behind i nothing is
      exfalso
      have h1 := ready_mono hj hji
      have key : Region.ready .any ops (listed.setIfInBounds i true) = [] := by
        have hex : ∃ a' s', wpAnyA P ops C Q 0 (listed.setIfInBounds i true) a' s' := by
          unfold aOp at H
          simp only [hi] at H
          obtain ⟨w, hw⟩ := hg.1
          rcases H with ⟨v, _, hK⟩ | ⟨h1, h2, h3, φ, h4, h5, h6⟩ | ⟨h1, h2, h3, f, obj, h4, h5⟩ | ⟨h1, h2, T, h3, h4⟩
          · exact ⟨_, _, hK hg⟩
          · obtain ⟨hJ, w0, hI, x1, x2, x3, x4⟩ := id hw
            have e := x4 h3
            subst e
            obtain ⟨v0, w', hr', hp⟩ := nonq_ex (h5 w hI (fun j _ => x1 j))
            exact ⟨_, _, h6 v0 ⟨⟨w', Good.setF hg h3 hw hr' hp⟩, Cl_upd hg.2.1 (h4 v0), hg.2.2⟩⟩
          · obtain ⟨hJ, w0, hI, x1, x2, x3, x4⟩ := id hw
            have e := x4 h3
            subst e
            have hB0 := C.hB w hI
            exact ⟨_, _, h5 w.heap.size hB0 (fun hu => Nat.lt_irrefl _ (x2 _ hu)) ⟨⟨_, Good.addA hg h3 hw⟩, Cl_upd hg.2.1 (Cl_block fun ht => Nat.lt_irrefl _ (Nat.lt_of_lt_of_le (C.low _ ht) hB0)), hg.2.2⟩⟩
          · obtain ⟨hJ, w0, hI, x1, x2, x3, x4⟩ := hw
            obtain ⟨_, q⟩ := h3 w0 hI x1 x2
            exact ⟨_, _, h4 ⟨⟨T w0, q (x3 ▸ hJ), w0, hI, x1, x2, rfl, fun e => by cases e⟩, hg.2.1, fun e => by cases e⟩⟩
        obtain ⟨_, _, h, _⟩ := hex
        exact h
      rw [key] at h1
      cases h1
  | succ n ih =>
    intro listed a s hcl hfree hr hg H
    refine ⟨fun h => (by rw [h] at hr; cases hr), fun j hj => ?_⟩
    by_cases hji : j = i
    · subst hji; exact H
    · obtain ⟨hjun, oj, hoj, hall⟩ := mem_ready.1 hj
      obtain ⟨hiun, oi', hoi', halli⟩ := mem_ready.1 hr
      have nolist : ∀ k : Nat, listed.getD k true = false → listed.getD k false = true → False := fun k h0 h1 => by
        rcases Nat.lt_or_ge k listed.size with h' | h'
        · simp [h'] at h0 h1; rw [h0] at h1; cases h1
        · simp [Array.getElem?_eq_none h'] at h0
      have hnot : reach ops j i = true → False := fun hre => nolist i hiun (reach_listed hcl j i oj hoj hall hre)
      obtain ⟨hap, hco⟩ := (hfree j oj hoj hji hjun).resolve_left hnot
      have hij : kindOf oj = .s → sunk ops i = false := fun hk => by
        cases hsu : sunk ops i
        · rfl
        · exact (hnot (sunk_spec hsu hoj hk)).elim
      have H1 : aOp P ops C i (fun a' s' => aOp P ops C j (wpAnyA P ops C Q n ((listed.setIfInBounds i true).setIfInBounds j true)) a' s') a s :=
        aOp_mono P ops C (fun a' s' h => h.2 j (ready_mono hj hji)) H
      have H2 := swap hi hoj hap hco (fun cs b => hsel i oi cs b hi) (fun cs b => hsel j oj cs b hoj) hij hg H1
      have hfree' : ∀ k ok, ops[k]? = some ok → k ≠ i → (listed.setIfInBounds j true).getD k true = false → reach ops k i = true ∨ (oi.apart ops ok = true ∧ compat (kindOf oi) (kindOf ok) = true) := fun k ok hk hki hun => by
        refine hfree k ok hk hki ?_
        by_cases hjk : j = k
        · subst hjk; exact hjun
        · rw [getD_set_ne true hjk] at hun; exact hun
      -- behind j, with what is known there
      unfold aOp at H2 ⊢
      simp only [hoj] at H2 ⊢
      refine Does_mono P ops C (fun a' s' h3 hg' => ?_) H2
      refine ih (listed.setIfInBounds j true) a' s' (hcl.set hj) hfree' (ready_mono hr (Ne.symm hji)) hg' ?_
      rw [Array.setIfInBounds_comm _ _ hji]
      exact h3 hg'

theorem freeOf_spec {i : Nat} {oi : Oper} {listed : Array Bool} (hi : ops[i]? = some oi) (h : freeOf ops listed i = true) :
    ∀ j oj, ops[j]? = some oj → j ≠ i → listed.getD j true = false → reach ops j i = true ∨ (oi.apart ops oj = true ∧ compat (kindOf oi) (kindOf oj) = true) := by
  intro j oj hj hji hun
  unfold freeOf at h
  simp only [hi, List.all_eq_true, List.mem_range] at h
  have hlt : j < ops.size := (Array.getElem?_eq_some_iff.1 hj).1
  have := h j hlt
  simpa [hj, hji, hun] using this

theorem any_of_ord {Q : Act → St → Prop} (hsel : ∀ (j : Nat) (o : Oper) cs b, ops[j]? = some o → o.op ≠ .select cs b) : ∀ (l : List Nat) (listed : Array Bool) (a : Act) (s : St), Closed ops listed → okFrom ops l listed = true → Good C s →
    wpOrd P ops C Q l a s → wpAnyA P ops C Q l.length listed a s
  | [], listed, a, s, _, hB, _, h => ⟨by simpa [okFrom] using hB, h⟩
  | i :: l, listed, a, s, hcl, hB, hg, h => by
    simp only [okFrom, Bool.and_eq_true] at hB
    obtain ⟨⟨hr, hf⟩, hB'⟩ := hB
    have hr' : i ∈ Region.ready .any ops listed := by simpa using hr
    obtain ⟨_, oi, hoi, _⟩ := mem_ready.1 hr'
    refine first hoi hsel l.length listed a s hcl (freeOf_spec hoi hf) hr' hg ?_
    have h' : aOp P ops C i (wpOrd P ops C Q l) a s := h
    unfold aOp at h' ⊢
    simp only [hoi] at h' ⊢
    exact Does_mono P ops C (fun a' s' h3 hg' => any_of_ord hsel l _ a' s' (hcl.set hr') hB' hg' (h3 hg')) h'

theorem nonq_wp {o : Oper} {a : Act} {w : World} {R : Value → World → Prop} {K : Act → World → Prop} {Q : Exit → Act → World → Prop} (h : nonq P o a w R) (hK : ∀ v w', R v w' → K (a.put o.dst v) w') : o.wp P a w K Q := by
  unfold nonq at h
  unfold Oper.wp
  generalize (execOp a.eval o).run P w = r at *
  cases r with
  | ok n w' =>
    cases n <;> simp only [Oper.upon] at h ⊢
    case value v => exact hK _ _ h
    case enter f args => exact hc h hK
  | halt x w' => exact h.elim
  where
  hc {f : FuncId} {args : Array Value} {w' : World} {o : Oper} {a : Act} {R : Value → World → Prop} {K : Act → World → Prop} {Q : Exit → Act → World → Prop}
    (h : Calls P f args w' fun e w'' => ∃ v, e = .returned v ∧ R v w'') (hK : ∀ v w', R v w' → K (a.put o.dst v) w') :
    Calls P f args w' fun
      | .returned v, w'' => K (a.put o.dst v) w''
      | .panicked chain, w'' => Q (.panic chain) a w''
      | .outgrown, _ => LetsOut Q := h.mono fun e w'' ⟨v, he, hr⟩ => by subst he; exact hK _ _ hr

theorem wpOp_of_aOp {i : Nat} {a : Act} {s : St} {w : World} {K : Act → St → Prop} {K' : Act → World → Prop} {Q : Exit → Act → World → Prop} (hg : Good C s) (hw : Sat C s w) (hK : ∀ a s w, Good C s → Sat C s w → K a s → K' a w)
    (h : aOp P ops C i K a s) : wpOp P ops Q i K' a w := by
  unfold aOp at h
  unfold wpOp
  cases ho : ops[i]? with
  | none => simp only [ho] at h ⊢; exact hK _ _ _ hg hw h
  | some o =>
    simp only [ho] at h ⊢
    rcases h with ⟨v, hv, h2⟩ | ⟨h1, h2, h3, φ, h4, h5, h6⟩ | ⟨h1, h2, h3, f, obj, h4, h5⟩ | ⟨h1, h2, T, h3, h4⟩
    · rcases hv with ⟨hn, rfl⟩ | ⟨hn, hv⟩
      · rw [if_neg (by rw [hn]; exact Bool.false_ne_true)]
        exact hK _ _ _ hg hw (h2 hg)
      · rw [if_pos hn]
        refine .inl ?_
        unfold Oper.wp
        rcases hv with hv | ⟨_, ht, hv⟩ | ⟨_, ht, hv⟩
        · rw [show (execOp a.eval o).run P w = _ from hv w hw.1]
          exact hK _ _ _ hg hw (h2 hg)
        · obtain ⟨hJ, w0, hI, x1, x2, x3, x4⟩ := id hw
          have e := x4 ht
          subst e
          rw [show (execOp a.eval o).run P w = _ from hv w hI]
          exact hK _ _ _ hg hw (h2 hg)
        · obtain ⟨hJ, w0, hI, x1, x2, x3, x4⟩ := id hw
          have e := x4 ht
          subst e
          obtain ⟨w', hr, hrel, hsz⟩ := hv w hI
          rw [hr]
          refine hK _ _ _ hg ⟨C.clJ _ _ hJ hrel, w', C.clI _ _ hI hrel, fun j => hg.2.1 j _ _ (x1 j) hrel, fun k hk => by rw [hsz]; exact x2 k hk, (hg.2.2 ht w').symm, fun _ => rfl⟩ (h2 hg)
    · rw [if_pos h1]
      refine .inl ?_
      obtain ⟨hJ, w0, hI, x1, x2, x3, x4⟩ := id hw
      have e := x4 h3
      subst e
      refine nonq_wp (h5 w hI (fun j _ => x1 j)) fun v w' ⟨hr, hp⟩ => ?_
      have hs := Good.setF (i := i) (φ := φ v) hg h3 hw hr hp
      have hg' : Good C (s.setF i (φ v)) := ⟨⟨w', hs⟩, Cl_upd hg.2.1 (h4 v), hg.2.2⟩
      exact hK _ _ _ hg' hs (h6 v hg')
    · rw [if_pos h1]
      refine .inl ?_
      obtain ⟨hJ, w0, hI, x1, x2, x3, x4⟩ := id hw
      have e := x4 h3
      subst e
      unfold Oper.wp
      rw [h4 w]
      have hs := Good.addA (i := i) (obj := obj) hg h3 hw
      have hB0 := C.hB w hI
      have hg' : Good C (s.addA i w.heap.size obj) := ⟨⟨_, hs⟩, Cl_upd hg.2.1 (Cl_block fun ht => Nat.lt_irrefl _ (Nat.lt_of_lt_of_le (C.low _ ht) hB0)), hg.2.2⟩
      exact hK _ _ _ hg' hs (h5 _ hB0 (fun hu => Nat.lt_irrefl _ (x2 _ hu)) hg')
    · rw [if_pos h1]
      refine .inl ?_
      obtain ⟨hJ, w0, hI, x1, x2, x3, x4⟩ := hw
      obtain ⟨q1, q2⟩ := h3 w0 hI x1 x2
      subst x3
      unfold Oper.wp
      rw [q1]
      have hs : Sat C (s.push T) (T w0) := ⟨q2 hJ, w0, hI, x1, x2, rfl, fun e => by cases e⟩
      have hg' : Good C (s.push T) := ⟨⟨_, hs⟩, hg.2.1, fun e => by cases e⟩
      exact hK _ _ _ hg' hs (h4 hg')

theorem wpAny_of_abs {Q : Act → St → Prop} {Q' : Exit → Act → World → Prop} (hQ : ∀ a s w, Good C s → Sat C s w → Q a s → Q' .normal a w) : ∀ (n : Nat) (listed : Array Bool) (a : Act) (s : St) (w : World), Good C s → Sat C s w →
    wpAnyA P ops C Q n listed a s → wpAny P .any ops Q' n listed a w
  | 0, _, _, _, _, hg, hw, h => ⟨h.1, hQ _ _ _ hg hw h.2⟩
  | n + 1, _, _, _, _, hg, hw, h => ⟨fun h0 => hQ _ _ _ hg hw (h.1 h0), fun i hi => wpOp_of_aOp hg hw (fun a' s' w' hg' hw' hk => wpAny_of_abs hQ n _ a' s' w' hg' hw' hk) (h.2 i hi)⟩

def St.start : St := { F := fun _ _ => True, U := fun _ => False, T := fun w => w, t := false }

theorem wp_region_abs {id : Nat} {Q : Exit → Act → World → Prop} {a : Act} {w : World} {l : List Oper} (C : Cls) (ord : List Nat) (hm : P.follows .mixedOrders = true) (hB : okB l.toArray ord = true) (hI : C.I w.drew)
    (h : wpOrd P l.toArray C (fun a s => ∀ w0, C.I w0 → (∀ j, s.F j w0) → (∀ k, s.U k → k < w0.heap.size) → C.J (s.T w0) → Q .normal a (s.T w0)) ord a St.start) : (Code.region id l.toArray true).wp P Q a w := by
  simp only [okB, Bool.and_eq_true, beq_iff_eq] at hB
  obtain ⟨⟨hs, hok⟩, hlen⟩ := hB
  have hgood : Good C St.start := ⟨⟨w.drew, C.IJ _ hI, w.drew, hI, fun _ => trivial, fun _ hk => hk.elim, rfl, fun _ => rfl⟩, fun _ _ _ h _ => h, fun _ _ => rfl⟩
  have hsat : Sat C St.start w.drew := ⟨C.IJ _ hI, w.drew, hI, fun _ => trivial, fun _ hk => hk.elim, rfl, fun _ => rfl⟩
  refine wp_region_any hm ?_
  rw [← hlen] at hok ⊢
  refine wpAny_of_abs (fun a s w _ hw hq => ?_) _ _ _ _ _ hgood hsat (any_of_ord (Region.noSelect_spec hs) ord _ a _ ?_ hok hgood h)
  · obtain ⟨hJ, w0, hI0, x1, x2, x3, _⟩ := hw
    subst x3
    exact hq w0 hI0 x1 x2 hJ
  · intro j oj _ hl
    rw [getD_replicate] at hl
    cases hl
  where
  getD_replicate (m j : Nat) : (Array.replicate m false).getD j false = false := by
    rcases Nat.lt_or_ge j m with h | h
    · simp [h]
    · simp [h]

/-! ### the steps -/

section
variable {Q : Act → St → Prop} {i : Nat} {o : Oper} {l : List Oper} {rest : List Nat} {a : Act} {s : St}

theorem step_does0 (ho : l[i]? = some o) (h : Does P l.toArray C i o a s (grd C (wpOrd P l.toArray C Q rest))) : wpOrd P l.toArray C Q (i :: rest) a s := by
  show aOp P l.toArray C i _ a s
  unfold aOp
  have : l.toArray[i]? = some o := by simpa using ho
  simp only [this]
  exact h
theorem step_does (ho : l[i]? = some o) (h : Does P l.toArray C i o a s (wpOrd P l.toArray C Q rest)) : wpOrd P l.toArray C Q (i :: rest) a s :=
  step_does0 ho (Does_mono P l.toArray C (fun _ _ h _ => h) h)

theorem step_skip (ho : l[i]? = some o) (hw : Region.wanted o (yielded l.toArray a.tmps) = false) (h : ∀ K : Act → St → Prop, (∀ a s, wpOrd P l.toArray C Q rest a s → K a s) → K (a.put o.dst undef) s) : wpOrd P l.toArray C Q (i :: rest) a s :=
  step_does ho (.inl ⟨undef, .inl ⟨hw, rfl⟩, h _ (fun _ _ h => h)⟩)

theorem step_pure (ho : l[i]? = some o) (hw : Region.wanted o (yielded l.toArray a.tmps) = true)
    (h : ∀ K : Act → St → Prop, (∀ a s, wpOrd P l.toArray C Q rest a s → K a s) → ∃ v, (∀ w, (execOp a.eval o).run P w = .ok (.value v) w) ∧ K (a.put o.dst v) s) : wpOrd P l.toArray C Q (i :: rest) a s := by
  obtain ⟨v, h1, h2⟩ := h _ (fun _ _ h => h)
  exact step_does ho (.inl ⟨v, .inr ⟨hw, .inl fun w _ => h1 w⟩, h2⟩)

theorem step_load (ho : l[i]? = some o) (hw : Region.wanted o (yielded l.toArray a.tmps) = true) (hs : sunk l.toArray i = true) (ht : s.t = false) {v : Value}
    (h1 : ∀ w, C.I w → (execOp a.eval o).run P w = .ok (.value v) w) (h2 : ∀ K : Act → St → Prop, (∀ a s, wpOrd P l.toArray C Q rest a s → K a s) → K (a.put o.dst v) s) : wpOrd P l.toArray C Q (i :: rest) a s :=
  step_does ho (.inl ⟨v, .inr ⟨hw, .inr (.inl ⟨hs, ht, h1⟩)⟩, h2 _ (fun _ _ h => h)⟩)

theorem step_call {f : FuncId} {args : Array Value} (ho : l[i]? = some o) (hw : Region.wanted o (yielded l.toArray a.tmps) = true) (hk : kindOf o = .k) (ht : s.t = false) (φ : Value → World → Prop) (hφ : ∀ v, Cl C.tch (φ v))
    (hr : ∀ w, (execOp a.eval o).run P w = .ok (.enter f args) w)
    (hc : ∀ w, C.I w → (∀ j, reach l.toArray i j = true → s.F j w) → Calls P f args w fun e w' => ∃ v, e = .returned v ∧ Below w.heap.size w w' ∧ φ v w')
    (h2 : ∀ K : Act → St → Prop, (∀ a s, wpOrd P l.toArray C Q rest a s → K a s) → ∀ v w, φ v w → K (a.put o.dst v) (s.setF i (φ v))) : wpOrd P l.toArray C Q (i :: rest) a s := by
  refine step_does0 ho (.inr (.inl ⟨hw, hk, ht, φ, hφ, fun w hI hF => ?_, fun v hg => ?_⟩))
  · unfold nonq
    rw [hr w]
    exact (hc w hI hF).mono fun e w' ⟨v, he, hb, hp⟩ => ⟨v, he, Rel.of_below hb, hp⟩
  · obtain ⟨⟨w, _, w0, _, hF, _⟩, _⟩ := hg
    exact h2 _ (fun _ _ h => h) v w0 ((hF i).2 rfl)

theorem step_call_val {f : FuncId} {args : Array Value} (ho : l[i]? = some o) (hw : Region.wanted o (yielded l.toArray a.tmps) = true) (hk : kindOf o = .k) (ht : s.t = false) {v : Value}
    (hr : ∀ w, (execOp a.eval o).run P w = .ok (.enter f args) w)
    (hc : ∀ w, C.I w → Calls P f args w fun e w' => e = .returned v ∧ Below w.heap.size w w')
    (h2 : ∀ K : Act → St → Prop, (∀ a s, wpOrd P l.toArray C Q rest a s → K a s) → K (a.put o.dst v) s) : wpOrd P l.toArray C Q (i :: rest) a s := by
  refine step_does0 ho (.inr (.inl ⟨hw, hk, ht, fun u _ => u = v, fun _ _ _ h _ => h, fun w hI _ => ?_, fun u hg => ?_⟩))
  · unfold nonq
    rw [hr w]
    exact (hc w hI).mono fun e w' ⟨he, hb⟩ => ⟨v, he, Rel.of_below hb, rfl⟩
  · obtain ⟨⟨w, _, w0, _, hF, _⟩, _⟩ := hg
    have e : u = v := (hF i).2 rfl
    subst e
    have es : s.setF i (fun _ => u = u) = s := by
      unfold St.setF upd
      have : (fun (j : Nat) (w : World) => s.F j w ∧ (j = i → u = u)) = s.F := by
        funext j w
        exact propext ⟨fun h => h.1, fun h => ⟨h, fun _ => rfl⟩⟩
      rw [this]
    rw [es]
    exact h2 _ (fun _ _ h => h)

theorem step_new (ho : l[i]? = some o) (hw : Region.wanted o (yielded l.toArray a.tmps) = true) (hk : kindOf o = .a) (ht : s.t = false) {f : Nat → Value} {obj : Obj}
    (h1 : ∀ w, (execOp a.eval o).run P w = .ok (.value (f w.heap.size)) (w.alloc obj))
    (h2 : ∀ K : Act → St → Prop, (∀ a s, wpOrd P l.toArray C Q rest a s → K a s) → ∀ g, C.B ≤ g → ¬ s.U g → K (a.put o.dst (f g)) (s.addA i g obj)) : wpOrd P l.toArray C Q (i :: rest) a s :=
  step_does ho (.inr (.inr (.inl ⟨hw, hk, ht, f, obj, h1, h2 _ (fun _ _ h => h)⟩)))

theorem step_store (ho : l[i]? = some o) (hw : Region.wanted o (yielded l.toArray a.tmps) = true) (hk : kindOf o = .s) {T : World → World}
    (h1 : ∀ w0, C.I w0 → (∀ j, s.F j w0) → (∀ k, s.U k → k < w0.heap.size) → (execOp a.eval o).run P (s.T w0) = .ok .skip (T w0))
    (hJ : ∀ w0, C.I w0 → (∀ k, s.U k → k < w0.heap.size) → C.J (s.T w0) → C.J (T w0))
    (h2 : ∀ K : Act → St → Prop, (∀ a s, wpOrd P l.toArray C Q rest a s → K a s) → K (a.put o.dst undef) (s.push T)) : wpOrd P l.toArray C Q (i :: rest) a s :=
  step_does ho (.inr (.inr (.inr ⟨hw, hk, T, fun w0 a1 a2 a3 => ⟨h1 w0 a1 a2 a3, hJ w0 a1 a3⟩, h2 _ (fun _ _ h => h)⟩)))
end

/-! ### what is known, read off -/

@[go_sem] theorem F_setF (s : St) (i : Nat) (φ : World → Prop) (w : World) : (∀ j, (s.setF i φ).F j w) ↔ (∀ j, s.F j w) ∧ φ w :=
  ⟨fun h => ⟨fun j => (h j).1, (h i).2 rfl⟩, fun h j => ⟨h.1 j, fun _ => h.2⟩⟩
@[go_sem] theorem F_addA (s : St) (i g : Nat) (obj : Obj) (w : World) : (∀ j, (s.addA i g obj).F j w) ↔ (∀ j, s.F j w) ∧ w.heap[g]? = some obj :=
  ⟨fun h => ⟨fun j => (h j).1, (h i).2 rfl⟩, fun h j => ⟨h.1 j, fun _ => h.2⟩⟩
@[go_sem] theorem F_push (s : St) (T : World → World) (w : World) : (∀ j, (s.push T).F j w) ↔ ∀ j, s.F j w := Iff.rfl
@[go_sem] theorem F_start (w : World) : (∀ j, St.start.F j w) ↔ True := ⟨fun _ => trivial, fun _ _ => trivial⟩
@[go_sem] theorem U_addA (s : St) (i g : Nat) (obj : Obj) (k : Nat) : (s.addA i g obj).U k ↔ k = g ∨ s.U k := Iff.rfl
@[go_sem] theorem U_setF (s : St) (i : Nat) (φ : World → Prop) (k : Nat) : (s.setF i φ).U k ↔ s.U k := Iff.rfl
@[go_sem] theorem U_push (s : St) (T : World → World) (k : Nat) : (s.push T).U k ↔ s.U k := Iff.rfl
@[go_sem] theorem U_start (k : Nat) : St.start.U k ↔ False := Iff.rfl
@[go_sem] theorem T_setF (s : St) (i : Nat) (φ : World → Prop) : (s.setF i φ).T = s.T := rfl
@[go_sem] theorem T_addA (s : St) (i g : Nat) (obj : Obj) : (s.addA i g obj).T = s.T := rfl
@[go_sem] theorem T_push (s : St) (T : World → World) : (s.push T).T = T := rfl
@[go_sem] theorem T_start : St.start.T = fun w => w := rfl

/-! ### the usual classes -/

def cls (w : World) (sto : Nat → Prop) : Cls where
  tch := fun _ => False
  B := w.heap.size
  I := Below w.heap.size w
  J := fun w' => w.heap.size ≤ w'.heap.size ∧ ∀ k, k < w.heap.size → ¬ sto k → w'.heap[k]? = w.heap[k]?
  clI := fun _ _ h hr => ⟨hr.os.trans h.os, hr.tape.trans h.tape, hr.output.trans h.output, Nat.le_trans h.size hr.size, fun k hk => (hr.block k (Nat.lt_of_lt_of_le hk h.size) (fun h => h)).trans (h.block k hk)⟩
  clJ := fun _ _ h hr => ⟨Nat.le_trans h.1 hr.size, fun k hk hs => (hr.block k (Nat.lt_of_lt_of_le hk h.1) (fun h => h)).trans (h.2 k hk hs)⟩
  IJ := fun _ h => ⟨h.size, fun k hk _ => h.block k hk⟩
  hB := fun _ h => h.size
  low := fun _ h => h.elim
def cls0 (w : World) : Cls where
  tch := fun _ => False
  B := w.heap.size
  I := Below w.heap.size w
  J := fun _ => True
  clI := fun _ _ h hr => ⟨hr.os.trans h.os, hr.tape.trans h.tape, hr.output.trans h.output, Nat.le_trans h.size hr.size, fun k hk => (hr.block k (Nat.lt_of_lt_of_le hk h.size) (fun h => h)).trans (h.block k hk)⟩
  clJ := fun _ _ _ _ => trivial
  IJ := fun _ _ => trivial
  hB := fun _ h => h.size
  low := fun _ h => h.elim

end
end Abs

/-! ### a block written whole -/

def setRow (w : World) (g : Nat) (cs : Array Value) : World :=
  { w with heap := w.heap.modify g fun
      | .cells _ e f => .cells cs e f
      | o => o }

@[go_sem] theorem setRow_size (w : World) (g : Nat) (cs : Array Value) : (setRow w g cs).heap.size = w.heap.size := by simp [setRow]
theorem setRow_same {w : World} {g : Nat} {cs cs' : Array Value} {t : TypeId} {f : Nat × Nat} (h : w.heap[g]? = some (.cells cs t f)) : (setRow w g cs').heap[g]? = some (.cells cs' t f) := by
  simp [setRow, Array.getElem?_modify, h]
theorem setRow_other {w : World} {g k : Nat} (cs' : Array Value) (h : k ≠ g) : (setRow w g cs').heap[k]? = w.heap[k]? := by
  simp only [setRow, Array.getElem?_modify]
  rw [if_neg (fun e => h e.symm)]
theorem setRow_below {B : Nat} {a w : World} {g : Nat} (h : Below B a w) (hg : B ≤ g) (cs : Array Value) : Below B a (setRow w g cs) :=
  h.trans ⟨rfl, rfl, rfl, by simp [setRow], fun _ hk => setRow_other cs (by omega)⟩

theorem setCell_modify (w : World) (g i : Nat) (v : Value) : w.setCell ⟨g, i, none⟩ v = { w with heap := w.heap.modify g fun
      | .cells c e f => .cells (c.setIfInBounds i v) e f
      | o => o } := rfl
theorem setRow_of_setCell {w : World} {g i : Nat} {cs cs' : Array Value} {t : TypeId} {f : Nat × Nat} (h : w.heap[g]? = some (.cells cs t f)) (v : Value) (e : cs.setIfInBounds i v = cs') : w.setCell ⟨g, i, none⟩ v = setRow w g cs' := by
  rw [setCell_modify]
  unfold setRow
  congr 1
  apply Array.ext_getElem?
  intro k
  simp only [Array.getElem?_modify]
  by_cases hk : g = k
  · subst hk
    simp [h, e]
  · rw [if_neg hk, if_neg hk]
theorem setRow_setRow (w : World) (g : Nat) (cs cs' : Array Value) : setRow (setRow w g cs) g cs' = setRow w g cs' := by
  unfold setRow
  congr 1
  apply Array.ext_getElem?
  intro k
  simp only [Array.getElem?_modify]
  by_cases hk : g = k
  · subst hk
    cases w.heap[g]? with
    | none => simp
    | some o => cases o <;> simp
  · rw [if_neg hk, if_neg hk, if_neg hk]
theorem row1 {w : World} {g : Nat} {a0 : Value} {t : TypeId} {f : Nat × Nat} (h : w.heap[g]? = some (.cells #[a0] t f)) (v0 : Value) : w.setCell ⟨g, 0, none⟩ v0 = setRow w g #[v0] :=
  setRow_of_setCell h v0 rfl
theorem row2 {w : World} {g : Nat} {a0 a1 : Value} {t : TypeId} {f : Nat × Nat} (h : w.heap[g]? = some (.cells #[a0, a1] t f)) (v0 v1 : Value) : (w.setCell ⟨g, 0, none⟩ v0).setCell ⟨g, 1, none⟩ v1 = setRow w g #[v0, v1] := by
  rw [setRow_of_setCell h v0 rfl, setRow_of_setCell (setRow_same h) v1 rfl, setRow_setRow]
  rfl
theorem rcell {w : World} {g : Nat} {cs : Array Value} {t : TypeId} (h : w.heap[g]? = some (.cells cs t (0, 0))) : (∀ i, w.cell? ⟨g, i, none⟩ = cs[i]?) ∧ (∀ i, w.frozen? ⟨g, i, none⟩ = false) ∧ g < w.heap.size :=
  ⟨fun i => by simp [World.cell?, h], fun i => by simp [World.frozen?, h], by
    rcases Nat.lt_or_ge g w.heap.size with h' | h'
    · exact h'
    · rw [Array.getElem?_eq_none h'] at h; cases h⟩

theorem kp {W w1 : World} {k : Nat} {cs : Array Value} {t : TypeId} (hb : Below W.heap.size W w1) (h : W.heap[k]? = some (.cells cs t (0, 0))) : w1.heap[k]? = some (.cells cs t (0, 0)) := (hb.block k (rcell h).2.2).trans h
theorem js {W w0 : World} {g : Nat} {sto : Nat → Prop} (h : (Abs.cls W sto).J w0) (hg : sto g) (cs : Array Value) : (Abs.cls W sto).J (setRow w0 g cs) :=
  ⟨by rw [setRow_size]; exact h.1, fun k hk hs => (setRow_other cs (fun e => hs (by rw [e]; exact hg))).trans (h.2 k hk hs)⟩
theorem ka {W : World} {k : Nat} {cs : Array Value} {t : TypeId} (h : W.heap[k]? = some (.cells cs t (0, 0))) (o : Obj) : (W.alloc o).heap[k]? = some (.cells cs t (0, 0)) := (Below.heap_alloc W o k (rcell h).2.2).trans h
theorem na (W : World) (cs : Array Value) (t : TypeId) : (W.alloc (.cells cs t)).heap[W.heap.size]? = some (.cells cs t (0, 0)) := by
  show (W.heap.push _)[W.heap.size]? = _
  simp
theorem b0 (w : World) : Below w.heap.size w w := Below.refl _ _
theorem bA {w W : World} (h : Below w.heap.size w W) (o : Obj) : Below w.heap.size w (W.alloc o) := h.alloc h.size o
theorem bB {w W w1 : World} (h : Below w.heap.size w W) (hb : Below W.heap.size W w1) : Below w.heap.size w w1 := h.trans (hb.mono h.size)
theorem bS {w W : World} (h : Below w.heap.size w W) {g i : Nat} (hg : w.heap.size ≤ g) (v : Value) : Below w.heap.size w (W.setCell ⟨g, i, none⟩ v) := h.setCell (p := ⟨g, i, none⟩) hg v

theorem ret_row {w W W' : World} {g : Nat} {cs cs' : Array Value} {t : TypeId} (hb : Below w.heap.size w W) (hg : w.heap.size ≤ g) (h : W.heap[g]? = some (.cells cs t (0, 0))) (hT : setRow W g cs' = W') :
    Below w.heap.size w W' ∧ W'.heap[g]? = some (.cells cs' t (0, 0)) := by
  subst hT
  exact ⟨setRow_below hb hg cs', setRow_same h⟩

theorem fin_old {base w0 w1 : World} {g : Nat} {t : TypeId} {cs cs' : Array Value} (hI : Below base.heap.size base w0) (hF : base.heap[g]? = some (.cells cs t (0, 0))) (hT : setRow w0 g cs' = w1) :
    (∀ b, b < base.heap.size → b ≠ g → w1.heap[b]? = base.heap[b]?) ∧ w1.heap[g]? = some (.cells cs' t (0, 0)) ∧ base.heap.size ≤ w1.heap.size ∧ Below g base w1 := by
  subst hT
  have hlt := (rcell hF).2.2
  exact ⟨fun b hb hne => (setRow_other cs' hne).trans (hI.block b hb), setRow_same ((hI.block g hlt).trans hF), by rw [setRow_size]; exact hI.size,
    setRow_below (hI.mono (by omega)) (Nat.le_refl _) cs'⟩
theorem bG {w base w1 : World} {g : Nat} (h : Below w.heap.size w base) (hb : Below g base w1) (hg : w.heap.size ≤ g) : Below w.heap.size w w1 := h.trans (hb.mono hg)
end Go.Proofs.YtbiedfkmmcaplaaGreatDoor

namespace Go.Proofs.YtbiedfkmmcaplaaGreatDoor
open Go.RowKit

structure Exc (g : Nat) (w w' : World) : Prop where
  le : g ≤ w.heap.size
  low : Below g w w'
  size : w.heap.size ≤ w'.heap.size
  other : ∀ b, b < w.heap.size → b ≠ g → w'.heap[b]? = w.heap[b]?
theorem Exc.of_below {g : Nat} {w w' : World} (h : Below w.heap.size w w') (hg : g ≤ w.heap.size) : Exc g w w' := ⟨hg, h.mono hg, h.size, fun b hb _ => h.block b hb⟩
theorem Exc.trans {g : Nat} {w w1 w2 : World} (h1 : Exc g w w1) (h2 : Exc g w1 w2) : Exc g w w2 :=
  ⟨h1.le, h1.low.trans h2.low, Nat.le_trans h1.size h2.size, fun b hb hg => (h2.other b (Nat.lt_of_lt_of_le hb h1.size) hg).trans (h1.other b hb hg)⟩
theorem kx {g k : Nat} {W w1 : World} {cs : Array Value} {t : TypeId} (hx : Exc g W w1) (h : W.heap[k]? = some (.cells cs t (0, 0))) (hk : k ≠ g) : w1.heap[k]? = some (.cells cs t (0, 0)) :=
  (hx.other k (rcell h).2.2 hk).trans h
theorem x0 (g : Nat) (w : World) (h : g ≤ w.heap.size) : Exc g w w := Exc.of_below (b0 w) h
theorem xB {g : Nat} {w W w1 : World} (h : Exc g w W) (hb : Below W.heap.size W w1) : Exc g w w1 :=
  ⟨h.le, h.low.trans (hb.mono (Nat.le_trans h.le h.size)), Nat.le_trans h.size hb.size, fun b hb' hg => (hb.block b (Nat.lt_of_lt_of_le hb' h.size)).trans (h.other b hb' hg)⟩
theorem xA {g : Nat} {w W : World} (h : Exc g w W) (o : Obj) : Exc g w (W.alloc o) := xB h (bA (b0 W) o)
theorem bX {k : Nat} {w W w1 : World} (h : Below w.heap.size w W) (hx : Exc k W w1) (hk : w.heap.size ≤ k) : Below w.heap.size w w1 := bG h hx.low hk
theorem xX {g k : Nat} {w W w1 : World} (h : Exc g w W) (hx : Exc k W w1) (hk : k = g ∨ w.heap.size ≤ k ∧ g ≤ k) : Exc g w w1 := by
  rcases hk with rfl | ⟨h1, h2⟩
  · exact h.trans hx
  · exact ⟨h.le, h.low.trans (hx.low.mono h2), Nat.le_trans h.size hx.size, fun b hb hg => (hx.other b (Nat.lt_of_lt_of_le hb h.size) (by omega)).trans (h.other b hb hg)⟩
theorem fin_x {base w0 w1 : World} {g : Nat} {t : TypeId} {cs cs' : Array Value} (hI : Below base.heap.size base w0) (hF : base.heap[g]? = some (.cells cs t (0, 0))) (hT : setRow w0 g cs' = w1) :
    Exc g base w1 ∧ w1.heap[g]? = some (.cells cs' t (0, 0)) := by
  obtain ⟨hO, hN, hS, hG⟩ := fin_old hI hF hT
  exact ⟨⟨Nat.le_of_lt (rcell hF).2.2, hG, hS, hO⟩, hN⟩
end Go.Proofs.YtbiedfkmmcaplaaGreatDoor
