/- The lines of a text, as strings.Cut parts them (plain). A range over a function: the law for an iterator that keeps its state in a variable that was there before the loop, and says what comes. No program is imported. console.lines at this program: a text's lines, one by one. Steps of a round within a range over a function: whole variables, a row of commands. console.Run at this program: a text of which a line is wrong. -/
import Derived.Lib.IndexMore
import Derived.Lib.IndexBytes
import Derived.Test.YtbiedfkmmcaplaaGreatDoorAb
import Derived.RangeFuncNested
import Derived.RangeFuncBound
import Derived.RangeFuncCalls
import Derived.RangeFuncLeaves
import Derived.Shelf.Abstract
import Derived.Shelf.RegionOpen
import Derived.WalkKit
import Derived.OwnWalkIn
import Derived.TacticsInMore
import Derived.LoopNIn
import Derived.LoopIn
import Derived.Test.YtbiedfkmmcaplaaGreatDoorRa
import Derived.Test.YtbiedfkmmcaplaaGreatDoorRe
set_option linter.all false
namespace Go.Proofs.YtbiedfkmmcaplaaGreatDoor

def cutB (s : ByteArray) : ByteArray × ByteArray × Bool := (⟨(Lib.cut s.data.toList [10]).1.toArray⟩, ⟨(Lib.cut s.data.toList [10]).2.1.toArray⟩, (Lib.cut s.data.toList [10]).2.2)
theorem indexByte_at (c : UInt8) (r : List UInt8) : ∀ l : List UInt8, c ∉ l → Lib.indexByte (l ++ c :: r) c = (l.length : Int)
  | [], _ => by simp [Lib.indexByte]
  | x :: l, h => by
    have h1 : (x == c) = false := by simp at h ⊢; exact fun e => h.1 e.symm
    have := indexByte_at c r l (fun e => h (List.mem_cons_of_mem _ e))
    simp only [List.cons_append, Lib.indexByte, h1, this]
    have h2 : (((l.length : Int)) == -1) = false := beq_eq_false_iff_ne.2 (by omega)
    simp [h2]
theorem indexByte_not (c : UInt8) : ∀ l : List UInt8, c ∉ l → Lib.indexByte l c = -1
  | [], _ => by simp [Lib.indexByte]
  | x :: l, h => by
    have h1 : (x == c) = false := by simp at h ⊢; exact fun e => h.1 e.symm
    have := indexByte_not c l (fun e => h (List.mem_cons_of_mem _ e))
    simp only [Lib.indexByte, h1, this]
    simp
theorem cut_at (l r : List UInt8) (h : (10 : UInt8) ∉ l) : Lib.cut (l ++ 10 :: r) [10] = (l, r, true) := by
  unfold Lib.cut
  rw [Lib.index_one, indexByte_at 10 r l h]
  simp
theorem cut_not (l : List UInt8) (h : (10 : UInt8) ∉ l) : Lib.cut l [10] = (l, [], false) := by
  unfold Lib.cut
  rw [Lib.index_one, indexByte_not 10 l h]
  simp
theorem cutB_at (l r : ByteArray) (h : (10 : UInt8) ∉ l.data.toList) : cutB (l ++ ⟨#[10]⟩ ++ r) = (l, r, true) := by
  unfold cutB
  have e : (l ++ ⟨#[10]⟩ ++ r).data.toList = l.data.toList ++ 10 :: r.data.toList := by simp
  rw [e, cut_at _ _ h]
theorem cutB_not (l : ByteArray) (h : (10 : UInt8) ∉ l.data.toList) : cutB l = (l, ⟨#[]⟩, false) := by
  unfold cutB
  rw [cut_not _ h]
theorem cut_rest (s : List UInt8) : (Lib.cut s [10]).2.1 = [] ∨ (Lib.cut s [10]).2.1.length < s.length := by
  unfold Lib.cut
  split
  · next h =>
    have := Lib.index_room s [10] h
    right
    simp at *
    omega
  · left; rfl
theorem cutB_rest (s : ByteArray) : (cutB s).2.1 = ⟨#[]⟩ ∨ (cutB s).2.1.size < s.size := by
  rcases cut_rest s.data.toList with h | h
  · left; unfold cutB; rw [h]
  · right
    show (ByteArray.mk _).data.size < s.data.size
    simpa [cutB] using h
def linesL : Nat → ByteArray → List (ByteArray × Bool)
  | 0, _ => []
  | n + 1, s => ((cutB s).1, (cutB s).2.2) :: if (cutB s).2.1.size = 0 then [] else linesL n (cutB s).2.1
theorem linesL_fuel : ∀ (n m : Nat) (s : ByteArray), s.size < n → s.size < m → linesL n s = linesL m s
  | 0, _, _, h, _ => by omega
  | _ + 1, 0, _, _, h => by omega
  | n + 1, m + 1, s, h, k => by
    simp only [linesL]
    split
    · rfl
    · next hne =>
      rcases cutB_rest s with e | e
      · rw [e] at hne; exact absurd rfl hne
      · rw [linesL_fuel n m _ (by omega) (by omega)]
def linesB (s : ByteArray) : List (ByteArray × Bool) := linesL (s.size + 1) s
theorem linesB_eq (s : ByteArray) : linesB s = ((cutB s).1, (cutB s).2.2) :: if (cutB s).2.1.size = 0 then [] else linesB (cutB s).2.1 := by
  show linesL (s.size + 1) s = _
  simp only [linesL]
  split
  · rfl
  · next hne =>
    rcases cutB_rest s with e | e
    · rw [e] at hne; exact absurd rfl hne
    · rw [linesL_fuel s.size ((cutB s).2.1.size + 1) _ (by omega) (by omega)]; rfl
theorem linesB_cut {s l r : ByteArray} {f : Bool} (h : cutB s = (l, r, f)) : linesB s = (l, f) :: if r.size = 0 then [] else linesB r := by
  have e := linesB_eq s
  simp only [h] at e
  exact e
def textOf : List ByteArray → ByteArray → ByteArray
  | [], t => t
  | l :: ls, t => l ++ ⟨#[10]⟩ ++ textOf ls t
theorem linesB_text (t : ByteArray) (ht : t.size ≠ 0) : ∀ ls : List ByteArray, (∀ l ∈ ls, (10 : UInt8) ∉ l.data.toList) → linesB (textOf ls t) = ls.map (fun l => (l, true)) ++ linesB t
  | [], _ => rfl
  | l :: ls, h => by
    have ih := linesB_text t ht ls (fun x hx => h x (List.mem_cons_of_mem _ hx))
    have hne : ¬ (textOf ls t).size = 0 := by
      cases ls with
      | nil => exact ht
      | cons a bs =>
        simp only [textOf, ByteArray.size_append]
        have : (⟨#[10]⟩ : ByteArray).size = 1 := rfl
        omega
    have hc : cutB (textOf (l :: ls) t) = (l, textOf ls t, true) := cutB_at l (textOf ls t) (h l List.mem_cons_self)
    rw [linesB_cut hc, if_neg hne, ih]
    rfl
end Go.Proofs.YtbiedfkmmcaplaaGreatDoor

namespace Go.Proofs.YtbiedfkmmcaplaaGreatDoor
open Go.RowKit

structure Upper (B : Nat) (W W' : World) : Prop where
  size : W.heap.size ≤ W'.heap.size
  block : ∀ k, B ≤ k → k < W.heap.size → W'.heap[k]? = W.heap[k]?
theorem Upper.refl (B : Nat) (W : World) : Upper B W W := ⟨Nat.le_refl _, fun _ _ _ => rfl⟩
theorem Upper.trans {B : Nat} {X Y Z : World} (h : Upper B X Y) (h' : Upper B Y Z) : Upper B X Z :=
  ⟨Nat.le_trans h.size h'.size, fun k h1 h2 => (h'.block k h1 (Nat.lt_of_lt_of_le h2 h.size)).trans (h.block k h1 h2)⟩
theorem Upper.of_below {B : Nat} {W W' : World} (h : Below W.heap.size W W') : Upper B W W' := ⟨h.size, fun k _ h2 => h.block k h2⟩
theorem Upper.up {B B' : Nat} {W W' : World} (h : Upper B W W') (hB : B ≤ B') : Upper B' W W' := ⟨h.size, fun k h1 h2 => h.block k (Nat.le_trans hB h1) h2⟩
theorem Upper.exc {B k : Nat} {W W' : World} (h : Exc k W W') (hk : k < B) : Upper B W W' := ⟨h.size, fun b h1 h2 => h.other b h2 (by omega)⟩
structure Turned (l : Nat) (W W' : World) : Prop where
  os : W'.os = W.os
  tape : W'.tape = W.tape
  output : W'.output = W.output
  size : W'.heap.size = W.heap.size
  block : ∀ k, k ≠ l → W'.heap[k]? = W.heap[k]?
theorem turned_put (W : World) (l : Nat) (o : Obj) : Turned l W (W.putObj l o) := ⟨rfl, rfl, rfl, World.putObj_size, fun _ hk => World.putObj_heap_other hk⟩
theorem Turned.low {l B : Nat} {W W' : World} (h : Turned l W W') (hl : B ≤ l) : Below B W W' := ⟨h.os, h.tape, h.output, Nat.le_of_eq h.size.symm, fun k hk => h.block k (by omega)⟩
theorem Turned.up {l B : Nat} {W W' : World} (h : Turned l W W') (hl : l < B) : Upper B W W' := ⟨Nat.le_of_eq h.size.symm, fun k hk _ => h.block k (by omega)⟩
theorem kt {l k : Nat} {W W' : World} {cs : Array Value} {t : TypeId} (ht : Turned l W W') (h : W.heap[k]? = some (.cells cs t (0, 0))) (hk : k ≠ l) : W'.heap[k]? = some (.cells cs t (0, 0)) := (ht.block k hk).trans h

structure KeepB (b : Nat) (W W' : World) : Prop where
  size : W.heap.size ≤ W'.heap.size
  dd : W'.heap[b]? = W.heap[b]?
  ll : W'.heap[b + 1]? = W.heap[b + 1]?
theorem KeepB.refl (b : Nat) (W : World) : KeepB b W W := ⟨Nat.le_refl _, rfl, rfl⟩

def SeqC {α : Type} (P : Program) (g : Nat) (lb : Array Value) (encs : α → Array Value) (Kr : World → Prop) (S Sp : List α → Prop) (Bs : Nat) (w : World) : Prop :=
  ∀ (l : Nat) (J Jx : List α → World → Prop) (W : World), Below w.heap.size w W → l < W.heap.size → (∀ s X Y, J s X → Below X.heap.size X Y → J s Y) → (∀ s X Y, Jx s X → Below X.heap.size X Y → Jx s Y) → (∀ s X, J s X → Kr X) → (∀ s X Y, J s X → Exc Bs X Y → J s Y) →
    (∀ pre x W1, J pre W1 → Sp (pre ++ [x]) → W.heap.size ≤ W1.heap.size → YieldAt Fence.wide 1 P l (encs x) W1 fun e W' =>
      (e = .returned (.bool true) ∧ J (pre ++ [x]) W' ∧ W1.heap.size ≤ W'.heap.size ∧ W'.heap[Bs]? = W1.heap[Bs]?) ∨ (e = .returned (.bool false) ∧ Jx (pre ++ [x]) W')) →
    J [] W →
    CallsIn Fence.wide 2 P g (#[.func (.yield l) #[] #[]] ++ lb) W fun e W' => (∃ v, e = .returned v) ∧ ((∃ xs, S xs ∧ J xs W') ∨ (∃ pre, Sp pre ∧ Jx pre W'))

def postB {α : Type} (Bs B : Nat) (I : List α → World → Prop) (Ix : Code → List α → World → Prop) (xs : List α) (W : World) : Exit → Act → World → Prop
  | .normal, _, W' => KeepB B W W' ∧ W'.heap[Bs]? = W.heap[Bs]? ∧ I xs W'
  | .ret, _, W' => KeepB B W W' ∧ Ix .ret xs W'
  | .exit id, _, W' => KeepB B W W' ∧ Ix (.exit id) xs W'
  | .goto t, _, W' => KeepB B W W' ∧ Ix (.goto t) xs W'
  | .panic _, _, _ => False
  | .outgrown, _, _ => False

section
variable {P : Program}
theorem wp_rangeFunc_seqC {α : Type} {g : Operand} {ps : Array Tmp} {assign body : Code} {Q : Exit → Act → World → Prop} {a : Act} {w : World}
    {gf : Nat} {lb : Array Value} (hg : a.eval g = .func (.func gf) #[] lb) (eg : ∀ args w, (callFunc gf args).run P w = .ok (.enter gf args) w)
    {encs : α → Array Value} {Kr : World → Prop} {S Sp : List α → Prop} {Bs : Nat} (hBs : Bs < w.heap.size) (hseq : SeqC P gf lb encs Kr S Sp Bs w) (hps : ∀ x, (encs x).size = ps.size)
    (I : List α → World → Prop) (Ix : Code → List α → World → Prop) (hI : ∀ s X Y, I s X → Below X.heap.size X Y → I s Y) (hIt : ∀ s X Y, I s X → Turned (w.heap.size + 1) X Y → I s Y) (hIx : ∀ c s X Y, Ix c s X → Below X.heap.size X Y → Ix c s Y) (hIxt : ∀ c s X Y, Ix c s X → Turned (w.heap.size + 1) X Y → Ix c s Y) (hIr : ∀ s X, I s X → Kr X) (hIs : ∀ s X Y, I s X → Exc Bs X Y → I s Y) (h0 : I [] w)
    (hround : ∀ (l : Nat) (pre : List α) (x : α) (W : World) (K : Act → World → Prop), l = w.heap.size + 1 → l < W.heap.size → I pre W → Sp (pre ++ [x]) →
      (∀ a' W₁, Below W.heap.size W W₁ → (∀ W₂, Turned l W₁ W₂ → body.wpIn (Fence.wide.inRound l) 1 P (postB Bs w.heap.size I Ix (pre ++ [x]) W₂) a' W₂) → K a' W₁) →
      assign.wpIn (Fence.wide.inRound l) 1 P (Exit.then K (fun _ _ _ => False)) { tmps := (ps.zip (encs x)).foldl (fun t (p, v) => t.setIfInBounds p v) a.tmps, defers := [] } W)
    (hdone : ∀ (D : Nat) (xs : List α) (W : World), w.heap.size ≤ D → S xs → I xs W → W.heap[D]? = some (.deferred (some [])) → Q .normal { a with defers := { target := .collected D, args := #[] } :: a.defers } W)
    (hstop : ∀ (D : Nat) (c : Code) (pre : List α) (W : World), w.heap.size ≤ D → Sp pre → Ix c pre W → W.heap[D]? = some (.deferred (some [])) → c.wp P Q { a with defers := { target := .collected D, args := #[] } :: a.defers } W) :
    (Code.rangeFunc g ps assign body).wp P Q a w := by
  refine (wpIn_wide (n := 3)).1 (wpIn_rangeFunc ?_)
  intro fn hfn
  show ∃ (l : Nat) (mark : List Deferred) (w₁ : World) (d : Deferred) (w₁' : World) (f : FuncId) (args : Array Value) (w₂ : World),
      (Instr.enterLoop fn a.tmps ps assign body none).run P w = .ok (l, mark) w₁ ∧ _
  obtain ⟨rec, hrec⟩ : ∃ rec : LoopState → Option Code → Loop, rec = fun st pe => { state := st, pending := pe, fn, tmps := a.tmps, params := ps, assign, body, defers := w.heap.size } := ⟨_, rfl⟩
  obtain ⟨W1, hW1⟩ : ∃ W1, (w.alloc (.deferred (some []))).alloc (.loop (rec .ready none)) = W1 := ⟨_, rfl⟩
  have hL1 : W1.heap[w.heap.size + 1]? = some (.loop (rec .ready none)) := by
    rw [← hW1]; have := World.alloc_heap_new (w.alloc (.deferred (some []))) (.loop (rec .ready none)); rwa [World.size_alloc] at this
  have hK1 : W1.heap[w.heap.size]? = some (.deferred (some [])) := by
    rw [← hW1]; exact (Below.heap_alloc _ _ _ (by simp)).trans (World.alloc_heap_new w _)
  have hs1 : W1.heap.size = w.heap.size + 2 := by rw [← hW1]; simp
  have hb1 : Below w.heap.size w W1 := by
    rw [← hW1]; exact ((Below.refl _ w).alloc (Nat.le_refl _) _).alloc (by simp) _
  refine ⟨w.heap.size + 1, [{ target := .collected w.heap.size, args := #[] }], W1, { target := .fn (.func gf) lb, args := #[.func (.yield (w.heap.size + 1)) #[] #[]] }, W1, gf,
    #[.func (.yield (w.heap.size + 1)) #[] #[]] ++ lb, W1, ?_, ?_, ?_, ?_, fun _ => by omega, ?_⟩
  · rw [← hW1, hrec]; exact run_enterLoop_outer _ _ _ _ _
  · simp only [resolve, hg]
    simp [go_sem]
  · intro f' hf'; trivial
  · simp [invoke, go_sem, eg]
  · refine (hseq (w.heap.size + 1)
      (fun pre W => I pre W ∧ W.heap[w.heap.size + 1]? = some (.loop (rec .ready none)) ∧ W.heap[w.heap.size]? = some (.deferred (some [])))
      (fun pre W => ∃ c, Ix c pre W ∧ W.heap[w.heap.size + 1]? = some (.loop (rec .done (some c))) ∧ W.heap[w.heap.size]? = some (.deferred (some [])))
      W1 hb1 (by omega)
      (fun s X Y hs hb => ⟨hI s X Y hs.1 hb, (hb.block _ (Array.getElem?_eq_some_iff.1 hs.2.1).1).trans hs.2.1, (hb.block _ (Array.getElem?_eq_some_iff.1 hs.2.2).1).trans hs.2.2⟩)
      (fun s X Y hs hb => by
        obtain ⟨c, hc, hl, hk⟩ := hs
        exact ⟨c, hIx c s X Y hc hb, (hb.block _ (Array.getElem?_eq_some_iff.1 hl).1).trans hl, (hb.block _ (Array.getElem?_eq_some_iff.1 hk).1).trans hk⟩)
      (fun s X hs => hIr s X hs.1)
      (fun s X Y hs hx => ⟨hIs s X Y hs.1 hx, (hx.other _ (Array.getElem?_eq_some_iff.1 hs.2.1).1 (by omega)).trans hs.2.1, (hx.other _ (Array.getElem?_eq_some_iff.1 hs.2.2).1 (by omega)).trans hs.2.2⟩)
      ?_ ⟨hI [] _ _ h0 hb1, hL1, hK1⟩).mono ?_
    · -- one round
      rintro pre x W ⟨hi, hl, hk⟩ hlen hW1s
      have hlt : w.heap.size + 1 < W.heap.size := (Array.getElem?_eq_some_iff.1 hl).1
      have hy := run_yield (P := P) (args := encs x) hl (by rw [hrec]; exact hps x)
      rw [hrec] at hy
      refine ⟨fn, _, assign, body, hy, roundIn_of_wpIn trivial (hround _ pre x W _ rfl hlt hi hlen ?_)⟩
      clear hy
      intro a' Wa hba hbody
      have hla := (hba.block _ hlt).trans hl
      have hka := (hba.block _ (by omega)).trans hk
      refine ⟨_, run_beginRound hla (by rw [hrec]), ?_⟩
      refine wpIn_mono (hbody _ (turned_put _ _ _)) ?_
      have hlta : w.heap.size + 1 < Wa.heap.size := (Array.getElem?_eq_some_iff.1 hla).1
      have hl2 : (Wa.putObj (w.heap.size + 1) (.loop { rec .ready none with state := .busy })).heap[w.heap.size + 1]? = some (.loop { rec .ready none with state := .busy }) := World.putObj_heap_same hlta
      have hk2 : (Wa.putObj (w.heap.size + 1) (.loop { rec .ready none with state := .busy })).heap[w.heap.size]? = some (.deferred (some [])) := (World.putObj_heap_other (by omega)).trans hka
      have hsz : (Wa.putObj (w.heap.size + 1) (.loop { rec .ready none with state := .busy })).heap.size = Wa.heap.size := World.putObj_size
      have fin : ∀ (jump : Option Code) (W3 : World), KeepB w.heap.size (Wa.putObj (w.heap.size + 1) (.loop { rec .ready none with state := .busy })) W3 →
          (Instr.endRound (w.heap.size + 1) jump).run P W3 = .ok (.bool jump.isNone) (W3.putObj (w.heap.size + 1) (.loop (rec (if jump.isNone then .ready else .done) jump))) ∧
          (W3.putObj (w.heap.size + 1) (.loop (rec (if jump.isNone then .ready else .done) jump))).heap[w.heap.size + 1]? = some (.loop (rec (if jump.isNone then .ready else .done) jump)) ∧
          (W3.putObj (w.heap.size + 1) (.loop (rec (if jump.isNone then .ready else .done) jump))).heap[w.heap.size]? = some (.deferred (some [])) ∧
          Turned (w.heap.size + 1) W3 (W3.putObj (w.heap.size + 1) (.loop (rec (if jump.isNone then .ready else .done) jump))) := fun jump W3 hk3 => by
        have hl3 := hk3.ll.trans hl2
        have := run_endRound (P := P) jump hl3
        rw [hrec] at this ⊢
        exact ⟨this, World.putObj_heap_same (Array.getElem?_eq_some_iff.1 hl3).1, (World.putObj_heap_other (by omega)).trans (hk3.dd.trans hk2), turned_put _ _ _⟩
      rintro e a3 W3 hp
      cases e with
      | normal =>
        obtain ⟨hk3, hbs3, hi3⟩ := hp
        obtain ⟨hr, hl4, hk4, hb4⟩ := fin none W3 hk3
        have hsW : w.heap.size ≤ W.heap.size := by omega
        exact ⟨_, _, hr, .inl ⟨rfl, ⟨hIt _ _ _ hi3 hb4, hl4, hk4⟩, by rw [World.putObj_size]; exact Nat.le_trans (by rw [World.putObj_size]; exact hba.size) hk3.size,
          (World.putObj_heap_other (by omega)).trans (hbs3.trans ((World.putObj_heap_other (by omega)).trans (hba.block _ (by omega))))⟩⟩
      | ret =>
        obtain ⟨hk3, hi3⟩ := hp
        obtain ⟨hr, hl4, hk4, hb4⟩ := fin (some .ret) W3 hk3
        exact ⟨_, _, hr, .inr ⟨rfl, .ret, hIxt _ _ _ _ hi3 hb4, hl4, hk4⟩⟩
      | exit id =>
        obtain ⟨hk3, hi3⟩ := hp
        obtain ⟨hr, hl4, hk4, hb4⟩ := fin (some (.exit id)) W3 hk3
        exact ⟨_, _, hr, .inr ⟨rfl, .exit id, hIxt _ _ _ _ hi3 hb4, hl4, hk4⟩⟩
      | goto t =>
        obtain ⟨hk3, hi3⟩ := hp
        obtain ⟨hr, hl4, hk4, hb4⟩ := fin (some (.goto t)) W3 hk3
        exact ⟨_, _, hr, .inr ⟨rfl, .goto t, hIxt _ _ _ _ hi3 hb4, hl4, hk4⟩⟩
      | panic ch => exact hp.elim
      | outgrown => exact hp.elim
    · -- behind the iterator
      rintro e W2 ⟨⟨v, rfl⟩, (⟨xs, hS, hi, hl, hk⟩ | ⟨pre, hSp, c, hi, hl, hk⟩)⟩
      · exact ⟨none, _, by have := run_endLoop (P := P) hl (by rw [hrec]; simp); rw [hrec] at this; exact this, hdone _ xs _ (Nat.le_refl _) hS (hIt _ _ _ hi (turned_put _ _ _)) ((World.putObj_heap_other (by omega)).trans hk)⟩
      · exact ⟨some c, _, by have := run_endLoop (P := P) hl (by rw [hrec]; simp); rw [hrec] at this; exact this, wpIn_wide.2 (hstop _ c pre _ (Nat.le_refl _) hSp (hIxt _ _ _ _ hi (turned_put _ _ _)) ((World.putObj_heap_other (by omega)).trans hk))⟩

theorem calls_of_wp_marks {f : FuncId} {fn : Func} {c : Code} {args : Array Value} {w : World} {R : Ending → World → Prop} (hf : P.funcs[f]? = some fn) (hb : fn.body = some c)
    (h : c.wp P (bodyPostM Fence.wide 3 P fn R) { tmps := args ++ Array.replicate (fn.ntmps - args.size) undef, defers := [] } w) : Calls P f args w R :=
  (callsIn_wide (n := 3)).1 (callsIn_of_wp_marks hf hb trivial (wpIn_wide.2 h))

theorem marks_ret {fn : Func} {R : Ending → World → Prop} {a : Act} {w : World} {D : Nat} {v : Value} (hd : a.defers = [{ target := .collected D, args := #[] }]) (hD : w.heap[D]? = some (.deferred (some [])))
    (hr : (results fn a.tmps).run P (w.putObj D (.deferred none)) = .ok v (w.putObj D (.deferred none))) (hR : R (.returned v) (w.putObj D (.deferred none))) : bodyPostM Fence.wide 3 P fn R .ret a w := by
  unfold bodyPostM
  simp only [hd]
  exact ⟨by simp, .inl ⟨D, _, rfl, run_takeDeferred hD, _, hr, hR⟩⟩
end
end Go.Proofs.YtbiedfkmmcaplaaGreatDoor

namespace Go.Proofs.YtbiedfkmmcaplaaGreatDoor
open Go.RowKit
attribute [local go_sem] Oper.semAt_some

theorem con_lines (s : ByteArray) (w : World) : Calls Tryz.prog 24 #[.string s] w fun e w' => e = .returned (.func (Fn.func 50) #[] #[.pointer (some ⟨w.heap.size, 0, none⟩)]) ∧ w' = w.alloc (.cells #[.string s] 9) := by
  have hmf : ∀ (fn : Fn) (first cap : Array Value) (w : World), (Instr.makeFunc fn first cap).run Tryz.prog w = .ok (.func fn first cap) w := fun _ _ _ _ => rfl
  go_enter Tryz.func24, Tryz.ntmps24
  go_wp2
  go_ret
  exact ⟨rfl, rfl⟩
def encL (x : ByteArray × Bool) : Array Value := #[.string x.1, .bool x.2]
def textAt (Bs : Nat) (w : World) : Nat := match w.cell? ⟨Bs, 0, none⟩ with
  | some (.string s) => s.size
  | _ => 0
theorem textAt_of {Bs : Nat} {s : ByteArray} {t : TypeId} {w : World} (h : w.heap[Bs]? = some (.cells #[.string s] t (0, 0))) : textAt Bs w = s.size := by
  have := (rcell h).1 0
  simp at this
  unfold textAt
  rw [this]
theorem con_cut (s : ByteArray) (hs : s.size < 4294967281) (w : World) (hm : ∃ m, w.cell? ⟨0, 0, none⟩ = some (.int .i64 m)) :
    Calls Tryz.prog 51 #[.string s, .string ⟨#[10]⟩] w fun e w' => e = .returned (.tuple #[.string (cutB s).1, .string (cutB s).2.1, .bool (cutB s).2.2]) ∧ Below w.heap.size w w' := by
  obtain ⟨m, hm⟩ := hm
  refine (Tryz.strings_Cut s ⟨#[10]⟩ m w hs hm).mono ?_
  rintro e w' ⟨rfl, n, rfl⟩
  exact ⟨rfl, below_drewN (Below.refl _ _) n⟩
set_option maxRecDepth 100000 in
set_option maxHeartbeats 2000000 in
theorem lines_seq (Bs : Nat) (T : ByteArray) (hT : T.size < 4294967281) (w : World) (hBs : w.heap[Bs]? = some (.cells #[.string T] 9 (0, 0))) :
    SeqC Tryz.prog 50 #[.pointer (some ⟨Bs, 0, none⟩)] encL (fun W => ∃ m, W.cell? ⟨0, 0, none⟩ = some (.int .i64 m)) (fun xs => xs = linesB T) (fun pre => pre <+: linesB T) Bs w := by
  intro l' J Jx W hW hl' hJ hJx hJr hJs hY hJ0
  have hB := (hW.block _ (rcell hBs).2.2).trans hBs
  have zlt := (rcell hB).2.2
  refine callsIn_of_wp Tryz.func50 rfl trivial ?_ rfl
  simp only [Tryz.ntmps50, List.size_toArray, List.length_cons, List.length_nil, Nat.reduceAdd, Nat.reduceSub, Array.replicate_succ, Array.replicate_zero, List.push_toArray, List.append_toArray, List.nil_append, List.cons_append]
  gi_wp2
  gi_loopw [3, 4, 5] (fun _ _ _ wr => ∃ (R : ByteArray) (pre : List (ByteArray × Bool)), wr.heap[Bs]? = some (.cells #[.string R] 9 (0, 0)) ∧ Hid (pre ++ linesB R = linesB T) ∧ R.size < 4294967281 ∧ W.heap.size ≤ wr.heap.size ∧ J pre wr) (fun _ _ _ wr => textAt Bs wr)
  case atStart => exact ⟨T, [], hB, hide rfl, hT, Nat.le_refl _, hJ0⟩
  case round =>
    obtain ⟨R, pre, hB', hp, hR, hsz, hj⟩ := hrel
    have hm := hJr _ _ hj
    have c0 := con_cut R hR
    have hcr := hide (cutB_rest R)
    have hlr := hide (linesB_eq R)
    generalize hC : cutB R = C at *
    obtain ⟨bl, al, fl⟩ := C
    have HC := hide hC
    clear hC
    obtain ⟨zB1, zB2, zB3⟩ := rcell hB'
    have zB := zB1 0
    simp at zB
    have HL := hide (linesB_cut HC.out)
    gi_wp2
    refine ⟨trivial, (callsIn_wide.2 (c0 _ hm)).mono ?_⟩
    rintro e w1 ⟨rfl, hb1⟩
    have hB1 := kp hb1 hB'
    have hj1 := hJ _ _ _ hj hb1
    have hs1 := Nat.le_trans hsz hb1.size
    have hpre : pre ++ [(bl, fl)] <+: linesB T := by
      rw [← hp.out, HL.out]
      exact ⟨if al.size = 0 then [] else linesB al, by simp⟩
    have hYk := hY pre (bl, fl) _ hj1 hpre hs1
    have ezl : encL (bl, fl) = #[.string bl, .bool fl] := rfl
    rw [ezl] at hYk
    obtain ⟨fn, tmps, assign, body, hy, hRR⟩ := hYk
    have HCR := hide hcr.out
    clear ezl c0 hm zB zB1 zB2 zB3 hcr
    obtain ⟨zB1, zB2, zB3⟩ := rcell hB1
    gi_wp2
    refine hRR.mono ?_
    clear hRR hy
    rintro e W3 (⟨rfl, hj3, hu3, hbs3⟩ | ⟨rfl, hjx3⟩)
    · have hB3 := hbs3.trans hB1
      have hs3 := Nat.le_trans hs1 hu3
      clear zB1 zB2 zB3 hB1
      obtain ⟨zB1, zB2, zB3⟩ := rcell hB3
      have zB := zB1 0
      simp at zB
      by_cases ha : al.size = 0
      · obtain rfl : al = ⟨#[]⟩ := by
          cases al with | mk d => exact congrArg _ (Array.eq_empty_of_size_eq_zero ha)
        have hfin : pre ++ [(bl, fl)] = linesB T := by
          rw [← hp.out, HL.out, if_pos ha]
        gi_wp2
        refine bodyPost_ret (results_none rfl _ _ _) rfl ⟨⟨_, rfl⟩, .inl ⟨_, hfin, hj3⟩⟩
      · have e1 : al.toList.isEmpty = false := by rw [Lib.toList_data, List.isEmpty_eq_false_iff]; intro e; exact ha (by show al.data.size = 0; rw [← Array.length_toList, e]; rfl)
        have e3 : ¬ al = ⟨#[]⟩ := fun h => ha (by rw [h]; rfl)
        gi_wp2
        rw [row1 hB3]
        generalize hT4 : setRow W3 _ _ = W4
        obtain ⟨hx4, hB4⟩ := fin_x (b0 _) hB3 hT4
        have hj4 := hJs _ _ _ hj3 hx4
        have hal : al.size < R.size := by
          rcases HCR.out with h | h
          · exact absurd h e3
          · exact h
        go_roundw
        case rel => exact ⟨al, pre ++ [(bl, fl)], hB4, hide (by rw [← hp.out, HL.out, if_neg ha]; simp), by omega, Nat.le_trans hs3 hx4.size, hj4⟩
        case measure => rw [textAt_of hB4, textAt_of hB']; exact hal
    · gi_wp2
      refine bodyPost_ret (results_none rfl _ _ _) rfl ⟨⟨_, rfl⟩, .inr ⟨_, hpre, hjx3⟩⟩
end Go.Proofs.YtbiedfkmmcaplaaGreatDoor

namespace Go.Proofs.YtbiedfkmmcaplaaGreatDoor
open Go.RowKit
attribute [local go_sem] Oper.semAt_some

theorem InK.at0 {w : World} {g : Nat} {cs : Array Value} {T : TypeId} {k : Nat} (h : w.heap[g]? = some (.cells cs T (0, 0))) (hk : cs.size = k) : InK w (some ⟨g, 0, none⟩) 1 k cs.toList :=
  ⟨by simp [hk], fun _ => ⟨_, rfl, (Array.getElem?_eq_some_iff.1 h).1, fun i hi => by
    rw [show (⟨g, 0, none⟩ : Addr).add i = ⟨g, i, none⟩ by
      unfold Addr.add
      split
      · next h0 => simp [h0]
      · simp]
    rw [(rcell h).1]
    simp⟩⟩
section
variable {F : Fence} {nF : Nat} {ops : Array Oper} {rest : List Oper} {o : Oper} {a : Act} {w : World} {Q : Exit → Act → World → Prop}
theorem wpListIn_storeW (hgd : o.guard = none) (t : TypeId) (p x : Operand)
    (ho : o.op = .store t p x) (g : Nat) (T : TypeId) (old new : Array Value) (hp : a.eval p = .pointer (some ⟨g, 0, none⟩)) (hx : a.eval x = .agg new)
    (hg : w.heap[g]? = some (.cells old T (0, 0))) (hi : (Tryz.prog.info? t).map (·.size) = some new.size) (hs : old.size = new.size) (h1 : new.all (·.oneCell') = true)
    (h : wpListIn F nF Tryz.prog ops Q rest (a.put o.dst undef) (setRow w g new)) : wpListIn F nF Tryz.prog ops Q (o :: rest) a w := by
  refine wpListIn_plain hgd fun _ hK => ?_
  unfold Oper.wpIn
  refine ⟨by simp [Oper.about, ho], ?_⟩
  rw [Oper.semAt_plain F _ _ (by rw [ho]; intro c hc'; cases hc')]
  simp only [execOp, ho, hp, hx, Instr.storeAt, Instr.sureAddr, Sem.run_bind, Sem.run_pure, Result.andThen_ok]
  rw [run_storeVar_row w g T t old new hg hi hs h1, setRow_is]
  exact hK _ _ h
theorem wpListIn_loadW (hgd : o.guard = none) (t : TypeId) (p : Operand)
    (ho : o.op = .load t p) (g : Nat) (T : TypeId) (cs : Array Value) (hp : a.eval p = .pointer (some ⟨g, 0, none⟩))
    (hg : w.heap[g]? = some (.cells cs T (0, 0))) (d : TypeDesc) (hd : d.isRow = true) (hu : Tryz.prog.underlying t = some d) (hi : (Tryz.prog.info? t).map (·.size) = some cs.size)
    (h : wpListIn F nF Tryz.prog ops Q rest (a.put o.dst (.agg cs)) w) : wpListIn F nF Tryz.prog ops Q (o :: rest) a w := by
  refine wpListIn_plain hgd fun _ hK => ?_
  unfold Oper.wpIn
  refine ⟨by simp [Oper.about, ho], ?_⟩
  rw [Oper.semAt_plain F _ _ (by rw [ho]; intro c hc'; cases hc')]
  simp only [execOp, ho, hp, Instr.loadAt, Instr.sureAddr, Sem.run_bind, Sem.run_pure, Result.andThen_ok]
  rw [run_loadVar_row w g T t cs (0, 0) d hg hu (by cases d <;> first | rfl | cases hd) hi]
  exact hK _ _ h
theorem wpListIn_sliceW (hgd : o.guard = none) (t : TypeId) (len : Nat) (ps : Array (Nat × Operand))
    (ho : o.op = .buildSlice t len ps) (v : Value) (w' : World) (qs : Array (Nat × Value)) (hp : (ps.map fun (i, x) => (i, a.eval x)) = qs) (hv : (Instr.buildSlice t len qs).run Tryz.prog w = .ok v w')
    (h : wpListIn F nF Tryz.prog ops Q rest (a.put o.dst v) w') : wpListIn F nF Tryz.prog ops Q (o :: rest) a w := by
  subst hp
  refine wpListIn_plain hgd fun _ hK => ?_
  unfold Oper.wpIn
  refine ⟨by simp [Oper.about, ho], ?_⟩
  rw [Oper.semAt_plain F _ _ (by rw [ho]; intro c hc'; cases hc')]
  simp only [execOp, ho, Sem.run_bind, Sem.run_pure, Result.andThen_ok]
  rw [hv]
  exact hK _ _ h
theorem size_one {t : TypeId} (h : (Tryz.prog.info? t).map (·.size) = some 1) : ∀ w, (sizeOf t).run Tryz.prog w = .ok 1 w := fun w => by
  cases hi : Tryz.prog.info? t with
  | none => rw [hi] at h; cases h
  | some i =>
    rw [hi] at h
    simp at h
    simp [sizeOf, typeInfo, hi, h]
theorem wpListIn_store1 (hgd : o.guard = none) (t : TypeId) (p x : Operand) (ho : o.op = .store t p x) (g : Nat) (T : TypeId) (old v : Value) (hp : a.eval p = .pointer (some ⟨g, 0, none⟩)) (hx : a.eval x = v)
    (hg : w.heap[g]? = some (.cells #[old] T (0, 0))) (hrun : (Instr.storeAt t (.pointer (some ⟨g, 0, none⟩)) v).run Tryz.prog w = .ok () (w.setCell ⟨g, 0, none⟩ v))
    (h : wpListIn F nF Tryz.prog ops Q rest (a.put o.dst undef) (setRow w g #[v])) : wpListIn F nF Tryz.prog ops Q (o :: rest) a w := by
  refine wpListIn_plain hgd fun _ hK => ?_
  unfold Oper.wpIn
  refine ⟨by simp [Oper.about, ho], ?_⟩
  rw [Oper.semAt_plain F _ _ (by rw [ho]; intro c hc'; cases hc')]
  simp only [execOp, ho, hp, hx, Sem.run_bind, Sem.run_pure, Result.andThen_ok, hrun]
  rw [row1 hg]
  exact hK _ _ h
theorem run_i {t : TypeId} (hz : ∀ w, (sizeOf t).run Tryz.prog w = .ok 1 w) {g : Nat} {T : TypeId} {old : Value} {w : World} (hg : w.heap[g]? = some (.cells #[old] T (0, 0))) (kd : IntKind) (z : Int) : (Instr.storeAt t (.pointer (some ⟨g, 0, none⟩)) (.int kd z)).run Tryz.prog w = .ok () (w.setCell ⟨g, 0, none⟩ (.int kd z)) := by
  obtain ⟨z1, z2, z3⟩ := rcell hg
  have e1 := z1 0
  have e2 := z2 0
  simp at e1
  simp [Instr.storeAt, Instr.sureAddr, storeVar, hz, storeCells, go_sem, e1, e2]
theorem run_b {t : TypeId} (hz : ∀ w, (sizeOf t).run Tryz.prog w = .ok 1 w) {g : Nat} {T : TypeId} {old : Value} {w : World} (hg : w.heap[g]? = some (.cells #[old] T (0, 0))) (z : Bool) : (Instr.storeAt t (.pointer (some ⟨g, 0, none⟩)) (.bool z)).run Tryz.prog w = .ok () (w.setCell ⟨g, 0, none⟩ (.bool z)) := by
  obtain ⟨z1, z2, z3⟩ := rcell hg
  have e1 := z1 0
  have e2 := z2 0
  simp at e1
  simp [Instr.storeAt, Instr.sureAddr, storeVar, hz, storeCells, go_sem, e1, e2]
theorem run_s {t : TypeId} (hz : ∀ w, (sizeOf t).run Tryz.prog w = .ok 1 w) {g : Nat} {T : TypeId} {old : Value} {w : World} (hg : w.heap[g]? = some (.cells #[old] T (0, 0))) (A : Option Addr) (n c : Nat) : (Instr.storeAt t (.pointer (some ⟨g, 0, none⟩)) (.slice A n c)).run Tryz.prog w = .ok () (w.setCell ⟨g, 0, none⟩ (.slice A n c)) := by
  obtain ⟨z1, z2, z3⟩ := rcell hg
  have e1 := z1 0
  have e2 := z2 0
  simp at e1
  simp [Instr.storeAt, Instr.sureAddr, storeVar, hz, storeCells, go_sem, e1, e2]
theorem one3 : ∀ w, (sizeOf 3).run Tryz.prog w = .ok 1 w := size_one (by kernel_rfl)
theorem one4 : ∀ w, (sizeOf 4).run Tryz.prog w = .ok 1 w := size_one (by kernel_rfl)
theorem one105 : ∀ w, (sizeOf 22).run Tryz.prog w = .ok 1 w := size_one (by kernel_rfl)
theorem cmd_info : (Tryz.prog.info? 38).map (fun i => (i.zero, i.size, i.bytes)) = some (some (.agg zCmd), 19, 208) := by kernel_rfl
theorem slice_one (k : Int) (o : OpV) (n : Int) (M : Option Addr) (mn mc : Nat) (w : World) : (Instr.buildSlice 22 1 #[(0, .agg (cmdCs k o n M mn mc))]).run Tryz.prog w = .ok (.slice (some ⟨w.heap.size, 0, none⟩) 1 1) (w.alloc (.cells (cmdCs k o n M mn mc) 38)) := by kernel_rfl
theorem wpListIn_pushM (hgd : o.guard = none) (s x : Operand)
    (ho : o.op = .call { callee := .builtin .append, args := #[s, x], argTypes := #[22, 22] }) (B : Nat) (v : Value) (n : Nat) (xs : List Value) (Y : Array Value) (g : Nat)
    (hs : a.eval s = v) (hx : a.eval x = .slice (some ⟨g, 0, none⟩) 1 1) (hown : OwnK 38 19 B w v n xs) (hg : w.heap[g]? = some (.cells Y 38 (0, 0))) (hY : Y.size = 19) (h1 : Y.all (·.oneCell') = true) (hlen : n ≤ 1000) (hB : B ≤ w.heap.size)
    (h : ∀ v' w', OwnK 38 19 B w' v' (n + 1) (xs ++ Y.toList) → w.grownBy w' v.ownBlock → wpListIn F nF Tryz.prog ops Q rest (a.put o.dst v') w') : wpListIn F nF Tryz.prog ops Q (o :: rest) a w := by
  obtain ⟨i0, hi0, hz0, hz1, hz2⟩ := info_parts cmd_info
  have hk : InK w (some ⟨g, 0, none⟩) 1 19 Y.toList := InK.at0 hg hY
  have hcells : ∀ j u, Y.toList[j]? = some u → w.cell? ((⟨g, 0, none⟩ : Addr).add j) = some u := by
    intro j u hu
    obtain ⟨ad', e, -, hc⟩ := hk.2 (by omega)
    obtain rfl := Option.some.inj e
    have hj : j < 1 * 19 := by have := (List.getElem?_eq_some_iff.1 hu).1; rw [Array.length_toList, hY] at this; omega
    rw [hc j hj, ← hu]
  obtain ⟨v', w', hrun, h2, h3, -, -⟩ := run_append_own_at (P := Tryz.prog) w B 22 o.type 38 i0 (.agg zCmd) 19 208 Tryz.underlying22 hi0 hz0 hz1 hz2 rfl (by decide) v n xs hown ⟨g, 0, none⟩ 1 1 Y.toList (by rw [Array.length_toList, hY]) hcells
      (fun v hv => Array.all_eq_true_iff_forall_mem.1 h1 v (Array.mem_toList_iff.1 hv)) (by simp only [maxLen]; omega) (by omega) hB
  refine wpListIn_plain hgd fun K hK => ?_
  unfold Oper.wpIn
  refine ⟨by simp [Oper.about, ho, resolve, Target.leads, Sem.run_pure], ?_⟩
  rw [Oper.semAt_plain F _ _ (by rw [ho]; intro c hc'; cases hc')]
  simp [execOp, ho, resolve, invoke, builtin, hs, hx, hrun, Result.andThen]
  exact hK _ _ (h v' w' h2 h3)
end
end Go.Proofs.YtbiedfkmmcaplaaGreatDoor

namespace Go.Proofs.YtbiedfkmmcaplaaGreatDoor
open Go.RowKit
attribute [local go_sem] Oper.semAt_some

structure RC (w W0 W : World) (v : Value) (c z : Int) (b : Bool) : Prop where
  hv : W.heap[w.heap.size]? = some (.cells #[v] 22 (0, 0))
  hc : W.heap[w.heap.size + 1]? = some (.cells #[.int .i64 c] 3 (0, 0))
  hz : W.heap[w.heap.size + 1 + 1]? = some (.cells #[.int .i64 z] 3 (0, 0))
  hb : W.heap[w.heap.size + 1 + 1 + 1]? = some (.cells #[.bool b] 4 (0, 0))
  bel : Below w.heap.size w W
  sz : w.heap.size + 5 ≤ W.heap.size ∧ W0.heap.size ≤ W.heap.size
  kk : ∀ k, w.heap.size + 4 ≤ k → k < w.heap.size + 7 → k < W0.heap.size → W.heap[k]? = W0.heap[k]?
section
variable {w W0 W W' : World} {v v' : Value} {c z : Int} {b : Bool}
theorem RC.mv (h : RC w W0 W v c z b) (hb : Below (w.heap.size + 7) W W') : RC w W0 W' v c z b :=
  ⟨(hb.block _ (by omega)).trans h.hv, (hb.block _ (by omega)).trans h.hc, (hb.block _ (by omega)).trans h.hz, (hb.block _ (by omega)).trans h.hb, h.bel.trans (hb.mono (by omega)), ⟨Nat.le_trans h.sz.1 hb.size, Nat.le_trans h.sz.2 hb.size⟩, fun k h1 h2 h3 => (hb.block k h2).trans (h.kk k h1 h2 h3)⟩
theorem RC.up (h : RC w W0 W v c z b) (hb : Below W.heap.size W W') : RC w W0 W' v c z b :=
  ⟨kp hb h.hv, kp hb h.hc, kp hb h.hz, kp hb h.hb, bB h.bel hb, ⟨Nat.le_trans h.sz.1 hb.size, Nat.le_trans h.sz.2 hb.size⟩, fun k h1 h2 h3 => (hb.block k (Nat.lt_of_lt_of_le h3 h.sz.2)).trans (h.kk k h1 h2 h3)⟩
theorem RC.setv (h : RC w W0 W v c z b) (hT : setRow W w.heap.size #[v'] = W') : RC w W0 W' v' c z b := by
  obtain ⟨hx, f⟩ := fin_x (b0 _) h.hv hT
  exact ⟨f, kx hx h.hc (by omega), kx hx h.hz (by omega), kx hx h.hb (by omega), bX h.bel hx (by omega), ⟨Nat.le_trans h.sz.1 hx.size, Nat.le_trans h.sz.2 hx.size⟩, fun k h1 h2 h3 => (hx.other k (by have := h.sz; omega) (by omega)).trans (h.kk k h1 h2 h3)⟩
theorem RC.setc {c' : Int} (h : RC w W0 W v c z b) (hT : setRow W (w.heap.size + 1) #[.int .i64 c'] = W') : RC w W0 W' v c' z b := by
  obtain ⟨hx, f⟩ := fin_x (b0 _) h.hc hT
  exact ⟨kx hx h.hv (by omega), f, kx hx h.hz (by omega), kx hx h.hb (by omega), bX h.bel hx (by omega), ⟨Nat.le_trans h.sz.1 hx.size, Nat.le_trans h.sz.2 hx.size⟩, fun k h1 h2 h3 => (hx.other k (by have := h.sz; omega) (by omega)).trans (h.kk k h1 h2 h3)⟩
theorem RC.setz {c' : Int} (h : RC w W0 W v c z b) (hT : setRow W (w.heap.size + 1 + 1) #[.int .i64 c'] = W') : RC w W0 W' v c c' b := by
  obtain ⟨hx, f⟩ := fin_x (b0 _) h.hz hT
  exact ⟨kx hx h.hv (by omega), kx hx h.hc (by omega), f, kx hx h.hb (by omega), bX h.bel hx (by omega), ⟨Nat.le_trans h.sz.1 hx.size, Nat.le_trans h.sz.2 hx.size⟩, fun k h1 h2 h3 => (hx.other k (by have := h.sz; omega) (by omega)).trans (h.kk k h1 h2 h3)⟩
theorem RC.setb {c' : Bool} (h : RC w W0 W v c z b) (hT : setRow W (w.heap.size + 1 + 1 + 1) #[.bool c'] = W') : RC w W0 W' v c z c' := by
  obtain ⟨hx, f⟩ := fin_x (b0 _) h.hb hT
  exact ⟨kx hx h.hv (by omega), kx hx h.hc (by omega), kx hx h.hz (by omega), f, bX h.bel hx (by omega), ⟨Nat.le_trans h.sz.1 hx.size, Nat.le_trans h.sz.2 hx.size⟩, fun k h1 h2 h3 => (hx.other k (by have := h.sz; omega) (by omega)).trans (h.kk k h1 h2 h3)⟩
end
def ruI (w : World) (G : Nat) (pre : List (ByteArray × Bool)) (W : World) : Prop :=
  ∃ v n xs z, RC w W W v (pre.length : Int) z false ∧ OwnK 38 19 (w.heap.size + 7) W v n xs ∧ n ≤ pre.length ∧ pre.length ≤ G
def ruX (w : World) (G : Nat) (c : Code) (W : World) : Prop :=
  c = .exit 0 ∧ ∃ v z, RC w W W v ((G + 1 : Nat) : Int) z true
theorem OwnK.turnedP {T : TypeId} {k B D n : Nat} {w w1 : World} {v : Value} {xs : List Value} (h : OwnK T k B w v n xs) (hx : Turned D w w1) (hg : D < B) : OwnK T k B w1 v n xs :=
  World.ownsRow.kept h ⟨hx.os, hx.tape, hx.output, Nat.le_of_eq hx.size.symm, fun k hk hn => hx.block k (fun e => hn (by rw [e]))⟩ (.inr fun e => by have := h.lt D e; omega)
section
variable {w W0 X Y : World} {v : Value} {c z : Int} {b : Bool}
theorem RC.ceq {c' : Int} (h : RC w W0 X v c z b) (e : c = c') : RC w W0 X v c' z b := e ▸ h
theorem RC.re (h : RC w W0 X v c z b) : RC w X X v c z b := ⟨h.hv, h.hc, h.hz, h.hb, h.bel, ⟨h.sz.1, Nat.le_refl _⟩, fun _ _ _ _ => rfl⟩
theorem RC.turned {L : Nat} (h : RC w X X v c z b) (ht : Turned L X Y) (hL : L = w.heap.size + 6) : RC w Y Y v c z b :=
  ⟨kt ht h.hv (by omega), kt ht h.hc (by omega), kt ht h.hz (by omega), kt ht h.hb (by omega), h.bel.trans (ht.low (by omega)), ⟨by rw [ht.size]; exact h.sz.1, Nat.le_refl _⟩, fun _ _ _ _ => rfl⟩
theorem RC.text (h : RC w X X v c z b) (hx : Exc (w.heap.size + 1 + 1 + 1 + 1) X Y) : RC w Y Y v c z b :=
  ⟨kx hx h.hv (by omega), kx hx h.hc (by omega), kx hx h.hz (by omega), kx hx h.hb (by omega), bX h.bel hx (by omega), ⟨Nat.le_trans h.sz.1 hx.size, Nat.le_refl _⟩, fun _ _ _ _ => rfl⟩
theorem RC.next (h : RC w X X v c z b) (hb : Below X.heap.size X Y) : RC w Y Y v c z b := (h.up hb).re
end
theorem ru_line {T : ByteArray} {g0 bl : ByteArray} {gs : List ByteArray} {fl : Bool} {more pre : List (ByteArray × Bool)} {x : ByteArray × Bool} (hT : linesB T = (g0 :: gs).map (fun l => (l, true)) ++ (bl, fl) :: more) (h : pre ++ [x] <+: linesB T) :
    (pre.length = 0 ∧ x = (g0, true)) ∨ (0 < pre.length ∧ pre.length ≤ gs.length ∧ ∃ l ∈ gs, x = (l, true)) ∨ (pre.length = gs.length + 1 ∧ x = (bl, fl)) ∨ gs.length + 1 < pre.length := by
  have hx : (linesB T)[pre.length]? = some x := by
    obtain ⟨t, ht⟩ := h
    rw [← ht]
    simp
  rw [hT] at hx
  rcases Nat.lt_trichotomy pre.length (gs.length + 1) with h1 | h1 | h1
  · rcases Nat.eq_zero_or_pos pre.length with h0 | h0
    · left
      rw [h0] at hx
      simp at hx
      exact ⟨h0, hx.symm⟩
    · right; left
      refine ⟨h0, by omega, ?_⟩
      rw [List.getElem?_append_left (by simp; omega)] at hx
      obtain ⟨m, hm⟩ : ∃ m, pre.length = m + 1 := ⟨pre.length - 1, by omega⟩
      rw [hm] at hx
      simp at hx
      obtain ⟨l, h2, h3⟩ := hx
      exact ⟨l, List.mem_of_getElem? h2, h3.symm⟩
  · right; right; left
    refine ⟨h1, ?_⟩
    rw [List.getElem?_append_right (by simp; omega), h1] at hx
    simp at hx
    exact hx.symm
  · right; right; right; exact h1

set_option maxRecDepth 100000 in
set_option maxHeartbeats 8000000 in
theorem con_Run_wrong (T : ByteArray) (hTs : T.size ≤ 65536) (g0 bl : ByteArray) (gs : List ByteArray) (fl : Bool) (more : List (ByteArray × Bool)) (hT : linesB T = (g0 :: gs).map (fun l => (l, true)) ++ (bl, fl) :: more) (hG : gs.length ≤ 299)
    (zn : Int) (hz : zn ≠ 0) (h0 : ∀ W, Laid W → Calls Tryz.prog 25 #[.string g0] W fun e w' => e = .returned (.int .i64 zn) ∧ Below W.heap.size W w')
    (hgs : ∀ l ∈ gs, l.size ≤ 10000 ∧ ∃ c, pLine l = some c) (hbl : fl = false ∨ (bl.size ≤ 10000 ∧ pLine bl = none)) (w : World) (hL : Laid w) :
    Calls Tryz.prog 9 #[.string T] w fun e w' => e = .returned (.tuple #[.string ⟨#[]⟩, .int .i64 ((gs.length + 1 + 1 : Nat) : Int), .int .i64 411]) ∧ Below w.heap.size w w' := by
  have hTs2 : ¬ (65536 : Int) < (T.size : Int) := by omega
  refine calls_of_wp_marks Tryz.func9 rfl ?_
  simp only [Tryz.ntmps9, List.size_toArray, List.length_cons, List.length_nil, Nat.reduceAdd, Nat.reduceSub, Array.replicate_succ, Array.replicate_zero, List.push_toArray, List.append_toArray, List.nil_append, List.cons_append]
  go_wp2_with fail
  refine wp_scope_straight ?_
  go_wp2_with fail
  refine wp_label ?_
  go_wp2_with fail
  refine (con_lines _ _).mono ?_
  rintro e w' ⟨rfl, rfl⟩
  go_wp2_with fail
  generalize hW0 : ((((w.alloc (.cells #[.slice none 0 0] 22)).alloc (.cells #[.int .i64 0] 3)).alloc (.cells #[.int .i64 0] 3)).alloc (.cells #[.bool false] 4)).alloc (.cells #[.string T] 9) = W0
  have hs0 : W0.heap.size = w.heap.size + 5 := by rw [← hW0]; simp
  have hv0 : W0.heap[w.heap.size]? = some (.cells #[.slice none 0 0] 22 (0, 0)) := by rw [← hW0]; exact ka (ka (ka (ka (na w _ _) _) _) _) _
  have hc0 : W0.heap[w.heap.size + 1]? = some (.cells #[.int .i64 0] 3 (0, 0)) := by rw [← hW0]; exact ka (ka (ka (by have := na (w.alloc (.cells #[.slice none 0 0] 22)) #[.int .i64 0] 3; simpa using this) _) _) _
  have hz0 : W0.heap[w.heap.size + 1 + 1]? = some (.cells #[.int .i64 0] 3 (0, 0)) := by rw [← hW0]; exact ka (ka (by have := na ((w.alloc (.cells #[.slice none 0 0] 22)).alloc (.cells #[.int .i64 0] 3)) #[.int .i64 0] 3; simpa using this) _) _
  have hb0 : W0.heap[w.heap.size + 1 + 1 + 1]? = some (.cells #[.bool false] 4 (0, 0)) := by rw [← hW0]; exact ka (by have := na (((w.alloc (.cells #[.slice none 0 0] 22)).alloc (.cells #[.int .i64 0] 3)).alloc (.cells #[.int .i64 0] 3)) #[.bool false] 4; simpa using this) _
  have ht0 : W0.heap[w.heap.size + 1 + 1 + 1 + 1]? = some (.cells #[.string T] 9 (0, 0)) := by rw [← hW0]; have := na ((((w.alloc (.cells #[.slice none 0 0] 22)).alloc (.cells #[.int .i64 0] 3)).alloc (.cells #[.int .i64 0] 3)).alloc (.cells #[.bool false] 4)) #[.string T] 9; simpa using this
  have hbel0 : Below w.heap.size w W0 := by rw [← hW0]; exact bA (bA (bA (bA (bA (b0 w) _) _) _) _) _
  clear hW0
  have HT := hide hT
  have hI0 : ruI w (gs.length + 1) [] W0 := ⟨_, 0, [], 0, ⟨hv0, hc0, hz0, hb0, hbel0, ⟨by omega, Nat.le_refl _⟩, fun _ _ _ _ => rfl⟩, OwnK.nil _ _, Nat.zero_le _, Nat.zero_le _⟩
  clear hv0 hc0 hz0 hb0
  refine wp_rangeFunc_seqC rfl (enters_of Tryz.func50 (by kernel_rfl) rfl) (Bs := w.heap.size + 1 + 1 + 1 + 1) (by omega) (lines_seq _ T (by omega) W0 ht0) (fun _ => rfl)
    (ruI w (gs.length + 1)) (fun c pre W => pre <+: linesB T ∧ ruX w (gs.length + 1) c W) ?iB ?iT ?xB ?xT ?iK ?iX hI0 ?round ?done ?stop
  case iB => rintro s X Y ⟨v, n, xs, z, h1, h2, h3, h4⟩ hb; exact ⟨v, n, xs, z, h1.next hb, h2.lift hb, h3, h4⟩
  case iT => rintro s X Y ⟨v, n, xs, z, h1, h2, h3, h4⟩ ht; exact ⟨v, n, xs, z, h1.turned ht (by omega), h2.turnedP ht (by omega), h3, h4⟩
  case xB => rintro c s X Y ⟨h0, h1, v, z, h2⟩ hb; exact ⟨h0, h1, v, z, h2.next hb⟩
  case xT => rintro c s X Y ⟨h0, h1, v, z, h2⟩ ht; exact ⟨h0, h1, v, z, h2.turned ht (by omega)⟩
  case iK => rintro s X ⟨v, n, xs, z, h1, -⟩; exact (hL.below h1.bel).mx
  case iX => rintro s X Y ⟨v, n, xs, z, h1, h2, h3, h4⟩ hx; exact ⟨v, n, xs, z, h1.text hx, h2.excP hx (by omega), h3, h4⟩
  clear hT
  case round =>
    rintro l' pre ⟨a, fg⟩ W K hl hl2 hi hlen hK
    have e1 : encL (a, fg) = #[.string a, .bool fg] := rfl
    rw [e1]
    gi_wp2
    refine hK _ _ (b0 _) ?_
    clear hK e1
    intro W₂ hTn
    obtain ⟨v, m, xs, z, r1, r2, r3, r4⟩ := hi
    have hsz2 : W₂.heap.size = W.heap.size := hTn.size
    have HR := hide (r1.turned hTn (by omega))
    have HO := hide (r2.turnedP hTn (D := l') (by omega))
    have HL2 := hide (show w.heap.size + 7 ≤ W₂.heap.size by omega)
    have HP := hide hlen
    have HN := hide (And.intro r3 r4)
    have hln := ru_line HT.out hlen
    have HLN := hide hln
    have hlp : decide ((301 : Int) < (pre.length : Int) + 1) = false := decide_eq_false (by omega)
    clear r1 r2 r3 r4 hTn hln hlen hsz2 hl hl2
    obtain ⟨v1, v2, v3⟩ := rcell HR.out.hv; obtain ⟨c1, c2, c3⟩ := rcell HR.out.hc; obtain ⟨z1, z2, z3⟩ := rcell HR.out.hz; obtain ⟨b1, b2, b3⟩ := rcell HR.out.hb;
    rcases HLN.out with ⟨q1, q2⟩ | ⟨q1, q2, y, q3, q4⟩ | ⟨q1, q2⟩ | q1
    · injection q2 with q2 q3
      subst q2 q3
      gi_wp2_with (first | (refine wpListIn_store1 rfl 3 _ _ rfl (w.heap.size + 1) 3 _ _ rfl rfl HR.out.hc (run_i one3 HR.out.hc _ _) ?_; generalize hT1 : setRow _ _ _ = u1; have HO' := hide (HO.out.excP (fin_x (b0 _) HR.out.hc hT1).1 (by omega)); have HR' := hide (HR.out.setc hT1); clear hT1 HO HR v1 v2 v3 c1 c2 c3 z1 z2 z3 b1 b2 b3; have HO := HO'; have HR := HR'; clear HO' HR'; obtain ⟨v1, v2, v3⟩ := rcell HR.out.hv; obtain ⟨c1, c2, c3⟩ := rcell HR.out.hc; obtain ⟨z1, z2, z3⟩ := rcell HR.out.hz; obtain ⟨b1, b2, b3⟩ := rcell HR.out.hb; skip) | (refine wpListIn_store1 rfl 4 _ _ rfl (w.heap.size + 1 + 1 + 1) 4 _ _ rfl rfl HR.out.hb (run_b one4 HR.out.hb _) ?_; generalize hT2 : setRow _ _ _ = u2; have HO' := hide (HO.out.excP (fin_x (b0 _) HR.out.hb hT2).1 (by omega)); have HR' := hide (HR.out.setb hT2); clear hT2 HO HR v1 v2 v3 c1 c2 c3 z1 z2 z3 b1 b2 b3; have HO := HO'; have HR := HR'; clear HO' HR'; obtain ⟨v1, v2, v3⟩ := rcell HR.out.hv; obtain ⟨c1, c2, c3⟩ := rcell HR.out.hc; obtain ⟨z1, z2, z3⟩ := rcell HR.out.hz; obtain ⟨b1, b2, b3⟩ := rcell HR.out.hb; skip))
      refine ⟨trivial, (callsIn_wide.2 (h0 _ (hL.below HR.out.bel))).mono ?_⟩
      rintro e w9 ⟨rfl, hb9⟩
      have HO' := hide (HO.out.lift hb9); have HR' := hide (HR.out.up hb9); clear HO HR hb9 v1 v2 v3 c1 c2 c3 z1 z2 z3 b1 b2 b3; have HO := HO'; have HR := HR'; clear HO' HR'
      obtain ⟨v1, v2, v3⟩ := rcell HR.out.hv; obtain ⟨c1, c2, c3⟩ := rcell HR.out.hc; obtain ⟨z1, z2, z3⟩ := rcell HR.out.hz; obtain ⟨b1, b2, b3⟩ := rcell HR.out.hb;
      have ez1 : (zn == 0) = false := beq_eq_false_iff_ne.2 hz
      have ez2 : decide (zn = 0) = false := decide_eq_false hz
      gi_wp2_with (first | (refine wpListIn_store1 rfl 3 _ _ rfl (w.heap.size + 1 + 1) 3 _ _ rfl rfl HR.out.hz (run_i one3 HR.out.hz _ _) ?_; generalize hT3 : setRow _ _ _ = u3; have HO' := hide (HO.out.excP (fin_x (b0 _) HR.out.hz hT3).1 (by omega)); have HR' := hide (HR.out.setz hT3); clear hT3 HO HR v1 v2 v3 c1 c2 c3 z1 z2 z3 b1 b2 b3; have HO := HO'; have HR := HR'; clear HO' HR'; obtain ⟨v1, v2, v3⟩ := rcell HR.out.hv; obtain ⟨c1, c2, c3⟩ := rcell HR.out.hc; obtain ⟨z1, z2, z3⟩ := rcell HR.out.hz; obtain ⟨b1, b2, b3⟩ := rcell HR.out.hb; skip) | (refine wpListIn_store1 rfl 4 _ _ rfl (w.heap.size + 1 + 1 + 1) 4 _ _ rfl rfl HR.out.hb (run_b one4 HR.out.hb _) ?_; generalize hT2 : setRow _ _ _ = u2; have HO' := hide (HO.out.excP (fin_x (b0 _) HR.out.hb hT2).1 (by omega)); have HR' := hide (HR.out.setb hT2); clear hT2 HO HR v1 v2 v3 c1 c2 c3 z1 z2 z3 b1 b2 b3; have HO := HO'; have HR := HR'; clear HO' HR'; obtain ⟨v1, v2, v3⟩ := rcell HR.out.hv; obtain ⟨c1, c2, c3⟩ := rcell HR.out.hc; obtain ⟨z1, z2, z3⟩ := rcell HR.out.hz; obtain ⟨b1, b2, b3⟩ := rcell HR.out.hb; skip))
      have el : ((pre ++ [(a, true)]).length : Int) = 1 := by simp [q1]
      refine ⟨⟨HR.out.sz.2, HR.out.kk _ (by omega) (by omega) (by have := HL2.out; omega), HR.out.kk _ (by omega) (by omega) (by have := HL2.out; omega)⟩, HR.out.kk _ (by omega) (by omega) (by have := HL2.out; omega), v, m, xs, zn, el ▸ HR.out.re, HO.out, ?_, ?_⟩
      · have := HN.out.1; simp; omega
      · have := HN.out.2; simp; omega
    · injection q4 with q4 q5
      subst q4 q5
      obtain ⟨p1, cm, p2⟩ := hgs a q3
      have hc0 := fun W hW => con_Parse a p1 W hW
      rw [p2] at hc0
      have hc1 := hide hc0
      clear hc0 p2
      have ek : ((pre.length : Int) + 1 == 1) = false := beq_eq_false_iff_ne.2 (by omega)
      have ek2 : decide ((pre.length : Int) + 1 = 1) = false := decide_eq_false (by omega)
      have hpl : pre.length ≤ 300 := by omega
      gi_wp2_with (first | (refine wpListIn_store1 rfl 3 _ _ rfl (w.heap.size + 1) 3 _ _ rfl rfl HR.out.hc (run_i one3 HR.out.hc _ _) ?_; generalize hT1 : setRow _ _ _ = u1; have HO' := hide (HO.out.excP (fin_x (b0 _) HR.out.hc hT1).1 (by omega)); have HR' := hide (HR.out.setc hT1); clear hT1 HO HR v1 v2 v3 c1 c2 c3 z1 z2 z3 b1 b2 b3; have HO := HO'; have HR := HR'; clear HO' HR'; obtain ⟨v1, v2, v3⟩ := rcell HR.out.hv; obtain ⟨c1, c2, c3⟩ := rcell HR.out.hc; obtain ⟨z1, z2, z3⟩ := rcell HR.out.hz; obtain ⟨b1, b2, b3⟩ := rcell HR.out.hb; skip) | (refine wpListIn_store1 rfl 4 _ _ rfl (w.heap.size + 1 + 1 + 1) 4 _ _ rfl rfl HR.out.hb (run_b one4 HR.out.hb _) ?_; generalize hT2 : setRow _ _ _ = u2; have HO' := hide (HO.out.excP (fin_x (b0 _) HR.out.hb hT2).1 (by omega)); have HR' := hide (HR.out.setb hT2); clear hT2 HO HR v1 v2 v3 c1 c2 c3 z1 z2 z3 b1 b2 b3; have HO := HO'; have HR := HR'; clear HO' HR'; obtain ⟨v1, v2, v3⟩ := rcell HR.out.hv; obtain ⟨c1, c2, c3⟩ := rcell HR.out.hc; obtain ⟨z1, z2, z3⟩ := rcell HR.out.hz; obtain ⟨b1, b2, b3⟩ := rcell HR.out.hb; skip))
      refine ⟨trivial, (callsIn_wide.2 (hc1.out _ (hL.below HR.out.bel))).mono ?_⟩
      rintro e w9 ⟨vv, rfl, hv9, hb9⟩
      obtain ⟨A, ac, M, mc, rfl, -⟩ := hv9
      have hs1 : (cm.cs A ac M mc).size = 19 := cmd_size _ _ _ _ _
      have h1 := cmd_one' cm A ac M mc
      have hsl : ∀ W : World, (Instr.buildSlice 22 1 #[(0, .agg (cm.cs A ac M mc))]).run Tryz.prog W = .ok (.slice (some ⟨W.heap.size, 0, none⟩) 1 1) (W.alloc (.cells (cm.cs A ac M mc) 38)) := fun W => slice_one _ _ _ _ _ _ W
      generalize cm.cs A ac M mc = Y at *
      clear hc1
      have HO' := hide (HO.out.lift hb9); have HR' := hide (HR.out.up hb9); clear HO HR hb9 v1 v2 v3 c1 c2 c3 z1 z2 z3 b1 b2 b3; have HO := HO'; have HR := HR'; clear HO' HR'
      obtain ⟨v1, v2, v3⟩ := rcell HR.out.hv; obtain ⟨c1, c2, c3⟩ := rcell HR.out.hc; obtain ⟨z1, z2, z3⟩ := rcell HR.out.hz; obtain ⟨b1, b2, b3⟩ := rcell HR.out.hb;
      have hm9 : m ≤ 1000 := by have := HN.out; omega
      gi_wp2_with (first | (refine wpListIn_storeW rfl _ _ _ rfl w9.heap.size 38 _ Y rfl rfl (na w9 zCmd 38) (by rw [size48, hs1]) (by rw [zCmd_size, hs1]) h1 ?_; generalize hTa : setRow _ _ _ = wa; obtain ⟨hxa, fa⟩ := fin_x (b0 _) (na w9 zCmd 38) hTa; have hba : Below w9.heap.size w9 wa := bX (bA (b0 w9) (.cells zCmd 38)) hxa (Nat.le_refl _); have HO' := hide (HO.out.lift hba); have HR' := hide (HR.out.up hba); clear hTa hxa hba HO HR v1 v2 v3 c1 c2 c3 z1 z2 z3 b1 b2 b3; have HO := HO'; have HR := HR'; clear HO' HR'; obtain ⟨v1, v2, v3⟩ := rcell HR.out.hv; obtain ⟨c1, c2, c3⟩ := rcell HR.out.hc; obtain ⟨z1, z2, z3⟩ := rcell HR.out.hz; obtain ⟨b1, b2, b3⟩ := rcell HR.out.hb; skip) | (refine wpListIn_loadW rfl _ _ rfl w9.heap.size 38 Y rfl fa _ rfl Tryz.underlying38 (by rw [size48, hs1]) ?_; simp only [Act.put, List.setIfInBounds_toArray, List.set_cons_zero, List.set_cons_succ]) | (refine wpListIn_sliceW rfl _ _ _ rfl _ _ #[(0, .agg Y)] (by simp [Act.eval]) (hsl _) ?_; simp only [Act.put, List.setIfInBounds_toArray, List.set_cons_zero, List.set_cons_succ]) | (gi_at_builtin; refine wpListIn_pushM rfl _ _ rfl (w.heap.size + 7) _ m xs Y wa.heap.size rfl rfl (HO.out.lift (bA (b0 wa) (.cells Y 38))) (na wa Y 38) hs1 h1 hm9 (by have := HL2.out; have := HR.out.sz.2; simp; omega) ?_; intro v5 w5 ho5 hg5; have HR' := hide (HR.out.mv (((bA (b0 wa) (.cells Y 38)).mono (by have := HL2.out; have := HR.out.sz.2; omega)).grown hg5 (by have := HL2.out; have := HR.out.sz.2; simp; omega) HO.out.lt)); have HO' := hide ho5; obtain ⟨A5, c5, rfl, hr5⟩ := ho5.cr; clear hr5 hg5 HO HR v1 v2 v3 c1 c2 c3 z1 z2 z3 b1 b2 b3; have HO := HO'; have HR := HR'; clear HO' HR'; obtain ⟨v1, v2, v3⟩ := rcell HR.out.hv; obtain ⟨c1, c2, c3⟩ := rcell HR.out.hc; obtain ⟨z1, z2, z3⟩ := rcell HR.out.hz; obtain ⟨b1, b2, b3⟩ := rcell HR.out.hb; skip) | (refine wpListIn_store1 rfl 22 _ _ rfl w.heap.size 22 _ _ rfl rfl HR.out.hv (run_s one105 HR.out.hv _ _ _) ?_; generalize hT4 : setRow _ _ _ = u4; have HO' := hide (HO.out.excP (fin_x (b0 _) HR.out.hv hT4).1 (by omega)); have HR' := hide (HR.out.setv hT4); clear hT4 HO HR v1 v2 v3 c1 c2 c3 z1 z2 z3 b1 b2 b3; have HO := HO'; have HR := HR'; clear HO' HR'; obtain ⟨v1, v2, v3⟩ := rcell HR.out.hv; obtain ⟨c1, c2, c3⟩ := rcell HR.out.hc; obtain ⟨z1, z2, z3⟩ := rcell HR.out.hz; obtain ⟨b1, b2, b3⟩ := rcell HR.out.hb; skip) | (refine wpListIn_store1 rfl 4 _ _ rfl (w.heap.size + 1 + 1 + 1) 4 _ _ rfl rfl HR.out.hb (run_b one4 HR.out.hb _) ?_; generalize hT5 : setRow _ _ _ = u5; have HO' := hide (HO.out.excP (fin_x (b0 _) HR.out.hb hT5).1 (by omega)); have HR' := hide (HR.out.setb hT5); clear hT5 HO HR v1 v2 v3 c1 c2 c3 z1 z2 z3 b1 b2 b3; have HO := HO'; have HR := HR'; clear HO' HR'; obtain ⟨v1, v2, v3⟩ := rcell HR.out.hv; obtain ⟨c1, c2, c3⟩ := rcell HR.out.hc; obtain ⟨z1, z2, z3⟩ := rcell HR.out.hz; obtain ⟨b1, b2, b3⟩ := rcell HR.out.hb; skip))
      have el : ((pre ++ [(a, true)]).length : Int) = (pre.length : Int) + 1 := by simp
      refine ⟨⟨HR.out.sz.2, HR.out.kk _ (by omega) (by omega) (by have := HL2.out; omega), HR.out.kk _ (by omega) (by omega) (by have := HL2.out; omega)⟩, HR.out.kk _ (by omega) (by omega) (by have := HL2.out; omega), _, m + 1, _, _, el ▸ HR.out.re, HO.out, ?_, ?_⟩
      · have := HN.out.1; simp; omega
      · have := HN.out.2; simp; omega
    · injection q2 with q2 q3
      subst q2 q3
      have Q1 := hide q1
      have hpl : pre.length ≤ 300 := by omega
      have ek : ((pre.length : Int) + 1 == 1) = false := beq_eq_false_iff_ne.2 (by omega)
      have ek2 : decide ((pre.length : Int) + 1 = 1) = false := decide_eq_false (by omega)
      clear q1
      cases fg with
      | false =>
        gi_wp2_with (first | (refine wpListIn_store1 rfl 3 _ _ rfl (w.heap.size + 1) 3 _ _ rfl rfl HR.out.hc (run_i one3 HR.out.hc _ _) ?_; generalize hT1 : setRow _ _ _ = u1; have HO' := hide (HO.out.excP (fin_x (b0 _) HR.out.hc hT1).1 (by omega)); have HR' := hide (HR.out.setc hT1); clear hT1 HO HR v1 v2 v3 c1 c2 c3 z1 z2 z3 b1 b2 b3; have HO := HO'; have HR := HR'; clear HO' HR'; obtain ⟨v1, v2, v3⟩ := rcell HR.out.hv; obtain ⟨c1, c2, c3⟩ := rcell HR.out.hc; obtain ⟨z1, z2, z3⟩ := rcell HR.out.hz; obtain ⟨b1, b2, b3⟩ := rcell HR.out.hb; skip) | (refine wpListIn_store1 rfl 4 _ _ rfl (w.heap.size + 1 + 1 + 1) 4 _ _ rfl rfl HR.out.hb (run_b one4 HR.out.hb _) ?_; generalize hT2 : setRow _ _ _ = u2; have HO' := hide (HO.out.excP (fin_x (b0 _) HR.out.hb hT2).1 (by omega)); have HR' := hide (HR.out.setb hT2); clear hT2 HO HR v1 v2 v3 c1 c2 c3 z1 z2 z3 b1 b2 b3; have HO := HO'; have HR := HR'; clear HO' HR'; obtain ⟨v1, v2, v3⟩ := rcell HR.out.hv; obtain ⟨c1, c2, c3⟩ := rcell HR.out.hc; obtain ⟨z1, z2, z3⟩ := rcell HR.out.hz; obtain ⟨b1, b2, b3⟩ := rcell HR.out.hb; skip))
        exact ⟨⟨HR.out.sz.2, HR.out.kk _ (by omega) (by omega) (by have := HL2.out; omega), HR.out.kk _ (by omega) (by omega) (by have := HL2.out; omega)⟩, HP.out, rfl, v, z, HR.out.re.ceq (by have := Q1.out; omega)⟩
      | true =>
        have hbl' := hbl.resolve_left (by decide)
        have hc0 := fun W hW => con_Parse a hbl'.1 W hW
        rw [hbl'.2] at hc0
        have hc1 := hide hc0
        clear hc0 hbl'
        gi_wp2_with (first | (refine wpListIn_store1 rfl 3 _ _ rfl (w.heap.size + 1) 3 _ _ rfl rfl HR.out.hc (run_i one3 HR.out.hc _ _) ?_; generalize hT1 : setRow _ _ _ = u1; have HO' := hide (HO.out.excP (fin_x (b0 _) HR.out.hc hT1).1 (by omega)); have HR' := hide (HR.out.setc hT1); clear hT1 HO HR v1 v2 v3 c1 c2 c3 z1 z2 z3 b1 b2 b3; have HO := HO'; have HR := HR'; clear HO' HR'; obtain ⟨v1, v2, v3⟩ := rcell HR.out.hv; obtain ⟨c1, c2, c3⟩ := rcell HR.out.hc; obtain ⟨z1, z2, z3⟩ := rcell HR.out.hz; obtain ⟨b1, b2, b3⟩ := rcell HR.out.hb; skip) | (refine wpListIn_store1 rfl 4 _ _ rfl (w.heap.size + 1 + 1 + 1) 4 _ _ rfl rfl HR.out.hb (run_b one4 HR.out.hb _) ?_; generalize hT2 : setRow _ _ _ = u2; have HO' := hide (HO.out.excP (fin_x (b0 _) HR.out.hb hT2).1 (by omega)); have HR' := hide (HR.out.setb hT2); clear hT2 HO HR v1 v2 v3 c1 c2 c3 z1 z2 z3 b1 b2 b3; have HO := HO'; have HR := HR'; clear HO' HR'; obtain ⟨v1, v2, v3⟩ := rcell HR.out.hv; obtain ⟨c1, c2, c3⟩ := rcell HR.out.hc; obtain ⟨z1, z2, z3⟩ := rcell HR.out.hz; obtain ⟨b1, b2, b3⟩ := rcell HR.out.hb; skip))
        refine ⟨trivial, (callsIn_wide.2 (hc1.out _ (hL.below HR.out.bel))).mono ?_⟩
        rintro e w9 ⟨rfl, hb9⟩
        have hs1 := zCmd_size
        have h1 := zCmd_one
        have hsl : ∀ W : World, (Instr.buildSlice 22 1 #[(0, .agg zCmd)]).run Tryz.prog W = .ok (.slice (some ⟨W.heap.size, 0, none⟩) 1 1) (W.alloc (.cells zCmd 38)) := fun W => slice_one _ _ _ _ _ _ W
        generalize zCmd = Y at *
        clear hc1
        have HO' := hide (HO.out.lift hb9); have HR' := hide (HR.out.up hb9); clear HO HR hb9 v1 v2 v3 c1 c2 c3 z1 z2 z3 b1 b2 b3; have HO := HO'; have HR := HR'; clear HO' HR'
        obtain ⟨v1, v2, v3⟩ := rcell HR.out.hv; obtain ⟨c1, c2, c3⟩ := rcell HR.out.hc; obtain ⟨z1, z2, z3⟩ := rcell HR.out.hz; obtain ⟨b1, b2, b3⟩ := rcell HR.out.hb;
        have hm9 : m ≤ 1000 := by have := HN.out; omega
        gi_wp2_with (first | (refine wpListIn_storeW rfl _ _ _ rfl w9.heap.size 38 _ Y rfl rfl (na w9 zCmd 38) (by rw [size48, hs1]) (by rw [zCmd_size, hs1]) h1 ?_; generalize hTa : setRow _ _ _ = wa; obtain ⟨hxa, fa⟩ := fin_x (b0 _) (na w9 zCmd 38) hTa; have hba : Below w9.heap.size w9 wa := bX (bA (b0 w9) (.cells zCmd 38)) hxa (Nat.le_refl _); have HO' := hide (HO.out.lift hba); have HR' := hide (HR.out.up hba); clear hTa hxa hba HO HR v1 v2 v3 c1 c2 c3 z1 z2 z3 b1 b2 b3; have HO := HO'; have HR := HR'; clear HO' HR'; obtain ⟨v1, v2, v3⟩ := rcell HR.out.hv; obtain ⟨c1, c2, c3⟩ := rcell HR.out.hc; obtain ⟨z1, z2, z3⟩ := rcell HR.out.hz; obtain ⟨b1, b2, b3⟩ := rcell HR.out.hb; skip) | (refine wpListIn_loadW rfl _ _ rfl w9.heap.size 38 Y rfl fa _ rfl Tryz.underlying38 (by rw [size48, hs1]) ?_; simp only [Act.put, List.setIfInBounds_toArray, List.set_cons_zero, List.set_cons_succ]) | (refine wpListIn_sliceW rfl _ _ _ rfl _ _ #[(0, .agg Y)] (by simp [Act.eval]) (hsl _) ?_; simp only [Act.put, List.setIfInBounds_toArray, List.set_cons_zero, List.set_cons_succ]) | (gi_at_builtin; refine wpListIn_pushM rfl _ _ rfl (w.heap.size + 7) _ m xs Y wa.heap.size rfl rfl (HO.out.lift (bA (b0 wa) (.cells Y 38))) (na wa Y 38) hs1 h1 hm9 (by have := HL2.out; have := HR.out.sz.2; simp; omega) ?_; intro v5 w5 ho5 hg5; have HR' := hide (HR.out.mv (((bA (b0 wa) (.cells Y 38)).mono (by have := HL2.out; have := HR.out.sz.2; omega)).grown hg5 (by have := HL2.out; have := HR.out.sz.2; simp; omega) HO.out.lt)); have HO' := hide ho5; obtain ⟨A5, c5, rfl, hr5⟩ := ho5.cr; clear hr5 hg5 HO HR v1 v2 v3 c1 c2 c3 z1 z2 z3 b1 b2 b3; have HO := HO'; have HR := HR'; clear HO' HR'; obtain ⟨v1, v2, v3⟩ := rcell HR.out.hv; obtain ⟨c1, c2, c3⟩ := rcell HR.out.hc; obtain ⟨z1, z2, z3⟩ := rcell HR.out.hz; obtain ⟨b1, b2, b3⟩ := rcell HR.out.hb; skip) | (refine wpListIn_store1 rfl 22 _ _ rfl w.heap.size 22 _ _ rfl rfl HR.out.hv (run_s one105 HR.out.hv _ _ _) ?_; generalize hT4 : setRow _ _ _ = u4; have HO' := hide (HO.out.excP (fin_x (b0 _) HR.out.hv hT4).1 (by omega)); have HR' := hide (HR.out.setv hT4); clear hT4 HO HR v1 v2 v3 c1 c2 c3 z1 z2 z3 b1 b2 b3; have HO := HO'; have HR := HR'; clear HO' HR'; obtain ⟨v1, v2, v3⟩ := rcell HR.out.hv; obtain ⟨c1, c2, c3⟩ := rcell HR.out.hc; obtain ⟨z1, z2, z3⟩ := rcell HR.out.hz; obtain ⟨b1, b2, b3⟩ := rcell HR.out.hb; skip) | (refine wpListIn_store1 rfl 4 _ _ rfl (w.heap.size + 1 + 1 + 1) 4 _ _ rfl rfl HR.out.hb (run_b one4 HR.out.hb _) ?_; generalize hT5 : setRow _ _ _ = u5; have HO' := hide (HO.out.excP (fin_x (b0 _) HR.out.hb hT5).1 (by omega)); have HR' := hide (HR.out.setb hT5); clear hT5 HO HR v1 v2 v3 c1 c2 c3 z1 z2 z3 b1 b2 b3; have HO := HO'; have HR := HR'; clear HO' HR'; obtain ⟨v1, v2, v3⟩ := rcell HR.out.hv; obtain ⟨c1, c2, c3⟩ := rcell HR.out.hc; obtain ⟨z1, z2, z3⟩ := rcell HR.out.hz; obtain ⟨b1, b2, b3⟩ := rcell HR.out.hb; skip))
        exact ⟨⟨HR.out.sz.2, HR.out.kk _ (by omega) (by omega) (by have := HL2.out; omega), HR.out.kk _ (by omega) (by omega) (by have := HL2.out; omega)⟩, HP.out, rfl, _, z, HR.out.re.ceq (by have := Q1.out; omega)⟩
    · exact absurd HN.out.2 (by omega)
  case done =>
    rintro D xs W hD hS ⟨v, n, ys, z, h1, h2, h3, h4⟩ hK
    rw [hS, HT.out] at h4
    simp at h4
    omega
  case stop =>
    rintro D c pre W hD hS ⟨hp, rfl, v, z, hr⟩ hK
    have HR := hide hr
    clear hr
    obtain ⟨v1, v2, v3⟩ := rcell HR.out.hv; obtain ⟨c1, c2, c3⟩ := rcell HR.out.hc; obtain ⟨z1, z2, z3⟩ := rcell HR.out.hz; obtain ⟨b1, b2, b3⟩ := rcell HR.out.hb;
    have hc := HR.out.hc
    go_wp2_with fail
    refine Abs.wp_region_abs (Abs.cls0 _) [0, 1, 2, 3] (by kernel_rfl) (by kernel_rfl) (Below.refl _ _).drew ?_
    (refine Abs.step_load (v := ?_) rfl rfl (by kernel_rfl) rfl (fun w0 hI => ?_) (fun K hK => ?_); rotate_left; (· have z0 := (rcell (kp hI (hc))).1; go_simp; rfl); (simp only [Act.put, List.setIfInBounds_toArray, List.set_cons_zero, List.set_cons_succ]; refine hK _ _ ?_; clear hK K))
    (refine Abs.step_pure rfl rfl (fun K hK => ?_); go_simp; (try go_bits); (first | refine hK _ _ ?_ | (simp only [↓IntWalk.iteOmega]; go_simp; (try go_bits); refine hK _ _ ?_)); clear hK K)
    (refine Abs.step_pure rfl rfl (fun K hK => ?_); go_simp; (try go_bits); (first | refine hK _ _ ?_ | (simp only [↓IntWalk.iteOmega]; go_simp; (try go_bits); refine hK _ _ ?_)); clear hK K)
    (refine Abs.step_pure rfl rfl (fun K hK => ?_); go_simp; (try go_bits); (first | refine hK _ _ ?_ | (simp only [↓IntWalk.iteOmega]; go_simp; (try go_bits); refine hK _ _ ?_)); clear hK K)
    (intro w1 hb1 hx0 hx1 hx2; clear hx0 hx1 hx2; simp only [Abs.T_setF, Abs.T_addA, Abs.T_push, Abs.T_start])
    have hK1 := (hb1.block D (Array.getElem?_eq_some_iff.1 hK).1).trans hK
    go_wp2_with fail
    refine marks_ret rfl hK1 (v := .tuple #[.string ⟨#[]⟩, .int .i64 ((gs.length + 1 + 1 : Nat) : Int), .int .i64 411]) (by simp [results, Tryz.results9, go_sem]) ⟨rfl, (bB HR.out.bel hb1).trans ((turned_put w1 D (.deferred none)).low (by omega))⟩
end Go.Proofs.YtbiedfkmmcaplaaGreatDoor
