/- The console at this program: a range over a map of three entries, in any order. The console at this program: which entry comes next. Maps keyed by words, whose entries stand in the order in which they came. The console at this program: what each word begins, as a map. The console at this program: wh -/
import Derived.Test.YtbiedfkmmcaplaaGreatDoorRd
import Derived.MapKept
import Derived.Calls
import Derived.Below
import Derived.Defers
import Derived.Recover
set_option linter.all false
namespace Go.Proofs.YtbiedfkmmcaplaaGreatDoor
open Go.RowKit

def wSync : ByteArray := ⟨#[115, 121, 110, 99]⟩
def wFlush : ByteArray := ⟨#[102, 108, 117, 115, 104]⟩
def wCompact : ByteArray := ⟨#[99, 111, 109, 112, 97, 99, 116]⟩
def ent3 : Nat → MapEntry
  | 0 => ⟨.int .i64 2, .string wSync, 0⟩
  | 1 => ⟨.int .i64 3, .string wFlush, 1⟩
  | _ => ⟨.int .i64 4, .string wCompact, 2⟩
def es3 : Array MapEntry := #[ent3 0, ent3 1, ent3 2]

structure It3 (m r : Nat) (seen : List Nat) (w : World) : Prop where
  mp : w.heap[m]? = some (.map es3 3)
  it : w.heap[r]? = some (.mapIter (some m) 3 seen.toArray 3)

def nextC (seen : Array Nat) : Array (Option MapEntry) :=
  let left := es3.filter fun e => !seen.contains e.born
  let old := left.filter (·.born < 3)
  let new := left.filter (·.born ≥ 3)
  (if old.isEmpty then #[none] else #[]) ++ (old ++ new).map some
def SameW (w w' : World) : Prop := w'.heap = w.heap ∧ w'.os = w.os ∧ w'.tape = w.tape ∧ w'.output = w.output
theorem run_mapNext (n : Nat) (hn : 0 < n) (w : World) : ∃ i w', (choose (.mapNext n)).run Tryz.prog w = .ok i w' ∧ i < n ∧ SameW w w' := by
  unfold choose
  simp only [Sem.run]
  split
  · exact ⟨0, w, rfl, hn, rfl, rfl, rfl, rfl⟩
  · exact ⟨_, _, rfl, by simp only [Question.cut]; exact Nat.mod_lt _ hn, rfl, rfl, rfl, rfl⟩
theorem run_next_at (m r : Nat) (seen : Array Nat) (w : World) (h1 : w.heap[m]? = some (.map es3 3)) (h2 : w.heap[r]? = some (.mapIter (some m) 3 seen 3)) (hC : 0 < (nextC seen).size) (ty : TypeId) :
    ∃ i w', i < (nextC seen).size ∧ SameW w w' ∧ (Instr.next (.pointer (some ⟨r, 0, none⟩)) false ty).run Tryz.prog w =
      match (nextC seen)[i]? with
      | some (some e) => .ok (.tuple #[.bool true, e.key, e.val]) { w' with heap := w'.heap.setIfInBounds r (.mapIter (some m) 3 (seen.push e.born) 3) }
      | some none => .ok (.tuple #[.bool false]) w'
      | none => .halt (.stuck "Next: no such candidate") w' := by
  obtain ⟨i, w', hr, hi, hw⟩ := run_mapNext (nextC seen).size hC w
  refine ⟨i, w', hi, hw, ?_⟩
  have hall : (es3.all fun x => decide (x.born ≥ 3)) = false := by simp [es3, ent3]
  simp only [Instr.next, getObj, setObj, Sem.run_bind, Sem.run, h2, h1, Result.andThen, hall, Bool.and_false, Bool.false_eq_true, if_false]
  have hr' := hr
  unfold nextC at hr'
  simp only at hr'
  rw [hr']
  simp only [Result.andThen]
  show (match (nextC seen)[i]? with | some (some e) => _ | some none => _ | none => _ : Sem Value).run Tryz.prog w' = _
  cases (nextC seen)[i]? with
  | none => rfl
  | some o =>
    cases o with
    | none => rfl
    | some e =>
      have h3 : w'.heap[r]? = some (.mapIter (some m) 3 seen 3) := by rw [hw.1]; exact h2
      simp [Sem.run, h3]
end Go.Proofs.YtbiedfkmmcaplaaGreatDoor

namespace Go.Proofs.YtbiedfkmmcaplaaGreatDoor
open Go.RowKit

theorem nextC_all (seen : List Nat) : 0 < (nextC seen.toArray).size ∧ ∀ i, i < (nextC seen.toArray).size →
    (((nextC seen.toArray)[i]? = some none ∧ 0 ∈ seen ∧ 1 ∈ seen ∧ 2 ∈ seen) ∨ ∃ k, k < 3 ∧ k ∉ seen ∧ (nextC seen.toArray)[i]? = some (some (ent3 k))) := by
  by_cases h0 : 0 ∈ seen <;> by_cases h1 : 1 ∈ seen <;> by_cases h2 : 2 ∈ seen
  · have e : nextC seen.toArray = #[none] := by simp [nextC, es3, ent3, h0, h1, h2]
    rw [e]
    exact ⟨by simp, fun i hi => .inl ⟨by simp at hi; subst hi; rfl, h0, h1, h2⟩⟩
  · have e : nextC seen.toArray = #[some (ent3 2)] := by simp [nextC, es3, ent3, h0, h1, h2]
    rw [e]
    exact ⟨by simp, fun i hi => .inr ⟨2, by omega, h2, by simp at hi; subst hi; rfl⟩⟩
  · have e : nextC seen.toArray = #[some (ent3 1)] := by simp [nextC, es3, ent3, h0, h1, h2]
    rw [e]
    exact ⟨by simp, fun i hi => .inr ⟨1, by omega, h1, by simp at hi; subst hi; rfl⟩⟩
  · have e : nextC seen.toArray = #[some (ent3 1), some (ent3 2)] := by simp [nextC, es3, ent3, h0, h1, h2]
    rw [e]
    refine ⟨by simp, fun i hi => ?_⟩
    have : i = 0 ∨ i = 1 := by simp at hi; omega
    rcases this with rfl | rfl
    · exact .inr ⟨1, by omega, h1, rfl⟩
    · exact .inr ⟨2, by omega, h2, rfl⟩
  · have e : nextC seen.toArray = #[some (ent3 0)] := by simp [nextC, es3, ent3, h0, h1, h2]
    rw [e]
    exact ⟨by simp, fun i hi => .inr ⟨0, by omega, h0, by simp at hi; subst hi; rfl⟩⟩
  · have e : nextC seen.toArray = #[some (ent3 0), some (ent3 2)] := by simp [nextC, es3, ent3, h0, h1, h2]
    rw [e]
    refine ⟨by simp, fun i hi => ?_⟩
    have : i = 0 ∨ i = 1 := by simp at hi; omega
    rcases this with rfl | rfl
    · exact .inr ⟨0, by omega, h0, rfl⟩
    · exact .inr ⟨2, by omega, h2, rfl⟩
  · have e : nextC seen.toArray = #[some (ent3 0), some (ent3 1)] := by simp [nextC, es3, ent3, h0, h1, h2]
    rw [e]
    refine ⟨by simp, fun i hi => ?_⟩
    have : i = 0 ∨ i = 1 := by simp at hi; omega
    rcases this with rfl | rfl
    · exact .inr ⟨0, by omega, h0, rfl⟩
    · exact .inr ⟨1, by omega, h1, rfl⟩
  · have e : nextC seen.toArray = #[some (ent3 0), some (ent3 1), some (ent3 2)] := by simp [nextC, es3, ent3, h0, h1, h2]
    rw [e]
    refine ⟨by simp, fun i hi => ?_⟩
    have : i = 0 ∨ i = 1 ∨ i = 2 := by simp at hi; omega
    rcases this with rfl | rfl | rfl
    · exact .inr ⟨0, by omega, h0, rfl⟩
    · exact .inr ⟨1, by omega, h1, rfl⟩
    · exact .inr ⟨2, by omega, h2, rfl⟩

theorem run_next3 (m r : Nat) (seen : List Nat) (w : World) (h1 : w.heap[m]? = some (.map es3 3)) (h2 : w.heap[r]? = some (.mapIter (some m) 3 seen.toArray 3)) (ty : TypeId) :
    ∃ w', SameW w w' ∧ ((0 ∈ seen ∧ 1 ∈ seen ∧ 2 ∈ seen ∧ (Instr.next (.pointer (some ⟨r, 0, none⟩)) false ty).run Tryz.prog w = .ok (.tuple #[.bool false]) w') ∨
      ∃ k, k < 3 ∧ k ∉ seen ∧ (Instr.next (.pointer (some ⟨r, 0, none⟩)) false ty).run Tryz.prog w = .ok (.tuple #[.bool true, (ent3 k).key, (ent3 k).val]) { w' with heap := w'.heap.setIfInBounds r (.mapIter (some m) 3 (seen ++ [k]).toArray 3) }) := by
  obtain ⟨hC, hall⟩ := nextC_all seen
  obtain ⟨i, w', hi, hw, hrun⟩ := run_next_at m r seen.toArray w h1 h2 hC ty
  refine ⟨w', hw, ?_⟩
  rcases hall i hi with ⟨e, a, b, c⟩ | ⟨k, hk, hn, e⟩
  · rw [e] at hrun
    exact .inl ⟨a, b, c, hrun⟩
  · rw [e] at hrun
    refine .inr ⟨k, hk, hn, ?_⟩
    rw [hrun]
    have : (ent3 k).born = k := by
      match k, hk with
      | 0, _ => rfl
      | 1, _ => rfl
      | 2, _ => rfl
    simp [this]
end Go.Proofs.YtbiedfkmmcaplaaGreatDoor

namespace Go.Proofs.YtbiedfkmmcaplaaGreatDoor
open Go

theorem ba_beq (a b : ByteArray) : (a == b) = decide (a = b) := by
  by_cases h : a = b
  · subst h
    rw [decide_eq_true rfl]
    obtain ⟨a⟩ := a
    show (a == a) = true
    simp
  · rw [decide_eq_false h]
    obtain ⟨a⟩ := a
    obtain ⟨b⟩ := b
    show (a == b) = false
    have : a ≠ b := fun e => h (by rw [e])
    simpa using this

def mkEs : List (ByteArray × Value) → Nat → List MapEntry
  | [], _ => []
  | (s, v) :: l, i => { key := .string s, val := v, born := i } :: mkEs l (i + 1)
theorem mkEs_app (s : ByteArray) (v : Value) : ∀ (l : List (ByteArray × Value)) (i : Nat), mkEs (l ++ [(s, v)]) i = mkEs l i ++ [{ key := .string s, val := v, born := i + l.length }]
  | [], i => rfl
  | (t, u) :: l, i => by
    simp only [List.cons_append, mkEs, mkEs_app s v l (i + 1), List.length_cons]
    rw [show i + 1 + l.length = i + (l.length + 1) by omega]
def getL (s : ByteArray) : List (ByteArray × Value) → Option Value
  | [] => none
  | (t, v) :: l => if s = t then some v else getL s l
theorem findNow_mk (s : ByteArray) : ∀ (l : List (ByteArray × Value)) (i j : Nat), ∃ r, Instr.findNow .string (.string s) (mkEs l i) j = some r ∧ r.map (·.2) = getL s l
  | [], _, _ => ⟨none, rfl, rfl⟩
  | (t, v) :: l, i, j => by
    simp only [mkEs, Instr.findNow, Instr.sameNow, getL]
    by_cases h : s = t
    · subst h
      refine ⟨some (j, v), ?_, by simp⟩
      simp [ba_beq]
    · obtain ⟨r, h1, h2⟩ := findNow_mk s l (i + 1) (j + 1)
      refine ⟨r, ?_, by rw [if_neg h]; exact h2⟩
      simp [ba_beq, h, h1]
theorem getL_none {s : ByteArray} : ∀ {l : List (ByteArray × Value)}, s ∉ l.map (·.1) → getL s l = none
  | [], _ => rfl
  | (t, v) :: l, h => by
    simp only [List.map_cons, List.mem_cons, not_or] at h
    simp only [getL, if_neg h.1]
    exact getL_none h.2

def MapL (w : World) (b : Nat) (l : List (ByteArray × Value)) : Prop := w.heap[b]? = some (.map (mkEs l 0).toArray l.length)
variable {P : Program}
theorem run_mapPut (mty kt et : TypeId) (b : Nat) (l : List (ByteArray × Value)) (s : ByteArray) (v : Value) (w : World) (hm : P.underlying mty = some (.map kt et)) (hk : P.underlying kt = some .string) (h : MapL w b l) (hs : s ∉ l.map (·.1)) :
    (Instr.mapUpdate mty (.map (some b)) (.string s) v).run P w = .ok () { w with heap := w.heap.setIfInBounds b (.map (mkEs (l ++ [(s, v)]) 0).toArray (l ++ [(s, v)]).length) } := by
  obtain ⟨r, h1, h2⟩ := findNow_mk s l 0 0
  rw [getL_none hs] at h2
  have hr : r = none := by
    cases r with
    | none => rfl
    | some x => cases h2
  subst hr
  have hc : (Instr.checkKey false 10000 kt (.string s)).run P w = .ok () w := MapKept.run_checkKey (k := .string s) hk (by simp [MapKept.IsKey]) false 9999
  have h' : w.heap[b]? = some (.map (mkEs l 0).toArray l.length) := h
  simp [Instr.mapUpdate, run_underlying hm, MapKept.run_getObj_map h', hc, MapKept.run_findKey hk h1, MapKept.run_setObj_map _ h', Result.andThen, mkEs_app]
theorem run_mapGet (mty kt et : TypeId) (b : Nat) (l : List (ByteArray × Value)) (s : ByteArray) (w : World) (hm : P.underlying mty = some (.map kt et)) (hk : P.underlying kt = some .string) (zv : Value) (hz : (zeroValue et).run P w = .ok zv w) (h : MapL w b l) :
    (Instr.lookup mty (.map (some b)) (.string s) true).run P w = .ok (match getL s l with | some v => .tuple #[v, .bool true] | none => .tuple #[zv, .bool false]) w := by
  obtain ⟨r, h1, h2⟩ := findNow_mk s l 0 0
  have hc : ∀ em, (Instr.checkKey em 10000 kt (.string s)).run P w = .ok () w := fun em => MapKept.run_checkKey (k := .string s) hk (by simp [MapKept.IsKey]) em 9999
  have h' : w.heap[b]? = some (.map (mkEs l 0).toArray l.length) := h
  rw [← h2]
  cases r with
  | none => simp [Instr.lookup, run_underlying hm, MapKept.run_getObj_map h', hc, MapKept.run_findKey hk h1, Result.andThen, hz]
  | some x => simp [Instr.lookup, run_underlying hm, MapKept.run_getObj_map h', hc, MapKept.run_findKey hk h1, Result.andThen]
end Go.Proofs.YtbiedfkmmcaplaaGreatDoor

namespace Go.Proofs.YtbiedfkmmcaplaaGreatDoor
open Go.RowKit

inductive Head where
  | fn (n : Nat)
  | one (k : Int)
  | span (k : Int)
  deriving DecidableEq
def wCreate : ByteArray := ⟨#[99, 114, 101, 97, 116, 101]⟩
def wDrop : ByteArray := ⟨#[100, 114, 111, 112]⟩
def wAppend : ByteArray := ⟨#[97, 112, 112, 101, 110, 100]⟩
def wRetain : ByteArray := ⟨#[114, 101, 116, 97, 105, 110]⟩
def wRead : ByteArray := ⟨#[114, 101, 97, 100]⟩
def wPower : ByteArray := ⟨#[112, 111, 119, 101, 114]⟩
def wCrash : ByteArray := ⟨#[99, 114, 97, 115, 104]⟩
def heads : List (ByteArray × Head) := [(wCreate, .fn 36), (wDrop, .fn 37), (wAppend, .fn 38), (wRetain, .fn 39), (wRead, .fn 40), (wAt, .fn 41), (wBuckets, .fn 42), (wPower, .fn 43), (wCrash, .fn 44),
  (wSync, .one 2), (wFlush, .one 3), (wCompact, .one 4), (wCount, .span 1), (wLeast, .span 2), (wMost, .span 3), (wSum, .span 4), (wMean, .span 5), (wScan, .span 7)]
def headL (s : ByteArray) : List (ByteArray × Head) → Option Head
  | [] => none
  | (t, h) :: l => if s = t then some h else headL s l
def headOf (s : ByteArray) : Option Head := headL s heads
theorem headL_mem {s : ByteArray} {h : Head} : ∀ {l : List (ByteArray × Head)}, headL s l = some h → s ∈ l.map (·.1)
  | [], e => by cases e
  | (t, u) :: l, e => by
    simp only [headL] at e
    by_cases hs : s = t
    · subst hs; simp
    · rw [if_neg hs] at e
      simp only [List.map_cons]
      exact List.mem_cons_of_mem _ (headL_mem e)

def FnIs (g : Nat) (w : World) (v : Value) : Head → Prop
  | .fn n => v = .func (.func n) #[.pointer (some ⟨g, 0, none⟩)] #[]
  | .one k => ∃ q, v = .func (.func 45) #[] #[.pointer (some ⟨q, 0, none⟩)] ∧ w.heap[q]? = some (.cells #[.int .i64 k] 3 (0, 0))
  | .span k => ∃ p q, v = .func (.func 48) #[] #[.pointer (some ⟨p, 0, none⟩), .pointer (some ⟨q, 0, none⟩)] ∧ w.heap[p]? = some (.cells #[.pointer (some ⟨g, 0, none⟩)] 58 (0, 0)) ∧ w.heap[q]? = some (.cells #[.int .i64 k] 3 (0, 0))
theorem FnIs.mono {g : Nat} {w w' : World} {v : Value} {h : Head} (hf : FnIs g w v h) (hk : ∀ (q : Nat) (cs : Array Value) (t : TypeId), w.heap[q]? = some (Obj.cells cs t (0, 0)) → w'.heap[q]? = some (Obj.cells cs t (0, 0))) : FnIs g w' v h := by
  cases h with
  | fn n => exact hf
  | one k =>
    obtain ⟨q, h1, h2⟩ := hf
    exact ⟨q, h1, hk _ _ _ h2⟩
  | span k =>
    obtain ⟨p, q, h1, h2, h3⟩ := hf
    exact ⟨p, q, h1, hk _ _ _ h2, hk _ _ _ h3⟩
def FnAt (g : Nat) (w : World) (s : ByteArray) (v : Value) : Prop := ∃ h, headOf s = some h ∧ FnIs g w v h

theorem lt_of_some {w : World} {b : Nat} {o : Obj} (h : w.heap[b]? = some o) : b < w.heap.size := by
  rcases Nat.lt_or_ge b w.heap.size with h1 | h1
  · exact h1
  · rw [Array.getElem?_eq_none h1] at h; cases h

structure Beg (g p b : Nat) (w0 w : World) (l : List (ByteArray × Value)) : Prop where
  bl : Below w0.heap.size w0 w
  hp : w.heap[p]? = some (.cells #[.pointer (some ⟨g, 0, none⟩)] 58 (0, 0))
  mp : MapL w b l
  kb : w0.heap.size ≤ b
  gd : ∀ s v, (s, v) ∈ l → FnAt g w s v
theorem Beg.below {g p b : Nat} {w0 w w' : World} {l : List (ByteArray × Value)} (h : Beg g p b w0 w l) (hb : Below w.heap.size w w') : Beg g p b w0 w' l :=
  ⟨bB h.bl hb, kp hb h.hp, (hb.block b (lt_of_some h.mp)).trans h.mp, h.kb, fun s v hm => by
    obtain ⟨hd, h1, h2⟩ := h.gd s v hm
    exact ⟨hd, h1, FnIs.mono h2 fun q cs t hq => kp hb hq⟩⟩
theorem Beg.turn {g p b r : Nat} {w0 w w' : World} {l l' : List (ByteArray × Value)} (h : Beg g p b w0 w l) (hx : Exc r w w') (hr : w0.heap.size ≤ r) (hn : ∀ (cs : Array Value) (t : TypeId), w.heap[r]? ≠ some (Obj.cells cs t (0, 0))) (hm : MapL w' b l') (hl : ∀ s v, (s, v) ∈ l' → (s, v) ∈ l ∨ FnAt g w s v) : Beg g p b w0 w' l' := by
  have hk : ∀ (q : Nat) (cs : Array Value) (t : TypeId), w.heap[q]? = some (Obj.cells cs t (0, 0)) → w'.heap[q]? = some (Obj.cells cs t (0, 0)) := fun q cs t hq => by
    have hne : q ≠ r := by
      rintro rfl
      exact hn _ _ hq
    rw [hx.other q (lt_of_some hq) hne]
    exact hq
  refine ⟨bG h.bl hx.low hr, hk _ _ _ h.hp, hm, h.kb, fun s v hv => ?_⟩
  rcases hl s v hv with h1 | ⟨hd, h1, h2⟩
  · obtain ⟨hd, h2, h3⟩ := h.gd s v h1
    exact ⟨hd, h2, FnIs.mono h3 hk⟩
  · exact ⟨hd, h1, FnIs.mono h2 hk⟩
def notCells : Obj → Bool
  | .cells .. => false
  | _ => true
theorem Beg.turnO {g p b r : Nat} {w0 w w' : World} {l : List (ByteArray × Value)} {o : Obj} (h : Beg g p b w0 w l) (hx : Exc r w w') (hr : w0.heap.size ≤ r) (ho : w.heap[r]? = some o) (hn : notCells o = true) (hne : b ≠ r) : Beg g p b w0 w' l :=
  h.turn hx hr (fun cs t e => by rw [ho] at e; injection e with e; subst e; cases hn) ((hx.other b (lt_of_some h.mp) hne).trans h.mp) fun s v hv => .inl hv
theorem exc_set (w : World) (b : Nat) (o : Obj) (hb : b < w.heap.size) : Exc b w { w with heap := w.heap.setIfInBounds b o } :=
  ⟨Nat.le_of_lt hb, ⟨rfl, rfl, rfl, by simp, fun k hk => by simp only [Array.getElem?_setIfInBounds]; rw [if_neg (by omega)]⟩, by simp, fun k _ hk => by simp only [Array.getElem?_setIfInBounds]; rw [if_neg (fun e => hk e.symm)]⟩
theorem al_new (w : World) (o : Obj) (n : Nat) (hn : n = w.heap.size) : (w.alloc o).heap[n]? = some o := by subst hn; show (w.heap.push o)[w.heap.size]? = some o; exact Array.getElem?_push_size
theorem Beg.start (g : Nat) (w : World) : Beg g w.heap.size (w.heap.size + 1) w ((w.alloc (.cells #[.pointer (some ⟨g, 0, none⟩)] 58)).alloc (.map #[] 0)) [] :=
  ⟨bA (bA (b0 w) _) _, kp (bA (b0 _) _) (na w #[.pointer (some ⟨g, 0, none⟩)] 58), al_new _ _ _ (by simp), Nat.le_succ _, fun s v h => by cases h⟩

def notIn (s : ByteArray) (K : List ByteArray) : Bool := K.all fun t => !decide (s = t)
theorem notIn_of {s : ByteArray} {K : List ByteArray} (h : notIn s K = true) : s ∉ K := fun hm => by
  have := List.all_eq_true.1 h s hm
  simp at this
theorem wpList_begPut {ops : Array Oper} {rest : List Oper} {o : Oper} {a : Act} {w : World} {Q : Exit → Act → World → Prop} (hgd : o.guard = none) (m k x : Operand) (ho : o.op = .mapUpdate 65 m k x ∨ o.op = .insert 65 m k x)
    (g p b : Nat) (w0 : World) (l : List (ByteArray × Value)) (K : List ByteArray) (s : ByteArray) (v : Value) (hm : a.eval m = .map (some b)) (hk : a.eval k = .string s) (hx : a.eval x = v)
    (hB : Beg g p b w0 w l) (hK : l.map (·.1) = K) (hs : notIn s K = true) (hf : FnAt g w s v)
    (h : ∀ W l', Beg g p b w0 W l' → l'.map (·.1) = K ++ [s] → Exc b w W → W.heap.size = w.heap.size → wpList Tryz.prog ops Q rest (a.put o.dst undef) W) : wpList Tryz.prog ops Q (o :: rest) a w := by
  have hrun := run_mapPut (P := Tryz.prog) 65 9 63 b l s v w Tryz.underlying65 Tryz.underlying9 hB.mp (by rw [hK]; exact notIn_of hs)
  have hx' := exc_set w b (.map (mkEs (l ++ [(s, v)]) 0).toArray (l ++ [(s, v)]).length) (lt_of_some hB.mp)
  have hMP : MapL { w with heap := w.heap.setIfInBounds b (.map (mkEs (l ++ [(s, v)]) 0).toArray (l ++ [(s, v)]).length) } b (l ++ [(s, v)]) := by
    unfold MapL
    simp only [Array.getElem?_setIfInBounds, if_pos (lt_of_some hB.mp)]
    simp
  have hsz : ({ w with heap := w.heap.setIfInBounds b (.map (mkEs (l ++ [(s, v)]) 0).toArray (l ++ [(s, v)]).length) } : World).heap.size = w.heap.size := by simp
  generalize ({ w with heap := w.heap.setIfInBounds b (.map (mkEs (l ++ [(s, v)]) 0).toArray (l ++ [(s, v)]).length) } : World) = W at *
  have hnew := h W (l ++ [(s, v)]) (hB.turn hx' hB.kb (fun cs t e => by have := hB.mp; unfold MapL at this; rw [e] at this; cases this) hMP (fun s' v' hv => by
    rcases List.mem_append.1 hv with h1 | h1
    · exact .inl h1
    · simp only [List.mem_singleton, Prod.mk.injEq] at h1
      obtain ⟨rfl, rfl⟩ := h1
      exact .inr hf)) (by simp [hK]) hx' hsz
  refine wpList_plain hgd fun _ hKK => ?_
  unfold Oper.wp execOp
  rcases ho with ho | ho <;> simp only [ho, hm, hk, hx, Sem.run_bind, Sem.run_pure, Result.andThen_ok, hrun] <;> exact hKK _ _ hnew
end Go.Proofs.YtbiedfkmmcaplaaGreatDoor

namespace Go.Proofs.YtbiedfkmmcaplaaGreatDoor
open Go.RowKit
attribute [local go_sem] Oper.semAt_some

def keys9 : List ByteArray := [wCreate, wDrop, wAppend, wRetain, wRead, wAt, wBuckets, wPower, wCrash]
theorem run_ins3 (b k : Nat) (hk : k < 3) (w : World) (h : w.heap[b]? = some (.map (es3.extract 0 k) k)) :
    (Instr.mapUpdate 100 (.map (some b)) (ent3 k).key (ent3 k).val).run Tryz.prog w = .ok () { w with heap := w.heap.setIfInBounds b (.map (es3.extract 0 (k + 1)) (k + 1)) } := by
  have hc : ∀ z, (Instr.checkKey false 10000 3 (.int .i64 z)).run Tryz.prog w = .ok () w := fun z => MapKept.run_checkKey (k := .int .i64 z) Tryz.underlying3 (by simp [MapKept.IsKey]) false 9999
  have hu : Tryz.prog.underlying 100 = some (.map 3 9) := Tryz.underlying100
  match k, hk with
  | 0, _ =>
    have hf : Instr.findNow (.int .i64) (.int .i64 2) ([] : List MapEntry) 0 = some none := rfl
    simp [es3, ent3] at h ⊢
    simp [Instr.mapUpdate, run_underlying hu, MapKept.run_getObj_map h, hc, MapKept.run_findKey Tryz.underlying3 hf, MapKept.run_setObj_map _ h, Result.andThen]
  | 1, _ =>
    have hf : Instr.findNow (.int .i64) (.int .i64 3) [ent3 0] 0 = some none := by simp [Instr.findNow, Instr.sameNow, ent3]
    simp [es3, ent3] at h ⊢
    simp [ent3] at hf
    simp [Instr.mapUpdate, run_underlying hu, MapKept.run_getObj_map h, hc, MapKept.run_findKey Tryz.underlying3 hf, MapKept.run_setObj_map _ h, Result.andThen]
  | 2, _ =>
    have hf : Instr.findNow (.int .i64) (.int .i64 4) [ent3 0, ent3 1] 0 = some none := by simp [Instr.findNow, Instr.sameNow, ent3]
    simp [es3, ent3] at h ⊢
    simp [ent3] at hf
    simp [Instr.mapUpdate, run_underlying hu, MapKept.run_getObj_map h, hc, MapKept.run_findKey Tryz.underlying3 hf, MapKept.run_setObj_map _ h, Result.andThen]
theorem wpList_ins3 {ops : Array Oper} {rest : List Oper} {o : Oper} {a : Act} {w : World} {Q : Exit → Act → World → Prop} (hgd : o.guard = none) (b n : Nat) (hB : w.heap[b]? = some (.map (es3.extract 0 n) n)) (m k x : Operand) (ho : o.op = .insert 100 m k x)
    (hm : a.eval m = .map (some b)) (hk : a.eval k = (ent3 n).key) (hx : a.eval x = (ent3 n).val) (hn : n < 3)
    (h : ∀ W, W.heap[b]? = some (.map (es3.extract 0 (n + 1)) (n + 1)) → Exc b w W → W.heap.size = w.heap.size → wpList Tryz.prog ops Q rest (a.put o.dst undef) W) : wpList Tryz.prog ops Q (o :: rest) a w := by
  have hrun := run_ins3 b n hn w hB
  have hx' := exc_set w b (.map (es3.extract 0 (n + 1)) (n + 1)) (lt_of_some hB)
  have hnew := h { w with heap := w.heap.setIfInBounds b (.map (es3.extract 0 (n + 1)) (n + 1)) } (by simp only [Array.getElem?_setIfInBounds, if_pos (lt_of_some hB)]; simp) hx' (by simp)
  refine wpList_plain hgd fun _ hKK => ?_
  unfold Oper.wp execOp
  simp only [ho, hm, hk, hx, Sem.run_bind, Sem.run_pure, Result.andThen_ok, hrun]
  exact hKK _ _ hnew
theorem run_range3 (m : Nat) (w : World) (h : w.heap[m]? = some (.map es3 3)) : (Instr.range 100 (.map (some m))).run Tryz.prog w = .ok (.pointer (some ⟨w.heap.size, 0, none⟩)) (w.alloc (.mapIter (some m) 3 [].toArray 3)) := by
  have hu : Tryz.prog.underlying 100 = some (.map 3 9) := Tryz.underlying100
  simp [Instr.range, run_underlying hu, MapKept.run_getObj_map h, Result.andThen, newObj, Sem.run]
def word3 : Nat → ByteArray
  | 0 => wSync
  | 1 => wFlush
  | _ => wCompact
def kind3 : Nat → Int
  | 0 => 2
  | 1 => 3
  | _ => 4
theorem ent3_key (k : Nat) : (ent3 k).key = .int .i64 (kind3 k) := by
  match k with
  | 0 => rfl
  | 1 => rfl
  | _ + 2 => rfl
theorem ent3_val (k : Nat) : (ent3 k).val = .string (word3 k) := by
  match k with
  | 0 => rfl
  | 1 => rfl
  | _ + 2 => rfl
theorem head3 {k : Nat} (hk : k < 3) : headOf (word3 k) = some (.one (kind3 k)) := by
  match k, hk with
  | 0, _ => rfl
  | 1, _ => rfl
  | 2, _ => rfl
theorem word3_new {k : Nat} (hk : k < 3) {seen : List Nat} (h3 : ∀ j ∈ seen, j < 3) (hn : k ∉ seen) : notIn (word3 k) (keys9 ++ seen.map word3) = true := by
  unfold notIn
  rw [List.all_eq_true]
  intro s hs
  have hne : ∀ j, j < 3 → j ≠ k → ¬ word3 k = word3 j := by
    intro j hj hjk
    match k, hk, j, hj with
    | 0, _, 0, _ => exact absurd rfl hjk
    | 0, _, 1, _ => intro e; cases e
    | 0, _, 2, _ => intro e; cases e
    | 1, _, 0, _ => intro e; cases e
    | 1, _, 1, _ => exact absurd rfl hjk
    | 1, _, 2, _ => intro e; cases e
    | 2, _, 0, _ => intro e; cases e
    | 2, _, 1, _ => intro e; cases e
    | 2, _, 2, _ => exact absurd rfl hjk
  rcases List.mem_append.1 hs with h1 | h1
  · have : notIn (word3 k) keys9 = true := by
      match k, hk with
      | 0, _ => rfl
      | 1, _ => rfl
      | 2, _ => rfl
    exact List.all_eq_true.1 this s h1
  · obtain ⟨j, hj, rfl⟩ := List.mem_map.1 h1
    have := hne j (h3 j hj) (fun e => hn (by rw [← e]; exact hj))
    simp [this]
def leftN (seen : List Nat) : Nat := (if 0 ∈ seen then 0 else 1) + (if 1 ∈ seen then 0 else 1) + (if 2 ∈ seen then 0 else 1)
def seenSz (r : Nat) (w : World) : Nat := match w.heap[r]? with | some (.mapIter _ _ s _) => leftN s.toList | _ => 0
theorem left_less {seen : List Nat} {k : Nat} (hk : k < 3) (hn : k ∉ seen) : leftN (seen ++ [k]) < leftN seen := by
  unfold leftN
  have h3 : k = 0 ∨ k = 1 ∨ k = 2 := by omega
  rcases h3 with rfl | rfl | rfl <;> simp [hn] <;> (repeat' split) <;> omega
theorem wpList_next3 {ops : Array Oper} {rest : List Oper} {o : Oper} {a : Act} {w : World} {Q : Exit → Act → World → Prop} (hgd : o.guard = none) (x : Operand) (ho : o.op = .next x false)
    (m r : Nat) (seen : List Nat) (hx : a.eval x = .pointer (some ⟨r, 0, none⟩)) (h1 : w.heap[m]? = some (.map es3 3)) (h2 : w.heap[r]? = some (.mapIter (some m) 3 seen.toArray 3)) (hmr : m ≠ r)
    (hend : 0 ∈ seen → 1 ∈ seen → 2 ∈ seen → ∀ W, Below w.heap.size w W → wpList Tryz.prog ops Q rest (a.put o.dst (.tuple #[.bool false])) W)
    (hnx : ∀ k W, k < 3 → k ∉ seen → Exc r w W → W.heap.size = w.heap.size → W.heap[m]? = some (.map es3 3) → W.heap[r]? = some (.mapIter (some m) 3 (seen ++ [k]).toArray 3) → wpList Tryz.prog ops Q rest (a.put o.dst (.tuple #[.bool true, (ent3 k).key, (ent3 k).val])) W) :
    wpList Tryz.prog ops Q (o :: rest) a w := by
  obtain ⟨w', ⟨hh, ho1, ht, hou⟩, hc⟩ := run_next3 m r seen w h1 h2 o.type
  refine wpList_plain hgd fun _ hKK => ?_
  unfold Oper.wp execOp
  simp only [ho, hx, Sem.run_bind, Sem.run_pure, Result.andThen_ok]
  rcases hc with ⟨a0, a1, a2, hrun⟩ | ⟨k, hk, hn, hrun⟩
  · rw [hrun]
    exact hKK _ _ (hend a0 a1 a2 w' ⟨ho1, ht, hou, Nat.le_of_eq (by rw [hh]), fun q _ => by rw [hh]⟩)
  · rw [hrun]
    have hlt := lt_of_some h2
    have hx0 := exc_set w' r (.mapIter (some m) 3 (seen ++ [k]).toArray 3) (by rw [hh]; exact hlt)
    refine hKK _ _ (hnx k _ hk hn ?_ (by simp [hh]) ?_ ?_)
    · refine ⟨Nat.le_of_lt hlt, ⟨hx0.low.os.trans ho1, hx0.low.tape.trans ht, hx0.low.output.trans hou, by simp [hh], fun q hq => ?_⟩, by simp [hh], fun q hq hne => ?_⟩
      · simp only [Array.getElem?_setIfInBounds]; rw [if_neg (by omega), hh]
      · simp only [Array.getElem?_setIfInBounds]; rw [if_neg (fun e => hne e.symm), hh]
    · simp only [Array.getElem?_setIfInBounds]; rw [if_neg (fun e => hmr e.symm), hh]; exact h1
    · simp only [Array.getElem?_setIfInBounds]; rw [if_pos trivial, if_pos (by rw [hh]; exact hlt)]
theorem wpList_entry3 {ops : Array Oper} {rest : List Oper} {o : Oper} {a : Act} {w : World} {Q : Exit → Act → World → Prop} (hgd : o.guard = none) (x : Operand) (ho : o.op = .entry x)
    (m r : Nat) (seen : List Nat) (k : Nat) (hk : k < 3) (hx : a.eval x = .pointer (some ⟨r, 0, none⟩)) (h1 : w.heap[m]? = some (.map es3 3)) (h2 : w.heap[r]? = some (.mapIter (some m) 3 (seen ++ [k]).toArray 3))
    (h : wpList Tryz.prog ops Q rest (a.put o.dst (.tuple #[(ent3 k).key, (ent3 k).val])) w) : wpList Tryz.prog ops Q (o :: rest) a w := by
  have hrun : (Instr.entry (.pointer (some ⟨r, 0, none⟩))).run Tryz.prog w = .ok (.tuple #[(ent3 k).key, (ent3 k).val]) w := by
    have hb : (seen ++ [k]).toArray.back? = some k := by simp
    have hf : es3.find? (·.born == k) = some (ent3 k) := by
      match k, hk with
      | 0, _ => rfl
      | 1, _ => rfl
      | 2, _ => rfl
    simp only [Instr.entry, getObj, Sem.run_bind, Sem.run, h2, h1, Result.andThen, hb, bne_self_eq_false, Bool.false_eq_true, if_false, hf]
    rfl
  refine wpList_plain hgd fun _ hKK => ?_
  unfold Oper.wp execOp
  simp only [ho, hx, Sem.run_bind, Sem.run_pure, Result.andThen_ok, hrun]
  exact hKK _ _ h
end Go.Proofs.YtbiedfkmmcaplaaGreatDoor

namespace Go.Proofs.YtbiedfkmmcaplaaGreatDoor
open Go.RowKit
attribute [local go_sem] Oper.semAt_some

def spans : List ByteArray := [wCount, wLeast, wMost, wSum, wMean, wScan]
def spanK : Nat → List ByteArray
  | 0 => []
  | 1 => []
  | 2 => [wCount]
  | 3 => [wCount, wLeast]
  | 4 => [wCount, wLeast, wMost]
  | 5 => [wCount, wLeast, wMost, wSum]
  | 6 => [wCount, wLeast, wMost, wSum, wMean]
  | 7 => [wCount, wLeast, wMost, wSum, wMean]
  | _ => [wCount, wLeast, wMost, wSum, wMean, wScan]
theorem span_ne : ∀ t ∈ spans, ∀ j, j < 3 → ¬ t = word3 j := by
  have h : spans.all (fun t => !decide (t = wSync) && !decide (t = wFlush) && !decide (t = wCompact)) = true := by rfl
  intro t ht j hj e
  have := List.all_eq_true.1 h t ht
  simp only [Bool.and_eq_true, Bool.not_eq_true', decide_eq_false_iff_not] at this
  match j, hj with
  | 0, _ => exact this.1.1 e
  | 1, _ => exact this.1.2 e
  | 2, _ => exact this.2 e
theorem span_9 : ∀ t ∈ spans, notIn t keys9 = true := by
  have h : spans.all (fun t => notIn t keys9) = true := by rfl
  exact fun t ht => List.all_eq_true.1 h t ht
theorem all_keys {seen : List Nat} (a0 : 0 ∈ seen) (a1 : 1 ∈ seen) (a2 : 2 ∈ seen) {t : ByteArray} {h : Head} (e : headOf t = some h) : t ∈ (keys9 ++ seen.map word3) ++ spanK 9 := by
  have hm := headL_mem e
  have hs : heads.map (·.1) = keys9 ++ ([wSync, wFlush, wCompact] ++ spanK 9) := rfl
  rw [hs] at hm
  rcases List.mem_append.1 hm with h1 | h1
  · exact List.mem_append_left _ (List.mem_append_left _ h1)
  · rcases List.mem_append.1 h1 with h2 | h2
    · refine List.mem_append_left _ (List.mem_append_right _ ?_)
      simp only [List.mem_cons, List.not_mem_nil, or_false] at h2
      rcases h2 with rfl | rfl | rfl
      · exact List.mem_map.2 ⟨0, a0, rfl⟩
      · exact List.mem_map.2 ⟨1, a1, rfl⟩
      · exact List.mem_map.2 ⟨2, a2, rfl⟩
    · exact List.mem_append_right _ h2
set_option maxRecDepth 100000 in
theorem run_whatIdx (k : Nat) (hk : k < 9) (w : World) : (Instr.index 102 (.agg (strV whatL).toArray) (.int .i64 (k : Int))).run Tryz.prog w = .ok (.string (whatL.getD k ⟨#[]⟩)) w := by
  have h9 : k = 0 ∨ k = 1 ∨ k = 2 ∨ k = 3 ∨ k = 4 ∨ k = 5 ∨ k = 6 ∨ k = 7 ∨ k = 8 := by omega
  rcases h9 with rfl | rfl | rfl | rfl | rfl | rfl | rfl | rfl | rfl <;> rfl
theorem notIn_app {t : ByteArray} {a b : List ByteArray} (h1 : notIn t a = true) (h2 : notIn t b = true) : notIn t (a ++ b) = true := by
  unfold notIn at *
  rw [List.all_append, h1, h2]
  rfl
theorem getL_mem {s : ByteArray} {v : Value} : ∀ {l : List (ByteArray × Value)}, getL s l = some v → (s, v) ∈ l
  | [], e => by cases e
  | (t, u) :: l, e => by
    simp only [getL] at e
    by_cases h : s = t
    · rw [if_pos h] at e
      injection e with e
      subst h; subst e
      exact List.mem_cons_self
    · rw [if_neg h] at e
      exact List.mem_cons_of_mem _ (getL_mem e)
theorem getL_has {s : ByteArray} : ∀ {l : List (ByteArray × Value)}, s ∈ l.map (·.1) → ∃ v, getL s l = some v
  | [], e => by cases e
  | (t, u) :: l, e => by
    simp only [getL]
    by_cases h : s = t
    · exact ⟨u, by rw [if_pos h]⟩
    · simp only [List.map_cons, List.mem_cons] at e
      rw [if_neg h]
      exact getL_has (e.resolve_left h)
set_option maxRecDepth 100000 in
set_option maxHeartbeats 4000000 in
theorem con_begins (g : Nat) (w : World) : Calls Tryz.prog 22 #[.pointer (some ⟨g, 0, none⟩)] w fun e w' => ∃ b l, e = .returned (.map (some b)) ∧ Below w.heap.size w w' ∧ MapL w' b l ∧ (∀ s v, getL s l = some v → FnAt g w' s v) ∧ (∀ s h, headOf s = some h → ∃ v, getL s l = some v) := by
  have hmf : ∀ (fn : Fn) (first cap : Array Value) (w : World), (Instr.makeFunc fn first cap).run Tryz.prog w = .ok (.func fn first cap) w := fun _ _ _ _ => rfl
  have hmm : ∀ w1 : World, (Instr.makeMap 65 none).run Tryz.prog w1 = .ok (.map (some w1.heap.size)) (w1.alloc (.map #[] 0)) := fun _ => rfl
  have hB := Beg.start g w
  have hK : ([] : List (ByteArray × Value)).map (·.1) = [] := rfl
  obtain ⟨l, hl⟩ : ∃ l : List (ByteArray × Value), l = [] := ⟨_, rfl⟩
  rw [← hl] at hB hK
  clear hl
  obtain ⟨z1, z2, z3⟩ := rcell hB.hp
  go_enter Tryz.func22, Tryz.ntmps22
  go_wp2_with (refine wpList_begPut rfl _ _ _ (.inr rfl) g w.heap.size (w.heap.size + 1) w l _ _ _ rfl rfl rfl hB hK (by rfl) ⟨_, rfl, rfl⟩ ?_; clear hB hK z1 z2 z3 l; intro W l hB hK hX hS; obtain ⟨z1, z2, z3⟩ := rcell hB.hp; clear hX hS)
  have hm2 : (Instr.makeMap 100 none).run Tryz.prog W = .ok (.map (some W.heap.size)) (W.alloc (.map #[] 0)) := rfl
  have hM : (W.alloc (.map #[] 0)).heap[W.heap.size]? = some (.map (es3.extract 0 0) 0) := al_new W (.map #[] 0) _ rfl
  have hbm : w.heap.size + 1 < W.heap.size := lt_of_some hB.mp
  replace hB := hB.below (bA (b0 W) (.map #[] 0))
  rw [hm2]
  generalize W.heap.size = m at *
  generalize W.alloc (.map #[] 0) = W1 at *
  clear hm2 z1 z2 z3
  go_wp2_with (refine wpList_ins3 rfl m _ hM _ _ _ rfl rfl rfl rfl (by decide) ?_; intro W1 hM2 hX hS; replace hB := hB.turnO hX (by omega) hM rfl (by omega); replace hM := hM2; clear hM2 hX hS)
  rw [run_range3 m W1 hM]
  have hR := al_new W1 (.mapIter (some m) 3 [].toArray 3) _ rfl
  have hmr : m < W1.heap.size := lt_of_some hM
  replace hM : (W1.alloc (.mapIter (some m) 3 [].toArray 3)).heap[m]? = some (.map es3 3) := ((bA (b0 W1) _).block m hmr).trans hM
  replace hB := hB.below (bA (b0 W1) (.mapIter (some m) 3 [].toArray 3))
  replace hK : l.map (·.1) = keys9 ++ [].map word3 := hK
  generalize W1.heap.size = r at *
  generalize W1.alloc (.mapIter (some m) 3 [].toArray 3) = W2 at *
  have HI := hide (show Beg g w.heap.size (w.heap.size + 1) w W2 l ∧ W2.heap[m]? = some (.map es3 3) ∧ W2.heap[r]? = some (.mapIter (some m) 3 [].toArray 3) ∧ l.map (·.1) = keys9 ++ [].map word3 from ⟨hB, hM, hR, hK⟩)
  clear hB hM hR hK
  go_wp2_with fail
  go_loopw [] (fun wr => ∃ (seen : List Nat) (l : List (ByteArray × Value)), Hid (Beg g w.heap.size (w.heap.size + 1) w wr l ∧ wr.heap[m]? = some (.map es3 3) ∧ wr.heap[r]? = some (.mapIter (some m) 3 seen.toArray 3) ∧ l.map (·.1) = keys9 ++ seen.map word3) ∧ (∀ j ∈ seen, j < 3)) (fun wr => seenSz r wr)
  case atStart => exact ⟨[], l, HI, by simp⟩
  case round =>
    clear HI l
    obtain ⟨seen, l, HI, h3⟩ := hrel
    obtain ⟨hB, hM, hR, hK⟩ := HI.out
    have HZ := hide (show seenSz r wr = leftN seen by unfold seenSz; rw [hR])
    have hB0 : ∀ W3, Exc r wr W3 → Beg g w.heap.size (w.heap.size + 1) w W3 l := fun W3 hX => hB.turnO hX (by omega) hR rfl (by omega)
    go_wp2_with (first
      | (refine wpList_next3 rfl _ rfl m r seen rfl hM hR (by omega) ?_ ?_; (intro a0 a1 a2 W3 hb3); rotate_right; (intro k W3 hk hn hX hS hM3 hR3; have hB3 := hB0 W3 hX; clear hB hM hR HI hB0 hX hS))
      | (refine wpList_entry3 rfl _ rfl m r seen k hk rfl hM3 hR3 ?_; simp only [ent3_key, ent3_val])
      | (refine wpList_begPut rfl _ _ _ (.inl rfl) g w.heap.size (w.heap.size + 1) w l _ _ _ rfl rfl rfl (hB3.below (bA (b0 W3) _)) hK (word3_new hk h3 hn) ⟨.one (kind3 k), head3 hk, W3.heap.size, rfl, na W3 _ 3⟩ ?_; intro W5 l5 hB5 hK5 hX5 hS5))
    · have hM4 : (W3.alloc (.cells #[.int .i64 (kind3 k)] 3)).heap[m]? = some (.map es3 3) := ((bA (b0 W3) _).block m (lt_of_some hM3)).trans hM3
      have hR4 : (W3.alloc (.cells #[.int .i64 (kind3 k)] 3)).heap[r]? = some (.mapIter (some m) 3 (seen ++ [k]).toArray 3) := ((bA (b0 W3) _).block r (lt_of_some hR3)).trans hR3
      have hM5 := (hX5.other m (lt_of_some hM4) (by omega)).trans hM4
      have hR5 := (hX5.other r (lt_of_some hR4) (by omega)).trans hR4
      have HJ := hide (show Beg g w.heap.size (w.heap.size + 1) w W5 l5 ∧ W5.heap[m]? = some (.map es3 3) ∧ W5.heap[r]? = some (.mapIter (some m) 3 (seen ++ [k]).toArray 3) ∧ l5.map (·.1) = keys9 ++ (seen ++ [k]).map word3 from ⟨hB5, hM5, hR5, by rw [hK5]; simp⟩)
      have hms : seenSz r W5 < seenSz r wr := by
        rw [HZ.out]
        unfold seenSz
        rw [hR5]
        exact left_less hk hn
      clear hM4 hR4 hM5 hR5 hB5 hK5 hX5 hS5
      exact ⟨⟨_, _, _, _, _, _, _, _, _, _, ⟨seen ++ [k], l5, HJ, fun j hj => (List.mem_append.1 hj).elim (h3 j) fun h => by simp at h; omega⟩, rfl⟩, hms⟩
    · replace hB := hB.below hb3
      replace hB := hB
      have hn3 : ∀ t, (∀ j, j < 3 → ¬ t = word3 j) → notIn t keys9 = true → notIn t (keys9 ++ seen.map word3) = true := fun t h1 h2 => by
        unfold notIn at h2 ⊢
        rw [List.all_append, h2, Bool.true_and, List.all_eq_true]
        intro x hx
        obtain ⟨j, hj, rfl⟩ := List.mem_map.1 hx
        simp [h1 j (h3 j hj)]
      have hN : ∀ t ∈ spans, notIn t (keys9 ++ seen.map word3) = true := fun t ht => hn3 t (span_ne t ht) (span_9 t ht)
      have hall : ∀ t h, headOf t = some h → t ∈ (keys9 ++ seen.map word3) ++ spanK 9 := fun t h e => all_keys a0 a1 a2 e
      generalize keys9 ++ seen.map word3 = K0 at *
      refine (con_whats _).mono ?_
      rintro e W6 ⟨rfl, hb6⟩
      replace hB := hB.below hb6
      have HJ := hide (show Beg g w.heap.size (w.heap.size + 1) w W6 l ∧ l.map (·.1) = K0 ++ spanK 0 from ⟨hB, by rw [hK]; exact (List.append_nil _).symm⟩)
      have hix := run_whatIdx
      have HN := hide hN
      have HA := hide hall
      generalize (strV whatL).toArray = Y at *
      clear hB hK hM hR HI HZ hB0 hb3 hb6 a0 a1 a2 h3 hn3 hN hall
      go_wp2_with fail
      go_loopw [40] (fun v wr => ∃ (k : Nat) (l : List (ByteArray × Value)), v = .int .i64 (k : Int) ∧ k ≤ 9 ∧ Hid (Beg g w.heap.size (w.heap.size + 1) w wr l ∧ l.map (·.1) = K0 ++ spanK k)) (fun v wr => 9 - (intOf v).toNat)
      case atStart => exact ⟨0, l, rfl, by omega, HJ⟩
      case round =>
        clear HJ l
        obtain ⟨k, l, rfl, hk, HI⟩ := hrel
        obtain ⟨hB, hK⟩ := HI.out
        have hN := HN.out
        obtain ⟨z1, z2, z3⟩ := rcell hB.hp
        have h9 : k = 0 ∨ k = 1 ∨ k = 2 ∨ k = 3 ∨ k = 4 ∨ k = 5 ∨ k = 6 ∨ k = 7 ∨ k = 8 ∨ k = 9 := by omega
        rcases h9 with rfl | rfl | rfl | rfl | rfl | rfl | rfl | rfl | rfl | rfl
        · have hi : ∀ w, (Instr.index 102 (.agg Y) (.int .i64 0)).run Tryz.prog w = .ok (.string ⟨#[]⟩) w := fun w => hix 0 (by omega) w
          go_wp2_with fail
          have HJ := hide (show Beg g w.heap.size (w.heap.size + 1) w _ l ∧ l.map (·.1) = K0 ++ spanK 1 from ⟨hB.below (bA (b0 wr) (.cells #[.int .i64 0] 3)), hK⟩)
          exact ⟨⟨1, l, rfl, by omega, HJ⟩, by decide⟩
        · have hi : ∀ w, (Instr.index 102 (.agg Y) (.int .i64 1)).run Tryz.prog w = .ok (.string wCount) w := fun w => hix 1 (by omega) w
          go_wp2_with (refine wpList_begPut rfl _ _ _ (.inl rfl) g w.heap.size (w.heap.size + 1) w l _ wCount _ rfl rfl rfl (hB.below (bA (b0 wr) _)) hK (notIn_app (hN wCount (by simp [spans])) rfl) ⟨.span 1, rfl, w.heap.size, wr.heap.size, rfl, kp (bA (b0 wr) (.cells #[.int .i64 1] 3)) hB.hp, na wr _ 3⟩ ?_; intro W5 l5 hB5 hK5 hX5 hS5)
          have HJ := hide (show Beg g w.heap.size (w.heap.size + 1) w W5 l5 ∧ l5.map (·.1) = K0 ++ spanK 2 from ⟨hB5, by rw [hK5, List.append_assoc]; rfl⟩)
          exact ⟨⟨2, l5, rfl, by omega, HJ⟩, by decide⟩
        · have hi : ∀ w, (Instr.index 102 (.agg Y) (.int .i64 2)).run Tryz.prog w = .ok (.string wLeast) w := fun w => hix 2 (by omega) w
          go_wp2_with (refine wpList_begPut rfl _ _ _ (.inl rfl) g w.heap.size (w.heap.size + 1) w l _ wLeast _ rfl rfl rfl (hB.below (bA (b0 wr) _)) hK (notIn_app (hN wLeast (by simp [spans])) rfl) ⟨.span 2, rfl, w.heap.size, wr.heap.size, rfl, kp (bA (b0 wr) (.cells #[.int .i64 2] 3)) hB.hp, na wr _ 3⟩ ?_; intro W5 l5 hB5 hK5 hX5 hS5)
          have HJ := hide (show Beg g w.heap.size (w.heap.size + 1) w W5 l5 ∧ l5.map (·.1) = K0 ++ spanK 3 from ⟨hB5, by rw [hK5, List.append_assoc]; rfl⟩)
          exact ⟨⟨3, l5, rfl, by omega, HJ⟩, by decide⟩
        · have hi : ∀ w, (Instr.index 102 (.agg Y) (.int .i64 3)).run Tryz.prog w = .ok (.string wMost) w := fun w => hix 3 (by omega) w
          go_wp2_with (refine wpList_begPut rfl _ _ _ (.inl rfl) g w.heap.size (w.heap.size + 1) w l _ wMost _ rfl rfl rfl (hB.below (bA (b0 wr) _)) hK (notIn_app (hN wMost (by simp [spans])) rfl) ⟨.span 3, rfl, w.heap.size, wr.heap.size, rfl, kp (bA (b0 wr) (.cells #[.int .i64 3] 3)) hB.hp, na wr _ 3⟩ ?_; intro W5 l5 hB5 hK5 hX5 hS5)
          have HJ := hide (show Beg g w.heap.size (w.heap.size + 1) w W5 l5 ∧ l5.map (·.1) = K0 ++ spanK 4 from ⟨hB5, by rw [hK5, List.append_assoc]; rfl⟩)
          exact ⟨⟨4, l5, rfl, by omega, HJ⟩, by decide⟩
        · have hi : ∀ w, (Instr.index 102 (.agg Y) (.int .i64 4)).run Tryz.prog w = .ok (.string wSum) w := fun w => hix 4 (by omega) w
          go_wp2_with (refine wpList_begPut rfl _ _ _ (.inl rfl) g w.heap.size (w.heap.size + 1) w l _ wSum _ rfl rfl rfl (hB.below (bA (b0 wr) _)) hK (notIn_app (hN wSum (by simp [spans])) rfl) ⟨.span 4, rfl, w.heap.size, wr.heap.size, rfl, kp (bA (b0 wr) (.cells #[.int .i64 4] 3)) hB.hp, na wr _ 3⟩ ?_; intro W5 l5 hB5 hK5 hX5 hS5)
          have HJ := hide (show Beg g w.heap.size (w.heap.size + 1) w W5 l5 ∧ l5.map (·.1) = K0 ++ spanK 5 from ⟨hB5, by rw [hK5, List.append_assoc]; rfl⟩)
          exact ⟨⟨5, l5, rfl, by omega, HJ⟩, by decide⟩
        · have hi : ∀ w, (Instr.index 102 (.agg Y) (.int .i64 5)).run Tryz.prog w = .ok (.string wMean) w := fun w => hix 5 (by omega) w
          go_wp2_with (refine wpList_begPut rfl _ _ _ (.inl rfl) g w.heap.size (w.heap.size + 1) w l _ wMean _ rfl rfl rfl (hB.below (bA (b0 wr) _)) hK (notIn_app (hN wMean (by simp [spans])) rfl) ⟨.span 5, rfl, w.heap.size, wr.heap.size, rfl, kp (bA (b0 wr) (.cells #[.int .i64 5] 3)) hB.hp, na wr _ 3⟩ ?_; intro W5 l5 hB5 hK5 hX5 hS5)
          have HJ := hide (show Beg g w.heap.size (w.heap.size + 1) w W5 l5 ∧ l5.map (·.1) = K0 ++ spanK 6 from ⟨hB5, by rw [hK5, List.append_assoc]; rfl⟩)
          exact ⟨⟨6, l5, rfl, by omega, HJ⟩, by decide⟩
        · have hi : ∀ w, (Instr.index 102 (.agg Y) (.int .i64 6)).run Tryz.prog w = .ok (.string wAt) w := fun w => hix 6 (by omega) w
          go_wp2_with fail
          have HJ := hide (show Beg g w.heap.size (w.heap.size + 1) w _ l ∧ l.map (·.1) = K0 ++ spanK 7 from ⟨hB.below (bA (b0 wr) (.cells #[.int .i64 6] 3)), hK⟩)
          exact ⟨⟨7, l, rfl, by omega, HJ⟩, by decide⟩
        · have hi : ∀ w, (Instr.index 102 (.agg Y) (.int .i64 7)).run Tryz.prog w = .ok (.string wScan) w := fun w => hix 7 (by omega) w
          go_wp2_with (refine wpList_begPut rfl _ _ _ (.inl rfl) g w.heap.size (w.heap.size + 1) w l _ wScan _ rfl rfl rfl (hB.below (bA (b0 wr) _)) hK (notIn_app (hN wScan (by simp [spans])) rfl) ⟨.span 7, rfl, w.heap.size, wr.heap.size, rfl, kp (bA (b0 wr) (.cells #[.int .i64 7] 3)) hB.hp, na wr _ 3⟩ ?_; intro W5 l5 hB5 hK5 hX5 hS5)
          have HJ := hide (show Beg g w.heap.size (w.heap.size + 1) w W5 l5 ∧ l5.map (·.1) = K0 ++ spanK 8 from ⟨hB5, by rw [hK5, List.append_assoc]; rfl⟩)
          exact ⟨⟨8, l5, rfl, by omega, HJ⟩, by decide⟩
        · have hi : ∀ w, (Instr.index 102 (.agg Y) (.int .i64 8)).run Tryz.prog w = .ok (.string wBuckets) w := fun w => hix 8 (by omega) w
          go_wp2_with fail
          have HJ := hide (show Beg g w.heap.size (w.heap.size + 1) w _ l ∧ l.map (·.1) = K0 ++ spanK 9 from ⟨hB.below (bA (b0 wr) (.cells #[.int .i64 8] 3)), hK⟩)
          exact ⟨⟨9, l, rfl, by omega, HJ⟩, by decide⟩
        · go_wp2_with fail
          go_ret
          have hA := HA.out
          exact ⟨_, l, rfl, hB.bl, hB.mp, fun s v hv => hB.gd s v (getL_mem hv), fun s h e => getL_has (by rw [hK]; exact hA s h e)⟩
end Go.Proofs.YtbiedfkmmcaplaaGreatDoor

namespace Go.Proofs.YtbiedfkmmcaplaaGreatDoor
open Go.RowKit
attribute [local go_sem] Oper.semAt_some

def wordsOf (s : ByteArray) : List ByteArray := Lib.splitB ⟨#[32]⟩ 0 (Lib.countB s ⟨#[32]⟩) s
theorem words_len (s : ByteArray) : (wordsOf s).length = Lib.countB s ⟨#[32]⟩ + 1 := Lib.splitB_all _ (by decide) 0 _ s rfl
theorem extract_size (s : ByteArray) (a b : Nat) : (s.extract a b).size ≤ s.size := by
  have : (s.extract a b).size = min b s.size - a := ByteArray.size_extract
  omega
theorem split_sz (sep : ByteArray) : ∀ (k : Nat) (s : ByteArray), ∀ x ∈ Lib.splitB sep 0 k s, x.size ≤ s.size
  | 0, s, x, h => by simp only [Lib.splitB, List.mem_singleton] at h; subst h; exact Nat.le_refl _
  | k + 1, s, x, h => by
    unfold Lib.splitB at h
    split at h
    · simp only [List.mem_singleton] at h; subst h; exact Nat.le_refl _
    · rcases List.mem_cons.1 h with rfl | h
      · exact extract_size _ _ _
      · exact Nat.le_trans (split_sz sep k _ x h) (extract_size _ _ _)
theorem words_sz (s : ByteArray) : ∀ x ∈ wordsOf s, x.size ≤ s.size := split_sz _ _ s

def pHead : Head → List ByteArray → Option (Cm × List ByteArray)
  | .fn n => fun l => if n = 36 then pCreate l else if n = 37 then pDrop l else if n = 38 then pAppend l else if n = 39 then pRetain l else if n = 40 then pReading l else if n = 41 then pAt l else if n = 42 then pBuckets l else if n = 43 then pPower l else if n = 44 then pCrash l else none
  | .one k => fun l => some ({ ok := k }, l)
  | .span k => pSpan k
theorem head_in {s : ByteArray} {h : Head} : ∀ {l : List (ByteArray × Head)}, headL s l = some h → h ∈ l.map (·.2)
  | [], e => by cases e
  | (t, u) :: l, e => by
    simp only [headL] at e
    by_cases hs : s = t
    · rw [if_pos hs] at e
      injection e with e
      subst e
      simp
    · rw [if_neg hs] at e
      simp only [List.map_cons]
      exact List.mem_cons_of_mem _ (head_in e)
theorem r_fn {s : ByteArray} {n : Nat} (hs : headOf s = some (.fn n)) (g : Nat) (ws : List ByteArray) (w : World) (h : Wd g ws w) : Calls Tryz.prog n #[.pointer (some ⟨g, 0, none⟩)] w (RPm g (pHead (.fn n) ws) w) := by
  have hm := head_in hs
  simp only [heads, List.map_cons, List.map_nil, List.mem_cons, List.not_mem_nil, or_false, Head.fn.injEq, reduceCtorEq, or_self] at hm
  rcases hm with rfl | rfl | rfl | rfl | rfl | rfl | rfl | rfl | rfl
  · exact r_create g ws w h
  · exact r_drop g ws w h
  · exact r_append g ws w h
  · exact r_retain g ws w h
  · exact r_reading g ws w h
  · exact r_at g ws w h
  · exact r_buckets g ws w h
  · exact r_power g ws w h
  · exact r_crash g ws w h

theorem call_fn {s : ByteArray} {n : Nat} (hs : headOf s = some (.fn n)) (args : Array Value) (w : World) : (callFunc n args).run Tryz.prog w = .ok (.enter n args) w := by
  have hm := head_in hs
  simp only [heads, List.map_cons, List.map_nil, List.mem_cons, List.not_mem_nil, or_false, Head.fn.injEq, reduceCtorEq, or_self] at hm
  rcases hm with rfl | rfl | rfl | rfl | rfl | rfl | rfl | rfl | rfl
  · exact Tryz.call36 args w
  · exact Tryz.call37 args w
  · exact Tryz.call38 args w
  · exact Tryz.call39 args w
  · exact Tryz.call40 args w
  · exact Tryz.call41 args w
  · exact Tryz.call42 args w
  · exact Tryz.call43 args w
  · exact Tryz.call44 args w
def pWords (ws : List ByteArray) : Option Cm :=
  match ws with
  | [] => none
  | s :: l => match headOf s with
    | none => none
    | some h => match pHead h l with
      | none => none
      | some (c, l') => if l' = [] then some c else none
def pLine (s : ByteArray) : Option Cm :=
  if plainB s.data.toList then (if 0 ≤ idxFrom (wordsOf s) ⟨#[]⟩ 0 then none else pWords (wordsOf s)) else none
def RPl (r : Option Cm) (w : World) (e : Ending) (w' : World) : Prop :=
  match r with
  | some c => ∃ v, e = .returned v ∧ CmdIs w.heap.size w' v c ∧ Below w.heap.size w w'
  | none => e = .panicked [pn 410] ∧ Below w.heap.size w w'

theorem wpList_mapGet {ops : Array Oper} {rest : List Oper} {o : Oper} {a : Act} {w : World} {Q : Exit → Act → World → Prop} (hgd : o.guard = none) (b : Nat) (l : List (ByteArray × Value)) (hB : MapL w b l) (m k : Operand) (ho : o.op = .lookup 65 m k true)
    (s : ByteArray) (hm : a.eval m = .map (some b)) (hk : a.eval k = .string s) (v : Value) (ok : Bool) (hv : getL s l = if ok then some v else none) (hz : ok = false → v = .nilFunc)
    (h : wpList Tryz.prog ops Q rest (a.put o.dst (.tuple #[v, .bool ok])) w) : wpList Tryz.prog ops Q (o :: rest) a w := by
  have hrun := run_mapGet (P := Tryz.prog) 65 9 63 b l s w Tryz.underlying65 Tryz.underlying9 .nilFunc (by kernel_rfl) hB
  refine wpList_plain hgd fun _ hKK => ?_
  unfold Oper.wp execOp
  simp only [ho, hm, hk, Sem.run_bind, Sem.run_pure, Result.andThen_ok, hrun, hv]
  cases ok with
  | true => exact hKK _ _ h
  | false => rw [hz rfl] at h; exact hKK _ _ h
end Go.Proofs.YtbiedfkmmcaplaaGreatDoor

namespace Go.Proofs.YtbiedfkmmcaplaaGreatDoor
open Go.RowKit
attribute [local go_sem] Oper.semAt_some

theorem con_split (s : ByteArray) (hs : s.size ≤ 10000) (w : World) (hL : Laid w) : Calls Tryz.prog 20 #[.string s, .string ⟨#[32]⟩] w fun e w' =>
    e = .returned (.slice (some ⟨w.heap.size, 0, none⟩) (wordsOf s).length (wordsOf s).length) ∧ w' = w.alloc (.cells (strV (wordsOf s)).toArray 9) := by
  obtain ⟨m, hm⟩ := hL.mx
  rw [words_len]
  exact Tryz.strings_Split s ⟨#[32]⟩ m w (by omega) hm (by decide)
theorem FnIs.exc {g g' : Nat} {w w' : World} {v : Value} {h : Head} {X : Array Value} {t : TypeId} (hf : FnIs g w v h) (hx : Exc g' w w') (hg : w.heap[g']? = some (.cells X t (0, 0))) (h1 : t ≠ 3) (h2 : t ≠ 58) : FnIs g w' v h := by
  have hk : ∀ (q : Nat) (cs : Array Value) (u : TypeId), u = 3 ∨ u = 58 → w.heap[q]? = some (Obj.cells cs u (0, 0)) → w'.heap[q]? = some (Obj.cells cs u (0, 0)) := fun q cs u hu hq => by
    have hne : q ≠ g' := by
      rintro rfl
      rw [hg] at hq
      injection hq with hq
      injection hq with _ h3 _
      rcases hu with rfl | rfl
      · exact h1 h3
      · exact h2 h3
    rw [hx.other q (lt_of_some hq) hne]
    exact hq
  cases h with
  | fn n => exact hf
  | one k =>
    obtain ⟨q, h3, h4⟩ := hf
    exact ⟨q, h3, hk _ _ _ (.inl rfl) h4⟩
  | span k =>
    obtain ⟨p, q, h3, h4, h5⟩ := hf
    exact ⟨p, q, h3, hk _ _ _ (.inr rfl) h4, hk _ _ _ (.inl rfl) h5⟩
theorem RV.new (w : World) (ss : List ByteArray) (hl : ss.length ≤ 1000000) : RV 9 (w.alloc (.cells (strV ss).toArray 9)) (some ⟨w.heap.size, 0, none⟩) ss.length (strV ss) :=
  ⟨by rw [strV_len]; exact Nat.le_refl _, by omega, fun h => ⟨_, 0, _, rfl, na w _ 9, fun i hi => by simp⟩⟩

set_option maxRecDepth 100000 in
set_option maxHeartbeats 4000000 in
theorem con_parse1 (p : Nat) (s : ByteArray) (hs : s.size ≤ 10000) (w : World) (hL : Laid w) (hp : w.heap[p]? = some (.cells #[.string s] 9 (0, 0))) :
    Calls Tryz.prog 17 #[.pointer (some ⟨p, 0, none⟩)] w (RPl (pLine s) w) := by
  have c0 := con_plain s (by omega)
  have c1 := must_yes
  have c2 := must_no
  have c3 := con_split s hs
  have hsz : ∀ x ∈ wordsOf s, x.size ≤ 1000000 := fun x hx => Nat.le_trans (words_sz s x hx) (by omega)
  have hln : (wordsOf s).length ≤ 1000000 := by
    rw [words_len]
    have := Lib.countB_le ⟨#[32]⟩ (by decide) s.size s (Nat.le_refl _)
    omega
  obtain ⟨R, hR⟩ : ∃ R, R = pLine s := ⟨_, rfl⟩
  have HE := hide hR
  rw [← hR]
  unfold pLine at HE
  clear hR
  have y1 := fun Z => (rcell (kp (bA (b0 w) (.cells Z 38)) hp)).1
  generalize wordsOf s = ws at *
  generalize plainB s.data.toList = B at *
  go_enter Tryz.func17, Tryz.ntmps17
  go_wp2_with fail
  generalize hW : w.alloc (.cells _ 38) = w1
  have f1 : ∃ Z : Array Value, Z.size = 19 ∧ w1.heap[w.heap.size]? = some (.cells Z 38 (0, 0)) := ⟨_, rfl, by rw [← hW]; exact na w _ 38⟩
  have HB1 : Hid (Below w.heap.size w w1) := hide (by rw [← hW]; exact bA (b0 w) _)
  have y2 : ∀ i, w1.cell? ⟨p, i, none⟩ = (#[.string s] : Array Value)[i]? := by rw [← hW]; exact y1 _
  have HL1 := hide (hL.below HB1.out)
  obtain ⟨Z0, hZ0, f1⟩ := f1
  clear hW y1
  refine (c0 _).mono ?_
  rintro e w2 ⟨rfl, rfl⟩
  cases B with
  | false =>
    have hE := HE.out
    simp only [Bool.false_eq_true, if_false] at hE
    go_wp2_with fail
    refine (c2 _).mono ?_
    rintro e w2 ⟨rfl, rfl⟩
    go_wp2
    subst hE
    exact ⟨rfl, rfl, HB1.out⟩
  | true =>
    have hE := HE.out
    simp only [if_true] at hE
    replace HE := hide hE
    clear hE
    go_wp2_with fail
    refine (c1 _).mono ?_
    rintro e w2 ⟨rfl, rfl⟩
    go_wp2_with fail
    refine (c3 _ HL1.out).mono ?_
    rintro e w3 ⟨rfl, rfl⟩
    have hb3 := bA (b0 w2) (.cells (strV ws).toArray 9)
    have hRV := RV.new w2 ws hln
    have f3 := kp hb3 f1
    have HB3 := hide (bB HB1.out hb3)
    have HL3 := hide (HL1.out.below hb3)
    have hA3 : w2.heap.size < (w2.alloc (.cells (strV ws).toArray 9)).heap.size := (rcell (na w2 (strV ws).toArray 9)).2.2
    clear hb3 y2
    generalize w2.heap.size = A0 at *
    generalize w2.alloc (.cells (strV ws).toArray 9) = w3 at *
    have c4 := con_contains _ _ ws ⟨#[]⟩ w3 hRV hln
    have HRV := hide hRV
    clear hRV f1 HB1 HL1 w2
    by_cases hc : 0 ≤ idxFrom ws ⟨#[]⟩ 0
    · rw [decide_eq_true hc] at c4
      have hE := HE.out
      rw [if_pos hc] at hE
      go_wp2_with fail
      refine c4.mono ?_
      rintro e w4 ⟨rfl, rfl⟩
      go_wp2_with fail
      refine (c2 _).mono ?_
      rintro e w5 ⟨rfl, rfl⟩
      go_wp2
      subst hE
      exact ⟨rfl, rfl, HB3.out⟩
    · rw [decide_eq_false hc] at c4
      have hE := HE.out
      rw [if_neg hc] at hE
      replace HE := hide hE
      clear hE hc
      go_wp2_with fail
      refine c4.mono ?_
      rintro e w4 ⟨rfl, rfl⟩
      go_wp2_with fail
      refine (c1 _).mono ?_
      rintro e w5 ⟨rfl, rfl⟩
      go_wp2_with fail
      have hb5 := bA (b0 w4) (.cells #[.slice (some ⟨A0, 0, none⟩) ws.length ws.length] 62)
      have hWd : Wd w4.heap.size ws (w4.alloc (.cells #[.slice (some ⟨A0, 0, none⟩) ws.length ws.length] 62)) := ⟨⟨_, _, na _ _ _, HRV.out.below hb5, fun a e => by injection e with e; subst e; exact hA3⟩, HL3.out.below hb5, hsz, hln⟩
      have f5 := kp hb5 f3
      have HB5 := hide (bB HB3.out hb5)
      have hwg : w.heap.size ≤ w4.heap.size := Nat.le_of_lt (lt_of_some f3)
      have hgr : w.heap.size ≠ w4.heap.size := by have := lt_of_some f3; omega
      refine (con_begins w4.heap.size _).mono ?_
      generalize w4.alloc (.cells #[.slice (some ⟨A0, 0, none⟩) ws.length ws.length] 62) = w5 at *
      generalize w4.heap.size = g at *
      rintro e w6 ⟨b, l, rfl, hb6, hM6, hG1, hG2⟩
      have hWd6 := hWd.below hb6
      have f6 := kp hb6 f5
      have HB6 := hide (bB HB5.out hb6)
      have c5 := r_next g ws w6 hWd6
      have hbg : b ≠ g := by
        obtain ⟨A, c, hg, -⟩ := hWd6.hg
        rintro rfl
        unfold MapL at hM6
        rw [hg] at hM6
        cases hM6
      obtain ⟨A6, c6, hg6, -⟩ := hWd6.hg
      cases ws with
      | nil =>
        simp only [pNext] at c5
        have hE := HE.out
        simp only [pWords] at hE
        go_wp2_with fail
        refine c5.mono ?_
        rintro e w7 ⟨rfl, hx7⟩
        go_wp2
        subst hE
        exact ⟨rfl, rfl, bG HB6.out hx7.low hwg⟩
      | cons x l0 =>
        simp only [pNext] at c5
        have hE := HE.out
        simp only [pWords] at hE
        replace HE := hide hE
        clear hE
        go_wp2_with fail
        refine c5.mono ?_
        rintro e w7 ⟨rfl, hx7, hW7⟩
        have hM7 : MapL w7 b l := (hx7.other b (lt_of_some hM6) hbg).trans hM6
        have HB7 := hide (bG HB6.out hx7.low hwg)
        have f7 := kx hx7 f6 hgr
        cases hh : headOf x with
        | none =>
          have hE := HE.out
          simp only [hh] at hE
          have hv : getL x l = none := by
            cases hv : getL x l with
            | none => rfl
            | some v =>
              obtain ⟨h', h1, -⟩ := hG1 x v hv
              rw [hh] at h1
              cases h1
          go_wp2_with (refine wpList_mapGet rfl b l hM7 _ _ rfl x rfl rfl .nilFunc false hv (fun _ => rfl) ?_)
          refine (c2 _).mono ?_
          rintro e w8 ⟨rfl, rfl⟩
          go_wp2
          subst hE
          exact ⟨rfl, rfl, HB7.out⟩
        | some hd =>
          have hE := HE.out
          simp only [hh] at hE
          replace HE := hide hE
          clear hE
          obtain ⟨v, hv⟩ := hG2 x hd hh
          obtain ⟨h', h1, hF⟩ := hG1 x v hv
          rw [hh] at h1
          injection h1 with h1
          subst h1
          have hF7 := hF.exc hx7 hg6 (by decide) (by decide)
          have HF := hide hF7
          have HW7 := hide hW7
          clear hF hF7 hG1 hG2 hx7 hW7 hWd hWd6 hb6 hg6 hM6 hbg
          go_wp2_with (refine wpList_mapGet rfl b l hM7 _ _ rfl x rfl rfl v true hv (fun e => by cases e) ?_)
          refine (c1 _).mono ?_
          rintro e w8 ⟨rfl, rfl⟩
          cases hd with
          | fn n =>
            obtain rfl : v = _ := HF.out
            clear hv
            have c8 := r_fn hh g l0 w7 HW7.out
            have hcall := call_fn hh
            clear hh HF
            go_wp2_with fail
            refine c8.mono ?_
            rintro e w8 hp8
            generalize Head.fn n = hd at *
            generalize pHead hd l0 = r8 at *
            cases r8 with
            | none =>
              obtain ⟨rfl, hx8⟩ := hp8
              have hE := HE.out
              simp only at hE
              go_wp2
              subst hE
              exact ⟨rfl, rfl, bG HB7.out hx8.low hwg⟩
            | some cl =>
              obtain ⟨c, l'⟩ := cl
              obtain ⟨v8, rfl, hv8, hx8, hw8⟩ := hp8
              have HB8 := hide (bG HB7.out hx8.low hwg)
              have f8 := kx hx8 f7 hgr
              obtain ⟨A, ac, M, mc, rfl, -⟩ := id hv8
              have hs1 : (c.cs A ac M mc).size = 19 := cmd_size _ _ _ _ _
              have h1 := cmd_one' c A ac M mc
              generalize c.cs A ac M mc = Y at *
              have HV8 := hide (hv8.mono HB7.out.size)
              have HW8 := hide hw8
              clear hx8 hv8 hw8
              cases l' with
              | nil =>
                have hE := HE.out
                simp only [if_true] at hE
                go_wp2_with ((refine wpList_storeW rfl _ _ _ rfl w8.heap.size 38 _ Y rfl rfl (na _ _ _) (by rw [size48, hs1]) (by rw [hs1]; rfl) h1 ?_; simp only [Act.put]); generalize hT : setRow (w8.alloc (.cells _ 38)) w8.heap.size _ = w9; obtain ⟨hx9, f9⟩ := fin_x (b0 _) (na w8 _ 38) hT; have hb9 := bX (bA (b0 w8) _) hx9 (Nat.le_refl _); have HW9 := hide (HW8.out.below hb9); obtain ⟨A9, c9, hg9, -⟩ := HW9.out.hg; obtain ⟨z1, z2, z3⟩ := rcell hg9; have fr9 := kp hb9 f8; have HB9 := hide (bB HB8.out hb9); have HV9 := hide (HV8.out.below hb9); have l9 : w8.heap.size < w9.heap.size := lt_of_some f9; generalize w8.heap.size = q9 at *; clear hT hx9 hb9; simp only [List.length_nil] at z1 hg9)
                refine (c1 _).mono ?_
                rintro e w10 ⟨rfl, rfl⟩
                go_wp2_with (first
                  | (refine wpList_loadW rfl _ _ rfl q9 38 Y rfl f9 _ rfl Tryz.underlying38 (by rw [size48, hs1]) ?_; simp only [Act.put, List.setIfInBounds_toArray, List.set_cons_zero, List.set_cons_succ])
                  | (refine wpList_storeW rfl _ _ _ rfl w.heap.size 38 _ Y rfl rfl fr9 (by rw [size48, hs1]) (by rw [hs1, hZ0]) h1 ?_; simp only [Act.put]))
                generalize hT : setRow w9 w.heap.size Y = w11
                obtain ⟨hx11, f11⟩ := fin_x (b0 _) fr9 hT
                subst hE
                refine bodyPost_ret (v := .agg Y) ?_ rfl ⟨_, rfl, HV9.out.exc hx11 fr9 (by decide) (by decide), bX HB9.out hx11 (Nat.le_refl _)⟩
                exact res_cell Tryz.results17 rfl (res48 f11 hs1)
              | cons x1 l1 =>
                have hE := HE.out
                simp only [reduceCtorEq, if_false] at hE
                go_wp2_with ((refine wpList_storeW rfl _ _ _ rfl w8.heap.size 38 _ Y rfl rfl (na _ _ _) (by rw [size48, hs1]) (by rw [hs1]; rfl) h1 ?_; simp only [Act.put]); generalize hT : setRow (w8.alloc (.cells _ 38)) w8.heap.size _ = w9; obtain ⟨hx9, f9⟩ := fin_x (b0 _) (na w8 _ 38) hT; have hb9 := bX (bA (b0 w8) _) hx9 (Nat.le_refl _); have HW9 := hide (HW8.out.below hb9); obtain ⟨A9, c9, hg9, -⟩ := HW9.out.hg; obtain ⟨z1, z2, z3⟩ := rcell hg9; have HB9 := hide (bB HB8.out hb9); generalize w8.heap.size = q9 at *; clear hT hx9 hb9; simp only [List.length_cons] at z1 hg9)
                refine (c2 _).mono ?_
                rintro e w10 ⟨rfl, rfl⟩
                go_wp2
                subst hE
                exact ⟨rfl, rfl, HB9.out⟩
          | one k =>
            obtain ⟨q, rfl, hq⟩ := HF.out
            clear hv
            have c8 : Calls Tryz.prog 45 #[.pointer (some ⟨q, 0, none⟩)] w7 (RPm g (pHead (.one k) l0) w7) := r_begins1 g q k l0 w7 HW7.out hq
            clear hh HF hq
            go_wp2_with fail
            refine c8.mono ?_
            rintro e w8 hp8
            generalize Head.one k = hd at *
            generalize pHead hd l0 = r8 at *
            cases r8 with
            | none =>
              obtain ⟨rfl, hx8⟩ := hp8
              have hE := HE.out
              simp only at hE
              go_wp2
              subst hE
              exact ⟨rfl, rfl, bG HB7.out hx8.low hwg⟩
            | some cl =>
              obtain ⟨c, l'⟩ := cl
              obtain ⟨v8, rfl, hv8, hx8, hw8⟩ := hp8
              have HB8 := hide (bG HB7.out hx8.low hwg)
              have f8 := kx hx8 f7 hgr
              obtain ⟨A, ac, M, mc, rfl, -⟩ := id hv8
              have hs1 : (c.cs A ac M mc).size = 19 := cmd_size _ _ _ _ _
              have h1 := cmd_one' c A ac M mc
              generalize c.cs A ac M mc = Y at *
              have HV8 := hide (hv8.mono HB7.out.size)
              have HW8 := hide hw8
              clear hx8 hv8 hw8
              cases l' with
              | nil =>
                have hE := HE.out
                simp only [if_true] at hE
                go_wp2_with ((refine wpList_storeW rfl _ _ _ rfl w8.heap.size 38 _ Y rfl rfl (na _ _ _) (by rw [size48, hs1]) (by rw [hs1]; rfl) h1 ?_; simp only [Act.put]); generalize hT : setRow (w8.alloc (.cells _ 38)) w8.heap.size _ = w9; obtain ⟨hx9, f9⟩ := fin_x (b0 _) (na w8 _ 38) hT; have hb9 := bX (bA (b0 w8) _) hx9 (Nat.le_refl _); have HW9 := hide (HW8.out.below hb9); obtain ⟨A9, c9, hg9, -⟩ := HW9.out.hg; obtain ⟨z1, z2, z3⟩ := rcell hg9; have fr9 := kp hb9 f8; have HB9 := hide (bB HB8.out hb9); have HV9 := hide (HV8.out.below hb9); have l9 : w8.heap.size < w9.heap.size := lt_of_some f9; generalize w8.heap.size = q9 at *; clear hT hx9 hb9; simp only [List.length_nil] at z1 hg9)
                refine (c1 _).mono ?_
                rintro e w10 ⟨rfl, rfl⟩
                go_wp2_with (first
                  | (refine wpList_loadW rfl _ _ rfl q9 38 Y rfl f9 _ rfl Tryz.underlying38 (by rw [size48, hs1]) ?_; simp only [Act.put, List.setIfInBounds_toArray, List.set_cons_zero, List.set_cons_succ])
                  | (refine wpList_storeW rfl _ _ _ rfl w.heap.size 38 _ Y rfl rfl fr9 (by rw [size48, hs1]) (by rw [hs1, hZ0]) h1 ?_; simp only [Act.put]))
                generalize hT : setRow w9 w.heap.size Y = w11
                obtain ⟨hx11, f11⟩ := fin_x (b0 _) fr9 hT
                subst hE
                refine bodyPost_ret (v := .agg Y) ?_ rfl ⟨_, rfl, HV9.out.exc hx11 fr9 (by decide) (by decide), bX HB9.out hx11 (Nat.le_refl _)⟩
                exact res_cell Tryz.results17 rfl (res48 f11 hs1)
              | cons x1 l1 =>
                have hE := HE.out
                simp only [reduceCtorEq, if_false] at hE
                go_wp2_with ((refine wpList_storeW rfl _ _ _ rfl w8.heap.size 38 _ Y rfl rfl (na _ _ _) (by rw [size48, hs1]) (by rw [hs1]; rfl) h1 ?_; simp only [Act.put]); generalize hT : setRow (w8.alloc (.cells _ 38)) w8.heap.size _ = w9; obtain ⟨hx9, f9⟩ := fin_x (b0 _) (na w8 _ 38) hT; have hb9 := bX (bA (b0 w8) _) hx9 (Nat.le_refl _); have HW9 := hide (HW8.out.below hb9); obtain ⟨A9, c9, hg9, -⟩ := HW9.out.hg; obtain ⟨z1, z2, z3⟩ := rcell hg9; have HB9 := hide (bB HB8.out hb9); generalize w8.heap.size = q9 at *; clear hT hx9 hb9; simp only [List.length_cons] at z1 hg9)
                refine (c2 _).mono ?_
                rintro e w10 ⟨rfl, rfl⟩
                go_wp2
                subst hE
                exact ⟨rfl, rfl, HB9.out⟩
          | span k =>
            obtain ⟨p, q, rfl, hp1, hq⟩ := HF.out
            clear hv
            have c8 : Calls Tryz.prog 48 #[.pointer (some ⟨p, 0, none⟩), .pointer (some ⟨q, 0, none⟩)] w7 (RPm g (pHead (.span k) l0) w7) := r_begins2 g p q k l0 w7 HW7.out hp1 hq
            clear hh HF hq hp1
            go_wp2_with fail
            refine c8.mono ?_
            rintro e w8 hp8
            generalize Head.span k = hd at *
            generalize pHead hd l0 = r8 at *
            cases r8 with
            | none =>
              obtain ⟨rfl, hx8⟩ := hp8
              have hE := HE.out
              simp only at hE
              go_wp2
              subst hE
              exact ⟨rfl, rfl, bG HB7.out hx8.low hwg⟩
            | some cl =>
              obtain ⟨c, l'⟩ := cl
              obtain ⟨v8, rfl, hv8, hx8, hw8⟩ := hp8
              have HB8 := hide (bG HB7.out hx8.low hwg)
              have f8 := kx hx8 f7 hgr
              obtain ⟨A, ac, M, mc, rfl, -⟩ := id hv8
              have hs1 : (c.cs A ac M mc).size = 19 := cmd_size _ _ _ _ _
              have h1 := cmd_one' c A ac M mc
              generalize c.cs A ac M mc = Y at *
              have HV8 := hide (hv8.mono HB7.out.size)
              have HW8 := hide hw8
              clear hx8 hv8 hw8
              cases l' with
              | nil =>
                have hE := HE.out
                simp only [if_true] at hE
                go_wp2_with ((refine wpList_storeW rfl _ _ _ rfl w8.heap.size 38 _ Y rfl rfl (na _ _ _) (by rw [size48, hs1]) (by rw [hs1]; rfl) h1 ?_; simp only [Act.put]); generalize hT : setRow (w8.alloc (.cells _ 38)) w8.heap.size _ = w9; obtain ⟨hx9, f9⟩ := fin_x (b0 _) (na w8 _ 38) hT; have hb9 := bX (bA (b0 w8) _) hx9 (Nat.le_refl _); have HW9 := hide (HW8.out.below hb9); obtain ⟨A9, c9, hg9, -⟩ := HW9.out.hg; obtain ⟨z1, z2, z3⟩ := rcell hg9; have fr9 := kp hb9 f8; have HB9 := hide (bB HB8.out hb9); have HV9 := hide (HV8.out.below hb9); have l9 : w8.heap.size < w9.heap.size := lt_of_some f9; generalize w8.heap.size = q9 at *; clear hT hx9 hb9; simp only [List.length_nil] at z1 hg9)
                refine (c1 _).mono ?_
                rintro e w10 ⟨rfl, rfl⟩
                go_wp2_with (first
                  | (refine wpList_loadW rfl _ _ rfl q9 38 Y rfl f9 _ rfl Tryz.underlying38 (by rw [size48, hs1]) ?_; simp only [Act.put, List.setIfInBounds_toArray, List.set_cons_zero, List.set_cons_succ])
                  | (refine wpList_storeW rfl _ _ _ rfl w.heap.size 38 _ Y rfl rfl fr9 (by rw [size48, hs1]) (by rw [hs1, hZ0]) h1 ?_; simp only [Act.put]))
                generalize hT : setRow w9 w.heap.size Y = w11
                obtain ⟨hx11, f11⟩ := fin_x (b0 _) fr9 hT
                subst hE
                refine bodyPost_ret (v := .agg Y) ?_ rfl ⟨_, rfl, HV9.out.exc hx11 fr9 (by decide) (by decide), bX HB9.out hx11 (Nat.le_refl _)⟩
                exact res_cell Tryz.results17 rfl (res48 f11 hs1)
              | cons x1 l1 =>
                have hE := HE.out
                simp only [reduceCtorEq, if_false] at hE
                go_wp2_with ((refine wpList_storeW rfl _ _ _ rfl w8.heap.size 38 _ Y rfl rfl (na _ _ _) (by rw [size48, hs1]) (by rw [hs1]; rfl) h1 ?_; simp only [Act.put]); generalize hT : setRow (w8.alloc (.cells _ 38)) w8.heap.size _ = w9; obtain ⟨hx9, f9⟩ := fin_x (b0 _) (na w8 _ 38) hT; have hb9 := bX (bA (b0 w8) _) hx9 (Nat.le_refl _); have HW9 := hide (HW8.out.below hb9); obtain ⟨A9, c9, hg9, -⟩ := HW9.out.hg; obtain ⟨z1, z2, z3⟩ := rcell hg9; have HB9 := hide (bB HB8.out hb9); generalize w8.heap.size = q9 at *; clear hT hx9 hb9; simp only [List.length_cons] at z1 hg9)
                refine (c2 _).mono ?_
                rintro e w10 ⟨rfl, rfl⟩
                go_wp2
                subst hE
                exact ⟨rfl, rfl, HB9.out⟩
end Go.Proofs.YtbiedfkmmcaplaaGreatDoor

namespace Go.Proofs.YtbiedfkmmcaplaaGreatDoor
open Go.RowKit
attribute [local go_sem] Oper.semAt_some

def zCmd : Array Value := cmdCs 0 ⟨0, 0, ⟨#[]⟩, 0, 0, 0, none, 0, 0, 0, ⟨#[]⟩, 0, 0, 0, 0, ⟨#[]⟩, 0, 0⟩ 0 none 0 0
theorem zCmd_size : zCmd.size = 19 := rfl
theorem zCmd_one : zCmd.all (·.oneCell') = true := cmd_one _ _ _ _ _ _
theorem errno_is (x : Int) (w : World) : (Instr.typeAssert (.iface 39 (.int .i64 x)) 20 39 true).run Tryz.prog w = .ok (.tuple #[.int .i64 x, .bool true]) w := by kernel_rfl

set_option maxRecDepth 100000 in
set_option maxHeartbeats 4000000 in
theorem tries_caught (o p : Nat) (x : Int) (Zo : Array Value) (hZo : Zo.size = 19) (w : World) (ho : w.heap[o]? = some (.cells Zo 38 (0, 0))) (hp : w.heap[p]? = some (.cells #[.int .i64 0] 39 (0, 0))) (hne : p ≠ o) :
    CallsD Tryz.prog 33 #[.pointer (some ⟨o, 0, none⟩), .pointer (some ⟨p, 0, none⟩)] (.panicking [pn x]) w fun e u' w' =>
      e = .returned (.tuple #[]) ∧ u' = .panicking [{ v := .iface 39 (.int .i64 x), recovered := true }] ∧ w'.heap[o]? = some (.cells zCmd 38 (0, 0)) ∧ w'.heap[p]? = some (.cells #[.int .i64 x] 39 (0, 0)) ∧ ∀ n, n ≤ o → n ≤ p → Below n w w' := by
  unfold pn
  refine callsD_of_wpS Tryz.func33 rfl fun c₀ cs hu => ?_
  apply wpS_seq
  apply wpS_region
  simp [wpOpsS, go_sem, recoverD, hu, Tryz.ntmps33, Exit.thenS]
  have fo := kp (bA (b0 w) (.cells zCmd 38)) ho
  have fp := kp (bA (b0 w) (.cells zCmd 38)) hp
  have f5 := na w zCmd 38
  refine wpS_of_wp ?_
  simp only [Array.replicate_succ, Array.replicate_zero, List.push_toArray, List.append_toArray, List.nil_append, List.cons_append, List.setIfInBounds_toArray, List.set_cons_zero, List.set_cons_succ]
  generalize hQ : (fun e a' w' => bodyPostS _ _ _ _ _ e a' _ w') = Q
  have hta := errno_is x
  have h1 := zCmd_one
  have hs := zCmd_size
  go_wp2_with (first
    | (refine wpList_loadW rfl _ _ rfl w.heap.size 38 zCmd rfl f5 _ rfl Tryz.underlying38 (by rw [size48, hs]) ?_; simp only [Act.put, List.setIfInBounds_toArray, List.set_cons_zero, List.set_cons_succ])
    | ((refine wpList_storeW rfl _ _ _ rfl o 38 _ zCmd rfl rfl fo (by rw [size48, hs]) (by rw [hs, hZo]) h1 ?_; simp only [Act.put]); generalize hT1 : setRow (w.alloc _) o _ = w1; obtain ⟨hx1, f1⟩ := fin_x (b0 _) fo hT1; have p1 := kx hx1 fp hne; obtain ⟨y1, y2, y3⟩ := rcell p1))
  rw [row1 p1]
  generalize hT2 : setRow w1 p _ = w2
  obtain ⟨hx2, f2⟩ := fin_x (b0 _) p1 hT2
  have o2 := kx hx2 f1 hne.symm
  subst hQ
  refine ⟨rfl, _, rfl, .tuple #[], by simp [results, Tryz.results33, go_sem], rfl, rfl, o2, f2, fun n h1 h2 => ?_⟩
  have l0 := lt_of_some ho
  exact ((bA (b0 w) (.cells zCmd 38)).mono (by omega)).trans ((hx1.low.mono h1).trans (hx2.low.mono h2))
theorem tries_idle (o p : Addr) (w : World) :
    CallsD Tryz.prog 33 #[.pointer (some o), .pointer (some p)] .returning w fun e u' w' => e = .returned (.tuple #[]) ∧ u' = .returning ∧ w' = w := by
  refine callsD_of_wpS Tryz.func33 rfl fun c₀ cs hu => ?_
  apply wpS_seq
  apply wpS_region
  simp [wpOpsS, go_sem, recoverD, hu, Tryz.ntmps33, Exit.thenS]
  refine wpS_of_wp ?_
  simp only [Array.replicate_succ, Array.replicate_zero, List.push_toArray, List.append_toArray, List.nil_append, List.cons_append, List.setIfInBounds_toArray, List.set_cons_zero, List.set_cons_succ]
  generalize hQ : (fun e a' w' => bodyPostS _ _ _ _ _ e a' _ w') = Q
  go_wp2_with fail
  subst hQ
  exact ⟨rfl, _, rfl, .tuple #[], by simp [results, Tryz.results33, go_sem], rfl, by first | exact hu | rfl, rfl⟩
theorem res28 {o p : Nat} {x : Int} {Z : Array Value} {tmps : Array Value} {w : World} (hZ : Z.size = 19) (h1 : w.heap[o]? = some (.cells Z 38 (0, 0))) (h2 : w.heap[p]? = some (.cells #[.int .i64 x] 39 (0, 0)))
    (t2 : tmps[2]? = some (.pointer (some ⟨o, 0, none⟩))) (t3 : tmps[3]? = some (.pointer (some ⟨p, 0, none⟩))) : (results Tryz.f16 tmps).run Tryz.prog w = .ok (.tuple #[.agg Z, .int .i64 x]) w := by
  have e1 := res48 h1 hZ
  have y2 := (rcell h2).1
  have e2 : (loadVar 39 ⟨p, 0, none⟩).run Tryz.prog w = .ok (.int .i64 x) w := by simp [go_sem, y2]
  simp [results, Tryz.results16, t2, t3, asAddr, e1, e2]
theorem tries_out {o p : Nat} {x : Int} {Z : Array Value} {tmps : Array Value} {w : World} {R : Ending → World → Prop} (hZ : Z.size = 19) (ho : w.heap[o]? = some (.cells Z 38 (0, 0))) (hp : w.heap[p]? = some (.cells #[.int .i64 0] 39 (0, 0))) (hne : p ≠ o)
    (t2 : tmps[2]? = some (.pointer (some ⟨o, 0, none⟩))) (t3 : tmps[3]? = some (.pointer (some ⟨p, 0, none⟩))) (hR : ∀ w', (∀ n, n ≤ o → n ≤ p → Below n w w') → R (.returned (.tuple #[.agg zCmd, .int .i64 x])) w') :
    Leaves Tryz.prog Tryz.f16 tmps R [{ target := .fn (.func 33) #[.pointer (some ⟨o, 0, none⟩), .pointer (some ⟨p, 0, none⟩)], args := #[] }] (.panicking [pn x]) w := by
  refine leaves_cons (f := 33) (args := #[.pointer (some ⟨o, 0, none⟩), .pointer (some ⟨p, 0, none⟩)]) (by simp) (by simp [go_sem]) ?_
  refine (tries_caught o p x Z hZ w ho hp hne).mono ?_
  rintro e u' w'' ⟨rfl, rfl, h1, h2, h3⟩
  have e0 := res28 zCmd_size h1 h2 t2 t3
  simp [Leaves, settle]
  exact ⟨_, e0, hR _ h3⟩
theorem tries_back {o p : Nat} {v : Value} {tmps : Array Value} {w : World} {R : Ending → World → Prop}
    (hres : (results Tryz.f16 tmps).run Tryz.prog w = .ok v w) (hR : R (.returned v) w) :
    Leaves Tryz.prog Tryz.f16 tmps R [{ target := .fn (.func 33) #[.pointer (some ⟨o, 0, none⟩), .pointer (some ⟨p, 0, none⟩)], args := #[] }] .returning w := by
  refine leaves_cons (f := 33) (args := #[.pointer (some ⟨o, 0, none⟩), .pointer (some ⟨p, 0, none⟩)]) (by simp) (by simp [go_sem]) ?_
  refine (tries_idle ⟨o, 0, none⟩ ⟨p, 0, none⟩ w).mono ?_
  rintro e u' w'' ⟨rfl, rfl, rfl⟩
  simp [Leaves, settle]
  exact ⟨_, hres, hR⟩

def RPp (r : Option Cm) (w : World) (e : Ending) (w' : World) : Prop :=
  match r with
  | some c => ∃ v, e = .returned (.tuple #[v, .int .i64 0]) ∧ CmdIs w.heap.size w' v c ∧ Below w.heap.size w w'
  | none => e = .returned (.tuple #[.agg zCmd, .int .i64 410]) ∧ Below w.heap.size w w'

set_option maxRecDepth 100000 in
set_option maxHeartbeats 4000000 in
theorem con_tries (p : Nat) (s : ByteArray) (hs : s.size ≤ 10000) (w : World) (hL : Laid w) (hp : w.heap[p]? = some (.cells #[.string s] 9 (0, 0))) :
    Calls Tryz.prog 16 #[.func (.func 17) #[] #[.pointer (some ⟨p, 0, none⟩)]] w (RPp (pLine s) w) := by
  have hmf : ∀ (fn : Fn) (first cap : Array Value) (w : World), (Instr.makeFunc fn first cap).run Tryz.prog w = .ok (.func fn first cap) w := fun _ _ _ _ => rfl
  have hb1 := bA (b0 w) (.cells zCmd 38)
  have hb2 := bA (b0 (w.alloc (.cells zCmd 38))) (.cells #[.int .i64 0] 39)
  have hB := bB hb1 hb2
  have f1 := kp hb2 (na w zCmd 38)
  have f2 := na (w.alloc (.cells zCmd 38)) #[.int .i64 0] 39
  have hne : (w.alloc (.cells zCmd 38)).heap.size = w.heap.size + 1 := by simp
  have c0 := con_parse1 p s hs _ (hL.below hB) (kp hB hp)
  generalize pLine s = R at *
  go_enter_defers Tryz.func16, Tryz.ntmps16
  go_wp2_with fail
  refine c0.mono ?_
  rintro e w3 hp3
  have hw2 : (w.alloc (.cells zCmd 38)).heap.size = w.heap.size + 1 := hne
  cases R with
  | none =>
    obtain ⟨rfl, hb3⟩ := hp3
    have fo := kp hb3 f1
    have fp := kp hb3 f2
    have HB3 := hide (bB hB hb3)
    rw [hw2] at fp
    clear c0 hb1 hb2 hB f1 f2 hb3
    go_wp2_with fail
    refine tries_out zCmd_size fo fp (by omega) rfl rfl fun w' hb' => ?_
    have hbb := hb' w.heap.size (by omega) (by omega)
    exact ⟨rfl, bG HB3.out hbb (Nat.le_refl _)⟩
  | some c =>
    obtain ⟨v, rfl, hv, hb3⟩ := hp3
    obtain ⟨A, ac, M, mc, rfl, -⟩ := id hv
    have hs1 : (c.cs A ac M mc).size = 19 := cmd_size _ _ _ _ _
    have h1 := cmd_one' c A ac M mc
    generalize c.cs A ac M mc = Y at *
    have fo := kp hb3 f1
    have fp := kp hb3 f2
    have HB3 := hide (bB hB hb3)
    rw [hw2] at fp
    have hz := zCmd_size
    have HV := hide (hv.mono hB.size)
    clear c0 hb1 hb2 hB f1 f2 hb3 hv
    go_wp2_with ((refine wpList_storeW rfl _ _ _ rfl w.heap.size 38 _ Y rfl rfl fo (by rw [size48, hs1]) (by rw [hs1, hz]) h1 ?_; simp only [Act.put]); generalize hT1 : setRow w3 w.heap.size _ = w4; obtain ⟨hx4, f4⟩ := fin_x (b0 _) fo hT1; have p4 := kx hx4 fp (by omega); obtain ⟨y1, y2, y3⟩ := rcell p4; have HV4 := hide (HV.out.exc hx4 fo (by decide) (by decide)); have HB4 := hide (bX HB3.out hx4 (Nat.le_refl _)); clear hT1 HV HB3 hx4)
    rw [row1 p4]
    generalize hT2 : setRow w4 _ _ = w5
    obtain ⟨hx5, p5⟩ := fin_x (b0 _) p4 hT2
    have f5 := kx hx5 f4 (by omega)
    refine tries_back (v := .tuple #[.agg Y, .int .i64 0]) (res28 hs1 f5 p5 rfl rfl) ?_
    exact ⟨_, rfl, (HV4.out.exc hx5 p4 (by decide) (by decide)), bX HB4.out hx5 (by omega)⟩

theorem res10 {o : Nat} {v : Value} {Z : Array Value} {tmps : Array Value} {w : World} (hZ : Z.size = 19) (h1 : w.heap[o]? = some (.cells Z 38 (0, 0)))
    (t2 : tmps[2]? = some (.pointer (some ⟨o, 0, none⟩))) (t3 : tmps[3]? = some v) : (results Tryz.f8 tmps).run Tryz.prog w = .ok (.tuple #[.agg Z, v]) w := by
  have e1 := res48 h1 hZ
  simp [results, Tryz.results8, t2, t3, asAddr, e1]
set_option maxRecDepth 100000 in
set_option maxHeartbeats 4000000 in
theorem con_Parse (s : ByteArray) (hs : s.size ≤ 10000) (w : World) (hL : Laid w) : Calls Tryz.prog 8 #[.string s] w (RPp (pLine s) w) := by
  have hmf : ∀ (fn : Fn) (first cap : Array Value) (w : World), (Instr.makeFunc fn first cap).run Tryz.prog w = .ok (.func fn first cap) w := fun _ _ _ _ => rfl
  have hb1 := bA (b0 w) (.cells #[.string s] 9)
  have hb2 := bA (b0 (w.alloc (.cells #[.string s] 9))) (.cells zCmd 38)
  have hB := bB hb1 hb2
  have f1 := kp hb2 (na w #[.string s] 9)
  have f2 := na (w.alloc (.cells #[.string s] 9)) zCmd 38
  have hne : (w.alloc (.cells #[.string s] 9)).heap.size = w.heap.size + 1 := by simp
  have c0 := con_tries w.heap.size s hs _ (hL.below hB) f1
  generalize pLine s = R at *
  go_enter Tryz.func8, Tryz.ntmps8
  go_wp2_with fail
  refine c0.mono ?_
  rintro e w3 hp3
  rw [hne] at f2
  cases R with
  | none =>
    obtain ⟨rfl, hb3⟩ := hp3
    have fo := kp hb3 f2
    have HB3 := hide (bB hB hb3)
    have hz := zCmd_size
    have h1 := zCmd_one
    clear c0 hb1 hb2 hB f1 f2 hb3
    go_wp2_with ((refine wpList_storeW rfl _ _ _ rfl (w.heap.size + 1) 38 _ zCmd rfl rfl fo (by rw [size48, hz]) rfl h1 ?_; simp only [Act.put]))
    generalize hT1 : setRow w3 _ _ = w4
    obtain ⟨hx4, f4⟩ := fin_x (b0 _) fo hT1
    refine bodyPost_ret (v := .tuple #[.agg zCmd, .int .i64 410]) ?_ rfl ⟨rfl, bX HB3.out hx4 (by omega)⟩
    exact res10 zCmd_size f4 rfl rfl
  | some c =>
    obtain ⟨v, rfl, hv, hb3⟩ := hp3
    obtain ⟨A, ac, M, mc, rfl, -⟩ := id hv
    have hs1 : (c.cs A ac M mc).size = 19 := cmd_size _ _ _ _ _
    have h1 := cmd_one' c A ac M mc
    generalize c.cs A ac M mc = Y at *
    have fo := kp hb3 f2
    have HB3 := hide (bB hB hb3)
    have hz := zCmd_size
    have HV := hide (hv.mono hB.size)
    clear c0 hb1 hb2 hB f1 f2 hb3 hv
    go_wp2_with ((refine wpList_storeW rfl _ _ _ rfl (w.heap.size + 1) 38 _ Y rfl rfl fo (by rw [size48, hs1]) (by rw [hs1, hz]) h1 ?_; simp only [Act.put]))
    generalize hT1 : setRow w3 _ _ = w4
    obtain ⟨hx4, f4⟩ := fin_x (b0 _) fo hT1
    refine bodyPost_ret (v := .tuple #[.agg Y, .int .i64 0]) ?_ rfl ⟨_, rfl, HV.out.exc hx4 fo (by decide) (by decide), bX HB3.out hx4 (by omega)⟩
    exact res10 hs1 f4 rfl rfl
end Go.Proofs.YtbiedfkmmcaplaaGreatDoor
