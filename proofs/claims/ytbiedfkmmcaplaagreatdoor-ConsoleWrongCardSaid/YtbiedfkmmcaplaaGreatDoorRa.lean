/- Rows of values of one cell each: what is read, what is one's own, and append. The console at this program: what is laid in package variables, numbers' words, joined words. Rows of values of k cells each, as one list of cells. The console at this program: a reader's words. The console at this program -/
import Derived.Test.YtbiedfkmmcaplaaGreatDoorAb
import Derived.ArgAppend
import Derived.Deep.OwnRows
import Derived.Maps.AppendAt
import Derived.Deep.Slices
import Derived.Test.YtbiedfkmmcaplaaGreatDoorSh
import Derived.Laws.RangeAny
import Derived.Laws.Bits64b
set_option linter.all false
namespace Go.Proofs.YtbiedfkmmcaplaaGreatDoor
open Go.RowKit

structure RV (T : TypeId) (w : World) (A : Option Addr) (c : Nat) (l : List Value) : Prop where
  cap : l.length ≤ c
  top : c ≤ 9223372036854775807
  mem : 0 < l.length → ∃ g o cur, A = some ⟨g, o, none⟩ ∧ w.heap[g]? = some (.cells cur T (0, 0)) ∧ ∀ i (hi : i < l.length), cur[o + i]? = some l[i]

section
variable {T : TypeId}
theorem RV.at_ {w : World} {A : Option Addr} {c : Nat} {l : List Value} (h : RV T w A c l) {k : Nat} (hk : k < l.length) :
    ∃ g o, A = some ⟨g, o, none⟩ ∧ w.cell? ⟨g, o + k, none⟩ = some l[k] := by
  obtain ⟨g, o, cur, e, hg, hc⟩ := h.mem (by omega)
  exact ⟨g, o, e, (cell_of_row w g _ cur _ (0, 0) hg).trans (hc k hk)⟩
theorem RV.below {w w' : World} {A : Option Addr} {c : Nat} {l : List Value} (h : RV T w A c l) (hb : Below w.heap.size w w') : RV T w' A c l :=
  ⟨h.cap, h.top, fun hl => by
    obtain ⟨g, o, cur, e, hg, hc⟩ := h.mem hl
    exact ⟨g, o, cur, e, (hb.block g (Array.getElem?_eq_some_iff.1 hg).1).trans hg, hc⟩⟩
theorem RV.exc {w w1 : World} {A : Option Addr} {c k : Nat} {l : List Value} {cs : Array Value} {t : TypeId} (h : RV T w A c l) (hx : Exc k w w1) (hk : w.heap[k]? = some (.cells cs t (0, 0))) (ht : t ≠ T) : RV T w1 A c l :=
  ⟨h.cap, h.top, fun hl => by
    obtain ⟨g, o, cur, e, hg, hc⟩ := h.mem hl
    have hne : g ≠ k := by
      rintro rfl
      rw [hg] at hk
      injection hk with hk
      injection hk with _ h2 _
      exact ht h2.symm
    exact ⟨g, o, cur, e, (hx.other g (Array.getElem?_eq_some_iff.1 hg).1 hne).trans hg, hc⟩⟩
theorem RV.take {w : World} {A : Option Addr} {c : Nat} {l : List Value} (h : RV T w A c l) (k : Nat) : RV T w A c (l.take k) :=
  ⟨by rw [List.length_take]; have := h.cap; omega, h.top, fun hl => by
    rw [List.length_take] at hl
    obtain ⟨g, o, cur, e, hg, hc⟩ := h.mem (by omega)
    refine ⟨g, o, cur, e, hg, fun i hi => ?_⟩
    rw [List.length_take] at hi
    have := hc i (by omega)
    simpa using this⟩
theorem RV.nil (w : World) (A : Option Addr) (c : Nat) (hc : c ≤ 9223372036854775807) : RV T w A c [] := ⟨by simp, hc, fun h => by simp at h⟩
theorem RV.drop {w : World} {A : Option Addr} {c : Nat} {l : List Value} (h : RV T w A c l) (k : Nat) (hk : k ≤ l.length) : RV T w (if c = k then A else A.map (·.add k)) (c - k) (l.drop k) :=
  ⟨by rw [List.length_drop]; have := h.cap; omega, by have := h.top; omega, fun hl => by
    rw [List.length_drop] at hl
    obtain ⟨g, o, cur, rfl, hg, hc⟩ := h.mem (by omega)
    have hcap := h.cap
    rw [if_neg (by omega)]
    refine ⟨g, o + k, cur, ?_, hg, fun i hi => ?_⟩
    · show some (Addr.add _ _) = _
      unfold Addr.add
      split
      · next h0 => simp [h0]
      · rfl
    · rw [List.length_drop] at hi
      have := hc (k + i) (by omega)
      rw [show o + k + i = o + (k + i) by omega]
      simpa using this⟩

def InV (w : World) (X : Option Addr) (xs : List Value) : Prop :=
  0 < xs.length → ∃ ad, X = some ad ∧ ad.block < w.heap.size ∧ ∀ i (hi : i < xs.length), w.cell? (ad.add i) = some xs[i]
theorem InV.below {w w' : World} {X : Option Addr} {xs : List Value} (h : InV w X xs) (hb : Below w.heap.size w w') : InV w' X xs := fun h0 => by
  obtain ⟨ad, e, h1, h2⟩ := h h0
  have hc : ∀ j, w'.cell? (ad.add j) = w.cell? (ad.add j) := fun j => hb.cell (p := ad.add j) (by rw [show (ad.add j).block = ad.block by unfold Addr.add; split <;> rfl]; exact h1)
  exact ⟨ad, e, Nat.lt_of_lt_of_le h1 hb.size, fun i hi => by rw [hc]; exact h2 i hi⟩
theorem InV.take {w : World} {X : Option Addr} {xs : List Value} (h : InV w X xs) (k : Nat) : InV w X (xs.take k) := fun h0 => by
  rw [List.length_take] at h0
  obtain ⟨ad, e, h1, h2⟩ := h (by omega)
  refine ⟨ad, e, h1, fun i hi => ?_⟩
  rw [List.length_take] at hi
  have := h2 i (by omega)
  simpa using this
theorem RV.inV {w : World} {A : Option Addr} {c : Nat} {l : List Value} (h : RV T w A c l) : InV w A l := fun h0 => by
  obtain ⟨g, o, cur, e, hg, hc⟩ := h.mem h0
  refine ⟨_, e, (Array.getElem?_eq_some_iff.1 hg).1, fun i hi => ?_⟩
  rw [show (⟨g, o, none⟩ : Addr).add i = ⟨g, o + i, none⟩ by
    unfold Addr.add
    split
    · next h0 => simp [h0]
    · rfl]
  exact (cell_of_row w g _ cur _ (0, 0) hg).trans (hc i hi)
def OwnV (T : TypeId) (B : Nat) (w : World) (v : Value) (l : List Value) : Prop := w.ownsRow B T 1 v l.length (l)
theorem OwnV.cr {B : Nat} {w : World} {v : Value} {l : List Value} (h : OwnV T B w v l) : ∃ A c, v = .slice A l.length c ∧ RV T w A c l := by
  obtain ⟨h1, ⟨rfl, h2⟩ | ⟨g, cap, cur, rfl, hb, hg, hn, hm, hs, ht⟩⟩ := h
  · exact ⟨none, 0, by rw [h2], by omega, by omega, fun hl => by omega⟩
  · refine ⟨some ⟨g, 0, none⟩, cap, rfl, hn, by unfold maxLen at hm; omega, fun hl => ⟨g, 0, cur, rfl, hg, fun i hi => ?_⟩⟩
    obtain ⟨q, hq⟩ : ∃ q, l[i] = q := ⟨_, rfl⟩
    rw [hq]
    have e : l[i]? = some q := by rw [← hq]; simp
    rw [← ht, List.getElem?_take] at e
    rw [Nat.zero_add]
    split at e
    · simpa using e
    · cases e
theorem OwnV.lift {B : Nat} {w w' : World} {v : Value} {l : List Value} (h : OwnV T B w v l) (hb : Below w.heap.size w w') : OwnV T B w' v l := by
  obtain ⟨h1, h2⟩ := h
  refine ⟨h1, ?_⟩
  rcases h2 with h2 | ⟨g, cap, cur, h3, h4, h5, h6⟩
  · exact .inl h2
  · exact .inr ⟨g, cap, cur, h3, h4, (hb.block g (Array.getElem?_eq_some_iff.1 h5).1).trans h5, h6⟩
theorem OwnV.lt {B : Nat} {w : World} {v : Value} {l : List Value} (h : OwnV T B w v l) : ∀ k, v.ownBlock = some k → B ≤ k := fun k hk => (World.ownsRow.lt h k hk).1
theorem OwnV.fresh (w : World) : OwnV T w.heap.size (w.alloc (.cells #[] T)) (.slice (some ⟨w.heap.size, 0, none⟩) 0 0) [] :=
  ⟨rfl, .inr ⟨w.heap.size, 0, _, rfl, Nat.le_refl _, na w _ _, Nat.le_refl _, by decide, rfl, rfl⟩⟩
theorem OwnV.nil (B : Nat) (w : World) : OwnV T B w (.slice none 0 0) [] := World.ownsRow_nil w B _ 1
theorem OwnV.excP {B g : Nat} {w w1 : World} {v : Value} {l : List Value} (h : OwnV T B w v l) (hx : Exc g w w1) (hg : g < B) : OwnV T B w1 v l :=
  World.ownsRow.kept h ⟨hx.low.os, hx.low.tape, hx.low.output, hx.size, fun k hk hn => hx.other k hk (fun e => hn (by rw [e]))⟩ (.inr fun e => by have := h.lt g e; omega)

set_option maxRecDepth 100000 in
theorem pushV_run (w : World) (ST ty : TypeId) (bytes : Nat) {zv : Value} (hST : Tryz.prog.underlying ST = some (.slice T)) (info : (Tryz.prog.info? T).map (fun i => (i.zero, i.size, i.bytes)) = some (some zv, 1, bytes)) (hzv : zv.cells.size = 1) (hby : bytes ≤ 16)
    {B : Nat} {v : Value} {l m : List Value} {A : Option Addr} {c : Nat} (hown : OwnV T B w v l) (hr : InV w A m) (h1m : ∀ v ∈ m, v.oneCell' = true) (hlen : l.length + m.length ≤ 1048576) (hB : B ≤ w.heap.size) :
    ∃ v' w', (Builtin.append_ #[ST, ST] ty #[v, .slice A m.length c]).run Tryz.prog w = .ok v' w' ∧ OwnV T B w' v' (l ++ m) ∧ w.grownBy w' v.ownBlock ∧ (v'.ownBlock = v.ownBlock ∨ v'.ownBlock = some w.heap.size) := by
  obtain ⟨i0, hi0, hz0, hz1, hz2⟩ := info_parts info
  rcases A with _ | ad
  · have hm : m = [] := by
      by_cases h0 : 0 < m.length
      · obtain ⟨ad, e, _⟩ := hr h0
        cases e
      · exact List.eq_nil_of_length_eq_zero (by omega)
    subst hm
    refine ⟨v, w, ?_, by simpa using hown, World.grownBy.refl w _, .inl rfl⟩
    rcases hown.2 with ⟨rfl, _⟩ | ⟨g, cap, cur, rfl, _, _, hn, _⟩
    · simp [Builtin.append_, run_underlying hST, sizeOf, typeInfo, hi0, Builtin.lenOf, Builtin.firstCells]
    · simp [Builtin.append_, run_underlying hST, sizeOf, typeInfo, hi0, Builtin.lenOf, Builtin.firstCells, hn, storeCells]
  · have hcells : ∀ j u, (m)[j]? = some u → w.cell? (ad.add j) = some u := by
      intro j u hu
      have hj : j < m.length := by exact (List.getElem?_eq_some_iff.1 hu).1
      obtain ⟨ad', e, -, hc⟩ := hr (by omega)
      obtain rfl : ad = ad' := Option.some.inj e
      rw [hc j hj, ← hu]; simp
    have hb : (l.length + m.length) * bytes ≤ 140737488355328 := Nat.le_trans (Nat.mul_le_mul hlen hby) (by decide)
    obtain ⟨v', w', hrun, h2, h3, _, h5⟩ := run_append_own_at (P := Tryz.prog) w B ST ty T i0 zv 1 bytes hST hi0 hz0 hz1 hz2 hzv (by decide) v l.length (l) hown ad m.length c (m) (by omega) hcells
      h1m (by simp only [maxLen]; omega) hb hB
    refine ⟨v', w', hrun, ?_, h3, h5⟩
    unfold OwnV
    rw [List.length_append]
    exact h2

set_option maxRecDepth 100000 in
theorem wpList_pushV {ops : Array Oper} {rest : List Oper} {o : Oper} {a : Act} {w : World} {Q : Exit → Act → World → Prop} (hgd : o.guard = none) (s x : Operand) (ST : TypeId)
    (ho : o.op = .call { callee := .builtin .append, args := #[s, x], argTypes := #[ST, ST] }) (bytes : Nat) {zv : Value} (hST : Tryz.prog.underlying ST = some (.slice T)) (info : (Tryz.prog.info? T).map (fun i => (i.zero, i.size, i.bytes)) = some (some zv, 1, bytes)) (hzv : zv.cells.size = 1) (hby : bytes ≤ 16) (B : Nat) (v : Value) (l m : List Value) (A : Option Addr) (c : Nat)
    (hs : a.eval s = v) (hx : a.eval x = .slice A m.length c) (hown : OwnV T B w v l) (hr : InV w A m) (h1m : ∀ v ∈ m, v.oneCell' = true) (hlen : l.length + m.length ≤ 1048576) (hB : B ≤ w.heap.size)
    (h : ∀ v' w', OwnV T B w' v' (l ++ m) → (∀ w0 : World, Below B w0 w → Below B w0 w') → w.heap.size ≤ w'.heap.size → wpList Tryz.prog ops Q rest (a.put o.dst v') w') : wpList Tryz.prog ops Q (o :: rest) a w := by
  obtain ⟨v', w', hrun, h2, h3, h5⟩ := pushV_run w ST o.type bytes hST info hzv hby hown hr h1m hlen hB
  refine wpList_plain hgd fun _ hK => ?_
  unfold Oper.wp execOp
  simp only [ho, resolve, invoke, builtin, Sem.run_bind, Sem.run_pure, Result.andThen_ok, List.map_toArray, List.map_cons, List.map_nil, hs, hx]
  rw [hrun]
  exact hK _ _ (h v' w' h2 (fun w0 hb => hb.grown h3 hB hown.lt) h3.size)
end

end Go.Proofs.YtbiedfkmmcaplaaGreatDoor

namespace Go.Proofs.YtbiedfkmmcaplaaGreatDoor
open Go.RowKit
attribute [local go_sem] Oper.semAt_some

structure Laid (w : World) : Prop where
  mx : ∃ m, w.cell? ⟨0, 0, none⟩ = some (.int .i64 m)
  tab : Lib.TabIs Tryz.prog w "internal/strconv.uint64pow10" .u64 Lib.pow10Tab
  syn : ∃ tp p, w.var? Tryz.prog "strconv.ErrSyntax" = some #[.iface tp p]
  rng : ∃ tp p, w.var? Tryz.prog "strconv.ErrRange" = some #[.iface tp p]
theorem var_below {w w' : World} {n : String} {cs : Array Value} (h : w.var? Tryz.prog n = some cs) (hb : Below w.heap.size w w') : w'.var? Tryz.prog n = some cs := by
  unfold World.var? at *
  cases hg : Tryz.prog.globalNamed n with
  | none => rw [hg] at h; cases h
  | some g =>
    rw [hg] at h
    simp only [Option.bind_some] at h ⊢
    have hlt : g < w.heap.size := by
      rcases Nat.lt_or_ge g w.heap.size with h1 | h1
      · exact h1
      · rw [Array.getElem?_eq_none h1] at h; cases h
    rw [hb.block g hlt]
    exact h
theorem Laid.below {w w' : World} (h : Laid w) (hb : Below w.heap.size w w') : Laid w' := by
  obtain ⟨⟨m, h1⟩, h2, ⟨tp, p, h3⟩, ⟨tq, q, h4⟩⟩ := h
  refine ⟨⟨m, ?_⟩, var_below h2 hb, ⟨tp, p, var_below h3 hb⟩, ⟨tq, q, var_below h4 hb⟩⟩
  have hlt : 0 < w.heap.size := by
    rcases Nat.lt_or_ge 0 w.heap.size with h5 | h5
    · exact h5
    · have : w.heap[0]? = none := Array.getElem?_eq_none h5
      rw [World.cell?, this] at h1; cases h1
  rw [← h1]
  exact hb.cell (p := ⟨0, 0, none⟩) hlt

def itoaB (n : Int) : ByteArray := ⟨(Lib.itoa n).toArray⟩
def i64In (n : Int) : Prop := -9223372036854775808 ≤ n ∧ n ≤ 9223372036854775807

theorem con_fmt (n : Int) (hn : i64In n) (w : World) (hL : Laid w) : Calls Tryz.prog 105 #[.int .i64 n, .int .i64 10] w fun e w' => e = .returned (.string (itoaB n)) ∧ Below w.heap.size w w' :=
  (Tryz.strconv_FormatInt_10 n hn.1 hn.2 w hL.tab).mono fun e w' ⟨h1, k, os, h2⟩ => by
    subst h2
    refine ⟨h1, ?_⟩
    have h3 : Below w.heap.size w (w.drewN k) := below_drewN (Below.refl _ _) k
    exact ⟨h3.os, h3.tape, h3.output, by simp [Sort.grow], fun j hj => by
      have := h3.block j hj
      rw [← this]
      have hsz : (w.drewN k).heap = w.heap := by simp
      simp only [Sort.grow]
      rw [Array.getElem?_append_left (by rw [hsz]; exact hj)]⟩

def strV (ss : List ByteArray) : List Value := ss.map Value.string
theorem strV_one (ss : List ByteArray) : ∀ v ∈ strV ss, v.oneCell' = true := by
  intro v hv
  obtain ⟨s, _, rfl⟩ := List.mem_map.1 hv
  rfl
theorem strV_len (ss : List ByteArray) : (strV ss).length = ss.length := by simp [strV]
theorem strV_get (ss : List ByteArray) (i : Nat) (hi : i < ss.length) : (strV ss)[i]? = some (.string ss[i]) := by simp [strV, hi]

def joinB (sep : ByteArray) (ss : List ByteArray) : ByteArray := ⟨(Lib.join (ss.map (·.data.toList)) sep.data.toList).toArray⟩
def bytesOf (ss : List ByteArray) : Nat := (ss.map ByteArray.size).sum

theorem join_len (sep : List UInt8) : ∀ (xs : List (List UInt8)), (Lib.join xs sep).length ≤ (xs.map List.length).sum + xs.length * sep.length := by
  intro xs
  unfold Lib.join
  induction xs with
  | nil => simp [List.intercalate]
  | cons x xs ih =>
    cases xs with
    | nil => simp [List.intercalate]
    | cons y ys =>
      simp only [List.intercalate, List.intersperse, List.flatten_cons, List.length_append, List.map_cons, List.sum_cons, List.length_cons] at *
      have e1 : (ys.length + 1 + 1) * sep.length = (ys.length + 1) * sep.length + sep.length := by rw [Nat.add_mul (ys.length + 1) 1, Nat.one_mul]
      rw [e1]
      generalize (ys.length + 1) * sep.length = q at *
      omega
theorem joinB_ok (sep : ByteArray) (ss : List ByteArray) (h1 : bytesOf ss ≤ 1000000000) (h2 : ss.length ≤ 1000000) (h3 : sep.size ≤ 1000) :
    (Lib.join (ss.map (·.data.toList)) sep.data.toList).length ≤ 140737488355328 := by
  have := join_len sep.data.toList (ss.map (·.data.toList))
  have e1 : ((ss.map (·.data.toList)).map List.length).sum = bytesOf ss := by
    unfold bytesOf
    rw [List.map_map]
    congr 1
  have e2 : sep.data.toList.length = sep.size := rfl
  rw [e1, e2, List.length_map] at this
  have h4 : ss.length * sep.size ≤ 1000000 * 1000 := Nat.mul_le_mul h2 h3
  omega

set_option maxRecDepth 100000 in
theorem con_joined (sep : ByteArray) (A : Option Addr) (c : Nat) (ss : List ByteArray) (w : World) (hR : RV 9 w A c (strV ss)) (h1 : bytesOf ss ≤ 1000000000) (h2 : ss.length ≤ 1000000) (h3 : sep.size ≤ 1000) :
    Calls Tryz.prog 29 #[.string sep, .slice A ss.length c] w fun e w' => e = .returned (.string (joinB sep ss)) ∧ Below w.heap.size w w' := by
  go_enter Tryz.func29, Tryz.ntmps29
  have cJ : ∀ w1, w1 = w → Calls Tryz.prog 81 #[.slice A ss.length c, .string sep] w1 fun e w' => e = .returned (.string (joinB sep ss)) ∧ Below w1.heap.size w1 w' := by
    rintro w1 rfl
    by_cases h0 : 0 < ss.length
    · obtain ⟨g, o, cur, rfl, hg, hc⟩ := hR.mem (by rw [strV_len]; exact h0)
      refine (Tryz.strings_Join g o c ss sep w1 (fun j x hx => ?_) (Array.getElem?_eq_some_iff.1 hg).1 (by omega) (by have := hR.cap; rw [strV_len] at this; exact this) (joinB_ok sep ss h1 h2 h3))
      have hj : j < ss.length := (List.getElem?_eq_some_iff.1 hx).1
      rw [cell_of_row w1 g (o + j) cur _ (0, 0) hg, hc j (by rw [strV_len]; exact hj)]
      have := strV_get ss j hj
      rw [List.getElem?_eq_getElem (by rw [strV_len]; exact hj)] at this
      rw [this]
      rw [List.getElem?_eq_getElem hj] at hx
      cases hx; rfl
    · have : ss = [] := List.eq_nil_of_length_eq_zero (by omega)
      subst this
      refine (Tryz.strings_Join_none A c sep w1).mono ?_
      rintro e w' ⟨rfl, rfl⟩
      exact ⟨rfl, Below.refl _ _⟩
  go_wp2_with fail
  refine (cJ _ rfl).mono ?_
  rintro e w2 ⟨rfl, hb⟩
  go_wp2
  go_ret
  exact ⟨rfl, hb⟩
end Go.Proofs.YtbiedfkmmcaplaaGreatDoor

namespace Go.Proofs.YtbiedfkmmcaplaaGreatDoor
open Go.RowKit

structure RK (T : TypeId) (k : Nat) (w : World) (A : Option Addr) (n c : Nat) (xs : List Value) : Prop where
  len : xs.length = n * k
  cap : n ≤ c
  top : c ≤ 9223372036854775807
  mem : 0 < n → ∃ g o cur, A = some ⟨g, o, none⟩ ∧ w.heap[g]? = some (.cells cur T (0, 0)) ∧ ∀ i, i < n * k → cur[o + i]? = xs[i]?

section
variable {T : TypeId} {k : Nat}
theorem RK.at_ {w : World} {A : Option Addr} {n c : Nat} {xs : List Value} (h : RK T k w A n c xs) (hn : 0 < n) :
    ∃ g o, A = some ⟨g, o, none⟩ ∧ g < w.heap.size ∧ ∀ i, i < n * k → w.cell? ⟨g, o + i, none⟩ = xs[i]? := by
  obtain ⟨g, o, cur, e, hg, hc⟩ := h.mem hn
  exact ⟨g, o, e, (Array.getElem?_eq_some_iff.1 hg).1, fun i hi => (cell_of_row w g _ cur _ (0, 0) hg).trans (hc i hi)⟩
theorem RK.below {w w' : World} {A : Option Addr} {n c : Nat} {xs : List Value} (h : RK T k w A n c xs) (hb : Below w.heap.size w w') : RK T k w' A n c xs :=
  ⟨h.len, h.cap, h.top, fun hl => by
    obtain ⟨g, o, cur, e, hg, hc⟩ := h.mem hl
    exact ⟨g, o, cur, e, (hb.block g (Array.getElem?_eq_some_iff.1 hg).1).trans hg, hc⟩⟩
theorem RK.exc {w w1 : World} {A : Option Addr} {n c q : Nat} {xs : List Value} {cs : Array Value} {t : TypeId} (h : RK T k w A n c xs) (hx : Exc q w w1) (hk : w.heap[q]? = some (.cells cs t (0, 0))) (ht : t ≠ T) : RK T k w1 A n c xs :=
  ⟨h.len, h.cap, h.top, fun hl => by
    obtain ⟨g, o, cur, e, hg, hc⟩ := h.mem hl
    have hne : g ≠ q := by
      rintro rfl
      rw [hg] at hk
      injection hk with hk
      injection hk with _ h2 _
      exact ht h2.symm
    exact ⟨g, o, cur, e, (hx.other g (Array.getElem?_eq_some_iff.1 hg).1 hne).trans hg, hc⟩⟩
theorem RK.nil (w : World) (A : Option Addr) (c : Nat) (hc : c ≤ 9223372036854775807) : RK T k w A 0 c [] := ⟨by simp, by omega, hc, fun h => by omega⟩

def InK (w : World) (X : Option Addr) (n k : Nat) (xs : List Value) : Prop :=
  xs.length = n * k ∧ (0 < n → ∃ ad, X = some ad ∧ ad.block < w.heap.size ∧ ∀ i, i < n * k → w.cell? (ad.add i) = xs[i]?)
theorem InK.below {w w' : World} {X : Option Addr} {n : Nat} {xs : List Value} (h : InK w X n k xs) (hb : Below w.heap.size w w') : InK w' X n k xs := ⟨h.1, fun h0 => by
  obtain ⟨ad, e, h1, h2⟩ := h.2 h0
  refine ⟨ad, e, Nat.lt_of_lt_of_le h1 hb.size, fun i hi => ?_⟩
  rw [← h2 i hi]
  exact hb.cell (p := ad.add i) (by rw [show (ad.add i).block = ad.block by unfold Addr.add; split <;> rfl]; exact h1)⟩
theorem RK.inK {w : World} {A : Option Addr} {n c : Nat} {xs : List Value} (h : RK T k w A n c xs) : InK w A n k xs := ⟨h.len, fun h0 => by
  obtain ⟨g, o, e, h1, h2⟩ := h.at_ h0
  refine ⟨_, e, h1, fun i hi => ?_⟩
  rw [← h2 i hi]
  congr 1
  unfold Addr.add
  split
  · next h0 => simp [h0]
  · rfl⟩
theorem InK.take {w : World} {X : Option Addr} {n m : Nat} {xs : List Value} (h : InK w X n k xs) (hm : m ≤ n) : InK w X m k (xs.take (m * k)) :=
  ⟨by rw [List.length_take, h.1]; have := Nat.mul_le_mul_right k hm; omega, fun h0 => by
    obtain ⟨ad, e, h1, h2⟩ := h.2 (by omega)
    refine ⟨ad, e, h1, fun i hi => ?_⟩
    have := Nat.mul_le_mul_right k hm
    rw [h2 i (by omega), List.getElem?_take, if_pos hi]⟩

def OwnK (T : TypeId) (k : Nat) (B : Nat) (w : World) (v : Value) (n : Nat) (xs : List Value) : Prop := w.ownsRow B T k v n xs
theorem OwnK.cr {B n : Nat} {w : World} {v : Value} {xs : List Value} (h : OwnK T k B w v n xs) : ∃ A c, v = .slice A n c ∧ RK T k w A n c xs := by
  obtain ⟨h1, ⟨rfl, h2⟩ | ⟨g, cap, cur, rfl, hb, hg, hn, hm, hs, ht⟩⟩ := h
  · exact ⟨none, 0, by rw [h2], h1, by omega, by omega, fun hl => by omega⟩
  · refine ⟨some ⟨g, 0, none⟩, cap, rfl, h1, hn, by unfold maxLen at hm; omega, fun hl => ⟨g, 0, cur, rfl, hg, fun i hi => ?_⟩⟩
    rw [← ht, List.getElem?_take, if_pos hi, Nat.zero_add]
    simp
theorem OwnK.lift {B n : Nat} {w w' : World} {v : Value} {xs : List Value} (h : OwnK T k B w v n xs) (hb : Below w.heap.size w w') : OwnK T k B w' v n xs := by
  obtain ⟨h1, h2⟩ := h
  refine ⟨h1, ?_⟩
  rcases h2 with h2 | ⟨g, cap, cur, h3, h4, h5, h6⟩
  · exact .inl h2
  · exact .inr ⟨g, cap, cur, h3, h4, (hb.block g (Array.getElem?_eq_some_iff.1 h5).1).trans h5, h6⟩
theorem OwnK.lt {B n : Nat} {w : World} {v : Value} {xs : List Value} (h : OwnK T k B w v n xs) : ∀ q, v.ownBlock = some q → B ≤ q := fun q hq => (World.ownsRow.lt h q hq).1
theorem OwnK.fresh (w : World) : OwnK T k w.heap.size (w.alloc (.cells #[] T)) (.slice (some ⟨w.heap.size, 0, none⟩) 0 0) 0 [] :=
  ⟨by simp, .inr ⟨w.heap.size, 0, _, rfl, Nat.le_refl _, na w _ _, Nat.le_refl _, by decide, by simp, by simp⟩⟩
theorem OwnK.nil (B : Nat) (w : World) : OwnK T k B w (.slice none 0 0) 0 [] := World.ownsRow_nil w B _ k
theorem OwnK.excP {B g n : Nat} {w w1 : World} {v : Value} {xs : List Value} (h : OwnK T k B w v n xs) (hx : Exc g w w1) (hg : g < B) : OwnK T k B w1 v n xs :=
  World.ownsRow.kept h ⟨hx.low.os, hx.low.tape, hx.low.output, hx.size, fun q hq hn => hx.other q hq (fun e => hn (by rw [e]))⟩ (.inr fun e => by have := h.lt g e; omega)

structure RS (T : TypeId) (k B : Nat) (w : World) (A : Option Addr) (n c : Nat) (xs : List Value) : Prop where
  rk : RK T k w A n c xs
  at0 : 0 < n → ∃ g cur, A = some ⟨g, 0, none⟩ ∧ w.heap[g]? = some (.cells cur T (0, 0)) ∧ cur.size = c * k ∧ B ≤ g
  non : n = 0 → A = none ∧ c = 0
theorem RS.below {B : Nat} {w w' : World} {A : Option Addr} {n c : Nat} {xs : List Value} (h : RS T k B w A n c xs) (hb : Below w.heap.size w w') : RS T k B w' A n c xs :=
  ⟨h.rk.below hb, fun hl => by
    obtain ⟨g, cur, e, hg, hc⟩ := h.at0 hl
    exact ⟨g, cur, e, (hb.block g (Array.getElem?_eq_some_iff.1 hg).1).trans hg, hc⟩, h.non⟩
theorem RS.mono {B B' : Nat} {w : World} {A : Option Addr} {n c : Nat} {xs : List Value} (h : RS T k B w A n c xs) (hB : B' ≤ B) : RS T k B' w A n c xs :=
  ⟨h.rk, fun hl => by
    obtain ⟨g, cur, e, hg, hc, hb⟩ := h.at0 hl
    exact ⟨g, cur, e, hg, hc, Nat.le_trans hB hb⟩, h.non⟩
theorem RS.exc {B : Nat} {w w1 : World} {A : Option Addr} {n c q : Nat} {xs : List Value} {cs : Array Value} {t : TypeId} (h : RS T k B w A n c xs) (hx : Exc q w w1) (hk : w.heap[q]? = some (.cells cs t (0, 0))) (ht : t ≠ T) : RS T k B w1 A n c xs :=
  ⟨h.rk.exc hx hk ht, fun hl => by
    obtain ⟨g, cur, e, hg, hc⟩ := h.at0 hl
    have hne : g ≠ q := by
      rintro rfl
      rw [hg] at hk
      injection hk with hk
      injection hk with _ h2 _
      exact ht h2.symm
    exact ⟨g, cur, e, (hx.other g (Array.getElem?_eq_some_iff.1 hg).1 hne).trans hg, hc⟩, h.non⟩
theorem RS.nil {B : Nat} (w : World) : RS T k B w none 0 0 [] := ⟨RK.nil _ _ _ (by omega), fun h => by omega, fun _ => ⟨rfl, rfl⟩⟩
theorem OwnK.crS {B n : Nat} {w : World} {v : Value} {xs : List Value} (h : OwnK T k B w v n xs) (h0 : n = 0 → v = .slice none 0 0) : ∃ A c, v = .slice A n c ∧ RS T k B w A n c xs := by
  rcases Nat.eq_zero_or_pos n with hn | hn
  · subst hn
    have e := h0 rfl
    subst e
    have hx : xs = [] := by
      apply List.eq_nil_of_length_eq_zero
      rw [h.1]
      exact Nat.zero_mul _
    subst hx
    exact ⟨none, 0, rfl, RS.nil w⟩
  · obtain ⟨A, c, e, hr⟩ := h.cr
    refine ⟨A, c, e, hr, fun _ => ?_, fun h => by omega⟩
    obtain ⟨h1, ⟨rfl, h2⟩ | ⟨g, cap, cur, rfl, hb, hg, hn', hm, hs, ht⟩⟩ := h
    · omega
    · injection e with e1 _ e3
      exact ⟨g, cur, e1.symm, hg, by rw [← e3]; exact hs, hb⟩

set_option maxRecDepth 100000 in
theorem pushK_run (w : World) (ST ty : TypeId) (bytes : Nat) {zv : Value} (hST : Tryz.prog.underlying ST = some (.slice T)) (info : (Tryz.prog.info? T).map (fun i => (i.zero, i.size, i.bytes)) = some (some zv, k, bytes)) (hzv : zv.cells.size = k) (hk : 0 < k) (hby : bytes ≤ 128)
    {B : Nat} {v : Value} {n m : Nat} {xs ys : List Value} {A : Option Addr} {c : Nat} (hown : OwnK T k B w v n xs) (hr : InK w A m k ys) (h1m : ∀ v ∈ ys, v.oneCell' = true) (hlen : n + m ≤ 1048576) (hB : B ≤ w.heap.size) :
    ∃ v' w', (Builtin.append_ #[ST, ST] ty #[v, .slice A m c]).run Tryz.prog w = .ok v' w' ∧ OwnK T k B w' v' (n + m) (xs ++ ys) ∧ w.grownBy w' v.ownBlock ∧ (v'.ownBlock = v.ownBlock ∨ v'.ownBlock = some w.heap.size) := by
  obtain ⟨i0, hi0, hz0, hz1, hz2⟩ := info_parts info
  rcases A with _ | ad
  · have hm : m = 0 := by
      rcases Nat.eq_zero_or_pos m with h0 | h0
      · exact h0
      · obtain ⟨ad, e, _⟩ := hr.2 h0
        cases e
    subst hm
    have hys : ys = [] := List.eq_nil_of_length_eq_zero (by rw [hr.1]; simp)
    subst hys
    refine ⟨v, w, ?_, by simpa using hown, World.grownBy.refl w _, .inl rfl⟩
    rcases hown.2 with ⟨rfl, _⟩ | ⟨g, cap, cur, rfl, _, _, hn, _⟩
    · simp [Builtin.append_, run_underlying hST, sizeOf, typeInfo, hi0, Builtin.lenOf, Builtin.firstCells]
    · simp [Builtin.append_, run_underlying hST, sizeOf, typeInfo, hi0, Builtin.lenOf, Builtin.firstCells, hn, storeCells]
  · have hcells : ∀ j u, ys[j]? = some u → w.cell? (ad.add j) = some u := by
      intro j u hu
      have hj : j < m * k := by rw [← hr.1]; exact (List.getElem?_eq_some_iff.1 hu).1
      have hm : 0 < m := by
        rcases Nat.eq_zero_or_pos m with h0 | h0
        · subst h0; simp at hj
        · exact h0
      obtain ⟨ad', e, -, hc⟩ := hr.2 hm
      obtain rfl : ad = ad' := Option.some.inj e
      rw [hc j hj, ← hu]
    have hb : (n + m) * bytes ≤ 140737488355328 := Nat.le_trans (Nat.mul_le_mul hlen hby) (by decide)
    obtain ⟨v', w', hrun, h2, h3, _, h5⟩ := run_append_own_at (P := Tryz.prog) w B ST ty T i0 zv k bytes hST hi0 hz0 hz1 hz2 hzv hk v n xs hown ad m c ys hr.1 hcells
      h1m (by simp only [maxLen]; omega) hb hB
    exact ⟨v', w', hrun, h2, h3, h5⟩

set_option maxRecDepth 100000 in
theorem wpList_pushK {ops : Array Oper} {rest : List Oper} {o : Oper} {a : Act} {w : World} {Q : Exit → Act → World → Prop} (hgd : o.guard = none) (s x : Operand) (ST : TypeId)
    (ho : o.op = .call { callee := .builtin .append, args := #[s, x], argTypes := #[ST, ST] }) (bytes : Nat) {zv : Value} (hST : Tryz.prog.underlying ST = some (.slice T)) (info : (Tryz.prog.info? T).map (fun i => (i.zero, i.size, i.bytes)) = some (some zv, k, bytes)) (hzv : zv.cells.size = k) (hk : 0 < k) (hby : bytes ≤ 128) (B : Nat) (v : Value) (n m : Nat) (xs ys : List Value) (A : Option Addr) (c : Nat)
    (hs : a.eval s = v) (hx : a.eval x = .slice A m c) (hown : OwnK T k B w v n xs) (hr : InK w A m k ys) (h1m : ∀ v ∈ ys, v.oneCell' = true) (hlen : n + m ≤ 1048576) (hB : B ≤ w.heap.size)
    (h : ∀ v' w', OwnK T k B w' v' (n + m) (xs ++ ys) → (∀ w0 : World, Below B w0 w → Below B w0 w') → w.heap.size ≤ w'.heap.size → wpList Tryz.prog ops Q rest (a.put o.dst v') w') : wpList Tryz.prog ops Q (o :: rest) a w := by
  obtain ⟨v', w', hrun, h2, h3, h5⟩ := pushK_run w ST o.type bytes hST info hzv hk hby hown hr h1m hlen hB
  refine wpList_plain hgd fun _ hK => ?_
  unfold Oper.wp execOp
  simp only [ho, resolve, invoke, builtin, Sem.run_bind, Sem.run_pure, Result.andThen_ok, List.map_toArray, List.map_cons, List.map_nil, hs, hx]
  rw [hrun]
  exact hK _ _ (h v' w' h2 (fun w0 hb => hb.grown h3 hB hown.lt) h3.size)
end
end Go.Proofs.YtbiedfkmmcaplaaGreatDoor

namespace Go.Proofs.YtbiedfkmmcaplaaGreatDoor
open Go.RowKit
attribute [local go_sem] Oper.semAt_some

theorem var_exc {w w' : World} {n : String} {cs cg : Array Value} {g : Nat} {t : TypeId} (h : w.var? Tryz.prog n = some cs) (hx : Exc g w w') (hg : w.heap[g]? = some (.cells cg t (0, 0))) (hne : cs ≠ cg) : w'.var? Tryz.prog n = some cs := by
  unfold World.var? at *
  cases hn : Tryz.prog.globalNamed n with
  | none => rw [hn] at h; cases h
  | some k =>
    rw [hn] at h
    simp only [Option.bind_some] at h ⊢
    have hlt : k < w.heap.size := by
      rcases Nat.lt_or_ge k w.heap.size with h1 | h1
      · exact h1
      · rw [Array.getElem?_eq_none h1] at h; cases h
    have hkg : k ≠ g := by
      rintro rfl
      rw [hg] at h
      simp at h
      exact hne h.symm
    rw [hx.other k hlt hkg]
    exact h
theorem Laid.exc {w w' : World} {g n c : Nat} {A : Option Addr} {t : TypeId} (h : Laid w) (hx : Exc g w w') (hg : w.heap[g]? = some (.cells #[.slice A n c] t (0, 0))) : Laid w' := by
  obtain ⟨⟨m, h1⟩, h2, ⟨tp, p, h3⟩, ⟨tq, q, h4⟩⟩ := h
  refine ⟨⟨m, ?_⟩, var_exc h2 hx hg ?_, ⟨tp, p, var_exc h3 hx hg ?_⟩, ⟨tq, q, var_exc h4 hx hg ?_⟩⟩
  · have hlt : 0 < w.heap.size := by
      rcases Nat.lt_or_ge 0 w.heap.size with h5 | h5
      · exact h5
      · have : w.heap[0]? = none := Array.getElem?_eq_none h5
        rw [World.cell?, this] at h1; cases h1
    have hg0 : 0 ≠ g := by
      rintro rfl
      rw [World.cell?, hg] at h1
      simp at h1
    rw [← h1]
    unfold World.cell?
    rw [hx.other 0 hlt hg0]
  · intro he
    have := congrArg (fun a => a.size) he
    simp [Lib.pow10Tab] at this
  · intro he; simp at he
  · intro he; simp at he

def pn (z : Int) : PanicEntry := { v := .iface 39 (.int .i64 z), recovered := false }
structure Wd (g : Nat) (ws : List ByteArray) (w : World) : Prop where
  hg : ∃ A c, w.heap[g]? = some (.cells #[.slice A ws.length c] 62 (0, 0)) ∧ RV 9 w A c (strV ws) ∧ ∀ a, A = some a → a.block < g
  lay : Laid w
  sz : ∀ s ∈ ws, s.size ≤ 1000000
  ln : ws.length ≤ 1000000
theorem Wd.lt {g : Nat} {ws : List ByteArray} {w : World} (h : Wd g ws w) : g < w.heap.size := by
  obtain ⟨A, c, h1, _⟩ := h.hg
  exact (Array.getElem?_eq_some_iff.1 h1).1
theorem Wd.below {g : Nat} {ws : List ByteArray} {w w' : World} (h : Wd g ws w) (hb : Below w.heap.size w w') : Wd g ws w' := by
  obtain ⟨A, c, h1, h2, h3⟩ := h.hg
  exact ⟨⟨A, c, kp hb h1, h2.below hb, h3⟩, h.lay.below hb, h.sz, h.ln⟩
theorem RV.low {T : TypeId} {w w' : World} {A : Option Addr} {c B : Nat} {l : List Value} (h : RV T w A c l) (hb : Below B w w') (hA : ∀ a, A = some a → a.block < B) : RV T w' A c l :=
  ⟨h.cap, h.top, fun hl => by
    obtain ⟨g, o, cur, e, hg, hc⟩ := h.mem hl
    exact ⟨g, o, cur, e, (hb.block g (hA _ e)).trans hg, hc⟩⟩
theorem Wd.low {g B : Nat} {ws : List ByteArray} {w w' : World} (h : Wd g ws w) (hb : Below B w w') (hg : g < B) (hl : Laid w') : Wd g ws w' := by
  obtain ⟨A, c, h1, h2, h3⟩ := h.hg
  exact ⟨⟨A, c, (hb.block g hg).trans h1, h2.low hb (fun a e => Nat.lt_trans (h3 a e) hg), h3⟩, hl, h.sz, h.ln⟩
def RPc {α : Type} (g : Nat) (V : α → Value) (r : Option (α × List ByteArray)) (w : World) (e : Ending) (w' : World) : Prop :=
  match r with
  | some (x, ws) => e = .returned (V x) ∧ Exc g w w' ∧ Wd g ws w'
  | none => e = .panicked [pn 410] ∧ Exc g w w'

theorem must_yes (w : World) : Calls Tryz.prog 18 #[.bool true] w fun e w' => e = .returned (.tuple #[]) ∧ w = w' := by
  go_enter Tryz.func18, Tryz.ntmps18
  go_wp2
  go_end0
  exact ⟨rfl, rfl⟩
theorem must_no (w : World) : Calls Tryz.prog 18 #[.bool false] w fun e w' => e = .panicked [pn 410] ∧ w = w' := by
  go_enter Tryz.func18, Tryz.ntmps18
  go_wp2
  exact ⟨rfl, rfl, rfl⟩

def pNext : List ByteArray → Option (ByteArray × List ByteArray)
  | [] => none
  | s :: l => some (s, l)

set_option maxRecDepth 100000 in
set_option maxHeartbeats 4000000 in
theorem r_next (g : Nat) (ws : List ByteArray) (w : World) (h : Wd g ws w) :
    Calls Tryz.prog 23 #[.pointer (some ⟨g, 0, none⟩)] w (RPc g Value.string (pNext ws) w) := by
  have lg := h.lt
  obtain ⟨A, c, hg, hr, hlow⟩ := h.hg
  cases ws with
  | nil =>
    simp only [pNext]
    have c1 := must_no
    obtain ⟨z1, z2, z3⟩ := rcell hg
    go_enter Tryz.func23, Tryz.ntmps23
    go_wp2_with fail
    refine (c1 _).mono ?_
    rintro e w2 ⟨rfl, rfl⟩
    go_wp2
    exact ⟨rfl, rfl, x0 g w (Nat.le_of_lt lg)⟩
  | cons s l =>
    simp only [pNext]
    have c1 := must_yes
    have hcap := hr.cap
    have htop := hr.top
    have hln := h.ln
    have hsl : (strV (s :: l)).length = l.length + 1 := by simp [strV_len]
    rw [hsl] at hcap
    obtain ⟨b, o, rfl, hc⟩ := hr.at_ (k := 0) (by omega)
    have e1 : (strV (s :: l))[0]'(by omega) = .string s := rfl
    rw [e1] at hc
    have HR := hide hr
    have HW := hide h
    clear hr h e1
    obtain ⟨z1, z2, z3⟩ := rcell hg
    have z1' := z1
    simp only [List.length_cons] at z1 hg
    go_enter Tryz.func23, Tryz.ntmps23
    go_wp2_with fail
    refine (c1 _).mono ?_
    rintro e w2 ⟨rfl, rfl⟩
    have hc0 : w.cell? { block := b, off := o } = some (Value.string s) := hc
    go_wp2_with fail
    have e3 : ((l.length : Int) + 1).toNat = l.length + 1 := by omega
    refine Abs.wp_region_abs (Abs.cls0 _) [0, 1, 2, 3, 4, 5, 6, 7, 8, 9, 10, 11, 12, 13, 14, 15, 16, 17, 18, 19, 20, 21, 22] (by kernel_rfl) (by kernel_rfl) (Below.refl _ _).drew ?_
    repeat (first | (refine Abs.step_pure rfl rfl (fun K hK => ?_); go_simp; (try go_bits); (first | refine hK _ _ ?_ | (simp only [↓IntWalk.iteOmega]; go_simp; (try go_bits); refine hK _ _ ?_)); clear hK K) | (refine Abs.step_load (v := ?_) rfl rfl (by kernel_rfl) rfl (fun w0 hI => ?_) (fun K hK => ?_); rotate_left; (· have z0 := (rcell (kp hI (hg))).1; go_simp; rfl); (simp only [Act.put, List.setIfInBounds_toArray, List.set_cons_zero, List.set_cons_succ]; refine hK _ _ ?_; clear hK K)))
    (refine Abs.step_store (T := ?_) rfl rfl rfl (fun w0 hI hF hU => ?_) (fun w0 hI hU hJ => ?_) (fun K hK => ?_); rotate_left; (· have hR := kp hI hg; have hg0 := (rcell hR).1; have hg1 := (rcell hR).2.1; simp only [Abs.T_setF, Abs.T_addA, Abs.T_push, Abs.T_start]; go_simp; exact row1 hR _); (· first | exact trivial | exact js hJ rfl _ | exact js hJ (Or.inl rfl) _ | exact js hJ (Or.inr rfl) _); (simp only [Act.put, List.setIfInBounds_toArray, List.set_cons_zero, List.set_cons_succ]; refine hK _ _ ?_; clear hK K))
    (intro w0 hI hF hx1 hx2; clear hx1 hx2 hF; simp only [Abs.T_push]; generalize hT1 : setRow w0 _ _ = w1; obtain ⟨hx1, f1⟩ := fin_x hI hg hT1; clear hT1 hI w0)
    generalize hA : (if l = [] then some ({ block := b, off := o } : Addr) else some { block := b, off := o + 1 }) = A1 at f1 ⊢
    go_wp2_with fail
    go_ret
    show _ ∧ Exc g w w1 ∧ Wd g l w1
    refine ⟨rfl, hx1, ?_⟩
    have hr := HR.out
    have h := HW.out
    have hd := hr.drop 1 (by omega)
    have hl1 : (strV (s :: l)).drop 1 = strV l := rfl
    rw [hl1] at hd
    have hr1 := hd.exc (w1 := w1) hx1 hg (by decide)
    have hlow1 : ∀ a, A1 = some a → a.block < g := by
      have hbg : b < g := hlow _ rfl
      rw [← hA]
      intro a ha
      split at ha
      · cases ha; exact hbg
      · cases ha; exact hbg
    refine ⟨⟨_, l.length, f1, ?_, hlow1⟩, h.lay.exc hx1 hg, fun s' hs' => h.sz s' (List.mem_cons_of_mem _ hs'), by have := h.ln; simp at this; omega⟩
    have hll : (strV l).length = l.length := strV_len l
    refine ⟨by omega, by omega, fun hl => ?_⟩
    have hne : l ≠ [] := by rintro rfl; simp [strV] at hl
    rw [if_neg hne] at hA
    subst hA
    obtain ⟨g', o', cur, e', h3, h4⟩ := hr1.mem hl
    have hc1 : ¬ c = 1 := by omega
    rw [if_neg hc1] at e'
    refine ⟨g', o', cur, ?_, h3, h4⟩
    rw [← e']
    show some _ = some (Addr.add _ _)
    unfold Addr.add
    simp
end Go.Proofs.YtbiedfkmmcaplaaGreatDoor

namespace Go.Proofs.YtbiedfkmmcaplaaGreatDoor
open Go.RowKit
attribute [local go_sem] Oper.semAt_some

def pName (ws : List ByteArray) : Option (ByteArray × List ByteArray) :=
  match ws with
  | [] => none
  | s :: l => if s.size ≤ 40 then some (s, l) else none

set_option maxRecDepth 100000 in
set_option maxHeartbeats 4000000 in
theorem r_name (g : Nat) (ws : List ByteArray) (w : World) (h : Wd g ws w) :
    Calls Tryz.prog 94 #[.pointer (some ⟨g, 0, none⟩)] w (RPc g Value.string (pName ws) w) := by
  have c0 := r_next g ws
  have c1 := must_yes
  have c2 := must_no
  have HW := hide h
  have hsz := h.sz
  cases ws with
  | nil =>
    clear hsz h
    simp only [pNext, pName] at *
    go_enter Tryz.func94, Tryz.ntmps94
    go_wp2_with fail
    refine (c0 _ HW.out).mono ?_
    rintro e w2 ⟨rfl, hx⟩
    go_wp2
    exact ⟨rfl, rfl, hx⟩
  | cons s l =>
    have hs := hsz s (by simp)
    clear hsz h
    simp only [pNext, pName] at *
    by_cases h40 : s.size ≤ 40
    · rw [if_pos h40]
      have e1 : decide ((s.size : Int) ≤ 40) = true := decide_eq_true (by omega)
      go_enter Tryz.func94, Tryz.ntmps94
      go_wp2_with fail
      refine (c0 _ HW.out).mono ?_
      rintro e w2 ⟨rfl, hx, hw⟩
      go_wp2_with fail
      refine (c1 _).mono ?_
      rintro e w3 ⟨rfl, rfl⟩
      go_wp2_with fail
      go_ret
      exact ⟨rfl, hx, hw⟩
    · rw [if_neg h40]
      have e1 : decide ((s.size : Int) ≤ 40) = false := decide_eq_false (by omega)
      go_enter Tryz.func94, Tryz.ntmps94
      go_wp2_with fail
      refine (c0 _ HW.out).mono ?_
      rintro e w2 ⟨rfl, hx, hw⟩
      go_wp2_with fail
      refine (c2 _).mono ?_
      rintro e w3 ⟨rfl, rfl⟩
      go_wp2
      exact ⟨rfl, rfl, hx⟩

theorem strNe {a b : ByteArray} (h : a ≠ b) : (a.toList == b.toList) = false := by
  rw [← beq_toListBytes]
  obtain ⟨a⟩ := a
  obtain ⟨b⟩ := b
  show (a == b) = false
  have : a ≠ b := fun e => h (by rw [e])
  simpa using this
theorem strEq (a : ByteArray) : (a.toList == a.toList) = true := by simp

def numW (s : ByteArray) : Option Int :=
  match Lib.parseIntB 64 s.data.toList with
  | .ok v => if itoaB v = s then some v else none
  | _ => none
def pNum (ws : List ByteArray) : Option (Int × List ByteArray) :=
  match ws with
  | [] => none
  | s :: l => match numW s with
    | some v => some (v, l)
    | none => none

theorem con_parse_bad (s : ByteArray) (hs : s.size ≤ 1000000) (h : ∀ v, Lib.parseIntB 64 s.data.toList ≠ .ok v) (w : World) (hL : Laid w) :
    Calls Tryz.prog 104 #[.string s, .int .i64 10, .int .i64 64] w fun e w' => ∃ v N, e = .returned (.tuple #[.int .i64 v, .iface 356 (.pointer (some ⟨N, 0, none⟩))]) ∧ Below w.heap.size w w' := by
  cases hp : Lib.parseIntB 64 s.data.toList
  case ok v => exact absurd hp (h v)
  case range =>
    obtain ⟨tp, p, hv⟩ := hL.rng
    exact (Tryz.strconv_ParseInt_10_at64_range_var s (by omega) hp tp p w hv).mono fun e w' ⟨N, h1, _, _, h2⟩ => ⟨_, N, h1, h2⟩
  obtain ⟨tp, p, hv⟩ := hL.syn
  have h9 : Calls Tryz.prog 104 #[.string s, .int .i64 10, .int .i64 64] w fun e w' => ∃ N, e = .returned (.tuple #[.int .i64 (0), .iface 356 (.pointer (some ⟨N, 0, none⟩))]) ∧ w.heap.size ≤ N ∧ w'.heap[N]? = some (.cells #[.string ⟨#[80, 97, 114, 115, 101, 73, 110, 116]⟩, .string s, .iface tp p] 449 (0, 0)) ∧ Below w.heap.size w w' := Any.strconv_ParseInt_10_at64_syntax_var Tryz.laysC174 s (by omega) hp tp p w hv
  exact h9.mono fun e w' ⟨N, h1, _, _, h2⟩ => ⟨_, N, h1, h2⟩
theorem con_parse_ok (s : ByteArray) (hs : s.size ≤ 1000000) (v : Int) (h : Lib.parseIntB 64 s.data.toList = .ok v) (w : World) :
    Calls Tryz.prog 104 #[.string s, .int .i64 10, .int .i64 64] w fun e w' => e = .returned (.tuple #[.int .i64 v, .nilIface]) ∧ Below w.heap.size w w' :=
  (Tryz.strconv_ParseInt_10_at64_ok s (by omega) v h w).mono fun e w' ⟨h1, h2⟩ => ⟨h1, by
    rcases h2 with rfl | ⟨t, rfl⟩
    · exact b0 _
    · exact Lib.bytesWorld_below _ _ _⟩
theorem parse_in (s : ByteArray) (v : Int) (h : Lib.parseIntB 64 s.data.toList = .ok v) : i64In v := by
  unfold Lib.parseIntB at h
  unfold i64In
  split at h
  · cases h
  · simp only at h
    split at h
    · cases h
    · cases h
    · rename_i u _
      split at h
      · cases h
      · split at h
        · cases h
        · rename_i h1 h2
          injection h with h
          have e63 : (2 : Nat) ^ (64 - 1) = 9223372036854775808 := by decide
          rw [e63] at h1 h2
          subst h
          split <;> omega

set_option maxRecDepth 100000 in
set_option maxHeartbeats 4000000 in
theorem r_number (g : Nat) (ws : List ByteArray) (w : World) (h : Wd g ws w) :
    Calls Tryz.prog 54 #[.pointer (some ⟨g, 0, none⟩)] w (RPc g (Value.int .i64) (pNum ws) w) := by
  have c0 := r_next g ws
  have c1 := must_yes
  have c2 := must_no
  have HW := hide h
  have hsz := h.sz
  have lg := h.lt
  cases ws with
  | nil =>
    clear hsz h
    simp only [pNext, pNum] at *
    go_enter Tryz.func54, Tryz.ntmps54
    go_wp2_with fail
    refine (c0 _ HW.out).mono ?_
    rintro e w2 ⟨rfl, hx⟩
    go_wp2
    exact ⟨rfl, rfl, hx⟩
  | cons s l =>
    have hs := hsz s (by simp)
    clear hsz h
    simp only [pNext, pNum, numW] at *
    cases hp : Lib.parseIntB 64 s.data.toList
    case ok v =>
      have c3 := con_parse_ok s hs v hp
      have hv := hide (parse_in s v hp)
      have c4 := fun w hL => con_fmt v hv.out w hL
      clear hp
      by_cases hq : itoaB v = s
      · simp only [if_pos hq]
        go_enter Tryz.func54, Tryz.ntmps54
        go_wp2_with fail
        refine (c0 _ HW.out).mono ?_
        rintro e w2 ⟨rfl, hx, hw⟩
        have lw := hx.size
        go_wp2_with fail
        refine (c3 _).mono ?_
        rintro e w3 ⟨rfl, hb3⟩
        have hw3 := hw.below hb3
        have hx3 := xB hx hb3
        go_wp2_with fail
        refine (c4 _ hw3.lay).mono ?_
        rintro e w4 ⟨rfl, hb4⟩
        have hw4 := hw3.below hb4
        have hx4 := xB hx3 hb4
        rw [hq]
        go_wp2_with fail
        refine (c1 _).mono ?_
        rintro e w5 ⟨rfl, rfl⟩
        go_wp2_with fail
        go_ret
        exact ⟨rfl, hx4, hw4⟩
      · simp only [if_neg hq]
        go_enter Tryz.func54, Tryz.ntmps54
        go_wp2_with fail
        refine (c0 _ HW.out).mono ?_
        rintro e w2 ⟨rfl, hx, hw⟩
        go_wp2_with fail
        refine (c3 _).mono ?_
        rintro e w3 ⟨rfl, hb3⟩
        have hw3 := hw.below hb3
        have hx3 := xB hx hb3
        go_wp2_with fail
        refine (c4 _ hw3.lay).mono ?_
        rintro e w4 ⟨rfl, hb4⟩
        have hx4 := xB hx3 hb4
        have hqq := strNe hq
        go_wp2_with fail
        refine (c2 _).mono ?_
        rintro e w5 ⟨rfl, rfl⟩
        go_wp2
        exact ⟨rfl, rfl, hx4⟩
    all_goals
      have c3 := fun w hL => con_parse_bad s hs (by rw [hp]; simp) w hL
      clear hp
      simp only
      go_enter Tryz.func54, Tryz.ntmps54
      go_wp2_with fail
      refine (c0 _ HW.out).mono ?_
      rintro e w2 ⟨rfl, hx, hw⟩
      go_wp2_with fail
      refine (c3 _ hw.lay).mono ?_
      rintro e w3 ⟨v, N, rfl, hb3⟩
      have hx3 := xB hx hb3
      go_wp2_with fail
      refine (c2 _).mono ?_
      rintro e w5 ⟨rfl, rfl⟩
      go_wp2
      exact ⟨rfl, rfl, hx3⟩

end Go.Proofs.YtbiedfkmmcaplaaGreatDoor

namespace Go.Proofs.YtbiedfkmmcaplaaGreatDoor
open Go.RowKit
attribute [local go_sem] Oper.semAt_some

def hexD (b : UInt8) : Option Nat := if 48 ≤ b.toNat ∧ b.toNat ≤ 57 then some (b.toNat - 48) else if 97 ≤ b.toNat ∧ b.toNat ≤ 102 then some (b.toNat - 87) else none
def hexW : List UInt8 → Nat → Option Nat
  | [], n => some n
  | b :: r, n => match hexD b with | some d => hexW r (16 * n + d) | none => none
def hexDs : List UInt8 := [48, 49, 50, 51, 52, 53, 54, 55, 56, 57, 97, 98, 99, 100, 101, 102]
set_option maxRecDepth 100000 in
theorem hex_at : ∀ b : UInt8, Lib.indexByte hexDs b = match hexD b with | some d => (d : Int) | none => -1 := by
  have h : ∀ n : Fin 256, Lib.indexByte hexDs (UInt8.ofNat n.val) = match hexD (UInt8.ofNat n.val) with | some d => (d : Int) | none => -1 := by decide
  intro b
  have := h ⟨b.toNat, b.toNat_lt⟩
  simpa using this
theorem hexD_lt {b : UInt8} {d : Nat} (h : hexD b = some d) : d < 16 ∧ b.toNat < 128 := by
  unfold hexD at h
  split at h
  · cases h; omega
  · split at h
    · cases h; omega
    · cases h
theorem hex_put {n d : Nat} (hn : n < 1152921504606846976) (hd : d < 16) : bits .or .u64 (IntKind.u64.wrap ((n : Int) * 16)) (d : Int) = ((16 * n + d : Nat) : Int) := by
  have e : IntKind.u64.wrap ((n : Int) * 16) = ((16 * n : Nat) : Int) := by
    simp [IntKind.wrap, IntKind.bits, IntKind.signed]
    omega
  rw [e, bits_or_u64_nat (16 * n) d (by omega) (by omega)]
  have := Nat.two_pow_add_eq_or_of_lt (i := 4) (b := d) (by omega) n
  simp only [show (2 : Nat) ^ 4 = 16 from rfl] at this
  rw [this]
theorem drop_at (s : ByteArray) (k : Nat) (h : k < s.size) : s.data.toList.drop k = s[k] :: s.data.toList.drop (k + 1) := by
  have : k < s.data.toList.length := by simpa using h
  rw [List.drop_eq_getElem_cons this]
  rfl
def pBits (ws : List ByteArray) : Option (Int × List ByteArray) :=
  match ws with
  | [] => none
  | s :: l => if s.size = 16 then (match hexW s.data.toList 0 with | some n => some ((n : Int), l) | none => none) else none

set_option maxRecDepth 100000 in
set_option maxHeartbeats 4000000 in
theorem r_bits (g : Nat) (ws : List ByteArray) (w : World) (h : Wd g ws w) :
    Calls Tryz.prog 97 #[.pointer (some ⟨g, 0, none⟩)] w (RPc g (Value.int .u64) (pBits ws) w) := by
  have c0 := r_next g ws
  have c1 := must_yes
  have c2 := must_no
  have HW := hide h
  have hsz := h.sz
  have lg := h.lt
  cases ws with
  | nil =>
    clear hsz h
    simp only [pNext, pBits] at *
    go_enter Tryz.func97, Tryz.ntmps97
    go_wp2_with fail
    refine (c0 _ HW.out).mono ?_
    rintro e w2 ⟨rfl, hx⟩
    go_wp2
    exact ⟨rfl, rfl, hx⟩
  | cons s l =>
    have hs := hsz s (by simp)
    clear hsz h
    simp only [pNext, pBits] at *
    by_cases h16 : s.size = 16
    · rw [if_pos h16]
      obtain ⟨R, hR⟩ : ∃ R, R = (match hexW s.data.toList 0 with | some n => some ((n : Int), l) | none => none) := ⟨_, rfl⟩
      have HR := hide hR
      rw [← hR]
      clear hR
      have e1 : decide ((s.size : Int) = 16) = true := decide_eq_true (by omega)
      have e2 : ((s.size : Int) == 16) = true := by simp [h16]
      go_enter Tryz.func97, Tryz.ntmps97
      go_wp2_with fail
      refine (c0 _ HW.out).mono ?_
      rintro e w2 ⟨rfl, hx, hw⟩
      go_wp2_with fail
      refine (c1 _).mono ?_
      rintro e w3 ⟨rfl, rfl⟩
      have HX := hide (And.intro hx hw)
      clear hx hw
      go_wp2_with fail
      go_loopw [4] (fun vn wr => ∃ (k n : Nat), wr = w2.iter s k ∧ vn = .int .u64 (n : Int) ∧ k ≤ s.size ∧ n < 16 ^ k ∧ Hid (hexW (s.data.toList.drop k) n = hexW s.data.toList 0)) (fun _ wr => s.size - wr.iterPos w2.heap.size)
      case atStart => exact ⟨0, 0, rfl, rfl, by omega, by decide, hide rfl⟩
      case round =>
        obtain ⟨k, n, rfl, rfl, hk, hn, HH⟩ := hrel
        by_cases hp : k < s.size
        · have hnx : ∀ ty, (Instr.next (.pointer (some ⟨w2.heap.size, 0, none⟩)) true ty).run Tryz.prog (w2.iter s k) = _ := fun ty => run_next_any w2 s k ty hp
          have hdrop : s.data.toList.drop k = s[k] :: s.data.toList.drop (k + 1) := drop_at s k hp
          rw [hdrop] at HH
          by_cases ha : (s[k]'hp).toNat < 128
          · rw [decode_ascii s k hp ha] at hnx
            simp only at hnx
            obtain ⟨b, hb⟩ : ∃ b, b = s[k]'hp := ⟨_, rfl⟩
            rw [← hb] at ha hnx HH
            clear hb hdrop
            have cX := fun w => Tryz.strings_IndexByte ⟨#[48, 49, 50, 51, 52, 53, 54, 55, 56, 57, 97, 98, 99, 100, 101, 102]⟩ (b.toNat : Int) w
            have eX : Lib.indexByte (ByteArray.mk #[48, 49, 50, 51, 52, 53, 54, 55, 56, 57, 97, 98, 99, 100, 101, 102]).data.toList ((b.toNat : Int)).toNat.toUInt8 = Lib.indexByte hexDs b := by
              rw [Int.toNat_natCast]
              simp [hexDs]
            rw [eX, hex_at] at cX
            clear eX
            have e3 : decide ((b.toNat : Int) < 128) = true := decide_eq_true (by omega)
            cases hd : hexD b with
            | none =>
              rw [hd] at cX
              simp only at cX
              have HN : Hid (hexW s.data.toList 0 = none) := hide (by rw [← HH.out]; simp [hexW, hd])
              clear HH hd
              go_wp2_with fail
              refine (cX _).mono ?_
              rintro e w4 ⟨rfl, rfl⟩
              go_wp2_with fail
              refine (c2 _).mono ?_
              rintro e w5 ⟨rfl, rfl⟩
              go_wp2
              have hR := HR.out
              rw [HN.out] at hR
              subst hR
              exact ⟨rfl, rfl, xA HX.out.1 _⟩
            | some d =>
              rw [hd] at cX
              simp only at cX
              have hd16 := (hexD_lt hd).1
              have HN := hide (show hexW (s.data.toList.drop (k + 1)) (16 * n + d) = hexW s.data.toList 0 by rw [← HH.out]; simp [hexW, hd])
              clear HH hd
              go_wp2_with fail
              refine (cX _).mono ?_
              rintro e w4 ⟨rfl, rfl⟩
              go_wp2_with fail
              refine (c1 _).mono ?_
              rintro e w5 ⟨rfl, rfl⟩
              go_wp2_with fail
              have hk16 : 16 ^ k ≤ 16 ^ 15 := Nat.pow_le_pow_right (by omega) (by omega)
              have hn60 : n < 1152921504606846976 := Nat.lt_of_lt_of_le hn hk16
              rw [hex_put hn60 hd16]
              go_roundw
              case rel => exact ⟨k + 1, 16 * n + d, rfl, rfl, by omega, by rw [Nat.pow_succ]; omega, HN⟩
              case measure =>
                simp
                omega
          · obtain ⟨b, hb⟩ : ∃ b, b = s[k]'hp := ⟨_, rfl⟩
            have hdec := decode_high s k hp (by omega)
            rw [← hb] at ha HH
            clear hb hdrop
            obtain ⟨⟨cc, dd⟩, hcd⟩ : ∃ p, p = Utf8.decode s k := ⟨_, rfl⟩
            rw [← hcd] at hnx hdec
            clear hcd
            simp only at hnx hdec
            have cX := fun w x => Tryz.strings_IndexByte ⟨#[48, 49, 50, 51, 52, 53, 54, 55, 56, 57, 97, 98, 99, 100, 101, 102]⟩ x w
            have e3 : decide ((cc : Int) < 128) = false := decide_eq_false (by omega)
            have hd : hexD b = none := by
              cases h : hexD b with
              | none => rfl
              | some d => exact absurd (hexD_lt h).2 ha
            have HN : Hid (hexW s.data.toList 0 = none) := hide (by rw [← HH.out]; simp [hexW, hd])
            clear HH hd
            go_wp2_with fail
            refine (cX _ _).mono ?_
            rintro e w4 ⟨rfl, rfl⟩
            go_wp2_with fail
            refine (c2 _).mono ?_
            rintro e w5 ⟨rfl, rfl⟩
            go_wp2
            have hR := HR.out
            rw [HN.out] at hR
            subst hR
            exact ⟨rfl, rfl, xA HX.out.1 _⟩
        · have hnx : ∀ ty, (Instr.next (.pointer (some ⟨w2.heap.size, 0, none⟩)) true ty).run Tryz.prog (w2.iter s k) = _ := fun ty => run_next_end w2 s k ty hp
          go_wp2_with fail
          go_ret
          have hR := HR.out
          have hH := HH.out
          rw [List.drop_eq_nil_of_le (by simp; omega)] at hH
          rw [← hH] at hR
          simp only [hexW] at hR
          subst hR
          exact ⟨rfl, xA HX.out.1 _, HX.out.2.below (bA (b0 _) _)⟩
    · rw [if_neg h16]
      have e1 : decide ((s.size : Int) = 16) = false := decide_eq_false (by omega)
      have e2 : ((s.size : Int) == 16) = false := by simp; omega
      go_enter Tryz.func97, Tryz.ntmps97
      go_wp2_with fail
      refine (c0 _ HW.out).mono ?_
      rintro e w2 ⟨rfl, hx, hw⟩
      go_wp2_with fail
      refine (c2 _).mono ?_
      rintro e w3 ⟨rfl, rfl⟩
      go_wp2
      exact ⟨rfl, rfl, hx⟩
end Go.Proofs.YtbiedfkmmcaplaaGreatDoor

namespace Go.Proofs.YtbiedfkmmcaplaaGreatDoor
open Go.RowKit
attribute [local go_sem] Oper.semAt_some

def pPoint (ws : List ByteArray) : Option ((Int × Int) × List ByteArray) :=
  match pNum ws with
  | none => none
  | some (t, l) => match pNum l with
    | none => none
    | some (v, r) => some ((t, v), r)
def ptV (x : Int × Int) : Value := .agg #[.int .i64 x.1, .int .i64 x.2]

theorem Wd.ne {g p : Nat} {ws : List ByteArray} {w : World} {cs : Array Value} {t : TypeId} (h : Wd g ws w) (hp : w.heap[p]? = some (.cells cs t (0, 0))) (ht : t ≠ 62) : p ≠ g := by
  rintro rfl
  obtain ⟨A, c, h1, _⟩ := h.hg
  rw [hp] at h1
  injection h1 with h1
  injection h1 with _ h2 _
  exact ht h2

theorem Wd.of {g r : Nat} {ws : List ByteArray} {w w' : World} {cs : Array Value} {t : TypeId} (h : Wd g ws w) (hx : Exc r w w') (hr : w.heap[r]? = some (.cells cs t (0, 0))) (h1 : t ≠ 62) (h2 : t ≠ 9) (hl : Laid w') : Wd g ws w' := by
  have hne := h.ne hr h1
  obtain ⟨A, c, h3, h4, h5⟩ := h.hg
  exact ⟨⟨A, c, kx hx h3 hne.symm, h4.exc hx hr h2, h5⟩, hl, h.sz, h.ln⟩
theorem Wd.layX {g : Nat} {ws : List ByteArray} {w w' : World} (h : Wd g ws w) (hx : Exc g w w') : Laid w' := by
  obtain ⟨A, c, h3, h4⟩ := h.hg
  exact h.lay.exc hx h3

set_option maxRecDepth 100000 in
set_option maxHeartbeats 4000000 in
theorem r_point (g p : Nat) (ws : List ByteArray) (w : World) (h : Wd g ws w) (hp : w.heap[p]? = some (.cells #[.pointer (some ⟨g, 0, none⟩)] 58 (0, 0))) :
    Calls Tryz.prog 96 #[.pointer (some ⟨p, 0, none⟩)] w (RPc g ptV (pPoint ws) w) := by
  have c0 := r_number g ws
  have hne := h.ne hp (by decide)
  have HW := hide h
  have lg := h.lt
  have hW1 := hide (h.below (bA (b0 w) (.cells #[.int .i64 0, .int .i64 0] 166)))
  have f1 := kp (bA (b0 w) (.cells #[.int .i64 0, .int .i64 0] 166)) hp
  have fr := na w #[.int .i64 0, .int .i64 0] 166
  obtain ⟨z1, z2, z3⟩ := rcell f1
  have HX1 := hide (xA (x0 g w (Nat.le_of_lt lg)) (.cells #[.int .i64 0, .int .i64 0] 166))
  have HE := hide (show pPoint ws = (match pNum ws with | none => none | some (t, l) => match pNum l with | none => none | some (v, r) => some ((t, v), r)) from rfl)
  obtain ⟨R, hR⟩ : ∃ R, R = pPoint ws := ⟨_, rfl⟩
  rw [← hR] at HE ⊢
  clear hR
  go_enter Tryz.func96, Tryz.ntmps96
  go_wp2_with fail
  refine (c0 _ hW1.out).mono ?_
  rintro e w2 hp2
  cases e1 : pNum ws with
  | none =>
    rw [e1] at hp2 HE
    obtain ⟨rfl, hx⟩ := hp2
    go_wp2
    have := HE.out
    subst this
    exact ⟨rfl, rfl, xX HX1.out hx (.inl rfl)⟩
  | some tl =>
    obtain ⟨t, l⟩ := tl
    rw [e1] at hp2 HE
    obtain ⟨rfl, hx, hw2⟩ := hp2
    have c1 := r_number g l
    have HX2 := hide (xX HX1.out hx (.inl rfl))
    have f2 := kx hx f1 hne
    have fr2 := kx hx fr (by omega)
    have hW2 := hide hw2
    clear hw2 z1 z2 z3
    obtain ⟨z1, z2, z3⟩ := rcell f2
    go_wp2_with fail
    refine (c1 _ hW2.out).mono ?_
    rintro e w3 hp3
    cases e2 : pNum l with
    | none =>
      rw [e2] at hp3
      have hE := HE.out
      simp only [e2] at hE
      obtain ⟨rfl, hx3⟩ := hp3
      go_wp2
      subst hE
      exact ⟨rfl, rfl, xX HX2.out hx3 (.inl rfl)⟩
    | some vl =>
      obtain ⟨v, l'⟩ := vl
      rw [e2] at hp3
      have hE := HE.out
      simp only [e2] at hE
      have hE := hide hE
      obtain ⟨rfl, hx3, hw3⟩ := hp3
      have HX3 := hide (xX HX2.out hx3 (.inl rfl))
      have fr3 := kx hx3 fr2 (by omega)
      have hW3 := hide hw3
      clear hw3 z1 z2 z3
      obtain ⟨z1, z2, z3⟩ := rcell fr3
      go_wp2_with fail
      rw [row2 fr3]
      generalize hT : setRow w3 w.heap.size _ = w4
      obtain ⟨hx4, f4⟩ := fin_x (b0 _) fr3 hT
      have HX4 := xX HX3.out hx4 (.inr ⟨by omega, by omega⟩)
      have zE := (rcell f4).1
      clear hT
      refine bodyPost_ret (by simp [results, Tryz.results96, go_sem, zE]; try rfl) rfl ?_
      have hE := hE.out
      subst hE
      exact ⟨rfl, HX4, hW3.out.of hx4 fr3 (by decide) (by decide) (HW.out.layX HX4)⟩
end Go.Proofs.YtbiedfkmmcaplaaGreatDoor

namespace Go.Proofs.YtbiedfkmmcaplaaGreatDoor
open Go.RowKit
attribute [local go_sem] Oper.semAt_some

def intV (l : List Int) : List Value := l.map (Value.int .i64 ·)
theorem intV_len (l : List Int) : (intV l).length = l.length := by simp [intV]
theorem str_info : (Tryz.prog.info? 9).map (fun i => (i.zero, i.size, i.bytes)) = some (some (.string ByteArray.empty), 1, 16) := by kernel_rfl

set_option maxRecDepth 100000 in
set_option maxHeartbeats 1000000 in
theorem con_numbers (A : Option Addr) (c : Nat) (l : List Int) (hl : l.length ≤ 1000000) (hi : ∀ x ∈ l, i64In x) (w : World) (hL : Laid w) (hR : InV w A (intV l)) :
    Calls Tryz.prog 82 #[.slice A l.length c] w fun e w' => e = .returned (.slice (some ⟨w.heap.size, 0, none⟩) l.length l.length) ∧ Below w.heap.size w w' ∧
      RV 9 w' (some ⟨w.heap.size, 0, none⟩) l.length (strV (l.map itoaB)) := by
  have hmk : ∀ w1 : World, (Instr.makeSlice 45 (.int .i64 (l.length : Int)) (.int .i64 (l.length : Int))).run Tryz.prog w1 = .ok (.slice (some ⟨w1.heap.size, 0, none⟩) l.length l.length) (w1.alloc (.cells (madeCells #[.string ByteArray.empty] l.length) 9)) := fun w1 =>
    run_make_row' (P := Tryz.prog) 45 9 (.string ByteArray.empty) 16 Tryz.underlying45 str_info rfl .i64 .i64 l.length (by omega) (by omega) w1
  have HI := hide hi
  have HR := hide hR
  clear hi hR
  obtain ⟨M, hM⟩ : ∃ M, M = madeCells #[.string ByteArray.empty] l.length := ⟨_, rfl⟩
  have HMS : Hid (M.size = l.length) := hide (by rw [hM, size_madeCells])
  rw [← hM] at hmk
  clear hM
  go_enter Tryz.func82, Tryz.ntmps82
  go_wp2_with fail
  go_loopw [11, 4, 5] (fun vi _ _ wr => ∃ k : Nat, vi = .int .i64 k ∧ k ≤ l.length ∧ (∃ cur : Array Value, wr.heap[w.heap.size]? = some (.cells cur 9 (0, 0)) ∧ Hid (cur.size = l.length ∧ ∀ i (hi : i < l.length), i < k → cur[i]? = some (.string (itoaB l[i])))) ∧ Below w.heap.size w wr) (fun vi _ _ _ => l.length - (intOf vi).toNat)
  case atStart => exact ⟨0, rfl, by omega, ⟨M, na w M 9, hide ⟨HMS.out, fun i hi h => by omega⟩⟩, bA (b0 w) _⟩
  case round =>
    obtain ⟨k, rfl, hk, ⟨cur, hg, HC⟩, hb⟩ := hrel
    by_cases hlt : k < l.length
    · obtain ⟨ad, rfl, -, hc⟩ := (HR.out.below hb) (by rw [intV_len]; omega)
      have q1 := hc k (by rw [intV_len]; omega)
      have e1 : (intV l)[k]'(by rw [intV_len]; omega) = .int .i64 l[k] := by simp [intV]
      rw [e1] at q1
      have HX := hide (HI.out l[k] (List.getElem_mem hlt))
      have HN : Hid (l[k] = l[k]) := hide rfl
      obtain ⟨x, hx⟩ : ∃ x, x = l[k] := ⟨_, rfl⟩
      rw [← hx] at q1 HX
      have HXX := hide hx
      clear hc e1 HN hx
      obtain ⟨zg_a, zg_b, lg1⟩ := rcell hg
      go_wp2_with fail
      refine (con_fmt x HX.out _ (hL.below hb)).mono ?_
      rintro e w3 ⟨rfl, hb3⟩
      have f_g3 := kp hb3 hg
      have hB3 := bB hb hb3
      clear zg_a zg_b
      obtain ⟨zg_a, zg_b, lg3⟩ := rcell f_g3
      have hcs : k < cur.size := by have := HC.out.1; omega
      go_wp2
      go_roundw
      case rel =>
        refine ⟨k + 1, by go_num, by omega, ⟨cur.setIfInBounds k (.string (itoaB x)), ?_, hide ⟨by rw [Array.size_setIfInBounds]; exact HC.out.1, fun i hi h => ?_⟩⟩, bS hB3 (Nat.le_refl _) _⟩
        · rw [setRow_of_setCell f_g3 _ rfl]
          exact setRow_same f_g3
        · by_cases hik : i = k
          · subst hik
            rw [Array.getElem?_setIfInBounds_self_of_lt (by have := HC.out.1; omega), HXX.out]
          · rw [Array.getElem?_setIfInBounds_ne (by omega)]
            exact HC.out.2 i hi (by omega)
      case measure => simp [intOf]; omega
    · obtain rfl : k = l.length := by omega
      go_wp2
      go_ret
      refine ⟨rfl, hb, ⟨by simp [strV], by omega, fun h0 => ⟨w.heap.size, 0, cur, rfl, hg, fun i hi => ?_⟩⟩⟩
      have hi' : i < l.length := by simpa [strV] using hi
      rw [Nat.zero_add, HC.out.2 i hi' hi']
      simp [strV]
end Go.Proofs.YtbiedfkmmcaplaaGreatDoor

namespace Go.Proofs.YtbiedfkmmcaplaaGreatDoor
open Go.RowKit
attribute [local go_sem] Oper.semAt_some

set_option maxRecDepth 100000 in
set_option maxHeartbeats 4000000 in
theorem r_mask (g p : Nat) (ws : List ByteArray) (w : World) (h : Wd g ws w) (hp : w.heap[p]? = some (.cells #[.pointer (some ⟨g, 0, none⟩)] 58 (0, 0))) :
    Calls Tryz.prog 101 #[.pointer (some ⟨p, 0, none⟩)] w (RPc g (Value.int .i64) (pNum ws) w) := by
  have c0 := r_number g ws
  have HW := hide h
  obtain ⟨z1, z2, z3⟩ := rcell hp
  obtain ⟨R, hR⟩ : ∃ R, R = pNum ws := ⟨_, rfl⟩
  rw [← hR] at c0 ⊢
  clear hR
  go_enter Tryz.func101, Tryz.ntmps101
  go_wp2_with fail
  refine (c0 _ HW.out).mono ?_
  rintro e w2 hp2
  cases R with
  | none =>
    obtain ⟨rfl, hx⟩ := hp2
    go_wp2
    exact ⟨rfl, rfl, hx⟩
  | some tl =>
    obtain ⟨t, l⟩ := tl
    obtain ⟨rfl, hx, hw2⟩ := hp2
    go_wp2
    go_ret
    exact ⟨rfl, hx, hw2⟩

def pInts : List ByteArray → Option (List Int)
  | [] => some []
  | s :: l => match numW s with
    | some v => (match pInts l with | some xs => some (v :: xs) | none => none)
    | none => none
def wLeft (g : Nat) (w : World) : Nat := match w.cell? ⟨g, 0, none⟩ with | some (.slice _ n _) => n | _ => 0
theorem Wd.left {g : Nat} {ws : List ByteArray} {w : World} (h : Wd g ws w) : wLeft g w = ws.length := by
  obtain ⟨A, c, h1, _⟩ := h.hg
  unfold wLeft
  rw [(rcell h1).1]
  rfl
def RPr (T : TypeId) (k : Nat) (g : Nat) (r : Option (Nat × List Value)) (w : World) (e : Ending) (w' : World) : Prop :=
  match r with
  | some (n, xs) => ∃ v, e = .returned v ∧ Exc g w w' ∧ Wd g [] w' ∧ OwnK T k w.heap.size w' v n xs ∧ (n = 0 → v = .slice none 0 0)
  | none => e = .panicked [pn 410] ∧ Exc g w w'

theorem int_info : (Tryz.prog.info? 3).map (fun i => (i.zero, i.size, i.bytes)) = some (some (.int .i64 0), 1, 8) := by kernel_rfl
theorem Exc.up {g B : Nat} {w w1 w2 : World} (h : Exc g w w1) (hb : Below B w1 w2) (hg : g ≤ B) (hB : w.heap.size ≤ B) (hs : w1.heap.size ≤ w2.heap.size) : Exc g w w2 :=
  ⟨h.le, h.low.trans (hb.mono hg), Nat.le_trans h.size hs, fun b h1 h2 => (hb.block b (by omega)).trans (h.other b h1 h2)⟩

theorem InK.new (w : World) (cs : Array Value) (T : TypeId) {k : Nat} (hk : cs.size = k) : InK (w.alloc (.cells cs T)) (some ⟨w.heap.size, 0, none⟩) 1 k cs.toList :=
  ⟨by simp [hk], fun _ => ⟨_, rfl, by simp, fun i hi => by
    rw [show (⟨w.heap.size, 0, none⟩ : Addr).add i = ⟨w.heap.size, i, none⟩ by
      unfold Addr.add
      split
      · next h0 => simp [h0]
      · simp]
    rw [(rcell (na w cs T)).1]
    simp⟩⟩

set_option maxRecDepth 100000 in
set_option maxHeartbeats 4000000 in
theorem r_ints (g p : Nat) (ws : List ByteArray) (w : World) (h : Wd g ws w) (hp : w.heap[p]? = some (.cells #[.pointer (some ⟨g, 0, none⟩)] 58 (0, 0))) :
    Calls Tryz.prog 100 #[.pointer (some ⟨g, 0, none⟩), .func (.func 101) #[] #[.pointer (some ⟨p, 0, none⟩)]] w (RPr 3 1 g ((pInts ws).map fun l => (l.length, intV l)) w) := by
  have hne := h.ne hp (by decide)
  have lg := h.lt
  have HW := hide h
  have lp := (rcell hp).2.2
  obtain ⟨R, hR⟩ : ∃ R, R = (pInts ws).map fun l => (l.length, intV l) := ⟨_, rfl⟩
  have HR := hide hR
  rw [← hR]
  clear hR h
  go_enter Tryz.func100, Tryz.ntmps100
  go_wp2_with fail
  go_loopw [5] (fun v wr => ∃ (acc : List Int) (l : List ByteArray), Hid (OwnK 3 1 w.heap.size wr v acc.length (intV acc)) ∧ Hid (Exc g w wr ∧ Wd g l wr ∧ wr.heap[p]? = some (.cells #[.pointer (some ⟨g, 0, none⟩)] 58 (0, 0))) ∧ acc.length + l.length ≤ ws.length ∧ Hid (pInts ws = (pInts l).map (acc ++ ·)) ∧ Hid (acc.length = 0 → v = .slice none 0 0)) (fun _ wr => wLeft g wr)
  case atStart => exact ⟨[], ws, hide (OwnK.nil _ _), hide ⟨x0 g w (Nat.le_of_lt lg), HW.out, hp⟩, by simp, hide (by cases pInts ws <;> simp), hide fun _ => rfl⟩
  case round =>
    obtain ⟨acc, l, HO, HX, hlen, HI, HZ⟩ := hrel
    obtain ⟨A, c, hg, -⟩ := HX.out.2.1.hg
    cases l with
    | nil =>
      obtain ⟨z1, z2, z3⟩ := rcell hg
      simp only [List.length_nil] at z1
      go_wp2
      go_ret
      have hI := HI.out
      have hR := HR.out
      rw [hI] at hR
      simp only [pInts, Option.map_some, List.append_nil] at hR
      subst hR
      exact ⟨_, rfl, HX.out.1, HX.out.2.1, HO.out, HZ.out⟩
    | cons s l =>
      have c0 := r_mask g p (s :: l) wr HX.out.2.1 HX.out.2.2
      obtain ⟨z1, z2, z3⟩ := rcell hg
      simp only [List.length_cons] at z1 hlen
      have hw0 : wLeft g wr = l.length + 1 := HX.out.2.1.left
      have hlt : ws.length ≤ 1000000 := HW.out.ln
      cases hn : numW s with
      | none =>
        have e1 : pNum (s :: l) = none := by simp [pNum, hn]
        rw [e1] at c0
        have hI := HI.out
        simp only [pInts, hn, Option.map_none] at hI
        have hR := HR.out
        rw [hI] at hR
        simp only [Option.map_none] at hR
        clear hI HI hn e1 HR
        go_wp2_with fail
        refine c0.mono ?_
        rintro e w2 ⟨rfl, hx⟩
        go_wp2
        subst hR
        exact ⟨rfl, rfl, xX HX.out.1 hx (.inl rfl)⟩
      | some x =>
        have e1 : pNum (s :: l) = some (x, l) := by simp [pNum, hn]
        rw [e1] at c0
        have hI : pInts ws = (pInts l).map ((acc ++ [x]) ++ ·) := by
          rw [HI.out]
          simp only [pInts, hn]
          cases pInts l <;> simp
        have HI := hide hI
        clear hI hn e1
        go_wp2_with fail
        refine c0.mono ?_
        rintro e w2 ⟨rfl, hx, hw2⟩
        have HO2 := hide ((HO.out.excP hx lg).lift (bA (b0 w2) (.cells #[.int .i64 x] 3)))
        have HX2 := hide (show Exc g w (w2.alloc (.cells #[.int .i64 x] 3)) ∧ Wd g l (w2.alloc (.cells #[.int .i64 x] 3)) ∧ (w2.alloc (.cells #[.int .i64 x] 3)).heap[p]? = some (.cells #[.pointer (some ⟨g, 0, none⟩)] 58 (0, 0)) from
          ⟨xA (xX HX.out.1 hx (.inl rfl)) _, hw2.below (bA (b0 _) _), kp (bA (b0 _) _) (kx hx HX.out.2.2 hne)⟩)
        have HK := hide (InK.new w2 #[.int .i64 x] 3 (k := 1) rfl)
        have hsz2 : w.heap.size ≤ (w2.alloc (.cells #[.int .i64 x] 3)).heap.size := HX2.out.1.size
        clear hx hw2 z1 z2 z3
        go_wp2_with (refine wpList_pushK rfl _ _ _ rfl 8 Tryz.underlying36 int_info rfl (by decide) (by decide) w.heap.size _ acc.length 1 (intV acc) [.int .i64 x] (some ⟨w2.heap.size, 0, none⟩) 1 rfl rfl HO2.out HK.out (by simp [Value.oneCell']) (by omega) hsz2 ?_; intro v' w3 hO3 hlow hsz)
        have hbb := hlow _ (Below.refl _ _)
        have hx3 := HX2.out.1.up hbb (Nat.le_of_lt lg) (Nat.le_refl _) hsz
        have hw3 := HX2.out.2.1.low hbb lg (HW.out.layX hx3)
        refine ⟨⟨acc ++ [x], l, hide ?_, hide ⟨hx3, hw3, (hbb.block p lp).trans HX2.out.2.2⟩, by simp only [List.length_append, List.length_cons, List.length_nil]; omega, HI, hide fun h => by simp at h⟩, ?_⟩
        · have := hO3
          simpa [intV] using this
        · rw [hw0, hw3.left]
          omega

def pPts : List ByteArray → Option (List (Int × Int))
  | [] => some []
  | [_] => none
  | s :: t :: l => match numW s with
    | none => none
    | some x => match numW t with
      | none => none
      | some y => (match pPts l with | some xs => some ((x, y) :: xs) | none => none)
def ptsV : List (Int × Int) → List Value
  | [] => []
  | p :: l => .int .i64 p.1 :: .int .i64 p.2 :: ptsV l
theorem ptsV_append (l m : List (Int × Int)) : ptsV (l ++ m) = ptsV l ++ ptsV m := by
  induction l with
  | nil => rfl
  | cons b l ih => simp only [ptsV, List.cons_append, ih]
theorem pt_info : (Tryz.prog.info? 166).map (fun i => (i.zero, i.size, i.bytes)) = some (some (.agg #[.int .i64 0, .int .i64 0]), 2, 16) := by kernel_rfl
theorem pPoint_none {ws : List ByteArray} (h : pPoint ws = none) (h0 : ws ≠ []) : pPts ws = none := by
  cases ws with
  | nil => exact absurd rfl h0
  | cons s l =>
    cases l with
    | nil => rfl
    | cons t l =>
      simp only [pPoint, pNum, pPts] at *
      cases h1 : numW s with
      | none => rfl
      | some x =>
        cases h2 : numW t with
        | none => rfl
        | some y => simp [h1, h2] at h
theorem pPoint_some {ws l : List ByteArray} {x : Int × Int} (h : pPoint ws = some (x, l)) : (pPts ws = match pPts l with | some xs => some (x :: xs) | none => none) ∧ ws.length = l.length + 2 := by
  cases ws with
  | nil => simp [pPoint, pNum] at h
  | cons s l1 =>
    simp only [pPoint, pNum] at h
    cases h1 : numW s with
    | none => simp [h1] at h
    | some a =>
      cases l1 with
      | nil => simp [h1] at h
      | cons t l2 =>
        cases h2 : numW t with
        | none => simp [h1, h2] at h
        | some b =>
          simp [h1, h2] at h
          obtain ⟨rfl, rfl⟩ := h
          exact ⟨by simp only [pPts, h1, h2], rfl⟩

set_option maxRecDepth 100000 in
set_option maxHeartbeats 4000000 in
theorem r_pts (g p : Nat) (ws : List ByteArray) (w : World) (h : Wd g ws w) (hp : w.heap[p]? = some (.cells #[.pointer (some ⟨g, 0, none⟩)] 58 (0, 0))) :
    Calls Tryz.prog 95 #[.pointer (some ⟨g, 0, none⟩), .func (.func 96) #[] #[.pointer (some ⟨p, 0, none⟩)]] w (RPr 166 2 g ((pPts ws).map fun l => (l.length, ptsV l)) w) := by
  have hne := h.ne hp (by decide)
  have lg := h.lt
  have HW := hide h
  have lp := (rcell hp).2.2
  obtain ⟨R, hR⟩ : ∃ R, R = (pPts ws).map fun l => (l.length, ptsV l) := ⟨_, rfl⟩
  have HR := hide hR
  rw [← hR]
  clear hR h
  go_enter Tryz.func95, Tryz.ntmps95
  go_wp2_with fail
  go_loopw [5] (fun v wr => ∃ (acc : List (Int × Int)) (l : List ByteArray), Hid (OwnK 166 2 w.heap.size wr v acc.length (ptsV acc)) ∧ Hid (Exc g w wr ∧ Wd g l wr ∧ wr.heap[p]? = some (.cells #[.pointer (some ⟨g, 0, none⟩)] 58 (0, 0))) ∧ acc.length + l.length ≤ ws.length ∧ Hid (pPts ws = (pPts l).map (acc ++ ·)) ∧ Hid (acc.length = 0 → v = .slice none 0 0)) (fun _ wr => wLeft g wr)
  case atStart => exact ⟨[], ws, hide (OwnK.nil _ _), hide ⟨x0 g w (Nat.le_of_lt lg), HW.out, hp⟩, by simp, hide (by cases pPts ws <;> simp), hide fun _ => rfl⟩
  case round =>
    obtain ⟨acc, l, HO, HX, hlen, HI, HZ⟩ := hrel
    obtain ⟨A, c, hg, -⟩ := HX.out.2.1.hg
    by_cases hl0 : l = []
    · subst hl0
      obtain ⟨z1, z2, z3⟩ := rcell hg
      simp only [List.length_nil] at z1
      go_wp2
      go_ret
      have hI := HI.out
      have hR := HR.out
      rw [hI] at hR
      simp only [pPts, Option.map_some, List.append_nil] at hR
      subst hR
      exact ⟨_, rfl, HX.out.1, HX.out.2.1, HO.out, HZ.out⟩
    · have c0 := r_point g p l wr HX.out.2.1 HX.out.2.2
      obtain ⟨z1, z2, z3⟩ := rcell hg
      have hl1 : 0 < l.length := List.length_pos_iff.2 hl0
      have e0 : decide ((0 : Int) < (l.length : Int)) = true := decide_eq_true (by omega)
      have hw0 : wLeft g wr = l.length := HX.out.2.1.left
      have hlt : ws.length ≤ 1000000 := HW.out.ln
      cases hn : pPoint l with
      | none =>
        rw [hn] at c0
        have hI := HI.out
        rw [pPoint_none hn hl0] at hI
        have hR := HR.out
        rw [hI] at hR
        simp only [Option.map_none] at hR
        clear hI HI hn HR
        go_wp2_with fail
        refine c0.mono ?_
        rintro e w2 ⟨rfl, hx⟩
        go_wp2
        subst hR
        exact ⟨rfl, rfl, xX HX.out.1 hx (.inl rfl)⟩
      | some xl =>
        obtain ⟨⟨x, y⟩, l'⟩ := xl
        rw [hn] at c0
        obtain ⟨hq1, hq2⟩ := pPoint_some hn
        have hI : pPts ws = (pPts l').map ((acc ++ [(x, y)]) ++ ·) := by
          rw [HI.out, hq1]
          cases pPts l' <;> simp
        have HI := hide hI
        clear hI hn hq1
        go_wp2_with fail
        refine c0.mono ?_
        rintro e w2 ⟨rfl, hx, hw2⟩
        simp only [ptV]
        have HO2 := hide ((HO.out.excP hx lg).lift (bA (b0 w2) (.cells #[.int .i64 x, .int .i64 y] 166)))
        have HX2 := hide (show Exc g w (w2.alloc (.cells #[.int .i64 x, .int .i64 y] 166)) ∧ Wd g l' (w2.alloc (.cells #[.int .i64 x, .int .i64 y] 166)) ∧ (w2.alloc (.cells #[.int .i64 x, .int .i64 y] 166)).heap[p]? = some (.cells #[.pointer (some ⟨g, 0, none⟩)] 58 (0, 0)) from
          ⟨xA (xX HX.out.1 hx (.inl rfl)) _, hw2.below (bA (b0 _) _), kp (bA (b0 _) _) (kx hx HX.out.2.2 hne)⟩)
        have HK := hide (InK.new w2 #[.int .i64 x, .int .i64 y] 166 (k := 2) rfl)
        have hsz2 : w.heap.size ≤ (w2.alloc (.cells #[.int .i64 x, .int .i64 y] 166)).heap.size := HX2.out.1.size
        clear hx hw2 z1 z2 z3
        go_wp2_with (refine wpList_pushK rfl _ _ _ rfl 16 Tryz.underlying28 pt_info rfl (by decide) (by decide) w.heap.size _ acc.length 1 (ptsV acc) [.int .i64 x, .int .i64 y] (some ⟨w2.heap.size, 0, none⟩) 1 rfl rfl HO2.out HK.out (by simp [Value.oneCell']) (by omega) hsz2 ?_; intro v' w3 hO3 hlow hsz)
        have hbb := hlow _ (Below.refl _ _)
        have hx3 := HX2.out.1.up hbb (Nat.le_of_lt lg) (Nat.le_refl _) hsz
        have hw3 := HX2.out.2.1.low hbb lg (HW.out.layX hx3)
        refine ⟨⟨acc ++ [(x, y)], l', hide ?_, hide ⟨hx3, hw3, (hbb.block p lp).trans HX2.out.2.2⟩, by simp only [List.length_append, List.length_cons, List.length_nil]; omega, HI, hide fun h => by simp at h⟩, ?_⟩
        · have := hO3
          rw [ptsV_append]
          simpa [ptsV] using this
        · rw [hw0, hw3.left]
          omega
end Go.Proofs.YtbiedfkmmcaplaaGreatDoor
