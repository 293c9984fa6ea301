/- Runs in memory; runs.sure, last and the closure that recovers, at this program. Rows of whole numbers of one kind, a cell each (bytes, int64): what is read, what is one's own, and append. A row of runs of one's own; append. runs.rises, Check, many, Count at this program. runs.Check, many, Count, At at this program. -/
import Derived.Test.YtmpfbkeamihjbaaGreatP4
import Derived.Test.YtmpfbkeamihjbaaGreatP3
import Derived.Defers
import Derived.Recover
import Derived.Laws.Pointers
import Derived.Test.YtmpfbkeamihjbaaGreatSeq
set_option linter.unusedSimpArgs false
set_option linter.unusedVariables false
namespace Go.Proofs.YtmpfbkeamihjbaaGreat
open Go.RowKit

/-- a run: from, step, how many -/
structure Rn where
  f : Int
  s : Int
  n : Int
  deriving DecidableEq

def Rn.cs (b : Rn) : Array Value := #[.int .i64 b.f, .int .i64 b.s, .int .i64 b.n]
/-- a slice that reads as these runs -/
structure RR (w : World) (A : Option Addr) (c : Nat) (l : List Rn) : Prop where
  cap : l.length ≤ c
  top : c ≤ 9223372036854775807
  mem : 0 < l.length → ∃ g o cur, A = some ⟨g, o, none⟩ ∧ w.heap[g]? = some (.cells cur 46 (0, 0)) ∧
    ∀ i (hi : i < l.length), cur[o + i * 3]? = some (.int .i64 l[i].f) ∧ cur[o + i * 3 + 1]? = some (.int .i64 l[i].s) ∧ cur[o + i * 3 + 2]? = some (.int .i64 l[i].n)

theorem RR.at_ {w : World} {A : Option Addr} {c : Nat} {l : List Rn} (h : RR w A c l) {k : Nat} (hk : k < l.length) :
    ∃ g o, A = some ⟨g, o, none⟩ ∧ w.cell? ⟨g, o + k * 3, none⟩ = some (.int .i64 l[k].f) ∧ w.cell? ⟨g, o + k * 3 + 1, none⟩ = some (.int .i64 l[k].s) ∧ w.cell? ⟨g, o + k * 3 + 2, none⟩ = some (.int .i64 l[k].n) := by
  obtain ⟨g, o, cur, e, hg, hc⟩ := h.mem (by omega)
  obtain ⟨h1, h2, h3⟩ := hc k hk
  exact ⟨g, o, e, (cell_of_row w g _ cur _ (0, 0) hg).trans h1, (cell_of_row w g _ cur _ (0, 0) hg).trans h2, (cell_of_row w g _ cur _ (0, 0) hg).trans h3⟩
theorem RR.below {w w' : World} {A : Option Addr} {c : Nat} {l : List Rn} (h : RR w A c l) (hb : Below w.heap.size w w') : RR w' A c l :=
  ⟨h.cap, h.top, fun hl => by
    obtain ⟨g, o, cur, e, hg, hc⟩ := h.mem hl
    exact ⟨g, o, cur, e, (hb.block g (Array.getElem?_eq_some_iff.1 hg).1).trans hg, hc⟩⟩
/-- a store into a variable of another type leaves runs alone -/
theorem RR.exc {w w1 : World} {A : Option Addr} {c k : Nat} {l : List Rn} {cs : Array Value} {t : TypeId} (h : RR w A c l) (hx : Exc k w w1) (hk : w.heap[k]? = some (.cells cs t (0, 0))) (ht : t ≠ 46) : RR w1 A c l :=
  ⟨h.cap, h.top, fun hl => by
    obtain ⟨g, o, cur, e, hg, hc⟩ := h.mem hl
    have hne : g ≠ k := by
      rintro rfl
      rw [hg] at hk
      injection hk with hk
      injection hk with _ h2 _
      exact ht h2.symm
    exact ⟨g, o, cur, e, (hx.other g (Array.getElem?_eq_some_iff.1 hg).1 hne).trans hg, hc⟩⟩
theorem RR.take {w : World} {A : Option Addr} {c : Nat} {l : List Rn} (h : RR w A c l) (k : Nat) : RR w A c (l.take k) :=
  ⟨by rw [List.length_take]; have := h.cap; omega, h.top, fun hl => by
    rw [List.length_take] at hl
    obtain ⟨g, o, cur, e, hg, hc⟩ := h.mem (by omega)
    refine ⟨g, o, cur, e, hg, fun i hi => ?_⟩
    rw [List.length_take] at hi
    have := hc i (by omega)
    simpa using this⟩
theorem RR.nil (w : World) (A : Option Addr) (c : Nat) (hc : c ≤ 9223372036854775807) : RR w A c [] := ⟨by simp, hc, fun h => by simp at h⟩
/-- cut at the front: 's[k:n:m]' -/
theorem RR.drop {w : World} {A : Option Addr} {c m : Nat} {l : List Rn} (h : RR w A c l) (k : Nat) (hk : k ≤ l.length) (hm : l.length ≤ m) (hmc : m ≤ c) : RR w (if m = k then A else A.map (·.add (k * 3))) (m - k) (l.drop k) :=
  ⟨by rw [List.length_drop]; omega, by have := h.top; omega, fun hl => by
    rw [List.length_drop] at hl
    obtain ⟨g, o, cur, rfl, hg, hc⟩ := h.mem (by omega)
    rw [if_neg (by omega)]
    refine ⟨g, o + k * 3, cur, ?_, hg, fun i hi => ?_⟩
    · show some (Addr.add _ _) = _
      unfold Addr.add
      split
      · next h0 => simp [h0]
      · rfl
    · rw [List.length_drop] at hi
      have := hc (k + i) (by omega)
      rw [show o + k * 3 + i * 3 = o + (k + i) * 3 by omega]
      simpa using this⟩

def rn (l : List Rn) (i : Nat) : Rn := l.getD i ⟨0, 0, 0⟩
theorem rn_eq {l : List Rn} {i : Nat} (h : i < l.length) : l[i] = rn l i := by unfold rn; simp [h]

/-! ### sure, last -/
theorem runs_sure_yes (w : World) : Calls Tryz.prog 112 #[.bool true] w fun e w' => e = .returned (.tuple #[]) ∧ w = w' := by
  go_enter Tryz.func112, Tryz.ntmps112
  go_wp2
  go_end0
  exact ⟨rfl, rfl⟩
theorem runs_sure_no (w : World) : Calls Tryz.prog 112 #[.bool false] w fun e w' => e = .panicked [{ v := .iface 31 (.int .i64 170), recovered := false }] ∧ w = w' := by
  go_enter Tryz.func112, Tryz.ntmps112
  go_wp2
  exact ⟨rfl, rfl, rfl⟩
theorem runs_last (f s n : Int) (hf : 0 ≤ f ∧ f ≤ 281474976710656) (hs : 0 ≤ s ∧ s ≤ 281474976710656) (hn : 1 ≤ n ∧ n ≤ 256) (w : World) : Calls Tryz.prog 113 #[.agg #[.int .i64 f, .int .i64 s, .int .i64 n]] w fun e w' => e = .returned (.int .i64 (f + s * (n - 1))) ∧ Below w.heap.size w w' := by
  have h1 : 0 ≤ s * (n - 1) ∧ s * (n - 1) ≤ 281474976710656 * 256 := by
    have a := Int.mul_nonneg hs.1 (show 0 ≤ n - 1 by omega)
    have b := Int.mul_le_mul (a := s) (b := n - 1) (c := 281474976710656) (d := 256) hs.2 (by omega) (by omega) (by omega)
    exact ⟨a, b⟩
  go_enter Tryz.func113, Tryz.ntmps113
  go_wp2
  go_ret
  exact ⟨rfl, (bA (b0 w) (.cells #[.int .i64 f, .int .i64 s, .int .i64 n] 46))⟩

/-! ### the closure that recovers -/
theorem rises_caught (p : Addr) (x : Bool) (u : TypeId) (pv : Value) (older : List PanicEntry) (w : World) (hc : w.cell? p = some (.bool x)) (hz : w.frozen? p = false) :
    CallsD Tryz.prog 111 #[.pointer (some p)] (.panicking ({ v := .iface u pv, recovered := false } :: older)) w fun e u' w' =>
      e = .returned (.tuple #[]) ∧ u' = .panicking ({ v := .iface u pv, recovered := true } :: older) ∧ w' = w.setCell p (.bool false) := by
  refine callsD_of_wpS Tryz.func111 rfl fun c₀ cs hu => ?_
  apply wpS_seq
  apply wpS_region
  simp [wpOpsS, go_sem, recoverD, hu, Tryz.ntmps111, Exit.thenS]
  refine wpS_cond (t := true) (by simp [Act.eval, Array.replicate]) ?_
  simp only [if_true]
  apply wpS_region
  simp [wpOpsS, go_sem, hc, hz, bodyPostS, results, Tryz.results111]
theorem rises_idle (p : Addr) (w : World) :
    CallsD Tryz.prog 111 #[.pointer (some p)] .returning w fun e u' w' => e = .returned (.tuple #[]) ∧ u' = .returning ∧ w' = w := by
  refine callsD_of_wpS Tryz.func111 rfl fun c₀ cs hu => ?_
  apply wpS_seq
  apply wpS_region
  simp [wpOpsS, go_sem, recoverD, hu, Tryz.ntmps111, Exit.thenS]
  refine wpS_cond (t := false) (by simp [Act.eval, Array.replicate]) ?_
  simp only [Bool.false_eq_true, if_false]
  refine wpS_of_wp (wp_skip ?_)
  cases c₀
  simp_all [bodyPostS, results, Tryz.results111]
end Go.Proofs.YtmpfbkeamihjbaaGreat

namespace Go.Proofs.YtmpfbkeamihjbaaGreat
open Go.RowKit

def cvals (kd : IntKind) (l : List Int) : List Value := l.map (Value.int kd ·)
theorem cvals_len (kd : IntKind) (l : List Int) : (cvals kd l).length = l.length := by simp [cvals]
theorem cvals_append (kd : IntKind) (l m : List Int) : cvals kd (l ++ m) = cvals kd l ++ cvals kd m := by simp [cvals]
theorem cvals_get (kd : IntKind) (l : List Int) (i : Nat) (hi : i < l.length) : (cvals kd l)[i]? = some (.int kd l[i]) := by simp [cvals, hi]
theorem cvals_one (kd : IntKind) (l : List Int) : ∀ u ∈ cvals kd l, u.oneCell' = true := by
  intro u hu
  obtain ⟨x, _, rfl⟩ := List.mem_map.1 hu
  rfl

/-- a slice that reads as these numbers -/
structure CR (kd : IntKind) (T : TypeId) (w : World) (A : Option Addr) (c : Nat) (l : List Int) : Prop where
  cap : l.length ≤ c
  top : c ≤ 9223372036854775807
  mem : 0 < l.length → ∃ g o cur, A = some ⟨g, o, none⟩ ∧ w.heap[g]? = some (.cells cur T (0, 0)) ∧ ∀ i (hi : i < l.length), cur[o + i]? = some (.int kd l[i])
abbrev YR := CR .u8 5
abbrev VR := CR .i64 2

section
variable {kd : IntKind} {T : TypeId}
theorem CR.at_ {w : World} {A : Option Addr} {c : Nat} {l : List Int} (h : CR kd T w A c l) {k : Nat} (hk : k < l.length) :
    ∃ g o, A = some ⟨g, o, none⟩ ∧ w.cell? ⟨g, o + k, none⟩ = some (.int kd l[k]) := by
  obtain ⟨g, o, cur, e, hg, hc⟩ := h.mem (by omega)
  exact ⟨g, o, e, (cell_of_row w g _ cur _ (0, 0) hg).trans (hc k hk)⟩
theorem CR.below {w w' : World} {A : Option Addr} {c : Nat} {l : List Int} (h : CR kd T w A c l) (hb : Below w.heap.size w w') : CR kd T w' A c l :=
  ⟨h.cap, h.top, fun hl => by
    obtain ⟨g, o, cur, e, hg, hc⟩ := h.mem hl
    exact ⟨g, o, cur, e, (hb.block g (Array.getElem?_eq_some_iff.1 hg).1).trans hg, hc⟩⟩
theorem CR.exc {w w1 : World} {A : Option Addr} {c k : Nat} {l : List Int} {cs : Array Value} {t : TypeId} (h : CR kd T w A c l) (hx : Exc k w w1) (hk : w.heap[k]? = some (.cells cs t (0, 0))) (ht : t ≠ T) : CR kd T w1 A c l :=
  ⟨h.cap, h.top, fun hl => by
    obtain ⟨g, o, cur, e, hg, hc⟩ := h.mem hl
    have hne : g ≠ k := by
      rintro rfl
      rw [hg] at hk
      injection hk with hk
      injection hk with _ h2 _
      exact ht h2.symm
    exact ⟨g, o, cur, e, (hx.other g (Array.getElem?_eq_some_iff.1 hg).1 hne).trans hg, hc⟩⟩
theorem CR.take {w : World} {A : Option Addr} {c : Nat} {l : List Int} (h : CR kd T w A c l) (k : Nat) : CR kd T w A c (l.take k) :=
  ⟨by rw [List.length_take]; have := h.cap; omega, h.top, fun hl => by
    rw [List.length_take] at hl
    obtain ⟨g, o, cur, e, hg, hc⟩ := h.mem (by omega)
    refine ⟨g, o, cur, e, hg, fun i hi => ?_⟩
    rw [List.length_take] at hi
    have := hc i (by omega)
    simpa using this⟩
theorem CR.nil (w : World) (A : Option Addr) (c : Nat) (hc : c ≤ 9223372036854775807) : CR kd T w A c [] := ⟨by simp, hc, fun h => by simp at h⟩
/-- cut at the front -/
theorem CR.drop {w : World} {A : Option Addr} {c : Nat} {l : List Int} (h : CR kd T w A c l) (k : Nat) (hk : k ≤ l.length) : CR kd T w (if c = k then A else A.map (·.add k)) (c - k) (l.drop k) :=
  ⟨by rw [List.length_drop]; have := h.cap; omega, by have := h.top; omega, fun hl => by
    rw [List.length_drop] at hl
    obtain ⟨g, o, cur, rfl, hg, hc⟩ := h.mem (by omega)
    have hcap := h.cap
    rw [if_neg (by omega)]
    refine ⟨g, o + k, cur, ?_, hg, fun i hi => ?_⟩
    · show some (Addr.add _ _) = _
      unfold Addr.add
      split
      · next h0 => simp [h0]
      · rfl
    · rw [List.length_drop] at hi
      have := hc (k + i) (by omega)
      rw [show o + k + i = o + (k + i) by omega]
      simpa using this⟩

/-- numbers that came in, or lie somewhere -/
def InC (kd : IntKind) (w : World) (X : Option Addr) (xs : List Int) : Prop :=
  0 < xs.length → ∃ ad, X = some ad ∧ ad.block < w.heap.size ∧ ∀ i (hi : i < xs.length), w.cell? (ad.add i) = some (.int kd xs[i])
theorem InC.below {w w' : World} {X : Option Addr} {xs : List Int} (h : InC kd w X xs) (hb : Below w.heap.size w w') : InC kd w' X xs := fun h0 => by
  obtain ⟨ad, e, h1, h2⟩ := h h0
  have hc : ∀ j, w'.cell? (ad.add j) = w.cell? (ad.add j) := fun j => hb.cell (p := ad.add j) (by rw [show (ad.add j).block = ad.block by unfold Addr.add; split <;> rfl]; exact h1)
  exact ⟨ad, e, Nat.lt_of_lt_of_le h1 hb.size, fun i hi => by rw [hc]; exact h2 i hi⟩
theorem InC.take {w : World} {X : Option Addr} {xs : List Int} (h : InC kd w X xs) (k : Nat) : InC kd w X (xs.take k) := fun h0 => by
  rw [List.length_take] at h0
  obtain ⟨ad, e, h1, h2⟩ := h (by omega)
  refine ⟨ad, e, h1, fun i hi => ?_⟩
  rw [List.length_take] at hi
  have := h2 i (by omega)
  simpa using this
theorem CR.inC {w : World} {A : Option Addr} {c : Nat} {l : List Int} (h : CR kd T w A c l) : InC kd w A l := fun h0 => by
  obtain ⟨g, o, cur, e, hg, hc⟩ := h.mem h0
  refine ⟨_, e, (Array.getElem?_eq_some_iff.1 hg).1, fun i hi => ?_⟩
  rw [show (⟨g, o, none⟩ : Addr).add i = ⟨g, o + i, none⟩ by
    unfold Addr.add
    split
    · next h0 => simp [h0]
    · rfl]
  exact (cell_of_row w g _ cur _ (0, 0) hg).trans (hc i hi)
/-- a number just laid -/
theorem CR.oneI (w : World) (x : Int) : CR kd T (w.alloc (.cells #[.int kd x] T)) (some ⟨w.heap.size, 0, none⟩) 1 [x] :=
  ⟨by simp, by decide, fun _ => ⟨w.heap.size, 0, _, rfl, na w _ _, fun i hi => by
    have : i = 0 := by simpa using hi
    subst this
    rfl⟩⟩

/-- a row of the call's own -/
def OwnC (kd : IntKind) (T : TypeId) (B : Nat) (w : World) (v : Value) (l : List Int) : Prop := w.ownsRow B T 1 v l.length (cvals kd l)
theorem OwnC.cr {B : Nat} {w : World} {v : Value} {l : List Int} (h : OwnC kd T B w v l) : ∃ A c, v = .slice A l.length c ∧ CR kd T w A c l := by
  obtain ⟨h1, ⟨rfl, h2⟩ | ⟨g, cap, cur, rfl, hb, hg, hn, hm, hs, ht⟩⟩ := h
  · exact ⟨none, 0, by rw [h2], by omega, by omega, fun hl => by omega⟩
  · refine ⟨some ⟨g, 0, none⟩, cap, rfl, hn, by unfold maxLen at hm; omega, fun hl => ⟨g, 0, cur, rfl, hg, fun i hi => ?_⟩⟩
    have e := cvals_get kd l i hi
    rw [← ht, List.getElem?_take] at e
    rw [Nat.zero_add]
    split at e
    · simpa using e
    · cases e
theorem OwnC.lift {B : Nat} {w w' : World} {v : Value} {l : List Int} (h : OwnC kd T B w v l) (hb : Below w.heap.size w w') : OwnC kd T B w' v l := by
  obtain ⟨h1, h2⟩ := h
  refine ⟨h1, ?_⟩
  rcases h2 with h2 | ⟨g, cap, cur, h3, h4, h5, h6⟩
  · exact .inl h2
  · exact .inr ⟨g, cap, cur, h3, h4, (hb.block g (Array.getElem?_eq_some_iff.1 h5).1).trans h5, h6⟩
theorem OwnC.lt {B : Nat} {w : World} {v : Value} {l : List Int} (h : OwnC kd T B w v l) : ∀ k, v.ownBlock = some k → B ≤ k := fun k hk => (World.ownsRow.lt h k hk).1
theorem OwnC.fresh (w : World) : OwnC kd T w.heap.size (w.alloc (.cells #[] T)) (.slice (some ⟨w.heap.size, 0, none⟩) 0 0) [] :=
  ⟨rfl, .inr ⟨w.heap.size, 0, _, rfl, Nat.le_refl _, na w _ _, Nat.le_refl _, by decide, rfl, rfl⟩⟩
theorem OwnC.nil (B : Nat) (w : World) : OwnC kd T B w (.slice none 0 0) [] := World.ownsRow_nil w B _ 1
theorem OwnC.excP {B g : Nat} {w w1 : World} {v : Value} {l : List Int} (h : OwnC kd T B w v l) (hx : Exc g w w1) (hg : g < B) : OwnC kd T B w1 v l :=
  World.ownsRow.kept h ⟨hx.low.os, hx.low.tape, hx.low.output, hx.size, fun k hk hn => hx.other k hk (fun e => hn (by rw [e]))⟩ (.inr fun e => by have := h.lt g e; omega)

set_option maxRecDepth 100000 in
theorem pushC_run (w : World) (ST ty : TypeId) (bytes : Nat) (hST : Tryz.prog.underlying ST = some (.slice T)) (info : (Tryz.prog.info? T).map (fun i => (i.zero, i.size, i.bytes)) = some (some (.int kd 0), 1, bytes)) (hby : bytes ≤ 8)
    {B : Nat} {v : Value} {l m : List Int} {A : Option Addr} {c : Nat} (hown : OwnC kd T B w v l) (hr : InC kd w A m) (hlen : l.length + m.length ≤ 1048576) (hB : B ≤ w.heap.size) :
    ∃ v' w', (Builtin.append_ #[ST, ST] ty #[v, .slice A m.length c]).run Tryz.prog w = .ok v' w' ∧ OwnC kd T B w' v' (l ++ m) ∧ w.grownBy w' v.ownBlock ∧ (v'.ownBlock = v.ownBlock ∨ v'.ownBlock = some w.heap.size) := by
  obtain ⟨i0, hi0, hz0, hz1, hz2⟩ := info_parts info
  rcases A with _ | ad
  · have hm : m = [] := by
      by_cases h0 : 0 < m.length
      · obtain ⟨ad, e, _⟩ := hr h0
        cases e
      · exact List.eq_nil_of_length_eq_zero (by omega)
    subst hm
    refine ⟨v, w, ?_, by simpa using hown, World.grownBy.refl w _, .inl rfl⟩
    rcases hown.2 with ⟨rfl, _⟩ | ⟨g, cap, cur, rfl, _, _, hn, _⟩
    · simp [Builtin.append_, run_underlying hST, sizeOf, typeInfo, hi0, Builtin.lenOf, Builtin.firstCells]
    · simp [Builtin.append_, run_underlying hST, sizeOf, typeInfo, hi0, Builtin.lenOf, Builtin.firstCells, hn, storeCells]
  · have hcells : ∀ j u, (cvals kd m)[j]? = some u → w.cell? (ad.add j) = some u := by
      intro j u hu
      have hj : j < m.length := by rw [← cvals_len kd]; exact (List.getElem?_eq_some_iff.1 hu).1
      obtain ⟨ad', e, -, hc⟩ := hr (by omega)
      obtain rfl : ad = ad' := Option.some.inj e
      rw [hc j hj, ← hu, cvals_get kd m j hj]
    have hb : (l.length + m.length) * bytes ≤ 140737488355328 := Nat.le_trans (Nat.mul_le_mul hlen hby) (by decide)
    obtain ⟨v', w', hrun, h2, h3, _, h5⟩ := run_append_own_at (P := Tryz.prog) w B ST ty T i0 (.int kd 0) 1 bytes hST hi0 hz0 hz1 hz2 rfl (by decide) v l.length (cvals kd l) hown ad m.length c (cvals kd m) (by rw [cvals_len]; omega) hcells
      (cvals_one kd m) (by simp only [maxLen]; omega) hb hB
    refine ⟨v', w', hrun, ?_, h3, h5⟩
    unfold OwnC
    rw [List.length_append, cvals_append]
    exact h2

set_option maxRecDepth 100000 in
/-- append onto a row of the call's own -/
theorem wpList_pushC {ops : Array Oper} {rest : List Oper} {o : Oper} {a : Act} {w : World} {Q : Exit → Act → World → Prop} (hgd : o.guard = none) (s x : Operand) (ST : TypeId)
    (ho : o.op = .call { callee := .builtin .append, args := #[s, x], argTypes := #[ST, ST] }) (bytes : Nat) (hST : Tryz.prog.underlying ST = some (.slice T)) (info : (Tryz.prog.info? T).map (fun i => (i.zero, i.size, i.bytes)) = some (some (.int kd 0), 1, bytes)) (hby : bytes ≤ 8) (B : Nat) (v : Value) (l m : List Int) (A : Option Addr) (c : Nat)
    (hs : a.eval s = v) (hx : a.eval x = .slice A m.length c) (hown : OwnC kd T B w v l) (hr : InC kd w A m) (hlen : l.length + m.length ≤ 1048576) (hB : B ≤ w.heap.size)
    (h : ∀ v' w', OwnC kd T B w' v' (l ++ m) → (∀ w0 : World, Below B w0 w → Below B w0 w') → w.heap.size ≤ w'.heap.size → wpList Tryz.prog ops Q rest (a.put o.dst v') w') : wpList Tryz.prog ops Q (o :: rest) a w := by
  obtain ⟨v', w', hrun, h2, h3, h5⟩ := pushC_run w ST o.type bytes hST info hby hown hr hlen hB
  refine wpList_plain hgd fun _ hK => ?_
  unfold Oper.wp execOp
  simp only [ho, resolve, invoke, builtin, Sem.run_bind, Sem.run_pure, Result.andThen_ok, List.map_toArray, List.map_cons, List.map_nil, hs, hx]
  rw [hrun]
  exact hK _ _ (h v' w' h2 (fun w0 hb => hb.grown h3 hB hown.lt) h3.size)
set_option maxRecDepth 100000 in
theorem wpListIn_pushC {F : Fence} {nF : Nat} {ops : Array Oper} {rest : List Oper} {o : Oper} {a : Act} {w : World} {Q : Exit → Act → World → Prop} (hgd : o.guard = none) (s x : Operand) (ST : TypeId)
    (ho : o.op = .call { callee := .builtin .append, args := #[s, x], argTypes := #[ST, ST] }) (bytes : Nat) (hST : Tryz.prog.underlying ST = some (.slice T)) (info : (Tryz.prog.info? T).map (fun i => (i.zero, i.size, i.bytes)) = some (some (.int kd 0), 1, bytes)) (hby : bytes ≤ 8) (B : Nat) (v : Value) (l m : List Int) (A : Option Addr) (c : Nat)
    (hs : a.eval s = v) (hx : a.eval x = .slice A m.length c) (hown : OwnC kd T B w v l) (hr : InC kd w A m) (hlen : l.length + m.length ≤ 1048576) (hB : B ≤ w.heap.size)
    (h : ∀ v' w', OwnC kd T B w' v' (l ++ m) → w.grownBy w' v.ownBlock → (v'.ownBlock = v.ownBlock ∨ v'.ownBlock = some w.heap.size) → wpListIn F nF Tryz.prog ops Q rest (a.put o.dst v') w') : wpListIn F nF Tryz.prog ops Q (o :: rest) a w := by
  obtain ⟨v', w', hrun, h2, h3, h5⟩ := pushC_run w ST o.type bytes hST info hby hown hr hlen hB
  refine wpListIn_plain hgd fun K hK => ?_
  unfold Oper.wpIn
  refine ⟨by simp [Oper.about, ho, resolve, Target.leads, Sem.run_pure], ?_⟩
  rw [Oper.semAt_plain F _ _ (by rw [ho]; intro c hc'; cases hc')]
  simp only [execOp, ho, resolve, invoke, builtin, Sem.run_bind, Sem.run_pure, Result.andThen_ok, List.map_toArray, List.map_cons, List.map_nil, hs, hx]
  rw [hrun]
  exact hK _ _ (h v' w' h2 h3 h5)
end

theorem row8 {w : World} {g : Nat} {a0 a1 a2 a3 a4 a5 a6 a7 : Value} {t : TypeId} {f : Nat × Nat} (h : w.heap[g]? = some (.cells #[a0, a1, a2, a3, a4, a5, a6, a7] t f)) (v0 v1 v2 v3 v4 v5 v6 v7 : Value) :
    (((((((w.setCell ⟨g, 0, none⟩ v0).setCell ⟨g, 1, none⟩ v1).setCell ⟨g, 2, none⟩ v2).setCell ⟨g, 3, none⟩ v3).setCell ⟨g, 4, none⟩ v4).setCell ⟨g, 5, none⟩ v5).setCell ⟨g, 6, none⟩ v6).setCell ⟨g, 7, none⟩ v7 = setRow w g #[v0, v1, v2, v3, v4, v5, v6, v7] := by
  rw [setRow_of_setCell (cs' := #[v0, a1, a2, a3, a4, a5, a6, a7]) h v0 rfl,
    setRow_of_setCell (cs' := #[v0, v1, a2, a3, a4, a5, a6, a7]) (setRow_same h) v1 rfl,
    setRow_setRow,
    setRow_of_setCell (cs' := #[v0, v1, v2, a3, a4, a5, a6, a7]) (setRow_same h) v2 rfl,
    setRow_setRow,
    setRow_of_setCell (cs' := #[v0, v1, v2, v3, a4, a5, a6, a7]) (setRow_same h) v3 rfl,
    setRow_setRow,
    setRow_of_setCell (cs' := #[v0, v1, v2, v3, v4, a5, a6, a7]) (setRow_same h) v4 rfl,
    setRow_setRow,
    setRow_of_setCell (cs' := #[v0, v1, v2, v3, v4, v5, a6, a7]) (setRow_same h) v5 rfl,
    setRow_setRow,
    setRow_of_setCell (cs' := #[v0, v1, v2, v3, v4, v5, v6, a7]) (setRow_same h) v6 rfl,
    setRow_setRow,
    setRow_of_setCell (cs' := #[v0, v1, v2, v3, v4, v5, v6, v7]) (setRow_same h) v7 rfl,
    setRow_setRow]
/-- four cells from the third on -/
theorem r8_4 {w : World} {g : Nat} {a0 a1 a2 a3 a4 a5 a6 a7 : Value} {t : TypeId} {f : Nat × Nat} (h : w.heap[g]? = some (.cells #[a0, a1, a2, a3, a4, a5, a6, a7] t f)) (v2 v3 v4 v5 : Value) :
    (((w.setCell ⟨g, 2, none⟩ v2).setCell ⟨g, 3, none⟩ v3).setCell ⟨g, 4, none⟩ v4).setCell ⟨g, 5, none⟩ v5 = setRow w g #[a0, a1, v2, v3, v4, v5, a6, a7] := by
  rw [setRow_of_setCell (cs' := #[a0, a1, v2, a3, a4, a5, a6, a7]) h v2 rfl, setRow_of_setCell (cs' := #[a0, a1, v2, v3, a4, a5, a6, a7]) (setRow_same h) v3 rfl, setRow_setRow,
    setRow_of_setCell (cs' := #[a0, a1, v2, v3, v4, a5, a6, a7]) (setRow_same h) v4 rfl, setRow_setRow, setRow_of_setCell (cs' := #[a0, a1, v2, v3, v4, v5, a6, a7]) (setRow_same h) v5 rfl, setRow_setRow]
theorem r8_at1 {w : World} {g : Nat} {a0 a1 a2 a3 a4 a5 a6 a7 : Value} {t : TypeId} {f : Nat × Nat} (h : w.heap[g]? = some (.cells #[a0, a1, a2, a3, a4, a5, a6, a7] t f)) (v : Value) :
    w.setCell ⟨g, 1, none⟩ v = setRow w g #[a0, v, a2, a3, a4, a5, a6, a7] := setRow_of_setCell h v rfl
theorem r8_at6 {w : World} {g : Nat} {a0 a1 a2 a3 a4 a5 a6 a7 : Value} {t : TypeId} {f : Nat × Nat} (h : w.heap[g]? = some (.cells #[a0, a1, a2, a3, a4, a5, a6, a7] t f)) (v : Value) :
    w.setCell ⟨g, 6, none⟩ v = setRow w g #[a0, a1, a2, a3, a4, a5, v, a7] := setRow_of_setCell h v rfl
theorem r8_at7 {w : World} {g : Nat} {a0 a1 a2 a3 a4 a5 a6 a7 : Value} {t : TypeId} {f : Nat × Nat} (h : w.heap[g]? = some (.cells #[a0, a1, a2, a3, a4, a5, a6, a7] t f)) (v : Value) :
    w.setCell ⟨g, 7, none⟩ v = setRow w g #[a0, a1, a2, a3, a4, a5, a6, v] := setRow_of_setCell h v rfl
theorem r2_at0 {w : World} {g : Nat} {a0 a1 : Value} {t : TypeId} {f : Nat × Nat} (h : w.heap[g]? = some (.cells #[a0, a1] t f)) (v : Value) : w.setCell ⟨g, 0, none⟩ v = setRow w g #[v, a1] := setRow_of_setCell h v rfl
@[go_sem] theorem run_store_nilF {P : Program} {w : World} {a : Addr} {m : Mode} : (store a .nilFunc m).run P w = stored P w a .nilFunc m := run_store P w a _ m rfl

theorem byte_info : (Tryz.prog.info? 5).map (fun i => (i.zero, i.size, i.bytes)) = some (some (.int .u8 0), 1, 1) := by kernel_rfl
theorem long_info : (Tryz.prog.info? 2).map (fun i => (i.zero, i.size, i.bytes)) = some (some (.int .i64 0), 1, 8) := by kernel_rfl
end Go.Proofs.YtmpfbkeamihjbaaGreat

namespace Go.Proofs.YtmpfbkeamihjbaaGreat
open Go.RowKit

def rvals : List Rn → List Value
  | [] => []
  | b :: l => .int .i64 b.f :: .int .i64 b.s :: .int .i64 b.n :: rvals l
theorem rvals_len (l : List Rn) : (rvals l).length = l.length * 3 := by
  induction l with
  | nil => rfl
  | cons b l ih => simp [rvals, ih]; omega
theorem rvals_append (l m : List Rn) : rvals (l ++ m) = rvals l ++ rvals m := by
  induction l with
  | nil => rfl
  | cons b l ih => simp [rvals, ih]
theorem rvals_get : ∀ (l : List Rn) (i : Nat) (hi : i < l.length), (rvals l)[i * 3]? = some (.int .i64 l[i].f) ∧ (rvals l)[i * 3 + 1]? = some (.int .i64 l[i].s) ∧ (rvals l)[i * 3 + 2]? = some (.int .i64 l[i].n)
  | b :: l, 0, _ => ⟨rfl, rfl, rfl⟩
  | b :: l, i + 1, hi => by
    have := rvals_get l i (by simpa using hi)
    rw [show (i + 1) * 3 = i * 3 + 3 by omega]
    exact this
theorem rvals_one (l : List Rn) : ∀ u ∈ rvals l, u.oneCell' = true := by
  induction l with
  | nil => intro u h; cases h
  | cons b l ih =>
    intro u h
    simp only [rvals, List.mem_cons] at h
    rcases h with rfl | rfl | rfl | h
    · rfl
    · rfl
    · rfl
    · exact ih u h

/-- a slice of bands that came in, or lies somewhere -/
def InR (w : World) (X : Option Addr) (xs : List Rn) : Prop :=
  0 < xs.length → ∃ ad, X = some ad ∧ ad.block < w.heap.size ∧ ∀ i (hi : i < xs.length), w.cell? (ad.add (i * 3)) = some (.int .i64 xs[i].f) ∧ w.cell? (ad.add (i * 3 + 1)) = some (.int .i64 xs[i].s) ∧ w.cell? (ad.add (i * 3 + 2)) = some (.int .i64 xs[i].n)
theorem InR.below {w w' : World} {X : Option Addr} {xs : List Rn} (h : InR w X xs) (hb : Below w.heap.size w w') : InR w' X xs := fun h0 => by
  obtain ⟨ad, e, h1, h2⟩ := h h0
  have hc : ∀ j, w'.cell? (ad.add j) = w.cell? (ad.add j) := fun j => hb.cell (p := ad.add j) (by rw [show (ad.add j).block = ad.block by unfold Addr.add; split <;> rfl]; exact h1)
  exact ⟨ad, e, Nat.lt_of_lt_of_le h1 hb.size, fun i hi => by rw [hc, hc, hc]; exact h2 i hi⟩
theorem InR.take {w : World} {X : Option Addr} {xs : List Rn} (h : InR w X xs) (k : Nat) : InR w X (xs.take k) := fun h0 => by
  rw [List.length_take] at h0
  obtain ⟨ad, e, h1, h2⟩ := h (by omega)
  refine ⟨ad, e, h1, fun i hi => ?_⟩
  rw [List.length_take] at hi
  have := h2 i (by omega)
  simpa using this
theorem InR.flat {w : World} {ad : Addr} {xs : List Rn} (h : InR w (some ad) xs) : ∀ j u, (rvals xs)[j]? = some u → w.cell? (ad.add j) = some u := by
  intro j u hu
  have hj : j < xs.length * 3 := by rw [← rvals_len]; exact (List.getElem?_eq_some_iff.1 hu).1
  obtain ⟨ad', e, -, h2⟩ := h (by omega)
  obtain rfl : ad = ad' := Option.some.inj e
  obtain ⟨q1, q2, q3⟩ := h2 (j / 3) (by omega)
  obtain ⟨p1, p2, p3⟩ := rvals_get xs (j / 3) (by omega)
  have hm : j % 3 = 0 ∨ j % 3 = 1 ∨ j % 3 = 2 := by omega
  rcases hm with hm | hm | hm
  · have e : j / 3 * 3 = j := by omega
    rw [e] at p1 q1
    rw [q1, ← p1, hu]
  · have e : j / 3 * 3 + 1 = j := by omega
    rw [e] at p2 q2
    rw [q2, ← p2, hu]
  · have e : j / 3 * 3 + 2 = j := by omega
    rw [e] at p3 q3
    rw [q3, ← p3, hu]

/-- a row of bands of the call's own -/
def OwnR (B : Nat) (w : World) (v : Value) (l : List Rn) : Prop := w.ownsRow B 46 3 v l.length (rvals l)
theorem OwnR.rr {B : Nat} {w : World} {v : Value} {l : List Rn} (h : OwnR B w v l) : ∃ A c, v = .slice A l.length c ∧ RR w A c l := by
  obtain ⟨h1, ⟨rfl, h2⟩ | ⟨g, cap, cur, rfl, hb, hg, hn, hm, hs, ht⟩⟩ := h
  · exact ⟨none, 0, by rw [h2], by omega, by omega, fun hl => by omega⟩
  · refine ⟨some ⟨g, 0, none⟩, cap, rfl, hn, by unfold maxLen at hm; omega, fun hl => ⟨g, 0, cur, rfl, hg, fun i hi => ?_⟩⟩
    have hk : ∀ j, j < l.length * 3 → cur[j]? = (rvals l)[j]? := fun j hj => by
      rw [← ht, List.getElem?_take, if_pos hj]
      simp
    have := rvals_get l i hi
    rw [Nat.zero_add, hk _ (by omega), hk _ (by omega), hk _ (by omega)]
    exact this
theorem OwnR.lift {B : Nat} {w w' : World} {v : Value} {l : List Rn} (h : OwnR B w v l) (hb : Below w.heap.size w w') : OwnR B w' v l := by
  obtain ⟨h1, h2⟩ := h
  refine ⟨h1, ?_⟩
  rcases h2 with h2 | ⟨g, cap, cur, h3, h4, h5, h6⟩
  · exact .inl h2
  · exact .inr ⟨g, cap, cur, h3, h4, (hb.block g (Array.getElem?_eq_some_iff.1 h5).1).trans h5, h6⟩
theorem OwnR.lt {B : Nat} {w : World} {v : Value} {l : List Rn} (h : OwnR B w v l) : ∀ k, v.ownBlock = some k → B ≤ k := fun k hk => (World.ownsRow.lt h k hk).1
theorem OwnR.fresh (w : World) : OwnR w.heap.size (w.alloc (.cells #[] 46)) (.slice (some ⟨w.heap.size, 0, none⟩) 0 0) [] :=
  ⟨rfl, .inr ⟨w.heap.size, 0, _, rfl, Nat.le_refl _, na w _ _, Nat.le_refl _, by decide, rfl, rfl⟩⟩
theorem OwnR.nil (B : Nat) (w : World) : OwnR B w (.slice none 0 0) [] := World.ownsRow_nil w B _ 3

theorem run_info : (Tryz.prog.info? 46).map (fun i => (i.zero, i.size, i.bytes)) = some (some (.agg #[.int .i64 0, .int .i64 0, .int .i64 0]), 3, 24) := by kernel_rfl

set_option maxRecDepth 100000 in
theorem pushR_run (w : World) (ty : TypeId) {B : Nat} {v : Value} {l m : List Rn} {A : Option Addr} {c : Nat} (hown : OwnR B w v l) (hr : InR w A m) (hlen : l.length + m.length ≤ 4096) (hB : B ≤ w.heap.size) :
    ∃ v' w', (Builtin.append_ #[22, 22] ty #[v, .slice A m.length c]).run Tryz.prog w = .ok v' w' ∧ OwnR B w' v' (l ++ m) ∧ w.grownBy w' v.ownBlock := by
  obtain ⟨i0, hi0, hz0, hz1, hz2⟩ := info_parts run_info
  rcases A with _ | ad
  · have hm : m = [] := by
      by_cases h0 : 0 < m.length
      · obtain ⟨ad, e, _⟩ := hr h0
        cases e
      · exact List.eq_nil_of_length_eq_zero (by omega)
    subst hm
    refine ⟨v, w, ?_, by simpa using hown, World.grownBy.refl w _⟩
    rcases hown.2 with ⟨rfl, _⟩ | ⟨g, cap, cur, rfl, _, _, hn, _⟩
    · simp [Builtin.append_, run_underlying Tryz.underlying22, sizeOf, typeInfo, hi0, Builtin.lenOf, Builtin.firstCells]
    · simp [Builtin.append_, run_underlying Tryz.underlying22, sizeOf, typeInfo, hi0, Builtin.lenOf, Builtin.firstCells, hn, storeCells]
  · obtain ⟨v', w', hrun, h2, h3, _, _⟩ := run_append_own_at (P := Tryz.prog) w B 22 ty 46 i0 (.agg #[.int .i64 0, .int .i64 0, .int .i64 0]) 3 24 Tryz.underlying22 hi0 hz0 hz1 hz2 rfl (by decide) v l.length (rvals l) hown ad m.length c (rvals m) (rvals_len m) hr.flat
      (rvals_one m) (by simp only [maxLen]; omega) (by omega) hB
    refine ⟨v', w', hrun, ?_, h3⟩
    unfold OwnR
    rw [List.length_append, rvals_append]
    exact h2

set_option maxRecDepth 100000 in
theorem wpList_pushR {ops : Array Oper} {rest : List Oper} {o : Oper} {a : Act} {w : World} {Q : Exit → Act → World → Prop} (hgd : o.guard = none) (s x : Operand)
    (ho : o.op = .call { callee := .builtin .append, args := #[s, x], argTypes := #[22, 22] }) (B : Nat) (v : Value) (l m : List Rn) (A : Option Addr) (c : Nat)
    (hs : a.eval s = v) (hx : a.eval x = .slice A m.length c) (hown : OwnR B w v l) (hr : InR w A m) (hlen : l.length + m.length ≤ 4096) (hB : B ≤ w.heap.size)
    (h : ∀ v' w', OwnR B w' v' (l ++ m) → (∀ w0 : World, Below B w0 w → Below B w0 w') → w.heap.size ≤ w'.heap.size → wpList Tryz.prog ops Q rest (a.put o.dst v') w') : wpList Tryz.prog ops Q (o :: rest) a w := by
  obtain ⟨v', w', hrun, h2, h3⟩ := pushR_run w o.type hown hr hlen hB
  refine wpList_plain hgd fun _ hK => ?_
  unfold Oper.wp execOp
  simp only [ho, resolve, invoke, builtin, Sem.run_bind, Sem.run_pure, Result.andThen_ok, List.map_toArray, List.map_cons, List.map_nil, hs, hx]
  rw [hrun]
  exact hK _ _ (h v' w' h2 (fun w0 hb => hb.grown h3 hB hown.lt) h3.size)

theorem RR.inR {w : World} {A : Option Addr} {c : Nat} {l : List Rn} (h : RR w A c l) : InR w A l := fun h0 => by
  obtain ⟨g, o, cur, e, hg, hc⟩ := h.mem h0
  have ea : ∀ j, (⟨g, o, none⟩ : Addr).add j = ⟨g, o + j, none⟩ := fun j => by
    unfold Addr.add
    split
    · next h0 => simp [h0]
    · rfl
  refine ⟨_, e, (Array.getElem?_eq_some_iff.1 hg).1, fun i hi => ?_⟩
  obtain ⟨h1, h2, h3⟩ := hc i hi
  rw [ea, ea, ea]
  exact ⟨(cell_of_row w g _ cur _ (0, 0) hg).trans h1, (cell_of_row w g _ cur _ (0, 0) hg).trans h2, (cell_of_row w g _ cur _ (0, 0) hg).trans h3⟩
theorem RR.oneI (w : World) (r : Rn) : RR (w.alloc (.cells #[.int .i64 r.f, .int .i64 r.s, .int .i64 r.n] 46)) (some ⟨w.heap.size, 0, none⟩) 1 [r] :=
  ⟨by simp, by decide, fun _ => ⟨w.heap.size, 0, _, rfl, na w _ _, fun i hi => by
    have : i = 0 := by simpa using hi
    subst this
    exact ⟨rfl, rfl, rfl⟩⟩⟩
theorem OwnR.excP {B g : Nat} {w w1 : World} {v : Value} {l : List Rn} (h : OwnR B w v l) (hx : Exc g w w1) (hg : g < B) : OwnR B w1 v l :=
  World.ownsRow.kept h ⟨hx.low.os, hx.low.tape, hx.low.output, hx.size, fun k hk hn => hx.other k hk (fun e => hn (by rw [e]))⟩ (.inr fun e => by have := h.lt g e; omega)
end Go.Proofs.YtmpfbkeamihjbaaGreat

namespace Go.Proofs.YtmpfbkeamihjbaaGreat
open Go.RowKit

/-- may one run be, by itself -/
def rnIs (r : Rn) : Bool := decide (1 ≤ r.n) && decide (r.n ≤ 256) && decide (0 ≤ r.f) && decide (r.f ≤ 281474976710656) && decide (0 ≤ r.s) && decide (r.s ≤ 281474976710656)
def rnForm (last : Bool) (r : Rn) : Bool := decide ((r.n == 1) = (r.s == 0)) && (decide (1 < r.n) || last) && decide (r.f + r.s * (r.n - 1) ≤ 281474976710656)
def rnGap (p r : Rn) : Bool := decide (0 < r.f - (p.f + p.s * (p.n - 1))) && !decide (r.f - (p.f + p.s * (p.n - 1)) = p.s)
def rnAt (l : List Rn) (i : Nat) : Bool := rnIs (rn l i) && rnForm (decide (i + 1 = l.length)) (rn l i) && (decide (i = 0) || rnGap (rn l (i - 1)) (rn l i))
def rnSum (l : List Rn) : Nat → Int
  | 0 => 0
  | k + 1 => rnSum l k + (rn l k).n
def rnB (l : List Rn) : Bool := decide (0 < l.length) && decide (l.length ≤ 256) && (List.range l.length).all (rnAt l) && decide (rnSum l l.length ≤ 256)

theorem rnIs_spec {r : Rn} (h : rnIs r = true) : 1 ≤ r.n ∧ r.n ≤ 256 ∧ 0 ≤ r.f ∧ r.f ≤ 281474976710656 ∧ 0 ≤ r.s ∧ r.s ≤ 281474976710656 := by
  unfold rnIs at h
  simp only [Bool.and_eq_true, decide_eq_true_eq] at h
  omega
theorem rnAt_spec {l : List Rn} {i : Nat} (h : rnAt l i = true) : rnIs (rn l i) = true ∧ rnForm (decide (i + 1 = l.length)) (rn l i) = true ∧ (i = 0 ∨ rnGap (rn l (i - 1)) (rn l i) = true) := by
  unfold rnAt at h
  simp only [Bool.and_eq_true, Bool.or_eq_true, decide_eq_true_eq] at h
  exact ⟨h.1.1, h.1.2, h.2⟩
theorem rnB_no {l : List Rn} {k : Nat} (hk : k < l.length) (h : rnAt l k = false) : rnB l = false := by
  cases e : rnB l
  · rfl
  · unfold rnB at e
    simp only [Bool.and_eq_true, List.all_eq_true] at e
    have := e.1.2 k (List.mem_range.2 hk)
    rw [h] at this
    cases this
theorem rnB_of {l : List Rn} (h0 : 0 < l.length) (h1 : l.length ≤ 256) (h : ∀ i, i < l.length → rnAt l i = true) : rnB l = decide (rnSum l l.length ≤ 256) := by
  unfold rnB
  rw [decide_eq_true h0, decide_eq_true h1, List.all_eq_true.2 fun i hi => h i (List.mem_range.1 hi)]
  simp
theorem rnB_spec {l : List Rn} (h : rnB l = true) : 0 < l.length ∧ l.length ≤ 256 ∧ (∀ i, i < l.length → rnAt l i = true) ∧ rnSum l l.length ≤ 256 := by
  unfold rnB at h
  simp only [Bool.and_eq_true, decide_eq_true_eq, List.all_eq_true] at h
  exact ⟨h.1.1.1, h.1.1.2, fun i hi => h.1.2 i (List.mem_range.2 hi), h.2⟩
theorem rnSum_bk {l : List Rn} : ∀ {k : Nat}, (∀ i, i < k → rnAt l i = true) → k ≤ l.length → (k : Int) ≤ rnSum l k ∧ rnSum l k ≤ 256 * k
  | 0, _, _ => ⟨Int.le_refl _, Int.le_refl _⟩
  | k + 1, h, hk => by
    have a := rnSum_bk (fun i hi => h i (by omega)) (show k ≤ l.length by omega)
    have b := rnIs_spec (rnAt_spec (h k (by omega))).1
    rw [rnSum]
    omega
theorem rnSum_bk2 {l : List Rn} {k : Nat} (h : ∀ i, i < k → rnAt l i = true) (hk : k < l.length) : 0 ≤ rnSum l k ∧ rnSum l k ≤ 256 * k := by
  have := rnSum_bk h (Nat.le_of_lt hk)
  omega
theorem rnLast_nn (r : Rn) (hf : 0 ≤ r.f) (hs : 0 ≤ r.s) (hn : 1 ≤ r.n) : 0 ≤ r.f + r.s * (r.n - 1) := by
  have := Int.mul_nonneg hs (show 0 ≤ r.n - 1 by omega)
  omega

/-- where a function leaves by a panic that its closure catches -/
theorem rises_out {o : Nat} {x : Bool} {tmps : Array Value} {w : World} {u : TypeId} {pv : Value} {R : Ending → World → Prop} (hc : w.heap[o]? = some (.cells #[.bool x] 4 (0, 0))) (ht : tmps[2]? = some (.pointer (some ⟨o, 0, none⟩)))
    (hR : R (.returned (.bool false)) (setRow w o #[.bool false])) :
    Leaves Tryz.prog Tryz.f87 tmps R [{ target := .fn (.func 111) #[.pointer (some ⟨o, 0, none⟩)], args := #[] }] (.panicking [{ v := .iface u pv, recovered := false }]) w := by
  obtain ⟨z1, z2, z3⟩ := rcell hc
  refine leaves_cons (f := 111) (args := #[.pointer (some ⟨o, 0, none⟩)]) (by simp) (by simp [go_sem]) ?_
  refine (rises_caught ⟨o, 0, none⟩ x u pv [] w (by rw [z1]; rfl) (z2 0)).mono ?_
  rintro e u' w'' ⟨rfl, rfl, rfl⟩
  rw [row1 hc]
  have hn := setRow_same (cs' := #[.bool false]) hc
  have y1 := (rcell hn).1
  have e0 : (results Tryz.f87 tmps).run Tryz.prog (setRow w o #[.bool false]) = .ok (.bool false) (setRow w o #[.bool false]) := by
    simp [results, Tryz.results87, go_sem, ht, y1]
  simp [Leaves, settle]
  exact ⟨_, e0, hR⟩
theorem rises_back {o : Nat} {x : Bool} {tmps : Array Value} {w : World} {R : Ending → World → Prop} (hc : w.heap[o]? = some (.cells #[.bool x] 4 (0, 0))) (ht : tmps[2]? = some (.pointer (some ⟨o, 0, none⟩)))
    (hR : R (.returned (.bool x)) w) :
    Leaves Tryz.prog Tryz.f87 tmps R [{ target := .fn (.func 111) #[.pointer (some ⟨o, 0, none⟩)], args := #[] }] .returning w := by
  obtain ⟨z1, z2, z3⟩ := rcell hc
  refine leaves_cons (f := 111) (args := #[.pointer (some ⟨o, 0, none⟩)]) (by simp) (by simp [go_sem]) ?_
  refine (rises_idle ⟨o, 0, none⟩ w).mono ?_
  rintro e u' w'' ⟨rfl, rfl, rfl⟩
  have e0 : (results Tryz.f87 tmps).run Tryz.prog w'' = .ok (.bool x) w'' := by
    simp [results, Tryz.results87, go_sem, ht, z1]
  simp [Leaves, settle]
  exact ⟨_, e0, hR⟩

theorem rnIs_no {r : Rn} (h : rnIs r = false) : r.n < 1 ∨ (1 ≤ r.n ∧ 256 < r.n) ∨ (1 ≤ r.n ∧ r.n ≤ 256 ∧ r.f < 0) ∨ (1 ≤ r.n ∧ r.n ≤ 256 ∧ 0 ≤ r.f ∧ 281474976710656 < r.f) ∨ (1 ≤ r.n ∧ r.n ≤ 256 ∧ 0 ≤ r.f ∧ r.f ≤ 281474976710656 ∧ r.s < 0) ∨ (1 ≤ r.n ∧ r.n ≤ 256 ∧ 0 ≤ r.f ∧ r.f ≤ 281474976710656 ∧ 0 ≤ r.s ∧ 281474976710656 < r.s) := by
  unfold rnIs at h
  simp only [Bool.and_eq_false_iff, decide_eq_false_iff_not] at h
  omega

set_option maxRecDepth 100000 in
set_option maxHeartbeats 4000000 in
theorem runs_rises (A : Option Addr) (c : Nat) (l : List Rn) (w : World) (hR : RR w A c l) :
    Calls Tryz.prog 87 #[.slice A l.length c] w fun e w' => e = .returned (.bool (rnB l)) ∧ Below w.heap.size w w' := by
  have hmf : ∀ (fn : Fn) (first cap : Array Value) (w : World), (Instr.makeFunc fn first cap).run Tryz.prog w = .ok (.func fn first cap) w := fun _ _ _ _ => rfl
  have cy := runs_sure_yes
  have cn := runs_sure_no
  go_enter_defers Tryz.func87, Tryz.ntmps87
  have hL : 0 ≤ (l.length : Int) := by omega
  by_cases h0 : 0 < l.length
  · by_cases h1 : l.length ≤ 256
    · have d1 : decide ((l.length : Int) ≤ 256) = true := decide_eq_true (by omega)
      go_wp2_with fail
      refine (cy _).mono ?_
      rintro e w1 ⟨rfl, rfl⟩
      clear d1
      go_wp2_with fail
      go_loopw [3, 19] (fun vm vi wr => ∃ k : Nat, vi = .int .i64 k ∧ vm = .int .i64 (rnSum l k) ∧ k ≤ l.length ∧ Hid (∀ i, i < k → rnAt l i = true) ∧ wr.heap[w.heap.size]? = some (.cells #[.bool false] 4 (0, 0)) ∧ Below w.heap.size w wr) (fun _ vi _ => l.length - (intOf vi).toNat)
      case atStart => exact ⟨0, rfl, rfl, by omega, hide fun i hi => by omega, na w _ _, bA (b0 w) _⟩
      case round =>
        obtain ⟨k, rfl, rfl, hk, hat, j1, hb⟩ := hrel
        by_cases hlt : k < l.length
        · obtain ⟨g, oo, cur, rfl, hg, hcc⟩ := hR.mem h0
          have hcell : ∀ i, i < l.length → cur[oo + i * 3]? = some (.int .i64 (rn l i).f) ∧ cur[oo + i * 3 + 1]? = some (.int .i64 (rn l i).s) ∧ cur[oo + i * 3 + 2]? = some (.int .i64 (rn l i).n) := fun i hi => by
            have := hcc i hi
            rw [rn_eq hi] at this
            exact this
          have HCELL := hide hcell
          obtain ⟨z1, z2, z3⟩ := hcell k hlt
          have hno := fun h => rnB_no (l := l) hlt h
          have hcap := hR.cap
          have hgr := kp hb hg
          have hat0 : rnAt l k = (rnIs (rn l k) && rnForm (decide (k + 1 = l.length)) (rn l k) && (decide (k = 0) || rnGap (rn l (k - 1)) (rn l k))) := rfl
          have hsum : rnSum l (k + 1) = rnSum l k + (rn l k).n := rfl
          have hsb := rnSum_bk hat.out (Nat.le_of_lt hlt)
          clear hcell hcc
          have HK := hide hk
          cases hIs : rnIs (rn l k)
          · have hB := hide (hno (by rw [hat0, hIs]; rfl))
            have hIn := rnIs_no hIs
            clear hno hat0 hsum hIs hsb
            generalize rn l k = r at *
            obtain ⟨f, s, n⟩ := r
            simp only at z1 z2 z3 hIn
            rcases hIn with hIn | ⟨i1, hIn⟩ | ⟨i1, i2, hIn⟩ | ⟨i1, i2, i3, hIn⟩ | ⟨i1, i2, i3, i4, hIn⟩ | ⟨i1, i2, i3, i4, i5, hIn⟩
            · skip
              have e0 : decide (1 ≤ n) = false := decide_eq_false (by omega)
              obtain ⟨zo_a, zo_b, lo1⟩ := rcell j1
              obtain ⟨zg_a, zg_b, lg2⟩ := rcell hgr
              go_wp2_with fail
              refine (cn _).mono ?_
              rintro e wz ⟨rfl, rfl⟩
              go_wp2_with fail
              refine rises_out (ka (j1) (.cells #[.int .i64 f, .int .i64 s, .int .i64 n] 46)) rfl ?_
              exact ⟨by rw [hB.out], bX (bA hb (.cells #[.int .i64 f, .int .i64 s, .int .i64 n] 46)) (fin_x (b0 _) (ka (j1) (.cells #[.int .i64 f, .int .i64 s, .int .i64 n] 46)) rfl).1 (Nat.le_refl _)⟩
            · skip
              have e0 : decide (1 ≤ n) = true := decide_eq_true (by omega)
              have e1 : decide (n ≤ 256) = false := decide_eq_false (by omega)
              obtain ⟨zo_a, zo_b, lo3⟩ := rcell j1
              obtain ⟨zg_a, zg_b, lg4⟩ := rcell hgr
              go_wp2_with fail
              refine (cn _).mono ?_
              rintro e wz ⟨rfl, rfl⟩
              go_wp2_with fail
              refine rises_out (ka (j1) (.cells #[.int .i64 f, .int .i64 s, .int .i64 n] 46)) rfl ?_
              exact ⟨by rw [hB.out], bX (bA hb (.cells #[.int .i64 f, .int .i64 s, .int .i64 n] 46)) (fin_x (b0 _) (ka (j1) (.cells #[.int .i64 f, .int .i64 s, .int .i64 n] 46)) rfl).1 (Nat.le_refl _)⟩
            · skip
              have e0 : decide (1 ≤ n) = true := decide_eq_true (by omega)
              have e1 : decide (n ≤ 256) = true := decide_eq_true (by omega)
              have e2 : decide (0 ≤ f) = false := decide_eq_false (by omega)
              obtain ⟨zo_a, zo_b, lo5⟩ := rcell j1
              obtain ⟨zg_a, zg_b, lg6⟩ := rcell hgr
              go_wp2_with fail
              refine (cn _).mono ?_
              rintro e wz ⟨rfl, rfl⟩
              go_wp2_with fail
              refine rises_out (ka (j1) (.cells #[.int .i64 f, .int .i64 s, .int .i64 n] 46)) rfl ?_
              exact ⟨by rw [hB.out], bX (bA hb (.cells #[.int .i64 f, .int .i64 s, .int .i64 n] 46)) (fin_x (b0 _) (ka (j1) (.cells #[.int .i64 f, .int .i64 s, .int .i64 n] 46)) rfl).1 (Nat.le_refl _)⟩
            · skip
              have e0 : decide (1 ≤ n) = true := decide_eq_true (by omega)
              have e1 : decide (n ≤ 256) = true := decide_eq_true (by omega)
              have e2 : decide (0 ≤ f) = true := decide_eq_true (by omega)
              have e3 : decide (f ≤ 281474976710656) = false := decide_eq_false (by omega)
              obtain ⟨zo_a, zo_b, lo7⟩ := rcell j1
              obtain ⟨zg_a, zg_b, lg8⟩ := rcell hgr
              go_wp2_with fail
              refine (cn _).mono ?_
              rintro e wz ⟨rfl, rfl⟩
              go_wp2_with fail
              refine rises_out (ka (j1) (.cells #[.int .i64 f, .int .i64 s, .int .i64 n] 46)) rfl ?_
              exact ⟨by rw [hB.out], bX (bA hb (.cells #[.int .i64 f, .int .i64 s, .int .i64 n] 46)) (fin_x (b0 _) (ka (j1) (.cells #[.int .i64 f, .int .i64 s, .int .i64 n] 46)) rfl).1 (Nat.le_refl _)⟩
            · skip
              have e0 : decide (1 ≤ n) = true := decide_eq_true (by omega)
              have e1 : decide (n ≤ 256) = true := decide_eq_true (by omega)
              have e2 : decide (0 ≤ f) = true := decide_eq_true (by omega)
              have e3 : decide (f ≤ 281474976710656) = true := decide_eq_true (by omega)
              have e4 : decide (0 ≤ s) = false := decide_eq_false (by omega)
              obtain ⟨zo_a, zo_b, lo9⟩ := rcell j1
              obtain ⟨zg_a, zg_b, lg10⟩ := rcell hgr
              go_wp2_with fail
              refine (cn _).mono ?_
              rintro e wz ⟨rfl, rfl⟩
              go_wp2_with fail
              refine rises_out (ka (j1) (.cells #[.int .i64 f, .int .i64 s, .int .i64 n] 46)) rfl ?_
              exact ⟨by rw [hB.out], bX (bA hb (.cells #[.int .i64 f, .int .i64 s, .int .i64 n] 46)) (fin_x (b0 _) (ka (j1) (.cells #[.int .i64 f, .int .i64 s, .int .i64 n] 46)) rfl).1 (Nat.le_refl _)⟩
            · skip
              have e0 : decide (1 ≤ n) = true := decide_eq_true (by omega)
              have e1 : decide (n ≤ 256) = true := decide_eq_true (by omega)
              have e2 : decide (0 ≤ f) = true := decide_eq_true (by omega)
              have e3 : decide (f ≤ 281474976710656) = true := decide_eq_true (by omega)
              have e4 : decide (0 ≤ s) = true := decide_eq_true (by omega)
              have e5 : decide (s ≤ 281474976710656) = false := decide_eq_false (by omega)
              obtain ⟨zo_a, zo_b, lo11⟩ := rcell j1
              obtain ⟨zg_a, zg_b, lg12⟩ := rcell hgr
              go_wp2_with fail
              refine (cn _).mono ?_
              rintro e wz ⟨rfl, rfl⟩
              go_wp2_with fail
              refine rises_out (ka (j1) (.cells #[.int .i64 f, .int .i64 s, .int .i64 n] 46)) rfl ?_
              exact ⟨by rw [hB.out], bX (bA hb (.cells #[.int .i64 f, .int .i64 s, .int .i64 n] 46)) (fin_x (b0 _) (ka (j1) (.cells #[.int .i64 f, .int .i64 s, .int .i64 n] 46)) rfl).1 (Nat.le_refl _)⟩
          · obtain ⟨q1, q2, q3, q4, q5, q6⟩ := rnIs_spec hIs
            have cL := runs_last (rn l k).f (rn l k).s (rn l k).n ⟨q3, q4⟩ ⟨q5, q6⟩ ⟨q1, q2⟩
            have hla := rnLast_nn (rn l k) q3 q5 q1
            rw [hIs, Bool.true_and] at hat0
            have hsb2 := rnSum_bk2 hat.out hlt
            generalize hrr : rn l k = r at *
            have HRR := hide hrr
            clear hrr
            obtain ⟨f, s, n⟩ := r
            simp only at z1 z2 z3 q1 q2 q3 q4 q5 q6 cL hla
            have e1 : decide (1 ≤ n) = true := decide_eq_true q1
            have e2 : decide (n ≤ 256) = true := decide_eq_true q2
            have e3 : decide (0 ≤ f) = true := decide_eq_true q3
            have e4 : decide (f ≤ 281474976710656) = true := decide_eq_true q4
            have e5 : decide (0 ≤ s) = true := decide_eq_true q5
            have e6 : decide (s ≤ 281474976710656) = true := decide_eq_true q6
            have HNO := hide hno
            have HAT0 := hide hat0
            have HSUM := hide hsum
            clear hno hat0 hsum hIs
            obtain ⟨zo_a, zo_b, lo13⟩ := rcell j1
            obtain ⟨zg_a, zg_b, lg14⟩ := rcell hgr
            go_wp2_with fail
            refine (cy _).mono ?_
            rintro e wy ⟨rfl, rfl⟩
            clear e1 e2 e3 e4 e5 e6
            by_cases hA : (n == 1) = (s == 0)
            · by_cases hBC : 1 < n ∨ (k : Int) = (l.length : Int) - 1
              · have HBC : Hid ((decide (1 < n) || decide (k + 1 = l.length)) = true) := hide (by
                  rw [Bool.or_eq_true, decide_eq_true_eq, decide_eq_true_eq]
                  omega)
                have HA := hide hA
                have hV : (decide (1 < n) || (k : Int) == (l.length : Int) - 1) = true := by
                  rw [Bool.or_eq_true, decide_eq_true_eq, beq_iff_eq]
                  exact hBC
                by_cases hD : f + s * (n - 1) ≤ 281474976710656
                · have hDd : decide (f + s * (n - 1) ≤ 281474976710656) = true := decide_eq_true hD
                  have HFo : Hid (rnForm (decide (k + 1 = l.length)) ⟨f, s, n⟩ = true) := hide (by
                    unfold rnForm
                    rw [decide_eq_true HA.out, HBC.out, hDd]; rfl)
                  clear hD
                  have hlb : 0 ≤ f + s * (n - 1) := hla
                  generalize f + s * (n - 1) = la at *
                  go_wp2_with fail
                  all_goals
                    refine (cL _).mono ?_
                    rintro e wx ⟨rfl, hbx⟩
                    have f_ox := kp hbx (ka (j1) (.cells #[.int .i64 f, .int .i64 s, .int .i64 n] 46))
                    have f_gx := kp hbx (ka (hgr) (.cells #[.int .i64 f, .int .i64 s, .int .i64 n] 46))
                    have f_rx := kp hbx (na wr #[.int .i64 f, .int .i64 s, .int .i64 n] 46)
                    have hBx := bB (bA hb (.cells #[.int .i64 f, .int .i64 s, .int .i64 n] 46)) hbx
                    obtain ⟨zo_a, zo_b, lo15⟩ := rcell f_ox
                    obtain ⟨zg_a, zg_b, lg16⟩ := rcell f_gx
                    obtain ⟨zr_a, zr_b, lr17⟩ := rcell f_rx
                    go_wp2_with fail
                    refine (cy _).mono ?_
                    rintro e wz ⟨rfl, rfl⟩
                    by_cases hk0 : k = 0
                    · have hAt : Hid (rnAt l k = true) := hide (by rw [HAT0.out, HFo.out, decide_eq_true hk0]; rfl)
                      have hk0i : (k : Int) = 0 := by omega
                      have hall : Hid (∀ i, i < k + 1 → rnAt l i = true) := hide fun i hi => by
                        by_cases e : i = k
                        · subst e; exact hAt.out
                        · exact hat.out i (by omega)
                      subst hk0
                      go_wp2
                      go_roundw
                      case rel => exact ⟨0 + 1, by go_num, by rw [HSUM.out], by omega, hall, (f_ox), hBx⟩
                      case measure => simp [intOf]; omega
                    · have hkp : 0 < (k : Int) := by omega
                      have hpa := hat.out (k - 1) (by omega)
                      have hps := rnIs_spec (rnAt_spec hpa).1
                      have hpf := (rnAt_spec hpa).2.1
                      have hpl : (rn l (k - 1)).f + (rn l (k - 1)).s * ((rn l (k - 1)).n - 1) ≤ 281474976710656 := by
                        unfold rnForm at hpf
                        simp only [Bool.and_eq_true, decide_eq_true_eq] at hpf
                        exact hpf.2
                      have hpn := rnLast_nn (rn l (k - 1)) hps.2.2.1 hps.2.2.2.2.1 hps.1
                      have cP := runs_last (rn l (k - 1)).f (rn l (k - 1)).s (rn l (k - 1)).n ⟨hps.2.2.1, hps.2.2.2.1⟩ ⟨hps.2.2.2.2.1, hps.2.2.2.2.2⟩ ⟨hps.1, hps.2.1⟩
                      obtain ⟨p1, p2, p3⟩ := HCELL.out (k - 1) (by omega)
                      have hgd : rnGap (rn l (k - 1)) ⟨f, s, n⟩ = (decide (0 < f - ((rn l (k - 1)).f + (rn l (k - 1)).s * ((rn l (k - 1)).n - 1))) && !decide (f - ((rn l (k - 1)).f + (rn l (k - 1)).s * ((rn l (k - 1)).n - 1)) = (rn l (k - 1)).s)) := rfl
                      have HGD := hide hgd
                      clear hgd hpa hps hpf
                      generalize rn l (k - 1) = pr at *
                      obtain ⟨pf, ps, pn⟩ := pr
                      simp only at p1 p2 p3 hpl hpn cP
                      have HGD2 : Hid (rnGap ⟨pf, ps, pn⟩ ⟨f, s, n⟩ = (decide (0 < f - (pf + ps * (pn - 1))) && !decide (f - (pf + ps * (pn - 1)) = ps))) := HGD
                      clear HGD
                      generalize pf + ps * (pn - 1) = pl at *
                      obtain ⟨j, hj⟩ : ∃ j, k - 1 = j := ⟨_, rfl⟩
                      rw [hj] at p1 p2 p3
                      have hkj : (k : Int) - 1 = (j : Int) := by omega
                      have hjl : j < l.length := by omega
                      have hjc : j < c := by omega
                      clear hj
                      obtain ⟨zo_a, zo_b, lo18⟩ := rcell f_ox
                      obtain ⟨zg_a, zg_b, lg19⟩ := rcell f_gx
                      obtain ⟨zr_a, zr_b, lr20⟩ := rcell f_rx
                      go_wp2_with fail
                      obtain ⟨zo_a, zo_b, lo1⟩ := rcell f_ox
                      obtain ⟨zg_a, zg_b, lg2⟩ := rcell f_gx
                      obtain ⟨zr_a, zr_b, lr3⟩ := rcell f_rx
                      refine Abs.wp_region_abs (Abs.cls0 _) [0, 1, 2, 3, 4, 5, 6, 7, 8, 9] (by kernel_rfl) (by kernel_rfl) (Below.refl _ _).drew ?_
                      repeat (first | (refine Abs.step_pure rfl rfl (fun K hK => ?_); go_simp; (try go_bits); (first | refine hK _ _ ?_ | (simp only [↓IntWalk.iteOmega]; go_simp; (try go_bits); refine hK _ _ ?_)); clear hK K) | (refine Abs.step_load (v := ?_) rfl rfl (by kernel_rfl) rfl (fun w0 hI => ?_) (fun K hK => ?_); rotate_left; (· have z0 := (rcell (kp hI (f_gx))).1; have z1 := (rcell (kp hI (f_rx))).1; go_simp; rfl); (simp only [Act.put, List.setIfInBounds_toArray, List.set_cons_zero, List.set_cons_succ]; refine hK _ _ ?_; clear hK K)) | (refine Abs.step_skip rfl rfl (fun K hK => ?_); (simp only [Act.put, List.setIfInBounds_toArray, List.set_cons_zero, List.set_cons_succ]; refine hK _ _ ?_; clear hK K)))
                      (refine Abs.step_call_val (f := ?_) (args := ?_) (v := ?_) rfl rfl rfl rfl (fun w0 => ?_) (fun w0 hI => ?_) (fun K hK => ?_); rotate_left 3; (· go_simp; (constructor <;> rfl)); (· exact cP _); (simp only [Act.put, List.setIfInBounds_toArray, List.set_cons_zero, List.set_cons_succ]; refine hK _ _ ?_; clear hK K))
                      repeat (first | (refine Abs.step_pure rfl rfl (fun K hK => ?_); go_simp; (try go_bits); (first | refine hK _ _ ?_ | (simp only [↓IntWalk.iteOmega]; go_simp; (try go_bits); refine hK _ _ ?_)); clear hK K) | (refine Abs.step_load (v := ?_) rfl rfl (by kernel_rfl) rfl (fun w0 hI => ?_) (fun K hK => ?_); rotate_left; (· have z0 := (rcell (kp hI (f_gx))).1; have z1 := (rcell (kp hI (f_rx))).1; go_simp; rfl); (simp only [Act.put, List.setIfInBounds_toArray, List.set_cons_zero, List.set_cons_succ]; refine hK _ _ ?_; clear hK K)) | (refine Abs.step_skip rfl rfl (fun K hK => ?_); (simp only [Act.put, List.setIfInBounds_toArray, List.set_cons_zero, List.set_cons_succ]; refine hK _ _ ?_; clear hK K)))
                      intro w5 hb5 hx0 hx1 hx2
                      clear hx0 hx1 hx2
                      simp only [Abs.T_setF, Abs.T_addA, Abs.T_push, Abs.T_start]
                      have f_o5 := kp hb5 (f_ox)
                      have f_g5 := kp hb5 (f_gx)
                      have f_r5 := kp hb5 (f_rx)
                      have hB5 := bB hBx hb5
                      clear zg_a zg_b zo_a zo_b zr_a zr_b
                      obtain ⟨zo_a, zo_b, lo5⟩ := rcell f_o5
                      obtain ⟨zg_a, zg_b, lg5⟩ := rcell f_g5
                      obtain ⟨zr_a, zr_b, lr5⟩ := rcell f_r5
                      clear cP
                      by_cases hG1 : 0 < f - pl
                      rotate_left
                      · have hB := hide (HNO.out (by rw [HAT0.out, HFo.out, HGD2.out, decide_eq_false hk0, decide_eq_false hG1]; rfl))
                        go_wp2_with fail
                        refine (cn _).mono ?_
                        rintro e wv ⟨rfl, rfl⟩
                        go_wp2_with fail
                        refine rises_out (f_o5) rfl ?_
                        exact ⟨by rw [hB.out], bX hB5 (fin_x (b0 _) (f_o5) rfl).1 (Nat.le_refl _)⟩
                      · by_cases hG2 : f - pl = ps
                        · have hB := hide (HNO.out (by rw [HAT0.out, HFo.out, HGD2.out, decide_eq_false hk0, decide_eq_true hG1, decide_eq_true hG2]; rfl))
                          have hG2b : (f - pl != ps) = false := by simp [hG2]
                          clear hG2
                          go_wp2_with fail
                          refine (cn _).mono ?_
                          rintro e wv ⟨rfl, rfl⟩
                          go_wp2_with fail
                          refine rises_out (f_o5) rfl ?_
                          exact ⟨by rw [hB.out], bX hB5 (fin_x (b0 _) (f_o5) rfl).1 (Nat.le_refl _)⟩
                        · have hAt : Hid (rnAt l k = true) := hide (by rw [HAT0.out, HFo.out, HGD2.out, decide_eq_true hG1, decide_eq_false hG2]; simp)
                          have hall : Hid (∀ i, i < k + 1 → rnAt l i = true) := hide fun i hi => by
                            by_cases e : i = k
                            · subst e; exact hAt.out
                            · exact hat.out i (by omega)
                          have hG2b : (f - pl != ps) = true := by simp [hG2]
                          clear hG2
                          go_wp2_with fail
                          refine (cy _).mono ?_
                          rintro e wv ⟨rfl, rfl⟩
                          go_wp2
                          go_roundw
                          case rel => exact ⟨k + 1, by go_num, by rw [HSUM.out], by omega, hall, (f_o5), hB5⟩
                          case measure => simp [intOf]; omega
                · skip
                  have hDd : decide (f + s * (n - 1) ≤ 281474976710656) = false := decide_eq_false hD
                  have hB := hide (HNO.out (by
                    rw [HAT0.out]
                    unfold rnForm
                    rw [hDd, Bool.and_false]; rfl))
                  clear hD
                  generalize f + s * (n - 1) = la at *
                  go_wp2_with fail
                  all_goals
                    refine (cL _).mono ?_
                    rintro e wx ⟨rfl, hbx⟩
                    have fox := kp hbx (ka (j1) (.cells #[.int .i64 f, .int .i64 s, .int .i64 n] 46))
                    have hBx := bB (bA hb (.cells #[.int .i64 f, .int .i64 s, .int .i64 n] 46)) hbx
                    go_wp2_with fail
                    refine (cn _).mono ?_
                    rintro e wz ⟨rfl, rfl⟩
                    go_wp2_with fail
                    refine rises_out fox rfl ?_
                    exact ⟨by rw [hB.out], bX hBx (fin_x (b0 _) fox rfl).1 (Nat.le_refl _)⟩
              · skip
                have hB := hide (HNO.out (by
                  rw [HAT0.out]
                  unfold rnForm
                  rw [decide_eq_false (show ¬ 1 < n by omega), decide_eq_false (show ¬ k + 1 = l.length by omega), Bool.or_false, Bool.and_false]; rfl))
                have hn1 : ¬ 1 < n := by omega
                go_wp2_with fail
                refine (cn _).mono ?_
                rintro e wz ⟨rfl, rfl⟩
                go_wp2_with fail
                refine rises_out (ka (j1) (.cells #[.int .i64 f, .int .i64 s, .int .i64 n] 46)) rfl ?_
                exact ⟨by rw [hB.out], bX (bA hb (.cells #[.int .i64 f, .int .i64 s, .int .i64 n] 46)) (fin_x (b0 _) (ka (j1) (.cells #[.int .i64 f, .int .i64 s, .int .i64 n] 46)) rfl).1 (Nat.le_refl _)⟩
            · skip
              have hB := hide (HNO.out (by
                rw [HAT0.out]
                unfold rnForm
                rw [decide_eq_false hA]; rfl))
              go_wp2_with fail
              refine (cn _).mono ?_
              rintro e wz ⟨rfl, rfl⟩
              go_wp2_with fail
              refine rises_out (ka (j1) (.cells #[.int .i64 f, .int .i64 s, .int .i64 n] 46)) rfl ?_
              exact ⟨by rw [hB.out], bX (bA hb (.cells #[.int .i64 f, .int .i64 s, .int .i64 n] 46)) (fin_x (b0 _) (ka (j1) (.cells #[.int .i64 f, .int .i64 s, .int .i64 n] 46)) rfl).1 (Nat.le_refl _)⟩
        · obtain rfl : k = l.length := by omega
          have hB := hide (rnB_of h0 h1 hat.out)
          have HK := hide hk
          generalize rnSum l l.length = su at *
          obtain ⟨zo_a, zo_b, lo15⟩ := rcell j1
          go_wp2_with fail
          rw [row1 j1]
          generalize hT16 : setRow _ _ _ = w16
          obtain ⟨hx16, f_o16⟩ := fin_x (b0 _) j1 hT16
          clear hT16
          have hB16 := bX hb hx16 (by omega)
          clear zo_a zo_b
          obtain ⟨zo_a, zo_b, lo16⟩ := rcell f_o16
          go_wp2_with fail
          refine rises_back (f_o16) rfl ?_
          exact ⟨by rw [hB.out], hB16⟩
    · have hB : rnB l = false := by unfold rnB; rw [decide_eq_false h1, Bool.and_false]; rfl
      rw [hB]
      clear hB
      have d1 : decide ((l.length : Int) ≤ 256) = false := decide_eq_false (by omega)
      go_wp2_with fail
      refine (cn _).mono ?_
      rintro e w1 ⟨rfl, rfl⟩
      clear d1
      go_wp2_with fail
      refine rises_out (na w _ _) rfl ?_
      have := na w #[.bool false] 4
      exact ⟨rfl, bX (bA (b0 w) _) (fin_x (b0 _) this rfl).1 (Nat.le_refl _)⟩
  · have hB : rnB l = false := by unfold rnB; rw [decide_eq_false h0]; rfl
    rw [hB]
    clear hB
    go_wp2_with fail
    refine (cn _).mono ?_
    rintro e w1 ⟨rfl, rfl⟩
    go_wp2_with fail
    refine rises_out (na w _ _) rfl ?_
    have := na w #[.bool false] 4
    exact ⟨rfl, bX (bA (b0 w) _) (fin_x (b0 _) this rfl).1 (Nat.le_refl _)⟩
end Go.Proofs.YtmpfbkeamihjbaaGreat

namespace Go.Proofs.YtmpfbkeamihjbaaGreat
open Go.RowKit

theorem runs_Check (A : Option Addr) (c : Nat) (l : List Rn) (w : World) (hR : RR w A c l) :
    Calls Tryz.prog 74 #[.slice A l.length c] w fun e w' => e = .returned (.int .i64 (if rnB l = true then 0 else 170)) ∧ Below w.heap.size w w' := by
  have c1 := runs_rises A c l
  cases h : rnB l
  · rw [h] at c1
    rw [if_neg (by simp)]
    clear h
    go_enter Tryz.func74, Tryz.ntmps74
    go_wp2_with fail
    refine (c1 _ hR).mono ?_
    rintro e w1 ⟨rfl, hb1⟩
    have hB1 := bB (b0 w) hb1
    go_wp2
    go_ret
    exact ⟨rfl, hB1⟩
  · rw [h] at c1
    rw [if_pos rfl]
    clear h
    go_enter Tryz.func74, Tryz.ntmps74
    go_wp2_with fail
    refine (c1 _ hR).mono ?_
    rintro e w1 ⟨rfl, hb1⟩
    have hB1 := bB (b0 w) hb1
    go_wp2
    go_ret
    exact ⟨rfl, hB1⟩

set_option maxRecDepth 100000 in
set_option maxHeartbeats 1000000 in
theorem runs_many (A : Option Addr) (c : Nat) (l : List Rn) (h : rnB l = true) (w : World) (hR : RR w A c l) :
    Calls Tryz.prog 88 #[.slice A l.length c] w fun e w' => e = .returned (.int .i64 (rnSum l l.length)) ∧ Below w.heap.size w w' := by
  obtain ⟨k0, k1, k2, k3⟩ := rnB_spec h
  obtain ⟨g, o, cur, rfl, hg, hcc⟩ := hR.mem k0
  have hcell : Hid (∀ i, i < l.length → cur[o + i * 3]? = some (.int .i64 (rn l i).f) ∧ cur[o + i * 3 + 1]? = some (.int .i64 (rn l i).s) ∧ cur[o + i * 3 + 2]? = some (.int .i64 (rn l i).n)) := hide fun i hi => by
    have := hcc i hi
    rw [rn_eq hi] at this
    exact this
  have K2 := hide k2
  clear k2 k3 h hcc
  go_enter Tryz.func88, Tryz.ntmps88
  obtain ⟨zg_a, zg_b, lg0⟩ := rcell hg
  go_wp2_with fail
  go_loopw [3, 8] (fun vm vi wr => ∃ k : Nat, vi = .int .i64 k ∧ vm = .int .i64 (rnSum l k) ∧ k ≤ l.length ∧ wr.heap[g]? = some (.cells cur 46 (0, 0)) ∧ Below w.heap.size w wr) (fun _ vi _ => l.length - (intOf vi).toNat)
  case atStart => exact ⟨0, rfl, rfl, by omega, hg, b0 w⟩
  case round =>
    obtain ⟨k, rfl, rfl, hk, j1, hb⟩ := hrel
    by_cases hlt : k < l.length
    · obtain ⟨z1, z2, z3⟩ := hcell.out k hlt
      have q := rnIs_spec (rnAt_spec (K2.out k hlt)).1
      have hsb := rnSum_bk2 (fun i hi => K2.out i (by omega)) hlt
      have hsum : Hid (rnSum l (k + 1) = rnSum l k + (rn l k).n) := hide rfl
      generalize rn l k = r at *
      obtain ⟨f, s, n⟩ := r
      simp only at z1 z2 z3 q
      obtain ⟨q1, q2, -⟩ := q
      generalize rnSum l k = su at *
      obtain ⟨zg_a, zg_b, lg1⟩ := rcell j1
      go_wp2_with fail
      go_roundw
      case rel => exact ⟨k + 1, by go_num, by rw [hsum.out], by omega, (ka (j1) (.cells #[.int .i64 f, .int .i64 s, .int .i64 n] 46)), (bA hb (.cells #[.int .i64 f, .int .i64 s, .int .i64 n] 46))⟩
      case measure => simp [intOf]; omega
    · obtain rfl : k = l.length := by omega
      obtain ⟨su, hsu⟩ : ∃ su, rnSum l l.length = su := ⟨_, rfl⟩
      rw [hsu]
      have HSU := hide hsu
      clear hsu
      go_wp2
      go_ret
      exact ⟨by rw [HSU.out]; rfl, hb⟩

theorem runs_Count_yes (A : Option Addr) (c : Nat) (l : List Rn) (h : rnB l = true) (w : World) (hR : RR w A c l) :
    Calls Tryz.prog 70 #[.slice A l.length c] w fun e w' => e = .returned (.int .i64 (rnSum l l.length)) ∧ Below w.heap.size w w' := by
  have c1 := runs_rises A c l
  rw [h] at c1
  have c2 := runs_many A c l h
  clear h
  go_enter Tryz.func70, Tryz.ntmps70
  go_wp2_with fail
  refine (c1 _ hR).mono ?_
  rintro e w1 ⟨rfl, hb1⟩
  have rd_l1 := hR.below hb1
  have hB1 := bB (b0 w) hb1
  go_wp2_with fail
  refine (c2 _ rd_l1).mono ?_
  rintro e w2 ⟨rfl, hb2⟩
  have rd_l2 := rd_l1.below hb2
  have hB2 := bB hB1 hb2
  go_wp2
  go_ret
  exact ⟨rfl, hB2⟩
/-- the time of a place -/
def tmAt (l : List Rn) (i : Int) : Nat → Nat → Int
  | _, 0 => 0
  | k, m + 1 => if i < (rn l k).n then (rn l k).f + (rn l k).s * i else tmAt l (i - (rn l k).n) (k + 1) m
theorem rnSum_mono {l : List Rn} (h : ∀ i, i < l.length → rnAt l i = true) : ∀ k j, k ≤ j → j ≤ l.length → rnSum l k ≤ rnSum l j
  | k, 0, h1, _ => by rw [show k = 0 by omega]; exact Int.le_refl _
  | k, j + 1, h1, h2 => by
    by_cases e : k = j + 1
    · subst e; exact Int.le_refl _
    · have := rnSum_mono h k j (by omega) (by omega)
      have q := rnIs_spec (rnAt_spec (h j (by omega))).1
      rw [rnSum]
      omega

set_option maxRecDepth 100000 in
set_option maxHeartbeats 1000000 in
theorem runs_At_yes (A : Option Addr) (c : Nat) (l : List Rn) (h : rnB l = true) (i : Int) (h0 : 0 ≤ i) (h1 : i < rnSum l l.length) (w : World) (hR : RR w A c l) :
    Calls Tryz.prog 117 #[.slice A l.length c, .int .i64 i] w fun e w' => e = .returned (.tuple #[.int .i64 (tmAt l i 0 l.length), .int .i64 0]) ∧ Below w.heap.size w w' := by
  have c1 := runs_rises A c l
  rw [h] at c1
  obtain ⟨k0, k1, k2, k3⟩ := rnB_spec h
  have K2 := hide k2
  have H1 := hide h1
  have K3 := hide k3
  clear k2 h h1 k3
  have h1' : ¬ i < 0 := by omega
  go_enter Tryz.func117, Tryz.ntmps117
  go_wp2_with fail
  refine (c1 _ hR).mono ?_
  rintro e w1 ⟨rfl, hb1⟩
  have rd_l1 := hR.below hb1
  have hB1 := bB (b0 w) hb1
  go_wp2_with fail
  obtain ⟨g, o, cur, rfl, hg, hcc⟩ := (rd_l1).mem k0
  have hcell : Hid (∀ i, i < l.length → cur[o + i * 3]? = some (.int .i64 (rn l i).f) ∧ cur[o + i * 3 + 1]? = some (.int .i64 (rn l i).s) ∧ cur[o + i * 3 + 2]? = some (.int .i64 (rn l i).n)) := hide fun i hi => by
    have := hcc i hi
    rw [rn_eq hi] at this
    exact this
  have hcap := hR.cap
  have hB1' := hB1
  clear hcc h1'
  go_loopw [1, 15] (fun v1 vi wr => ∃ (k : Nat) (j : Int), vi = .int .i64 k ∧ v1 = .int .i64 j ∧ Hid (j = i - rnSum l k) ∧ 0 ≤ j ∧ k ≤ l.length ∧ Hid (tmAt l j k (l.length - k) = tmAt l i 0 l.length) ∧ wr.heap[g]? = some (.cells cur 46 (0, 0)) ∧ Below w.heap.size w wr) (fun _ vi _ => l.length - (intOf vi).toNat)
  case atStart => exact ⟨0, i, rfl, rfl, hide (by show i = i - 0; omega), h0, by omega, hide rfl, hg, hB1'⟩
  case round =>
    obtain ⟨k, j, rfl, rfl, hj, hj0, hk, ht, j1, hb⟩ := hrel
    by_cases hlt : k < l.length
    · obtain ⟨z1, z2, z3⟩ := hcell.out k hlt
      have q := rnIs_spec (rnAt_spec (K2.out k hlt)).1
      have hsum : Hid (rnSum l (k + 1) = rnSum l k + (rn l k).n) := hide rfl
      have htm : Hid (tmAt l j k (l.length - k) = if j < (rn l k).n then (rn l k).f + (rn l k).s * j else tmAt l (j - (rn l k).n) (k + 1) (l.length - (k + 1))) := hide (by
        rw [show l.length - k = (l.length - (k + 1)) + 1 by omega, tmAt])
      have hjb : j ≤ 256 := by have := hj.out; have := H1.out; have := K3.out; have := rnSum_mono K2.out 0 k (by omega) hk; have e0 : rnSum l 0 = 0 := rfl; omega
      generalize rn l k = r at *
      obtain ⟨f, s, n⟩ := r
      simp only at z1 z2 z3 q
      obtain ⟨q1, q2, q3, q4, q5, q6⟩ := q
      obtain ⟨zg_a, zg_b, lg2⟩ := rcell j1
      by_cases hjn : j < n
      · have hm : 0 ≤ s * j ∧ s * j ≤ 281474976710656 * 256 := by
          have a := Int.mul_nonneg q5 hj0
          have b := Int.mul_le_mul (a := s) (b := j) (c := 281474976710656) (d := 256) q6 (by omega) (by omega) (by omega)
          exact ⟨a, b⟩
        have hres : Hid (tmAt l i 0 l.length = f + s * j) := hide (by rw [← ht.out, htm.out, if_pos hjn])
        go_wp2_with fail
        go_ret2
        exact ⟨by rw [hres.out]; rfl, (bA hb (.cells #[.int .i64 f, .int .i64 s, .int .i64 n] 46))⟩
      · skip
        have hres : Hid (tmAt l (j - n) (k + 1) (l.length - (k + 1)) = tmAt l i 0 l.length) := hide (by rw [← ht.out, htm.out, if_neg hjn])
        have hj3 : j - n = i - rnSum l (k + 1) := by
          have a := hj.out
          have b : rnSum l (k + 1) = rnSum l k + n := hsum.out
          rw [b]
          omega
        have hj2 := hide hj3
        clear hj3
        clear hj ht htm
        go_wp2_with fail
        go_roundw
        case rel => exact ⟨k + 1, j - n, by go_num, by go_num, hj2, by omega, by omega, hres, (ka (j1) (.cells #[.int .i64 f, .int .i64 s, .int .i64 n] 46)), (bA hb (.cells #[.int .i64 f, .int .i64 s, .int .i64 n] 46))⟩
        case measure => simp [intOf]; omega
    · obtain rfl : k = l.length := by omega
      have hja := hj.out
      have hjb := H1.out
      exfalso
      omega
end Go.Proofs.YtmpfbkeamihjbaaGreat
