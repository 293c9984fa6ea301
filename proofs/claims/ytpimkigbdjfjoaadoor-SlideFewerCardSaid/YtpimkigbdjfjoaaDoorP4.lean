/- Numbers as lists of binary digits, from the lowest on: plain laws. No program is used. Slices of digits in memory: what is read, what is owned, and append by one law; yearbookref01: trim, Size, power. yearbookref01 at this program: less, made, plus, minus. yearbookref01 at this program: plus, minus. yearbookref01 at this program: minus, times. yearbookref01 at this program: times, parts. yearbookref01 at this program: made, Int, Mul, Less: numbers with a sign. -/
import Derived.Test.YtpimkigbdjfjoaaDoorP3
import Derived.Maps.AppendAt
import Derived.OwnWalk
import Derived.LoopTactic
import Derived.Deep.QuietTactic
import Derived.BigQuiet
set_option linter.unusedSimpArgs false
set_option linter.unusedVariables false
namespace Go.Proofs.YtpimkigbdjfjoaaDoor

/-- the number of a list of digits -/
def bv : List Nat → Nat
  | [] => 0
  | x :: l => x + 2 * bv l
def Bin (l : List Nat) : Prop := ∀ x ∈ l, x < 2
/-- a number's digits, without noughts at the end -/
def sz (n : Nat) : List Nat := if h : n = 0 then [] else (n % 2) :: sz (n / 2)
termination_by n

theorem sz_zero : sz 0 = [] := by rw [sz]; simp
theorem sz_pos {n : Nat} (h : n ≠ 0) : sz n = (n % 2) :: sz (n / 2) := by rw [sz]; simp [h]
theorem bv_sz (n : Nat) : bv (sz n) = n := by
  induction n using Nat.strongRecOn with
  | _ n ih =>
    by_cases h : n = 0
    · subst h; rw [sz_zero]; rfl
    · rw [sz_pos h]; simp only [bv]; rw [ih (n / 2) (by omega)]; omega
theorem Bin.sz (n : Nat) : Bin (sz n) := by
  induction n using Nat.strongRecOn with
  | _ n ih =>
    by_cases h : n = 0
    · subst h; rw [sz_zero]; intro x hx; cases hx
    · rw [sz_pos h]
      intro x hx
      rcases List.mem_cons.1 hx with rfl | hx
      · omega
      · exact ih (n / 2) (by omega) x hx
theorem Bin.nil : Bin [] := fun x hx => by cases hx
theorem Bin.cons {x : Nat} {l : List Nat} (hx : x < 2) (h : Bin l) : Bin (x :: l) := fun y hy => by
  rcases List.mem_cons.1 hy with rfl | hy
  · exact hx
  · exact h y hy
theorem Bin.append {l m : List Nat} (h : Bin l) (h' : Bin m) : Bin (l ++ m) := fun x hx => (List.mem_append.1 hx).elim (h x) (h' x)
theorem Bin.take {l : List Nat} (h : Bin l) (k : Nat) : Bin (l.take k) := fun x hx => h x (List.mem_of_mem_take hx)
theorem Bin.drop {l : List Nat} (h : Bin l) (k : Nat) : Bin (l.drop k) := fun x hx => h x (List.mem_of_mem_drop hx)
theorem Bin.get {l : List Nat} (h : Bin l) {k : Nat} (hk : k < l.length) : l[k] < 2 := h _ (List.getElem_mem hk)

theorem bv_append (l m : List Nat) : bv (l ++ m) = bv l + 2 ^ l.length * bv m := by
  induction l with
  | nil => simp [bv]
  | cons x l ih =>
    simp only [List.cons_append, bv, List.length_cons]
    rw [ih, Nat.pow_succ]
    have : 2 ^ l.length * 2 * bv m = 2 * (2 ^ l.length * bv m) := by ac_rfl
    omega
theorem bv_lt {l : List Nat} (h : Bin l) : bv l < 2 ^ l.length := by
  induction l with
  | nil => simp [bv]
  | cons x l ih =>
    have h1 := h x (by simp)
    have h2 := ih (fun y hy => h y (by simp [hy]))
    simp only [bv, List.length_cons]
    rw [Nat.pow_succ]
    omega
theorem bv_split (l : List Nat) (k : Nat) (hk : k ≤ l.length) : bv l = bv (l.take k) + 2 ^ k * bv (l.drop k) := by
  have h := bv_append (l.take k) (l.drop k)
  rw [List.take_append_drop, List.length_take, Nat.min_eq_left hk] at h
  exact h
theorem bv_take_succ (l : List Nat) (k : Nat) (hk : k < l.length) : bv (l.take (k + 1)) = bv (l.take k) + 2 ^ k * l[k] := by
  rw [List.take_succ_eq_append_getElem hk, bv_append, List.length_take, Nat.min_eq_left (by omega)]
  simp [bv]
theorem bv_drop (l : List Nat) (k : Nat) (hk : k < l.length) : bv (l.drop k) = l[k] + 2 * bv (l.drop (k + 1)) := by
  rw [List.drop_eq_getElem_cons hk]; rfl
theorem bv_zero {l : List Nat} (h : ∀ x ∈ l, x = 0) : bv l = 0 := by
  induction l with
  | nil => rfl
  | cons x l ih =>
    simp only [bv]
    rw [ih (fun y hy => h y (by simp [hy])), h x (by simp)]

/-- one list only -/
theorem sz_bv {l : List Nat} (h : Bin l) (hc : l = [] ∨ 2 ^ (l.length - 1) ≤ bv l) : sz (bv l) = l := by
  induction l with
  | nil => simp [bv, sz_zero]
  | cons x l ih =>
    have h1 := h x (by simp)
    have hb : Bin l := fun y hy => h y (by simp [hy])
    rcases hc with hc | hc
    · cases hc
    · simp only [List.length_cons, Nat.add_sub_cancel, bv] at hc
      have hpos : x + 2 * bv l ≠ 0 := by
        have := Nat.two_pow_pos l.length
        omega
      simp only [bv]
      rw [sz_pos hpos, show (x + 2 * bv l) % 2 = x by omega, show (x + 2 * bv l) / 2 = bv l by omega]
      rw [ih hb]
      by_cases hl : l = []
      · exact .inl hl
      · refine .inr ?_
        have hlen : 0 < l.length := List.length_pos_iff.2 hl
        have : 2 ^ l.length = 2 * 2 ^ (l.length - 1) := by
          rw [show l.length = (l.length - 1) + 1 by omega, Nat.pow_succ, Nat.add_sub_cancel]; omega
        omega
theorem sz_len_lt {n k : Nat} (h : n < 2 ^ k) : (sz n).length ≤ k := by
  induction k generalizing n with
  | zero =>
    have : n = 0 := by simpa using h
    subst this; rw [sz_zero]; simp
  | succ k ih =>
    by_cases hn : n = 0
    · subst hn; rw [sz_zero]; simp
    · rw [sz_pos hn]
      rw [Nat.pow_succ] at h
      have := ih (n := n / 2) (by omega)
      simp only [List.length_cons]; omega
theorem sz_len_ge {n : Nat} (h : sz n ≠ []) : 2 ^ ((sz n).length - 1) ≤ n := by
  induction n using Nat.strongRecOn with
  | _ n ih =>
    by_cases hn : n = 0
    · subst hn; exact absurd sz_zero h
    · rw [sz_pos hn]
      simp only [List.length_cons, Nat.add_sub_cancel]
      by_cases h2 : sz (n / 2) = []
      · rw [h2]; simp; omega
      · have := ih (n / 2) (by omega) h2
        have hlen : 0 < (sz (n / 2)).length := List.length_pos_iff.2 h2
        rw [show (sz (n / 2)).length = ((sz (n / 2)).length - 1) + 1 by omega, Nat.pow_succ]
        omega
theorem sz_nil {n : Nat} : sz n = [] ↔ n = 0 := by
  constructor
  · intro h
    have := bv_sz n
    rw [h] at this
    exact this.symm
  · rintro rfl; exact sz_zero
/-- lengths tell what is less, where they differ -/
theorem sz_len_cmp {a b : Nat} (h : (sz a).length < (sz b).length) : a < b := by
  have h1 := bv_lt (Bin.sz a)
  rw [bv_sz] at h1
  have h2 := sz_len_ge (n := b) (by intro hb; rw [hb] at h; simp at h)
  have h3 : 2 ^ (sz a).length ≤ 2 ^ ((sz b).length - 1) := Nat.pow_le_pow_right (by decide) (by omega)
  omega
/-- noughts struck at the end -/
theorem sz_trim {l : List Nat} (h : Bin l) (k : Nat) (hk : k ≤ l.length) (hz : ∀ x ∈ l.drop k, x = 0) (hl : k = 0 ∨ ∃ j, ∃ hj : j < l.length, k = j + 1 ∧ l[j] ≠ 0) : l.take k = sz (bv l) := by
  have e : bv l = bv (l.take k) := by rw [bv_split l k hk, bv_zero hz]; omega
  rw [e]
  refine (sz_bv (h.take k) ?_).symm
  rcases hl with rfl | ⟨j, hj, rfl, hne⟩
  · exact .inl (by simp)
  · refine .inr ?_
    rw [bv_take_succ l j hj, List.length_take, Nat.min_eq_left (by omega), Nat.add_sub_cancel]
    have : l[j] = 1 := by have := h.get hj; omega
    rw [this]; omega
theorem sz_pow (n : Nat) : List.replicate n 0 ++ [1] = sz (2 ^ n) := by
  have e : bv (List.replicate n 0 ++ [1]) = 2 ^ n := by
    rw [bv_append, bv_zero (fun x hx => (List.mem_replicate.1 hx).2), List.length_replicate]
    simp [bv]
  have hb : Bin (List.replicate n 0 ++ [1]) := Bin.append (fun x hx => by rw [(List.mem_replicate.1 hx).2]; decide) (Bin.cons (by decide) Bin.nil)
  rw [← sz_bv hb (.inr (by rw [e]; simp)), e]
end Go.Proofs.YtpimkigbdjfjoaaDoor

namespace Go.Proofs.YtpimkigbdjfjoaaDoor
open Go.RowKit

def vals (l : List Nat) : List Value := l.map fun (x : Nat) => Value.int .i64 ((x : Nat) : Int)
/-- a row of the call's own -/
def Own (B : Nat) (w : World) (v : Value) (l : List Nat) : Prop := w.ownsRow B 3 1 v l.length (vals l)
/-- a slice that reads as these numbers -/
structure Rd (w : World) (A : Option Addr) (c : Nat) (l : List Nat) : Prop where
  cap : l.length ≤ c
  mem : 0 < l.length → ∃ g cur, A = some ⟨g, 0, none⟩ ∧ w.heap[g]? = some (.cells cur 3 (0, 0)) ∧ ∀ i (hi : i < l.length), cur[i]? = some (.int .i64 ((l[i] : Nat) : Int))

theorem Rd.at_ {w : World} {A : Option Addr} {c : Nat} {l : List Nat} (h : Rd w A c l) {k : Nat} (hk : k < l.length) : ∃ g, A = some ⟨g, 0, none⟩ ∧ w.cell? ⟨g, k, none⟩ = some (.int .i64 ((l[k] : Nat) : Int)) := by
  obtain ⟨g, cur, e, hg, hc⟩ := h.mem (by omega)
  exact ⟨g, e, (cell_of_row w g k cur _ (0, 0) hg).trans (hc k hk)⟩
theorem Rd.below {w w' : World} {A : Option Addr} {c : Nat} {l : List Nat} (h : Rd w A c l) (hb : Below w.heap.size w w') : Rd w' A c l :=
  ⟨h.cap, fun hl => by
    obtain ⟨g, cur, e, hg, hc⟩ := h.mem hl
    exact ⟨g, cur, e, (hb.block g (Array.getElem?_eq_some_iff.1 hg).1).trans hg, hc⟩⟩
/-- a store into a variable of another type leaves digits alone -/
theorem Rd.exc {w w1 : World} {A : Option Addr} {c k : Nat} {l : List Nat} {cs : Array Value} {t : TypeId} (h : Rd w A c l) (hx : Exc k w w1) (hk : w.heap[k]? = some (.cells cs t (0, 0))) (ht : t ≠ 3) : Rd w1 A c l :=
  ⟨h.cap, fun hl => by
    obtain ⟨g, cur, e, hg, hc⟩ := h.mem hl
    have hne : g ≠ k := by
      rintro rfl
      rw [hg] at hk
      injection hk with hk
      injection hk with _ h2 _
      exact ht h2.symm
    exact ⟨g, cur, e, (hx.other g (Array.getElem?_eq_some_iff.1 hg).1 hne).trans hg, hc⟩⟩
theorem Rd.take {w : World} {A : Option Addr} {c : Nat} {l : List Nat} (h : Rd w A c l) (k : Nat) : Rd w A c (l.take k) :=
  ⟨by rw [List.length_take]; have := h.cap; omega, fun hl => by
    rw [List.length_take] at hl
    obtain ⟨g, cur, e, hg, hc⟩ := h.mem (by omega)
    refine ⟨g, cur, e, hg, fun i hi => ?_⟩
    rw [List.length_take] at hi
    rw [hc i (by omega)]
    simp⟩
theorem Rd.nil (w : World) (A : Option Addr) (c : Nat) : Rd w A c [] := ⟨by simp, fun h => by simp at h⟩
theorem Own.nil (B : Nat) (w : World) : Own B w (.slice none 0 0) [] := World.ownsRow_nil w B _ 1
theorem Own.rd {B : Nat} {w : World} {v : Value} {l : List Nat} (h : Own B w v l) : ∃ A c, v = .slice A l.length c ∧ Rd w A c l := by
  obtain ⟨h1, ⟨rfl, h2⟩ | ⟨g, cap, cur, rfl, hb, hg, hn, hm, hs, ht⟩⟩ := h
  · exact ⟨none, 0, by rw [h2], by omega, fun hl => by omega⟩
  · refine ⟨some ⟨g, 0, none⟩, cap, rfl, hn, fun hl => ⟨g, cur, rfl, hg, fun i hi => ?_⟩⟩
    have e : (vals l)[i]? = some (.int .i64 ((l[i] : Nat) : Int)) := by simp [vals, hi]
    rw [← ht, List.getElem?_take] at e
    split at e
    · simpa using e
    · cases e
theorem Own.lift {B : Nat} {w w' : World} {v : Value} {l : List Nat} (h : Own B w v l) (hb : Below w.heap.size w w') : Own B w' v l := by
  obtain ⟨h1, h2⟩ := h
  refine ⟨h1, ?_⟩
  rcases h2 with h2 | ⟨g, cap, cur, h3, h4, h5, h6⟩
  · exact .inl h2
  · exact .inr ⟨g, cap, cur, h3, h4, (hb.block g (Array.getElem?_eq_some_iff.1 h5).1).trans h5, h6⟩
theorem Own.lt {B : Nat} {w : World} {v : Value} {l : List Nat} (h : Own B w v l) : ∀ k, v.ownBlock = some k → B ≤ k := fun k hk => (World.ownsRow.lt h k hk).1
/-- a literal of one number, just laid -/
theorem Own.one (w : World) (x : Nat) : Own w.heap.size (w.alloc (.cells #[.int .i64 (x : Int)] 3)) (.slice (some ⟨w.heap.size, 0, none⟩) 1 1) [x] :=
  ⟨by simp [vals], .inr ⟨w.heap.size, 1, _, rfl, Nat.le_refl _, na w _ _, Nat.le_refl _, by decide, by simp, by simp [vals]⟩⟩
theorem Rd.one (w : World) (x : Nat) : Rd (w.alloc (.cells #[.int .i64 (x : Int)] 3)) (some ⟨w.heap.size, 0, none⟩) 1 [x] :=
  ⟨by simp, fun _ => ⟨w.heap.size, _, rfl, na w _ _, fun i hi => by
    have : i = 0 := by simpa using hi
    subst this
    rfl⟩⟩
theorem Rd.oneI (w : World) (y : Int) (x : Nat) (h : y = (x : Int)) : Rd (w.alloc (.cells #[.int .i64 y] 3)) (some ⟨w.heap.size, 0, none⟩) 1 [x] := by subst h; exact Rd.one w x
theorem Own.oneI (w : World) (y : Int) (x : Nat) (h : y = (x : Int)) : Own w.heap.size (w.alloc (.cells #[.int .i64 y] 3)) (.slice (some ⟨w.heap.size, 0, none⟩) 1 1) [x] := by subst h; exact Own.one w x

theorem int_info : (Tryd.prog.info? 3).map (fun i => (i.zero, i.size, i.bytes)) = some (some (.int .i64 0), 1, 8) := by kernel_rfl

theorem add_off (g i : Nat) : (⟨g, 0, none⟩ : Addr).add i = ⟨g, i, none⟩ := by
  unfold Addr.add
  split
  · next h => subst h; rfl
  · simp

set_option maxRecDepth 100000 in
theorem push_run (w : World) (ty : TypeId) {B : Nat} {v : Value} {l m : List Nat} {A : Option Addr} {c : Nat} (hown : Own B w v l) (hr : Rd w A c m) (hlen : l.length + m.length ≤ 4096) (hB : B ≤ w.heap.size) :
    ∃ v' w', (Builtin.append_ #[46, 46] ty #[v, .slice A m.length c]).run Tryd.prog w = .ok v' w' ∧ Own B w' v' (l ++ m) ∧ w.grownBy w' v.ownBlock := by
  obtain ⟨i0, hi0, hz0, hz1, hz2⟩ := info_parts int_info
  rcases A with _ | ad
  · have hm : m = [] := by
      by_cases h0 : 0 < m.length
      · obtain ⟨g, cur, e, _⟩ := hr.mem h0
        cases e
      · exact List.eq_nil_of_length_eq_zero (by omega)
    subst hm
    refine ⟨v, w, ?_, by simpa using hown, World.grownBy.refl w _⟩
    rcases hown.2 with ⟨rfl, _⟩ | ⟨g, cap, cur, rfl, _, _, hn, _⟩
    · simp [Builtin.append_, run_underlying Tryd.underlying46, sizeOf, typeInfo, hi0, Builtin.lenOf, Builtin.firstCells]
    · simp [Builtin.append_, run_underlying Tryd.underlying46, sizeOf, typeInfo, hi0, Builtin.lenOf, Builtin.firstCells, hn, storeCells]
  · have hcells : ∀ j u, (vals m)[j]? = some u → w.cell? (ad.add j) = some u := by
      intro j u hu
      have hj : j < m.length := by
        have := (List.getElem?_eq_some_iff.1 hu).1
        simpa [vals] using this
      obtain ⟨g, cur, e, hg, hc⟩ := hr.mem (by omega)
      injection e with e
      subst e
      rw [add_off, cell_of_row w g j cur _ (0, 0) hg, hc j hj]
      simp [vals, hj] at hu
      rw [← hu]
    obtain ⟨v', w', hrun, h2, h3, _, _⟩ := run_append_own_at (P := Tryd.prog) w B 46 ty 3 i0 (.int .i64 0) 1 8 Tryd.underlying46 hi0 hz0 hz1 hz2 rfl (by decide) v l.length (vals l) hown ad m.length c (vals m) (by simp [vals]) hcells
      (fun u hu => by
        obtain ⟨x, _, rfl⟩ := List.mem_map.1 hu
        rfl) (by simp only [maxLen]; omega) (by omega) hB
    refine ⟨v', w', hrun, ?_, h3⟩
    have e : vals l ++ vals m = vals (l ++ m) := by simp [vals]
    unfold Own
    rw [List.length_append, ← e]
    exact h2

/-- append onto a row of the call's own -/
theorem wpList_push {ops : Array Oper} {rest : List Oper} {o : Oper} {a : Act} {w : World} {Q : Exit → Act → World → Prop} (hgd : o.guard = none) (s x : Operand)
    (ho : o.op = .call { callee := .builtin .append, args := #[s, x], argTypes := #[46, 46] }) (B : Nat) (v : Value) (l m : List Nat) (A : Option Addr) (c : Nat)
    (hs : a.eval s = v) (hx : a.eval x = .slice A m.length c) (hown : Own B w v l) (hr : Rd w A c m) (hlen : l.length + m.length ≤ 4096) (hB : B ≤ w.heap.size)
    (h : ∀ v' w', Own B w' v' (l ++ m) → (∀ w0 : World, Below B w0 w → Below B w0 w') → w.heap.size ≤ w'.heap.size → wpList Tryd.prog ops Q rest (a.put o.dst v') w') : wpList Tryd.prog ops Q (o :: rest) a w := by
  obtain ⟨v', w', hrun, h2, h3⟩ := push_run w o.type hown hr hlen hB
  refine wpList_plain hgd fun _ hK => ?_
  unfold Oper.wp execOp
  simp only [ho, resolve, invoke, builtin, Sem.run_bind, Sem.run_pure, Result.andThen_ok, List.map_toArray, List.map_cons, List.map_nil, hs, hx, hrun]
  exact hK _ _ (h v' w' h2 (fun w0 hb => hb.grown h3 hB hown.lt) h3.size)

/-- what a function of digits hands back -/
def GivesSz (n : Nat) (w : World) (e : Ending) (w' : World) : Prop := ∃ A c, e = .returned (.slice A (sz n).length c) ∧ Below w.heap.size w w' ∧ Rd w' A c (sz n)
theorem GivesSz.of_own {n : Nat} {w w' : World} {v : Value} {l : List Nat} {e : Ending} (he : e = .returned v) (hb : Below w.heap.size w w') (ho : Own w.heap.size w' v l) (hl : l = sz n) : GivesSz n w e w' := by
  subst hl
  obtain ⟨A, c, rfl, hr⟩ := ho.rd
  exact ⟨A, c, he, hb, hr⟩

theorem GivesSz.mk {n : Nat} {w w' : World} {l : List Nat} {A : Option Addr} {c : Nat} {e : Ending} (hl : l = sz n) (he : e = .returned (.slice A l.length c)) (hb : Below w.heap.size w w') (hr : Rd w' A c l) : GivesSz n w e w' := by
  subst hl
  exact ⟨A, c, he, hb, hr⟩

set_option maxRecDepth 100000 in
set_option maxHeartbeats 1000000 in
theorem ref_Size (u : Nat) (hu : u < 18446744073709551616) (w : World) :
    Calls Tryd.prog 111 #[.int .u64 (u : Int)] w (GivesSz u w) := by
  go_enter Tryd.func111, Tryd.ntmps111
  go_wp2
  go_loopw [0, 3] (fun vu vo wr => ∃ (l : List Nat) (r : Nat), vu = .int .u64 (r : Int) ∧ r < 18446744073709551616 ∧ Own w.heap.size wr vo l ∧ Hid (l ++ sz r = sz u) ∧ Below w.heap.size w wr) (fun vu _ _ => (intOf vu).toNat)
  case atStart => exact ⟨[], u, rfl, hu, Own.nil _ _, rfl, b0 w⟩
  case round =>
    obtain ⟨l, r, rfl, hr, ho, hl, hb⟩ := hrel
    by_cases h0 : r = 0
    · subst h0
      have h1 : ¬ (0 : Int) < ((0 : Nat) : Int) := by omega
      go_wp2
      go_ret
      exact GivesSz.of_own rfl hb ho (by have := hl.out; rw [sz_zero, List.append_nil] at this; exact this)
    · have h1 : (0 : Int) < (r : Int) := by omega
      have hlen : l.length + 1 ≤ 65 := by
        have := congrArg List.length hl.out
        rw [sz_pos h0, List.length_append, List.length_cons] at this
        have := sz_len_lt (n := u) (k := 64) (by omega)
        omega
      have k1 : l.length + [r % 2].length ≤ 4096 := by simp; omega
      go_wp2_with (at_builtin; refine wpList_push rfl _ _ rfl w.heap.size _ l [r % 2] _ _ rfl rfl (ho.lift (bA (b0 _) _)) (Rd.oneI _ _ _ (by omega)) k1 (bA hb _).size ?_; intro v1 w1 ho1 hb1 hs1)
      go_roundw
      case rel => exact ⟨l ++ [r % 2], r / 2, by go_num, by omega, ho1, by rw [Hid, List.append_assoc]; have := hl.out; rw [sz_pos h0] at this; exact this, hb1 _ (bA hb _)⟩
      case measure => simp [intOf]; omega

set_option maxRecDepth 100000 in
set_option maxHeartbeats 1000000 in
theorem ref_power (n : Nat) (hn : n ≤ 1000) (w : World) :
    Calls Tryd.prog 113 #[.int .i64 (n : Int)] w (GivesSz (2 ^ n) w) := by
  go_enter Tryd.func113, Tryd.ntmps113
  go_wp2
  go_loopw [3, 4] (fun vo vi wr => ∃ k : Nat, vi = .int .i64 (k : Int) ∧ k ≤ n ∧ Own w.heap.size wr vo (List.replicate k 0) ∧ Below w.heap.size w wr) (fun _ vi _ => n - (intOf vi).toNat)
  case atStart => exact ⟨0, rfl, Nat.zero_le _, Own.nil _ _, b0 w⟩
  case round =>
    obtain ⟨k, rfl, hk, ho, hb⟩ := hrel
    by_cases h0 : k < n
    · have k1 : (List.replicate k 0).length + [0].length ≤ 4096 := by simp; omega
      go_wp2_with (at_builtin; refine wpList_push rfl _ _ rfl w.heap.size _ (List.replicate k 0) [0] _ _ rfl rfl (ho.lift (bA (b0 _) _)) (Rd.oneI _ _ _ rfl) k1 (bA hb _).size ?_; intro v1 w1 ho1 hb1 hs1)
      go_roundw
      case rel => exact ⟨k + 1, by go_num, by omega, by rw [List.replicate_succ']; exact ho1, hb1 _ (bA hb _)⟩
      case measure => simp [intOf]; omega
    · have e : k = n := by omega
      subst e
      have k1 : (List.replicate k 0).length + [1].length ≤ 4096 := by simp; omega
      go_wp2_with (at_builtin; refine wpList_push rfl _ _ rfl w.heap.size _ (List.replicate k 0) [1] _ _ rfl rfl (ho.lift (bA (b0 _) _)) (Rd.oneI _ _ _ rfl) k1 (bA hb _).size ?_; intro v1 w1 ho1 hb1 hs1)
      go_ret
      exact GivesSz.of_own rfl (hb1 _ (bA hb _)) ho1 (sz_pow k)

set_option maxRecDepth 100000 in
set_option maxHeartbeats 1000000 in
theorem ref_trim (A : Option Addr) (c : Nat) (l : List Nat) (hl : Bin l) (hlen : l.length ≤ 4096) (w : World) (hr : Rd w A c l) :
    Calls Tryd.prog 127 #[.slice A l.length c] w (GivesSz (bv l) w) := by
  have hcap := hr.cap
  go_enter Tryd.func127, Tryd.ntmps127
  go_wp2
  go_loop [3] (fun vi => ∃ k : Nat, vi = .int .i64 (k : Int) ∧ k ≤ l.length ∧ Hid (∀ x ∈ l.drop k, x = 0)) (fun vi => (intOf vi).toNat)
  case atStart => exact ⟨l.length, rfl, Nat.le_refl _, by rw [Hid, List.drop_length]; intro x hx; cases hx⟩
  case round =>
    obtain ⟨k, rfl, hk, hz⟩ := hrel
    by_cases h0 : 0 < k
    · obtain ⟨j, rfl⟩ : ∃ j, k = j + 1 := ⟨k - 1, by omega⟩
      obtain ⟨g, rfl, hc⟩ := hr.at_ (k := j) (by omega)
      have e1 : ((j + 1 : Nat) : Int) - 1 = (j : Int) := by omega
      have E1 := hide e1
      clear e1
      by_cases h1 : l[j] = 0
      · have hb : ((l[j] : Int) == 0) = true := by simp [h1]
        go_wp2
        go_round
        case rel => exact ⟨j, rfl, by omega, by
          rw [Hid, List.drop_eq_getElem_cons (by omega)]
          intro x hx
          rcases List.mem_cons.1 hx with rfl | hx
          · exact h1
          · exact hz.out x hx⟩
        case measure => simp [intOf]
      · have hb : ((l[j] : Int) == 0) = false := by simp [h1]
        have hT := hide (sz_trim hl (j + 1) hk hz.out (.inr ⟨j, by omega, rfl, h1⟩))
        go_wp2
        go_ret
        exact GivesSz.mk hT.out (by rw [List.length_take, Nat.min_eq_left hk]; rfl) (b0 w) (hr.take _)
    · have e : k = 0 := by omega
      subst e
      have hT := hide (sz_trim hl 0 hk hz.out (.inl rfl))
      go_wp2
      go_ret
      exact GivesSz.mk hT.out (by simp) (b0 w) (hr.take _)
end Go.Proofs.YtpimkigbdjfjoaaDoor

namespace Go.Proofs.YtpimkigbdjfjoaaDoor
open Go.RowKit

theorem bN {w W : World} (h : Below w.heap.size w W) (n : Nat) : Below w.heap.size w (W.drewN n) := by
  induction n with
  | zero => exact h
  | succ n ih => exact ih.drew

/-- from the top on the first digits that differ tell -/
theorem less_at {a b : List Nat} (ha : Bin a) (hb : Bin b) (hl : a.length = b.length) (j : Nat) (hj : j < a.length) (he : a.drop (j + 1) = b.drop (j + 1)) (hn : a[j] ≠ b[j]) : (bv a < bv b ↔ a[j] < b[j]) := by
  have h1 := bv_split a j (by omega)
  have h2 := bv_split b j (by omega)
  have h3 := bv_drop a j hj
  have h4 := bv_drop b j (by omega)
  have h5 := bv_lt (ha.take j)
  have h6 := bv_lt (hb.take j)
  rw [List.length_take, Nat.min_eq_left (by omega)] at h5 h6
  rw [he] at h3
  have g1 := ha.get hj
  have g2 := hb.get (k := j) (by omega)
  generalize bv (b.drop (j + 1)) = D at *
  rw [h3] at h1
  rw [h4] at h2
  generalize a[j] = x at *
  generalize b[j] = y at *
  rw [h1, h2]
  rcases (show x = 0 ∧ y = 1 ∨ x = 1 ∧ y = 0 by omega) with ⟨rfl, rfl⟩ | ⟨rfl, rfl⟩
  · simp only [Nat.mul_add, Nat.mul_zero, Nat.mul_one]; omega
  · simp only [Nat.mul_add, Nat.mul_zero, Nat.mul_one]; omega

set_option maxRecDepth 100000 in
set_option maxHeartbeats 1000000 in
theorem ref_less (x y : Nat) (A B : Option Addr) (c d : Nat) (hx : (sz x).length ≤ 4096) (hy : (sz y).length ≤ 4096) (w : World) (ha : Rd w A c (sz x)) (hb : Rd w B d (sz y)) :
    Calls Tryd.prog 119 #[.slice A (sz x).length c, .slice B (sz y).length d] w fun e w' => e = .returned (.bool (decide (x < y))) ∧ Below w.heap.size w w' := by
  obtain ⟨a, ea⟩ : ∃ a, a = sz x := ⟨_, rfl⟩
  obtain ⟨b, eb⟩ : ∃ b, b = sz y := ⟨_, rfl⟩
  have vx : bv a = x := by rw [ea, bv_sz]
  have vy : bv b = y := by rw [eb, bv_sz]
  have ba : Bin a := by rw [ea]; exact Bin.sz x
  have bb : Bin b := by rw [eb]; exact Bin.sz y
  by_cases hlen : a.length = b.length
  · have HX := hide vx
    have HY := hide vy
    rw [← ea] at hx ha ⊢
    rw [← eb] at hy hb ⊢
    clear ea eb vx vy
    obtain ⟨n, hn⟩ : ∃ n, n = a.length := ⟨_, rfl⟩
    have hn2 : n = b.length := by omega
    rw [← hn] at hx ⊢
    rw [← hn2] at hy ⊢
    have HN := hide hn
    have HN2 := hide hn2
    clear hn hn2 hlen
    go_enter Tryd.func119, Tryd.ntmps119
    go_wp2
    go_loopw [5] (fun vi wr => ∃ (k : Nat) (i : Int), vi = .int .i64 i ∧ i = (k : Int) - 1 ∧ k ≤ n ∧ Hid (a.drop k = b.drop k) ∧ Below w.heap.size w wr) (fun vi _ => (intOf vi + 1).toNat)
    case atStart => exact ⟨n, _, rfl, rfl, Nat.le_refl _, by rw [Hid, List.drop_eq_nil_of_le (by rw [HN.out]; exact Nat.le_refl _), List.drop_eq_nil_of_le (by rw [HN2.out]; exact Nat.le_refl _)], b0 w⟩
    case round =>
      obtain ⟨k, i, rfl, hi, hk, he, hb0⟩ := hrel
      by_cases h0 : k = 0
      · subst h0
        obtain rfl : i = -1 := by omega
        clear hi
        go_wp2
        go_ret
        have e2 : a = b := he.out
        refine ⟨?_, hb0⟩
        rw [← HX.out, ← HY.out, e2]
        simp
      · obtain ⟨j, rfl⟩ : ∃ j, k = j + 1 := ⟨k - 1, by omega⟩
        obtain rfl : i = (j : Int) := by omega
        clear hi
        have hja : j < a.length := by rw [← HN.out]; omega
        have hjb : j < b.length := by rw [← HN2.out]; omega
        obtain ⟨ga, rfl, hca⟩ := (ha.below hb0).at_ (k := j) hja
        obtain ⟨gb, rfl, hcb⟩ := (hb.below hb0).at_ (k := j) hjb
        have K1 := ba.get hja
        have K2 := bb.get hjb
        by_cases h1 : a[j] = b[j]
        · have hq : ((a[j] : Int) != (b[j] : Int)) = false := by simp [h1]
          have HE := hide (show a.drop j = b.drop j by rw [List.drop_eq_getElem_cons hja, List.drop_eq_getElem_cons hjb, h1, he.out])
          generalize a[j] = p at *
          generalize b[j] = q at *
          go_wp2
          go_quiet (fail)
          go_wp2
          go_roundw
          case rel => exact ⟨j, _, rfl, rfl, by omega, HE, bN hb0 _⟩
          case measure => simp [intOf]
        · have hq : ((a[j] : Int) != (b[j] : Int)) = true := by simp; omega
          have HE := hide (less_at ba bb (by rw [← HN.out, ← HN2.out]) j hja he.out h1)
          rw [HX.out, HY.out] at HE
          generalize a[j] = p at *
          generalize b[j] = q at *
          go_wp2
          go_quiet (fail)
          go_wp2
          go_quiet (fail)
          go_wp2
          go_ret
          refine ⟨?_, bN (bN hb0 _) _⟩
          have : decide (p < q) = decide (x < y) := decide_eq_decide.2 HE.out.symm
          rw [← this]; rfl
  · have hd : decide (a.length < b.length) = decide (x < y) := by
      refine decide_eq_decide.2 ?_
      rw [ea, eb]
      rw [ea, eb] at hlen
      constructor
      · exact sz_len_cmp
      · intro h
        by_cases hc : (sz x).length < (sz y).length
        · exact hc
        · have := sz_len_cmp (a := y) (b := x) (by omega)
          omega
    rw [← ea] at hx ha ⊢
    rw [← eb] at hy hb ⊢
    rw [← hd]
    clear hd ea eb vx vy
    generalize a.length = n at *
    generalize b.length = m at *
    have hq : ((n : Int) != (m : Int)) = true := by simp; omega
    go_enter Tryd.func119, Tryd.ntmps119
    go_wp2
    go_ret
    exact ⟨by simp, b0 w⟩
end Go.Proofs.YtpimkigbdjfjoaaDoor

namespace Go.Proofs.YtpimkigbdjfjoaaDoor
open Go.RowKit

def dg (l : List Nat) (k : Nat) : Nat := l.getD k 0
theorem dg_in {l : List Nat} {k : Nat} (h : k < l.length) : l[k] = dg l k := by simp [dg, h]
theorem dg_out {l : List Nat} {k : Nat} (h : ¬ k < l.length) : dg l k = 0 := by simp [dg, List.getD_eq_getElem?_getD, List.getElem?_eq_none (Nat.le_of_not_lt h)]
theorem dg_lt {l : List Nat} (h : Bin l) (k : Nat) : dg l k < 2 := by
  by_cases hk : k < l.length
  · rw [← dg_in hk]; exact h.get hk
  · rw [dg_out hk]; decide
theorem take_dg (l : List Nat) (k : Nat) : bv (l.take (k + 1)) = bv (l.take k) + 2 ^ k * dg l k := by
  by_cases hk : k < l.length
  · rw [bv_take_succ l k hk, dg_in hk]
  · rw [dg_out hk, List.take_of_length_le (by omega), List.take_of_length_le (by omega)]; omega
theorem bv_push (l : List Nat) (d : Nat) : bv (l ++ [d]) = bv l + 2 ^ l.length * d := by rw [bv_append]; simp [bv]

/-- what holds behind k digits of a sum -/
structure PlusJ (a b l : List Nat) (k cr x y : Nat) : Prop where
  len : l.length = k
  bin : Bin l
  c : cr < 2
  sum : bv (a.take k) + bv (b.take k) = bv l + 2 ^ k * cr
  big : k = 0 ∨ 2 ^ (k - 1) ≤ x + y

theorem PlusJ.step {a b l : List Nat} {k cr x y : Nat} (h : PlusJ a b l k cr x y) (ea : a = sz x) (eb : b = sz y) (hgo : k < a.length ∨ k < b.length ∨ 0 < cr) :
    PlusJ a b (l ++ [(cr + dg a k + dg b k) % 2]) (k + 1) ((cr + dg a k + dg b k) / 2) x y := by
  obtain ⟨hl, hb, hc, hs, hbig⟩ := h
  have h1 := dg_lt (by rw [ea]; exact Bin.sz x : Bin a) k
  have h2 := dg_lt (by rw [eb]; exact Bin.sz y : Bin b) k
  refine ⟨by simp [hl], Bin.append hb (Bin.cons (Nat.mod_lt _ (by decide)) Bin.nil), by omega, ?_, .inr ?_⟩
  · rw [take_dg, take_dg, bv_push, hl, Nat.pow_succ]
    have e : cr + dg a k + dg b k = (cr + dg a k + dg b k) % 2 + 2 * ((cr + dg a k + dg b k) / 2) := by omega
    generalize (cr + dg a k + dg b k) % 2 = r at *
    generalize (cr + dg a k + dg b k) / 2 = q at *
    have e2 : 2 ^ k * (cr + dg a k + dg b k) = 2 ^ k * (r + 2 * q) := by rw [e]
    simp only [Nat.mul_add] at e2
    rw [Nat.mul_assoc (2 ^ k) 2 q]
    omega
  · rw [Nat.add_sub_cancel]
    by_cases ha : k < a.length
    · have := sz_len_ge (n := x) (by rw [← ea]; intro h; rw [h] at ha; simp at ha)
      rw [← ea] at this
      have := Nat.pow_le_pow_right (n := 2) (by decide) (show k ≤ a.length - 1 by omega)
      omega
    · by_cases hb' : k < b.length
      · have := sz_len_ge (n := y) (by rw [← eb]; intro h; rw [h] at hb'; simp at hb')
        rw [← eb] at this
        have := Nat.pow_le_pow_right (n := 2) (by decide) (show k ≤ b.length - 1 by omega)
        omega
      · have hcr : cr = 1 := by omega
        rw [List.take_of_length_le (by omega), List.take_of_length_le (by omega), ea, eb, bv_sz, bv_sz, hcr] at hs
        omega
theorem PlusJ.fin {a b l : List Nat} {k x y : Nat} (h : PlusJ a b l k 0 x y) (ea : a = sz x) (eb : b = sz y) (ha : ¬ k < a.length) (hb : ¬ k < b.length) : l = sz (x + y) := by
  obtain ⟨hl, hbin, _, hs, hbig⟩ := h
  rw [List.take_of_length_le (by omega), List.take_of_length_le (by omega), ea, eb, bv_sz, bv_sz] at hs
  have e : bv l = x + y := by omega
  rw [← e]
  refine (sz_bv hbin ?_).symm
  rw [e, hl]
  rcases hbig with h0 | h0
  · left; exact List.eq_nil_of_length_eq_zero (by omega)
  · right; exact h0
theorem PlusJ.lt {a b l : List Nat} {k cr x y M : Nat} (h : PlusJ a b l k cr x y) (hM : x + y < 2 ^ M) : k ≤ M := by
  rcases h.big with h0 | h0
  · omega
  · by_cases hk : k ≤ M
    · exact hk
    · have := Nat.pow_le_pow_right (n := 2) (by decide) (show M ≤ k - 1 by omega)
      omega

set_option maxRecDepth 100000 in
set_option maxHeartbeats 2000000 in
theorem ref_plus (x y M : Nat) (A B : Option Addr) (c d : Nat) (hM : M ≤ 1000) (hxy : x + y < 2 ^ M) (w : World) (ha : Rd w A c (sz x)) (hb : Rd w B d (sz y)) :
    Calls Tryd.prog 110 #[.slice A (sz x).length c, .slice B (sz y).length d] w (GivesSz (x + y) w) := by
  obtain ⟨a, ea⟩ : ∃ a, a = sz x := ⟨_, rfl⟩
  obtain ⟨b, eb⟩ : ∃ b, b = sz y := ⟨_, rfl⟩
  have la : a.length ≤ 1000 := by
    have := sz_len_lt (n := x) (k := M) (by omega)
    rw [ea]; omega
  have lb : b.length ≤ 1000 := by
    have := sz_len_lt (n := y) (k := M) (by omega)
    rw [eb]; omega
  rw [← ea] at ha ⊢
  rw [← eb] at hb ⊢
  have HA := hide ea
  have HB := hide eb
  have HM := hide hxy
  clear ea eb hxy
  obtain ⟨n, hn⟩ : ∃ n, a.length = n := ⟨_, rfl⟩
  obtain ⟨m, hm⟩ : ∃ m, b.length = m := ⟨_, rfl⟩
  rw [hn] at la ⊢
  rw [hm] at lb ⊢
  have HN := hide hn
  have HK := hide hm
  clear hn hm
  go_enter Tryd.func110, Tryd.ntmps110
  go_wp2
  go_loopw [5, 6, 7] (fun vo vc vi wr => ∃ (k cr : Nat) (l : List Nat), vi = .int .i64 (k : Int) ∧ vc = .int .i64 (cr : Int) ∧ cr < 2 ∧ k ≤ M ∧ Own w.heap.size wr vo l ∧ Hid (PlusJ a b l k cr x y) ∧ Below w.heap.size w wr) (fun _ _ vi _ => M + 1 - (intOf vi).toNat)
  case atStart => exact ⟨0, 0, [], rfl, rfl, by decide, Nat.zero_le _, Own.nil _ _, ⟨rfl, Bin.nil, by decide, by simp [bv], .inl rfl⟩, b0 w⟩
  case round =>
    obtain ⟨k, cr, l, rfl, rfl, hc, hkM, ho, hJ, hb0⟩ := hrel
    have D1 := dg_lt (by rw [HA.out]; exact Bin.sz x : Bin a) k
    have D2 := dg_lt (by rw [HB.out]; exact Bin.sz y : Bin b) k
    have k1 : l.length + [(cr + dg a k + dg b k) % 2].length ≤ 4096 := by have := hJ.out.len; simp; omega
    have C1 := hide k1
    clear k1
    by_cases ca : k < n <;> by_cases cb : k < m
    · have hja : k < a.length := by rw [HN.out]; exact ca
      obtain ⟨ga, rfl, hca⟩ := (ha.below hb0).at_ (k := k) hja
      rw [dg_in hja] at hca
      have hjb : k < b.length := by rw [HK.out]; exact cb
      obtain ⟨gb, rfl, hcb⟩ := (hb.below hb0).at_ (k := k) hjb
      rw [dg_in hjb] at hcb
      have HS := hide (hJ.out.step HA.out HB.out (.inl hja))
      have HL := hide (hJ.out.step HA.out HB.out (.inl hja) |>.lt HM.out)
      clear hja hjb
      generalize e1 : dg a k = p at *
      generalize e2 : dg b k = q at *
      clear e1
      clear e2
      go_wp2_with (at_builtin; refine wpList_push rfl _ _ rfl w.heap.size _ l [(cr + p + q) % 2] _ _ rfl rfl (ho.lift (bA (b0 _) _)) (Rd.oneI _ _ _ (by omega)) C1.out (bA hb0 _).size ?_; intro v1 w1 ho1 hb1 hs1)
      go_roundw
      case rel => exact ⟨k + 1, (cr + p + q) / 2, l ++ [(cr + p + q) % 2], by go_num, by go_num, by omega, HL.out, ho1, HS.out, hb1 _ (bA hb0 _)⟩
      case measure => simp [intOf]; have := HL.out; omega
    · have hja : k < a.length := by rw [HN.out]; exact ca
      obtain ⟨ga, rfl, hca⟩ := (ha.below hb0).at_ (k := k) hja
      rw [dg_in hja] at hca
      have hjb : ¬ k < b.length := by rw [HK.out]; exact cb
      have Z2 := hide (dg_out hjb)
      have HS := hide (hJ.out.step HA.out HB.out (.inl hja))
      have HL := hide (hJ.out.step HA.out HB.out (.inl hja) |>.lt HM.out)
      clear hja hjb
      have hB0 := Z2.out
      unfold Hid at HS C1
      rw [hB0] at HS C1
      clear hB0
      simp only [Nat.add_zero] at HS C1
      replace HS := hide HS
      replace C1 := hide C1
      generalize e1 : dg a k = p at *
      clear e1
      go_wp2_with (at_builtin; refine wpList_push rfl _ _ rfl w.heap.size _ l [(cr + p) % 2] _ _ rfl rfl (ho.lift (bA (b0 _) _)) (Rd.oneI _ _ _ (by omega)) C1.out (bA hb0 _).size ?_; intro v1 w1 ho1 hb1 hs1)
      go_roundw
      case rel => exact ⟨k + 1, (cr + p) / 2, l ++ [(cr + p) % 2], by go_num, by go_num, by omega, HL.out, ho1, HS.out, hb1 _ (bA hb0 _)⟩
      case measure => simp [intOf]; have := HL.out; omega
    · have hja : ¬ k < a.length := by rw [HN.out]; exact ca
      have Z1 := hide (dg_out hja)
      have hjb : k < b.length := by rw [HK.out]; exact cb
      obtain ⟨gb, rfl, hcb⟩ := (hb.below hb0).at_ (k := k) hjb
      rw [dg_in hjb] at hcb
      have HS := hide (hJ.out.step HA.out HB.out (.inr (.inl hjb)))
      have HL := hide (hJ.out.step HA.out HB.out (.inr (.inl hjb)) |>.lt HM.out)
      clear hja hjb
      have hA0 := Z1.out
      unfold Hid at HS C1
      rw [hA0] at HS C1
      clear hA0
      simp only [Nat.add_zero] at HS C1
      replace HS := hide HS
      replace C1 := hide C1
      generalize e2 : dg b k = q at *
      clear e2
      go_wp2_with (at_builtin; refine wpList_push rfl _ _ rfl w.heap.size _ l [(cr + q) % 2] _ _ rfl rfl (ho.lift (bA (b0 _) _)) (Rd.oneI _ _ _ (by omega)) C1.out (bA hb0 _).size ?_; intro v1 w1 ho1 hb1 hs1)
      go_roundw
      case rel => exact ⟨k + 1, (cr + q) / 2, l ++ [(cr + q) % 2], by go_num, by go_num, by omega, HL.out, ho1, HS.out, hb1 _ (bA hb0 _)⟩
      case measure => simp [intOf]; have := HL.out; omega
    · by_cases cp : 0 < cr
      · have hja : ¬ k < a.length := by rw [HN.out]; exact ca
        have Z1 := hide (dg_out hja)
        have hjb : ¬ k < b.length := by rw [HK.out]; exact cb
        have Z2 := hide (dg_out hjb)
        have HS := hide (hJ.out.step HA.out HB.out (.inr (.inr cp)))
        have HL := hide (hJ.out.step HA.out HB.out (.inr (.inr cp)) |>.lt HM.out)
        clear hja hjb
        have hA0 := Z1.out
        have hB0 := Z2.out
        unfold Hid at HS C1
        rw [hA0, hB0] at HS C1
        clear hA0 hB0
        simp only [Nat.add_zero] at HS C1
        replace HS := hide HS
        replace C1 := hide C1
        go_wp2_with (at_builtin; refine wpList_push rfl _ _ rfl w.heap.size _ l [(cr) % 2] _ _ rfl rfl (ho.lift (bA (b0 _) _)) (Rd.oneI _ _ _ (by omega)) C1.out (bA hb0 _).size ?_; intro v1 w1 ho1 hb1 hs1)
        go_roundw
        case rel => exact ⟨k + 1, (cr) / 2, l ++ [(cr) % 2], by go_num, by go_num, by omega, HL.out, ho1, HS.out, hb1 _ (bA hb0 _)⟩
        case measure => simp [intOf]; have := HL.out; omega
      · have hja : ¬ k < a.length := by rw [HN.out]; exact ca
        have Z1 := hide (dg_out hja)
        have hjb : ¬ k < b.length := by rw [HK.out]; exact cb
        have Z2 := hide (dg_out hjb)
        have hz : cr = 0 := by omega
        subst hz
        have HF := hide (hJ.out.fin HA.out HB.out hja hjb)
        clear hja hjb
        go_wp2
        go_ret
        exact GivesSz.of_own rfl hb0 ho HF.out
end Go.Proofs.YtpimkigbdjfjoaaDoor

namespace Go.Proofs.YtpimkigbdjfjoaaDoor
open Go.RowKit

/-- what holds behind k digits of a difference -/
structure MinusJ (a b l : List Nat) (k bo : Nat) : Prop where
  len : l.length = k
  bin : Bin l
  c : bo < 2
  sum : bv (a.take k) + 2 ^ k * bo = bv l + bv (b.take k)

theorem MinusJ.step {a b l : List Nat} {k bo r bo' : Nat} (h : MinusJ a b l k bo) (hr : r < 2) (hb' : bo' < 2) (e : dg a k + 2 * bo' = r + bo + dg b k) : MinusJ a b (l ++ [r]) (k + 1) bo' := by
  obtain ⟨hl, hb, hc, hs⟩ := h
  refine ⟨by simp [hl], Bin.append hb (Bin.cons hr Bin.nil), hb', ?_⟩
  rw [take_dg, take_dg, bv_push, hl, Nat.pow_succ]
  have e2 : 2 ^ k * (dg a k + 2 * bo') = 2 ^ k * (r + bo + dg b k) := by rw [e]
  simp only [Nat.mul_add] at e2
  rw [Nat.mul_assoc (2 ^ k) 2 bo']
  omega
theorem MinusJ.fin {x y bo : Nat} {l : List Nat} (h : MinusJ (sz x) (sz y) l (sz x).length bo) (hxy : y ≤ x) : bv l = x - y := by
  obtain ⟨hl, hb, hc, hs⟩ := h
  have hlen : (sz y).length ≤ (sz x).length := by
    by_cases hc : (sz y).length ≤ (sz x).length
    · exact hc
    · have := sz_len_cmp (a := x) (b := y) (by omega)
      omega
  rw [List.take_of_length_le (Nat.le_refl _), List.take_of_length_le hlen, bv_sz, bv_sz] at hs
  have := bv_lt hb
  rw [hl] at this
  rcases (show bo = 0 ∨ bo = 1 by omega) with rfl | rfl
  · omega
  · omega

set_option maxRecDepth 100000 in
set_option maxHeartbeats 2000000 in
theorem ref_minus (x y : Nat) (A B : Option Addr) (c d : Nat) (hx : (sz x).length ≤ 1000) (hxy : y ≤ x) (w : World) (ha : Rd w A c (sz x)) (hb : Rd w B d (sz y)) :
    Calls Tryd.prog 112 #[.slice A (sz x).length c, .slice B (sz y).length d] w (GivesSz (x - y) w) := by
  obtain ⟨a, ea⟩ : ∃ a, a = sz x := ⟨_, rfl⟩
  obtain ⟨b, eb⟩ : ∃ b, b = sz y := ⟨_, rfl⟩
  have lb : (sz y).length ≤ 1000 := by
    by_cases hc : (sz y).length ≤ (sz x).length
    · omega
    · have := sz_len_cmp (a := x) (b := y) (by omega)
      omega
  rw [← ea] at ha hx ⊢
  rw [← eb] at hb lb ⊢
  have HA := hide ea
  have HB := hide eb
  clear ea eb
  obtain ⟨n, hn⟩ : ∃ n, a.length = n := ⟨_, rfl⟩
  obtain ⟨m, hm⟩ : ∃ m, b.length = m := ⟨_, rfl⟩
  rw [hn] at hx ⊢
  rw [hm] at lb ⊢
  have HN := hide hn
  have HK := hide hm
  clear hn hm
  go_enter Tryd.func112, Tryd.ntmps112
  go_wp2
  go_loopw [5, 6, 7] (fun vo vc vi wr => ∃ (k bo : Nat) (l : List Nat), vi = .int .i64 (k : Int) ∧ vc = .int .i64 (bo : Int) ∧ bo < 2 ∧ k ≤ n ∧ Own w.heap.size wr vo l ∧ Hid (MinusJ a b l k bo) ∧ Below w.heap.size w wr) (fun _ _ vi _ => n - (intOf vi).toNat)
  case atStart => exact ⟨0, 0, [], rfl, rfl, by decide, Nat.zero_le _, Own.nil _ _, ⟨rfl, Bin.nil, by decide, by simp [bv]⟩, b0 w⟩
  case round =>
    obtain ⟨k, bo, l, rfl, rfl, hc, hkn, ho, hJ, hb0⟩ := hrel
    have D1 := dg_lt (by rw [HA.out]; exact Bin.sz x : Bin a) k
    have D2 := dg_lt (by rw [HB.out]; exact Bin.sz y : Bin b) k
    have k1 : ∀ r : Nat, l.length + [r].length ≤ 4096 := by intro r; have := hJ.out.len; simp; omega
    have C1 := hide k1
    clear k1
    by_cases ca : k < n
    · by_cases cb : k < m
      · by_cases cn : dg a k < bo + dg b k
        · have hja : k < a.length := by rw [HN.out]; exact ca
          obtain ⟨ga, rfl, hca⟩ := (ha.below hb0).at_ (k := k) hja
          rw [dg_in hja] at hca
          have hjb : k < b.length := by rw [HK.out]; exact cb
          obtain ⟨gb, rfl, hcb⟩ := (hb.below hb0).at_ (k := k) hjb
          rw [dg_in hjb] at hcb
          clear hja hjb
          have HS := hide (hJ.out.step (r := dg a k + 2 - bo - dg b k) (bo' := 1) (by omega) (by decide) (by omega))
          generalize e1 : dg a k = p at *
          clear e1
          generalize e2 : dg b k = q at *
          clear e2
          have ht : (p : Int) - bo - q < 0 := by omega
          go_wp2_with (at_builtin; refine wpList_push rfl _ _ rfl w.heap.size _ l [p + 2 - bo - q] _ _ rfl rfl (ho.lift (bA (b0 _) _)) (Rd.oneI _ _ _ (by omega)) (C1.out _) (bA hb0 _).size ?_; intro v1 w1 ho1 hb1 hs1)
          go_roundw
          case rel => exact ⟨k + 1, 1, l ++ [p + 2 - bo - q], by go_num, by go_num, by decide, by omega, ho1, HS.out, hb1 _ (bA hb0 _)⟩
          case measure => simp [intOf]; omega
        · have hja : k < a.length := by rw [HN.out]; exact ca
          obtain ⟨ga, rfl, hca⟩ := (ha.below hb0).at_ (k := k) hja
          rw [dg_in hja] at hca
          have hjb : k < b.length := by rw [HK.out]; exact cb
          obtain ⟨gb, rfl, hcb⟩ := (hb.below hb0).at_ (k := k) hjb
          rw [dg_in hjb] at hcb
          clear hja hjb
          have HS := hide (hJ.out.step (r := dg a k - bo - dg b k) (bo' := 0) (by omega) (by decide) (by omega))
          generalize e1 : dg a k = p at *
          clear e1
          generalize e2 : dg b k = q at *
          clear e2
          have ht : ¬ (p : Int) - bo - q < 0 := by omega
          go_wp2_with (at_builtin; refine wpList_push rfl _ _ rfl w.heap.size _ l [p - bo - q] _ _ rfl rfl (ho.lift (bA (b0 _) _)) (Rd.oneI _ _ _ (by omega)) (C1.out _) (bA hb0 _).size ?_; intro v1 w1 ho1 hb1 hs1)
          go_roundw
          case rel => exact ⟨k + 1, 0, l ++ [p - bo - q], by go_num, by go_num, by decide, by omega, ho1, HS.out, hb1 _ (bA hb0 _)⟩
          case measure => simp [intOf]; omega
      · by_cases cn : dg a k < bo
        · have hja : k < a.length := by rw [HN.out]; exact ca
          obtain ⟨ga, rfl, hca⟩ := (ha.below hb0).at_ (k := k) hja
          rw [dg_in hja] at hca
          have hjb : ¬ k < b.length := by rw [HK.out]; exact cb
          have Z2 := hide (dg_out hjb)
          clear hja hjb
          have HS := hide (hJ.out.step (r := dg a k + 2 - bo) (bo' := 1) (by have := Z2.out; omega) (by decide) (by have := Z2.out; omega))
          generalize e1 : dg a k = p at *
          clear e1
          have ht : (p : Int) - bo < 0 := by omega
          go_wp2_with (at_builtin; refine wpList_push rfl _ _ rfl w.heap.size _ l [p + 2 - bo] _ _ rfl rfl (ho.lift (bA (b0 _) _)) (Rd.oneI _ _ _ (by omega)) (C1.out _) (bA hb0 _).size ?_; intro v1 w1 ho1 hb1 hs1)
          go_roundw
          case rel => exact ⟨k + 1, 1, l ++ [p + 2 - bo], by go_num, by go_num, by decide, by omega, ho1, HS.out, hb1 _ (bA hb0 _)⟩
          case measure => simp [intOf]; omega
        · have hja : k < a.length := by rw [HN.out]; exact ca
          obtain ⟨ga, rfl, hca⟩ := (ha.below hb0).at_ (k := k) hja
          rw [dg_in hja] at hca
          have hjb : ¬ k < b.length := by rw [HK.out]; exact cb
          have Z2 := hide (dg_out hjb)
          clear hja hjb
          have HS := hide (hJ.out.step (r := dg a k - bo) (bo' := 0) (by have := Z2.out; omega) (by decide) (by have := Z2.out; omega))
          generalize e1 : dg a k = p at *
          clear e1
          have ht : ¬ (p : Int) - bo < 0 := by omega
          go_wp2_with (at_builtin; refine wpList_push rfl _ _ rfl w.heap.size _ l [p - bo] _ _ rfl rfl (ho.lift (bA (b0 _) _)) (Rd.oneI _ _ _ (by omega)) (C1.out _) (bA hb0 _).size ?_; intro v1 w1 ho1 hb1 hs1)
          go_roundw
          case rel => exact ⟨k + 1, 0, l ++ [p - bo], by go_num, by go_num, by decide, by omega, ho1, HS.out, hb1 _ (bA hb0 _)⟩
          case measure => simp [intOf]; omega
    · have hk : k = n := by omega
      subst hk
      have hF : Hid (bv l = x - y) := by
        have := hJ.out
        rw [← HN.out, HA.out, HB.out] at this
        exact this.fin hxy
      have hbin := hJ.out.bin
      have hlen := (C1.out 0)
      obtain ⟨A', c', rfl, hr'⟩ := ho.rd
      have CT := ref_trim A' c' l hbin (by simp at hlen; omega)
      rw [hF.out] at CT
      go_wp2_with fail
      refine (CT _ hr').mono ?_
      rintro e w1 ⟨A2, c2, rfl, hb1, hr1⟩
      go_wp2
      go_ret
      exact ⟨A2, c2, rfl, bB hb0 hb1, hr1⟩
end Go.Proofs.YtpimkigbdjfjoaaDoor

namespace Go.Proofs.YtpimkigbdjfjoaaDoor
open Go.RowKit

theorem drop_le (l : List Nat) (k : Nat) : bv (l.drop k) ≤ bv l := by
  by_cases hk : k ≤ l.length
  · rw [bv_split l k hk]
    have : bv (l.drop k) * 1 ≤ bv (l.drop k) * 2 ^ k := Nat.mul_le_mul_left _ (Nat.one_le_two_pow)
    rw [Nat.mul_comm (bv (l.drop k)) (2 ^ k)] at this
    omega
  · rw [List.drop_eq_nil_of_le (by omega)]; simp [bv]
theorem bv_one (x : Nat) (l : List Nat) : bv ([x] ++ l) = x + 2 * bv l := rfl

set_option maxRecDepth 100000 in
set_option maxHeartbeats 2000000 in
theorem ref_times (x y M : Nat) (A B : Option Addr) (c d : Nat) (hM : M ≤ 900) (hxy : x * y < 2 ^ M) (hx : (sz x).length ≤ 900) (hy : (sz y).length ≤ 900) (w : World) (ha : Rd w A c (sz x)) (hb : Rd w B d (sz y)) :
    Calls Tryd.prog 116 #[.slice A (sz x).length c, .slice B (sz y).length d] w (GivesSz (x * y) w) := by
  obtain ⟨b, eb⟩ : ∃ b, b = sz y := ⟨_, rfl⟩
  have hy2 : bv b = y := by rw [eb, bv_sz]
  have bb : Bin b := by rw [eb]; exact Bin.sz y
  rw [← eb] at hb hy ⊢
  clear eb
  subst hy2
  obtain ⟨m, hm⟩ : ∃ m, b.length = m := ⟨_, rfl⟩
  rw [hm] at hy ⊢
  have HK := hide hm
  have HXY := hide hxy
  clear hm hxy
  go_enter Tryd.func116, Tryd.ntmps116
  go_wp2
  go_loopw [5, 6] (fun vo vi wr => ∃ (k : Nat) (i : Int) (Ao : Option Addr) (co P : Nat), vi = .int .i64 i ∧ i = (k : Int) - 1 ∧ k ≤ m ∧ vo = .slice Ao (sz P).length co ∧ P = x * bv (b.drop k) ∧ Rd wr Ao co (sz P) ∧ Below w.heap.size w wr) (fun _ vi _ => (intOf vi + 1).toNat)
  case atStart => exact ⟨m, _, none, 0, 0, rfl, rfl, Nat.le_refl _, by rw [sz_zero]; rfl, by rw [List.drop_eq_nil_of_le (by rw [HK.out]; exact Nat.le_refl _)]; simp [bv], by rw [sz_zero]; exact Rd.nil _ _ _, b0 w⟩
  case round =>
    obtain ⟨k, i, Ao, co, P, rfl, hi, hk, rfl, hP, hr, hb0⟩ := hrel
    by_cases h0 : k = 0
    · subst h0
      obtain rfl : i = -1 := by omega
      rw [List.drop_zero] at hP
      clear hi
      have HP := hide hP
      clear hP
      go_wp2
      go_ret
      rw [HP.out] at hr ⊢
      exact ⟨Ao, co, rfl, hb0, hr⟩
    · obtain ⟨j, rfl⟩ : ∃ j, k = j + 1 := ⟨k - 1, by omega⟩
      obtain rfl : i = (j : Int) := by omega
      clear hi
      have hjb : j < b.length := by rw [HK.out]; omega
      obtain ⟨gb, rfl, hcb⟩ := (hb.below hb0).at_ (k := j) hjb
      have hd := bv_drop b j hjb
      have hd2 := drop_le b j
      have K2 := bb.get hjb
      obtain ⟨q, hq⟩ : ∃ q, b[j] = q := ⟨_, rfl⟩
      rw [hq] at hd K2 hcb
      have HQ := hide hq
      clear hq
      have e1 : x * bv (b.drop j) = x * q + 2 * P := by rw [hd, hP, Nat.mul_add, Nat.mul_left_comm]
      have e2 : x * bv (b.drop j) ≤ x * bv b := Nat.mul_le_mul_left _ hd2
      have hlt : x * bv (b.drop j) < 2 ^ M := by have := HXY.out; omega
      have lP : (sz P).length ≤ 900 := Nat.le_trans (sz_len_lt (k := M) (by omega)) hM
      have EP := hide e1
      have HLT := hide hlt
      clear hd hd2 hP e1 e2 hlt
      obtain ⟨l1, hl1⟩ : ∃ l1, [0] ++ sz P = l1 := ⟨_, rfl⟩
      have bl1 : Bin l1 := by rw [← hl1]; exact Bin.append (Bin.cons (by decide) Bin.nil) (Bin.sz P)
      have vl1 : bv l1 = 2 * P := by rw [← hl1, bv_one, bv_sz]; omega
      have ll1 : l1.length ≤ 4096 := by rw [← hl1]; simp; omega
      have k1 : [0].length + (sz P).length ≤ 4096 := by simp; omega
      have HL1 := hide hl1
      have VL1 := hide vl1
      clear hl1 vl1
      go_wp2_with (at_builtin; refine wpList_push rfl _ _ rfl wr.heap.size _ [0] (sz P) _ _ rfl rfl (Own.oneI _ _ _ rfl) (hr.below (bA (b0 _) _)) k1 (bA (b0 _) _).size ?_; intro v1 w1 ho1 hb1 hs1)
      rw [HL1.out] at ho1
      obtain ⟨A1, c1, rfl, hr1⟩ := ho1.rd
      have hB1 := bB hb0 (hb1 wr (bA (b0 _) _))
      have CT := ref_trim A1 c1 l1 bl1 ll1 _ hr1
      rw [VL1.out] at CT
      refine CT.mono ?_
      rintro e w2 ⟨A2, c2, rfl, hb2, hr2⟩
      have hB2 := bB hB1 hb2
      obtain ⟨g2, hg2, hcb2⟩ := (hb.below hB2).at_ (k := j) hjb
      obtain rfl : gb = g2 := by simpa using hg2
      rw [HQ.out] at hcb2
      have ha2 := ha.below hB2
      clear hg2 HQ hcb hjb
      rcases (show q = 0 ∨ q = 1 by omega) with rfl | rfl
      · have E2 : Hid (2 * P = x * bv (b.drop j)) := by have := EP.out; rw [Hid]; omega
        go_wp2
        go_roundw
        case rel => exact ⟨j, _, A2, c2, 2 * P, rfl, rfl, by omega, rfl, E2.out, hr2, hB2⟩
        case measure => simp [intOf]
      · have E2 : Hid (2 * P + x = x * bv (b.drop j)) := by have := EP.out; rw [Hid]; omega
        have CP := ref_plus (2 * P) x M A2 A c2 c (by omega) (by rw [E2.out]; exact HLT.out) _ hr2 ha2
        go_wp2_with fail
        refine CP.mono ?_
        rintro e w3 ⟨A3, c3, rfl, hb3, hr3⟩
        go_wp2
        go_roundw
        case rel => exact ⟨j, _, A3, c3, 2 * P + x, rfl, rfl, by omega, rfl, E2.out, hr3, bB hB2 hb3⟩
        case measure => simp [intOf]

/-- what two functions of digits hand back -/
def Gives2 (q r : Nat) (w : World) (e : Ending) (w' : World) : Prop := ∃ A c A' c', e = .returned (.tuple #[.slice A (sz q).length c, .slice A' (sz r).length c']) ∧ Below w.heap.size w w' ∧ Rd w' A c (sz q) ∧ Rd w' A' c' (sz r)

set_option maxRecDepth 100000 in
set_option maxHeartbeats 2000000 in
theorem ref_parts (x y : Nat) (A B : Option Addr) (c d : Nat) (hx : (sz x).length ≤ 900) (hy : (sz y).length ≤ 900) (hy0 : 0 < y) (w : World) (ha : Rd w A c (sz x)) (hb : Rd w B d (sz y)) :
    Calls Tryd.prog 108 #[.slice A (sz x).length c, .slice B (sz y).length d] w (Gives2 (x / y) (x % y) w) := by
  obtain ⟨a, ea⟩ : ∃ a, a = sz x := ⟨_, rfl⟩
  have hx2 : bv a = x := by rw [ea, bv_sz]
  have ba : Bin a := by rw [ea]; exact Bin.sz x
  rw [← ea] at ha hx ⊢
  clear ea
  subst hx2
  obtain ⟨m, hm⟩ : ∃ m, a.length = m := ⟨_, rfl⟩
  rw [hm] at hx ⊢
  have HK := hide hm
  clear hm
  go_enter Tryd.func108, Tryd.ntmps108
  go_wp2
  go_loopw [6, 7, 8] (fun vq vo vi wr => ∃ (k : Nat) (i : Int) (Ao : Option Addr) (co R : Nat) (Aq : Option Addr) (cq : Nat) (q : List Nat), vi = .int .i64 i ∧ i = (k : Int) - 1 ∧ k ≤ m ∧ vo = .slice Ao (sz R).length co ∧ vq = .slice Aq q.length cq ∧ Rd wr Ao co (sz R) ∧ Rd wr Aq cq q ∧ Bin q ∧ Hid (q.length = m - k ∧ bv (a.drop k) = bv q * y + R) ∧ R < y ∧ Below w.heap.size w wr) (fun _ _ vi _ => (intOf vi + 1).toNat)
  case atStart => exact ⟨m, _, none, 0, 0, none, 0, [], rfl, rfl, Nat.le_refl _, by rw [sz_zero]; rfl, rfl, by rw [sz_zero]; exact Rd.nil _ _ _, Rd.nil _ _ _, Bin.nil, ⟨by simp, by rw [List.drop_eq_nil_of_le (by rw [HK.out]; exact Nat.le_refl _)]; simp [bv]⟩, hy0, b0 w⟩
  case round =>
    obtain ⟨k, i, Ao, co, R, Aq, cq, q, rfl, hi, hk, rfl, rfl, hr, hrq, hbq, hP, hR, hb0⟩ := hrel
    have lq : q.length ≤ 900 := by have := hP.out.1; omega
    by_cases h0 : k = 0
    · subst h0
      obtain rfl : i = -1 := by omega
      clear hi
      have e1 : bv q = bv a / y := by
        have := hP.out.2
        rw [List.drop_zero] at this
        rw [this, Nat.mul_comm, Nat.mul_add_div hy0, Nat.div_eq_of_lt hR, Nat.add_zero]
      have e2 : R = bv a % y := by
        have := hP.out.2
        rw [List.drop_zero] at this
        rw [this, Nat.mul_comm, Nat.mul_add_mod, Nat.mod_eq_of_lt hR]
      have E2 := hide e2
      have CT := ref_trim Aq cq q hbq (by omega) _ hrq
      rw [e1] at CT
      clear e1 e2
      go_wp2_with fail
      refine CT.mono ?_
      rintro e w1 ⟨A1, c1, rfl, hb1, hr1⟩
      go_wp2
      have hrf := hr.below hb1
      rw [E2.out] at hrf ⊢
      go_ret2
      exact ⟨A1, c1, Ao, co, rfl, bB hb0 hb1, hr1, hrf⟩
    · obtain ⟨j, rfl⟩ : ∃ j, k = j + 1 := ⟨k - 1, by omega⟩
      obtain rfl : i = (j : Int) := by omega
      clear hi
      have hja : j < a.length := by rw [HK.out]; omega
      obtain ⟨ga, rfl, hca⟩ := (ha.below hb0).at_ (k := j) hja
      have hd := bv_drop a j hja
      have K2 := ba.get hja
      generalize a[j] = p at *
      obtain ⟨hq1, hq2⟩ := hP.out
      rw [hq2] at hd
      have lR : (sz R).length ≤ 900 := by
        by_cases hc : (sz R).length ≤ (sz y).length
        · omega
        · have := sz_len_cmp (a := y) (b := R) (by omega)
          omega
      have HD := hide hd
      have HQ1 := hide hq1
      clear hd hq1 hq2 hP hja
      obtain ⟨l1, hl1⟩ : ∃ l1, [p] ++ sz R = l1 := ⟨_, rfl⟩
      have bl1 : Bin l1 := by rw [← hl1]; exact Bin.append (Bin.cons K2 Bin.nil) (Bin.sz R)
      have vl1 : bv l1 = p + 2 * R := by rw [← hl1, bv_one, bv_sz]
      have ll1 : l1.length ≤ 4096 := by rw [← hl1]; simp; omega
      have k1 : [p].length + (sz R).length ≤ 4096 := by simp; omega
      have HL1 := hide hl1
      have VL1 := hide vl1
      clear hl1 vl1
      go_wp2_with (at_builtin; refine wpList_push rfl _ _ rfl wr.heap.size _ [p] (sz R) _ _ rfl rfl (Own.oneI _ _ _ rfl) (hr.below (bA (b0 _) _)) k1 (bA (b0 _) _).size ?_; intro v1 w1 ho1 hb1 hs1)
      rw [HL1.out] at ho1
      obtain ⟨A1, c1, rfl, hr1⟩ := ho1.rd
      have hX1 := hb1 wr (bA (b0 _) _)
      have hB1 := bB hb0 hX1
      have CT := ref_trim A1 c1 l1 bl1 ll1 _ hr1
      rw [VL1.out] at CT
      refine CT.mono ?_
      rintro e w2 ⟨A2, c2, rfl, hb2, hr2⟩
      have hB2 := bB hB1 hb2
      have hq2 := (hrq.below hX1).below hb2
      have hy2 := hb.below hB2
      have l2 : (sz (p + 2 * R)).length ≤ 901 := by
        have h1 := bv_lt (Bin.sz y)
        rw [bv_sz] at h1
        have := sz_len_lt (n := p + 2 * R) (k := (sz y).length + 1) (by rw [Nat.pow_succ]; omega)
        omega
      have CL := ref_less (p + 2 * R) y A2 B c2 d (by omega) (by omega) _ hr2 hy2
      by_cases hlt : p + 2 * R < y
      · rw [decide_eq_true hlt] at CL
        go_wp2_with fail
        refine CL.mono ?_
        rintro e w3 ⟨rfl, hb3⟩
        have hq3 := hq2.below hb3
        have hr3 := hr2.below hb3
        have k2 : [0].length + q.length ≤ 4096 := by simp; omega
        have E2 : Hid (([0] ++ q).length = m - j ∧ bv (a.drop j) = bv ([0] ++ q) * y + (p + 2 * R)) := by
          have h1 := HD.out
          have h2 := HQ1.out
          refine ⟨by simp; omega, ?_⟩
          rw [bv_one, h1, Nat.mul_add, Nat.zero_add, Nat.mul_assoc]
          omega
        go_wp2_with (at_builtin; refine wpList_push rfl _ _ rfl w3.heap.size _ [0] q _ _ rfl rfl (Own.oneI _ _ _ rfl) (hq3.below (bA (b0 _) _)) k2 (bA (b0 _) _).size ?_; intro v4 w4 ho4 hb4 hs4)
        obtain ⟨A4, c4, rfl, hr4⟩ := ho4.rd
        have hX4 := hb4 w3 (bA (b0 _) _)
        go_roundw
        case rel => exact ⟨j, _, A2, c2, p + 2 * R, A4, c4, [0] ++ q, rfl, rfl, by omega, rfl, rfl, hr3.below hX4, hr4, Bin.append (Bin.cons (by decide) Bin.nil) hbq, E2.out, hlt, bB (bB hB2 hb3) hX4⟩
        case measure => simp [intOf]
      · rw [decide_eq_false hlt] at CL
        go_wp2_with fail
        refine CL.mono ?_
        rintro e w3 ⟨rfl, hb3⟩
        have hq3 := hq2.below hb3
        have hr3 := hr2.below hb3
        have CM := ref_minus (p + 2 * R) y A2 B c2 d (by omega) (by omega) _ hr3 (hy2.below hb3)
        go_wp2_with fail
        refine CM.mono ?_
        rintro e w5 ⟨A5, c5, rfl, hb5, hr5⟩
        have hq5 := hq3.below hb5
        have k2 : [1].length + q.length ≤ 4096 := by simp; omega
        have E2 : Hid (([1] ++ q).length = m - j ∧ bv (a.drop j) = bv ([1] ++ q) * y + (p + 2 * R - y)) := by
          have h1 := HD.out
          have h2 := HQ1.out
          refine ⟨by simp; omega, ?_⟩
          rw [bv_one, h1, Nat.mul_add, Nat.add_mul, Nat.one_mul, Nat.mul_assoc]
          omega
        go_wp2_with (at_builtin; refine wpList_push rfl _ _ rfl w5.heap.size _ [1] q _ _ rfl rfl (Own.oneI _ _ _ rfl) (hq5.below (bA (b0 _) _)) k2 (bA (b0 _) _).size ?_; intro v4 w4 ho4 hb4 hs4)
        obtain ⟨A4, c4, rfl, hr4⟩ := ho4.rd
        have hX4 := hb4 w5 (bA (b0 _) _)
        go_roundw
        case rel => exact ⟨j, _, A5, c5, p + 2 * R - y, A4, c4, [1] ++ q, rfl, rfl, by omega, rfl, rfl, hr5.below hX4, hr4, Bin.append (Bin.cons (by decide) Bin.nil) hbq, E2.out, by omega, bB (bB (bB hB2 hb3) hb5) hX4⟩
        case measure => simp [intOf]
end Go.Proofs.YtpimkigbdjfjoaaDoor

namespace Go.Proofs.YtpimkigbdjfjoaaDoor
open Go.RowKit

/-- a value is a slice of a number's digits -/
def SlIs (n : Nat) (v : Value) (w : World) : Prop := ∃ A c, v = .slice A (sz n).length c ∧ Rd w A c (sz n)
theorem SlIs.rd {n m : Nat} {A : Option Addr} {c : Nat} {w : World} (h : SlIs n (.slice A m c) w) : Rd w A c (sz n) := by
  obtain ⟨A', c', e, hr⟩ := h
  injection e with e1 e2 e3
  subst e1 e3
  exact hr
theorem Cl_SlIs (n : Nat) {v : Value} : Abs.Cl (fun _ => False) (SlIs n v) := by
  intro w w' ⟨A, c, e, hr⟩ h
  refine ⟨A, c, e, hr.cap, fun hl => ?_⟩
  obtain ⟨g, cur, e1, hg, hc⟩ := hr.mem hl
  exact ⟨g, cur, e1, (h.block g (Array.getElem?_eq_some_iff.1 hg).1 (fun hf => hf)).trans hg, hc⟩
theorem GivesSz.sl {n : Nat} {w w' : World} {e : Ending} (h : GivesSz n w e w') : ∃ v, e = .returned v ∧ Below w.heap.size w w' ∧ SlIs n v w' := by
  obtain ⟨A, c, he, hb, hr⟩ := h
  exact ⟨_, he, hb, A, c, rfl, hr⟩
/-- a number's value -/
def numV (x : Int) (A : Option Addr) (c : Nat) : Value := .agg #[.bool (decide (x < 0)), .slice A (sz x.natAbs).length c]
def GivesNum (x : Int) (w : World) (e : Ending) (w' : World) : Prop := ∃ A c, e = .returned (.agg #[.bool (decide (x < 0)), .slice A (sz x.natAbs).length c]) ∧ Below w.heap.size w w' ∧ Rd w' A c (sz x.natAbs)

theorem sz_len0 (n : Nat) : (0 : Int) < ((sz n).length : Int) ↔ n ≠ 0 := by
  have := sz_nil (n := n)
  by_cases h : n = 0
  · subst h; rw [sz_zero]; simp
  · have h2 : sz n ≠ [] := fun e => h (this.1 e)
    have := List.length_pos_iff.2 h2
    constructor
    · intro _; exact h
    · intro _; omega

theorem ref_made (b : Bool) (n : Nat) (A : Option Addr) (c : Nat) (w : World) :
    Calls Tryd.prog 109 #[.bool b, .slice A (sz n).length c] w fun e w' => e = .returned (.agg #[.bool (b && decide (n ≠ 0)), .slice A (sz n).length c]) ∧ Below w.heap.size w w' := by
  have h := sz_len0 n
  have hd : decide ((0 : Int) < ((sz n).length : Int)) = decide (n ≠ 0) := decide_eq_decide.2 h
  rw [← hd]
  clear hd h
  generalize (sz n).length = m at *
  cases b
  all_goals
    go_enter Tryd.func109, Tryd.ntmps109
    go_wp2
    refine bodyPost_ret (by simp [results, Tryd.results109, go_sem]; try rfl) rfl ⟨?_, bA (b0 w) _⟩
    simp

set_option maxRecDepth 100000 in
set_option maxHeartbeats 1000000 in
theorem ref_Int (x : Int) (h1 : -9223372036854775808 ≤ x) (h2 : x < 9223372036854775808) (w : World) :
    Calls Tryd.prog 88 #[.int .i64 x] w (GivesNum x w) := by
  by_cases hx : x < 0
  · have hd : decide (x < 0) = true := decide_eq_true hx
    obtain ⟨u, hu⟩ : ∃ u : Nat, IntKind.u64.wrap x = (u : Int) := ⟨(x + 18446744073709551616).toNat, by rw [IntKind.wrap_u64]; omega⟩
    have hu2 : (u : Int) = x + 18446744073709551616 := by rw [← hu, IntKind.wrap_u64]; omega
    have e3 : 2 ^ 64 - u = x.natAbs := by omega
    have c1 := ref_Size u (by omega)
    have c2 := ref_power 64 (by decide)
    have l1 : (sz (2 ^ 64)).length ≤ 1000 := Nat.le_trans (sz_len_lt (k := 65) (by decide)) (by decide)
    have c3 := fun A B c d w ha hb => ref_minus (2 ^ 64) u A B c d l1 (by omega) w ha hb
    rw [e3] at c3
    have hn0 : x.natAbs ≠ 0 := by omega
    have c4 := fun A c => ref_made true x.natAbs A c
    rw [decide_eq_true hn0] at c4
    have HU := hide hu2
    clear hu2 e3 hn0 l1
    go_enter Tryd.func88, Tryd.ntmps88
    go_wp2_with fail
    refine (c1 _).mono ?_
    rintro e w1 ⟨A1, d1, rfl, hb1, rn_s1⟩
    have f_o1 := kp hb1 (na w #[.bool false, .slice none 0 0] 94)
    have hB1 := bB (bA (b0 w) (.cells #[.bool false, .slice none 0 0] 94)) hb1
    obtain ⟨zo_a, zo_b, lo1⟩ := rcell f_o1
    go_wp2_with fail
    refine (c2 _).mono ?_
    rintro e w2 ⟨A2, d2, rfl, hb2, rn_s2⟩
    have f_o2 := kp hb2 (f_o1)
    have rd_s12 := rn_s1.below hb2
    have hB2 := bB hB1 hb2
    clear zo_a zo_b
    obtain ⟨zo_a, zo_b, lo2⟩ := rcell f_o2
    go_wp2_with fail
    refine (c3 A2 A1 d2 d1 _ rn_s2 rd_s12).mono ?_
    rintro e w3 ⟨A3, d3, rfl, hb3, rn_s3⟩
    have f_o3 := kp hb3 (f_o2)
    have rd_s13 := rd_s12.below hb3
    have rd_s23 := rn_s2.below hb3
    have hB3 := bB hB2 hb3
    clear zo_a zo_b
    obtain ⟨zo_a, zo_b, lo3⟩ := rcell f_o3
    go_wp2_with fail
    refine (c4 A3 d3 _).mono ?_
    rintro e w4 ⟨rfl, hb4⟩
    have f_o4 := kp hb4 (f_o3)
    have rd_s14 := rd_s13.below hb4
    have rd_s24 := rd_s23.below hb4
    have rd_s34 := rn_s3.below hb4
    have hB4 := bB hB3 hb4
    clear zo_a zo_b
    obtain ⟨zo_a, zo_b, lo4⟩ := rcell f_o4
    go_wp2_with fail
    rw [row2 f_o4]
    generalize hT5 : setRow _ _ _ = w5
    obtain ⟨hx5, f_o5⟩ := fin_x (b0 _) f_o4 hT5
    clear hT5
    have rd_s15 := rd_s14.exc hx5 (f_o4) (by decide)
    have rd_s25 := rd_s24.exc hx5 (f_o4) (by decide)
    have rd_s35 := rd_s34.exc hx5 (f_o4) (by decide)
    have hB5 := bX hB4 hx5 (by omega)
    clear zo_a zo_b
    obtain ⟨zo_a, zo_b, lo5⟩ := rcell f_o5
    refine bodyPost_ret (by simp [results, Tryd.results88, go_sem, zo_a]; try rfl) rfl ⟨A3, d3, by rw [hd], hB5, rd_s35⟩
  · have hd : decide (x < 0) = false := decide_eq_false hx
    obtain ⟨u, hu⟩ : ∃ u : Nat, IntKind.u64.wrap x = (u : Int) := ⟨x.toNat, by have := IntKind.wrap_u64 x; omega⟩
    have e3 : u = x.natAbs := by have := hu; rw [IntKind.wrap_u64] at this; omega
    have c1 := ref_Size u (by omega)
    have c4 := fun A c => ref_made false u A c
    rw [e3] at c1 c4 hu
    have hu2 : x = (x.natAbs : Int) := by omega
    generalize x.natAbs = m at *
    subst hu2
    clear hu e3 hx
    go_enter Tryd.func88, Tryd.ntmps88
    go_wp2_with fail
    refine (c1 _).mono ?_
    rintro e w1 ⟨A1, d1, rfl, hb1, rn_s1⟩
    have f_o1 := kp hb1 (na w #[.bool false, .slice none 0 0] 94)
    have hB1 := bB (bA (b0 w) (.cells #[.bool false, .slice none 0 0] 94)) hb1
    obtain ⟨zo_a, zo_b, lo1⟩ := rcell f_o1
    go_wp2_with fail
    refine (c4 A1 d1 _).mono ?_
    rintro e w2 ⟨rfl, hb2⟩
    have f_o2 := kp hb2 (f_o1)
    have rd_s12 := rn_s1.below hb2
    have hB2 := bB hB1 hb2
    clear zo_a zo_b
    obtain ⟨zo_a, zo_b, lo2⟩ := rcell f_o2
    go_wp2_with fail
    rw [row2 f_o2]
    generalize hT3 : setRow _ _ _ = w3
    obtain ⟨hx3, f_o3⟩ := fin_x (b0 _) f_o2 hT3
    clear hT3
    have rd_s13 := rd_s12.exc hx3 (f_o2) (by decide)
    have hB3 := bX hB2 hx3 (by omega)
    clear zo_a zo_b
    obtain ⟨zo_a, zo_b, lo3⟩ := rcell f_o3
    refine bodyPost_ret (by simp [results, Tryd.results88, go_sem, zo_a]; try rfl) rfl ⟨A1, d1, by rw [hd]; rfl, hB3, rd_s13⟩

set_option maxRecDepth 100000 in
set_option maxHeartbeats 1000000 in
theorem ref_Mul (x y : Int) (M : Nat) (A B : Option Addr) (c d : Nat) (hM : M ≤ 900) (hxy : x.natAbs * y.natAbs < 2 ^ M) (lx : (sz x.natAbs).length ≤ 900) (ly : (sz y.natAbs).length ≤ 900) (w : World) (ha : Rd w A c (sz x.natAbs)) (hb : Rd w B d (sz y.natAbs)) :
    Calls Tryd.prog 90 #[.agg #[.bool (decide (x < 0)), .slice A (sz x.natAbs).length c], .agg #[.bool (decide (y < 0)), .slice B (sz y.natAbs).length d]] w (GivesNum (x * y) w) := by
  have hs : (decide (x < 0) != decide (y < 0) && decide ((x * y).natAbs ≠ 0)) = decide (x * y < 0) := by
    by_cases h1 : x < 0 <;> by_cases h2 : y < 0
    · have : 0 < x * y := by have := Int.mul_pos (a := -x) (b := -y) (by omega) (by omega); rw [Int.neg_mul_neg] at this; exact this
      simp [h1, h2]; omega
    · by_cases h3 : y = 0
      · subst h3; simp
      · have : x * y < 0 := Int.mul_neg_of_neg_of_pos h1 (by omega)
        simp [h1, h2, this]; omega
    · by_cases h3 : x = 0
      · subst h3; simp
      · have : x * y < 0 := Int.mul_neg_of_pos_of_neg (by omega) h2
        simp [h1, h2, this]; omega
    · have : 0 ≤ x * y := Int.mul_nonneg (by omega) (by omega)
      simp [h1, h2]; omega
  have hn : x.natAbs * y.natAbs = (x * y).natAbs := (Int.natAbs_mul x y).symm
  have c1 := fun w ha hb => ref_times x.natAbs y.natAbs M A B c d hM hxy lx ly w ha hb
  rw [hn] at c1
  have c2 := fun b A c => ref_made b (x * y).natAbs A c
  have HS := hide hs
  clear hs hn hxy lx ly
  generalize x * y = z at *
  generalize hp : decide (x < 0) = p at *
  generalize hq : decide (y < 0) = q at *
  clear hp hq
  go_enter Tryd.func90, Tryd.ntmps90
  go_wp2_with fail
  have f_a1 := (ka (ka (na w #[.bool p, .slice A (sz x.natAbs).length c] 94) (.cells #[.bool q, .slice B (sz y.natAbs).length d] 94)) (.cells #[.bool false, .slice none 0 0] 94))
  have f_b1 := (ka (na1 w (.cells #[.bool p, .slice A (sz x.natAbs).length c] 94) #[.bool q, .slice B (sz y.natAbs).length d] 94) (.cells #[.bool false, .slice none 0 0] 94))
  have f_o1 := (na2 w (.cells #[.bool p, .slice A (sz x.natAbs).length c] 94) (.cells #[.bool q, .slice B (sz y.natAbs).length d] 94) #[.bool false, .slice none 0 0] 94)
  have rd_a1 := (ha.below (bA (bA (bA (b0 _) (.cells #[.bool p, .slice A (sz x.natAbs).length c] 94)) (.cells #[.bool q, .slice B (sz y.natAbs).length d] 94)) (.cells #[.bool false, .slice none 0 0] 94)))
  have rd_b1 := (hb.below (bA (bA (bA (b0 _) (.cells #[.bool p, .slice A (sz x.natAbs).length c] 94)) (.cells #[.bool q, .slice B (sz y.natAbs).length d] 94)) (.cells #[.bool false, .slice none 0 0] 94)))
  have hB1 := (bA (bA (bA (b0 w) (.cells #[.bool p, .slice A (sz x.natAbs).length c] 94)) (.cells #[.bool q, .slice B (sz y.natAbs).length d] 94)) (.cells #[.bool false, .slice none 0 0] 94))
  have la1 := (rcell f_a1).2.2
  have lb1 := (rcell f_b1).2.2
  have lo1 := (rcell f_o1).2.2
  refine Abs.wp_region_abs (Abs.cls0 _) [0, 1, 2, 3, 4, 5, 6, 7, 8, 9, 10, 11] (by kernel_rfl) (by kernel_rfl) (Below.refl _ _).drew ?_
  repeat (first | (refine Abs.step_pure rfl rfl (fun K hK => ?_); go_simp; (try go_bits); (first | refine hK _ _ ?_ | (simp only [↓IntWalk.iteOmega]; go_simp; (try go_bits); refine hK _ _ ?_)); clear hK K) | (refine Abs.step_load (v := ?_) rfl rfl (by kernel_rfl) rfl (fun w0 hI => ?_) (fun K hK => ?_); rotate_left; (· have z0 := (rcell (kp hI (f_a1))).1; have z1 := (rcell (kp hI (f_b1))).1; go_simp; rfl); (simp only [Act.put, List.setIfInBounds_toArray, List.set_cons_zero, List.set_cons_succ]; refine hK _ _ ?_; clear hK K)) | (refine Abs.step_skip rfl rfl (fun K hK => ?_); (simp only [Act.put, List.setIfInBounds_toArray, List.set_cons_zero, List.set_cons_succ]; refine hK _ _ ?_; clear hK K)))
  (refine Abs.step_call (f := ?_) (args := ?_) rfl rfl rfl rfl (SlIs (z.natAbs)) (fun _ => Cl_SlIs _) (fun w0 => ?_) (fun w0 hI hF => ?_) (fun K hK v w0 hv => ?_); rotate_left 2; (· go_simp; (constructor <;> rfl)); (· exact (c1 _ (rd_a1.below hI) (rd_b1.below hI)).mono (fun _ _ h => h.sl)); (obtain ⟨A3, d3, rfl, -⟩ := hv; clear w0; simp only [Act.put, List.setIfInBounds_toArray, List.set_cons_zero, List.set_cons_succ]; refine hK _ _ ?_; clear hK K))
  repeat (first | (refine Abs.step_pure rfl rfl (fun K hK => ?_); go_simp; (try go_bits); (first | refine hK _ _ ?_ | (simp only [↓IntWalk.iteOmega]; go_simp; (try go_bits); refine hK _ _ ?_)); clear hK K) | (refine Abs.step_load (v := ?_) rfl rfl (by kernel_rfl) rfl (fun w0 hI => ?_) (fun K hK => ?_); rotate_left; (· have z0 := (rcell (kp hI (f_a1))).1; have z1 := (rcell (kp hI (f_b1))).1; go_simp; rfl); (simp only [Act.put, List.setIfInBounds_toArray, List.set_cons_zero, List.set_cons_succ]; refine hK _ _ ?_; clear hK K)) | (refine Abs.step_skip rfl rfl (fun K hK => ?_); (simp only [Act.put, List.setIfInBounds_toArray, List.set_cons_zero, List.set_cons_succ]; refine hK _ _ ?_; clear hK K)))
  (refine Abs.step_call_val (f := ?_) (args := ?_) (v := ?_) rfl rfl rfl rfl (fun w0 => ?_) (fun w0 hI => ?_) (fun K hK => ?_); rotate_left 3; (· go_simp; (constructor <;> rfl)); (· exact c2 _ _ _ _); (simp only [Act.put, List.setIfInBounds_toArray, List.set_cons_zero, List.set_cons_succ]; refine hK _ _ ?_; clear hK K))
  repeat (first | (refine Abs.step_pure rfl rfl (fun K hK => ?_); go_simp; (try go_bits); (first | refine hK _ _ ?_ | (simp only [↓IntWalk.iteOmega]; go_simp; (try go_bits); refine hK _ _ ?_)); clear hK K) | (refine Abs.step_load (v := ?_) rfl rfl (by kernel_rfl) rfl (fun w0 hI => ?_) (fun K hK => ?_); rotate_left; (· have z0 := (rcell (kp hI (f_a1))).1; have z1 := (rcell (kp hI (f_b1))).1; go_simp; rfl); (simp only [Act.put, List.setIfInBounds_toArray, List.set_cons_zero, List.set_cons_succ]; refine hK _ _ ?_; clear hK K)) | (refine Abs.step_skip rfl rfl (fun K hK => ?_); (simp only [Act.put, List.setIfInBounds_toArray, List.set_cons_zero, List.set_cons_succ]; refine hK _ _ ?_; clear hK K)))
  (refine Abs.step_store (T := ?_) rfl rfl rfl (fun w0 hI hF hU => ?_) (fun w0 hI hU hJ => ?_) (fun K hK => ?_); rotate_left; (· have hR := kp hI (f_o1); have hg0 := (rcell hR).1; have hg1 := (rcell hR).2.1; simp only [Abs.T_setF, Abs.T_addA, Abs.T_push, Abs.T_start]; go_simp; exact row2 hR _ _); (· first | exact trivial | exact js hJ rfl _ | exact js hJ (Or.inl rfl) _ | exact js hJ (Or.inr rfl) _); (simp only [Act.put, List.setIfInBounds_toArray, List.set_cons_zero, List.set_cons_succ]; refine hK _ _ ?_; clear hK K))
  repeat (first | (refine Abs.step_pure rfl rfl (fun K hK => ?_); go_simp; (try go_bits); (first | refine hK _ _ ?_ | (simp only [↓IntWalk.iteOmega]; go_simp; (try go_bits); refine hK _ _ ?_)); clear hK K) | (refine Abs.step_load (v := ?_) rfl rfl (by kernel_rfl) rfl (fun w0 hI => ?_) (fun K hK => ?_); rotate_left; (· have z0 := (rcell (kp hI (f_a1))).1; have z1 := (rcell (kp hI (f_b1))).1; go_simp; rfl); (simp only [Act.put, List.setIfInBounds_toArray, List.set_cons_zero, List.set_cons_succ]; refine hK _ _ ?_; clear hK K)) | (refine Abs.step_skip rfl rfl (fun K hK => ?_); (simp only [Act.put, List.setIfInBounds_toArray, List.set_cons_zero, List.set_cons_succ]; refine hK _ _ ?_; clear hK K)))
  intro w0 hI hF hx1 hx2
  clear hx1 hx2
  simp only [Abs.T_push]
  have rn_s := (((hF 9).2 rfl)).rd
  clear hF
  have hQ := kp hI (f_o1)
  generalize hT2 : setRow w0 _ _ = w2
  have hy := (fin_x (b0 _) hQ hT2).1
  replace rn_s := rn_s.exc hy hQ (by decide)
  obtain ⟨hx2, f_o2⟩ := fin_x hI (f_o1) hT2
  clear hT2 hQ hy hI w0
  have f_a2 := kx hx2 (f_a1) (by omega)
  have f_b2 := kx hx2 (f_b1) (by omega)
  have rd_a2 := rd_a1.exc hx2 (f_o1) (by decide)
  have rd_b2 := rd_b1.exc hx2 (f_o1) (by decide)
  have hB2 := bX hB1 hx2 (by omega)
  obtain ⟨za_a, za_b, la2⟩ := rcell f_a2
  obtain ⟨zb_a, zb_b, lb2⟩ := rcell f_b2
  obtain ⟨zo_a, zo_b, lo2⟩ := rcell f_o2
  go_wp2
  refine bodyPost_ret (by simp [results, Tryd.results90, go_sem, zo_a]; try rfl) rfl ⟨A3, d3, ?_, hB2, rn_s⟩
  rw [← HS.out]
  cases p <;> cases q <;> simp

set_option maxRecDepth 100000 in
set_option maxHeartbeats 1000000 in
theorem ref_Less (x y : Int) (A B : Option Addr) (c d : Nat) (lx : (sz x.natAbs).length ≤ 4096) (ly : (sz y.natAbs).length ≤ 4096) (w : World) (ha : Rd w A c (sz x.natAbs)) (hb : Rd w B d (sz y.natAbs)) :
    Calls Tryd.prog 92 #[.agg #[.bool (decide (x < 0)), .slice A (sz x.natAbs).length c], .agg #[.bool (decide (y < 0)), .slice B (sz y.natAbs).length d]] w fun e w' => e = .returned (.bool (decide (x < y))) ∧ Below w.heap.size w w' := by
  have c1 := fun w ha hb => ref_less x.natAbs y.natAbs A B c d lx ly w ha hb
  have c2 := fun w hb ha => ref_less y.natAbs x.natAbs B A d c ly lx w hb ha
  by_cases h1 : x < 0 <;> by_cases h2 : y < 0
  · rw [show decide (y.natAbs < x.natAbs) = decide (x < y) from decide_eq_decide.2 (by omega)] at c2
    rw [decide_eq_true h1, decide_eq_true h2]
    clear c1 h1 h2
    generalize decide (x < y) = r at *
    go_enter Tryd.func92, Tryd.ntmps92
    go_wp2_with fail
    refine (c2 _ (hb.below (bA (bA (b0 _) (.cells #[.bool true, .slice A (sz x.natAbs).length c] 94)) (.cells #[.bool true, .slice B (sz y.natAbs).length d] 94))) (ha.below (bA (bA (b0 _) (.cells #[.bool true, .slice A (sz x.natAbs).length c] 94)) (.cells #[.bool true, .slice B (sz y.natAbs).length d] 94)))).mono ?_
    rintro e w1 ⟨rfl, hb1⟩
    have f_a1 := kp hb1 (ka (na w #[.bool true, .slice A (sz x.natAbs).length c] 94) (.cells #[.bool true, .slice B (sz y.natAbs).length d] 94))
    have f_b1 := kp hb1 (na1 w (.cells #[.bool true, .slice A (sz x.natAbs).length c] 94) #[.bool true, .slice B (sz y.natAbs).length d] 94)
    have rd_a1 := (ha.below (bA (bA (b0 _) (.cells #[.bool true, .slice A (sz x.natAbs).length c] 94)) (.cells #[.bool true, .slice B (sz y.natAbs).length d] 94))).below hb1
    have rd_b1 := (hb.below (bA (bA (b0 _) (.cells #[.bool true, .slice A (sz x.natAbs).length c] 94)) (.cells #[.bool true, .slice B (sz y.natAbs).length d] 94))).below hb1
    have hB1 := bB (bA (bA (b0 w) (.cells #[.bool true, .slice A (sz x.natAbs).length c] 94)) (.cells #[.bool true, .slice B (sz y.natAbs).length d] 94)) hb1
    obtain ⟨za_a, za_b, la1⟩ := rcell f_a1
    obtain ⟨zb_a, zb_b, lb1⟩ := rcell f_b1
    go_wp2
    go_ret
    exact ⟨rfl, hB1⟩
  · rw [show decide (x < y) = true from decide_eq_true (by omega), decide_eq_true h1, decide_eq_false h2]
    clear c1 c2 h1 h2
    go_enter Tryd.func92, Tryd.ntmps92
    go_wp2
    go_ret
    exact ⟨rfl, (bA (bA (b0 w) _) _)⟩
  · rw [show decide (x < y) = false from decide_eq_false (by omega), decide_eq_false h1, decide_eq_true h2]
    clear c1 c2 h1 h2
    go_enter Tryd.func92, Tryd.ntmps92
    go_wp2
    go_ret
    exact ⟨rfl, (bA (bA (b0 w) _) _)⟩
  · rw [show decide (x.natAbs < y.natAbs) = decide (x < y) from decide_eq_decide.2 (by omega)] at c1
    rw [decide_eq_false h1, decide_eq_false h2]
    clear c2 h1 h2
    generalize decide (x < y) = r at *
    go_enter Tryd.func92, Tryd.ntmps92
    go_wp2_with fail
    refine (c1 _ (ha.below (bA (bA (b0 _) (.cells #[.bool false, .slice A (sz x.natAbs).length c] 94)) (.cells #[.bool false, .slice B (sz y.natAbs).length d] 94))) (hb.below (bA (bA (b0 _) (.cells #[.bool false, .slice A (sz x.natAbs).length c] 94)) (.cells #[.bool false, .slice B (sz y.natAbs).length d] 94)))).mono ?_
    rintro e w1 ⟨rfl, hb1⟩
    have f_a1 := kp hb1 (ka (na w #[.bool false, .slice A (sz x.natAbs).length c] 94) (.cells #[.bool false, .slice B (sz y.natAbs).length d] 94))
    have f_b1 := kp hb1 (na1 w (.cells #[.bool false, .slice A (sz x.natAbs).length c] 94) #[.bool false, .slice B (sz y.natAbs).length d] 94)
    have rd_a1 := (ha.below (bA (bA (b0 _) (.cells #[.bool false, .slice A (sz x.natAbs).length c] 94)) (.cells #[.bool false, .slice B (sz y.natAbs).length d] 94))).below hb1
    have rd_b1 := (hb.below (bA (bA (b0 _) (.cells #[.bool false, .slice A (sz x.natAbs).length c] 94)) (.cells #[.bool false, .slice B (sz y.natAbs).length d] 94))).below hb1
    have hB1 := bB (bA (bA (b0 w) (.cells #[.bool false, .slice A (sz x.natAbs).length c] 94)) (.cells #[.bool false, .slice B (sz y.natAbs).length d] 94)) hb1
    obtain ⟨za_a, za_b, la1⟩ := rcell f_a1
    obtain ⟨zb_a, zb_b, lb1⟩ := rcell f_b1
    go_wp2
    go_ret
    exact ⟨rfl, hB1⟩
end Go.Proofs.YtpimkigbdjfjoaaDoor
