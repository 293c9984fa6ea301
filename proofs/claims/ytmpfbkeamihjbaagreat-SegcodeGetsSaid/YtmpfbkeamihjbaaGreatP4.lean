/- Numbers as lists of binary digits, from the lowest on: plain laws. No program is used. Slices of digits in memory: what is read, what is owned, and append by one law; yearbookref01: trim, Size, power. -/
import Derived.Test.YtmpfbkeamihjbaaGreatP3
import Derived.Maps.AppendAt
import Derived.OwnWalk
import Derived.LoopTactic
set_option linter.unusedSimpArgs false
set_option linter.unusedVariables false
namespace Go.Proofs.YtmpfbkeamihjbaaGreat

/-- the number of a list of digits -/
def bv : List Nat → Nat
  | [] => 0
  | x :: l => x + 2 * bv l
def Bin (l : List Nat) : Prop := ∀ x ∈ l, x < 2
/-- a number's digits, without noughts at the end -/
def sz (n : Nat) : List Nat := if h : n = 0 then [] else (n % 2) :: sz (n / 2)
termination_by n

theorem sz_zero : sz 0 = [] := by rw [sz]; simp
theorem sz_pos {n : Nat} (h : n ≠ 0) : sz n = (n % 2) :: sz (n / 2) := by rw [sz]; simp [h]
theorem bv_sz (n : Nat) : bv (sz n) = n := by
  induction n using Nat.strongRecOn with
  | _ n ih =>
    by_cases h : n = 0
    · subst h; rw [sz_zero]; rfl
    · rw [sz_pos h]; simp only [bv]; rw [ih (n / 2) (by omega)]; omega
theorem Bin.sz (n : Nat) : Bin (sz n) := by
  induction n using Nat.strongRecOn with
  | _ n ih =>
    by_cases h : n = 0
    · subst h; rw [sz_zero]; intro x hx; cases hx
    · rw [sz_pos h]
      intro x hx
      rcases List.mem_cons.1 hx with rfl | hx
      · omega
      · exact ih (n / 2) (by omega) x hx
theorem Bin.nil : Bin [] := fun x hx => by cases hx
theorem Bin.cons {x : Nat} {l : List Nat} (hx : x < 2) (h : Bin l) : Bin (x :: l) := fun y hy => by
  rcases List.mem_cons.1 hy with rfl | hy
  · exact hx
  · exact h y hy
theorem Bin.append {l m : List Nat} (h : Bin l) (h' : Bin m) : Bin (l ++ m) := fun x hx => (List.mem_append.1 hx).elim (h x) (h' x)
theorem Bin.take {l : List Nat} (h : Bin l) (k : Nat) : Bin (l.take k) := fun x hx => h x (List.mem_of_mem_take hx)
theorem Bin.drop {l : List Nat} (h : Bin l) (k : Nat) : Bin (l.drop k) := fun x hx => h x (List.mem_of_mem_drop hx)
theorem Bin.get {l : List Nat} (h : Bin l) {k : Nat} (hk : k < l.length) : l[k] < 2 := h _ (List.getElem_mem hk)

theorem bv_append (l m : List Nat) : bv (l ++ m) = bv l + 2 ^ l.length * bv m := by
  induction l with
  | nil => simp [bv]
  | cons x l ih =>
    simp only [List.cons_append, bv, List.length_cons]
    rw [ih, Nat.pow_succ]
    have : 2 ^ l.length * 2 * bv m = 2 * (2 ^ l.length * bv m) := by ac_rfl
    omega
theorem bv_lt {l : List Nat} (h : Bin l) : bv l < 2 ^ l.length := by
  induction l with
  | nil => simp [bv]
  | cons x l ih =>
    have h1 := h x (by simp)
    have h2 := ih (fun y hy => h y (by simp [hy]))
    simp only [bv, List.length_cons]
    rw [Nat.pow_succ]
    omega
theorem bv_split (l : List Nat) (k : Nat) (hk : k ≤ l.length) : bv l = bv (l.take k) + 2 ^ k * bv (l.drop k) := by
  have h := bv_append (l.take k) (l.drop k)
  rw [List.take_append_drop, List.length_take, Nat.min_eq_left hk] at h
  exact h
theorem bv_take_succ (l : List Nat) (k : Nat) (hk : k < l.length) : bv (l.take (k + 1)) = bv (l.take k) + 2 ^ k * l[k] := by
  rw [List.take_succ_eq_append_getElem hk, bv_append, List.length_take, Nat.min_eq_left (by omega)]
  simp [bv]
theorem bv_drop (l : List Nat) (k : Nat) (hk : k < l.length) : bv (l.drop k) = l[k] + 2 * bv (l.drop (k + 1)) := by
  rw [List.drop_eq_getElem_cons hk]; rfl
theorem bv_zero {l : List Nat} (h : ∀ x ∈ l, x = 0) : bv l = 0 := by
  induction l with
  | nil => rfl
  | cons x l ih =>
    simp only [bv]
    rw [ih (fun y hy => h y (by simp [hy])), h x (by simp)]

/-- one list only -/
theorem sz_bv {l : List Nat} (h : Bin l) (hc : l = [] ∨ 2 ^ (l.length - 1) ≤ bv l) : sz (bv l) = l := by
  induction l with
  | nil => simp [bv, sz_zero]
  | cons x l ih =>
    have h1 := h x (by simp)
    have hb : Bin l := fun y hy => h y (by simp [hy])
    rcases hc with hc | hc
    · cases hc
    · simp only [List.length_cons, Nat.add_sub_cancel, bv] at hc
      have hpos : x + 2 * bv l ≠ 0 := by
        have := Nat.two_pow_pos l.length
        omega
      simp only [bv]
      rw [sz_pos hpos, show (x + 2 * bv l) % 2 = x by omega, show (x + 2 * bv l) / 2 = bv l by omega]
      rw [ih hb]
      by_cases hl : l = []
      · exact .inl hl
      · refine .inr ?_
        have hlen : 0 < l.length := List.length_pos_iff.2 hl
        have : 2 ^ l.length = 2 * 2 ^ (l.length - 1) := by
          rw [show l.length = (l.length - 1) + 1 by omega, Nat.pow_succ, Nat.add_sub_cancel]; omega
        omega
theorem sz_len_lt {n k : Nat} (h : n < 2 ^ k) : (sz n).length ≤ k := by
  induction k generalizing n with
  | zero =>
    have : n = 0 := by simpa using h
    subst this; rw [sz_zero]; simp
  | succ k ih =>
    by_cases hn : n = 0
    · subst hn; rw [sz_zero]; simp
    · rw [sz_pos hn]
      rw [Nat.pow_succ] at h
      have := ih (n := n / 2) (by omega)
      simp only [List.length_cons]; omega
theorem sz_len_ge {n : Nat} (h : sz n ≠ []) : 2 ^ ((sz n).length - 1) ≤ n := by
  induction n using Nat.strongRecOn with
  | _ n ih =>
    by_cases hn : n = 0
    · subst hn; exact absurd sz_zero h
    · rw [sz_pos hn]
      simp only [List.length_cons, Nat.add_sub_cancel]
      by_cases h2 : sz (n / 2) = []
      · rw [h2]; simp; omega
      · have := ih (n / 2) (by omega) h2
        have hlen : 0 < (sz (n / 2)).length := List.length_pos_iff.2 h2
        rw [show (sz (n / 2)).length = ((sz (n / 2)).length - 1) + 1 by omega, Nat.pow_succ]
        omega
theorem sz_nil {n : Nat} : sz n = [] ↔ n = 0 := by
  constructor
  · intro h
    have := bv_sz n
    rw [h] at this
    exact this.symm
  · rintro rfl; exact sz_zero
/-- lengths tell what is less, where they differ -/
theorem sz_len_cmp {a b : Nat} (h : (sz a).length < (sz b).length) : a < b := by
  have h1 := bv_lt (Bin.sz a)
  rw [bv_sz] at h1
  have h2 := sz_len_ge (n := b) (by intro hb; rw [hb] at h; simp at h)
  have h3 : 2 ^ (sz a).length ≤ 2 ^ ((sz b).length - 1) := Nat.pow_le_pow_right (by decide) (by omega)
  omega
/-- noughts struck at the end -/
theorem sz_trim {l : List Nat} (h : Bin l) (k : Nat) (hk : k ≤ l.length) (hz : ∀ x ∈ l.drop k, x = 0) (hl : k = 0 ∨ ∃ j, ∃ hj : j < l.length, k = j + 1 ∧ l[j] ≠ 0) : l.take k = sz (bv l) := by
  have e : bv l = bv (l.take k) := by rw [bv_split l k hk, bv_zero hz]; omega
  rw [e]
  refine (sz_bv (h.take k) ?_).symm
  rcases hl with rfl | ⟨j, hj, rfl, hne⟩
  · exact .inl (by simp)
  · refine .inr ?_
    rw [bv_take_succ l j hj, List.length_take, Nat.min_eq_left (by omega), Nat.add_sub_cancel]
    have : l[j] = 1 := by have := h.get hj; omega
    rw [this]; omega
theorem sz_pow (n : Nat) : List.replicate n 0 ++ [1] = sz (2 ^ n) := by
  have e : bv (List.replicate n 0 ++ [1]) = 2 ^ n := by
    rw [bv_append, bv_zero (fun x hx => (List.mem_replicate.1 hx).2), List.length_replicate]
    simp [bv]
  have hb : Bin (List.replicate n 0 ++ [1]) := Bin.append (fun x hx => by rw [(List.mem_replicate.1 hx).2]; decide) (Bin.cons (by decide) Bin.nil)
  rw [← sz_bv hb (.inr (by rw [e]; simp)), e]
end Go.Proofs.YtmpfbkeamihjbaaGreat

namespace Go.Proofs.YtmpfbkeamihjbaaGreat
open Go.RowKit

def vals (l : List Nat) : List Value := l.map fun (x : Nat) => Value.int .i64 ((x : Nat) : Int)
/-- a row of the call's own -/
def Own (B : Nat) (w : World) (v : Value) (l : List Nat) : Prop := w.ownsRow B 3 1 v l.length (vals l)
/-- a slice that reads as these numbers -/
structure Rd (w : World) (A : Option Addr) (c : Nat) (l : List Nat) : Prop where
  cap : l.length ≤ c
  mem : 0 < l.length → ∃ g cur, A = some ⟨g, 0, none⟩ ∧ w.heap[g]? = some (.cells cur 3 (0, 0)) ∧ ∀ i (hi : i < l.length), cur[i]? = some (.int .i64 ((l[i] : Nat) : Int))

theorem Rd.at_ {w : World} {A : Option Addr} {c : Nat} {l : List Nat} (h : Rd w A c l) {k : Nat} (hk : k < l.length) : ∃ g, A = some ⟨g, 0, none⟩ ∧ w.cell? ⟨g, k, none⟩ = some (.int .i64 ((l[k] : Nat) : Int)) := by
  obtain ⟨g, cur, e, hg, hc⟩ := h.mem (by omega)
  exact ⟨g, e, (cell_of_row w g k cur _ (0, 0) hg).trans (hc k hk)⟩
theorem Rd.below {w w' : World} {A : Option Addr} {c : Nat} {l : List Nat} (h : Rd w A c l) (hb : Below w.heap.size w w') : Rd w' A c l :=
  ⟨h.cap, fun hl => by
    obtain ⟨g, cur, e, hg, hc⟩ := h.mem hl
    exact ⟨g, cur, e, (hb.block g (Array.getElem?_eq_some_iff.1 hg).1).trans hg, hc⟩⟩
/-- a store into a variable of another type leaves digits alone -/
theorem Rd.exc {w w1 : World} {A : Option Addr} {c k : Nat} {l : List Nat} {cs : Array Value} {t : TypeId} (h : Rd w A c l) (hx : Exc k w w1) (hk : w.heap[k]? = some (.cells cs t (0, 0))) (ht : t ≠ 3) : Rd w1 A c l :=
  ⟨h.cap, fun hl => by
    obtain ⟨g, cur, e, hg, hc⟩ := h.mem hl
    have hne : g ≠ k := by
      rintro rfl
      rw [hg] at hk
      injection hk with hk
      injection hk with _ h2 _
      exact ht h2.symm
    exact ⟨g, cur, e, (hx.other g (Array.getElem?_eq_some_iff.1 hg).1 hne).trans hg, hc⟩⟩
theorem Rd.take {w : World} {A : Option Addr} {c : Nat} {l : List Nat} (h : Rd w A c l) (k : Nat) : Rd w A c (l.take k) :=
  ⟨by rw [List.length_take]; have := h.cap; omega, fun hl => by
    rw [List.length_take] at hl
    obtain ⟨g, cur, e, hg, hc⟩ := h.mem (by omega)
    refine ⟨g, cur, e, hg, fun i hi => ?_⟩
    rw [List.length_take] at hi
    rw [hc i (by omega)]
    simp⟩
theorem Rd.nil (w : World) (A : Option Addr) (c : Nat) : Rd w A c [] := ⟨by simp, fun h => by simp at h⟩
theorem Own.nil (B : Nat) (w : World) : Own B w (.slice none 0 0) [] := World.ownsRow_nil w B _ 1
theorem Own.rd {B : Nat} {w : World} {v : Value} {l : List Nat} (h : Own B w v l) : ∃ A c, v = .slice A l.length c ∧ Rd w A c l := by
  obtain ⟨h1, ⟨rfl, h2⟩ | ⟨g, cap, cur, rfl, hb, hg, hn, hm, hs, ht⟩⟩ := h
  · exact ⟨none, 0, by rw [h2], by omega, fun hl => by omega⟩
  · refine ⟨some ⟨g, 0, none⟩, cap, rfl, hn, fun hl => ⟨g, cur, rfl, hg, fun i hi => ?_⟩⟩
    have e : (vals l)[i]? = some (.int .i64 ((l[i] : Nat) : Int)) := by simp [vals, hi]
    rw [← ht, List.getElem?_take] at e
    split at e
    · simpa using e
    · cases e
theorem Own.lift {B : Nat} {w w' : World} {v : Value} {l : List Nat} (h : Own B w v l) (hb : Below w.heap.size w w') : Own B w' v l := by
  obtain ⟨h1, h2⟩ := h
  refine ⟨h1, ?_⟩
  rcases h2 with h2 | ⟨g, cap, cur, h3, h4, h5, h6⟩
  · exact .inl h2
  · exact .inr ⟨g, cap, cur, h3, h4, (hb.block g (Array.getElem?_eq_some_iff.1 h5).1).trans h5, h6⟩
theorem Own.lt {B : Nat} {w : World} {v : Value} {l : List Nat} (h : Own B w v l) : ∀ k, v.ownBlock = some k → B ≤ k := fun k hk => (World.ownsRow.lt h k hk).1
/-- a literal of one number, just laid -/
theorem Own.one (w : World) (x : Nat) : Own w.heap.size (w.alloc (.cells #[.int .i64 (x : Int)] 3)) (.slice (some ⟨w.heap.size, 0, none⟩) 1 1) [x] :=
  ⟨by simp [vals], .inr ⟨w.heap.size, 1, _, rfl, Nat.le_refl _, na w _ _, Nat.le_refl _, by decide, by simp, by simp [vals]⟩⟩
theorem Rd.one (w : World) (x : Nat) : Rd (w.alloc (.cells #[.int .i64 (x : Int)] 3)) (some ⟨w.heap.size, 0, none⟩) 1 [x] :=
  ⟨by simp, fun _ => ⟨w.heap.size, _, rfl, na w _ _, fun i hi => by
    have : i = 0 := by simpa using hi
    subst this
    rfl⟩⟩
theorem Rd.oneI (w : World) (y : Int) (x : Nat) (h : y = (x : Int)) : Rd (w.alloc (.cells #[.int .i64 y] 3)) (some ⟨w.heap.size, 0, none⟩) 1 [x] := by subst h; exact Rd.one w x
theorem Own.oneI (w : World) (y : Int) (x : Nat) (h : y = (x : Int)) : Own w.heap.size (w.alloc (.cells #[.int .i64 y] 3)) (.slice (some ⟨w.heap.size, 0, none⟩) 1 1) [x] := by subst h; exact Own.one w x

theorem int_info : (Tryz.prog.info? 3).map (fun i => (i.zero, i.size, i.bytes)) = some (some (.int .i64 0), 1, 8) := by kernel_rfl

theorem add_off (g i : Nat) : (⟨g, 0, none⟩ : Addr).add i = ⟨g, i, none⟩ := by
  unfold Addr.add
  split
  · next h => subst h; rfl
  · simp

set_option maxRecDepth 100000 in
theorem push_run (w : World) (ty : TypeId) {B : Nat} {v : Value} {l m : List Nat} {A : Option Addr} {c : Nat} (hown : Own B w v l) (hr : Rd w A c m) (hlen : l.length + m.length ≤ 4096) (hB : B ≤ w.heap.size) :
    ∃ v' w', (Builtin.append_ #[125, 125] ty #[v, .slice A m.length c]).run Tryz.prog w = .ok v' w' ∧ Own B w' v' (l ++ m) ∧ w.grownBy w' v.ownBlock := by
  obtain ⟨i0, hi0, hz0, hz1, hz2⟩ := info_parts int_info
  rcases A with _ | ad
  · have hm : m = [] := by
      by_cases h0 : 0 < m.length
      · obtain ⟨g, cur, e, _⟩ := hr.mem h0
        cases e
      · exact List.eq_nil_of_length_eq_zero (by omega)
    subst hm
    refine ⟨v, w, ?_, by simpa using hown, World.grownBy.refl w _⟩
    rcases hown.2 with ⟨rfl, _⟩ | ⟨g, cap, cur, rfl, _, _, hn, _⟩
    · simp [Builtin.append_, run_underlying Tryz.underlying125, sizeOf, typeInfo, hi0, Builtin.lenOf, Builtin.firstCells]
    · simp [Builtin.append_, run_underlying Tryz.underlying125, sizeOf, typeInfo, hi0, Builtin.lenOf, Builtin.firstCells, hn, storeCells]
  · have hcells : ∀ j u, (vals m)[j]? = some u → w.cell? (ad.add j) = some u := by
      intro j u hu
      have hj : j < m.length := by
        have := (List.getElem?_eq_some_iff.1 hu).1
        simpa [vals] using this
      obtain ⟨g, cur, e, hg, hc⟩ := hr.mem (by omega)
      injection e with e
      subst e
      rw [add_off, cell_of_row w g j cur _ (0, 0) hg, hc j hj]
      simp [vals, hj] at hu
      rw [← hu]
    obtain ⟨v', w', hrun, h2, h3, _, _⟩ := run_append_own_at (P := Tryz.prog) w B 125 ty 3 i0 (.int .i64 0) 1 8 Tryz.underlying125 hi0 hz0 hz1 hz2 rfl (by decide) v l.length (vals l) hown ad m.length c (vals m) (by simp [vals]) hcells
      (fun u hu => by
        obtain ⟨x, _, rfl⟩ := List.mem_map.1 hu
        rfl) (by simp only [maxLen]; omega) (by omega) hB
    refine ⟨v', w', hrun, ?_, h3⟩
    have e : vals l ++ vals m = vals (l ++ m) := by simp [vals]
    unfold Own
    rw [List.length_append, ← e]
    exact h2

/-- append onto a row of the call's own -/
theorem wpList_push {ops : Array Oper} {rest : List Oper} {o : Oper} {a : Act} {w : World} {Q : Exit → Act → World → Prop} (hgd : o.guard = none) (s x : Operand)
    (ho : o.op = .call { callee := .builtin .append, args := #[s, x], argTypes := #[125, 125] }) (B : Nat) (v : Value) (l m : List Nat) (A : Option Addr) (c : Nat)
    (hs : a.eval s = v) (hx : a.eval x = .slice A m.length c) (hown : Own B w v l) (hr : Rd w A c m) (hlen : l.length + m.length ≤ 4096) (hB : B ≤ w.heap.size)
    (h : ∀ v' w', Own B w' v' (l ++ m) → (∀ w0 : World, Below B w0 w → Below B w0 w') → w.heap.size ≤ w'.heap.size → wpList Tryz.prog ops Q rest (a.put o.dst v') w') : wpList Tryz.prog ops Q (o :: rest) a w := by
  obtain ⟨v', w', hrun, h2, h3⟩ := push_run w o.type hown hr hlen hB
  refine wpList_plain hgd fun _ hK => ?_
  unfold Oper.wp execOp
  simp only [ho, resolve, invoke, builtin, Sem.run_bind, Sem.run_pure, Result.andThen_ok, List.map_toArray, List.map_cons, List.map_nil, hs, hx, hrun]
  exact hK _ _ (h v' w' h2 (fun w0 hb => hb.grown h3 hB hown.lt) h3.size)

/-- what a function of digits hands back -/
def GivesSz (n : Nat) (w : World) (e : Ending) (w' : World) : Prop := ∃ A c, e = .returned (.slice A (sz n).length c) ∧ Below w.heap.size w w' ∧ Rd w' A c (sz n)
theorem GivesSz.of_own {n : Nat} {w w' : World} {v : Value} {l : List Nat} {e : Ending} (he : e = .returned v) (hb : Below w.heap.size w w') (ho : Own w.heap.size w' v l) (hl : l = sz n) : GivesSz n w e w' := by
  subst hl
  obtain ⟨A, c, rfl, hr⟩ := ho.rd
  exact ⟨A, c, he, hb, hr⟩

theorem GivesSz.mk {n : Nat} {w w' : World} {l : List Nat} {A : Option Addr} {c : Nat} {e : Ending} (hl : l = sz n) (he : e = .returned (.slice A l.length c)) (hb : Below w.heap.size w w') (hr : Rd w' A c l) : GivesSz n w e w' := by
  subst hl
  exact ⟨A, c, he, hb, hr⟩

set_option maxRecDepth 100000 in
set_option maxHeartbeats 1000000 in
theorem ref_Size (u : Nat) (hu : u < 18446744073709551616) (w : World) :
    Calls Tryz.prog 101 #[.int .u64 (u : Int)] w (GivesSz u w) := by
  go_enter Tryz.func101, Tryz.ntmps101
  go_wp2
  go_loopw [0, 3] (fun vu vo wr => ∃ (l : List Nat) (r : Nat), vu = .int .u64 (r : Int) ∧ r < 18446744073709551616 ∧ Own w.heap.size wr vo l ∧ Hid (l ++ sz r = sz u) ∧ Below w.heap.size w wr) (fun vu _ _ => (intOf vu).toNat)
  case atStart => exact ⟨[], u, rfl, hu, Own.nil _ _, rfl, b0 w⟩
  case round =>
    obtain ⟨l, r, rfl, hr, ho, hl, hb⟩ := hrel
    by_cases h0 : r = 0
    · subst h0
      have h1 : ¬ (0 : Int) < ((0 : Nat) : Int) := by omega
      go_wp2
      go_ret
      exact GivesSz.of_own rfl hb ho (by have := hl.out; rw [sz_zero, List.append_nil] at this; exact this)
    · have h1 : (0 : Int) < (r : Int) := by omega
      have hlen : l.length + 1 ≤ 65 := by
        have := congrArg List.length hl.out
        rw [sz_pos h0, List.length_append, List.length_cons] at this
        have := sz_len_lt (n := u) (k := 64) (by omega)
        omega
      have k1 : l.length + [r % 2].length ≤ 4096 := by simp; omega
      go_wp2_with (at_builtin; refine wpList_push rfl _ _ rfl w.heap.size _ l [r % 2] _ _ rfl rfl (ho.lift (bA (b0 _) _)) (Rd.oneI _ _ _ (by omega)) k1 (bA hb _).size ?_; intro v1 w1 ho1 hb1 hs1)
      go_roundw
      case rel => exact ⟨l ++ [r % 2], r / 2, by go_num, by omega, ho1, by rw [Hid, List.append_assoc]; have := hl.out; rw [sz_pos h0] at this; exact this, hb1 _ (bA hb _)⟩
      case measure => simp [intOf]; omega

set_option maxRecDepth 100000 in
set_option maxHeartbeats 1000000 in
theorem ref_power (n : Nat) (hn : n ≤ 1000) (w : World) :
    Calls Tryz.prog 105 #[.int .i64 (n : Int)] w (GivesSz (2 ^ n) w) := by
  go_enter Tryz.func105, Tryz.ntmps105
  go_wp2
  go_loopw [3, 4] (fun vo vi wr => ∃ k : Nat, vi = .int .i64 (k : Int) ∧ k ≤ n ∧ Own w.heap.size wr vo (List.replicate k 0) ∧ Below w.heap.size w wr) (fun _ vi _ => n - (intOf vi).toNat)
  case atStart => exact ⟨0, rfl, Nat.zero_le _, Own.nil _ _, b0 w⟩
  case round =>
    obtain ⟨k, rfl, hk, ho, hb⟩ := hrel
    by_cases h0 : k < n
    · have k1 : (List.replicate k 0).length + [0].length ≤ 4096 := by simp; omega
      go_wp2_with (at_builtin; refine wpList_push rfl _ _ rfl w.heap.size _ (List.replicate k 0) [0] _ _ rfl rfl (ho.lift (bA (b0 _) _)) (Rd.oneI _ _ _ rfl) k1 (bA hb _).size ?_; intro v1 w1 ho1 hb1 hs1)
      go_roundw
      case rel => exact ⟨k + 1, by go_num, by omega, by rw [List.replicate_succ']; exact ho1, hb1 _ (bA hb _)⟩
      case measure => simp [intOf]; omega
    · have e : k = n := by omega
      subst e
      have k1 : (List.replicate k 0).length + [1].length ≤ 4096 := by simp; omega
      go_wp2_with (at_builtin; refine wpList_push rfl _ _ rfl w.heap.size _ (List.replicate k 0) [1] _ _ rfl rfl (ho.lift (bA (b0 _) _)) (Rd.oneI _ _ _ rfl) k1 (bA hb _).size ?_; intro v1 w1 ho1 hb1 hs1)
      go_ret
      exact GivesSz.of_own rfl (hb1 _ (bA hb _)) ho1 (sz_pow k)

set_option maxRecDepth 100000 in
set_option maxHeartbeats 1000000 in
theorem ref_trim (A : Option Addr) (c : Nat) (l : List Nat) (hl : Bin l) (hlen : l.length ≤ 4096) (w : World) (hr : Rd w A c l) :
    Calls Tryz.prog 128 #[.slice A l.length c] w (GivesSz (bv l) w) := by
  have hcap := hr.cap
  go_enter Tryz.func128, Tryz.ntmps128
  go_wp2
  go_loop [3] (fun vi => ∃ k : Nat, vi = .int .i64 (k : Int) ∧ k ≤ l.length ∧ Hid (∀ x ∈ l.drop k, x = 0)) (fun vi => (intOf vi).toNat)
  case atStart => exact ⟨l.length, rfl, Nat.le_refl _, by rw [Hid, List.drop_length]; intro x hx; cases hx⟩
  case round =>
    obtain ⟨k, rfl, hk, hz⟩ := hrel
    by_cases h0 : 0 < k
    · obtain ⟨j, rfl⟩ : ∃ j, k = j + 1 := ⟨k - 1, by omega⟩
      obtain ⟨g, rfl, hc⟩ := hr.at_ (k := j) (by omega)
      have e1 : ((j + 1 : Nat) : Int) - 1 = (j : Int) := by omega
      have E1 := hide e1
      clear e1
      by_cases h1 : l[j] = 0
      · have hb : ((l[j] : Int) == 0) = true := by simp [h1]
        go_wp2
        go_round
        case rel => exact ⟨j, rfl, by omega, by
          rw [Hid, List.drop_eq_getElem_cons (by omega)]
          intro x hx
          rcases List.mem_cons.1 hx with rfl | hx
          · exact h1
          · exact hz.out x hx⟩
        case measure => simp [intOf]
      · have hb : ((l[j] : Int) == 0) = false := by simp [h1]
        have hT := hide (sz_trim hl (j + 1) hk hz.out (.inr ⟨j, by omega, rfl, h1⟩))
        go_wp2
        go_ret
        exact GivesSz.mk hT.out (by rw [List.length_take, Nat.min_eq_left hk]; rfl) (b0 w) (hr.take _)
    · have e : k = 0 := by omega
      subst e
      have hT := hide (sz_trim hl 0 hk hz.out (.inl rfl))
      go_wp2
      go_ret
      exact GivesSz.mk hT.out (by simp) (b0 w) (hr.take _)
end Go.Proofs.YtmpfbkeamihjbaaGreat
