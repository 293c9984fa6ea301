/- Bands in memory; pmc.back and pmc.Check at this program. -/
import Derived.Test.YtfdaabdibpcjeaaRef1
import Derived.Test.YtfdaabdibpcjeaaLine4
set_option linter.unusedSimpArgs false
set_option linter.unusedVariables false
namespace Go.Proofs.Ytfdaabdibpcjeaa
open Go.RowKit

/-- a band -/
structure Bd where
  t : Int
  lo : Int
  hi : Int
  deriving DecidableEq

def Bd.cs (b : Bd) : Array Value := #[.int .i64 b.t, .int .i64 b.lo, .int .i64 b.hi]
/-- a slice that reads as these bands -/
structure BR (w : World) (A : Option Addr) (c : Nat) (l : List Bd) : Prop where
  cap : l.length ≤ c
  top : c ≤ 9223372036854775807
  mem : 0 < l.length → ∃ g o cur, A = some ⟨g, o, none⟩ ∧ w.heap[g]? = some (.cells cur 38 (0, 0)) ∧
    ∀ i (hi : i < l.length), cur[o + i * 3]? = some (.int .i64 l[i].t) ∧ cur[o + i * 3 + 1]? = some (.int .i64 l[i].lo) ∧ cur[o + i * 3 + 2]? = some (.int .i64 l[i].hi)

theorem BR.at_ {w : World} {A : Option Addr} {c : Nat} {l : List Bd} (h : BR w A c l) {k : Nat} (hk : k < l.length) :
    ∃ g o, A = some ⟨g, o, none⟩ ∧ w.cell? ⟨g, o + k * 3, none⟩ = some (.int .i64 l[k].t) ∧ w.cell? ⟨g, o + k * 3 + 1, none⟩ = some (.int .i64 l[k].lo) ∧ w.cell? ⟨g, o + k * 3 + 2, none⟩ = some (.int .i64 l[k].hi) := by
  obtain ⟨g, o, cur, e, hg, hc⟩ := h.mem (by omega)
  obtain ⟨h1, h2, h3⟩ := hc k hk
  exact ⟨g, o, e, (cell_of_row w g _ cur _ (0, 0) hg).trans h1, (cell_of_row w g _ cur _ (0, 0) hg).trans h2, (cell_of_row w g _ cur _ (0, 0) hg).trans h3⟩
theorem BR.below {w w' : World} {A : Option Addr} {c : Nat} {l : List Bd} (h : BR w A c l) (hb : Below w.heap.size w w') : BR w' A c l :=
  ⟨h.cap, h.top, fun hl => by
    obtain ⟨g, o, cur, e, hg, hc⟩ := h.mem hl
    exact ⟨g, o, cur, e, (hb.block g (Array.getElem?_eq_some_iff.1 hg).1).trans hg, hc⟩⟩
/-- a store into a variable of another type leaves bands alone -/
theorem BR.exc {w w1 : World} {A : Option Addr} {c k : Nat} {l : List Bd} {cs : Array Value} {t : TypeId} (h : BR w A c l) (hx : Exc k w w1) (hk : w.heap[k]? = some (.cells cs t (0, 0))) (ht : t ≠ 38) : BR w1 A c l :=
  ⟨h.cap, h.top, fun hl => by
    obtain ⟨g, o, cur, e, hg, hc⟩ := h.mem hl
    have hne : g ≠ k := by
      rintro rfl
      rw [hg] at hk
      injection hk with hk
      injection hk with _ h2 _
      exact ht h2.symm
    exact ⟨g, o, cur, e, (hx.other g (Array.getElem?_eq_some_iff.1 hg).1 hne).trans hg, hc⟩⟩
theorem BR.take {w : World} {A : Option Addr} {c : Nat} {l : List Bd} (h : BR w A c l) (k : Nat) : BR w A c (l.take k) :=
  ⟨by rw [List.length_take]; have := h.cap; omega, h.top, fun hl => by
    rw [List.length_take] at hl
    obtain ⟨g, o, cur, e, hg, hc⟩ := h.mem (by omega)
    refine ⟨g, o, cur, e, hg, fun i hi => ?_⟩
    rw [List.length_take] at hi
    have := hc i (by omega)
    simpa using this⟩
theorem BR.nil (w : World) (A : Option Addr) (c : Nat) (hc : c ≤ 9223372036854775807) : BR w A c [] := ⟨by simp, hc, fun h => by simp at h⟩
/-- cut at the front: 's[k:n:m]' -/
theorem BR.drop {w : World} {A : Option Addr} {c m : Nat} {l : List Bd} (h : BR w A c l) (k : Nat) (hk : k ≤ l.length) (hm : l.length ≤ m) (hmc : m ≤ c) : BR w (if m = k then A else A.map (·.add (k * 3))) (m - k) (l.drop k) :=
  ⟨by rw [List.length_drop]; omega, by have := h.top; omega, fun hl => by
    rw [List.length_drop] at hl
    obtain ⟨g, o, cur, rfl, hg, hc⟩ := h.mem (by omega)
    rw [if_neg (by omega)]
    refine ⟨g, o + k * 3, cur, ?_, hg, fun i hi => ?_⟩
    · show some (Addr.add _ _) = _
      unfold Addr.add
      split
      · next h0 => simp [h0]
      · rfl
    · rw [List.length_drop] at hi
      have := hc (k + i) (by omega)
      rw [show o + k * 3 + i * 3 = o + (k + i) * 3 by omega]
      simpa using this⟩

/-! ### pmc -/
theorem pmc_back (v : Int) (w : World) : Calls Try.prog 61 #[.int .i64 v] w fun e w' => e = .returned (.bool (bkB v)) ∧ w = w' := by
  by_cases h1 : -2305844108725321728 ≤ v
  · by_cases h2 : v ≤ 2305844108725321728
    · have hb : bkB v = true := decide_eq_true ⟨h1, h2⟩
      rw [hb]
      go_enter Try.func61, Try.ntmps61
      go_wp2
      go_ret
      exact ⟨rfl, rfl⟩
    · have hb : bkB v = false := decide_eq_false (fun h => h2 h.2)
      rw [hb]
      go_enter Try.func61, Try.ntmps61
      go_wp2
      go_ret
      exact ⟨by simp, rfl⟩
  · have hb : bkB v = false := decide_eq_false (fun h => h1 h.1)
    rw [hb]
    have h2 : v < -2305844108725321728 := by omega
    go_enter Try.func61, Try.ntmps61
    go_wp2
    go_ret
    exact ⟨by simp, rfl⟩

/-- the bands behind a time may be -/
def bdB (last : Int) (b : Bd) : Bool := decide (last < b.t) && decide (b.t ≤ 281474976710656) && decide (b.lo ≤ b.hi) && bkB b.lo && bkB b.hi
def okF : Int → List Bd → Bool
  | _, [] => true
  | last, b :: l => bdB last b && okF b.t l
def okB (l : List Bd) : Bool := decide (0 < l.length) && decide (l.length ≤ 256) && okF (-1) l

def lastT (l : List Bd) : Int := match l.getLast? with | none => -1 | some b => b.t
theorem okF_append (last : Int) (l : List Bd) (b : Bd) : okF last (l ++ [b]) = (okF last l && bdB (match l.getLast? with | none => last | some b => b.t) b) := by
  induction l generalizing last with
  | nil => simp [okF]
  | cons a l ih =>
    rw [List.cons_append, okF, okF, ih, Bool.and_assoc]
    cases l with
    | nil => rfl
    | cons c l => rw [List.getLast?_cons_cons]; rfl
theorem lastT_snoc (l : List Bd) (b : Bd) : lastT (l ++ [b]) = b.t := by simp [lastT]
theorem take_snoc {α : Type} (l : List α) (k : Nat) (h : k < l.length) : l.take (k + 1) = l.take k ++ [l[k]] := by
  rw [List.take_succ_eq_append_getElem h]
theorem okF_take (l : List Bd) (k : Nat) (h : k < l.length) : okF (-1) (l.take (k + 1)) = (okF (-1) (l.take k) && bdB (lastT (l.take k)) l[k]) := by
  rw [take_snoc l k h, okF_append]; rfl
theorem okF_pre (last : Int) : ∀ (l : List Bd) (k : Nat), okF last l = true → okF last (l.take k) = true
  | [], k, _ => by simp [okF]
  | b :: l, 0, _ => rfl
  | b :: l, k + 1, h => by
    rw [List.take_succ_cons, okF]
    rw [okF, Bool.and_eq_true] at h
    rw [h.1, okF_pre b.t l k h.2]; rfl
end Go.Proofs.Ytfdaabdibpcjeaa
