/- swing.doors at this program. -/
import Derived.Test.YtfdaabdibpcjeaaSwing3
import Derived.Test.YtfdaabdibpcjeaaSeq
set_option linter.unusedSimpArgs false
set_option linter.unusedVariables false
namespace Go.Proofs.Ytfdaabdibpcjeaa
open Go.RowKit
attribute [local go_sem] Oper.semAt_some

/-- what has come when k rounds are over -/
def upto {α : Type} (f : Nat → α) (k : Nat) : List α := (List.range k).map f
theorem upto_succ {α : Type} (f : Nat → α) (k : Nat) : upto f (k + 1) = upto f k ++ [f k] := by simp [upto, List.range_succ]
theorem upto_length {α : Type} (f : Nat → α) (k : Nat) : (upto f k).length = k := by simp [upto]

/-- the door behind the first k bands -/
def dk (l : List Bd) (k : Nat) : Dr := (l.take k).foldl drTake dr0
theorem dk_succ (l : List Bd) (k : Nat) (h : k < l.length) : dk l (k + 1) = drTake (dk l k) l[k] := by
  unfold dk
  rw [take_snoc l k h, List.foldl_append]; rfl
theorem dk_many (l : List Bd) (k : Nat) (h : k ≤ l.length) : (dk l k).many = k := by
  induction k with
  | zero => rfl
  | succ k ih =>
    rw [dk_succ l k h]
    have := ih (by omega)
    unfold drTake
    split
    · show (1 : Int) = _
      omega
    · show (dk l k).many + 1 = _
      rw [this]; omega
theorem dk_at (l : List Bd) (h : okF (-1) l = true) (hl : l.length ≤ 256) (k : Nat) (hk : k ≤ l.length) : DrAt (dk l k) (lastT (l.take k)) ∧ (0 < k → DrOk (dk l k) (lastT (l.take k))) := by
  induction k with
  | zero => exact ⟨.inl ⟨rfl, rfl⟩, fun h => absurd h (by omega)⟩
  | succ k ih =>
    have h1 := okF_pre (-1) l (k + 1) h
    rw [okF_take l k hk, Bool.and_eq_true] at h1
    have h2 := (ih (by omega)).1.next h1.2 (by rw [dk_many l k (by omega)]; omega)
    rw [dk_succ l k hk, take_snoc l k hk, lastT_snoc]
    exact ⟨.inr h2, fun _ => h2⟩
def dl (l : List Bd) (k : Nat) : Dr × Bool := (dk l (k + 1), drOpen (dk l (k + 1)))
def encD (x : Dr × Bool) : Array Value := #[.agg x.1.cs, .bool x.2]

set_option maxRecDepth 100000 in
theorem swing_doors (A : Option Addr) (n c : Nat) (w : World) :
    Calls Try.prog 62 #[.slice A n c] w fun e w' => e = .returned (.func (Fn.func 84) #[] #[.pointer (some ⟨w.heap.size, 0, none⟩)]) ∧ w' = w.alloc (.cells #[.slice A n c] 24) := by
  go_enter Try.func62, Try.ntmps62
  go_wp2
  go_ret
  exact ⟨rfl, rfl⟩

set_option maxRecDepth 100000 in
set_option maxHeartbeats 2000000 in
theorem doors_seq (Bs c : Nat) (A : Option Addr) (l : List Bd) (hok : okF (-1) l = true) (hl : l.length ≤ 256) (w : World) (hBs : w.heap[Bs]? = some (.cells #[.slice A l.length c] 24 (0, 0))) (h0 : 0 < l.length) :
    SeqU Try.prog 84 #[.pointer (some ⟨Bs, 0, none⟩)] encD (fun W => BR W A c l) (fun xs => xs = upto (dl l) l.length) (fun pre => ∃ k, k < l.length ∧ pre = upto (dl l) (k + 1)) l.length w := by
  intro l' J Jx W hW hl' hJ hJx hJr hY hJ0
  have hB := (hW.block _ (rcell hBs).2.2).trans hBs
  obtain ⟨g, o, cur, rfl, hg, -⟩ := (hJr _ _ hJ0).mem h0
  have zB := (rcell hB).1 0
  have zlt := (rcell hB).2.2
  simp at zB
  refine callsIn_of_wp Try.func84 rfl trivial ?_ rfl
  simp only [Try.ntmps84, List.size_toArray, List.length_cons, List.length_nil, Nat.reduceAdd, Nat.reduceSub, Array.replicate_succ, Array.replicate_zero, List.push_toArray, List.append_toArray, List.nil_append, List.cons_append]
  have hmf : ∀ (fn : Fn) (first cap : Array Value) (w : World), (Instr.makeFunc fn first cap).run Try.prog w = .ok (.func fn first cap) w := fun _ _ _ _ => rfl
  gi_wp2
  gi_loopw [11] (fun vi wr => ∃ k : Nat, vi = .int .i64 k ∧ k ≤ l.length ∧ wr.heap[W.heap.size]? = some (.cells (dk l k).cs 72 (0, 0)) ∧ J (upto (dl l) k) wr) (fun vi _ => l.length - (intOf vi).toNat)
  case atStart => exact ⟨0, rfl, by omega, na W _ _, hJ [] _ _ hJ0 (bA (b0 W) _)⟩
  case round =>
    obtain ⟨k, rfl, hk, hd, hj⟩ := hrel
    by_cases hlt : k < l.length
    · obtain ⟨g', o', e', z1, z2, z3⟩ := (hJr _ _ hj).at_ hlt
      obtain ⟨rfl, rfl⟩ : g = g' ∧ o = o' := by injection e' with e'; injection e' with e1 e2; exact ⟨e1, e2⟩
      clear e'
      have ht := okF_take l k hlt
      rw [okF_pre (-1) l (k + 1) hok] at ht
      have hbd : bdB (lastT (l.take k)) l[k] = true := by
        cases e : bdB (lastT (l.take k)) l[k]
        · rw [e, Bool.and_false] at ht; cases ht
        · rfl
      have hat := (dk_at l hok hl k hk).1
      have ct := fun w hw => door_take W.heap.size (dk l k) _ _ hat hbd w hw
      clear ht hbd hat
      have ed := dk_succ l k hlt
      rw [← ed] at ct
      have hYk := hY (upto (dl l) k) (dl l k)
      rw [← upto_succ] at hYk
      have ezl : encD (dl l k) = #[.agg (dk l (k + 1)).cs, .bool (drOpen (dk l (k + 1)))] := rfl
      rw [ezl] at hYk
      clear ezl ed
      generalize hgen : dk l (k + 1) = d' at *
      have HG := hide hgen
      clear hgen
      generalize l[k] = b at *
      obtain ⟨bt, bl, bh⟩ := b
      simp only at z1 z2 z3 ct
      gi_wp2
      refine ⟨trivial, (callsIn_wide.2 (ct _ (ka hd _))).mono ?_⟩
      rintro e w1 ⟨rfl, hx1, hd1⟩
      have hd2 : w1.heap[W.heap.size]? = some (.cells #[.int .i64 d'.t, .int .i64 d'.v, .int .i64 d'.n0, .int .i64 d'.d0, .int .i64 d'.n1, .int .i64 d'.d1, .int .i64 d'.many] 72 (0, 0)) := hd1
      have lD := (rcell hd).2.2
      have hlow : Below W.heap.size wr w1 := ((b0 wr).mono (Nat.le_of_lt lD) |>.alloc (Nat.le_of_lt lD) _).trans hx1.low
      have hj1 := hJ _ _ _ hj hlow
      have hsz : W.heap.size ≤ w1.heap.size := Nat.le_trans (Nat.le_of_lt lD) hlow.size
      obtain ⟨fn, tmps, assign, body, hy, hR⟩ := hYk w1 hj1 hsz (by rw [upto_length]; exact hlt)
      clear hYk ct z1 z2 z3 hj1
      obtain ⟨zd, -, lD1⟩ := rcell hd2
      have ec : d'.cs = #[.int .i64 d'.t, .int .i64 d'.v, .int .i64 d'.n0, .int .i64 d'.d0, .int .i64 d'.n1, .int .i64 d'.d1, .int .i64 d'.many] := rfl
      rw [ec] at hy
      clear ec
      gi_wp2
      refine hR.mono ?_
      clear hR hy
      rintro e W3 (⟨rfl, hj3, hu3⟩ | ⟨rfl, hjx3⟩)
      · have hd3 := ku hu3 hd1 (Nat.le_refl _)
        gi_wp2
        go_roundw
        case rel => exact ⟨k + 1, by go_num, by omega, by rw [HG.out]; exact hd3, hj3⟩
        case measure => simp [intOf]; omega
      · gi_wp2
        refine bodyPost_ret (results_none rfl _ _ _) rfl ⟨⟨_, rfl⟩, .inr ⟨_, ⟨k, hlt, rfl⟩, hjx3⟩⟩
    · obtain rfl : k = l.length := by omega
      clear hY
      gi_wp2
      go_end0
      exact ⟨⟨_, rfl⟩, .inl ⟨_, rfl, hj⟩⟩
end Go.Proofs.Ytfdaabdibpcjeaa
