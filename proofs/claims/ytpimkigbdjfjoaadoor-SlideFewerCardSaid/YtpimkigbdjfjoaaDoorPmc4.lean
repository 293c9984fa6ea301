/- pmc.parts at this program. -/
import Derived.Test.YtpimkigbdjfjoaaDoorPmc3
import Derived.Test.YtpimkigbdjfjoaaDoorSeqB
import Derived.Test.YtpimkigbdjfjoaaDoorP8
import Derived.Test.YtpimkigbdjfjoaaDoorSlideQ
set_option linter.unusedSimpArgs false
set_option linter.unusedVariables false
namespace Go.Proofs.YtpimkigbdjfjoaaDoor
open Go.RowKit
attribute [local go_sem] Oper.semAt_some

theorem CoI.lets {l : List Bd} {n : Nat} {lo hi : Int} {so : Bool} (h : CoI l n lo hi so) (hn : 0 < n) : Lets (l.take n) := by
  rcases h with ⟨h, _⟩ | ⟨h1, h2, h3, h4⟩
  · omega
  · refine ⟨0, 1, by decide, fun a ha b hb => ?_⟩
    obtain ⟨i, hi, rfl⟩ := mem_bd ha
    obtain ⟨j, hj, rfl⟩ := mem_bd hb
    rw [List.length_take] at hi hj
    rw [bd_take (show i < n by omega), bd_take (show j < n by omega)]
    have := h4 i (by omega)
    have := h4 j (by omega)
    omega

set_option maxRecDepth 100000 in
theorem pmc_parts (A : Option Addr) (n c : Nat) (w : World) :
    Calls Tryd.prog 71 #[.slice A n c] w fun e w' => e = .returned (.func (Fn.func 99) #[] #[.pointer (some ⟨w.heap.size, 0, none⟩)]) ∧ w' = w.alloc (.cells #[.slice A n c] 22) := by
  go_enter Tryd.func71, Tryd.ntmps71
  go_wp2
  go_ret
  exact ⟨rfl, rfl⟩

def encP (x : Option Addr × Nat) : Array Value := #[.slice x.1 x.2 x.2]
/-- how many are left in the variable at a block -/
def leftAt (Bs : Nat) (w : World) : Nat := match w.cell? ⟨Bs, 0, none⟩ with
  | some v => lenS v
  | none => 0

theorem leftAt_of {Bs n c : Nat} {A : Option Addr} {t : TypeId} {w : World} (h : w.heap[Bs]? = some (.cells #[.slice A n c] t (0, 0))) : leftAt Bs w = n := by
  have := (rcell h).1 0
  simp at this
  unfold leftAt
  rw [this]
  rfl

set_option maxRecDepth 100000 in
set_option maxHeartbeats 2000000 in
theorem parts_seq (Bs c g : Nat) (cur : Array Value) (A : Option Addr) (l : List Bd) (hok : okF (-1) l = true) (hl : l.length ≤ 256) (hst : ∀ X : World, X.heap[g]? = some (.cells cur 37 (0, 0)) → BR X A c l) (w : World) (hBs : w.heap[Bs]? = some (.cells #[.slice A l.length c] 22 (0, 0))) :
    SeqB Tryd.prog 99 #[.pointer (some ⟨Bs, 0, none⟩)] encP (fun W => W.heap[g]? = some (.cells cur 37 (0, 0))) (fun xs => Parts xs.length l) (fun _ => True) l.length Bs w := by
  intro l' J Jx W hW hl' hJ hJx hJr hJs hY hJ0
  have hB := (hW.block _ (rcell hBs).2.2).trans hBs
  have zlt := (rcell hB).2.2
  refine callsIn_of_wp Tryd.func99 rfl trivial ?_ rfl
  simp only [Tryd.ntmps99, List.size_toArray, List.length_cons, List.length_nil, Nat.reduceAdd, Nat.reduceSub, Array.replicate_succ, Array.replicate_zero, List.push_toArray, List.append_toArray, List.nil_append, List.cons_append]
  gi_wp2
  gi_loopw [4] (fun _ wr => ∃ (m : Nat) (pre : List (Option Addr × Nat)) (A' : Option Addr) (c' : Nat), m ≤ l.length ∧ wr.heap[Bs]? = some (.cells #[.slice A' (l.drop m).length c'] 22 (0, 0)) ∧ Hid (∀ X : World, X.heap[g]? = some (.cells cur 37 (0, 0)) → BR X A' c' (l.drop m)) ∧ Hid (pre.length ≤ m ∧ ∀ q, Parts q (l.drop m) → Parts (q + pre.length) l) ∧ W.heap.size ≤ wr.heap.size ∧ J pre wr) (fun _ wr => leftAt Bs wr)
  case atStart => exact ⟨0, [], A, c, by omega, hB, hide hst, hide ⟨Nat.le_refl _, fun q h => h⟩, Nat.le_refl _, hJ0⟩
  case round =>
    obtain ⟨m, pre, A', c', hm, hB', hs, hp, hsz, hj⟩ := hrel
    have hg := hJr _ _ hj
    have hR := hs.out _ hg
    have hl2 : (l.drop m).length ≤ 256 := by rw [List.length_drop]; omega
    have hok2 := okF_drop l (-1) (Int.le_refl _) hok m
    have hdd := fun k => List.drop_drop (l := l) (i := k) (j := m)
    have hml : (l.drop m).length = l.length - m := List.length_drop
    generalize l.drop m = r at *
    have HDD := hide hdd
    have HML := hide hml
    clear hdd hml
    obtain ⟨zB1, zB2, zB3⟩ := rcell hB'
    have zB := zB1 0
    simp at zB
    by_cases hd : 0 < r.length
    · have ct := fun w hR => pmc_longest A' c' r hok2 hl2 hd w hR
      have hcap := hR.cap
      clear hok2
      gi_wp2
      refine ⟨trivial, (callsIn_wide.2 (ct _ hR)).mono ?_⟩
      rintro e w1 ⟨n, lo, hi, so, rfl, hb1, hn⟩
      obtain ⟨n1, n2, n3⟩ := hn.out
      have hlets := n3.lets n1
      clear n3 ct zB zB1 zB2 zB3
      have hdrop : Hid (∀ X : World, X.heap[g]? = some (.cells cur 37 (0, 0)) → BR X (if c' = n then A' else A'.map (·.add (n * 3))) (c' - n) (r.drop n)) := hide fun X hX => (hs.out X hX).drop n n2 (hs.out X hX).cap (Nat.le_refl _)
      have hlow : Below wr.heap.size wr (w1.alloc (.cells #[.int .i64 lo, .int .i64 hi, .bool so] 150)) := bA hb1 _
      have hB1 := ka (kp hb1 hB') (.cells #[.int .i64 lo, .int .i64 hi, .bool so] 150)
      have hj1 := hJ _ _ _ hj hlow
      have hs1 := Nat.le_trans hsz hlow.size
      have hYk := hY pre (A', n) _ hj1 hs1 (by have := hp.out.1; have := HML.out; omega)
      have ezl : encP (A', n) = #[.slice A' n n] := rfl
      rw [ezl] at hYk
      obtain ⟨fn, tmps, assign, body, hy, hRR⟩ := hYk
      have hdl : (r.drop n).length = r.length - n := List.length_drop
      have hP : Hid ((pre ++ [(A', n)]).length ≤ m + n ∧ m + n ≤ l.length ∧ ∀ q, Parts q (l.drop (m + n)) → Parts (q + (pre ++ [(A', n)]).length) l) := hide ⟨by have := hp.out.1; simp; omega, by have := HML.out; omega, fun q hq => by
        have := hp.out.2 (q + 1) ⟨n, hlets, by rw [HDD.out]; exact hq⟩
        rw [List.length_append, show q + (pre.length + [(A', n)].length) = q + 1 + pre.length by simp; omega]
        exact this⟩
      have hdr := HDD.out n
      clear ezl hlets hJx
      obtain ⟨zB1, zB2, zB3⟩ := rcell hB1
      have zB := zB1 0
      simp at zB
      gi_wp2
      refine hRR.mono ?_
      clear hRR hy
      rintro e W3 (⟨rfl, hj3, hu3, hbs3⟩ | ⟨rfl, hjx3⟩)
      · have hB3 := hbs3.trans hB1
        have hs3 := Nat.le_trans hs1 hu3
        clear zB zB1 zB2 zB3 hB1
        obtain ⟨zB1, zB2, zB3⟩ := rcell hB3
        have zB := zB1 0
        simp at zB
        by_cases hcn : c' = n
        · have hD := hdrop.out
          rw [if_pos hcn, hcn, Nat.sub_self] at hD
          have HD := hide hD
          clear hD hdrop
          gi_wp2
          rw [row1 hB3]
          generalize hT4 : setRow W3 _ _ = W4
          obtain ⟨hx4, hB4⟩ := fin_x (b0 _) hB3 hT4
          have hj4 := hJs _ _ _ hj3 hx4
          go_roundw
          case rel => exact ⟨m + n, _, _, _, hP.out.2.1, by rw [← hdr, hdl]; exact hB4, hide (by rw [← hdr]; exact HD.out), hide ⟨hP.out.1, hP.out.2.2⟩, Nat.le_trans hs3 hx4.size, hj4⟩
          case measure => rw [leftAt_of hB4, leftAt_of hB']; omega
        · have hD := hdrop.out
          rw [if_neg hcn] at hD
          have HD := hide hD
          clear hD hdrop
          gi_wp2
          rw [row1 hB3]
          generalize hT4 : setRow W3 _ _ = W4
          obtain ⟨hx4, hB4⟩ := fin_x (b0 _) hB3 hT4
          have hj4 := hJs _ _ _ hj3 hx4
          go_roundw
          case rel => exact ⟨m + n, _, _, _, hP.out.2.1, by rw [← hdr, hdl]; exact hB4, hide (by rw [← hdr]; exact HD.out), hide ⟨hP.out.1, hP.out.2.2⟩, Nat.le_trans hs3 hx4.size, hj4⟩
          case measure => rw [leftAt_of hB4, leftAt_of hB']; omega
      · gi_wp2
        refine bodyPost_ret (results_none rfl _ _ _) rfl ⟨⟨_, rfl⟩, .inr ⟨_, trivial, hjx3⟩⟩
    · obtain rfl : r = [] := List.eq_nil_of_length_eq_zero (by omega)
      have hfin : Parts pre.length l := by
        have := hp.out.2 0 rfl
        rwa [Nat.zero_add] at this
      clear hY
      gi_wp2
      go_end0
      exact ⟨⟨_, rfl⟩, .inl ⟨_, hfin, hj⟩⟩
end Go.Proofs.YtpimkigbdjfjoaaDoor
