/- yearbookref01 at this program: less, made, plus, minus. -/
import Derived.Test.YtfdaabdibpcjeaaRef1
import Derived.Deep.QuietTactic
import Derived.BigQuiet
set_option linter.unusedSimpArgs false
set_option linter.unusedVariables false
namespace Go.Proofs.Ytfdaabdibpcjeaa
open Go.RowKit

theorem bN {w W : World} (h : Below w.heap.size w W) (n : Nat) : Below w.heap.size w (W.drewN n) := by
  induction n with
  | zero => exact h
  | succ n ih => exact ih.drew

/-- from the top on the first digits that differ tell -/
theorem less_at {a b : List Nat} (ha : Bin a) (hb : Bin b) (hl : a.length = b.length) (j : Nat) (hj : j < a.length) (he : a.drop (j + 1) = b.drop (j + 1)) (hn : a[j] ≠ b[j]) : (bv a < bv b ↔ a[j] < b[j]) := by
  have h1 := bv_split a j (by omega)
  have h2 := bv_split b j (by omega)
  have h3 := bv_drop a j hj
  have h4 := bv_drop b j (by omega)
  have h5 := bv_lt (ha.take j)
  have h6 := bv_lt (hb.take j)
  rw [List.length_take, Nat.min_eq_left (by omega)] at h5 h6
  rw [he] at h3
  have g1 := ha.get hj
  have g2 := hb.get (k := j) (by omega)
  generalize bv (b.drop (j + 1)) = D at *
  rw [h3] at h1
  rw [h4] at h2
  generalize a[j] = x at *
  generalize b[j] = y at *
  rw [h1, h2]
  rcases (show x = 0 ∧ y = 1 ∨ x = 1 ∧ y = 0 by omega) with ⟨rfl, rfl⟩ | ⟨rfl, rfl⟩
  · simp only [Nat.mul_add, Nat.mul_zero, Nat.mul_one]; omega
  · simp only [Nat.mul_add, Nat.mul_zero, Nat.mul_one]; omega

set_option maxRecDepth 100000 in
set_option maxHeartbeats 1000000 in
theorem ref_less (x y : Nat) (A B : Option Addr) (c d : Nat) (hx : (sz x).length ≤ 4096) (hy : (sz y).length ≤ 4096) (w : World) (ha : Rd w A c (sz x)) (hb : Rd w B d (sz y)) :
    Calls Try.prog 75 #[.slice A (sz x).length c, .slice B (sz y).length d] w fun e w' => e = .returned (.bool (decide (x < y))) ∧ Below w.heap.size w w' := by
  obtain ⟨a, ea⟩ : ∃ a, a = sz x := ⟨_, rfl⟩
  obtain ⟨b, eb⟩ : ∃ b, b = sz y := ⟨_, rfl⟩
  have vx : bv a = x := by rw [ea, bv_sz]
  have vy : bv b = y := by rw [eb, bv_sz]
  have ba : Bin a := by rw [ea]; exact Bin.sz x
  have bb : Bin b := by rw [eb]; exact Bin.sz y
  by_cases hlen : a.length = b.length
  · have HX := hide vx
    have HY := hide vy
    rw [← ea] at hx ha ⊢
    rw [← eb] at hy hb ⊢
    clear ea eb vx vy
    obtain ⟨n, hn⟩ : ∃ n, n = a.length := ⟨_, rfl⟩
    have hn2 : n = b.length := by omega
    rw [← hn] at hx ⊢
    rw [← hn2] at hy ⊢
    have HN := hide hn
    have HN2 := hide hn2
    clear hn hn2 hlen
    go_enter Try.func75, Try.ntmps75
    go_wp2
    go_loopw [5] (fun vi wr => ∃ (k : Nat) (i : Int), vi = .int .i64 i ∧ i = (k : Int) - 1 ∧ k ≤ n ∧ Hid (a.drop k = b.drop k) ∧ Below w.heap.size w wr) (fun vi _ => (intOf vi + 1).toNat)
    case atStart => exact ⟨n, _, rfl, rfl, Nat.le_refl _, by rw [Hid, List.drop_eq_nil_of_le (by rw [HN.out]; exact Nat.le_refl _), List.drop_eq_nil_of_le (by rw [HN2.out]; exact Nat.le_refl _)], b0 w⟩
    case round =>
      obtain ⟨k, i, rfl, hi, hk, he, hb0⟩ := hrel
      by_cases h0 : k = 0
      · subst h0
        obtain rfl : i = -1 := by omega
        clear hi
        go_wp2
        go_ret
        have e2 : a = b := he.out
        refine ⟨?_, hb0⟩
        rw [← HX.out, ← HY.out, e2]
        simp
      · obtain ⟨j, rfl⟩ : ∃ j, k = j + 1 := ⟨k - 1, by omega⟩
        obtain rfl : i = (j : Int) := by omega
        clear hi
        have hja : j < a.length := by rw [← HN.out]; omega
        have hjb : j < b.length := by rw [← HN2.out]; omega
        obtain ⟨ga, rfl, hca⟩ := (ha.below hb0).at_ (k := j) hja
        obtain ⟨gb, rfl, hcb⟩ := (hb.below hb0).at_ (k := j) hjb
        have K1 := ba.get hja
        have K2 := bb.get hjb
        by_cases h1 : a[j] = b[j]
        · have hq : ((a[j] : Int) != (b[j] : Int)) = false := by simp [h1]
          have HE := hide (show a.drop j = b.drop j by rw [List.drop_eq_getElem_cons hja, List.drop_eq_getElem_cons hjb, h1, he.out])
          generalize a[j] = p at *
          generalize b[j] = q at *
          go_wp2
          go_quiet (fail)
          go_wp2
          go_roundw
          case rel => exact ⟨j, _, rfl, rfl, by omega, HE, bN hb0 _⟩
          case measure => simp [intOf]
        · have hq : ((a[j] : Int) != (b[j] : Int)) = true := by simp; omega
          have HE := hide (less_at ba bb (by rw [← HN.out, ← HN2.out]) j hja he.out h1)
          rw [HX.out, HY.out] at HE
          generalize a[j] = p at *
          generalize b[j] = q at *
          go_wp2
          go_quiet (fail)
          go_wp2
          go_quiet (fail)
          go_wp2
          go_ret
          refine ⟨?_, bN (bN hb0 _) _⟩
          have : decide (p < q) = decide (x < y) := decide_eq_decide.2 HE.out.symm
          rw [← this]; rfl
  · have hd : decide (a.length < b.length) = decide (x < y) := by
      refine decide_eq_decide.2 ?_
      rw [ea, eb]
      rw [ea, eb] at hlen
      constructor
      · exact sz_len_cmp
      · intro h
        by_cases hc : (sz x).length < (sz y).length
        · exact hc
        · have := sz_len_cmp (a := y) (b := x) (by omega)
          omega
    rw [← ea] at hx ha ⊢
    rw [← eb] at hy hb ⊢
    rw [← hd]
    clear hd ea eb vx vy
    generalize a.length = n at *
    generalize b.length = m at *
    have hq : ((n : Int) != (m : Int)) = true := by simp; omega
    go_enter Try.func75, Try.ntmps75
    go_wp2
    go_ret
    exact ⟨by simp, b0 w⟩
end Go.Proofs.Ytfdaabdibpcjeaa
