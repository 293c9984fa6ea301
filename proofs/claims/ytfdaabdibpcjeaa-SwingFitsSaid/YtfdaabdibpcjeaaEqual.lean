/- slices.Equal of ints at this program. -/
import Derived.Test.YtfdaabdibpcjeaaSwing10
set_option linter.unusedSimpArgs false
set_option linter.unusedVariables false
namespace Go.Proofs.Ytfdaabdibpcjeaa
open Go.RowKit

theorem results_tmp1' {fn : Func} {t : Tmp} (h : fn.results = #[.tmp t]) (tmps : Array Value) (P : Program) (w : World) : (results fn tmps).run P w = .ok (tmps.getD t undef) w := by simp [results, h]

set_option maxRecDepth 100000 in
theorem equal_int_len (A B : Option Addr) (c d n m : Nat) (hne : n ≠ m) (w : World) :
    Calls Try.prog 22 #[.slice A n c, .slice B m d] w fun e w' => e = .returned (.bool false) ∧ Below w.heap.size w w' := by
  have n1 : ((n : Int) != (m : Int)) = true := by simp; omega
  go_enter Try.func22, Try.ntmps22
  go_wp2
  go_ret
  exact ⟨rfl, b0 w⟩

set_option maxRecDepth 100000 in
set_option maxHeartbeats 1000000 in
theorem equal_int_in (A B : Option Addr) (c d : Nat) (xs ys : List Nat) (hlen : xs.length = ys.length) (h0 : 0 < xs.length) (hm : xs.length ≤ 100000) (E : Bool) (hE : Hid (decide (xs = ys) = E)) (w : World) (hR : Rd w A c xs) (hS : Rd w B d ys) :
    Calls Try.prog 22 #[.slice A xs.length c, .slice B ys.length d] w fun e w' => e = .returned (.bool E) ∧ Below w.heap.size w w' := by
  obtain ⟨g, cur, rfl, hg, hc⟩ := hR.mem h0
  obtain ⟨g', cur', rfl, hg', hc'⟩ := hS.mem (by omega)
  rw [← hlen]
  have HC := hide hc
  have HC' := hide hc'
  have HL := hide hlen
  clear hc hc' hR hS hlen
  go_enter Try.func22, Try.ntmps22
  obtain ⟨zg_a, zg_b, lg0⟩ := rcell hg
  obtain ⟨zh_a, zh_b, lh0⟩ := rcell hg'
  go_wp2_with fail
  go_loopw [13] (fun vi wr => ∃ k : Nat, vi = .int .i64 k ∧ k ≤ xs.length ∧ Hid (xs.take k = ys.take k) ∧ wr.heap[g]? = some (.cells cur 3 (0, 0)) ∧ wr.heap[g']? = some (.cells cur' 3 (0, 0)) ∧ Below w.heap.size w wr) (fun vi _ => xs.length - (intOf vi).toNat)
  case atStart => exact ⟨0, rfl, by omega, hide rfl, (hg), (hg'), (b0 w)⟩
  case round =>
    obtain ⟨k, rfl, hk, hT, j1, j2, hb⟩ := hrel
    by_cases hlt : k < xs.length
    · have hlt' : k < ys.length := by rw [← HL.out]; exact hlt
      have q1 := HC.out k hlt
      have q2 := HC'.out k hlt'
      have T1 := hide (take_snoc xs k hlt)
      have T2 := hide (take_snoc ys k hlt')
      have HX := hide (show xs[k]? = some xs[k] by simp)
      have HY := hide (show ys[k]? = some ys[k] by simp)
      generalize xs[k] = x at *
      generalize ys[k] = y at *
      clear hlt'
      obtain ⟨zg_a, zg_b, lg1⟩ := rcell j1
      obtain ⟨zh_a, zh_b, lh2⟩ := rcell j2
      go_wp2_with fail
      refine Abs.wp_region_abs (Abs.cls0 _) [0, 1, 2, 3, 4, 5, 6, 7, 8] (by kernel_rfl) (by kernel_rfl) (Below.refl _ _).drew ?_
      repeat (first | (refine Abs.step_pure rfl rfl (fun K hK => ?_); go_simp; (try go_bits); (first | refine hK _ _ ?_ | (simp only [↓IntWalk.iteOmega]; go_simp; (try go_bits); refine hK _ _ ?_)); clear hK K) | (refine Abs.step_load (v := ?_) rfl rfl (by kernel_rfl) rfl (fun w0 hI => ?_) (fun K hK => ?_); rotate_left; (· have z0 := (rcell (kp hI (j1))).1; have z1 := (rcell (kp hI (j2))).1; go_simp; rfl); (simp only [Act.put, List.setIfInBounds_toArray, List.set_cons_zero, List.set_cons_succ]; refine hK _ _ ?_; clear hK K)) | (refine Abs.step_skip rfl rfl (fun K hK => ?_); (simp only [Act.put, List.setIfInBounds_toArray, List.set_cons_zero, List.set_cons_succ]; refine hK _ _ ?_; clear hK K)))
      intro w4 hb4 hx0 hx1 hx2
      clear hx0 hx1 hx2
      simp only [Abs.T_setF, Abs.T_addA, Abs.T_push, Abs.T_start]
      have f_g4 := kp hb4 (j1)
      have f_h4 := kp hb4 (j2)
      have hB4 := bB hb hb4
      clear zg_a zg_b zh_a zh_b
      obtain ⟨zg_a, zg_b, lg4⟩ := rcell f_g4
      obtain ⟨zh_a, zh_b, lh4⟩ := rcell f_h4
      cases q : ((x : Int) != (y : Int))
      · have hxy : x = y := by simp at q; omega
        have HT2 : Hid (xs.take (k + 1) = ys.take (k + 1)) := hide (by rw [T1.out, T2.out, hT.out, hxy])
        clear hxy
        go_wp2
        go_roundw
        case rel => exact ⟨k + 1, by go_num, by omega, HT2, (f_g4), (f_h4), hB4⟩
        case measure => simp [intOf]; omega
      · have hxy : ¬ x = y := by simp at q; omega
        have e : E = false := by
          rw [← hE.out, decide_eq_false_iff_not]
          intro e
          have h1 := HX.out
          have h2 := HY.out
          rw [e, h2] at h1
          exact hxy (Option.some.inj h1).symm
        subst e
        clear hE hxy
        go_wp2
        go_ret
        exact ⟨rfl, hB4⟩
    · obtain rfl : k = xs.length := by omega
      have hT2 := hT.out
      rw [HL.out, List.take_length, ← HL.out, List.take_length] at hT2
      have e : E = true := by rw [← hE.out, decide_eq_true_iff]; exact hT2
      subst e
      clear hE hT2
      go_wp2
      go_ret
      exact ⟨rfl, hb⟩

theorem equal_int_nil (A B : Option Addr) (c d : Nat) (w : World) :
    Calls Try.prog 22 #[.slice A 0 c, .slice B 0 d] w fun e w' => e = .returned (.bool true) ∧ Below w.heap.size w w' := by
  go_enter Try.func22, Try.ntmps22
  go_wp2
  go_loopw [13] (fun vi wr => vi = .int .i64 0 ∧ Below w.heap.size w wr) (fun _ _ => 0)
  case atStart => exact ⟨rfl, b0 w⟩
  case round =>
    obtain ⟨rfl, hb⟩ := hrel
    go_wp2
    go_ret
    exact ⟨rfl, hb⟩

theorem equal_int (A B : Option Addr) (c d : Nat) (xs ys : List Nat) (hm : xs.length ≤ 100000) (w : World) (hR : Rd w A c xs) (hS : Rd w B d ys) :
    Calls Try.prog 22 #[.slice A xs.length c, .slice B ys.length d] w fun e w' => e = .returned (.bool (decide (xs = ys))) ∧ Below w.heap.size w w' := by
  by_cases hl : xs.length = ys.length
  · by_cases h0 : 0 < xs.length
    · exact equal_int_in A B c d xs ys hl h0 hm _ (hide rfl) w hR hS
    · obtain rfl : xs = [] := List.eq_nil_of_length_eq_zero (by omega)
      obtain rfl : ys = [] := List.eq_nil_of_length_eq_zero (by rw [← hl]; rfl)
      exact equal_int_nil A B c d w
  · rw [show decide (xs = ys) = false by rw [decide_eq_false_iff_not]; intro e; exact hl (by rw [e])]
    exact equal_int_len A B c d _ _ hl w
end Go.Proofs.Ytfdaabdibpcjeaa
