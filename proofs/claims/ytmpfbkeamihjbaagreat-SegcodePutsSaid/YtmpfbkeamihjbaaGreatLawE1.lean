/- slices.Equal of runs and of int64, seg.Same, of whatever two; bytes.HasPrefix at this program. -/
import Derived.Test.YtmpfbkeamihjbaaGreatLawB1
import Derived.Test.YtmpfbkeamihjbaaGreatQ2
set_option linter.unusedSimpArgs false
set_option linter.unusedVariables false
namespace Go.Proofs.YtmpfbkeamihjbaaGreat
open Go.RowKit
attribute [local go_sem] Oper.semAt_some

set_option maxRecDepth 100000 in
set_option maxHeartbeats 1000000 in
theorem equal_long_ne (A B : Option Addr) (c d n : Nat) (xs ys : List Int) (hl : xs.length = n) (hl' : ys.length = n) (hne : xs ≠ ys) (w : World) (hR : VR w A c xs) (hS : VR w B d ys) :
    Calls Tryz.prog 51 #[.slice A n c, .slice B n d] w fun e w' => e = .returned (.bool false) ∧ Below w.heap.size w w' := by
  by_cases h0 : 0 < n
  · obtain ⟨g, o, cur, rfl, hg, hc⟩ := hR.mem (by omega)
    obtain ⟨g', o', cur', rfl, hg', hc'⟩ := hS.mem (by omega)
    have hcap := hR.cap
    have hcap' := hS.cap
    rw [hl] at hcap
    rw [hl'] at hcap'
    have HC := hide hc
    have HC' := hide hc'
    have HL := hide hl
    have HL' := hide hl'
    have htop := hR.top
    have htop' := hS.top
    have HN := hide hne
    clear hc hc' hR hS hl hl' hne
    go_enter Tryz.func51, Tryz.ntmps51
    obtain ⟨zg_a, zg_b, lg0⟩ := rcell hg
    obtain ⟨zh_a, zh_b, lh0⟩ := rcell hg'
    go_wp2_with fail
    go_loopw [13] (fun vi wr => ∃ k : Nat, vi = .int .i64 k ∧ k ≤ n ∧ Hid (xs.take k = ys.take k) ∧ wr.heap[g]? = some (.cells cur 2 (0, 0)) ∧ wr.heap[g']? = some (.cells cur' 2 (0, 0)) ∧ Below w.heap.size w wr) (fun vi _ => n - (intOf vi).toNat)
    case atStart => exact ⟨0, rfl, by omega, hide rfl, (hg), (hg'), (b0 w)⟩
    case round =>
      obtain ⟨k, rfl, hk, hp, j1, j2, hb⟩ := hrel
      by_cases hlt : k < n
      · have k1 : k < xs.length := by rw [HL.out]; exact hlt
        have k2 : k < ys.length := by rw [HL'.out]; exact hlt
        have q1 := HC.out k k1
        have q2 := HC'.out k k2
        have hp' : Hid (xs[k] = ys[k] → xs.take (k + 1) = ys.take (k + 1)) := hide fun e => by
          rw [List.take_add_one, List.take_add_one, hp.out, List.getElem?_eq_getElem k1, List.getElem?_eq_getElem k2, e]
        have hp2 : Hid (xs[k] = ys[k] → k + 1 = n → False) := hide fun e e2 => HN.out (by
          have := hp'.out e
          rwa [List.take_of_length_le (by rw [HL.out]; omega), List.take_of_length_le (by rw [HL'.out]; omega)] at this)
        generalize xs[k] = x at *
        generalize ys[k] = y at *
        clear k1 k2
        by_cases hxy : x = y
        · subst hxy
          have hxx : (x != x) = false := by simp
          obtain ⟨zg_a, zg_b, lg1⟩ := rcell j1
          obtain ⟨zh_a, zh_b, lh2⟩ := rcell j2
          go_wp2_with fail
          refine Abs.wp_region_abs (Abs.cls0 _) [0, 1, 2, 3, 4, 5, 6, 7, 8] (by kernel_rfl) (by kernel_rfl) (Below.refl _ _).drew ?_
          repeat (first | (refine Abs.step_pure rfl rfl (fun K hK => ?_); go_simp; (try go_bits); (first | refine hK _ _ ?_ | (simp only [↓IntWalk.iteOmega]; go_simp; (try go_bits); refine hK _ _ ?_)); clear hK K) | (refine Abs.step_load (v := ?_) rfl rfl (by kernel_rfl) rfl (fun w0 hI => ?_) (fun K hK => ?_); rotate_left; (· have z0 := (rcell (kp hI (j1))).1; have z1 := (rcell (kp hI (j2))).1; go_simp; rfl); (simp only [Act.put, List.setIfInBounds_toArray, List.set_cons_zero, List.set_cons_succ]; refine hK _ _ ?_; clear hK K)) | (refine Abs.step_skip rfl rfl (fun K hK => ?_); (simp only [Act.put, List.setIfInBounds_toArray, List.set_cons_zero, List.set_cons_succ]; refine hK _ _ ?_; clear hK K)))
          intro w4 hb4 hx0 hx1 hx2
          clear hx0 hx1 hx2
          simp only [Abs.T_setF, Abs.T_addA, Abs.T_push, Abs.T_start]
          have f_g4 := kp hb4 (j1)
          have f_h4 := kp hb4 (j2)
          have hB4 := bB hb hb4
          clear zg_a zg_b zh_a zh_b
          obtain ⟨zg_a, zg_b, lg4⟩ := rcell f_g4
          obtain ⟨zh_a, zh_b, lh4⟩ := rcell f_h4
          go_wp2
          go_roundw
          case rel => exact ⟨k + 1, by go_num, by omega, hide (hp'.out (by trivial)), (f_g4), (f_h4), hB4⟩
          case measure => simp [intOf]; omega
        · have hxx : (x != y) = true := by simp [hxy]
          obtain ⟨zg_a, zg_b, lg5⟩ := rcell j1
          obtain ⟨zh_a, zh_b, lh6⟩ := rcell j2
          go_wp2_with fail
          refine Abs.wp_region_abs (Abs.cls0 _) [0, 1, 2, 3, 4, 5, 6, 7, 8] (by kernel_rfl) (by kernel_rfl) (Below.refl _ _).drew ?_
          repeat (first | (refine Abs.step_pure rfl rfl (fun K hK => ?_); go_simp; (try go_bits); (first | refine hK _ _ ?_ | (simp only [↓IntWalk.iteOmega]; go_simp; (try go_bits); refine hK _ _ ?_)); clear hK K) | (refine Abs.step_load (v := ?_) rfl rfl (by kernel_rfl) rfl (fun w0 hI => ?_) (fun K hK => ?_); rotate_left; (· have z0 := (rcell (kp hI (j1))).1; have z1 := (rcell (kp hI (j2))).1; go_simp; rfl); (simp only [Act.put, List.setIfInBounds_toArray, List.set_cons_zero, List.set_cons_succ]; refine hK _ _ ?_; clear hK K)) | (refine Abs.step_skip rfl rfl (fun K hK => ?_); (simp only [Act.put, List.setIfInBounds_toArray, List.set_cons_zero, List.set_cons_succ]; refine hK _ _ ?_; clear hK K)))
          intro w8 hb8 hx0 hx1 hx2
          clear hx0 hx1 hx2
          simp only [Abs.T_setF, Abs.T_addA, Abs.T_push, Abs.T_start]
          have f_g8 := kp hb8 (j1)
          have f_h8 := kp hb8 (j2)
          have hB8 := bB hb hb8
          clear zg_a zg_b zh_a zh_b
          obtain ⟨zg_a, zg_b, lg8⟩ := rcell f_g8
          obtain ⟨zh_a, zh_b, lh8⟩ := rcell f_h8
          go_wp2
          go_ret
          exact ⟨rfl, hB8⟩
      · obtain rfl : k = n := by omega
        exact (HN.out (by
          have := hp.out
          rwa [List.take_of_length_le (by rw [HL.out]; omega), List.take_of_length_le (by rw [HL'.out]; omega)] at this)).elim
  · exact (hne (by rw [List.eq_nil_of_length_eq_zero (l := xs) (by omega), List.eq_nil_of_length_eq_zero (l := ys) (by omega)])).elim

theorem equal_long_far (A B : Option Addr) (c d n m : Nat) (hnm : n ≠ m) (w : World) :
    Calls Tryz.prog 51 #[.slice A n c, .slice B m d] w fun e w' => e = .returned (.bool false) ∧ Below w.heap.size w w' := by
  have e1 : ((n : Int) != (m : Int)) = true := by simp; omega
  go_enter Tryz.func51, Tryz.ntmps51
  go_wp2
  go_ret
  exact ⟨rfl, (b0 w)⟩
theorem equal_longs (A B : Option Addr) (c d : Nat) (xs ys : List Int) (w : World) (hR : VR w A c xs) (hS : VR w B d ys) :
    Calls Tryz.prog 51 #[.slice A xs.length c, .slice B ys.length d] w fun e w' => e = .returned (.bool (decide (xs = ys))) ∧ Below w.heap.size w w' := by
  by_cases he : xs = ys
  · subst he
    rw [decide_eq_true rfl]
    exact equal_long A B c d xs w hR hS
  · rw [decide_eq_false he]
    by_cases hl : xs.length = ys.length
    · have := equal_long_ne A B c d xs.length xs ys rfl hl.symm he w hR hS
      rw [← hl]
      exact this
    · exact equal_long_far A B c d _ _ hl w

theorem run_eql3 (a b c a' b' c' : Int) (w : World) : (binOp .neq 46 (.agg #[.int .i64 a, .int .i64 b, .int .i64 c]) (.agg #[.int .i64 a', .int .i64 b', .int .i64 c'])).run Tryz.prog w = .ok (.bool (!(decide (a = a' ∧ b = b' ∧ c = c')))) w := by
  by_cases h1 : a = a' <;> by_cases h2 : b = b' <;> by_cases h3 : c = c'
  all_goals go_simp
set_option maxRecDepth 100000 in
set_option maxHeartbeats 1000000 in
theorem equal_run_ne (A B : Option Addr) (c d n : Nat) (xs ys : List Rn) (hl : xs.length = n) (hl' : ys.length = n) (hne : xs ≠ ys) (w : World) (hR : RR w A c xs) (hS : RR w B d ys) :
    Calls Tryz.prog 50 #[.slice A n c, .slice B n d] w fun e w' => e = .returned (.bool false) ∧ Below w.heap.size w w' := by
  by_cases h0 : 0 < n
  · obtain ⟨g, o, cur, rfl, hg, hc⟩ := hR.mem (by omega)
    obtain ⟨g', o', cur', rfl, hg', hc'⟩ := hS.mem (by omega)
    have hcap := hR.cap
    have hcap' := hS.cap
    rw [hl] at hcap
    rw [hl'] at hcap'
    have HC := hide hc
    have HC' := hide hc'
    have HL := hide hl
    have HL' := hide hl'
    have htop := hR.top
    have htop' := hS.top
    have HN := hide hne
    clear hc hc' hR hS hl hl' hne
    go_enter Tryz.func50, Tryz.ntmps50
    obtain ⟨zg_a, zg_b, lg0⟩ := rcell hg
    obtain ⟨zh_a, zh_b, lh0⟩ := rcell hg'
    go_wp2_with fail
    go_loopw [13] (fun vi wr => ∃ k : Nat, vi = .int .i64 k ∧ k ≤ n ∧ Hid (xs.take k = ys.take k) ∧ wr.heap[g]? = some (.cells cur 46 (0, 0)) ∧ wr.heap[g']? = some (.cells cur' 46 (0, 0)) ∧ Below w.heap.size w wr) (fun vi _ => n - (intOf vi).toNat)
    case atStart => exact ⟨0, rfl, by omega, hide rfl, (hg), (hg'), (b0 w)⟩
    case round =>
      obtain ⟨k, rfl, hk, hp, j1, j2, hb⟩ := hrel
      by_cases hlt : k < n
      · have k1 : k < xs.length := by rw [HL.out]; exact hlt
        have k2 : k < ys.length := by rw [HL'.out]; exact hlt
        obtain ⟨q1, q2, q3⟩ := HC.out k k1
        obtain ⟨p1, p2, p3⟩ := HC'.out k k2
        have hp' : Hid (xs[k] = ys[k] → xs.take (k + 1) = ys.take (k + 1)) := hide fun e => by
          rw [List.take_add_one, List.take_add_one, hp.out, List.getElem?_eq_getElem k1, List.getElem?_eq_getElem k2, e]
        have hp2 : Hid (xs[k] = ys[k] → k + 1 = n → False) := hide fun e e2 => HN.out (by
          have := hp'.out e
          rwa [List.take_of_length_le (by rw [HL.out]; omega), List.take_of_length_le (by rw [HL'.out]; omega)] at this)
        generalize xs[k] = x at *
        generalize ys[k] = y at *
        clear k1 k2
        by_cases hxy : x = y
        · subst hxy
          obtain ⟨zg_a, zg_b, lg1⟩ := rcell j1
          obtain ⟨zh_a, zh_b, lh2⟩ := rcell j2
          go_wp2_with fail
          refine Abs.wp_region_abs (Abs.cls0 _) [0, 1, 2, 3, 4, 5, 6, 7, 8] (by kernel_rfl) (by kernel_rfl) (Below.refl _ _).drew ?_
          repeat (first | (refine Abs.step_pure rfl rfl (fun K hK => ?_); go_simp; (try go_bits); (first | refine hK _ _ ?_ | (simp only [↓IntWalk.iteOmega]; go_simp; (try go_bits); refine hK _ _ ?_)); clear hK K) | (refine Abs.step_load (v := ?_) rfl rfl (by kernel_rfl) rfl (fun w0 hI => ?_) (fun K hK => ?_); rotate_left; (· have z0 := (rcell (kp hI (j1))).1; have z1 := (rcell (kp hI (j2))).1; go_simp; rfl); (simp only [Act.put, List.setIfInBounds_toArray, List.set_cons_zero, List.set_cons_succ]; refine hK _ _ ?_; clear hK K)) | (refine Abs.step_skip rfl rfl (fun K hK => ?_); (simp only [Act.put, List.setIfInBounds_toArray, List.set_cons_zero, List.set_cons_succ]; refine hK _ _ ?_; clear hK K)))
          intro w4 hb4 hx0 hx1 hx2
          clear hx0 hx1 hx2
          simp only [Abs.T_setF, Abs.T_addA, Abs.T_push, Abs.T_start]
          have f_g4 := kp hb4 (j1)
          have f_h4 := kp hb4 (j2)
          have hB4 := bB hb hb4
          clear zg_a zg_b zh_a zh_b
          obtain ⟨zg_a, zg_b, lg4⟩ := rcell f_g4
          obtain ⟨zh_a, zh_b, lh4⟩ := rcell f_h4
          go_wp2
          go_roundw
          case rel => exact ⟨k + 1, by go_num, by omega, hide (hp'.out (by trivial)), (f_g4), (f_h4), hB4⟩
          case measure => simp [intOf]; omega
        · have hxx : ¬ (x.f = y.f ∧ x.s = y.s ∧ x.n = y.n) := fun h => hxy (by cases x; cases y; simp_all)
          have hq := fun w => run_eql3 x.f x.s x.n y.f y.s y.n w
          rw [decide_eq_false hxx, Bool.not_false] at hq
          clear hxx
          obtain ⟨zg_a, zg_b, lg5⟩ := rcell j1
          obtain ⟨zh_a, zh_b, lh6⟩ := rcell j2
          go_wp2_with fail
          refine Abs.wp_region_abs (Abs.cls0 _) [0, 1, 2, 3, 4, 5, 6, 7, 8] (by kernel_rfl) (by kernel_rfl) (Below.refl _ _).drew ?_
          repeat (first | (refine Abs.step_pure rfl rfl (fun K hK => ?_); go_simp; (try go_bits); (first | refine hK _ _ ?_ | (simp only [↓IntWalk.iteOmega]; go_simp; (try go_bits); refine hK _ _ ?_)); clear hK K) | (refine Abs.step_load (v := ?_) rfl rfl (by kernel_rfl) rfl (fun w0 hI => ?_) (fun K hK => ?_); rotate_left; (· have z0 := (rcell (kp hI (j1))).1; have z1 := (rcell (kp hI (j2))).1; go_simp; rfl); (simp only [Act.put, List.setIfInBounds_toArray, List.set_cons_zero, List.set_cons_succ]; refine hK _ _ ?_; clear hK K)) | (refine Abs.step_skip rfl rfl (fun K hK => ?_); (simp only [Act.put, List.setIfInBounds_toArray, List.set_cons_zero, List.set_cons_succ]; refine hK _ _ ?_; clear hK K)))
          intro w8 hb8 hx0 hx1 hx2
          clear hx0 hx1 hx2
          simp only [Abs.T_setF, Abs.T_addA, Abs.T_push, Abs.T_start]
          have f_g8 := kp hb8 (j1)
          have f_h8 := kp hb8 (j2)
          have hB8 := bB hb hb8
          clear zg_a zg_b zh_a zh_b
          obtain ⟨zg_a, zg_b, lg8⟩ := rcell f_g8
          obtain ⟨zh_a, zh_b, lh8⟩ := rcell f_h8
          go_wp2
          go_ret
          exact ⟨rfl, hB8⟩
      · obtain rfl : k = n := by omega
        exact (HN.out (by
          have := hp.out
          rwa [List.take_of_length_le (by rw [HL.out]; omega), List.take_of_length_le (by rw [HL'.out]; omega)] at this)).elim
  · exact (hne (by rw [List.eq_nil_of_length_eq_zero (l := xs) (by omega), List.eq_nil_of_length_eq_zero (l := ys) (by omega)])).elim

theorem equal_run_far (A B : Option Addr) (c d n m : Nat) (hnm : n ≠ m) (w : World) :
    Calls Tryz.prog 50 #[.slice A n c, .slice B m d] w fun e w' => e = .returned (.bool false) ∧ Below w.heap.size w w' := by
  have e1 : ((n : Int) != (m : Int)) = true := by simp; omega
  go_enter Tryz.func50, Tryz.ntmps50
  go_wp2
  go_ret
  exact ⟨rfl, (b0 w)⟩
theorem equal_runss (A B : Option Addr) (c d : Nat) (xs ys : List Rn) (w : World) (hR : RR w A c xs) (hS : RR w B d ys) :
    Calls Tryz.prog 50 #[.slice A xs.length c, .slice B ys.length d] w fun e w' => e = .returned (.bool (decide (xs = ys))) ∧ Below w.heap.size w w' := by
  by_cases he : xs = ys
  · subst he
    rw [decide_eq_true rfl]
    exact equal_runs A B c d xs w hR hS
  · rw [decide_eq_false he]
    by_cases hl : xs.length = ys.length
    · have := equal_run_ne A B c d xs.length xs ys rfl hl.symm he w hR hS
      rw [← hl]
      exact this
    · exact equal_run_far A B c d _ _ hl w
end Go.Proofs.YtmpfbkeamihjbaaGreat
