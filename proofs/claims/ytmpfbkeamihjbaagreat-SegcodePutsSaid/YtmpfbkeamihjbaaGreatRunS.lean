/- yearbookref07.Same, Right at this program. -/
import Derived.Test.YtmpfbkeamihjbaaGreatR2
import Derived.Test.YtmpfbkeamihjbaaGreatQ7
import Derived.Test.YtmpfbkeamihjbaaGreatLawE1
set_option linter.unusedSimpArgs false
set_option linter.unusedVariables false
namespace Go.Proofs.YtmpfbkeamihjbaaGreat
open Go.RowKit
attribute [local go_sem] Oper.semAt_some

theorem ref07_Same_eq (A B : Option Addr) (c d : Nat) (l : List Rn) (w : World) (hR : RR w A c l) (hS : RR w B d l) :
    Calls Tryz.prog 40 #[.slice A l.length c, .slice B l.length d] w fun e w' => e = .returned (.bool true) ∧ Below w.heap.size w w' := by
  by_cases h0 : 0 < l.length
  · exact same_runs A B c d l h0 w hR hS
  · obtain rfl : l = [] := List.eq_nil_of_length_eq_zero (by omega)
    clear hR hS
    go_enter Tryz.func40, Tryz.ntmps40
    go_wp2_with fail
    refine wp_loop_rounds 1 ?_
    rw [rounds_succ]
    go_wp2
    go_ret
    exact ⟨rfl, b0 w⟩
set_option maxRecDepth 100000 in
set_option maxHeartbeats 1000000 in
theorem ref07_Same_ne (A B : Option Addr) (c d n : Nat) (xs ys : List Rn) (hl : xs.length = n) (hl' : ys.length = n) (hne : xs ≠ ys) (w : World) (hR : RR w A c xs) (hS : RR w B d ys) :
    Calls Tryz.prog 40 #[.slice A n c, .slice B n d] w fun e w' => e = .returned (.bool false) ∧ Below w.heap.size w w' := by
  by_cases h0 : 0 < n
  · obtain ⟨g, o, cur, rfl, hg, hc⟩ := hR.mem (by omega)
    obtain ⟨g', o', cur', rfl, hg', hc'⟩ := hS.mem (by omega)
    have hcap := hR.cap
    have hcap' := hS.cap
    rw [hl] at hcap
    rw [hl'] at hcap'
    have HC := hide hc
    have HC' := hide hc'
    have HL := hide hl
    have HL' := hide hl'
    have htop := hR.top
    have htop' := hS.top
    have HN := hide hne
    clear hc hc' hR hS hl hl' hne
    go_enter Tryz.func40, Tryz.ntmps40
    obtain ⟨zg_a, zg_b, lg0⟩ := rcell hg
    obtain ⟨zh_a, zh_b, lh0⟩ := rcell hg'
    go_wp2_with fail
    go_loopw [5] (fun vi wr => ∃ k : Nat, vi = .int .i64 k ∧ k ≤ n ∧ Hid (xs.take k = ys.take k) ∧ wr.heap[g]? = some (.cells cur 46 (0, 0)) ∧ wr.heap[g']? = some (.cells cur' 46 (0, 0)) ∧ Below w.heap.size w wr) (fun vi _ => n - (intOf vi).toNat)
    case atStart => exact ⟨0, rfl, by omega, hide rfl, (hg), (hg'), (b0 w)⟩
    case round =>
      obtain ⟨k, rfl, hk, hp, j1, j2, hb⟩ := hrel
      by_cases hlt : k < n
      · have k1 : k < xs.length := by rw [HL.out]; exact hlt
        have k2 : k < ys.length := by rw [HL'.out]; exact hlt
        obtain ⟨q1, q2, q3⟩ := HC.out k k1
        obtain ⟨p1, p2, p3⟩ := HC'.out k k2
        have hp' : Hid (xs[k] = ys[k] → xs.take (k + 1) = ys.take (k + 1)) := hide fun e => by
          rw [List.take_add_one, List.take_add_one, hp.out, List.getElem?_eq_getElem k1, List.getElem?_eq_getElem k2, e]
        have hp2 : Hid (xs[k] = ys[k] → k + 1 = n → False) := hide fun e e2 => HN.out (by
          have := hp'.out e
          rwa [List.take_of_length_le (by rw [HL.out]; omega), List.take_of_length_le (by rw [HL'.out]; omega)] at this)
        generalize xs[k] = x at *
        generalize ys[k] = y at *
        clear k1 k2
        by_cases hxy : x = y
        · subst hxy
          obtain ⟨zg_a, zg_b, lg1⟩ := rcell j1
          obtain ⟨zh_a, zh_b, lh2⟩ := rcell j2
          go_wp2_with fail
          refine Abs.wp_region_abs (Abs.cls0 _) [0, 1, 2, 3, 4, 5, 6, 7, 8] (by kernel_rfl) (by kernel_rfl) (Below.refl _ _).drew ?_
          repeat (first | (refine Abs.step_pure rfl rfl (fun K hK => ?_); go_simp; (try go_bits); (first | refine hK _ _ ?_ | (simp only [↓IntWalk.iteOmega]; go_simp; (try go_bits); refine hK _ _ ?_)); clear hK K) | (refine Abs.step_load (v := ?_) rfl rfl (by kernel_rfl) rfl (fun w0 hI => ?_) (fun K hK => ?_); rotate_left; (· have z0 := (rcell (kp hI (j1))).1; have z1 := (rcell (kp hI (j2))).1; go_simp; rfl); (simp only [Act.put, List.setIfInBounds_toArray, List.set_cons_zero, List.set_cons_succ]; refine hK _ _ ?_; clear hK K)) | (refine Abs.step_skip rfl rfl (fun K hK => ?_); (simp only [Act.put, List.setIfInBounds_toArray, List.set_cons_zero, List.set_cons_succ]; refine hK _ _ ?_; clear hK K)))
          intro w4 hb4 hx0 hx1 hx2
          clear hx0 hx1 hx2
          simp only [Abs.T_setF, Abs.T_addA, Abs.T_push, Abs.T_start]
          have f_g4 := kp hb4 (j1)
          have f_h4 := kp hb4 (j2)
          have hB4 := bB hb hb4
          clear zg_a zg_b zh_a zh_b
          obtain ⟨zg_a, zg_b, lg4⟩ := rcell f_g4
          obtain ⟨zh_a, zh_b, lh4⟩ := rcell f_h4
          go_wp2
          go_roundw
          case rel => exact ⟨k + 1, by go_num, by omega, hide (hp'.out (by trivial)), (f_g4), (f_h4), hB4⟩
          case measure => simp [intOf]; omega
        · have hxx : ¬ (x.f = y.f ∧ x.s = y.s ∧ x.n = y.n) := fun h => hxy (by cases x; cases y; simp_all)
          have hq := fun w => run_eql3 x.f x.s x.n y.f y.s y.n w
          rw [decide_eq_false hxx, Bool.not_false] at hq
          clear hxx
          obtain ⟨zg_a, zg_b, lg5⟩ := rcell j1
          obtain ⟨zh_a, zh_b, lh6⟩ := rcell j2
          go_wp2_with fail
          refine Abs.wp_region_abs (Abs.cls0 _) [0, 1, 2, 3, 4, 5, 6, 7, 8] (by kernel_rfl) (by kernel_rfl) (Below.refl _ _).drew ?_
          repeat (first | (refine Abs.step_pure rfl rfl (fun K hK => ?_); go_simp; (try go_bits); (first | refine hK _ _ ?_ | (simp only [↓IntWalk.iteOmega]; go_simp; (try go_bits); refine hK _ _ ?_)); clear hK K) | (refine Abs.step_load (v := ?_) rfl rfl (by kernel_rfl) rfl (fun w0 hI => ?_) (fun K hK => ?_); rotate_left; (· have z0 := (rcell (kp hI (j1))).1; have z1 := (rcell (kp hI (j2))).1; go_simp; rfl); (simp only [Act.put, List.setIfInBounds_toArray, List.set_cons_zero, List.set_cons_succ]; refine hK _ _ ?_; clear hK K)) | (refine Abs.step_skip rfl rfl (fun K hK => ?_); (simp only [Act.put, List.setIfInBounds_toArray, List.set_cons_zero, List.set_cons_succ]; refine hK _ _ ?_; clear hK K)))
          intro w8 hb8 hx0 hx1 hx2
          clear hx0 hx1 hx2
          simp only [Abs.T_setF, Abs.T_addA, Abs.T_push, Abs.T_start]
          have f_g8 := kp hb8 (j1)
          have f_h8 := kp hb8 (j2)
          have hB8 := bB hb hb8
          clear zg_a zg_b zh_a zh_b
          obtain ⟨zg_a, zg_b, lg8⟩ := rcell f_g8
          obtain ⟨zh_a, zh_b, lh8⟩ := rcell f_h8
          go_wp2
          go_ret
          exact ⟨rfl, hB8⟩
      · obtain rfl : k = n := by omega
        exact (HN.out (by
          have := hp.out
          rwa [List.take_of_length_le (by rw [HL.out]; omega), List.take_of_length_le (by rw [HL'.out]; omega)] at this)).elim
  · exact (hne (by rw [List.eq_nil_of_length_eq_zero (l := xs) (by omega), List.eq_nil_of_length_eq_zero (l := ys) (by omega)])).elim

theorem ref07_Same_far (A B : Option Addr) (c d n m : Nat) (hnm : n ≠ m) (w : World) :
    Calls Tryz.prog 40 #[.slice A n c, .slice B m d] w fun e w' => e = .returned (.bool false) ∧ Below w.heap.size w w' := by
  have e1 : ((n : Int) != (m : Int)) = true := by simp; omega
  go_enter Tryz.func40, Tryz.ntmps40
  go_wp2
  go_ret
  exact ⟨rfl, (b0 w)⟩
theorem ref07_Same (A B : Option Addr) (c d : Nat) (xs ys : List Rn) (w : World) (hR : RR w A c xs) (hS : RR w B d ys) :
    Calls Tryz.prog 40 #[.slice A xs.length c, .slice B ys.length d] w fun e w' => e = .returned (.bool (decide (xs = ys))) ∧ Below w.heap.size w w' := by
  by_cases he : xs = ys
  · subst he
    rw [decide_eq_true rfl]
    exact ref07_Same_eq A B c d xs w hR hS
  · rw [decide_eq_false he]
    by_cases hl : xs.length = ys.length
    · have := ref07_Same_ne A B c d xs.length xs ys rfl hl.symm he w hR hS
      rw [← hl]
      exact this
    · exact ref07_Same_far A B c d _ _ hl w

set_option maxRecDepth 100000 in
set_option maxHeartbeats 4000000 in
theorem ref07_Right (A : Option Addr) (c : Nat) (l : List Rn) (w : World) (hR : RR w A c l) :
    Calls Tryz.prog 32 #[.slice A l.length c] w fun e w' => e = .returned (.bool (rnB l)) ∧ Below w.heap.size w w' := by
  have cT := fun w hR => ref07_Times A c l w hR
  have hri := hide (right_iff l)
  go_enter Tryz.func32, Tryz.ntmps32
  go_wp2_with fail
  refine (cT _ hR).mono ?_
  rintro e wa ⟨B, d, n, rfl, hn, hv, ba⟩
  have ra := hR.below ba
  obtain rfl := hn.out
  have cR := fun w hR => ref07_Rising B d (tmR l) w hR
  cases hrs : rsB (tmR l)
  · rw [hrs] at cR
    have hres : Hid (rnB l = false) := hide (by rw [hri.out, hrs]; rfl)
    go_wp2_with fail
    refine (cR _ hv).mono ?_
    rintro e w1 ⟨rfl, hb1⟩
    have rd_l1 := ra.below hb1
    have rd_v1 := hv.below hb1
    have hB1 := bB ba hb1
    go_wp2
    go_ret
    exact ⟨by rw [hres.out] <;> rfl, hB1⟩
  · rw [hrs] at cR
    have hsp := hrs
    unfold rsB at hsp
    simp only [Bool.and_eq_true, decide_eq_true_eq] at hsp
    obtain ⟨a1, a2, a3⟩ := hsp
    have cO := fun w hR => ref07_Of B d (tmR l) a3 a1 a2 w hR
    go_wp2_with fail
    refine (cR _ hv).mono ?_
    rintro e w2 ⟨rfl, hb2⟩
    have rd_l2 := ra.below hb2
    have rd_v2 := hv.below hb2
    have hB2 := bB ba hb2
    go_wp2_with fail
    refine (cO _ rd_v2).mono ?_
    rintro e wc ⟨B3, d3, n3, rfl, hn3, hr3, bc⟩
    obtain rfl := hn3.out
    have cS := fun w hR hS => ref07_Same B3 A d3 c (ofT (tmR l)) l w hR hS
    have r3 := (rd_l2).below bc
    have bcc := bB hB2 bc
    go_wp2_with fail
    refine (cS _ hr3 r3).mono ?_
    rintro e w3 ⟨rfl, hb3⟩
    have rd_l3 := r3.below hb3
    have rd_v3 := hr3.below hb3
    have hB3 := bB bcc hb3
    go_wp2
    go_ret
    exact ⟨by rw [hri.out, hrs, Bool.true_and] <;> rfl, hB3⟩
end Go.Proofs.YtmpfbkeamihjbaaGreat
