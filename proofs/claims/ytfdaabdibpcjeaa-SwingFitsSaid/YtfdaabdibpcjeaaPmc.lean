/- pmc.Check at this program. -/
import Derived.Test.YtfdaabdibpcjeaaBand
import Derived.LoopTactic
set_option linter.unusedSimpArgs false
set_option linter.unusedVariables false
namespace Go.Proofs.Ytfdaabdibpcjeaa
open Go.RowKit

def chE (l : List Bd) : Int := if okB l = true then 0 else 180
theorem chE_no {l : List Bd} (h : okB l = false) : chE l = 180 := by unfold chE; rw [h]; rfl
theorem chE_yes {l : List Bd} (h : okB l = true) : chE l = 0 := by unfold chE; rw [h]; rfl
theorem okF_no {l : List Bd} (k : Nat) (hk : k < l.length) (h : okF (-1) (l.take (k + 1)) = false) : okF (-1) l = false := by
  cases e : okF (-1) l with
  | false => rfl
  | true => rw [okF_pre (-1) l (k + 1) e] at h; cases h

set_option maxRecDepth 100000 in
set_option maxHeartbeats 2000000 in
theorem pmc_Check_in (A : Option Addr) (c : Nat) (l : List Bd) (E : Int) (hE : Hid ((okF (-1) l = true → E = 0) ∧ (okF (-1) l = false → E = 180))) (h0 : 0 < l.length) (h1 : l.length ≤ 256) (w : World) (hR : BR w A c l) :
    Calls Try.prog 33 #[.slice A l.length c] w fun e w' => e = .returned (.int .i64 E) ∧ Below w.heap.size w w' := by
  obtain ⟨g, o, cur, rfl, hg, -⟩ := hR.mem h0
  have n0 : ((l.length : Int) == 0) = false := by rw [beq_eq_false_iff_ne]; omega
  have n1 : decide (256 < (l.length : Int)) = false := by rw [decide_eq_false_iff_not]; omega
  have c1 := pmc_back
  go_enter Try.func33, Try.ntmps33
  go_wp2_with fail
  go_loopw [3, 16] (fun va vi wr => ∃ k : Nat, vi = .int .i64 k ∧ k ≤ l.length ∧ va = .int .i64 (lastT (l.take k)) ∧ Hid (okF (-1) (l.take k) = true) ∧ Below w.heap.size w wr) (fun _ vi _ => l.length - (intOf vi).toNat)
  case atStart => exact ⟨0, rfl, by omega, rfl, hide rfl, b0 w⟩
  case round =>
    obtain ⟨k, rfl, hk, rfl, hok, hb⟩ := hrel
    by_cases hlt : k < l.length
    · obtain ⟨g', o', e', z1, z2, z3⟩ := (hR.below hb).at_ hlt
      obtain ⟨rfl, rfl⟩ : g = g' ∧ o = o' := by injection e' with e'; injection e' with e1 e2; exact ⟨e1, e2⟩
      clear e'
      have ht := okF_take l k hlt
      rw [hok.out, Bool.true_and] at ht
      have hno : Hid (bdB (lastT (l.take k)) l[k] = false → E = 180) := hide (fun h => hE.out.2 (okF_no k hlt (by rw [ht, h])))
      have hyes : Hid (bdB (lastT (l.take k)) l[k] = true → okF (-1) (l.take (k + 1)) = true ∧ lastT (l.take (k + 1)) = l[k].t) := hide (fun h => ⟨by rw [ht, h], by rw [take_snoc l k hlt, lastT_snoc]⟩)
      clear ht
      have hbd : Hid (bdB = fun last b => decide (last < b.t) && decide (b.t ≤ 281474976710656) && decide (b.lo ≤ b.hi) && bkB b.lo && bkB b.hi) := hide rfl
      generalize l[k] = b at *
      obtain ⟨bt, bl, bh⟩ := b
      simp only at z1 z2 z3 c1
      generalize lastT (l.take k) = last at *
      have hbv : ∀ x, bdB last ⟨bt, bl, bh⟩ = x → (!decide (bt ≤ last) && !decide (281474976710656 < bt) && !decide (bh < bl) && bkB bl && bkB bh) = x := fun x hx => by
        rw [← hx, hbd.out]
        have e1 : (!decide (bt ≤ last)) = decide (last < bt) := by rw [Bool.eq_iff_iff]; simp
        have e2 : (!decide (281474976710656 < bt)) = decide (bt ≤ 281474976710656) := by rw [Bool.eq_iff_iff]; simp
        have e3 : (!decide (bh < bl)) = decide (bl ≤ bh) := by rw [Bool.eq_iff_iff]; simp
        rw [e1, e2, e3]
      clear hbd
      cases hB : bdB last ⟨bt, bl, bh⟩
      · have e180 := hno.out hB
        replace hbv := hbv _ hB
        clear hno hyes hB hE
        subst e180
        cases q1 : decide (bt ≤ last)
        · cases q2 : decide (281474976710656 < bt)
          · cases q3 : decide (bh < bl)
            · cases q4 : bkB bl
              · clear hbv
                go_wp2_with (refine (c1 _ _).mono ?_; rintro e wq ⟨rfl, rfl⟩)
                go_ret
                exact ⟨rfl, bA hb _⟩
              · cases q5 : bkB bh
                · clear hbv
                  go_wp2_with (refine (c1 _ _).mono ?_; rintro e wq ⟨rfl, rfl⟩)
                  go_ret
                  exact ⟨rfl, bA hb _⟩
                · rw [q1, q2, q3, q4, q5] at hbv
                  cases hbv
            · clear hbv
              go_wp2_with (refine (c1 _ _).mono ?_; rintro e wq ⟨rfl, rfl⟩)
              go_ret
              exact ⟨rfl, bA hb _⟩
          · clear hbv
            go_wp2_with (refine (c1 _ _).mono ?_; rintro e wq ⟨rfl, rfl⟩)
            go_ret
            exact ⟨rfl, bA hb _⟩
        · clear hbv
          go_wp2_with (refine (c1 _ _).mono ?_; rintro e wq ⟨rfl, rfl⟩)
          go_ret
          exact ⟨rfl, bA hb _⟩
      · obtain ⟨y1, y2⟩ := hyes.out hB
        replace hbv := hbv _ hB
        simp only [Bool.and_eq_true, Bool.not_eq_true'] at hbv
        obtain ⟨⟨⟨⟨q1, q2⟩, q3⟩, q4⟩, q5⟩ := hbv
        have Y1 := hide y1
        have Y2 := hide y2
        clear hno hyes hB hE y1 y2
        go_wp2_with (refine (c1 _ _).mono ?_; rintro e wq ⟨rfl, rfl⟩)
        go_roundw
        case rel => exact ⟨k + 1, by go_num, by omega, by rw [Y2.out], Y1, bA hb _⟩
        case measure => simp [intOf]; omega
    · obtain rfl : k = l.length := by omega
      rw [List.take_length] at hok
      have e := hE.out.1 hok.out
      subst e
      clear hE
      go_wp2
      go_ret
      exact ⟨rfl, hb⟩
end Go.Proofs.Ytfdaabdibpcjeaa
