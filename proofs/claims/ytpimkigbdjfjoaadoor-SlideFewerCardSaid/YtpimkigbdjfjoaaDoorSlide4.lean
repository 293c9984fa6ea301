/- slide.longest at this program. -/
import Derived.Test.YtpimkigbdjfjoaaDoorSlide3
import Derived.Test.YtpimkigbdjfjoaaDoorSlideQ
import Derived.ScopeJumps
set_option linter.unusedSimpArgs false
set_option linter.unusedVariables false
namespace Go.Proofs.YtpimkigbdjfjoaaDoor
open Go.RowKit
variable {ta : TypeId}

set_option maxRecDepth 100000 in
set_option maxHeartbeats 2000000 in
theorem slide_longest_in (A : Option Addr) (c f : Nat) (l : List Bd) (hok : Hid (okF (-1) l = true)) (hF : Hid (IsFirstS l f)) (hfl : f ≤ l.length) (hl : l.length ≤ 256) (w : World) (hall : w.heap[0]? = some (.cells all4 ta (0, 0))) (hR : BR w A c l) :
    Calls Tryd.prog 61 #[.slice A l.length c] w fun e w' => ∃ v, e = .returned (.pointer (some ⟨w.heap.size, 0, none⟩)) ∧ w'.heap[w.heap.size]? = some (.cells (fcs (sk l f) v) 78 (0, 0)) ∧ OwnB w.heap.size w' v (l.take f) ∧ Below w.heap.size w w' := by
  unfold all4 at hall
  go_enter Tryd.func61, Tryd.ntmps61
  obtain ⟨za_a, za_b, la0⟩ := rcell hall
  go_wp2_with fail
  refine wp_scope_straight ?_
  go_wp2_with fail
  refine wp_label ?_
  go_wp2_with fail
  go_loopw [11] (fun vi wr => ∃ (k : Nat) (v : Value), vi = .int .i64 k ∧ k ≤ f ∧ wr.heap[w.heap.size]? = some (.cells (fcs (sk l k) v) 78 (0, 0)) ∧ OwnB w.heap.size wr v (l.take k) ∧ Below w.heap.size w wr) (fun vi _ => l.length - (intOf vi).toNat)
  case atStart => exact ⟨0, .slice none 0 0, rfl, by omega, na w _ _, OwnB.nil _ _, bA (b0 w) _⟩
  case round =>
    obtain ⟨k, v, rfl, hk, j1, ho, hb⟩ := hrel
    have lw := (rcell j1).2.2
    by_cases hlt : k < l.length
    · obtain ⟨g', o', rfl, z1, z2, z3⟩ := (hR.below hb).at_ hlt
      rw [bd_eq hlt] at z1 z2 z3
      have ct := slide_takes w.heap.size k w.heap.size l hok.out hl hlt v (wr.alloc (.cells #[.int .i64 (bd l k).t, .int .i64 (bd l k).lo, .int .i64 (bd l k).hi] 37)) (ka j1 _) (ho.lift (bA (b0 _) _)) (Nat.le_refl _)
      generalize bd l k = b at *
      obtain ⟨bt, bl, bh⟩ := b
      simp only at z1 z2 z3 ct
      have HJ := hide j1
      have HO := hide ho
      clear j1 ho
      go_wp2_with fail
      refine ct.mono ?_
      rintro e w1 ⟨rfl, hb1, hs1, y1, y2⟩
      have hbb : Below w.heap.size w w1 := (hb.trans ((b0 wr).mono hb.size |>.alloc hb.size _)).trans hb1
      clear ct
      by_cases hkf : k < f
      · have e1 := hF.out.yes k hkf
        rw [e1]
        obtain ⟨v', y3, y4⟩ := y1 e1
        clear y1 y2
        go_wp2
        go_roundw
        case rel => exact ⟨k + 1, v', by go_num, by omega, y3, y4, hbb⟩
        case measure => simp [intOf]; omega
      · obtain rfl : k = f := by omega
        have e1 := hF.out.no hlt
        rw [e1]
        obtain ⟨y3, y4⟩ := y2 e1
        clear y1 y2
        go_wp2
        simp only [Exit.noGoto]
        go_ret
        exact ⟨v, rfl, y3, y4, hbb⟩
    · obtain rfl : k = f := by omega
      go_wp2
      simp only [Exit.noGoto]
      go_ret
      exact ⟨v, rfl, j1, ho, hb⟩

theorem slide_longest (A : Option Addr) (c : Nat) (l : List Bd) (hok : okF (-1) l = true) (hl : l.length ≤ 256) (w : World) (hall : w.heap[0]? = some (.cells all4 ta (0, 0))) (hR : BR w A c l) :
    Calls Tryd.prog 61 #[.slice A l.length c] w fun e w' => ∃ v, e = .returned (.pointer (some ⟨w.heap.size, 0, none⟩)) ∧ w'.heap[w.heap.size]? = some (.cells (fcs (sk l (firstS l)) v) 78 (0, 0)) ∧ OwnB w.heap.size w' v (l.take (firstS l)) ∧ Below w.heap.size w w' :=
  slide_longest_in A c (firstS l) l (hide hok) (hide (firstS_is l)) (firstS_is l).le hl w hall hR
end Go.Proofs.YtpimkigbdjfjoaaDoor
