/- slide.Cut at this program. -/
import Derived.Test.YtpimkigbdjfjoaaDoorSlide9
set_option linter.unusedSimpArgs false
set_option linter.unusedVariables false
namespace Go.Proofs.YtpimkigbdjfjoaaDoor
open Go.RowKit
variable {ta : TypeId}
attribute [local go_sem] Oper.semAt_some

theorem Own.base {B B' : Nat} {w : World} {v : Value} {l : List Nat} (h : Own B w v l) (hB : B' ≤ B) : Own B' w v l := by
  obtain ⟨h1, h2⟩ := h
  refine ⟨h1, ?_⟩
  rcases h2 with h2 | ⟨g, cap, cur, h3, h4, h5⟩
  · exact .inl h2
  · exact .inr ⟨g, cap, cur, h3, Nat.le_trans hB h4, h5⟩

set_option maxRecDepth 100000 in
theorem tells_ints_no (A : Option Addr) (c : Nat) (l : List Bd) (h : okB l = false) (fv : Value) (w : World) (hR : BR w A c l) :
    Calls Tryd.prog 59 #[.slice A l.length c, fv] w fun e w' => e = .returned (.tuple #[.slice none 0 0, .int .i64 180]) ∧ Below w.heap.size w w' := by
  have c1 := pmc_Check A c l
  rw [chE_no h] at c1
  go_enter Tryd.func59, Tryd.ntmps59
  go_wp2_with fail
  refine (c1 _ hR).mono ?_
  rintro e w1 ⟨rfl, hb1⟩
  have hB1 := bB (b0 w) hb1
  go_wp2
  go_ret2
  exact ⟨rfl, hB1⟩

set_option maxRecDepth 100000 in
theorem tells_ints_yes (p : Nat) (A : Option Addr) (c : Nat) (l : List Bd) (h : okB l = true) (w : World) (hall : w.heap[0]? = some (.cells all4 ta (0, 0))) (hR : BR w A c l) (hp : w.heap[p]? = some (.cells #[.slice A l.length c] 22 (0, 0))) :
    Calls Tryd.prog 59 #[.slice A l.length c, .func (Fn.func 60) #[] #[.pointer (some ⟨p, 0, none⟩)]] w fun e w' => ∃ v, e = .returned (.tuple #[v, .int .i64 0]) ∧ Own w.heap.size w' v (cutsS l) ∧ Below w.heap.size w w' := by
  obtain ⟨k0, k1, k2⟩ := okB_spec h
  have c1 := pmc_Check A c l
  rw [chE_yes h] at c1
  have c2 := longest_len (ta := ta) A c l.length l rfl k2 k1
  have hF : firstS l = firstS l := rfl
  generalize hn : firstS l = n at c2
  go_enter Tryd.func59, Tryd.ntmps59
  obtain ⟨za_a, za_b, la0⟩ := rcell hall
  obtain ⟨zp_a, zp_b, lp0⟩ := rcell hp
  go_wp2_with fail
  refine (c1 _ hR).mono ?_
  rintro e w1 ⟨rfl, hb1⟩
  have f_a1 := kp hb1 (hall)
  have f_p1 := kp hb1 (hp)
  have hB1 := bB (b0 w) hb1
  clear za_a za_b zp_a zp_b
  obtain ⟨za_a, za_b, la1⟩ := rcell f_a1
  obtain ⟨zp_a, zp_b, lp1⟩ := rcell f_p1
  go_wp2_with fail
  refine (c2 _ (f_a1) (hR.below hB1)).mono ?_
  rintro e w2 ⟨A2, c2', rfl, hg2, hb2⟩
  have B2 := bB hB1 hb2
  have p2 := kp hb2 (f_p1)
  have a2 := kp hb2 (f_a1)
  go_wp2_with fail
  refine (slide_Cut1 p c _ n c2' A A2 l (hide k2) k1 _ (hide hn.symm) w2 a2 p2 (hR.below B2) hg2).mono ?_
  rintro e w3 ⟨v, rfl, ho3, hb3⟩
  have B3 := bB B2 hb3
  have ho4 : Own w.heap.size w3 v (cutsS l) := ho3.base B2.size
  clear ho3
  go_wp2
  go_ret2
  exact ⟨v, rfl, ho4, B3⟩

theorem slide_Cut_no (A : Option Addr) (c : Nat) (l : List Bd) (h : okB l = false) (w : World) (hR : BR w A c l) :
    Calls Tryd.prog 23 #[.slice A l.length c] w fun e w' => e = .returned (.tuple #[.slice none 0 0, .int .i64 180]) ∧ Below w.heap.size w w' := by
  have hmf : ∀ (fn : Fn) (first cap : Array Value) (w : World), (Instr.makeFunc fn first cap).run Tryd.prog w = .ok (.func fn first cap) w := fun _ _ _ _ => rfl
  have c1 := tells_ints_no A c l h
  go_enter Tryd.func23, Tryd.ntmps23
  go_wp2_with fail
  refine (c1 _ _ (hR.below (bA (b0 _) _))).mono ?_
  rintro e w1 ⟨rfl, hb1⟩
  have f_p1 := kp hb1 (na w #[.slice A l.length c] 22)
  have hB1 := bB (bA (b0 w) (.cells #[.slice A l.length c] 22)) hb1
  obtain ⟨zp_a, zp_b, lp1⟩ := rcell f_p1
  go_wp2
  go_ret2
  exact ⟨rfl, hB1⟩

theorem slide_Cut_yes (A : Option Addr) (c : Nat) (l : List Bd) (h : okB l = true) (w : World) (hall : w.heap[0]? = some (.cells all4 ta (0, 0))) (hR : BR w A c l) :
    Calls Tryd.prog 23 #[.slice A l.length c] w fun e w' => ∃ A' c', e = .returned (.tuple #[.slice A' (cutsS l).length c', .int .i64 0]) ∧ Rd w' A' c' (cutsS l) ∧ Below w.heap.size w w' := by
  have hmf : ∀ (fn : Fn) (first cap : Array Value) (w : World), (Instr.makeFunc fn first cap).run Tryd.prog w = .ok (.func fn first cap) w := fun _ _ _ _ => rfl
  have c1 := fun w1 ha hr hp => tells_ints_yes (ta := ta) w.heap.size A c l h w1 ha hr hp
  go_enter Tryd.func23, Tryd.ntmps23
  obtain ⟨za_a, za_b, la0⟩ := rcell hall
  go_wp2_with fail
  refine (c1 _ (ka (hall) (.cells #[.slice A l.length c] 22)) (hR.below (bA (b0 _) _)) (na w #[.slice A l.length c] 22)).mono ?_
  rintro e w1 ⟨v, rfl, ho, hb1⟩
  go_wp2
  go_ret2
  obtain ⟨A', c', rfl, hr⟩ := ho.rd
  exact ⟨A', c', rfl, hr, bB (bA (b0 w) _) hb1⟩
end Go.Proofs.YtpimkigbdjfjoaaDoor
