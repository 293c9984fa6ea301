/- yearbooklaw10.wakes at this program. -/
import Derived.Test.YtpimkigbdjfjoaaDoorLawA2
import Derived.Test.YtpimkigbdjfjoaaDoorSlideC
import Derived.Test.YtpimkigbdjfjoaaDoorSlideT
import Derived.Test.YtpimkigbdjfjoaaDoorPA
set_option linter.unusedSimpArgs false
set_option linter.unusedVariables false
namespace Go.Proofs.YtpimkigbdjfjoaaDoor
open Go.RowKit
variable {ta : TypeId}
attribute [local go_sem] Oper.semAt_some

/-- a value is a slice of these bands -/
def BRIs (l : List Bd) (n : Nat) (v : Value) (w : World) : Prop := ∃ A c, v = .slice A n c ∧ BR w A c l
theorem BRIs.br {l : List Bd} {n m : Nat} {A : Option Addr} {c : Nat} {w : World} (h : BRIs l n (.slice A m c) w) : BR w A c l := by
  obtain ⟨A', c', e, hr⟩ := h
  injection e with e1 e2 e3
  subst e1 e3
  exact hr
theorem Cl_BRIs (l : List Bd) (n : Nat) {v : Value} : Abs.Cl (fun _ => False) (BRIs l n v) := by
  intro w w' ⟨A, c, e, hr⟩ h
  refine ⟨A, c, e, hr.cap, hr.top, fun hl => ?_⟩
  obtain ⟨g, o, cur, e1, hg, hc⟩ := hr.mem hl
  exact ⟨g, o, cur, e1, (h.block g (Array.getElem?_eq_some_iff.1 hg).1 (fun hf => hf)).trans hg, hc⟩

def La : List Bd := [⟨0, 0, 2⟩, ⟨1, 5, 6⟩]
def Lb : List Bd := [⟨0, 0, 0⟩, ⟨1, 1, 1⟩, ⟨2, 3, 3⟩]
def Lc : List Bd := [⟨0, 0, 1⟩, ⟨1, 5, 6⟩]
theorem La_ok : okB La = true := by decide +kernel
theorem Lb_ok : okB Lb = true := by decide +kernel
theorem Lc_ok : okB Lc = true := by decide +kernel
theorem La_open : slOpen (sk La La.length) = true := by decide +kernel
theorem Lb_shut : slOpen (sk Lb Lb.length) = false := by decide +kernel
theorem La_l0 : lwN (sk La La.length).1.n (sk La La.length).1.d = 3 := by decide +kernel
theorem La_l1 : lwD (sk La La.length).1.n (sk La La.length).1.d = 1 := by decide +kernel
theorem La_m0 : lwN (sk La La.length).2.n (sk La La.length).2.d = 6 := by decide +kernel
theorem La_m1 : lwD (sk La La.length).2.n (sk La La.length).2.d = 1 := by decide +kernel
theorem La_n : (fS La).n = 3 := by decide +kernel
theorem La_d : (fS La).d = 1 := by decide +kernel
theorem La_c : fC La = 2 := by decide +kernel
theorem La_thr : thrB 2 0 3 1 (La.headD ⟨0, 0, 0⟩).t La = true := by decide +kernel
theorem Lc_thr : thrB 2 0 3 1 (Lc.headD ⟨0, 0, 0⟩).t Lc = false := by decide +kernel
theorem Lb_first : firstS Lb = 2 := by decide +kernel
theorem Lb_cuts : cutsS Lb = [2, 1] := by
  have e2 : firstS (Lb.drop 2) = 1 := by decide +kernel
  rw [cutsS_cons (by decide), Lb_first, cutsS_cons (by decide), e2, cutsS_nil (by decide)]

theorem at4 (g : Nat) (a b c d : Int) (l : List Bd) (hl : l = [⟨0, a, b⟩, ⟨1, c, d⟩]) (w : World) (hg : w.heap[g]? = some (.cells #[.int .i64 a, .int .i64 b, .int .i64 c, .int .i64 d] 2 (0, 0))) :
    Calls Tryd.prog 37 #[.slice (some ⟨g, 0, none⟩) 4 4] w fun e w' => ∃ A k, e = .returned (.slice A 2 k) ∧ Below w.heap.size w w' ∧ BR w' A k l := by
  subst hl
  refine (law10_at g 2 [a, b, c, d] _ (by decide) (hide fun i hi => ?_) w hg).mono ?_
  · have : i = 0 ∨ i = 1 ∨ i = 2 ∨ i = 3 := by omega
    rcases this with rfl | rfl | rfl | rfl <;> rfl
  · rintro e w' ⟨A, k, rfl, hr, hb⟩
    exact ⟨A, k, rfl, hb, hr⟩
theorem at6 (g : Nat) (a b c d x y : Int) (l : List Bd) (hl : l = [⟨0, a, b⟩, ⟨1, c, d⟩, ⟨2, x, y⟩]) (w : World) (hg : w.heap[g]? = some (.cells #[.int .i64 a, .int .i64 b, .int .i64 c, .int .i64 d, .int .i64 x, .int .i64 y] 2 (0, 0))) :
    Calls Tryd.prog 37 #[.slice (some ⟨g, 0, none⟩) 6 6] w fun e w' => ∃ A k, e = .returned (.slice A 3 k) ∧ Below w.heap.size w w' ∧ BR w' A k l := by
  subst hl
  refine (law10_at g 3 [a, b, c, d, x, y] _ (by decide) (hide fun i hi => ?_) w hg).mono ?_
  · have : i = 0 ∨ i = 1 ∨ i = 2 ∨ i = 3 ∨ i = 4 ∨ i = 5 := by omega
    rcases this with rfl | rfl | rfl | rfl | rfl | rfl <;> rfl
  · rintro e w' ⟨A, k, rfl, hr, hb⟩
    exact ⟨A, k, rfl, hb, hr⟩
theorem atIs {w w' : World} {e : Ending} {l : List Bd} {n : Nat} (h : ∃ A k, e = .returned (.slice A n k) ∧ Below w.heap.size w w' ∧ BR w' A k l) : ∃ v, e = .returned v ∧ Below w.heap.size w w' ∧ BRIs l n v w' := by
  obtain ⟨A, k, e1, hb, hr⟩ := h
  exact ⟨_, e1, hb, A, k, rfl, hr⟩

theorem rd_21 {w : World} {g : Nat} (h : w.heap[g]? = some (.cells #[.int .i64 2, .int .i64 1] 3 (0, 0))) : Rd w (some ⟨g, 0, none⟩) 2 [2, 1] :=
  ⟨by decide, fun _ => ⟨g, _, rfl, h, fun i hi => by
    have : i = 0 ∨ i = 1 := by simp at hi; omega
    rcases this with rfl | rfl <;> rfl⟩⟩

set_option maxRecDepth 100000 in
set_option maxHeartbeats 4000000 in
theorem wakesA (w : World) (hall : w.heap[0]? = some (.cells all4 ta (0, 0))) : Calls Tryd.prog 11 #[] w fun e w' => e = .returned (.bool true) ∧ Below w.heap.size w w' := by
  have cS := fun A c w (ha : w.heap[0]? = some (.cells all4 ta (0, 0))) h => slide_Slopes_yes A c La La_ok La_open w ha h
  rw [La_l0, La_l1, La_m0, La_m1] at cS
  have cF := fun A c w (ha : w.heap[0]? = some (.cells all4 ta (0, 0))) h => slide_Fit_yes A c La La_ok La_open w ha h
  rw [La_n, La_d, La_c] at cF
  have cN := fun A c w (ha : w.heap[0]? = some (.cells all4 ta (0, 0))) h => slide_Fit_shut A c Lb Lb_ok Lb_shut w ha h
  have cC : ∀ A c w, w.heap[0]? = some (.cells all4 ta (0, 0)) → BR w A c Lb → Calls Tryd.prog 23 #[.slice A 3 c] w fun e w' => ∃ A' c', e = .returned (.tuple #[.slice A' 2 c', .int .i64 0]) ∧ Below w.heap.size w w' ∧ Rd w' A' c' [2, 1] := fun A c w ha h => (slide_Cut_yes A c Lb Lb_ok w ha h).mono (by
    rintro e w' ⟨A', c', he, hr, hb⟩
    rw [Lb_cuts] at he hr
    exact ⟨A', c', he, hb, hr⟩)
  have cL : ∀ A c w, w.heap[0]? = some (.cells all4 ta (0, 0)) → BR w A c Lb → Calls Tryd.prog 22 #[.slice A 3 c] w fun e w' => e = .returned (.tuple #[.int .i64 2, .int .i64 0]) ∧ Below w.heap.size w w' := fun A c w ha h => by
    have := slide_Longest_yes A c Lb Lb_ok w ha h
    rw [Lb_first] at this
    exact this
  have cT := fun A c w h => slide_Through_yes 2 0 3 1 A c La La_ok true (hide La_thr) w h
  have cU := fun A c w h => slide_Through_yes 2 0 3 1 A c Lc Lc_ok false (hide Lc_thr) w h
  have e2 : La.length = 2 := rfl
  have e3 : Lb.length = 3 := rfl
  have e4 : Lc.length = 2 := rfl
  rw [e2] at cS cF cT
  rw [e3] at cN
  rw [e4] at cU
  have f1 : ((2 : Int) / 1 = 2) := by decide
  have f2 : ((2 : Int) % 1 = 0) := by decide
  rw [f1, f2] at cF
  clear e2 e3 e4 f1 f2
  have a1 := fun g w hg => at4 g 0 2 5 6 La rfl w hg
  have a2 := fun g w hg => at6 g 0 0 1 1 3 3 Lb rfl w hg
  have a3 := fun g w hg => at4 g 0 1 5 6 Lc rfl w hg
  go_enter Tryd.func11, Tryd.ntmps11
  obtain ⟨za_a, za_b, la0⟩ := rcell hall
  go_wp2_with fail
  refine (a1 _ _ (na w #[.int .i64 0, .int .i64 2, .int .i64 5, .int .i64 6] 2)).mono ?_
  rintro e w1 ⟨A1, k1, rfl, hb1, rn_b⟩
  have f_a1 := kp hb1 (ka (hall) (.cells #[.int .i64 0, .int .i64 2, .int .i64 5, .int .i64 6] 2))
  have f_e1 := kp hb1 (na w #[.int .i64 0, .int .i64 2, .int .i64 5, .int .i64 6] 2)
  have hB1 := bB (bA (b0 w) (.cells #[.int .i64 0, .int .i64 2, .int .i64 5, .int .i64 6] 2)) hb1
  clear za_a za_b
  obtain ⟨za_a, za_b, la1⟩ := rcell f_a1
  obtain ⟨ze_a, ze_b, le1⟩ := rcell f_e1
  go_wp2_with fail
  refine (cS _ _ _ (f_a1) rn_b).mono ?_
  rintro e w2 ⟨rfl, hb2⟩
  have f_a2 := kp hb2 (f_a1)
  have rd_b2 := rn_b.below hb2
  have hB2 := bB hB1 hb2
  clear za_a za_b ze_a ze_b
  obtain ⟨za_a, za_b, la2⟩ := rcell f_a2
  go_wp2_with fail
  refine (a1 _ _ (na2 w2 (.cells #[.int .i64 3, .int .i64 1] 26) (.cells #[.int .i64 6, .int .i64 1] 26) #[.int .i64 0, .int .i64 2, .int .i64 5, .int .i64 6] 2)).mono ?_
  rintro e w3 ⟨A2, k2, rfl, hb3, rn_b⟩
  have f_a3 := kp hb3 (ka (ka (ka (f_a2) (.cells #[.int .i64 3, .int .i64 1] 26)) (.cells #[.int .i64 6, .int .i64 1] 26)) (.cells #[.int .i64 0, .int .i64 2, .int .i64 5, .int .i64 6] 2))
  have f_s3 := kp hb3 (ka (ka (na w2 #[.int .i64 3, .int .i64 1] 26) (.cells #[.int .i64 6, .int .i64 1] 26)) (.cells #[.int .i64 0, .int .i64 2, .int .i64 5, .int .i64 6] 2))
  have f_t3 := kp hb3 (ka (na1 w2 (.cells #[.int .i64 3, .int .i64 1] 26) #[.int .i64 6, .int .i64 1] 26) (.cells #[.int .i64 0, .int .i64 2, .int .i64 5, .int .i64 6] 2))
  have f_e3 := kp hb3 (na2 w2 (.cells #[.int .i64 3, .int .i64 1] 26) (.cells #[.int .i64 6, .int .i64 1] 26) #[.int .i64 0, .int .i64 2, .int .i64 5, .int .i64 6] 2)
  have hB3 := bB (bA (bA (bA hB2 (.cells #[.int .i64 3, .int .i64 1] 26)) (.cells #[.int .i64 6, .int .i64 1] 26)) (.cells #[.int .i64 0, .int .i64 2, .int .i64 5, .int .i64 6] 2)) hb3
  clear za_a za_b
  obtain ⟨za_a, za_b, la3⟩ := rcell f_a3
  obtain ⟨zs_a, zs_b, ls3⟩ := rcell f_s3
  obtain ⟨zt_a, zt_b, lt3⟩ := rcell f_t3
  obtain ⟨ze_a, ze_b, le3⟩ := rcell f_e3
  go_wp2_with fail
  refine (cF _ _ _ (f_a3) rn_b).mono ?_
  rintro e w4 ⟨rfl, hb4⟩
  have f_a4 := kp hb4 (f_a3)
  have f_s4 := kp hb4 (f_s3)
  have f_t4 := kp hb4 (f_t3)
  have rd_b4 := rn_b.below hb4
  have hB4 := bB hB3 hb4
  clear za_a za_b ze_a ze_b zs_a zs_b zt_a zt_b
  obtain ⟨za_a, za_b, la4⟩ := rcell f_a4
  obtain ⟨zs_a, zs_b, ls4⟩ := rcell f_s4
  obtain ⟨zt_a, zt_b, lt4⟩ := rcell f_t4
  go_wp2_with fail
  refine (a2 _ _ (na1 w4 (.cells #[.int .i64 2, .int .i64 0, .int .i64 3, .int .i64 1] 31) #[.int .i64 0, .int .i64 0, .int .i64 1, .int .i64 1, .int .i64 3, .int .i64 3] 2)).mono ?_
  rintro e w5 ⟨A3, k3, rfl, hb5, rn_b⟩
  have f_a5 := kp hb5 (ka (ka (f_a4) (.cells #[.int .i64 2, .int .i64 0, .int .i64 3, .int .i64 1] 31)) (.cells #[.int .i64 0, .int .i64 0, .int .i64 1, .int .i64 1, .int .i64 3, .int .i64 3] 2))
  have f_s5 := kp hb5 (ka (ka (f_s4) (.cells #[.int .i64 2, .int .i64 0, .int .i64 3, .int .i64 1] 31)) (.cells #[.int .i64 0, .int .i64 0, .int .i64 1, .int .i64 1, .int .i64 3, .int .i64 3] 2))
  have f_t5 := kp hb5 (ka (ka (f_t4) (.cells #[.int .i64 2, .int .i64 0, .int .i64 3, .int .i64 1] 31)) (.cells #[.int .i64 0, .int .i64 0, .int .i64 1, .int .i64 1, .int .i64 3, .int .i64 3] 2))
  have f_x5 := kp hb5 (ka (na w4 #[.int .i64 2, .int .i64 0, .int .i64 3, .int .i64 1] 31) (.cells #[.int .i64 0, .int .i64 0, .int .i64 1, .int .i64 1, .int .i64 3, .int .i64 3] 2))
  have f_e5 := kp hb5 (na1 w4 (.cells #[.int .i64 2, .int .i64 0, .int .i64 3, .int .i64 1] 31) #[.int .i64 0, .int .i64 0, .int .i64 1, .int .i64 1, .int .i64 3, .int .i64 3] 2)
  have hB5 := bB (bA (bA hB4 (.cells #[.int .i64 2, .int .i64 0, .int .i64 3, .int .i64 1] 31)) (.cells #[.int .i64 0, .int .i64 0, .int .i64 1, .int .i64 1, .int .i64 3, .int .i64 3] 2)) hb5
  clear za_a za_b zs_a zs_b zt_a zt_b
  obtain ⟨za_a, za_b, la5⟩ := rcell f_a5
  obtain ⟨zs_a, zs_b, ls5⟩ := rcell f_s5
  obtain ⟨zt_a, zt_b, lt5⟩ := rcell f_t5
  obtain ⟨zx_a, zx_b, lx5⟩ := rcell f_x5
  obtain ⟨ze_a, ze_b, le5⟩ := rcell f_e5
  go_wp2_with fail
  refine (cN _ _ _ (f_a5) rn_b).mono ?_
  rintro e w6 ⟨rfl, hb6⟩
  have f_a6 := kp hb6 (f_a5)
  have f_s6 := kp hb6 (f_s5)
  have f_t6 := kp hb6 (f_t5)
  have f_x6 := kp hb6 (f_x5)
  have rd_b6 := rn_b.below hb6
  have hB6 := bB hB5 hb6
  clear za_a za_b ze_a ze_b zs_a zs_b zt_a zt_b zx_a zx_b
  obtain ⟨za_a, za_b, la6⟩ := rcell f_a6
  obtain ⟨zs_a, zs_b, ls6⟩ := rcell f_s6
  obtain ⟨zt_a, zt_b, lt6⟩ := rcell f_t6
  obtain ⟨zx_a, zx_b, lx6⟩ := rcell f_x6
  go_wp2_with fail
  refine (a2 _ _ (na1 w6 (.cells #[.int .i64 0, .int .i64 0, .int .i64 0, .int .i64 0] 31) #[.int .i64 0, .int .i64 0, .int .i64 1, .int .i64 1, .int .i64 3, .int .i64 3] 2)).mono ?_
  rintro e w7 ⟨A4, k4, rfl, hb7, rn_b⟩
  have f_a7 := kp hb7 (ka (ka (f_a6) (.cells #[.int .i64 0, .int .i64 0, .int .i64 0, .int .i64 0] 31)) (.cells #[.int .i64 0, .int .i64 0, .int .i64 1, .int .i64 1, .int .i64 3, .int .i64 3] 2))
  have f_s7 := kp hb7 (ka (ka (f_s6) (.cells #[.int .i64 0, .int .i64 0, .int .i64 0, .int .i64 0] 31)) (.cells #[.int .i64 0, .int .i64 0, .int .i64 1, .int .i64 1, .int .i64 3, .int .i64 3] 2))
  have f_t7 := kp hb7 (ka (ka (f_t6) (.cells #[.int .i64 0, .int .i64 0, .int .i64 0, .int .i64 0] 31)) (.cells #[.int .i64 0, .int .i64 0, .int .i64 1, .int .i64 1, .int .i64 3, .int .i64 3] 2))
  have f_x7 := kp hb7 (ka (ka (f_x6) (.cells #[.int .i64 0, .int .i64 0, .int .i64 0, .int .i64 0] 31)) (.cells #[.int .i64 0, .int .i64 0, .int .i64 1, .int .i64 1, .int .i64 3, .int .i64 3] 2))
  have f_y7 := kp hb7 (ka (na w6 #[.int .i64 0, .int .i64 0, .int .i64 0, .int .i64 0] 31) (.cells #[.int .i64 0, .int .i64 0, .int .i64 1, .int .i64 1, .int .i64 3, .int .i64 3] 2))
  have f_e7 := kp hb7 (na1 w6 (.cells #[.int .i64 0, .int .i64 0, .int .i64 0, .int .i64 0] 31) #[.int .i64 0, .int .i64 0, .int .i64 1, .int .i64 1, .int .i64 3, .int .i64 3] 2)
  have hB7 := bB (bA (bA hB6 (.cells #[.int .i64 0, .int .i64 0, .int .i64 0, .int .i64 0] 31)) (.cells #[.int .i64 0, .int .i64 0, .int .i64 1, .int .i64 1, .int .i64 3, .int .i64 3] 2)) hb7
  clear za_a za_b zs_a zs_b zt_a zt_b zx_a zx_b
  obtain ⟨za_a, za_b, la7⟩ := rcell f_a7
  obtain ⟨zs_a, zs_b, ls7⟩ := rcell f_s7
  obtain ⟨zt_a, zt_b, lt7⟩ := rcell f_t7
  obtain ⟨zx_a, zx_b, lx7⟩ := rcell f_x7
  obtain ⟨zy_a, zy_b, ly7⟩ := rcell f_y7
  obtain ⟨ze_a, ze_b, le7⟩ := rcell f_e7
  go_wp2_with fail
  refine (cC _ _ _ (f_a7) rn_b).mono ?_
  rintro e w8 ⟨A5, k5, rfl, hb8, rn_p⟩
  have f_a8 := kp hb8 (f_a7)
  have f_s8 := kp hb8 (f_s7)
  have f_t8 := kp hb8 (f_t7)
  have f_x8 := kp hb8 (f_x7)
  have rd_b8 := rn_b.below hb8
  have hB8 := bB hB7 hb8
  clear za_a za_b ze_a ze_b zs_a zs_b zt_a zt_b zx_a zx_b zy_a zy_b
  obtain ⟨za_a, za_b, la8⟩ := rcell f_a8
  obtain ⟨zs_a, zs_b, ls8⟩ := rcell f_s8
  obtain ⟨zt_a, zt_b, lt8⟩ := rcell f_t8
  obtain ⟨zx_a, zx_b, lx8⟩ := rcell f_x8
  go_wp2_with fail
  refine (a2 _ _ (na w8 #[.int .i64 0, .int .i64 0, .int .i64 1, .int .i64 1, .int .i64 3, .int .i64 3] 2)).mono ?_
  rintro e w9 ⟨A6, k6, rfl, hb9, rn_b⟩
  have f_a9 := kp hb9 (ka (f_a8) (.cells #[.int .i64 0, .int .i64 0, .int .i64 1, .int .i64 1, .int .i64 3, .int .i64 3] 2))
  have f_s9 := kp hb9 (ka (f_s8) (.cells #[.int .i64 0, .int .i64 0, .int .i64 1, .int .i64 1, .int .i64 3, .int .i64 3] 2))
  have f_t9 := kp hb9 (ka (f_t8) (.cells #[.int .i64 0, .int .i64 0, .int .i64 1, .int .i64 1, .int .i64 3, .int .i64 3] 2))
  have f_x9 := kp hb9 (ka (f_x8) (.cells #[.int .i64 0, .int .i64 0, .int .i64 1, .int .i64 1, .int .i64 3, .int .i64 3] 2))
  have f_e9 := kp hb9 (na w8 #[.int .i64 0, .int .i64 0, .int .i64 1, .int .i64 1, .int .i64 3, .int .i64 3] 2)
  have rd_p9 := (rn_p.below (bA (b0 _) (.cells #[.int .i64 0, .int .i64 0, .int .i64 1, .int .i64 1, .int .i64 3, .int .i64 3] 2))).below hb9
  have hB9 := bB (bA hB8 (.cells #[.int .i64 0, .int .i64 0, .int .i64 1, .int .i64 1, .int .i64 3, .int .i64 3] 2)) hb9
  clear za_a za_b zs_a zs_b zt_a zt_b zx_a zx_b
  obtain ⟨za_a, za_b, la9⟩ := rcell f_a9
  obtain ⟨zs_a, zs_b, ls9⟩ := rcell f_s9
  obtain ⟨zt_a, zt_b, lt9⟩ := rcell f_t9
  obtain ⟨zx_a, zx_b, lx9⟩ := rcell f_x9
  obtain ⟨ze_a, ze_b, le9⟩ := rcell f_e9
  go_wp2_with fail
  refine (cL _ _ _ (f_a9) rn_b).mono ?_
  rintro e w10 ⟨rfl, hb10⟩
  have f_a10 := kp hb10 (f_a9)
  have f_s10 := kp hb10 (f_s9)
  have f_t10 := kp hb10 (f_t9)
  have f_x10 := kp hb10 (f_x9)
  have rd_p10 := rd_p9.below hb10
  have rd_b10 := rn_b.below hb10
  have hB10 := bB hB9 hb10
  clear za_a za_b ze_a ze_b zs_a zs_b zt_a zt_b zx_a zx_b
  obtain ⟨za_a, za_b, la10⟩ := rcell f_a10
  obtain ⟨zs_a, zs_b, ls10⟩ := rcell f_s10
  obtain ⟨zt_a, zt_b, lt10⟩ := rcell f_t10
  obtain ⟨zx_a, zx_b, lx10⟩ := rcell f_x10
  have RP := hide rd_p10
  go_wp2_with fail
  refine Abs.wp_region_abs (Abs.cls0 _) [0, 1, 2, 3, 4, 5, 6, 7, 8, 9, 10, 11, 12, 13, 14, 15, 16, 17, 18, 19, 20, 21, 22, 23, 24, 25, 26, 27, 28, 29, 30, 31, 32, 33, 34, 35, 36, 37, 38, 39, 40, 41, 42, 43, 44, 45, 46, 47, 48, 49, 50, 51, 52, 53, 54, 55] (by kernel_rfl) (by kernel_rfl) (Below.refl _ _).drew ?_
  repeat (first | (refine Abs.step_pure rfl rfl (fun K hK => ?_); go_simp; (try go_bits); (first | refine hK _ _ ?_ | (simp only [↓IntWalk.iteOmega]; go_simp; (try go_bits); refine hK _ _ ?_)); clear hK K) | (refine Abs.step_load (v := ?_) rfl rfl (by kernel_rfl) rfl (fun w0 hI => ?_) (fun K hK => ?_); rotate_left; (· have z0 := (rcell (kp hI (f_a10))).1; have z1 := (rcell (kp hI (f_s10))).1; have z2 := (rcell (kp hI (f_t10))).1; have z3 := (rcell (kp hI (f_x10))).1; go_simp; rfl); (simp only [Act.put, List.setIfInBounds_toArray, List.set_cons_zero, List.set_cons_succ]; refine hK _ _ ?_; clear hK K)) | (refine Abs.step_skip rfl rfl (fun K hK => ?_); (simp only [Act.put, List.setIfInBounds_toArray, List.set_cons_zero, List.set_cons_succ]; refine hK _ _ ?_; clear hK K)))
  (refine Abs.step_new (f := fun g => .slice (some ⟨g, 0, none⟩) 2 2) (obj := .cells #[.int .i64 2, .int .i64 1] 3) rfl rfl rfl rfl (fun w0 => ?_) (fun K hK g_n hv_n hu_n => ?_); (· go_simp; try rfl); (simp only [Act.put, List.setIfInBounds_toArray, List.set_cons_zero, List.set_cons_succ]; refine hK _ _ ?_; clear hK K))
  repeat (first | (refine Abs.step_pure rfl rfl (fun K hK => ?_); go_simp; (try go_bits); (first | refine hK _ _ ?_ | (simp only [↓IntWalk.iteOmega]; go_simp; (try go_bits); refine hK _ _ ?_)); clear hK K) | (refine Abs.step_load (v := ?_) rfl rfl (by kernel_rfl) rfl (fun w0 hI => ?_) (fun K hK => ?_); rotate_left; (· have z0 := (rcell (kp hI (f_a10))).1; have z1 := (rcell (kp hI (f_s10))).1; have z2 := (rcell (kp hI (f_t10))).1; have z3 := (rcell (kp hI (f_x10))).1; go_simp; rfl); (simp only [Act.put, List.setIfInBounds_toArray, List.set_cons_zero, List.set_cons_succ]; refine hK _ _ ?_; clear hK K)) | (refine Abs.step_skip rfl rfl (fun K hK => ?_); (simp only [Act.put, List.setIfInBounds_toArray, List.set_cons_zero, List.set_cons_succ]; refine hK _ _ ?_; clear hK K)))
  (refine Abs.step_call (f := ?_) (args := ?_) rfl rfl rfl rfl (fun v _ => v = .bool true) (fun _ _ _ h _ => h) (fun w0 => ?_) (fun w0 hI hF => ?_) (fun K hK v w0 hv => ?_); rotate_left 2; (· go_simp; (constructor <;> rfl)); (· exact (equal_int A5 (some ⟨g_n, 0, none⟩) k5 2 [2, 1] [2, 1] (by decide) w0 (RP.out.below hI) (rd_21 ((hF 35 (by kernel_rfl)).2 rfl))).mono (fun _ _ h => ⟨_, h.1, h.2, rfl⟩)); (replace hv : v = .bool true := hv; subst hv; clear w0; simp only [Act.put, List.setIfInBounds_toArray, List.set_cons_zero, List.set_cons_succ]; refine hK _ _ ?_; clear hK K))
  repeat (first | (refine Abs.step_pure rfl rfl (fun K hK => ?_); go_simp; (try go_bits); (first | refine hK _ _ ?_ | (simp only [↓IntWalk.iteOmega]; go_simp; (try go_bits); refine hK _ _ ?_)); clear hK K) | (refine Abs.step_load (v := ?_) rfl rfl (by kernel_rfl) rfl (fun w0 hI => ?_) (fun K hK => ?_); rotate_left; (· have z0 := (rcell (kp hI (f_a10))).1; have z1 := (rcell (kp hI (f_s10))).1; have z2 := (rcell (kp hI (f_t10))).1; have z3 := (rcell (kp hI (f_x10))).1; go_simp; rfl); (simp only [Act.put, List.setIfInBounds_toArray, List.set_cons_zero, List.set_cons_succ]; refine hK _ _ ?_; clear hK K)) | (refine Abs.step_skip rfl rfl (fun K hK => ?_); (simp only [Act.put, List.setIfInBounds_toArray, List.set_cons_zero, List.set_cons_succ]; refine hK _ _ ?_; clear hK K)))
  (refine Abs.step_new (f := fun g => .slice (some ⟨g, 0, none⟩) 4 4) (obj := .cells #[.int .i64 0, .int .i64 2, .int .i64 5, .int .i64 6] 2) rfl rfl rfl rfl (fun w0 => ?_) (fun K hK g_m hv_m hu_m => ?_); (· go_simp; try rfl); (simp only [Act.put, List.setIfInBounds_toArray, List.set_cons_zero, List.set_cons_succ]; refine hK _ _ ?_; clear hK K))
  repeat (first | (refine Abs.step_pure rfl rfl (fun K hK => ?_); go_simp; (try go_bits); (first | refine hK _ _ ?_ | (simp only [↓IntWalk.iteOmega]; go_simp; (try go_bits); refine hK _ _ ?_)); clear hK K) | (refine Abs.step_load (v := ?_) rfl rfl (by kernel_rfl) rfl (fun w0 hI => ?_) (fun K hK => ?_); rotate_left; (· have z0 := (rcell (kp hI (f_a10))).1; have z1 := (rcell (kp hI (f_s10))).1; have z2 := (rcell (kp hI (f_t10))).1; have z3 := (rcell (kp hI (f_x10))).1; go_simp; rfl); (simp only [Act.put, List.setIfInBounds_toArray, List.set_cons_zero, List.set_cons_succ]; refine hK _ _ ?_; clear hK K)) | (refine Abs.step_skip rfl rfl (fun K hK => ?_); (simp only [Act.put, List.setIfInBounds_toArray, List.set_cons_zero, List.set_cons_succ]; refine hK _ _ ?_; clear hK K)))
  (refine Abs.step_call (f := ?_) (args := ?_) rfl rfl rfl rfl (BRIs La 2) (fun _ => Cl_BRIs _ _) (fun w0 => ?_) (fun w0 hI hF => ?_) (fun K hK v w0 hv => ?_); rotate_left 2; (· go_simp; (constructor <;> rfl)); (· exact (a1 g_m w0 ((hF 43 (by kernel_rfl)).2 rfl)).mono (fun _ _ h => atIs h)); (obtain ⟨A7, k7, rfl, -⟩ := hv; clear w0; simp only [Act.put, List.setIfInBounds_toArray, List.set_cons_zero, List.set_cons_succ]; refine hK _ _ ?_; clear hK K))
  repeat (first | (refine Abs.step_pure rfl rfl (fun K hK => ?_); go_simp; (try go_bits); (first | refine hK _ _ ?_ | (simp only [↓IntWalk.iteOmega]; go_simp; (try go_bits); refine hK _ _ ?_)); clear hK K) | (refine Abs.step_load (v := ?_) rfl rfl (by kernel_rfl) rfl (fun w0 hI => ?_) (fun K hK => ?_); rotate_left; (· have z0 := (rcell (kp hI (f_a10))).1; have z1 := (rcell (kp hI (f_s10))).1; have z2 := (rcell (kp hI (f_t10))).1; have z3 := (rcell (kp hI (f_x10))).1; go_simp; rfl); (simp only [Act.put, List.setIfInBounds_toArray, List.set_cons_zero, List.set_cons_succ]; refine hK _ _ ?_; clear hK K)) | (refine Abs.step_skip rfl rfl (fun K hK => ?_); (simp only [Act.put, List.setIfInBounds_toArray, List.set_cons_zero, List.set_cons_succ]; refine hK _ _ ?_; clear hK K)))
  (refine Abs.step_call (f := ?_) (args := ?_) rfl rfl rfl rfl (fun v _ => v = .bool true) (fun _ _ _ h _ => h) (fun w0 => ?_) (fun w0 hI hF => ?_) (fun K hK v w0 hv => ?_); rotate_left 2; (· go_simp; (constructor <;> rfl)); (· exact (cT A7 k7 w0 ((hF 44 (by kernel_rfl)).2 rfl).br).mono (fun _ _ h => ⟨_, h.1, h.2, rfl⟩)); (replace hv : v = .bool true := hv; subst hv; clear w0; simp only [Act.put, List.setIfInBounds_toArray, List.set_cons_zero, List.set_cons_succ]; refine hK _ _ ?_; clear hK K))
  repeat (first | (refine Abs.step_pure rfl rfl (fun K hK => ?_); go_simp; (try go_bits); (first | refine hK _ _ ?_ | (simp only [↓IntWalk.iteOmega]; go_simp; (try go_bits); refine hK _ _ ?_)); clear hK K) | (refine Abs.step_load (v := ?_) rfl rfl (by kernel_rfl) rfl (fun w0 hI => ?_) (fun K hK => ?_); rotate_left; (· have z0 := (rcell (kp hI (f_a10))).1; have z1 := (rcell (kp hI (f_s10))).1; have z2 := (rcell (kp hI (f_t10))).1; have z3 := (rcell (kp hI (f_x10))).1; go_simp; rfl); (simp only [Act.put, List.setIfInBounds_toArray, List.set_cons_zero, List.set_cons_succ]; refine hK _ _ ?_; clear hK K)) | (refine Abs.step_skip rfl rfl (fun K hK => ?_); (simp only [Act.put, List.setIfInBounds_toArray, List.set_cons_zero, List.set_cons_succ]; refine hK _ _ ?_; clear hK K)))
  (refine Abs.step_new (f := fun g => .slice (some ⟨g, 0, none⟩) 4 4) (obj := .cells #[.int .i64 0, .int .i64 1, .int .i64 5, .int .i64 6] 2) rfl rfl rfl rfl (fun w0 => ?_) (fun K hK g_q hv_q hu_q => ?_); (· go_simp; try rfl); (simp only [Act.put, List.setIfInBounds_toArray, List.set_cons_zero, List.set_cons_succ]; refine hK _ _ ?_; clear hK K))
  repeat (first | (refine Abs.step_pure rfl rfl (fun K hK => ?_); go_simp; (try go_bits); (first | refine hK _ _ ?_ | (simp only [↓IntWalk.iteOmega]; go_simp; (try go_bits); refine hK _ _ ?_)); clear hK K) | (refine Abs.step_load (v := ?_) rfl rfl (by kernel_rfl) rfl (fun w0 hI => ?_) (fun K hK => ?_); rotate_left; (· have z0 := (rcell (kp hI (f_a10))).1; have z1 := (rcell (kp hI (f_s10))).1; have z2 := (rcell (kp hI (f_t10))).1; have z3 := (rcell (kp hI (f_x10))).1; go_simp; rfl); (simp only [Act.put, List.setIfInBounds_toArray, List.set_cons_zero, List.set_cons_succ]; refine hK _ _ ?_; clear hK K)) | (refine Abs.step_skip rfl rfl (fun K hK => ?_); (simp only [Act.put, List.setIfInBounds_toArray, List.set_cons_zero, List.set_cons_succ]; refine hK _ _ ?_; clear hK K)))
  (refine Abs.step_call (f := ?_) (args := ?_) rfl rfl rfl rfl (BRIs Lc 2) (fun _ => Cl_BRIs _ _) (fun w0 => ?_) (fun w0 hI hF => ?_) (fun K hK v w0 hv => ?_); rotate_left 2; (· go_simp; (constructor <;> rfl)); (· exact (a3 g_q w0 ((hF 49 (by kernel_rfl)).2 rfl)).mono (fun _ _ h => atIs h)); (obtain ⟨A8, k8, rfl, -⟩ := hv; clear w0; simp only [Act.put, List.setIfInBounds_toArray, List.set_cons_zero, List.set_cons_succ]; refine hK _ _ ?_; clear hK K))
  repeat (first | (refine Abs.step_pure rfl rfl (fun K hK => ?_); go_simp; (try go_bits); (first | refine hK _ _ ?_ | (simp only [↓IntWalk.iteOmega]; go_simp; (try go_bits); refine hK _ _ ?_)); clear hK K) | (refine Abs.step_load (v := ?_) rfl rfl (by kernel_rfl) rfl (fun w0 hI => ?_) (fun K hK => ?_); rotate_left; (· have z0 := (rcell (kp hI (f_a10))).1; have z1 := (rcell (kp hI (f_s10))).1; have z2 := (rcell (kp hI (f_t10))).1; have z3 := (rcell (kp hI (f_x10))).1; go_simp; rfl); (simp only [Act.put, List.setIfInBounds_toArray, List.set_cons_zero, List.set_cons_succ]; refine hK _ _ ?_; clear hK K)) | (refine Abs.step_skip rfl rfl (fun K hK => ?_); (simp only [Act.put, List.setIfInBounds_toArray, List.set_cons_zero, List.set_cons_succ]; refine hK _ _ ?_; clear hK K)))
  (refine Abs.step_call (f := ?_) (args := ?_) rfl rfl rfl rfl (fun v _ => v = .bool false) (fun _ _ _ h _ => h) (fun w0 => ?_) (fun w0 hI hF => ?_) (fun K hK v w0 hv => ?_); rotate_left 2; (· go_simp; (constructor <;> rfl)); (· exact (cU A8 k8 w0 ((hF 50 (by kernel_rfl)).2 rfl).br).mono (fun _ _ h => ⟨_, h.1, h.2, rfl⟩)); (replace hv : v = .bool false := hv; subst hv; clear w0; simp only [Act.put, List.setIfInBounds_toArray, List.set_cons_zero, List.set_cons_succ]; refine hK _ _ ?_; clear hK K))
  repeat (first | (refine Abs.step_pure rfl rfl (fun K hK => ?_); go_simp; (try go_bits); (first | refine hK _ _ ?_ | (simp only [↓IntWalk.iteOmega]; go_simp; (try go_bits); refine hK _ _ ?_)); clear hK K) | (refine Abs.step_load (v := ?_) rfl rfl (by kernel_rfl) rfl (fun w0 hI => ?_) (fun K hK => ?_); rotate_left; (· have z0 := (rcell (kp hI (f_a10))).1; have z1 := (rcell (kp hI (f_s10))).1; have z2 := (rcell (kp hI (f_t10))).1; have z3 := (rcell (kp hI (f_x10))).1; go_simp; rfl); (simp only [Act.put, List.setIfInBounds_toArray, List.set_cons_zero, List.set_cons_succ]; refine hK _ _ ?_; clear hK K)) | (refine Abs.step_skip rfl rfl (fun K hK => ?_); (simp only [Act.put, List.setIfInBounds_toArray, List.set_cons_zero, List.set_cons_succ]; refine hK _ _ ?_; clear hK K)))
  intro w12 hb12 hx0 hx1 hx2
  clear hx0 hx1 hx2
  simp only [Abs.T_setF, Abs.T_addA, Abs.T_push, Abs.T_start]
  have f_a12 := kp hb12 (f_a10)
  have f_s12 := kp hb12 (f_s10)
  have f_t12 := kp hb12 (f_t10)
  have f_x12 := kp hb12 (f_x10)
  have rd_p12 := rd_p10.below hb12
  have hB12 := bB hB10 hb12
  clear za_a za_b zs_a zs_b zt_a zt_b zx_a zx_b
  obtain ⟨za_a, za_b, la12⟩ := rcell f_a12
  obtain ⟨zs_a, zs_b, ls12⟩ := rcell f_s12
  obtain ⟨zt_a, zt_b, lt12⟩ := rcell f_t12
  obtain ⟨zx_a, zx_b, lx12⟩ := rcell f_x12
  go_wp2
  go_ret
  exact ⟨rfl, hB12⟩
end Go.Proofs.YtpimkigbdjfjoaaDoor
