/- The walk of SlideFits (yearbooklaw10). -/
import Derived.Test.YtpimkigbdjfjoaaDoorLawF3
set_option linter.unusedSimpArgs false
set_option linter.unusedVariables false
namespace Go.Proofs.YtpimkigbdjfjoaaDoor
open Go.RowKit
variable {ta : TypeId}
attribute [local go_sem] Oper.semAt_some

set_option maxRecDepth 100000 in
set_option maxHeartbeats 2000000 in
theorem sfit_1 (X : Option Addr) (C : Nat) (xs ys : List Bd) (h1 : ys.length ≤ 257) (w : World) (hall : w.heap[0]? = some (.cells all4 ta (0, 0)))
    (c1 : ∀ w', Below w.heap.size w w' → Calls Tryd.prog 12 #[.slice X xs.length C, .int .i64 60] w' fun e w'' => ∃ A c, e = .returned (.slice A ys.length c) ∧ BR w'' A c ys ∧ Below w'.heap.size w' w'')
    (cA : ∀ A c w, BR w A c ys → Calls Tryd.prog 13 #[.slice A ys.length c] w fun e w' => e = .returned (.tuple #[.agg #[.int .i64 0, .int .i64 0], .agg #[.int .i64 0, .int .i64 0], .int .i64 180]) ∧ Below w.heap.size w w')
    (cB : ∀ A c w, BR w A c ys → Calls Tryd.prog 14 #[.slice A ys.length c] w fun e w' => e = .returned (.tuple #[.agg #[.int .i64 0, .int .i64 0, .int .i64 0, .int .i64 0], .int .i64 180]) ∧ Below w.heap.size w w')
    (cC : ∀ A c w, BR w A c ys → Calls Tryd.prog 15 #[.slice A ys.length c] w fun e w' => e = .returned (.bool false) ∧ Below w.heap.size w w') :
    Calls Tryd.prog 3 #[.slice X xs.length C] w fun e w' => e = .returned (.bool true) ∧ Below w.heap.size w w' := by
  have hw := fun w (ha : w.heap[0]? = some (.cells all4 ta (0, 0))) => wakesA w ha
  go_enter Tryd.func3, Tryd.ntmps3
  obtain ⟨zz_a, zz_b, lz0⟩ := rcell hall
  go_wp2_with fail
  refine (hw _ (hall)).mono ?_
  rintro e w1 ⟨rfl, hb1⟩
  have f_z1 := kp hb1 (hall)
  have hB1 := bB (b0 w) hb1
  clear zz_a zz_b
  obtain ⟨zz_a, zz_b, lz1⟩ := rcell f_z1
  go_wp2_with fail
  refine (c1 _ hB1).mono ?_
  rintro e wo ⟨A, c, rfl, hR, hbo⟩
  have hBo := bB hB1 hbo
  have f_zo := kp hbo f_z1
  clear hbo
  obtain ⟨zz_a, zz_b, lz2⟩ := rcell f_zo
  go_wp2_with fail
  refine (cA _ _ _ hR).mono ?_
  rintro e w3 ⟨rfl, hb3⟩
  have f_z3 := kp hb3 (f_zo)
  have rd_l3 := hR.below hb3
  have hB3 := bB hBo hb3
  clear zz_a zz_b
  obtain ⟨zz_a, zz_b, lz3⟩ := rcell f_z3
  go_wp2_with fail
  refine (cB _ _ _ (rd_l3.below (bA (bA (b0 _) (.cells #[.int .i64 0, .int .i64 0] 26)) (.cells #[.int .i64 0, .int .i64 0] 26)))).mono ?_
  rintro e w4 ⟨rfl, hb4⟩
  have f_z4 := kp hb4 (ka (ka (f_z3) (.cells #[.int .i64 0, .int .i64 0] 26)) (.cells #[.int .i64 0, .int .i64 0] 26))
  have f_a4 := kp hb4 (ka (na w3 #[.int .i64 0, .int .i64 0] 26) (.cells #[.int .i64 0, .int .i64 0] 26))
  have f_b4 := kp hb4 (na1 w3 (.cells #[.int .i64 0, .int .i64 0] 26) #[.int .i64 0, .int .i64 0] 26)
  have rd_l4 := (rd_l3.below (bA (bA (b0 _) (.cells #[.int .i64 0, .int .i64 0] 26)) (.cells #[.int .i64 0, .int .i64 0] 26))).below hb4
  have hB4 := bB (bA (bA hB3 (.cells #[.int .i64 0, .int .i64 0] 26)) (.cells #[.int .i64 0, .int .i64 0] 26)) hb4
  clear zz_a zz_b
  obtain ⟨zz_a, zz_b, lz4⟩ := rcell f_z4
  obtain ⟨za_a, za_b, la4⟩ := rcell f_a4
  obtain ⟨zb_a, zb_b, lb4⟩ := rcell f_b4
  go_wp2_with fail
  refine (cC _ _ _ (rd_l4.below (bA (b0 _) (.cells #[.int .i64 0, .int .i64 0, .int .i64 0, .int .i64 0] 31)))).mono ?_
  rintro e w5 ⟨rfl, hb5⟩
  have f_z5 := kp hb5 (ka (f_z4) (.cells #[.int .i64 0, .int .i64 0, .int .i64 0, .int .i64 0] 31))
  have f_a5 := kp hb5 (ka (f_a4) (.cells #[.int .i64 0, .int .i64 0, .int .i64 0, .int .i64 0] 31))
  have f_b5 := kp hb5 (ka (f_b4) (.cells #[.int .i64 0, .int .i64 0, .int .i64 0, .int .i64 0] 31))
  have f_y5 := kp hb5 (na w4 #[.int .i64 0, .int .i64 0, .int .i64 0, .int .i64 0] 31)
  have rd_l5 := (rd_l4.below (bA (b0 _) (.cells #[.int .i64 0, .int .i64 0, .int .i64 0, .int .i64 0] 31))).below hb5
  have hB5 := bB (bA hB4 (.cells #[.int .i64 0, .int .i64 0, .int .i64 0, .int .i64 0] 31)) hb5
  clear za_a za_b zb_a zb_b zz_a zz_b
  obtain ⟨zz_a, zz_b, lz5⟩ := rcell f_z5
  obtain ⟨za_a, za_b, la5⟩ := rcell f_a5
  obtain ⟨zb_a, zb_b, lb5⟩ := rcell f_b5
  obtain ⟨zy_a, zy_b, ly5⟩ := rcell f_y5
  go_wp2
  go_ret
  exact ⟨by first | rfl | simp, hB5⟩

set_option maxRecDepth 100000 in
set_option maxHeartbeats 2000000 in
theorem sfit_2 (X : Option Addr) (C : Nat) (xs ys : List Bd) (h1 : ys.length ≤ 257) (w : World) (hall : w.heap[0]? = some (.cells all4 ta (0, 0)))
    (c1 : ∀ w', Below w.heap.size w w' → Calls Tryd.prog 12 #[.slice X xs.length C, .int .i64 60] w' fun e w'' => ∃ A c, e = .returned (.slice A ys.length c) ∧ BR w'' A c ys ∧ Below w'.heap.size w' w'')
    (cA : ∀ A c w, w.heap[0]? = some (.cells all4 ta (0, 0)) → BR w A c ys → Calls Tryd.prog 13 #[.slice A ys.length c] w fun e w' => e = .returned (.tuple #[.agg #[.int .i64 0, .int .i64 0], .agg #[.int .i64 0, .int .i64 0], .int .i64 181]) ∧ Below w.heap.size w w')
    (cB : ∀ A c w, w.heap[0]? = some (.cells all4 ta (0, 0)) → BR w A c ys → Calls Tryd.prog 14 #[.slice A ys.length c] w fun e w' => e = .returned (.tuple #[.agg #[.int .i64 0, .int .i64 0, .int .i64 0, .int .i64 0], .int .i64 181]) ∧ Below w.heap.size w w')
    (cC : ∀ A c w, BR w A c ys → Calls Tryd.prog 15 #[.slice A ys.length c] w fun e w' => e = .returned (.bool true) ∧ Below w.heap.size w w')
    (cD : ∀ A c w, BR w A c ys → Calls Tryd.prog 17 #[.slice A ys.length c] w fun e w' => e = .returned (.tuple #[.agg #[.int .i64 0, .int .i64 0], .agg #[.int .i64 0, .int .i64 0], .bool false]) ∧ Below w.heap.size w w') :
    Calls Tryd.prog 3 #[.slice X xs.length C] w fun e w' => e = .returned (.bool true) ∧ Below w.heap.size w w' := by
  have hw := fun w (ha : w.heap[0]? = some (.cells all4 ta (0, 0))) => wakesA w ha
  go_enter Tryd.func3, Tryd.ntmps3
  obtain ⟨zz_a, zz_b, lz0⟩ := rcell hall
  go_wp2_with fail
  refine (hw _ (hall)).mono ?_
  rintro e w1 ⟨rfl, hb1⟩
  have f_z1 := kp hb1 (hall)
  have hB1 := bB (b0 w) hb1
  clear zz_a zz_b
  obtain ⟨zz_a, zz_b, lz1⟩ := rcell f_z1
  go_wp2_with fail
  refine (c1 _ hB1).mono ?_
  rintro e wo ⟨A, c, rfl, hR, hbo⟩
  have hBo := bB hB1 hbo
  have f_zo := kp hbo f_z1
  clear hbo
  obtain ⟨zz_a, zz_b, lz2⟩ := rcell f_zo
  go_wp2_with fail
  refine (cA _ _ _ (f_zo) hR).mono ?_
  rintro e w3 ⟨rfl, hb3⟩
  have f_z3 := kp hb3 (f_zo)
  have rd_l3 := hR.below hb3
  have hB3 := bB hBo hb3
  clear zz_a zz_b
  obtain ⟨zz_a, zz_b, lz3⟩ := rcell f_z3
  go_wp2_with fail
  refine (cB _ _ _ (ka (ka (f_z3) (.cells #[.int .i64 0, .int .i64 0] 26)) (.cells #[.int .i64 0, .int .i64 0] 26)) (rd_l3.below (bA (bA (b0 _) (.cells #[.int .i64 0, .int .i64 0] 26)) (.cells #[.int .i64 0, .int .i64 0] 26)))).mono ?_
  rintro e w4 ⟨rfl, hb4⟩
  have f_z4 := kp hb4 (ka (ka (f_z3) (.cells #[.int .i64 0, .int .i64 0] 26)) (.cells #[.int .i64 0, .int .i64 0] 26))
  have f_a4 := kp hb4 (ka (na w3 #[.int .i64 0, .int .i64 0] 26) (.cells #[.int .i64 0, .int .i64 0] 26))
  have f_b4 := kp hb4 (na1 w3 (.cells #[.int .i64 0, .int .i64 0] 26) #[.int .i64 0, .int .i64 0] 26)
  have rd_l4 := (rd_l3.below (bA (bA (b0 _) (.cells #[.int .i64 0, .int .i64 0] 26)) (.cells #[.int .i64 0, .int .i64 0] 26))).below hb4
  have hB4 := bB (bA (bA hB3 (.cells #[.int .i64 0, .int .i64 0] 26)) (.cells #[.int .i64 0, .int .i64 0] 26)) hb4
  clear zz_a zz_b
  obtain ⟨zz_a, zz_b, lz4⟩ := rcell f_z4
  obtain ⟨za_a, za_b, la4⟩ := rcell f_a4
  obtain ⟨zb_a, zb_b, lb4⟩ := rcell f_b4
  go_wp2_with fail
  refine (cC _ _ _ (rd_l4.below (bA (b0 _) (.cells #[.int .i64 0, .int .i64 0, .int .i64 0, .int .i64 0] 31)))).mono ?_
  rintro e w5 ⟨rfl, hb5⟩
  have f_z5 := kp hb5 (ka (f_z4) (.cells #[.int .i64 0, .int .i64 0, .int .i64 0, .int .i64 0] 31))
  have f_a5 := kp hb5 (ka (f_a4) (.cells #[.int .i64 0, .int .i64 0, .int .i64 0, .int .i64 0] 31))
  have f_b5 := kp hb5 (ka (f_b4) (.cells #[.int .i64 0, .int .i64 0, .int .i64 0, .int .i64 0] 31))
  have f_y5 := kp hb5 (na w4 #[.int .i64 0, .int .i64 0, .int .i64 0, .int .i64 0] 31)
  have rd_l5 := (rd_l4.below (bA (b0 _) (.cells #[.int .i64 0, .int .i64 0, .int .i64 0, .int .i64 0] 31))).below hb5
  have hB5 := bB (bA hB4 (.cells #[.int .i64 0, .int .i64 0, .int .i64 0, .int .i64 0] 31)) hb5
  clear za_a za_b zb_a zb_b zz_a zz_b
  obtain ⟨zz_a, zz_b, lz5⟩ := rcell f_z5
  obtain ⟨za_a, za_b, la5⟩ := rcell f_a5
  obtain ⟨zb_a, zb_b, lb5⟩ := rcell f_b5
  obtain ⟨zy_a, zy_b, ly5⟩ := rcell f_y5
  have RB := hide rd_l5
  go_wp2_with fail
  refine (c1 _ hB5).mono ?_
  rintro e wp ⟨A', c', rfl, hR', hbp⟩
  have hBp := bB hB5 hbp
  have f_ap := kp hbp (f_a5)
  have f_bp := kp hbp (f_b5)
  have f_yp := kp hbp (f_y5)
  have RC := hide (RB.out.below hbp)
  clear c1 hw RB hbp
  obtain ⟨za_a, za_b, la6⟩ := rcell f_ap
  obtain ⟨zb_a, zb_b, lb7⟩ := rcell f_bp
  obtain ⟨zy_a, zy_b, ly8⟩ := rcell f_yp
  go_wp2_with fail
  refine (equal_two _ _ _ _ ys (by omega) _ RC.out hR').mono ?_
  rintro e w9 ⟨rfl, hb9⟩
  have f_a9 := kp hb9 (f_ap)
  have f_b9 := kp hb9 (f_bp)
  have f_y9 := kp hb9 (f_yp)
  have rd_l9 := RC.out.below hb9
  have hB9 := bB hBp hb9
  clear za_a za_b zb_a zb_b zy_a zy_b
  obtain ⟨za_a, za_b, la9⟩ := rcell f_a9
  obtain ⟨zb_a, zb_b, lb9⟩ := rcell f_b9
  obtain ⟨zy_a, zy_b, ly9⟩ := rcell f_y9
  go_wp2_with fail
  refine (cD _ _ _ rd_l9).mono ?_
  rintro e w10 ⟨rfl, hb10⟩
  have f_a10 := kp hb10 (f_a9)
  have f_b10 := kp hb10 (f_b9)
  have f_y10 := kp hb10 (f_y9)
  have rd_l10 := rd_l9.below hb10
  have hB10 := bB hB9 hb10
  clear za_a za_b zb_a zb_b zy_a zy_b
  obtain ⟨za_a, za_b, la10⟩ := rcell f_a10
  obtain ⟨zb_a, zb_b, lb10⟩ := rcell f_b10
  obtain ⟨zy_a, zy_b, ly10⟩ := rcell f_y10
  go_wp2
  go_ret
  exact ⟨by first | rfl | simp, (bA (bA hB10 (.cells #[.int .i64 0, .int .i64 0] 26)) (.cells #[.int .i64 0, .int .i64 0] 26))⟩

set_option maxRecDepth 100000 in
set_option maxHeartbeats 2000000 in
theorem sfit_3 (x0 x1 x2 x3 q0 q1 q2 q3 : Int) (X : Option Addr) (C : Nat) (xs ys : List Bd) (h1 : ys.length ≤ 257) (w : World) (hall : w.heap[0]? = some (.cells all4 ta (0, 0)))
    (c1 : ∀ w', Below w.heap.size w w' → Calls Tryd.prog 12 #[.slice X xs.length C, .int .i64 60] w' fun e w'' => ∃ A c, e = .returned (.slice A ys.length c) ∧ BR w'' A c ys ∧ Below w'.heap.size w' w'')
    (cA : ∀ A c w, w.heap[0]? = some (.cells all4 ta (0, 0)) → BR w A c ys → Calls Tryd.prog 13 #[.slice A ys.length c] w fun e w' => e = .returned (.tuple #[.agg #[.int .i64 x0, .int .i64 x1], .agg #[.int .i64 x2, .int .i64 x3], .int .i64 0]) ∧ Below w.heap.size w w')
    (cB : ∀ A c w, w.heap[0]? = some (.cells all4 ta (0, 0)) → BR w A c ys → Calls Tryd.prog 14 #[.slice A ys.length c] w fun e w' => e = .returned (.tuple #[.agg #[.int .i64 q0, .int .i64 q1, .int .i64 q2, .int .i64 q3], .int .i64 0]) ∧ Below w.heap.size w w')
    (cC : ∀ A c w, BR w A c ys → Calls Tryd.prog 15 #[.slice A ys.length c] w fun e w' => e = .returned (.bool true) ∧ Below w.heap.size w w')
    (cD : ∀ A c w, BR w A c ys → Calls Tryd.prog 17 #[.slice A ys.length c] w fun e w' => e = .returned (.tuple #[.agg #[.int .i64 x0, .int .i64 x1], .agg #[.int .i64 x2, .int .i64 x3], .bool true]) ∧ Below w.heap.size w w')
    (cE : ∀ A c w, BR w A c ys → Calls Tryd.prog 18 #[.slice A ys.length c] w fun e w' => e = .returned (.tuple #[.agg #[.int .i64 q0, .int .i64 q1, .int .i64 q2, .int .i64 q3], .bool true]) ∧ Below w.heap.size w w') :
    Calls Tryd.prog 3 #[.slice X xs.length C] w fun e w' => e = .returned (.bool true) ∧ Below w.heap.size w w' := by
  have hw := fun w (ha : w.heap[0]? = some (.cells all4 ta (0, 0))) => wakesA w ha
  go_enter Tryd.func3, Tryd.ntmps3
  obtain ⟨zz_a, zz_b, lz0⟩ := rcell hall
  go_wp2_with fail
  refine (hw _ (hall)).mono ?_
  rintro e w1 ⟨rfl, hb1⟩
  have f_z1 := kp hb1 (hall)
  have hB1 := bB (b0 w) hb1
  clear zz_a zz_b
  obtain ⟨zz_a, zz_b, lz1⟩ := rcell f_z1
  go_wp2_with fail
  refine (c1 _ hB1).mono ?_
  rintro e wo ⟨A, c, rfl, hR, hbo⟩
  have hBo := bB hB1 hbo
  have f_zo := kp hbo f_z1
  clear hbo
  obtain ⟨zz_a, zz_b, lz2⟩ := rcell f_zo
  go_wp2_with fail
  refine (cA _ _ _ (f_zo) hR).mono ?_
  rintro e w3 ⟨rfl, hb3⟩
  have f_z3 := kp hb3 (f_zo)
  have rd_l3 := hR.below hb3
  have hB3 := bB hBo hb3
  clear zz_a zz_b
  obtain ⟨zz_a, zz_b, lz3⟩ := rcell f_z3
  go_wp2_with fail
  refine (cB _ _ _ (ka (ka (f_z3) (.cells #[.int .i64 x0, .int .i64 x1] 26)) (.cells #[.int .i64 x2, .int .i64 x3] 26)) (rd_l3.below (bA (bA (b0 _) (.cells #[.int .i64 x0, .int .i64 x1] 26)) (.cells #[.int .i64 x2, .int .i64 x3] 26)))).mono ?_
  rintro e w4 ⟨rfl, hb4⟩
  have f_z4 := kp hb4 (ka (ka (f_z3) (.cells #[.int .i64 x0, .int .i64 x1] 26)) (.cells #[.int .i64 x2, .int .i64 x3] 26))
  have f_a4 := kp hb4 (ka (na w3 #[.int .i64 x0, .int .i64 x1] 26) (.cells #[.int .i64 x2, .int .i64 x3] 26))
  have f_b4 := kp hb4 (na1 w3 (.cells #[.int .i64 x0, .int .i64 x1] 26) #[.int .i64 x2, .int .i64 x3] 26)
  have rd_l4 := (rd_l3.below (bA (bA (b0 _) (.cells #[.int .i64 x0, .int .i64 x1] 26)) (.cells #[.int .i64 x2, .int .i64 x3] 26))).below hb4
  have hB4 := bB (bA (bA hB3 (.cells #[.int .i64 x0, .int .i64 x1] 26)) (.cells #[.int .i64 x2, .int .i64 x3] 26)) hb4
  clear zz_a zz_b
  obtain ⟨zz_a, zz_b, lz4⟩ := rcell f_z4
  obtain ⟨za_a, za_b, la4⟩ := rcell f_a4
  obtain ⟨zb_a, zb_b, lb4⟩ := rcell f_b4
  go_wp2_with fail
  refine (cC _ _ _ (rd_l4.below (bA (b0 _) (.cells #[.int .i64 q0, .int .i64 q1, .int .i64 q2, .int .i64 q3] 31)))).mono ?_
  rintro e w5 ⟨rfl, hb5⟩
  have f_z5 := kp hb5 (ka (f_z4) (.cells #[.int .i64 q0, .int .i64 q1, .int .i64 q2, .int .i64 q3] 31))
  have f_a5 := kp hb5 (ka (f_a4) (.cells #[.int .i64 q0, .int .i64 q1, .int .i64 q2, .int .i64 q3] 31))
  have f_b5 := kp hb5 (ka (f_b4) (.cells #[.int .i64 q0, .int .i64 q1, .int .i64 q2, .int .i64 q3] 31))
  have f_y5 := kp hb5 (na w4 #[.int .i64 q0, .int .i64 q1, .int .i64 q2, .int .i64 q3] 31)
  have rd_l5 := (rd_l4.below (bA (b0 _) (.cells #[.int .i64 q0, .int .i64 q1, .int .i64 q2, .int .i64 q3] 31))).below hb5
  have hB5 := bB (bA hB4 (.cells #[.int .i64 q0, .int .i64 q1, .int .i64 q2, .int .i64 q3] 31)) hb5
  clear za_a za_b zb_a zb_b zz_a zz_b
  obtain ⟨zz_a, zz_b, lz5⟩ := rcell f_z5
  obtain ⟨za_a, za_b, la5⟩ := rcell f_a5
  obtain ⟨zb_a, zb_b, lb5⟩ := rcell f_b5
  obtain ⟨zy_a, zy_b, ly5⟩ := rcell f_y5
  have RB := hide rd_l5
  go_wp2_with fail
  refine (c1 _ hB5).mono ?_
  rintro e wp ⟨A', c', rfl, hR', hbp⟩
  have hBp := bB hB5 hbp
  have f_ap := kp hbp (f_a5)
  have f_bp := kp hbp (f_b5)
  have f_yp := kp hbp (f_y5)
  have RC := hide (RB.out.below hbp)
  clear c1 hw RB hbp
  obtain ⟨za_a, za_b, la6⟩ := rcell f_ap
  obtain ⟨zb_a, zb_b, lb7⟩ := rcell f_bp
  obtain ⟨zy_a, zy_b, ly8⟩ := rcell f_yp
  go_wp2_with fail
  refine (equal_two _ _ _ _ ys (by omega) _ RC.out hR').mono ?_
  rintro e w9 ⟨rfl, hb9⟩
  have f_a9 := kp hb9 (f_ap)
  have f_b9 := kp hb9 (f_bp)
  have f_y9 := kp hb9 (f_yp)
  have rd_l9 := RC.out.below hb9
  have hB9 := bB hBp hb9
  clear za_a za_b zb_a zb_b zy_a zy_b
  obtain ⟨za_a, za_b, la9⟩ := rcell f_a9
  obtain ⟨zb_a, zb_b, lb9⟩ := rcell f_b9
  obtain ⟨zy_a, zy_b, ly9⟩ := rcell f_y9
  go_wp2_with fail
  refine (cD _ _ _ rd_l9).mono ?_
  rintro e w10 ⟨rfl, hb10⟩
  have f_a10 := kp hb10 (f_a9)
  have f_b10 := kp hb10 (f_b9)
  have f_y10 := kp hb10 (f_y9)
  have rd_l10 := rd_l9.below hb10
  have hB10 := bB hB9 hb10
  clear za_a za_b zb_a zb_b zy_a zy_b
  obtain ⟨za_a, za_b, la10⟩ := rcell f_a10
  obtain ⟨zb_a, zb_b, lb10⟩ := rcell f_b10
  obtain ⟨zy_a, zy_b, ly10⟩ := rcell f_y10
  go_wp2_with fail
  refine (cE _ _ _ (rd_l10.below (bA (bA (b0 _) (.cells #[.int .i64 x0, .int .i64 x1] 26)) (.cells #[.int .i64 x2, .int .i64 x3] 26)))).mono ?_
  rintro e w11 ⟨rfl, hb11⟩
  have f_a11 := kp hb11 (ka (ka (f_a10) (.cells #[.int .i64 x0, .int .i64 x1] 26)) (.cells #[.int .i64 x2, .int .i64 x3] 26))
  have f_b11 := kp hb11 (ka (ka (f_b10) (.cells #[.int .i64 x0, .int .i64 x1] 26)) (.cells #[.int .i64 x2, .int .i64 x3] 26))
  have f_y11 := kp hb11 (ka (ka (f_y10) (.cells #[.int .i64 x0, .int .i64 x1] 26)) (.cells #[.int .i64 x2, .int .i64 x3] 26))
  have f_p11 := kp hb11 (ka (na w10 #[.int .i64 x0, .int .i64 x1] 26) (.cells #[.int .i64 x2, .int .i64 x3] 26))
  have f_q11 := kp hb11 (na1 w10 (.cells #[.int .i64 x0, .int .i64 x1] 26) #[.int .i64 x2, .int .i64 x3] 26)
  have rd_l11 := (rd_l10.below (bA (bA (b0 _) (.cells #[.int .i64 x0, .int .i64 x1] 26)) (.cells #[.int .i64 x2, .int .i64 x3] 26))).below hb11
  have hB11 := bB (bA (bA hB10 (.cells #[.int .i64 x0, .int .i64 x1] 26)) (.cells #[.int .i64 x2, .int .i64 x3] 26)) hb11
  clear za_a za_b zb_a zb_b zy_a zy_b
  obtain ⟨za_a, za_b, la11⟩ := rcell f_a11
  obtain ⟨zb_a, zb_b, lb11⟩ := rcell f_b11
  obtain ⟨zy_a, zy_b, ly11⟩ := rcell f_y11
  obtain ⟨zp_a, zp_b, lp11⟩ := rcell f_p11
  obtain ⟨zq_a, zq_b, lq11⟩ := rcell f_q11
  go_wp2
  go_ret
  exact ⟨by first | rfl | simp, (bA hB11 (.cells #[.int .i64 q0, .int .i64 q1, .int .i64 q2, .int .i64 q3] 31))⟩

theorem slide_fits (X : Option Addr) (C : Nat) (xs : List Bd) (hn : xs.length ≤ C) (w : World) (hall : w.heap[0]? = some (.cells all4 ta (0, 0))) (hX : InB w X xs) :
    Calls Tryd.prog 3 #[.slice X xs.length C] w fun e w' => e = .returned (.bool true) ∧ Below w.heap.size w w' := by
  have c1 := fun w' (hb : Below w.heap.size w w') => law10_few X C 60 xs (by decide) hn w' (hX.below hb)
  have h1 : (xs.take 60).length ≤ 60 := by rw [List.length_take]; omega
  generalize xs.take 60 = ys at *
  have c2 := fun A c w hR => ref10_Right A c ys w hR
  cases h : okB ys
  · rw [h] at c2
    exact sfit_1 X C xs ys (by omega) w hall c1 (fun A c w hR => slide_Slopes_no A c ys h w hR) (fun A c w hR => slide_Fit_no A c ys h w hR) c2
  · rw [h] at c2
    cases ho : slOpen (sk ys ys.length)
    · exact sfit_2 X C xs ys (by omega) w hall c1 (fun A c w ha hR => slide_Slopes_shut A c ys h ho w ha hR) (fun A c w ha hR => slide_Fit_shut A c ys h ho w ha hR) c2
        (fun A c w hR => ref10_Slopes A c ys h false ho 0 0 0 0 (fun _ => ⟨rfl, rfl, rfl, rfl⟩) (fun e => by cases e) w hR)
    · exact sfit_3 _ _ _ _ _ _ _ _ X C xs ys (by omega) w hall c1 (fun A c w ha hR => slide_Slopes_yes A c ys h ho w ha hR) (fun A c w ha hR => slide_Fit_yes A c ys h ho w ha hR) c2
        (fun A c w hR => ref10_Slopes A c ys h true ho _ _ _ _ (fun e => by cases e) (fun _ => ⟨rfl, rfl, rfl, rfl⟩) w hR) (fun A c w hR => ref10_Fit_yes A c ys h ho w hR)
end Go.Proofs.YtpimkigbdjfjoaaDoor
