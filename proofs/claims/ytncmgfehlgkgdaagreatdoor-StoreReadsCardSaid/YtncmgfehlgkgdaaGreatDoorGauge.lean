/- Readings, turned into whole numbers, at this program: symbolic runs, printed by a program. -/
import Derived.Test.YtncmgfehlgkgdaaGreatDoorOkC
import Derived.Test.YtncmgfehlgkgdaaGreatDoorSy
set_option linter.unusedSimpArgs false
set_option linter.unusedVariables false
set_option linter.unusedSectionVars false
namespace Go.Proofs.Tryz
open Go.Proofs.Ex Go.RowKit

noncomputable def gKindT0 : Tabs := ⟨[(12, 70, aI 0, aI 0, .bool true)], [], [], [], [], []⟩
theorem gKindr0 : outB (.int .i64 (1)) .nil 2 (runA prog (symL xL gKindT0) 27 [aI 0] 5000) = true := by kernel_rfl
noncomputable def gKindT1 : Tabs := ⟨[(12, 70, aI 0, aI 0, .bool false), (15, 70, aI 0, .float .f64 9218868437227405311, .bool true)], [], [], [], [], []⟩
theorem gKindr1 : outB (.int .i64 (2)) .nil 2 (runA prog (symL xL gKindT1) 27 [aI 0] 5000) = true := by kernel_rfl
noncomputable def gKindT2 : Tabs := ⟨[(12, 70, aI 0, aI 0, .bool false), (15, 70, aI 0, .float .f64 9218868437227405311, .bool false), (13, 70, aI 0, .float .f64 18442240474082181119, .bool true)], [], [], [], [], []⟩
theorem gKindr2 : outB (.int .i64 (2)) .nil 2 (runA prog (symL xL gKindT2) 27 [aI 0] 5000) = true := by kernel_rfl
noncomputable def gKindT3 : Tabs := ⟨[(12, 70, aI 0, aI 0, .bool false), (15, 70, aI 0, .float .f64 9218868437227405311, .bool false), (13, 70, aI 0, .float .f64 18442240474082181119, .bool false), (11, 70, aI 0, .float .f64 0, .bool true)], [], [], [], [], []⟩
theorem gKindr3 : outB (.int .i64 (3)) .nil 2 (runA prog (symL xL gKindT3) 27 [aI 0] 5000) = true := by kernel_rfl
noncomputable def gKindT4 : Tabs := ⟨[(12, 70, aI 0, aI 0, .bool false), (15, 70, aI 0, .float .f64 9218868437227405311, .bool false), (13, 70, aI 0, .float .f64 18442240474082181119, .bool false), (11, 70, aI 0, .float .f64 0, .bool false), (10, 22, aI 1, .int .u64 (52), aI 2), (5, 22, aI 2, .int .u64 (2047), aI 3), (11, 22, aI 3, .int .u64 (0), .bool true)], [], [], [(84, [aI 0], aI 1)], [], []⟩
theorem gKindr4 : outB (.int .i64 (4)) .nil 2 (runA prog (symL xL gKindT4) 27 [aI 0] 5000) = true := by kernel_rfl
noncomputable def gKindT5 : Tabs := ⟨[(12, 70, aI 0, aI 0, .bool false), (15, 70, aI 0, .float .f64 9218868437227405311, .bool false), (13, 70, aI 0, .float .f64 18442240474082181119, .bool false), (11, 70, aI 0, .float .f64 0, .bool false), (10, 22, aI 1, .int .u64 (52), aI 2), (5, 22, aI 2, .int .u64 (2047), aI 3), (11, 22, aI 3, .int .u64 (0), .bool false)], [], [], [(84, [aI 0], aI 1)], [], []⟩
theorem gKindr5 : outB (.int .i64 (5)) .nil 2 (runA prog (symL xL gKindT5) 27 [aI 0] 5000) = true := by kernel_rfl
set_option maxRecDepth 100000 in
theorem gKind (a0 : Nat) :
    ∃ k : Int, ∀ w, Calls prog 27 #[.float .f64 a0] w fun e w' => e = .returned (.int .i64 k) ∧ Below w.heap.size w w' := by
  cases c1_0 : cmF 12 a0 a0 with
  | true =>
    refine ⟨1, fun w => ?_⟩
    letI : Sg := ⟨fun i => ([.float .f64 a0] : List Value)[i]?⟩
    exact symCalls (T := gKindT0) xfollows xL_ok ⟨All.mem (.cons (EB.cf (.atom rfl rfl) (.atom rfl rfl) rfl c1_0) .nil), All.mem .nil, All.mem .nil, All.mem .nil, All.mem .nil, All.mem .nil⟩ gKindr0 (.cons (.atom rfl rfl) .nil) (.int _ _) w
  | false =>
    cases c2_1 : cmF 15 a0 9218868437227405311 with
    | true =>
      refine ⟨2, fun w => ?_⟩
      letI : Sg := ⟨fun i => ([.float .f64 a0] : List Value)[i]?⟩
      exact symCalls (T := gKindT1) xfollows xL_ok ⟨All.mem (.cons (EB.cf (.atom rfl rfl) (.atom rfl rfl) rfl c1_0) (.cons (EB.cf (.atom rfl rfl) (.closed rfl) rfl c2_1) .nil)), All.mem .nil, All.mem .nil, All.mem .nil, All.mem .nil, All.mem .nil⟩ gKindr1 (.cons (.atom rfl rfl) .nil) (.int _ _) w
    | false =>
      cases c3_2 : cmF 13 a0 18442240474082181119 with
      | true =>
        refine ⟨2, fun w => ?_⟩
        letI : Sg := ⟨fun i => ([.float .f64 a0] : List Value)[i]?⟩
        exact symCalls (T := gKindT2) xfollows xL_ok ⟨All.mem (.cons (EB.cf (.atom rfl rfl) (.atom rfl rfl) rfl c1_0) (.cons (EB.cf (.atom rfl rfl) (.closed rfl) rfl c2_1) (.cons (EB.cf (.atom rfl rfl) (.closed rfl) rfl c3_2) .nil))), All.mem .nil, All.mem .nil, All.mem .nil, All.mem .nil, All.mem .nil⟩ gKindr2 (.cons (.atom rfl rfl) .nil) (.int _ _) w
      | false =>
        cases c4_3 : cmF 11 a0 0 with
        | true =>
          refine ⟨3, fun w => ?_⟩
          letI : Sg := ⟨fun i => ([.float .f64 a0] : List Value)[i]?⟩
          exact symCalls (T := gKindT3) xfollows xL_ok ⟨All.mem (.cons (EB.cf (.atom rfl rfl) (.atom rfl rfl) rfl c1_0) (.cons (EB.cf (.atom rfl rfl) (.closed rfl) rfl c2_1) (.cons (EB.cf (.atom rfl rfl) (.closed rfl) rfl c3_2) (.cons (EB.cf (.atom rfl rfl) (.closed rfl) rfl c4_3) .nil)))), All.mem .nil, All.mem .nil, All.mem .nil, All.mem .nil, All.mem .nil⟩ gKindr3 (.cons (.atom rfl rfl) .nil) (.int _ _) w
        | false =>
          obtain ⟨a1, e1⟩ : ∃ z : Int, z = (a0 : Nat) := ⟨_, rfl⟩
          have p1 : 0 ≤ a1 := by omega
          obtain ⟨a2, e2⟩ : ∃ z : Int, z = opI 10 .u64 a1 (52) := ⟨_, rfl⟩
          have p2 : 0 ≤ a2 := by rw [e2]; exact fdiv_nn (x := a1) (by omega) _
          obtain ⟨a3, e3⟩ : ∃ z : Int, z = opI 5 .u64 a2 (2047) := ⟨_, rfl⟩
          have p3 : 0 ≤ a3 := by rw [e3]; exact wrap_u64_nonneg _
          have q3 : a3 ≤ 2047 := by rw [e3]; exact opI_and_le _ _ (by decide) (by decide)
          cases c5_4 : cmI 11 a3 (0) with
          | true =>
            have dc5_4 := cm11t c5_4
            refine ⟨4, fun w => ?_⟩
            letI : Sg := ⟨fun i => ([.float .f64 a0, .int .u64 a1, .int .u64 a2, .int .u64 a3] : List Value)[i]?⟩
            exact symCalls (T := gKindT4) xfollows xL_ok ⟨All.mem (.cons (EB.cf (.atom rfl rfl) (.atom rfl rfl) rfl c1_0) (.cons (EB.cf (.atom rfl rfl) (.closed rfl) rfl c2_1) (.cons (EB.cf (.atom rfl rfl) (.closed rfl) rfl c3_2) (.cons (EB.cf (.atom rfl rfl) (.closed rfl) rfl c4_3) (.cons (EB.sh (.atom rfl rfl) (.int _ _) (by decide) (by omega) (e2 ▸ Is.atom (v' := .int .u64 a2) rfl rfl)) (.cons (EB.ar (.atom rfl rfl) (.int _ _) rfl (e3 ▸ Is.atom (v' := .int .u64 a3) rfl rfl)) (.cons (EB.cm (.atom rfl rfl) (.int _ _) rfl c5_4) .nil))))))), All.mem .nil, All.mem .nil, All.mem (.cons (.of (.cons (.atom rfl rfl) .nil) (e1 ▸ Is.atom (v' := .int .u64 a1) rfl rfl) (fun w => e1 ▸ bits_run a0 w)) .nil), All.mem .nil, All.mem .nil⟩ gKindr4 (.cons (.atom rfl rfl) .nil) (.int _ _) w
          | false =>
            have dc5_4 := cm11f c5_4
            refine ⟨5, fun w => ?_⟩
            letI : Sg := ⟨fun i => ([.float .f64 a0, .int .u64 a1, .int .u64 a2, .int .u64 a3] : List Value)[i]?⟩
            exact symCalls (T := gKindT5) xfollows xL_ok ⟨All.mem (.cons (EB.cf (.atom rfl rfl) (.atom rfl rfl) rfl c1_0) (.cons (EB.cf (.atom rfl rfl) (.closed rfl) rfl c2_1) (.cons (EB.cf (.atom rfl rfl) (.closed rfl) rfl c3_2) (.cons (EB.cf (.atom rfl rfl) (.closed rfl) rfl c4_3) (.cons (EB.sh (.atom rfl rfl) (.int _ _) (by decide) (by omega) (e2 ▸ Is.atom (v' := .int .u64 a2) rfl rfl)) (.cons (EB.ar (.atom rfl rfl) (.int _ _) rfl (e3 ▸ Is.atom (v' := .int .u64 a3) rfl rfl)) (.cons (EB.cm (.atom rfl rfl) (.int _ _) rfl c5_4) .nil))))))), All.mem .nil, All.mem .nil, All.mem (.cons (.of (.cons (.atom rfl rfl) .nil) (e1 ▸ Is.atom (v' := .int .u64 a1) rfl rfl) (fun w => e1 ▸ bits_run a0 w)) .nil), All.mem .nil, All.mem .nil⟩ gKindr5 (.cons (.atom rfl rfl) .nil) (.int _ _) w
noncomputable def gReadT0 : Tabs := ⟨[(10, 22, aI 1, .int .u64 (52), aI 2), (5, 22, aI 2, .int .u64 (2047), aI 3), (10, 22, aI 1, .int .u64 (63), aI 5), (11, 22, aI 5, .int .u64 (1), .bool true), (5, 22, aI 1, .int .u64 (4503599627370495), aI 6), (1, 3, aI 4, .int .i64 (1075), aI 7), (11, 3, aI 4, .int .i64 (0), .bool true)], [(22, 3, aI 3, aI 4)], [], [(84, [aI 0], aI 1)], [], []⟩
theorem gReadr0 : outB (.agg #[.bool true, aI 6, .int .i64 (-1074), aI 0]) .nil 2 (runA prog (symL xL gReadT0) 29 [aI 0] 5000) = true := by kernel_rfl
noncomputable def gReadT1 : Tabs := ⟨[(10, 22, aI 1, .int .u64 (52), aI 2), (5, 22, aI 2, .int .u64 (2047), aI 3), (10, 22, aI 1, .int .u64 (63), aI 5), (11, 22, aI 5, .int .u64 (1), .bool true), (5, 22, aI 1, .int .u64 (4503599627370495), aI 6), (1, 3, aI 4, .int .i64 (1075), aI 7), (11, 3, aI 4, .int .i64 (0), .bool false), (6, 22, aI 6, .int .u64 (4503599627370496), aI 8)], [(22, 3, aI 3, aI 4)], [], [(84, [aI 0], aI 1)], [], []⟩
theorem gReadr1 : outB (.agg #[.bool true, aI 8, aI 7, aI 0]) .nil 2 (runA prog (symL xL gReadT1) 29 [aI 0] 5000) = true := by kernel_rfl
noncomputable def gReadT2 : Tabs := ⟨[(10, 22, aI 1, .int .u64 (52), aI 2), (5, 22, aI 2, .int .u64 (2047), aI 3), (10, 22, aI 1, .int .u64 (63), aI 5), (11, 22, aI 5, .int .u64 (1), .bool false), (5, 22, aI 1, .int .u64 (4503599627370495), aI 6), (1, 3, aI 4, .int .i64 (1075), aI 7), (11, 3, aI 4, .int .i64 (0), .bool true)], [(22, 3, aI 3, aI 4)], [], [(84, [aI 0], aI 1)], [], []⟩
theorem gReadr2 : outB (.agg #[.bool false, aI 6, .int .i64 (-1074), aI 0]) .nil 2 (runA prog (symL xL gReadT2) 29 [aI 0] 5000) = true := by kernel_rfl
noncomputable def gReadT3 : Tabs := ⟨[(10, 22, aI 1, .int .u64 (52), aI 2), (5, 22, aI 2, .int .u64 (2047), aI 3), (10, 22, aI 1, .int .u64 (63), aI 5), (11, 22, aI 5, .int .u64 (1), .bool false), (5, 22, aI 1, .int .u64 (4503599627370495), aI 6), (1, 3, aI 4, .int .i64 (1075), aI 7), (11, 3, aI 4, .int .i64 (0), .bool false), (6, 22, aI 6, .int .u64 (4503599627370496), aI 8)], [(22, 3, aI 3, aI 4)], [], [(84, [aI 0], aI 1)], [], []⟩
theorem gReadr3 : outB (.agg #[.bool false, aI 8, aI 7, aI 0]) .nil 2 (runA prog (symL xL gReadT3) 29 [aI 0] 5000) = true := by kernel_rfl
set_option maxRecDepth 100000 in
theorem gRead (a0 : Nat) :
    ∃ (b : Bool) (f x : Int), (0 ≤ f ∧ -1075 ≤ x ∧ x ≤ 972) ∧ ∀ w, Calls prog 29 #[.float .f64 a0] w fun e w' => e = .returned (.agg #[.bool b, .int .u64 f, .int .i64 x, .float .f64 a0]) ∧ Below w.heap.size w w' := by
  obtain ⟨a1, e1⟩ : ∃ z : Int, z = (a0 : Nat) := ⟨_, rfl⟩
  have p1 : 0 ≤ a1 := by omega
  obtain ⟨a2, e2⟩ : ∃ z : Int, z = opI 10 .u64 a1 (52) := ⟨_, rfl⟩
  have p2 : 0 ≤ a2 := by rw [e2]; exact fdiv_nn (x := a1) (by omega) _
  obtain ⟨a3, e3⟩ : ∃ z : Int, z = opI 5 .u64 a2 (2047) := ⟨_, rfl⟩
  have p3 : 0 ≤ a3 := by rw [e3]; exact wrap_u64_nonneg _
  have q3 : a3 ≤ 2047 := by rw [e3]; exact opI_and_le _ _ (by decide) (by decide)
  obtain ⟨a4, e4⟩ : ∃ z : Int, z = IntKind.i64.wrap a3 := ⟨_, rfl⟩
  have s4 : a4 = a3 := by rw [e4]; exact wrap_i64 (by omega) (by omega)
  obtain ⟨a5, e5⟩ : ∃ z : Int, z = opI 10 .u64 a1 (63) := ⟨_, rfl⟩
  have p5 : 0 ≤ a5 := by rw [e5]; exact fdiv_nn (x := a1) (by omega) _
  cases c1_0 : cmI 11 a5 (1) with
  | true =>
    have dc1_0 := cm11t c1_0
    obtain ⟨a6, e6⟩ : ∃ z : Int, z = opI 5 .u64 a1 (4503599627370495) := ⟨_, rfl⟩
    have p6 : 0 ≤ a6 := by rw [e6]; exact wrap_u64_nonneg _
    have q6 : a6 ≤ 4503599627370495 := by rw [e6]; exact opI_and_le _ _ (by decide) (by decide)
    obtain ⟨a7, e7⟩ : ∃ z : Int, z = opI 1 .i64 a4 (1075) := ⟨_, rfl⟩
    have s7 : a7 = a4 - (1075) := by rw [e7]; exact wrap_i64 (by omega) (by omega)
    cases c2_0 : cmI 11 a4 (0) with
    | true =>
      have dc2_0 := cm11t c2_0
      refine ⟨true, a6, (-1074), by omega, fun w => ?_⟩
      letI : Sg := ⟨fun i => ([.float .f64 a0, .int .u64 a1, .int .u64 a2, .int .u64 a3, .int .i64 a4, .int .u64 a5, .int .u64 a6, .int .i64 a7] : List Value)[i]?⟩
      exact symCalls (T := gReadT0) xfollows xL_ok ⟨All.mem (.cons (EB.sh (.atom rfl rfl) (.int _ _) (by decide) (by omega) (e2 ▸ Is.atom (v' := .int .u64 a2) rfl rfl)) (.cons (EB.ar (.atom rfl rfl) (.int _ _) rfl (e3 ▸ Is.atom (v' := .int .u64 a3) rfl rfl)) (.cons (EB.sh (.atom rfl rfl) (.int _ _) (by decide) (by omega) (e5 ▸ Is.atom (v' := .int .u64 a5) rfl rfl)) (.cons (EB.cm (.atom rfl rfl) (.int _ _) rfl c1_0) (.cons (EB.ar (.atom rfl rfl) (.int _ _) rfl (e6 ▸ Is.atom (v' := .int .u64 a6) rfl rfl)) (.cons (EB.ar (.atom rfl rfl) (.int _ _) rfl (e7 ▸ Is.atom (v' := .int .i64 a7) rfl rfl)) (.cons (EB.cm (.atom rfl rfl) (.int _ _) rfl c2_0) .nil))))))), All.mem (.cons (EC.int underlying22 underlying3 (.atom rfl rfl) (e4 ▸ Is.atom (v' := .int .i64 a4) rfl rfl)) .nil), All.mem .nil, All.mem (.cons (.of (.cons (.atom rfl rfl) .nil) (e1 ▸ Is.atom (v' := .int .u64 a1) rfl rfl) (fun w => e1 ▸ bits_run a0 w)) .nil), All.mem .nil, All.mem .nil⟩ gReadr0 (.cons (.atom rfl rfl) .nil) (.aggL (.cons (.closed rfl) (.cons (.atom rfl rfl) (.cons (.int _ _) (.cons (.atom rfl rfl) .nil))))) w
    | false =>
      have dc2_0 := cm11f c2_0
      obtain ⟨a8, e8⟩ : ∃ z : Int, z = opI 6 .u64 a6 (4503599627370496) := ⟨_, rfl⟩
      have p8 : 0 ≤ a8 := by rw [e8]; exact wrap_u64_nonneg _
      refine ⟨true, a8, a7, by omega, fun w => ?_⟩
      letI : Sg := ⟨fun i => ([.float .f64 a0, .int .u64 a1, .int .u64 a2, .int .u64 a3, .int .i64 a4, .int .u64 a5, .int .u64 a6, .int .i64 a7, .int .u64 a8] : List Value)[i]?⟩
      exact symCalls (T := gReadT1) xfollows xL_ok ⟨All.mem (.cons (EB.sh (.atom rfl rfl) (.int _ _) (by decide) (by omega) (e2 ▸ Is.atom (v' := .int .u64 a2) rfl rfl)) (.cons (EB.ar (.atom rfl rfl) (.int _ _) rfl (e3 ▸ Is.atom (v' := .int .u64 a3) rfl rfl)) (.cons (EB.sh (.atom rfl rfl) (.int _ _) (by decide) (by omega) (e5 ▸ Is.atom (v' := .int .u64 a5) rfl rfl)) (.cons (EB.cm (.atom rfl rfl) (.int _ _) rfl c1_0) (.cons (EB.ar (.atom rfl rfl) (.int _ _) rfl (e6 ▸ Is.atom (v' := .int .u64 a6) rfl rfl)) (.cons (EB.ar (.atom rfl rfl) (.int _ _) rfl (e7 ▸ Is.atom (v' := .int .i64 a7) rfl rfl)) (.cons (EB.cm (.atom rfl rfl) (.int _ _) rfl c2_0) (.cons (EB.ar (.atom rfl rfl) (.int _ _) rfl (e8 ▸ Is.atom (v' := .int .u64 a8) rfl rfl)) .nil)))))))), All.mem (.cons (EC.int underlying22 underlying3 (.atom rfl rfl) (e4 ▸ Is.atom (v' := .int .i64 a4) rfl rfl)) .nil), All.mem .nil, All.mem (.cons (.of (.cons (.atom rfl rfl) .nil) (e1 ▸ Is.atom (v' := .int .u64 a1) rfl rfl) (fun w => e1 ▸ bits_run a0 w)) .nil), All.mem .nil, All.mem .nil⟩ gReadr1 (.cons (.atom rfl rfl) .nil) (.aggL (.cons (.closed rfl) (.cons (.atom rfl rfl) (.cons (.atom rfl rfl) (.cons (.atom rfl rfl) .nil))))) w
  | false =>
    have dc1_0 := cm11f c1_0
    obtain ⟨a6, e6⟩ : ∃ z : Int, z = opI 5 .u64 a1 (4503599627370495) := ⟨_, rfl⟩
    have p6 : 0 ≤ a6 := by rw [e6]; exact wrap_u64_nonneg _
    have q6 : a6 ≤ 4503599627370495 := by rw [e6]; exact opI_and_le _ _ (by decide) (by decide)
    obtain ⟨a7, e7⟩ : ∃ z : Int, z = opI 1 .i64 a4 (1075) := ⟨_, rfl⟩
    have s7 : a7 = a4 - (1075) := by rw [e7]; exact wrap_i64 (by omega) (by omega)
    cases c2_2 : cmI 11 a4 (0) with
    | true =>
      have dc2_2 := cm11t c2_2
      refine ⟨false, a6, (-1074), by omega, fun w => ?_⟩
      letI : Sg := ⟨fun i => ([.float .f64 a0, .int .u64 a1, .int .u64 a2, .int .u64 a3, .int .i64 a4, .int .u64 a5, .int .u64 a6, .int .i64 a7] : List Value)[i]?⟩
      exact symCalls (T := gReadT2) xfollows xL_ok ⟨All.mem (.cons (EB.sh (.atom rfl rfl) (.int _ _) (by decide) (by omega) (e2 ▸ Is.atom (v' := .int .u64 a2) rfl rfl)) (.cons (EB.ar (.atom rfl rfl) (.int _ _) rfl (e3 ▸ Is.atom (v' := .int .u64 a3) rfl rfl)) (.cons (EB.sh (.atom rfl rfl) (.int _ _) (by decide) (by omega) (e5 ▸ Is.atom (v' := .int .u64 a5) rfl rfl)) (.cons (EB.cm (.atom rfl rfl) (.int _ _) rfl c1_0) (.cons (EB.ar (.atom rfl rfl) (.int _ _) rfl (e6 ▸ Is.atom (v' := .int .u64 a6) rfl rfl)) (.cons (EB.ar (.atom rfl rfl) (.int _ _) rfl (e7 ▸ Is.atom (v' := .int .i64 a7) rfl rfl)) (.cons (EB.cm (.atom rfl rfl) (.int _ _) rfl c2_2) .nil))))))), All.mem (.cons (EC.int underlying22 underlying3 (.atom rfl rfl) (e4 ▸ Is.atom (v' := .int .i64 a4) rfl rfl)) .nil), All.mem .nil, All.mem (.cons (.of (.cons (.atom rfl rfl) .nil) (e1 ▸ Is.atom (v' := .int .u64 a1) rfl rfl) (fun w => e1 ▸ bits_run a0 w)) .nil), All.mem .nil, All.mem .nil⟩ gReadr2 (.cons (.atom rfl rfl) .nil) (.aggL (.cons (.closed rfl) (.cons (.atom rfl rfl) (.cons (.int _ _) (.cons (.atom rfl rfl) .nil))))) w
    | false =>
      have dc2_2 := cm11f c2_2
      obtain ⟨a8, e8⟩ : ∃ z : Int, z = opI 6 .u64 a6 (4503599627370496) := ⟨_, rfl⟩
      have p8 : 0 ≤ a8 := by rw [e8]; exact wrap_u64_nonneg _
      refine ⟨false, a8, a7, by omega, fun w => ?_⟩
      letI : Sg := ⟨fun i => ([.float .f64 a0, .int .u64 a1, .int .u64 a2, .int .u64 a3, .int .i64 a4, .int .u64 a5, .int .u64 a6, .int .i64 a7, .int .u64 a8] : List Value)[i]?⟩
      exact symCalls (T := gReadT3) xfollows xL_ok ⟨All.mem (.cons (EB.sh (.atom rfl rfl) (.int _ _) (by decide) (by omega) (e2 ▸ Is.atom (v' := .int .u64 a2) rfl rfl)) (.cons (EB.ar (.atom rfl rfl) (.int _ _) rfl (e3 ▸ Is.atom (v' := .int .u64 a3) rfl rfl)) (.cons (EB.sh (.atom rfl rfl) (.int _ _) (by decide) (by omega) (e5 ▸ Is.atom (v' := .int .u64 a5) rfl rfl)) (.cons (EB.cm (.atom rfl rfl) (.int _ _) rfl c1_0) (.cons (EB.ar (.atom rfl rfl) (.int _ _) rfl (e6 ▸ Is.atom (v' := .int .u64 a6) rfl rfl)) (.cons (EB.ar (.atom rfl rfl) (.int _ _) rfl (e7 ▸ Is.atom (v' := .int .i64 a7) rfl rfl)) (.cons (EB.cm (.atom rfl rfl) (.int _ _) rfl c2_2) (.cons (EB.ar (.atom rfl rfl) (.int _ _) rfl (e8 ▸ Is.atom (v' := .int .u64 a8) rfl rfl)) .nil)))))))), All.mem (.cons (EC.int underlying22 underlying3 (.atom rfl rfl) (e4 ▸ Is.atom (v' := .int .i64 a4) rfl rfl)) .nil), All.mem .nil, All.mem (.cons (.of (.cons (.atom rfl rfl) .nil) (e1 ▸ Is.atom (v' := .int .u64 a1) rfl rfl) (fun w => e1 ▸ bits_run a0 w)) .nil), All.mem .nil, All.mem .nil⟩ gReadr3 (.cons (.atom rfl rfl) .nil) (.aggL (.cons (.closed rfl) (.cons (.atom rfl rfl) (.cons (.atom rfl rfl) (.cons (.atom rfl rfl) .nil))))) w
noncomputable def gValTT0 : Tabs := ⟨[(0, 3, aI 1, aI 3, aI 4), (13, 3, aI 4, .int .i64 (0), .bool true), (15, 3, aI 5, .int .i64 (54), .bool true)], [], [(0, aI 4, aI 5)], [], [], []⟩
theorem gValTr0 : outB (.tuple #[.int .i64 (0), .int .i64 (0)]) .nil 1 (runA prog (symL xL gValTT0) 30 [.agg #[.bool true, aI 0, aI 1, aI 2], aI 3] 5000) = true := by kernel_rfl
noncomputable def gValTT1 : Tabs := ⟨[(0, 3, aI 1, aI 3, aI 4), (13, 3, aI 4, .int .i64 (0), .bool true), (15, 3, aI 5, .int .i64 (54), .bool false), (10, 22, aI 0, aI 5, aI 6), (9, 22, .int .u64 (1), aI 5, aI 7), (1, 22, aI 7, .int .u64 (1), aI 8), (5, 22, aI 0, aI 8, aI 9), (10, 22, aI 7, .int .u64 (1), aI 10), (15, 22, aI 9, aI 10, .bool true), (0, 22, aI 6, .int .u64 (1), aI 11), (15, 22, aI 11, .int .u64 (2305843009213693952), .bool true)], [], [(0, aI 4, aI 5)], [], [], []⟩
theorem gValTr1 : outB (.tuple #[.int .i64 (0), .int .i64 (5)]) .nil 1 (runA prog (symL xL gValTT1) 30 [.agg #[.bool true, aI 0, aI 1, aI 2], aI 3] 5000) = true := by kernel_rfl
noncomputable def gValTT2 : Tabs := ⟨[(0, 3, aI 1, aI 3, aI 4), (13, 3, aI 4, .int .i64 (0), .bool true), (15, 3, aI 5, .int .i64 (54), .bool false), (10, 22, aI 0, aI 5, aI 6), (9, 22, .int .u64 (1), aI 5, aI 7), (1, 22, aI 7, .int .u64 (1), aI 8), (5, 22, aI 0, aI 8, aI 9), (10, 22, aI 7, .int .u64 (1), aI 10), (15, 22, aI 9, aI 10, .bool true), (0, 22, aI 6, .int .u64 (1), aI 11), (15, 22, aI 11, .int .u64 (2305843009213693952), .bool false)], [(22, 2, aI 11, aI 12)], [(0, aI 4, aI 5), (0, aI 12, aI 13)], [], [], []⟩
theorem gValTr2 : outB (.tuple #[aI 13, .int .i64 (0)]) .nil 1 (runA prog (symL xL gValTT2) 30 [.agg #[.bool true, aI 0, aI 1, aI 2], aI 3] 5000) = true := by kernel_rfl
noncomputable def gValTT3 : Tabs := ⟨[(0, 3, aI 1, aI 3, aI 4), (13, 3, aI 4, .int .i64 (0), .bool true), (15, 3, aI 5, .int .i64 (54), .bool false), (10, 22, aI 0, aI 5, aI 6), (9, 22, .int .u64 (1), aI 5, aI 7), (1, 22, aI 7, .int .u64 (1), aI 8), (5, 22, aI 0, aI 8, aI 9), (10, 22, aI 7, .int .u64 (1), aI 10), (15, 22, aI 9, aI 10, .bool false), (11, 22, aI 9, aI 10, .bool true), (15, 22, aI 10, .int .u64 (0), .bool true), (5, 22, aI 6, .int .u64 (1), aI 11), (11, 22, aI 11, .int .u64 (1), .bool true), (0, 22, aI 6, .int .u64 (1), aI 12), (15, 22, aI 12, .int .u64 (2305843009213693952), .bool true)], [], [(0, aI 4, aI 5)], [], [], []⟩
theorem gValTr3 : outB (.tuple #[.int .i64 (0), .int .i64 (5)]) .nil 1 (runA prog (symL xL gValTT3) 30 [.agg #[.bool true, aI 0, aI 1, aI 2], aI 3] 5000) = true := by kernel_rfl
noncomputable def gValTT4 : Tabs := ⟨[(0, 3, aI 1, aI 3, aI 4), (13, 3, aI 4, .int .i64 (0), .bool true), (15, 3, aI 5, .int .i64 (54), .bool false), (10, 22, aI 0, aI 5, aI 6), (9, 22, .int .u64 (1), aI 5, aI 7), (1, 22, aI 7, .int .u64 (1), aI 8), (5, 22, aI 0, aI 8, aI 9), (10, 22, aI 7, .int .u64 (1), aI 10), (15, 22, aI 9, aI 10, .bool false), (11, 22, aI 9, aI 10, .bool true), (15, 22, aI 10, .int .u64 (0), .bool true), (5, 22, aI 6, .int .u64 (1), aI 11), (11, 22, aI 11, .int .u64 (1), .bool true), (0, 22, aI 6, .int .u64 (1), aI 12), (15, 22, aI 12, .int .u64 (2305843009213693952), .bool false)], [(22, 2, aI 12, aI 13)], [(0, aI 4, aI 5), (0, aI 13, aI 14)], [], [], []⟩
theorem gValTr4 : outB (.tuple #[aI 14, .int .i64 (0)]) .nil 1 (runA prog (symL xL gValTT4) 30 [.agg #[.bool true, aI 0, aI 1, aI 2], aI 3] 5000) = true := by kernel_rfl
noncomputable def gValTT5 : Tabs := ⟨[(0, 3, aI 1, aI 3, aI 4), (13, 3, aI 4, .int .i64 (0), .bool true), (15, 3, aI 5, .int .i64 (54), .bool false), (10, 22, aI 0, aI 5, aI 6), (9, 22, .int .u64 (1), aI 5, aI 7), (1, 22, aI 7, .int .u64 (1), aI 8), (5, 22, aI 0, aI 8, aI 9), (10, 22, aI 7, .int .u64 (1), aI 10), (15, 22, aI 9, aI 10, .bool false), (11, 22, aI 9, aI 10, .bool true), (15, 22, aI 10, .int .u64 (0), .bool true), (5, 22, aI 6, .int .u64 (1), aI 11), (11, 22, aI 11, .int .u64 (1), .bool false), (15, 22, aI 6, .int .u64 (2305843009213693952), .bool true)], [], [(0, aI 4, aI 5)], [], [], []⟩
theorem gValTr5 : outB (.tuple #[.int .i64 (0), .int .i64 (5)]) .nil 1 (runA prog (symL xL gValTT5) 30 [.agg #[.bool true, aI 0, aI 1, aI 2], aI 3] 5000) = true := by kernel_rfl
noncomputable def gValTT6 : Tabs := ⟨[(0, 3, aI 1, aI 3, aI 4), (13, 3, aI 4, .int .i64 (0), .bool true), (15, 3, aI 5, .int .i64 (54), .bool false), (10, 22, aI 0, aI 5, aI 6), (9, 22, .int .u64 (1), aI 5, aI 7), (1, 22, aI 7, .int .u64 (1), aI 8), (5, 22, aI 0, aI 8, aI 9), (10, 22, aI 7, .int .u64 (1), aI 10), (15, 22, aI 9, aI 10, .bool false), (11, 22, aI 9, aI 10, .bool true), (15, 22, aI 10, .int .u64 (0), .bool true), (5, 22, aI 6, .int .u64 (1), aI 11), (11, 22, aI 11, .int .u64 (1), .bool false), (15, 22, aI 6, .int .u64 (2305843009213693952), .bool false)], [(22, 2, aI 6, aI 12)], [(0, aI 4, aI 5), (0, aI 12, aI 13)], [], [], []⟩
theorem gValTr6 : outB (.tuple #[aI 13, .int .i64 (0)]) .nil 1 (runA prog (symL xL gValTT6) 30 [.agg #[.bool true, aI 0, aI 1, aI 2], aI 3] 5000) = true := by kernel_rfl
noncomputable def gValTT7 : Tabs := ⟨[(0, 3, aI 1, aI 3, aI 4), (13, 3, aI 4, .int .i64 (0), .bool true), (15, 3, aI 5, .int .i64 (54), .bool false), (10, 22, aI 0, aI 5, aI 6), (9, 22, .int .u64 (1), aI 5, aI 7), (1, 22, aI 7, .int .u64 (1), aI 8), (5, 22, aI 0, aI 8, aI 9), (10, 22, aI 7, .int .u64 (1), aI 10), (15, 22, aI 9, aI 10, .bool false), (11, 22, aI 9, aI 10, .bool true), (15, 22, aI 10, .int .u64 (0), .bool false), (15, 22, aI 6, .int .u64 (2305843009213693952), .bool true)], [], [(0, aI 4, aI 5)], [], [], []⟩
theorem gValTr7 : outB (.tuple #[.int .i64 (0), .int .i64 (5)]) .nil 1 (runA prog (symL xL gValTT7) 30 [.agg #[.bool true, aI 0, aI 1, aI 2], aI 3] 5000) = true := by kernel_rfl
noncomputable def gValTT8 : Tabs := ⟨[(0, 3, aI 1, aI 3, aI 4), (13, 3, aI 4, .int .i64 (0), .bool true), (15, 3, aI 5, .int .i64 (54), .bool false), (10, 22, aI 0, aI 5, aI 6), (9, 22, .int .u64 (1), aI 5, aI 7), (1, 22, aI 7, .int .u64 (1), aI 8), (5, 22, aI 0, aI 8, aI 9), (10, 22, aI 7, .int .u64 (1), aI 10), (15, 22, aI 9, aI 10, .bool false), (11, 22, aI 9, aI 10, .bool true), (15, 22, aI 10, .int .u64 (0), .bool false), (15, 22, aI 6, .int .u64 (2305843009213693952), .bool false)], [(22, 2, aI 6, aI 11)], [(0, aI 4, aI 5), (0, aI 11, aI 12)], [], [], []⟩
theorem gValTr8 : outB (.tuple #[aI 12, .int .i64 (0)]) .nil 1 (runA prog (symL xL gValTT8) 30 [.agg #[.bool true, aI 0, aI 1, aI 2], aI 3] 5000) = true := by kernel_rfl
noncomputable def gValTT9 : Tabs := ⟨[(0, 3, aI 1, aI 3, aI 4), (13, 3, aI 4, .int .i64 (0), .bool true), (15, 3, aI 5, .int .i64 (54), .bool false), (10, 22, aI 0, aI 5, aI 6), (9, 22, .int .u64 (1), aI 5, aI 7), (1, 22, aI 7, .int .u64 (1), aI 8), (5, 22, aI 0, aI 8, aI 9), (10, 22, aI 7, .int .u64 (1), aI 10), (15, 22, aI 9, aI 10, .bool false), (11, 22, aI 9, aI 10, .bool false), (15, 22, aI 6, .int .u64 (2305843009213693952), .bool true)], [], [(0, aI 4, aI 5)], [], [], []⟩
theorem gValTr9 : outB (.tuple #[.int .i64 (0), .int .i64 (5)]) .nil 1 (runA prog (symL xL gValTT9) 30 [.agg #[.bool true, aI 0, aI 1, aI 2], aI 3] 5000) = true := by kernel_rfl
noncomputable def gValTT10 : Tabs := ⟨[(0, 3, aI 1, aI 3, aI 4), (13, 3, aI 4, .int .i64 (0), .bool true), (15, 3, aI 5, .int .i64 (54), .bool false), (10, 22, aI 0, aI 5, aI 6), (9, 22, .int .u64 (1), aI 5, aI 7), (1, 22, aI 7, .int .u64 (1), aI 8), (5, 22, aI 0, aI 8, aI 9), (10, 22, aI 7, .int .u64 (1), aI 10), (15, 22, aI 9, aI 10, .bool false), (11, 22, aI 9, aI 10, .bool false), (15, 22, aI 6, .int .u64 (2305843009213693952), .bool false)], [(22, 2, aI 6, aI 11)], [(0, aI 4, aI 5), (0, aI 11, aI 12)], [], [], []⟩
theorem gValTr10 : outB (.tuple #[aI 12, .int .i64 (0)]) .nil 1 (runA prog (symL xL gValTT10) 30 [.agg #[.bool true, aI 0, aI 1, aI 2], aI 3] 5000) = true := by kernel_rfl
noncomputable def gValTT11 : Tabs := ⟨[(0, 3, aI 1, aI 3, aI 4), (13, 3, aI 4, .int .i64 (0), .bool false), (15, 22, aI 0, .int .u64 (0), .bool true), (15, 3, aI 4, .int .i64 (61), .bool true)], [], [], [], [], []⟩
theorem gValTr11 : outB (.tuple #[.int .i64 (0), .int .i64 (5)]) .nil 1 (runA prog (symL xL gValTT11) 30 [.agg #[.bool true, aI 0, aI 1, aI 2], aI 3] 5000) = true := by kernel_rfl
noncomputable def gValTT12 : Tabs := ⟨[(0, 3, aI 1, aI 3, aI 4), (13, 3, aI 4, .int .i64 (0), .bool false), (15, 22, aI 0, .int .u64 (0), .bool true), (15, 3, aI 4, .int .i64 (61), .bool false), (10, 22, .int .u64 (2305843009213693952), aI 5, aI 6), (15, 22, aI 0, aI 6, .bool true)], [], [], [], [], [(1, [aI 4, .int .i64 (0)], aI 5)]⟩
theorem gValTr12 : outB (.tuple #[.int .i64 (0), .int .i64 (5)]) .nil 1 (runA prog (symL xL gValTT12) 30 [.agg #[.bool true, aI 0, aI 1, aI 2], aI 3] 5000) = true := by kernel_rfl
noncomputable def gValTT13 : Tabs := ⟨[(0, 3, aI 1, aI 3, aI 4), (13, 3, aI 4, .int .i64 (0), .bool false), (15, 22, aI 0, .int .u64 (0), .bool true), (15, 3, aI 4, .int .i64 (61), .bool false), (10, 22, .int .u64 (2305843009213693952), aI 5, aI 6), (15, 22, aI 0, aI 6, .bool false), (9, 22, aI 0, aI 4, aI 7), (15, 22, aI 7, .int .u64 (2305843009213693952), .bool true)], [], [], [], [], [(1, [aI 4, .int .i64 (0)], aI 5)]⟩
theorem gValTr13 : outB (.tuple #[.int .i64 (0), .int .i64 (5)]) .nil 1 (runA prog (symL xL gValTT13) 30 [.agg #[.bool true, aI 0, aI 1, aI 2], aI 3] 5000) = true := by kernel_rfl
noncomputable def gValTT14 : Tabs := ⟨[(0, 3, aI 1, aI 3, aI 4), (13, 3, aI 4, .int .i64 (0), .bool false), (15, 22, aI 0, .int .u64 (0), .bool true), (15, 3, aI 4, .int .i64 (61), .bool false), (10, 22, .int .u64 (2305843009213693952), aI 5, aI 6), (15, 22, aI 0, aI 6, .bool false), (9, 22, aI 0, aI 4, aI 7), (15, 22, aI 7, .int .u64 (2305843009213693952), .bool false)], [(22, 2, aI 7, aI 8)], [(0, aI 8, aI 9)], [], [], [(1, [aI 4, .int .i64 (0)], aI 5)]⟩
theorem gValTr14 : outB (.tuple #[aI 9, .int .i64 (0)]) .nil 1 (runA prog (symL xL gValTT14) 30 [.agg #[.bool true, aI 0, aI 1, aI 2], aI 3] 5000) = true := by kernel_rfl
noncomputable def gValTT15 : Tabs := ⟨[(0, 3, aI 1, aI 3, aI 4), (13, 3, aI 4, .int .i64 (0), .bool false), (15, 22, aI 0, .int .u64 (0), .bool false), (10, 22, .int .u64 (2305843009213693952), aI 5, aI 6), (15, 22, aI 0, aI 6, .bool true)], [], [], [], [], [(1, [aI 4, .int .i64 (0)], aI 5)]⟩
theorem gValTr15 : outB (.tuple #[.int .i64 (0), .int .i64 (5)]) .nil 1 (runA prog (symL xL gValTT15) 30 [.agg #[.bool true, aI 0, aI 1, aI 2], aI 3] 5000) = true := by kernel_rfl
noncomputable def gValTT16 : Tabs := ⟨[(0, 3, aI 1, aI 3, aI 4), (13, 3, aI 4, .int .i64 (0), .bool false), (15, 22, aI 0, .int .u64 (0), .bool false), (10, 22, .int .u64 (2305843009213693952), aI 5, aI 6), (15, 22, aI 0, aI 6, .bool false), (15, 22, aI 0, .int .u64 (2305843009213693952), .bool true)], [], [], [], [], [(1, [aI 4, .int .i64 (0)], aI 5)]⟩
theorem gValTr16 : outB (.tuple #[.int .i64 (0), .int .i64 (5)]) .nil 1 (runA prog (symL xL gValTT16) 30 [.agg #[.bool true, aI 0, aI 1, aI 2], aI 3] 5000) = true := by kernel_rfl
noncomputable def gValTT17 : Tabs := ⟨[(0, 3, aI 1, aI 3, aI 4), (13, 3, aI 4, .int .i64 (0), .bool false), (15, 22, aI 0, .int .u64 (0), .bool false), (10, 22, .int .u64 (2305843009213693952), aI 5, aI 6), (15, 22, aI 0, aI 6, .bool false), (15, 22, aI 0, .int .u64 (2305843009213693952), .bool false)], [(22, 2, aI 0, aI 7)], [(0, aI 7, aI 8)], [], [], [(1, [aI 4, .int .i64 (0)], aI 5)]⟩
theorem gValTr17 : outB (.tuple #[aI 8, .int .i64 (0)]) .nil 1 (runA prog (symL xL gValTT17) 30 [.agg #[.bool true, aI 0, aI 1, aI 2], aI 3] 5000) = true := by kernel_rfl
set_option maxRecDepth 100000 in
theorem gValT (a0 a1 : Int) (a2 : Nat) (a3 : Int) (h0 : 0 ≤ a0) (h1 : -1075 ≤ a1 ∧ a1 ≤ 972) (h3 : -40 ≤ a3 ∧ a3 ≤ 40) :
    ∃ v e : Int, (e = 5 ∧ v = 0 ∨ e = 0 ∧ -2305843009213693952 ≤ v ∧ v ≤ 2305843009213693952) ∧ ∀ w, Calls prog 30 #[.agg #[.bool true, .int .u64 a0, .int .i64 a1, .float .f64 a2], .int .i64 a3] w fun ev w' => ev = .returned (.tuple #[.int .i64 v, .int .i64 e]) ∧ Below w.heap.size w w' := by
  obtain ⟨a4, e4⟩ : ∃ z : Int, z = opI 0 .i64 a1 a3 := ⟨_, rfl⟩
  have s4 : a4 = a1 + a3 := by rw [e4]; exact wrap_i64 (by omega) (by omega)
  cases c1_0 : cmI 13 a4 (0) with
  | true =>
    have dc1_0 := cm13t c1_0
    obtain ⟨a5, e5⟩ : ∃ z : Int, z = IntKind.i64.wrap (0 - a4) := ⟨_, rfl⟩
    have s5 : a5 = 0 - a4 := by rw [e5]; exact wrap_i64 (by omega) (by omega)
    cases c2_0 : cmI 15 a5 (54) with
    | true =>
      have dc2_0 := cm15t c2_0
      refine ⟨(0), 0, by omega, fun w => ?_⟩
      letI : Sg := ⟨fun i => ([.int .u64 a0, .int .i64 a1, .float .f64 a2, .int .i64 a3, .int .i64 a4, .int .i64 a5] : List Value)[i]?⟩
      exact symCalls (T := gValTT0) xfollows xL_ok ⟨All.mem (.cons (EB.ar (.atom rfl rfl) (.atom rfl rfl) rfl (e4 ▸ Is.atom (v' := .int .i64 a4) rfl rfl)) (.cons (EB.cm (.atom rfl rfl) (.int _ _) rfl c1_0) (.cons (EB.cm (.atom rfl rfl) (.int _ _) rfl c2_0) .nil))), All.mem .nil, All.mem (.cons (EU.neg (.atom rfl rfl) (e5 ▸ Is.atom (v' := .int .i64 a5) rfl rfl)) .nil), All.mem .nil, All.mem .nil, All.mem .nil⟩ gValTr0 (.cons (.aggL (.cons (.closed rfl) (.cons (.atom rfl rfl) (.cons (.atom rfl rfl) (.cons (.atom rfl rfl) .nil))))) (.cons (.atom rfl rfl) .nil)) (.tupL (.cons (.int _ _) (.cons (.int _ _) .nil))) w
    | false =>
      have dc2_0 := cm15f c2_0
      obtain ⟨a6, e6⟩ : ∃ z : Int, z = opI 10 .u64 a0 a5 := ⟨_, rfl⟩
      have p6 : 0 ≤ a6 := by rw [e6]; exact fdiv_nn (x := a0) (by omega) _
      obtain ⟨a7, e7⟩ : ∃ z : Int, z = opI 9 .u64 (1) a5 := ⟨_, rfl⟩
      have p7 : 0 ≤ a7 := by rw [e7]; exact wrap_u64_nonneg _
      obtain ⟨a8, e8⟩ : ∃ z : Int, z = opI 1 .u64 a7 (1) := ⟨_, rfl⟩
      have p8 : 0 ≤ a8 := by rw [e8]; exact wrap_u64_nonneg _
      obtain ⟨a9, e9⟩ : ∃ z : Int, z = opI 5 .u64 a0 a8 := ⟨_, rfl⟩
      have p9 : 0 ≤ a9 := by rw [e9]; exact wrap_u64_nonneg _
      obtain ⟨a10, e10⟩ : ∃ z : Int, z = opI 10 .u64 a7 (1) := ⟨_, rfl⟩
      have p10 : 0 ≤ a10 := by rw [e10]; exact fdiv_nn (x := a7) (by omega) _
      cases c3_1 : cmI 15 a9 a10 with
      | true =>
        have dc3_1 := cm15t c3_1
        obtain ⟨a11, e11⟩ : ∃ z : Int, z = opI 0 .u64 a6 (1) := ⟨_, rfl⟩
        have p11 : 0 ≤ a11 := by rw [e11]; exact wrap_u64_nonneg _
        cases c4_1 : cmI 15 a11 (2305843009213693952) with
        | true =>
          have dc4_1 := cm15t c4_1
          refine ⟨(0), 5, by omega, fun w => ?_⟩
          letI : Sg := ⟨fun i => ([.int .u64 a0, .int .i64 a1, .float .f64 a2, .int .i64 a3, .int .i64 a4, .int .i64 a5, .int .u64 a6, .int .u64 a7, .int .u64 a8, .int .u64 a9, .int .u64 a10, .int .u64 a11] : List Value)[i]?⟩
          exact symCalls (T := gValTT1) xfollows xL_ok ⟨All.mem (.cons (EB.ar (.atom rfl rfl) (.atom rfl rfl) rfl (e4 ▸ Is.atom (v' := .int .i64 a4) rfl rfl)) (.cons (EB.cm (.atom rfl rfl) (.int _ _) rfl c1_0) (.cons (EB.cm (.atom rfl rfl) (.int _ _) rfl c2_0) (.cons (EB.sh (.atom rfl rfl) (.atom rfl rfl) (by decide) (by omega) (e6 ▸ Is.atom (v' := .int .u64 a6) rfl rfl)) (.cons (EB.sh (.int _ _) (.atom rfl rfl) (by decide) (by omega) (e7 ▸ Is.atom (v' := .int .u64 a7) rfl rfl)) (.cons (EB.ar (.atom rfl rfl) (.int _ _) rfl (e8 ▸ Is.atom (v' := .int .u64 a8) rfl rfl)) (.cons (EB.ar (.atom rfl rfl) (.atom rfl rfl) rfl (e9 ▸ Is.atom (v' := .int .u64 a9) rfl rfl)) (.cons (EB.sh (.atom rfl rfl) (.int _ _) (by decide) (by omega) (e10 ▸ Is.atom (v' := .int .u64 a10) rfl rfl)) (.cons (EB.cm (.atom rfl rfl) (.atom rfl rfl) rfl c3_1) (.cons (EB.ar (.atom rfl rfl) (.int _ _) rfl (e11 ▸ Is.atom (v' := .int .u64 a11) rfl rfl)) (.cons (EB.cm (.atom rfl rfl) (.int _ _) rfl c4_1) .nil))))))))))), All.mem .nil, All.mem (.cons (EU.neg (.atom rfl rfl) (e5 ▸ Is.atom (v' := .int .i64 a5) rfl rfl)) .nil), All.mem .nil, All.mem .nil, All.mem .nil⟩ gValTr1 (.cons (.aggL (.cons (.closed rfl) (.cons (.atom rfl rfl) (.cons (.atom rfl rfl) (.cons (.atom rfl rfl) .nil))))) (.cons (.atom rfl rfl) .nil)) (.tupL (.cons (.int _ _) (.cons (.int _ _) .nil))) w
        | false =>
          have dc4_1 := cm15f c4_1
          obtain ⟨a12, e12⟩ : ∃ z : Int, z = IntKind.i64.wrap a11 := ⟨_, rfl⟩
          have s12 : a12 = a11 := by rw [e12]; exact wrap_i64 (by omega) (by omega)
          obtain ⟨a13, e13⟩ : ∃ z : Int, z = IntKind.i64.wrap (0 - a12) := ⟨_, rfl⟩
          have s13 : a13 = 0 - a12 := by rw [e13]; exact wrap_i64 (by omega) (by omega)
          refine ⟨a13, 0, by omega, fun w => ?_⟩
          letI : Sg := ⟨fun i => ([.int .u64 a0, .int .i64 a1, .float .f64 a2, .int .i64 a3, .int .i64 a4, .int .i64 a5, .int .u64 a6, .int .u64 a7, .int .u64 a8, .int .u64 a9, .int .u64 a10, .int .u64 a11, .int .i64 a12, .int .i64 a13] : List Value)[i]?⟩
          exact symCalls (T := gValTT2) xfollows xL_ok ⟨All.mem (.cons (EB.ar (.atom rfl rfl) (.atom rfl rfl) rfl (e4 ▸ Is.atom (v' := .int .i64 a4) rfl rfl)) (.cons (EB.cm (.atom rfl rfl) (.int _ _) rfl c1_0) (.cons (EB.cm (.atom rfl rfl) (.int _ _) rfl c2_0) (.cons (EB.sh (.atom rfl rfl) (.atom rfl rfl) (by decide) (by omega) (e6 ▸ Is.atom (v' := .int .u64 a6) rfl rfl)) (.cons (EB.sh (.int _ _) (.atom rfl rfl) (by decide) (by omega) (e7 ▸ Is.atom (v' := .int .u64 a7) rfl rfl)) (.cons (EB.ar (.atom rfl rfl) (.int _ _) rfl (e8 ▸ Is.atom (v' := .int .u64 a8) rfl rfl)) (.cons (EB.ar (.atom rfl rfl) (.atom rfl rfl) rfl (e9 ▸ Is.atom (v' := .int .u64 a9) rfl rfl)) (.cons (EB.sh (.atom rfl rfl) (.int _ _) (by decide) (by omega) (e10 ▸ Is.atom (v' := .int .u64 a10) rfl rfl)) (.cons (EB.cm (.atom rfl rfl) (.atom rfl rfl) rfl c3_1) (.cons (EB.ar (.atom rfl rfl) (.int _ _) rfl (e11 ▸ Is.atom (v' := .int .u64 a11) rfl rfl)) (.cons (EB.cm (.atom rfl rfl) (.int _ _) rfl c4_1) .nil))))))))))), All.mem (.cons (EC.int underlying22 underlying2 (.atom rfl rfl) (e12 ▸ Is.atom (v' := .int .i64 a12) rfl rfl)) .nil), All.mem (.cons (EU.neg (.atom rfl rfl) (e5 ▸ Is.atom (v' := .int .i64 a5) rfl rfl)) (.cons (EU.neg (.atom rfl rfl) (e13 ▸ Is.atom (v' := .int .i64 a13) rfl rfl)) .nil)), All.mem .nil, All.mem .nil, All.mem .nil⟩ gValTr2 (.cons (.aggL (.cons (.closed rfl) (.cons (.atom rfl rfl) (.cons (.atom rfl rfl) (.cons (.atom rfl rfl) .nil))))) (.cons (.atom rfl rfl) .nil)) (.tupL (.cons (.atom rfl rfl) (.cons (.int _ _) .nil))) w
      | false =>
        have dc3_1 := cm15f c3_1
        cases c4_3 : cmI 11 a9 a10 with
        | true =>
          have dc4_3 := cm11t c4_3
          cases c5_3 : cmI 15 a10 (0) with
          | true =>
            have dc5_3 := cm15t c5_3
            obtain ⟨a11, e11⟩ : ∃ z : Int, z = opI 5 .u64 a6 (1) := ⟨_, rfl⟩
            have p11 : 0 ≤ a11 := by rw [e11]; exact wrap_u64_nonneg _
            have q11 : a11 ≤ 1 := by rw [e11]; exact opI_and_le _ _ (by decide) (by decide)
            cases c6_3 : cmI 11 a11 (1) with
            | true =>
              have dc6_3 := cm11t c6_3
              obtain ⟨a12, e12⟩ : ∃ z : Int, z = opI 0 .u64 a6 (1) := ⟨_, rfl⟩
              have p12 : 0 ≤ a12 := by rw [e12]; exact wrap_u64_nonneg _
              cases c7_3 : cmI 15 a12 (2305843009213693952) with
              | true =>
                have dc7_3 := cm15t c7_3
                refine ⟨(0), 5, by omega, fun w => ?_⟩
                letI : Sg := ⟨fun i => ([.int .u64 a0, .int .i64 a1, .float .f64 a2, .int .i64 a3, .int .i64 a4, .int .i64 a5, .int .u64 a6, .int .u64 a7, .int .u64 a8, .int .u64 a9, .int .u64 a10, .int .u64 a11, .int .u64 a12] : List Value)[i]?⟩
                exact symCalls (T := gValTT3) xfollows xL_ok ⟨All.mem (.cons (EB.ar (.atom rfl rfl) (.atom rfl rfl) rfl (e4 ▸ Is.atom (v' := .int .i64 a4) rfl rfl)) (.cons (EB.cm (.atom rfl rfl) (.int _ _) rfl c1_0) (.cons (EB.cm (.atom rfl rfl) (.int _ _) rfl c2_0) (.cons (EB.sh (.atom rfl rfl) (.atom rfl rfl) (by decide) (by omega) (e6 ▸ Is.atom (v' := .int .u64 a6) rfl rfl)) (.cons (EB.sh (.int _ _) (.atom rfl rfl) (by decide) (by omega) (e7 ▸ Is.atom (v' := .int .u64 a7) rfl rfl)) (.cons (EB.ar (.atom rfl rfl) (.int _ _) rfl (e8 ▸ Is.atom (v' := .int .u64 a8) rfl rfl)) (.cons (EB.ar (.atom rfl rfl) (.atom rfl rfl) rfl (e9 ▸ Is.atom (v' := .int .u64 a9) rfl rfl)) (.cons (EB.sh (.atom rfl rfl) (.int _ _) (by decide) (by omega) (e10 ▸ Is.atom (v' := .int .u64 a10) rfl rfl)) (.cons (EB.cm (.atom rfl rfl) (.atom rfl rfl) rfl c3_1) (.cons (EB.cm (.atom rfl rfl) (.atom rfl rfl) rfl c4_3) (.cons (EB.cm (.atom rfl rfl) (.int _ _) rfl c5_3) (.cons (EB.ar (.atom rfl rfl) (.int _ _) rfl (e11 ▸ Is.atom (v' := .int .u64 a11) rfl rfl)) (.cons (EB.cm (.atom rfl rfl) (.int _ _) rfl c6_3) (.cons (EB.ar (.atom rfl rfl) (.int _ _) rfl (e12 ▸ Is.atom (v' := .int .u64 a12) rfl rfl)) (.cons (EB.cm (.atom rfl rfl) (.int _ _) rfl c7_3) .nil))))))))))))))), All.mem .nil, All.mem (.cons (EU.neg (.atom rfl rfl) (e5 ▸ Is.atom (v' := .int .i64 a5) rfl rfl)) .nil), All.mem .nil, All.mem .nil, All.mem .nil⟩ gValTr3 (.cons (.aggL (.cons (.closed rfl) (.cons (.atom rfl rfl) (.cons (.atom rfl rfl) (.cons (.atom rfl rfl) .nil))))) (.cons (.atom rfl rfl) .nil)) (.tupL (.cons (.int _ _) (.cons (.int _ _) .nil))) w
              | false =>
                have dc7_3 := cm15f c7_3
                obtain ⟨a13, e13⟩ : ∃ z : Int, z = IntKind.i64.wrap a12 := ⟨_, rfl⟩
                have s13 : a13 = a12 := by rw [e13]; exact wrap_i64 (by omega) (by omega)
                obtain ⟨a14, e14⟩ : ∃ z : Int, z = IntKind.i64.wrap (0 - a13) := ⟨_, rfl⟩
                have s14 : a14 = 0 - a13 := by rw [e14]; exact wrap_i64 (by omega) (by omega)
                refine ⟨a14, 0, by omega, fun w => ?_⟩
                letI : Sg := ⟨fun i => ([.int .u64 a0, .int .i64 a1, .float .f64 a2, .int .i64 a3, .int .i64 a4, .int .i64 a5, .int .u64 a6, .int .u64 a7, .int .u64 a8, .int .u64 a9, .int .u64 a10, .int .u64 a11, .int .u64 a12, .int .i64 a13, .int .i64 a14] : List Value)[i]?⟩
                exact symCalls (T := gValTT4) xfollows xL_ok ⟨All.mem (.cons (EB.ar (.atom rfl rfl) (.atom rfl rfl) rfl (e4 ▸ Is.atom (v' := .int .i64 a4) rfl rfl)) (.cons (EB.cm (.atom rfl rfl) (.int _ _) rfl c1_0) (.cons (EB.cm (.atom rfl rfl) (.int _ _) rfl c2_0) (.cons (EB.sh (.atom rfl rfl) (.atom rfl rfl) (by decide) (by omega) (e6 ▸ Is.atom (v' := .int .u64 a6) rfl rfl)) (.cons (EB.sh (.int _ _) (.atom rfl rfl) (by decide) (by omega) (e7 ▸ Is.atom (v' := .int .u64 a7) rfl rfl)) (.cons (EB.ar (.atom rfl rfl) (.int _ _) rfl (e8 ▸ Is.atom (v' := .int .u64 a8) rfl rfl)) (.cons (EB.ar (.atom rfl rfl) (.atom rfl rfl) rfl (e9 ▸ Is.atom (v' := .int .u64 a9) rfl rfl)) (.cons (EB.sh (.atom rfl rfl) (.int _ _) (by decide) (by omega) (e10 ▸ Is.atom (v' := .int .u64 a10) rfl rfl)) (.cons (EB.cm (.atom rfl rfl) (.atom rfl rfl) rfl c3_1) (.cons (EB.cm (.atom rfl rfl) (.atom rfl rfl) rfl c4_3) (.cons (EB.cm (.atom rfl rfl) (.int _ _) rfl c5_3) (.cons (EB.ar (.atom rfl rfl) (.int _ _) rfl (e11 ▸ Is.atom (v' := .int .u64 a11) rfl rfl)) (.cons (EB.cm (.atom rfl rfl) (.int _ _) rfl c6_3) (.cons (EB.ar (.atom rfl rfl) (.int _ _) rfl (e12 ▸ Is.atom (v' := .int .u64 a12) rfl rfl)) (.cons (EB.cm (.atom rfl rfl) (.int _ _) rfl c7_3) .nil))))))))))))))), All.mem (.cons (EC.int underlying22 underlying2 (.atom rfl rfl) (e13 ▸ Is.atom (v' := .int .i64 a13) rfl rfl)) .nil), All.mem (.cons (EU.neg (.atom rfl rfl) (e5 ▸ Is.atom (v' := .int .i64 a5) rfl rfl)) (.cons (EU.neg (.atom rfl rfl) (e14 ▸ Is.atom (v' := .int .i64 a14) rfl rfl)) .nil)), All.mem .nil, All.mem .nil, All.mem .nil⟩ gValTr4 (.cons (.aggL (.cons (.closed rfl) (.cons (.atom rfl rfl) (.cons (.atom rfl rfl) (.cons (.atom rfl rfl) .nil))))) (.cons (.atom rfl rfl) .nil)) (.tupL (.cons (.atom rfl rfl) (.cons (.int _ _) .nil))) w
            | false =>
              have dc6_3 := cm11f c6_3
              cases c7_5 : cmI 15 a6 (2305843009213693952) with
              | true =>
                have dc7_5 := cm15t c7_5
                refine ⟨(0), 5, by omega, fun w => ?_⟩
                letI : Sg := ⟨fun i => ([.int .u64 a0, .int .i64 a1, .float .f64 a2, .int .i64 a3, .int .i64 a4, .int .i64 a5, .int .u64 a6, .int .u64 a7, .int .u64 a8, .int .u64 a9, .int .u64 a10, .int .u64 a11] : List Value)[i]?⟩
                exact symCalls (T := gValTT5) xfollows xL_ok ⟨All.mem (.cons (EB.ar (.atom rfl rfl) (.atom rfl rfl) rfl (e4 ▸ Is.atom (v' := .int .i64 a4) rfl rfl)) (.cons (EB.cm (.atom rfl rfl) (.int _ _) rfl c1_0) (.cons (EB.cm (.atom rfl rfl) (.int _ _) rfl c2_0) (.cons (EB.sh (.atom rfl rfl) (.atom rfl rfl) (by decide) (by omega) (e6 ▸ Is.atom (v' := .int .u64 a6) rfl rfl)) (.cons (EB.sh (.int _ _) (.atom rfl rfl) (by decide) (by omega) (e7 ▸ Is.atom (v' := .int .u64 a7) rfl rfl)) (.cons (EB.ar (.atom rfl rfl) (.int _ _) rfl (e8 ▸ Is.atom (v' := .int .u64 a8) rfl rfl)) (.cons (EB.ar (.atom rfl rfl) (.atom rfl rfl) rfl (e9 ▸ Is.atom (v' := .int .u64 a9) rfl rfl)) (.cons (EB.sh (.atom rfl rfl) (.int _ _) (by decide) (by omega) (e10 ▸ Is.atom (v' := .int .u64 a10) rfl rfl)) (.cons (EB.cm (.atom rfl rfl) (.atom rfl rfl) rfl c3_1) (.cons (EB.cm (.atom rfl rfl) (.atom rfl rfl) rfl c4_3) (.cons (EB.cm (.atom rfl rfl) (.int _ _) rfl c5_3) (.cons (EB.ar (.atom rfl rfl) (.int _ _) rfl (e11 ▸ Is.atom (v' := .int .u64 a11) rfl rfl)) (.cons (EB.cm (.atom rfl rfl) (.int _ _) rfl c6_3) (.cons (EB.cm (.atom rfl rfl) (.int _ _) rfl c7_5) .nil)))))))))))))), All.mem .nil, All.mem (.cons (EU.neg (.atom rfl rfl) (e5 ▸ Is.atom (v' := .int .i64 a5) rfl rfl)) .nil), All.mem .nil, All.mem .nil, All.mem .nil⟩ gValTr5 (.cons (.aggL (.cons (.closed rfl) (.cons (.atom rfl rfl) (.cons (.atom rfl rfl) (.cons (.atom rfl rfl) .nil))))) (.cons (.atom rfl rfl) .nil)) (.tupL (.cons (.int _ _) (.cons (.int _ _) .nil))) w
              | false =>
                have dc7_5 := cm15f c7_5
                obtain ⟨a12, e12⟩ : ∃ z : Int, z = IntKind.i64.wrap a6 := ⟨_, rfl⟩
                have s12 : a12 = a6 := by rw [e12]; exact wrap_i64 (by omega) (by omega)
                obtain ⟨a13, e13⟩ : ∃ z : Int, z = IntKind.i64.wrap (0 - a12) := ⟨_, rfl⟩
                have s13 : a13 = 0 - a12 := by rw [e13]; exact wrap_i64 (by omega) (by omega)
                refine ⟨a13, 0, by omega, fun w => ?_⟩
                letI : Sg := ⟨fun i => ([.int .u64 a0, .int .i64 a1, .float .f64 a2, .int .i64 a3, .int .i64 a4, .int .i64 a5, .int .u64 a6, .int .u64 a7, .int .u64 a8, .int .u64 a9, .int .u64 a10, .int .u64 a11, .int .i64 a12, .int .i64 a13] : List Value)[i]?⟩
                exact symCalls (T := gValTT6) xfollows xL_ok ⟨All.mem (.cons (EB.ar (.atom rfl rfl) (.atom rfl rfl) rfl (e4 ▸ Is.atom (v' := .int .i64 a4) rfl rfl)) (.cons (EB.cm (.atom rfl rfl) (.int _ _) rfl c1_0) (.cons (EB.cm (.atom rfl rfl) (.int _ _) rfl c2_0) (.cons (EB.sh (.atom rfl rfl) (.atom rfl rfl) (by decide) (by omega) (e6 ▸ Is.atom (v' := .int .u64 a6) rfl rfl)) (.cons (EB.sh (.int _ _) (.atom rfl rfl) (by decide) (by omega) (e7 ▸ Is.atom (v' := .int .u64 a7) rfl rfl)) (.cons (EB.ar (.atom rfl rfl) (.int _ _) rfl (e8 ▸ Is.atom (v' := .int .u64 a8) rfl rfl)) (.cons (EB.ar (.atom rfl rfl) (.atom rfl rfl) rfl (e9 ▸ Is.atom (v' := .int .u64 a9) rfl rfl)) (.cons (EB.sh (.atom rfl rfl) (.int _ _) (by decide) (by omega) (e10 ▸ Is.atom (v' := .int .u64 a10) rfl rfl)) (.cons (EB.cm (.atom rfl rfl) (.atom rfl rfl) rfl c3_1) (.cons (EB.cm (.atom rfl rfl) (.atom rfl rfl) rfl c4_3) (.cons (EB.cm (.atom rfl rfl) (.int _ _) rfl c5_3) (.cons (EB.ar (.atom rfl rfl) (.int _ _) rfl (e11 ▸ Is.atom (v' := .int .u64 a11) rfl rfl)) (.cons (EB.cm (.atom rfl rfl) (.int _ _) rfl c6_3) (.cons (EB.cm (.atom rfl rfl) (.int _ _) rfl c7_5) .nil)))))))))))))), All.mem (.cons (EC.int underlying22 underlying2 (.atom rfl rfl) (e12 ▸ Is.atom (v' := .int .i64 a12) rfl rfl)) .nil), All.mem (.cons (EU.neg (.atom rfl rfl) (e5 ▸ Is.atom (v' := .int .i64 a5) rfl rfl)) (.cons (EU.neg (.atom rfl rfl) (e13 ▸ Is.atom (v' := .int .i64 a13) rfl rfl)) .nil)), All.mem .nil, All.mem .nil, All.mem .nil⟩ gValTr6 (.cons (.aggL (.cons (.closed rfl) (.cons (.atom rfl rfl) (.cons (.atom rfl rfl) (.cons (.atom rfl rfl) .nil))))) (.cons (.atom rfl rfl) .nil)) (.tupL (.cons (.atom rfl rfl) (.cons (.int _ _) .nil))) w
          | false =>
            have dc5_3 := cm15f c5_3
            cases c6_7 : cmI 15 a6 (2305843009213693952) with
            | true =>
              have dc6_7 := cm15t c6_7
              refine ⟨(0), 5, by omega, fun w => ?_⟩
              letI : Sg := ⟨fun i => ([.int .u64 a0, .int .i64 a1, .float .f64 a2, .int .i64 a3, .int .i64 a4, .int .i64 a5, .int .u64 a6, .int .u64 a7, .int .u64 a8, .int .u64 a9, .int .u64 a10] : List Value)[i]?⟩
              exact symCalls (T := gValTT7) xfollows xL_ok ⟨All.mem (.cons (EB.ar (.atom rfl rfl) (.atom rfl rfl) rfl (e4 ▸ Is.atom (v' := .int .i64 a4) rfl rfl)) (.cons (EB.cm (.atom rfl rfl) (.int _ _) rfl c1_0) (.cons (EB.cm (.atom rfl rfl) (.int _ _) rfl c2_0) (.cons (EB.sh (.atom rfl rfl) (.atom rfl rfl) (by decide) (by omega) (e6 ▸ Is.atom (v' := .int .u64 a6) rfl rfl)) (.cons (EB.sh (.int _ _) (.atom rfl rfl) (by decide) (by omega) (e7 ▸ Is.atom (v' := .int .u64 a7) rfl rfl)) (.cons (EB.ar (.atom rfl rfl) (.int _ _) rfl (e8 ▸ Is.atom (v' := .int .u64 a8) rfl rfl)) (.cons (EB.ar (.atom rfl rfl) (.atom rfl rfl) rfl (e9 ▸ Is.atom (v' := .int .u64 a9) rfl rfl)) (.cons (EB.sh (.atom rfl rfl) (.int _ _) (by decide) (by omega) (e10 ▸ Is.atom (v' := .int .u64 a10) rfl rfl)) (.cons (EB.cm (.atom rfl rfl) (.atom rfl rfl) rfl c3_1) (.cons (EB.cm (.atom rfl rfl) (.atom rfl rfl) rfl c4_3) (.cons (EB.cm (.atom rfl rfl) (.int _ _) rfl c5_3) (.cons (EB.cm (.atom rfl rfl) (.int _ _) rfl c6_7) .nil)))))))))))), All.mem .nil, All.mem (.cons (EU.neg (.atom rfl rfl) (e5 ▸ Is.atom (v' := .int .i64 a5) rfl rfl)) .nil), All.mem .nil, All.mem .nil, All.mem .nil⟩ gValTr7 (.cons (.aggL (.cons (.closed rfl) (.cons (.atom rfl rfl) (.cons (.atom rfl rfl) (.cons (.atom rfl rfl) .nil))))) (.cons (.atom rfl rfl) .nil)) (.tupL (.cons (.int _ _) (.cons (.int _ _) .nil))) w
            | false =>
              have dc6_7 := cm15f c6_7
              obtain ⟨a11, e11⟩ : ∃ z : Int, z = IntKind.i64.wrap a6 := ⟨_, rfl⟩
              have s11 : a11 = a6 := by rw [e11]; exact wrap_i64 (by omega) (by omega)
              obtain ⟨a12, e12⟩ : ∃ z : Int, z = IntKind.i64.wrap (0 - a11) := ⟨_, rfl⟩
              have s12 : a12 = 0 - a11 := by rw [e12]; exact wrap_i64 (by omega) (by omega)
              refine ⟨a12, 0, by omega, fun w => ?_⟩
              letI : Sg := ⟨fun i => ([.int .u64 a0, .int .i64 a1, .float .f64 a2, .int .i64 a3, .int .i64 a4, .int .i64 a5, .int .u64 a6, .int .u64 a7, .int .u64 a8, .int .u64 a9, .int .u64 a10, .int .i64 a11, .int .i64 a12] : List Value)[i]?⟩
              exact symCalls (T := gValTT8) xfollows xL_ok ⟨All.mem (.cons (EB.ar (.atom rfl rfl) (.atom rfl rfl) rfl (e4 ▸ Is.atom (v' := .int .i64 a4) rfl rfl)) (.cons (EB.cm (.atom rfl rfl) (.int _ _) rfl c1_0) (.cons (EB.cm (.atom rfl rfl) (.int _ _) rfl c2_0) (.cons (EB.sh (.atom rfl rfl) (.atom rfl rfl) (by decide) (by omega) (e6 ▸ Is.atom (v' := .int .u64 a6) rfl rfl)) (.cons (EB.sh (.int _ _) (.atom rfl rfl) (by decide) (by omega) (e7 ▸ Is.atom (v' := .int .u64 a7) rfl rfl)) (.cons (EB.ar (.atom rfl rfl) (.int _ _) rfl (e8 ▸ Is.atom (v' := .int .u64 a8) rfl rfl)) (.cons (EB.ar (.atom rfl rfl) (.atom rfl rfl) rfl (e9 ▸ Is.atom (v' := .int .u64 a9) rfl rfl)) (.cons (EB.sh (.atom rfl rfl) (.int _ _) (by decide) (by omega) (e10 ▸ Is.atom (v' := .int .u64 a10) rfl rfl)) (.cons (EB.cm (.atom rfl rfl) (.atom rfl rfl) rfl c3_1) (.cons (EB.cm (.atom rfl rfl) (.atom rfl rfl) rfl c4_3) (.cons (EB.cm (.atom rfl rfl) (.int _ _) rfl c5_3) (.cons (EB.cm (.atom rfl rfl) (.int _ _) rfl c6_7) .nil)))))))))))), All.mem (.cons (EC.int underlying22 underlying2 (.atom rfl rfl) (e11 ▸ Is.atom (v' := .int .i64 a11) rfl rfl)) .nil), All.mem (.cons (EU.neg (.atom rfl rfl) (e5 ▸ Is.atom (v' := .int .i64 a5) rfl rfl)) (.cons (EU.neg (.atom rfl rfl) (e12 ▸ Is.atom (v' := .int .i64 a12) rfl rfl)) .nil)), All.mem .nil, All.mem .nil, All.mem .nil⟩ gValTr8 (.cons (.aggL (.cons (.closed rfl) (.cons (.atom rfl rfl) (.cons (.atom rfl rfl) (.cons (.atom rfl rfl) .nil))))) (.cons (.atom rfl rfl) .nil)) (.tupL (.cons (.atom rfl rfl) (.cons (.int _ _) .nil))) w
        | false =>
          have dc4_3 := cm11f c4_3
          cases c5_9 : cmI 15 a6 (2305843009213693952) with
          | true =>
            have dc5_9 := cm15t c5_9
            refine ⟨(0), 5, by omega, fun w => ?_⟩
            letI : Sg := ⟨fun i => ([.int .u64 a0, .int .i64 a1, .float .f64 a2, .int .i64 a3, .int .i64 a4, .int .i64 a5, .int .u64 a6, .int .u64 a7, .int .u64 a8, .int .u64 a9, .int .u64 a10] : List Value)[i]?⟩
            exact symCalls (T := gValTT9) xfollows xL_ok ⟨All.mem (.cons (EB.ar (.atom rfl rfl) (.atom rfl rfl) rfl (e4 ▸ Is.atom (v' := .int .i64 a4) rfl rfl)) (.cons (EB.cm (.atom rfl rfl) (.int _ _) rfl c1_0) (.cons (EB.cm (.atom rfl rfl) (.int _ _) rfl c2_0) (.cons (EB.sh (.atom rfl rfl) (.atom rfl rfl) (by decide) (by omega) (e6 ▸ Is.atom (v' := .int .u64 a6) rfl rfl)) (.cons (EB.sh (.int _ _) (.atom rfl rfl) (by decide) (by omega) (e7 ▸ Is.atom (v' := .int .u64 a7) rfl rfl)) (.cons (EB.ar (.atom rfl rfl) (.int _ _) rfl (e8 ▸ Is.atom (v' := .int .u64 a8) rfl rfl)) (.cons (EB.ar (.atom rfl rfl) (.atom rfl rfl) rfl (e9 ▸ Is.atom (v' := .int .u64 a9) rfl rfl)) (.cons (EB.sh (.atom rfl rfl) (.int _ _) (by decide) (by omega) (e10 ▸ Is.atom (v' := .int .u64 a10) rfl rfl)) (.cons (EB.cm (.atom rfl rfl) (.atom rfl rfl) rfl c3_1) (.cons (EB.cm (.atom rfl rfl) (.atom rfl rfl) rfl c4_3) (.cons (EB.cm (.atom rfl rfl) (.int _ _) rfl c5_9) .nil))))))))))), All.mem .nil, All.mem (.cons (EU.neg (.atom rfl rfl) (e5 ▸ Is.atom (v' := .int .i64 a5) rfl rfl)) .nil), All.mem .nil, All.mem .nil, All.mem .nil⟩ gValTr9 (.cons (.aggL (.cons (.closed rfl) (.cons (.atom rfl rfl) (.cons (.atom rfl rfl) (.cons (.atom rfl rfl) .nil))))) (.cons (.atom rfl rfl) .nil)) (.tupL (.cons (.int _ _) (.cons (.int _ _) .nil))) w
          | false =>
            have dc5_9 := cm15f c5_9
            obtain ⟨a11, e11⟩ : ∃ z : Int, z = IntKind.i64.wrap a6 := ⟨_, rfl⟩
            have s11 : a11 = a6 := by rw [e11]; exact wrap_i64 (by omega) (by omega)
            obtain ⟨a12, e12⟩ : ∃ z : Int, z = IntKind.i64.wrap (0 - a11) := ⟨_, rfl⟩
            have s12 : a12 = 0 - a11 := by rw [e12]; exact wrap_i64 (by omega) (by omega)
            refine ⟨a12, 0, by omega, fun w => ?_⟩
            letI : Sg := ⟨fun i => ([.int .u64 a0, .int .i64 a1, .float .f64 a2, .int .i64 a3, .int .i64 a4, .int .i64 a5, .int .u64 a6, .int .u64 a7, .int .u64 a8, .int .u64 a9, .int .u64 a10, .int .i64 a11, .int .i64 a12] : List Value)[i]?⟩
            exact symCalls (T := gValTT10) xfollows xL_ok ⟨All.mem (.cons (EB.ar (.atom rfl rfl) (.atom rfl rfl) rfl (e4 ▸ Is.atom (v' := .int .i64 a4) rfl rfl)) (.cons (EB.cm (.atom rfl rfl) (.int _ _) rfl c1_0) (.cons (EB.cm (.atom rfl rfl) (.int _ _) rfl c2_0) (.cons (EB.sh (.atom rfl rfl) (.atom rfl rfl) (by decide) (by omega) (e6 ▸ Is.atom (v' := .int .u64 a6) rfl rfl)) (.cons (EB.sh (.int _ _) (.atom rfl rfl) (by decide) (by omega) (e7 ▸ Is.atom (v' := .int .u64 a7) rfl rfl)) (.cons (EB.ar (.atom rfl rfl) (.int _ _) rfl (e8 ▸ Is.atom (v' := .int .u64 a8) rfl rfl)) (.cons (EB.ar (.atom rfl rfl) (.atom rfl rfl) rfl (e9 ▸ Is.atom (v' := .int .u64 a9) rfl rfl)) (.cons (EB.sh (.atom rfl rfl) (.int _ _) (by decide) (by omega) (e10 ▸ Is.atom (v' := .int .u64 a10) rfl rfl)) (.cons (EB.cm (.atom rfl rfl) (.atom rfl rfl) rfl c3_1) (.cons (EB.cm (.atom rfl rfl) (.atom rfl rfl) rfl c4_3) (.cons (EB.cm (.atom rfl rfl) (.int _ _) rfl c5_9) .nil))))))))))), All.mem (.cons (EC.int underlying22 underlying2 (.atom rfl rfl) (e11 ▸ Is.atom (v' := .int .i64 a11) rfl rfl)) .nil), All.mem (.cons (EU.neg (.atom rfl rfl) (e5 ▸ Is.atom (v' := .int .i64 a5) rfl rfl)) (.cons (EU.neg (.atom rfl rfl) (e12 ▸ Is.atom (v' := .int .i64 a12) rfl rfl)) .nil)), All.mem .nil, All.mem .nil, All.mem .nil⟩ gValTr10 (.cons (.aggL (.cons (.closed rfl) (.cons (.atom rfl rfl) (.cons (.atom rfl rfl) (.cons (.atom rfl rfl) .nil))))) (.cons (.atom rfl rfl) .nil)) (.tupL (.cons (.atom rfl rfl) (.cons (.int _ _) .nil))) w
  | false =>
    have dc1_0 := cm13f c1_0
    cases c2_11 : cmI 15 a0 (0) with
    | true =>
      have dc2_11 := cm15t c2_11
      cases c3_11 : cmI 15 a4 (61) with
      | true =>
        have dc3_11 := cm15t c3_11
        refine ⟨(0), 5, by omega, fun w => ?_⟩
        letI : Sg := ⟨fun i => ([.int .u64 a0, .int .i64 a1, .float .f64 a2, .int .i64 a3, .int .i64 a4] : List Value)[i]?⟩
        exact symCalls (T := gValTT11) xfollows xL_ok ⟨All.mem (.cons (EB.ar (.atom rfl rfl) (.atom rfl rfl) rfl (e4 ▸ Is.atom (v' := .int .i64 a4) rfl rfl)) (.cons (EB.cm (.atom rfl rfl) (.int _ _) rfl c1_0) (.cons (EB.cm (.atom rfl rfl) (.int _ _) rfl c2_11) (.cons (EB.cm (.atom rfl rfl) (.int _ _) rfl c3_11) .nil)))), All.mem .nil, All.mem .nil, All.mem .nil, All.mem .nil, All.mem .nil⟩ gValTr11 (.cons (.aggL (.cons (.closed rfl) (.cons (.atom rfl rfl) (.cons (.atom rfl rfl) (.cons (.atom rfl rfl) .nil))))) (.cons (.atom rfl rfl) .nil)) (.tupL (.cons (.int _ _) (.cons (.int _ _) .nil))) w
      | false =>
        have dc3_11 := cm15f c3_11
        obtain ⟨a5, e5⟩ : ∃ z : Int, z = (if (0) > a4 then (0) else a4) := ⟨_, rfl⟩
        have n5 : (0) ≤ a5 := by rw [e5]; split <;> omega
        obtain ⟨a6, e6⟩ : ∃ z : Int, z = opI 10 .u64 (2305843009213693952) a5 := ⟨_, rfl⟩
        have p6 : 0 ≤ a6 := by rw [e6]; exact fdiv_nn (x := (2305843009213693952)) (by omega) _
        cases c4_12 : cmI 15 a0 a6 with
        | true =>
          have dc4_12 := cm15t c4_12
          refine ⟨(0), 5, by omega, fun w => ?_⟩
          letI : Sg := ⟨fun i => ([.int .u64 a0, .int .i64 a1, .float .f64 a2, .int .i64 a3, .int .i64 a4, .int .i64 a5, .int .u64 a6] : List Value)[i]?⟩
          exact symCalls (T := gValTT12) xfollows xL_ok ⟨All.mem (.cons (EB.ar (.atom rfl rfl) (.atom rfl rfl) rfl (e4 ▸ Is.atom (v' := .int .i64 a4) rfl rfl)) (.cons (EB.cm (.atom rfl rfl) (.int _ _) rfl c1_0) (.cons (EB.cm (.atom rfl rfl) (.int _ _) rfl c2_11) (.cons (EB.cm (.atom rfl rfl) (.int _ _) rfl c3_11) (.cons (EB.sh (.int _ _) (.atom rfl rfl) (by decide) (by omega) (e6 ▸ Is.atom (v' := .int .u64 a6) rfl rfl)) (.cons (EB.cm (.atom rfl rfl) (.atom rfl rfl) rfl c4_12) .nil)))))), All.mem .nil, All.mem .nil, All.mem .nil, All.mem .nil, All.mem (.cons (EM.max (.atom rfl rfl) (.int _ _) (e5 ▸ Is.atom (v' := .int .i64 a5) rfl rfl)) .nil)⟩ gValTr12 (.cons (.aggL (.cons (.closed rfl) (.cons (.atom rfl rfl) (.cons (.atom rfl rfl) (.cons (.atom rfl rfl) .nil))))) (.cons (.atom rfl rfl) .nil)) (.tupL (.cons (.int _ _) (.cons (.int _ _) .nil))) w
        | false =>
          have dc4_12 := cm15f c4_12
          obtain ⟨a7, e7⟩ : ∃ z : Int, z = opI 9 .u64 a0 a4 := ⟨_, rfl⟩
          have p7 : 0 ≤ a7 := by rw [e7]; exact wrap_u64_nonneg _
          cases c5_13 : cmI 15 a7 (2305843009213693952) with
          | true =>
            have dc5_13 := cm15t c5_13
            refine ⟨(0), 5, by omega, fun w => ?_⟩
            letI : Sg := ⟨fun i => ([.int .u64 a0, .int .i64 a1, .float .f64 a2, .int .i64 a3, .int .i64 a4, .int .i64 a5, .int .u64 a6, .int .u64 a7] : List Value)[i]?⟩
            exact symCalls (T := gValTT13) xfollows xL_ok ⟨All.mem (.cons (EB.ar (.atom rfl rfl) (.atom rfl rfl) rfl (e4 ▸ Is.atom (v' := .int .i64 a4) rfl rfl)) (.cons (EB.cm (.atom rfl rfl) (.int _ _) rfl c1_0) (.cons (EB.cm (.atom rfl rfl) (.int _ _) rfl c2_11) (.cons (EB.cm (.atom rfl rfl) (.int _ _) rfl c3_11) (.cons (EB.sh (.int _ _) (.atom rfl rfl) (by decide) (by omega) (e6 ▸ Is.atom (v' := .int .u64 a6) rfl rfl)) (.cons (EB.cm (.atom rfl rfl) (.atom rfl rfl) rfl c4_12) (.cons (EB.sh (.atom rfl rfl) (.atom rfl rfl) (by decide) (by omega) (e7 ▸ Is.atom (v' := .int .u64 a7) rfl rfl)) (.cons (EB.cm (.atom rfl rfl) (.int _ _) rfl c5_13) .nil)))))))), All.mem .nil, All.mem .nil, All.mem .nil, All.mem .nil, All.mem (.cons (EM.max (.atom rfl rfl) (.int _ _) (e5 ▸ Is.atom (v' := .int .i64 a5) rfl rfl)) .nil)⟩ gValTr13 (.cons (.aggL (.cons (.closed rfl) (.cons (.atom rfl rfl) (.cons (.atom rfl rfl) (.cons (.atom rfl rfl) .nil))))) (.cons (.atom rfl rfl) .nil)) (.tupL (.cons (.int _ _) (.cons (.int _ _) .nil))) w
          | false =>
            have dc5_13 := cm15f c5_13
            obtain ⟨a8, e8⟩ : ∃ z : Int, z = IntKind.i64.wrap a7 := ⟨_, rfl⟩
            have s8 : a8 = a7 := by rw [e8]; exact wrap_i64 (by omega) (by omega)
            obtain ⟨a9, e9⟩ : ∃ z : Int, z = IntKind.i64.wrap (0 - a8) := ⟨_, rfl⟩
            have s9 : a9 = 0 - a8 := by rw [e9]; exact wrap_i64 (by omega) (by omega)
            refine ⟨a9, 0, by omega, fun w => ?_⟩
            letI : Sg := ⟨fun i => ([.int .u64 a0, .int .i64 a1, .float .f64 a2, .int .i64 a3, .int .i64 a4, .int .i64 a5, .int .u64 a6, .int .u64 a7, .int .i64 a8, .int .i64 a9] : List Value)[i]?⟩
            exact symCalls (T := gValTT14) xfollows xL_ok ⟨All.mem (.cons (EB.ar (.atom rfl rfl) (.atom rfl rfl) rfl (e4 ▸ Is.atom (v' := .int .i64 a4) rfl rfl)) (.cons (EB.cm (.atom rfl rfl) (.int _ _) rfl c1_0) (.cons (EB.cm (.atom rfl rfl) (.int _ _) rfl c2_11) (.cons (EB.cm (.atom rfl rfl) (.int _ _) rfl c3_11) (.cons (EB.sh (.int _ _) (.atom rfl rfl) (by decide) (by omega) (e6 ▸ Is.atom (v' := .int .u64 a6) rfl rfl)) (.cons (EB.cm (.atom rfl rfl) (.atom rfl rfl) rfl c4_12) (.cons (EB.sh (.atom rfl rfl) (.atom rfl rfl) (by decide) (by omega) (e7 ▸ Is.atom (v' := .int .u64 a7) rfl rfl)) (.cons (EB.cm (.atom rfl rfl) (.int _ _) rfl c5_13) .nil)))))))), All.mem (.cons (EC.int underlying22 underlying2 (.atom rfl rfl) (e8 ▸ Is.atom (v' := .int .i64 a8) rfl rfl)) .nil), All.mem (.cons (EU.neg (.atom rfl rfl) (e9 ▸ Is.atom (v' := .int .i64 a9) rfl rfl)) .nil), All.mem .nil, All.mem .nil, All.mem (.cons (EM.max (.atom rfl rfl) (.int _ _) (e5 ▸ Is.atom (v' := .int .i64 a5) rfl rfl)) .nil)⟩ gValTr14 (.cons (.aggL (.cons (.closed rfl) (.cons (.atom rfl rfl) (.cons (.atom rfl rfl) (.cons (.atom rfl rfl) .nil))))) (.cons (.atom rfl rfl) .nil)) (.tupL (.cons (.atom rfl rfl) (.cons (.int _ _) .nil))) w
    | false =>
      have dc2_11 := cm15f c2_11
      obtain ⟨a5, e5⟩ : ∃ z : Int, z = (if (0) > a4 then (0) else a4) := ⟨_, rfl⟩
      have n5 : (0) ≤ a5 := by rw [e5]; split <;> omega
      obtain ⟨a6, e6⟩ : ∃ z : Int, z = opI 10 .u64 (2305843009213693952) a5 := ⟨_, rfl⟩
      have p6 : 0 ≤ a6 := by rw [e6]; exact fdiv_nn (x := (2305843009213693952)) (by omega) _
      cases c3_15 : cmI 15 a0 a6 with
      | true =>
        have dc3_15 := cm15t c3_15
        refine ⟨(0), 5, by omega, fun w => ?_⟩
        letI : Sg := ⟨fun i => ([.int .u64 a0, .int .i64 a1, .float .f64 a2, .int .i64 a3, .int .i64 a4, .int .i64 a5, .int .u64 a6] : List Value)[i]?⟩
        exact symCalls (T := gValTT15) xfollows xL_ok ⟨All.mem (.cons (EB.ar (.atom rfl rfl) (.atom rfl rfl) rfl (e4 ▸ Is.atom (v' := .int .i64 a4) rfl rfl)) (.cons (EB.cm (.atom rfl rfl) (.int _ _) rfl c1_0) (.cons (EB.cm (.atom rfl rfl) (.int _ _) rfl c2_11) (.cons (EB.sh (.int _ _) (.atom rfl rfl) (by decide) (by omega) (e6 ▸ Is.atom (v' := .int .u64 a6) rfl rfl)) (.cons (EB.cm (.atom rfl rfl) (.atom rfl rfl) rfl c3_15) .nil))))), All.mem .nil, All.mem .nil, All.mem .nil, All.mem .nil, All.mem (.cons (EM.max (.atom rfl rfl) (.int _ _) (e5 ▸ Is.atom (v' := .int .i64 a5) rfl rfl)) .nil)⟩ gValTr15 (.cons (.aggL (.cons (.closed rfl) (.cons (.atom rfl rfl) (.cons (.atom rfl rfl) (.cons (.atom rfl rfl) .nil))))) (.cons (.atom rfl rfl) .nil)) (.tupL (.cons (.int _ _) (.cons (.int _ _) .nil))) w
      | false =>
        have dc3_15 := cm15f c3_15
        cases c4_16 : cmI 15 a0 (2305843009213693952) with
        | true =>
          have dc4_16 := cm15t c4_16
          refine ⟨(0), 5, by omega, fun w => ?_⟩
          letI : Sg := ⟨fun i => ([.int .u64 a0, .int .i64 a1, .float .f64 a2, .int .i64 a3, .int .i64 a4, .int .i64 a5, .int .u64 a6] : List Value)[i]?⟩
          exact symCalls (T := gValTT16) xfollows xL_ok ⟨All.mem (.cons (EB.ar (.atom rfl rfl) (.atom rfl rfl) rfl (e4 ▸ Is.atom (v' := .int .i64 a4) rfl rfl)) (.cons (EB.cm (.atom rfl rfl) (.int _ _) rfl c1_0) (.cons (EB.cm (.atom rfl rfl) (.int _ _) rfl c2_11) (.cons (EB.sh (.int _ _) (.atom rfl rfl) (by decide) (by omega) (e6 ▸ Is.atom (v' := .int .u64 a6) rfl rfl)) (.cons (EB.cm (.atom rfl rfl) (.atom rfl rfl) rfl c3_15) (.cons (EB.cm (.atom rfl rfl) (.int _ _) rfl c4_16) .nil)))))), All.mem .nil, All.mem .nil, All.mem .nil, All.mem .nil, All.mem (.cons (EM.max (.atom rfl rfl) (.int _ _) (e5 ▸ Is.atom (v' := .int .i64 a5) rfl rfl)) .nil)⟩ gValTr16 (.cons (.aggL (.cons (.closed rfl) (.cons (.atom rfl rfl) (.cons (.atom rfl rfl) (.cons (.atom rfl rfl) .nil))))) (.cons (.atom rfl rfl) .nil)) (.tupL (.cons (.int _ _) (.cons (.int _ _) .nil))) w
        | false =>
          have dc4_16 := cm15f c4_16
          obtain ⟨a7, e7⟩ : ∃ z : Int, z = IntKind.i64.wrap a0 := ⟨_, rfl⟩
          have s7 : a7 = a0 := by rw [e7]; exact wrap_i64 (by omega) (by omega)
          obtain ⟨a8, e8⟩ : ∃ z : Int, z = IntKind.i64.wrap (0 - a7) := ⟨_, rfl⟩
          have s8 : a8 = 0 - a7 := by rw [e8]; exact wrap_i64 (by omega) (by omega)
          refine ⟨a8, 0, by omega, fun w => ?_⟩
          letI : Sg := ⟨fun i => ([.int .u64 a0, .int .i64 a1, .float .f64 a2, .int .i64 a3, .int .i64 a4, .int .i64 a5, .int .u64 a6, .int .i64 a7, .int .i64 a8] : List Value)[i]?⟩
          exact symCalls (T := gValTT17) xfollows xL_ok ⟨All.mem (.cons (EB.ar (.atom rfl rfl) (.atom rfl rfl) rfl (e4 ▸ Is.atom (v' := .int .i64 a4) rfl rfl)) (.cons (EB.cm (.atom rfl rfl) (.int _ _) rfl c1_0) (.cons (EB.cm (.atom rfl rfl) (.int _ _) rfl c2_11) (.cons (EB.sh (.int _ _) (.atom rfl rfl) (by decide) (by omega) (e6 ▸ Is.atom (v' := .int .u64 a6) rfl rfl)) (.cons (EB.cm (.atom rfl rfl) (.atom rfl rfl) rfl c3_15) (.cons (EB.cm (.atom rfl rfl) (.int _ _) rfl c4_16) .nil)))))), All.mem (.cons (EC.int underlying22 underlying2 (.atom rfl rfl) (e7 ▸ Is.atom (v' := .int .i64 a7) rfl rfl)) .nil), All.mem (.cons (EU.neg (.atom rfl rfl) (e8 ▸ Is.atom (v' := .int .i64 a8) rfl rfl)) .nil), All.mem .nil, All.mem .nil, All.mem (.cons (EM.max (.atom rfl rfl) (.int _ _) (e5 ▸ Is.atom (v' := .int .i64 a5) rfl rfl)) .nil)⟩ gValTr17 (.cons (.aggL (.cons (.closed rfl) (.cons (.atom rfl rfl) (.cons (.atom rfl rfl) (.cons (.atom rfl rfl) .nil))))) (.cons (.atom rfl rfl) .nil)) (.tupL (.cons (.atom rfl rfl) (.cons (.int _ _) .nil))) w
noncomputable def gValFT0 : Tabs := ⟨[(0, 3, aI 1, aI 3, aI 4), (13, 3, aI 4, .int .i64 (0), .bool true), (15, 3, aI 5, .int .i64 (54), .bool true)], [], [(0, aI 4, aI 5)], [], [], []⟩
theorem gValFr0 : outB (.tuple #[.int .i64 (0), .int .i64 (0)]) .nil 1 (runA prog (symL xL gValFT0) 30 [.agg #[.bool false, aI 0, aI 1, aI 2], aI 3] 5000) = true := by kernel_rfl
noncomputable def gValFT1 : Tabs := ⟨[(0, 3, aI 1, aI 3, aI 4), (13, 3, aI 4, .int .i64 (0), .bool true), (15, 3, aI 5, .int .i64 (54), .bool false), (10, 22, aI 0, aI 5, aI 6), (9, 22, .int .u64 (1), aI 5, aI 7), (1, 22, aI 7, .int .u64 (1), aI 8), (5, 22, aI 0, aI 8, aI 9), (10, 22, aI 7, .int .u64 (1), aI 10), (15, 22, aI 9, aI 10, .bool true), (0, 22, aI 6, .int .u64 (1), aI 11), (15, 22, aI 11, .int .u64 (2305843009213693952), .bool true)], [], [(0, aI 4, aI 5)], [], [], []⟩
theorem gValFr1 : outB (.tuple #[.int .i64 (0), .int .i64 (5)]) .nil 1 (runA prog (symL xL gValFT1) 30 [.agg #[.bool false, aI 0, aI 1, aI 2], aI 3] 5000) = true := by kernel_rfl
noncomputable def gValFT2 : Tabs := ⟨[(0, 3, aI 1, aI 3, aI 4), (13, 3, aI 4, .int .i64 (0), .bool true), (15, 3, aI 5, .int .i64 (54), .bool false), (10, 22, aI 0, aI 5, aI 6), (9, 22, .int .u64 (1), aI 5, aI 7), (1, 22, aI 7, .int .u64 (1), aI 8), (5, 22, aI 0, aI 8, aI 9), (10, 22, aI 7, .int .u64 (1), aI 10), (15, 22, aI 9, aI 10, .bool true), (0, 22, aI 6, .int .u64 (1), aI 11), (15, 22, aI 11, .int .u64 (2305843009213693952), .bool false)], [(22, 2, aI 11, aI 12)], [(0, aI 4, aI 5)], [], [], []⟩
theorem gValFr2 : outB (.tuple #[aI 12, .int .i64 (0)]) .nil 1 (runA prog (symL xL gValFT2) 30 [.agg #[.bool false, aI 0, aI 1, aI 2], aI 3] 5000) = true := by kernel_rfl
noncomputable def gValFT3 : Tabs := ⟨[(0, 3, aI 1, aI 3, aI 4), (13, 3, aI 4, .int .i64 (0), .bool true), (15, 3, aI 5, .int .i64 (54), .bool false), (10, 22, aI 0, aI 5, aI 6), (9, 22, .int .u64 (1), aI 5, aI 7), (1, 22, aI 7, .int .u64 (1), aI 8), (5, 22, aI 0, aI 8, aI 9), (10, 22, aI 7, .int .u64 (1), aI 10), (15, 22, aI 9, aI 10, .bool false), (11, 22, aI 9, aI 10, .bool true), (15, 22, aI 10, .int .u64 (0), .bool true), (5, 22, aI 6, .int .u64 (1), aI 11), (11, 22, aI 11, .int .u64 (1), .bool true), (0, 22, aI 6, .int .u64 (1), aI 12), (15, 22, aI 12, .int .u64 (2305843009213693952), .bool true)], [], [(0, aI 4, aI 5)], [], [], []⟩
theorem gValFr3 : outB (.tuple #[.int .i64 (0), .int .i64 (5)]) .nil 1 (runA prog (symL xL gValFT3) 30 [.agg #[.bool false, aI 0, aI 1, aI 2], aI 3] 5000) = true := by kernel_rfl
noncomputable def gValFT4 : Tabs := ⟨[(0, 3, aI 1, aI 3, aI 4), (13, 3, aI 4, .int .i64 (0), .bool true), (15, 3, aI 5, .int .i64 (54), .bool false), (10, 22, aI 0, aI 5, aI 6), (9, 22, .int .u64 (1), aI 5, aI 7), (1, 22, aI 7, .int .u64 (1), aI 8), (5, 22, aI 0, aI 8, aI 9), (10, 22, aI 7, .int .u64 (1), aI 10), (15, 22, aI 9, aI 10, .bool false), (11, 22, aI 9, aI 10, .bool true), (15, 22, aI 10, .int .u64 (0), .bool true), (5, 22, aI 6, .int .u64 (1), aI 11), (11, 22, aI 11, .int .u64 (1), .bool true), (0, 22, aI 6, .int .u64 (1), aI 12), (15, 22, aI 12, .int .u64 (2305843009213693952), .bool false)], [(22, 2, aI 12, aI 13)], [(0, aI 4, aI 5)], [], [], []⟩
theorem gValFr4 : outB (.tuple #[aI 13, .int .i64 (0)]) .nil 1 (runA prog (symL xL gValFT4) 30 [.agg #[.bool false, aI 0, aI 1, aI 2], aI 3] 5000) = true := by kernel_rfl
noncomputable def gValFT5 : Tabs := ⟨[(0, 3, aI 1, aI 3, aI 4), (13, 3, aI 4, .int .i64 (0), .bool true), (15, 3, aI 5, .int .i64 (54), .bool false), (10, 22, aI 0, aI 5, aI 6), (9, 22, .int .u64 (1), aI 5, aI 7), (1, 22, aI 7, .int .u64 (1), aI 8), (5, 22, aI 0, aI 8, aI 9), (10, 22, aI 7, .int .u64 (1), aI 10), (15, 22, aI 9, aI 10, .bool false), (11, 22, aI 9, aI 10, .bool true), (15, 22, aI 10, .int .u64 (0), .bool true), (5, 22, aI 6, .int .u64 (1), aI 11), (11, 22, aI 11, .int .u64 (1), .bool false), (15, 22, aI 6, .int .u64 (2305843009213693952), .bool true)], [], [(0, aI 4, aI 5)], [], [], []⟩
theorem gValFr5 : outB (.tuple #[.int .i64 (0), .int .i64 (5)]) .nil 1 (runA prog (symL xL gValFT5) 30 [.agg #[.bool false, aI 0, aI 1, aI 2], aI 3] 5000) = true := by kernel_rfl
noncomputable def gValFT6 : Tabs := ⟨[(0, 3, aI 1, aI 3, aI 4), (13, 3, aI 4, .int .i64 (0), .bool true), (15, 3, aI 5, .int .i64 (54), .bool false), (10, 22, aI 0, aI 5, aI 6), (9, 22, .int .u64 (1), aI 5, aI 7), (1, 22, aI 7, .int .u64 (1), aI 8), (5, 22, aI 0, aI 8, aI 9), (10, 22, aI 7, .int .u64 (1), aI 10), (15, 22, aI 9, aI 10, .bool false), (11, 22, aI 9, aI 10, .bool true), (15, 22, aI 10, .int .u64 (0), .bool true), (5, 22, aI 6, .int .u64 (1), aI 11), (11, 22, aI 11, .int .u64 (1), .bool false), (15, 22, aI 6, .int .u64 (2305843009213693952), .bool false)], [(22, 2, aI 6, aI 12)], [(0, aI 4, aI 5)], [], [], []⟩
theorem gValFr6 : outB (.tuple #[aI 12, .int .i64 (0)]) .nil 1 (runA prog (symL xL gValFT6) 30 [.agg #[.bool false, aI 0, aI 1, aI 2], aI 3] 5000) = true := by kernel_rfl
noncomputable def gValFT7 : Tabs := ⟨[(0, 3, aI 1, aI 3, aI 4), (13, 3, aI 4, .int .i64 (0), .bool true), (15, 3, aI 5, .int .i64 (54), .bool false), (10, 22, aI 0, aI 5, aI 6), (9, 22, .int .u64 (1), aI 5, aI 7), (1, 22, aI 7, .int .u64 (1), aI 8), (5, 22, aI 0, aI 8, aI 9), (10, 22, aI 7, .int .u64 (1), aI 10), (15, 22, aI 9, aI 10, .bool false), (11, 22, aI 9, aI 10, .bool true), (15, 22, aI 10, .int .u64 (0), .bool false), (15, 22, aI 6, .int .u64 (2305843009213693952), .bool true)], [], [(0, aI 4, aI 5)], [], [], []⟩
theorem gValFr7 : outB (.tuple #[.int .i64 (0), .int .i64 (5)]) .nil 1 (runA prog (symL xL gValFT7) 30 [.agg #[.bool false, aI 0, aI 1, aI 2], aI 3] 5000) = true := by kernel_rfl
noncomputable def gValFT8 : Tabs := ⟨[(0, 3, aI 1, aI 3, aI 4), (13, 3, aI 4, .int .i64 (0), .bool true), (15, 3, aI 5, .int .i64 (54), .bool false), (10, 22, aI 0, aI 5, aI 6), (9, 22, .int .u64 (1), aI 5, aI 7), (1, 22, aI 7, .int .u64 (1), aI 8), (5, 22, aI 0, aI 8, aI 9), (10, 22, aI 7, .int .u64 (1), aI 10), (15, 22, aI 9, aI 10, .bool false), (11, 22, aI 9, aI 10, .bool true), (15, 22, aI 10, .int .u64 (0), .bool false), (15, 22, aI 6, .int .u64 (2305843009213693952), .bool false)], [(22, 2, aI 6, aI 11)], [(0, aI 4, aI 5)], [], [], []⟩
theorem gValFr8 : outB (.tuple #[aI 11, .int .i64 (0)]) .nil 1 (runA prog (symL xL gValFT8) 30 [.agg #[.bool false, aI 0, aI 1, aI 2], aI 3] 5000) = true := by kernel_rfl
noncomputable def gValFT9 : Tabs := ⟨[(0, 3, aI 1, aI 3, aI 4), (13, 3, aI 4, .int .i64 (0), .bool true), (15, 3, aI 5, .int .i64 (54), .bool false), (10, 22, aI 0, aI 5, aI 6), (9, 22, .int .u64 (1), aI 5, aI 7), (1, 22, aI 7, .int .u64 (1), aI 8), (5, 22, aI 0, aI 8, aI 9), (10, 22, aI 7, .int .u64 (1), aI 10), (15, 22, aI 9, aI 10, .bool false), (11, 22, aI 9, aI 10, .bool false), (15, 22, aI 6, .int .u64 (2305843009213693952), .bool true)], [], [(0, aI 4, aI 5)], [], [], []⟩
theorem gValFr9 : outB (.tuple #[.int .i64 (0), .int .i64 (5)]) .nil 1 (runA prog (symL xL gValFT9) 30 [.agg #[.bool false, aI 0, aI 1, aI 2], aI 3] 5000) = true := by kernel_rfl
noncomputable def gValFT10 : Tabs := ⟨[(0, 3, aI 1, aI 3, aI 4), (13, 3, aI 4, .int .i64 (0), .bool true), (15, 3, aI 5, .int .i64 (54), .bool false), (10, 22, aI 0, aI 5, aI 6), (9, 22, .int .u64 (1), aI 5, aI 7), (1, 22, aI 7, .int .u64 (1), aI 8), (5, 22, aI 0, aI 8, aI 9), (10, 22, aI 7, .int .u64 (1), aI 10), (15, 22, aI 9, aI 10, .bool false), (11, 22, aI 9, aI 10, .bool false), (15, 22, aI 6, .int .u64 (2305843009213693952), .bool false)], [(22, 2, aI 6, aI 11)], [(0, aI 4, aI 5)], [], [], []⟩
theorem gValFr10 : outB (.tuple #[aI 11, .int .i64 (0)]) .nil 1 (runA prog (symL xL gValFT10) 30 [.agg #[.bool false, aI 0, aI 1, aI 2], aI 3] 5000) = true := by kernel_rfl
noncomputable def gValFT11 : Tabs := ⟨[(0, 3, aI 1, aI 3, aI 4), (13, 3, aI 4, .int .i64 (0), .bool false), (15, 22, aI 0, .int .u64 (0), .bool true), (15, 3, aI 4, .int .i64 (61), .bool true)], [], [], [], [], []⟩
theorem gValFr11 : outB (.tuple #[.int .i64 (0), .int .i64 (5)]) .nil 1 (runA prog (symL xL gValFT11) 30 [.agg #[.bool false, aI 0, aI 1, aI 2], aI 3] 5000) = true := by kernel_rfl
noncomputable def gValFT12 : Tabs := ⟨[(0, 3, aI 1, aI 3, aI 4), (13, 3, aI 4, .int .i64 (0), .bool false), (15, 22, aI 0, .int .u64 (0), .bool true), (15, 3, aI 4, .int .i64 (61), .bool false), (10, 22, .int .u64 (2305843009213693952), aI 5, aI 6), (15, 22, aI 0, aI 6, .bool true)], [], [], [], [], [(1, [aI 4, .int .i64 (0)], aI 5)]⟩
theorem gValFr12 : outB (.tuple #[.int .i64 (0), .int .i64 (5)]) .nil 1 (runA prog (symL xL gValFT12) 30 [.agg #[.bool false, aI 0, aI 1, aI 2], aI 3] 5000) = true := by kernel_rfl
noncomputable def gValFT13 : Tabs := ⟨[(0, 3, aI 1, aI 3, aI 4), (13, 3, aI 4, .int .i64 (0), .bool false), (15, 22, aI 0, .int .u64 (0), .bool true), (15, 3, aI 4, .int .i64 (61), .bool false), (10, 22, .int .u64 (2305843009213693952), aI 5, aI 6), (15, 22, aI 0, aI 6, .bool false), (9, 22, aI 0, aI 4, aI 7), (15, 22, aI 7, .int .u64 (2305843009213693952), .bool true)], [], [], [], [], [(1, [aI 4, .int .i64 (0)], aI 5)]⟩
theorem gValFr13 : outB (.tuple #[.int .i64 (0), .int .i64 (5)]) .nil 1 (runA prog (symL xL gValFT13) 30 [.agg #[.bool false, aI 0, aI 1, aI 2], aI 3] 5000) = true := by kernel_rfl
noncomputable def gValFT14 : Tabs := ⟨[(0, 3, aI 1, aI 3, aI 4), (13, 3, aI 4, .int .i64 (0), .bool false), (15, 22, aI 0, .int .u64 (0), .bool true), (15, 3, aI 4, .int .i64 (61), .bool false), (10, 22, .int .u64 (2305843009213693952), aI 5, aI 6), (15, 22, aI 0, aI 6, .bool false), (9, 22, aI 0, aI 4, aI 7), (15, 22, aI 7, .int .u64 (2305843009213693952), .bool false)], [(22, 2, aI 7, aI 8)], [], [], [], [(1, [aI 4, .int .i64 (0)], aI 5)]⟩
theorem gValFr14 : outB (.tuple #[aI 8, .int .i64 (0)]) .nil 1 (runA prog (symL xL gValFT14) 30 [.agg #[.bool false, aI 0, aI 1, aI 2], aI 3] 5000) = true := by kernel_rfl
noncomputable def gValFT15 : Tabs := ⟨[(0, 3, aI 1, aI 3, aI 4), (13, 3, aI 4, .int .i64 (0), .bool false), (15, 22, aI 0, .int .u64 (0), .bool false), (10, 22, .int .u64 (2305843009213693952), aI 5, aI 6), (15, 22, aI 0, aI 6, .bool true)], [], [], [], [], [(1, [aI 4, .int .i64 (0)], aI 5)]⟩
theorem gValFr15 : outB (.tuple #[.int .i64 (0), .int .i64 (5)]) .nil 1 (runA prog (symL xL gValFT15) 30 [.agg #[.bool false, aI 0, aI 1, aI 2], aI 3] 5000) = true := by kernel_rfl
noncomputable def gValFT16 : Tabs := ⟨[(0, 3, aI 1, aI 3, aI 4), (13, 3, aI 4, .int .i64 (0), .bool false), (15, 22, aI 0, .int .u64 (0), .bool false), (10, 22, .int .u64 (2305843009213693952), aI 5, aI 6), (15, 22, aI 0, aI 6, .bool false), (15, 22, aI 0, .int .u64 (2305843009213693952), .bool true)], [], [], [], [], [(1, [aI 4, .int .i64 (0)], aI 5)]⟩
theorem gValFr16 : outB (.tuple #[.int .i64 (0), .int .i64 (5)]) .nil 1 (runA prog (symL xL gValFT16) 30 [.agg #[.bool false, aI 0, aI 1, aI 2], aI 3] 5000) = true := by kernel_rfl
noncomputable def gValFT17 : Tabs := ⟨[(0, 3, aI 1, aI 3, aI 4), (13, 3, aI 4, .int .i64 (0), .bool false), (15, 22, aI 0, .int .u64 (0), .bool false), (10, 22, .int .u64 (2305843009213693952), aI 5, aI 6), (15, 22, aI 0, aI 6, .bool false), (15, 22, aI 0, .int .u64 (2305843009213693952), .bool false)], [(22, 2, aI 0, aI 7)], [], [], [], [(1, [aI 4, .int .i64 (0)], aI 5)]⟩
theorem gValFr17 : outB (.tuple #[aI 7, .int .i64 (0)]) .nil 1 (runA prog (symL xL gValFT17) 30 [.agg #[.bool false, aI 0, aI 1, aI 2], aI 3] 5000) = true := by kernel_rfl
set_option maxRecDepth 100000 in
theorem gValF (a0 a1 : Int) (a2 : Nat) (a3 : Int) (h0 : 0 ≤ a0) (h1 : -1075 ≤ a1 ∧ a1 ≤ 972) (h3 : -40 ≤ a3 ∧ a3 ≤ 40) :
    ∃ v e : Int, (e = 5 ∧ v = 0 ∨ e = 0 ∧ -2305843009213693952 ≤ v ∧ v ≤ 2305843009213693952) ∧ ∀ w, Calls prog 30 #[.agg #[.bool false, .int .u64 a0, .int .i64 a1, .float .f64 a2], .int .i64 a3] w fun ev w' => ev = .returned (.tuple #[.int .i64 v, .int .i64 e]) ∧ Below w.heap.size w w' := by
  obtain ⟨a4, e4⟩ : ∃ z : Int, z = opI 0 .i64 a1 a3 := ⟨_, rfl⟩
  have s4 : a4 = a1 + a3 := by rw [e4]; exact wrap_i64 (by omega) (by omega)
  cases c1_0 : cmI 13 a4 (0) with
  | true =>
    have dc1_0 := cm13t c1_0
    obtain ⟨a5, e5⟩ : ∃ z : Int, z = IntKind.i64.wrap (0 - a4) := ⟨_, rfl⟩
    have s5 : a5 = 0 - a4 := by rw [e5]; exact wrap_i64 (by omega) (by omega)
    cases c2_0 : cmI 15 a5 (54) with
    | true =>
      have dc2_0 := cm15t c2_0
      refine ⟨(0), 0, by omega, fun w => ?_⟩
      letI : Sg := ⟨fun i => ([.int .u64 a0, .int .i64 a1, .float .f64 a2, .int .i64 a3, .int .i64 a4, .int .i64 a5] : List Value)[i]?⟩
      exact symCalls (T := gValFT0) xfollows xL_ok ⟨All.mem (.cons (EB.ar (.atom rfl rfl) (.atom rfl rfl) rfl (e4 ▸ Is.atom (v' := .int .i64 a4) rfl rfl)) (.cons (EB.cm (.atom rfl rfl) (.int _ _) rfl c1_0) (.cons (EB.cm (.atom rfl rfl) (.int _ _) rfl c2_0) .nil))), All.mem .nil, All.mem (.cons (EU.neg (.atom rfl rfl) (e5 ▸ Is.atom (v' := .int .i64 a5) rfl rfl)) .nil), All.mem .nil, All.mem .nil, All.mem .nil⟩ gValFr0 (.cons (.aggL (.cons (.closed rfl) (.cons (.atom rfl rfl) (.cons (.atom rfl rfl) (.cons (.atom rfl rfl) .nil))))) (.cons (.atom rfl rfl) .nil)) (.tupL (.cons (.int _ _) (.cons (.int _ _) .nil))) w
    | false =>
      have dc2_0 := cm15f c2_0
      obtain ⟨a6, e6⟩ : ∃ z : Int, z = opI 10 .u64 a0 a5 := ⟨_, rfl⟩
      have p6 : 0 ≤ a6 := by rw [e6]; exact fdiv_nn (x := a0) (by omega) _
      obtain ⟨a7, e7⟩ : ∃ z : Int, z = opI 9 .u64 (1) a5 := ⟨_, rfl⟩
      have p7 : 0 ≤ a7 := by rw [e7]; exact wrap_u64_nonneg _
      obtain ⟨a8, e8⟩ : ∃ z : Int, z = opI 1 .u64 a7 (1) := ⟨_, rfl⟩
      have p8 : 0 ≤ a8 := by rw [e8]; exact wrap_u64_nonneg _
      obtain ⟨a9, e9⟩ : ∃ z : Int, z = opI 5 .u64 a0 a8 := ⟨_, rfl⟩
      have p9 : 0 ≤ a9 := by rw [e9]; exact wrap_u64_nonneg _
      obtain ⟨a10, e10⟩ : ∃ z : Int, z = opI 10 .u64 a7 (1) := ⟨_, rfl⟩
      have p10 : 0 ≤ a10 := by rw [e10]; exact fdiv_nn (x := a7) (by omega) _
      cases c3_1 : cmI 15 a9 a10 with
      | true =>
        have dc3_1 := cm15t c3_1
        obtain ⟨a11, e11⟩ : ∃ z : Int, z = opI 0 .u64 a6 (1) := ⟨_, rfl⟩
        have p11 : 0 ≤ a11 := by rw [e11]; exact wrap_u64_nonneg _
        cases c4_1 : cmI 15 a11 (2305843009213693952) with
        | true =>
          have dc4_1 := cm15t c4_1
          refine ⟨(0), 5, by omega, fun w => ?_⟩
          letI : Sg := ⟨fun i => ([.int .u64 a0, .int .i64 a1, .float .f64 a2, .int .i64 a3, .int .i64 a4, .int .i64 a5, .int .u64 a6, .int .u64 a7, .int .u64 a8, .int .u64 a9, .int .u64 a10, .int .u64 a11] : List Value)[i]?⟩
          exact symCalls (T := gValFT1) xfollows xL_ok ⟨All.mem (.cons (EB.ar (.atom rfl rfl) (.atom rfl rfl) rfl (e4 ▸ Is.atom (v' := .int .i64 a4) rfl rfl)) (.cons (EB.cm (.atom rfl rfl) (.int _ _) rfl c1_0) (.cons (EB.cm (.atom rfl rfl) (.int _ _) rfl c2_0) (.cons (EB.sh (.atom rfl rfl) (.atom rfl rfl) (by decide) (by omega) (e6 ▸ Is.atom (v' := .int .u64 a6) rfl rfl)) (.cons (EB.sh (.int _ _) (.atom rfl rfl) (by decide) (by omega) (e7 ▸ Is.atom (v' := .int .u64 a7) rfl rfl)) (.cons (EB.ar (.atom rfl rfl) (.int _ _) rfl (e8 ▸ Is.atom (v' := .int .u64 a8) rfl rfl)) (.cons (EB.ar (.atom rfl rfl) (.atom rfl rfl) rfl (e9 ▸ Is.atom (v' := .int .u64 a9) rfl rfl)) (.cons (EB.sh (.atom rfl rfl) (.int _ _) (by decide) (by omega) (e10 ▸ Is.atom (v' := .int .u64 a10) rfl rfl)) (.cons (EB.cm (.atom rfl rfl) (.atom rfl rfl) rfl c3_1) (.cons (EB.ar (.atom rfl rfl) (.int _ _) rfl (e11 ▸ Is.atom (v' := .int .u64 a11) rfl rfl)) (.cons (EB.cm (.atom rfl rfl) (.int _ _) rfl c4_1) .nil))))))))))), All.mem .nil, All.mem (.cons (EU.neg (.atom rfl rfl) (e5 ▸ Is.atom (v' := .int .i64 a5) rfl rfl)) .nil), All.mem .nil, All.mem .nil, All.mem .nil⟩ gValFr1 (.cons (.aggL (.cons (.closed rfl) (.cons (.atom rfl rfl) (.cons (.atom rfl rfl) (.cons (.atom rfl rfl) .nil))))) (.cons (.atom rfl rfl) .nil)) (.tupL (.cons (.int _ _) (.cons (.int _ _) .nil))) w
        | false =>
          have dc4_1 := cm15f c4_1
          obtain ⟨a12, e12⟩ : ∃ z : Int, z = IntKind.i64.wrap a11 := ⟨_, rfl⟩
          have s12 : a12 = a11 := by rw [e12]; exact wrap_i64 (by omega) (by omega)
          refine ⟨a12, 0, by omega, fun w => ?_⟩
          letI : Sg := ⟨fun i => ([.int .u64 a0, .int .i64 a1, .float .f64 a2, .int .i64 a3, .int .i64 a4, .int .i64 a5, .int .u64 a6, .int .u64 a7, .int .u64 a8, .int .u64 a9, .int .u64 a10, .int .u64 a11, .int .i64 a12] : List Value)[i]?⟩
          exact symCalls (T := gValFT2) xfollows xL_ok ⟨All.mem (.cons (EB.ar (.atom rfl rfl) (.atom rfl rfl) rfl (e4 ▸ Is.atom (v' := .int .i64 a4) rfl rfl)) (.cons (EB.cm (.atom rfl rfl) (.int _ _) rfl c1_0) (.cons (EB.cm (.atom rfl rfl) (.int _ _) rfl c2_0) (.cons (EB.sh (.atom rfl rfl) (.atom rfl rfl) (by decide) (by omega) (e6 ▸ Is.atom (v' := .int .u64 a6) rfl rfl)) (.cons (EB.sh (.int _ _) (.atom rfl rfl) (by decide) (by omega) (e7 ▸ Is.atom (v' := .int .u64 a7) rfl rfl)) (.cons (EB.ar (.atom rfl rfl) (.int _ _) rfl (e8 ▸ Is.atom (v' := .int .u64 a8) rfl rfl)) (.cons (EB.ar (.atom rfl rfl) (.atom rfl rfl) rfl (e9 ▸ Is.atom (v' := .int .u64 a9) rfl rfl)) (.cons (EB.sh (.atom rfl rfl) (.int _ _) (by decide) (by omega) (e10 ▸ Is.atom (v' := .int .u64 a10) rfl rfl)) (.cons (EB.cm (.atom rfl rfl) (.atom rfl rfl) rfl c3_1) (.cons (EB.ar (.atom rfl rfl) (.int _ _) rfl (e11 ▸ Is.atom (v' := .int .u64 a11) rfl rfl)) (.cons (EB.cm (.atom rfl rfl) (.int _ _) rfl c4_1) .nil))))))))))), All.mem (.cons (EC.int underlying22 underlying2 (.atom rfl rfl) (e12 ▸ Is.atom (v' := .int .i64 a12) rfl rfl)) .nil), All.mem (.cons (EU.neg (.atom rfl rfl) (e5 ▸ Is.atom (v' := .int .i64 a5) rfl rfl)) .nil), All.mem .nil, All.mem .nil, All.mem .nil⟩ gValFr2 (.cons (.aggL (.cons (.closed rfl) (.cons (.atom rfl rfl) (.cons (.atom rfl rfl) (.cons (.atom rfl rfl) .nil))))) (.cons (.atom rfl rfl) .nil)) (.tupL (.cons (.atom rfl rfl) (.cons (.int _ _) .nil))) w
      | false =>
        have dc3_1 := cm15f c3_1
        cases c4_3 : cmI 11 a9 a10 with
        | true =>
          have dc4_3 := cm11t c4_3
          cases c5_3 : cmI 15 a10 (0) with
          | true =>
            have dc5_3 := cm15t c5_3
            obtain ⟨a11, e11⟩ : ∃ z : Int, z = opI 5 .u64 a6 (1) := ⟨_, rfl⟩
            have p11 : 0 ≤ a11 := by rw [e11]; exact wrap_u64_nonneg _
            have q11 : a11 ≤ 1 := by rw [e11]; exact opI_and_le _ _ (by decide) (by decide)
            cases c6_3 : cmI 11 a11 (1) with
            | true =>
              have dc6_3 := cm11t c6_3
              obtain ⟨a12, e12⟩ : ∃ z : Int, z = opI 0 .u64 a6 (1) := ⟨_, rfl⟩
              have p12 : 0 ≤ a12 := by rw [e12]; exact wrap_u64_nonneg _
              cases c7_3 : cmI 15 a12 (2305843009213693952) with
              | true =>
                have dc7_3 := cm15t c7_3
                refine ⟨(0), 5, by omega, fun w => ?_⟩
                letI : Sg := ⟨fun i => ([.int .u64 a0, .int .i64 a1, .float .f64 a2, .int .i64 a3, .int .i64 a4, .int .i64 a5, .int .u64 a6, .int .u64 a7, .int .u64 a8, .int .u64 a9, .int .u64 a10, .int .u64 a11, .int .u64 a12] : List Value)[i]?⟩
                exact symCalls (T := gValFT3) xfollows xL_ok ⟨All.mem (.cons (EB.ar (.atom rfl rfl) (.atom rfl rfl) rfl (e4 ▸ Is.atom (v' := .int .i64 a4) rfl rfl)) (.cons (EB.cm (.atom rfl rfl) (.int _ _) rfl c1_0) (.cons (EB.cm (.atom rfl rfl) (.int _ _) rfl c2_0) (.cons (EB.sh (.atom rfl rfl) (.atom rfl rfl) (by decide) (by omega) (e6 ▸ Is.atom (v' := .int .u64 a6) rfl rfl)) (.cons (EB.sh (.int _ _) (.atom rfl rfl) (by decide) (by omega) (e7 ▸ Is.atom (v' := .int .u64 a7) rfl rfl)) (.cons (EB.ar (.atom rfl rfl) (.int _ _) rfl (e8 ▸ Is.atom (v' := .int .u64 a8) rfl rfl)) (.cons (EB.ar (.atom rfl rfl) (.atom rfl rfl) rfl (e9 ▸ Is.atom (v' := .int .u64 a9) rfl rfl)) (.cons (EB.sh (.atom rfl rfl) (.int _ _) (by decide) (by omega) (e10 ▸ Is.atom (v' := .int .u64 a10) rfl rfl)) (.cons (EB.cm (.atom rfl rfl) (.atom rfl rfl) rfl c3_1) (.cons (EB.cm (.atom rfl rfl) (.atom rfl rfl) rfl c4_3) (.cons (EB.cm (.atom rfl rfl) (.int _ _) rfl c5_3) (.cons (EB.ar (.atom rfl rfl) (.int _ _) rfl (e11 ▸ Is.atom (v' := .int .u64 a11) rfl rfl)) (.cons (EB.cm (.atom rfl rfl) (.int _ _) rfl c6_3) (.cons (EB.ar (.atom rfl rfl) (.int _ _) rfl (e12 ▸ Is.atom (v' := .int .u64 a12) rfl rfl)) (.cons (EB.cm (.atom rfl rfl) (.int _ _) rfl c7_3) .nil))))))))))))))), All.mem .nil, All.mem (.cons (EU.neg (.atom rfl rfl) (e5 ▸ Is.atom (v' := .int .i64 a5) rfl rfl)) .nil), All.mem .nil, All.mem .nil, All.mem .nil⟩ gValFr3 (.cons (.aggL (.cons (.closed rfl) (.cons (.atom rfl rfl) (.cons (.atom rfl rfl) (.cons (.atom rfl rfl) .nil))))) (.cons (.atom rfl rfl) .nil)) (.tupL (.cons (.int _ _) (.cons (.int _ _) .nil))) w
              | false =>
                have dc7_3 := cm15f c7_3
                obtain ⟨a13, e13⟩ : ∃ z : Int, z = IntKind.i64.wrap a12 := ⟨_, rfl⟩
                have s13 : a13 = a12 := by rw [e13]; exact wrap_i64 (by omega) (by omega)
                refine ⟨a13, 0, by omega, fun w => ?_⟩
                letI : Sg := ⟨fun i => ([.int .u64 a0, .int .i64 a1, .float .f64 a2, .int .i64 a3, .int .i64 a4, .int .i64 a5, .int .u64 a6, .int .u64 a7, .int .u64 a8, .int .u64 a9, .int .u64 a10, .int .u64 a11, .int .u64 a12, .int .i64 a13] : List Value)[i]?⟩
                exact symCalls (T := gValFT4) xfollows xL_ok ⟨All.mem (.cons (EB.ar (.atom rfl rfl) (.atom rfl rfl) rfl (e4 ▸ Is.atom (v' := .int .i64 a4) rfl rfl)) (.cons (EB.cm (.atom rfl rfl) (.int _ _) rfl c1_0) (.cons (EB.cm (.atom rfl rfl) (.int _ _) rfl c2_0) (.cons (EB.sh (.atom rfl rfl) (.atom rfl rfl) (by decide) (by omega) (e6 ▸ Is.atom (v' := .int .u64 a6) rfl rfl)) (.cons (EB.sh (.int _ _) (.atom rfl rfl) (by decide) (by omega) (e7 ▸ Is.atom (v' := .int .u64 a7) rfl rfl)) (.cons (EB.ar (.atom rfl rfl) (.int _ _) rfl (e8 ▸ Is.atom (v' := .int .u64 a8) rfl rfl)) (.cons (EB.ar (.atom rfl rfl) (.atom rfl rfl) rfl (e9 ▸ Is.atom (v' := .int .u64 a9) rfl rfl)) (.cons (EB.sh (.atom rfl rfl) (.int _ _) (by decide) (by omega) (e10 ▸ Is.atom (v' := .int .u64 a10) rfl rfl)) (.cons (EB.cm (.atom rfl rfl) (.atom rfl rfl) rfl c3_1) (.cons (EB.cm (.atom rfl rfl) (.atom rfl rfl) rfl c4_3) (.cons (EB.cm (.atom rfl rfl) (.int _ _) rfl c5_3) (.cons (EB.ar (.atom rfl rfl) (.int _ _) rfl (e11 ▸ Is.atom (v' := .int .u64 a11) rfl rfl)) (.cons (EB.cm (.atom rfl rfl) (.int _ _) rfl c6_3) (.cons (EB.ar (.atom rfl rfl) (.int _ _) rfl (e12 ▸ Is.atom (v' := .int .u64 a12) rfl rfl)) (.cons (EB.cm (.atom rfl rfl) (.int _ _) rfl c7_3) .nil))))))))))))))), All.mem (.cons (EC.int underlying22 underlying2 (.atom rfl rfl) (e13 ▸ Is.atom (v' := .int .i64 a13) rfl rfl)) .nil), All.mem (.cons (EU.neg (.atom rfl rfl) (e5 ▸ Is.atom (v' := .int .i64 a5) rfl rfl)) .nil), All.mem .nil, All.mem .nil, All.mem .nil⟩ gValFr4 (.cons (.aggL (.cons (.closed rfl) (.cons (.atom rfl rfl) (.cons (.atom rfl rfl) (.cons (.atom rfl rfl) .nil))))) (.cons (.atom rfl rfl) .nil)) (.tupL (.cons (.atom rfl rfl) (.cons (.int _ _) .nil))) w
            | false =>
              have dc6_3 := cm11f c6_3
              cases c7_5 : cmI 15 a6 (2305843009213693952) with
              | true =>
                have dc7_5 := cm15t c7_5
                refine ⟨(0), 5, by omega, fun w => ?_⟩
                letI : Sg := ⟨fun i => ([.int .u64 a0, .int .i64 a1, .float .f64 a2, .int .i64 a3, .int .i64 a4, .int .i64 a5, .int .u64 a6, .int .u64 a7, .int .u64 a8, .int .u64 a9, .int .u64 a10, .int .u64 a11] : List Value)[i]?⟩
                exact symCalls (T := gValFT5) xfollows xL_ok ⟨All.mem (.cons (EB.ar (.atom rfl rfl) (.atom rfl rfl) rfl (e4 ▸ Is.atom (v' := .int .i64 a4) rfl rfl)) (.cons (EB.cm (.atom rfl rfl) (.int _ _) rfl c1_0) (.cons (EB.cm (.atom rfl rfl) (.int _ _) rfl c2_0) (.cons (EB.sh (.atom rfl rfl) (.atom rfl rfl) (by decide) (by omega) (e6 ▸ Is.atom (v' := .int .u64 a6) rfl rfl)) (.cons (EB.sh (.int _ _) (.atom rfl rfl) (by decide) (by omega) (e7 ▸ Is.atom (v' := .int .u64 a7) rfl rfl)) (.cons (EB.ar (.atom rfl rfl) (.int _ _) rfl (e8 ▸ Is.atom (v' := .int .u64 a8) rfl rfl)) (.cons (EB.ar (.atom rfl rfl) (.atom rfl rfl) rfl (e9 ▸ Is.atom (v' := .int .u64 a9) rfl rfl)) (.cons (EB.sh (.atom rfl rfl) (.int _ _) (by decide) (by omega) (e10 ▸ Is.atom (v' := .int .u64 a10) rfl rfl)) (.cons (EB.cm (.atom rfl rfl) (.atom rfl rfl) rfl c3_1) (.cons (EB.cm (.atom rfl rfl) (.atom rfl rfl) rfl c4_3) (.cons (EB.cm (.atom rfl rfl) (.int _ _) rfl c5_3) (.cons (EB.ar (.atom rfl rfl) (.int _ _) rfl (e11 ▸ Is.atom (v' := .int .u64 a11) rfl rfl)) (.cons (EB.cm (.atom rfl rfl) (.int _ _) rfl c6_3) (.cons (EB.cm (.atom rfl rfl) (.int _ _) rfl c7_5) .nil)))))))))))))), All.mem .nil, All.mem (.cons (EU.neg (.atom rfl rfl) (e5 ▸ Is.atom (v' := .int .i64 a5) rfl rfl)) .nil), All.mem .nil, All.mem .nil, All.mem .nil⟩ gValFr5 (.cons (.aggL (.cons (.closed rfl) (.cons (.atom rfl rfl) (.cons (.atom rfl rfl) (.cons (.atom rfl rfl) .nil))))) (.cons (.atom rfl rfl) .nil)) (.tupL (.cons (.int _ _) (.cons (.int _ _) .nil))) w
              | false =>
                have dc7_5 := cm15f c7_5
                obtain ⟨a12, e12⟩ : ∃ z : Int, z = IntKind.i64.wrap a6 := ⟨_, rfl⟩
                have s12 : a12 = a6 := by rw [e12]; exact wrap_i64 (by omega) (by omega)
                refine ⟨a12, 0, by omega, fun w => ?_⟩
                letI : Sg := ⟨fun i => ([.int .u64 a0, .int .i64 a1, .float .f64 a2, .int .i64 a3, .int .i64 a4, .int .i64 a5, .int .u64 a6, .int .u64 a7, .int .u64 a8, .int .u64 a9, .int .u64 a10, .int .u64 a11, .int .i64 a12] : List Value)[i]?⟩
                exact symCalls (T := gValFT6) xfollows xL_ok ⟨All.mem (.cons (EB.ar (.atom rfl rfl) (.atom rfl rfl) rfl (e4 ▸ Is.atom (v' := .int .i64 a4) rfl rfl)) (.cons (EB.cm (.atom rfl rfl) (.int _ _) rfl c1_0) (.cons (EB.cm (.atom rfl rfl) (.int _ _) rfl c2_0) (.cons (EB.sh (.atom rfl rfl) (.atom rfl rfl) (by decide) (by omega) (e6 ▸ Is.atom (v' := .int .u64 a6) rfl rfl)) (.cons (EB.sh (.int _ _) (.atom rfl rfl) (by decide) (by omega) (e7 ▸ Is.atom (v' := .int .u64 a7) rfl rfl)) (.cons (EB.ar (.atom rfl rfl) (.int _ _) rfl (e8 ▸ Is.atom (v' := .int .u64 a8) rfl rfl)) (.cons (EB.ar (.atom rfl rfl) (.atom rfl rfl) rfl (e9 ▸ Is.atom (v' := .int .u64 a9) rfl rfl)) (.cons (EB.sh (.atom rfl rfl) (.int _ _) (by decide) (by omega) (e10 ▸ Is.atom (v' := .int .u64 a10) rfl rfl)) (.cons (EB.cm (.atom rfl rfl) (.atom rfl rfl) rfl c3_1) (.cons (EB.cm (.atom rfl rfl) (.atom rfl rfl) rfl c4_3) (.cons (EB.cm (.atom rfl rfl) (.int _ _) rfl c5_3) (.cons (EB.ar (.atom rfl rfl) (.int _ _) rfl (e11 ▸ Is.atom (v' := .int .u64 a11) rfl rfl)) (.cons (EB.cm (.atom rfl rfl) (.int _ _) rfl c6_3) (.cons (EB.cm (.atom rfl rfl) (.int _ _) rfl c7_5) .nil)))))))))))))), All.mem (.cons (EC.int underlying22 underlying2 (.atom rfl rfl) (e12 ▸ Is.atom (v' := .int .i64 a12) rfl rfl)) .nil), All.mem (.cons (EU.neg (.atom rfl rfl) (e5 ▸ Is.atom (v' := .int .i64 a5) rfl rfl)) .nil), All.mem .nil, All.mem .nil, All.mem .nil⟩ gValFr6 (.cons (.aggL (.cons (.closed rfl) (.cons (.atom rfl rfl) (.cons (.atom rfl rfl) (.cons (.atom rfl rfl) .nil))))) (.cons (.atom rfl rfl) .nil)) (.tupL (.cons (.atom rfl rfl) (.cons (.int _ _) .nil))) w
          | false =>
            have dc5_3 := cm15f c5_3
            cases c6_7 : cmI 15 a6 (2305843009213693952) with
            | true =>
              have dc6_7 := cm15t c6_7
              refine ⟨(0), 5, by omega, fun w => ?_⟩
              letI : Sg := ⟨fun i => ([.int .u64 a0, .int .i64 a1, .float .f64 a2, .int .i64 a3, .int .i64 a4, .int .i64 a5, .int .u64 a6, .int .u64 a7, .int .u64 a8, .int .u64 a9, .int .u64 a10] : List Value)[i]?⟩
              exact symCalls (T := gValFT7) xfollows xL_ok ⟨All.mem (.cons (EB.ar (.atom rfl rfl) (.atom rfl rfl) rfl (e4 ▸ Is.atom (v' := .int .i64 a4) rfl rfl)) (.cons (EB.cm (.atom rfl rfl) (.int _ _) rfl c1_0) (.cons (EB.cm (.atom rfl rfl) (.int _ _) rfl c2_0) (.cons (EB.sh (.atom rfl rfl) (.atom rfl rfl) (by decide) (by omega) (e6 ▸ Is.atom (v' := .int .u64 a6) rfl rfl)) (.cons (EB.sh (.int _ _) (.atom rfl rfl) (by decide) (by omega) (e7 ▸ Is.atom (v' := .int .u64 a7) rfl rfl)) (.cons (EB.ar (.atom rfl rfl) (.int _ _) rfl (e8 ▸ Is.atom (v' := .int .u64 a8) rfl rfl)) (.cons (EB.ar (.atom rfl rfl) (.atom rfl rfl) rfl (e9 ▸ Is.atom (v' := .int .u64 a9) rfl rfl)) (.cons (EB.sh (.atom rfl rfl) (.int _ _) (by decide) (by omega) (e10 ▸ Is.atom (v' := .int .u64 a10) rfl rfl)) (.cons (EB.cm (.atom rfl rfl) (.atom rfl rfl) rfl c3_1) (.cons (EB.cm (.atom rfl rfl) (.atom rfl rfl) rfl c4_3) (.cons (EB.cm (.atom rfl rfl) (.int _ _) rfl c5_3) (.cons (EB.cm (.atom rfl rfl) (.int _ _) rfl c6_7) .nil)))))))))))), All.mem .nil, All.mem (.cons (EU.neg (.atom rfl rfl) (e5 ▸ Is.atom (v' := .int .i64 a5) rfl rfl)) .nil), All.mem .nil, All.mem .nil, All.mem .nil⟩ gValFr7 (.cons (.aggL (.cons (.closed rfl) (.cons (.atom rfl rfl) (.cons (.atom rfl rfl) (.cons (.atom rfl rfl) .nil))))) (.cons (.atom rfl rfl) .nil)) (.tupL (.cons (.int _ _) (.cons (.int _ _) .nil))) w
            | false =>
              have dc6_7 := cm15f c6_7
              obtain ⟨a11, e11⟩ : ∃ z : Int, z = IntKind.i64.wrap a6 := ⟨_, rfl⟩
              have s11 : a11 = a6 := by rw [e11]; exact wrap_i64 (by omega) (by omega)
              refine ⟨a11, 0, by omega, fun w => ?_⟩
              letI : Sg := ⟨fun i => ([.int .u64 a0, .int .i64 a1, .float .f64 a2, .int .i64 a3, .int .i64 a4, .int .i64 a5, .int .u64 a6, .int .u64 a7, .int .u64 a8, .int .u64 a9, .int .u64 a10, .int .i64 a11] : List Value)[i]?⟩
              exact symCalls (T := gValFT8) xfollows xL_ok ⟨All.mem (.cons (EB.ar (.atom rfl rfl) (.atom rfl rfl) rfl (e4 ▸ Is.atom (v' := .int .i64 a4) rfl rfl)) (.cons (EB.cm (.atom rfl rfl) (.int _ _) rfl c1_0) (.cons (EB.cm (.atom rfl rfl) (.int _ _) rfl c2_0) (.cons (EB.sh (.atom rfl rfl) (.atom rfl rfl) (by decide) (by omega) (e6 ▸ Is.atom (v' := .int .u64 a6) rfl rfl)) (.cons (EB.sh (.int _ _) (.atom rfl rfl) (by decide) (by omega) (e7 ▸ Is.atom (v' := .int .u64 a7) rfl rfl)) (.cons (EB.ar (.atom rfl rfl) (.int _ _) rfl (e8 ▸ Is.atom (v' := .int .u64 a8) rfl rfl)) (.cons (EB.ar (.atom rfl rfl) (.atom rfl rfl) rfl (e9 ▸ Is.atom (v' := .int .u64 a9) rfl rfl)) (.cons (EB.sh (.atom rfl rfl) (.int _ _) (by decide) (by omega) (e10 ▸ Is.atom (v' := .int .u64 a10) rfl rfl)) (.cons (EB.cm (.atom rfl rfl) (.atom rfl rfl) rfl c3_1) (.cons (EB.cm (.atom rfl rfl) (.atom rfl rfl) rfl c4_3) (.cons (EB.cm (.atom rfl rfl) (.int _ _) rfl c5_3) (.cons (EB.cm (.atom rfl rfl) (.int _ _) rfl c6_7) .nil)))))))))))), All.mem (.cons (EC.int underlying22 underlying2 (.atom rfl rfl) (e11 ▸ Is.atom (v' := .int .i64 a11) rfl rfl)) .nil), All.mem (.cons (EU.neg (.atom rfl rfl) (e5 ▸ Is.atom (v' := .int .i64 a5) rfl rfl)) .nil), All.mem .nil, All.mem .nil, All.mem .nil⟩ gValFr8 (.cons (.aggL (.cons (.closed rfl) (.cons (.atom rfl rfl) (.cons (.atom rfl rfl) (.cons (.atom rfl rfl) .nil))))) (.cons (.atom rfl rfl) .nil)) (.tupL (.cons (.atom rfl rfl) (.cons (.int _ _) .nil))) w
        | false =>
          have dc4_3 := cm11f c4_3
          cases c5_9 : cmI 15 a6 (2305843009213693952) with
          | true =>
            have dc5_9 := cm15t c5_9
            refine ⟨(0), 5, by omega, fun w => ?_⟩
            letI : Sg := ⟨fun i => ([.int .u64 a0, .int .i64 a1, .float .f64 a2, .int .i64 a3, .int .i64 a4, .int .i64 a5, .int .u64 a6, .int .u64 a7, .int .u64 a8, .int .u64 a9, .int .u64 a10] : List Value)[i]?⟩
            exact symCalls (T := gValFT9) xfollows xL_ok ⟨All.mem (.cons (EB.ar (.atom rfl rfl) (.atom rfl rfl) rfl (e4 ▸ Is.atom (v' := .int .i64 a4) rfl rfl)) (.cons (EB.cm (.atom rfl rfl) (.int _ _) rfl c1_0) (.cons (EB.cm (.atom rfl rfl) (.int _ _) rfl c2_0) (.cons (EB.sh (.atom rfl rfl) (.atom rfl rfl) (by decide) (by omega) (e6 ▸ Is.atom (v' := .int .u64 a6) rfl rfl)) (.cons (EB.sh (.int _ _) (.atom rfl rfl) (by decide) (by omega) (e7 ▸ Is.atom (v' := .int .u64 a7) rfl rfl)) (.cons (EB.ar (.atom rfl rfl) (.int _ _) rfl (e8 ▸ Is.atom (v' := .int .u64 a8) rfl rfl)) (.cons (EB.ar (.atom rfl rfl) (.atom rfl rfl) rfl (e9 ▸ Is.atom (v' := .int .u64 a9) rfl rfl)) (.cons (EB.sh (.atom rfl rfl) (.int _ _) (by decide) (by omega) (e10 ▸ Is.atom (v' := .int .u64 a10) rfl rfl)) (.cons (EB.cm (.atom rfl rfl) (.atom rfl rfl) rfl c3_1) (.cons (EB.cm (.atom rfl rfl) (.atom rfl rfl) rfl c4_3) (.cons (EB.cm (.atom rfl rfl) (.int _ _) rfl c5_9) .nil))))))))))), All.mem .nil, All.mem (.cons (EU.neg (.atom rfl rfl) (e5 ▸ Is.atom (v' := .int .i64 a5) rfl rfl)) .nil), All.mem .nil, All.mem .nil, All.mem .nil⟩ gValFr9 (.cons (.aggL (.cons (.closed rfl) (.cons (.atom rfl rfl) (.cons (.atom rfl rfl) (.cons (.atom rfl rfl) .nil))))) (.cons (.atom rfl rfl) .nil)) (.tupL (.cons (.int _ _) (.cons (.int _ _) .nil))) w
          | false =>
            have dc5_9 := cm15f c5_9
            obtain ⟨a11, e11⟩ : ∃ z : Int, z = IntKind.i64.wrap a6 := ⟨_, rfl⟩
            have s11 : a11 = a6 := by rw [e11]; exact wrap_i64 (by omega) (by omega)
            refine ⟨a11, 0, by omega, fun w => ?_⟩
            letI : Sg := ⟨fun i => ([.int .u64 a0, .int .i64 a1, .float .f64 a2, .int .i64 a3, .int .i64 a4, .int .i64 a5, .int .u64 a6, .int .u64 a7, .int .u64 a8, .int .u64 a9, .int .u64 a10, .int .i64 a11] : List Value)[i]?⟩
            exact symCalls (T := gValFT10) xfollows xL_ok ⟨All.mem (.cons (EB.ar (.atom rfl rfl) (.atom rfl rfl) rfl (e4 ▸ Is.atom (v' := .int .i64 a4) rfl rfl)) (.cons (EB.cm (.atom rfl rfl) (.int _ _) rfl c1_0) (.cons (EB.cm (.atom rfl rfl) (.int _ _) rfl c2_0) (.cons (EB.sh (.atom rfl rfl) (.atom rfl rfl) (by decide) (by omega) (e6 ▸ Is.atom (v' := .int .u64 a6) rfl rfl)) (.cons (EB.sh (.int _ _) (.atom rfl rfl) (by decide) (by omega) (e7 ▸ Is.atom (v' := .int .u64 a7) rfl rfl)) (.cons (EB.ar (.atom rfl rfl) (.int _ _) rfl (e8 ▸ Is.atom (v' := .int .u64 a8) rfl rfl)) (.cons (EB.ar (.atom rfl rfl) (.atom rfl rfl) rfl (e9 ▸ Is.atom (v' := .int .u64 a9) rfl rfl)) (.cons (EB.sh (.atom rfl rfl) (.int _ _) (by decide) (by omega) (e10 ▸ Is.atom (v' := .int .u64 a10) rfl rfl)) (.cons (EB.cm (.atom rfl rfl) (.atom rfl rfl) rfl c3_1) (.cons (EB.cm (.atom rfl rfl) (.atom rfl rfl) rfl c4_3) (.cons (EB.cm (.atom rfl rfl) (.int _ _) rfl c5_9) .nil))))))))))), All.mem (.cons (EC.int underlying22 underlying2 (.atom rfl rfl) (e11 ▸ Is.atom (v' := .int .i64 a11) rfl rfl)) .nil), All.mem (.cons (EU.neg (.atom rfl rfl) (e5 ▸ Is.atom (v' := .int .i64 a5) rfl rfl)) .nil), All.mem .nil, All.mem .nil, All.mem .nil⟩ gValFr10 (.cons (.aggL (.cons (.closed rfl) (.cons (.atom rfl rfl) (.cons (.atom rfl rfl) (.cons (.atom rfl rfl) .nil))))) (.cons (.atom rfl rfl) .nil)) (.tupL (.cons (.atom rfl rfl) (.cons (.int _ _) .nil))) w
  | false =>
    have dc1_0 := cm13f c1_0
    cases c2_11 : cmI 15 a0 (0) with
    | true =>
      have dc2_11 := cm15t c2_11
      cases c3_11 : cmI 15 a4 (61) with
      | true =>
        have dc3_11 := cm15t c3_11
        refine ⟨(0), 5, by omega, fun w => ?_⟩
        letI : Sg := ⟨fun i => ([.int .u64 a0, .int .i64 a1, .float .f64 a2, .int .i64 a3, .int .i64 a4] : List Value)[i]?⟩
        exact symCalls (T := gValFT11) xfollows xL_ok ⟨All.mem (.cons (EB.ar (.atom rfl rfl) (.atom rfl rfl) rfl (e4 ▸ Is.atom (v' := .int .i64 a4) rfl rfl)) (.cons (EB.cm (.atom rfl rfl) (.int _ _) rfl c1_0) (.cons (EB.cm (.atom rfl rfl) (.int _ _) rfl c2_11) (.cons (EB.cm (.atom rfl rfl) (.int _ _) rfl c3_11) .nil)))), All.mem .nil, All.mem .nil, All.mem .nil, All.mem .nil, All.mem .nil⟩ gValFr11 (.cons (.aggL (.cons (.closed rfl) (.cons (.atom rfl rfl) (.cons (.atom rfl rfl) (.cons (.atom rfl rfl) .nil))))) (.cons (.atom rfl rfl) .nil)) (.tupL (.cons (.int _ _) (.cons (.int _ _) .nil))) w
      | false =>
        have dc3_11 := cm15f c3_11
        obtain ⟨a5, e5⟩ : ∃ z : Int, z = (if (0) > a4 then (0) else a4) := ⟨_, rfl⟩
        have n5 : (0) ≤ a5 := by rw [e5]; split <;> omega
        obtain ⟨a6, e6⟩ : ∃ z : Int, z = opI 10 .u64 (2305843009213693952) a5 := ⟨_, rfl⟩
        have p6 : 0 ≤ a6 := by rw [e6]; exact fdiv_nn (x := (2305843009213693952)) (by omega) _
        cases c4_12 : cmI 15 a0 a6 with
        | true =>
          have dc4_12 := cm15t c4_12
          refine ⟨(0), 5, by omega, fun w => ?_⟩
          letI : Sg := ⟨fun i => ([.int .u64 a0, .int .i64 a1, .float .f64 a2, .int .i64 a3, .int .i64 a4, .int .i64 a5, .int .u64 a6] : List Value)[i]?⟩
          exact symCalls (T := gValFT12) xfollows xL_ok ⟨All.mem (.cons (EB.ar (.atom rfl rfl) (.atom rfl rfl) rfl (e4 ▸ Is.atom (v' := .int .i64 a4) rfl rfl)) (.cons (EB.cm (.atom rfl rfl) (.int _ _) rfl c1_0) (.cons (EB.cm (.atom rfl rfl) (.int _ _) rfl c2_11) (.cons (EB.cm (.atom rfl rfl) (.int _ _) rfl c3_11) (.cons (EB.sh (.int _ _) (.atom rfl rfl) (by decide) (by omega) (e6 ▸ Is.atom (v' := .int .u64 a6) rfl rfl)) (.cons (EB.cm (.atom rfl rfl) (.atom rfl rfl) rfl c4_12) .nil)))))), All.mem .nil, All.mem .nil, All.mem .nil, All.mem .nil, All.mem (.cons (EM.max (.atom rfl rfl) (.int _ _) (e5 ▸ Is.atom (v' := .int .i64 a5) rfl rfl)) .nil)⟩ gValFr12 (.cons (.aggL (.cons (.closed rfl) (.cons (.atom rfl rfl) (.cons (.atom rfl rfl) (.cons (.atom rfl rfl) .nil))))) (.cons (.atom rfl rfl) .nil)) (.tupL (.cons (.int _ _) (.cons (.int _ _) .nil))) w
        | false =>
          have dc4_12 := cm15f c4_12
          obtain ⟨a7, e7⟩ : ∃ z : Int, z = opI 9 .u64 a0 a4 := ⟨_, rfl⟩
          have p7 : 0 ≤ a7 := by rw [e7]; exact wrap_u64_nonneg _
          cases c5_13 : cmI 15 a7 (2305843009213693952) with
          | true =>
            have dc5_13 := cm15t c5_13
            refine ⟨(0), 5, by omega, fun w => ?_⟩
            letI : Sg := ⟨fun i => ([.int .u64 a0, .int .i64 a1, .float .f64 a2, .int .i64 a3, .int .i64 a4, .int .i64 a5, .int .u64 a6, .int .u64 a7] : List Value)[i]?⟩
            exact symCalls (T := gValFT13) xfollows xL_ok ⟨All.mem (.cons (EB.ar (.atom rfl rfl) (.atom rfl rfl) rfl (e4 ▸ Is.atom (v' := .int .i64 a4) rfl rfl)) (.cons (EB.cm (.atom rfl rfl) (.int _ _) rfl c1_0) (.cons (EB.cm (.atom rfl rfl) (.int _ _) rfl c2_11) (.cons (EB.cm (.atom rfl rfl) (.int _ _) rfl c3_11) (.cons (EB.sh (.int _ _) (.atom rfl rfl) (by decide) (by omega) (e6 ▸ Is.atom (v' := .int .u64 a6) rfl rfl)) (.cons (EB.cm (.atom rfl rfl) (.atom rfl rfl) rfl c4_12) (.cons (EB.sh (.atom rfl rfl) (.atom rfl rfl) (by decide) (by omega) (e7 ▸ Is.atom (v' := .int .u64 a7) rfl rfl)) (.cons (EB.cm (.atom rfl rfl) (.int _ _) rfl c5_13) .nil)))))))), All.mem .nil, All.mem .nil, All.mem .nil, All.mem .nil, All.mem (.cons (EM.max (.atom rfl rfl) (.int _ _) (e5 ▸ Is.atom (v' := .int .i64 a5) rfl rfl)) .nil)⟩ gValFr13 (.cons (.aggL (.cons (.closed rfl) (.cons (.atom rfl rfl) (.cons (.atom rfl rfl) (.cons (.atom rfl rfl) .nil))))) (.cons (.atom rfl rfl) .nil)) (.tupL (.cons (.int _ _) (.cons (.int _ _) .nil))) w
          | false =>
            have dc5_13 := cm15f c5_13
            obtain ⟨a8, e8⟩ : ∃ z : Int, z = IntKind.i64.wrap a7 := ⟨_, rfl⟩
            have s8 : a8 = a7 := by rw [e8]; exact wrap_i64 (by omega) (by omega)
            refine ⟨a8, 0, by omega, fun w => ?_⟩
            letI : Sg := ⟨fun i => ([.int .u64 a0, .int .i64 a1, .float .f64 a2, .int .i64 a3, .int .i64 a4, .int .i64 a5, .int .u64 a6, .int .u64 a7, .int .i64 a8] : List Value)[i]?⟩
            exact symCalls (T := gValFT14) xfollows xL_ok ⟨All.mem (.cons (EB.ar (.atom rfl rfl) (.atom rfl rfl) rfl (e4 ▸ Is.atom (v' := .int .i64 a4) rfl rfl)) (.cons (EB.cm (.atom rfl rfl) (.int _ _) rfl c1_0) (.cons (EB.cm (.atom rfl rfl) (.int _ _) rfl c2_11) (.cons (EB.cm (.atom rfl rfl) (.int _ _) rfl c3_11) (.cons (EB.sh (.int _ _) (.atom rfl rfl) (by decide) (by omega) (e6 ▸ Is.atom (v' := .int .u64 a6) rfl rfl)) (.cons (EB.cm (.atom rfl rfl) (.atom rfl rfl) rfl c4_12) (.cons (EB.sh (.atom rfl rfl) (.atom rfl rfl) (by decide) (by omega) (e7 ▸ Is.atom (v' := .int .u64 a7) rfl rfl)) (.cons (EB.cm (.atom rfl rfl) (.int _ _) rfl c5_13) .nil)))))))), All.mem (.cons (EC.int underlying22 underlying2 (.atom rfl rfl) (e8 ▸ Is.atom (v' := .int .i64 a8) rfl rfl)) .nil), All.mem .nil, All.mem .nil, All.mem .nil, All.mem (.cons (EM.max (.atom rfl rfl) (.int _ _) (e5 ▸ Is.atom (v' := .int .i64 a5) rfl rfl)) .nil)⟩ gValFr14 (.cons (.aggL (.cons (.closed rfl) (.cons (.atom rfl rfl) (.cons (.atom rfl rfl) (.cons (.atom rfl rfl) .nil))))) (.cons (.atom rfl rfl) .nil)) (.tupL (.cons (.atom rfl rfl) (.cons (.int _ _) .nil))) w
    | false =>
      have dc2_11 := cm15f c2_11
      obtain ⟨a5, e5⟩ : ∃ z : Int, z = (if (0) > a4 then (0) else a4) := ⟨_, rfl⟩
      have n5 : (0) ≤ a5 := by rw [e5]; split <;> omega
      obtain ⟨a6, e6⟩ : ∃ z : Int, z = opI 10 .u64 (2305843009213693952) a5 := ⟨_, rfl⟩
      have p6 : 0 ≤ a6 := by rw [e6]; exact fdiv_nn (x := (2305843009213693952)) (by omega) _
      cases c3_15 : cmI 15 a0 a6 with
      | true =>
        have dc3_15 := cm15t c3_15
        refine ⟨(0), 5, by omega, fun w => ?_⟩
        letI : Sg := ⟨fun i => ([.int .u64 a0, .int .i64 a1, .float .f64 a2, .int .i64 a3, .int .i64 a4, .int .i64 a5, .int .u64 a6] : List Value)[i]?⟩
        exact symCalls (T := gValFT15) xfollows xL_ok ⟨All.mem (.cons (EB.ar (.atom rfl rfl) (.atom rfl rfl) rfl (e4 ▸ Is.atom (v' := .int .i64 a4) rfl rfl)) (.cons (EB.cm (.atom rfl rfl) (.int _ _) rfl c1_0) (.cons (EB.cm (.atom rfl rfl) (.int _ _) rfl c2_11) (.cons (EB.sh (.int _ _) (.atom rfl rfl) (by decide) (by omega) (e6 ▸ Is.atom (v' := .int .u64 a6) rfl rfl)) (.cons (EB.cm (.atom rfl rfl) (.atom rfl rfl) rfl c3_15) .nil))))), All.mem .nil, All.mem .nil, All.mem .nil, All.mem .nil, All.mem (.cons (EM.max (.atom rfl rfl) (.int _ _) (e5 ▸ Is.atom (v' := .int .i64 a5) rfl rfl)) .nil)⟩ gValFr15 (.cons (.aggL (.cons (.closed rfl) (.cons (.atom rfl rfl) (.cons (.atom rfl rfl) (.cons (.atom rfl rfl) .nil))))) (.cons (.atom rfl rfl) .nil)) (.tupL (.cons (.int _ _) (.cons (.int _ _) .nil))) w
      | false =>
        have dc3_15 := cm15f c3_15
        cases c4_16 : cmI 15 a0 (2305843009213693952) with
        | true =>
          have dc4_16 := cm15t c4_16
          refine ⟨(0), 5, by omega, fun w => ?_⟩
          letI : Sg := ⟨fun i => ([.int .u64 a0, .int .i64 a1, .float .f64 a2, .int .i64 a3, .int .i64 a4, .int .i64 a5, .int .u64 a6] : List Value)[i]?⟩
          exact symCalls (T := gValFT16) xfollows xL_ok ⟨All.mem (.cons (EB.ar (.atom rfl rfl) (.atom rfl rfl) rfl (e4 ▸ Is.atom (v' := .int .i64 a4) rfl rfl)) (.cons (EB.cm (.atom rfl rfl) (.int _ _) rfl c1_0) (.cons (EB.cm (.atom rfl rfl) (.int _ _) rfl c2_11) (.cons (EB.sh (.int _ _) (.atom rfl rfl) (by decide) (by omega) (e6 ▸ Is.atom (v' := .int .u64 a6) rfl rfl)) (.cons (EB.cm (.atom rfl rfl) (.atom rfl rfl) rfl c3_15) (.cons (EB.cm (.atom rfl rfl) (.int _ _) rfl c4_16) .nil)))))), All.mem .nil, All.mem .nil, All.mem .nil, All.mem .nil, All.mem (.cons (EM.max (.atom rfl rfl) (.int _ _) (e5 ▸ Is.atom (v' := .int .i64 a5) rfl rfl)) .nil)⟩ gValFr16 (.cons (.aggL (.cons (.closed rfl) (.cons (.atom rfl rfl) (.cons (.atom rfl rfl) (.cons (.atom rfl rfl) .nil))))) (.cons (.atom rfl rfl) .nil)) (.tupL (.cons (.int _ _) (.cons (.int _ _) .nil))) w
        | false =>
          have dc4_16 := cm15f c4_16
          obtain ⟨a7, e7⟩ : ∃ z : Int, z = IntKind.i64.wrap a0 := ⟨_, rfl⟩
          have s7 : a7 = a0 := by rw [e7]; exact wrap_i64 (by omega) (by omega)
          refine ⟨a7, 0, by omega, fun w => ?_⟩
          letI : Sg := ⟨fun i => ([.int .u64 a0, .int .i64 a1, .float .f64 a2, .int .i64 a3, .int .i64 a4, .int .i64 a5, .int .u64 a6, .int .i64 a7] : List Value)[i]?⟩
          exact symCalls (T := gValFT17) xfollows xL_ok ⟨All.mem (.cons (EB.ar (.atom rfl rfl) (.atom rfl rfl) rfl (e4 ▸ Is.atom (v' := .int .i64 a4) rfl rfl)) (.cons (EB.cm (.atom rfl rfl) (.int _ _) rfl c1_0) (.cons (EB.cm (.atom rfl rfl) (.int _ _) rfl c2_11) (.cons (EB.sh (.int _ _) (.atom rfl rfl) (by decide) (by omega) (e6 ▸ Is.atom (v' := .int .u64 a6) rfl rfl)) (.cons (EB.cm (.atom rfl rfl) (.atom rfl rfl) rfl c3_15) (.cons (EB.cm (.atom rfl rfl) (.int _ _) rfl c4_16) .nil)))))), All.mem (.cons (EC.int underlying22 underlying2 (.atom rfl rfl) (e7 ▸ Is.atom (v' := .int .i64 a7) rfl rfl)) .nil), All.mem .nil, All.mem .nil, All.mem .nil, All.mem (.cons (EM.max (.atom rfl rfl) (.int _ _) (e5 ▸ Is.atom (v' := .int .i64 a5) rfl rfl)) .nil)⟩ gValFr17 (.cons (.aggL (.cons (.closed rfl) (.cons (.atom rfl rfl) (.cons (.atom rfl rfl) (.cons (.atom rfl rfl) .nil))))) (.cons (.atom rfl rfl) .nil)) (.tupL (.cons (.atom rfl rfl) (.cons (.int _ _) .nil))) w

/-- the kind of a reading that is none: its error -/
def isFix (s v e : Int) : Prop := (e = 0 ∧ -2305843009213693952 ≤ v ∧ v ≤ 2305843009213693952) ∨ ((e = 5 ∨ e = 130) ∧ v = 0)
noncomputable def gFixTT0 : Tabs := ⟨[(16, 3, aI 1, .int .i64 (-40), .bool true), (14, 3, aI 1, .int .i64 (40), .bool true), (11, 3, aI 2, .int .i64 (1), .bool true)], [], [], [], [(27, [aI 0], aI 2), (29, [aI 0], .agg #[.bool true, aI 3, aI 4, aI 0]), (30, [.agg #[.bool true, aI 3, aI 4, aI 0], aI 1], .tuple #[aI 5, aI 6])], []⟩
theorem gFixTr0 : outB (.tuple #[.int .i64 (0), .int .i64 (130)]) .nil 0 (runA prog (symL xL gFixTT0) 9 [aI 0, aI 1] 5000) = true := by kernel_rfl
noncomputable def gFixTT1 : Tabs := ⟨[(16, 3, aI 1, .int .i64 (-40), .bool true), (14, 3, aI 1, .int .i64 (40), .bool true), (11, 3, aI 2, .int .i64 (1), .bool false), (11, 3, aI 2, .int .i64 (2), .bool true)], [], [], [], [(27, [aI 0], aI 2), (29, [aI 0], .agg #[.bool true, aI 3, aI 4, aI 0]), (30, [.agg #[.bool true, aI 3, aI 4, aI 0], aI 1], .tuple #[aI 5, aI 6])], []⟩
theorem gFixTr1 : outB (.tuple #[.int .i64 (0), .int .i64 (5)]) .nil 0 (runA prog (symL xL gFixTT1) 9 [aI 0, aI 1] 5000) = true := by kernel_rfl
noncomputable def gFixTT2 : Tabs := ⟨[(16, 3, aI 1, .int .i64 (-40), .bool true), (14, 3, aI 1, .int .i64 (40), .bool true), (11, 3, aI 2, .int .i64 (1), .bool false), (11, 3, aI 2, .int .i64 (2), .bool false), (12, 45, aI 6, .int .i64 (0), .bool true)], [], [], [], [(27, [aI 0], aI 2), (29, [aI 0], .agg #[.bool true, aI 3, aI 4, aI 0]), (30, [.agg #[.bool true, aI 3, aI 4, aI 0], aI 1], .tuple #[aI 5, aI 6])], []⟩
theorem gFixTr2 : outB (.tuple #[.int .i64 (0), aI 6]) .nil 0 (runA prog (symL xL gFixTT2) 9 [aI 0, aI 1] 5000) = true := by kernel_rfl
noncomputable def gFixTT3 : Tabs := ⟨[(16, 3, aI 1, .int .i64 (-40), .bool true), (14, 3, aI 1, .int .i64 (40), .bool true), (11, 3, aI 2, .int .i64 (1), .bool false), (11, 3, aI 2, .int .i64 (2), .bool false), (12, 45, aI 6, .int .i64 (0), .bool false)], [], [], [], [(27, [aI 0], aI 2), (29, [aI 0], .agg #[.bool true, aI 3, aI 4, aI 0]), (30, [.agg #[.bool true, aI 3, aI 4, aI 0], aI 1], .tuple #[aI 5, aI 6])], []⟩
theorem gFixTr3 : outB (.tuple #[aI 5, .int .i64 (0)]) .nil 0 (runA prog (symL xL gFixTT3) 9 [aI 0, aI 1] 5000) = true := by kernel_rfl
noncomputable def gFixTT4 : Tabs := ⟨[(16, 3, aI 1, .int .i64 (-40), .bool true), (14, 3, aI 1, .int .i64 (40), .bool false)], [], [], [], [(27, [aI 0], aI 2), (29, [aI 0], .agg #[.bool true, aI 3, aI 4, aI 0]), (30, [.agg #[.bool true, aI 3, aI 4, aI 0], aI 1], .tuple #[aI 5, aI 6])], []⟩
theorem gFixTr4 : outB (.tuple #[.int .i64 (0), .int .i64 (2)]) .nil 0 (runA prog (symL xL gFixTT4) 9 [aI 0, aI 1] 5000) = true := by kernel_rfl
noncomputable def gFixTT5 : Tabs := ⟨[(16, 3, aI 1, .int .i64 (-40), .bool false)], [], [], [], [(27, [aI 0], aI 2), (29, [aI 0], .agg #[.bool true, aI 3, aI 4, aI 0]), (30, [.agg #[.bool true, aI 3, aI 4, aI 0], aI 1], .tuple #[aI 5, aI 6])], []⟩
theorem gFixTr5 : outB (.tuple #[.int .i64 (0), .int .i64 (2)]) .nil 0 (runA prog (symL xL gFixTT5) 9 [aI 0, aI 1] 5000) = true := by kernel_rfl
set_option maxRecDepth 100000 in
theorem gFixT (a0 : Nat) (a1 a2 a3 a4 a5 a6 : Int) (h1 : -40 ≤ a1 ∧ a1 ≤ 40) (hv : a6 = 5 ∧ a5 = 0 ∨ a6 = 0 ∧ -2305843009213693952 ≤ a5 ∧ a5 ≤ 2305843009213693952)
    (hK : ∀ w, Calls prog 27 #[.float .f64 a0] w fun e w' => e = .returned (.int .i64 a2) ∧ Below w.heap.size w w')
    (hR : ∀ w, Calls prog 29 #[.float .f64 a0] w fun e w' => e = .returned (.agg #[.bool true, .int .u64 a3, .int .i64 a4, .float .f64 a0]) ∧ Below w.heap.size w w')
    (hV : ∀ w, Calls prog 30 #[.agg #[.bool true, .int .u64 a3, .int .i64 a4, .float .f64 a0], .int .i64 a1] w fun ev w' => ev = .returned (.tuple #[.int .i64 a5, .int .i64 a6]) ∧ Below w.heap.size w w') :
    ∃ v e : Int, isFix a1 v e ∧ ∀ w, Calls prog 9 #[.float .f64 a0, .int .i64 a1] w fun ev w' => ev = .returned (.tuple #[.int .i64 v, .int .i64 e]) ∧ Below w.heap.size w w' := by
  cases c1_0 : cmI 16 a1 (-40) with
  | true =>
    have dc1_0 := cm16t c1_0
    cases c2_0 : cmI 14 a1 (40) with
    | true =>
      have dc2_0 := cm14t c2_0
      cases c3_0 : cmI 11 a2 (1) with
      | true =>
        have dc3_0 := cm11t c3_0
        refine ⟨(0), (130), by first | omega | (unfold isFix; omega), fun w => ?_⟩
        letI : Sg := ⟨fun i => ([.float .f64 a0, .int .i64 a1, .int .i64 a2, .int .u64 a3, .int .i64 a4, .int .i64 a5, .int .i64 a6] : List Value)[i]?⟩
        exact symCalls (T := gFixTT0) xfollows xL_ok ⟨All.mem (.cons (EB.cm (.atom rfl rfl) (.int _ _) rfl c1_0) (.cons (EB.cm (.atom rfl rfl) (.int _ _) rfl c2_0) (.cons (EB.cm (.atom rfl rfl) (.int _ _) rfl c3_0) .nil))), All.mem .nil, All.mem .nil, All.mem .nil, All.mem (.cons (.of (.cons (.atom rfl rfl) .nil) (.atom rfl rfl) hK) (.cons (.of (.cons (.atom rfl rfl) .nil) (.aggL (.cons (.closed rfl) (.cons (.atom rfl rfl) (.cons (.atom rfl rfl) (.cons (.atom rfl rfl) .nil))))) hR) (.cons (.of (.cons (.aggL (.cons (.closed rfl) (.cons (.atom rfl rfl) (.cons (.atom rfl rfl) (.cons (.atom rfl rfl) .nil))))) (.cons (.atom rfl rfl) .nil)) (.tupL (.cons (.atom rfl rfl) (.cons (.atom rfl rfl) .nil))) hV) .nil))), All.mem .nil⟩ gFixTr0 (.cons (.atom rfl rfl) (.cons (.atom rfl rfl) .nil)) (.tupL (.cons (.int _ _) (.cons (.int _ _) .nil))) w
      | false =>
        have dc3_0 := cm11f c3_0
        cases c4_1 : cmI 11 a2 (2) with
        | true =>
          have dc4_1 := cm11t c4_1
          refine ⟨(0), (5), by first | omega | (unfold isFix; omega), fun w => ?_⟩
          letI : Sg := ⟨fun i => ([.float .f64 a0, .int .i64 a1, .int .i64 a2, .int .u64 a3, .int .i64 a4, .int .i64 a5, .int .i64 a6] : List Value)[i]?⟩
          exact symCalls (T := gFixTT1) xfollows xL_ok ⟨All.mem (.cons (EB.cm (.atom rfl rfl) (.int _ _) rfl c1_0) (.cons (EB.cm (.atom rfl rfl) (.int _ _) rfl c2_0) (.cons (EB.cm (.atom rfl rfl) (.int _ _) rfl c3_0) (.cons (EB.cm (.atom rfl rfl) (.int _ _) rfl c4_1) .nil)))), All.mem .nil, All.mem .nil, All.mem .nil, All.mem (.cons (.of (.cons (.atom rfl rfl) .nil) (.atom rfl rfl) hK) (.cons (.of (.cons (.atom rfl rfl) .nil) (.aggL (.cons (.closed rfl) (.cons (.atom rfl rfl) (.cons (.atom rfl rfl) (.cons (.atom rfl rfl) .nil))))) hR) (.cons (.of (.cons (.aggL (.cons (.closed rfl) (.cons (.atom rfl rfl) (.cons (.atom rfl rfl) (.cons (.atom rfl rfl) .nil))))) (.cons (.atom rfl rfl) .nil)) (.tupL (.cons (.atom rfl rfl) (.cons (.atom rfl rfl) .nil))) hV) .nil))), All.mem .nil⟩ gFixTr1 (.cons (.atom rfl rfl) (.cons (.atom rfl rfl) .nil)) (.tupL (.cons (.int _ _) (.cons (.int _ _) .nil))) w
        | false =>
          have dc4_1 := cm11f c4_1
          cases c5_2 : cmI 12 a6 (0) with
          | true =>
            have dc5_2 := cm12t c5_2
            refine ⟨(0), a6, by first | omega | (unfold isFix; omega), fun w => ?_⟩
            letI : Sg := ⟨fun i => ([.float .f64 a0, .int .i64 a1, .int .i64 a2, .int .u64 a3, .int .i64 a4, .int .i64 a5, .int .i64 a6] : List Value)[i]?⟩
            exact symCalls (T := gFixTT2) xfollows xL_ok ⟨All.mem (.cons (EB.cm (.atom rfl rfl) (.int _ _) rfl c1_0) (.cons (EB.cm (.atom rfl rfl) (.int _ _) rfl c2_0) (.cons (EB.cm (.atom rfl rfl) (.int _ _) rfl c3_0) (.cons (EB.cm (.atom rfl rfl) (.int _ _) rfl c4_1) (.cons (EB.cm (.atom rfl rfl) (.int _ _) rfl c5_2) .nil))))), All.mem .nil, All.mem .nil, All.mem .nil, All.mem (.cons (.of (.cons (.atom rfl rfl) .nil) (.atom rfl rfl) hK) (.cons (.of (.cons (.atom rfl rfl) .nil) (.aggL (.cons (.closed rfl) (.cons (.atom rfl rfl) (.cons (.atom rfl rfl) (.cons (.atom rfl rfl) .nil))))) hR) (.cons (.of (.cons (.aggL (.cons (.closed rfl) (.cons (.atom rfl rfl) (.cons (.atom rfl rfl) (.cons (.atom rfl rfl) .nil))))) (.cons (.atom rfl rfl) .nil)) (.tupL (.cons (.atom rfl rfl) (.cons (.atom rfl rfl) .nil))) hV) .nil))), All.mem .nil⟩ gFixTr2 (.cons (.atom rfl rfl) (.cons (.atom rfl rfl) .nil)) (.tupL (.cons (.int _ _) (.cons (.atom rfl rfl) .nil))) w
          | false =>
            have dc5_2 := cm12f c5_2
            refine ⟨a5, (0), by first | omega | (unfold isFix; omega), fun w => ?_⟩
            letI : Sg := ⟨fun i => ([.float .f64 a0, .int .i64 a1, .int .i64 a2, .int .u64 a3, .int .i64 a4, .int .i64 a5, .int .i64 a6] : List Value)[i]?⟩
            exact symCalls (T := gFixTT3) xfollows xL_ok ⟨All.mem (.cons (EB.cm (.atom rfl rfl) (.int _ _) rfl c1_0) (.cons (EB.cm (.atom rfl rfl) (.int _ _) rfl c2_0) (.cons (EB.cm (.atom rfl rfl) (.int _ _) rfl c3_0) (.cons (EB.cm (.atom rfl rfl) (.int _ _) rfl c4_1) (.cons (EB.cm (.atom rfl rfl) (.int _ _) rfl c5_2) .nil))))), All.mem .nil, All.mem .nil, All.mem .nil, All.mem (.cons (.of (.cons (.atom rfl rfl) .nil) (.atom rfl rfl) hK) (.cons (.of (.cons (.atom rfl rfl) .nil) (.aggL (.cons (.closed rfl) (.cons (.atom rfl rfl) (.cons (.atom rfl rfl) (.cons (.atom rfl rfl) .nil))))) hR) (.cons (.of (.cons (.aggL (.cons (.closed rfl) (.cons (.atom rfl rfl) (.cons (.atom rfl rfl) (.cons (.atom rfl rfl) .nil))))) (.cons (.atom rfl rfl) .nil)) (.tupL (.cons (.atom rfl rfl) (.cons (.atom rfl rfl) .nil))) hV) .nil))), All.mem .nil⟩ gFixTr3 (.cons (.atom rfl rfl) (.cons (.atom rfl rfl) .nil)) (.tupL (.cons (.atom rfl rfl) (.cons (.int _ _) .nil))) w
    | false =>
      have dc2_0 := cm14f c2_0
      refine ⟨(0), (2), by first | omega | (unfold isFix; omega), fun w => ?_⟩
      letI : Sg := ⟨fun i => ([.float .f64 a0, .int .i64 a1, .int .i64 a2, .int .u64 a3, .int .i64 a4, .int .i64 a5, .int .i64 a6] : List Value)[i]?⟩
      exact symCalls (T := gFixTT4) xfollows xL_ok ⟨All.mem (.cons (EB.cm (.atom rfl rfl) (.int _ _) rfl c1_0) (.cons (EB.cm (.atom rfl rfl) (.int _ _) rfl c2_0) .nil)), All.mem .nil, All.mem .nil, All.mem .nil, All.mem (.cons (.of (.cons (.atom rfl rfl) .nil) (.atom rfl rfl) hK) (.cons (.of (.cons (.atom rfl rfl) .nil) (.aggL (.cons (.closed rfl) (.cons (.atom rfl rfl) (.cons (.atom rfl rfl) (.cons (.atom rfl rfl) .nil))))) hR) (.cons (.of (.cons (.aggL (.cons (.closed rfl) (.cons (.atom rfl rfl) (.cons (.atom rfl rfl) (.cons (.atom rfl rfl) .nil))))) (.cons (.atom rfl rfl) .nil)) (.tupL (.cons (.atom rfl rfl) (.cons (.atom rfl rfl) .nil))) hV) .nil))), All.mem .nil⟩ gFixTr4 (.cons (.atom rfl rfl) (.cons (.atom rfl rfl) .nil)) (.tupL (.cons (.int _ _) (.cons (.int _ _) .nil))) w
  | false =>
    have dc1_0 := cm16f c1_0
    refine ⟨(0), (2), by first | omega | (unfold isFix; omega), fun w => ?_⟩
    letI : Sg := ⟨fun i => ([.float .f64 a0, .int .i64 a1, .int .i64 a2, .int .u64 a3, .int .i64 a4, .int .i64 a5, .int .i64 a6] : List Value)[i]?⟩
    exact symCalls (T := gFixTT5) xfollows xL_ok ⟨All.mem (.cons (EB.cm (.atom rfl rfl) (.int _ _) rfl c1_0) .nil), All.mem .nil, All.mem .nil, All.mem .nil, All.mem (.cons (.of (.cons (.atom rfl rfl) .nil) (.atom rfl rfl) hK) (.cons (.of (.cons (.atom rfl rfl) .nil) (.aggL (.cons (.closed rfl) (.cons (.atom rfl rfl) (.cons (.atom rfl rfl) (.cons (.atom rfl rfl) .nil))))) hR) (.cons (.of (.cons (.aggL (.cons (.closed rfl) (.cons (.atom rfl rfl) (.cons (.atom rfl rfl) (.cons (.atom rfl rfl) .nil))))) (.cons (.atom rfl rfl) .nil)) (.tupL (.cons (.atom rfl rfl) (.cons (.atom rfl rfl) .nil))) hV) .nil))), All.mem .nil⟩ gFixTr5 (.cons (.atom rfl rfl) (.cons (.atom rfl rfl) .nil)) (.tupL (.cons (.int _ _) (.cons (.int _ _) .nil))) w
noncomputable def gFixFT0 : Tabs := ⟨[(16, 3, aI 1, .int .i64 (-40), .bool true), (14, 3, aI 1, .int .i64 (40), .bool true), (11, 3, aI 2, .int .i64 (1), .bool true)], [], [], [], [(27, [aI 0], aI 2), (29, [aI 0], .agg #[.bool false, aI 3, aI 4, aI 0]), (30, [.agg #[.bool false, aI 3, aI 4, aI 0], aI 1], .tuple #[aI 5, aI 6])], []⟩
theorem gFixFr0 : outB (.tuple #[.int .i64 (0), .int .i64 (130)]) .nil 0 (runA prog (symL xL gFixFT0) 9 [aI 0, aI 1] 5000) = true := by kernel_rfl
noncomputable def gFixFT1 : Tabs := ⟨[(16, 3, aI 1, .int .i64 (-40), .bool true), (14, 3, aI 1, .int .i64 (40), .bool true), (11, 3, aI 2, .int .i64 (1), .bool false), (11, 3, aI 2, .int .i64 (2), .bool true)], [], [], [], [(27, [aI 0], aI 2), (29, [aI 0], .agg #[.bool false, aI 3, aI 4, aI 0]), (30, [.agg #[.bool false, aI 3, aI 4, aI 0], aI 1], .tuple #[aI 5, aI 6])], []⟩
theorem gFixFr1 : outB (.tuple #[.int .i64 (0), .int .i64 (5)]) .nil 0 (runA prog (symL xL gFixFT1) 9 [aI 0, aI 1] 5000) = true := by kernel_rfl
noncomputable def gFixFT2 : Tabs := ⟨[(16, 3, aI 1, .int .i64 (-40), .bool true), (14, 3, aI 1, .int .i64 (40), .bool true), (11, 3, aI 2, .int .i64 (1), .bool false), (11, 3, aI 2, .int .i64 (2), .bool false), (12, 45, aI 6, .int .i64 (0), .bool true)], [], [], [], [(27, [aI 0], aI 2), (29, [aI 0], .agg #[.bool false, aI 3, aI 4, aI 0]), (30, [.agg #[.bool false, aI 3, aI 4, aI 0], aI 1], .tuple #[aI 5, aI 6])], []⟩
theorem gFixFr2 : outB (.tuple #[.int .i64 (0), aI 6]) .nil 0 (runA prog (symL xL gFixFT2) 9 [aI 0, aI 1] 5000) = true := by kernel_rfl
noncomputable def gFixFT3 : Tabs := ⟨[(16, 3, aI 1, .int .i64 (-40), .bool true), (14, 3, aI 1, .int .i64 (40), .bool true), (11, 3, aI 2, .int .i64 (1), .bool false), (11, 3, aI 2, .int .i64 (2), .bool false), (12, 45, aI 6, .int .i64 (0), .bool false)], [], [], [], [(27, [aI 0], aI 2), (29, [aI 0], .agg #[.bool false, aI 3, aI 4, aI 0]), (30, [.agg #[.bool false, aI 3, aI 4, aI 0], aI 1], .tuple #[aI 5, aI 6])], []⟩
theorem gFixFr3 : outB (.tuple #[aI 5, .int .i64 (0)]) .nil 0 (runA prog (symL xL gFixFT3) 9 [aI 0, aI 1] 5000) = true := by kernel_rfl
noncomputable def gFixFT4 : Tabs := ⟨[(16, 3, aI 1, .int .i64 (-40), .bool true), (14, 3, aI 1, .int .i64 (40), .bool false)], [], [], [], [(27, [aI 0], aI 2), (29, [aI 0], .agg #[.bool false, aI 3, aI 4, aI 0]), (30, [.agg #[.bool false, aI 3, aI 4, aI 0], aI 1], .tuple #[aI 5, aI 6])], []⟩
theorem gFixFr4 : outB (.tuple #[.int .i64 (0), .int .i64 (2)]) .nil 0 (runA prog (symL xL gFixFT4) 9 [aI 0, aI 1] 5000) = true := by kernel_rfl
noncomputable def gFixFT5 : Tabs := ⟨[(16, 3, aI 1, .int .i64 (-40), .bool false)], [], [], [], [(27, [aI 0], aI 2), (29, [aI 0], .agg #[.bool false, aI 3, aI 4, aI 0]), (30, [.agg #[.bool false, aI 3, aI 4, aI 0], aI 1], .tuple #[aI 5, aI 6])], []⟩
theorem gFixFr5 : outB (.tuple #[.int .i64 (0), .int .i64 (2)]) .nil 0 (runA prog (symL xL gFixFT5) 9 [aI 0, aI 1] 5000) = true := by kernel_rfl
set_option maxRecDepth 100000 in
theorem gFixF (a0 : Nat) (a1 a2 a3 a4 a5 a6 : Int) (h1 : -40 ≤ a1 ∧ a1 ≤ 40) (hv : a6 = 5 ∧ a5 = 0 ∨ a6 = 0 ∧ -2305843009213693952 ≤ a5 ∧ a5 ≤ 2305843009213693952)
    (hK : ∀ w, Calls prog 27 #[.float .f64 a0] w fun e w' => e = .returned (.int .i64 a2) ∧ Below w.heap.size w w')
    (hR : ∀ w, Calls prog 29 #[.float .f64 a0] w fun e w' => e = .returned (.agg #[.bool false, .int .u64 a3, .int .i64 a4, .float .f64 a0]) ∧ Below w.heap.size w w')
    (hV : ∀ w, Calls prog 30 #[.agg #[.bool false, .int .u64 a3, .int .i64 a4, .float .f64 a0], .int .i64 a1] w fun ev w' => ev = .returned (.tuple #[.int .i64 a5, .int .i64 a6]) ∧ Below w.heap.size w w') :
    ∃ v e : Int, isFix a1 v e ∧ ∀ w, Calls prog 9 #[.float .f64 a0, .int .i64 a1] w fun ev w' => ev = .returned (.tuple #[.int .i64 v, .int .i64 e]) ∧ Below w.heap.size w w' := by
  cases c1_0 : cmI 16 a1 (-40) with
  | true =>
    have dc1_0 := cm16t c1_0
    cases c2_0 : cmI 14 a1 (40) with
    | true =>
      have dc2_0 := cm14t c2_0
      cases c3_0 : cmI 11 a2 (1) with
      | true =>
        have dc3_0 := cm11t c3_0
        refine ⟨(0), (130), by first | omega | (unfold isFix; omega), fun w => ?_⟩
        letI : Sg := ⟨fun i => ([.float .f64 a0, .int .i64 a1, .int .i64 a2, .int .u64 a3, .int .i64 a4, .int .i64 a5, .int .i64 a6] : List Value)[i]?⟩
        exact symCalls (T := gFixFT0) xfollows xL_ok ⟨All.mem (.cons (EB.cm (.atom rfl rfl) (.int _ _) rfl c1_0) (.cons (EB.cm (.atom rfl rfl) (.int _ _) rfl c2_0) (.cons (EB.cm (.atom rfl rfl) (.int _ _) rfl c3_0) .nil))), All.mem .nil, All.mem .nil, All.mem .nil, All.mem (.cons (.of (.cons (.atom rfl rfl) .nil) (.atom rfl rfl) hK) (.cons (.of (.cons (.atom rfl rfl) .nil) (.aggL (.cons (.closed rfl) (.cons (.atom rfl rfl) (.cons (.atom rfl rfl) (.cons (.atom rfl rfl) .nil))))) hR) (.cons (.of (.cons (.aggL (.cons (.closed rfl) (.cons (.atom rfl rfl) (.cons (.atom rfl rfl) (.cons (.atom rfl rfl) .nil))))) (.cons (.atom rfl rfl) .nil)) (.tupL (.cons (.atom rfl rfl) (.cons (.atom rfl rfl) .nil))) hV) .nil))), All.mem .nil⟩ gFixFr0 (.cons (.atom rfl rfl) (.cons (.atom rfl rfl) .nil)) (.tupL (.cons (.int _ _) (.cons (.int _ _) .nil))) w
      | false =>
        have dc3_0 := cm11f c3_0
        cases c4_1 : cmI 11 a2 (2) with
        | true =>
          have dc4_1 := cm11t c4_1
          refine ⟨(0), (5), by first | omega | (unfold isFix; omega), fun w => ?_⟩
          letI : Sg := ⟨fun i => ([.float .f64 a0, .int .i64 a1, .int .i64 a2, .int .u64 a3, .int .i64 a4, .int .i64 a5, .int .i64 a6] : List Value)[i]?⟩
          exact symCalls (T := gFixFT1) xfollows xL_ok ⟨All.mem (.cons (EB.cm (.atom rfl rfl) (.int _ _) rfl c1_0) (.cons (EB.cm (.atom rfl rfl) (.int _ _) rfl c2_0) (.cons (EB.cm (.atom rfl rfl) (.int _ _) rfl c3_0) (.cons (EB.cm (.atom rfl rfl) (.int _ _) rfl c4_1) .nil)))), All.mem .nil, All.mem .nil, All.mem .nil, All.mem (.cons (.of (.cons (.atom rfl rfl) .nil) (.atom rfl rfl) hK) (.cons (.of (.cons (.atom rfl rfl) .nil) (.aggL (.cons (.closed rfl) (.cons (.atom rfl rfl) (.cons (.atom rfl rfl) (.cons (.atom rfl rfl) .nil))))) hR) (.cons (.of (.cons (.aggL (.cons (.closed rfl) (.cons (.atom rfl rfl) (.cons (.atom rfl rfl) (.cons (.atom rfl rfl) .nil))))) (.cons (.atom rfl rfl) .nil)) (.tupL (.cons (.atom rfl rfl) (.cons (.atom rfl rfl) .nil))) hV) .nil))), All.mem .nil⟩ gFixFr1 (.cons (.atom rfl rfl) (.cons (.atom rfl rfl) .nil)) (.tupL (.cons (.int _ _) (.cons (.int _ _) .nil))) w
        | false =>
          have dc4_1 := cm11f c4_1
          cases c5_2 : cmI 12 a6 (0) with
          | true =>
            have dc5_2 := cm12t c5_2
            refine ⟨(0), a6, by first | omega | (unfold isFix; omega), fun w => ?_⟩
            letI : Sg := ⟨fun i => ([.float .f64 a0, .int .i64 a1, .int .i64 a2, .int .u64 a3, .int .i64 a4, .int .i64 a5, .int .i64 a6] : List Value)[i]?⟩
            exact symCalls (T := gFixFT2) xfollows xL_ok ⟨All.mem (.cons (EB.cm (.atom rfl rfl) (.int _ _) rfl c1_0) (.cons (EB.cm (.atom rfl rfl) (.int _ _) rfl c2_0) (.cons (EB.cm (.atom rfl rfl) (.int _ _) rfl c3_0) (.cons (EB.cm (.atom rfl rfl) (.int _ _) rfl c4_1) (.cons (EB.cm (.atom rfl rfl) (.int _ _) rfl c5_2) .nil))))), All.mem .nil, All.mem .nil, All.mem .nil, All.mem (.cons (.of (.cons (.atom rfl rfl) .nil) (.atom rfl rfl) hK) (.cons (.of (.cons (.atom rfl rfl) .nil) (.aggL (.cons (.closed rfl) (.cons (.atom rfl rfl) (.cons (.atom rfl rfl) (.cons (.atom rfl rfl) .nil))))) hR) (.cons (.of (.cons (.aggL (.cons (.closed rfl) (.cons (.atom rfl rfl) (.cons (.atom rfl rfl) (.cons (.atom rfl rfl) .nil))))) (.cons (.atom rfl rfl) .nil)) (.tupL (.cons (.atom rfl rfl) (.cons (.atom rfl rfl) .nil))) hV) .nil))), All.mem .nil⟩ gFixFr2 (.cons (.atom rfl rfl) (.cons (.atom rfl rfl) .nil)) (.tupL (.cons (.int _ _) (.cons (.atom rfl rfl) .nil))) w
          | false =>
            have dc5_2 := cm12f c5_2
            refine ⟨a5, (0), by first | omega | (unfold isFix; omega), fun w => ?_⟩
            letI : Sg := ⟨fun i => ([.float .f64 a0, .int .i64 a1, .int .i64 a2, .int .u64 a3, .int .i64 a4, .int .i64 a5, .int .i64 a6] : List Value)[i]?⟩
            exact symCalls (T := gFixFT3) xfollows xL_ok ⟨All.mem (.cons (EB.cm (.atom rfl rfl) (.int _ _) rfl c1_0) (.cons (EB.cm (.atom rfl rfl) (.int _ _) rfl c2_0) (.cons (EB.cm (.atom rfl rfl) (.int _ _) rfl c3_0) (.cons (EB.cm (.atom rfl rfl) (.int _ _) rfl c4_1) (.cons (EB.cm (.atom rfl rfl) (.int _ _) rfl c5_2) .nil))))), All.mem .nil, All.mem .nil, All.mem .nil, All.mem (.cons (.of (.cons (.atom rfl rfl) .nil) (.atom rfl rfl) hK) (.cons (.of (.cons (.atom rfl rfl) .nil) (.aggL (.cons (.closed rfl) (.cons (.atom rfl rfl) (.cons (.atom rfl rfl) (.cons (.atom rfl rfl) .nil))))) hR) (.cons (.of (.cons (.aggL (.cons (.closed rfl) (.cons (.atom rfl rfl) (.cons (.atom rfl rfl) (.cons (.atom rfl rfl) .nil))))) (.cons (.atom rfl rfl) .nil)) (.tupL (.cons (.atom rfl rfl) (.cons (.atom rfl rfl) .nil))) hV) .nil))), All.mem .nil⟩ gFixFr3 (.cons (.atom rfl rfl) (.cons (.atom rfl rfl) .nil)) (.tupL (.cons (.atom rfl rfl) (.cons (.int _ _) .nil))) w
    | false =>
      have dc2_0 := cm14f c2_0
      refine ⟨(0), (2), by first | omega | (unfold isFix; omega), fun w => ?_⟩
      letI : Sg := ⟨fun i => ([.float .f64 a0, .int .i64 a1, .int .i64 a2, .int .u64 a3, .int .i64 a4, .int .i64 a5, .int .i64 a6] : List Value)[i]?⟩
      exact symCalls (T := gFixFT4) xfollows xL_ok ⟨All.mem (.cons (EB.cm (.atom rfl rfl) (.int _ _) rfl c1_0) (.cons (EB.cm (.atom rfl rfl) (.int _ _) rfl c2_0) .nil)), All.mem .nil, All.mem .nil, All.mem .nil, All.mem (.cons (.of (.cons (.atom rfl rfl) .nil) (.atom rfl rfl) hK) (.cons (.of (.cons (.atom rfl rfl) .nil) (.aggL (.cons (.closed rfl) (.cons (.atom rfl rfl) (.cons (.atom rfl rfl) (.cons (.atom rfl rfl) .nil))))) hR) (.cons (.of (.cons (.aggL (.cons (.closed rfl) (.cons (.atom rfl rfl) (.cons (.atom rfl rfl) (.cons (.atom rfl rfl) .nil))))) (.cons (.atom rfl rfl) .nil)) (.tupL (.cons (.atom rfl rfl) (.cons (.atom rfl rfl) .nil))) hV) .nil))), All.mem .nil⟩ gFixFr4 (.cons (.atom rfl rfl) (.cons (.atom rfl rfl) .nil)) (.tupL (.cons (.int _ _) (.cons (.int _ _) .nil))) w
  | false =>
    have dc1_0 := cm16f c1_0
    refine ⟨(0), (2), by first | omega | (unfold isFix; omega), fun w => ?_⟩
    letI : Sg := ⟨fun i => ([.float .f64 a0, .int .i64 a1, .int .i64 a2, .int .u64 a3, .int .i64 a4, .int .i64 a5, .int .i64 a6] : List Value)[i]?⟩
    exact symCalls (T := gFixFT5) xfollows xL_ok ⟨All.mem (.cons (EB.cm (.atom rfl rfl) (.int _ _) rfl c1_0) .nil), All.mem .nil, All.mem .nil, All.mem .nil, All.mem (.cons (.of (.cons (.atom rfl rfl) .nil) (.atom rfl rfl) hK) (.cons (.of (.cons (.atom rfl rfl) .nil) (.aggL (.cons (.closed rfl) (.cons (.atom rfl rfl) (.cons (.atom rfl rfl) (.cons (.atom rfl rfl) .nil))))) hR) (.cons (.of (.cons (.aggL (.cons (.closed rfl) (.cons (.atom rfl rfl) (.cons (.atom rfl rfl) (.cons (.atom rfl rfl) .nil))))) (.cons (.atom rfl rfl) .nil)) (.tupL (.cons (.atom rfl rfl) (.cons (.atom rfl rfl) .nil))) hV) .nil))), All.mem .nil⟩ gFixFr5 (.cons (.atom rfl rfl) (.cons (.atom rfl rfl) .nil)) (.tupL (.cons (.int _ _) (.cons (.int _ _) .nil))) w

theorem gFixed (x : Nat) (s : Int) (hs : -40 ≤ s ∧ s ≤ 40) : ∃ v e : Int, isFix s v e ∧ ∀ w, Calls prog 9 #[.float .f64 x, .int .i64 s] w fun ev w' => ev = .returned (.tuple #[.int .i64 v, .int .i64 e]) ∧ Below w.heap.size w w' := by
  obtain ⟨k, hK⟩ := gKind x
  obtain ⟨b, f, y, ⟨h0, h1⟩, hR⟩ := gRead x
  cases b with
  | true =>
    obtain ⟨v, e, hv, hV⟩ := gValT f y x s h0 h1 hs
    exact gFixT x s k f y v e hs hv hK hR hV
  | false =>
    obtain ⟨v, e, hv, hV⟩ := gValF f y x s h0 h1 hs
    exact gFixF x s k f y v e hs hv hK hR hV
end Go.Proofs.Tryz
