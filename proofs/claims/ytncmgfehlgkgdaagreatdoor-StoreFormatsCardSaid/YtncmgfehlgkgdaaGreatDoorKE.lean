/- States of the run that are written down. -/
import Derived.Test.YtncmgfehlgkgdaaGreatDoorKD
set_option linter.unusedSimpArgs false
set_option linter.unusedVariables false
set_option linter.unusedSectionVars false
namespace Go.Proofs.Tryz
open Go.Proofs.Ex
variable [Sg]
noncomputable def d2o7 : AO := .cells w1c4 b1z5 132 3168 none 128
noncomputable def d2o10 : AO := .cells w1c1 w1z2 12 12 none 57
noncomputable def d2o12 : AO := .cells .nil b1z2 16 16 none 41
noncomputable def d2o15 : AO := .cells w1c8 b1z2 16 16 none 41
noncomputable def d2o19 : AO := .cells w1c8 [] 1 16 none 41
noncomputable def d2c20 : Tr Value := (.node (.node (.node .nil (some (.int .i64 (.ofNat 1))) .nil) (some (.int .i64 (.ofNat 0))) (.node .nil (some (.slice (some ⟨1423, 0, none⟩) 0 0)) .nil)) (some (.string ⟨#[97]⟩)) (.node (.node .nil (some (.int .i64 (.ofNat 0))) .nil) (some (.int .i64 (.ofNat 0))) (.node .nil (some (.slice (some ⟨1434, 0, none⟩) 1 26471077745773206568960)) .nil)))
noncomputable def d2o21 : AO := .cells d2c20 [(.string ⟨#[]⟩), (.int .i64 (.ofNat 0)), (.int .i64 (.ofNat 0)), (.int .i64 (.ofNat 0)), (.int .i64 (.ofNat 0)), (.slice none 0 0), (.slice none 0 0)] 7 7 none 117
noncomputable def d2o22 : AO := .cells .nil [(.int .i64 (.ofNat 0))] 1 1 none 45
noncomputable def d2o23 : AO := .cells (.node (.node .nil (some (.int .i64 (.ofNat 5))) .nil) (some (.int .i64 (.ofNat 1))) .nil) [] 1 2 (some (1435, 2)) 92
noncomputable def d2H : Tr AO := (.node (.node (.node (.node (.node .nil none (.node (.node (.node .nil none (.node .nil none (.node (.node .nil (some w1o14) .nil) none .nil))) none .nil) none .nil)) none (.node (.node (.node .nil none (.node (.node .nil none (.node .nil (some do1) .nil)) none .nil)) none .nil) none .nil)) none (.node (.node (.node (.node .nil none (.node (.node .nil none (.node .nil (some do2) .nil)) none .nil)) none .nil) none .nil) none (.node (.node (.node (.node (.node (.node (.node .nil (some d1o3) .nil) none .nil) none .nil) none .nil) none .nil) none (.node (.node .nil none (.node (.node (.node .nil (some d2o7) .nil) none .nil) none .nil)) none .nil)) none .nil))) none (.node (.node (.node (.node (.node .nil none (.node (.node .nil none (.node .nil (some d2o10) .nil)) none .nil)) none .nil) none .nil) none (.node (.node (.node .nil none (.node (.node .nil none (.node .nil (some d2o12) .nil)) none .nil)) none .nil) none (.node .nil none (.node (.node (.node .nil none (.node .nil (some d2o7) .nil)) none .nil) none .nil)))) none (.node (.node (.node (.node .nil none (.node (.node .nil none (.node .nil (some do2) .nil)) none .nil)) none (.node (.node .nil none (.node (.node .nil (some w1o7) .nil) none .nil)) none .nil)) none (.node .nil none (.node (.node (.node (.node .nil (some d2o15) .nil) none .nil) none .nil) none .nil))) none (.node .nil none (.node .nil none (.node .nil none (.node (.node (.node .nil (some w1o12) .nil) none .nil) none .nil))))))) none (.node (.node (.node .nil none (.node (.node (.node .nil none (.node (.node .nil none (.node .nil (some d2o12) .nil)) none .nil)) none (.node .nil none (.node (.node .nil (some b2o4) .nil) none .nil))) none .nil)) none (.node (.node (.node (.node .nil none (.node (.node .nil none (.node .nil (some do1) .nil)) none .nil)) none .nil) none .nil) none .nil)) none (.node (.node (.node (.node (.node .nil none (.node (.node .nil none (.node .nil (some d2o19) .nil)) none .nil)) none .nil) none (.node .nil none (.node .nil none (.node (.node .nil none (.node (.node .nil (some d2o21) .nil) none .nil)) none .nil)))) none (.node (.node (.node .nil none (.node (.node .nil none (.node .nil (some d2o22) .nil)) none .nil)) none .nil) none (.node (.node (.node .nil none (.node (.node .nil (some w1o14) .nil) none (.node (.node .nil (some d2o23) .nil) none .nil))) none .nil) none .nil))) none (.node (.node (.node (.node .nil none (.node (.node .nil none (.node .nil (some d2o7) .nil)) none .nil)) none .nil) none .nil) none .nil))))
noncomputable def d2z24 : List Value := [(.int .i64 (.ofNat 0)), (.int .u64 (.ofNat 2)), (.slice (some ⟨1035, 0, none⟩) 1 19110826860363095474176), (.int .i64 (.ofNat 1)), (.slice none 0 0), (.slice none 0 0), (.bool true), (.slice (some ⟨1195, 0, none⟩) 24 24), (.slice none 0 0), (.int .i64 (.negSucc 0)), (.bool false), (.slice (some ⟨1394, 0, none⟩) 1 1), (.slice none 0 0), (.int .i64 (.ofNat 1)), (.int .u64 (.ofNat 3)), (.int .u64 (.ofNat 3))]
noncomputable def d2V : Value := (.agg ⟨d2z24⟩)
theorem d2_run : outB d2V d2H 1441 (backA xL1 (arun prog xL1 20000 d1S)) = true := by kernel_rfl
theorem open_known (hm : prog.follows .mixedOrders = true) (hL : LkOK prog xL) : XrOK prog 56 [.pointer (some ⟨839, 0, none⟩)] dH 843 d2V d2H 1441 :=
  .of (xL1_ok hm hL) (arun_good hm (xL1_ok hm hL) 20000) d0_enter (outT_sound (arunS_good hm (xL1_ok hm hL) 56 1000 20000) d1_run) d2_run
noncomputable def xL2 : Lk := { xL with orx := entX 56 [.pointer (some ⟨839, 0, none⟩)] dH 843 d2V d2H 1441 (fun _ _ _ _ => none) }
theorem xL2_ok (hm : prog.follows .mixedOrders = true) (hL : LkOK prog xL) : LkOK prog xL2 :=
  hL.with (entX_ok (open_known hm hL) (fun _ _ _ _ _ _ _ h => by cases h))
end Go.Proofs.Tryz
