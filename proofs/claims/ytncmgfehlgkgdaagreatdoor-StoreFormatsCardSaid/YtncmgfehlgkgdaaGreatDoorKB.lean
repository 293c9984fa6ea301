/- States of the run that are written down. -/
import Derived.Test.YtncmgfehlgkgdaaGreatDoorKA
set_option linter.unusedSimpArgs false
set_option linter.unusedVariables false
set_option linter.unusedSectionVars false
namespace Go.Proofs.Tryz
open Go.Proofs.Ex
variable [Sg]
noncomputable def b2o3 : AO := .cells b1c4 b1z5 132 3168 none 128
noncomputable def b2o4 : AO := .cells (.node .nil (some (.int .i64 (.ofNat 18))) .nil) [] 1 1 (some (361, 1)) 3
noncomputable def b2o5 : AO := .cells (.node (.node .nil (some (.slice none 0 0)) .nil) (some (.slice none 0 0)) (.node .nil (some (.bool false)) .nil)) [] 1 3 none 95
noncomputable def b2H : Tr AO := (.node .nil none (.node (.node (.node .nil none (.node (.node (.node (.node (.node (.node .nil (some b2o3) .nil) none .nil) none .nil) none .nil) none (.node .nil none (.node (.node .nil (some b2o4) .nil) none .nil))) none .nil)) none (.node (.node .nil none (.node .nil none (.node (.node (.node (.node .nil (some b2o5) .nil) none .nil) none .nil) none .nil))) none .nil)) none .nil))
noncomputable def b2z6 : List Value := [(.int .i64 (.ofNat 0)), (.int .u64 (.ofNat 2)), (.slice (some ⟨360, 0, none⟩) 1 6659274610609148133376), (.int .i64 (.ofNat 1)), (.slice none 0 0), (.slice none 0 0), (.bool true), (.slice (some ⟨520, 0, none⟩) 24 24), (.slice none 0 0), (.int .i64 (.negSucc 0)), (.bool false), (.slice none 0 0), (.slice none 0 0), (.int .i64 (.ofNat 0)), (.int .u64 (.ofNat 2)), (.int .u64 (.ofNat 2))]
noncomputable def b2V : Value := (.tuple ⟨[(.agg ⟨b2z6⟩), (.pointer (some ⟨564, 0, none⟩)), (.bool true)]⟩)
theorem b2_run : outB b2V b2H 565 (backA xL (arun prog xL 20000 b1S)) = true := by kernel_rfl
theorem b0_enter : enterA xL .nil 0 6 [.int .i64 (.ofNat 0)] false = some b0S := by kernel_rfl
theorem begun_known (hm : prog.follows .mixedOrders = true) (hL : LkOK prog xL) : XrOK prog 6 [.int .i64 (.ofNat 0)] .nil 0 b2V b2H 565 :=
  .of hL (arun_good hm hL 20000) b0_enter (outT_sound (arunS_good hm hL 6 2 20000) b1_run) b2_run
/-- the tables, and the call that is known -/
noncomputable def xL1 : Lk := { xL with orx := entX 6 [.int .i64 (.ofNat 0)] .nil 0 b2V b2H 565 (fun _ _ _ _ => none) }
theorem xL1_ok (hm : prog.follows .mixedOrders = true) (hL : LkOK prog xL) : LkOK prog xL1 :=
  hL.with (entX_ok (begun_known hm hL) (fun _ _ _ _ _ _ _ h => by cases h))
end Go.Proofs.Tryz
