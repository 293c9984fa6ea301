/- States of the ru. -/
import Derived.Test.YtlnonecibpjcoaaGreatDoorKB
set_option linter.all false
namespace Go.Proofs.Tryz
open Go.Proofs.Ex
noncomputable def qT:AO:=.cells IH II 132 3168 none 231
noncomputable def a2H:Tr AO:=(.node (.node (.node .nil none (.node (.node .nil none (.node (.node .nil none (.node (.node (.node .nil none (.node .nil (some qT) .nil)) none .nil) none .nil)) none .nil)) none .nil)) none .nil) none .nil)
noncomputable def a2A:List Value:=[(.agg ⟨[(.slice (some ⟨1619,0,none⟩) 24 24),(.slice none 0 0),(.int .i64 (.negSucc 0)),(.bool false)]⟩)]
noncomputable def ON:AO:=.cells (.node .nil (some (.int .i64 (.ofNat 18))) .nil) [] 1 1 (some (1819,1)) 3
noncomputable def qU:AO:=.cells IH II 132 3168 none 231
noncomputable def b2H:Tr AO:=(.node .nil none (.node .nil none (.node (.node .nil none (.node .nil none (.node (.node (.node (.node .nil none (.node .nil none (.node .nil (some ON) .nil))) none .nil) none .nil) none (.node (.node .nil none (.node .nil none (.node .nil none (.node .nil (some qU) .nil)))) none .nil)))) none .nil)))
noncomputable def qV:List Value:=[(.int .i64 (.ofNat 0)),(.int .u64 (.ofNat 2)),(.slice (some ⟨1818,0,none⟩) 1 33554627470077674389504),(.int .i64 (.ofNat 1)),(.slice none 0 0),(.slice none 0 0),(.bool true),(.slice (some ⟨1978,0,none⟩) 24 24),(.slice none 0 0),(.int .i64 (.negSucc 0)),(.bool false),(.slice none 0 0),(.slice none 0 0),(.int .i64 (.ofNat 0)),(.int .u64 (.ofNat 2)),(.int .u64 (.ofNat 2))]
noncomputable def b2V:Value:=(.tuple ⟨[(.agg ⟨qV⟩),(.int .i64 (.ofNat 0))]⟩)
theorem qW:EE b2V b2H 2021 (KY prog xL6 a2H 1622 51 a2A 20000)=true:=by kernel_rfl
noncomputable def xC2:Lk:={ xL6 with orx:=JJ 51 a2A a2H 1622 b2V b2H 2021 xC1.orx }
end Go.Proofs.Tryz
