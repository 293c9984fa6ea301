/- States of the run that are written down. -/
import Derived.Test.YtbiedfkmmcaplaaGreatDoorKB
set_option linter.all false
namespace Go.Proofs.Tryz
open Go.Proofs.Ex
noncomputable def a2o3 : AO := .cells b0c1 b0z2 132 3168 none 203
noncomputable def a2H : Tr AO := (.node (.node (.node .nil none (.node (.node .nil none (.node (.node .nil none (.node (.node (.node .nil none (.node .nil (some a2o3) .nil)) none .nil) none .nil)) none .nil)) none .nil)) none .nil) none .nil)
noncomputable def a2A : List Value := [(.agg ⟨[(.slice (some ⟨1619, 0, none⟩) 24 24), (.slice none 0 0), (.int .i64 (.negSucc 0)), (.bool false)]⟩)]

noncomputable def b2o1 : AO := .cells (.node .nil (some (.int .i64 (.ofNat 18))) .nil) [] 1 1 (some (1819, 1)) 3
noncomputable def b2o4 : AO := .cells b0c1 b0z2 132 3168 none 203
noncomputable def b2H : Tr AO := (.node .nil none (.node .nil none (.node (.node .nil none (.node .nil none (.node (.node (.node (.node .nil none (.node .nil none (.node .nil (some b2o1) .nil))) none .nil) none .nil) none (.node (.node .nil none (.node .nil none (.node .nil none (.node .nil (some b2o4) .nil)))) none .nil)))) none .nil)))
noncomputable def b2z5 : List Value := [(.int .i64 (.ofNat 0)), (.int .u64 (.ofNat 2)), (.slice (some ⟨1818, 0, none⟩) 1 33554627470077674389504), (.int .i64 (.ofNat 1)), (.slice none 0 0), (.slice none 0 0), (.bool true), (.slice (some ⟨1978, 0, none⟩) 24 24), (.slice none 0 0), (.int .i64 (.negSucc 0)), (.bool false), (.slice none 0 0), (.slice none 0 0), (.int .i64 (.ofNat 0)), (.int .u64 (.ofNat 2)), (.int .u64 (.ofNat 2))]
noncomputable def b2V : Value := (.tuple ⟨[(.agg ⟨b2z5⟩), (.int .i64 (.ofNat 0))]⟩)

theorem c2_run : outB b2V b2H 2021 (runH prog xL6 a2H 1622 27 a2A 20000) = true := by kernel_rfl
noncomputable def xC2 : Lk := { xL6 with orx := entF 27 a2A a2H 1622 b2V b2H 2021 xC1.orx }
end Go.Proofs.Tryz
