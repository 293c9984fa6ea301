/- States of the run that are written down. -/
import Derived.Test.YtbiedfkmmcaplaaGreatDoorKA
set_option linter.all false
namespace Go.Proofs.Tryz
open Go.Proofs.Ex
noncomputable def a1o3 : AO := .cells b0c1 b0z2 132 3168 none 203
noncomputable def a1H : Tr AO := (.node (.node (.node (.node (.node (.node (.node .nil none (.node .nil (some a1o3) .nil)) none .nil) none .nil) none .nil) none .nil) none .nil) none .nil)
noncomputable def a1A : List Value := [(.agg ⟨[(.slice (some ⟨191, 0, none⟩) 24 24), (.slice none 0 0), (.int .i64 (.negSucc 0)), (.bool false)]⟩)]

noncomputable def b1o1 : AO := .cells (.node .nil (some (.int .i64 (.ofNat 18))) .nil) [] 1 1 (some (398, 1)) 3
noncomputable def b1o4 : AO := .cells b0c1 b0z2 132 3168 none 203
noncomputable def b1H : Tr AO := (.node (.node .nil none (.node .nil none (.node .nil none (.node (.node (.node (.node .nil none (.node .nil (some b1o1) .nil)) none .nil) none (.node (.node (.node (.node .nil (some b1o4) .nil) none .nil) none .nil) none .nil)) none .nil)))) none .nil)
noncomputable def b1z5 : List Value := [(.int .i64 (.ofNat 0)), (.int .u64 (.ofNat 2)), (.slice (some ⟨397, 0, none⟩) 1 7341804141336401543168), (.int .i64 (.ofNat 1)), (.slice none 0 0), (.slice none 0 0), (.bool true), (.slice (some ⟨557, 0, none⟩) 24 24), (.slice none 0 0), (.int .i64 (.negSucc 0)), (.bool false), (.slice none 0 0), (.slice none 0 0), (.int .i64 (.ofNat 0)), (.int .u64 (.ofNat 2)), (.int .u64 (.ofNat 2))]
noncomputable def b1V : Value := (.tuple ⟨[(.agg ⟨b1z5⟩), (.int .i64 (.ofNat 0))]⟩)

theorem c1_run : outB b1V b1H 600 (runH prog xL6 a1H 201 27 a1A 20000) = true := by kernel_rfl
noncomputable def xC1 : Lk := { xL6 with orx := entF 27 a1A a1H 201 b1V b1H 600 xC0.orx }
end Go.Proofs.Tryz
