/- StoreFormats, where the number of pages may not be: the state at the call that fails. One case of the statement, reckoned. One case of the statement, reckoned. -/
import Derived.Test.YtncmgfehlgkgdaaGreatDoorOkC
import Derived.Test.YtncmgfehlgkgdaaGreatDoorSy
import Derived.Test.YtncmgfehlgkgdaaGreatDoorEe
set_option linter.unusedSimpArgs false
set_option linter.unusedVariables false
set_option linter.unusedSectionVars false
namespace Go.Proofs.Tryz
open Go.Proofs.Ex
noncomputable def qfo1 : AO := .cells .nil [(.slice none 0 0), (.slice none 0 0), (.int .i64 (.ofNat 0)), (.bool false)] 4 4 none 36
noncomputable def qfo2 : AO := .cells (.node .nil (some (.complex .f64 0 0)) .nil) [] 1 1 none 3
noncomputable def qfH : Tr AO := (.node (.node .nil (some qfo1) .nil) (some qfo2) .nil)
noncomputable def qfV : Value := (.tuple ⟨[(.func (.func 34) ⟨[]⟩ ⟨[(.pointer (some ⟨0, 0, none⟩))]⟩)]⟩)
noncomputable def qfA : List Value := [.func (.func 34) ⟨[]⟩ ⟨[(.pointer (some ⟨0, 0, none⟩))]⟩]
noncomputable def qfS : S := ⟨qfH, 2, 33, Tr.nil.setL 0 qfA, 7, [.code (bodyC f33)], [], true, false, none⟩
end Go.Proofs.Tryz

namespace Go.Proofs.Tryz
open Go.Proofs.Ex
noncomputable def zR1T : Tabs := ⟨[(13, 3, aI 0, kI (24), .bool true)], [], [], [], [(5, [], .bool true)], []⟩
noncomputable def zR1L : Lk := symL xL zR1T
noncomputable def zR1bt (f r : Nat) : Option Nat := none
noncomputable def zR1bo1 : AO := .cells .nil [(.int .i64 (.ofNat 0))] 1 1 none 45
noncomputable def zR1bH : Tr AO := (.node (.node (.node .nil (some zR1bo1) .nil) (some qfo1) .nil) (some qfo2) (.node .nil (some qfo1) .nil))
noncomputable def zR1bV : Value := (.iface 45 (.int .i64 (.ofNat 2)))
noncomputable def zR1bT : Tr Value := (.node (.node (.node .nil (some (.pointer (some ⟨3, 0, none⟩))) .nil) none (.node .nil (some (.func (.func 34) ⟨[]⟩ ⟨[(.pointer (some ⟨0, 0, none⟩))]⟩)) .nil)) (some (.func (.func 34) ⟨[]⟩ ⟨[(.pointer (some ⟨0, 0, none⟩))]⟩)) (.node (.node .nil (some (.func (.func 90) ⟨[]⟩ ⟨[(.pointer (some ⟨2, 0, none⟩)), (.pointer (some ⟨3, 0, none⟩))]⟩)) .nil) (some (.pointer (some ⟨2, 0, none⟩))) .nil))

noncomputable def zR1c0 : S := ⟨zR1bH, 8, 90, Tr.nil.setL 0 [(.pointer (some ⟨2, 0, none⟩)), (.pointer (some ⟨3, 0, none⟩))], 10, [.code (bodyC f90)], [], true, true, none⟩
noncomputable def zR1c1 : Tr Value := (zR1c0.tm.set 4 zR1bV)
noncomputable def zR1c2 : Tr Value := (zR1c1.set 2 zR1bV)
noncomputable def zR1cS : S := ⟨zR1bH, 8, 90, zR1c2, 10, [.code (subC (bodyC f90) [1])], [], true, true, none⟩
noncomputable def zR1ro1 : AO := .cells (.node .nil (some (.int .i64 (.ofNat 2))) .nil) [(.int .i64 (.ofNat 0))] 1 1 none 45
noncomputable def zR1ro4 : AO := .cells (.node (.node (.node .nil (some (.bool false)) .nil) (some (.slice none 0 0)) .nil) (some (.slice none 0 0)) (.node .nil (some (.int .i64 (.ofNat 0))) .nil)) [(.slice none 0 0), (.slice none 0 0), (.int .i64 (.ofNat 0)), (.bool false)] 4 4 none 36
noncomputable def zR1rH : Tr AO := (.node (.node (.node .nil (some zR1ro1) .nil) (some qfo1) .nil) (some qfo2) (.node .nil (some zR1ro4) .nil))
noncomputable def zR1rV : Value := (.tuple ⟨[]⟩)

noncomputable def zR1v : Value := .tuple #[.agg #[.slice none 0 0, .slice none 0 0, .int .i64 (.ofNat 0), .bool false], .int .i64 (.ofNat 2)]
noncomputable def zR1Lk : Lk := { zR1L with orx := entX 33 qfA qfH 2 zR1v zR1rH 9 xL.orx }
theorem zR1_blow : outP ⟨zR1bV, zR1bH, 8, zR1bT, [⟨.fn (.func 90) ⟨[(.pointer (some ⟨2, 0, none⟩)), (.pointer (some ⟨3, 0, none⟩))]⟩, ⟨[]⟩⟩], true⟩ (blowS prog zR1L zR1bt (arun prog zR1L 5000) 1000 qfS) = true := by kernel_rfl
theorem zR1_enter : enterA zR1L qfH 2 33 qfA false = some qfS := by kernel_rfl
theorem zR1_center : enterA zR1L zR1bH 8 90 [(.pointer (some ⟨2, 0, none⟩)), (.pointer (some ⟨3, 0, none⟩))] true = some zR1c0 := by kernel_rfl
theorem zR1_p1 : putT zR1c0.tm zR1c0.nt (some 4) zR1bV = some zR1c1 := by kernel_rfl
theorem zR1_p2 : putT zR1c1 zR1c0.nt (some 2) zR1bV = some zR1c2 := by kernel_rfl
theorem zR1_rec : outB (.tuple #[]) zR1rH 9 (backA zR1L (arun prog zR1L 5000 zR1cS)) = true := by kernel_rfl
theorem zR1_val : resultA zR1L zR1bT zR1rH 33 = some zR1v := by kernel_rfl
theorem zR1_run : outB (.bool true) .nil 12 (runA prog zR1Lk 4 [aI 0] 20000) = true := by kernel_rfl
end Go.Proofs.Tryz

namespace Go.Proofs.Tryz
open Go.Proofs.Ex
noncomputable def zR2T : Tabs := ⟨[(13, 3, aI 0, kI (24), .bool false), (15, 3, aI 0, kI (256), .bool true)], [], [], [], [(5, [], .bool true)], []⟩
noncomputable def zR2L : Lk := symL xL zR2T
noncomputable def zR2bt (f r : Nat) : Option Nat := none
noncomputable def zR2bo1 : AO := .cells .nil [(.int .i64 (.ofNat 0))] 1 1 none 45
noncomputable def zR2bH : Tr AO := (.node (.node (.node .nil (some zR2bo1) .nil) (some qfo1) .nil) (some qfo2) (.node .nil (some qfo1) .nil))
noncomputable def zR2bV : Value := (.iface 45 (.int .i64 (.ofNat 2)))
noncomputable def zR2bT : Tr Value := zR1bT

noncomputable def zR2c0 : S := ⟨zR2bH, 8, 90, Tr.nil.setL 0 [(.pointer (some ⟨2, 0, none⟩)), (.pointer (some ⟨3, 0, none⟩))], 10, [.code (bodyC f90)], [], true, true, none⟩
noncomputable def zR2c1 : Tr Value := (zR2c0.tm.set 4 zR2bV)
noncomputable def zR2c2 : Tr Value := (zR2c1.set 2 zR2bV)
noncomputable def zR2cS : S := ⟨zR2bH, 8, 90, zR2c2, 10, [.code (subC (bodyC f90) [1])], [], true, true, none⟩
noncomputable def zR2rH : Tr AO := zR1rH
noncomputable def zR2rV : Value := (.tuple ⟨[]⟩)

noncomputable def zR2v : Value := .tuple #[.agg #[.slice none 0 0, .slice none 0 0, .int .i64 (.ofNat 0), .bool false], .int .i64 (.ofNat 2)]
noncomputable def zR2Lk : Lk := { zR2L with orx := entX 33 qfA qfH 2 zR2v zR2rH 9 xL.orx }
theorem zR2_blow : outP ⟨zR2bV, zR2bH, 8, zR2bT, [⟨.fn (.func 90) ⟨[(.pointer (some ⟨2, 0, none⟩)), (.pointer (some ⟨3, 0, none⟩))]⟩, ⟨[]⟩⟩], true⟩ (blowS prog zR2L zR2bt (arun prog zR2L 5000) 1000 qfS) = true := by kernel_rfl
theorem zR2_enter : enterA zR2L qfH 2 33 qfA false = some qfS := by kernel_rfl
theorem zR2_center : enterA zR2L zR2bH 8 90 [(.pointer (some ⟨2, 0, none⟩)), (.pointer (some ⟨3, 0, none⟩))] true = some zR2c0 := by kernel_rfl
theorem zR2_p1 : putT zR2c0.tm zR2c0.nt (some 4) zR2bV = some zR2c1 := by kernel_rfl
theorem zR2_p2 : putT zR2c1 zR2c0.nt (some 2) zR2bV = some zR2c2 := by kernel_rfl
theorem zR2_rec : outB (.tuple #[]) zR2rH 9 (backA zR2L (arun prog zR2L 5000 zR2cS)) = true := by kernel_rfl
theorem zR2_val : resultA zR2L zR2bT zR2rH 33 = some zR2v := by kernel_rfl
theorem zR2_run : outB (.bool true) .nil 12 (runA prog zR2Lk 4 [aI 0] 20000) = true := by kernel_rfl
end Go.Proofs.Tryz
