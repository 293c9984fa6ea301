/- One case of the statement, reckoned. One case of the statement, reckoned. -/
import Derived.Test.YtncmgfehlgkgdaaGreatDoorQA
import Derived.Test.YtncmgfehlgkgdaaGreatDoorOkC
set_option linter.unusedSimpArgs false
set_option linter.unusedVariables false
set_option linter.unusedSectionVars false
namespace Go.Proofs.Tryz
open Go.Proofs.Ex
noncomputable def zA1T : Tabs := ⟨[(16, 3, aI 0, kI (-40), .bool false), (13, 3, aI 0, kI (-40), .bool true)], [], [], [(10, [aI 2], aI 3)], [(5, [], .bool true)], []⟩
noncomputable def zA1L : Lk := symL xL1 zA1T
noncomputable def zA1bt (f r : Nat) : Option Nat := cond (Nat.beq f 23 && Nat.beq r 1) (some 5) (cond (Nat.beq f 125 && Nat.beq r 1) (some 9) none)
noncomputable def zA1bo2 : AO := .cells qac1 [] 1 16 none 66
noncomputable def zA1bo5 : AO := .cells .nil qaz4 12 12 none 57
noncomputable def zA1bo8 : AO := .cells qac6 b1z2 16 16 none 41
noncomputable def zA1bo9 : AO := .cells .nil [(.int .i64 (.ofNat 0))] 1 1 none 45
noncomputable def zA1bo12 : AO := .cells b1c4 b1z5 132 3168 none 128
noncomputable def zA1bo14 : AO := .cells .nil b1z2 16 16 none 41
noncomputable def zA1bo16 : AO := .cells .nil [(.int .i64 (.ofNat 0))] 1 1 none 3
noncomputable def zA1bo18 : AO := .cells qac15 [] 1 44 none 98
noncomputable def zA1bo19 : AO := .cells qac6 [] 1 16 none 41
noncomputable def zA1bH : Tr AO := (.node (.node (.node (.node .nil none (.node .nil none (.node .nil none (.node (.node (.node (.node .nil (some zA1bo2) .nil) none .nil) none .nil) none .nil)))) none (.node .nil none (.node .nil none (.node .nil none (.node (.node (.node (.node .nil (some qao3) .nil) none .nil) none .nil) none .nil))))) none (.node (.node .nil none (.node .nil none (.node .nil none (.node (.node (.node (.node .nil (some zA1bo5) .nil) none .nil) none .nil) none .nil)))) none (.node (.node .nil none (.node .nil none (.node (.node (.node (.node .nil (some zA1bo8) .nil) none .nil) none .nil) none .nil))) none (.node .nil none (.node .nil none (.node (.node (.node (.node .nil (some zA1bo9) .nil) none .nil) none .nil) none .nil)))))) none (.node (.node (.node .nil none (.node (.node (.node (.node (.node (.node .nil (some zA1bo12) .nil) none .nil) none .nil) none .nil) none (.node .nil none (.node (.node .nil (some b2o4) .nil) none .nil))) none (.node .nil none (.node (.node (.node (.node .nil (some zA1bo14) .nil) none .nil) none .nil) none .nil)))) none (.node (.node .nil none (.node .nil none (.node (.node (.node (.node .nil (some b2o5) .nil) none .nil) none .nil) none .nil))) none (.node .nil none (.node .nil none (.node (.node (.node (.node .nil (some zA1bo16) .nil) none .nil) none .nil) none .nil))))) none (.node (.node .nil none (.node .nil none (.node .nil none (.node (.node (.node (.node .nil (some zA1bo18) .nil) none .nil) none .nil) none .nil)))) none (.node (.node .nil none (.node .nil none (.node (.node (.node (.node .nil (some zA1bo19) .nil) none .nil) none .nil) none .nil))) none .nil))))
noncomputable def zA1bV : Value := (.iface 45 (.int .i64 (.ofNat 2)))
noncomputable def zA1bT : Tr Value := (.node (.node (.node .nil (some (.pointer (some ⟨573, 0, none⟩))) .nil) none (.node .nil (some (.func (.func 23) ⟨[]⟩ ⟨[(.pointer (some ⟨571, 0, none⟩)), (.pointer (some ⟨567, 0, none⟩))]⟩)) .nil)) (some (.func (.func 23) ⟨[]⟩ ⟨[(.pointer (some ⟨571, 0, none⟩)), (.pointer (some ⟨567, 0, none⟩))]⟩)) (.node (.node .nil (some (.func (.func 68) ⟨[]⟩ ⟨[(.pointer (some ⟨572, 0, none⟩)), (.pointer (some ⟨573, 0, none⟩))]⟩)) .nil) (some (.pointer (some ⟨572, 0, none⟩))) .nil))

noncomputable def zA1c0 : S := ⟨zA1bH, 592, 68, Tr.nil.setL 0 [(.pointer (some ⟨572, 0, none⟩)), (.pointer (some ⟨573, 0, none⟩))], 10, [.code (bodyC f68)], [], true, true, none⟩
noncomputable def zA1c1 : Tr Value := (zA1c0.tm.set 4 zA1bV)
noncomputable def zA1c2 : Tr Value := (zA1c1.set 2 zA1bV)
noncomputable def zA1cS : S := ⟨zA1bH, 592, 68, zA1c2, 10, [.code (subC (bodyC f68) [1])], [], true, true, none⟩
noncomputable def zA1ro2 : AO := .cells qac1 [] 1 16 none 66
noncomputable def zA1ro5 : AO := .cells .nil qaz4 12 12 none 57
noncomputable def zA1ro8 : AO := .cells qac6 b1z2 16 16 none 41
noncomputable def zA1ro9 : AO := .cells (.node .nil (some (.int .i64 (.ofNat 2))) .nil) [(.int .i64 (.ofNat 0))] 1 1 none 45
noncomputable def zA1ro12 : AO := .cells b1c4 b1z5 132 3168 none 128
noncomputable def zA1ro14 : AO := .cells .nil b1z2 16 16 none 41
noncomputable def zA1ro16 : AO := .cells (.node .nil (some (.int .i64 (.ofNat 0))) .nil) [(.int .i64 (.ofNat 0))] 1 1 none 3
noncomputable def zA1ro18 : AO := .cells qac15 [] 1 44 none 98
noncomputable def zA1ro19 : AO := .cells qac6 [] 1 16 none 41
noncomputable def zA1rH : Tr AO := (.node (.node (.node (.node .nil none (.node .nil none (.node .nil none (.node (.node (.node (.node .nil (some zA1ro2) .nil) none .nil) none .nil) none .nil)))) none (.node .nil none (.node .nil none (.node .nil none (.node (.node (.node (.node .nil (some qao3) .nil) none .nil) none .nil) none .nil))))) none (.node (.node .nil none (.node .nil none (.node .nil none (.node (.node (.node (.node .nil (some zA1ro5) .nil) none .nil) none .nil) none .nil)))) none (.node (.node .nil none (.node .nil none (.node (.node (.node (.node .nil (some zA1ro8) .nil) none .nil) none .nil) none .nil))) none (.node .nil none (.node .nil none (.node (.node (.node (.node .nil (some zA1ro9) .nil) none .nil) none .nil) none .nil)))))) none (.node (.node (.node .nil none (.node (.node (.node (.node (.node (.node .nil (some zA1ro12) .nil) none .nil) none .nil) none .nil) none (.node .nil none (.node (.node .nil (some b2o4) .nil) none .nil))) none (.node .nil none (.node (.node (.node (.node .nil (some zA1ro14) .nil) none .nil) none .nil) none .nil)))) none (.node (.node .nil none (.node .nil none (.node (.node (.node (.node .nil (some b2o5) .nil) none .nil) none .nil) none .nil))) none (.node .nil none (.node .nil none (.node (.node (.node (.node .nil (some zA1ro16) .nil) none .nil) none .nil) none .nil))))) none (.node (.node .nil none (.node .nil none (.node .nil none (.node (.node (.node (.node .nil (some zA1ro18) .nil) none .nil) none .nil) none .nil)))) none (.node (.node .nil none (.node .nil none (.node (.node (.node (.node .nil (some zA1ro19) .nil) none .nil) none .nil) none .nil))) none .nil))))
noncomputable def zA1rV : Value := (.tuple ⟨[]⟩)

noncomputable def zA1v : Value := .tuple #[.int .i64 (.ofNat 0), .int .i64 (.ofNat 2)]
noncomputable def zA1Lk : Lk := { zA1L with orx := entX 22 qaA qaH 572 zA1v zA1rH 592 xL1.orx }
theorem zA1_blow : outP ⟨zA1bV, zA1bH, 592, zA1bT, [⟨.fn (.func 68) ⟨[(.pointer (some ⟨572, 0, none⟩)), (.pointer (some ⟨573, 0, none⟩))]⟩, ⟨[]⟩⟩], true⟩ (blowS prog zA1L zA1bt (arun prog zA1L 5000) 1000 qaS) = true := by kernel_rfl
theorem zA1_enter : enterA zA1L qaH 572 22 qaA false = some qaS := by kernel_rfl
theorem zA1_center : enterA zA1L zA1bH 592 68 [(.pointer (some ⟨572, 0, none⟩)), (.pointer (some ⟨573, 0, none⟩))] true = some zA1c0 := by kernel_rfl
theorem zA1_p1 : putT zA1c0.tm zA1c0.nt (some 4) zA1bV = some zA1c1 := by kernel_rfl
theorem zA1_p2 : putT zA1c1 zA1c0.nt (some 2) zA1bV = some zA1c2 := by kernel_rfl
theorem zA1_rec : outB (.tuple #[]) zA1rH 592 (backA zA1L (arun prog zA1L 5000 zA1cS)) = true := by kernel_rfl
theorem zA1_val : resultA zA1L zA1bT zA1rH 22 = some zA1v := by kernel_rfl
theorem zA1_run : outB (.bool true) .nil 593 (runA prog zA1Lk 3 [aI 0, aI 1, aI 2] 20000) = true := by kernel_rfl
end Go.Proofs.Tryz

namespace Go.Proofs.Tryz
open Go.Proofs.Ex
noncomputable def zA2T : Tabs := ⟨[(16, 3, aI 0, kI (-40), .bool true), (14, 3, aI 0, kI (40), .bool false), (13, 3, aI 0, kI (-40), .bool false), (15, 3, aI 0, kI (40), .bool true)], [], [], [(10, [aI 2], aI 3)], [(5, [], .bool true)], []⟩
noncomputable def zA2L : Lk := symL xL1 zA2T
noncomputable def zA2bt (f r : Nat) : Option Nat := cond (Nat.beq f 23 && Nat.beq r 1) (some 5) (cond (Nat.beq f 125 && Nat.beq r 1) (some 9) none)
noncomputable def zA2bo2 : AO := .cells qac1 [] 1 16 none 66
noncomputable def zA2bo5 : AO := .cells .nil qaz4 12 12 none 57
noncomputable def zA2bo8 : AO := .cells qac6 b1z2 16 16 none 41
noncomputable def zA2bo9 : AO := .cells .nil [(.int .i64 (.ofNat 0))] 1 1 none 45
noncomputable def zA2bo12 : AO := .cells b1c4 b1z5 132 3168 none 128
noncomputable def zA2bo14 : AO := .cells .nil b1z2 16 16 none 41
noncomputable def zA2bo16 : AO := .cells .nil [(.int .i64 (.ofNat 0))] 1 1 none 3
noncomputable def zA2bo18 : AO := .cells qac15 [] 1 44 none 98
noncomputable def zA2bo19 : AO := .cells qac6 [] 1 16 none 41
noncomputable def zA2bH : Tr AO := (.node (.node (.node (.node .nil none (.node .nil none (.node .nil none (.node (.node (.node (.node .nil (some zA2bo2) .nil) none .nil) none .nil) none .nil)))) none (.node .nil none (.node .nil none (.node .nil none (.node (.node (.node (.node .nil (some qao3) .nil) none .nil) none .nil) none .nil))))) none (.node (.node .nil none (.node .nil none (.node .nil none (.node (.node (.node (.node .nil (some zA2bo5) .nil) none .nil) none .nil) none .nil)))) none (.node (.node .nil none (.node .nil none (.node (.node (.node (.node .nil (some zA2bo8) .nil) none .nil) none .nil) none .nil))) none (.node .nil none (.node .nil none (.node (.node (.node (.node .nil (some zA2bo9) .nil) none .nil) none .nil) none .nil)))))) none (.node (.node (.node .nil none (.node (.node (.node (.node (.node (.node .nil (some zA2bo12) .nil) none .nil) none .nil) none .nil) none (.node .nil none (.node (.node .nil (some b2o4) .nil) none .nil))) none (.node .nil none (.node (.node (.node (.node .nil (some zA2bo14) .nil) none .nil) none .nil) none .nil)))) none (.node (.node .nil none (.node .nil none (.node (.node (.node (.node .nil (some b2o5) .nil) none .nil) none .nil) none .nil))) none (.node .nil none (.node .nil none (.node (.node (.node (.node .nil (some zA2bo16) .nil) none .nil) none .nil) none .nil))))) none (.node (.node .nil none (.node .nil none (.node .nil none (.node (.node (.node (.node .nil (some zA2bo18) .nil) none .nil) none .nil) none .nil)))) none (.node (.node .nil none (.node .nil none (.node (.node (.node (.node .nil (some zA2bo19) .nil) none .nil) none .nil) none .nil))) none .nil))))
noncomputable def zA2bV : Value := (.iface 45 (.int .i64 (.ofNat 2)))
noncomputable def zA2bT : Tr Value := zA1bT

noncomputable def zA2c0 : S := ⟨zA2bH, 592, 68, Tr.nil.setL 0 [(.pointer (some ⟨572, 0, none⟩)), (.pointer (some ⟨573, 0, none⟩))], 10, [.code (bodyC f68)], [], true, true, none⟩
noncomputable def zA2c1 : Tr Value := (zA2c0.tm.set 4 zA2bV)
noncomputable def zA2c2 : Tr Value := (zA2c1.set 2 zA2bV)
noncomputable def zA2cS : S := ⟨zA2bH, 592, 68, zA2c2, 10, [.code (subC (bodyC f68) [1])], [], true, true, none⟩
noncomputable def zA2ro2 : AO := .cells qac1 [] 1 16 none 66
noncomputable def zA2ro5 : AO := .cells .nil qaz4 12 12 none 57
noncomputable def zA2ro8 : AO := .cells qac6 b1z2 16 16 none 41
noncomputable def zA2ro12 : AO := .cells b1c4 b1z5 132 3168 none 128
noncomputable def zA2ro14 : AO := .cells .nil b1z2 16 16 none 41
noncomputable def zA2ro18 : AO := .cells qac15 [] 1 44 none 98
noncomputable def zA2ro19 : AO := .cells qac6 [] 1 16 none 41
noncomputable def zA2rH : Tr AO := (.node (.node (.node (.node .nil none (.node .nil none (.node .nil none (.node (.node (.node (.node .nil (some zA2ro2) .nil) none .nil) none .nil) none .nil)))) none (.node .nil none (.node .nil none (.node .nil none (.node (.node (.node (.node .nil (some qao3) .nil) none .nil) none .nil) none .nil))))) none (.node (.node .nil none (.node .nil none (.node .nil none (.node (.node (.node (.node .nil (some zA2ro5) .nil) none .nil) none .nil) none .nil)))) none (.node (.node .nil none (.node .nil none (.node (.node (.node (.node .nil (some zA2ro8) .nil) none .nil) none .nil) none .nil))) none (.node .nil none (.node .nil none (.node (.node (.node (.node .nil (some zA1ro9) .nil) none .nil) none .nil) none .nil)))))) none (.node (.node (.node .nil none (.node (.node (.node (.node (.node (.node .nil (some zA2ro12) .nil) none .nil) none .nil) none .nil) none (.node .nil none (.node (.node .nil (some b2o4) .nil) none .nil))) none (.node .nil none (.node (.node (.node (.node .nil (some zA2ro14) .nil) none .nil) none .nil) none .nil)))) none (.node (.node .nil none (.node .nil none (.node (.node (.node (.node .nil (some b2o5) .nil) none .nil) none .nil) none .nil))) none (.node .nil none (.node .nil none (.node (.node (.node (.node .nil (some zA1ro16) .nil) none .nil) none .nil) none .nil))))) none (.node (.node .nil none (.node .nil none (.node .nil none (.node (.node (.node (.node .nil (some zA2ro18) .nil) none .nil) none .nil) none .nil)))) none (.node (.node .nil none (.node .nil none (.node (.node (.node (.node .nil (some zA2ro19) .nil) none .nil) none .nil) none .nil))) none .nil))))
noncomputable def zA2rV : Value := (.tuple ⟨[]⟩)

noncomputable def zA2v : Value := .tuple #[.int .i64 (.ofNat 0), .int .i64 (.ofNat 2)]
noncomputable def zA2Lk : Lk := { zA2L with orx := entX 22 qaA qaH 572 zA2v zA2rH 592 xL1.orx }
theorem zA2_blow : outP ⟨zA2bV, zA2bH, 592, zA2bT, [⟨.fn (.func 68) ⟨[(.pointer (some ⟨572, 0, none⟩)), (.pointer (some ⟨573, 0, none⟩))]⟩, ⟨[]⟩⟩], true⟩ (blowS prog zA2L zA2bt (arun prog zA2L 5000) 1000 qaS) = true := by kernel_rfl
theorem zA2_enter : enterA zA2L qaH 572 22 qaA false = some qaS := by kernel_rfl
theorem zA2_center : enterA zA2L zA2bH 592 68 [(.pointer (some ⟨572, 0, none⟩)), (.pointer (some ⟨573, 0, none⟩))] true = some zA2c0 := by kernel_rfl
theorem zA2_p1 : putT zA2c0.tm zA2c0.nt (some 4) zA2bV = some zA2c1 := by kernel_rfl
theorem zA2_p2 : putT zA2c1 zA2c0.nt (some 2) zA2bV = some zA2c2 := by kernel_rfl
theorem zA2_rec : outB (.tuple #[]) zA2rH 592 (backA zA2L (arun prog zA2L 5000 zA2cS)) = true := by kernel_rfl
theorem zA2_val : resultA zA2L zA2bT zA2rH 22 = some zA2v := by kernel_rfl
theorem zA2_run : outB (.bool true) .nil 593 (runA prog zA2Lk 3 [aI 0, aI 1, aI 2] 20000) = true := by kernel_rfl
end Go.Proofs.Tryz
