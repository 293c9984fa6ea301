/- A closed fact of the row: types laid out. -/
import Derived.Test.YtlnonecibpjcoaaGreatDoorFq
import Derived.Test.YtlnonecibpjcoaaGreatDoorCards
import Derived.JoinedOf
set_option linter.unusedSimpArgs false
set_option linter.unusedVariables false
set_option linter.unusedSectionVars false
namespace Go.Proofs.YtlnonecibpjcoaaGreatDoor.consoleTells
theorem laid_0 : ((List.range' 0 200).all (rowFine Tryz.pinned.checked.prog)) = true := by kernel_rfl
theorem laid_g : Tryz.pinned.checked.prog.globals.all (fun g => decide (g.type < 917)) = true := by kernel_rfl
theorem laid_f : Tryz.pinned.checked.prog.funcs.all (fun f => f.params.all fun t => decide (t < 917)) = true := by kernel_rfl
end Go.Proofs.YtlnonecibpjcoaaGreatDoor.consoleTells
