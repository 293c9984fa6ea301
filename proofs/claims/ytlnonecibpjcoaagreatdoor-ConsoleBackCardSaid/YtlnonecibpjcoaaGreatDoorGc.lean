/- A closed fact of the tie of the laid variables. -/
import Derived.Test.YtlnonecibpjcoaaGreatDoorGa
set_option linter.unusedSimpArgs false
set_option linter.unusedVariables false
set_option linter.unusedSectionVars false
namespace Go.Proofs.YtlnonecibpjcoaaGreatDoor.tied
open Go Go.Proofs.YtlnonecibpjcoaaGreatDoor
theorem t_hg : (Tryz.prog.funcNamed "gosem.cut.vars").isSome = true := by kernel_rfl
end Go.Proofs.YtlnonecibpjcoaaGreatDoor.tied
