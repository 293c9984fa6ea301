/- A closed fact of the tie of the laid variables. A closed fact of the tie of the laid variables. -/
import Derived.Test.YtlnonecibpjcoaaGreatDoorGa
set_option linter.unusedSimpArgs false
set_option linter.unusedVariables false
set_option linter.unusedSectionVars false
namespace Go.Proofs.YtlnonecibpjcoaaGreatDoor.tied
open Go Go.Proofs.YtlnonecibpjcoaaGreatDoor
theorem t_hw2 : Tryz.prog.worded (varsWordLater !true) = false := by kernel_rfl
end Go.Proofs.YtlnonecibpjcoaaGreatDoor.tied

namespace Go.Proofs.YtlnonecibpjcoaaGreatDoor.tied
open Go Go.Proofs.YtlnonecibpjcoaaGreatDoor
theorem t_hroot : Tryz.prog.worded rootWordLater = true := by kernel_rfl
end Go.Proofs.YtlnonecibpjcoaaGreatDoor.tied
