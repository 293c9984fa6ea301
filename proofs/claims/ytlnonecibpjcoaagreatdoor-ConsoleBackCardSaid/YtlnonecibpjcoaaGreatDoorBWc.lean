/- A fact of the witness. -/
import Derived.Test.YtlnonecibpjcoaaGreatDoorBWa
import Derived.LaidLaws
set_option linter.unusedSimpArgs false
set_option linter.unusedVariables false
set_option linter.unusedSectionVars false
namespace Go.Proofs.YtlnonecibpjcoaaGreatDoor.consoleBack
open Go Go.Proofs.YtlnonecibpjcoaaGreatDoor
theorem w_c (os : Os) : (tW os).variablesRefB Tryz.prog = true := by kernel_rfl
end Go.Proofs.YtlnonecibpjcoaaGreatDoor.consoleBack
