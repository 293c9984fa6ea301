/- A fact of the witness. -/
import Derived.Test.YtbiedfkmmcaplaaGreatDoorWa
import Derived.LaidLaws
set_option linter.all false
namespace Go.Proofs.YtbiedfkmmcaplaaGreatDoor.consoleWrong
open Go Go.Proofs.YtbiedfkmmcaplaaGreatDoor
theorem w_c (os : Os) : (tW os).variablesRefB Tryz.prog = true := by kernel_rfl
end Go.Proofs.YtbiedfkmmcaplaaGreatDoor.consoleWrong
