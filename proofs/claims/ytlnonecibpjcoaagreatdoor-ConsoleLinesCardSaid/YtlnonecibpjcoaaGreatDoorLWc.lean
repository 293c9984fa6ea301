/- A fact of the wi. -/
import Derived.Test.YtlnonecibpjcoaaGreatDoorLWa
import Derived.LaidLaws
set_option linter.all false
namespace Go.Proofs.YtlnonecibpjcoaaGreatDoor.consoleLines
open Go Go.Proofs.YtlnonecibpjcoaaGreatDoor
theorem w_c (os:Os):(tW os).variablesRefB Tryz.prog=true:=by kernel_rfl
end Go.Proofs.YtlnonecibpjcoaaGreatDoor.consoleLines
