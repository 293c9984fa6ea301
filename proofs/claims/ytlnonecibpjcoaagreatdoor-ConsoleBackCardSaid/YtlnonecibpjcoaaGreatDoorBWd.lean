/- A fact of the witness. -/
import Derived.Test.YtlnonecibpjcoaaGreatDoorBWa
import Derived.LaidLaws
set_option linter.unusedSimpArgs false
set_option linter.unusedVariables false
set_option linter.unusedSectionVars false
namespace Go.Proofs.YtlnonecibpjcoaaGreatDoor.consoleBack
open Go Go.Proofs.YtlnonecibpjcoaaGreatDoor
theorem w_d (os : Os) : ((tW os).heap.toList.drop Tryz.prog.globals.size).take ((begin Tryz.prog (fun _ _ => 0) default).world.heap.size - Tryz.prog.globals.size) = (begin Tryz.prog (fun _ _ => 0) default).world.heap.toList.drop Tryz.prog.globals.size := by kernel_rfl
end Go.Proofs.YtlnonecibpjcoaaGreatDoor.consoleBack
