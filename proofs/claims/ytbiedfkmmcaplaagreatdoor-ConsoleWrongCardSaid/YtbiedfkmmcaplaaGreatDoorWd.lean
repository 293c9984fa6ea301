/- A fact of the witness. -/
import Derived.Test.YtbiedfkmmcaplaaGreatDoorWa
import Derived.LaidLaws
set_option linter.all false
namespace Go.Proofs.YtbiedfkmmcaplaaGreatDoor.consoleWrong
open Go Go.Proofs.YtbiedfkmmcaplaaGreatDoor
theorem w_d (os : Os) : ((tW os).heap.toList.drop Tryz.prog.globals.size).take ((begin Tryz.prog (fun _ _ => 0) default).world.heap.size - Tryz.prog.globals.size) = (begin Tryz.prog (fun _ _ => 0) default).world.heap.toList.drop Tryz.prog.globals.size := by kernel_rfl
end Go.Proofs.YtbiedfkmmcaplaaGreatDoor.consoleWrong
