/- A fact of the witness. -/
import Derived.Test.YtbiedfkmmcaplaaGreatDoorWa
import Derived.LaidOnce
set_option linter.all false
namespace Go.Proofs.YtbiedfkmmcaplaaGreatDoor.consoleWrong
open Go Go.Proofs.YtbiedfkmmcaplaaGreatDoor
theorem w_b (os : Os) : (DataW.laidRun Tryz.prog (tW os).memory 8 (laid8.map (·.1))).map (fun x => nodupBits 1024 x.2 0 && laidRowsB Tryz.prog (tW os).memory x.2) = some true := by kernel_rfl
end Go.Proofs.YtbiedfkmmcaplaaGreatDoor.consoleWrong
