/- A fact of the witness. -/
import Derived.Test.YtlnonecibpjcoaaGreatDoorBWa
import Derived.LaidOnce
set_option linter.unusedSimpArgs false
set_option linter.unusedVariables false
set_option linter.unusedSectionVars false
namespace Go.Proofs.YtlnonecibpjcoaaGreatDoor.consoleBack
open Go Go.Proofs.YtlnonecibpjcoaaGreatDoor
theorem w_b (os : Os) : (DataW.laidRun Tryz.prog (tW os).memory 8 (laid8.map (·.1))).map (fun x => nodupBits 1024 x.2 0 && laidRowsB Tryz.prog (tW os).memory x.2) = some true := by kernel_rfl
end Go.Proofs.YtlnonecibpjcoaaGreatDoor.consoleBack
