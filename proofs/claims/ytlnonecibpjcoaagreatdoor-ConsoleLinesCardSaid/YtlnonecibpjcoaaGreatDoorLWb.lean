/- A fact of the wi. -/
import Derived.Test.YtlnonecibpjcoaaGreatDoorLWa
import Derived.LaidOnce
set_option linter.all false
namespace Go.Proofs.YtlnonecibpjcoaaGreatDoor.consoleLines
open Go Go.Proofs.YtlnonecibpjcoaaGreatDoor
theorem w_b (os:Os):(DataW.laidRun Tryz.prog (tW os).memory 8 (FU.map (·.1))).map (fun x=>nodupBits 1024 x.2 0 && laidRowsB Tryz.prog (tW os).memory x.2)=some true:=by kernel_rfl
end Go.Proofs.YtlnonecibpjcoaaGreatDoor.consoleLines
