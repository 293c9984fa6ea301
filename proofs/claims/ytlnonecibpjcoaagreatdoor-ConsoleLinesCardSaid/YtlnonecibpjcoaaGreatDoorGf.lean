/- A closed fact of. -/
import Derived.Test.YtlnonecibpjcoaaGreatDoorGa
set_option linter.all false
namespace Go.Proofs.YtlnonecibpjcoaaGreatDoor.tied
open Go Go.Proofs.YtlnonecibpjcoaaGreatDoor
theorem Z8:∀os tape,(DataW.laidRun Tryz.prog (varsWorld Tryz.prog 400 (varsId Tryz.prog) os tape).memory 8 (IR.map (·.1))).map (·.1)=some IR:=fun _ _=>by kernel_rfl
end Go.Proofs.YtlnonecibpjcoaaGreatDoor.tied
