/- A closed fact of. -/
import Derived.Test.YtlnonecibpjcoaaGreatDoorGa
set_option linter.all false
namespace Go.Proofs.YtlnonecibpjcoaaGreatDoor.tied
open Go Go.Proofs.YtlnonecibpjcoaaGreatDoor
theorem Z7:∀os tape,varsDone Tryz.prog 400 (varsId Tryz.prog) os tape=true:=fun _ _=>by kernel_rfl
end Go.Proofs.YtlnonecibpjcoaaGreatDoor.tied
