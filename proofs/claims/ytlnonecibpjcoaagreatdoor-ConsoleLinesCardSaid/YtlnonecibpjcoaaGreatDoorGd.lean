/- A closed fact of. -/
import Derived.Test.YtlnonecibpjcoaaGreatDoorGa
set_option linter.all false
namespace Go.Proofs.YtlnonecibpjcoaaGreatDoor.tied
open Go Go.Proofs.YtlnonecibpjcoaaGreatDoor
theorem Z6:varsNamedLaterB Tryz.prog (varsId Tryz.prog) IR=true:=by kernel_rfl
end Go.Proofs.YtlnonecibpjcoaaGreatDoor.tied
