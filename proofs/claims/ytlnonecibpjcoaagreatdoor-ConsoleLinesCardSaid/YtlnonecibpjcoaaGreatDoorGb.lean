/- A closed fact of. -/
import Derived.Test.YtlnonecibpjcoaaGreatDoorGa
set_option linter.all false
namespace Go.Proofs.YtlnonecibpjcoaaGreatDoor.tied
open Go Go.Proofs.YtlnonecibpjcoaaGreatDoor
theorem Z3:Tryz.prog.worded (varsWordLater !true)=false:=by kernel_rfl
end Go.Proofs.YtlnonecibpjcoaaGreatDoor.tied
namespace Go.Proofs.YtlnonecibpjcoaaGreatDoor.tied
open Go Go.Proofs.YtlnonecibpjcoaaGreatDoor
theorem Z4:Tryz.prog.worded rootWordLater=true:=by kernel_rfl
end Go.Proofs.YtlnonecibpjcoaaGreatDoor.tied
