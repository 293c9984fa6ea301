/- A closed fact of. -/
import Derived.Test.YtlnonecibpjcoaaGreatDoorFq
import Derived.Test.YtlnonecibpjcoaaGreatDoorCards
import Derived.JoinedOf
set_option linter.all false
namespace Go.Proofs.YtlnonecibpjcoaaGreatDoor.consoleTells
theorem F_heard:(Tryz.pinned.checked.prog.stopsHeard)=true:=by kernel_rfl
end Go.Proofs.YtlnonecibpjcoaaGreatDoor.consoleTells
namespace Go.Proofs.YtlnonecibpjcoaaGreatDoor.consoleTells
theorem F_goes:Tryz.pinned.checked.prog.funcs.any Func.goes=false:=by kernel_rfl
end Go.Proofs.YtlnonecibpjcoaaGreatDoor.consoleTells
