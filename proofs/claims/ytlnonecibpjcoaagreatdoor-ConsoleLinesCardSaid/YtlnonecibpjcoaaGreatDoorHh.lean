/- A closed fact of. -/
import Derived.Test.YtlnonecibpjcoaaGreatDoorFq
import Derived.Test.YtlnonecibpjcoaaGreatDoorCards
import Derived.JoinedOf
set_option linter.all false
namespace Go.Proofs.YtlnonecibpjcoaaGreatDoor.consoleTells
theorem aP:((List.range' 200 200).all (rowFine Tryz.pinned.checked.prog))=true:=by kernel_rfl
end Go.Proofs.YtlnonecibpjcoaaGreatDoor.consoleTells
namespace Go.Proofs.YtlnonecibpjcoaaGreatDoor.consoleTells
theorem aQ:((List.range' 400 200).all (rowFine Tryz.pinned.checked.prog))=true:=by kernel_rfl
end Go.Proofs.YtlnonecibpjcoaaGreatDoor.consoleTells
