/- A closed fact of. -/
import Derived.Test.YtlnonecibpjcoaaGreatDoorFq
import Derived.Test.YtlnonecibpjcoaaGreatDoorCards
import Derived.JoinedOf
set_option linter.all false
namespace Go.Proofs.YtlnonecibpjcoaaGreatDoor.consoleTells
theorem aR:((List.range' 600 200).all (rowFine Tryz.pinned.checked.prog))=true:=by kernel_rfl
end Go.Proofs.YtlnonecibpjcoaaGreatDoor.consoleTells
namespace Go.Proofs.YtlnonecibpjcoaaGreatDoor.consoleTells
theorem aS:((List.range' 800 117).all (rowFine Tryz.pinned.checked.prog))=true:=by kernel_rfl
end Go.Proofs.YtlnonecibpjcoaaGreatDoor.consoleTells
