/- A closed fact of the row: types laid out. A closed fact of the row: types laid out. -/
import Derived.Test.YtlnonecibpjcoaaGreatDoorFq
import Derived.Test.YtlnonecibpjcoaaGreatDoorCards
import Derived.JoinedOf
set_option linter.unusedSimpArgs false
set_option linter.unusedVariables false
set_option linter.unusedSectionVars false
namespace Go.Proofs.YtlnonecibpjcoaaGreatDoor.consoleTells
theorem laid_3 : ((List.range' 600 200).all (rowFine Tryz.pinned.checked.prog)) = true := by kernel_rfl
end Go.Proofs.YtlnonecibpjcoaaGreatDoor.consoleTells

namespace Go.Proofs.YtlnonecibpjcoaaGreatDoor.consoleTells
theorem laid_4 : ((List.range' 800 117).all (rowFine Tryz.pinned.checked.prog)) = true := by kernel_rfl
end Go.Proofs.YtlnonecibpjcoaaGreatDoor.consoleTells
