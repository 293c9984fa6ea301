/- A closed fact of the row of ConsoleTells. -/
import Derived.Test.YtlnonecibpjcoaaGreatDoorFq
import Derived.Test.YtlnonecibpjcoaaGreatDoorCards
import Derived.JoinedOf
set_option linter.unusedSimpArgs false
set_option linter.unusedVariables false
set_option linter.unusedSectionVars false
namespace Go.Proofs.YtlnonecibpjcoaaGreatDoor.consoleTells
theorem F_rowed : (mapsRowed Tryz.pinned.checked.prog) = true := by kernel_rfl
end Go.Proofs.YtlnonecibpjcoaaGreatDoor.consoleTells
