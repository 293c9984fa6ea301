/- A closed fact of the row of StoreReads. -/
import Derived.Test.YtncmgfehlgkgdaaGreatDoorFR
import Derived.Test.YtncmgfehlgkgdaaGreatDoorCards
set_option linter.unusedSimpArgs false
set_option linter.unusedVariables false
set_option linter.unusedSectionVars false
namespace Go.Proofs.YtncmgfehlgkgdaaGreatDoor.storeReads
theorem F_named : (Rows.storeReadsRow.named == Tryz.pinned.checked.prog.varsNamed 3) = true := by kernel_rfl
end Go.Proofs.YtncmgfehlgkgdaaGreatDoor.storeReads
