/- A closed fact of the row of StoreReads. A closed fact of the row of StoreReads. -/
import Derived.Test.YtncmgfehlgkgdaaGreatDoorFR
import Derived.Test.YtncmgfehlgkgdaaGreatDoorCards
import Derived.JoinedOf
set_option linter.unusedSimpArgs false
set_option linter.unusedVariables false
set_option linter.unusedSectionVars false
namespace Go.Proofs.YtncmgfehlgkgdaaGreatDoor.storeReads
theorem F_heard : (Tryz.pinned.checked.prog.stopsHeard) = true := by kernel_rfl
end Go.Proofs.YtncmgfehlgkgdaaGreatDoor.storeReads

namespace Go.Proofs.YtncmgfehlgkgdaaGreatDoor.storeReads
theorem F_enter : (Tryz.pinned.checked.prog.mayEnter) = true := by kernel_rfl
end Go.Proofs.YtncmgfehlgkgdaaGreatDoor.storeReads
