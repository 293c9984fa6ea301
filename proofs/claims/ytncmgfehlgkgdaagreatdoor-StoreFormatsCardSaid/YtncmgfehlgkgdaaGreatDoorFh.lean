/- A closed fact of the row of StoreFormats. A closed fact of the row of StoreFormats. -/
import Derived.Test.YtncmgfehlgkgdaaGreatDoorFR
import Derived.Test.YtncmgfehlgkgdaaGreatDoorCards
import Derived.JoinedOf
set_option linter.unusedSimpArgs false
set_option linter.unusedVariables false
set_option linter.unusedSectionVars false
namespace Go.Proofs.YtncmgfehlgkgdaaGreatDoor.storeFormats
theorem F_heard : (Tryz.pinned.checked.prog.stopsHeard) = true := by kernel_rfl
end Go.Proofs.YtncmgfehlgkgdaaGreatDoor.storeFormats

namespace Go.Proofs.YtncmgfehlgkgdaaGreatDoor.storeFormats
theorem F_enter : (Tryz.pinned.checked.prog.mayEnter) = true := by kernel_rfl
end Go.Proofs.YtncmgfehlgkgdaaGreatDoor.storeFormats
