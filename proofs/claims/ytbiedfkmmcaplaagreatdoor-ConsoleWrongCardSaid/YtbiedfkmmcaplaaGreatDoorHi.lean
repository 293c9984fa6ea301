/- A closed fact of the row: types laid out. A closed fact of the row: types laid out. -/
import Derived.Test.YtbiedfkmmcaplaaGreatDoorFq
import Derived.Test.YtbiedfkmmcaplaaGreatDoorCards
import Derived.JoinedOf
set_option linter.all false
namespace Go.Proofs.YtbiedfkmmcaplaaGreatDoor.consoleWrong
theorem laid_3 : ((List.range' 600 200).all (rowFine Tryz.pinned.checked.prog)) = true := by kernel_rfl
end Go.Proofs.YtbiedfkmmcaplaaGreatDoor.consoleWrong

namespace Go.Proofs.YtbiedfkmmcaplaaGreatDoor.consoleWrong
theorem laid_4 : ((List.range' 800 104).all (rowFine Tryz.pinned.checked.prog)) = true := by kernel_rfl
end Go.Proofs.YtbiedfkmmcaplaaGreatDoor.consoleWrong
