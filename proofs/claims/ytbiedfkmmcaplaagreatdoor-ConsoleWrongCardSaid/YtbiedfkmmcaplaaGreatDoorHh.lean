/- A closed fact of the row: types laid out. A closed fact of the row: types laid out. -/
import Derived.Test.YtbiedfkmmcaplaaGreatDoorFq
import Derived.Test.YtbiedfkmmcaplaaGreatDoorCards
import Derived.JoinedOf
set_option linter.all false
namespace Go.Proofs.YtbiedfkmmcaplaaGreatDoor.consoleWrong
theorem laid_1 : ((List.range' 200 200).all (rowFine Tryz.pinned.checked.prog)) = true := by kernel_rfl
end Go.Proofs.YtbiedfkmmcaplaaGreatDoor.consoleWrong

namespace Go.Proofs.YtbiedfkmmcaplaaGreatDoor.consoleWrong
theorem laid_2 : ((List.range' 400 200).all (rowFine Tryz.pinned.checked.prog)) = true := by kernel_rfl
end Go.Proofs.YtbiedfkmmcaplaaGreatDoor.consoleWrong
