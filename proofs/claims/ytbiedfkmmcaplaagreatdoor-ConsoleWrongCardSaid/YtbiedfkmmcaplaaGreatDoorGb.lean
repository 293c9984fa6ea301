/- A closed fact of the tie of the laid variables. A closed fact of the tie of the laid variables. -/
import Derived.Test.YtbiedfkmmcaplaaGreatDoorGa
set_option linter.all false
namespace Go.Proofs.YtbiedfkmmcaplaaGreatDoor.tied
open Go Go.Proofs.YtbiedfkmmcaplaaGreatDoor
theorem t_hw2 : Tryz.prog.worded (varsWordLater !true) = false := by kernel_rfl
end Go.Proofs.YtbiedfkmmcaplaaGreatDoor.tied

namespace Go.Proofs.YtbiedfkmmcaplaaGreatDoor.tied
open Go Go.Proofs.YtbiedfkmmcaplaaGreatDoor
theorem t_hroot : Tryz.prog.worded rootWordLater = true := by kernel_rfl
end Go.Proofs.YtbiedfkmmcaplaaGreatDoor.tied
