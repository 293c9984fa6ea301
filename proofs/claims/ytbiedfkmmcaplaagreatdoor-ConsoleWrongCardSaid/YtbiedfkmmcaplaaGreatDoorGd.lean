/- A closed fact of the tie of the laid variables. -/
import Derived.Test.YtbiedfkmmcaplaaGreatDoorGa
set_option linter.all false
namespace Go.Proofs.YtbiedfkmmcaplaaGreatDoor.tied
open Go Go.Proofs.YtbiedfkmmcaplaaGreatDoor
theorem t_hn : varsNamedLaterB Tryz.prog (varsId Tryz.prog) laid7 = true := by kernel_rfl
end Go.Proofs.YtbiedfkmmcaplaaGreatDoor.tied
