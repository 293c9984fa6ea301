/- A closed fact of the tie of the laid variables. -/
import Derived.Test.YtbiedfkmmcaplaaGreatDoorGa
set_option linter.all false
namespace Go.Proofs.YtbiedfkmmcaplaaGreatDoor.tied
open Go Go.Proofs.YtbiedfkmmcaplaaGreatDoor
theorem t_hd : ∀ os tape, varsDone Tryz.prog 400 (varsId Tryz.prog) os tape = true := fun _ _ => by kernel_rfl
end Go.Proofs.YtbiedfkmmcaplaaGreatDoor.tied
