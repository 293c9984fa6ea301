/- A closed fact of the tie of the laid variables. -/
import Derived.Test.YtbiedfkmmcaplaaGreatDoorGa
set_option linter.all false
namespace Go.Proofs.YtbiedfkmmcaplaaGreatDoor.tied
open Go Go.Proofs.YtbiedfkmmcaplaaGreatDoor
theorem t_h1 : ∀ os tape, (DataW.laidRun Tryz.prog (varsWorld Tryz.prog 400 (varsId Tryz.prog) os tape).memory 8 (laid7.map (·.1))).map (·.1) = some laid7 := fun _ _ => by kernel_rfl
end Go.Proofs.YtbiedfkmmcaplaaGreatDoor.tied
