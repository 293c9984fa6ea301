/- A closed fact of the tie of the laid variables. -/
import Derived.Test.YtlnonecibpjcoaaGreatDoorGa
set_option linter.unusedSimpArgs false
set_option linter.unusedVariables false
set_option linter.unusedSectionVars false
namespace Go.Proofs.YtlnonecibpjcoaaGreatDoor.tied
open Go Go.Proofs.YtlnonecibpjcoaaGreatDoor
theorem t_h1 : ∀ os tape, (DataW.laidRun Tryz.prog (varsWorld Tryz.prog 400 (varsId Tryz.prog) os tape).memory 8 (laid7.map (·.1))).map (·.1) = some laid7 := fun _ _ => by kernel_rfl
end Go.Proofs.YtlnonecibpjcoaaGreatDoor.tied
