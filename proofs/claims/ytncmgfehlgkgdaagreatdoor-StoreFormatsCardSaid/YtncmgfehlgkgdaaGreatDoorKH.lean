/- StoreFormats, where the number of pages may be: the run's end. -/
import Derived.Test.YtncmgfehlgkgdaaGreatDoorKG
set_option linter.unusedSimpArgs false
set_option linter.unusedVariables false
set_option linter.unusedSectionVars false
namespace Go.Proofs.Tryz
open Go.Proofs.Ex
variable [Sg]
theorem g2_run : outB (.bool true) .nil 613 (backA gL (arun prog gL 20000 g1S)) = true := by kernel_rfl
theorem g_enter : enterA gL .nil 0 4 [aI 0] false = some g0S := by kernel_rfl
end Go.Proofs.Tryz
