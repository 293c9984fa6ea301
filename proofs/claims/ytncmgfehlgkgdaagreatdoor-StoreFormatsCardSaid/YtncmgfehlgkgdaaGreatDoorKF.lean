/- States of the run that are written down. -/
import Derived.Test.YtncmgfehlgkgdaaGreatDoorKE
set_option linter.unusedSimpArgs false
set_option linter.unusedVariables false
set_option linter.unusedSectionVars false
namespace Go.Proofs.Tryz
open Go.Proofs.Ex
variable [Sg]
theorem w0_enter : enterA xL2 .nil 0 5 [] false = some w0S := by kernel_rfl
theorem w2_run : outB (.bool true) .nil 1624 (backA xL2 (arun prog xL2 20000 w1S)) = true := by kernel_rfl
theorem wakes_known (hm : prog.follows .mixedOrders = true) (hL : LkOK prog xL) : XrOK prog 5 [] .nil 0 (.bool true) .nil 1624 :=
  .of (xL2_ok hm hL) (arun_good hm (xL2_ok hm hL) 20000) w0_enter (outT_sound (arunS_good hm (xL1_ok hm hL) 5 700 20000) w1_run) w2_run

end Go.Proofs.Tryz
