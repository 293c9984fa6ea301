/- A closed fact of the row. -/
import Derived.Test.YtlnonecibpjcoaaGreatDoorBHa
set_option linter.unusedSimpArgs false
set_option linter.unusedVariables false
set_option linter.unusedSectionVars false
namespace Go.Proofs.YtlnonecibpjcoaaGreatDoor.consoleBack
open Go.Proofs.Tryz
theorem R_named : (Rows.consoleBackRow.named == Tryz.pinned.checked.prog.varsNamed 6) = true := by
  unfold Program.varsNamed
  rw [progR_is, clo6_is]
  kernel_rfl
end Go.Proofs.YtlnonecibpjcoaaGreatDoor.consoleBack
