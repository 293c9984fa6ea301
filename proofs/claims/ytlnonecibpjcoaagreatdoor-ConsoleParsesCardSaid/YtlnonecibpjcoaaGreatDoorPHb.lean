/- A closed fact of the row. -/
import Derived.Test.YtlnonecibpjcoaaGreatDoorPHa
set_option linter.unusedSimpArgs false
set_option linter.unusedVariables false
set_option linter.unusedSectionVars false
namespace Go.Proofs.YtlnonecibpjcoaaGreatDoor.consoleParses
open Go.Proofs.Tryz
theorem R_named : (Rows.consoleParsesRow.named == Tryz.pinned.checked.prog.varsNamed 4) = true := by
  unfold Program.varsNamed
  rw [progR_is, clo4_is]
  kernel_rfl
end Go.Proofs.YtlnonecibpjcoaaGreatDoor.consoleParses
