/- A closed fact of the row of ConsoleTells. -/
import Derived.Test.YtlnonecibpjcoaaGreatDoorFq
import Derived.Test.YtlnonecibpjcoaaGreatDoorHa
import Derived.Test.YtlnonecibpjcoaaGreatDoorCards
import Derived.JoinedOf
set_option linter.unusedSimpArgs false
set_option linter.unusedVariables false
set_option linter.unusedSectionVars false
namespace Go.Proofs.YtlnonecibpjcoaaGreatDoor.consoleTells
open Go.Proofs.Tryz
theorem F_named : (Rows.consoleTellsRow.named == Tryz.pinned.checked.prog.varsNamed 3) = true := by
  unfold Program.varsNamed
  rw [prog_is, clo3_is]
  kernel_rfl
end Go.Proofs.YtlnonecibpjcoaaGreatDoor.consoleTells
