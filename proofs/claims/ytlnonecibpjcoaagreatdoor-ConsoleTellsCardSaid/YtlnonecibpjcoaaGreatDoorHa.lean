/- Closed facts of the row of ConsoleTells, out of the table. A closed fact of the row of ConsoleTells. -/
import Derived.Test.YtlnonecibpjcoaaGreatDoorFq
import Derived.Test.YtlnonecibpjcoaaGreatDoorFt
import Derived.Test.YtlnonecibpjcoaaGreatDoorCards
import Derived.JoinedOf
set_option linter.unusedSimpArgs false
set_option linter.unusedVariables false
set_option linter.unusedSectionVars false
namespace Go.Proofs.YtlnonecibpjcoaaGreatDoor.consoleTells
open Go.Proofs.Tryz
theorem prog_is : Tryz.pinned.checked.prog = Tryz.prog := rfl
theorem F_inPlace : (Rows.consoleTellsRow.inPlace == Tryz.pinned.checked.prog.inPlace 3) = true := by
  unfold Program.inPlace
  rw [prog_is, clo3_is]
  kernel_rfl
end Go.Proofs.YtlnonecibpjcoaaGreatDoor.consoleTells

namespace Go.Proofs.YtlnonecibpjcoaaGreatDoor.consoleTells
open Go.Proofs.Tryz
theorem F_unf : (Rows.consoleTellsRow.unfollowed == Tryz.pinned.checked.prog.unfollowed 3) = true := by
  unfold Program.unfollowed
  rw [prog_is, clo3_is]
  kernel_rfl
end Go.Proofs.YtlnonecibpjcoaaGreatDoor.consoleTells
