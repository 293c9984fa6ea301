/- Closed facts of the row of ConsoleWrong, out of the table. A closed fact of the row of ConsoleWrong. -/
import Derived.Test.YtbiedfkmmcaplaaGreatDoorFq
import Derived.Test.YtbiedfkmmcaplaaGreatDoorFt
import Derived.Test.YtbiedfkmmcaplaaGreatDoorCards
import Derived.JoinedOf
set_option linter.all false
namespace Go.Proofs.YtbiedfkmmcaplaaGreatDoor.consoleWrong
open Go.Proofs.Tryz
theorem prog_is : Tryz.pinned.checked.prog = Tryz.prog := rfl
theorem F_inPlace : (Rows.consoleWrongRow.inPlace == Tryz.pinned.checked.prog.inPlace 3) = true := by
  unfold Program.inPlace
  rw [prog_is, clo3_is]
  kernel_rfl
end Go.Proofs.YtbiedfkmmcaplaaGreatDoor.consoleWrong

namespace Go.Proofs.YtbiedfkmmcaplaaGreatDoor.consoleWrong
open Go.Proofs.Tryz
theorem F_unf : (Rows.consoleWrongRow.unfollowed == Tryz.pinned.checked.prog.unfollowed 3) = true := by
  unfold Program.unfollowed
  rw [prog_is, clo3_is]
  kernel_rfl
end Go.Proofs.YtbiedfkmmcaplaaGreatDoor.consoleWrong
