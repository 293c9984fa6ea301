/- A closed fact of the row of ConsoleWrong. A closed fact of the row of ConsoleWrong. -/
import Derived.Test.YtbiedfkmmcaplaaGreatDoorFq
import Derived.Test.YtbiedfkmmcaplaaGreatDoorCards
import Derived.JoinedOf
set_option linter.all false
namespace Go.Proofs.YtbiedfkmmcaplaaGreatDoor.consoleWrong
theorem F_heard : (Tryz.pinned.checked.prog.stopsHeard) = true := by kernel_rfl
end Go.Proofs.YtbiedfkmmcaplaaGreatDoor.consoleWrong

namespace Go.Proofs.YtbiedfkmmcaplaaGreatDoor.consoleWrong
theorem F_goes : Tryz.pinned.checked.prog.funcs.any Func.goes = false := by kernel_rfl
end Go.Proofs.YtbiedfkmmcaplaaGreatDoor.consoleWrong
