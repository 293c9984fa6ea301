/- A closed fact of the row of ConsoleWrong. -/
import Derived.Test.YtbiedfkmmcaplaaGreatDoorFq
import Derived.Test.YtbiedfkmmcaplaaGreatDoorCards
import Derived.JoinedOf
set_option linter.all false
namespace Go.Proofs.YtbiedfkmmcaplaaGreatDoor.consoleWrong
theorem F_plain : (Rows.consoleWrongRow.plainKeys == Tryz.pinned.checked.prog.plainKeys) = true := by kernel_rfl
end Go.Proofs.YtbiedfkmmcaplaaGreatDoor.consoleWrong
