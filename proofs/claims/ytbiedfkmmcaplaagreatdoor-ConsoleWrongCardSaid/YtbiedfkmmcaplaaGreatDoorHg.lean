/- A closed fact of the row: types laid out. -/
import Derived.Test.YtbiedfkmmcaplaaGreatDoorFq
import Derived.Test.YtbiedfkmmcaplaaGreatDoorCards
import Derived.JoinedOf
set_option linter.all false
namespace Go.Proofs.YtbiedfkmmcaplaaGreatDoor.consoleWrong
theorem laid_0 : ((List.range' 0 200).all (rowFine Tryz.pinned.checked.prog)) = true := by kernel_rfl
theorem laid_g : Tryz.pinned.checked.prog.globals.all (fun g => decide (g.type < 904)) = true := by kernel_rfl
theorem laid_f : Tryz.pinned.checked.prog.funcs.all (fun f => f.params.all fun t => decide (t < 904)) = true := by kernel_rfl
end Go.Proofs.YtbiedfkmmcaplaaGreatDoor.consoleWrong
