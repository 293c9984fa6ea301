/- A closed fact of. -/
import Derived.Test.YtlnonecibpjcoaaGreatDoorLHa
set_option linter.all false
namespace Go.Proofs.YtlnonecibpjcoaaGreatDoor.consoleLines
open Go.Proofs.Tryz
theorem aV:(Rows.consoleLinesRow.named== Tryz.pinned.checked.prog.varsNamed 5)=true:=by
 unfold Program.varsNamed
 rw [PB,O9]
 kernel_rfl
end Go.Proofs.YtlnonecibpjcoaaGreatDoor.consoleLines
