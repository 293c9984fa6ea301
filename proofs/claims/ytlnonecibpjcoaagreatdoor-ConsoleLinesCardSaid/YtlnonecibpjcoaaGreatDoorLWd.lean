/- A fact of the wi. -/
import Derived.Test.YtlnonecibpjcoaaGreatDoorLWa
import Derived.LaidLaws
set_option linter.all false
namespace Go.Proofs.YtlnonecibpjcoaaGreatDoor.consoleLines
open Go Go.Proofs.YtlnonecibpjcoaaGreatDoor
theorem w_d (os:Os):((tW os).heap.toList.drop Tryz.prog.globals.size).take ((begin Tryz.prog (fun _ _=>0) default).world.heap.size-Tryz.prog.globals.size)=(begin Tryz.prog (fun _ _=>0) default).world.heap.toList.drop Tryz.prog.globals.size:=by kernel_rfl
end Go.Proofs.YtlnonecibpjcoaaGreatDoor.consoleLines
