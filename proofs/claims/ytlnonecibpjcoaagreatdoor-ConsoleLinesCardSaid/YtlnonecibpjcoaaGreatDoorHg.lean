/- A closed fact of. -/
import Derived.Test.YtlnonecibpjcoaaGreatDoorFq
import Derived.Test.YtlnonecibpjcoaaGreatDoorCards
import Derived.JoinedOf
set_option linter.all false
namespace Go.Proofs.YtlnonecibpjcoaaGreatDoor.consoleTells
theorem aM:((List.range' 0 200).all (rowFine Tryz.pinned.checked.prog))=true:=by kernel_rfl
theorem aN:Tryz.pinned.checked.prog.globals.all (fun g=>decide (g.type<917))=true:=by kernel_rfl
theorem aO:Tryz.pinned.checked.prog.funcs.all (fun f=>f.params.all fun t=>decide (t<917))=true:=by kernel_rfl
end Go.Proofs.YtlnonecibpjcoaaGreatDoor.consoleTells
