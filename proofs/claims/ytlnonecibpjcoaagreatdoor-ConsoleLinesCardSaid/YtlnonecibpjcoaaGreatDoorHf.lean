/- A closed fact of. -/
import Derived.Test.YtlnonecibpjcoaaGreatDoorFq
import Derived.Test.YtlnonecibpjcoaaGreatDoorCards
import Derived.JoinedOf
set_option linter.all false
namespace Go.Proofs.YtlnonecibpjcoaaGreatDoor.consoleTells
theorem F_plain:(Rows.consoleTellsRow.plainKeys== Tryz.pinned.checked.prog.plainKeys)=true:=by kernel_rfl
end Go.Proofs.YtlnonecibpjcoaaGreatDoor.consoleTells
