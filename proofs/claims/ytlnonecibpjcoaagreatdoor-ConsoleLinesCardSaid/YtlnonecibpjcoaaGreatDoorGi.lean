/- The tie of Conso. -/
import Derived.Test.YtlnonecibpjcoaaGreatDoorGb
import Derived.Test.YtlnonecibpjcoaaGreatDoorGc
import Derived.Test.YtlnonecibpjcoaaGreatDoorGd
import Derived.Test.YtlnonecibpjcoaaGreatDoorGe
import Derived.Test.YtlnonecibpjcoaaGreatDoorGf
import Derived.Test.YtlnonecibpjcoaaGreatDoorGg
import Derived.Test.YtlnonecibpjcoaaGreatDoorGh
set_option linter.all false
namespace Go.Proofs.YtlnonecibpjcoaaGreatDoor.tied
open Go Go.Proofs.YtlnonecibpjcoaaGreatDoor
theorem tie7:Tryz.prog.laidByTextLater IR [.data,.sentinel,.sentinel,.data,.data,.data,.data] true :=
 Program.laidByTextLater_by_run 400 8 Z2 Z3 Z4 ZZ Z5 Z6 Z7 Z8 Z9 Z1
end Go.Proofs.YtlnonecibpjcoaaGreatDoor.tied
