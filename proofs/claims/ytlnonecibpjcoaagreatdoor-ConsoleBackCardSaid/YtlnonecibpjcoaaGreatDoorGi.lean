/- The tie of ConsoleTells' row to the program's text, out of its closed facts (each a text of its own: together they are too great for one). -/
import Derived.Test.YtlnonecibpjcoaaGreatDoorGa
import Derived.Test.YtlnonecibpjcoaaGreatDoorGb
import Derived.Test.YtlnonecibpjcoaaGreatDoorGc
import Derived.Test.YtlnonecibpjcoaaGreatDoorGd
import Derived.Test.YtlnonecibpjcoaaGreatDoorGe
import Derived.Test.YtlnonecibpjcoaaGreatDoorGf
import Derived.Test.YtlnonecibpjcoaaGreatDoorGg
import Derived.Test.YtlnonecibpjcoaaGreatDoorGh
set_option linter.unusedSimpArgs false
set_option linter.unusedVariables false
set_option linter.unusedSectionVars false
namespace Go.Proofs.YtlnonecibpjcoaaGreatDoor.tied
open Go Go.Proofs.YtlnonecibpjcoaaGreatDoor
theorem tie7 : Tryz.prog.laidByTextLater laid7 [.data, .sentinel, .sentinel, .data, .data, .data, .data] true :=
  Program.laidByTextLater_by_run 400 8 t_hw t_hw2 t_hroot t_hk t_hg t_hn t_hd t_h1 t_h2 t_hp
end Go.Proofs.YtlnonecibpjcoaaGreatDoor.tied
