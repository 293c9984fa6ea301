/- The tie of ConsoleTells' row to the program's text, out of its closed facts (each a text of its own: together they are too great for one). -/
import Derived.Test.YtlnonecibpjcoaaGreatDoorGa
import Derived.Test.YtlnonecibpjcoaaGreatDoorGb
import Derived.Test.YtlnonecibpjcoaaGreatDoorGc
import Derived.Test.YtlnonecibpjcoaaGreatDoorGd
import Derived.Test.YtlnonecibpjcoaaGreatDoorGe
import Derived.Test.YtlnonecibpjcoaaGreatDoorGf
import Derived.Test.YtlnonecibpjcoaaGreatDoorGg
import Derived.Test.YtlnonecibpjcoaaGreatDoorGh
set_option linter.unusedSimpArgs false
set_option linter.unusedVariables false
set_option linter.unusedSectionVars false
namespace Go.Proofs.YtlnonecibpjcoaaGreatDoor.tied
open Go Go.Proofs.YtlnonecibpjcoaaGreatDoor
theorem tie7 : Tryz.prog.laidByTextLater laid7 [.data, .sentinel, .sentinel, .data, .data, .data, .data] true :=
  Program.laidByTextLater_by_run 400 8 t_hw t_hw2 t_hroot t_hk t_hg t_hn t_hd t_h1 t_h2 t_hp
theorem tells_tie : Rows.consoleTellsRow.laidByTextAt .later Tryz.pinned [.pinned, .data, .sentinel, .sentinel, .data, .data, .data, .data] true :=
  OpenClaim.laidByTextAt_pinned rfl rfl tie7 rfl rfl rfl rfl (fun y hy _e => by
    simp only [Rows.consoleTellsRow, List.zip_cons_cons, List.zip_nil_right, List.mem_cons, List.mem_nil_iff, or_false] at hy
    rcases hy with rfl | rfl | rfl | rfl | rfl | rfl | rfl | rfl
    · exact ⟨pin_first, by kernel_rfl⟩
    · cases _e
    · cases _e
    · cases _e
    · cases _e
    · cases _e
    · cases _e
    · cases _e) fits1
end Go.Proofs.YtlnonecibpjcoaaGreatDoor.tied
