/- The tie of ConsoleWrong' row to the program's text, out of its closed facts (each a text of its own: together they are too great for one). -/
import Derived.Test.YtbiedfkmmcaplaaGreatDoorGa
import Derived.Test.YtbiedfkmmcaplaaGreatDoorGb
import Derived.Test.YtbiedfkmmcaplaaGreatDoorGc
import Derived.Test.YtbiedfkmmcaplaaGreatDoorGd
import Derived.Test.YtbiedfkmmcaplaaGreatDoorGe
import Derived.Test.YtbiedfkmmcaplaaGreatDoorGf
import Derived.Test.YtbiedfkmmcaplaaGreatDoorGg
import Derived.Test.YtbiedfkmmcaplaaGreatDoorGh
set_option linter.all false
namespace Go.Proofs.YtbiedfkmmcaplaaGreatDoor.tied
open Go Go.Proofs.YtbiedfkmmcaplaaGreatDoor
theorem tie7 : Tryz.prog.laidByTextLater laid7 [.data, .sentinel, .sentinel, .data, .data, .data, .data] true :=
  Program.laidByTextLater_by_run 400 8 t_hw t_hw2 t_hroot t_hk t_hg t_hn t_hd t_h1 t_h2 t_hp
theorem tells_tie : Rows.consoleWrongRow.laidByTextAt .later Tryz.pinned [.pinned, .data, .sentinel, .sentinel, .data, .data, .data, .data] true :=
  OpenClaim.laidByTextAt_pinned rfl rfl tie7 rfl rfl rfl rfl (fun y hy _e => by
    simp only [Rows.consoleWrongRow, List.zip_cons_cons, List.zip_nil_right, List.mem_cons, List.mem_nil_iff, or_false] at hy
    rcases hy with rfl | rfl | rfl | rfl | rfl | rfl | rfl | rfl
    · exact ⟨pin_first, by kernel_rfl⟩
    · cases _e
    · cases _e
    · cases _e
    · cases _e
    · cases _e
    · cases _e
    · cases _e) fits1
end Go.Proofs.YtbiedfkmmcaplaaGreatDoor.tied
