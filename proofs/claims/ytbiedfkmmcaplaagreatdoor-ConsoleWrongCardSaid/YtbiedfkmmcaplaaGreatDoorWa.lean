/- A world in which the listed variables are laid, and an input (for the witness). A fact of the witness. A fact of the witness. A fact of the witness. A fact of the witness. -/
import Derived.Test.YtbiedfkmmcaplaaGreatDoorFq
import Derived.Test.YtbiedfkmmcaplaaGreatDoorCards
import Derived.LaidLaws
set_option linter.all false
namespace Go.Proofs.YtbiedfkmmcaplaaGreatDoor.consoleWrong
open Go Go.Proofs.YtbiedfkmmcaplaaGreatDoor
abbrev tA : Array Value := #[.int .i64 0, .slice none 0 0, .string ⟨#[]⟩, .string ⟨#[]⟩]
noncomputable def tB (os : Os) : World := { World.doorLaid Tryz.prog 400 os with heap := (World.doorLaid Tryz.prog 400 os).heap.setIfInBounds 1 (.cells (Pinned.utf8FirstZ.map fun (z : Nat) => Value.int .u8 (z : Int)).toArray 442 (0, 0)) }
noncomputable abbrev tW (os : Os) : World := (tB os).forCall (fun _ _ => 0) ⟨#[], tA, []⟩
end Go.Proofs.YtbiedfkmmcaplaaGreatDoor.consoleWrong

namespace Go.Proofs.YtbiedfkmmcaplaaGreatDoor.consoleWrong
open Go Go.Proofs.YtbiedfkmmcaplaaGreatDoor
theorem w_e (os : Os) : Input.okWideB Tryz.checked.prog (tW os) 3 ⟨#[], tA, []⟩ = true := by kernel_rfl
end Go.Proofs.YtbiedfkmmcaplaaGreatDoor.consoleWrong

namespace Go.Proofs.YtbiedfkmmcaplaaGreatDoor.consoleWrong
open Go Go.Proofs.YtbiedfkmmcaplaaGreatDoor
theorem w_f {H : Type} {enc : TypeId × Value → H} (os : Os) : Rows.consoleWrongSpec.preB enc Tryz.checked.prog Tryz.f3 [] false (tW os).memory tA 8 = true := by kernel_rfl
end Go.Proofs.YtbiedfkmmcaplaaGreatDoor.consoleWrong

namespace Go.Proofs.YtbiedfkmmcaplaaGreatDoor.consoleWrong
open Go Go.Proofs.YtbiedfkmmcaplaaGreatDoor
theorem w_g {H : Type} {enc : TypeId × Value → H} (os : Os) : Rows.consoleWrongSpec.sizedB enc Tryz.checked.prog Tryz.f3 false (tW os).memory tA 8 = true := by kernel_rfl
end Go.Proofs.YtbiedfkmmcaplaaGreatDoor.consoleWrong

namespace Go.Proofs.YtbiedfkmmcaplaaGreatDoor.consoleWrong
open Go Go.Proofs.YtbiedfkmmcaplaaGreatDoor
theorem w_a (os : Os) : (DataW.laidRun Tryz.prog (tW os).memory 8 (laid8.map (·.1))).map (·.1) = some laid8 := by kernel_rfl
end Go.Proofs.YtbiedfkmmcaplaaGreatDoor.consoleWrong
