/- States of the run that are written down. -/
import Derived.Test.YtlnonecibpjcoaaGreatDoorKD
set_option linter.unusedSimpArgs false
set_option linter.unusedVariables false
set_option linter.unusedSectionVars false
namespace Go.Proofs.Tryz
open Go.Proofs.Ex
def told1 : ByteArray := ⟨#[111, 107, 10, 111, 107, 10, 111, 107, 10, 111, 107, 32, 50, 10, 111, 107, 32, 53, 47, 53, 32, 54, 47, 54, 32, 101, 57, 10, 111, 107, 10, 101, 114, 114, 111, 114, 32, 51, 55, 50, 10]⟩
theorem r1_run : outB (.tuple #[.string told1, .int .i64 0, .int .i64 0]) .nil 2066 (runH prog xC3 .nil 0 21 [.string text1] 20000) = true := by kernel_rfl
noncomputable def xC4 : Lk := { xL6 with orx := entF 21 [.string text1] .nil 0 (.tuple #[.string told1, .int .i64 0, .int .i64 0]) .nil 2066 xL6.orx }
end Go.Proofs.Tryz
