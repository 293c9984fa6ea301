/- A world in which. -/
import Derived.Test.YtlnonecibpjcoaaGreatDoorFq
import Derived.Test.YtlnonecibpjcoaaGreatDoorCards
import Derived.LaidLaws
set_option linter.all false
namespace Go.Proofs.YtlnonecibpjcoaaGreatDoor.consoleLines
open Go Go.Proofs.YtlnonecibpjcoaaGreatDoor
abbrev tA:Array Value:=#[.agg #[.int .i64 0,.int .i64 0,.int .i64 0,.string ⟨#[]⟩,.int .i64 0,.int .i64 0,.int .i64 0,.slice none 0 0,.int .i64 0,.string ⟨#[]⟩,.int .i64 0,.int .i64 0,.int .i64 0,.int .i64 0,.string ⟨#[]⟩,.int .i64 0,.int .u64 0,.int .i64 0,.slice none 0 0],.agg #[.int .i64 0,.int .i64 0,.int .i64 0,.string ⟨#[]⟩,.int .i64 0,.int .i64 0,.int .i64 0,.slice none 0 0,.int .i64 0,.string ⟨#[]⟩,.int .i64 0,.int .i64 0,.int .i64 0,.int .i64 0,.string ⟨#[]⟩,.int .i64 0,.int .u64 0,.int .i64 0,.slice none 0 0]]
noncomputable def tB (os:Os):World:={ World.doorLaid Tryz.prog 400 os with heap:=(World.doorLaid Tryz.prog 400 os).heap.setIfInBounds 2 (.cells (Pinned.utf8FirstZ.map fun (z:Nat)=>Value.int .u8 (z:Int)).toArray 460 (0,0)) }
noncomputable abbrev tW (os:Os):World:=(tB os).forCall (fun _ _=>0) ⟨#[],tA,[]⟩
end Go.Proofs.YtlnonecibpjcoaaGreatDoor.consoleLines
namespace Go.Proofs.YtlnonecibpjcoaaGreatDoor.consoleLines
open Go Go.Proofs.YtlnonecibpjcoaaGreatDoor
theorem w_a (os:Os):(DataW.laidRun Tryz.prog (tW os).memory 8 (FU.map (·.1))).map (·.1)=some FU:=by kernel_rfl
end Go.Proofs.YtlnonecibpjcoaaGreatDoor.consoleLines
namespace Go.Proofs.YtlnonecibpjcoaaGreatDoor.consoleLines
open Go Go.Proofs.YtlnonecibpjcoaaGreatDoor
theorem w_e (os:Os):Input.okWideB Tryz.checked.prog (tW os) 5 ⟨#[],tA,[]⟩=true:=by kernel_rfl
theorem w_f {H:Type} {enc:TypeId×Value->H} (os:Os):Rows.consoleLinesSpec.preB enc Tryz.checked.prog Tryz.f5 [] false (tW os).memory tA 8=true:=by kernel_rfl
theorem w_g {H:Type} {enc:TypeId×Value->H} (os:Os):Rows.consoleLinesSpec.sizedB enc Tryz.checked.prog Tryz.f5 false (tW os).memory tA 8=true:=by kernel_rfl
end Go.Proofs.YtlnonecibpjcoaaGreatDoor.consoleLines
