/- A closed fact of the row of StoreFormats: the types are laid out. -/
import Derived.Test.YtncmgfehlgkgdaaGreatDoorFR
import Derived.Test.YtncmgfehlgkgdaaGreatDoorCards
import Derived.JoinedOf
set_option linter.unusedSimpArgs false
set_option linter.unusedVariables false
set_option linter.unusedSectionVars false
namespace Go.Proofs.YtncmgfehlgkgdaaGreatDoor.storeFormats
theorem laid_a : ((List.range' 0 200).all (rowFine Tryz.pinned.checked.prog)) = true := by kernel_rfl
theorem laid_b : ((List.range' 200 200).all (rowFine Tryz.pinned.checked.prog)) = true := by kernel_rfl
theorem laid_c : ((List.range' 400 200).all (rowFine Tryz.pinned.checked.prog)) = true := by kernel_rfl
theorem laid_d : ((List.range' 600 212).all (rowFine Tryz.pinned.checked.prog)) = true := by kernel_rfl
theorem laid_g : Tryz.pinned.checked.prog.globals.all (fun g => decide (g.type < 812)) = true := by kernel_rfl
theorem laid_f : Tryz.pinned.checked.prog.funcs.all (fun f => f.params.all fun t => decide (t < 812)) = true := by kernel_rfl
theorem F_laid : laidOutB Tryz.pinned.checked.prog = true := by
  have hs : Tryz.pinned.checked.prog.types.size = 812 := Tryz.types_size
  have hr : List.range 812 = List.range' 0 200 ++ (List.range' 200 200 ++ (List.range' 400 200 ++ List.range' 600 212)) := by decide +kernel
  unfold laidOutB
  rw [hs, hr]
  simp only [List.all_append, laid_a, laid_b, laid_c, laid_d, laid_g, laid_f, Bool.and_self]
end Go.Proofs.YtncmgfehlgkgdaaGreatDoor.storeFormats
