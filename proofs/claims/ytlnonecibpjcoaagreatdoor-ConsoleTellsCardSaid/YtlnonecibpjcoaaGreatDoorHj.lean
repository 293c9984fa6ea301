/- The closed facts of the row of ConsoleTells, together. -/
import Derived.Test.YtlnonecibpjcoaaGreatDoorHa
import Derived.Test.YtlnonecibpjcoaaGreatDoorHb
import Derived.Test.YtlnonecibpjcoaaGreatDoorHc
import Derived.Test.YtlnonecibpjcoaaGreatDoorHd
import Derived.Test.YtlnonecibpjcoaaGreatDoorHe
import Derived.Test.YtlnonecibpjcoaaGreatDoorHf
import Derived.Test.YtlnonecibpjcoaaGreatDoorHg
import Derived.Test.YtlnonecibpjcoaaGreatDoorHh
import Derived.Test.YtlnonecibpjcoaaGreatDoorHi
import Derived.JoinedOf
set_option linter.unusedSimpArgs false
set_option linter.unusedVariables false
set_option linter.unusedSectionVars false
namespace Go.Proofs.YtlnonecibpjcoaaGreatDoor.consoleTells
theorem F_laid : laidOutB Tryz.pinned.checked.prog = true := by
  have hs : Tryz.pinned.checked.prog.types.size = 917 := Tryz.types_size
  have hr : List.range 917 = List.range' 0 200 ++ (List.range' 200 200 ++ (List.range' 400 200 ++ (List.range' 600 200 ++ List.range' 800 117))) := by decide +kernel
  unfold laidOutB
  rw [hs, hr]
  simp only [List.all_append, laid_0, laid_1, laid_2, laid_3, laid_4, laid_g, laid_f, Bool.and_self]
theorem F_rec : (Rows.consoleTellsRow.recurses == Tryz.pinned.checked.prog.recurses 3) = true := by
  have h := F_unf
  have e : Rows.consoleTellsRow.unfollowed = true := rfl
  rw [e] at h
  have h2 : Tryz.pinned.checked.prog.unfollowed 3 = true := (beq_iff_eq.1 h).symm
  unfold Program.recurses
  rw [h2]
  rfl
set_option maxRecDepth 100000 in
theorem closed : joinedFacts Tryz.pinned.checked.prog 3 Tryz.f3 Rows.consoleTellsSpec Rows.consoleTellsRow = true := by
  unfold joinedFacts
  simp only [Bool.and_eq_true]
  repeat' apply And.intro
  all_goals first
    | (with_reducible exact F_inPlace)
    | (with_reducible exact F_unf)
    | (with_reducible exact F_rec)
    | (with_reducible exact F_named)
    | (with_reducible exact F_laid)
    | (with_reducible exact F_rowed)
    | (with_reducible exact F_heard)
    | (with_reducible exact F_enter)
    | (with_reducible exact F_plain)
    | kernel_rfl
end Go.Proofs.YtlnonecibpjcoaaGreatDoor.consoleTells
