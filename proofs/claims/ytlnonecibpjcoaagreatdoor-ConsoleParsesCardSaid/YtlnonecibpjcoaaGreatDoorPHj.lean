/- The closed facts of the row, together. -/
import Derived.Test.YtlnonecibpjcoaaGreatDoorHj
import Derived.Test.YtlnonecibpjcoaaGreatDoorPHa
import Derived.Test.YtlnonecibpjcoaaGreatDoorPHb
import Derived.JoinedOf
set_option linter.unusedSimpArgs false
set_option linter.unusedVariables false
set_option linter.unusedSectionVars false
namespace Go.Proofs.YtlnonecibpjcoaaGreatDoor.consoleParses
open Go.Proofs.YtlnonecibpjcoaaGreatDoor
theorem R_rec : (Rows.consoleParsesRow.recurses == Tryz.pinned.checked.prog.recurses 4) = true := by
  have h := R_unf
  have e : Rows.consoleParsesRow.unfollowed = true := rfl
  rw [e] at h
  have h2 : Tryz.pinned.checked.prog.unfollowed 4 = true := (beq_iff_eq.1 h).symm
  unfold Program.recurses
  rw [h2]
  rfl
theorem R_plain : (Rows.consoleParsesRow.plainKeys == Tryz.pinned.checked.prog.plainKeys) = true := consoleTells.F_plain
set_option maxRecDepth 100000 in
theorem closedR : joinedFacts Tryz.pinned.checked.prog 4 Tryz.f4 Rows.consoleParsesSpec Rows.consoleParsesRow = true := by
  unfold joinedFacts
  simp only [Bool.and_eq_true]
  repeat' apply And.intro
  all_goals first
    | (with_reducible exact R_inPlace)
    | (with_reducible exact R_unf)
    | (with_reducible exact R_rec)
    | (with_reducible exact R_named)
    | (with_reducible exact consoleTells.F_laid)
    | (with_reducible exact consoleTells.F_rowed)
    | (with_reducible exact consoleTells.F_heard)
    | (with_reducible exact consoleTells.F_enter)
    | (with_reducible exact R_plain)
    | kernel_rfl
end Go.Proofs.YtlnonecibpjcoaaGreatDoor.consoleParses
