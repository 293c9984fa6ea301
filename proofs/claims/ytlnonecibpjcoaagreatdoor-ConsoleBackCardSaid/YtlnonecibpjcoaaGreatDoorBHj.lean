/- The closed facts of the row, together. -/
import Derived.Test.YtlnonecibpjcoaaGreatDoorHj
import Derived.Test.YtlnonecibpjcoaaGreatDoorBHa
import Derived.Test.YtlnonecibpjcoaaGreatDoorBHb
import Derived.JoinedOf
set_option linter.unusedSimpArgs false
set_option linter.unusedVariables false
set_option linter.unusedSectionVars false
namespace Go.Proofs.YtlnonecibpjcoaaGreatDoor.consoleBack
open Go.Proofs.YtlnonecibpjcoaaGreatDoor
theorem R_rec : (Rows.consoleBackRow.recurses == Tryz.pinned.checked.prog.recurses 6) = true := by
  have h := R_unf
  have e : Rows.consoleBackRow.unfollowed = true := rfl
  rw [e] at h
  have h2 : Tryz.pinned.checked.prog.unfollowed 6 = true := (beq_iff_eq.1 h).symm
  unfold Program.recurses
  rw [h2]
  rfl
theorem R_plain : (Rows.consoleBackRow.plainKeys == Tryz.pinned.checked.prog.plainKeys) = true := consoleTells.F_plain
set_option maxRecDepth 100000 in
theorem closedR : joinedFacts Tryz.pinned.checked.prog 6 Tryz.f6 Rows.consoleBackSpec Rows.consoleBackRow = true := by
  unfold joinedFacts
  simp only [Bool.and_eq_true]
  repeat' apply And.intro
  all_goals first
    | (with_reducible exact R_inPlace)
    | (with_reducible exact R_unf)
    | (with_reducible exact R_rec)
    | (with_reducible exact R_named)
    | (with_reducible exact consoleTells.F_laid)
    | (with_reducible exact consoleTells.F_rowed)
    | (with_reducible exact consoleTells.F_heard)
    | (with_reducible exact consoleTells.F_enter)
    | (with_reducible exact R_plain)
    | kernel_rfl
end Go.Proofs.YtlnonecibpjcoaaGreatDoor.consoleBack
