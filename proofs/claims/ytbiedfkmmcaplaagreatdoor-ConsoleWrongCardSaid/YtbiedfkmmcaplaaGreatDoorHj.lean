/- The closed facts of the row of ConsoleWrong, together. -/
import Derived.Test.YtbiedfkmmcaplaaGreatDoorHa
import Derived.Test.YtbiedfkmmcaplaaGreatDoorHb
import Derived.Test.YtbiedfkmmcaplaaGreatDoorHc
import Derived.Test.YtbiedfkmmcaplaaGreatDoorHd
import Derived.Test.YtbiedfkmmcaplaaGreatDoorHe
import Derived.Test.YtbiedfkmmcaplaaGreatDoorHf
import Derived.Test.YtbiedfkmmcaplaaGreatDoorHg
import Derived.Test.YtbiedfkmmcaplaaGreatDoorHh
import Derived.Test.YtbiedfkmmcaplaaGreatDoorHi
import Derived.JoinedOf
set_option linter.all false
namespace Go.Proofs.YtbiedfkmmcaplaaGreatDoor.consoleWrong
theorem F_laid : laidOutB Tryz.pinned.checked.prog = true := by
  have hs : Tryz.pinned.checked.prog.types.size = 904 := Tryz.types_size
  have hr : List.range 904 = List.range' 0 200 ++ (List.range' 200 200 ++ (List.range' 400 200 ++ (List.range' 600 200 ++ List.range' 800 104))) := by decide +kernel
  unfold laidOutB
  rw [hs, hr]
  simp only [List.all_append, laid_0, laid_1, laid_2, laid_3, laid_4, laid_g, laid_f, Bool.and_self]
theorem F_rec : (Rows.consoleWrongRow.recurses == Tryz.pinned.checked.prog.recurses 3) = true := by
  have h := F_unf
  have e : Rows.consoleWrongRow.unfollowed = true := rfl
  rw [e] at h
  have h2 : Tryz.pinned.checked.prog.unfollowed 3 = true := (beq_iff_eq.1 h).symm
  unfold Program.recurses
  rw [h2]
  rfl
set_option maxRecDepth 100000 in
theorem closed : joinedFacts Tryz.pinned.checked.prog 3 Tryz.f3 Rows.consoleWrongSpec Rows.consoleWrongRow = true := by
  unfold joinedFacts
  simp only [Bool.and_eq_true]
  repeat' apply And.intro
  all_goals first
    | (with_reducible exact F_inPlace)
    | (with_reducible exact F_unf)
    | (with_reducible exact F_rec)
    | (with_reducible exact F_named)
    | (with_reducible exact F_laid)
    | (with_reducible exact F_rowed)
    | (with_reducible exact F_heard)
    | (with_reducible exact F_enter)
    | (with_reducible exact F_plain)
    | kernel_rfl
end Go.Proofs.YtbiedfkmmcaplaaGreatDoor.consoleWrong
