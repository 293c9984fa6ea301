/- The closed facts of the row of StoreFormats, together. -/
import Derived.Test.YtncmgfehlgkgdaaGreatDoorFa
import Derived.Test.YtncmgfehlgkgdaaGreatDoorFb
import Derived.Test.YtncmgfehlgkgdaaGreatDoorFc
import Derived.Test.YtncmgfehlgkgdaaGreatDoorFd
import Derived.Test.YtncmgfehlgkgdaaGreatDoorFe
import Derived.Test.YtncmgfehlgkgdaaGreatDoorFf
import Derived.Test.YtncmgfehlgkgdaaGreatDoorFh
import Derived.Test.YtncmgfehlgkgdaaGreatDoorFg
import Derived.JoinedOf
set_option linter.unusedSimpArgs false
set_option linter.unusedVariables false
set_option linter.unusedSectionVars false
namespace Go.Proofs.YtncmgfehlgkgdaaGreatDoor.storeFormats
set_option maxRecDepth 100000 in
theorem closed : joinedFacts Tryz.pinned.checked.prog 4 Tryz.f4 Rows.storeFormatsSpec Rows.storeFormatsRow = true := by
  unfold joinedFacts
  simp only [Bool.and_eq_true]
  repeat' apply And.intro
  all_goals first
    | (with_reducible exact F_inPlace)
    | (with_reducible exact F_unf)
    | (with_reducible exact F_rec)
    | (with_reducible exact F_named)
    | (with_reducible exact F_laid)
    | (with_reducible exact F_rowed)
    | (with_reducible exact F_heard)
    | (with_reducible exact F_enter)
    | (with_reducible exact F_plain)
    | kernel_rfl
end Go.Proofs.YtncmgfehlgkgdaaGreatDoor.storeFormats
