/- The closed facts. -/
import Derived.Test.YtlnonecibpjcoaaGreatDoorFt
import Derived.Test.YtlnonecibpjcoaaGreatDoorCards
import Derived.JoinedOf
import Derived.Test.YtlnonecibpjcoaaGreatDoorHc
import Derived.Test.YtlnonecibpjcoaaGreatDoorHd
import Derived.Test.YtlnonecibpjcoaaGreatDoorHe
import Derived.Test.YtlnonecibpjcoaaGreatDoorHf
import Derived.Test.YtlnonecibpjcoaaGreatDoorHg
import Derived.Test.YtlnonecibpjcoaaGreatDoorHh
import Derived.Test.YtlnonecibpjcoaaGreatDoorHi
set_option linter.all false
namespace Go.Proofs.YtlnonecibpjcoaaGreatDoor.consoleTells
theorem F_laid:laidOutB Tryz.pinned.checked.prog=true:=by
 have hs:Tryz.pinned.checked.prog.types.size=917:=Tryz.types_size
 have hr:List.range 917=List.range' 0 200++(List.range' 200 200++(List.range' 400 200++(List.range' 600 200++List.range' 800 117))):=by decide+kernel
 unfold laidOutB
 rw [hs,hr]
 simp only [List.all_append,aM,aP,aQ,aR,aS,aN,aO,Bool.and_self]
end Go.Proofs.YtlnonecibpjcoaaGreatDoor.consoleTells
