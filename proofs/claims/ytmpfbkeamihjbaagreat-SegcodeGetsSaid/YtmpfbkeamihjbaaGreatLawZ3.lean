/- slices.Clone of runs, of int64 and of bytes; yearbooklaw12.own at this program. -/
import Derived.Test.YtmpfbkeamihjbaaGreatQ1
import Derived.Test.YtmpfbkeamihjbaaGreatAbsM
import Derived.Test.YtmpfbkeamihjbaaGreatQ2
import Derived.Deep.Slices
set_option linter.unusedSimpArgs false
set_option linter.unusedVariables false
/- USE AbsM -/
namespace Go.Proofs.YtmpfbkeamihjbaaGreat
open Go.RowKit
attribute [local go_sem] Oper.semAt_some

def SlR (ys : List Rn) (v : Value) (w : World) : Prop := ∃ A c n, v = .slice A n c ∧ n = ys.length ∧ RR w A c ys
theorem SlR.rr {ys : List Rn} {A : Option Addr} {n c : Nat} {w : World} (h : SlR ys (.slice A n c) w) : n = ys.length ∧ RR w A c ys := by
  obtain ⟨A', c', n', e, h1, h2⟩ := h
  injection e with e1 e2 e3
  subst e1 e2 e3
  exact ⟨h1, h2⟩
end Go.Proofs.YtmpfbkeamihjbaaGreat
