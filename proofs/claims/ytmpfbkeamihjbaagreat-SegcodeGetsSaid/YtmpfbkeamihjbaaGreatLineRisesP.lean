/- LineRises (yearbooklaw05): the plain law of a line that rises or falls, and the walk for all lines and times. -/
import Derived.Test.YtmpfbkeamihjbaaGreatEnds2
set_option linter.unusedSimpArgs false
set_option linter.unusedVariables false
namespace Go.Proofs.YtmpfbkeamihjbaaGreat
open Go.RowKit

theorem lnQ_up {A R N D s s' : Int} (hD : 1 ≤ D) (hN : 0 ≤ N) (h : s ≤ s') : lnQ A R N D s ≤ lnQ A R N D s' := by
  unfold lnQ
  have k1 : N * s ≤ N * s' := Int.mul_le_mul_of_nonneg_left h hN
  have k2 : (N * s + R) / D ≤ (N * s' + R) / D := Int.ediv_le_ediv (by omega) (by omega)
  omega
theorem lnQ_down {A R N D s s' : Int} (hD : 1 ≤ D) (hN : N ≤ 0) (h : s ≤ s') : lnQ A R N D s' ≤ lnQ A R N D s := by
  unfold lnQ
  have k1 : N * s' ≤ N * s := Int.mul_le_mul_of_nonpos_left hN h
  have k2 : (N * s' + R) / D ≤ (N * s + R) / D := Int.ediv_le_ediv (by omega) (by omega)
  omega

end Go.Proofs.YtmpfbkeamihjbaaGreat
