/- slices.Equal of runs and of int64, seg.Same, of whatever two; bytes.HasPrefix at this program. -/
import Derived.Test.YtmpfbkeamihjbaaGreatLawB1
import Derived.Test.YtmpfbkeamihjbaaGreatQ2
set_option linter.unusedSimpArgs false
set_option linter.unusedVariables false
namespace Go.Proofs.YtmpfbkeamihjbaaGreat
open Go.RowKit
attribute [local go_sem] Oper.semAt_some

theorem run_eql3 (a b c a' b' c' : Int) (w : World) : (binOp .neq 46 (.agg #[.int .i64 a, .int .i64 b, .int .i64 c]) (.agg #[.int .i64 a', .int .i64 b', .int .i64 c'])).run Tryz.prog w = .ok (.bool (!(decide (a = a' ∧ b = b' ∧ c = c')))) w := by
  by_cases h1 : a = a' <;> by_cases h2 : b = b' <;> by_cases h3 : c = c'
  all_goals go_simp
end Go.Proofs.YtmpfbkeamihjbaaGreat
