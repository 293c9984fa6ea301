/- One case of the statement, reckoned. One case of the statement, reckoned. -/
import Derived.Test.YtncmgfehlgkgdaaGreatDoorKB
import Derived.Test.YtncmgfehlgkgdaaGreatDoorOkC
import Derived.Test.YtncmgfehlgkgdaaGreatDoorSy
set_option linter.unusedSimpArgs false
set_option linter.unusedVariables false
set_option linter.unusedSectionVars false
namespace Go.Proofs.Tryz
open Go.Proofs.Ex
noncomputable def zC3T : Tabs := ⟨[(10, 2, aI 4, .int .u64 63, kI 0), (11, 47, .agg #[aI 4, aI 4], .agg #[aI 4, aI 4], .bool true), (16, 3, aI 0, kI (-40), .bool true), (14, 3, aI 0, kI (40), .bool true), (14, 2, kI (0), aI 1, .bool true), (14, 2, aI 1, kI (281474976710656), .bool true), (14, 2, kI (-2305843009213693952), aI 4, .bool true), (14, 2, aI 4, kI (2305843009213693952), .bool true), (14, 2, aI 1, kI (-1), .bool false), (13, 2, aI 1, kI (0), .bool false), (15, 2, aI 1, kI (281474976710656), .bool false), (14, 2, kI (-1), aI 1, .bool true), (16, 2, aI 1, kI (0), .bool true), (12, 2, aI 1, aI 1, .bool false), (16, 2, aI 1, aI 1, .bool true), (14, 2, aI 1, aI 1, .bool true), (15, 2, aI 4, aI 4, .bool false)], [(2, 22, aI 4, aI 5), (22, 2, aI 5, aI 4)], [], [(10, [aI 2], aI 3), (458, [.int .u64 0, aI 5, .int .u64 0], .tuple #[aI 5, .int .u64 0]), (458, [aI 5, .int .u64 0, .int .u64 0], .tuple #[aI 5, .int .u64 0]), (457, [aI 5, .int .u64 0, .int .u64 0], .tuple #[aI 5, .int .u64 0])], [(5, [], .bool true), (9, [aI 3, aI 0], .tuple #[aI 4, kI 0])], [(1, [aI 1, kI 0], aI 1)]⟩
noncomputable def zC3L : Lk := symL xL1 zC3T
theorem zC3_run : outB (.bool true) .nil 920 (runA prog zC3L 3 [aI 0, aI 1, aI 2] 20000) = true := by kernel_rfl
end Go.Proofs.Tryz

namespace Go.Proofs.Tryz
open Go.Proofs.Ex
noncomputable def zC4T : Tabs := ⟨[(10, 2, aI 4, .int .u64 63, kI (-1)), (11, 47, .agg #[aI 4, aI 4], .agg #[aI 4, aI 4], .bool true), (16, 3, aI 0, kI (-40), .bool true), (14, 3, aI 0, kI (40), .bool true), (14, 2, kI (0), aI 1, .bool true), (14, 2, aI 1, kI (281474976710656), .bool true), (14, 2, kI (-2305843009213693952), aI 4, .bool true), (14, 2, aI 4, kI (2305843009213693952), .bool true), (14, 2, aI 1, kI (-1), .bool false), (13, 2, aI 1, kI (0), .bool false), (15, 2, aI 1, kI (281474976710656), .bool false), (14, 2, kI (-1), aI 1, .bool true), (16, 2, aI 1, kI (0), .bool true), (12, 2, aI 1, aI 1, .bool false), (16, 2, aI 1, aI 1, .bool true), (14, 2, aI 1, aI 1, .bool true), (15, 2, aI 4, aI 4, .bool false)], [(2, 22, aI 4, aI 5), (22, 2, aI 5, aI 4)], [], [(10, [aI 2], aI 3), (458, [.int .u64 0, aI 5, .int .u64 0], .tuple #[aI 5, .int .u64 0]), (458, [aI 5, .int .u64 0, .int .u64 0], .tuple #[aI 5, .int .u64 0]), (457, [aI 5, .int .u64 0, .int .u64 0], .tuple #[aI 5, .int .u64 0])], [(5, [], .bool true), (9, [aI 3, aI 0], .tuple #[aI 4, kI 0])], [(1, [aI 1, kI 0], aI 1)]⟩
noncomputable def zC4L : Lk := symL xL1 zC4T
theorem zC4_run : outB (.bool true) .nil 920 (runA prog zC4L 3 [aI 0, aI 1, aI 2] 20000) = true := by kernel_rfl
end Go.Proofs.Tryz
