/- The variables that the tie of the laid variables speaks of. A closed fact of the tie of the laid variables. A closed fact of the tie of the laid variables. A closed fact of the tie of the laid variables. -/
import Derived.Test.YtbiedfkmmcaplaaGreatDoorRows
import Derived.LaidByTextLater
import Derived.SevenTiedAt
set_option linter.all false
namespace Go.Proofs.YtbiedfkmmcaplaaGreatDoor.tied
open Go Go.Proofs.YtbiedfkmmcaplaaGreatDoor
abbrev laid7 : List (String × DataW Unit) := [("unicode/utf8.acceptRanges", Rows.laid_unicode_utf8_acceptRanges), ("strconv.ErrSyntax", Rows.laid_strconv_ErrSyntax), ("strconv.ErrRange", Rows.laid_strconv_ErrRange), ("internal/strconv.uint64pow10", Rows.laid_internal_strconv_uint64pow10), ("math/bits.deBruijn32tab", Rows.laid_math_bits_deBruijn32tab), ("math/bits.deBruijn64tab", Rows.laid_math_bits_deBruijn64tab), ("yearbook/slide.all", Rows.laid_yearbook_slide_all)]
end Go.Proofs.YtbiedfkmmcaplaaGreatDoor.tied

namespace Go.Proofs.YtbiedfkmmcaplaaGreatDoor.tied
open Go Go.Proofs.YtbiedfkmmcaplaaGreatDoor
theorem t_hk : laid7.map (fun x => Tryz.prog.kindOfLater x.1) = ([.data, .sentinel, .sentinel, .data, .data, .data, .data] : List LaidKind).map some := by kernel_rfl
end Go.Proofs.YtbiedfkmmcaplaaGreatDoor.tied

namespace Go.Proofs.YtbiedfkmmcaplaaGreatDoor.tied
open Go Go.Proofs.YtbiedfkmmcaplaaGreatDoor
theorem t_hp : (laid7.all fun x => x.2.handleName?.isNone) = true := by kernel_rfl
end Go.Proofs.YtbiedfkmmcaplaaGreatDoor.tied

namespace Go.Proofs.YtbiedfkmmcaplaaGreatDoor.tied
open Go Go.Proofs.YtbiedfkmmcaplaaGreatDoor
theorem t_hw : Tryz.prog.worded (varsWordLater true) = true := by kernel_rfl
end Go.Proofs.YtbiedfkmmcaplaaGreatDoor.tied
