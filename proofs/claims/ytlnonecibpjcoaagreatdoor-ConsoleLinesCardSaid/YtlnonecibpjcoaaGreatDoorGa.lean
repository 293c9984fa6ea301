/- The variables th. -/
import Derived.Test.YtlnonecibpjcoaaGreatDoorRows
import Derived.LaidByTextLater
import Derived.SevenTiedAt
set_option linter.all false
namespace Go.Proofs.YtlnonecibpjcoaaGreatDoor.tied
open Go Go.Proofs.YtlnonecibpjcoaaGreatDoor
abbrev IR:List (String×DataW Unit):=[("unicode/utf8.acceptRanges",Rows.laid_unicode_utf8_acceptRanges),("strconv.ErrSyntax",Rows.laid_strconv_ErrSyntax),("strconv.ErrRange",Rows.laid_strconv_ErrRange),("internal/strconv.uint64pow10",Rows.laid_internal_strconv_uint64pow10),("math/bits.deBruijn32tab",Rows.laid_math_bits_deBruijn32tab),("math/bits.deBruijn64tab",Rows.laid_math_bits_deBruijn64tab),("yearbook/slide.all",Rows.laid_yearbook_slide_all)]
end Go.Proofs.YtlnonecibpjcoaaGreatDoor.tied
namespace Go.Proofs.YtlnonecibpjcoaaGreatDoor.tied
open Go Go.Proofs.YtlnonecibpjcoaaGreatDoor
theorem ZZ:IR.map (fun x=>Tryz.prog.kindOfLater x.1)=([.data,.sentinel,.sentinel,.data,.data,.data,.data]:List LaidKind).map some:=by kernel_rfl
end Go.Proofs.YtlnonecibpjcoaaGreatDoor.tied
namespace Go.Proofs.YtlnonecibpjcoaaGreatDoor.tied
open Go Go.Proofs.YtlnonecibpjcoaaGreatDoor
theorem Z1:(IR.all fun x=>x.2.handleName?.isNone)=true:=by kernel_rfl
end Go.Proofs.YtlnonecibpjcoaaGreatDoor.tied
namespace Go.Proofs.YtlnonecibpjcoaaGreatDoor.tied
open Go Go.Proofs.YtlnonecibpjcoaaGreatDoor
theorem Z2:Tryz.prog.worded (varsWordLater true)=true:=by kernel_rfl
end Go.Proofs.YtlnonecibpjcoaaGreatDoor.tied
