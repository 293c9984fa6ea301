/-
  NARROWER THAN 'FOR EVERY INPUT', by the rows' own cells (each row's printed sentence says how): StoreReads: laid · StoreFormats: laid.
  DERIVED. THE GIVEN ROWS OF THIS SEAT. 2 by the template 'for every input the law returns true; each argument reads behind the call as it read before'; 0 by the template 'total and deterministic' (their statements: YtncmgfehlgkgdaaGreatDoorTotals.lean).
  GIVEN WITH THE SEED: the statements are not yours to turn. If you find one false, say at which input.
  Laid BY PROGRAM, IN A SANDBOX (cutbox-rows.mjs): the forced cells as the released guide's own fill.sh prints them over the translation a0e083204c4157e4… (all of the seat's roots in one cut). By AI agents, Wed Nov 11 2026. No macro, syntax, notation, axiom, sorry.
-/
import Derived.Test.YtncmgfehlgkgdaaGreatDoorChecked
import GoSem.Claim
import GoSem.ClaimJoined
import GoSem.ClaimMapViews
import Derived.JoinedTies
import Derived.KernelRfl
namespace Go.Proofs.YtncmgfehlgkgdaaGreatDoor
/- THE CELL 'sum', in the pinned program and in every row, IS THE sha256 OF THE DUMP (.gsa) THAT YtncmgfehlgkgdaaGreatDoorProg.lean LOADS. Nothing in Lean hashes anything: it is a label: what it is worth is what the hold of that sum in a sandbox is worth. -/
noncomputable def Tryz.pinned : Pinned := { name := "ytncmgfehlgkgdaagreatdoor", sum := "a0e083204c4157e478c5dca1b0a96f90f223d53acdc17870ef2eef1af1deb46f", checked := Tryz.checked }
namespace Rows
def none {H : Type} : Left H := { results := [], args := [] }

/- WHAT THE LISTED PACKAGE-LEVEL VARIABLES READ AS WHEN THE CALL BEGINS. Each datum BY PROGRAM (the guide's laid-datum.mjs) off the statement by which the dump's own 'gosem.cut.vars' lays the variable. In a bare row this is a premise. The card (YtncmgfehlgkgdaaGreatDoorCards.lean) ties it to the program's text. -/
def laid_yearbook_slide_all {H : Type} : DataW H := .agg [.agg [.lit (.int .i64 (-4611688217450643456)), .lit (.int .i64 1)], .agg [.lit (.int .i64 4611688217450643456), .lit (.int .i64 1)]]

/-- 'yearbooklaw29.StoreReads': WHATEVER THE INPUT: true; the input reads as it did. -/
def storeReadsSpec : ChangeSpec := { name := "storeReads", fn := fun _ => fun
  | [d1, d2, d3] => { results := [.lit (.bool true)], args := [d1, d2, d3] }
  | _ => none }
def storeReadsRow : OpenClaim := { program := "ytncmgfehlgkgdaagreatdoor", sum := "a0e083204c4157e478c5dca1b0a96f90f223d53acdc17870ef2eef1af1deb46f", func := "yearbook/yearbooklaw29.StoreReads", spec := "storeReads", inPlace := ["math/bits.Add64", "math/bits.Sub64", "slices.overlaps[yearbook/api.Series]", "math.Float64frombits", "math.Float64bits"], unfollowed := true, recurses := true, named := ["math/bits.divideError", "math/bits.overflowError", "yearbook/slide.all"], apart := false, laid := [("yearbook/slide.all", laid_yearbook_slide_all)] }
def StoreReadsSaid : Prop := storeReadsRow.holds Tryz.pinned (OpenSpec.ofChange storeReadsSpec)

/-- ITS FALSE NEIGHBOUR: 'it returns false'. Refute it at one input. -/
def storeReadsWrong : ChangeSpec := { name := "storeReads", fn := fun _ => fun
  | [d1, d2, d3] => { results := [.lit (.bool false)], args := [d1, d2, d3] }
  | _ => none }
def StoreReadsWrongFalsely : Prop := storeReadsRow.holds Tryz.pinned (OpenSpec.ofChange storeReadsWrong)

/-- 'yearbooklaw29.StoreFormats': WHATEVER THE INPUT: true; the input reads as it did. -/
def storeFormatsSpec : ChangeSpec := { name := "storeFormats", fn := fun _ => fun
  | [d] => { results := [.lit (.bool true)], args := [d] }
  | _ => none }
def storeFormatsRow : OpenClaim := { program := "ytncmgfehlgkgdaagreatdoor", sum := "a0e083204c4157e478c5dca1b0a96f90f223d53acdc17870ef2eef1af1deb46f", func := "yearbook/yearbooklaw29.StoreFormats", spec := "storeFormats", inPlace := ["math/bits.Add64", "math/bits.Sub64", "slices.overlaps[yearbook/api.Series]", "math.Float64frombits", "math.Float64bits"], unfollowed := true, recurses := true, named := ["math/bits.divideError", "math/bits.overflowError", "yearbook/slide.all"], apart := false, laid := [("yearbook/slide.all", laid_yearbook_slide_all)] }
def StoreFormatsSaid : Prop := storeFormatsRow.holds Tryz.pinned (OpenSpec.ofChange storeFormatsSpec)

/-- ITS FALSE NEIGHBOUR: 'it returns false'. Refute it at one input. -/
def storeFormatsWrong : ChangeSpec := { name := "storeFormats", fn := fun _ => fun
  | [d] => { results := [.lit (.bool false)], args := [d] }
  | _ => none }
def StoreFormatsWrongFalsely : Prop := storeFormatsRow.holds Tryz.pinned (OpenSpec.ofChange storeFormatsWrong)

/- THE SECOND FORM. 'bulk': how many values and letters a reading holds, each counted each time it is reached (what is shared counts as often as it is met; a slice's spare places count too). A statement '..UptoSaid' is the law's where the arguments, and the package variables that the reading takes, are together of bulk at most 1048576: NARROWER than '..Said'. Prove '..Said' where nothing that the law and all that it calls make is longer than what came in: it says more and counts as full. Else prove '..UptoSaid'. A law counts once. -/
mutual
def uptoBulk {H : Type} : DataW H → Nat
  | .lit (.string bytes) => bytes.length + 1
  | .lit _ => 1
  | .nil => 1
  | .ptr d => uptoBulk d + 1
  | .slice elems spare => uptoBulkAll elems + uptoBulkAll spare + 1
  | .agg parts => uptoBulkAll parts + 1
  | .iface _ d => uptoBulk d + 1
  | .map entries => uptoBulkEntries entries + 1
  | .held _ => 1
def uptoBulkAll {H : Type} : List (DataW H) → Nat
  | [] => 0
  | d :: r => uptoBulk d + uptoBulkAll r
def uptoBulkEntries {H : Type} : List (Lit × DataW H) → Nat
  | [] => 0
  | x :: r => uptoBulkEntry x + uptoBulkEntries r
def uptoBulkEntry {H : Type} : Lit × DataW H → Nat
  | (.string bytes, d) => bytes.length + uptoBulk d + 1
  | (_, d) => uptoBulk d + 1
 end
def uptoSmall : (H : Type) → List (DataW H) → Bool := fun _ ds => decide (uptoBulkAll ds ≤ 1048576)
def OpenSpec.upto (s : _root_.Go.ChangeSpec) : _root_.Go.OpenSpec := { _root_.Go.OpenSpec.ofChange s with cond := some uptoSmall }

/-- 'yearbooklaw29.StoreReads', WHERE WHAT IT READS IS OF BULK AT MOST 1048576: true; the input reads as it did. -/
def storeReadsUptoRow : OpenClaim := { program := "ytncmgfehlgkgdaagreatdoor", sum := "a0e083204c4157e478c5dca1b0a96f90f223d53acdc17870ef2eef1af1deb46f", func := "yearbook/yearbooklaw29.StoreReads", spec := "storeReads", inPlace := ["math/bits.Add64", "math/bits.Sub64", "slices.overlaps[yearbook/api.Series]", "math.Float64frombits", "math.Float64bits"], unfollowed := true, recurses := true, named := ["math/bits.divideError", "math/bits.overflowError", "yearbook/slide.all"], apart := false, laid := [("yearbook/slide.all", laid_yearbook_slide_all)], narrowed := true }
def StoreReadsUptoSaid : Prop := storeReadsUptoRow.holds Tryz.pinned (OpenSpec.upto storeReadsSpec)

/-- 'yearbooklaw29.StoreFormats', WHERE WHAT IT READS IS OF BULK AT MOST 1048576: true; the input reads as it did. -/
def storeFormatsUptoRow : OpenClaim := { program := "ytncmgfehlgkgdaagreatdoor", sum := "a0e083204c4157e478c5dca1b0a96f90f223d53acdc17870ef2eef1af1deb46f", func := "yearbook/yearbooklaw29.StoreFormats", spec := "storeFormats", inPlace := ["math/bits.Add64", "math/bits.Sub64", "slices.overlaps[yearbook/api.Series]", "math.Float64frombits", "math.Float64bits"], unfollowed := true, recurses := true, named := ["math/bits.divideError", "math/bits.overflowError", "yearbook/slide.all"], apart := false, laid := [("yearbook/slide.all", laid_yearbook_slide_all)], narrowed := true }
def StoreFormatsUptoSaid : Prop := storeFormatsUptoRow.holds Tryz.pinned (OpenSpec.upto storeFormatsSpec)

end Rows
end Go.Proofs.YtncmgfehlgkgdaaGreatDoor
