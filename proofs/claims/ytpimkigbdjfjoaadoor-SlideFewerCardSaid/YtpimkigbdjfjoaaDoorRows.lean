/-
  NARROWER THAN 'FOR EVERY INPUT', by the rows' own cells (each row's printed sentence says how): SlideFits: laid · SlideThrough: laid · SlideCuts: laid · SlideAny: laid · SlideLeast: laid · SlideTurns: laid · SlideHolds: laid · SlideFewer: laid.
  DERIVED. THE GIVEN ROWS OF THIS SEAT. 8 by the template 'for every input the law returns true; each argument reads behind the call as it read before'; 0 by the template 'total and deterministic' (their statements: YtpimkigbdjfjoaaDoorTotals.lean).
  GIVEN WITH THE SEED: the statements are not yours to turn. If you find one false, say at which input.
  Laid BY PROGRAM, IN A SANDBOX (cutbox-rows.mjs): the forced cells as the released guide's own fill.sh prints them over the translation 84fc9e2830dd44b4… (all of the seat's roots in one cut). By AI agents, Wed Nov 11 2026. No macro, syntax, notation, axiom, sorry.
-/
import Derived.Test.YtpimkigbdjfjoaaDoorChecked
import GoSem.Claim
import GoSem.ClaimJoined
import GoSem.ClaimMapViews
import Derived.JoinedTies
import Derived.KernelRfl
namespace Go.Proofs.YtpimkigbdjfjoaaDoor
/- THE CELL 'sum', in the pinned program and in every row, IS THE sha256 OF THE DUMP (.gsa) THAT YtpimkigbdjfjoaaDoorProg.lean LOADS. Nothing in Lean hashes anything: it is a label: what it is worth is what the hold of that sum in a sandbox is worth. -/
noncomputable def Tryd.pinned : Pinned := { name := "ytpimkigbdjfjoaadoor", sum := "84fc9e2830dd44b46b36bf4deed70f5926fc895094dde157d3c68d53190a20b2", checked := Tryd.checked }
namespace Rows
def none {H : Type} : Left H := { results := [], args := [] }

/- WHAT THE LISTED PACKAGE-LEVEL VARIABLES READ AS WHEN THE CALL BEGINS. Each datum BY PROGRAM (the guide's laid-datum.mjs) off the statement by which the dump's own 'gosem.cut.vars' lays the variable. In a bare row this is a premise. The card (YtpimkigbdjfjoaaDoorCards.lean) ties it to the program's text. -/
def laid_yearbook_slide_all {H : Type} : DataW H := .agg [.agg [.lit (.int .i64 (-4611688217450643456)), .lit (.int .i64 1)], .agg [.lit (.int .i64 4611688217450643456), .lit (.int .i64 1)]]

/-- 'yearbooklaw10.SlideFits': WHATEVER THE INPUT: true; the input reads as it did. -/
def slideFitsSpec : ChangeSpec := { name := "slideFits", fn := fun _ => fun
  | [d] => { results := [.lit (.bool true)], args := [d] }
  | _ => none }
def slideFitsRow : OpenClaim := { program := "ytpimkigbdjfjoaadoor", sum := "84fc9e2830dd44b46b36bf4deed70f5926fc895094dde157d3c68d53190a20b2", func := "yearbook/yearbooklaw10.SlideFits", spec := "slideFits", inPlace := ["math/bits.Sub64", "math/bits.Add64"], unfollowed := true, recurses := true, named := ["yearbook/slide.all", "math/bits.divideError", "math/bits.overflowError"], apart := false, laid := [("yearbook/slide.all", laid_yearbook_slide_all)] }
def SlideFitsSaid : Prop := slideFitsRow.holds Tryd.pinned (OpenSpec.ofChange slideFitsSpec)

/-- ITS FALSE NEIGHBOUR: 'it returns false'. Refute it at one input. -/
def slideFitsWrong : ChangeSpec := { name := "slideFits", fn := fun _ => fun
  | [d] => { results := [.lit (.bool false)], args := [d] }
  | _ => none }
def SlideFitsWrongFalsely : Prop := slideFitsRow.holds Tryd.pinned (OpenSpec.ofChange slideFitsWrong)

/-- 'yearbooklaw10.SlideThrough': WHATEVER THE INPUT: true; the input reads as it did. -/
def slideThroughSpec : ChangeSpec := { name := "slideThrough", fn := fun _ => fun
  | [d1, d2] => { results := [.lit (.bool true)], args := [d1, d2] }
  | _ => none }
def slideThroughRow : OpenClaim := { program := "ytpimkigbdjfjoaadoor", sum := "84fc9e2830dd44b46b36bf4deed70f5926fc895094dde157d3c68d53190a20b2", func := "yearbook/yearbooklaw10.SlideThrough", spec := "slideThrough", inPlace := ["math/bits.Sub64", "math/bits.Add64"], unfollowed := true, recurses := true, named := ["yearbook/slide.all", "math/bits.divideError", "math/bits.overflowError"], apart := false, laid := [("yearbook/slide.all", laid_yearbook_slide_all)] }
def SlideThroughSaid : Prop := slideThroughRow.holds Tryd.pinned (OpenSpec.ofChange slideThroughSpec)

/-- ITS FALSE NEIGHBOUR: 'it returns false'. Refute it at one input. -/
def slideThroughWrong : ChangeSpec := { name := "slideThrough", fn := fun _ => fun
  | [d1, d2] => { results := [.lit (.bool false)], args := [d1, d2] }
  | _ => none }
def SlideThroughWrongFalsely : Prop := slideThroughRow.holds Tryd.pinned (OpenSpec.ofChange slideThroughWrong)

/-- 'yearbooklaw10.SlideCuts': WHATEVER THE INPUT: true; the input reads as it did. -/
def slideCutsSpec : ChangeSpec := { name := "slideCuts", fn := fun _ => fun
  | [d] => { results := [.lit (.bool true)], args := [d] }
  | _ => none }
def slideCutsRow : OpenClaim := { program := "ytpimkigbdjfjoaadoor", sum := "84fc9e2830dd44b46b36bf4deed70f5926fc895094dde157d3c68d53190a20b2", func := "yearbook/yearbooklaw10.SlideCuts", spec := "slideCuts", inPlace := ["math/bits.Sub64", "math/bits.Add64"], unfollowed := true, recurses := true, named := ["yearbook/slide.all", "math/bits.divideError", "math/bits.overflowError"], apart := false, laid := [("yearbook/slide.all", laid_yearbook_slide_all)] }
def SlideCutsSaid : Prop := slideCutsRow.holds Tryd.pinned (OpenSpec.ofChange slideCutsSpec)

/-- ITS FALSE NEIGHBOUR: 'it returns false'. Refute it at one input. -/
def slideCutsWrong : ChangeSpec := { name := "slideCuts", fn := fun _ => fun
  | [d] => { results := [.lit (.bool false)], args := [d] }
  | _ => none }
def SlideCutsWrongFalsely : Prop := slideCutsRow.holds Tryd.pinned (OpenSpec.ofChange slideCutsWrong)

/-- 'yearbooklaw10.SlideAny': WHATEVER THE INPUT: true; the input reads as it did. -/
def slideAnySpec : ChangeSpec := { name := "slideAny", fn := fun _ => fun
  | [d1, d2] => { results := [.lit (.bool true)], args := [d1, d2] }
  | _ => none }
def slideAnyRow : OpenClaim := { program := "ytpimkigbdjfjoaadoor", sum := "84fc9e2830dd44b46b36bf4deed70f5926fc895094dde157d3c68d53190a20b2", func := "yearbook/yearbooklaw10.SlideAny", spec := "slideAny", inPlace := ["math/bits.Sub64", "math/bits.Add64"], unfollowed := true, recurses := true, named := ["yearbook/slide.all", "math/bits.divideError", "math/bits.overflowError"], apart := false, laid := [("yearbook/slide.all", laid_yearbook_slide_all)] }
def SlideAnySaid : Prop := slideAnyRow.holds Tryd.pinned (OpenSpec.ofChange slideAnySpec)

/-- ITS FALSE NEIGHBOUR: 'it returns false'. Refute it at one input. -/
def slideAnyWrong : ChangeSpec := { name := "slideAny", fn := fun _ => fun
  | [d1, d2] => { results := [.lit (.bool false)], args := [d1, d2] }
  | _ => none }
def SlideAnyWrongFalsely : Prop := slideAnyRow.holds Tryd.pinned (OpenSpec.ofChange slideAnyWrong)

/-- 'yearbooklaw10.SlideLeast': WHATEVER THE INPUT: true; the input reads as it did. -/
def slideLeastSpec : ChangeSpec := { name := "slideLeast", fn := fun _ => fun
  | [d1, d2] => { results := [.lit (.bool true)], args := [d1, d2] }
  | _ => none }
def slideLeastRow : OpenClaim := { program := "ytpimkigbdjfjoaadoor", sum := "84fc9e2830dd44b46b36bf4deed70f5926fc895094dde157d3c68d53190a20b2", func := "yearbook/yearbooklaw10.SlideLeast", spec := "slideLeast", inPlace := ["math/bits.Sub64", "math/bits.Add64"], unfollowed := true, recurses := true, named := ["yearbook/slide.all", "math/bits.divideError", "math/bits.overflowError"], apart := false, laid := [("yearbook/slide.all", laid_yearbook_slide_all)] }
def SlideLeastSaid : Prop := slideLeastRow.holds Tryd.pinned (OpenSpec.ofChange slideLeastSpec)

/-- ITS FALSE NEIGHBOUR: 'it returns false'. Refute it at one input. -/
def slideLeastWrong : ChangeSpec := { name := "slideLeast", fn := fun _ => fun
  | [d1, d2] => { results := [.lit (.bool false)], args := [d1, d2] }
  | _ => none }
def SlideLeastWrongFalsely : Prop := slideLeastRow.holds Tryd.pinned (OpenSpec.ofChange slideLeastWrong)

/-- 'yearbooklaw10.SlideTurns': WHATEVER THE INPUT: true; the input reads as it did. -/
def slideTurnsSpec : ChangeSpec := { name := "slideTurns", fn := fun _ => fun
  | [d1, d2] => { results := [.lit (.bool true)], args := [d1, d2] }
  | _ => none }
def slideTurnsRow : OpenClaim := { program := "ytpimkigbdjfjoaadoor", sum := "84fc9e2830dd44b46b36bf4deed70f5926fc895094dde157d3c68d53190a20b2", func := "yearbook/yearbooklaw10.SlideTurns", spec := "slideTurns", inPlace := ["math/bits.Sub64", "math/bits.Add64"], unfollowed := true, recurses := true, named := ["yearbook/slide.all", "math/bits.divideError", "math/bits.overflowError"], apart := false, laid := [("yearbook/slide.all", laid_yearbook_slide_all)] }
def SlideTurnsSaid : Prop := slideTurnsRow.holds Tryd.pinned (OpenSpec.ofChange slideTurnsSpec)

/-- ITS FALSE NEIGHBOUR: 'it returns false'. Refute it at one input. -/
def slideTurnsWrong : ChangeSpec := { name := "slideTurns", fn := fun _ => fun
  | [d1, d2] => { results := [.lit (.bool false)], args := [d1, d2] }
  | _ => none }
def SlideTurnsWrongFalsely : Prop := slideTurnsRow.holds Tryd.pinned (OpenSpec.ofChange slideTurnsWrong)

/-- 'yearbooklaw10.SlideHolds': WHATEVER THE INPUT: true; the input reads as it did. -/
def slideHoldsSpec : ChangeSpec := { name := "slideHolds", fn := fun _ => fun
  | [d] => { results := [.lit (.bool true)], args := [d] }
  | _ => none }
def slideHoldsRow : OpenClaim := { program := "ytpimkigbdjfjoaadoor", sum := "84fc9e2830dd44b46b36bf4deed70f5926fc895094dde157d3c68d53190a20b2", func := "yearbook/yearbooklaw10.SlideHolds", spec := "slideHolds", inPlace := ["math/bits.Sub64", "math/bits.Add64"], unfollowed := true, recurses := true, named := ["yearbook/slide.all", "math/bits.divideError", "math/bits.overflowError"], apart := false, laid := [("yearbook/slide.all", laid_yearbook_slide_all)] }
def SlideHoldsSaid : Prop := slideHoldsRow.holds Tryd.pinned (OpenSpec.ofChange slideHoldsSpec)

/-- ITS FALSE NEIGHBOUR: 'it returns false'. Refute it at one input. -/
def slideHoldsWrong : ChangeSpec := { name := "slideHolds", fn := fun _ => fun
  | [d] => { results := [.lit (.bool false)], args := [d] }
  | _ => none }
def SlideHoldsWrongFalsely : Prop := slideHoldsRow.holds Tryd.pinned (OpenSpec.ofChange slideHoldsWrong)

/-- 'yearbooklaw10.SlideFewer': WHATEVER THE INPUT: true; the input reads as it did. -/
def slideFewerSpec : ChangeSpec := { name := "slideFewer", fn := fun _ => fun
  | [d1, d2] => { results := [.lit (.bool true)], args := [d1, d2] }
  | _ => none }
def slideFewerRow : OpenClaim := { program := "ytpimkigbdjfjoaadoor", sum := "84fc9e2830dd44b46b36bf4deed70f5926fc895094dde157d3c68d53190a20b2", func := "yearbook/yearbooklaw10.SlideFewer", spec := "slideFewer", inPlace := ["math/bits.Sub64", "math/bits.Add64"], unfollowed := true, recurses := true, named := ["yearbook/slide.all", "math/bits.divideError", "math/bits.overflowError"], apart := false, laid := [("yearbook/slide.all", laid_yearbook_slide_all)] }
def SlideFewerSaid : Prop := slideFewerRow.holds Tryd.pinned (OpenSpec.ofChange slideFewerSpec)

/-- ITS FALSE NEIGHBOUR: 'it returns false'. Refute it at one input. -/
def slideFewerWrong : ChangeSpec := { name := "slideFewer", fn := fun _ => fun
  | [d1, d2] => { results := [.lit (.bool false)], args := [d1, d2] }
  | _ => none }
def SlideFewerWrongFalsely : Prop := slideFewerRow.holds Tryd.pinned (OpenSpec.ofChange slideFewerWrong)

/- THE SECOND FORM. 'bulk': how many values and letters a reading holds, each counted each time it is reached (what is shared counts as often as it is met; a slice's spare places count too). A statement '..UptoSaid' is the law's where the arguments, and the package variables that the reading takes, are together of bulk at most 1048576: NARROWER than '..Said'. Prove '..Said' where nothing that the law and all that it calls make is longer than what came in: it says more and counts as full. Else prove '..UptoSaid'. A law counts once. -/
mutual
def uptoBulk {H : Type} : DataW H → Nat
  | .lit (.string bytes) => bytes.length + 1
  | .lit _ => 1
  | .nil => 1
  | .ptr d => uptoBulk d + 1
  | .slice elems spare => uptoBulkAll elems + uptoBulkAll spare + 1
  | .agg parts => uptoBulkAll parts + 1
  | .iface _ d => uptoBulk d + 1
  | .map entries => uptoBulkEntries entries + 1
  | .held _ => 1
def uptoBulkAll {H : Type} : List (DataW H) → Nat
  | [] => 0
  | d :: r => uptoBulk d + uptoBulkAll r
def uptoBulkEntries {H : Type} : List (Lit × DataW H) → Nat
  | [] => 0
  | x :: r => uptoBulkEntry x + uptoBulkEntries r
def uptoBulkEntry {H : Type} : Lit × DataW H → Nat
  | (.string bytes, d) => bytes.length + uptoBulk d + 1
  | (_, d) => uptoBulk d + 1
 end
def uptoSmall : (H : Type) → List (DataW H) → Bool := fun _ ds => decide (uptoBulkAll ds ≤ 1048576)
def OpenSpec.upto (s : _root_.Go.ChangeSpec) : _root_.Go.OpenSpec := { _root_.Go.OpenSpec.ofChange s with cond := some uptoSmall }

/-- 'yearbooklaw10.SlideFits', WHERE WHAT IT READS IS OF BULK AT MOST 1048576: true; the input reads as it did. -/
def slideFitsUptoRow : OpenClaim := { program := "ytpimkigbdjfjoaadoor", sum := "84fc9e2830dd44b46b36bf4deed70f5926fc895094dde157d3c68d53190a20b2", func := "yearbook/yearbooklaw10.SlideFits", spec := "slideFits", inPlace := ["math/bits.Sub64", "math/bits.Add64"], unfollowed := true, recurses := true, named := ["yearbook/slide.all", "math/bits.divideError", "math/bits.overflowError"], apart := false, laid := [("yearbook/slide.all", laid_yearbook_slide_all)], narrowed := true }
def SlideFitsUptoSaid : Prop := slideFitsUptoRow.holds Tryd.pinned (OpenSpec.upto slideFitsSpec)

/-- 'yearbooklaw10.SlideThrough', WHERE WHAT IT READS IS OF BULK AT MOST 1048576: true; the input reads as it did. -/
def slideThroughUptoRow : OpenClaim := { program := "ytpimkigbdjfjoaadoor", sum := "84fc9e2830dd44b46b36bf4deed70f5926fc895094dde157d3c68d53190a20b2", func := "yearbook/yearbooklaw10.SlideThrough", spec := "slideThrough", inPlace := ["math/bits.Sub64", "math/bits.Add64"], unfollowed := true, recurses := true, named := ["yearbook/slide.all", "math/bits.divideError", "math/bits.overflowError"], apart := false, laid := [("yearbook/slide.all", laid_yearbook_slide_all)], narrowed := true }
def SlideThroughUptoSaid : Prop := slideThroughUptoRow.holds Tryd.pinned (OpenSpec.upto slideThroughSpec)

/-- 'yearbooklaw10.SlideCuts', WHERE WHAT IT READS IS OF BULK AT MOST 1048576: true; the input reads as it did. -/
def slideCutsUptoRow : OpenClaim := { program := "ytpimkigbdjfjoaadoor", sum := "84fc9e2830dd44b46b36bf4deed70f5926fc895094dde157d3c68d53190a20b2", func := "yearbook/yearbooklaw10.SlideCuts", spec := "slideCuts", inPlace := ["math/bits.Sub64", "math/bits.Add64"], unfollowed := true, recurses := true, named := ["yearbook/slide.all", "math/bits.divideError", "math/bits.overflowError"], apart := false, laid := [("yearbook/slide.all", laid_yearbook_slide_all)], narrowed := true }
def SlideCutsUptoSaid : Prop := slideCutsUptoRow.holds Tryd.pinned (OpenSpec.upto slideCutsSpec)

/-- 'yearbooklaw10.SlideAny', WHERE WHAT IT READS IS OF BULK AT MOST 1048576: true; the input reads as it did. -/
def slideAnyUptoRow : OpenClaim := { program := "ytpimkigbdjfjoaadoor", sum := "84fc9e2830dd44b46b36bf4deed70f5926fc895094dde157d3c68d53190a20b2", func := "yearbook/yearbooklaw10.SlideAny", spec := "slideAny", inPlace := ["math/bits.Sub64", "math/bits.Add64"], unfollowed := true, recurses := true, named := ["yearbook/slide.all", "math/bits.divideError", "math/bits.overflowError"], apart := false, laid := [("yearbook/slide.all", laid_yearbook_slide_all)], narrowed := true }
def SlideAnyUptoSaid : Prop := slideAnyUptoRow.holds Tryd.pinned (OpenSpec.upto slideAnySpec)

/-- 'yearbooklaw10.SlideLeast', WHERE WHAT IT READS IS OF BULK AT MOST 1048576: true; the input reads as it did. -/
def slideLeastUptoRow : OpenClaim := { program := "ytpimkigbdjfjoaadoor", sum := "84fc9e2830dd44b46b36bf4deed70f5926fc895094dde157d3c68d53190a20b2", func := "yearbook/yearbooklaw10.SlideLeast", spec := "slideLeast", inPlace := ["math/bits.Sub64", "math/bits.Add64"], unfollowed := true, recurses := true, named := ["yearbook/slide.all", "math/bits.divideError", "math/bits.overflowError"], apart := false, laid := [("yearbook/slide.all", laid_yearbook_slide_all)], narrowed := true }
def SlideLeastUptoSaid : Prop := slideLeastUptoRow.holds Tryd.pinned (OpenSpec.upto slideLeastSpec)

/-- 'yearbooklaw10.SlideTurns', WHERE WHAT IT READS IS OF BULK AT MOST 1048576: true; the input reads as it did. -/
def slideTurnsUptoRow : OpenClaim := { program := "ytpimkigbdjfjoaadoor", sum := "84fc9e2830dd44b46b36bf4deed70f5926fc895094dde157d3c68d53190a20b2", func := "yearbook/yearbooklaw10.SlideTurns", spec := "slideTurns", inPlace := ["math/bits.Sub64", "math/bits.Add64"], unfollowed := true, recurses := true, named := ["yearbook/slide.all", "math/bits.divideError", "math/bits.overflowError"], apart := false, laid := [("yearbook/slide.all", laid_yearbook_slide_all)], narrowed := true }
def SlideTurnsUptoSaid : Prop := slideTurnsUptoRow.holds Tryd.pinned (OpenSpec.upto slideTurnsSpec)

/-- 'yearbooklaw10.SlideHolds', WHERE WHAT IT READS IS OF BULK AT MOST 1048576: true; the input reads as it did. -/
def slideHoldsUptoRow : OpenClaim := { program := "ytpimkigbdjfjoaadoor", sum := "84fc9e2830dd44b46b36bf4deed70f5926fc895094dde157d3c68d53190a20b2", func := "yearbook/yearbooklaw10.SlideHolds", spec := "slideHolds", inPlace := ["math/bits.Sub64", "math/bits.Add64"], unfollowed := true, recurses := true, named := ["yearbook/slide.all", "math/bits.divideError", "math/bits.overflowError"], apart := false, laid := [("yearbook/slide.all", laid_yearbook_slide_all)], narrowed := true }
def SlideHoldsUptoSaid : Prop := slideHoldsUptoRow.holds Tryd.pinned (OpenSpec.upto slideHoldsSpec)

/-- 'yearbooklaw10.SlideFewer', WHERE WHAT IT READS IS OF BULK AT MOST 1048576: true; the input reads as it did. -/
def slideFewerUptoRow : OpenClaim := { program := "ytpimkigbdjfjoaadoor", sum := "84fc9e2830dd44b46b36bf4deed70f5926fc895094dde157d3c68d53190a20b2", func := "yearbook/yearbooklaw10.SlideFewer", spec := "slideFewer", inPlace := ["math/bits.Sub64", "math/bits.Add64"], unfollowed := true, recurses := true, named := ["yearbook/slide.all", "math/bits.divideError", "math/bits.overflowError"], apart := false, laid := [("yearbook/slide.all", laid_yearbook_slide_all)], narrowed := true }
def SlideFewerUptoSaid : Prop := slideFewerUptoRow.holds Tryd.pinned (OpenSpec.upto slideFewerSpec)

end Rows
end Go.Proofs.YtpimkigbdjfjoaaDoor
