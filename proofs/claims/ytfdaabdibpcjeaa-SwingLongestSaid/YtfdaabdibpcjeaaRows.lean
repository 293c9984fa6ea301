/-
  No cell of these rows narrows 'for every input' (looked for: loops, veiled, ifaces, maps, wideKeys, modest, calm, conditions, laid).
  DERIVED. THE GIVEN ROWS OF THIS SEAT. 7 by the template 'for every input the law returns true; each argument reads behind the call as it read before'; 0 by the template 'total and deterministic' (their statements: YtfdaabdibpcjeaaTotals.lean).
  GIVEN WITH THE SEED: the statements are not yours to turn. If you find one false, say at which input.
  Laid BY PROGRAM, IN A SANDBOX (cutbox-rows.mjs): the forced cells as the released guide's own fill.sh prints them over the translation caea5b7250eaad54… (all of the seat's roots in one cut). By AI agents, Wed Nov 11 2026. No macro, syntax, notation, axiom, sorry.
-/
import Derived.Test.YtfdaabdibpcjeaaChecked
import GoSem.Claim
import GoSem.ClaimJoined
import GoSem.ClaimMapViews
import Derived.JoinedTies
import Derived.KernelRfl
namespace Go.Proofs.Ytfdaabdibpcjeaa
/- THE CELL 'sum', in the pinned program and in every row, IS THE sha256 OF THE DUMP (.gsa) THAT YtfdaabdibpcjeaaProg.lean LOADS. Nothing in Lean hashes anything: it is a label: what it is worth is what the hold of that sum in a sandbox is worth. -/
noncomputable def Try.pinned : Pinned := { name := "ytfdaabdibpcjeaa", sum := "caea5b7250eaad54d14c883d8af2e519ffd7e5d5cad0a63da5c3cc4f86cdaa00", checked := Try.checked }
namespace Rows
def none {H : Type} : Left H := { results := [], args := [] }

/-- 'yearbooklaw09.SwingLines': WHATEVER THE INPUT: true; the input reads as it did. -/
def swingLinesSpec : ChangeSpec := { name := "swingLines", fn := fun _ => fun
  | [d1, d2] => { results := [.lit (.bool true)], args := [d1, d2] }
  | _ => none }
def swingLinesRow : OpenClaim := { program := "ytfdaabdibpcjeaa", sum := "caea5b7250eaad54d14c883d8af2e519ffd7e5d5cad0a63da5c3cc4f86cdaa00", func := "yearbook/yearbooklaw09.SwingLines", spec := "swingLines", inPlace := ["math/bits.Add64", "math/bits.Sub64"], unfollowed := true, recurses := true, named := ["math/bits.divideError", "math/bits.overflowError"], apart := false }
def SwingLinesSaid : Prop := swingLinesRow.holds Try.pinned (OpenSpec.ofChange swingLinesSpec)

/-- ITS FALSE NEIGHBOUR: 'it returns false'. Refute it at one input. -/
def swingLinesWrong : ChangeSpec := { name := "swingLines", fn := fun _ => fun
  | [d1, d2] => { results := [.lit (.bool false)], args := [d1, d2] }
  | _ => none }
def SwingLinesWrongFalsely : Prop := swingLinesRow.holds Try.pinned (OpenSpec.ofChange swingLinesWrong)

/-- 'yearbooklaw09.SwingWider': WHATEVER THE INPUT: true; the input reads as it did. -/
def swingWiderSpec : ChangeSpec := { name := "swingWider", fn := fun _ => fun
  | [d1, d2] => { results := [.lit (.bool true)], args := [d1, d2] }
  | _ => none }
def swingWiderRow : OpenClaim := { program := "ytfdaabdibpcjeaa", sum := "caea5b7250eaad54d14c883d8af2e519ffd7e5d5cad0a63da5c3cc4f86cdaa00", func := "yearbook/yearbooklaw09.SwingWider", spec := "swingWider", inPlace := ["math/bits.Add64", "math/bits.Sub64"], unfollowed := true, recurses := true, named := ["math/bits.divideError", "math/bits.overflowError"], apart := false }
def SwingWiderSaid : Prop := swingWiderRow.holds Try.pinned (OpenSpec.ofChange swingWiderSpec)

/-- ITS FALSE NEIGHBOUR: 'it returns false'. Refute it at one input. -/
def swingWiderWrong : ChangeSpec := { name := "swingWider", fn := fun _ => fun
  | [d1, d2] => { results := [.lit (.bool false)], args := [d1, d2] }
  | _ => none }
def SwingWiderWrongFalsely : Prop := swingWiderRow.holds Try.pinned (OpenSpec.ofChange swingWiderWrong)

/-- 'yearbooklaw09.SwingParts': WHATEVER THE INPUT: true; the input reads as it did. -/
def swingPartsSpec : ChangeSpec := { name := "swingParts", fn := fun _ => fun
  | [d] => { results := [.lit (.bool true)], args := [d] }
  | _ => none }
def swingPartsRow : OpenClaim := { program := "ytfdaabdibpcjeaa", sum := "caea5b7250eaad54d14c883d8af2e519ffd7e5d5cad0a63da5c3cc4f86cdaa00", func := "yearbook/yearbooklaw09.SwingParts", spec := "swingParts", inPlace := ["math/bits.Add64", "math/bits.Sub64"], unfollowed := true, recurses := true, named := ["math/bits.divideError", "math/bits.overflowError"], apart := false }
def SwingPartsSaid : Prop := swingPartsRow.holds Try.pinned (OpenSpec.ofChange swingPartsSpec)

/-- ITS FALSE NEIGHBOUR: 'it returns false'. Refute it at one input. -/
def swingPartsWrong : ChangeSpec := { name := "swingParts", fn := fun _ => fun
  | [d] => { results := [.lit (.bool false)], args := [d] }
  | _ => none }
def SwingPartsWrongFalsely : Prop := swingPartsRow.holds Try.pinned (OpenSpec.ofChange swingPartsWrong)

/-- 'yearbooklaw09.SwingLongest': WHATEVER THE INPUT: true; the input reads as it did. -/
def swingLongestSpec : ChangeSpec := { name := "swingLongest", fn := fun _ => fun
  | [d1, d2] => { results := [.lit (.bool true)], args := [d1, d2] }
  | _ => none }
def swingLongestRow : OpenClaim := { program := "ytfdaabdibpcjeaa", sum := "caea5b7250eaad54d14c883d8af2e519ffd7e5d5cad0a63da5c3cc4f86cdaa00", func := "yearbook/yearbooklaw09.SwingLongest", spec := "swingLongest", inPlace := ["math/bits.Add64", "math/bits.Sub64"], unfollowed := true, recurses := true, named := ["math/bits.divideError", "math/bits.overflowError"], apart := false }
def SwingLongestSaid : Prop := swingLongestRow.holds Try.pinned (OpenSpec.ofChange swingLongestSpec)

/-- ITS FALSE NEIGHBOUR: 'it returns false'. Refute it at one input. -/
def swingLongestWrong : ChangeSpec := { name := "swingLongest", fn := fun _ => fun
  | [d1, d2] => { results := [.lit (.bool false)], args := [d1, d2] }
  | _ => none }
def SwingLongestWrongFalsely : Prop := swingLongestRow.holds Try.pinned (OpenSpec.ofChange swingLongestWrong)

/-- 'yearbooklaw09.SwingAny': WHATEVER THE INPUT: true; the input reads as it did. -/
def swingAnySpec : ChangeSpec := { name := "swingAny", fn := fun _ => fun
  | [d1, d2] => { results := [.lit (.bool true)], args := [d1, d2] }
  | _ => none }
def swingAnyRow : OpenClaim := { program := "ytfdaabdibpcjeaa", sum := "caea5b7250eaad54d14c883d8af2e519ffd7e5d5cad0a63da5c3cc4f86cdaa00", func := "yearbook/yearbooklaw09.SwingAny", spec := "swingAny", inPlace := ["math/bits.Add64", "math/bits.Sub64"], unfollowed := true, recurses := true, named := ["math/bits.divideError", "math/bits.overflowError"], apart := false }
def SwingAnySaid : Prop := swingAnyRow.holds Try.pinned (OpenSpec.ofChange swingAnySpec)

/-- ITS FALSE NEIGHBOUR: 'it returns false'. Refute it at one input. -/
def swingAnyWrong : ChangeSpec := { name := "swingAny", fn := fun _ => fun
  | [d1, d2] => { results := [.lit (.bool false)], args := [d1, d2] }
  | _ => none }
def SwingAnyWrongFalsely : Prop := swingAnyRow.holds Try.pinned (OpenSpec.ofChange swingAnyWrong)

/-- 'yearbooklaw09.SwingDoors': WHATEVER THE INPUT: true; the input reads as it did. -/
def swingDoorsSpec : ChangeSpec := { name := "swingDoors", fn := fun _ => fun
  | [d] => { results := [.lit (.bool true)], args := [d] }
  | _ => none }
def swingDoorsRow : OpenClaim := { program := "ytfdaabdibpcjeaa", sum := "caea5b7250eaad54d14c883d8af2e519ffd7e5d5cad0a63da5c3cc4f86cdaa00", func := "yearbook/yearbooklaw09.SwingDoors", spec := "swingDoors", inPlace := ["math/bits.Add64", "math/bits.Sub64"], unfollowed := true, recurses := true, named := ["math/bits.divideError", "math/bits.overflowError"], apart := false }
def SwingDoorsSaid : Prop := swingDoorsRow.holds Try.pinned (OpenSpec.ofChange swingDoorsSpec)

/-- ITS FALSE NEIGHBOUR: 'it returns false'. Refute it at one input. -/
def swingDoorsWrong : ChangeSpec := { name := "swingDoors", fn := fun _ => fun
  | [d] => { results := [.lit (.bool false)], args := [d] }
  | _ => none }
def SwingDoorsWrongFalsely : Prop := swingDoorsRow.holds Try.pinned (OpenSpec.ofChange swingDoorsWrong)

/-- 'yearbooklaw09.SwingFits': WHATEVER THE INPUT: true; the input reads as it did. -/
def swingFitsSpec : ChangeSpec := { name := "swingFits", fn := fun _ => fun
  | [d] => { results := [.lit (.bool true)], args := [d] }
  | _ => none }
def swingFitsRow : OpenClaim := { program := "ytfdaabdibpcjeaa", sum := "caea5b7250eaad54d14c883d8af2e519ffd7e5d5cad0a63da5c3cc4f86cdaa00", func := "yearbook/yearbooklaw09.SwingFits", spec := "swingFits", inPlace := ["math/bits.Add64", "math/bits.Sub64"], unfollowed := true, recurses := true, named := ["math/bits.divideError", "math/bits.overflowError"], apart := false }
def SwingFitsSaid : Prop := swingFitsRow.holds Try.pinned (OpenSpec.ofChange swingFitsSpec)

/-- ITS FALSE NEIGHBOUR: 'it returns false'. Refute it at one input. -/
def swingFitsWrong : ChangeSpec := { name := "swingFits", fn := fun _ => fun
  | [d] => { results := [.lit (.bool false)], args := [d] }
  | _ => none }
def SwingFitsWrongFalsely : Prop := swingFitsRow.holds Try.pinned (OpenSpec.ofChange swingFitsWrong)

/- THE SECOND FORM. 'bulk': how many values and letters a reading holds, each counted each time it is reached (what is shared counts as often as it is met; a slice's spare places count too). A statement '..UptoSaid' is the law's where the arguments, and the package variables that the reading takes, are together of bulk at most 1048576: NARROWER than '..Said'. Prove '..Said' where nothing that the law and all that it calls make is longer than what came in: it says more and counts as full. Else prove '..UptoSaid'. A law counts once. -/
mutual
def uptoBulk {H : Type} : DataW H → Nat
  | .lit (.string bytes) => bytes.length + 1
  | .lit _ => 1
  | .nil => 1
  | .ptr d => uptoBulk d + 1
  | .slice elems spare => uptoBulkAll elems + uptoBulkAll spare + 1
  | .agg parts => uptoBulkAll parts + 1
  | .iface _ d => uptoBulk d + 1
  | .map entries => uptoBulkEntries entries + 1
  | .held _ => 1
def uptoBulkAll {H : Type} : List (DataW H) → Nat
  | [] => 0
  | d :: r => uptoBulk d + uptoBulkAll r
def uptoBulkEntries {H : Type} : List (Lit × DataW H) → Nat
  | [] => 0
  | x :: r => uptoBulkEntry x + uptoBulkEntries r
def uptoBulkEntry {H : Type} : Lit × DataW H → Nat
  | (.string bytes, d) => bytes.length + uptoBulk d + 1
  | (_, d) => uptoBulk d + 1
 end
def uptoSmall : (H : Type) → List (DataW H) → Bool := fun _ ds => decide (uptoBulkAll ds ≤ 1048576)
def OpenSpec.upto (s : _root_.Go.ChangeSpec) : _root_.Go.OpenSpec := { _root_.Go.OpenSpec.ofChange s with cond := some uptoSmall }

/-- 'yearbooklaw09.SwingLines', WHERE WHAT IT READS IS OF BULK AT MOST 1048576: true; the input reads as it did. -/
def swingLinesUptoRow : OpenClaim := { program := "ytfdaabdibpcjeaa", sum := "caea5b7250eaad54d14c883d8af2e519ffd7e5d5cad0a63da5c3cc4f86cdaa00", func := "yearbook/yearbooklaw09.SwingLines", spec := "swingLines", inPlace := ["math/bits.Add64", "math/bits.Sub64"], unfollowed := true, recurses := true, named := ["math/bits.divideError", "math/bits.overflowError"], apart := false, narrowed := true }
def SwingLinesUptoSaid : Prop := swingLinesUptoRow.holds Try.pinned (OpenSpec.upto swingLinesSpec)

/-- 'yearbooklaw09.SwingWider', WHERE WHAT IT READS IS OF BULK AT MOST 1048576: true; the input reads as it did. -/
def swingWiderUptoRow : OpenClaim := { program := "ytfdaabdibpcjeaa", sum := "caea5b7250eaad54d14c883d8af2e519ffd7e5d5cad0a63da5c3cc4f86cdaa00", func := "yearbook/yearbooklaw09.SwingWider", spec := "swingWider", inPlace := ["math/bits.Add64", "math/bits.Sub64"], unfollowed := true, recurses := true, named := ["math/bits.divideError", "math/bits.overflowError"], apart := false, narrowed := true }
def SwingWiderUptoSaid : Prop := swingWiderUptoRow.holds Try.pinned (OpenSpec.upto swingWiderSpec)

/-- 'yearbooklaw09.SwingParts', WHERE WHAT IT READS IS OF BULK AT MOST 1048576: true; the input reads as it did. -/
def swingPartsUptoRow : OpenClaim := { program := "ytfdaabdibpcjeaa", sum := "caea5b7250eaad54d14c883d8af2e519ffd7e5d5cad0a63da5c3cc4f86cdaa00", func := "yearbook/yearbooklaw09.SwingParts", spec := "swingParts", inPlace := ["math/bits.Add64", "math/bits.Sub64"], unfollowed := true, recurses := true, named := ["math/bits.divideError", "math/bits.overflowError"], apart := false, narrowed := true }
def SwingPartsUptoSaid : Prop := swingPartsUptoRow.holds Try.pinned (OpenSpec.upto swingPartsSpec)

/-- 'yearbooklaw09.SwingLongest', WHERE WHAT IT READS IS OF BULK AT MOST 1048576: true; the input reads as it did. -/
def swingLongestUptoRow : OpenClaim := { program := "ytfdaabdibpcjeaa", sum := "caea5b7250eaad54d14c883d8af2e519ffd7e5d5cad0a63da5c3cc4f86cdaa00", func := "yearbook/yearbooklaw09.SwingLongest", spec := "swingLongest", inPlace := ["math/bits.Add64", "math/bits.Sub64"], unfollowed := true, recurses := true, named := ["math/bits.divideError", "math/bits.overflowError"], apart := false, narrowed := true }
def SwingLongestUptoSaid : Prop := swingLongestUptoRow.holds Try.pinned (OpenSpec.upto swingLongestSpec)

/-- 'yearbooklaw09.SwingAny', WHERE WHAT IT READS IS OF BULK AT MOST 1048576: true; the input reads as it did. -/
def swingAnyUptoRow : OpenClaim := { program := "ytfdaabdibpcjeaa", sum := "caea5b7250eaad54d14c883d8af2e519ffd7e5d5cad0a63da5c3cc4f86cdaa00", func := "yearbook/yearbooklaw09.SwingAny", spec := "swingAny", inPlace := ["math/bits.Add64", "math/bits.Sub64"], unfollowed := true, recurses := true, named := ["math/bits.divideError", "math/bits.overflowError"], apart := false, narrowed := true }
def SwingAnyUptoSaid : Prop := swingAnyUptoRow.holds Try.pinned (OpenSpec.upto swingAnySpec)

/-- 'yearbooklaw09.SwingDoors', WHERE WHAT IT READS IS OF BULK AT MOST 1048576: true; the input reads as it did. -/
def swingDoorsUptoRow : OpenClaim := { program := "ytfdaabdibpcjeaa", sum := "caea5b7250eaad54d14c883d8af2e519ffd7e5d5cad0a63da5c3cc4f86cdaa00", func := "yearbook/yearbooklaw09.SwingDoors", spec := "swingDoors", inPlace := ["math/bits.Add64", "math/bits.Sub64"], unfollowed := true, recurses := true, named := ["math/bits.divideError", "math/bits.overflowError"], apart := false, narrowed := true }
def SwingDoorsUptoSaid : Prop := swingDoorsUptoRow.holds Try.pinned (OpenSpec.upto swingDoorsSpec)

/-- 'yearbooklaw09.SwingFits', WHERE WHAT IT READS IS OF BULK AT MOST 1048576: true; the input reads as it did. -/
def swingFitsUptoRow : OpenClaim := { program := "ytfdaabdibpcjeaa", sum := "caea5b7250eaad54d14c883d8af2e519ffd7e5d5cad0a63da5c3cc4f86cdaa00", func := "yearbook/yearbooklaw09.SwingFits", spec := "swingFits", inPlace := ["math/bits.Add64", "math/bits.Sub64"], unfollowed := true, recurses := true, named := ["math/bits.divideError", "math/bits.overflowError"], apart := false, narrowed := true }
def SwingFitsUptoSaid : Prop := swingFitsUptoRow.holds Try.pinned (OpenSpec.upto swingFitsSpec)

end Rows
end Go.Proofs.Ytfdaabdibpcjeaa
