/-
  No cell of these rows narrows 'for every input' (looked for: loops, veiled, ifaces, maps, wideKeys, modest, calm, conditions, laid).
  DERIVED. THE GIVEN ROWS OF THIS SEAT. 5 by the template 'for every input the law returns true; each argument reads behind the call as it read before'; 0 by the template 'total and deterministic' (their statements: YtmpfbkeamihjbaaGreatTotals.lean).
  GIVEN WITH THE SEED: the statements are not yours to turn. If you find one false, say at which input.
  Laid BY PROGRAM, IN A SANDBOX (cutbox-rows.mjs): the forced cells as the released guide's own fill.sh prints them over the translation 050e45d14d63d188… (all of the seat's roots in one cut). By AI agents, Wed Nov 11 2026. No macro, syntax, notation, axiom, sorry.
-/
import Derived.Test.YtmpfbkeamihjbaaGreatChecked
import GoSem.Claim
import GoSem.ClaimJoined
import GoSem.ClaimMapViews
import Derived.JoinedTies
import Derived.KernelRfl
namespace Go.Proofs.YtmpfbkeamihjbaaGreat
/- THE CELL 'sum', in the pinned program and in every row, IS THE sha256 OF THE DUMP (.gsa) THAT YtmpfbkeamihjbaaGreatProg.lean LOADS. Nothing in Lean hashes anything: it is a label: what it is worth is what the hold of that sum in a sandbox is worth. -/
noncomputable def Tryz.pinned : Pinned := { name := "ytmpfbkeamihjbaagreat", sum := "050e45d14d63d188f004e5a04b36e013fa91f618738b27f9e8a1ae4142410d16", checked := Tryz.checked }
namespace Rows
def none {H : Type} : Left H := { results := [], args := [] }

/-- 'yearbooklaw12.SegcodePuts': WHATEVER THE INPUT: true; the input reads as it did. -/
def segcodePutsSpec : ChangeSpec := { name := "segcodePuts", fn := fun _ => fun
  | [d] => { results := [.lit (.bool true)], args := [d] }
  | _ => none }
def segcodePutsRow : OpenClaim := { program := "ytmpfbkeamihjbaagreat", sum := "050e45d14d63d188f004e5a04b36e013fa91f618738b27f9e8a1ae4142410d16", func := "yearbook/yearbooklaw12.SegcodePuts", spec := "segcodePuts", inPlace := ["math/bits.Add64", "math/bits.Sub64"], unfollowed := true, recurses := true, named := ["math/bits.divideError", "math/bits.overflowError"], apart := false }
def SegcodePutsSaid : Prop := segcodePutsRow.holds Tryz.pinned (OpenSpec.ofChange segcodePutsSpec)

/-- ITS FALSE NEIGHBOUR: 'it returns false'. Refute it at one input. -/
def segcodePutsWrong : ChangeSpec := { name := "segcodePuts", fn := fun _ => fun
  | [d] => { results := [.lit (.bool false)], args := [d] }
  | _ => none }
def SegcodePutsWrongFalsely : Prop := segcodePutsRow.holds Tryz.pinned (OpenSpec.ofChange segcodePutsWrong)

/-- 'yearbooklaw12.SegcodeGets': WHATEVER THE INPUT: true; the input reads as it did. -/
def segcodeGetsSpec : ChangeSpec := { name := "segcodeGets", fn := fun _ => fun
  | [d1, d2] => { results := [.lit (.bool true)], args := [d1, d2] }
  | _ => none }
def segcodeGetsRow : OpenClaim := { program := "ytmpfbkeamihjbaagreat", sum := "050e45d14d63d188f004e5a04b36e013fa91f618738b27f9e8a1ae4142410d16", func := "yearbook/yearbooklaw12.SegcodeGets", spec := "segcodeGets", inPlace := ["math/bits.Add64", "math/bits.Sub64"], unfollowed := true, recurses := true, named := ["math/bits.divideError", "math/bits.overflowError"], apart := false }
def SegcodeGetsSaid : Prop := segcodeGetsRow.holds Tryz.pinned (OpenSpec.ofChange segcodeGetsSpec)

/-- ITS FALSE NEIGHBOUR: 'it returns false'. Refute it at one input. -/
def segcodeGetsWrong : ChangeSpec := { name := "segcodeGets", fn := fun _ => fun
  | [d1, d2] => { results := [.lit (.bool false)], args := [d1, d2] }
  | _ => none }
def SegcodeGetsWrongFalsely : Prop := segcodeGetsRow.holds Tryz.pinned (OpenSpec.ofChange segcodeGetsWrong)

/-- 'yearbooklaw12.SegcodeSmall': WHATEVER THE INPUT: true; the input reads as it did. -/
def segcodeSmallSpec : ChangeSpec := { name := "segcodeSmall", fn := fun _ => fun
  | [d] => { results := [.lit (.bool true)], args := [d] }
  | _ => none }
def segcodeSmallRow : OpenClaim := { program := "ytmpfbkeamihjbaagreat", sum := "050e45d14d63d188f004e5a04b36e013fa91f618738b27f9e8a1ae4142410d16", func := "yearbook/yearbooklaw12.SegcodeSmall", spec := "segcodeSmall", inPlace := ["math/bits.Add64", "math/bits.Sub64"], unfollowed := true, recurses := true, named := ["math/bits.divideError", "math/bits.overflowError"], apart := false }
def SegcodeSmallSaid : Prop := segcodeSmallRow.holds Tryz.pinned (OpenSpec.ofChange segcodeSmallSpec)

/-- ITS FALSE NEIGHBOUR: 'it returns false'. Refute it at one input. -/
def segcodeSmallWrong : ChangeSpec := { name := "segcodeSmall", fn := fun _ => fun
  | [d] => { results := [.lit (.bool false)], args := [d] }
  | _ => none }
def SegcodeSmallWrongFalsely : Prop := segcodeSmallRow.holds Tryz.pinned (OpenSpec.ofChange segcodeSmallWrong)

/-- 'yearbooklaw12.SegcodeAlone': WHATEVER THE INPUT: true; the input reads as it did. -/
def segcodeAloneSpec : ChangeSpec := { name := "segcodeAlone", fn := fun _ => fun
  | [d1, d2] => { results := [.lit (.bool true)], args := [d1, d2] }
  | _ => none }
def segcodeAloneRow : OpenClaim := { program := "ytmpfbkeamihjbaagreat", sum := "050e45d14d63d188f004e5a04b36e013fa91f618738b27f9e8a1ae4142410d16", func := "yearbook/yearbooklaw12.SegcodeAlone", spec := "segcodeAlone", inPlace := ["math/bits.Add64", "math/bits.Sub64"], unfollowed := true, recurses := true, named := ["math/bits.divideError", "math/bits.overflowError"], apart := false }
def SegcodeAloneSaid : Prop := segcodeAloneRow.holds Tryz.pinned (OpenSpec.ofChange segcodeAloneSpec)

/-- ITS FALSE NEIGHBOUR: 'it returns false'. Refute it at one input. -/
def segcodeAloneWrong : ChangeSpec := { name := "segcodeAlone", fn := fun _ => fun
  | [d1, d2] => { results := [.lit (.bool false)], args := [d1, d2] }
  | _ => none }
def SegcodeAloneWrongFalsely : Prop := segcodeAloneRow.holds Tryz.pinned (OpenSpec.ofChange segcodeAloneWrong)

/-- 'yearbooklaw12.SegcodeBack': WHATEVER THE INPUT: true; the input reads as it did. -/
def segcodeBackSpec : ChangeSpec := { name := "segcodeBack", fn := fun _ => fun
  | [d1, d2, d3] => { results := [.lit (.bool true)], args := [d1, d2, d3] }
  | _ => none }
def segcodeBackRow : OpenClaim := { program := "ytmpfbkeamihjbaagreat", sum := "050e45d14d63d188f004e5a04b36e013fa91f618738b27f9e8a1ae4142410d16", func := "yearbook/yearbooklaw12.SegcodeBack", spec := "segcodeBack", inPlace := ["math/bits.Add64", "math/bits.Sub64"], unfollowed := true, recurses := true, named := ["math/bits.divideError", "math/bits.overflowError"], apart := false }
def SegcodeBackSaid : Prop := segcodeBackRow.holds Tryz.pinned (OpenSpec.ofChange segcodeBackSpec)

/-- ITS FALSE NEIGHBOUR: 'it returns false'. Refute it at one input. -/
def segcodeBackWrong : ChangeSpec := { name := "segcodeBack", fn := fun _ => fun
  | [d1, d2, d3] => { results := [.lit (.bool false)], args := [d1, d2, d3] }
  | _ => none }
def SegcodeBackWrongFalsely : Prop := segcodeBackRow.holds Tryz.pinned (OpenSpec.ofChange segcodeBackWrong)

/- THE SECOND FORM. 'bulk': how many values and letters a reading holds, each counted each time it is reached (what is shared counts as often as it is met; a slice's spare places count too). A statement '..UptoSaid' is the law's where the arguments, and the package variables that the reading takes, are together of bulk at most 1048576: NARROWER than '..Said'. Prove '..Said' where nothing that the law and all that it calls make is longer than what came in: it says more and counts as full. Else prove '..UptoSaid'. A law counts once. -/
mutual
def uptoBulk {H : Type} : DataW H → Nat
  | .lit (.string bytes) => bytes.length + 1
  | .lit _ => 1
  | .nil => 1
  | .ptr d => uptoBulk d + 1
  | .slice elems spare => uptoBulkAll elems + uptoBulkAll spare + 1
  | .agg parts => uptoBulkAll parts + 1
  | .iface _ d => uptoBulk d + 1
  | .map entries => uptoBulkEntries entries + 1
  | .held _ => 1
def uptoBulkAll {H : Type} : List (DataW H) → Nat
  | [] => 0
  | d :: r => uptoBulk d + uptoBulkAll r
def uptoBulkEntries {H : Type} : List (Lit × DataW H) → Nat
  | [] => 0
  | x :: r => uptoBulkEntry x + uptoBulkEntries r
def uptoBulkEntry {H : Type} : Lit × DataW H → Nat
  | (.string bytes, d) => bytes.length + uptoBulk d + 1
  | (_, d) => uptoBulk d + 1
 end
def uptoSmall : (H : Type) → List (DataW H) → Bool := fun _ ds => decide (uptoBulkAll ds ≤ 1048576)
def OpenSpec.upto (s : _root_.Go.ChangeSpec) : _root_.Go.OpenSpec := { _root_.Go.OpenSpec.ofChange s with cond := some uptoSmall }

/-- 'yearbooklaw12.SegcodePuts', WHERE WHAT IT READS IS OF BULK AT MOST 1048576: true; the input reads as it did. -/
def segcodePutsUptoRow : OpenClaim := { program := "ytmpfbkeamihjbaagreat", sum := "050e45d14d63d188f004e5a04b36e013fa91f618738b27f9e8a1ae4142410d16", func := "yearbook/yearbooklaw12.SegcodePuts", spec := "segcodePuts", inPlace := ["math/bits.Add64", "math/bits.Sub64"], unfollowed := true, recurses := true, named := ["math/bits.divideError", "math/bits.overflowError"], apart := false, narrowed := true }
def SegcodePutsUptoSaid : Prop := segcodePutsUptoRow.holds Tryz.pinned (OpenSpec.upto segcodePutsSpec)

/-- 'yearbooklaw12.SegcodeGets', WHERE WHAT IT READS IS OF BULK AT MOST 1048576: true; the input reads as it did. -/
def segcodeGetsUptoRow : OpenClaim := { program := "ytmpfbkeamihjbaagreat", sum := "050e45d14d63d188f004e5a04b36e013fa91f618738b27f9e8a1ae4142410d16", func := "yearbook/yearbooklaw12.SegcodeGets", spec := "segcodeGets", inPlace := ["math/bits.Add64", "math/bits.Sub64"], unfollowed := true, recurses := true, named := ["math/bits.divideError", "math/bits.overflowError"], apart := false, narrowed := true }
def SegcodeGetsUptoSaid : Prop := segcodeGetsUptoRow.holds Tryz.pinned (OpenSpec.upto segcodeGetsSpec)

/-- 'yearbooklaw12.SegcodeSmall', WHERE WHAT IT READS IS OF BULK AT MOST 1048576: true; the input reads as it did. -/
def segcodeSmallUptoRow : OpenClaim := { program := "ytmpfbkeamihjbaagreat", sum := "050e45d14d63d188f004e5a04b36e013fa91f618738b27f9e8a1ae4142410d16", func := "yearbook/yearbooklaw12.SegcodeSmall", spec := "segcodeSmall", inPlace := ["math/bits.Add64", "math/bits.Sub64"], unfollowed := true, recurses := true, named := ["math/bits.divideError", "math/bits.overflowError"], apart := false, narrowed := true }
def SegcodeSmallUptoSaid : Prop := segcodeSmallUptoRow.holds Tryz.pinned (OpenSpec.upto segcodeSmallSpec)

/-- 'yearbooklaw12.SegcodeAlone', WHERE WHAT IT READS IS OF BULK AT MOST 1048576: true; the input reads as it did. -/
def segcodeAloneUptoRow : OpenClaim := { program := "ytmpfbkeamihjbaagreat", sum := "050e45d14d63d188f004e5a04b36e013fa91f618738b27f9e8a1ae4142410d16", func := "yearbook/yearbooklaw12.SegcodeAlone", spec := "segcodeAlone", inPlace := ["math/bits.Add64", "math/bits.Sub64"], unfollowed := true, recurses := true, named := ["math/bits.divideError", "math/bits.overflowError"], apart := false, narrowed := true }
def SegcodeAloneUptoSaid : Prop := segcodeAloneUptoRow.holds Tryz.pinned (OpenSpec.upto segcodeAloneSpec)

/-- 'yearbooklaw12.SegcodeBack', WHERE WHAT IT READS IS OF BULK AT MOST 1048576: true; the input reads as it did. -/
def segcodeBackUptoRow : OpenClaim := { program := "ytmpfbkeamihjbaagreat", sum := "050e45d14d63d188f004e5a04b36e013fa91f618738b27f9e8a1ae4142410d16", func := "yearbook/yearbooklaw12.SegcodeBack", spec := "segcodeBack", inPlace := ["math/bits.Add64", "math/bits.Sub64"], unfollowed := true, recurses := true, named := ["math/bits.divideError", "math/bits.overflowError"], apart := false, narrowed := true }
def SegcodeBackUptoSaid : Prop := segcodeBackUptoRow.holds Tryz.pinned (OpenSpec.upto segcodeBackSpec)

end Rows
end Go.Proofs.YtmpfbkeamihjbaaGreat
