/-
  No cell of these rows narrows 'for every input' (looked for: loops, veiled, ifaces, maps, wideKeys, modest, calm, conditions, laid).
  DERIVED. THE GIVEN ROWS OF THIS SEAT. 16 by the template 'for every input the law returns true; each argument reads behind the call as it read before'; 0 by the template 'total and deterministic' (their statements: YtlgjapjcdpikeaaTotals.lean).
  GIVEN WITH THE SEED: the statements are not yours to turn. If you find one false, say at which input.
  Laid BY PROGRAM, IN A SANDBOX (cutbox-rows.mjs): the forced cells as the released guide's own fill.sh prints them over the translation 5981b53520f2f43f… (all of the seat's roots in one cut). By AI agents, Wed Nov 11 2026. No macro, syntax, notation, axiom, sorry.
-/
import Derived.Test.YtlgjapjcdpikeaaChecked
import GoSem.Claim
import GoSem.ClaimJoined
import GoSem.ClaimMapViews
import Derived.JoinedTies
import Derived.KernelRfl
namespace Go.Proofs.Ytlgjapjcdpikeaa
/- THE CELL 'sum', in the pinned program and in every row, IS THE sha256 OF THE DUMP (.gsa) THAT YtlgjapjcdpikeaaProg.lean LOADS. Nothing in Lean hashes anything: it is a label: what it is worth is what the hold of that sum in a sandbox is worth. -/
noncomputable def Try.pinned : Pinned := { name := "ytlgjapjcdpikeaa", sum := "5981b53520f2f43f0c2caeedba7c7792d56116741fb8eca04dc9f62fe2c83e5e", checked := Try.checked }
namespace Rows
def none {H : Type} : Left H := { results := [], args := [] }

/-- 'yearbooklaw05.LineSteps': WHATEVER THE INPUT: true; the input reads as it did. -/
def lineStepsSpec : ChangeSpec := { name := "lineSteps", fn := fun _ => fun
  | [d1, d2] => { results := [.lit (.bool true)], args := [d1, d2] }
  | _ => none }
def lineStepsRow : OpenClaim := { program := "ytlgjapjcdpikeaa", sum := "5981b53520f2f43f0c2caeedba7c7792d56116741fb8eca04dc9f62fe2c83e5e", func := "yearbook/yearbooklaw05.LineSteps", spec := "lineSteps", inPlace := ["math/bits.Add64", "math/bits.Sub64"], named := ["math/bits.divideError", "math/bits.overflowError"], apart := false }
def LineStepsSaid : Prop := lineStepsRow.holds Try.pinned (OpenSpec.ofChange lineStepsSpec)

/-- ITS FALSE NEIGHBOUR: 'it returns false'. Refute it at one input. -/
def lineStepsWrong : ChangeSpec := { name := "lineSteps", fn := fun _ => fun
  | [d1, d2] => { results := [.lit (.bool false)], args := [d1, d2] }
  | _ => none }
def LineStepsWrongFalsely : Prop := lineStepsRow.holds Try.pinned (OpenSpec.ofChange lineStepsWrong)

/-- 'yearbooklaw05.LineRounds': WHATEVER THE INPUT: true; the input reads as it did. -/
def lineRoundsSpec : ChangeSpec := { name := "lineRounds", fn := fun _ => fun
  | [d1, d2, d3] => { results := [.lit (.bool true)], args := [d1, d2, d3] }
  | _ => none }
def lineRoundsRow : OpenClaim := { program := "ytlgjapjcdpikeaa", sum := "5981b53520f2f43f0c2caeedba7c7792d56116741fb8eca04dc9f62fe2c83e5e", func := "yearbook/yearbooklaw05.LineRounds", spec := "lineRounds", inPlace := ["math/bits.Add64", "math/bits.Sub64"], named := ["math/bits.divideError", "math/bits.overflowError"], apart := false }
def LineRoundsSaid : Prop := lineRoundsRow.holds Try.pinned (OpenSpec.ofChange lineRoundsSpec)

/-- ITS FALSE NEIGHBOUR: 'it returns false'. Refute it at one input. -/
def lineRoundsWrong : ChangeSpec := { name := "lineRounds", fn := fun _ => fun
  | [d1, d2, d3] => { results := [.lit (.bool false)], args := [d1, d2, d3] }
  | _ => none }
def LineRoundsWrongFalsely : Prop := lineRoundsRow.holds Try.pinned (OpenSpec.ofChange lineRoundsWrong)

/-- 'yearbooklaw05.LineMoves': WHATEVER THE INPUT: true; the input reads as it did. -/
def lineMovesSpec : ChangeSpec := { name := "lineMoves", fn := fun _ => fun
  | [d1, d2, d3] => { results := [.lit (.bool true)], args := [d1, d2, d3] }
  | _ => none }
def lineMovesRow : OpenClaim := { program := "ytlgjapjcdpikeaa", sum := "5981b53520f2f43f0c2caeedba7c7792d56116741fb8eca04dc9f62fe2c83e5e", func := "yearbook/yearbooklaw05.LineMoves", spec := "lineMoves", inPlace := ["math/bits.Add64", "math/bits.Sub64"], named := ["math/bits.divideError", "math/bits.overflowError"], apart := false }
def LineMovesSaid : Prop := lineMovesRow.holds Try.pinned (OpenSpec.ofChange lineMovesSpec)

/-- ITS FALSE NEIGHBOUR: 'it returns false'. Refute it at one input. -/
def lineMovesWrong : ChangeSpec := { name := "lineMoves", fn := fun _ => fun
  | [d1, d2, d3] => { results := [.lit (.bool false)], args := [d1, d2, d3] }
  | _ => none }
def LineMovesWrongFalsely : Prop := lineMovesRow.holds Try.pinned (OpenSpec.ofChange lineMovesWrong)

/-- 'yearbooklaw05.LineLowest': WHATEVER THE INPUT: true; the input reads as it did. -/
def lineLowestSpec : ChangeSpec := { name := "lineLowest", fn := fun _ => fun
  | [d1, d2, d3] => { results := [.lit (.bool true)], args := [d1, d2, d3] }
  | _ => none }
def lineLowestRow : OpenClaim := { program := "ytlgjapjcdpikeaa", sum := "5981b53520f2f43f0c2caeedba7c7792d56116741fb8eca04dc9f62fe2c83e5e", func := "yearbook/yearbooklaw05.LineLowest", spec := "lineLowest", inPlace := ["math/bits.Add64", "math/bits.Sub64"], named := ["math/bits.divideError", "math/bits.overflowError"], apart := false }
def LineLowestSaid : Prop := lineLowestRow.holds Try.pinned (OpenSpec.ofChange lineLowestSpec)

/-- ITS FALSE NEIGHBOUR: 'it returns false'. Refute it at one input. -/
def lineLowestWrong : ChangeSpec := { name := "lineLowest", fn := fun _ => fun
  | [d1, d2, d3] => { results := [.lit (.bool false)], args := [d1, d2, d3] }
  | _ => none }
def LineLowestWrongFalsely : Prop := lineLowestRow.holds Try.pinned (OpenSpec.ofChange lineLowestWrong)

/-- 'yearbooklaw05.LineSlopes': WHATEVER THE INPUT: true; the input reads as it did. -/
def lineSlopesSpec : ChangeSpec := { name := "lineSlopes", fn := fun _ => fun
  | [d1, d2] => { results := [.lit (.bool true)], args := [d1, d2] }
  | _ => none }
def lineSlopesRow : OpenClaim := { program := "ytlgjapjcdpikeaa", sum := "5981b53520f2f43f0c2caeedba7c7792d56116741fb8eca04dc9f62fe2c83e5e", func := "yearbook/yearbooklaw05.LineSlopes", spec := "lineSlopes", inPlace := ["math/bits.Add64", "math/bits.Sub64"], named := ["math/bits.divideError", "math/bits.overflowError"], apart := false }
def LineSlopesSaid : Prop := lineSlopesRow.holds Try.pinned (OpenSpec.ofChange lineSlopesSpec)

/-- ITS FALSE NEIGHBOUR: 'it returns false'. Refute it at one input. -/
def lineSlopesWrong : ChangeSpec := { name := "lineSlopes", fn := fun _ => fun
  | [d1, d2] => { results := [.lit (.bool false)], args := [d1, d2] }
  | _ => none }
def LineSlopesWrongFalsely : Prop := lineSlopesRow.holds Try.pinned (OpenSpec.ofChange lineSlopesWrong)

/-- 'yearbooklaw05.LineMakes': WHATEVER THE INPUT: true; the input reads as it did. -/
def lineMakesSpec : ChangeSpec := { name := "lineMakes", fn := fun _ => fun
  | [d1, d2, d3] => { results := [.lit (.bool true)], args := [d1, d2, d3] }
  | _ => none }
def lineMakesRow : OpenClaim := { program := "ytlgjapjcdpikeaa", sum := "5981b53520f2f43f0c2caeedba7c7792d56116741fb8eca04dc9f62fe2c83e5e", func := "yearbook/yearbooklaw05.LineMakes", spec := "lineMakes", inPlace := ["math/bits.Add64", "math/bits.Sub64"], named := ["math/bits.divideError", "math/bits.overflowError"], apart := false }
def LineMakesSaid : Prop := lineMakesRow.holds Try.pinned (OpenSpec.ofChange lineMakesSpec)

/-- ITS FALSE NEIGHBOUR: 'it returns false'. Refute it at one input. -/
def lineMakesWrong : ChangeSpec := { name := "lineMakes", fn := fun _ => fun
  | [d1, d2, d3] => { results := [.lit (.bool false)], args := [d1, d2, d3] }
  | _ => none }
def LineMakesWrongFalsely : Prop := lineMakesRow.holds Try.pinned (OpenSpec.ofChange lineMakesWrong)

/-- 'yearbooklaw05.LineValues': WHATEVER THE INPUT: true; the input reads as it did. -/
def lineValuesSpec : ChangeSpec := { name := "lineValues", fn := fun _ => fun
  | [d1, d2, d3, d4, d5] => { results := [.lit (.bool true)], args := [d1, d2, d3, d4, d5] }
  | _ => none }
def lineValuesRow : OpenClaim := { program := "ytlgjapjcdpikeaa", sum := "5981b53520f2f43f0c2caeedba7c7792d56116741fb8eca04dc9f62fe2c83e5e", func := "yearbook/yearbooklaw05.LineValues", spec := "lineValues", inPlace := ["math/bits.Add64", "math/bits.Sub64"], unfollowed := true, recurses := true, named := ["math/bits.divideError", "math/bits.overflowError"], apart := false }
def LineValuesSaid : Prop := lineValuesRow.holds Try.pinned (OpenSpec.ofChange lineValuesSpec)

/-- ITS FALSE NEIGHBOUR: 'it returns false'. Refute it at one input. -/
def lineValuesWrong : ChangeSpec := { name := "lineValues", fn := fun _ => fun
  | [d1, d2, d3, d4, d5] => { results := [.lit (.bool false)], args := [d1, d2, d3, d4, d5] }
  | _ => none }
def LineValuesWrongFalsely : Prop := lineValuesRow.holds Try.pinned (OpenSpec.ofChange lineValuesWrong)

/-- 'yearbooklaw05.LineRises': WHATEVER THE INPUT: true; the input reads as it did. -/
def lineRisesSpec : ChangeSpec := { name := "lineRises", fn := fun _ => fun
  | [d1, d2, d3, d4] => { results := [.lit (.bool true)], args := [d1, d2, d3, d4] }
  | _ => none }
def lineRisesRow : OpenClaim := { program := "ytlgjapjcdpikeaa", sum := "5981b53520f2f43f0c2caeedba7c7792d56116741fb8eca04dc9f62fe2c83e5e", func := "yearbook/yearbooklaw05.LineRises", spec := "lineRises", inPlace := ["math/bits.Add64", "math/bits.Sub64"], unfollowed := true, recurses := true, named := ["math/bits.divideError", "math/bits.overflowError"], apart := false }
def LineRisesSaid : Prop := lineRisesRow.holds Try.pinned (OpenSpec.ofChange lineRisesSpec)

/-- ITS FALSE NEIGHBOUR: 'it returns false'. Refute it at one input. -/
def lineRisesWrong : ChangeSpec := { name := "lineRises", fn := fun _ => fun
  | [d1, d2, d3, d4] => { results := [.lit (.bool false)], args := [d1, d2, d3, d4] }
  | _ => none }
def LineRisesWrongFalsely : Prop := lineRisesRow.holds Try.pinned (OpenSpec.ofChange lineRisesWrong)

/-- 'yearbooklaw06.FsumSums': WHATEVER THE INPUT: true; the input reads as it did. -/
def fsumSumsSpec : ChangeSpec := { name := "fsumSums", fn := fun _ => fun
  | [d] => { results := [.lit (.bool true)], args := [d] }
  | _ => none }
def fsumSumsRow : OpenClaim := { program := "ytlgjapjcdpikeaa", sum := "5981b53520f2f43f0c2caeedba7c7792d56116741fb8eca04dc9f62fe2c83e5e", func := "yearbook/yearbooklaw06.FsumSums", spec := "fsumSums", inPlace := ["math/bits.Sub64", "math/bits.Add64"], unfollowed := true, recurses := true, named := ["math/bits.divideError", "math/bits.overflowError"], apart := false }
def FsumSumsSaid : Prop := fsumSumsRow.holds Try.pinned (OpenSpec.ofChange fsumSumsSpec)

/-- ITS FALSE NEIGHBOUR: 'it returns false'. Refute it at one input. -/
def fsumSumsWrong : ChangeSpec := { name := "fsumSums", fn := fun _ => fun
  | [d] => { results := [.lit (.bool false)], args := [d] }
  | _ => none }
def FsumSumsWrongFalsely : Prop := fsumSumsRow.holds Try.pinned (OpenSpec.ofChange fsumSumsWrong)

/-- 'yearbooklaw06.FsumLines': WHATEVER THE INPUT: true; the input reads as it did. -/
def fsumLinesSpec : ChangeSpec := { name := "fsumLines", fn := fun _ => fun
  | [d1, d2] => { results := [.lit (.bool true)], args := [d1, d2] }
  | _ => none }
def fsumLinesRow : OpenClaim := { program := "ytlgjapjcdpikeaa", sum := "5981b53520f2f43f0c2caeedba7c7792d56116741fb8eca04dc9f62fe2c83e5e", func := "yearbook/yearbooklaw06.FsumLines", spec := "fsumLines", inPlace := ["math/bits.Sub64", "math/bits.Add64"], unfollowed := true, recurses := true, named := ["math/bits.divideError", "math/bits.overflowError"], apart := false }
def FsumLinesSaid : Prop := fsumLinesRow.holds Try.pinned (OpenSpec.ofChange fsumLinesSpec)

/-- ITS FALSE NEIGHBOUR: 'it returns false'. Refute it at one input. -/
def fsumLinesWrong : ChangeSpec := { name := "fsumLines", fn := fun _ => fun
  | [d1, d2] => { results := [.lit (.bool false)], args := [d1, d2] }
  | _ => none }
def FsumLinesWrongFalsely : Prop := fsumLinesRow.holds Try.pinned (OpenSpec.ofChange fsumLinesWrong)

/-- 'yearbooklaw06.FsumSplits': WHATEVER THE INPUT: true; the input reads as it did. -/
def fsumSplitsSpec : ChangeSpec := { name := "fsumSplits", fn := fun _ => fun
  | [d1, d2] => { results := [.lit (.bool true)], args := [d1, d2] }
  | _ => none }
def fsumSplitsRow : OpenClaim := { program := "ytlgjapjcdpikeaa", sum := "5981b53520f2f43f0c2caeedba7c7792d56116741fb8eca04dc9f62fe2c83e5e", func := "yearbook/yearbooklaw06.FsumSplits", spec := "fsumSplits", inPlace := ["math/bits.Sub64", "math/bits.Add64"], unfollowed := true, recurses := true, named := ["math/bits.divideError", "math/bits.overflowError"], apart := false }
def FsumSplitsSaid : Prop := fsumSplitsRow.holds Try.pinned (OpenSpec.ofChange fsumSplitsSpec)

/-- ITS FALSE NEIGHBOUR: 'it returns false'. Refute it at one input. -/
def fsumSplitsWrong : ChangeSpec := { name := "fsumSplits", fn := fun _ => fun
  | [d1, d2] => { results := [.lit (.bool false)], args := [d1, d2] }
  | _ => none }
def FsumSplitsWrongFalsely : Prop := fsumSplitsRow.holds Try.pinned (OpenSpec.ofChange fsumSplitsWrong)

/-- 'yearbooklaw06.FsumTurns': WHATEVER THE INPUT: true; the input reads as it did. -/
def fsumTurnsSpec : ChangeSpec := { name := "fsumTurns", fn := fun _ => fun
  | [d] => { results := [.lit (.bool true)], args := [d] }
  | _ => none }
def fsumTurnsRow : OpenClaim := { program := "ytlgjapjcdpikeaa", sum := "5981b53520f2f43f0c2caeedba7c7792d56116741fb8eca04dc9f62fe2c83e5e", func := "yearbook/yearbooklaw06.FsumTurns", spec := "fsumTurns", inPlace := ["math/bits.Sub64", "math/bits.Add64"], unfollowed := true, recurses := true, named := ["math/bits.divideError", "math/bits.overflowError"], apart := false }
def FsumTurnsSaid : Prop := fsumTurnsRow.holds Try.pinned (OpenSpec.ofChange fsumTurnsSpec)

/-- ITS FALSE NEIGHBOUR: 'it returns false'. Refute it at one input. -/
def fsumTurnsWrong : ChangeSpec := { name := "fsumTurns", fn := fun _ => fun
  | [d] => { results := [.lit (.bool false)], args := [d] }
  | _ => none }
def FsumTurnsWrongFalsely : Prop := fsumTurnsRow.holds Try.pinned (OpenSpec.ofChange fsumTurnsWrong)

/-- 'yearbooklaw06.FsumGreater': WHATEVER THE INPUT: true; the input reads as it did. -/
def fsumGreaterSpec : ChangeSpec := { name := "fsumGreater", fn := fun _ => fun
  | [d] => { results := [.lit (.bool true)], args := [d] }
  | _ => none }
def fsumGreaterRow : OpenClaim := { program := "ytlgjapjcdpikeaa", sum := "5981b53520f2f43f0c2caeedba7c7792d56116741fb8eca04dc9f62fe2c83e5e", func := "yearbook/yearbooklaw06.FsumGreater", spec := "fsumGreater", inPlace := ["math/bits.Sub64", "math/bits.Add64"], unfollowed := true, recurses := true, named := ["math/bits.divideError", "math/bits.overflowError"], apart := false }
def FsumGreaterSaid : Prop := fsumGreaterRow.holds Try.pinned (OpenSpec.ofChange fsumGreaterSpec)

/-- ITS FALSE NEIGHBOUR: 'it returns false'. Refute it at one input. -/
def fsumGreaterWrong : ChangeSpec := { name := "fsumGreater", fn := fun _ => fun
  | [d] => { results := [.lit (.bool false)], args := [d] }
  | _ => none }
def FsumGreaterWrongFalsely : Prop := fsumGreaterRow.holds Try.pinned (OpenSpec.ofChange fsumGreaterWrong)

/-- 'yearbooklaw06.FsumHermite': WHATEVER THE INPUT: true; the input reads as it did. -/
def fsumHermiteSpec : ChangeSpec := { name := "fsumHermite", fn := fun _ => fun
  | [d1, d2] => { results := [.lit (.bool true)], args := [d1, d2] }
  | _ => none }
def fsumHermiteRow : OpenClaim := { program := "ytlgjapjcdpikeaa", sum := "5981b53520f2f43f0c2caeedba7c7792d56116741fb8eca04dc9f62fe2c83e5e", func := "yearbook/yearbooklaw06.FsumHermite", spec := "fsumHermite", inPlace := ["math/bits.Sub64", "math/bits.Add64"], unfollowed := true, recurses := true, named := ["math/bits.divideError", "math/bits.overflowError"], apart := false }
def FsumHermiteSaid : Prop := fsumHermiteRow.holds Try.pinned (OpenSpec.ofChange fsumHermiteSpec)

/-- ITS FALSE NEIGHBOUR: 'it returns false'. Refute it at one input. -/
def fsumHermiteWrong : ChangeSpec := { name := "fsumHermite", fn := fun _ => fun
  | [d1, d2] => { results := [.lit (.bool false)], args := [d1, d2] }
  | _ => none }
def FsumHermiteWrongFalsely : Prop := fsumHermiteRow.holds Try.pinned (OpenSpec.ofChange fsumHermiteWrong)

/-- 'yearbooklaw06.FsumReciprocal': WHATEVER THE INPUT: true; the input reads as it did. -/
def fsumReciprocalSpec : ChangeSpec := { name := "fsumReciprocal", fn := fun _ => fun
  | [d1, d2] => { results := [.lit (.bool true)], args := [d1, d2] }
  | _ => none }
def fsumReciprocalRow : OpenClaim := { program := "ytlgjapjcdpikeaa", sum := "5981b53520f2f43f0c2caeedba7c7792d56116741fb8eca04dc9f62fe2c83e5e", func := "yearbook/yearbooklaw06.FsumReciprocal", spec := "fsumReciprocal", inPlace := ["math/bits.Sub64", "math/bits.Add64"], unfollowed := true, recurses := true, named := ["math/bits.divideError", "math/bits.overflowError"], apart := false }
def FsumReciprocalSaid : Prop := fsumReciprocalRow.holds Try.pinned (OpenSpec.ofChange fsumReciprocalSpec)

/-- ITS FALSE NEIGHBOUR: 'it returns false'. Refute it at one input. -/
def fsumReciprocalWrong : ChangeSpec := { name := "fsumReciprocal", fn := fun _ => fun
  | [d1, d2] => { results := [.lit (.bool false)], args := [d1, d2] }
  | _ => none }
def FsumReciprocalWrongFalsely : Prop := fsumReciprocalRow.holds Try.pinned (OpenSpec.ofChange fsumReciprocalWrong)

/-- 'yearbooklaw06.FsumValues': WHATEVER THE INPUT: true; the input reads as it did. -/
def fsumValuesSpec : ChangeSpec := { name := "fsumValues", fn := fun _ => fun
  | [d1, d2, d3] => { results := [.lit (.bool true)], args := [d1, d2, d3] }
  | _ => none }
def fsumValuesRow : OpenClaim := { program := "ytlgjapjcdpikeaa", sum := "5981b53520f2f43f0c2caeedba7c7792d56116741fb8eca04dc9f62fe2c83e5e", func := "yearbook/yearbooklaw06.FsumValues", spec := "fsumValues", inPlace := ["math/bits.Sub64", "math/bits.Add64"], unfollowed := true, recurses := true, named := ["math/bits.divideError", "math/bits.overflowError"], apart := false }
def FsumValuesSaid : Prop := fsumValuesRow.holds Try.pinned (OpenSpec.ofChange fsumValuesSpec)

/-- ITS FALSE NEIGHBOUR: 'it returns false'. Refute it at one input. -/
def fsumValuesWrong : ChangeSpec := { name := "fsumValues", fn := fun _ => fun
  | [d1, d2, d3] => { results := [.lit (.bool false)], args := [d1, d2, d3] }
  | _ => none }
def FsumValuesWrongFalsely : Prop := fsumValuesRow.holds Try.pinned (OpenSpec.ofChange fsumValuesWrong)

/- THE SECOND FORM. 'bulk': how many values and letters a reading holds, each counted each time it is reached (what is shared counts as often as it is met; a slice's spare places count too). A statement '..UptoSaid' is the law's where the arguments, and the package variables that the reading takes, are together of bulk at most 1048576: NARROWER than '..Said'. Prove '..Said' where nothing that the law and all that it calls make is longer than what came in: it says more and counts as full. Else prove '..UptoSaid'. A law counts once. -/
mutual
def uptoBulk {H : Type} : DataW H → Nat
  | .lit (.string bytes) => bytes.length + 1
  | .lit _ => 1
  | .nil => 1
  | .ptr d => uptoBulk d + 1
  | .slice elems spare => uptoBulkAll elems + uptoBulkAll spare + 1
  | .agg parts => uptoBulkAll parts + 1
  | .iface _ d => uptoBulk d + 1
  | .map entries => uptoBulkEntries entries + 1
  | .held _ => 1
def uptoBulkAll {H : Type} : List (DataW H) → Nat
  | [] => 0
  | d :: r => uptoBulk d + uptoBulkAll r
def uptoBulkEntries {H : Type} : List (Lit × DataW H) → Nat
  | [] => 0
  | x :: r => uptoBulkEntry x + uptoBulkEntries r
def uptoBulkEntry {H : Type} : Lit × DataW H → Nat
  | (.string bytes, d) => bytes.length + uptoBulk d + 1
  | (_, d) => uptoBulk d + 1
 end
def uptoSmall : (H : Type) → List (DataW H) → Bool := fun _ ds => decide (uptoBulkAll ds ≤ 1048576)
def OpenSpec.upto (s : _root_.Go.ChangeSpec) : _root_.Go.OpenSpec := { _root_.Go.OpenSpec.ofChange s with cond := some uptoSmall }

/-- 'yearbooklaw05.LineSteps', WHERE WHAT IT READS IS OF BULK AT MOST 1048576: true; the input reads as it did. -/
def lineStepsUptoRow : OpenClaim := { program := "ytlgjapjcdpikeaa", sum := "5981b53520f2f43f0c2caeedba7c7792d56116741fb8eca04dc9f62fe2c83e5e", func := "yearbook/yearbooklaw05.LineSteps", spec := "lineSteps", inPlace := ["math/bits.Add64", "math/bits.Sub64"], named := ["math/bits.divideError", "math/bits.overflowError"], apart := false, narrowed := true }
def LineStepsUptoSaid : Prop := lineStepsUptoRow.holds Try.pinned (OpenSpec.upto lineStepsSpec)

/-- 'yearbooklaw05.LineRounds', WHERE WHAT IT READS IS OF BULK AT MOST 1048576: true; the input reads as it did. -/
def lineRoundsUptoRow : OpenClaim := { program := "ytlgjapjcdpikeaa", sum := "5981b53520f2f43f0c2caeedba7c7792d56116741fb8eca04dc9f62fe2c83e5e", func := "yearbook/yearbooklaw05.LineRounds", spec := "lineRounds", inPlace := ["math/bits.Add64", "math/bits.Sub64"], named := ["math/bits.divideError", "math/bits.overflowError"], apart := false, narrowed := true }
def LineRoundsUptoSaid : Prop := lineRoundsUptoRow.holds Try.pinned (OpenSpec.upto lineRoundsSpec)

/-- 'yearbooklaw05.LineMoves', WHERE WHAT IT READS IS OF BULK AT MOST 1048576: true; the input reads as it did. -/
def lineMovesUptoRow : OpenClaim := { program := "ytlgjapjcdpikeaa", sum := "5981b53520f2f43f0c2caeedba7c7792d56116741fb8eca04dc9f62fe2c83e5e", func := "yearbook/yearbooklaw05.LineMoves", spec := "lineMoves", inPlace := ["math/bits.Add64", "math/bits.Sub64"], named := ["math/bits.divideError", "math/bits.overflowError"], apart := false, narrowed := true }
def LineMovesUptoSaid : Prop := lineMovesUptoRow.holds Try.pinned (OpenSpec.upto lineMovesSpec)

/-- 'yearbooklaw05.LineLowest', WHERE WHAT IT READS IS OF BULK AT MOST 1048576: true; the input reads as it did. -/
def lineLowestUptoRow : OpenClaim := { program := "ytlgjapjcdpikeaa", sum := "5981b53520f2f43f0c2caeedba7c7792d56116741fb8eca04dc9f62fe2c83e5e", func := "yearbook/yearbooklaw05.LineLowest", spec := "lineLowest", inPlace := ["math/bits.Add64", "math/bits.Sub64"], named := ["math/bits.divideError", "math/bits.overflowError"], apart := false, narrowed := true }
def LineLowestUptoSaid : Prop := lineLowestUptoRow.holds Try.pinned (OpenSpec.upto lineLowestSpec)

/-- 'yearbooklaw05.LineSlopes', WHERE WHAT IT READS IS OF BULK AT MOST 1048576: true; the input reads as it did. -/
def lineSlopesUptoRow : OpenClaim := { program := "ytlgjapjcdpikeaa", sum := "5981b53520f2f43f0c2caeedba7c7792d56116741fb8eca04dc9f62fe2c83e5e", func := "yearbook/yearbooklaw05.LineSlopes", spec := "lineSlopes", inPlace := ["math/bits.Add64", "math/bits.Sub64"], named := ["math/bits.divideError", "math/bits.overflowError"], apart := false, narrowed := true }
def LineSlopesUptoSaid : Prop := lineSlopesUptoRow.holds Try.pinned (OpenSpec.upto lineSlopesSpec)

/-- 'yearbooklaw05.LineMakes', WHERE WHAT IT READS IS OF BULK AT MOST 1048576: true; the input reads as it did. -/
def lineMakesUptoRow : OpenClaim := { program := "ytlgjapjcdpikeaa", sum := "5981b53520f2f43f0c2caeedba7c7792d56116741fb8eca04dc9f62fe2c83e5e", func := "yearbook/yearbooklaw05.LineMakes", spec := "lineMakes", inPlace := ["math/bits.Add64", "math/bits.Sub64"], named := ["math/bits.divideError", "math/bits.overflowError"], apart := false, narrowed := true }
def LineMakesUptoSaid : Prop := lineMakesUptoRow.holds Try.pinned (OpenSpec.upto lineMakesSpec)

/-- 'yearbooklaw05.LineValues', WHERE WHAT IT READS IS OF BULK AT MOST 1048576: true; the input reads as it did. -/
def lineValuesUptoRow : OpenClaim := { program := "ytlgjapjcdpikeaa", sum := "5981b53520f2f43f0c2caeedba7c7792d56116741fb8eca04dc9f62fe2c83e5e", func := "yearbook/yearbooklaw05.LineValues", spec := "lineValues", inPlace := ["math/bits.Add64", "math/bits.Sub64"], unfollowed := true, recurses := true, named := ["math/bits.divideError", "math/bits.overflowError"], apart := false, narrowed := true }
def LineValuesUptoSaid : Prop := lineValuesUptoRow.holds Try.pinned (OpenSpec.upto lineValuesSpec)

/-- 'yearbooklaw05.LineRises', WHERE WHAT IT READS IS OF BULK AT MOST 1048576: true; the input reads as it did. -/
def lineRisesUptoRow : OpenClaim := { program := "ytlgjapjcdpikeaa", sum := "5981b53520f2f43f0c2caeedba7c7792d56116741fb8eca04dc9f62fe2c83e5e", func := "yearbook/yearbooklaw05.LineRises", spec := "lineRises", inPlace := ["math/bits.Add64", "math/bits.Sub64"], unfollowed := true, recurses := true, named := ["math/bits.divideError", "math/bits.overflowError"], apart := false, narrowed := true }
def LineRisesUptoSaid : Prop := lineRisesUptoRow.holds Try.pinned (OpenSpec.upto lineRisesSpec)

/-- 'yearbooklaw06.FsumSums', WHERE WHAT IT READS IS OF BULK AT MOST 1048576: true; the input reads as it did. -/
def fsumSumsUptoRow : OpenClaim := { program := "ytlgjapjcdpikeaa", sum := "5981b53520f2f43f0c2caeedba7c7792d56116741fb8eca04dc9f62fe2c83e5e", func := "yearbook/yearbooklaw06.FsumSums", spec := "fsumSums", inPlace := ["math/bits.Sub64", "math/bits.Add64"], unfollowed := true, recurses := true, named := ["math/bits.divideError", "math/bits.overflowError"], apart := false, narrowed := true }
def FsumSumsUptoSaid : Prop := fsumSumsUptoRow.holds Try.pinned (OpenSpec.upto fsumSumsSpec)

/-- 'yearbooklaw06.FsumLines', WHERE WHAT IT READS IS OF BULK AT MOST 1048576: true; the input reads as it did. -/
def fsumLinesUptoRow : OpenClaim := { program := "ytlgjapjcdpikeaa", sum := "5981b53520f2f43f0c2caeedba7c7792d56116741fb8eca04dc9f62fe2c83e5e", func := "yearbook/yearbooklaw06.FsumLines", spec := "fsumLines", inPlace := ["math/bits.Sub64", "math/bits.Add64"], unfollowed := true, recurses := true, named := ["math/bits.divideError", "math/bits.overflowError"], apart := false, narrowed := true }
def FsumLinesUptoSaid : Prop := fsumLinesUptoRow.holds Try.pinned (OpenSpec.upto fsumLinesSpec)

/-- 'yearbooklaw06.FsumSplits', WHERE WHAT IT READS IS OF BULK AT MOST 1048576: true; the input reads as it did. -/
def fsumSplitsUptoRow : OpenClaim := { program := "ytlgjapjcdpikeaa", sum := "5981b53520f2f43f0c2caeedba7c7792d56116741fb8eca04dc9f62fe2c83e5e", func := "yearbook/yearbooklaw06.FsumSplits", spec := "fsumSplits", inPlace := ["math/bits.Sub64", "math/bits.Add64"], unfollowed := true, recurses := true, named := ["math/bits.divideError", "math/bits.overflowError"], apart := false, narrowed := true }
def FsumSplitsUptoSaid : Prop := fsumSplitsUptoRow.holds Try.pinned (OpenSpec.upto fsumSplitsSpec)

/-- 'yearbooklaw06.FsumTurns', WHERE WHAT IT READS IS OF BULK AT MOST 1048576: true; the input reads as it did. -/
def fsumTurnsUptoRow : OpenClaim := { program := "ytlgjapjcdpikeaa", sum := "5981b53520f2f43f0c2caeedba7c7792d56116741fb8eca04dc9f62fe2c83e5e", func := "yearbook/yearbooklaw06.FsumTurns", spec := "fsumTurns", inPlace := ["math/bits.Sub64", "math/bits.Add64"], unfollowed := true, recurses := true, named := ["math/bits.divideError", "math/bits.overflowError"], apart := false, narrowed := true }
def FsumTurnsUptoSaid : Prop := fsumTurnsUptoRow.holds Try.pinned (OpenSpec.upto fsumTurnsSpec)

/-- 'yearbooklaw06.FsumGreater', WHERE WHAT IT READS IS OF BULK AT MOST 1048576: true; the input reads as it did. -/
def fsumGreaterUptoRow : OpenClaim := { program := "ytlgjapjcdpikeaa", sum := "5981b53520f2f43f0c2caeedba7c7792d56116741fb8eca04dc9f62fe2c83e5e", func := "yearbook/yearbooklaw06.FsumGreater", spec := "fsumGreater", inPlace := ["math/bits.Sub64", "math/bits.Add64"], unfollowed := true, recurses := true, named := ["math/bits.divideError", "math/bits.overflowError"], apart := false, narrowed := true }
def FsumGreaterUptoSaid : Prop := fsumGreaterUptoRow.holds Try.pinned (OpenSpec.upto fsumGreaterSpec)

/-- 'yearbooklaw06.FsumHermite', WHERE WHAT IT READS IS OF BULK AT MOST 1048576: true; the input reads as it did. -/
def fsumHermiteUptoRow : OpenClaim := { program := "ytlgjapjcdpikeaa", sum := "5981b53520f2f43f0c2caeedba7c7792d56116741fb8eca04dc9f62fe2c83e5e", func := "yearbook/yearbooklaw06.FsumHermite", spec := "fsumHermite", inPlace := ["math/bits.Sub64", "math/bits.Add64"], unfollowed := true, recurses := true, named := ["math/bits.divideError", "math/bits.overflowError"], apart := false, narrowed := true }
def FsumHermiteUptoSaid : Prop := fsumHermiteUptoRow.holds Try.pinned (OpenSpec.upto fsumHermiteSpec)

/-- 'yearbooklaw06.FsumReciprocal', WHERE WHAT IT READS IS OF BULK AT MOST 1048576: true; the input reads as it did. -/
def fsumReciprocalUptoRow : OpenClaim := { program := "ytlgjapjcdpikeaa", sum := "5981b53520f2f43f0c2caeedba7c7792d56116741fb8eca04dc9f62fe2c83e5e", func := "yearbook/yearbooklaw06.FsumReciprocal", spec := "fsumReciprocal", inPlace := ["math/bits.Sub64", "math/bits.Add64"], unfollowed := true, recurses := true, named := ["math/bits.divideError", "math/bits.overflowError"], apart := false, narrowed := true }
def FsumReciprocalUptoSaid : Prop := fsumReciprocalUptoRow.holds Try.pinned (OpenSpec.upto fsumReciprocalSpec)

/-- 'yearbooklaw06.FsumValues', WHERE WHAT IT READS IS OF BULK AT MOST 1048576: true; the input reads as it did. -/
def fsumValuesUptoRow : OpenClaim := { program := "ytlgjapjcdpikeaa", sum := "5981b53520f2f43f0c2caeedba7c7792d56116741fb8eca04dc9f62fe2c83e5e", func := "yearbook/yearbooklaw06.FsumValues", spec := "fsumValues", inPlace := ["math/bits.Sub64", "math/bits.Add64"], unfollowed := true, recurses := true, named := ["math/bits.divideError", "math/bits.overflowError"], apart := false, narrowed := true }
def FsumValuesUptoSaid : Prop := fsumValuesUptoRow.holds Try.pinned (OpenSpec.upto fsumValuesSpec)

end Rows
end Go.Proofs.Ytlgjapjcdpikeaa
