/-
  DERIVED. GIVEN WITH THE SEED: THE CARDS: each row of YtbiedfkmmcaplaaGreatDoorRows.lean that lists a variable, with what it lists TIED to the program's text (the seventh form; the later family's looks); each row that meets fmt, with fmt's text TOLD by the authors' own Lean function (tested against real Go, not proved from fmt's source: count such statements apart). THE CARD IS WHAT COUNTS. Prove the row's statement (the work); the ties are given (YtbiedfkmmcaplaaGreatDoorTie.lean); close each card by the builder's one call (the guide's Derived/Test/ToyasCard.lean, 'card_holds'). Laid BY PROGRAM, IN A SANDBOX (cutbox-door.mjs). By AI agents, Wed Nov 11 2026. No macro, syntax, notation, axiom, sorry.
-/
import Derived.Test.YtbiedfkmmcaplaaGreatDoorRows
import GoSem.ClaimSeven
namespace Go.Proofs.YtbiedfkmmcaplaaGreatDoor
namespace Rows

/-- THE TIED CARD OF 'yearbooklaw31.ConsoleWrong'. -/
def consoleWrongCard : Claim7 := { stood := { row := consoleWrongRow, standIns := [], harness := (true, "86eff86750f251418d89d7047139fbf4f24d4e433466dfb3b30ab6f2c06be371"), looks := true }, kinds := [], alts := [], laidByText := true, laidKinds := [.pinned, .data, .sentinel, .sentinel, .data, .data, .data, .data], laidTests := true, laidLooks := .later }
def ConsoleWrongCardSaid : Prop := Claim7.holds Tryz.pinned (.plain (OpenSpec.ofChange consoleWrongSpec)) consoleWrongCard

/-- THE SECOND FORM's CARD OF 'yearbooklaw31.ConsoleWrong'. -/
def consoleWrongUptoCard : Claim7 := { stood := { row := consoleWrongUptoRow, standIns := [], harness := (true, "86eff86750f251418d89d7047139fbf4f24d4e433466dfb3b30ab6f2c06be371"), looks := true }, kinds := [], alts := [], laidByText := true, laidKinds := [.pinned, .data, .sentinel, .sentinel, .data, .data, .data, .data], laidTests := true, laidLooks := .later }
def ConsoleWrongUptoCardSaid : Prop := Claim7.holds Tryz.pinned (.plain (OpenSpec.upto consoleWrongSpec)) consoleWrongUptoCard
end Rows
end Go.Proofs.YtbiedfkmmcaplaaGreatDoor
