/-
  DERIVED. GIVEN WITH THE SEED: THE CARDS: each row of YtlnonecibpjcoaaGreatDoorRows.lean that lists a variable, with what it lists TIED to the program's text (the seventh form; the later family's looks); each row that meets fmt, with fmt's text TOLD by the authors' own Lean function (tested against real Go, not proved from fmt's source: count such statements apart). THE CARD IS WHAT COUNTS. Prove the row's statement (the work); the ties are given (YtlnonecibpjcoaaGreatDoorTie.lean); close each card by the builder's one call (the guide's Derived/Test/ToyasCard.lean, 'card_holds'). Laid BY PROGRAM, IN A SANDBOX (cutbox-door.mjs). By AI agents, Wed Nov 11 2026. No macro, syntax, notation, axiom, sorry.
-/
import Derived.Test.YtlnonecibpjcoaaGreatDoorRows
import GoSem.ClaimSeven
namespace Go.Proofs.YtlnonecibpjcoaaGreatDoor
namespace Rows

/-- THE TIED CARD OF 'yearbooklaw31.ConsoleTells'. -/
def consoleTellsCard : Claim7 := { stood := { row := consoleTellsRow, standIns := [], harness := (true, "2e837a69ed693ccbcd638a70959fef5aed422a9627c08699ff0b08b74729eb50"), looks := true }, kinds := [], alts := [], laidByText := true, laidKinds := [.pinned, .data, .sentinel, .sentinel, .data, .data, .data, .data], laidTests := true, laidLooks := .later }
def ConsoleTellsCardSaid : Prop := Claim7.holds Tryz.pinned (.plain (OpenSpec.ofChange consoleTellsSpec)) consoleTellsCard

/-- THE TIED CARD OF 'yearbooklaw31.ConsoleParses'. -/
def consoleParsesCard : Claim7 := { stood := { row := consoleParsesRow, standIns := [], harness := (true, "2e837a69ed693ccbcd638a70959fef5aed422a9627c08699ff0b08b74729eb50"), looks := true }, kinds := [], alts := [], laidByText := true, laidKinds := [.pinned, .data, .sentinel, .sentinel, .data, .data, .data, .data], laidTests := true, laidLooks := .later }
def ConsoleParsesCardSaid : Prop := Claim7.holds Tryz.pinned (.plain (OpenSpec.ofChange consoleParsesSpec)) consoleParsesCard

/-- THE TIED CARD OF 'yearbooklaw31.ConsoleLines'. -/
def consoleLinesCard : Claim7 := { stood := { row := consoleLinesRow, standIns := [], harness := (true, "2e837a69ed693ccbcd638a70959fef5aed422a9627c08699ff0b08b74729eb50"), looks := true }, kinds := [], alts := [], laidByText := true, laidKinds := [.pinned, .data, .sentinel, .sentinel, .data, .data, .data, .data], laidTests := true, laidLooks := .later }
def ConsoleLinesCardSaid : Prop := Claim7.holds Tryz.pinned (.plain (OpenSpec.ofChange consoleLinesSpec)) consoleLinesCard

/-- THE TIED CARD OF 'yearbooklaw31.ConsoleBack'. -/
def consoleBackCard : Claim7 := { stood := { row := consoleBackRow, standIns := [], harness := (true, "2e837a69ed693ccbcd638a70959fef5aed422a9627c08699ff0b08b74729eb50"), looks := true }, kinds := [], alts := [], laidByText := true, laidKinds := [.pinned, .data, .sentinel, .sentinel, .data, .data, .data, .data], laidTests := true, laidLooks := .later }
def ConsoleBackCardSaid : Prop := Claim7.holds Tryz.pinned (.plain (OpenSpec.ofChange consoleBackSpec)) consoleBackCard

/-- THE SECOND FORM's CARD OF 'yearbooklaw31.ConsoleTells'. -/
def consoleTellsUptoCard : Claim7 := { stood := { row := consoleTellsUptoRow, standIns := [], harness := (true, "2e837a69ed693ccbcd638a70959fef5aed422a9627c08699ff0b08b74729eb50"), looks := true }, kinds := [], alts := [], laidByText := true, laidKinds := [.pinned, .data, .sentinel, .sentinel, .data, .data, .data, .data], laidTests := true, laidLooks := .later }
def ConsoleTellsUptoCardSaid : Prop := Claim7.holds Tryz.pinned (.plain (OpenSpec.upto consoleTellsSpec)) consoleTellsUptoCard

/-- THE SECOND FORM's CARD OF 'yearbooklaw31.ConsoleParses'. -/
def consoleParsesUptoCard : Claim7 := { stood := { row := consoleParsesUptoRow, standIns := [], harness := (true, "2e837a69ed693ccbcd638a70959fef5aed422a9627c08699ff0b08b74729eb50"), looks := true }, kinds := [], alts := [], laidByText := true, laidKinds := [.pinned, .data, .sentinel, .sentinel, .data, .data, .data, .data], laidTests := true, laidLooks := .later }
def ConsoleParsesUptoCardSaid : Prop := Claim7.holds Tryz.pinned (.plain (OpenSpec.upto consoleParsesSpec)) consoleParsesUptoCard

/-- THE SECOND FORM's CARD OF 'yearbooklaw31.ConsoleLines'. -/
def consoleLinesUptoCard : Claim7 := { stood := { row := consoleLinesUptoRow, standIns := [], harness := (true, "2e837a69ed693ccbcd638a70959fef5aed422a9627c08699ff0b08b74729eb50"), looks := true }, kinds := [], alts := [], laidByText := true, laidKinds := [.pinned, .data, .sentinel, .sentinel, .data, .data, .data, .data], laidTests := true, laidLooks := .later }
def ConsoleLinesUptoCardSaid : Prop := Claim7.holds Tryz.pinned (.plain (OpenSpec.upto consoleLinesSpec)) consoleLinesUptoCard

/-- THE SECOND FORM's CARD OF 'yearbooklaw31.ConsoleBack'. -/
def consoleBackUptoCard : Claim7 := { stood := { row := consoleBackUptoRow, standIns := [], harness := (true, "2e837a69ed693ccbcd638a70959fef5aed422a9627c08699ff0b08b74729eb50"), looks := true }, kinds := [], alts := [], laidByText := true, laidKinds := [.pinned, .data, .sentinel, .sentinel, .data, .data, .data, .data], laidTests := true, laidLooks := .later }
def ConsoleBackUptoCardSaid : Prop := Claim7.holds Tryz.pinned (.plain (OpenSpec.upto consoleBackSpec)) consoleBackUptoCard
end Rows
end Go.Proofs.YtlnonecibpjcoaaGreatDoor
