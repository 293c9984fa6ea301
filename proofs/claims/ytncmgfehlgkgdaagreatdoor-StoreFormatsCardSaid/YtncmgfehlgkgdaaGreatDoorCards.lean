/-
  DERIVED. GIVEN WITH THE SEED: THE CARDS: each row of YtncmgfehlgkgdaaGreatDoorRows.lean that lists a variable, with what it lists TIED to the program's text (the seventh form; the later family's looks); each row that meets fmt, with fmt's text TOLD by the authors' own Lean function (tested against real Go, not proved from fmt's source: count such statements apart). THE CARD IS WHAT COUNTS. Prove the row's statement (the work); the ties are given (YtncmgfehlgkgdaaGreatDoorTie.lean); close each card by the builder's one call (the guide's Derived/Test/ToyasCard.lean, 'card_holds'). Laid BY PROGRAM, IN A SANDBOX (cutbox-door.mjs). By AI agents, Wed Nov 11 2026. No macro, syntax, notation, axiom, sorry.
-/
import Derived.Test.YtncmgfehlgkgdaaGreatDoorRows
import GoSem.ClaimSeven
namespace Go.Proofs.YtncmgfehlgkgdaaGreatDoor
namespace Rows

/-- THE TIED CARD OF 'yearbooklaw29.StoreReads'. -/
def storeReadsCard : Claim7 := { stood := { row := storeReadsRow, standIns := [], harness := (true, "0c0c6b2fa73768058d6ce03fe9a9141639a7aca36a981e61c27af20a700443ce"), looks := true }, kinds := [], alts := [], laidByText := true, laidKinds := [.data], laidTests := true, laidLooks := .later }
def StoreReadsCardSaid : Prop := Claim7.holds Tryz.pinned (.plain (OpenSpec.ofChange storeReadsSpec)) storeReadsCard

/-- THE TIED CARD OF 'yearbooklaw29.StoreFormats'. -/
def storeFormatsCard : Claim7 := { stood := { row := storeFormatsRow, standIns := [], harness := (true, "0c0c6b2fa73768058d6ce03fe9a9141639a7aca36a981e61c27af20a700443ce"), looks := true }, kinds := [], alts := [], laidByText := true, laidKinds := [.data], laidTests := true, laidLooks := .later }
def StoreFormatsCardSaid : Prop := Claim7.holds Tryz.pinned (.plain (OpenSpec.ofChange storeFormatsSpec)) storeFormatsCard

/-- THE SECOND FORM's CARD OF 'yearbooklaw29.StoreReads'. -/
def storeReadsUptoCard : Claim7 := { stood := { row := storeReadsUptoRow, standIns := [], harness := (true, "0c0c6b2fa73768058d6ce03fe9a9141639a7aca36a981e61c27af20a700443ce"), looks := true }, kinds := [], alts := [], laidByText := true, laidKinds := [.data], laidTests := true, laidLooks := .later }
def StoreReadsUptoCardSaid : Prop := Claim7.holds Tryz.pinned (.plain (OpenSpec.upto storeReadsSpec)) storeReadsUptoCard

/-- THE SECOND FORM's CARD OF 'yearbooklaw29.StoreFormats'. -/
def storeFormatsUptoCard : Claim7 := { stood := { row := storeFormatsUptoRow, standIns := [], harness := (true, "0c0c6b2fa73768058d6ce03fe9a9141639a7aca36a981e61c27af20a700443ce"), looks := true }, kinds := [], alts := [], laidByText := true, laidKinds := [.data], laidTests := true, laidLooks := .later }
def StoreFormatsUptoCardSaid : Prop := Claim7.holds Tryz.pinned (.plain (OpenSpec.upto storeFormatsSpec)) storeFormatsUptoCard
end Rows
end Go.Proofs.YtncmgfehlgkgdaaGreatDoor
