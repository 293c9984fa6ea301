/-
  DERIVED. GIVEN WITH THE SEED: THE CARDS: each row of YtpimkigbdjfjoaaDoorRows.lean that lists a variable, with what it lists TIED to the program's text (the seventh form; the later family's looks); each row that meets fmt, with fmt's text TOLD by the authors' own Lean function (tested against real Go, not proved from fmt's source: count such statements apart). THE CARD IS WHAT COUNTS. Prove the row's statement (the work); the ties are given (YtpimkigbdjfjoaaDoorTie.lean); close each card by the builder's one call (the guide's Derived/Test/ToyasCard.lean, 'card_holds'). Laid BY PROGRAM, IN A SANDBOX (cutbox-door.mjs). By AI agents, Wed Nov 11 2026. No macro, syntax, notation, axiom, sorry.
-/
import Derived.Test.YtpimkigbdjfjoaaDoorRows
import GoSem.ClaimSeven
namespace Go.Proofs.YtpimkigbdjfjoaaDoor
namespace Rows

/-- THE TIED CARD OF 'yearbooklaw10.SlideFits'. -/
def slideFitsCard : Claim7 := { stood := { row := slideFitsRow, standIns := [], harness := (true, "a63524067f8defbc3c451e3b754fc8ea657b35286d785a7ad3e05f7b931c8d89"), looks := false }, kinds := [], alts := [], laidByText := true, laidKinds := [.data], laidTests := true, laidLooks := .later }
def SlideFitsCardSaid : Prop := Claim7.holds Tryd.pinned (.plain (OpenSpec.ofChange slideFitsSpec)) slideFitsCard

/-- THE TIED CARD OF 'yearbooklaw10.SlideThrough'. -/
def slideThroughCard : Claim7 := { stood := { row := slideThroughRow, standIns := [], harness := (true, "a63524067f8defbc3c451e3b754fc8ea657b35286d785a7ad3e05f7b931c8d89"), looks := false }, kinds := [], alts := [], laidByText := true, laidKinds := [.data], laidTests := true, laidLooks := .later }
def SlideThroughCardSaid : Prop := Claim7.holds Tryd.pinned (.plain (OpenSpec.ofChange slideThroughSpec)) slideThroughCard

/-- THE TIED CARD OF 'yearbooklaw10.SlideCuts'. -/
def slideCutsCard : Claim7 := { stood := { row := slideCutsRow, standIns := [], harness := (true, "a63524067f8defbc3c451e3b754fc8ea657b35286d785a7ad3e05f7b931c8d89"), looks := false }, kinds := [], alts := [], laidByText := true, laidKinds := [.data], laidTests := true, laidLooks := .later }
def SlideCutsCardSaid : Prop := Claim7.holds Tryd.pinned (.plain (OpenSpec.ofChange slideCutsSpec)) slideCutsCard

/-- THE TIED CARD OF 'yearbooklaw10.SlideAny'. -/
def slideAnyCard : Claim7 := { stood := { row := slideAnyRow, standIns := [], harness := (true, "a63524067f8defbc3c451e3b754fc8ea657b35286d785a7ad3e05f7b931c8d89"), looks := false }, kinds := [], alts := [], laidByText := true, laidKinds := [.data], laidTests := true, laidLooks := .later }
def SlideAnyCardSaid : Prop := Claim7.holds Tryd.pinned (.plain (OpenSpec.ofChange slideAnySpec)) slideAnyCard

/-- THE TIED CARD OF 'yearbooklaw10.SlideLeast'. -/
def slideLeastCard : Claim7 := { stood := { row := slideLeastRow, standIns := [], harness := (true, "a63524067f8defbc3c451e3b754fc8ea657b35286d785a7ad3e05f7b931c8d89"), looks := false }, kinds := [], alts := [], laidByText := true, laidKinds := [.data], laidTests := true, laidLooks := .later }
def SlideLeastCardSaid : Prop := Claim7.holds Tryd.pinned (.plain (OpenSpec.ofChange slideLeastSpec)) slideLeastCard

/-- THE TIED CARD OF 'yearbooklaw10.SlideTurns'. -/
def slideTurnsCard : Claim7 := { stood := { row := slideTurnsRow, standIns := [], harness := (true, "a63524067f8defbc3c451e3b754fc8ea657b35286d785a7ad3e05f7b931c8d89"), looks := false }, kinds := [], alts := [], laidByText := true, laidKinds := [.data], laidTests := true, laidLooks := .later }
def SlideTurnsCardSaid : Prop := Claim7.holds Tryd.pinned (.plain (OpenSpec.ofChange slideTurnsSpec)) slideTurnsCard

/-- THE TIED CARD OF 'yearbooklaw10.SlideHolds'. -/
def slideHoldsCard : Claim7 := { stood := { row := slideHoldsRow, standIns := [], harness := (true, "a63524067f8defbc3c451e3b754fc8ea657b35286d785a7ad3e05f7b931c8d89"), looks := false }, kinds := [], alts := [], laidByText := true, laidKinds := [.data], laidTests := true, laidLooks := .later }
def SlideHoldsCardSaid : Prop := Claim7.holds Tryd.pinned (.plain (OpenSpec.ofChange slideHoldsSpec)) slideHoldsCard

/-- THE TIED CARD OF 'yearbooklaw10.SlideFewer'. -/
def slideFewerCard : Claim7 := { stood := { row := slideFewerRow, standIns := [], harness := (true, "a63524067f8defbc3c451e3b754fc8ea657b35286d785a7ad3e05f7b931c8d89"), looks := false }, kinds := [], alts := [], laidByText := true, laidKinds := [.data], laidTests := true, laidLooks := .later }
def SlideFewerCardSaid : Prop := Claim7.holds Tryd.pinned (.plain (OpenSpec.ofChange slideFewerSpec)) slideFewerCard

/-- THE SECOND FORM's CARD OF 'yearbooklaw10.SlideFits'. -/
def slideFitsUptoCard : Claim7 := { stood := { row := slideFitsUptoRow, standIns := [], harness := (true, "a63524067f8defbc3c451e3b754fc8ea657b35286d785a7ad3e05f7b931c8d89"), looks := false }, kinds := [], alts := [], laidByText := true, laidKinds := [.data], laidTests := true, laidLooks := .later }
def SlideFitsUptoCardSaid : Prop := Claim7.holds Tryd.pinned (.plain (OpenSpec.upto slideFitsSpec)) slideFitsUptoCard

/-- THE SECOND FORM's CARD OF 'yearbooklaw10.SlideThrough'. -/
def slideThroughUptoCard : Claim7 := { stood := { row := slideThroughUptoRow, standIns := [], harness := (true, "a63524067f8defbc3c451e3b754fc8ea657b35286d785a7ad3e05f7b931c8d89"), looks := false }, kinds := [], alts := [], laidByText := true, laidKinds := [.data], laidTests := true, laidLooks := .later }
def SlideThroughUptoCardSaid : Prop := Claim7.holds Tryd.pinned (.plain (OpenSpec.upto slideThroughSpec)) slideThroughUptoCard

/-- THE SECOND FORM's CARD OF 'yearbooklaw10.SlideCuts'. -/
def slideCutsUptoCard : Claim7 := { stood := { row := slideCutsUptoRow, standIns := [], harness := (true, "a63524067f8defbc3c451e3b754fc8ea657b35286d785a7ad3e05f7b931c8d89"), looks := false }, kinds := [], alts := [], laidByText := true, laidKinds := [.data], laidTests := true, laidLooks := .later }
def SlideCutsUptoCardSaid : Prop := Claim7.holds Tryd.pinned (.plain (OpenSpec.upto slideCutsSpec)) slideCutsUptoCard

/-- THE SECOND FORM's CARD OF 'yearbooklaw10.SlideAny'. -/
def slideAnyUptoCard : Claim7 := { stood := { row := slideAnyUptoRow, standIns := [], harness := (true, "a63524067f8defbc3c451e3b754fc8ea657b35286d785a7ad3e05f7b931c8d89"), looks := false }, kinds := [], alts := [], laidByText := true, laidKinds := [.data], laidTests := true, laidLooks := .later }
def SlideAnyUptoCardSaid : Prop := Claim7.holds Tryd.pinned (.plain (OpenSpec.upto slideAnySpec)) slideAnyUptoCard

/-- THE SECOND FORM's CARD OF 'yearbooklaw10.SlideLeast'. -/
def slideLeastUptoCard : Claim7 := { stood := { row := slideLeastUptoRow, standIns := [], harness := (true, "a63524067f8defbc3c451e3b754fc8ea657b35286d785a7ad3e05f7b931c8d89"), looks := false }, kinds := [], alts := [], laidByText := true, laidKinds := [.data], laidTests := true, laidLooks := .later }
def SlideLeastUptoCardSaid : Prop := Claim7.holds Tryd.pinned (.plain (OpenSpec.upto slideLeastSpec)) slideLeastUptoCard

/-- THE SECOND FORM's CARD OF 'yearbooklaw10.SlideTurns'. -/
def slideTurnsUptoCard : Claim7 := { stood := { row := slideTurnsUptoRow, standIns := [], harness := (true, "a63524067f8defbc3c451e3b754fc8ea657b35286d785a7ad3e05f7b931c8d89"), looks := false }, kinds := [], alts := [], laidByText := true, laidKinds := [.data], laidTests := true, laidLooks := .later }
def SlideTurnsUptoCardSaid : Prop := Claim7.holds Tryd.pinned (.plain (OpenSpec.upto slideTurnsSpec)) slideTurnsUptoCard

/-- THE SECOND FORM's CARD OF 'yearbooklaw10.SlideHolds'. -/
def slideHoldsUptoCard : Claim7 := { stood := { row := slideHoldsUptoRow, standIns := [], harness := (true, "a63524067f8defbc3c451e3b754fc8ea657b35286d785a7ad3e05f7b931c8d89"), looks := false }, kinds := [], alts := [], laidByText := true, laidKinds := [.data], laidTests := true, laidLooks := .later }
def SlideHoldsUptoCardSaid : Prop := Claim7.holds Tryd.pinned (.plain (OpenSpec.upto slideHoldsSpec)) slideHoldsUptoCard

/-- THE SECOND FORM's CARD OF 'yearbooklaw10.SlideFewer'. -/
def slideFewerUptoCard : Claim7 := { stood := { row := slideFewerUptoRow, standIns := [], harness := (true, "a63524067f8defbc3c451e3b754fc8ea657b35286d785a7ad3e05f7b931c8d89"), looks := false }, kinds := [], alts := [], laidByText := true, laidKinds := [.data], laidTests := true, laidLooks := .later }
def SlideFewerUptoCardSaid : Prop := Claim7.holds Tryd.pinned (.plain (OpenSpec.upto slideFewerSpec)) slideFewerUptoCard
end Rows
end Go.Proofs.YtpimkigbdjfjoaaDoor
