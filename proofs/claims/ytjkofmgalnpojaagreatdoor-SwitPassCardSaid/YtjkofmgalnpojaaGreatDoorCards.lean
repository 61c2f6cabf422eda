/-
  DERIVED. GIVEN WITH THE SEED: THE CARDS: each row of YtjkofmgalnpojaaGreatDoorRows.lean that lists a variable, with what it lists TIED to the program's text (the seventh form; the later family's looks); each row that meets fmt, with fmt's text TOLD by the authors' own Lean function (tested against real Go, not proved from fmt's source: count such statements apart). THE CARD IS WHAT COUNTS. Prove the row's statement (the work); the ties are given (YtjkofmgalnpojaaGreatDoorTie.lean); close each card by the builder's one call (the guide's Derived/Test/ToyasCard.lean, 'card_holds'). Laid BY PROGRAM, IN A SANDBOX (cutbox-door.mjs). By AI agents, Wed Nov 11 2026. No macro, syntax, notation, axiom, sorry.
-/
import Derived.Test.YtjkofmgalnpojaaGreatDoorRows
import GoSem.ClaimSeven
namespace Go.Proofs.YtjkofmgalnpojaaGreatDoor
namespace Rows

/-- THE TIED CARD OF 'hasplaw21.SwitPass'. -/
def switPassCard : Claim7 := { stood := { row := switPassRow, standIns := [], harness := (true, "80fbee61054a2d36130c9bc54c3af31ea2c51ac6c6ffc4afa12d5b433bb4acfd"), looks := true }, kinds := [], alts := [], laidByText := true, laidKinds := [.handle], laidTests := true, laidLooks := .later }
def SwitPassCardSaid : Prop := Claim7.holds Tryz.pinned (.plain (OpenSpec.ofChange switPassSpec)) switPassCard

/-- THE TIED CARD OF 'hasplaw10.StepPlace'. -/
def stepPlaceCard : Claim7 := { stood := { row := stepPlaceRow, standIns := [], harness := (true, "80fbee61054a2d36130c9bc54c3af31ea2c51ac6c6ffc4afa12d5b433bb4acfd"), looks := true }, kinds := [], alts := [], laidByText := true, laidKinds := [.handle], laidTests := true, laidLooks := .later }
def StepPlaceCardSaid : Prop := Claim7.holds Tryz.pinned (.plain (OpenSpec.ofChange stepPlaceSpec)) stepPlaceCard

/-- THE SECOND FORM's CARD OF 'hasplaw21.SwitPass'. -/
def switPassUptoCard : Claim7 := { stood := { row := switPassUptoRow, standIns := [], harness := (true, "80fbee61054a2d36130c9bc54c3af31ea2c51ac6c6ffc4afa12d5b433bb4acfd"), looks := true }, kinds := [], alts := [], laidByText := true, laidKinds := [.handle], laidTests := true, laidLooks := .later }
def SwitPassUptoCardSaid : Prop := Claim7.holds Tryz.pinned (.plain (OpenSpec.upto switPassSpec)) switPassUptoCard

/-- THE SECOND FORM's CARD OF 'hasplaw10.StepPlace'. -/
def stepPlaceUptoCard : Claim7 := { stood := { row := stepPlaceUptoRow, standIns := [], harness := (true, "80fbee61054a2d36130c9bc54c3af31ea2c51ac6c6ffc4afa12d5b433bb4acfd"), looks := true }, kinds := [], alts := [], laidByText := true, laidKinds := [.handle], laidTests := true, laidLooks := .later }
def StepPlaceUptoCardSaid : Prop := Claim7.holds Tryz.pinned (.plain (OpenSpec.upto stepPlaceSpec)) stepPlaceUptoCard
end Rows
end Go.Proofs.YtjkofmgalnpojaaGreatDoor
