/-
  DERIVED. GIVEN WITH THE SEED: THE CARDS: each row of YtmiiimfnehaonaaGreatDoorRows.lean that lists a variable, with what it lists TIED to the program's text (the seventh form; the later family's looks); each row that meets fmt, with fmt's text TOLD by the authors' own Lean function (tested against real Go, not proved from fmt's source: count such statements apart). THE CARD IS WHAT COUNTS. Prove the row's statement (the work); the ties are given (YtmiiimfnehaonaaGreatDoorTie.lean); close each card by the builder's one call (the guide's Derived/Test/ToyasCard.lean, 'card_holds'). Laid BY PROGRAM, IN A SANDBOX (cutbox-door.mjs). By AI agents, Wed Nov 11 2026. No macro, syntax, notation, axiom, sorry.
-/
import Derived.Test.YtmiiimfnehaonaaGreatDoorRows
import GoSem.ClaimSeven
namespace Go.Proofs.YtmiiimfnehaonaaGreatDoor
namespace Rows

/-- THE TIED CARD OF 'hasplaw10.StepLess'. -/
def stepLessCard : Claim7 := { stood := { row := stepLessRow, standIns := [], harness := (true, "211d604930fd3d49e3e112864b66f81e07a8372aa5f5259cf78e235e57d65736"), looks := true }, kinds := [], alts := [], laidByText := true, laidKinds := [.handle], laidTests := true, laidLooks := .later }
def StepLessCardSaid : Prop := Claim7.holds Tryz.pinned (.plain (OpenSpec.ofChange stepLessSpec)) stepLessCard

/-- THE TIED CARD OF 'hasplaw10.StepPlace'. -/
def stepPlaceCard : Claim7 := { stood := { row := stepPlaceRow, standIns := [], harness := (true, "211d604930fd3d49e3e112864b66f81e07a8372aa5f5259cf78e235e57d65736"), looks := true }, kinds := [], alts := [], laidByText := true, laidKinds := [.handle], laidTests := true, laidLooks := .later }
def StepPlaceCardSaid : Prop := Claim7.holds Tryz.pinned (.plain (OpenSpec.ofChange stepPlaceSpec)) stepPlaceCard

/-- THE TIED CARD OF 'hasplaw10.StepPlays'. -/
def stepPlaysCard : Claim7 := { stood := { row := stepPlaysRow, standIns := [], harness := (true, "211d604930fd3d49e3e112864b66f81e07a8372aa5f5259cf78e235e57d65736"), looks := true }, kinds := [], alts := [], laidByText := true, laidKinds := [.handle], laidTests := true, laidLooks := .later }
def StepPlaysCardSaid : Prop := Claim7.holds Tryz.pinned (.plain (OpenSpec.ofChange stepPlaysSpec)) stepPlaysCard

/-- THE TIED CARD OF 'hasplaw10.StepTwin'. -/
def stepTwinCard : Claim7 := { stood := { row := stepTwinRow, standIns := [], harness := (true, "211d604930fd3d49e3e112864b66f81e07a8372aa5f5259cf78e235e57d65736"), looks := true }, kinds := [], alts := [], laidByText := true, laidKinds := [.handle], laidTests := true, laidLooks := .later }
def StepTwinCardSaid : Prop := Claim7.holds Tryz.pinned (.plain (OpenSpec.ofChange stepTwinSpec)) stepTwinCard

/-- THE TIED CARD OF 'hasplaw10.StepNought'. -/
def stepNoughtCard : Claim7 := { stood := { row := stepNoughtRow, standIns := [], harness := (true, "211d604930fd3d49e3e112864b66f81e07a8372aa5f5259cf78e235e57d65736"), looks := true }, kinds := [], alts := [], laidByText := true, laidKinds := [.handle], laidTests := true, laidLooks := .later }
def StepNoughtCardSaid : Prop := Claim7.holds Tryz.pinned (.plain (OpenSpec.ofChange stepNoughtSpec)) stepNoughtCard

/-- THE TIED CARD OF 'hasplaw11.RunParts'. -/
def runPartsCard : Claim7 := { stood := { row := runPartsRow, standIns := [], harness := (true, "211d604930fd3d49e3e112864b66f81e07a8372aa5f5259cf78e235e57d65736"), looks := true }, kinds := [], alts := [], laidByText := true, laidKinds := [.handle], laidTests := true, laidLooks := .later }
def RunPartsCardSaid : Prop := Claim7.holds Tryz.pinned (.plain (OpenSpec.ofChange runPartsSpec)) runPartsCard

/-- THE TIED CARD OF 'hasplaw11.RunNone'. -/
def runNoneCard : Claim7 := { stood := { row := runNoneRow, standIns := [], harness := (true, "211d604930fd3d49e3e112864b66f81e07a8372aa5f5259cf78e235e57d65736"), looks := true }, kinds := [], alts := [], laidByText := true, laidKinds := [.handle], laidTests := true, laidLooks := .later }
def RunNoneCardSaid : Prop := Claim7.holds Tryz.pinned (.plain (OpenSpec.ofChange runNoneSpec)) runNoneCard

/-- THE TIED CARD OF 'hasplaw11.RunPlays'. -/
def runPlaysCard : Claim7 := { stood := { row := runPlaysRow, standIns := [], harness := (true, "211d604930fd3d49e3e112864b66f81e07a8372aa5f5259cf78e235e57d65736"), looks := true }, kinds := [], alts := [], laidByText := true, laidKinds := [.handle], laidTests := true, laidLooks := .later }
def RunPlaysCardSaid : Prop := Claim7.holds Tryz.pinned (.plain (OpenSpec.ofChange runPlaysSpec)) runPlaysCard

/-- THE SECOND FORM's CARD OF 'hasplaw10.StepLess'. -/
def stepLessUptoCard : Claim7 := { stood := { row := stepLessUptoRow, standIns := [], harness := (true, "211d604930fd3d49e3e112864b66f81e07a8372aa5f5259cf78e235e57d65736"), looks := true }, kinds := [], alts := [], laidByText := true, laidKinds := [.handle], laidTests := true, laidLooks := .later }
def StepLessUptoCardSaid : Prop := Claim7.holds Tryz.pinned (.plain (OpenSpec.upto stepLessSpec)) stepLessUptoCard

/-- THE SECOND FORM's CARD OF 'hasplaw10.StepPlace'. -/
def stepPlaceUptoCard : Claim7 := { stood := { row := stepPlaceUptoRow, standIns := [], harness := (true, "211d604930fd3d49e3e112864b66f81e07a8372aa5f5259cf78e235e57d65736"), looks := true }, kinds := [], alts := [], laidByText := true, laidKinds := [.handle], laidTests := true, laidLooks := .later }
def StepPlaceUptoCardSaid : Prop := Claim7.holds Tryz.pinned (.plain (OpenSpec.upto stepPlaceSpec)) stepPlaceUptoCard

/-- THE SECOND FORM's CARD OF 'hasplaw10.StepPlays'. -/
def stepPlaysUptoCard : Claim7 := { stood := { row := stepPlaysUptoRow, standIns := [], harness := (true, "211d604930fd3d49e3e112864b66f81e07a8372aa5f5259cf78e235e57d65736"), looks := true }, kinds := [], alts := [], laidByText := true, laidKinds := [.handle], laidTests := true, laidLooks := .later }
def StepPlaysUptoCardSaid : Prop := Claim7.holds Tryz.pinned (.plain (OpenSpec.upto stepPlaysSpec)) stepPlaysUptoCard

/-- THE SECOND FORM's CARD OF 'hasplaw10.StepTwin'. -/
def stepTwinUptoCard : Claim7 := { stood := { row := stepTwinUptoRow, standIns := [], harness := (true, "211d604930fd3d49e3e112864b66f81e07a8372aa5f5259cf78e235e57d65736"), looks := true }, kinds := [], alts := [], laidByText := true, laidKinds := [.handle], laidTests := true, laidLooks := .later }
def StepTwinUptoCardSaid : Prop := Claim7.holds Tryz.pinned (.plain (OpenSpec.upto stepTwinSpec)) stepTwinUptoCard

/-- THE SECOND FORM's CARD OF 'hasplaw10.StepNought'. -/
def stepNoughtUptoCard : Claim7 := { stood := { row := stepNoughtUptoRow, standIns := [], harness := (true, "211d604930fd3d49e3e112864b66f81e07a8372aa5f5259cf78e235e57d65736"), looks := true }, kinds := [], alts := [], laidByText := true, laidKinds := [.handle], laidTests := true, laidLooks := .later }
def StepNoughtUptoCardSaid : Prop := Claim7.holds Tryz.pinned (.plain (OpenSpec.upto stepNoughtSpec)) stepNoughtUptoCard

/-- THE SECOND FORM's CARD OF 'hasplaw11.RunParts'. -/
def runPartsUptoCard : Claim7 := { stood := { row := runPartsUptoRow, standIns := [], harness := (true, "211d604930fd3d49e3e112864b66f81e07a8372aa5f5259cf78e235e57d65736"), looks := true }, kinds := [], alts := [], laidByText := true, laidKinds := [.handle], laidTests := true, laidLooks := .later }
def RunPartsUptoCardSaid : Prop := Claim7.holds Tryz.pinned (.plain (OpenSpec.upto runPartsSpec)) runPartsUptoCard

/-- THE SECOND FORM's CARD OF 'hasplaw11.RunNone'. -/
def runNoneUptoCard : Claim7 := { stood := { row := runNoneUptoRow, standIns := [], harness := (true, "211d604930fd3d49e3e112864b66f81e07a8372aa5f5259cf78e235e57d65736"), looks := true }, kinds := [], alts := [], laidByText := true, laidKinds := [.handle], laidTests := true, laidLooks := .later }
def RunNoneUptoCardSaid : Prop := Claim7.holds Tryz.pinned (.plain (OpenSpec.upto runNoneSpec)) runNoneUptoCard

/-- THE SECOND FORM's CARD OF 'hasplaw11.RunPlays'. -/
def runPlaysUptoCard : Claim7 := { stood := { row := runPlaysUptoRow, standIns := [], harness := (true, "211d604930fd3d49e3e112864b66f81e07a8372aa5f5259cf78e235e57d65736"), looks := true }, kinds := [], alts := [], laidByText := true, laidKinds := [.handle], laidTests := true, laidLooks := .later }
def RunPlaysUptoCardSaid : Prop := Claim7.holds Tryz.pinned (.plain (OpenSpec.upto runPlaysSpec)) runPlaysUptoCard
end Rows
end Go.Proofs.YtmiiimfnehaonaaGreatDoor
