/-
  DERIVED. GIVEN WITH THE SEED: THE CARDS: each row of YtplejhefhnmabaaGreatDoorRows.lean that lists a variable, with what it lists TIED to the program's text (the seventh form; the later family's looks); each row that meets fmt, with fmt's text TOLD by the authors' own Lean function (tested against real Go, not proved from fmt's source: count such statements apart). THE CARD IS WHAT COUNTS. Prove the row's statement (the work); the ties are given (YtplejhefhnmabaaGreatDoorTie.lean); close each card by the builder's one call (the guide's Derived/Test/ToyasCard.lean, 'card_holds'). Laid BY PROGRAM, IN A SANDBOX (cutbox-door.mjs). By AI agents, Wed Nov 11 2026. No macro, syntax, notation, axiom, sorry.
-/
import Derived.Test.YtplejhefhnmabaaGreatDoorRows
import GoSem.ClaimSeven
namespace Go.Proofs.YtplejhefhnmabaaGreatDoor
namespace Rows

/-- THE TIED CARD OF 'hasplaw11.RunBoots'. -/
def runBootsCard : Claim7 := { stood := { row := runBootsRow, standIns := [], harness := (true, "c1f2c227ce07fe382b98fae1b125c1a9a6994f590a379640ecfec57664f3ec3c"), looks := true }, kinds := [], alts := [], laidByText := true, laidKinds := [.handle], laidTests := true, laidLooks := .later }
def RunBootsCardSaid : Prop := Claim7.holds Tryz.pinned (.plain (OpenSpec.ofChange runBootsSpec)) runBootsCard

/-- THE SECOND FORM's CARD OF 'hasplaw11.RunBoots'. -/
def runBootsUptoCard : Claim7 := { stood := { row := runBootsUptoRow, standIns := [], harness := (true, "c1f2c227ce07fe382b98fae1b125c1a9a6994f590a379640ecfec57664f3ec3c"), looks := true }, kinds := [], alts := [], laidByText := true, laidKinds := [.handle], laidTests := true, laidLooks := .later }
def RunBootsUptoCardSaid : Prop := Claim7.holds Tryz.pinned (.plain (OpenSpec.upto runBootsSpec)) runBootsUptoCard
end Rows
end Go.Proofs.YtplejhefhnmabaaGreatDoor
