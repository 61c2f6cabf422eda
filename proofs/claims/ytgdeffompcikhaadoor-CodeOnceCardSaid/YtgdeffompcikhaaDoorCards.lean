/-
  DERIVED. GIVEN WITH THE SEED: THE CARDS: each row of YtgdeffompcikhaaDoorRows.lean that lists a variable, with what it lists TIED to the program's text (the seventh form; the later family's looks); each row that meets fmt, with fmt's text TOLD by the authors' own Lean function (tested against real Go, not proved from fmt's source: count such statements apart). THE CARD IS WHAT COUNTS. Prove the row's statement (the work); the ties are given (YtgdeffompcikhaaDoorTie.lean); close each card by the builder's one call (the guide's Derived/Test/ToyasCard.lean, 'card_holds'). Laid BY PROGRAM, IN A SANDBOX (cutbox-door.mjs). By AI agents, Wed Nov 11 2026. No macro, syntax, notation, axiom, sorry.
-/
import Derived.Test.YtgdeffompcikhaaDoorRows
import GoSem.ClaimSeven
namespace Go.Proofs.YtgdeffompcikhaaDoor
namespace Rows

/-- THE TIED CARD OF 'hasplaw24.CrossPairs'. -/
def crossPairsCard : Claim7 := { stood := { row := crossPairsRow, standIns := [], harness := (true, "6b3fb3c5575b9bc9234d4d12c9b5370d9796e28d42de1496f2ba677cda620f96"), looks := true }, kinds := [], alts := [], laidByText := true, laidKinds := [.handle], laidTests := true, laidLooks := .later }
def CrossPairsCardSaid : Prop := Claim7.holds Tryd.pinned (.plain (OpenSpec.ofChange crossPairsSpec)) crossPairsCard

/-- THE TIED CARD OF 'hasplaw7.CodeBits'. -/
def codeBitsCard : Claim7 := { stood := { row := codeBitsRow, standIns := [], harness := (true, "6b3fb3c5575b9bc9234d4d12c9b5370d9796e28d42de1496f2ba677cda620f96"), looks := true }, kinds := [], alts := [], laidByText := true, laidKinds := [.data, .data, .data, .handle], laidTests := true, laidLooks := .later }
def CodeBitsCardSaid : Prop := Claim7.holds Tryd.pinned (.plain (OpenSpec.ofChange codeBitsSpec)) codeBitsCard

/-- THE TIED CARD OF 'hasplaw7.CodeOnce'. -/
def codeOnceCard : Claim7 := { stood := { row := codeOnceRow, standIns := [], harness := (true, "6b3fb3c5575b9bc9234d4d12c9b5370d9796e28d42de1496f2ba677cda620f96"), looks := true }, kinds := [], alts := [], laidByText := true, laidKinds := [.data, .data, .data, .handle], laidTests := true, laidLooks := .later }
def CodeOnceCardSaid : Prop := Claim7.holds Tryd.pinned (.plain (OpenSpec.ofChange codeOnceSpec)) codeOnceCard

/-- THE SECOND FORM's CARD OF 'hasplaw24.CrossPairs'. -/
def crossPairsUptoCard : Claim7 := { stood := { row := crossPairsUptoRow, standIns := [], harness := (true, "6b3fb3c5575b9bc9234d4d12c9b5370d9796e28d42de1496f2ba677cda620f96"), looks := true }, kinds := [], alts := [], laidByText := true, laidKinds := [.handle], laidTests := true, laidLooks := .later }
def CrossPairsUptoCardSaid : Prop := Claim7.holds Tryd.pinned (.plain (OpenSpec.upto crossPairsSpec)) crossPairsUptoCard

/-- THE SECOND FORM's CARD OF 'hasplaw7.CodeBits'. -/
def codeBitsUptoCard : Claim7 := { stood := { row := codeBitsUptoRow, standIns := [], harness := (true, "6b3fb3c5575b9bc9234d4d12c9b5370d9796e28d42de1496f2ba677cda620f96"), looks := true }, kinds := [], alts := [], laidByText := true, laidKinds := [.data, .data, .data, .handle], laidTests := true, laidLooks := .later }
def CodeBitsUptoCardSaid : Prop := Claim7.holds Tryd.pinned (.plain (OpenSpec.upto codeBitsSpec)) codeBitsUptoCard

/-- THE SECOND FORM's CARD OF 'hasplaw7.CodeOnce'. -/
def codeOnceUptoCard : Claim7 := { stood := { row := codeOnceUptoRow, standIns := [], harness := (true, "6b3fb3c5575b9bc9234d4d12c9b5370d9796e28d42de1496f2ba677cda620f96"), looks := true }, kinds := [], alts := [], laidByText := true, laidKinds := [.data, .data, .data, .handle], laidTests := true, laidLooks := .later }
def CodeOnceUptoCardSaid : Prop := Claim7.holds Tryd.pinned (.plain (OpenSpec.upto codeOnceSpec)) codeOnceUptoCard
end Rows
end Go.Proofs.YtgdeffompcikhaaDoor
