/-
  DERIVED. GIVEN WITH THE SEED: THE CARDS: each row of YtoecmleficekbaaDoorRows.lean that lists a variable, with what it lists TIED to the program's text (the seventh form; the later family's looks); each row that meets fmt, with fmt's text TOLD by the authors' own Lean function (tested against real Go, not proved from fmt's source: count such statements apart). THE CARD IS WHAT COUNTS. Prove the row's statement (the work); the ties are given (YtoecmleficekbaaDoorTie.lean); close each card by the builder's one call (the guide's Derived/Test/ToyasCard.lean, 'card_holds'). Laid BY PROGRAM, IN A SANDBOX (cutbox-door.mjs). By AI agents, Wed Nov 11 2026. No macro, syntax, notation, axiom, sorry.
-/
import Derived.Test.YtoecmleficekbaaDoorRows
import GoSem.ClaimSeven
namespace Go.Proofs.YtoecmleficekbaaDoor
namespace Rows

/-- THE TIED CARD OF 'hasplaw4.MemTags'. -/
def memTagsCard : Claim7 := { stood := { row := memTagsRow, standIns := [], harness := (true, "8b5ab19b1906aa61d744aac4e12e04b9cbb09ffd17e61c0e4a8659193c2d278e"), looks := true }, kinds := [], alts := [], laidByText := true, laidKinds := [.handle], laidTests := true, laidLooks := .later }
def MemTagsCardSaid : Prop := Claim7.holds Tryd.pinned (.plain (OpenSpec.ofChange memTagsSpec)) memTagsCard

/-- THE TIED CARD OF 'hasplaw4.MemApart'. -/
def memApartCard : Claim7 := { stood := { row := memApartRow, standIns := [], harness := (true, "8b5ab19b1906aa61d744aac4e12e04b9cbb09ffd17e61c0e4a8659193c2d278e"), looks := true }, kinds := [], alts := [], laidByText := true, laidKinds := [.handle], laidTests := true, laidLooks := .later }
def MemApartCardSaid : Prop := Claim7.holds Tryd.pinned (.plain (OpenSpec.ofChange memApartSpec)) memApartCard

/-- THE TIED CARD OF 'hasplaw4.MemPlays'. -/
def memPlaysCard : Claim7 := { stood := { row := memPlaysRow, standIns := [], harness := (true, "8b5ab19b1906aa61d744aac4e12e04b9cbb09ffd17e61c0e4a8659193c2d278e"), looks := true }, kinds := [], alts := [], laidByText := true, laidKinds := [.handle], laidTests := true, laidLooks := .later }
def MemPlaysCardSaid : Prop := Claim7.holds Tryd.pinned (.plain (OpenSpec.ofChange memPlaysSpec)) memPlaysCard

/-- THE TIED CARD OF 'hasplaw4.MemZero'. -/
def memZeroCard : Claim7 := { stood := { row := memZeroRow, standIns := [], harness := (true, "8b5ab19b1906aa61d744aac4e12e04b9cbb09ffd17e61c0e4a8659193c2d278e"), looks := true }, kinds := [], alts := [], laidByText := true, laidKinds := [.handle], laidTests := true, laidLooks := .later }
def MemZeroCardSaid : Prop := Claim7.holds Tryd.pinned (.plain (OpenSpec.ofChange memZeroSpec)) memZeroCard

/-- THE TIED CARD OF 'hasplaw9.AluAny'. -/
def aluAnyCard : Claim7 := { stood := { row := aluAnyRow, standIns := [], harness := (true, "8b5ab19b1906aa61d744aac4e12e04b9cbb09ffd17e61c0e4a8659193c2d278e"), looks := true }, kinds := [], alts := [], laidByText := true, laidKinds := [.handle], laidTests := true, laidLooks := .later }
def AluAnyCardSaid : Prop := Claim7.holds Tryd.pinned (.plain (OpenSpec.ofChange aluAnySpec)) aluAnyCard

/-- THE TIED CARD OF 'hasplaw9.AluLess'. -/
def aluLessCard : Claim7 := { stood := { row := aluLessRow, standIns := [], harness := (true, "8b5ab19b1906aa61d744aac4e12e04b9cbb09ffd17e61c0e4a8659193c2d278e"), looks := true }, kinds := [], alts := [], laidByText := true, laidKinds := [.handle], laidTests := true, laidLooks := .later }
def AluLessCardSaid : Prop := Claim7.holds Tryd.pinned (.plain (OpenSpec.ofChange aluLessSpec)) aluLessCard

/-- THE TIED CARD OF 'hasplaw9.AluImm'. -/
def aluImmCard : Claim7 := { stood := { row := aluImmRow, standIns := [], harness := (true, "8b5ab19b1906aa61d744aac4e12e04b9cbb09ffd17e61c0e4a8659193c2d278e"), looks := true }, kinds := [], alts := [], laidByText := true, laidKinds := [.handle], laidTests := true, laidLooks := .later }
def AluImmCardSaid : Prop := Claim7.holds Tryd.pinned (.plain (OpenSpec.ofChange aluImmSpec)) aluImmCard

/-- THE TIED CARD OF 'hasplaw9.AluFields'. -/
def aluFieldsCard : Claim7 := { stood := { row := aluFieldsRow, standIns := [], harness := (true, "8b5ab19b1906aa61d744aac4e12e04b9cbb09ffd17e61c0e4a8659193c2d278e"), looks := true }, kinds := [], alts := [], laidByText := true, laidKinds := [.handle], laidTests := true, laidLooks := .later }
def AluFieldsCardSaid : Prop := Claim7.holds Tryd.pinned (.plain (OpenSpec.ofChange aluFieldsSpec)) aluFieldsCard

/-- THE TIED CARD OF 'hasplaw5.AccessCheck'. -/
def accessCheckCard : Claim7 := { stood := { row := accessCheckRow, standIns := [], harness := (true, "8b5ab19b1906aa61d744aac4e12e04b9cbb09ffd17e61c0e4a8659193c2d278e"), looks := true }, kinds := [], alts := [], laidByText := true, laidKinds := [.handle], laidTests := true, laidLooks := .later }
def AccessCheckCardSaid : Prop := Claim7.holds Tryd.pinned (.plain (OpenSpec.ofChange accessCheckSpec)) accessCheckCard

/-- THE TIED CARD OF 'hasplaw5.AccessWord'. -/
def accessWordCard : Claim7 := { stood := { row := accessWordRow, standIns := [], harness := (true, "8b5ab19b1906aa61d744aac4e12e04b9cbb09ffd17e61c0e4a8659193c2d278e"), looks := true }, kinds := [], alts := [], laidByText := true, laidKinds := [.handle], laidTests := true, laidLooks := .later }
def AccessWordCardSaid : Prop := Claim7.holds Tryd.pinned (.plain (OpenSpec.ofChange accessWordSpec)) accessWordCard

/-- THE TIED CARD OF 'hasplaw5.AccessKeeps'. -/
def accessKeepsCard : Claim7 := { stood := { row := accessKeepsRow, standIns := [], harness := (true, "8b5ab19b1906aa61d744aac4e12e04b9cbb09ffd17e61c0e4a8659193c2d278e"), looks := true }, kinds := [], alts := [], laidByText := true, laidKinds := [.handle], laidTests := true, laidLooks := .later }
def AccessKeepsCardSaid : Prop := Claim7.holds Tryd.pinned (.plain (OpenSpec.ofChange accessKeepsSpec)) accessKeepsCard

/-- THE TIED CARD OF 'hasplaw5.AccessPart'. -/
def accessPartCard : Claim7 := { stood := { row := accessPartRow, standIns := [], harness := (true, "8b5ab19b1906aa61d744aac4e12e04b9cbb09ffd17e61c0e4a8659193c2d278e"), looks := true }, kinds := [], alts := [], laidByText := true, laidKinds := [.handle], laidTests := true, laidLooks := .later }
def AccessPartCardSaid : Prop := Claim7.holds Tryd.pinned (.plain (OpenSpec.ofChange accessPartSpec)) accessPartCard

/-- THE TIED CARD OF 'hasplaw5.AccessPlays'. -/
def accessPlaysCard : Claim7 := { stood := { row := accessPlaysRow, standIns := [], harness := (true, "8b5ab19b1906aa61d744aac4e12e04b9cbb09ffd17e61c0e4a8659193c2d278e"), looks := true }, kinds := [], alts := [], laidByText := true, laidKinds := [.handle], laidTests := true, laidLooks := .later }
def AccessPlaysCardSaid : Prop := Claim7.holds Tryd.pinned (.plain (OpenSpec.ofChange accessPlaysSpec)) accessPlaysCard

/-- THE TIED CARD OF 'hasplaw5.AccessBounds'. -/
def accessBoundsCard : Claim7 := { stood := { row := accessBoundsRow, standIns := [], harness := (true, "8b5ab19b1906aa61d744aac4e12e04b9cbb09ffd17e61c0e4a8659193c2d278e"), looks := true }, kinds := [], alts := [], laidByText := true, laidKinds := [.handle], laidTests := true, laidLooks := .later }
def AccessBoundsCardSaid : Prop := Claim7.holds Tryd.pinned (.plain (OpenSpec.ofChange accessBoundsSpec)) accessBoundsCard

/-- THE SECOND FORM's CARD OF 'hasplaw4.MemTags'. -/
def memTagsUptoCard : Claim7 := { stood := { row := memTagsUptoRow, standIns := [], harness := (true, "8b5ab19b1906aa61d744aac4e12e04b9cbb09ffd17e61c0e4a8659193c2d278e"), looks := true }, kinds := [], alts := [], laidByText := true, laidKinds := [.handle], laidTests := true, laidLooks := .later }
def MemTagsUptoCardSaid : Prop := Claim7.holds Tryd.pinned (.plain (OpenSpec.upto memTagsSpec)) memTagsUptoCard

/-- THE SECOND FORM's CARD OF 'hasplaw4.MemApart'. -/
def memApartUptoCard : Claim7 := { stood := { row := memApartUptoRow, standIns := [], harness := (true, "8b5ab19b1906aa61d744aac4e12e04b9cbb09ffd17e61c0e4a8659193c2d278e"), looks := true }, kinds := [], alts := [], laidByText := true, laidKinds := [.handle], laidTests := true, laidLooks := .later }
def MemApartUptoCardSaid : Prop := Claim7.holds Tryd.pinned (.plain (OpenSpec.upto memApartSpec)) memApartUptoCard

/-- THE SECOND FORM's CARD OF 'hasplaw4.MemPlays'. -/
def memPlaysUptoCard : Claim7 := { stood := { row := memPlaysUptoRow, standIns := [], harness := (true, "8b5ab19b1906aa61d744aac4e12e04b9cbb09ffd17e61c0e4a8659193c2d278e"), looks := true }, kinds := [], alts := [], laidByText := true, laidKinds := [.handle], laidTests := true, laidLooks := .later }
def MemPlaysUptoCardSaid : Prop := Claim7.holds Tryd.pinned (.plain (OpenSpec.upto memPlaysSpec)) memPlaysUptoCard

/-- THE SECOND FORM's CARD OF 'hasplaw4.MemZero'. -/
def memZeroUptoCard : Claim7 := { stood := { row := memZeroUptoRow, standIns := [], harness := (true, "8b5ab19b1906aa61d744aac4e12e04b9cbb09ffd17e61c0e4a8659193c2d278e"), looks := true }, kinds := [], alts := [], laidByText := true, laidKinds := [.handle], laidTests := true, laidLooks := .later }
def MemZeroUptoCardSaid : Prop := Claim7.holds Tryd.pinned (.plain (OpenSpec.upto memZeroSpec)) memZeroUptoCard

/-- THE SECOND FORM's CARD OF 'hasplaw9.AluAny'. -/
def aluAnyUptoCard : Claim7 := { stood := { row := aluAnyUptoRow, standIns := [], harness := (true, "8b5ab19b1906aa61d744aac4e12e04b9cbb09ffd17e61c0e4a8659193c2d278e"), looks := true }, kinds := [], alts := [], laidByText := true, laidKinds := [.handle], laidTests := true, laidLooks := .later }
def AluAnyUptoCardSaid : Prop := Claim7.holds Tryd.pinned (.plain (OpenSpec.upto aluAnySpec)) aluAnyUptoCard

/-- THE SECOND FORM's CARD OF 'hasplaw9.AluLess'. -/
def aluLessUptoCard : Claim7 := { stood := { row := aluLessUptoRow, standIns := [], harness := (true, "8b5ab19b1906aa61d744aac4e12e04b9cbb09ffd17e61c0e4a8659193c2d278e"), looks := true }, kinds := [], alts := [], laidByText := true, laidKinds := [.handle], laidTests := true, laidLooks := .later }
def AluLessUptoCardSaid : Prop := Claim7.holds Tryd.pinned (.plain (OpenSpec.upto aluLessSpec)) aluLessUptoCard

/-- THE SECOND FORM's CARD OF 'hasplaw9.AluImm'. -/
def aluImmUptoCard : Claim7 := { stood := { row := aluImmUptoRow, standIns := [], harness := (true, "8b5ab19b1906aa61d744aac4e12e04b9cbb09ffd17e61c0e4a8659193c2d278e"), looks := true }, kinds := [], alts := [], laidByText := true, laidKinds := [.handle], laidTests := true, laidLooks := .later }
def AluImmUptoCardSaid : Prop := Claim7.holds Tryd.pinned (.plain (OpenSpec.upto aluImmSpec)) aluImmUptoCard

/-- THE SECOND FORM's CARD OF 'hasplaw9.AluFields'. -/
def aluFieldsUptoCard : Claim7 := { stood := { row := aluFieldsUptoRow, standIns := [], harness := (true, "8b5ab19b1906aa61d744aac4e12e04b9cbb09ffd17e61c0e4a8659193c2d278e"), looks := true }, kinds := [], alts := [], laidByText := true, laidKinds := [.handle], laidTests := true, laidLooks := .later }
def AluFieldsUptoCardSaid : Prop := Claim7.holds Tryd.pinned (.plain (OpenSpec.upto aluFieldsSpec)) aluFieldsUptoCard

/-- THE SECOND FORM's CARD OF 'hasplaw5.AccessCheck'. -/
def accessCheckUptoCard : Claim7 := { stood := { row := accessCheckUptoRow, standIns := [], harness := (true, "8b5ab19b1906aa61d744aac4e12e04b9cbb09ffd17e61c0e4a8659193c2d278e"), looks := true }, kinds := [], alts := [], laidByText := true, laidKinds := [.handle], laidTests := true, laidLooks := .later }
def AccessCheckUptoCardSaid : Prop := Claim7.holds Tryd.pinned (.plain (OpenSpec.upto accessCheckSpec)) accessCheckUptoCard

/-- THE SECOND FORM's CARD OF 'hasplaw5.AccessWord'. -/
def accessWordUptoCard : Claim7 := { stood := { row := accessWordUptoRow, standIns := [], harness := (true, "8b5ab19b1906aa61d744aac4e12e04b9cbb09ffd17e61c0e4a8659193c2d278e"), looks := true }, kinds := [], alts := [], laidByText := true, laidKinds := [.handle], laidTests := true, laidLooks := .later }
def AccessWordUptoCardSaid : Prop := Claim7.holds Tryd.pinned (.plain (OpenSpec.upto accessWordSpec)) accessWordUptoCard

/-- THE SECOND FORM's CARD OF 'hasplaw5.AccessKeeps'. -/
def accessKeepsUptoCard : Claim7 := { stood := { row := accessKeepsUptoRow, standIns := [], harness := (true, "8b5ab19b1906aa61d744aac4e12e04b9cbb09ffd17e61c0e4a8659193c2d278e"), looks := true }, kinds := [], alts := [], laidByText := true, laidKinds := [.handle], laidTests := true, laidLooks := .later }
def AccessKeepsUptoCardSaid : Prop := Claim7.holds Tryd.pinned (.plain (OpenSpec.upto accessKeepsSpec)) accessKeepsUptoCard

/-- THE SECOND FORM's CARD OF 'hasplaw5.AccessPart'. -/
def accessPartUptoCard : Claim7 := { stood := { row := accessPartUptoRow, standIns := [], harness := (true, "8b5ab19b1906aa61d744aac4e12e04b9cbb09ffd17e61c0e4a8659193c2d278e"), looks := true }, kinds := [], alts := [], laidByText := true, laidKinds := [.handle], laidTests := true, laidLooks := .later }
def AccessPartUptoCardSaid : Prop := Claim7.holds Tryd.pinned (.plain (OpenSpec.upto accessPartSpec)) accessPartUptoCard

/-- THE SECOND FORM's CARD OF 'hasplaw5.AccessPlays'. -/
def accessPlaysUptoCard : Claim7 := { stood := { row := accessPlaysUptoRow, standIns := [], harness := (true, "8b5ab19b1906aa61d744aac4e12e04b9cbb09ffd17e61c0e4a8659193c2d278e"), looks := true }, kinds := [], alts := [], laidByText := true, laidKinds := [.handle], laidTests := true, laidLooks := .later }
def AccessPlaysUptoCardSaid : Prop := Claim7.holds Tryd.pinned (.plain (OpenSpec.upto accessPlaysSpec)) accessPlaysUptoCard

/-- THE SECOND FORM's CARD OF 'hasplaw5.AccessBounds'. -/
def accessBoundsUptoCard : Claim7 := { stood := { row := accessBoundsUptoRow, standIns := [], harness := (true, "8b5ab19b1906aa61d744aac4e12e04b9cbb09ffd17e61c0e4a8659193c2d278e"), looks := true }, kinds := [], alts := [], laidByText := true, laidKinds := [.handle], laidTests := true, laidLooks := .later }
def AccessBoundsUptoCardSaid : Prop := Claim7.holds Tryd.pinned (.plain (OpenSpec.upto accessBoundsSpec)) accessBoundsUptoCard
end Rows
end Go.Proofs.YtoecmleficekbaaDoor
