/- Plain laws of layer 9. -/
import Derived.Test.YtoecmleficekbaaDoorAluF
namespace Go.Proofs.YtoecmleficekbaaDoor
open Go.RowKit
theorem doR_some (o : List UInt8) (a b a' b' : Int) : (doR o a b).isSome = (doR o a' b').isSome := by
  unfold doR
  simp only [apply_ite Option.isSome, Option.isSome_some, Option.isSome_none]
theorem plainR_some (o : List UInt8) (c c' : Cp) (n n' : Int) : (plainR o c n).isSome = (plainR o c' n').isSome := by
  unfold plainR
  simp only [apply_ite Option.isSome, Option.isSome_some, Option.isSome_none]
theorem partsR_some (o : List UInt8) (c c' : Cp) : (partsR o c).isSome = (partsR o c').isSome := by
  unfold partsR
  simp only [apply_ite Option.isSome, Option.isSome_some, Option.isSome_none]
theorem derivedR_some (o : List UInt8) (c k c' k' : Cp) (n n' : Int) : (derivedR o c k n).isSome = (derivedR o c' k' n').isSome := by
  unfold derivedR
  simp only [apply_ite Option.isSome, Option.isSome_some, Option.isSome_none]
theorem comparedR_some (o : List UInt8) (c k c' k' : Cp) : (comparedR o c k).isSome = (comparedR o c' k').isSome := by
  unfold comparedR
  simp only [apply_ite Option.isSome, Option.isSome_some, Option.isSome_none]
theorem aluR_or (o : List UInt8) (c k : Cp) (n : Int) : (aluR o c k n).isSome = ((doR o c.addr k.addr).isSome || (plainR o c n).isSome || (partsR o c).isSome || (derivedR o c k n).isSome || (comparedR o c k).isSome) := by
  unfold aluR numbersR
  cases doR o c.addr k.addr <;> cases plainR o c n <;> cases partsR o c <;> cases derivedR o c k n <;> cases comparedR o c k <;> rfl
theorem aluR_some (o : List UInt8) (c k c' k' : Cp) (n n' : Int) : (aluR o c k n).isSome = (aluR o c' k' n').isSome := by
  rw [aluR_or, aluR_or, doR_some o c.addr k.addr c'.addr k'.addr, plainR_some o c c' n n', partsR_some o c c', derivedR_some o c k c' k' n n', comparedR_some o c k c' k']
end Go.Proofs.YtoecmleficekbaaDoor
