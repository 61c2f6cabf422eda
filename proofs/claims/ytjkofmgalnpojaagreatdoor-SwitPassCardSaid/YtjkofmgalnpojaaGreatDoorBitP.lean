/- Permissions that were cut down: nothing is left of them beside what cut them. -/
import Derived.Test.YtjkofmgalnpojaaGreatDoorAmN
namespace Go.Proofs.YtjkofmgalnpojaaGreatDoor
open Go.RowKit Am
set_option linter.unusedSimpArgs false
set_option linter.unusedVariables false
theorem wrap16 (x : BitVec 16) : IntKind.wrap .u16 (x.toNat : Int) = (x.toNat : Int) := by
  have := x.isLt
  simp [IntKind.wrap, IntKind.signed, IntKind.bits]
  omega
theorem ofWrap16 (x : BitVec 16) : BitVec.ofInt 16 (IntKind.wrap .u16 (x.toNat : Int)) = x := by
  rw [wrap16]; simp
theorem andNot_self (p : Int) : bitsI .andNot .u16 p p = 0 := by
  show IntKind.wrap .u16 ((BitVec.ofInt 16 p &&& ~~~ BitVec.ofInt 16 p).toNat : Int) = 0
  simp [IntKind.wrap, IntKind.signed, IntKind.bits]
theorem andNot_l (p q : Int) : bitsI .andNot .u16 (bitsI .and .u16 p q) p = 0 := by
  show IntKind.wrap .u16 ((BitVec.ofInt 16 (IntKind.wrap .u16 ((BitVec.ofInt 16 p &&& BitVec.ofInt 16 q).toNat : Int)) &&& ~~~ BitVec.ofInt 16 p).toNat : Int) = 0
  rw [ofWrap16]
  have : (BitVec.ofInt 16 p &&& BitVec.ofInt 16 q) &&& ~~~ BitVec.ofInt 16 p = 0#16 := by ext i; simp; intro a b; simp [a]
  rw [this]; simp [IntKind.wrap, IntKind.signed, IntKind.bits]
theorem andNot_r (p q : Int) : bitsI .andNot .u16 (bitsI .and .u16 p q) q = 0 := by
  show IntKind.wrap .u16 ((BitVec.ofInt 16 (IntKind.wrap .u16 ((BitVec.ofInt 16 p &&& BitVec.ofInt 16 q).toNat : Int)) &&& ~~~ BitVec.ofInt 16 q).toNat : Int) = 0
  rw [ofWrap16]
  have : (BitVec.ofInt 16 p &&& BitVec.ofInt 16 q) &&& ~~~ BitVec.ofInt 16 q = 0#16 := by ext i; simp
  rw [this]; simp [IntKind.wrap, IntKind.signed, IntKind.bits]
theorem and_and (p q : Int) : bitsI .and .u16 (bitsI .and .u16 p q) q = bitsI .and .u16 p q := by
  show IntKind.wrap .u16 ((BitVec.ofInt 16 (IntKind.wrap .u16 ((BitVec.ofInt 16 p &&& BitVec.ofInt 16 q).toNat : Int)) &&& BitVec.ofInt 16 q).toNat : Int) = IntKind.wrap .u16 ((BitVec.ofInt 16 p &&& BitVec.ofInt 16 q).toNat : Int)
  rw [ofWrap16, BitVec.and_assoc, BitVec.and_self]
end Go.Proofs.YtjkofmgalnpojaaGreatDoor
