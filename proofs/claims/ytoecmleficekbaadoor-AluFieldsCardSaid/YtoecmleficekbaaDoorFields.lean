/- The arithmetic of the law AluFields. -/
import Derived.Test.YtoecmleficekbaaDoorLess
namespace Go.Proofs.YtoecmleficekbaaDoor
open Go.RowKit
theorem and16_0 (x y : Int) : 0 ≤ bits .and .u16 x y ∧ bits .and .u16 x y < 65536 := by
  unfold bits
  simp only [IntKind.wrap, IntKind.signed, IntKind.bits]
  generalize (BitVec.ofInt 16 x &&& BitVec.ofInt 16 y).toNat = n
  simp
  omega
theorem and127 (p : Int) (h0 : 0 ≤ p) (h1 : p ≤ 127) : bits .and .u16 127 (p % 65536) = p := by
  rw [Int.emod_eq_of_lt h0 (by omega), u16_and 127 p (by decide) (by decide) h0 (by omega)]
  have := Nat.and_two_pow_sub_one_of_lt_two_pow (x := p.toNat) (n := 7) (by omega)
  rw [show (127 : Int).toNat = 2 ^ 7 - 1 by rfl, Nat.and_comm, this]; omega
theorem subAdd (b tp : Int) (h0 : 0 ≤ b) (h1 : b ≤ tp) (h2 : tp < 4294967296) : (tp + -b % 4294967296) % 4294967296 = tp - b := by omega
theorem and16_ok (x y : Int) (t : Bool) (b tp a : Int) (hb : 0 ≤ b ∧ b < 4294967296) (ht : 0 ≤ tp ∧ tp < 4294967296) (ha : 0 ≤ a ∧ a < 4294967296) (w : Int) (hw : 0 ≤ w ∧ w < 65536) : Cp.Ok ⟨t, b, tp, a, bits .and .u16 x y, w⟩ :=
  ⟨hb.1, hb.2, ht.1, ht.2, ha.1, ha.2, (and16_0 x y).1, (and16_0 x y).2, hw.1, hw.2⟩
end Go.Proofs.YtoecmleficekbaaDoor
