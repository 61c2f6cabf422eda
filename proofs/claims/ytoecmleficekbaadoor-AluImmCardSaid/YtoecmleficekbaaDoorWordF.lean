/- What package word computes, in plain Lean: numbers of 32 bits by ops' names. -/
import Derived.WalkKit
import Derived.Laws.BitsAllLaws
namespace Go.Proofs.YtoecmleficekbaaDoor
open Go.RowKit
def doR (o : List UInt8) (a b : Int) : Option Int :=
  if o == [115, 117, 98] then some ((a + -b % 4294967296) % 4294967296) else   -- sub
  if o == [97, 100, 100] then some ((a + b) % 4294967296) else   -- add
  if o == [109, 117, 108] then some (a * b % 4294967296) else   -- mul
  if o == [97, 110, 100] then some (bits .and .u32 a b) else   -- and
  if o == [111, 114] then some (bits .or .u32 a b) else   -- or
  if o == [120, 111, 114] then some (bits .xor .u32 a b) else   -- xor
  if o == [115, 108, 108] then some (a * 2 ^ (b % 32).toNat % 4294967296) else   -- sll
  if o == [115, 114, 108] then some (a / 2 ^ (b % 32).toNat) else   -- srl
  if o == [115, 114, 97] then some (wrap32 a / 2 ^ (b % 32).toNat % 4294967296) else   -- sra
  if o == [115, 108, 116] then some (if wrap32 a < wrap32 b then 1 else 0) else   -- slt
  if o == [115, 108, 116, 117] then some (if a < b then 1 else 0) else   -- sltu
  if o == [100, 105, 118, 117] then some (if b = 0 then 4294967295 else a / b) else   -- divu
  if o == [114, 101, 109, 117] then some (if b = 0 then a else a % b) else   -- remu
  none
def holdsR (o : List UInt8) (a b : Int) : Option Bool :=
  if o == [98, 101, 113] then some (a == b) else   -- beq
  if o == [98, 110, 101] then some (a != b) else   -- bne
  if o == [98, 108, 116] then some (decide (wrap32 a < wrap32 b)) else   -- blt
  if o == [98, 103, 101] then some (decide (wrap32 b ≤ wrap32 a)) else   -- bge
  if o == [98, 108, 116, 117] then some (decide (a < b)) else   -- bltu
  if o == [98, 103, 101, 117] then some (decide (b ≤ a)) else   -- bgeu
  none

/-! ### signs -/
theorem nat_xor_sign_low (y : Nat) (h : y < 2147483648) : y ^^^ 2147483648 = 2147483648 + y := by
  apply Nat.eq_of_testBit_eq
  intro j
  rw [Nat.testBit_xor, show (2147483648 : Nat) = 2 ^ 31 from rfl, Nat.testBit_two_pow]
  rcases Nat.lt_trichotomy j 31 with hj | hj | hj
  · rw [Nat.testBit_two_pow_add_gt hj, decide_eq_false (by omega), Bool.xor_false]
  · subst hj
    rw [Nat.testBit_two_pow_add_eq, decide_eq_true rfl, Bool.xor_true]
  · have h1 : y.testBit j = false := Nat.testBit_lt_two_pow (Nat.lt_of_lt_of_le h (Nat.pow_le_pow_right (n := 2) (by decide) (Nat.le_of_lt hj)))
    have h2 : (2 ^ 31 + y).testBit j = false := Nat.testBit_lt_two_pow (Nat.lt_of_lt_of_le (show 2 ^ 31 + y < 2 ^ 32 by omega) (Nat.pow_le_pow_right (n := 2) (by decide) hj))
    rw [h1, h2, decide_eq_false (by omega), Bool.xor_false]
theorem nat_xor_sign (x : Nat) (h : x < 4294967296) : x ^^^ 2147483648 = (x + 2147483648) % 4294967296 := by
  by_cases hx : x < 2147483648
  · rw [nat_xor_sign_low x hx]; omega
  · have e : x = (x - 2147483648) ^^^ 2147483648 := by rw [nat_xor_sign_low _ (by omega)]; omega
    have e2 : x ^^^ 2147483648 = x - 2147483648 := by
      have := congrArg (· ^^^ 2147483648) e
      simp only [Nat.xor_assoc, Nat.xor_self, Nat.xor_zero] at this
      exact this
    rw [e2]; omega
theorem xor_sign (a : Int) (h0 : 0 ≤ a) (h1 : a < 4294967296) : bits .xor .u32 a 2147483648 = (a + 2147483648) % 4294967296 := by
  rw [u32_xor a 2147483648 h0 h1 (by decide) (by decide), show (2147483648 : Int).toNat = 2147483648 from rfl, nat_xor_sign _ (by omega)]
  omega
theorem xor_sign_lt (a b : Int) (h0 : 0 ≤ a) (h1 : a < 4294967296) (h2 : 0 ≤ b) (h3 : b < 4294967296) : bits .xor .u32 a 2147483648 < bits .xor .u32 b 2147483648 ↔ wrap32 a < wrap32 b := by
  rw [xor_sign a h0 h1, xor_sign b h2 h3]; unfold wrap32; omega
theorem and31 (b : Int) (h0 : 0 ≤ b) (h1 : b < 4294967296) : bits .and .u32 b 31 = b % 32 := by
  rw [u32_and b 31 h0 h1 (by decide) (by decide), show (31 : Int).toNat = 31 from rfl, nat_mask5]; omega

/-- The highest of 32 - k bits put to all above. -/
def signedS (v : Int) (k : Nat) : Int := wrap32 (v * 2 ^ k % 4294967296) / 2 ^ k % 4294967296
/-- The highest of n bits put to all above (n: 1 to 32, so cut). -/
def signedR (v n : Int) : Int := signedS v (32 - (if n < 1 then 1 else if n > 32 then 32 else n)).toNat
end Go.Proofs.YtoecmleficekbaaDoor
