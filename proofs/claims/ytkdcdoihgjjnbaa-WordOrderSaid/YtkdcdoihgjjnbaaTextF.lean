/- A number in hexadecimal, in plain Lean. -/
import Derived.Test.YtkdcdoihgjjnbaaWordF
namespace Go.Proofs.Ytkdcdoihgjjnbaa
open Go.RowKit
def hexes : List UInt8 := [48, 49, 50, 51, 52, 53, 54, 55, 56, 57, 97, 98, 99, 100, 101, 102]
def hexB (d : Nat) : UInt8 := hexes.getD d 0
/-- The k-th digit from the highest on. -/
def digit (v : Nat) (k : Nat) : UInt8 := hexB (v / 16 ^ (7 - k) % 16)
def textTo (v k : Nat) : List UInt8 := [48, 120] ++ (List.range k).map (digit v)
def textL (v : Nat) : List UInt8 := textTo v 8
theorem textTo_succ (v k : Nat) : textTo v (k + 1) = textTo v k ++ [digit v k] := by simp [textTo, List.range_succ]
theorem textTo_length (v k : Nat) : (textTo v k).length = k + 2 := by simp [textTo]
theorem hexes_at : ∀ (d : Nat) (h : d < 16), (ByteArray.mk #[48, 49, 50, 51, 52, 53, 54, 55, 56, 57, 97, 98, 99, 100, 101, 102])[d]'h = hexB d := by decide
theorem shift_digit (v : Int) (k : Nat) (hv : 0 ≤ v) (hv' : v < 4294967296) (hk : k < 8) : bits .and .u32 (v / 2 ^ (28 - 4 * k)) 15 = ((v.toNat / 16 ^ (7 - k) % 16 : Nat) : Int) := by
  obtain ⟨n, rfl⟩ := Int.eq_ofNat_of_zero_le hv
  have e : 28 - 4 * k = 4 * (7 - k) := by omega
  have hp : (2 : Int) ^ (4 * (7 - k)) = ((16 ^ (7 - k) : Nat) : Int) := by rw [Int.pow_mul]; simp
  have hle : n / 16 ^ (7 - k) ≤ n := Nat.div_le_self _ _
  rw [e, hp, show ((n : Int) / ((16 ^ (7 - k) : Nat) : Int)) = ((n / 16 ^ (7 - k) : Nat) : Int) from rfl]
  rw [Int.toNat_natCast]
  generalize n / 16 ^ (7 - k) = m at hle ⊢
  rw [u32_and _ _ (by omega) (by omega) (by decide) (by decide), show (15 : Int).toNat = 15 from rfl, nat_mask4]
  simp
/-- The last k digits. -/
def textBack (v : Nat) : Nat → List UInt8
  | 0 => []
  | k + 1 => digit v (7 - k) :: textBack v k
theorem textBack_length (v : Nat) : ∀ k, (textBack v k).length = k
  | 0 => rfl
  | k + 1 => by rw [textBack, List.length_cons, textBack_length v k]
theorem textBack_all (v : Nat) : [48, 120] ++ textBack v 8 = textL v := rfl
theorem low_digit (n : Nat) (h : n < 4294967296) : bits .and .u32 (n : Int) 15 = ((n % 16 : Nat) : Int) := by
  rw [u32_and _ _ (by omega) (by omega) (by decide) (by decide), show (15 : Int).toNat = 15 from rfl, nat_mask4, Int.toNat_natCast]
theorem hexes_slice : ∀ (d : Nat) (_ : d < 16), (ByteArray.mk #[48, 49, 50, 51, 52, 53, 54, 55, 56, 57, 97, 98, 99, 100, 101, 102]).extract d (d + 1) = ⟨#[hexB d]⟩ := by decide
end Go.Proofs.Ytkdcdoihgjjnbaa
