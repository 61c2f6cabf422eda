/- Which operands a form has; an op's name and form by its code. -/
import Derived.Test.YtplejhefhnmabaaGreatDoorAm3
namespace Go.Proofs.YtplejhefhnmabaaGreatDoor
open Go.RowKit Am
set_option linter.unusedSimpArgs false
set_option linter.unusedVariables false
def hRd (f : Int) : Bool := f == 3 || f == 2 || f == 1 || f == 4 || f == 6 || f == 8 || f == 5 || f == 7
def hRs (f : Int) : Bool := f == 3 || f == 2 || f == 4 || f == 6 || f == 8
def hRt (f : Int) : Bool := f == 3
def hIm (f : Int) : Bool := f == 4 || f == 6 || f == 8 || f == 5 || f == 7 || f == 9
theorem rt_im {f : Int} (h : hRt f = true) : hIm f = false := by simp [hRt, hIm] at h ⊢; subst h; decide
/-! Bits of an instruction, by division. -/
def oV (v : Int) : Int := v / 16777216
def dV (v : Int) : Int := v / 1048576 % 16
def sV (v : Int) : Int := v / 65536 % 16
def tV (v : Int) : Int := v / 4096 % 16
def iV (v : Int) : Int := (v % 65536 + 32768) % 65536 - 32768
/-- Is nothing there but what the form has? -/
def zV (f v : Int) : Bool := (hRd f || dV v == 0) && (hRs f || sV v == 0) && (hIm f || (hRt f || tV v == 0) && v % 4096 == 0)
theorem wrapU_id {y : Int} (h0 : 0 ≤ y) (h1 : y < 4294967296) : IntKind.wrap .u32 y = y := by
  simp [IntKind.wrap, IntKind.signed, IntKind.bits]; omega
theorem nat_and (x : Int) (k : Nat) (hk : k ≤ 32) : bitsI .and .u32 x (2 ^ k - 1 : Nat) = x % (2 ^ k : Nat) := by
  show IntKind.wrap .u32 ((BitVec.ofInt 32 x &&& BitVec.ofInt 32 (2 ^ k - 1 : Nat)).toNat : Int) = _
  have h1 : (BitVec.ofInt 32 ((2 ^ k - 1 : Nat) : Int)).toNat = 2 ^ k - 1 := by
    have : 2 ^ k ≤ 2 ^ 32 := Nat.pow_le_pow_right (by decide) hk
    simp; omega
  have h2 : ((BitVec.ofInt 32 x).toNat : Int) = x % 4294967296 := by simp; omega
  have h3 : ((BitVec.ofInt 32 x &&& BitVec.ofInt 32 ((2 ^ k - 1 : Nat) : Int)).toNat : Int) = x % (2 ^ k : Nat) := by
    rw [BitVec.toNat_and, h1, Nat.and_two_pow_sub_one_eq_mod, Int.natCast_emod, h2]
    apply Int.emod_emod_of_dvd
    have : (2 : Nat) ^ k ∣ 2 ^ 32 := Nat.pow_dvd_pow 2 hk
    exact Int.natCast_dvd_natCast.2 this
  rw [h3]
  have hp : (0 : Int) < (2 ^ k : Nat) := by have := Nat.pow_pos (n := k) (show 0 < 2 by decide); omega
  have hle : ((2 ^ k : Nat) : Int) ≤ 4294967296 := by
    have : 2 ^ k ≤ 2 ^ 32 := Nat.pow_le_pow_right (by decide) hk
    omega
  have a := Int.emod_nonneg x (Int.ne_of_gt hp)
  have b := Int.emod_lt_of_pos x hp
  exact wrapU_id a (by omega)
theorem and24 (x : Int) : bitsI .and .u32 x 16777215 = x % 16777216 := nat_and x 24 (by decide)
theorem and20 (x : Int) : bitsI .and .u32 x 1048575 = x % 1048576 := nat_and x 20 (by decide)
theorem and4 (x : Int) : bitsI .and .u32 x 15 = x % 16 := nat_and x 4 (by decide)
theorem and16 (x : Int) : bitsI .and .u32 x 65535 = x % 65536 := nat_and x 16 (by decide)
theorem andNot_u32 (x m : Int) : bitsI .andNot .u32 x m = x % 4294967296 - bitsI .and .u32 x m := by
  show IntKind.wrap .u32 ((BitVec.ofInt 32 x &&& ~~~ BitVec.ofInt 32 m).toNat : Int) = x % 4294967296 - IntKind.wrap .u32 ((BitVec.ofInt 32 x &&& BitVec.ofInt 32 m).toNat : Int)
  generalize ha : BitVec.ofInt 32 x = a
  generalize BitVec.ofInt 32 m = b
  have hx : x % 4294967296 = (a.toNat : Int) := by rw [← ha]; simp; omega
  rw [hx]
  have e : (a &&& ~~~ b).toNat + (a &&& b).toNat = a.toNat := by
    have h0 : (a &&& ~~~ b) &&& (a &&& b) = 0#32 := by ext i; simp; intro h1 h2 h3; simp [h2]
    have h1 : (a &&& ~~~ b) ||| (a &&& b) = a := by
      ext i hi; simp only [BitVec.getElem_or, BitVec.getElem_and, BitVec.getElem_not]; cases a[i] <;> cases b[i] <;> rfl
    have := BitVec.add_eq_or_of_and_eq_zero _ _ h0
    rw [h1] at this
    have h2 := congrArg BitVec.toNat this
    rw [BitVec.toNat_add_of_and_eq_zero h0] at h2
    omega
  have l1 := (a &&& ~~~ b).isLt
  have l2 := (a &&& b).isLt
  rw [wrapU_id (by omega) (by omega), wrapU_id (by omega) (by omega)]
  omega
theorem and_mid (x m1 m2 m : Int) (hd : BitVec.ofInt 32 m1 &&& BitVec.ofInt 32 m2 = 0#32) (ho : BitVec.ofInt 32 m1 ||| BitVec.ofInt 32 m2 = BitVec.ofInt 32 m) : bitsI .and .u32 x m1 = bitsI .and .u32 x m - bitsI .and .u32 x m2 := by
  show IntKind.wrap .u32 ((BitVec.ofInt 32 x &&& BitVec.ofInt 32 m1).toNat : Int) = IntKind.wrap .u32 ((BitVec.ofInt 32 x &&& BitVec.ofInt 32 m).toNat : Int) - IntKind.wrap .u32 ((BitVec.ofInt 32 x &&& BitVec.ofInt 32 m2).toNat : Int)
  rw [← ho]
  generalize BitVec.ofInt 32 x = a
  generalize BitVec.ofInt 32 m1 = b at *
  generalize BitVec.ofInt 32 m2 = c at *
  have h0 : (a &&& b) &&& (a &&& c) = 0#32 := by
    have : (a &&& b) &&& (a &&& c) = (a &&& a) &&& (b &&& c) := by ext i hi; simp only [BitVec.getElem_and]; cases a[i] <;> cases b[i] <;> cases c[i] <;> rfl
    rw [this, hd, BitVec.and_zero]
  have h1 : (a &&& b) ||| (a &&& c) = a &&& (b ||| c) := by ext i hi; simp only [BitVec.getElem_or, BitVec.getElem_and]; cases a[i] <;> cases b[i] <;> cases c[i] <;> rfl
  have h2 := congrArg BitVec.toNat (BitVec.add_eq_or_of_and_eq_zero _ _ h0)
  rw [h1, BitVec.toNat_add_of_and_eq_zero h0] at h2
  have l1 := (a &&& b).isLt
  have l2 := (a &&& c).isLt
  have l3 := (a &&& (b ||| c)).isLt
  rw [wrapU_id (by omega) (by omega), wrapU_id (by omega) (by omega), wrapU_id (by omega) (by omega)]
  omega
theorem and983040 (x : Int) : bitsI .and .u32 x 983040 = x % 1048576 - x % 65536 := by rw [and_mid x 983040 65535 1048575 (by decide) (by decide), and20, and16]
theorem and12 (x : Int) : bitsI .and .u32 x 4095 = x % 4096 := nat_and x 12 (by decide)
theorem and61440 (x : Int) : bitsI .and .u32 x 61440 = x % 65536 - x % 4096 := by rw [and_mid x 61440 4095 65535 (by decide) (by decide), and16, and12]
theorem not16 (x : Int) : bitsI .andNot .u32 x 65535 = x % 4294967296 - x % 65536 := by rw [andNot_u32, and16]
theorem not983040 (x : Int) : bitsI .andNot .u32 x 983040 = x % 4294967296 - (x % 1048576 - x % 65536) := by rw [andNot_u32, and983040]
theorem not61440 (x : Int) : bitsI .andNot .u32 x 61440 = x % 4294967296 - (x % 65536 - x % 4096) := by rw [andNot_u32, and61440]
theorem fd24 (x : Int) : Int.fdiv x 16777216 = x / 16777216 := Int.fdiv_eq_ediv_of_nonneg _ (by decide)
theorem fd20 (x : Int) : Int.fdiv x 1048576 = x / 1048576 := Int.fdiv_eq_ediv_of_nonneg _ (by decide)
theorem fd16 (x : Int) : Int.fdiv x 65536 = x / 65536 := Int.fdiv_eq_ediv_of_nonneg _ (by decide)
theorem fd12 (x : Int) : Int.fdiv x 4096 = x / 4096 := Int.fdiv_eq_ediv_of_nonneg _ (by decide)
theorem wrI64 (x : Int) : IntKind.wrap .i64 x = (x + 9223372036854775808) % 18446744073709551616 - 9223372036854775808 := by
  simp [IntKind.wrap, IntKind.signed, IntKind.bits]; omega
theorem wrI32 (x : Int) : IntKind.wrap .i32 x = (x + 2147483648) % 4294967296 - 2147483648 := by
  simp [IntKind.wrap, IntKind.signed, IntKind.bits]; omega
theorem wrI16 (x : Int) : IntKind.wrap .i16 x = (x + 32768) % 65536 - 32768 := by
  simp [IntKind.wrap, IntKind.signed, IntKind.bits]; omega
theorem wrU32' (x : Int) : IntKind.wrap .u32 x = x % 4294967296 := by
  simp [IntKind.wrap, IntKind.signed, IntKind.bits]
theorem wrU16' (x : Int) : IntKind.wrap .u16 x = x % 65536 := by
  simp [IntKind.wrap, IntKind.signed, IntKind.bits]
theorem oE {v : Int} (h : 0 ≤ v) (h1 : v < 4294967296) : IntKind.wrap .i64 (Int.fdiv v 16777216) = oV v := by
  rw [fd24, wrI64]; unfold oV; omega
theorem m1 (x : Int) : x % 16777216 % 1048576 = x % 1048576 := Int.emod_emod_of_dvd x (by decide)
theorem m2 (x : Int) : x % 1048576 % 4294967296 = x % 1048576 := by omega
theorem m3 (x : Int) : x % 16777216 % 4294967296 = x % 16777216 := by omega
theorem m4 (x : Int) : x % 1048576 % 65536 = x % 65536 := Int.emod_emod_of_dvd x (by decide)
theorem m5 (x : Int) : x % 16777216 % 65536 = x % 65536 := Int.emod_emod_of_dvd x (by decide)
theorem m6 (x : Int) : x % 65536 % 4294967296 = x % 65536 := by omega
theorem m7 (x : Int) : x % 65536 % 4096 = x % 4096 := Int.emod_emod_of_dvd x (by decide)
theorem m8 (x : Int) : x % 1048576 % 4096 = x % 4096 := Int.emod_emod_of_dvd x (by decide)
theorem m9 (x : Int) : x % 16777216 % 4096 = x % 4096 := Int.emod_emod_of_dvd x (by decide)
theorem m10 (x y : Int) : x - (x - y) = y := by omega
theorem m11 (x : Int) : x % 65536 % 65536 = x % 65536 := by omega
theorem m12 (x : Int) : x % 1048576 % 1048576 = x % 1048576 := by omega
theorem m13 (x : Int) : (x % 16777216 - (x % 1048576 - x % 65536)) % 4294967296 = x % 16777216 - (x % 1048576 - x % 65536) := by omega
theorem m14 (x : Int) : (x % 16777216 - (x % 1048576 - x % 65536)) % 65536 = x % 65536 := by omega
theorem m15 (x : Int) : (x % 16777216 - (x % 1048576 - x % 65536)) % 4096 = x % 4096 := by omega
theorem m16 (x : Int) : (x % 16777216 - (x % 1048576 - x % 65536)) / 4096 % 16 = x / 4096 % 16 := by omega
theorem m17 (x : Int) : x % 16777216 / 4096 % 16 = x / 4096 % 16 := by omega
theorem m18 (x : Int) : x % 1048576 / 4096 % 16 = x / 4096 % 16 := by omega
theorem m19 (x : Int) : x % 65536 / 4096 % 16 = x / 4096 % 16 := by omega
theorem m20 (x : Int) : x % 16777216 / 65536 % 16 = x / 65536 % 16 := by omega
theorem m21 (x : Int) : x % 1048576 / 65536 % 16 = x / 65536 % 16 := by omega
theorem m22 (x : Int) : x % 16777216 / 1048576 = x / 1048576 % 16 := by omega
theorem m23 (x : Int) : (x % 16 + 9223372036854775808) % 18446744073709551616 - 9223372036854775808 = x % 16 := by omega
theorem m24 (x : Int) : (x % 16777216 + 9223372036854775808) % 18446744073709551616 - 9223372036854775808 = x % 16777216 := by omega
theorem or_add (x y : Int) (k : Nat) (hk : k ≤ 32) (hx : 0 ≤ x) (hx1 : x < 4294967296) (hy : 0 ≤ y) (hy1 : y < (2 ^ k : Nat)) (hm : x % (2 ^ k : Nat) = 0) : bitsI .or .u32 x y = x + y := by
  show IntKind.wrap .u32 ((BitVec.ofInt 32 x ||| BitVec.ofInt 32 y).toNat : Int) = x + y
  have hle : (2 : Nat) ^ k ≤ 2 ^ 32 := Nat.pow_le_pow_right (by decide) hk
  have e1 : (BitVec.ofInt 32 x).toNat = x.toNat := by simp; omega
  have e2 : (BitVec.ofInt 32 y).toNat = y.toNat := by simp; omega
  have e3 : x.toNat = 2 ^ k * (x.toNat / 2 ^ k) := by
    have : x.toNat % 2 ^ k = 0 := by
      have := congrArg Int.toNat hm
      rw [Int.toNat_emod hx (by omega), Int.toNat_natCast] at this
      exact this
    have := Nat.div_add_mod x.toNat (2 ^ k); omega
  have e4 : x.toNat ||| y.toNat = x.toNat + y.toNat := by
    rw [e3]
    exact (Nat.two_pow_add_eq_or_of_lt (by omega) _).symm
  have hsum : x.toNat + y.toNat < 4294967296 := by
    have h3 : x.toNat ||| y.toNat < 2 ^ 32 := Nat.or_lt_two_pow (by omega) (by omega)
    rw [e4] at h3; exact h3
  rw [BitVec.toNat_or, e1, e2, e4, wrapU_id (by omega) (by omega)]
  omega
theorem or_zero' (x : Int) (hx : 0 ≤ x) (hx1 : x < 4294967296) : bitsI .or .u32 x 0 = x := by
  have := or_add x 0 0 (by decide) hx hx1 (by omega) (by decide) (by simp)
  omega
/-- Bits, put together. -/
def encP (n d s t m : Int) : Int := n * 16777216 + d * 1048576 + s * 65536 + t * 4096 + m % 65536
theorem wm (x c : Int) (h : 0 ≤ x) (h1 : x * c < 4294967296) (hc : 1 ≤ c) : IntKind.wrap .u32 (IntKind.wrap .u32 x * c) = x * c := by
  have hx : x ≤ x * c := by
    have := Int.mul_le_mul_of_nonneg_left hc h; omega
  have h0 : 0 ≤ x * c := Int.mul_nonneg h (by omega)
  rw [wrapU_id h (by omega), wrapU_id h0 h1]
theorem enc3 {n d s : Int} (hn : 0 ≤ n) (hn1 : n < 256) (hd : 0 ≤ d) (hd1 : d < 16) (hs : 0 ≤ s) (hs1 : s < 16) : bitsI .or .u32 (bitsI .or .u32 (IntKind.wrap .u32 (IntKind.wrap .u32 n * 16777216)) (IntKind.wrap .u32 (IntKind.wrap .u32 d * 1048576))) (IntKind.wrap .u32 (IntKind.wrap .u32 s * 65536)) = n * 16777216 + d * 1048576 + s * 65536 := by
  rw [wm n 16777216 hn (by omega) (by decide), wm d 1048576 hd (by omega) (by decide), wm s 65536 hs (by omega) (by decide)]
  rw [or_add (n * 16777216) (d * 1048576) 24 (by decide) (by omega) (by omega) (by omega) (by simp; omega) (by simp)]
  rw [or_add (n * 16777216 + d * 1048576) (s * 65536) 20 (by decide) (by omega) (by omega) (by omega) (by simp; omega) (by simp; omega)]
theorem encT {n d s t : Int} (hn : 0 ≤ n) (hn1 : n < 256) (hd : 0 ≤ d) (hd1 : d < 16) (hs : 0 ≤ s) (hs1 : s < 16) (ht : 0 ≤ t) (ht1 : t < 16) : bitsI .or .u32 (n * 16777216 + d * 1048576 + s * 65536) (IntKind.wrap .u32 (IntKind.wrap .u32 t * 4096)) = encP n d s t 0 := by
  rw [wm t 4096 ht (by omega) (by decide)]
  rw [or_add (n * 16777216 + d * 1048576 + s * 65536) (t * 4096) 16 (by decide) (by omega) (by omega) (by omega) (by simp; omega) (by simp; omega)]
  unfold encP; omega
theorem encM {n d s y m : Int} (hn : 0 ≤ n) (hn1 : n < 256) (hd : 0 ≤ d) (hd1 : d < 16) (hs : 0 ≤ s) (hs1 : s < 16) (hy : y = m % 65536) : bitsI .or .u32 (n * 16777216 + d * 1048576 + s * 65536) y = encP n d s 0 m := by
  subst hy
  rw [or_add (n * 16777216 + d * 1048576 + s * 65536) (m % 65536) 16 (by decide) (by omega) (by omega) (by omega) (by simp; omega) (by simp; omega)]
  unfold encP; omega
theorem mu16 (m : Int) : IntKind.wrap .u32 (IntKind.wrap .u16 m) = m % 65536 := by rw [wrU16', wrU32']; omega
theorem mu32 (m : Int) : bitsI .and .u32 (IntKind.wrap .u32 m) 65535 = m % 65536 := by rw [and16, wrU32']; omega
theorem encA {n d s t m : Int} (hn : 1 ≤ n) (hn1 : n ≤ 67) (hd : 0 ≤ d) (hd1 : d < 16) (hs : 0 ≤ s) (hs1 : s < 16) (ht : 0 ≤ t) (ht1 : t < 16) {f : Int} (xt : hRt f = true ∨ t = 0) (xm : hIm f = true ∨ m = 0) :
    bitsI .or .u32 (bitsI .or .u32 (bitsI .or .u32 (bitsI .or .u32 (IntKind.wrap .u32 (IntKind.wrap .u32 n * 16777216)) (IntKind.wrap .u32 (IntKind.wrap .u32 d * 1048576))) (IntKind.wrap .u32 (IntKind.wrap .u32 s * 65536))) (IntKind.wrap .u32 (IntKind.wrap .u32 t * 4096))) (IntKind.wrap .u32 (IntKind.wrap .u16 m)) = encP n d s t m := by
  rw [enc3 (by omega) (by omega) hd hd1 hs hs1, mu16]
  have tm : t = 0 ∨ m = 0 := by
    rcases xt with h | h
    · rcases xm with h' | h'
      · rw [rt_im h] at h'; cases h'
      · exact .inr h'
    · exact .inl h
  rcases tm with rfl | rfl
  · rw [show IntKind.wrap .u32 (IntKind.wrap .u32 0 * 4096) = 0 by decide, or_zero' _ (by omega) (by omega), encM (by omega) (by omega) hd hd1 hs hs1 rfl]
  · rw [encT (by omega) (by omega) hd hd1 hs hs1 ht ht1, show (0 : Int) % 65536 = 0 by decide, or_zero' _ (by unfold encP; omega) (by unfold encP; omega)]
theorem encB {n d s t m : Int} (hn : 1 ≤ n) (hn1 : n ≤ 67) (hd : 0 ≤ d) (hd1 : d < 16) (hs : 0 ≤ s) (hs1 : s < 16) (ht : 0 ≤ t) (ht1 : t < 16) {f : Int} (h0 : (f == 3) = true) (xm : hIm f = true ∨ m = 0) :
    bitsI .or .u32 (bitsI .or .u32 (bitsI .or .u32 (IntKind.wrap .u32 (IntKind.wrap .u32 n * 16777216)) (IntKind.wrap .u32 (IntKind.wrap .u32 d * 1048576))) (IntKind.wrap .u32 (IntKind.wrap .u32 s * 65536))) (IntKind.wrap .u32 (IntKind.wrap .u32 t * 4096)) = encP n d s t m := by
  rw [enc3 (by omega) (by omega) hd hd1 hs hs1, encT (by omega) (by omega) hd hd1 hs hs1 ht ht1]
  rcases xm with h' | h'
  · rw [rt_im (show hRt f = true from h0)] at h'; cases h'
  · rw [h']
theorem encC {n d s t m : Int} (hn : 1 ≤ n) (hn1 : n ≤ 67) (hd : 0 ≤ d) (hd1 : d < 16) (hs : 0 ≤ s) (hs1 : s < 16) {f : Int} (h0 : (f == 3) = false) (xt : hRt f = true ∨ t = 0) :
    bitsI .or .u32 (bitsI .or .u32 (bitsI .or .u32 (IntKind.wrap .u32 (IntKind.wrap .u32 n * 16777216)) (IntKind.wrap .u32 (IntKind.wrap .u32 d * 1048576))) (IntKind.wrap .u32 (IntKind.wrap .u32 s * 65536))) (bitsI .and .u32 (IntKind.wrap .u32 m) 65535) = encP n d s t m := by
  rw [enc3 (by omega) (by omega) hd hd1 hs hs1, encM (by omega) (by omega) hd hd1 hs hs1 (mu32 m)]
  rcases xt with h' | h'
  · rw [show hRt f = false from h0] at h'; cases h'
  · rw [h']
/-- What was put together out of bits is these bits. -/
theorem encBackB {a b c e : Bool} {v : Int} (hv : 0 ≤ v) (hx : c = true → e = false) (hz : ((a || dV v == 0) && (b || sV v == 0) && (e || (c || tV v == 0) && v % 4096 == 0)) = true) :
    encP (oV v) (bif a then dV v else 0) (bif b then sV v else 0) (bif c then tV v else 0) (bif e then iV v else 0) = v := by
  cases a <;> cases b <;> cases c <;> cases e <;> (try (have := hx rfl; cases this)) <;> simp only [Bool.true_or, Bool.false_or, Bool.true_and, Bool.and_true, Bool.and_eq_true, beq_iff_eq, dV, sV, tV] at hz <;>
    simp only [cond_true, cond_false, encP, oV, dV, sV, tV, iV] <;> omega
theorem encBackC {a b c e : Bool} {v : Int} (hv : 0 ≤ v) (hx : c = true → e = false) (hz : ((a || dV v == 0) && (b || sV v == 0) && (e || (c || tV v == 0) && v % 4096 == 0)) = false) :
    encP (oV v) (bif a then dV v else 0) (bif b then sV v else 0) (bif c then tV v else 0) (bif e then iV v else 0) ≠ v := by
  intro he
  cases a <;> cases b <;> cases c <;> cases e <;> (try (have := hx rfl; cases this)) <;> (try (simp only [Bool.true_or, Bool.false_or, Bool.true_and, Bool.and_true, Bool.true_eq_false] at hz; done)) <;>
    simp only [Bool.true_or, Bool.false_or, Bool.true_and, Bool.and_true, Bool.and_eq_false_iff, beq_eq_false_iff_ne, ne_eq, dV, sV, tV] at hz <;>
    simp only [cond_true, cond_false, encP, oV, dV, sV, tV, iV] at he <;> omega
theorem encBack {f v : Int} (hv : 0 ≤ v) (hz : zV f v = true) : encP (oV v) (bif hRd f then dV v else 0) (bif hRs f then sV v else 0) (bif hRt f then tV v else 0) (bif hIm f then iV v else 0) = v := encBackB hv rt_im hz
theorem encBackN {f v : Int} (hv : 0 ≤ v) (hz : zV f v = false) : encP (oV v) (bif hRd f then dV v else 0) (bif hRs f then sV v else 0) (bif hRt f then tV v else 0) (bif hIm f then iV v else 0) ≠ v := encBackC hv rt_im hz
def sgR (v : Int) : Int := IntKind.wrap .u32 (Int.fdiv (IntKind.wrap .i32 (IntKind.wrap .u32 (v * 65536))) 65536)
theorem sgE (v : Int) : IntKind.wrap .i32 (sgR v) = iV v := by
  unfold sgR iV; rw [wrI32, wrU32', fd16, wrI32, wrU32']; omega
theorem dE (v : Int) : IntKind.wrap .i64 (bitsI .and .u32 (Int.fdiv v 1048576) 15) = dV v := by rw [and4, fd20, wrI64, m23]; rfl
theorem sE (v : Int) : IntKind.wrap .i64 (bitsI .and .u32 (Int.fdiv v 65536) 15) = sV v := by rw [and4, fd16, wrI64, m23]; rfl
theorem tE (v : Int) : IntKind.wrap .i64 (bitsI .and .u32 (Int.fdiv v 4096) 15) = tV v := by rw [and4, fd12, wrI64, m23]; rfl
theorem fE (v : Int) : IntKind.wrap .i64 (bitsI .and .u32 v 16777215) = v % 16777216 := by rw [and24, wrI64, m24]
theorem dR (v : Int) : 0 ≤ dV v ∧ dV v < 16 := by unfold dV; omega
theorem sR (v : Int) : 0 ≤ sV v ∧ sV v < 16 := by unfold sV; omega
theorem tR (v : Int) : 0 ≤ tV v ∧ tV v < 16 := by unfold tV; omega
theorem iR (v : Int) : -32768 ≤ iV v ∧ iV v ≤ 32767 := by unfold iV; omega
theorem bLo (b : Bool) {x : Int} (h : 0 ≤ x) : 0 ≤ (bif b then x else 0) := by cases b <;> simp <;> exact h
theorem bHi (b : Bool) {x : Int} (h : x < 16) : (bif b then x else 0) < 16 := by cases b <;> simp <;> exact h
theorem bLoI (b : Bool) {x : Int} (h : -32768 ≤ x) : -32768 ≤ (bif b then x else 0) := by cases b <;> simp <;> exact h
theorem bHiI (b : Bool) {x : Int} (h : x ≤ 32767) : (bif b then x else 0) ≤ 32767 := by cases b <;> simp <;> exact h
theorem bX (b : Bool) (x : Int) : b = true ∨ (bif b then x else 0) = 0 := by cases b <;> simp
/-- What may not be: a register's number, a number. -/
def badR (n : Int) (has : Bool) : Bool := decide (n < 0) || decide (16 ≤ n) || (!(n == 0) && !has)
def badN (n : Int) (has : Bool) : Bool := decide (n < -32768) || decide (32767 < n) || (!(n == 0) && !has)
end Go.Proofs.YtplejhefhnmabaaGreatDoor
