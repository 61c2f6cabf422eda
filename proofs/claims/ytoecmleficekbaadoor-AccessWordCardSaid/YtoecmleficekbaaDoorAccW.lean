/- A word is its four bytes: plain law. -/
import Derived.Test.YtoecmleficekbaaDoorAccP
namespace Go.Proofs.YtoecmleficekbaaDoor
open Go.RowKit Am
set_option linter.unusedSimpArgs false
set_option linter.unusedVariables false
theorem wrI8 (x : Int) : IntKind.wrap .i8 x = (x + 128) % 256 - 128 := by
  simp [IntKind.wrap, IntKind.signed, IntKind.bits]; omega
section
variable {a : Int} (ha : 0 ≤ a)
include ha
theorem aw0 : IntKind.wrap .u32 (0 + IntKind.wrap .u32 (IntKind.wrap .i32 (4 * IntKind.wrap .i32 (Int.tmod a 30)))) = 4 * (a % 30) := by
  rw [Int.tmod_eq_emod_of_nonneg ha, wrapI32, wrapI32, wrU32, wrU32]; omega
theorem aw0' : IntKind.wrap .u32 (0 + IntKind.wrap .u32 (IntKind.wrap .i32 (IntKind.wrap .i32 (4 * IntKind.wrap .i32 (Int.tmod a 30)) + 0))) = 4 * (a % 30) := by
  rw [Int.tmod_eq_emod_of_nonneg ha, wrapI32, wrapI32, wrapI32, wrU32, wrU32]; omega
theorem aw1 : IntKind.wrap .u32 (0 + IntKind.wrap .u32 (IntKind.wrap .i32 (IntKind.wrap .i32 (4 * IntKind.wrap .i32 (Int.tmod a 30)) + 1))) = 4 * (a % 30) + 1 := by
  rw [Int.tmod_eq_emod_of_nonneg ha, wrapI32, wrapI32, wrapI32, wrU32, wrU32]; omega
theorem aw2 : IntKind.wrap .u32 (0 + IntKind.wrap .u32 (IntKind.wrap .i32 (IntKind.wrap .i32 (4 * IntKind.wrap .i32 (Int.tmod a 30)) + 2))) = 4 * (a % 30) + 2 := by
  rw [Int.tmod_eq_emod_of_nonneg ha, wrapI32, wrapI32, wrapI32, wrU32, wrU32]; omega
theorem aw3 : IntKind.wrap .u32 (0 + IntKind.wrap .u32 (IntKind.wrap .i32 (IntKind.wrap .i32 (4 * IntKind.wrap .i32 (Int.tmod a 30)) + 3))) = 4 * (a % 30) + 3 := by
  rw [Int.tmod_eq_emod_of_nonneg ha, wrapI32, wrapI32, wrapI32, wrU32, wrU32]; omega
end
theorem accRt {x n q : Int} (h0 : 0 ≤ x) (hn : 0 < n) (h1 : x + n ≤ 128) (h2 : x % n = 0) (hq : q = 1 ∨ q = 2) : (accE ⟨true, 0, 128, 0, 127, 0⟩ x n q == 0) = true := by
  have e : bits .and .u16 127 q = q := by rcases hq with rfl | rfl <;> kernel_rfl
  have e2 : Int.tmod x n = 0 := by rw [Int.tmod_eq_emod_of_nonneg h0]; exact h2
  simp [accE, e, e2, Cp.has]; omega
theorem mok_w {x v : Int} (h0 : 0 ≤ x) (h1 : x + 4 ≤ 128) : MOk (stB (mz 128) x (b4 v)) (stT (mf 8) x 4) 128 8 :=
  (MOk.new (n := 128) (by decide) (by decide)).store (bs := b4 v) (spanOk_iff.2 ⟨h0, by show (0:Int) ≤ Int.ofNat 4; decide, h1⟩) (Bs.b4 v)
theorem get_w {x v : Int} (h0 : 0 ≤ x) (h1 : x + 4 ≤ 128) (d : Nat) (hd : d < 4) : (stB (mz 128) x (b4 v)).getD (x + d).toNat 0 = (b4 v).getD d 0 := by
  rw [getD_stB (by rw [length_mz]; show x.toNat + 4 ≤ 128; omega), if_pos ⟨by omega, by show _ < x.toNat + 4; omega⟩]
  congr 1; omega
theorem getw0 {x v : Int} (h0 : 0 ≤ x) (h1 : x + 4 ≤ 128) : (stB (mz 128) x (b4 v)).getD x.toNat 0 = v % 256 := by
  have h := get_w (v := v) h0 h1 0 (by decide)
  simpa [b4] using h
theorem getw1 {x v : Int} (h0 : 0 ≤ x) (h1 : x + 4 ≤ 128) : (stB (mz 128) x (b4 v)).getD (x + 1).toNat 0 = v / 256 % 256 := get_w h0 h1 1 (by decide)
theorem getw2 {x v : Int} (h0 : 0 ≤ x) (h1 : x + 4 ≤ 128) : (stB (mz 128) x (b4 v)).getD (x + 2).toNat 0 = v / 65536 % 256 := get_w h0 h1 2 (by decide)
theorem getw3 {x v : Int} (h0 : 0 ≤ x) (h1 : x + 4 ≤ 128) : (stB (mz 128) x (b4 v)).getD (x + 3).toNat 0 = v / 16777216 % 256 := get_w h0 h1 3 (by decide)
theorem w2_0 {x v : Int} (h0 : 0 ≤ x) (h1 : x + 4 ≤ 128) : w2 (stB (mz 128) x (b4 v)) x.toNat = v % 65536 := by
  unfold w2
  rw [getw0 h0 h1, show x.toNat + 1 = (x + 1).toNat by omega, getw1 h0 h1]; omega
theorem w2_2 {x v : Int} (h0 : 0 ≤ x) (h1 : x + 4 ≤ 128) : w2 (stB (mz 128) x (b4 v)) (x + 2).toNat = v / 65536 % 65536 := by
  unfold w2
  rw [getw2 h0 h1, show (x + 2).toNat + 1 = (x + 3).toNat by omega, getw3 h0 h1]; omega
theorem w4_0 {x v : Int} (hv : 0 ≤ v) (hv1 : v < 4294967296) (h0 : 0 ≤ x) (h1 : x + 4 ≤ 128) : w4 (stB (mz 128) x (b4 v)) x.toNat = v := by
  unfold w4
  rw [getw0 h0 h1, show x.toNat + 1 = (x + 1).toNat by omega, show x.toNat + 2 = (x + 2).toNat by omega, show x.toNat + 3 = (x + 3).toNat by omega, getw1 h0 h1, getw2 h0 h1, getw3 h0 h1]; omega
theorem fd16 (x : Int) : Int.fdiv x 65536 = x / 65536 := Int.fdiv_eq_ediv_of_nonneg _ (by omega)
theorem fd24 (x : Int) : Int.fdiv x 16777216 = x / 16777216 := Int.fdiv_eq_ediv_of_nonneg _ (by omega)
theorem sg8_eq {b : Int} (h0 : 0 ≤ b) (h1 : b < 256) : sg8 b = IntKind.wrap .u32 (IntKind.wrap .i32 (IntKind.wrap .i8 b)) := by
  unfold sg8; rw [fd24, wrI8, wrapI32, wrapI32, wrU32, wrU32, wrU32]; omega
theorem sg32_eq {v : Int} (h0 : 0 ≤ v) (h1 : v < 4294967296) : sg32 v = v := by
  unfold sg32; rw [Int.fdiv_eq_ediv_of_nonneg _ (by omega), Int.ediv_one, wrapI32, wrU32, wrU32]; omega
theorem sg16_eq {v : Int} (h0 : 0 ≤ v) (h1 : v < 4294967296) : sg16 (v / 65536 % 65536) = IntKind.wrap .u32 (Int.fdiv (IntKind.wrap .i32 v) 65536) := by
  unfold sg16; rw [fd16, fd16, wrapI32, wrapI32, wrU32, wrU32, wrU32]; omega
theorem orP {v b : Int} (hb : 0 ≤ b ∧ b < 256) (h0 : 0 ≤ v) (h1 : v < 16777216) : Am.bitsI .or .u32 (IntKind.wrap .u32 (v * 256)) b = v * 256 + b := by
  have h := orB hb h0 h1
  rwa [wrU32 b, Int.emod_eq_of_lt hb.1 (by omega)] at h
theorem orP0 {b : Int} (hb : 0 ≤ b ∧ b < 256) : Am.bitsI .or .u32 0 b = b := by
  have h := orB0 hb
  rwa [wrU32 b, Int.emod_eq_of_lt hb.1 (by omega)] at h
theorem bp4 {v : Int} (h0 : 0 ≤ v) (h1 : v < 4294967296) :
    Am.bitsI .or .u32 (IntKind.wrap .u32 (Am.bitsI .or .u32 (IntKind.wrap .u32 (Am.bitsI .or .u32 (IntKind.wrap .u32 (Am.bitsI .or .u32 0 (v / 16777216 % 256) * 256)) (v / 65536 % 256) * 256)) (v / 256 % 256) * 256)) (v % 256) = v := by
  have e2 := orP (v := v / 16777216 % 256) (b := v / 65536 % 256) (by omega) (by omega) (by omega)
  have e3 := orP (v := v / 16777216 % 256 * 256 + v / 65536 % 256) (b := v / 256 % 256) (by omega) (by omega) (by omega)
  have e4 := orP (v := (v / 16777216 % 256 * 256 + v / 65536 % 256) * 256 + v / 256 % 256) (b := v % 256) (by omega) (by omega) (by omega)
  rw [orP0 (by omega), e2, e3, e4]; omega
theorem andFFFF {v : Int} (h0 : 0 ≤ v) (h1 : v < 4294967296) : Am.bitsI .and .u32 v 65535 = v % 65536 := by
  rw [bitsI_and, u32_and v 65535 h0 h1 (by decide) (by decide)]
  have := Nat.and_two_pow_sub_one_eq_mod v.toNat 16
  simp only [show (65535 : Int).toNat = 2 ^ 16 - 1 from rfl, this]
  omega
end Go.Proofs.YtoecmleficekbaaDoor
