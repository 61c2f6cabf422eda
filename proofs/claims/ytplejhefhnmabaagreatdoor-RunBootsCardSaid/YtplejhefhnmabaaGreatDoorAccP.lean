/- Package access in plain Lean, as contracts want it. -/
import Derived.Test.YtplejhefhnmabaaGreatDoorMemP
import Derived.KernelRfl
namespace Go.Proofs.YtplejhefhnmabaaGreatDoor
open Go.RowKit Am
set_option linter.unusedSimpArgs false
set_option linter.unusedVariables false
/-- What is wrong first (chapter 5): the number of the error. -/
def accE (c : Cp) (a n p : Int) : Int := if c.tag = false then 1 else if c.typ ≠ 0 then 2 else if bits .and .u16 c.perm p ≠ p then 3 else if Cp.has c a n = false then 4 else if 0 < n ∧ Int.tmod a n ≠ 0 then 5 else 0
theorem plA_in (a off : Int) : 0 ≤ IntKind.wrap .u32 (a + IntKind.wrap .u32 off) ∧ IntKind.wrap .u32 (a + IntKind.wrap .u32 off) < 4294967296 := by rw [wrU32]; omega
theorem plA_i64 (a off : Int) : IntKind.wrap .i64 (IntKind.wrap .u32 (a + IntKind.wrap .u32 off)) = IntKind.wrap .u32 (a + IntKind.wrap .u32 off) := by
  have := plA_in a off; rw [wrapI64]; omega
def szOk (n : Int) : Bool := n == 1 || (n == 2 || n == 4)
/-- The sign of the bits put above. -/
def sg8 (v : Int) : Int := IntKind.wrap .u32 (Int.fdiv (IntKind.wrap .i32 (IntKind.wrap .u32 (v * 16777216))) 16777216)
def sg16 (v : Int) : Int := IntKind.wrap .u32 (Int.fdiv (IntKind.wrap .i32 (IntKind.wrap .u32 (v * 65536))) 65536)
def sg32 (v : Int) : Int := IntKind.wrap .u32 (Int.fdiv (IntKind.wrap .i32 (IntKind.wrap .u32 (v * 1))) 1)
def ld1 (B : List Int) (o : Nat) (s : Bool) : Int := bif s then sg8 (B.getD o 0) else B.getD o 0
def ld2 (B : List Int) (o : Nat) (s : Bool) : Int := bif s then sg16 (w2 B o) else w2 B o
def ld4 (B : List Int) (o : Nat) (s : Bool) : Int := bif s then sg32 (w4 B o) else w4 B o
theorem orB {v b : Int} (hb : 0 ≤ b ∧ b < 256) (h0 : 0 ≤ v) (h1 : v < 16777216) : Am.bitsI .or .u32 (IntKind.wrap .u32 (v * 256)) (IntKind.wrap .u32 b) = v * 256 + b := by
  rw [bitsI_or, wrU32, wrU32, Int.emod_eq_of_lt hb.1 (by omega), Int.emod_eq_of_lt (by omega) (by omega)]
  exact bits_join .u32 32 (by decide) wraps_u32 8 (v * 256) b (by omega) (by omega) (by omega) hb.1 (by omega) (by omega)
theorem orB0 {b : Int} (hb : 0 ≤ b ∧ b < 256) : Am.bitsI .or .u32 0 (IntKind.wrap .u32 b) = b := by
  rw [bitsI_or, wrU32, Int.emod_eq_of_lt hb.1 (by omega), u32_or 0 b (by omega) (by omega) hb.1 (by omega)]; simp; omega
theorem ldAt {B : List Int} {T : List Bool} {n m : Nat} {a k : Int} (hM : MOk B T n m) (hs : spanOk n a k = true) (i : Nat) (hi : i < k.toNat) : Am.asInt (((ldB B a k).map (AV.int .u8)).getD i .any) = B.getD (a.toNat + i) 0 := by
  obtain ⟨s1, s2, s3⟩ := spanOk_iff.1 hs
  have hb := hM.b
  rw [getD_ints (by rw [length_ldB (by omega)]; exact hi), ← getD_ldB i hi]; rfl
theorem ldIs {B : List Int} {T : List Bool} {n m : Nat} {a k : Int} (hM : MOk B T n m) (hs : spanOk n a k = true) (i : Nat) (hi : i < k.toNat) : (isInt .u8 (((ldB B a k).map (AV.int .u8)).getD i .any)).holds := by
  obtain ⟨s1, s2, s3⟩ := spanOk_iff.1 hs
  have hb := hM.b
  exact isInt_map (by rw [length_ldB (by omega)]; exact hi)
theorem be1 {b0 : Int} (h0 : 0 ≤ b0 ∧ b0 < 256) : Am.bitsI .or .u32 0 (IntKind.wrap .u32 b0) = b0 := orB0 h0
theorem be2 {b0 b1 : Int} (h0 : 0 ≤ b0 ∧ b0 < 256) (h1 : 0 ≤ b1 ∧ b1 < 256) : Am.bitsI .or .u32 (IntKind.wrap .u32 (Am.bitsI .or .u32 0 (IntKind.wrap .u32 b1) * 256)) (IntKind.wrap .u32 b0) = b0 + b1 * 256 := by
  rw [orB0 h1, orB h0 (by omega) (by omega)]; omega
theorem be4 {b0 b1 b2 b3 : Int} (h0 : 0 ≤ b0 ∧ b0 < 256) (h1 : 0 ≤ b1 ∧ b1 < 256) (h2 : 0 ≤ b2 ∧ b2 < 256) (h3 : 0 ≤ b3 ∧ b3 < 256) :
    Am.bitsI .or .u32 (IntKind.wrap .u32 (Am.bitsI .or .u32 (IntKind.wrap .u32 (Am.bitsI .or .u32 (IntKind.wrap .u32 (Am.bitsI .or .u32 0 (IntKind.wrap .u32 b3) * 256)) (IntKind.wrap .u32 b2) * 256)) (IntKind.wrap .u32 b1) * 256)) (IntKind.wrap .u32 b0) = b0 + b1 * 256 + b2 * 65536 + b3 * 16777216 := by
  rw [orB0 h3, orB h2 (by omega) (by omega), orB h1 (by omega) (by omega), orB h0 (by omega) (by omega)]; omega
def b1 (v : Int) : List Int := [v % 256]
theorem Bs.b1 (v : Int) : Bs (b1 v) := Bs.cons (by omega) Bs.nil
theorem u8w (v : Int) : IntKind.wrap .u8 v = v % 256 := wrU8 v
theorem fd8 (v : Int) : Int.fdiv v 256 = v / 256 := Int.fdiv_eq_ediv_of_nonneg _ (by omega)
theorem dd2 (v : Int) : v / 256 / 256 = v / 65536 := by omega
theorem dd3 (v : Int) : v / 65536 / 256 = v / 16777216 := by omega
theorem Bs.u8 (v : Int) : 0 ≤ IntKind.wrap .u8 v ∧ IntKind.wrap .u8 v < 256 := by rw [wrU8]; omega
theorem accAl {c : Cp} {a p : Int} (h : (accE c a 16 p == 0) = true) : (Int.tmod a 16 != 0) = false := by
  have h := eq_of_beq h
  unfold accE at h
  repeat' split at h
  all_goals first | omega | skip
  all_goals simp_all
theorem get_cap {B : List Int} {T : List Bool} {n m : Nat} {a : Int} {c : Cp} (hc : c.Ok) (hM : MOk B T n m) (hs : spanOk n a 16 = true) : getC (ldT (puT T a c.tag) a) (stB B a (capB c)) a.toNat = c := by
  obtain ⟨s1, s2, s3⟩ := spanOk_iff.1 hs
  have hb := hM.b; have ht := hM.t; have hnm := hM.nm
  have e : ldT (puT T a c.tag) a = c.tag := by
    unfold ldT; rw [getD_puT _ (by omega), if_pos rfl]
  rw [e]
  refine (getC_congr (p := 0) (B := capB c) fun j hj => ?_).trans (getC_capB hc)
  rw [getD_stB (by rw [length_capB]; omega), if_pos (by rw [length_capB]; omega)]; congr 1; omega
theorem ak0 (t : Bool) : (accE ⟨true, 0, 64, 0, 127, 0⟩ 16 16 (bif t then 18 else 2) == 0) = true := by cases t <;> kernel_rfl
theorem ak1 (t : Bool) : (accE ⟨true, 0, 64, 0, 2, 0⟩ 32 16 (bif t then 18 else 2) == 0) = !t := by cases t <;> kernel_rfl
end Go.Proofs.YtplejhefhnmabaaGreatDoor
