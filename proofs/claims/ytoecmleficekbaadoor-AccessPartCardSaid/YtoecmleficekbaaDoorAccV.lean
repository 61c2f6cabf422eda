/- Through a part of a capability: plain law. -/
import Derived.Test.YtoecmleficekbaaDoorAccP
namespace Go.Proofs.YtoecmleficekbaaDoor
open Go.RowKit Am
set_option linter.unusedSimpArgs false
set_option linter.unusedVariables false
theorem apF {f : Int} (h : 0 ≤ f) (h1 : f < 256) : Int.tmod (IntKind.wrap .u32 f) 200 = f % 200 := by
  rw [wrU32, Int.tmod_eq_emod_of_nonneg (by omega)]; omega
theorem apK {f : Int} (h : 0 ≤ f) (h1 : f < 256) : Int.tmod (IntKind.wrap .u32 f) 56 = f % 56 := by
  rw [wrU32, Int.tmod_eq_emod_of_nonneg (by omega)]; omega
theorem apA {a : Int} (h : 0 ≤ a) (h1 : a < 256) : IntKind.wrap .u32 (4 * IntKind.wrap .u32 (Int.tmod a 60)) = 4 * (a % 60) := by
  rw [Int.tmod_eq_emod_of_nonneg h, wrU32, wrU32]; omega
theorem apX {f x : Int} (h : 0 ≤ f) (h1 : f < 256) (h2 : 0 ≤ x) (h3 : x < 256) : IntKind.wrap .u32 (f + IntKind.wrap .u32 (IntKind.wrap .i32 (IntKind.wrap .i32 x - IntKind.wrap .i32 f))) = x := by
  rw [wrapI32, wrapI32, wrapI32, wrU32, wrU32]; omega
theorem apX2 {x : Int} (h2 : 0 ≤ x) (h3 : x < 256) : IntKind.wrap .u32 (0 + IntKind.wrap .u32 (IntKind.wrap .i32 x)) = x := by
  rw [wrapI32, wrU32, wrU32]; omega
theorem accBd {f k x q : Int} (f0 : 0 ≤ f) (f1 : f < 200) (k0 : 0 ≤ k) (k1 : k < 56) (x0 : 0 ≤ x) (x4 : x % 4 = 0) (hq : q = 1 ∨ q = 2) :
    (accE ⟨Cp.has ⟨true, 0, 256, f, 127, 0⟩ f k, f, (f + k) % 4294967296, f, 127, 0⟩ x 4 q == 0) = decide (f ≤ x ∧ x + 4 ≤ f + k) := by
  have e : bits .and .u16 127 q = q := by rcases hq with rfl | rfl <;> kernel_rfl
  have e2 : Int.tmod x 4 = 0 := by rw [Int.tmod_eq_emod_of_nonneg x0]; exact x4
  have e3 : Cp.has ⟨true, 0, 256, f, 127, 0⟩ f k = true := by simp [Cp.has]; omega
  have e4 : (f + k) % 4294967296 = f + k := by omega
  rw [e3, e4]
  by_cases h : f ≤ x ∧ x + 4 ≤ f + k
  · simp [accE, e, e2, Cp.has, h]
  · have h' : Cp.has ⟨true, f, f + k, f, 127, 0⟩ x 4 = false := by simp [Cp.has]; omega
    simp [accE, e, h', h]
theorem accR256 {x q : Int} (x0 : 0 ≤ x) (x1 : x + 4 ≤ 256) (x4 : x % 4 = 0) (hq : q = 1 ∨ q = 2) : (accE ⟨true, 0, 256, 0, 127, 0⟩ x 4 q == 0) = true := by
  have e : bits .and .u16 127 q = q := by rcases hq with rfl | rfl <;> kernel_rfl
  have e2 : Int.tmod x 4 = 0 := by rw [Int.tmod_eq_emod_of_nonneg x0]; exact x4
  simp [accE, e, e2, Cp.has]; omega
theorem mok_p {x v : Int} (s1 : spanOk 256 x 4 = true) : MOk (stB (mz 256) x (b4 v)) (stT (mf 16) x 4) 256 16 :=
  (MOk.new (n := 256) (by decide) (by decide)).store (bs := b4 v) s1 (Bs.b4 v)
theorem ld4_st {x v : Int} (hv : 0 ≤ v) (hv1 : v < 4294967296) (s1 : spanOk 256 x 4 = true) : ld4 (stB (mz 256) x (b4 v)) x.toNat false = v := by
  obtain ⟨h0, _, h1⟩ := spanOk_iff.1 s1
  have g : ∀ d, d < 4 → (stB (mz 256) x (b4 v)).getD (x.toNat + d) 0 = (b4 v).getD d 0 := fun d hd => by
    rw [getD_stB (by rw [length_mz]; show x.toNat + 4 ≤ 256; omega), if_pos ⟨by omega, by show _ < x.toNat + 4; omega⟩]
    congr 1; omega
  have g0 := g 0 (by decide); have g1 := g 1 (by decide); have g2 := g 2 (by decide); have g3 := g 3 (by decide)
  simp only [Nat.add_zero] at g0
  simp only [ld4, cond_false, w4, g0, g1, g2, g3]
  simp only [b4, List.getD_cons_zero, List.getD_cons_succ]
  omega
theorem ld4_mz (n o : Nat) : ld4 (mz n) o false = 0 := by simp only [ld4, cond_false, w4, getD_mz]; rfl
theorem okP {f k : Int} {t : Bool} (f0 : 0 ≤ f) (f1 : f < 200) : Cp.Ok ⟨t, f, (f + k) % 4294967296, f, 127, 0⟩ := by
  constructor <;> simp only [] <;> omega
theorem okF {f : Int} (f0 : 0 ≤ f) (f1 : f < 200) : Cp.Ok ⟨true, 0, 256, f, 127, 0⟩ := by
  constructor <;> simp only [] <;> omega
end Go.Proofs.YtoecmleficekbaaDoor
