/- The memory that the laws of package access begin with. -/
import Derived.Test.YtplejhefhnmabaaGreatDoorAccP
import Derived.Test.YtplejhefhnmabaaGreatDoorRefM
namespace Go.Proofs.YtplejhefhnmabaaGreatDoor
open Go.RowKit Am
set_option linter.unusedSimpArgs false
set_option linter.unusedVariables false
def flB (xs : List Int) (c : Cp) : List Int := stB (stB (stB (mz 128) 0 xs) 64 (capB c)) 96 (capB ⟨true, 0, 128, 0, 127, 0⟩)
def flT (k : Nat) (t : Bool) : List Bool := puT (puT (stT (mf 8) 0 k) 64 t) 96 true
theorem fl0 {xs : List Int} {k : Nat} (hx : Bs xs) (hk : xs.length = k) (hl : k ≤ 128) : MOk (stB (mz 128) 0 xs) (stT (mf 8) 0 k) 128 8 := by
  subst hk
  exact (MOk.new (n := 128) (by decide) (by decide)).store (spanOk_iff.2 ⟨by decide, by simp only [Int.ofNat_eq_natCast]; omega, by simp only [Int.ofNat_eq_natCast]; omega⟩) hx
theorem fl1 {xs : List Int} {k : Nat} (hx : Bs xs) (hk : xs.length = k) (hl : k ≤ 128) (c : Cp) (t : Bool) : MOk (stB (stB (mz 128) 0 xs) 64 (capB c)) (puT (stT (mf 8) 0 k) 64 t) 128 8 :=
  (fl0 hx hk hl).storeCap (by decide) (length_capB _) (Bs.capB _)
theorem fl2 {xs : List Int} {k : Nat} (hx : Bs xs) (hk : xs.length = k) (hl : k ≤ 128) (c : Cp) (t : Bool) : MOk (flB xs c) (flT k t) 128 8 :=
  (fl1 hx hk hl c t).storeCap (by decide) (length_capB _) (Bs.capB _)
theorem flSp {k : Nat} (hl : k ≤ 128) : spanOk 128 0 (Int.ofNat k) = true := spanOk_iff.2 ⟨by decide, by simp only [Int.ofNat_eq_natCast]; omega, by simp only [Int.ofNat_eq_natCast]; omega⟩
theorem okR128 : Cp.Ok ⟨true, 0, 128, 0, 127, 0⟩ := by constructor <;> decide
end Go.Proofs.YtplejhefhnmabaaGreatDoor
