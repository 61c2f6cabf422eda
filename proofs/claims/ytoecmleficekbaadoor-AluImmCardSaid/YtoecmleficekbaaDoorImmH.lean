/- What the walk of AluImm needs. -/
import Derived.Test.YtoecmleficekbaaDoorAmH
import Derived.KernelRfl
namespace Go.Proofs.YtoecmleficekbaaDoor
theorem wrapU32 (n : Int) : IntKind.wrap .u32 n = n % 4294967296 := by
  simp [IntKind.wrap, IntKind.signed, IntKind.bits]
theorem cboundsi_eq (c : Cp) (n : Int) (h : ¬ n < 0) : aluG (ByteArray.mk (Array.mk [99, 98, 111, 117, 110, 100, 115]) ++ ByteArray.mk (Array.mk [105])).toList c ⟨false, 0, 0, 0, 0, 0⟩ n = c.bounds n := by
  have e : aluG (ByteArray.mk (Array.mk [99, 98, 111, 117, 110, 100, 115]) ++ ByteArray.mk (Array.mk [105])).toList c ⟨false, 0, 0, 0, 0, 0⟩ n = Cp.boundsI c n := by kernel_rfl
  rw [e]; exact if_neg h
end Go.Proofs.YtoecmleficekbaaDoor
