/- Small words for walks: an exit is passed on layer by layer (so that the kernel checks each layer once). -/
import Derived.WalkKit
import Derived.WalkLawsBesides
import Derived.WalkSpells
namespace Go.Proofs.YtplejhefhnmabaaGreatDoor
open Go.RowKit
theorem ba_append (a b : List UInt8) : (⟨a.toArray⟩ : ByteArray) ++ ⟨b.toArray⟩ = ⟨(a ++ b).toArray⟩ := by apply ByteArray.ext; simp
/-- A fact kept from the walk: a box, so that neither simp nor contradiction looks into it. -/
structure Kp (p : Prop) : Prop where
  out : p
section
variable {K : Act → World → Prop} {Q : Exit → Act → World → Prop} {a : Act} {w : World} {id id' : Nat}
theorem then_normal (h : K a w) : Exit.then K Q .normal a w := h
theorem then_ret (h : Q .ret a w) : Exit.then K Q .ret a w := h
theorem then_exit (h : Q (.exit id) a w) : Exit.then K Q (.exit id) a w := h
theorem inBlock_normal (h : Q .normal a w) : Exit.inBlock id Q .normal a w := h
theorem inBlock_ret (h : Q .ret a w) : Exit.inBlock id Q .ret a w := h
theorem inBlock_same (h : Q .normal a w) : Exit.inBlock id Q (.exit id) a w := by rw [Exit.inBlock, if_pos rfl]; exact h
theorem inBlock_other (hne : id' ≠ id) (h : Q (.exit id') a w) : Exit.inBlock id Q (.exit id') a w := by rw [Exit.inBlock, if_neg hne]; exact h
end
end Go.Proofs.YtplejhefhnmabaaGreatDoor
