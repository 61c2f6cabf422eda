/- A slice of words that came in. -/
import Derived.Test.YtplejhefhnmabaaGreatDoorBytesIn
namespace Go.Proofs.YtplejhefhnmabaaGreatDoor
open Go.RowKit Am Go.ChangeShapes Go.WideShapes
set_option linter.unusedSimpArgs false
set_option linter.unusedVariables false
set_option maxRecDepth 100000
theorem cellsU32 : Tryz.prog.cellsOf 23 = 1 := by kernel_rfl
theorem words_in {H : Type} {enc : TypeId × Value → H} {W : World} {base : Nat} {v : Value} {d : DataW H} {p : List MemPlace} (hval : Value.okWide Tryz.prog W .any base 24 v) (h : DataW.Trod enc Tryz.prog W 0 (fun _ => true) true 24 v d p) :
    ∃ xs cap, Am.IntsAt .u32 W v xs cap ∧ (∀ x ∈ p, x.block < W.heap.size) ∧ (xs = [] ∨ ∃ elems spare, d = .slice elems spare ∧ elems.length = xs.length) := by
  obtain ⟨a1, len, cap, rfl⟩ := okWide_slice Tryz.underlying24 hval
  obtain ⟨fuel, hf⟩ := h
  rcases open_ints Tryz.underlying24 Tryz.underlying23 cellsU32 hf with ⟨hcs, hx⟩ | ⟨a, len', cap', zs, hcs, _, hl, hm, hz, hx, hcell, hwz⟩
  · simp [Value.cells] at hcs
    obtain ⟨rfl, rfl, rfl⟩ := hcs
    simp only [Prod.mk.injEq] at hx
    obtain ⟨rfl, rfl⟩ := hx
    exact ⟨[], 0, .inl ⟨rfl, rfl⟩, fun x hx => (by cases hx), .inl rfl⟩
  · simp [Value.cells] at hcs
    obtain ⟨rfl, rfl, rfl⟩ := hcs
    simp only [Prod.mk.injEq] at hx
    obtain ⟨rfl, rfl⟩ := hx
    simp only [if_true] at hz
    have hlen : (zs.take len).length = len := by simp; omega
    refine ⟨zs.take len, cap, .inr ⟨a, zs, by rw [hlen], by rw [hlen]; exact hl, hz, by rw [hlen], hcell⟩, fun x hx => ?_, .inr ⟨_, _, rfl, by simp [lits]⟩⟩
    · simp only [MemPlace.row, List.mem_map, List.mem_range] at hx
      obtain ⟨i, hi, rfl⟩ := hx
      obtain ⟨_, cs, e, fz, hb, _⟩ := Am.cell?_blk (hcell 0 (by omega))
      have hb : W.heap[a.block]? = some (.cells cs e fz) := hb
      rcases Nat.lt_or_ge a.block W.heap.size with h | h
      · exact h
      · rw [Array.getElem?_eq_none h] at hb; cases hb
def WIn (W : World) (v : Value) : Prop := ∃ xs cap, Am.IntsAt .u32 W v xs cap ∧ xs.length ≤ 35184372087808
theorem bytesOfU32 : Tryz.prog.bytesOf 23 = 4 := by kernel_rfl
theorem vr_ofLst {C : Cx} {b : Nm} {o len : Nat} {cap : Am.Cp} {a : Addr} {n c : Nat} (h : VR C (.lst b o len cap) (.slice (some a) n c)) : VR C (.slc b o len cap) (.slice (some a) n c) := by
  cases h with
  | lsts _ _ _ _ _ _ h => exact h
end Go.Proofs.YtplejhefhnmabaaGreatDoor
