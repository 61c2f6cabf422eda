/- A slice of bytes that came in. -/
import Derived.Test.YtplejhefhnmabaaGreatDoorMemP
import Derived.ChangeSlices
import Derived.OpenShut
import Derived.SizedLaws
import Derived.Below
namespace Go.Proofs.YtplejhefhnmabaaGreatDoor
open Go.RowKit Am Go.ChangeShapes Go.WideShapes
set_option linter.unusedSimpArgs false
set_option linter.unusedVariables false
set_option maxRecDepth 100000
theorem cellsU8 : Tryz.prog.cellsOf 5 = 1 := by kernel_rfl
theorem bytes_in {H : Type} {enc : TypeId × Value → H} {W : World} {base : Nat} {v : Value} {d : DataW H} {p : List MemPlace} (hval : Value.okWide Tryz.prog W .any base 22 v) (h : DataW.Trod enc Tryz.prog W 0 (fun _ => true) true 22 v d p) :
    ∃ xs cap, Am.BytesAt W v xs cap ∧ Bs xs ∧ (∀ x ∈ p, x.block < W.heap.size) ∧ (xs = [] ∨ ∃ elems spare, d = .slice elems spare ∧ elems.length = xs.length) := by
  obtain ⟨a1, len, cap, rfl⟩ := okWide_slice Tryz.underlying22 hval
  obtain ⟨fuel, hf⟩ := h
  rcases open_ints Tryz.underlying22 Tryz.underlying5 cellsU8 hf with ⟨hcs, hx⟩ | ⟨a, len', cap', zs, hcs, _, hl, hm, hz, hx, hcell, hwz⟩
  · simp [Value.cells] at hcs
    obtain ⟨rfl, rfl, rfl⟩ := hcs
    simp only [Prod.mk.injEq] at hx
    obtain ⟨rfl, rfl⟩ := hx
    exact ⟨[], 0, .inl ⟨rfl, rfl⟩, Bs.nil, fun x hx => (by cases hx), .inl rfl⟩
  · simp [Value.cells] at hcs
    obtain ⟨rfl, rfl, rfl⟩ := hcs
    simp only [Prod.mk.injEq] at hx
    obtain ⟨rfl, rfl⟩ := hx
    simp only [if_true] at hz
    have hlen : (zs.take len).length = len := by simp; omega
    refine ⟨zs.take len, cap, .inr ⟨a, zs, by rw [hlen], by rw [hlen]; exact hl, hz, by rw [hlen], hcell⟩, fun b hb => ?_, fun x hx => ?_, .inr ⟨_, _, rfl, by simp [lits]⟩⟩
    · have := hwz b (List.mem_of_mem_take hb)
      simp [Lit.wf, IntKind.min, IntKind.max, IntKind.signed, IntKind.bits] at this
      omega
    · simp only [MemPlace.row, List.mem_map, List.mem_range] at hx
      obtain ⟨i, hi, rfl⟩ := hx
      obtain ⟨_, cs, e, fz, hb, _⟩ := Am.cell?_blk (hcell 0 (by omega))
      have hb : W.heap[a.block]? = some (.cells cs e fz) := hb
      rcases Nat.lt_or_ge a.block W.heap.size with h | h
      · exact h
      · rw [Array.getElem?_eq_none h] at hb; cases hb
def BIn (W : World) (v : Value) : Prop := ∃ xs cap, Am.BytesAt W v xs cap ∧ Bs xs ∧ xs.length ≤ 140737488351232
theorem bytesOfU8 : Tryz.prog.bytesOf 5 = 1 := by kernel_rfl
theorem vrs_cons {C : Cx} {x : AV} {l : List AV} {x' : Value} {l' : List Value} (h : VR C x x') (k : VRs C l l'.toArray) : VRs C (x :: l) (x' :: l').toArray := by
  refine ⟨by have := k.1; simp at this ⊢; omega, fun i hi => ?_⟩
  cases i with
  | zero => simpa using h
  | succ i => have := k.2 i (by simpa using hi); simpa [Array.getD_eq_getD_getElem?, List.getD_eq_getElem?_getD] using this
theorem vrs_nil {C : Cx} : VRs C [] ([] : List Value).toArray := ⟨rfl, fun i hi => by cases hi⟩
/-- One block that came in. -/
def C1 (o : Option CB) : Cx := fun n => match n with | .loc 0 => o | _ => none
theorem lk1 {b b' : ABlk} {n : Nat} (h : lk [(0, b)] n = some b') : n = 0 ∧ b' = b := by
  simp only [lk] at h
  cases e : Nat.beq 0 n with
  | true => rw [e] at h; simp only [cond_true, Option.some.injEq] at h; exact ⟨(Nat.eq_of_beq_eq_true e).symm, h.symm⟩
  | false => rw [e] at h; cases h
theorem inj1 {o : Option CB} {b : ABlk} {w : World} (hw : b.wr = false) (ho : ∀ c, o = some c → c.blk < w.heap.size) (hb : BlkAt (C1 o) (.loc 0) b w) (hg : Gl w) : Inj (C1 o) (lk [(0, b)]) GS w :=
  Inj.ro (fun n b' h => by obtain ⟨_, rfl⟩ := lk1 h; exact hw) (fun n b' h => by obtain ⟨rfl, rfl⟩ := lk1 h; exact hb) hg (fun n c h => by
    unfold C1 at h
    split at h
    · exact ho c h
    · cases h)
theorem free1 {o : Option CB} (n : Nat) (h : 1 ≤ n) : (C1 o) (.loc n) = none := by
  unfold C1; split
  · rename_i he; injection he with he; omega
  · rfl
/-- Two blocks that came in; they may be one. -/
def C2 (o p : Option CB) : Cx := fun n => match n with | .loc 0 => o | .loc 1 => p | _ => none
theorem lk2 {a b b' : ABlk} {n : Nat} (h : lk [(0, a), (1, b)] n = some b') : (n = 0 ∧ b' = a) ∨ (n = 1 ∧ b' = b) := by
  simp only [lk] at h
  cases e : Nat.beq 0 n with
  | true => rw [e] at h; simp only [cond_true, Option.some.injEq] at h; exact .inl ⟨(Nat.eq_of_beq_eq_true e).symm, h.symm⟩
  | false =>
    rw [e] at h
    cases e : Nat.beq 1 n with
    | true => rw [e] at h; simp only [cond_false, cond_true, Option.some.injEq] at h; exact .inr ⟨(Nat.eq_of_beq_eq_true e).symm, h.symm⟩
    | false => rw [e] at h; cases h
theorem inj2 {o p : Option CB} {a b : ABlk} {w : World} (ha : a.wr = false) (hb : b.wr = false) (ho : ∀ c, o = some c → c.blk < w.heap.size) (hp : ∀ c, p = some c → c.blk < w.heap.size) (h0 : BlkAt (C2 o p) (.loc 0) a w) (h1 : BlkAt (C2 o p) (.loc 1) b w) (hg : Gl w) : Inj (C2 o p) (lk [(0, a), (1, b)]) GS w :=
  Inj.ro (fun n b' h => by rcases lk2 h with ⟨_, rfl⟩ | ⟨_, rfl⟩ <;> assumption) (fun n b' h => by rcases lk2 h with ⟨rfl, rfl⟩ | ⟨rfl, rfl⟩ <;> assumption) hg (fun n c h => by
    unfold C2 at h
    split at h
    · exact ho c h
    · exact hp c h
    · cases h)
theorem free2 {o p : Option CB} (n : Nat) (h : 2 ≤ n) : (C2 o p) (.loc n) = none := by
  unfold C2; split
  · rename_i he; injection he with he; omega
  · rename_i he; injection he with he; omega
  · rfl
end Go.Proofs.YtplejhefhnmabaaGreatDoor
