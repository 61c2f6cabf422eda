/- The reference's table of ops by contract: Ops. -/
import Derived.Test.YtgdeffompcikhaaDoorOpC
import Derived.Test.YtgdeffompcikhaaDoorHeap2
namespace Go.Proofs.YtgdeffompcikhaaDoor
open Go.RowKit
set_option linter.unusedSimpArgs false
set_option linter.unusedVariables false
theorem info_rop : (Tryd.prog.info? 88).map (fun i => (i.zero, i.size, i.bytes)) = some (some (.agg #[.int .i64 0, .string ⟨#[]⟩, .int .i64 0]), 3, 32) := by kernel_rfl
def nameVals : List Value := opNames.map fun l => .string ⟨l.toArray⟩
def formVals : List Value := opNames.map fun l => .int .i64 (formR l)
theorem nameVals_at (k : Nat) (h : k < 67) : nameVals[k]? = some (.string ⟨(opName k).toArray⟩) := by
  have hk : k < opNames.length := h
  simp [nameVals, opName, List.getD, hk]
theorem formVals_at (k : Nat) (h : k < 67) : formVals[k]? = some (.int .i64 (formR (opName k))) := by
  have hk : k < opNames.length := h
  simp [formVals, opName, List.getD, hk]

structure OpsAt (w wr : World) (b1 b2 k : Nat) (v : Value) : Prop where
  le : k ≤ 67
  own : Own wr (w.heap.size + 2) 88 3 v k (opsTo k)
  new : New w wr
  names : wr.heap[w.heap.size]? = some (.cells nameVals.toArray 9)
  forms : wr.heap[w.heap.size + 1]? = some (.cells formVals.toArray 3)

set_option maxRecDepth 100000 in
set_option maxHeartbeats 4000000 in
theorem ops_any (w : World) : Calls Tryd.prog 43 #[] w fun e w' => (∃ v, e = .returned v ∧ Rd w' w.heap.size 3 v 67 (opsTo 67)) ∧ New w w' := by
  obtain ⟨i0, hi, hz0, hz1, hz2⟩ := info_parts info_rop
  have HI : Kp _ := ⟨hi⟩; have HZ0 : Kp _ := ⟨hz0⟩; have HZ1 : Kp _ := ⟨hz1⟩; have HZ2 : Kp _ := ⟨hz2⟩
  clear hi hz0 hz1 hz2
  go_enter Tryd.func43, Tryd.ntmps43
  go_wp2_with fail
  go_loopw [3, 4] (fun v n wr => ∃ k : Nat, n = .int .i64 (k : Int) ∧ OpsAt w wr w.heap.size (w.heap.size + 1) k v) (fun _ n _ => (67 - intOf n).toNat)
  case atStart => 
    refine ⟨0, rfl, by omega, Own.nil _ _ _ _, ((Chg.refl _ w).alloc _).alloc _, ?_, ?_⟩
    · exact (Below.heap_alloc _ _ _ (by simp)).trans (heap_alloc_at w _)
    · rw [show w.heap.size + 1 = (w.alloc (.cells nameVals.toArray 9)).heap.size by simp]
      exact heap_alloc_at _ _
  case round =>
    obtain ⟨k, rfl, hat⟩ := hrel
    by_cases hk : k < 67
    · have n1 : wr.cell? ⟨w.heap.size, k, none⟩ = some (.string ⟨(opName k).toArray⟩) := by rw [cell_known hat.names k, List.getElem?_toArray]; exact nameVals_at k hk
      have n2 : wr.cell? ⟨w.heap.size + 1, k, none⟩ = some (.int .i64 (formR (opName k))) := by rw [cell_known hat.forms k, List.getElem?_toArray]; exact formVals_at k hk
      have HAT : Kp _ := ⟨hat⟩
      clear hat
      go_wp2_with fail
      have hk0 : (0 : Int) ≤ (k : Int) := Int.natCast_nonneg _
      have hk1 : (k : Int) < 67 := by omega
      have hk2 : IntKind.i64.wrap ((k : Int) + 1) = (k : Int) + 1 := IntWalk.i64_in _ (by omega)
      have ho1 : ∀ u ∈ opCells k, u.oneCell' = true := by intro u hu; simp [opCells] at hu; rcases hu with rfl | rfl | rfl <;> rfl
      have OWN := fun X => (HAT.out.own.new ((Chg.refl _ wr).alloc X)).new (Chg.refl _ _).drew
      have SRC := srcBlock_drew (P := Tryd.prog) wr 3 113 88 Tryd.underlying113 1 1 (opCells k) 88 rfl ho1
      have KO : Kp _ := ⟨OWN⟩; have KS : Kp _ := ⟨SRC⟩
      have LB : Kp (w.heap.size + 2 ≤ wr.heap.size) := ⟨by have := lt_of_heap HAT.out.forms; omega⟩
      clear OWN SRC ho1
      go_region_held3 (fun W => W.cell? ⟨w.heap.size, k, none⟩ = some (.string ⟨(opName k).toArray⟩) ∧ W.cell? ⟨w.heap.size + 1, k, none⟩ = some (.int .i64 (formR (opName k))))
        (first | go_keep | (go_split_ands; have hLB := LB.out; refine ⟨?_, ?_⟩ <;> (rw [World.cell?_of_block (hc.block _ (by simp; omega) (fun e => absurd (HAT.out.own.ge e.symm) (by simp)))]; simp only [World.cell?_drew]; rw [World.cell?_alloc_lt _ _ _ (by dsimp only; omega)]; assumption)))
        ((refine step_append_Own _ (by rfl) _ _ 113 113 (by rfl) (w.heap.size + 2) 88 i0 (.agg #[.int .i64 0, .string ⟨#[]⟩, .int .i64 0]) 3 32 Tryd.underlying113 HI.out HZ0.out HZ1.out HZ2.out rfl u3 k (opsTo k) (by rfl) (KO.out _) (.slice (some ⟨wr.heap.size, 0, none⟩) 1 1) 1 (opCells k) (by rfl) KS.out (by unfold maxLen; omega) (by omega) (by have := LB.out; simp; omega) ?_; intro v' w' hown' hc hwh))
      have hcN : New w w' := ((HAT.out.new.alloc _).drew).trans hc fun x hx he => absurd (HAT.out.own.ge he.symm) (by omega)
      have hLB := LB.out
      have hB : ∀ b, b < w.heap.size + 2 → ¬ some b = u3.ownBlock := fun b hb he => absurd (HAT.out.own.ge he.symm) (by omega)
      have hna := hc.heap (((Below.heap_alloc wr _ _ (by omega)).trans HAT.out.names)) (hB _ (by omega))
      have hfo := hc.heap (((Below.heap_alloc wr _ _ (by omega)).trans HAT.out.forms)) (hB _ (by omega))
      have REL : Kp (OpsAt w w' w.heap.size (w.heap.size + 1) (k + 1) v') := ⟨⟨by omega, hown', hcN, hna, hfo⟩⟩
      clear hown' hc hwh hcN hB hna hfo hLB n1 n2
      go_wp2
      go_roundw
      case rel => exact ⟨k + 1, by go_num, REL.out⟩
      case measure => simp [intOf]; omega
    · obtain rfl : k = 67 := by have := hat.le; omega
      have HR : Kp (Rd wr w.heap.size 3 u3 67 (opsTo 67)) := ⟨(hat.own.lower (by omega)).rd⟩
      have HN : Kp (New w wr) := ⟨hat.new⟩
      clear hat
      go_wp2
      go_ret
      exact ⟨⟨_, rfl, HR.out⟩, HN.out⟩

/-- One op's cells out of the table's. -/
theorem opsTo_at : ∀ (n k : Nat) (_ : k < n) (j : Nat) (_ : j < 3), (opsTo n)[k * 3 + j]? = (opCells k)[j]? := by
  intro n
  induction n with
  | zero => intro k hk; omega
  | succ n ih =>
    intro k hk j hj
    rw [opsTo]
    rcases Nat.lt_or_ge k n with h | h
    · rw [List.getElem?_append_left (by rw [opsTo_length]; omega)]; exact ih k h j hj
    · obtain rfl : k = n := by omega
      rw [List.getElem?_append_right (by rw [opsTo_length]; omega), opsTo_length, Nat.add_sub_cancel_left]
theorem rd_op {w : World} {base : Nat} {v : Value} (h : Rd w base 3 v 67 (opsTo 67)) : ∃ g o cap, v = .slice (some ⟨g, o, none⟩) 67 cap ∧ g < w.heap.size ∧ ∀ k, k < 67 → w.cell? ⟨g, o + k * 3, none⟩ = some (.int .i64 ((k : Int) + 1)) ∧ w.cell? ⟨g, o + k * 3 + 1, none⟩ = some (.string ⟨(opName k).toArray⟩) ∧ w.cell? ⟨g, o + k * 3 + 2, none⟩ = some (.int .i64 (formR (opName k))) := by
  obtain ⟨g, o, cap, hv, hl, hc⟩ := h.form (by omega)
  refine ⟨g, o, cap, hv, hl, fun k hk => ⟨?_, ?_, ?_⟩⟩
  · exact hc (k * 3 + 0) _ (by rw [opsTo_at 67 k hk 0 (by omega)]; rfl)
  · exact hc (k * 3 + 1) _ (by rw [opsTo_at 67 k hk 1 (by omega)]; rfl)
  · exact hc (k * 3 + 2) _ (by rw [opsTo_at 67 k hk 2 (by omega)]; rfl)

end Go.Proofs.YtgdeffompcikhaaDoor
