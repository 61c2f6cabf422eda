/- op.All by contract. -/
import Derived.Test.YtkdcdoihgjjnbaaOp
namespace Go.Proofs.Ytkdcdoihgjjnbaa
open Go.RowKit
set_option linter.unusedSimpArgs false
set_option linter.unusedVariables false
/-- The cells of the first k ops. -/
def opCells (k : Nat) : List Value := [.int .i64 ((k : Int) + 1), .string ⟨(opName k).toArray⟩, .int .i64 (formR (opName k))]
def opsTo : Nat → List Value
  | 0 => []
  | k + 1 => opsTo k ++ opCells k
theorem opsTo_length : ∀ k, (opsTo k).length = k * 3
  | 0 => rfl
  | k + 1 => by rw [opsTo, List.length_append, opsTo_length k]; simp [opCells]; omega
theorem firstOp_code (n : Int) : firstOp (fun (k : Nat) => ((k : Int) + 1 == n)) = if 1 ≤ n ∧ n ≤ 67 then some (n - 1).toNat else none := by
  by_cases h : 1 ≤ n ∧ n ≤ 67
  · rw [if_pos h]
    exact firstOp_some (by omega) (by simp; omega) (fun j hj => by simp; omega)
  · rw [if_neg h]
    exact firstOp_none (fun j hj => by simp; omega)
theorem info_op : (Try.prog.info? 45).map (fun i => (i.zero, i.size, i.bytes)) = some (some (.agg #[.int .i64 0, .string ⟨#[]⟩, .int .i64 0]), 3, 32) := by kernel_rfl

/-- op.Coded by the number. -/
theorem coded_at (n : Int) (w : World) : Calls Try.prog 23 #[.int .i64 n] w fun e w' => e = .returned (.tuple #[opAgg (if 1 ≤ n ∧ n ≤ 67 then some (n - 1).toNat else none), .bool (decide (1 ≤ n ∧ n ≤ 67))]) ∧ New w w' := by
  refine (coded_any n w).mono ?_
  rintro e w' ⟨he, hn⟩
  refine ⟨?_, hn⟩
  rw [he, firstOp_code]
  by_cases h : 1 ≤ n ∧ n ≤ 67
  · rw [if_pos h, decide_eq_true h]; rfl
  · rw [if_neg h, decide_eq_false h]; rfl
theorem coded_in (k : Nat) (hk : k < 67) (n : Int) (hn : n = (k : Int) + 1) (w : World) : Calls Try.prog 23 #[.int .i64 n] w fun e w' => e = .returned (.tuple #[.agg #[.int .i64 ((k : Int) + 1), .string ⟨(opName k).toArray⟩, .int .i64 (formR (opName k))], .bool true]) ∧ New w w' := by
  have := coded_at n w
  rw [if_pos (by omega), decide_eq_true (by omega), show (n - 1).toNat = k by omega] at this
  exact this
theorem coded_out (n : Int) (hn : n < 1 ∨ 67 < n) (w : World) : Calls Try.prog 23 #[.int .i64 n] w fun e w' => e = .returned (.tuple #[.agg #[.int .i64 0, .string ⟨#[]⟩, .int .i64 0], .bool false]) ∧ New w w' := by
  have := coded_at n w
  rw [if_neg (by omega), decide_eq_false (by omega)] at this
  exact this

set_option maxRecDepth 100000 in
set_option maxHeartbeats 1000000 in
theorem clip_any (a : Addr) (n cap : Nat) (hn : n ≤ cap) (hm : cap ≤ maxLen) (w : World) : Calls Try.prog 33 #[.slice (some a) n cap] w fun e w' => e = .returned (.slice (some a) n n) ∧ w = w' := by
  unfold maxLen at hm
  go_enter Try.func33, Try.ntmps33
  go_wp2
  go_ret
  exact ⟨rfl, rfl⟩

def sliceLen : Value → Nat | .slice _ n _ => n | _ => 0
theorem Own.form {w : World} {base : Nat} {e : TypeId} {size : Nat} {v : Value} {n : Nat} {xs : List Value} (h : Own w base e size v n xs) (hn : 0 < n) : ∃ g cap, v = .slice (some ⟨g, 0, none⟩) n cap ∧ g < w.heap.size ∧ n ≤ cap ∧ cap ≤ maxLen := by
  obtain ⟨h1, ⟨_, h0⟩ | ⟨g, cap, cur, lo, hi, hv, hg, hh, _, hc, hm, _⟩⟩ := h
  · omega
  · exact ⟨g, cap, hv, lt_of_heap hh, hc, hm⟩
theorem Own.len {w : World} {base : Nat} {e : TypeId} {size : Nat} {v : Value} {n : Nat} {xs : List Value} (h : Own w base e size v n xs) : sliceLen v = n := by
  obtain ⟨h1, ⟨h2, h0⟩ | ⟨g, cap, cur, lo, hi, hv, _⟩⟩ := h
  · rw [h2, h0]; rfl
  · rw [hv]; rfl
/-- Where All stands. -/
structure AllAt (w wr : World) (k : Nat) (v : Value) (b : Nat) (more : Bool) : Prop where
  le : k ≤ 67
  more : more = decide (k < 67)
  own : Own wr w.heap.size 45 3 v k (opsTo k)
  new : New w wr
  ge : w.heap.size ≤ b
  at_ : k < 67 → wr.heap[b]? = some (.cells (opCells k).toArray 45)
  ne : ∀ g, v.ownBlock = some g → g ≠ b

set_option maxRecDepth 100000 in
set_option maxHeartbeats 4000000 in
theorem all_any (w : World) : Calls Try.prog 25 #[] w fun e w' => (∃ v, e = .returned v ∧ Rd w' w.heap.size 3 v 67 (opsTo 67)) ∧ New w w' := by
  obtain ⟨i0, hi, hz0, hz1, hz2⟩ := info_parts info_op
  have HI : Kp _ := ⟨hi⟩; have HZ0 : Kp _ := ⟨hz0⟩; have HZ1 : Kp _ := ⟨hz1⟩; have HZ2 : Kp _ := ⟨hz2⟩
  clear hi hz0 hz1 hz2
  go_enter Try.func25, Try.ntmps25
  go_wp2_with fail
  refine (coded_in 0 (by omega) 1 rfl _).mono ?_; rintro e w1 ⟨rfl, hn1⟩
  go_wp2_with fail
  go_loopw [1, 2, 3] (fun v o m wr => ∃ (k b : Nat) (more : Bool), o = .pointer (some ⟨b, 0, none⟩) ∧ m = .bool more ∧ AllAt w wr k v b more) (fun v _ _ _ => 67 - sliceLen v)
  case atStart => exact ⟨0, w1.heap.size, true, rfl, rfl, by omega, rfl, Own.nil _ _ _ _, hn1.alloc _, hn1.size, fun _ => heap_alloc_at w1 _, fun g h => by cases h⟩
  case round =>
    obtain ⟨k, b, more, rfl, rfl, hat⟩ := hrel
    by_cases hk : k < 67
    · obtain rfl : more = true := by rw [hat.more]; simpa using hk
      have g0 := cell_known (hat.at_ hk) 0
      have g1 := cell_known (hat.at_ hk) 1
      have g2 := cell_known (hat.at_ hk) 2
      simp only [opCells, List.getElem?_toArray, List.getElem?_cons_zero, List.getElem?_cons_succ] at g0 g1 g2
      have hbl : b < wr.heap.size := lt_of_heap (hat.at_ hk)
      have HAT : Kp _ := ⟨hat⟩
      have HK : Kp (k < 67) := ⟨hk⟩
      clear hat hk
      go_wp2_with (at_builtin; refine wpList_append_Own _ rfl _ _ 53 53 rfl w.heap.size 45 i0 (.agg #[.int .i64 0, .string ⟨#[]⟩, .int .i64 0]) 3 32 Try.underlying53 HI.out HZ0.out HZ1.out HZ2.out rfl _ _ _ rfl (HAT.out.own.new ((Chg.refl _ _).alloc _)) _ 1 (opCells k) rfl (Src.ofSlice _ Try.underlying53 _ _ _ _ rfl (cells_block _ (opCells k) _ _) ?_) ?_ ?_ ?_ ?_)
      · intro u hu; simp [opCells] at hu; rcases hu with rfl | rfl | rfl <;> rfl
      · have := HK.out; unfold maxLen; omega
      · have := HK.out; omega
      · have := HAT.out.new.size; simp; omega
      · intro v' w' hown' hc hwh
        obtain ⟨g, cap, rfl, hgl, hnc, hcm⟩ := hown'.form (by omega)
        have hbw : ((wr.alloc (.cells (opCells k).toArray 45)).heap[b]?) = some (.cells (opCells k).toArray 45) := (Below.heap_alloc wr _ _ hbl).trans (HAT.out.at_ HK.out)
        have hw'b : Kp (w'.heap[b]? = some (.cells (opCells k).toArray 45)) := ⟨hc.heap hbw (fun e => HAT.out.ne b e.symm rfl)⟩
        have c0 := cell_known hw'b.out 0
        have c1 := cell_known hw'b.out 1
        have c2 := cell_known hw'b.out 2
        simp only [opCells, List.getElem?_toArray, List.getElem?_cons_zero, List.getElem?_cons_succ] at c0 c1 c2
        have HOWN : Kp (Own w' w.heap.size 45 3 (.slice (some ⟨g, 0, none⟩) (k + 1) cap) (k + 1) (opsTo (k + 1))) := ⟨hown'⟩
        have HN : Kp (New w w') := ⟨Chg.append (HAT.out.new.alloc _) (HAT.out.own.new ((Chg.refl _ _).alloc _)) hc⟩
        have hbw' : Kp (b < w'.heap.size) := ⟨lt_of_heap hw'b.out⟩
        clear hown' hc hwh hbw g0 g1 g2
        unfold maxLen at hcm
        have hk7 : k < 67 := HK.out
        obtain ⟨o, more', hco, ho⟩ : ∃ (o : Option Nat) (more' : Bool), Kp (∀ W, Calls Try.prog 23 #[.int .i64 ((k : Int) + 1 + 1)] W fun e w' => e = .returned (.tuple #[opAgg o, .bool more']) ∧ New W w') ∧ Kp (more' = decide (k + 1 < 67) ∧ (k + 1 < 67 → o = some (k + 1))) := by
          by_cases h : k + 1 < 67
          · exact ⟨some (k + 1), true, ⟨fun W => coded_in (k + 1) h _ (by omega) W⟩, ⟨(decide_eq_true h).symm, fun _ => rfl⟩⟩
          · exact ⟨none, false, ⟨fun W => coded_out _ (by omega) W⟩, ⟨(decide_eq_false h).symm, fun h' => absurd h' h⟩⟩
        obtain ⟨x0, x1, x2, hx⟩ : ∃ x0 x1 x2, opAgg o = .agg #[.int .i64 x0, .string x1, .int .i64 x2] := by cases o <;> exact ⟨_, _, _, rfl⟩
        have HX : Kp _ := ⟨hx⟩
        rw [hx] at hco
        clear hx
        go_wp2_with fail
        refine (hco.out _).mono ?_; rintro e w4 ⟨rfl, hn4⟩
        have hr4 : Kp _ := ⟨hn4.heap (heap_alloc_at w' _) (fun x => x)⟩
        have d0 := cell_known hr4.out 0
        have d1 := cell_known hr4.out 1
        have d2 := cell_known hr4.out 2
        simp only [List.getElem?_toArray, List.getElem?_cons_zero, List.getElem?_cons_succ] at d0 d1 d2
        have f0 := frozen_known hr4.out 0
        have f1 := frozen_known hr4.out 1
        have f2 := frozen_known hr4.out 2
        have HN4 : Kp (New w' w4) := ⟨((Chg.refl _ w').alloc _).new hn4⟩
        clear hn4 c0 c1 c2
        go_wp2
        go_roundw
        case rel =>
          refine ⟨k + 1, w'.heap.size, more', rfl, rfl, by omega, ho.out.1, ?_, ?_, HN.out.size, ?_, ?_⟩
          · have hgn : ¬ g = w'.heap.size := by omega
            refine (HOWN.out.new HN4.out).chg (B := fun x => x = w'.heap.size) ?_ (fun g' h' e => by cases h'; exact hgn e)
            refine Chg.setCell (Chg.setCell (Chg.setCell (Chg.refl _ w4) (.inr ?_) _) (.inr ?_) _) (.inr ?_) _ <;> rfl
          · repeat (first | exact HN.out.new HN4.out | refine Chg.setCell ?_ (.inl HN.out.size) _)
          · intro h
            have e1 := HX.out
            rw [ho.out.2 h] at e1
            simp only [opAgg, Value.agg.injEq, List.toArray_eq_toArray_eq, List.cons.injEq, Value.int.injEq, Value.string.injEq, true_and, and_true] at e1
            rw [heap_setCell_at (heap_setCell_at (heap_setCell_at hr4.out 0 _) 1 _) 2 _]
            simp [opCells, ← e1.1, ← e1.2.1, ← e1.2.2]
          · intro g' h'
            have : g = g' := by simpa [Value.ownBlock] using h'
            omega
        case measure => rw [HAT.out.own.len]; simp [sliceLen]; omega
    · obtain rfl : k = 67 := by have := hat.le; omega
      obtain rfl : more = false := hat.more
      obtain ⟨g, cap, rfl, hgl, hnc, hcm⟩ := hat.own.form (by omega)
      have HC := fun W => clip_any ⟨g, 0, none⟩ 67 cap hnc hcm W
      have HR : Kp (Rd wr w.heap.size 3 (.slice (some ⟨g, 0, none⟩) 67 67) 67 (opsTo 67)) := ⟨⟨opsTo_length 67, .inr ⟨g, 0, 67, rfl, hat.own.ge rfl, hgl, hat.own.cells rfl⟩⟩⟩
      have HN : Kp (New w wr) := ⟨hat.new⟩
      have HK : Kp _ := ⟨HC⟩
      clear hat HC
      go_wp2_with fail
      refine (HK.out _).mono ?_; rintro e w4 ⟨rfl, rfl⟩
      go_wp2
      go_ret
      exact ⟨⟨_, rfl, HR.out⟩, HN.out⟩
end Go.Proofs.Ytkdcdoihgjjnbaa
