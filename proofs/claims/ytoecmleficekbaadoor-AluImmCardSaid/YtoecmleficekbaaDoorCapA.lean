/- Contracts of package cap: SetAddr, AndPerm (statements that leave their order open). -/
import Derived.Test.YtoecmleficekbaaDoorCap2
import Derived.Deep.RegionWith
namespace Go.Proofs.YtoecmleficekbaaDoor
open Go.RowKit
set_option linter.unusedSimpArgs false
set_option linter.unusedVariables false

set_option maxRecDepth 100000 in
set_option maxHeartbeats 400000 in
theorem setAddr_any (t : Bool) (b tp a p y : Int) (v : Int) (w : World) : Calls Tryd.prog 52 #[.agg #[.bool t, .int .u32 b, .int .u32 tp, .int .u32 a, .int .u16 p, .int .u16 y], .int .u32 v] w fun e w' => e = .returned (capV (Cp.setAddr ⟨t, b, tp, a, p, y⟩ v)) ∧ New w w' := by
  obtain ⟨q, hq⟩ : ∃ q, Kp ((y == 0) = q) := ⟨_, ⟨rfl⟩⟩
  obtain ⟨t', ht⟩ : ∃ t', Kp (t' = (t && q)) := ⟨_, ⟨rfl⟩⟩
  have hfin : Kp (Cp.setAddr ⟨t, b, tp, a, p, y⟩ v = ⟨t', b, tp, v, p, y⟩) := ⟨by unfold Cp.setAddr Cp.kept Cp.isOpen; rw [ht.out, ← hq.out]⟩
  rw [hfin.out]
  have HM : Kp _ := ⟨fun W => may_open t b tp v p y 0 W⟩
  rw [hq.out] at HM
  have HK : Kp _ := ⟨fun W => kept_is t b tp v p y q ⟨t', b, tp, v, p, y⟩ (by rw [ht.out]) W⟩
  go_enter Tryd.func52, Tryd.ntmps52
  repeat' (first | (with_reducible refine then_normal ?_) | (with_reducible refine then_ret ?_) | (with_reducible refine then_exit ?_) | (with_reducible refine inBlock_normal ?_) | (with_reducible refine inBlock_ret ?_) | (with_reducible refine inBlock_same ?_) | (with_reducible refine inBlock_other (by decide) ?_) | go_values | go_skip | go_guarded | go_step | go_upon | (simp only [Int.not_lt, Int.not_le] at *; go_simp) | (go_ite <;> go_prune <;> (try go_simp)))
  have A0 := alloc2_0 w (.cells #[.bool t, .int .u32 b, .int .u32 tp, .int .u32 v, .int .u16 p, .int .u16 y] 33) (.cells #[.bool false, .int .u32 0, .int .u32 0, .int .u32 0, .int .u16 0, .int .u16 0] 33)
  have B0 := alloc2_1 w (.cells #[.bool t, .int .u32 b, .int .u32 tp, .int .u32 v, .int .u16 p, .int .u16 y] 33) (.cells #[.bool false, .int .u32 0, .int .u32 0, .int .u32 0, .int .u16 0, .int .u16 0] 33)
  have N0 : New w ((w.alloc (.cells #[.bool t, .int .u32 b, .int .u32 tp, .int .u32 v, .int .u16 p, .int .u16 y] 33)).alloc (.cells #[.bool false, .int .u32 0, .int .u32 0, .int .u32 0, .int .u16 0, .int .u16 0] 33)) := ((Chg.refl _ w).alloc _).alloc _
  generalize (w.alloc (.cells #[.bool t, .int .u32 b, .int .u32 tp, .int .u32 v, .int .u16 p, .int .u16 y] 33)).alloc (.cells #[.bool false, .int .u32 0, .int .u32 0, .int .u32 0, .int .u16 0, .int .u16 0] 33) = W0 at A0 B0 N0 ⊢
  have L0 : Kp (w.heap.size + 1 < W0.heap.size) := ⟨lt_of_heap B0⟩
  obtain ⟨⟨a0, a1, a2, a3, a4, a5⟩, _⟩ := blk6 A0
  obtain ⟨⟨b0, b1, b2, b3, b4, b5⟩, f0, f1, f2, f3, f4, f5⟩ := blk6 B0
  have HN0 : Kp (New w W0) := ⟨N0⟩
  have KA : Kp _ := ⟨A0⟩
  have KB : Kp _ := ⟨B0⟩
  clear A0 B0 N0
  go_region_with (first | (go_at_call 96; refine (HM.out _).mono ?_; rintro e W1 ⟨rfl, hn⟩; obtain ⟨⟨a0, a1, a2, a3, a4, a5⟩, _⟩ := blk6 (hn.heap KA.out (fun x => x)); have KB1 : Kp _ := ⟨hn.heap KB.out (fun x => x)⟩; have HN1 : Kp (New w W1) := ⟨HN0.out.drew.new hn⟩; clear hn) | (go_at_call 95; refine (HK.out _).mono ?_; rintro e W2 ⟨rfl, hn⟩; obtain ⟨⟨b0, b1, b2, b3, b4, b5⟩, f0, f1, f2, f3, f4, f5⟩ := blk6 (hn.heap KB1.out (fun x => x)); have HN2 : Kp (New w W2) := ⟨HN1.out.new hn⟩; clear hn; simp only [capV]))
  all_goals
    repeat' (first | (with_reducible refine then_normal ?_) | (with_reducible refine then_ret ?_) | (with_reducible refine then_exit ?_) | (with_reducible refine inBlock_normal ?_) | (with_reducible refine inBlock_ret ?_) | (with_reducible refine inBlock_same ?_) | (with_reducible refine inBlock_other (by decide) ?_) | go_values | go_skip | go_guarded | go_step | go_upon | (simp only [Int.not_lt, Int.not_le] at *; go_simp) | (go_ite <;> go_prune <;> (try go_simp)))
    refine bodyPost_ret (v := capV ⟨t', b, tp, v, p, y⟩) (by simp [results, Tryd.results52, go_sem, capV, *]) rfl ⟨rfl, ?_⟩
    repeat (first | (with_reducible exact HN2.out) | (with_reducible refine Chg.setCell ?_ (.inl (by simp)) _))
set_option maxRecDepth 100000 in
set_option maxHeartbeats 400000 in
theorem andPerm_any (t : Bool) (b tp a p y : Int) (m : Int) (w : World) : Calls Tryd.prog 50 #[.agg #[.bool t, .int .u32 b, .int .u32 tp, .int .u32 a, .int .u16 p, .int .u16 y], .int .u16 m] w fun e w' => e = .returned (capV (Cp.andPerm ⟨t, b, tp, a, p, y⟩ m)) ∧ New w w' := by
  obtain ⟨pm, hpm⟩ : ∃ x, Kp (x = bits .and .u16 p m) := ⟨_, ⟨rfl⟩⟩
  obtain ⟨q, hq⟩ : ∃ q, Kp ((y == 0) = q) := ⟨_, ⟨rfl⟩⟩
  obtain ⟨t', ht⟩ : ∃ t', Kp (t' = (t && q)) := ⟨_, ⟨rfl⟩⟩
  have hfin : Kp (Cp.andPerm ⟨t, b, tp, a, p, y⟩ m = ⟨t', b, tp, a, pm, y⟩) := ⟨by rw [hpm.out]; unfold Cp.andPerm Cp.kept Cp.isOpen; rw [ht.out, ← hq.out]⟩
  rw [hfin.out]
  have HM : Kp _ := ⟨fun W => may_open t b tp a pm y 0 W⟩
  rw [hq.out] at HM
  have HK : Kp _ := ⟨fun W => kept_is t b tp a pm y q ⟨t', b, tp, a, pm, y⟩ (by rw [ht.out]) W⟩
  go_enter Tryd.func50, Tryd.ntmps50
  repeat' (first | (with_reducible refine then_normal ?_) | (with_reducible refine then_ret ?_) | (with_reducible refine then_exit ?_) | (with_reducible refine inBlock_normal ?_) | (with_reducible refine inBlock_ret ?_) | (with_reducible refine inBlock_same ?_) | (with_reducible refine inBlock_other (by decide) ?_) | go_values | go_skip | go_guarded | go_step | go_upon | (simp only [Int.not_lt, Int.not_le] at *; go_simp) | (go_ite <;> go_prune <;> (try go_simp)))
  rw [← hpm.out]
  have A0 := alloc2_0 w (.cells #[.bool t, .int .u32 b, .int .u32 tp, .int .u32 a, .int .u16 pm, .int .u16 y] 33) (.cells #[.bool false, .int .u32 0, .int .u32 0, .int .u32 0, .int .u16 0, .int .u16 0] 33)
  have B0 := alloc2_1 w (.cells #[.bool t, .int .u32 b, .int .u32 tp, .int .u32 a, .int .u16 pm, .int .u16 y] 33) (.cells #[.bool false, .int .u32 0, .int .u32 0, .int .u32 0, .int .u16 0, .int .u16 0] 33)
  have N0 : New w ((w.alloc (.cells #[.bool t, .int .u32 b, .int .u32 tp, .int .u32 a, .int .u16 pm, .int .u16 y] 33)).alloc (.cells #[.bool false, .int .u32 0, .int .u32 0, .int .u32 0, .int .u16 0, .int .u16 0] 33)) := ((Chg.refl _ w).alloc _).alloc _
  generalize (w.alloc (.cells #[.bool t, .int .u32 b, .int .u32 tp, .int .u32 a, .int .u16 pm, .int .u16 y] 33)).alloc (.cells #[.bool false, .int .u32 0, .int .u32 0, .int .u32 0, .int .u16 0, .int .u16 0] 33) = W0 at A0 B0 N0 ⊢
  have L0 : Kp (w.heap.size + 1 < W0.heap.size) := ⟨lt_of_heap B0⟩
  obtain ⟨⟨a0, a1, a2, a3, a4, a5⟩, _⟩ := blk6 A0
  obtain ⟨⟨b0, b1, b2, b3, b4, b5⟩, f0, f1, f2, f3, f4, f5⟩ := blk6 B0
  have HN0 : Kp (New w W0) := ⟨N0⟩
  have KA : Kp _ := ⟨A0⟩
  have KB : Kp _ := ⟨B0⟩
  clear A0 B0 N0
  go_region_with (first | (go_at_call 96; refine (HM.out _).mono ?_; rintro e W1 ⟨rfl, hn⟩; obtain ⟨⟨a0, a1, a2, a3, a4, a5⟩, _⟩ := blk6 (hn.heap KA.out (fun x => x)); have KB1 : Kp _ := ⟨hn.heap KB.out (fun x => x)⟩; have HN1 : Kp (New w W1) := ⟨HN0.out.drew.new hn⟩; clear hn) | (go_at_call 95; refine (HK.out _).mono ?_; rintro e W2 ⟨rfl, hn⟩; obtain ⟨⟨b0, b1, b2, b3, b4, b5⟩, f0, f1, f2, f3, f4, f5⟩ := blk6 (hn.heap KB1.out (fun x => x)); have HN2 : Kp (New w W2) := ⟨HN1.out.new hn⟩; clear hn; simp only [capV]))
  all_goals
    repeat' (first | (with_reducible refine then_normal ?_) | (with_reducible refine then_ret ?_) | (with_reducible refine then_exit ?_) | (with_reducible refine inBlock_normal ?_) | (with_reducible refine inBlock_ret ?_) | (with_reducible refine inBlock_same ?_) | (with_reducible refine inBlock_other (by decide) ?_) | go_values | go_skip | go_guarded | go_step | go_upon | (simp only [Int.not_lt, Int.not_le] at *; go_simp) | (go_ite <;> go_prune <;> (try go_simp)))
    refine bodyPost_ret (v := capV ⟨t', b, tp, a, pm, y⟩) (by simp [results, Tryd.results50, go_sem, capV, *]) rfl ⟨rfl, ?_⟩
    repeat (first | (with_reducible exact HN2.out) | (with_reducible refine Chg.setCell ?_ (.inl (by simp)) _))
end Go.Proofs.YtoecmleficekbaaDoor
