/- The reference's capabilities (written by gen_rcap.py): SetAddr, AndPerm, Clear. -/
import Derived.Test.YtoecmleficekbaaDoorRCap
namespace Go.Proofs.YtoecmleficekbaaDoor
open Go.RowKit
set_option linter.unusedSimpArgs false
set_option linter.unusedVariables false

set_option maxRecDepth 100000 in
set_option maxHeartbeats 1000000 in
theorem refSetAddr_any (t : Bool) (b tp a p y : Int) (v : Int) (w : World) : Calls Tryd.prog 119 #[.agg #[.bool t, .int .u32 b, .int .u32 tp, .int .u32 a, .int .u16 p, .int .u16 y], .int .u32 v] w fun e w' => e = .returned (capV (Cp.setAddr ⟨t, b, tp, a, p, y⟩ v)) ∧ New w w' := by
  obtain ⟨t', ht⟩ : ∃ t', Kp (t' = (t && (y == 0))) := ⟨_, ⟨rfl⟩⟩
  have hfin : Kp (Cp.setAddr ⟨t, b, tp, a, p, y⟩ v = ⟨t', b, tp, v, p, y⟩) := ⟨by rw [ht.out]; rfl⟩
  go_enter Tryd.func119, Tryd.ntmps119
  repeat' (first | (with_reducible refine then_normal ?_) | (with_reducible refine then_ret ?_) | (with_reducible refine then_exit ?_) | (with_reducible refine inBlock_normal ?_) | (with_reducible refine inBlock_ret ?_) | (with_reducible refine inBlock_same ?_) | (with_reducible refine inBlock_other (by decide) ?_) | go_values | go_skip | go_guarded | go_step | go_upon | (simp only [Int.not_lt, Int.not_le] at *; go_simp) | (go_ite <;> go_prune <;> (try go_simp)))
  refine (asks_is t b tp v p y (y == 0) ⟨t', b, tp, v, p, y⟩ (by rw [ht.out]) _).mono ?_; rintro e w9 ⟨rfl, hn⟩
  obtain ⟨⟨c0, c1, c2, c3, c4, c5⟩, f0, f1, f2, f3, f4, f5⟩ := blk6 (hn.heap (alloc2_1 w _ _ ) (fun x => x))
  have HN : Kp (New w w9) := ⟨(((Chg.refl _ w).alloc _).alloc _).new hn⟩
  clear hn
  simp only [capV]
  repeat' (first | (with_reducible refine then_normal ?_) | (with_reducible refine then_ret ?_) | (with_reducible refine then_exit ?_) | (with_reducible refine inBlock_normal ?_) | (with_reducible refine inBlock_ret ?_) | (with_reducible refine inBlock_same ?_) | (with_reducible refine inBlock_other (by decide) ?_) | go_values | go_skip | go_guarded | go_step | go_upon | (simp only [Int.not_lt, Int.not_le] at *; go_simp) | (go_ite <;> go_prune <;> (try go_simp)))
  rw [hfin.out]
  refine bodyPost_ret (v := capV ⟨t', b, tp, v, p, y⟩) ?_ rfl ⟨rfl, ?_⟩
  · simp [results, Tryd.results119, go_sem, capV, *]
  · repeat (first | (with_reducible exact HN.out) | (with_reducible refine Chg.setCell ?_ (.inl (by simp <;> omega)) _))

set_option maxRecDepth 100000 in
set_option maxHeartbeats 1000000 in
theorem refAndPerm_any (t : Bool) (b tp a p y : Int) (m : Int) (w : World) : Calls Tryd.prog 122 #[.agg #[.bool t, .int .u32 b, .int .u32 tp, .int .u32 a, .int .u16 p, .int .u16 y], .int .u16 m] w fun e w' => e = .returned (capV (Cp.andPerm ⟨t, b, tp, a, p, y⟩ m)) ∧ New w w' := by
  obtain ⟨pm, hpm⟩ : ∃ x, bits .and .u16 p m = x := ⟨_, rfl⟩
  obtain ⟨t', ht⟩ : ∃ t', Kp (t' = (t && (y == 0))) := ⟨_, ⟨rfl⟩⟩
  have hfin : Kp (Cp.andPerm ⟨t, b, tp, a, p, y⟩ m = ⟨t', b, tp, a, pm, y⟩) := ⟨by rw [ht.out]; subst hpm; rfl⟩
  go_enter Tryd.func122, Tryd.ntmps122
  repeat' (first | (with_reducible refine then_normal ?_) | (with_reducible refine then_ret ?_) | (with_reducible refine then_exit ?_) | (with_reducible refine inBlock_normal ?_) | (with_reducible refine inBlock_ret ?_) | (with_reducible refine inBlock_same ?_) | (with_reducible refine inBlock_other (by decide) ?_) | go_values | go_skip | go_guarded | go_step | go_upon | (simp only [Int.not_lt, Int.not_le] at *; go_simp) | (go_ite <;> go_prune <;> (try go_simp)))
  try simp only [hpm]
  refine (asks_is t b tp a pm y (y == 0) ⟨t', b, tp, a, pm, y⟩ (by rw [ht.out]) _).mono ?_; rintro e w9 ⟨rfl, hn⟩
  obtain ⟨⟨c0, c1, c2, c3, c4, c5⟩, f0, f1, f2, f3, f4, f5⟩ := blk6 (hn.heap (alloc2_1 w _ _ ) (fun x => x))
  have HN : Kp (New w w9) := ⟨(((Chg.refl _ w).alloc _).alloc _).new hn⟩
  clear hn
  simp only [capV]
  repeat' (first | (with_reducible refine then_normal ?_) | (with_reducible refine then_ret ?_) | (with_reducible refine then_exit ?_) | (with_reducible refine inBlock_normal ?_) | (with_reducible refine inBlock_ret ?_) | (with_reducible refine inBlock_same ?_) | (with_reducible refine inBlock_other (by decide) ?_) | go_values | go_skip | go_guarded | go_step | go_upon | (simp only [Int.not_lt, Int.not_le] at *; go_simp) | (go_ite <;> go_prune <;> (try go_simp)))
  rw [hfin.out]
  refine bodyPost_ret (v := capV ⟨t', b, tp, a, pm, y⟩) ?_ rfl ⟨rfl, ?_⟩
  · simp [results, Tryd.results122, go_sem, capV, *]
  · repeat (first | (with_reducible exact HN.out) | (with_reducible refine Chg.setCell ?_ (.inl (by simp <;> omega)) _))

set_option maxRecDepth 100000 in
set_option maxHeartbeats 1000000 in
theorem refClear_any (t : Bool) (b tp a p y : Int) (w : World) : Calls Tryd.prog 121 #[.agg #[.bool t, .int .u32 b, .int .u32 tp, .int .u32 a, .int .u16 p, .int .u16 y]] w fun e w' => e = .returned (capV (Cp.clear ⟨t, b, tp, a, p, y⟩)) ∧ New w w' := by
  obtain ⟨t', ht⟩ : ∃ t', Kp (t' = (t && false)) := ⟨_, ⟨rfl⟩⟩
  have hfin : Kp (Cp.clear ⟨t, b, tp, a, p, y⟩ = ⟨t', b, tp, a, p, y⟩) := ⟨by rw [ht.out]; rfl⟩
  go_enter Tryd.func121, Tryd.ntmps121
  repeat' (first | (with_reducible refine then_normal ?_) | (with_reducible refine then_ret ?_) | (with_reducible refine then_exit ?_) | (with_reducible refine inBlock_normal ?_) | (with_reducible refine inBlock_ret ?_) | (with_reducible refine inBlock_same ?_) | (with_reducible refine inBlock_other (by decide) ?_) | go_values | go_skip | go_guarded | go_step | go_upon | (simp only [Int.not_lt, Int.not_le] at *; go_simp) | (go_ite <;> go_prune <;> (try go_simp)))
  refine (asks_is t b tp a p y false ⟨t', b, tp, a, p, y⟩ (by rw [ht.out]) _).mono ?_; rintro e w9 ⟨rfl, hn⟩
  obtain ⟨⟨c0, c1, c2, c3, c4, c5⟩, f0, f1, f2, f3, f4, f5⟩ := blk6 (hn.heap (alloc2_1 w _ _ ) (fun x => x))
  have HN : Kp (New w w9) := ⟨(((Chg.refl _ w).alloc _).alloc _).new hn⟩
  clear hn
  simp only [capV]
  repeat' (first | (with_reducible refine then_normal ?_) | (with_reducible refine then_ret ?_) | (with_reducible refine then_exit ?_) | (with_reducible refine inBlock_normal ?_) | (with_reducible refine inBlock_ret ?_) | (with_reducible refine inBlock_same ?_) | (with_reducible refine inBlock_other (by decide) ?_) | go_values | go_skip | go_guarded | go_step | go_upon | (simp only [Int.not_lt, Int.not_le] at *; go_simp) | (go_ite <;> go_prune <;> (try go_simp)))
  rw [hfin.out]
  refine bodyPost_ret (v := capV ⟨t', b, tp, a, p, y⟩) ?_ rfl ⟨rfl, ?_⟩
  · simp [results, Tryd.results121, go_sem, capV, *]
  · repeat (first | (with_reducible exact HN.out) | (with_reducible refine Chg.setCell ?_ (.inl (by simp <;> omega)) _))

end Go.Proofs.YtoecmleficekbaaDoor
