/- Contracts of package cap: what makes one of another one. -/
import Derived.Test.YtoecmleficekbaaDoorCap
namespace Go.Proofs.YtoecmleficekbaaDoor
open Go.RowKit
set_option linter.unusedSimpArgs false
set_option linter.unusedVariables false

theorem keep_set {W : World} {k : Nat} {o : Obj} {q : Addr} {u : Value} (h : W.heap[k]? = some o) (hne : k ≠ q.block) : (W.setCell q u).heap[k]? = some o := (Below.heap_setCell W q u k hne).trans h
/-- kept, its answer by a name of one's own. -/
theorem kept_is (t : Bool) (b tp a p y : Int) (m : Bool) (r : Cp) (h : r = ⟨t && m, b, tp, a, p, y⟩) (w : World) : Calls Tryd.prog 95 #[.agg #[.bool t, .int .u32 b, .int .u32 tp, .int .u32 a, .int .u16 p, .int .u16 y], .bool m] w fun e w' => e = .returned (capV r) ∧ New w w' := by
  rw [h]; exact kept_any t b tp a p y m w

set_option maxRecDepth 100000 in
set_option maxHeartbeats 2000000 in
theorem clear_any (t : Bool) (b tp a p y : Int) (w : World) : Calls Tryd.prog 94 #[.agg #[.bool t, .int .u32 b, .int .u32 tp, .int .u32 a, .int .u16 p, .int .u16 y]] w fun e w' => e = .returned (capV (Cp.clear ⟨t, b, tp, a, p, y⟩)) ∧ New w w' := by
  obtain ⟨t', ht⟩ : ∃ t', Kp (t' = (t && false)) := ⟨_, ⟨rfl⟩⟩
  go_enter Tryd.func94, Tryd.ntmps94
  repeat' (first | (with_reducible refine then_normal ?_) | (with_reducible refine then_ret ?_) | (with_reducible refine then_exit ?_) | (with_reducible refine inBlock_normal ?_) | (with_reducible refine inBlock_ret ?_) | (with_reducible refine inBlock_same ?_) | (with_reducible refine inBlock_other (by decide) ?_) | go_values | go_skip | go_guarded | go_step | go_upon | (simp only [Int.not_lt, Int.not_le] at *; go_simp) | (go_ite <;> go_prune <;> (try go_simp)))
  refine (kept_is t b tp a p y false ⟨t', b, tp, a, p, y⟩ (by rw [ht.out]) _).mono ?_; rintro e w2 ⟨rfl, hn⟩
  obtain ⟨⟨c0, c1, c2, c3, c4, c5⟩, f0, f1, f2, f3, f4, f5⟩ := blk6 (hn.heap (alloc2_1 w _ _) (fun x => x))
  have HN : Kp (New w w2) := ⟨(((Chg.refl _ w).alloc _).alloc _).new hn⟩
  clear hn
  simp only [capV]
  repeat' (first | (with_reducible refine then_normal ?_) | (with_reducible refine then_ret ?_) | (with_reducible refine then_exit ?_) | (with_reducible refine inBlock_normal ?_) | (with_reducible refine inBlock_ret ?_) | (with_reducible refine inBlock_same ?_) | (with_reducible refine inBlock_other (by decide) ?_) | go_values | go_skip | go_guarded | go_step | go_upon | (simp only [Int.not_lt, Int.not_le] at *; go_simp) | (go_ite <;> go_prune <;> (try go_simp)))
  refine bodyPost_ret (v := capV ⟨t', b, tp, a, p, y⟩) ?_ rfl ⟨?_, ?_⟩
  · simp [results, Tryd.results94, go_sem, capV, *]
  · rw [ht.out]; rfl
  · repeat (first | (with_reducible exact HN.out) | (with_reducible refine Chg.setCell ?_ (.inl (by simp)) _))

set_option maxRecDepth 100000 in
set_option maxHeartbeats 2000000 in
theorem enter_any (t : Bool) (b tp a p y : Int) (w : World) : Calls Tryd.prog 117 #[.agg #[.bool t, .int .u32 b, .int .u32 tp, .int .u32 a, .int .u16 p, .int .u16 y]] w fun e w' => e = .returned (capV (Cp.enter ⟨t, b, tp, a, p, y⟩)) ∧ New w w' := by
  obtain ⟨q, hq⟩ : ∃ q, Kp ((bits .and .u16 p 4 == 4 && y == 0) = q) := ⟨_, ⟨rfl⟩⟩
  obtain ⟨t', ht⟩ : ∃ t', Kp (t' = (t && q)) := ⟨_, ⟨rfl⟩⟩
  have HM : Kp _ := ⟨fun W => may_permits t b tp a p y 4 W⟩
  rw [hq.out] at HM
  go_enter Tryd.func117, Tryd.ntmps117
  repeat' (first | (with_reducible refine then_normal ?_) | (with_reducible refine then_ret ?_) | (with_reducible refine then_exit ?_) | (with_reducible refine inBlock_normal ?_) | (with_reducible refine inBlock_ret ?_) | (with_reducible refine inBlock_same ?_) | (with_reducible refine inBlock_other (by decide) ?_) | go_values | go_skip | go_guarded | go_step | go_upon | (simp only [Int.not_lt, Int.not_le] at *; go_simp) | (go_ite <;> go_prune <;> (try go_simp)))
  refine (HM.out _).mono ?_; rintro e w1 ⟨rfl, hn1⟩
  have B1 : Kp _ := ⟨hn1.heap (alloc2_1 w _ _) (fun x => x)⟩
  obtain ⟨⟨c0, c1, c2, c3, c4, c5⟩, f0, f1, f2, f3, f4, f5⟩ := blk6 (hn1.heap (alloc2_0 w _ _) (fun x => x))
  have HN1 : Kp (New w w1) := ⟨(((Chg.refl _ w).alloc _).alloc _).new hn1⟩
  clear hn1
  repeat' (first | (with_reducible refine then_normal ?_) | (with_reducible refine then_ret ?_) | (with_reducible refine then_exit ?_) | (with_reducible refine inBlock_normal ?_) | (with_reducible refine inBlock_ret ?_) | (with_reducible refine inBlock_same ?_) | (with_reducible refine inBlock_other (by decide) ?_) | go_values | go_skip | go_guarded | go_step | go_upon | (simp only [Int.not_lt, Int.not_le] at *; go_simp) | (go_ite <;> go_prune <;> (try go_simp)))
  refine (kept_is t b tp a p 1 q ⟨t', b, tp, a, p, 1⟩ (by rw [ht.out]) _).mono ?_; rintro e w2 ⟨rfl, hn⟩
  obtain ⟨⟨c0, c1, c2, c3, c4, c5⟩, f0, f1, f2, f3, f4, f5⟩ := blk6 (hn.heap (keep_set B1.out (by simp)) (fun x => x))
  have HN : Kp (New w w2) := ⟨(HN1.out.setCell (.inl (by simp)) _).new hn⟩
  clear hn
  simp only [capV]
  repeat' (first | (with_reducible refine then_normal ?_) | (with_reducible refine then_ret ?_) | (with_reducible refine then_exit ?_) | (with_reducible refine inBlock_normal ?_) | (with_reducible refine inBlock_ret ?_) | (with_reducible refine inBlock_same ?_) | (with_reducible refine inBlock_other (by decide) ?_) | go_values | go_skip | go_guarded | go_step | go_upon | (simp only [Int.not_lt, Int.not_le] at *; go_simp) | (go_ite <;> go_prune <;> (try go_simp)))
  refine bodyPost_ret (v := capV ⟨t', b, tp, a, p, 1⟩) ?_ rfl ⟨?_, ?_⟩
  · simp [results, Tryd.results117, go_sem, capV, *]
  · rw [ht.out, ← hq.out]; rfl
  · repeat (first | (with_reducible exact HN.out) | (with_reducible refine Chg.setCell ?_ (.inl (by simp)) _))

end Go.Proofs.YtoecmleficekbaaDoor
