/- The reference's capabilities (written by gen_rcap.py): Bounds. -/
import Derived.Test.YtoecmleficekbaaDoorRCap
namespace Go.Proofs.YtoecmleficekbaaDoor
open Go.RowKit
set_option linter.unusedSimpArgs false
set_option linter.unusedVariables false

set_option maxRecDepth 100000 in
set_option maxHeartbeats 1000000 in
theorem refBounds_any (t : Bool) (b tp a p y : Int) (n : Int) (ha : 0 ≤ a) (ha1 : a < 4294967296) (hn : 0 ≤ n) (hn1 : n < 4294967296) (htp : 0 ≤ tp) (htp1 : tp < 4294967296) (w : World) : Calls Tryd.prog 120 #[.agg #[.bool t, .int .u32 b, .int .u32 tp, .int .u32 a, .int .u16 p, .int .u16 y], .int .u32 n] w fun e w' => e = .returned (capV (Cp.bounds ⟨t, b, tp, a, p, y⟩ n)) ∧ New w w' := by
  have HH : Kp _ := ⟨fun W => refHas_any t b tp a p y a n ha ha1 hn hn1 htp htp1 W⟩
  obtain ⟨s, hs⟩ : ∃ s, (a + n) % 4294967296 = s := ⟨_, rfl⟩
  obtain ⟨o, ho⟩ : ∃ o, (y == 0) = o := ⟨_, rfl⟩
  obtain ⟨h, hh⟩ : ∃ h, Kp (Cp.has ⟨t, b, tp, a, p, y⟩ a n = h) := ⟨_, ⟨rfl⟩⟩
  obtain ⟨m, hm⟩ : ∃ m, Kp (m = (o && h)) := ⟨_, ⟨rfl⟩⟩
  obtain ⟨t', ht⟩ : ∃ t', Kp (t' = (t && m)) := ⟨_, ⟨rfl⟩⟩
  have hfin : Kp (Cp.bounds ⟨t, b, tp, a, p, y⟩ n = ⟨t', a, s, a, p, y⟩) := ⟨by unfold Cp.bounds Cp.kept; rw [ht.out, hm.out, ← hh.out, ← ho, ← hs]; rfl⟩
  rw [hh.out] at HH
  cases o
  · skip
    go_enter Tryd.func120, Tryd.ntmps120
    repeat' (first | (with_reducible refine then_normal ?_) | (with_reducible refine then_ret ?_) | (with_reducible refine then_exit ?_) | (with_reducible refine inBlock_normal ?_) | (with_reducible refine inBlock_ret ?_) | (with_reducible refine inBlock_same ?_) | (with_reducible refine inBlock_other (by decide) ?_) | go_values | go_skip | go_guarded | go_step | go_upon | (simp only [Int.not_lt, Int.not_le] at *; go_simp) | (go_ite <;> go_prune <;> (try go_simp)))
    refine (asks_is t a s a p y false ⟨t', a, s, a, p, y⟩ (by rw [ht.out, hm.out]; rfl) _).mono ?_; rintro e w9 ⟨rfl, hn⟩
    obtain ⟨⟨c0, c1, c2, c3, c4, c5⟩, f0, f1, f2, f3, f4, f5⟩ := blk6 (hn.heap (alloc2_1 w _ _ ) (fun x => x))
    have HN : Kp (New w w9) := ⟨(((Chg.refl _ w).alloc _).alloc _).new hn⟩
    clear hn
    simp only [capV]
    repeat' (first | (with_reducible refine then_normal ?_) | (with_reducible refine then_ret ?_) | (with_reducible refine then_exit ?_) | (with_reducible refine inBlock_normal ?_) | (with_reducible refine inBlock_ret ?_) | (with_reducible refine inBlock_same ?_) | (with_reducible refine inBlock_other (by decide) ?_) | go_values | go_skip | go_guarded | go_step | go_upon | (simp only [Int.not_lt, Int.not_le] at *; go_simp) | (go_ite <;> go_prune <;> (try go_simp)))
    rw [hfin.out]
    refine bodyPost_ret (v := capV ⟨t', a, s, a, p, y⟩) ?_ rfl ⟨rfl, ?_⟩
    · simp [results, Tryd.results120, go_sem, capV, *]
    · repeat (first | (with_reducible exact HN.out) | (with_reducible refine Chg.setCell ?_ (.inl (by simp <;> omega)) _))
  · skip
    go_enter Tryd.func120, Tryd.ntmps120
    repeat' (first | (with_reducible refine then_normal ?_) | (with_reducible refine then_ret ?_) | (with_reducible refine then_exit ?_) | (with_reducible refine inBlock_normal ?_) | (with_reducible refine inBlock_ret ?_) | (with_reducible refine inBlock_same ?_) | (with_reducible refine inBlock_other (by decide) ?_) | go_values | go_skip | go_guarded | go_step | go_upon | (simp only [Int.not_lt, Int.not_le] at *; go_simp) | (go_ite <;> go_prune <;> (try go_simp)))
    refine (HH.out _).mono ?_; rintro e w1 ⟨rfl, hn⟩
    have A1 : Kp _ := ⟨hn.heap (alloc2_0 w _ _ ) (fun x => x)⟩
    have R1 : Kp _ := ⟨hn.heap (alloc2_1 w _ _ ) (fun x => x)⟩
    obtain ⟨⟨a0, a1, a2, a3, a4, a5⟩, fa0, fa1, fa2, fa3, fa4, fa5⟩ := blk6 A1.out
    have HN1 : Kp (New w w1) := ⟨(((Chg.refl _ w).alloc _).alloc _).new hn⟩
    clear hn
    repeat' (first | (with_reducible refine then_normal ?_) | (with_reducible refine then_ret ?_) | (with_reducible refine then_exit ?_) | (with_reducible refine inBlock_normal ?_) | (with_reducible refine inBlock_ret ?_) | (with_reducible refine inBlock_same ?_) | (with_reducible refine inBlock_other (by decide) ?_) | go_values | go_skip | go_guarded | go_step | go_upon | (simp only [Int.not_lt, Int.not_le] at *; go_simp) | (go_ite <;> go_prune <;> (try go_simp)))
    refine (asks_is t a s a p y h ⟨t', a, s, a, p, y⟩ (by rw [ht.out, hm.out]; rfl) _).mono ?_; rintro e w9 ⟨rfl, hn⟩
    obtain ⟨⟨c0, c1, c2, c3, c4, c5⟩, f0, f1, f2, f3, f4, f5⟩ := blk6 (hn.heap (keep_set (keep_set R1.out (by simp)) (by simp)) (fun x => x))
    have HN : Kp (New w w9) := ⟨((HN1.out.setCell (.inl (by simp)) _).setCell (.inl (by simp)) _).new hn⟩
    clear hn
    simp only [capV]
    repeat' (first | (with_reducible refine then_normal ?_) | (with_reducible refine then_ret ?_) | (with_reducible refine then_exit ?_) | (with_reducible refine inBlock_normal ?_) | (with_reducible refine inBlock_ret ?_) | (with_reducible refine inBlock_same ?_) | (with_reducible refine inBlock_other (by decide) ?_) | go_values | go_skip | go_guarded | go_step | go_upon | (simp only [Int.not_lt, Int.not_le] at *; go_simp) | (go_ite <;> go_prune <;> (try go_simp)))
    rw [hfin.out]
    refine bodyPost_ret (v := capV ⟨t', a, s, a, p, y⟩) ?_ rfl ⟨rfl, ?_⟩
    · simp [results, Tryd.results120, go_sem, capV, *]
    · repeat (first | (with_reducible exact HN.out) | (with_reducible refine Chg.setCell ?_ (.inl (by simp <;> omega)) _))

end Go.Proofs.YtoecmleficekbaaDoor
