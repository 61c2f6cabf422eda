/- Contracts of package cap: Bounds. -/
import Derived.Test.YtoecmleficekbaaDoorCap2
namespace Go.Proofs.YtoecmleficekbaaDoor
open Go.RowKit
set_option linter.unusedSimpArgs false
set_option linter.unusedVariables false

set_option maxRecDepth 100000 in
set_option maxHeartbeats 2000000 in
theorem bounds_any (t : Bool) (b tp a p y : Int) (n : Int) (ha : 0 ≤ a) (ha1 : a < 4294967296) (hn : 0 ≤ n) (hn1 : n < 4294967296) (htp : 0 ≤ tp) (htp1 : tp < 4294967296) (w : World) : Calls Tryd.prog 51 #[.agg #[.bool t, .int .u32 b, .int .u32 tp, .int .u32 a, .int .u16 p, .int .u16 y], .int .u32 n] w fun e w' => e = .returned (capV (Cp.bounds ⟨t, b, tp, a, p, y⟩ n)) ∧ New w w' := by
  have HM : Kp _ := ⟨fun W => may_open t b tp a p y 0 W⟩
  have HH : Kp _ := ⟨fun W => capHas_any t b tp a p y a n ha ha1 hn hn1 htp htp1 W⟩
  obtain ⟨s, hs⟩ : ∃ s, (a + n) % 4294967296 = s := ⟨_, rfl⟩
  obtain ⟨q, hq⟩ : ∃ q, Kp (q = (Cp.isOpen ⟨t, b, tp, a, p, y⟩ && Cp.has ⟨t, b, tp, a, p, y⟩ a n)) := ⟨_, ⟨rfl⟩⟩
  obtain ⟨t', ht⟩ : ∃ t', Kp (t' = (t && q)) := ⟨_, ⟨rfl⟩⟩
  have hfin : Kp (Cp.bounds ⟨t, b, tp, a, p, y⟩ n = ⟨t', a, s, a, p, y⟩) := ⟨by unfold Cp.bounds Cp.kept; rw [ht.out, hq.out, ← hs]⟩
  rw [hfin.out]
  obtain ⟨o, ho⟩ : ∃ o, Kp ((y == 0) = o) := ⟨_, ⟨rfl⟩⟩
  obtain ⟨h, hh⟩ : ∃ h, Kp (Cp.has ⟨t, b, tp, a, p, y⟩ a n = h) := ⟨_, ⟨rfl⟩⟩
  rw [ho.out] at HM
  rw [hh.out] at HH
  have hq' : Kp (q = (o && h)) := ⟨by rw [hq.out, ← ho.out, ← hh.out]; rfl⟩
  clear hq hfin
  cases o
  · go_enter Tryd.func51, Tryd.ntmps51
    repeat' (first | (with_reducible refine then_normal ?_) | (with_reducible refine then_ret ?_) | (with_reducible refine then_exit ?_) | (with_reducible refine inBlock_normal ?_) | (with_reducible refine inBlock_ret ?_) | (with_reducible refine inBlock_same ?_) | (with_reducible refine inBlock_other (by decide) ?_) | go_values | go_skip | go_guarded | go_step | go_upon | (simp only [Int.not_lt, Int.not_le] at *; go_simp) | (go_ite <;> go_prune <;> (try go_simp)))
    refine (HM.out _).mono ?_; rintro e w1 ⟨rfl, hn1⟩
    have B1 : Kp _ := ⟨hn1.heap (alloc2_1 w _ _) (fun x => x)⟩
    obtain ⟨⟨c0, c1, c2, c3, c4, c5⟩, f0, f1, f2, f3, f4, f5⟩ := blk6 (hn1.heap (alloc2_0 w _ _) (fun x => x))
    have HN1 : Kp (New w w1) := ⟨(((Chg.refl _ w).alloc _).alloc _).new hn1⟩
    clear hn1
    repeat' (first | (with_reducible refine then_normal ?_) | (with_reducible refine then_ret ?_) | (with_reducible refine then_exit ?_) | (with_reducible refine inBlock_normal ?_) | (with_reducible refine inBlock_ret ?_) | (with_reducible refine inBlock_same ?_) | (with_reducible refine inBlock_other (by decide) ?_) | go_values | go_skip | go_guarded | go_step | go_upon | (simp only [Int.not_lt, Int.not_le] at *; go_simp) | (go_ite <;> go_prune <;> (try go_simp)))
    refine (kept_is t a s a p y false ⟨t', a, s, a, p, y⟩ (by rw [ht.out, hq'.out]; rfl) _).mono ?_; rintro e w2 ⟨rfl, hn⟩
    obtain ⟨⟨c0, c1, c2, c3, c4, c5⟩, f0, f1, f2, f3, f4, f5⟩ := blk6 (hn.heap (keep_set (keep_set B1.out (by simp)) (by simp)) (fun x => x))
    have HN : Kp (New w w2) := ⟨((HN1.out.setCell (.inl (by simp)) _).setCell (.inl (by simp)) _).new hn⟩
    clear hn
    simp only [capV]
    repeat' (first | (with_reducible refine then_normal ?_) | (with_reducible refine then_ret ?_) | (with_reducible refine then_exit ?_) | (with_reducible refine inBlock_normal ?_) | (with_reducible refine inBlock_ret ?_) | (with_reducible refine inBlock_same ?_) | (with_reducible refine inBlock_other (by decide) ?_) | go_values | go_skip | go_guarded | go_step | go_upon | (simp only [Int.not_lt, Int.not_le] at *; go_simp) | (go_ite <;> go_prune <;> (try go_simp)))
    refine bodyPost_ret (v := capV ⟨t', a, s, a, p, y⟩) ?_ rfl ⟨rfl, ?_⟩
    · simp [results, Tryd.results51, go_sem, capV, *]
    · repeat (first | (with_reducible exact HN.out) | (with_reducible refine Chg.setCell ?_ (.inl (by simp)) _))
  · go_enter Tryd.func51, Tryd.ntmps51
    repeat' (first | (with_reducible refine then_normal ?_) | (with_reducible refine then_ret ?_) | (with_reducible refine then_exit ?_) | (with_reducible refine inBlock_normal ?_) | (with_reducible refine inBlock_ret ?_) | (with_reducible refine inBlock_same ?_) | (with_reducible refine inBlock_other (by decide) ?_) | go_values | go_skip | go_guarded | go_step | go_upon | (simp only [Int.not_lt, Int.not_le] at *; go_simp) | (go_ite <;> go_prune <;> (try go_simp)))
    refine (HM.out _).mono ?_; rintro e w1 ⟨rfl, hn1⟩
    have B1 : Kp _ := ⟨hn1.heap (alloc2_1 w _ _) (fun x => x)⟩
    have A1 : Kp _ := ⟨hn1.heap (alloc2_0 w _ _) (fun x => x)⟩
    obtain ⟨⟨c0, c1, c2, c3, c4, c5⟩, f0, f1, f2, f3, f4, f5⟩ := blk6 A1.out
    have HN1 : Kp (New w w1) := ⟨(((Chg.refl _ w).alloc _).alloc _).new hn1⟩
    clear hn1
    repeat' (first | (with_reducible refine then_normal ?_) | (with_reducible refine then_ret ?_) | (with_reducible refine then_exit ?_) | (with_reducible refine inBlock_normal ?_) | (with_reducible refine inBlock_ret ?_) | (with_reducible refine inBlock_same ?_) | (with_reducible refine inBlock_other (by decide) ?_) | go_values | go_skip | go_guarded | go_step | go_upon | (simp only [Int.not_lt, Int.not_le] at *; go_simp) | (go_ite <;> go_prune <;> (try go_simp)))
    refine (HH.out _).mono ?_; rintro e w3 ⟨rfl, hn3⟩
    obtain ⟨⟨c0, c1, c2, c3, c4, c5⟩, f0, f1, f2, f3, f4, f5⟩ := blk6 (hn3.heap A1.out (fun x => x))
    have B3 : Kp _ := ⟨hn3.heap B1.out (fun x => x)⟩
    have HN3 : Kp (New w w3) := ⟨HN1.out.new hn3⟩
    clear hn3
    repeat' (first | (with_reducible refine then_normal ?_) | (with_reducible refine then_ret ?_) | (with_reducible refine then_exit ?_) | (with_reducible refine inBlock_normal ?_) | (with_reducible refine inBlock_ret ?_) | (with_reducible refine inBlock_same ?_) | (with_reducible refine inBlock_other (by decide) ?_) | go_values | go_skip | go_guarded | go_step | go_upon | (simp only [Int.not_lt, Int.not_le] at *; go_simp) | (go_ite <;> go_prune <;> (try go_simp)))
    refine (kept_is t a s a p y h ⟨t', a, s, a, p, y⟩ (by rw [ht.out, hq'.out]; rfl) _).mono ?_; rintro e w2 ⟨rfl, hn⟩
    obtain ⟨⟨c0, c1, c2, c3, c4, c5⟩, f0, f1, f2, f3, f4, f5⟩ := blk6 (hn.heap (keep_set (keep_set B3.out (by simp)) (by simp)) (fun x => x))
    have HN : Kp (New w w2) := ⟨((HN3.out.setCell (.inl (by simp)) _).setCell (.inl (by simp)) _).new hn⟩
    clear hn
    simp only [capV]
    repeat' (first | (with_reducible refine then_normal ?_) | (with_reducible refine then_ret ?_) | (with_reducible refine then_exit ?_) | (with_reducible refine inBlock_normal ?_) | (with_reducible refine inBlock_ret ?_) | (with_reducible refine inBlock_same ?_) | (with_reducible refine inBlock_other (by decide) ?_) | go_values | go_skip | go_guarded | go_step | go_upon | (simp only [Int.not_lt, Int.not_le] at *; go_simp) | (go_ite <;> go_prune <;> (try go_simp)))
    refine bodyPost_ret (v := capV ⟨t', a, s, a, p, y⟩) ?_ rfl ⟨rfl, ?_⟩
    · simp [results, Tryd.results51, go_sem, capV, *]
    · repeat (first | (with_reducible exact HN.out) | (with_reducible refine Chg.setCell ?_ (.inl (by simp)) _))
end Go.Proofs.YtoecmleficekbaaDoor
