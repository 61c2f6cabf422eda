/- Contracts of package alu: bounds. -/
import Derived.Test.YtoecmleficekbaaDoorCapB
import Derived.Test.YtoecmleficekbaaDoorAluF
namespace Go.Proofs.YtoecmleficekbaaDoor
open Go.RowKit
set_option linter.unusedSimpArgs false
set_option linter.unusedVariables false

theorem clear_is (t : Bool) (b tp a p y : Int) (r : Cp) (h : r = Cp.clear ⟨t, b, tp, a, p, y⟩) (w : World) : Calls Tryd.prog 94 #[.agg #[.bool t, .int .u32 b, .int .u32 tp, .int .u32 a, .int .u16 p, .int .u16 y]] w fun e w' => e = .returned (capV r) ∧ New w w' := by
  rw [h]; exact clear_any t b tp a p y w

set_option maxRecDepth 100000 in
set_option maxHeartbeats 1000000 in
theorem aluBounds_any (t : Bool) (b tp a p y : Int) (n : Int) (ha : 0 ≤ a) (ha1 : a < 4294967296) (hn0 : -2147483648 ≤ n) (hn1 : n < 2147483648) (htp : 0 ≤ tp) (htp1 : tp < 4294967296) (w : World) : Calls Tryd.prog 114 #[.agg #[.bool t, .int .u32 b, .int .u32 tp, .int .u32 a, .int .u16 p, .int .u16 y], .int .i32 n] w fun e w' => e = .returned (capV (Cp.boundsI ⟨t, b, tp, a, p, y⟩ n)) ∧ New w w' := by
  unfold Cp.boundsI
  obtain ⟨g, hg⟩ : ∃ g, decide (n < 0) = g := ⟨_, rfl⟩
  cases g
  · have hge : ¬ n < 0 := by simpa using hg
    rw [if_neg hge]
    have hnu : n % 4294967296 = n := by omega
    have HB : Kp _ := ⟨fun W => bounds_any t b tp a p y n ha ha1 (by omega) (by omega) htp htp1 W⟩
    obtain ⟨⟨t', b', tp', a', p', y'⟩, hR⟩ : ∃ R, Kp (Cp.bounds ⟨t, b, tp, a, p, y⟩ n = R) := ⟨_, ⟨rfl⟩⟩
    rw [hR.out] at HB
    rw [hR.out]
    clear hR hge hn0 hn1 ha ha1 htp htp1
    go_enter Tryd.func114, Tryd.ntmps114
    repeat' (first | (with_reducible refine then_normal ?_) | (with_reducible refine then_ret ?_) | (with_reducible refine then_exit ?_) | (with_reducible refine inBlock_normal ?_) | (with_reducible refine inBlock_ret ?_) | (with_reducible refine inBlock_same ?_) | (with_reducible refine inBlock_other (by decide) ?_) | fail | go_values | go_skip | go_guarded | go_step | go_upon | (simp only [Int.not_lt, Int.not_le] at *; go_simp) | (go_ite <;> go_prune <;> (try go_simp)))
    refine (HB.out _).mono ?_; rintro e w9 ⟨rfl, hn⟩
    obtain ⟨⟨c0, c1, c2, c3, c4, c5⟩, f0, f1, f2, f3, f4, f5⟩ := blk6 (hn.heap (alloc2_1 w _ _) (fun x => x))
    have HN : Kp (New w w9) := ⟨(((Chg.refl _ w).alloc _).alloc _).new hn⟩
    clear hn
    simp only [capV]
    repeat' (first | (with_reducible refine then_normal ?_) | (with_reducible refine then_ret ?_) | (with_reducible refine then_exit ?_) | (with_reducible refine inBlock_normal ?_) | (with_reducible refine inBlock_ret ?_) | (with_reducible refine inBlock_same ?_) | (with_reducible refine inBlock_other (by decide) ?_) | go_values | go_skip | go_guarded | go_step | go_upon | (simp only [Int.not_lt, Int.not_le] at *; go_simp) | (go_ite <;> go_prune <;> (try go_simp)))
    refine bodyPost_ret (v := capV ⟨t', b', tp', a', p', y'⟩) ?_ rfl ⟨rfl, ?_⟩
    · simp [results, Tryd.results114, go_sem, capV, *]
    · repeat (first | (with_reducible exact HN.out) | (with_reducible refine Chg.setCell ?_ (.inl (by simp <;> omega)) _))
  · have hlt : n < 0 := by simpa using hg
    rw [if_pos hlt]
    have HB : Kp _ := ⟨fun W => bounds_any t b tp a p y 0 ha ha1 (by omega) (by omega) htp htp1 W⟩
    obtain ⟨⟨t', b', tp', a', p', y'⟩, hR⟩ : ∃ R, Kp (Cp.bounds ⟨t, b, tp, a, p, y⟩ 0 = R) := ⟨_, ⟨rfl⟩⟩
    rw [hR.out] at HB
    rw [hR.out]
    have HC : Kp _ := ⟨fun R h W => clear_is t' b' tp' a' p' y' R h W⟩
    obtain ⟨⟨t'', b'', tp'', a'', p'', y''⟩, hQ⟩ : ∃ R, Kp (Cp.clear ⟨t', b', tp', a', p', y'⟩ = R) := ⟨_, ⟨rfl⟩⟩
    rw [hQ.out]
    clear hR hlt hn0 hn1 ha ha1 htp htp1
    go_enter Tryd.func114, Tryd.ntmps114
    repeat' (first | (with_reducible refine then_normal ?_) | (with_reducible refine then_ret ?_) | (with_reducible refine then_exit ?_) | (with_reducible refine inBlock_normal ?_) | (with_reducible refine inBlock_ret ?_) | (with_reducible refine inBlock_same ?_) | (with_reducible refine inBlock_other (by decide) ?_) | fail | go_values | go_skip | go_guarded | go_step | go_upon | (simp only [Int.not_lt, Int.not_le] at *; go_simp) | (go_ite <;> go_prune <;> (try go_simp)))
    refine (HB.out _).mono ?_; rintro e w1 ⟨rfl, hn⟩
    have R1 : Kp _ := ⟨hn.heap (alloc2_1 w _ _) (fun x => x)⟩
    have HN1 : Kp (New w w1) := ⟨(((Chg.refl _ w).alloc _).alloc _).new hn⟩
    clear hn
    simp only [capV]
    repeat' (first | (with_reducible refine then_normal ?_) | (with_reducible refine then_ret ?_) | (with_reducible refine then_exit ?_) | (with_reducible refine inBlock_normal ?_) | (with_reducible refine inBlock_ret ?_) | (with_reducible refine inBlock_same ?_) | (with_reducible refine inBlock_other (by decide) ?_) | fail | go_values | go_skip | go_guarded | go_step | go_upon | (simp only [Int.not_lt, Int.not_le] at *; go_simp) | (go_ite <;> go_prune <;> (try go_simp)))
    refine (HC.out _ hQ.out.symm _).mono ?_; rintro e w9 ⟨rfl, hn⟩
    obtain ⟨⟨c0, c1, c2, c3, c4, c5⟩, f0, f1, f2, f3, f4, f5⟩ := blk6 (hn.heap R1.out (fun x => x))
    have HN : Kp (New w w9) := ⟨HN1.out.new hn⟩
    clear hn
    simp only [capV]
    repeat' (first | (with_reducible refine then_normal ?_) | (with_reducible refine then_ret ?_) | (with_reducible refine then_exit ?_) | (with_reducible refine inBlock_normal ?_) | (with_reducible refine inBlock_ret ?_) | (with_reducible refine inBlock_same ?_) | (with_reducible refine inBlock_other (by decide) ?_) | go_values | go_skip | go_guarded | go_step | go_upon | (simp only [Int.not_lt, Int.not_le] at *; go_simp) | (go_ite <;> go_prune <;> (try go_simp)))
    refine bodyPost_ret (v := capV ⟨t'', b'', tp'', a'', p'', y''⟩) ?_ rfl ⟨rfl, ?_⟩
    · simp [results, Tryd.results114, go_sem, capV, *]
    · repeat (first | (with_reducible exact HN.out) | (with_reducible refine Chg.setCell ?_ (.inl (by simp <;> omega)) _))
end Go.Proofs.YtoecmleficekbaaDoor
