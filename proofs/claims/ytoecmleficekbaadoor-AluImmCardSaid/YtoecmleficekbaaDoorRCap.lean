/- The reference's capabilities (written by gen_rcap.py). -/
import Derived.Test.YtoecmleficekbaaDoorCap2
namespace Go.Proofs.YtoecmleficekbaaDoor
open Go.RowKit
set_option linter.unusedSimpArgs false
set_option linter.unusedVariables false

set_option maxRecDepth 100000 in
set_option maxHeartbeats 1000000 in
theorem refInt_any (v : Int) (w : World) : Calls Tryd.prog 86 #[.int .u32 v] w fun e w' => e = .returned (capV (Cp.int v)) ∧ New w w' := by
  go_enter Tryd.func86, Tryd.ntmps86
  go_wp2
  refine bodyPost_ret (v := capV (Cp.int v)) ?_ rfl ⟨rfl, ?_⟩
  · simp [results, Tryd.results86, go_sem, capV, Cp.int, *]
  · repeat (first | exact Chg.refl _ _ | refine Chg.alloc ?_ _ | refine Chg.setCell ?_ (.inl (by simp)) _)

set_option maxRecDepth 100000 in
set_option maxHeartbeats 1000000 in
theorem refRoot_any (v : Int) (w : World) : Calls Tryd.prog 98 #[.int .u32 v] w fun e w' => e = .returned (capV (Cp.root v)) ∧ New w w' := by
  go_enter Tryd.func98, Tryd.ntmps98
  go_wp2
  refine bodyPost_ret (v := capV (Cp.root v)) ?_ rfl ⟨rfl, ?_⟩
  · simp [results, Tryd.results98, go_sem, capV, Cp.root, *]
  · repeat (first | exact Chg.refl _ _ | refine Chg.alloc ?_ _ | refine Chg.setCell ?_ (.inl (by simp)) _)

set_option maxRecDepth 100000 in
set_option maxHeartbeats 1000000 in
theorem asks_any (t : Bool) (b tp a p y : Int) (m : Bool) (w : World) : Calls Tryd.prog 102 #[.agg #[.bool t, .int .u32 b, .int .u32 tp, .int .u32 a, .int .u16 p, .int .u16 y], .bool m] w fun e w' => e = .returned (capV ⟨t && m, b, tp, a, p, y⟩) ∧ New w w' := by
  cases t
  all_goals
    go_enter Tryd.func102, Tryd.ntmps102
    go_wp2
    refine bodyPost_ret (v := capV _) ?_ rfl ⟨rfl, ?_⟩
    · simp [results, Tryd.results102, go_sem, capV, *]
    · repeat (first | exact Chg.refl _ _ | refine Chg.alloc ?_ _ | refine Chg.setCell ?_ (.inl (by simp)) _)

set_option maxRecDepth 100000 in
set_option maxHeartbeats 1000000 in
theorem refHas_any (t : Bool) (b tp a p y : Int) (x n : Int) (hx : 0 ≤ x) (hx1 : x < 4294967296) (hn : 0 ≤ n) (hn1 : n < 4294967296) (htp : 0 ≤ tp) (htp1 : tp < 4294967296) (w : World) : Calls Tryd.prog 90 #[.agg #[.bool t, .int .u32 b, .int .u32 tp, .int .u32 a, .int .u16 p, .int .u16 y], .int .u32 x, .int .u32 n] w fun e w' => e = .returned (.bool (Cp.has ⟨t, b, tp, a, p, y⟩ x n)) ∧ New w w' := by
  unfold Cp.has
  by_cases h : b ≤ x
  · go_enter Tryd.func90, Tryd.ntmps90
    go_wp2
    go_ret
    exact ⟨by simp [*], (Chg.refl _ w).alloc _⟩
  · go_enter Tryd.func90, Tryd.ntmps90
    go_wp2
    go_ret
    exact ⟨by simp [*]; intro _; omega, (Chg.refl _ w).alloc _⟩

set_option maxRecDepth 100000 in
set_option maxHeartbeats 2000000 in
theorem refSub_any (t : Bool) (b tp a p y : Int) (t' : Bool) (b' tp' a' p' y' : Int) (w : World) : Calls Tryd.prog 42 #[.agg #[.bool t, .int .u32 b, .int .u32 tp, .int .u32 a, .int .u16 p, .int .u16 y], .agg #[.bool t', .int .u32 b', .int .u32 tp', .int .u32 a', .int .u16 p', .int .u16 y']] w fun e w' => e = .returned (.bool (Cp.sub ⟨t, b, tp, a, p, y⟩ ⟨t', b', tp', a', p', y'⟩)) ∧ New w w' := by
  unfold Cp.sub
  rcases h1 : decide (b' ≤ b) with _ | _ <;> rcases h2 : decide (tp ≤ tp') with _ | _ <;> rcases h3 : bits .andNot .u16 p p' == 0 with _ | _
  all_goals
    go_enter Tryd.func42, Tryd.ntmps42
    repeat' (first | (with_reducible refine then_normal ?_) | (with_reducible refine then_ret ?_) | (with_reducible refine then_exit ?_) | (with_reducible refine inBlock_normal ?_) | (with_reducible refine inBlock_ret ?_) | (with_reducible refine inBlock_same ?_) | (with_reducible refine inBlock_other (by decide) ?_) | go_values | go_skip | go_guarded | go_step | go_upon | (simp only [Int.not_lt, Int.not_le] at *; go_simp) | (go_ite <;> go_prune <;> (try go_simp)))
    go_ret
    exact ⟨by simp [*], ((Chg.refl _ w).alloc _).alloc _⟩

theorem asks_is (t : Bool) (b tp a p y : Int) (m : Bool) (r : Cp) (h : r = ⟨t && m, b, tp, a, p, y⟩) (w : World) : Calls Tryd.prog 102 #[.agg #[.bool t, .int .u32 b, .int .u32 tp, .int .u32 a, .int .u16 p, .int .u16 y], .bool m] w fun e w' => e = .returned (capV r) ∧ New w w' := by
  rw [h]; exact asks_any t b tp a p y m w

end Go.Proofs.YtoecmleficekbaaDoor
