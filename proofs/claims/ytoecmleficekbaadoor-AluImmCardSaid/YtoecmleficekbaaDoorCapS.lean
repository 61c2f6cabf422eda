/- Contracts of package cap: Sub. -/
import Derived.Test.YtoecmleficekbaaDoorCap2
namespace Go.Proofs.YtoecmleficekbaaDoor
open Go.RowKit
set_option linter.unusedSimpArgs false
set_option linter.unusedVariables false

set_option maxRecDepth 100000 in
set_option maxHeartbeats 2000000 in
theorem sub_any (t : Bool) (b tp a p y : Int) (t' : Bool) (b' tp' a' p' y' : Int) (w : World) : Calls Tryd.prog 118 #[.agg #[.bool t, .int .u32 b, .int .u32 tp, .int .u32 a, .int .u16 p, .int .u16 y], .agg #[.bool t', .int .u32 b', .int .u32 tp', .int .u32 a', .int .u16 p', .int .u16 y']] w fun e w' => e = .returned (.bool (Cp.sub ⟨t, b, tp, a, p, y⟩ ⟨t', b', tp', a', p', y'⟩)) ∧ New w w' := by
  unfold Cp.sub
  rcases h1 : decide (b' ≤ b) with _ | _ <;> rcases h2 : decide (tp ≤ tp') with _ | _ <;> rcases h3 : bits .andNot .u16 p p' == 0 with _ | _
  all_goals
    go_enter Tryd.func118, Tryd.ntmps118
    repeat' (first | (with_reducible refine then_normal ?_) | (with_reducible refine then_ret ?_) | (with_reducible refine then_exit ?_) | (with_reducible refine inBlock_normal ?_) | (with_reducible refine inBlock_ret ?_) | (with_reducible refine inBlock_same ?_) | (with_reducible refine inBlock_other (by decide) ?_) | go_values | go_skip | go_guarded | go_step | go_upon | (simp only [Int.not_lt, Int.not_le] at *; go_simp) | (go_ite <;> go_prune <;> (try go_simp)))
    go_ret
    exact ⟨by simp [*], ((Chg.refl _ w).alloc _).alloc _⟩

end Go.Proofs.YtoecmleficekbaaDoor
