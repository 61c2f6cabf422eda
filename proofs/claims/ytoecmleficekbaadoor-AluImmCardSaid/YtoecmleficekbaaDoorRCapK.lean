/- The reference's capabilities (written by gen_rcap.py): key. -/
import Derived.Test.YtoecmleficekbaaDoorRCap
namespace Go.Proofs.YtoecmleficekbaaDoor
open Go.RowKit
set_option linter.unusedSimpArgs false
set_option linter.unusedVariables false

theorem kmask (kp : Int) (m : Int) (q : Bool) (h : decide (bits .and .u16 kp m = m) = q) : (bits .and .u16 kp m == m) = q := by rw [← h]; rfl

set_option maxRecDepth 100000 in
set_option maxHeartbeats 1000000 in
theorem refKey_any (t : Bool) (b tp a p y : Int) (m : Int) (ha : 0 ≤ a) (ha1 : a < 4294967296) (htp : 0 ≤ tp) (htp1 : tp < 4294967296) (w : World) : Calls Tryd.prog 129 #[.agg #[.bool t, .int .u32 b, .int .u32 tp, .int .u32 a, .int .u16 p, .int .u16 y], .int .u16 m] w fun e w' => e = .returned (.bool (Cp.key ⟨t, b, tp, a, p, y⟩ m)) ∧ New w w' := by
  have HH : Kp _ := ⟨fun W => refHas_any t b tp a p y a 1 ha ha1 (by decide) (by decide) htp htp1 W⟩
  unfold Cp.key Cp.permits Cp.isOpen
  obtain ⟨h, hh⟩ : ∃ h, Kp (Cp.has ⟨t, b, tp, a, p, y⟩ a 1 = h) := ⟨_, ⟨rfl⟩⟩
  rw [hh.out] at HH
  simp only [hh.out]
  clear hh
  obtain ⟨o, ho⟩ : ∃ o, (y == 0) = o := ⟨_, rfl⟩
  obtain ⟨q, hq⟩ : ∃ q, (bits .and .u16 p m == m) = q := ⟨_, rfl⟩
  rw [ho, hq]
  clear ha ha1 htp htp1
  cases t
  · clear HH
    go_enter Tryd.func129, Tryd.ntmps129
    repeat' (first | (with_reducible refine then_normal ?_) | (with_reducible refine then_ret ?_) | (with_reducible refine then_exit ?_) | (with_reducible refine inBlock_normal ?_) | (with_reducible refine inBlock_ret ?_) | (with_reducible refine inBlock_same ?_) | (with_reducible refine inBlock_other (by decide) ?_) | fail | go_values | go_skip | go_guarded | go_step | go_upon | (simp only [Int.not_lt, Int.not_le] at *; go_simp) | (go_ite <;> go_prune <;> (try go_simp)))
    go_ret
    exact ⟨by simp, (Chg.refl _ w).alloc _⟩
  cases o
  · skip
    clear HH
    go_enter Tryd.func129, Tryd.ntmps129
    repeat' (first | (with_reducible refine then_normal ?_) | (with_reducible refine then_ret ?_) | (with_reducible refine then_exit ?_) | (with_reducible refine inBlock_normal ?_) | (with_reducible refine inBlock_ret ?_) | (with_reducible refine inBlock_same ?_) | (with_reducible refine inBlock_other (by decide) ?_) | fail | go_values | go_skip | go_guarded | go_step | go_upon | (simp only [Int.not_lt, Int.not_le] at *; go_simp) | (go_ite <;> go_prune <;> (try go_simp)))
    go_ret
    exact ⟨by simp, (Chg.refl _ w).alloc _⟩
  cases q
  · skip
    clear HH
    go_enter Tryd.func129, Tryd.ntmps129
    repeat' (first | (with_reducible refine then_normal ?_) | (with_reducible refine then_ret ?_) | (with_reducible refine then_exit ?_) | (with_reducible refine inBlock_normal ?_) | (with_reducible refine inBlock_ret ?_) | (with_reducible refine inBlock_same ?_) | (with_reducible refine inBlock_other (by decide) ?_) | fail | go_values | go_skip | go_guarded | go_step | go_upon | (simp only [Int.not_lt, Int.not_le] at *; go_simp) | (go_ite <;> go_prune <;> (try go_simp)))
    go_ret
    exact ⟨by simp, (Chg.refl _ w).alloc _⟩
  go_enter Tryd.func129, Tryd.ntmps129
  repeat' (first | (with_reducible refine then_normal ?_) | (with_reducible refine then_ret ?_) | (with_reducible refine then_exit ?_) | (with_reducible refine inBlock_normal ?_) | (with_reducible refine inBlock_ret ?_) | (with_reducible refine inBlock_same ?_) | (with_reducible refine inBlock_other (by decide) ?_) | fail | go_values | go_skip | go_guarded | go_step | go_upon | (simp only [Int.not_lt, Int.not_le] at *; go_simp) | (go_ite <;> go_prune <;> (try go_simp)))
  refine (HH.out _).mono ?_; rintro e w1 ⟨rfl, hn⟩
  have HN1 : Kp (New w w1) := ⟨((Chg.refl _ w).alloc _).new hn⟩
  clear hn
  repeat' (first | (with_reducible refine then_normal ?_) | (with_reducible refine then_ret ?_) | (with_reducible refine then_exit ?_) | (with_reducible refine inBlock_normal ?_) | (with_reducible refine inBlock_ret ?_) | (with_reducible refine inBlock_same ?_) | (with_reducible refine inBlock_other (by decide) ?_) | fail | go_values | go_skip | go_guarded | go_step | go_upon | (simp only [Int.not_lt, Int.not_le] at *; go_simp) | (go_ite <;> go_prune <;> (try go_simp)))
  go_ret
  exact ⟨by simp, HN1.out⟩

end Go.Proofs.YtoecmleficekbaaDoor
