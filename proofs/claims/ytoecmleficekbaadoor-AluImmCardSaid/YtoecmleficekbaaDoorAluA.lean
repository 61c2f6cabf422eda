/- Contracts of package alu: whole, bounds. -/
import Derived.Test.YtoecmleficekbaaDoorCapB
namespace Go.Proofs.YtoecmleficekbaaDoor
open Go.RowKit
set_option linter.unusedSimpArgs false
set_option linter.unusedVariables false

theorem capInt_is (v : Int) (r : Cp) (h : r = Cp.int v) (w : World) : Calls Tryd.prog 37 #[.int .u32 v] w fun e w' => e = .returned (capV r) ∧ New w w' := by
  rw [h]; exact capInt_any v w

set_option maxRecDepth 100000 in
set_option maxHeartbeats 1000000 in
theorem whole_any (m : Bool) (w : World) : Calls Tryd.prog 113 #[.bool m] w fun e w' => e = .returned (capV (Cp.int (if m then 1 else 0))) ∧ New w w' := by
  cases m
  all_goals
    go_enter Tryd.func113, Tryd.ntmps113
    repeat' (first | (with_reducible refine then_normal ?_) | (with_reducible refine then_ret ?_) | (with_reducible refine then_exit ?_) | (with_reducible refine inBlock_normal ?_) | (with_reducible refine inBlock_ret ?_) | (with_reducible refine inBlock_same ?_) | (with_reducible refine inBlock_other (by decide) ?_) | fail | go_values | go_skip | go_guarded | go_step | go_upon | (simp only [Int.not_lt, Int.not_le] at *; go_simp) | (go_ite <;> go_prune <;> (try go_simp)))
    refine (capInt_any _ _).mono ?_; rintro e w9 ⟨rfl, hn⟩
    obtain ⟨⟨c0, c1, c2, c3, c4, c5⟩, f0, f1, f2, f3, f4, f5⟩ := blk6 (hn.heap (heap_alloc_at w _) (fun x => x))
    have HN : Kp (New w w9) := ⟨((Chg.refl _ w).alloc _).new hn⟩
    clear hn
    simp only [capV, Cp.int]
    repeat' (first | (with_reducible refine then_normal ?_) | (with_reducible refine then_ret ?_) | (with_reducible refine then_exit ?_) | (with_reducible refine inBlock_normal ?_) | (with_reducible refine inBlock_ret ?_) | (with_reducible refine inBlock_same ?_) | (with_reducible refine inBlock_other (by decide) ?_) | go_values | go_skip | go_guarded | go_step | go_upon | (simp only [Int.not_lt, Int.not_le] at *; go_simp) | (go_ite <;> go_prune <;> (try go_simp)))
    refine bodyPost_ret (v := capV (Cp.int _)) ?_ rfl ⟨rfl, ?_⟩
    · simp [results, Tryd.results113, go_sem, capV, Cp.int, *]
    · repeat (first | (with_reducible exact HN.out) | (with_reducible refine Chg.setCell ?_ (.inl (by simp <;> omega)) _))
end Go.Proofs.YtoecmleficekbaaDoor
