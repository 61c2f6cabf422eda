/- Contracts of package alu: numbers. -/
import Derived.Test.YtoecmleficekbaaDoorAluF
import Derived.Test.YtoecmleficekbaaDoorCap2
import Derived.Test.YtoecmleficekbaaDoorWord
import Derived.Deep.RegionWith
namespace Go.Proofs.YtoecmleficekbaaDoor
open Go.RowKit
set_option linter.unusedSimpArgs false
set_option linter.unusedVariables false

set_option maxRecDepth 100000 in
set_option maxHeartbeats 400000 in
theorem numbers_is (s : ByteArray) (a b v : Int) (q : Bool) (E : Value) (hE : E = if q then .nilIface else .iface 105 (.int .i64 7)) (HD : Kp (∀ W, Calls Tryd.prog 112 #[.string s, .int .u32 a, .int .u32 b] W fun e w' => e = .returned (.tuple #[.int .u32 v, E]) ∧ W = w')) (w : World) :
    Calls Tryd.prog 76 #[.string s, .int .u32 a, .int .u32 b] w fun e w' => e = .returned (.tuple #[capV (Cp.int v), .bool q]) ∧ New w w' := by
  have HC : Kp _ := ⟨fun W => capInt_any v W⟩
  cases q
  all_goals
    simp only [Bool.false_eq_true, if_false, if_true] at hE
    subst hE
    go_enter Tryd.func76, Tryd.ntmps76
    repeat' (first | (with_reducible refine then_normal ?_) | (with_reducible refine then_ret ?_) | (with_reducible refine then_exit ?_) | (with_reducible refine inBlock_normal ?_) | (with_reducible refine inBlock_ret ?_) | (with_reducible refine inBlock_same ?_) | (with_reducible refine inBlock_other (by decide) ?_) | fail | go_values | go_skip | go_guarded | go_step | go_upon | (simp only [Int.not_lt, Int.not_le] at *; go_simp) | (go_ite <;> go_prune <;> (try go_simp)))
    refine (HD.out _).mono ?_; rintro e w1 ⟨rfl, rfl⟩
    repeat' (first | (with_reducible refine then_normal ?_) | (with_reducible refine then_ret ?_) | (with_reducible refine then_exit ?_) | (with_reducible refine inBlock_normal ?_) | (with_reducible refine inBlock_ret ?_) | (with_reducible refine inBlock_same ?_) | (with_reducible refine inBlock_other (by decide) ?_) | fail | go_values | go_skip | go_guarded | go_step | go_upon | (simp only [Int.not_lt, Int.not_le] at *; go_simp) | (go_ite <;> go_prune <;> (try go_simp)))
    have A0 := heap_alloc_at w (.cells #[.bool false, .int .u32 0, .int .u32 0, .int .u32 0, .int .u16 0, .int .u16 0] 33)
    have N0 : New w (w.alloc (.cells #[.bool false, .int .u32 0, .int .u32 0, .int .u32 0, .int .u16 0, .int .u16 0] 33)) := (Chg.refl _ w).alloc _
    generalize w.alloc (.cells #[.bool false, .int .u32 0, .int .u32 0, .int .u32 0, .int .u16 0, .int .u16 0] 33) = W0 at A0 N0 ⊢
    obtain ⟨⟨a0, a1, a2, a3, a4, a5⟩, f0, f1, f2, f3, f4, f5⟩ := blk6 A0
    have KA : Kp _ := ⟨A0⟩
    have HN0 : Kp (New w W0) := ⟨N0⟩
    clear A0 N0
    go_region_with (first | (go_at_call 37; refine (HC.out _).mono ?_; rintro e W1 ⟨rfl, hn⟩; obtain ⟨⟨a0, a1, a2, a3, a4, a5⟩, f0, f1, f2, f3, f4, f5⟩ := blk6 (hn.heap KA.out (fun x => x)); have HN1 : Kp (New w W1) := ⟨HN0.out.drew.new hn⟩; clear hn; simp only [capV, Cp.int]))
    all_goals
      repeat' (first | (with_reducible refine then_normal ?_) | (with_reducible refine then_ret ?_) | (with_reducible refine then_exit ?_) | (with_reducible refine inBlock_normal ?_) | (with_reducible refine inBlock_ret ?_) | (with_reducible refine inBlock_same ?_) | (with_reducible refine inBlock_other (by decide) ?_) | fail | go_values | go_skip | go_guarded | go_step | go_upon | (simp only [Int.not_lt, Int.not_le] at *; go_simp) | (go_ite <;> go_prune <;> (try go_simp)))
      refine bodyPost_ret (v := .tuple #[capV (Cp.int v), .bool _]) (by simp [results, Tryd.results76, go_sem, capV, Cp.int, *]) rfl ⟨rfl, ?_⟩
      repeat (first | (with_reducible exact HN1.out) | (with_reducible refine Chg.setCell ?_ (.inl (by simp)) _))
theorem numbers_any (s : ByteArray) (a b : Int) (ha : 0 ≤ a) (ha' : a < 4294967296) (hb : 0 ≤ b) (hb' : b < 4294967296) (w : World) :
    Calls Tryd.prog 76 #[.string s, .int .u32 a, .int .u32 b] w fun e w' => e = .returned (.tuple #[capV (Cp.int ((doR s.toList a b).getD 0)), .bool (doR s.toList a b).isSome]) ∧ New w w' := by
  refine numbers_is s a b _ (doR s.toList a b).isSome _ rfl ⟨fun W => (do_any s a b ha ha' hb hb' W).mono fun e w' ⟨h, hw⟩ => ⟨?_, hw⟩⟩ w
  rw [h]
  cases doR s.toList a b <;> rfl
end Go.Proofs.YtoecmleficekbaaDoor
