/- Contracts of package alu: parts. -/
import Derived.Test.YtoecmleficekbaaDoorAluA
import Derived.Test.YtoecmleficekbaaDoorAluF
namespace Go.Proofs.YtoecmleficekbaaDoor
open Go.RowKit
set_option linter.unusedSimpArgs false
set_option linter.unusedVariables false

set_option maxRecDepth 100000 in
set_option maxHeartbeats 2000000 in
theorem parts_any (s : ByteArray) (t : Bool) (b tp a p y : Int) (hp : 0 ≤ p) (hp1 : p < 65536) (hy : 0 ≤ y) (hy1 : y < 65536) (w : World) : Calls Tryd.prog 80 #[.string s, .agg #[.bool t, .int .u32 b, .int .u32 tp, .int .u32 a, .int .u16 p, .int .u16 y]] w fun e w' => e = .returned (.tuple #[capV ((partsR s.toList ⟨t, b, tp, a, p, y⟩).getD Cp.nil), .bool (partsR s.toList ⟨t, b, tp, a, p, y⟩).isSome]) ∧ New w w' := by
  have hpp : p % 4294967296 = p := by omega
  have hyy : y % 4294967296 = y := by omega
  obtain ⟨x, hx⟩ : ∃ x, Kp ((if t = true then 1 else 0 : Int) = x) := ⟨_, ⟨rfl⟩⟩
  have HW : Kp _ := ⟨fun W => whole_any t W⟩
  rw [hx.out] at HW
  clear hp hp1 hy hy1
  go_enter Tryd.func80, Tryd.ntmps80
  repeat' (first | (with_reducible refine then_normal ?_) | (with_reducible refine then_ret ?_) | (with_reducible refine then_exit ?_) | (with_reducible refine inBlock_normal ?_) | (with_reducible refine inBlock_ret ?_) | (with_reducible refine inBlock_same ?_) | (with_reducible refine inBlock_other (by decide) ?_) | (go_at_call 37; (with_reducible refine (capInt_any _ _).mono ?_); rintro e w9 ⟨rfl, hn⟩; obtain ⟨⟨c0, c1, c2, c3, c4, c5⟩, f0, f1, f2, f3, f4, f5⟩ := blk6 (hn.heap (alloc2_1 w _ _) (fun x => x)); have HN : Kp (New w w9) := ⟨(((Chg.refl _ w).alloc _).alloc _).new hn⟩; clear hn; simp only [capV, Cp.int]) | (go_at_call 113; (with_reducible refine (HW.out _).mono ?_); rintro e w9 ⟨rfl, hn⟩; obtain ⟨⟨c0, c1, c2, c3, c4, c5⟩, f0, f1, f2, f3, f4, f5⟩ := blk6 (hn.heap (alloc2_1 w _ _) (fun x => x)); have HN : Kp (New w w9) := ⟨(((Chg.refl _ w).alloc _).alloc _).new hn⟩; clear hn; simp only [capV, Cp.int]) | go_values | go_skip | go_guarded | go_step | go_upon | (simp only [Int.not_lt, Int.not_le] at *; go_simp) | (go_ite <;> go_prune <;> (try go_simp)))
  all_goals
    refine bodyPost_ret (v := .tuple #[capV ((partsR s.toList ⟨t, b, tp, a, p, y⟩).getD Cp.nil), .bool (partsR s.toList ⟨t, b, tp, a, p, y⟩).isSome]) ?_ rfl ⟨rfl, ?_⟩
    · simp [results, Tryd.results80, go_sem, capV, Cp.int, Cp.nil, Cp.ofBool, partsR, hx.out, *]
    · repeat (first | (with_reducible exact HN.out) | (with_reducible exact Chg.refl _ _) | (with_reducible refine Chg.alloc ?_ _) | (with_reducible refine Chg.setCell ?_ (.inl (by simp <;> omega)) _))
end Go.Proofs.YtoecmleficekbaaDoor
