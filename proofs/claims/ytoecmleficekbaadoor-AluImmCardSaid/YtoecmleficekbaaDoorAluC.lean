/- Contracts of package alu: compared (written by gen_alu.py). -/
import Derived.Test.YtoecmleficekbaaDoorAluF
import Derived.Test.YtoecmleficekbaaDoorCapS
import Derived.Test.YtoecmleficekbaaDoorAluA
namespace Go.Proofs.YtoecmleficekbaaDoor
open Go.RowKit
set_option linter.unusedSimpArgs false
set_option linter.unusedVariables false

set_option maxRecDepth 100000 in
set_option maxHeartbeats 4000000 in
theorem compared_any (s : ByteArray) (t : Bool) (b tp a p y : Int) (kt : Bool) (kb ktp ka kp ky : Int) (w : World) : Calls Tryd.prog 84 #[.string s, .agg #[.bool t, .int .u32 b, .int .u32 tp, .int .u32 a, .int .u16 p, .int .u16 y], .agg #[.bool kt, .int .u32 kb, .int .u32 ktp, .int .u32 ka, .int .u16 kp, .int .u16 ky]] w fun e w' => e = .returned (.tuple #[capV ((comparedR s.toList ⟨t, b, tp, a, p, y⟩ ⟨kt, kb, ktp, ka, kp, ky⟩).getD Cp.nil), .bool (comparedR s.toList ⟨t, b, tp, a, p, y⟩ ⟨kt, kb, ktp, ka, kp, ky⟩).isSome]) ∧ New w w' := by
  obtain ⟨m, hm⟩ : ∃ m, Kp (∀ t kt, Cp.sub ⟨t, b, tp, a, p, y⟩ ⟨kt, kb, ktp, ka, kp, ky⟩ = m) := ⟨Cp.sub ⟨t, b, tp, a, p, y⟩ ⟨kt, kb, ktp, ka, kp, ky⟩, ⟨fun _ _ => rfl⟩⟩
  have HS : Kp (∀ (t kt : Bool) (W : World), Calls Tryd.prog 118 #[.agg #[.bool t, .int .u32 b, .int .u32 tp, .int .u32 a, .int .u16 p, .int .u16 y], .agg #[.bool kt, .int .u32 kb, .int .u32 ktp, .int .u32 ka, .int .u16 kp, .int .u16 ky]] W fun e w' => e = .returned (.bool m) ∧ New W w') := ⟨fun t kt W => by have h := sub_any t b tp a p y kt kb ktp ka kp ky W; rw [hm.out] at h; exact h⟩
  have HW : Kp _ := ⟨fun m W => whole_any m W⟩
  obtain ⟨f, hf⟩ : ∃ f : Bool → Cp, Kp (∀ m : Bool, Cp.int (if m = true then 1 else 0) = f m) := ⟨_, ⟨fun _ => rfl⟩⟩
  simp only [hf.out] at HW
  go_enter Tryd.func84, Tryd.ntmps84
  repeat' (first | (with_reducible refine then_normal ?_) | (with_reducible refine then_ret ?_) | (with_reducible refine then_exit ?_) | (with_reducible refine inBlock_normal ?_) | (with_reducible refine inBlock_ret ?_) | (with_reducible refine inBlock_same ?_) | (with_reducible refine inBlock_other (by decide) ?_) | (go_at_call 37; (with_reducible refine (capInt_any _ _).mono ?_); rintro e w9 ⟨rfl, hn⟩; obtain ⟨⟨c0, c1, c2, c3, c4, c5⟩, f0, f1, f2, f3, f4, f5⟩ := blk6 (hn.heap (alloc3_2 w _ _ _) (fun x => x)); have HN : Kp (New w w9) := ⟨((((Chg.refl _ w).alloc _).alloc _).alloc _).new hn⟩; clear hn; simp only [capV, Cp.int]) | (go_at_call 113; (with_reducible refine (HW.out _ _).mono ?_); rintro e w9 ⟨rfl, hn⟩; obtain ⟨⟨c0, c1, c2, c3, c4, c5⟩, f0, f1, f2, f3, f4, f5⟩ := blk6 (hn.heap (alloc3_2 w _ _ _) (fun x => x)); have HN : Kp (New w w9) := ⟨((((Chg.refl _ w).alloc _).alloc _).alloc _).new hn⟩; clear hn; simp only [capV]) | (go_at_call 113; (with_reducible refine (HW.out _ _).mono ?_); rintro e w9 ⟨rfl, hn⟩; obtain ⟨⟨c0, c1, c2, c3, c4, c5⟩, f0, f1, f2, f3, f4, f5⟩ := blk6 (hn.heap (R8.out) (fun x => x)); have HN : Kp (New w w9) := ⟨(HN8.out).new hn⟩; clear hn; simp only [capV]) | (go_at_call 118; (with_reducible refine (HS.out _ _ _).mono ?_); rintro e w8 ⟨rfl, hn⟩; have R8 : Kp _ := ⟨hn.heap (alloc3_2 w _ _ _) (fun x => x)⟩; have HN8 : Kp (New w w8) := ⟨((((Chg.refl _ w).alloc _).alloc _).alloc _).new hn⟩; clear hn) | go_values | go_skip | go_guarded | go_step | go_upon | (simp only [Int.not_lt, Int.not_le] at *; go_simp) | (go_ite <;> go_prune <;> (try go_simp)))
  all_goals
    refine bodyPost_ret (v := .tuple #[capV ((comparedR s.toList ⟨t, b, tp, a, p, y⟩ ⟨kt, kb, ktp, ka, kp, ky⟩).getD Cp.nil), .bool (comparedR s.toList ⟨t, b, tp, a, p, y⟩ ⟨kt, kb, ktp, ka, kp, ky⟩).isSome]) ?_ rfl ⟨by first | rfl | (simp_all; done), ?_⟩
    · simp [results, Tryd.results84, go_sem, capV, Cp.int, Cp.nil, comparedR, Cp.eqB, Cp.ofBool, hm.out, ← hf.out, Int.sub_eq_add_neg, *]
    · repeat (first | (with_reducible exact HN.out) | (with_reducible exact Chg.refl _ _) | (with_reducible refine Chg.alloc ?_ _) | (with_reducible refine Chg.setCell ?_ (.inl (by simp <;> omega)) _))
end Go.Proofs.YtoecmleficekbaaDoor
