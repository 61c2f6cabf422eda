/- Contracts of package alu: derived (written by gen_alu.py). -/
import Derived.Test.YtoecmleficekbaaDoorAluF
import Derived.Test.YtoecmleficekbaaDoorCapA
import Derived.Test.YtoecmleficekbaaDoorCapK
import Derived.Test.YtoecmleficekbaaDoorCapU
import Derived.Test.YtoecmleficekbaaDoorAluB
namespace Go.Proofs.YtoecmleficekbaaDoor
open Go.RowKit
set_option linter.unusedSimpArgs false
set_option linter.unusedVariables false

set_option maxRecDepth 100000 in
set_option maxHeartbeats 4000000 in
theorem derived_any (s : ByteArray) (t : Bool) (b tp a p y : Int) (hb0 : 0 ≤ b) (hb1 : b < 4294967296) (htp0 : 0 ≤ tp) (htp1 : tp < 4294967296) (ha0 : 0 ≤ a) (ha1 : a < 4294967296) (hp0 : 0 ≤ p) (hp1 : p < 65536) (hy0 : 0 ≤ y) (hy1 : y < 65536) (kt : Bool) (kb ktp ka kp ky : Int) (hkb0 : 0 ≤ kb) (hkb1 : kb < 4294967296) (hktp0 : 0 ≤ ktp) (hktp1 : ktp < 4294967296) (hka0 : 0 ≤ ka) (hka1 : ka < 4294967296) (hkp0 : 0 ≤ kp) (hkp1 : kp < 65536) (hky0 : 0 ≤ ky) (hky1 : ky < 65536) (n : Int) (hn0 : -2147483648 ≤ n) (hn1 : n < 2147483648) (w : World) : Calls Tryd.prog 82 #[.string s, .agg #[.bool t, .int .u32 b, .int .u32 tp, .int .u32 a, .int .u16 p, .int .u16 y], .agg #[.bool kt, .int .u32 kb, .int .u32 ktp, .int .u32 ka, .int .u16 kp, .int .u16 ky], .int .i32 n] w fun e w' => e = .returned (.tuple #[capV ((derivedR s.toList ⟨t, b, tp, a, p, y⟩ ⟨kt, kb, ktp, ka, kp, ky⟩ n).getD Cp.nil), .bool (derivedR s.toList ⟨t, b, tp, a, p, y⟩ ⟨kt, kb, ktp, ka, kp, ky⟩ n).isSome]) ∧ New w w' := by
  have Hsa : Kp _ := ⟨fun v W => setAddr_any t b tp a p y v W⟩
  obtain ⟨rsa, esa⟩ : ∃ f : Int → Cp, Kp (∀ v, Cp.setAddr ⟨t, b, tp, a, p, y⟩ v = f v) := ⟨_, ⟨fun _ => rfl⟩⟩
  simp only [esa.out] at Hsa
  have Hbo : Kp _ := ⟨fun W => bounds_any t b tp a p y ka ha0 ha1 hka0 hka1 htp0 htp1 W⟩
  obtain ⟨rbo, ebo⟩ : ∃ f : Cp, Kp (Cp.bounds ⟨t, b, tp, a, p, y⟩ ka = f) := ⟨_, ⟨rfl⟩⟩
  simp only [ebo.out] at Hbo
  have Hbi : Kp _ := ⟨fun W => aluBounds_any t b tp a p y n ha0 ha1 hn0 hn1 htp0 htp1 W⟩
  obtain ⟨rbi, ebi⟩ : ∃ f : Cp, Kp (Cp.boundsI ⟨t, b, tp, a, p, y⟩ n = f) := ⟨_, ⟨rfl⟩⟩
  simp only [ebi.out] at Hbi
  have Hap : Kp _ := ⟨fun v W => andPerm_any t b tp a p y v W⟩
  obtain ⟨rap, eap⟩ : ∃ f : Int → Cp, Kp (∀ v, Cp.andPerm ⟨t, b, tp, a, p, y⟩ v = f v) := ⟨_, ⟨fun _ => rfl⟩⟩
  simp only [eap.out] at Hap
  have Hcl : Kp _ := ⟨fun W => clear_any t b tp a p y W⟩
  obtain ⟨rcl, ecl⟩ : ∃ f : Cp, Kp (Cp.clear ⟨t, b, tp, a, p, y⟩ = f) := ⟨_, ⟨rfl⟩⟩
  simp only [ecl.out] at Hcl
  have Hse : Kp _ := ⟨fun W => seal_any t b tp a p y kt kb ktp ka kp ky hka0 hka1 hktp0 hktp1 W⟩
  obtain ⟨rse, ese⟩ : ∃ f : Cp, Kp (Cp.shutBy ⟨t, b, tp, a, p, y⟩ ⟨kt, kb, ktp, ka, kp, ky⟩ = f) := ⟨_, ⟨rfl⟩⟩
  simp only [ese.out] at Hse
  have Hun : Kp _ := ⟨fun W => unseal_any t b tp a p y kt kb ktp ka kp ky hka0 hka1 hktp0 hktp1 hy0 hy1 W⟩
  obtain ⟨run, eun⟩ : ∃ f : Cp, Kp (Cp.openBy ⟨t, b, tp, a, p, y⟩ ⟨kt, kb, ktp, ka, kp, ky⟩ = f) := ⟨_, ⟨rfl⟩⟩
  simp only [eun.out] at Hun
  have Hen : Kp _ := ⟨fun W => enter_any t b tp a p y W⟩
  obtain ⟨ren, een⟩ : ∃ f : Cp, Kp (Cp.enter ⟨t, b, tp, a, p, y⟩ = f) := ⟨_, ⟨rfl⟩⟩
  simp only [een.out] at Hen
  clear hb0 hb1 htp0 htp1 ha0 ha1 hp0 hp1 hy0 hy1 hkb0 hkb1 hktp0 hktp1 hka0 hka1 hkp0 hkp1 hky0 hky1 hn0 hn1
  go_enter Tryd.func82, Tryd.ntmps82
  repeat' (first | (with_reducible refine then_normal ?_) | (with_reducible refine then_ret ?_) | (with_reducible refine then_exit ?_) | (with_reducible refine inBlock_normal ?_) | (with_reducible refine inBlock_ret ?_) | (with_reducible refine inBlock_same ?_) | (with_reducible refine inBlock_other (by decide) ?_) | (go_at_call 52; (with_reducible refine (Hsa.out _ _).mono ?_); rintro e w9 ⟨rfl, hn⟩; obtain ⟨⟨c0, c1, c2, c3, c4, c5⟩, f0, f1, f2, f3, f4, f5⟩ := blk6 (hn.heap (alloc3_2 w _ _ _) (fun x => x)); have HN : Kp (New w w9) := ⟨((((Chg.refl _ w).alloc _).alloc _).alloc _).new hn⟩; clear hn; simp only [capV]) | (go_at_call 51; (with_reducible refine (Hbo.out _).mono ?_); rintro e w9 ⟨rfl, hn⟩; obtain ⟨⟨c0, c1, c2, c3, c4, c5⟩, f0, f1, f2, f3, f4, f5⟩ := blk6 (hn.heap (alloc3_2 w _ _ _) (fun x => x)); have HN : Kp (New w w9) := ⟨((((Chg.refl _ w).alloc _).alloc _).alloc _).new hn⟩; clear hn; simp only [capV]) | (go_at_call 114; (with_reducible refine (Hbi.out _).mono ?_); rintro e w9 ⟨rfl, hn⟩; obtain ⟨⟨c0, c1, c2, c3, c4, c5⟩, f0, f1, f2, f3, f4, f5⟩ := blk6 (hn.heap (alloc3_2 w _ _ _) (fun x => x)); have HN : Kp (New w w9) := ⟨((((Chg.refl _ w).alloc _).alloc _).alloc _).new hn⟩; clear hn; simp only [capV]) | (go_at_call 50; (with_reducible refine (Hap.out _ _).mono ?_); rintro e w9 ⟨rfl, hn⟩; obtain ⟨⟨c0, c1, c2, c3, c4, c5⟩, f0, f1, f2, f3, f4, f5⟩ := blk6 (hn.heap (alloc3_2 w _ _ _) (fun x => x)); have HN : Kp (New w w9) := ⟨((((Chg.refl _ w).alloc _).alloc _).alloc _).new hn⟩; clear hn; simp only [capV]) | (go_at_call 94; (with_reducible refine (Hcl.out _).mono ?_); rintro e w9 ⟨rfl, hn⟩; obtain ⟨⟨c0, c1, c2, c3, c4, c5⟩, f0, f1, f2, f3, f4, f5⟩ := blk6 (hn.heap (alloc3_2 w _ _ _) (fun x => x)); have HN : Kp (New w w9) := ⟨((((Chg.refl _ w).alloc _).alloc _).alloc _).new hn⟩; clear hn; simp only [capV]) | (go_at_call 115; (with_reducible refine (Hse.out _).mono ?_); rintro e w9 ⟨rfl, hn⟩; obtain ⟨⟨c0, c1, c2, c3, c4, c5⟩, f0, f1, f2, f3, f4, f5⟩ := blk6 (hn.heap (alloc3_2 w _ _ _) (fun x => x)); have HN : Kp (New w w9) := ⟨((((Chg.refl _ w).alloc _).alloc _).alloc _).new hn⟩; clear hn; simp only [capV]) | (go_at_call 116; (with_reducible refine (Hun.out _).mono ?_); rintro e w9 ⟨rfl, hn⟩; obtain ⟨⟨c0, c1, c2, c3, c4, c5⟩, f0, f1, f2, f3, f4, f5⟩ := blk6 (hn.heap (alloc3_2 w _ _ _) (fun x => x)); have HN : Kp (New w w9) := ⟨((((Chg.refl _ w).alloc _).alloc _).alloc _).new hn⟩; clear hn; simp only [capV]) | (go_at_call 117; (with_reducible refine (Hen.out _).mono ?_); rintro e w9 ⟨rfl, hn⟩; obtain ⟨⟨c0, c1, c2, c3, c4, c5⟩, f0, f1, f2, f3, f4, f5⟩ := blk6 (hn.heap (alloc3_2 w _ _ _) (fun x => x)); have HN : Kp (New w w9) := ⟨((((Chg.refl _ w).alloc _).alloc _).alloc _).new hn⟩; clear hn; simp only [capV]) | go_values | go_skip | go_guarded | go_step | go_upon | (simp only [Int.not_lt, Int.not_le] at *; go_simp) | (go_ite <;> go_prune <;> (try go_simp)))
  all_goals
    refine bodyPost_ret (v := .tuple #[capV ((derivedR s.toList ⟨t, b, tp, a, p, y⟩ ⟨kt, kb, ktp, ka, kp, ky⟩ n).getD Cp.nil), .bool (derivedR s.toList ⟨t, b, tp, a, p, y⟩ ⟨kt, kb, ktp, ka, kp, ky⟩ n).isSome]) ?_ rfl ⟨rfl, ?_⟩
    · simp [results, Tryd.results82, go_sem, capV, Cp.nil, derivedR, IntKind.wrap_u16, esa.out, ebo.out, ebi.out, eap.out, ecl.out, ese.out, eun.out, een.out, *]
    · repeat (first | (with_reducible exact HN.out) | (with_reducible exact Chg.refl _ _) | (with_reducible refine Chg.alloc ?_ _) | (with_reducible refine Chg.setCell ?_ (.inl (by simp <;> omega)) _))
end Go.Proofs.YtoecmleficekbaaDoor
