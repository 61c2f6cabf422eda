/- Contracts of haspref11: derive, of the reference (written by gen_ralu.py). -/
import Derived.Test.YtoecmleficekbaaDoorAluF
import Derived.Test.YtoecmleficekbaaDoorRCap2
import Derived.Test.YtoecmleficekbaaDoorRCapB
import Derived.Test.YtoecmleficekbaaDoorRCapS
import Derived.Test.YtoecmleficekbaaDoorRCapU
import Derived.Test.YtoecmleficekbaaDoorRCapE
namespace Go.Proofs.YtoecmleficekbaaDoor
open Go.RowKit
set_option linter.unusedSimpArgs false
set_option linter.unusedVariables false

def deriveR (o : List UInt8) (c k : Cp) (n : Int) : Option Cp :=
  if o == [109, 118] then none else   -- mv
  match derivedR o c k n with
  | some r => some r
  | none => comparedR o c k

set_option maxRecDepth 100000 in
set_option maxHeartbeats 8000000 in
theorem refDerive_any (s : ByteArray) (t : Bool) (b tp a p y : Int) (hb0 : 0 ≤ b) (hb1 : b < 4294967296) (htp0 : 0 ≤ tp) (htp1 : tp < 4294967296) (ha0 : 0 ≤ a) (ha1 : a < 4294967296) (hp0 : 0 ≤ p) (hp1 : p < 65536) (hy0 : 0 ≤ y) (hy1 : y < 65536) (kt : Bool) (kb ktp ka kp ky : Int) (hkb0 : 0 ≤ kb) (hkb1 : kb < 4294967296) (hktp0 : 0 ≤ ktp) (hktp1 : ktp < 4294967296) (hka0 : 0 ≤ ka) (hka1 : ka < 4294967296) (hkp0 : 0 ≤ kp) (hkp1 : kp < 65536) (hky0 : 0 ≤ ky) (hky1 : ky < 65536) (n : Int) (hn0 : -2147483648 ≤ n) (hn1 : n < 2147483648) (w : World) : Calls Tryd.prog 88 #[.string s, .agg #[.bool t, .int .u32 b, .int .u32 tp, .int .u32 a, .int .u16 p, .int .u16 y], .agg #[.bool kt, .int .u32 kb, .int .u32 ktp, .int .u32 ka, .int .u16 kp, .int .u16 ky], .int .i32 n] w fun e w' => e = .returned (.tuple #[capV ((deriveR s.toList ⟨t, b, tp, a, p, y⟩ ⟨kt, kb, ktp, ka, kp, ky⟩ n).getD Cp.nil), .bool (deriveR s.toList ⟨t, b, tp, a, p, y⟩ ⟨kt, kb, ktp, ka, kp, ky⟩ n).isSome]) ∧ New w w' := by
  have Hsa : Kp _ := ⟨fun v W => refSetAddr_any t b tp a p y v W⟩
  obtain ⟨rsa, esa⟩ : ∃ f : Int → Cp, Kp (∀ v, Cp.setAddr ⟨t, b, tp, a, p, y⟩ v = f v) := ⟨_, ⟨fun _ => rfl⟩⟩
  simp only [esa.out] at Hsa
  have Hb1 : Kp _ := ⟨fun W => refBounds_any t b tp a p y ka ha0 ha1 hka0 hka1 htp0 htp1 W⟩
  obtain ⟨rb1, eb1⟩ : ∃ f : Cp, Kp (Cp.bounds ⟨t, b, tp, a, p, y⟩ ka = f) := ⟨_, ⟨rfl⟩⟩
  simp only [eb1.out] at Hb1
  have Hb2 : Kp _ := ⟨fun W => refBounds_any t b tp a p y (n % 4294967296) ha0 ha1 (by omega) (by omega) htp0 htp1 W⟩
  obtain ⟨rb2, eb2⟩ : ∃ f : Cp, Kp (Cp.bounds ⟨t, b, tp, a, p, y⟩ (n % 4294967296) = f) := ⟨_, ⟨rfl⟩⟩
  simp only [eb2.out] at Hb2
  have Hap : Kp _ := ⟨fun v W => refAndPerm_any t b tp a p y v W⟩
  obtain ⟨rap, eap⟩ : ∃ f : Int → Cp, Kp (∀ v, Cp.andPerm ⟨t, b, tp, a, p, y⟩ v = f v) := ⟨_, ⟨fun _ => rfl⟩⟩
  simp only [eap.out] at Hap
  have Hcl : Kp _ := ⟨fun W => refClear_any t b tp a p y W⟩
  obtain ⟨rcl, ecl⟩ : ∃ f : Cp, Kp (Cp.clear ⟨t, b, tp, a, p, y⟩ = f) := ⟨_, ⟨rfl⟩⟩
  simp only [ecl.out] at Hcl
  have Hse : Kp _ := ⟨fun W => refSeal_any t b tp a p y kt kb ktp ka kp ky hka0 hka1 hktp0 hktp1 W⟩
  obtain ⟨rse, ese⟩ : ∃ f : Cp, Kp (Cp.shutBy ⟨t, b, tp, a, p, y⟩ ⟨kt, kb, ktp, ka, kp, ky⟩ = f) := ⟨_, ⟨rfl⟩⟩
  simp only [ese.out] at Hse
  have Hun : Kp _ := ⟨fun W => refUnseal_any t b tp a p y kt kb ktp ka kp ky hka0 hka1 hktp0 hktp1 hy0 hy1 W⟩
  obtain ⟨run, eun⟩ : ∃ f : Cp, Kp (Cp.openBy ⟨t, b, tp, a, p, y⟩ ⟨kt, kb, ktp, ka, kp, ky⟩ = f) := ⟨_, ⟨rfl⟩⟩
  simp only [eun.out] at Hun
  have Hen : Kp _ := ⟨fun W => refEnter_any t b tp a p y hp0 hp1 W⟩
  obtain ⟨ren, een⟩ : ∃ f : Cp, Kp (Cp.enter ⟨t, b, tp, a, p, y⟩ = f) := ⟨_, ⟨rfl⟩⟩
  simp only [een.out] at Hen
  have Hb0 : Kp _ := ⟨fun W => refBounds_any t b tp a p y 0 ha0 ha1 (by decide) (by decide) htp0 htp1 W⟩
  obtain ⟨⟨xt, xb, xtp, xa, xp, xy⟩, eb0⟩ : ∃ f : Cp, Kp (Cp.bounds ⟨t, b, tp, a, p, y⟩ 0 = f) := ⟨_, ⟨rfl⟩⟩
  simp only [eb0.out] at Hb0
  have Hc0 : Kp _ := ⟨fun W => refClear_any xt xb xtp xa xp xy W⟩
  obtain ⟨rc0, ec0⟩ : ∃ f : Cp, Kp (Cp.clear ⟨xt, xb, xtp, xa, xp, xy⟩ = f) := ⟨_, ⟨rfl⟩⟩
  simp only [ec0.out] at Hc0
  obtain ⟨ms, hms⟩ : ∃ m, Kp (∀ t kt, Cp.sub ⟨t, b, tp, a, p, y⟩ ⟨kt, kb, ktp, ka, kp, ky⟩ = m) := ⟨Cp.sub ⟨t, b, tp, a, p, y⟩ ⟨kt, kb, ktp, ka, kp, ky⟩, ⟨fun _ _ => rfl⟩⟩
  have HS : Kp (∀ (t kt : Bool) (W : World), Calls Tryd.prog 42 #[.agg #[.bool t, .int .u32 b, .int .u32 tp, .int .u32 a, .int .u16 p, .int .u16 y], .agg #[.bool kt, .int .u32 kb, .int .u32 ktp, .int .u32 ka, .int .u16 kp, .int .u16 ky]] W fun e w' => e = .returned (.bool ms) ∧ New W w') := ⟨fun t kt W => by have h := refSub_any t b tp a p y kt kb ktp ka kp ky W; rw [hms.out] at h; exact h⟩
  have HI : Kp _ := ⟨fun v W => refInt_any v W⟩
  obtain ⟨f1, hf1⟩ : ∃ f : Bool → Int, Kp (∀ m : Bool, (if m = true then 1 else 0) = f m) := ⟨_, ⟨fun _ => rfl⟩⟩
  have HF : Kp _ := ⟨fun m W => refFlag_any m W⟩
  simp only [hf1.out] at HF
  have q1 : Kp (¬ n < 0 → Cp.bounds ⟨t, b, tp, a, p, y⟩ n = rb2) := ⟨fun h => by rw [← eb2.out, Int.emod_eq_of_lt (by omega) (by omega)]⟩
  have q3 : Kp (a + ka = ka + a) := ⟨by omega⟩
  have q4 : Kp (a + n = n + a) := ⟨by omega⟩
  have q2 : Kp (n % 65536 = n % 4294967296 % 65536) := ⟨by omega⟩
  clear hb0 hb1 htp0 htp1 ha0 ha1 hp0 hp1 hy0 hy1 hkb0 hkb1 hktp0 hktp1 hka0 hka1 hkp0 hkp1 hky0 hky1 hn0 hn1
  go_enter Tryd.func88, Tryd.ntmps88
  repeat' (first | (with_reducible refine then_normal ?_) | (with_reducible refine then_ret ?_) | (with_reducible refine then_exit ?_) | (with_reducible refine inBlock_normal ?_) | (with_reducible refine inBlock_ret ?_) | (with_reducible refine inBlock_same ?_) | (with_reducible refine inBlock_other (by decide) ?_) | (go_at_call 119; (with_reducible refine (Hsa.out _ _).mono ?_); rintro e w9 ⟨rfl, hn⟩; obtain ⟨⟨c0, c1, c2, c3, c4, c5⟩, f0, f1, f2, f3, f4, f5⟩ := blk6 (hn.heap (alloc3_2 w _ _ _) (fun x => x)); have HN : Kp (New w w9) := ⟨((((Chg.refl _ w).alloc _).alloc _).alloc _).new hn⟩; clear hn; simp only [capV]) | (go_at_call 120; (with_reducible refine (Hb1.out _).mono ?_); rintro e w9 ⟨rfl, hn⟩; obtain ⟨⟨c0, c1, c2, c3, c4, c5⟩, f0, f1, f2, f3, f4, f5⟩ := blk6 (hn.heap (alloc3_2 w _ _ _) (fun x => x)); have HN : Kp (New w w9) := ⟨((((Chg.refl _ w).alloc _).alloc _).alloc _).new hn⟩; clear hn; simp only [capV]) | (go_at_call 120; (with_reducible refine (Hb2.out _).mono ?_); rintro e w9 ⟨rfl, hn⟩; obtain ⟨⟨c0, c1, c2, c3, c4, c5⟩, f0, f1, f2, f3, f4, f5⟩ := blk6 (hn.heap (alloc3_2 w _ _ _) (fun x => x)); have HN : Kp (New w w9) := ⟨((((Chg.refl _ w).alloc _).alloc _).alloc _).new hn⟩; clear hn; simp only [capV]) | (go_at_call 122; (with_reducible refine (Hap.out _ _).mono ?_); rintro e w9 ⟨rfl, hn⟩; obtain ⟨⟨c0, c1, c2, c3, c4, c5⟩, f0, f1, f2, f3, f4, f5⟩ := blk6 (hn.heap (alloc3_2 w _ _ _) (fun x => x)); have HN : Kp (New w w9) := ⟨((((Chg.refl _ w).alloc _).alloc _).alloc _).new hn⟩; clear hn; simp only [capV]) | (go_at_call 121; (with_reducible refine (Hcl.out _).mono ?_); rintro e w9 ⟨rfl, hn⟩; obtain ⟨⟨c0, c1, c2, c3, c4, c5⟩, f0, f1, f2, f3, f4, f5⟩ := blk6 (hn.heap (alloc3_2 w _ _ _) (fun x => x)); have HN : Kp (New w w9) := ⟨((((Chg.refl _ w).alloc _).alloc _).alloc _).new hn⟩; clear hn; simp only [capV]) | (go_at_call 123; (with_reducible refine (Hse.out _).mono ?_); rintro e w9 ⟨rfl, hn⟩; obtain ⟨⟨c0, c1, c2, c3, c4, c5⟩, f0, f1, f2, f3, f4, f5⟩ := blk6 (hn.heap (alloc3_2 w _ _ _) (fun x => x)); have HN : Kp (New w w9) := ⟨((((Chg.refl _ w).alloc _).alloc _).alloc _).new hn⟩; clear hn; simp only [capV]) | (go_at_call 124; (with_reducible refine (Hun.out _).mono ?_); rintro e w9 ⟨rfl, hn⟩; obtain ⟨⟨c0, c1, c2, c3, c4, c5⟩, f0, f1, f2, f3, f4, f5⟩ := blk6 (hn.heap (alloc3_2 w _ _ _) (fun x => x)); have HN : Kp (New w w9) := ⟨((((Chg.refl _ w).alloc _).alloc _).alloc _).new hn⟩; clear hn; simp only [capV]) | (go_at_call 125; (with_reducible refine (Hen.out _).mono ?_); rintro e w9 ⟨rfl, hn⟩; obtain ⟨⟨c0, c1, c2, c3, c4, c5⟩, f0, f1, f2, f3, f4, f5⟩ := blk6 (hn.heap (alloc3_2 w _ _ _) (fun x => x)); have HN : Kp (New w w9) := ⟨((((Chg.refl _ w).alloc _).alloc _).alloc _).new hn⟩; clear hn; simp only [capV]) | (go_at_call 120; (with_reducible refine (Hb0.out _).mono ?_); rintro e w8 ⟨rfl, hn⟩; have R8 : Kp _ := ⟨hn.heap (alloc3_2 w _ _ _) (fun x => x)⟩; have HN8 : Kp (New w w8) := ⟨((((Chg.refl _ w).alloc _).alloc _).alloc _).new hn⟩; clear hn; simp only [capV]) | (go_at_call 121; (with_reducible refine (Hc0.out _).mono ?_); rintro e w9 ⟨rfl, hn⟩; obtain ⟨⟨c0, c1, c2, c3, c4, c5⟩, f0, f1, f2, f3, f4, f5⟩ := blk6 (hn.heap (R8.out) (fun x => x)); have HN : Kp (New w w9) := ⟨(HN8.out).new hn⟩; clear hn; simp only [capV]) | (go_at_call 42; (with_reducible refine (HS.out _ _ _).mono ?_); rintro e w8 ⟨rfl, hn⟩; have R8 : Kp _ := ⟨hn.heap (alloc3_2 w _ _ _) (fun x => x)⟩; have HN8 : Kp (New w w8) := ⟨((((Chg.refl _ w).alloc _).alloc _).alloc _).new hn⟩; clear hn) | (go_at_call 87; (with_reducible refine (HF.out _ _).mono ?_); rintro e w7 ⟨rfl, rfl⟩) | (go_at_call 86; (with_reducible refine (HI.out _ _).mono ?_); rintro e w9 ⟨rfl, hn⟩; obtain ⟨⟨c0, c1, c2, c3, c4, c5⟩, f0, f1, f2, f3, f4, f5⟩ := blk6 (hn.heap (alloc3_2 w _ _ _) (fun x => x)); have HN : Kp (New w w9) := ⟨((((Chg.refl _ w).alloc _).alloc _).alloc _).new hn⟩; clear hn; simp only [capV, Cp.int]) | (go_at_call 86; (with_reducible refine (HI.out _ _).mono ?_); rintro e w9 ⟨rfl, hn⟩; obtain ⟨⟨c0, c1, c2, c3, c4, c5⟩, f0, f1, f2, f3, f4, f5⟩ := blk6 (hn.heap (R8.out) (fun x => x)); have HN : Kp (New w w9) := ⟨(HN8.out).new hn⟩; clear hn; simp only [capV, Cp.int]) | go_values | go_skip | go_guarded | go_step | go_upon | (simp only [Int.not_lt, Int.not_le] at *; go_simp) | (go_ite <;> go_prune <;> (try go_simp)))
  all_goals
    refine bodyPost_ret (v := .tuple #[capV ((deriveR s.toList ⟨t, b, tp, a, p, y⟩ ⟨kt, kb, ktp, ka, kp, ky⟩ n).getD Cp.nil), .bool (deriveR s.toList ⟨t, b, tp, a, p, y⟩ ⟨kt, kb, ktp, ka, kp, ky⟩ n).isSome]) ?_ rfl ⟨by first | rfl | (simp_all; done), ?_⟩
    · simp only [beq_iff_eq, beq_eq_false_iff_ne, ne_eq, decide_eq_true_eq, decide_eq_false_iff_not] at *
      (try have hn3 : ¬ n < 0 := Int.not_lt.2 (by assumption))
      first | (simp [results, Tryd.results88, go_sem, capV, Cp.int, Cp.nil, deriveR, derivedR, comparedR, Cp.boundsI, Cp.eqB, Cp.ofBool, IntKind.wrap_u16, esa.out, eb1.out, eb2.out, eap.out, ecl.out, ese.out, eun.out, een.out, q1.out, ← q2.out, q3.out, q4.out, eb0.out, ec0.out, hms.out, ← hf1.out, Int.sub_eq_add_neg, *]; done) | (by_cases hmv : s.toList = [109, 118] <;> simp [results, Tryd.results88, go_sem, capV, Cp.int, Cp.nil, deriveR, derivedR, comparedR, Cp.boundsI, Cp.eqB, Cp.ofBool, IntKind.wrap_u16, esa.out, eb1.out, eb2.out, eap.out, ecl.out, ese.out, eun.out, een.out, q1.out, ← q2.out, q3.out, q4.out, eb0.out, ec0.out, hms.out, ← hf1.out, Int.sub_eq_add_neg, *])
    · repeat (first | (with_reducible exact HN.out) | (with_reducible exact Chg.refl _ _) | (with_reducible refine Chg.alloc ?_ _) | (with_reducible refine Chg.setCell ?_ (.inl (by simp <;> omega)) _))
end Go.Proofs.YtoecmleficekbaaDoor
