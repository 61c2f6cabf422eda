/- Contracts of package cap: Seal, Unseal. -/
import Derived.Test.YtoecmleficekbaaDoorCap2
namespace Go.Proofs.YtoecmleficekbaaDoor
open Go.RowKit
set_option linter.unusedSimpArgs false
set_option linter.unusedVariables false

set_option maxRecDepth 100000 in
set_option maxHeartbeats 4000000 in
theorem seal_any (t : Bool) (b tp a p y : Int) (kt : Bool) (kb ktp ka kp ky : Int) (ha : 0 ≤ ka) (ha1 : ka < 4294967296) (htp : 0 ≤ ktp) (htp1 : ktp < 4294967296) (w : World) : Calls Tryd.prog 115 #[.agg #[.bool t, .int .u32 b, .int .u32 tp, .int .u32 a, .int .u16 p, .int .u16 y], .agg #[.bool kt, .int .u32 kb, .int .u32 ktp, .int .u32 ka, .int .u16 kp, .int .u16 ky]] w fun e w' => e = .returned (capV (Cp.shutBy ⟨t, b, tp, a, p, y⟩ ⟨kt, kb, ktp, ka, kp, ky⟩)) ∧ New w w' := by
  have HM : Kp _ := ⟨fun W => may_open t b tp a p y 0 W⟩
  have HW : Kp _ := ⟨fun W => may_within kt kb ktp ka kp ky 32 ha ha1 htp htp1 W⟩
  obtain ⟨o, ho⟩ : ∃ o, Kp ((y == 0) = o) := ⟨_, ⟨rfl⟩⟩
  obtain ⟨h, hh⟩ : ∃ h, Kp (((Cp.has ⟨kt, kb, ktp, ka, kp, ky⟩ ka 1 && bits .and .u16 kp 32 == 32) && ky == 0) = h) := ⟨_, ⟨rfl⟩⟩
  obtain ⟨g, hg⟩ : ∃ g, decide (2 ≤ ka) = g := ⟨_, rfl⟩
  obtain ⟨l, hl⟩ : ∃ l, decide (ka < 1024) = l := ⟨_, rfl⟩
  have hok : Kp (Cp.shutOk ⟨t, b, tp, a, p, y⟩ ⟨kt, kb, ktp, ka, kp, ky⟩ = (o && ((kt && h) && (g && l)))) := ⟨by rw [← ho.out, ← hh.out, ← hg, ← hl]; rfl⟩
  rw [ho.out] at HM
  rw [hh.out] at HW
  have hbad : Kp ((o && ((kt && h) && (g && l))) = false → Cp.shutBy ⟨t, b, tp, a, p, y⟩ ⟨kt, kb, ktp, ka, kp, ky⟩ = ⟨t && false, b, tp, a, p, y⟩) := ⟨fun hf => by unfold Cp.shutBy; rw [hok.out, hf]; rfl⟩
  have hgood : Kp ((o && ((kt && h) && (g && l))) = true → Cp.shutBy ⟨t, b, tp, a, p, y⟩ ⟨kt, kb, ktp, ka, kp, ky⟩ = ⟨t && true, b, tp, a, p, ka⟩) := ⟨fun hf => by unfold Cp.shutBy; rw [hok.out, hf, Bool.and_true]; rfl⟩
  clear hok ho hh
  rcases hc : (o && ((kt && h) && (g && l))) with _ | _
  · obtain ⟨t', ht⟩ : ∃ t', Kp (t' = (t && false)) := ⟨_, ⟨rfl⟩⟩
    have hfin : Kp _ := ⟨hbad.out hc⟩
    rw [← ht.out] at hfin
    clear hbad hgood
    cases o
    · clear hc
      go_enter Tryd.func115, Tryd.ntmps115
      repeat' (first | (with_reducible refine then_normal ?_) | (with_reducible refine then_ret ?_) | (with_reducible refine then_exit ?_) | (with_reducible refine inBlock_normal ?_) | (with_reducible refine inBlock_ret ?_) | (with_reducible refine inBlock_same ?_) | (with_reducible refine inBlock_other (by decide) ?_) | go_values | go_skip | go_guarded | go_step | go_upon | (simp only [Int.not_lt, Int.not_le] at *; go_simp) | (go_ite <;> go_prune <;> (try go_simp)))
      refine (HM.out _).mono ?_; rintro e w1 ⟨rfl, hn⟩
      have A1 : Kp _ := ⟨hn.heap (alloc3_0 w _ _ _) (fun x => x)⟩
      have K1 : Kp _ := ⟨hn.heap (alloc3_1 w _ _ _) (fun x => x)⟩
      have R1 : Kp _ := ⟨hn.heap (alloc3_2 w _ _ _) (fun x => x)⟩
      obtain ⟨⟨a0, a1, a2, a3, a4, a5⟩, f0, f1, f2, f3, f4, f5⟩ := blk6 A1.out
      obtain ⟨⟨k0, k1, k2, k3, k4, k5⟩, g0, g1, g2, g3, g4, g5⟩ := blk6 K1.out
      have HN1 : Kp (New w w1) := ⟨((((Chg.refl _ w).alloc _).alloc _).alloc _).new hn⟩
      clear hn
      repeat' (first | (with_reducible refine then_normal ?_) | (with_reducible refine then_ret ?_) | (with_reducible refine then_exit ?_) | (with_reducible refine inBlock_normal ?_) | (with_reducible refine inBlock_ret ?_) | (with_reducible refine inBlock_same ?_) | (with_reducible refine inBlock_other (by decide) ?_) | go_values | go_skip | go_guarded | go_step | go_upon | (simp only [Int.not_lt, Int.not_le] at *; go_simp) | (go_ite <;> go_prune <;> (try go_simp)))
      refine (kept_is t b tp a p y false ⟨t', b, tp, a, p, y⟩ (by rw [ht.out]) _).mono ?_; rintro e w9 ⟨rfl, hn⟩
      obtain ⟨⟨a0, a1, a2, a3, a4, a5⟩, f0, f1, f2, f3, f4, f5⟩ := blk6 (hn.heap R1.out (fun x => x))
      have HN : Kp (New w w9) := ⟨HN1.out.new hn⟩
      clear hn
      simp only [capV]
      repeat' (first | (with_reducible refine then_normal ?_) | (with_reducible refine then_ret ?_) | (with_reducible refine then_exit ?_) | (with_reducible refine inBlock_normal ?_) | (with_reducible refine inBlock_ret ?_) | (with_reducible refine inBlock_same ?_) | (with_reducible refine inBlock_other (by decide) ?_) | go_values | go_skip | go_guarded | go_step | go_upon | (simp only [Int.not_lt, Int.not_le] at *; go_simp) | (go_ite <;> go_prune <;> (try go_simp)))
      rw [hfin.out]
      refine bodyPost_ret (v := capV ⟨t', b, tp, a, p, y⟩) ?_ rfl ⟨rfl, ?_⟩
      · simp [results, Tryd.results115, go_sem, capV, *]
      · repeat (first | (with_reducible exact HN.out) | (with_reducible refine Chg.setCell ?_ (.inl (by simp <;> omega)) _))
    cases kt
    · clear hc
      go_enter Tryd.func115, Tryd.ntmps115
      repeat' (first | (with_reducible refine then_normal ?_) | (with_reducible refine then_ret ?_) | (with_reducible refine then_exit ?_) | (with_reducible refine inBlock_normal ?_) | (with_reducible refine inBlock_ret ?_) | (with_reducible refine inBlock_same ?_) | (with_reducible refine inBlock_other (by decide) ?_) | go_values | go_skip | go_guarded | go_step | go_upon | (simp only [Int.not_lt, Int.not_le] at *; go_simp) | (go_ite <;> go_prune <;> (try go_simp)))
      refine (HM.out _).mono ?_; rintro e w1 ⟨rfl, hn⟩
      have A1 : Kp _ := ⟨hn.heap (alloc3_0 w _ _ _) (fun x => x)⟩
      have K1 : Kp _ := ⟨hn.heap (alloc3_1 w _ _ _) (fun x => x)⟩
      have R1 : Kp _ := ⟨hn.heap (alloc3_2 w _ _ _) (fun x => x)⟩
      obtain ⟨⟨a0, a1, a2, a3, a4, a5⟩, f0, f1, f2, f3, f4, f5⟩ := blk6 A1.out
      obtain ⟨⟨k0, k1, k2, k3, k4, k5⟩, g0, g1, g2, g3, g4, g5⟩ := blk6 K1.out
      have HN1 : Kp (New w w1) := ⟨((((Chg.refl _ w).alloc _).alloc _).alloc _).new hn⟩
      clear hn
      repeat' (first | (with_reducible refine then_normal ?_) | (with_reducible refine then_ret ?_) | (with_reducible refine then_exit ?_) | (with_reducible refine inBlock_normal ?_) | (with_reducible refine inBlock_ret ?_) | (with_reducible refine inBlock_same ?_) | (with_reducible refine inBlock_other (by decide) ?_) | go_values | go_skip | go_guarded | go_step | go_upon | (simp only [Int.not_lt, Int.not_le] at *; go_simp) | (go_ite <;> go_prune <;> (try go_simp)))
      refine (kept_is t b tp a p y false ⟨t', b, tp, a, p, y⟩ (by rw [ht.out]) _).mono ?_; rintro e w9 ⟨rfl, hn⟩
      obtain ⟨⟨a0, a1, a2, a3, a4, a5⟩, f0, f1, f2, f3, f4, f5⟩ := blk6 (hn.heap R1.out (fun x => x))
      have HN : Kp (New w w9) := ⟨HN1.out.new hn⟩
      clear hn
      simp only [capV]
      repeat' (first | (with_reducible refine then_normal ?_) | (with_reducible refine then_ret ?_) | (with_reducible refine then_exit ?_) | (with_reducible refine inBlock_normal ?_) | (with_reducible refine inBlock_ret ?_) | (with_reducible refine inBlock_same ?_) | (with_reducible refine inBlock_other (by decide) ?_) | go_values | go_skip | go_guarded | go_step | go_upon | (simp only [Int.not_lt, Int.not_le] at *; go_simp) | (go_ite <;> go_prune <;> (try go_simp)))
      rw [hfin.out]
      refine bodyPost_ret (v := capV ⟨t', b, tp, a, p, y⟩) ?_ rfl ⟨rfl, ?_⟩
      · simp [results, Tryd.results115, go_sem, capV, *]
      · repeat (first | (with_reducible exact HN.out) | (with_reducible refine Chg.setCell ?_ (.inl (by simp <;> omega)) _))
    cases h
    · clear hc
      go_enter Tryd.func115, Tryd.ntmps115
      repeat' (first | (with_reducible refine then_normal ?_) | (with_reducible refine then_ret ?_) | (with_reducible refine then_exit ?_) | (with_reducible refine inBlock_normal ?_) | (with_reducible refine inBlock_ret ?_) | (with_reducible refine inBlock_same ?_) | (with_reducible refine inBlock_other (by decide) ?_) | go_values | go_skip | go_guarded | go_step | go_upon | (simp only [Int.not_lt, Int.not_le] at *; go_simp) | (go_ite <;> go_prune <;> (try go_simp)))
      refine (HM.out _).mono ?_; rintro e w1 ⟨rfl, hn⟩
      have A1 : Kp _ := ⟨hn.heap (alloc3_0 w _ _ _) (fun x => x)⟩
      have K1 : Kp _ := ⟨hn.heap (alloc3_1 w _ _ _) (fun x => x)⟩
      have R1 : Kp _ := ⟨hn.heap (alloc3_2 w _ _ _) (fun x => x)⟩
      obtain ⟨⟨a0, a1, a2, a3, a4, a5⟩, f0, f1, f2, f3, f4, f5⟩ := blk6 A1.out
      obtain ⟨⟨k0, k1, k2, k3, k4, k5⟩, g0, g1, g2, g3, g4, g5⟩ := blk6 K1.out
      have HN1 : Kp (New w w1) := ⟨((((Chg.refl _ w).alloc _).alloc _).alloc _).new hn⟩
      clear hn
      repeat' (first | (with_reducible refine then_normal ?_) | (with_reducible refine then_ret ?_) | (with_reducible refine then_exit ?_) | (with_reducible refine inBlock_normal ?_) | (with_reducible refine inBlock_ret ?_) | (with_reducible refine inBlock_same ?_) | (with_reducible refine inBlock_other (by decide) ?_) | go_values | go_skip | go_guarded | go_step | go_upon | (simp only [Int.not_lt, Int.not_le] at *; go_simp) | (go_ite <;> go_prune <;> (try go_simp)))
      refine (HW.out _).mono ?_; rintro e w2 ⟨rfl, hn⟩
      have A2 : Kp _ := ⟨hn.heap A1.out (fun x => x)⟩
      have K2 : Kp _ := ⟨hn.heap K1.out (fun x => x)⟩
      have R2 : Kp _ := ⟨hn.heap R1.out (fun x => x)⟩
      obtain ⟨⟨a0, a1, a2, a3, a4, a5⟩, f0, f1, f2, f3, f4, f5⟩ := blk6 A2.out
      obtain ⟨⟨k0, k1, k2, k3, k4, k5⟩, g0, g1, g2, g3, g4, g5⟩ := blk6 K2.out
      have HN2 : Kp (New w w2) := ⟨HN1.out.new hn⟩
      clear hn
      repeat' (first | (with_reducible refine then_normal ?_) | (with_reducible refine then_ret ?_) | (with_reducible refine then_exit ?_) | (with_reducible refine inBlock_normal ?_) | (with_reducible refine inBlock_ret ?_) | (with_reducible refine inBlock_same ?_) | (with_reducible refine inBlock_other (by decide) ?_) | go_values | go_skip | go_guarded | go_step | go_upon | (simp only [Int.not_lt, Int.not_le] at *; go_simp) | (go_ite <;> go_prune <;> (try go_simp)))
      refine (kept_is t b tp a p y false ⟨t', b, tp, a, p, y⟩ (by rw [ht.out]) _).mono ?_; rintro e w9 ⟨rfl, hn⟩
      obtain ⟨⟨a0, a1, a2, a3, a4, a5⟩, f0, f1, f2, f3, f4, f5⟩ := blk6 (hn.heap R2.out (fun x => x))
      have HN : Kp (New w w9) := ⟨HN2.out.new hn⟩
      clear hn
      simp only [capV]
      repeat' (first | (with_reducible refine then_normal ?_) | (with_reducible refine then_ret ?_) | (with_reducible refine then_exit ?_) | (with_reducible refine inBlock_normal ?_) | (with_reducible refine inBlock_ret ?_) | (with_reducible refine inBlock_same ?_) | (with_reducible refine inBlock_other (by decide) ?_) | go_values | go_skip | go_guarded | go_step | go_upon | (simp only [Int.not_lt, Int.not_le] at *; go_simp) | (go_ite <;> go_prune <;> (try go_simp)))
      rw [hfin.out]
      refine bodyPost_ret (v := capV ⟨t', b, tp, a, p, y⟩) ?_ rfl ⟨rfl, ?_⟩
      · simp [results, Tryd.results115, go_sem, capV, *]
      · repeat (first | (with_reducible exact HN.out) | (with_reducible refine Chg.setCell ?_ (.inl (by simp <;> omega)) _))
    cases g
    · clear hc
      go_enter Tryd.func115, Tryd.ntmps115
      repeat' (first | (with_reducible refine then_normal ?_) | (with_reducible refine then_ret ?_) | (with_reducible refine then_exit ?_) | (with_reducible refine inBlock_normal ?_) | (with_reducible refine inBlock_ret ?_) | (with_reducible refine inBlock_same ?_) | (with_reducible refine inBlock_other (by decide) ?_) | go_values | go_skip | go_guarded | go_step | go_upon | (simp only [Int.not_lt, Int.not_le] at *; go_simp) | (go_ite <;> go_prune <;> (try go_simp)))
      refine (HM.out _).mono ?_; rintro e w1 ⟨rfl, hn⟩
      have A1 : Kp _ := ⟨hn.heap (alloc3_0 w _ _ _) (fun x => x)⟩
      have K1 : Kp _ := ⟨hn.heap (alloc3_1 w _ _ _) (fun x => x)⟩
      have R1 : Kp _ := ⟨hn.heap (alloc3_2 w _ _ _) (fun x => x)⟩
      obtain ⟨⟨a0, a1, a2, a3, a4, a5⟩, f0, f1, f2, f3, f4, f5⟩ := blk6 A1.out
      obtain ⟨⟨k0, k1, k2, k3, k4, k5⟩, g0, g1, g2, g3, g4, g5⟩ := blk6 K1.out
      have HN1 : Kp (New w w1) := ⟨((((Chg.refl _ w).alloc _).alloc _).alloc _).new hn⟩
      clear hn
      repeat' (first | (with_reducible refine then_normal ?_) | (with_reducible refine then_ret ?_) | (with_reducible refine then_exit ?_) | (with_reducible refine inBlock_normal ?_) | (with_reducible refine inBlock_ret ?_) | (with_reducible refine inBlock_same ?_) | (with_reducible refine inBlock_other (by decide) ?_) | go_values | go_skip | go_guarded | go_step | go_upon | (simp only [Int.not_lt, Int.not_le] at *; go_simp) | (go_ite <;> go_prune <;> (try go_simp)))
      refine (HW.out _).mono ?_; rintro e w2 ⟨rfl, hn⟩
      have A2 : Kp _ := ⟨hn.heap A1.out (fun x => x)⟩
      have K2 : Kp _ := ⟨hn.heap K1.out (fun x => x)⟩
      have R2 : Kp _ := ⟨hn.heap R1.out (fun x => x)⟩
      obtain ⟨⟨a0, a1, a2, a3, a4, a5⟩, f0, f1, f2, f3, f4, f5⟩ := blk6 A2.out
      obtain ⟨⟨k0, k1, k2, k3, k4, k5⟩, g0, g1, g2, g3, g4, g5⟩ := blk6 K2.out
      have HN2 : Kp (New w w2) := ⟨HN1.out.new hn⟩
      clear hn
      repeat' (first | (with_reducible refine then_normal ?_) | (with_reducible refine then_ret ?_) | (with_reducible refine then_exit ?_) | (with_reducible refine inBlock_normal ?_) | (with_reducible refine inBlock_ret ?_) | (with_reducible refine inBlock_same ?_) | (with_reducible refine inBlock_other (by decide) ?_) | go_values | go_skip | go_guarded | go_step | go_upon | (simp only [Int.not_lt, Int.not_le] at *; go_simp) | (go_ite <;> go_prune <;> (try go_simp)))
      refine (kept_is t b tp a p y false ⟨t', b, tp, a, p, y⟩ (by rw [ht.out]) _).mono ?_; rintro e w9 ⟨rfl, hn⟩
      obtain ⟨⟨a0, a1, a2, a3, a4, a5⟩, f0, f1, f2, f3, f4, f5⟩ := blk6 (hn.heap R2.out (fun x => x))
      have HN : Kp (New w w9) := ⟨HN2.out.new hn⟩
      clear hn
      simp only [capV]
      repeat' (first | (with_reducible refine then_normal ?_) | (with_reducible refine then_ret ?_) | (with_reducible refine then_exit ?_) | (with_reducible refine inBlock_normal ?_) | (with_reducible refine inBlock_ret ?_) | (with_reducible refine inBlock_same ?_) | (with_reducible refine inBlock_other (by decide) ?_) | go_values | go_skip | go_guarded | go_step | go_upon | (simp only [Int.not_lt, Int.not_le] at *; go_simp) | (go_ite <;> go_prune <;> (try go_simp)))
      rw [hfin.out]
      refine bodyPost_ret (v := capV ⟨t', b, tp, a, p, y⟩) ?_ rfl ⟨rfl, ?_⟩
      · simp [results, Tryd.results115, go_sem, capV, *]
      · repeat (first | (with_reducible exact HN.out) | (with_reducible refine Chg.setCell ?_ (.inl (by simp <;> omega)) _))
    cases l
    · clear hc
      go_enter Tryd.func115, Tryd.ntmps115
      repeat' (first | (with_reducible refine then_normal ?_) | (with_reducible refine then_ret ?_) | (with_reducible refine then_exit ?_) | (with_reducible refine inBlock_normal ?_) | (with_reducible refine inBlock_ret ?_) | (with_reducible refine inBlock_same ?_) | (with_reducible refine inBlock_other (by decide) ?_) | go_values | go_skip | go_guarded | go_step | go_upon | (simp only [Int.not_lt, Int.not_le] at *; go_simp) | (go_ite <;> go_prune <;> (try go_simp)))
      refine (HM.out _).mono ?_; rintro e w1 ⟨rfl, hn⟩
      have A1 : Kp _ := ⟨hn.heap (alloc3_0 w _ _ _) (fun x => x)⟩
      have K1 : Kp _ := ⟨hn.heap (alloc3_1 w _ _ _) (fun x => x)⟩
      have R1 : Kp _ := ⟨hn.heap (alloc3_2 w _ _ _) (fun x => x)⟩
      obtain ⟨⟨a0, a1, a2, a3, a4, a5⟩, f0, f1, f2, f3, f4, f5⟩ := blk6 A1.out
      obtain ⟨⟨k0, k1, k2, k3, k4, k5⟩, g0, g1, g2, g3, g4, g5⟩ := blk6 K1.out
      have HN1 : Kp (New w w1) := ⟨((((Chg.refl _ w).alloc _).alloc _).alloc _).new hn⟩
      clear hn
      repeat' (first | (with_reducible refine then_normal ?_) | (with_reducible refine then_ret ?_) | (with_reducible refine then_exit ?_) | (with_reducible refine inBlock_normal ?_) | (with_reducible refine inBlock_ret ?_) | (with_reducible refine inBlock_same ?_) | (with_reducible refine inBlock_other (by decide) ?_) | go_values | go_skip | go_guarded | go_step | go_upon | (simp only [Int.not_lt, Int.not_le] at *; go_simp) | (go_ite <;> go_prune <;> (try go_simp)))
      refine (HW.out _).mono ?_; rintro e w2 ⟨rfl, hn⟩
      have A2 : Kp _ := ⟨hn.heap A1.out (fun x => x)⟩
      have K2 : Kp _ := ⟨hn.heap K1.out (fun x => x)⟩
      have R2 : Kp _ := ⟨hn.heap R1.out (fun x => x)⟩
      obtain ⟨⟨a0, a1, a2, a3, a4, a5⟩, f0, f1, f2, f3, f4, f5⟩ := blk6 A2.out
      obtain ⟨⟨k0, k1, k2, k3, k4, k5⟩, g0, g1, g2, g3, g4, g5⟩ := blk6 K2.out
      have HN2 : Kp (New w w2) := ⟨HN1.out.new hn⟩
      clear hn
      repeat' (first | (with_reducible refine then_normal ?_) | (with_reducible refine then_ret ?_) | (with_reducible refine then_exit ?_) | (with_reducible refine inBlock_normal ?_) | (with_reducible refine inBlock_ret ?_) | (with_reducible refine inBlock_same ?_) | (with_reducible refine inBlock_other (by decide) ?_) | go_values | go_skip | go_guarded | go_step | go_upon | (simp only [Int.not_lt, Int.not_le] at *; go_simp) | (go_ite <;> go_prune <;> (try go_simp)))
      refine (kept_is t b tp a p y false ⟨t', b, tp, a, p, y⟩ (by rw [ht.out]) _).mono ?_; rintro e w9 ⟨rfl, hn⟩
      obtain ⟨⟨a0, a1, a2, a3, a4, a5⟩, f0, f1, f2, f3, f4, f5⟩ := blk6 (hn.heap R2.out (fun x => x))
      have HN : Kp (New w w9) := ⟨HN2.out.new hn⟩
      clear hn
      simp only [capV]
      repeat' (first | (with_reducible refine then_normal ?_) | (with_reducible refine then_ret ?_) | (with_reducible refine then_exit ?_) | (with_reducible refine inBlock_normal ?_) | (with_reducible refine inBlock_ret ?_) | (with_reducible refine inBlock_same ?_) | (with_reducible refine inBlock_other (by decide) ?_) | go_values | go_skip | go_guarded | go_step | go_upon | (simp only [Int.not_lt, Int.not_le] at *; go_simp) | (go_ite <;> go_prune <;> (try go_simp)))
      rw [hfin.out]
      refine bodyPost_ret (v := capV ⟨t', b, tp, a, p, y⟩) ?_ rfl ⟨rfl, ?_⟩
      · simp [results, Tryd.results115, go_sem, capV, *]
      · repeat (first | (with_reducible exact HN.out) | (with_reducible refine Chg.setCell ?_ (.inl (by simp <;> omega)) _))
    cases hc
  · obtain ⟨t', ht⟩ : ∃ t', Kp (t' = (t && true)) := ⟨_, ⟨rfl⟩⟩
    have hfin : Kp _ := ⟨hgood.out hc⟩
    rw [← ht.out] at hfin
    clear hbad hgood
    simp only [Bool.and_eq_true] at hc
    obtain ⟨rfl, ⟨rfl, rfl⟩, rfl, rfl⟩ := hc
    have hka : ka % 65536 = ka := by
      simp only [decide_eq_true_eq] at hg hl; omega
    go_enter Tryd.func115, Tryd.ntmps115
    repeat' (first | (with_reducible refine then_normal ?_) | (with_reducible refine then_ret ?_) | (with_reducible refine then_exit ?_) | (with_reducible refine inBlock_normal ?_) | (with_reducible refine inBlock_ret ?_) | (with_reducible refine inBlock_same ?_) | (with_reducible refine inBlock_other (by decide) ?_) | go_values | go_skip | go_guarded | go_step | go_upon | (simp only [Int.not_lt, Int.not_le] at *; go_simp) | (go_ite <;> go_prune <;> (try go_simp)))
    refine (HM.out _).mono ?_; rintro e w1 ⟨rfl, hn⟩
    have A1 : Kp _ := ⟨hn.heap (alloc3_0 w _ _ _) (fun x => x)⟩
    have K1 : Kp _ := ⟨hn.heap (alloc3_1 w _ _ _) (fun x => x)⟩
    have R1 : Kp _ := ⟨hn.heap (alloc3_2 w _ _ _) (fun x => x)⟩
    obtain ⟨⟨a0, a1, a2, a3, a4, a5⟩, f0, f1, f2, f3, f4, f5⟩ := blk6 A1.out
    obtain ⟨⟨k0, k1, k2, k3, k4, k5⟩, g0, g1, g2, g3, g4, g5⟩ := blk6 K1.out
    have HN1 : Kp (New w w1) := ⟨((((Chg.refl _ w).alloc _).alloc _).alloc _).new hn⟩
    clear hn
    repeat' (first | (with_reducible refine then_normal ?_) | (with_reducible refine then_ret ?_) | (with_reducible refine then_exit ?_) | (with_reducible refine inBlock_normal ?_) | (with_reducible refine inBlock_ret ?_) | (with_reducible refine inBlock_same ?_) | (with_reducible refine inBlock_other (by decide) ?_) | go_values | go_skip | go_guarded | go_step | go_upon | (simp only [Int.not_lt, Int.not_le] at *; go_simp) | (go_ite <;> go_prune <;> (try go_simp)))
    refine (HW.out _).mono ?_; rintro e w2 ⟨rfl, hn⟩
    have A2 : Kp _ := ⟨hn.heap A1.out (fun x => x)⟩
    have K2 : Kp _ := ⟨hn.heap K1.out (fun x => x)⟩
    have R2 : Kp _ := ⟨hn.heap R1.out (fun x => x)⟩
    obtain ⟨⟨a0, a1, a2, a3, a4, a5⟩, f0, f1, f2, f3, f4, f5⟩ := blk6 A2.out
    obtain ⟨⟨k0, k1, k2, k3, k4, k5⟩, g0, g1, g2, g3, g4, g5⟩ := blk6 K2.out
    have HN2 : Kp (New w w2) := ⟨HN1.out.new hn⟩
    clear hn
    repeat' (first | (with_reducible refine then_normal ?_) | (with_reducible refine then_ret ?_) | (with_reducible refine then_exit ?_) | (with_reducible refine inBlock_normal ?_) | (with_reducible refine inBlock_ret ?_) | (with_reducible refine inBlock_same ?_) | (with_reducible refine inBlock_other (by decide) ?_) | go_values | go_skip | go_guarded | go_step | go_upon | (simp only [Int.not_lt, Int.not_le] at *; go_simp) | (go_ite <;> go_prune <;> (try go_simp)))
    refine (kept_is t b tp a p ka true ⟨t', b, tp, a, p, ka⟩ (by rw [ht.out]) _).mono ?_; rintro e w9 ⟨rfl, hn⟩
    obtain ⟨⟨a0, a1, a2, a3, a4, a5⟩, f0, f1, f2, f3, f4, f5⟩ := blk6 (hn.heap (keep_set R2.out (by simp)) (fun x => x))
    have HN : Kp (New w w9) := ⟨(HN2.out.setCell (.inl (by simp)) _).new hn⟩
    clear hn
    simp only [capV]
    repeat' (first | (with_reducible refine then_normal ?_) | (with_reducible refine then_ret ?_) | (with_reducible refine then_exit ?_) | (with_reducible refine inBlock_normal ?_) | (with_reducible refine inBlock_ret ?_) | (with_reducible refine inBlock_same ?_) | (with_reducible refine inBlock_other (by decide) ?_) | go_values | go_skip | go_guarded | go_step | go_upon | (simp only [Int.not_lt, Int.not_le] at *; go_simp) | (go_ite <;> go_prune <;> (try go_simp)))
    rw [hfin.out]
    refine bodyPost_ret (v := capV ⟨t', b, tp, a, p, ka⟩) ?_ rfl ⟨rfl, ?_⟩
    · simp [results, Tryd.results115, go_sem, capV, *]
    · repeat (first | (with_reducible exact HN.out) | (with_reducible refine Chg.setCell ?_ (.inl (by simp <;> omega)) _))
end Go.Proofs.YtoecmleficekbaaDoor
