/- Contracts of package cap: Unseal (written by gen_unseal.py). -/
import Derived.Test.YtoecmleficekbaaDoorCap2
namespace Go.Proofs.YtoecmleficekbaaDoor
open Go.RowKit
set_option linter.unusedSimpArgs false
set_option linter.unusedVariables false

set_option maxRecDepth 100000 in
set_option maxHeartbeats 4000000 in
theorem unseal_any (t : Bool) (b tp a p y : Int) (kt : Bool) (kb ktp ka kp ky : Int) (ha : 0 ≤ ka) (ha1 : ka < 4294967296) (htp : 0 ≤ ktp) (htp1 : ktp < 4294967296) (hy : 0 ≤ y) (hy1 : y < 65536) (w : World) : Calls Tryd.prog 116 #[.agg #[.bool t, .int .u32 b, .int .u32 tp, .int .u32 a, .int .u16 p, .int .u16 y], .agg #[.bool kt, .int .u32 kb, .int .u32 ktp, .int .u32 ka, .int .u16 kp, .int .u16 ky]] w fun e w' => e = .returned (capV (Cp.openBy ⟨t, b, tp, a, p, y⟩ ⟨kt, kb, ktp, ka, kp, ky⟩)) ∧ New w w' := by
  have HW : Kp _ := ⟨fun W => may_within kt kb ktp ka kp ky 64 ha ha1 htp htp1 W⟩
  obtain ⟨h, hh⟩ : ∃ h, Kp (((Cp.has ⟨kt, kb, ktp, ka, kp, ky⟩ ka 1 && bits .and .u16 kp 64 == 64) && ky == 0) = h) := ⟨_, ⟨rfl⟩⟩
  obtain ⟨g, hg⟩ : ∃ g, decide (2 ≤ y) = g := ⟨_, rfl⟩
  obtain ⟨l, hl⟩ : ∃ l, (ka == y) = l := ⟨_, rfl⟩
  have hy2 : y % 4294967296 = y := by omega
  have hok : Kp (Cp.openOk ⟨t, b, tp, a, p, y⟩ ⟨kt, kb, ktp, ka, kp, ky⟩ = (g && ((kt && h) && l))) := ⟨by rw [← hh.out, ← hg, ← hl]; rfl⟩
  rw [hh.out] at HW
  have hbad : Kp ((g && ((kt && h) && l)) = false → Cp.openBy ⟨t, b, tp, a, p, y⟩ ⟨kt, kb, ktp, ka, kp, ky⟩ = ⟨t && false, b, tp, a, p, y⟩) := ⟨fun hf => by unfold Cp.openBy; rw [hok.out, hf]; rfl⟩
  have hgood : Kp ((g && ((kt && h) && l)) = true → Cp.openBy ⟨t, b, tp, a, p, y⟩ ⟨kt, kb, ktp, ka, kp, ky⟩ = ⟨t && true, b, tp, a, p, 0⟩) := ⟨fun hf => by unfold Cp.openBy; rw [hok.out, hf, Bool.and_true]; rfl⟩
  clear hok hh
  rcases hc : (g && ((kt && h) && l)) with _ | _
  · obtain ⟨t', ht⟩ : ∃ t', Kp (t' = (t && false)) := ⟨_, ⟨rfl⟩⟩
    have hfin : Kp _ := ⟨hbad.out hc⟩
    rw [← ht.out] at hfin
    clear hbad hgood
    cases g
    · clear hc
      go_enter Tryd.func116, Tryd.ntmps116
      repeat' (first | (with_reducible refine then_normal ?_) | (with_reducible refine then_ret ?_) | (with_reducible refine then_exit ?_) | (with_reducible refine inBlock_normal ?_) | (with_reducible refine inBlock_ret ?_) | (with_reducible refine inBlock_same ?_) | (with_reducible refine inBlock_other (by decide) ?_) | go_values | go_skip | go_guarded | go_step | go_upon | (simp only [Int.not_lt, Int.not_le] at *; go_simp) | (go_ite <;> go_prune <;> (try go_simp)))
      refine (kept_is t b tp a p y false ⟨t', b, tp, a, p, y⟩ (by rw [ht.out]) _).mono ?_; rintro e w9 ⟨rfl, hn⟩
      obtain ⟨⟨a0, a1, a2, a3, a4, a5⟩, f0, f1, f2, f3, f4, f5⟩ := blk6 (hn.heap (alloc3_2 w _ _ _) (fun x => x))
      have HN : Kp (New w w9) := ⟨((((Chg.refl _ w).alloc _).alloc _).alloc _).new hn⟩
      clear hn
      simp only [capV]
      repeat' (first | (with_reducible refine then_normal ?_) | (with_reducible refine then_ret ?_) | (with_reducible refine then_exit ?_) | (with_reducible refine inBlock_normal ?_) | (with_reducible refine inBlock_ret ?_) | (with_reducible refine inBlock_same ?_) | (with_reducible refine inBlock_other (by decide) ?_) | go_values | go_skip | go_guarded | go_step | go_upon | (simp only [Int.not_lt, Int.not_le] at *; go_simp) | (go_ite <;> go_prune <;> (try go_simp)))
      rw [hfin.out]
      refine bodyPost_ret (v := capV ⟨t', b, tp, a, p, y⟩) ?_ rfl ⟨rfl, ?_⟩
      · simp [results, Tryd.results116, go_sem, capV, *]
      · repeat (first | (with_reducible exact HN.out) | (with_reducible refine Chg.setCell ?_ (.inl (by simp <;> omega)) _))
    cases kt
    · clear hc
      go_enter Tryd.func116, Tryd.ntmps116
      repeat' (first | (with_reducible refine then_normal ?_) | (with_reducible refine then_ret ?_) | (with_reducible refine then_exit ?_) | (with_reducible refine inBlock_normal ?_) | (with_reducible refine inBlock_ret ?_) | (with_reducible refine inBlock_same ?_) | (with_reducible refine inBlock_other (by decide) ?_) | go_values | go_skip | go_guarded | go_step | go_upon | (simp only [Int.not_lt, Int.not_le] at *; go_simp) | (go_ite <;> go_prune <;> (try go_simp)))
      refine (kept_is t b tp a p y false ⟨t', b, tp, a, p, y⟩ (by rw [ht.out]) _).mono ?_; rintro e w9 ⟨rfl, hn⟩
      obtain ⟨⟨a0, a1, a2, a3, a4, a5⟩, f0, f1, f2, f3, f4, f5⟩ := blk6 (hn.heap (alloc3_2 w _ _ _) (fun x => x))
      have HN : Kp (New w w9) := ⟨((((Chg.refl _ w).alloc _).alloc _).alloc _).new hn⟩
      clear hn
      simp only [capV]
      repeat' (first | (with_reducible refine then_normal ?_) | (with_reducible refine then_ret ?_) | (with_reducible refine then_exit ?_) | (with_reducible refine inBlock_normal ?_) | (with_reducible refine inBlock_ret ?_) | (with_reducible refine inBlock_same ?_) | (with_reducible refine inBlock_other (by decide) ?_) | go_values | go_skip | go_guarded | go_step | go_upon | (simp only [Int.not_lt, Int.not_le] at *; go_simp) | (go_ite <;> go_prune <;> (try go_simp)))
      rw [hfin.out]
      refine bodyPost_ret (v := capV ⟨t', b, tp, a, p, y⟩) ?_ rfl ⟨rfl, ?_⟩
      · simp [results, Tryd.results116, go_sem, capV, *]
      · repeat (first | (with_reducible exact HN.out) | (with_reducible refine Chg.setCell ?_ (.inl (by simp <;> omega)) _))
    cases h
    · clear hc
      go_enter Tryd.func116, Tryd.ntmps116
      repeat' (first | (with_reducible refine then_normal ?_) | (with_reducible refine then_ret ?_) | (with_reducible refine then_exit ?_) | (with_reducible refine inBlock_normal ?_) | (with_reducible refine inBlock_ret ?_) | (with_reducible refine inBlock_same ?_) | (with_reducible refine inBlock_other (by decide) ?_) | go_values | go_skip | go_guarded | go_step | go_upon | (simp only [Int.not_lt, Int.not_le] at *; go_simp) | (go_ite <;> go_prune <;> (try go_simp)))
      refine (HW.out _).mono ?_; rintro e w1 ⟨rfl, hn⟩
      have A1 : Kp _ := ⟨hn.heap (alloc3_0 w _ _ _) (fun x => x)⟩
      have K1 : Kp _ := ⟨hn.heap (alloc3_1 w _ _ _) (fun x => x)⟩
      have R1 : Kp _ := ⟨hn.heap (alloc3_2 w _ _ _) (fun x => x)⟩
      obtain ⟨⟨a0, a1, a2, a3, a4, a5⟩, f0, f1, f2, f3, f4, f5⟩ := blk6 A1.out
      obtain ⟨⟨k0, k1, k2, k3, k4, k5⟩, g0, g1, g2, g3, g4, g5⟩ := blk6 K1.out
      have HN1 : Kp (New w w1) := ⟨((((Chg.refl _ w).alloc _).alloc _).alloc _).new hn⟩
      clear hn
      repeat' (first | (with_reducible refine then_normal ?_) | (with_reducible refine then_ret ?_) | (with_reducible refine then_exit ?_) | (with_reducible refine inBlock_normal ?_) | (with_reducible refine inBlock_ret ?_) | (with_reducible refine inBlock_same ?_) | (with_reducible refine inBlock_other (by decide) ?_) | go_values | go_skip | go_guarded | go_step | go_upon | (simp only [Int.not_lt, Int.not_le] at *; go_simp) | (go_ite <;> go_prune <;> (try go_simp)))
      refine (kept_is t b tp a p y false ⟨t', b, tp, a, p, y⟩ (by rw [ht.out]) _).mono ?_; rintro e w9 ⟨rfl, hn⟩
      obtain ⟨⟨a0, a1, a2, a3, a4, a5⟩, f0, f1, f2, f3, f4, f5⟩ := blk6 (hn.heap R1.out (fun x => x))
      have HN : Kp (New w w9) := ⟨HN1.out.new hn⟩
      clear hn
      simp only [capV]
      repeat' (first | (with_reducible refine then_normal ?_) | (with_reducible refine then_ret ?_) | (with_reducible refine then_exit ?_) | (with_reducible refine inBlock_normal ?_) | (with_reducible refine inBlock_ret ?_) | (with_reducible refine inBlock_same ?_) | (with_reducible refine inBlock_other (by decide) ?_) | go_values | go_skip | go_guarded | go_step | go_upon | (simp only [Int.not_lt, Int.not_le] at *; go_simp) | (go_ite <;> go_prune <;> (try go_simp)))
      rw [hfin.out]
      refine bodyPost_ret (v := capV ⟨t', b, tp, a, p, y⟩) ?_ rfl ⟨rfl, ?_⟩
      · simp [results, Tryd.results116, go_sem, capV, *]
      · repeat (first | (with_reducible exact HN.out) | (with_reducible refine Chg.setCell ?_ (.inl (by simp <;> omega)) _))
    cases l
    · clear hc
      go_enter Tryd.func116, Tryd.ntmps116
      repeat' (first | (with_reducible refine then_normal ?_) | (with_reducible refine then_ret ?_) | (with_reducible refine then_exit ?_) | (with_reducible refine inBlock_normal ?_) | (with_reducible refine inBlock_ret ?_) | (with_reducible refine inBlock_same ?_) | (with_reducible refine inBlock_other (by decide) ?_) | go_values | go_skip | go_guarded | go_step | go_upon | (simp only [Int.not_lt, Int.not_le] at *; go_simp) | (go_ite <;> go_prune <;> (try go_simp)))
      refine (HW.out _).mono ?_; rintro e w1 ⟨rfl, hn⟩
      have A1 : Kp _ := ⟨hn.heap (alloc3_0 w _ _ _) (fun x => x)⟩
      have K1 : Kp _ := ⟨hn.heap (alloc3_1 w _ _ _) (fun x => x)⟩
      have R1 : Kp _ := ⟨hn.heap (alloc3_2 w _ _ _) (fun x => x)⟩
      obtain ⟨⟨a0, a1, a2, a3, a4, a5⟩, f0, f1, f2, f3, f4, f5⟩ := blk6 A1.out
      obtain ⟨⟨k0, k1, k2, k3, k4, k5⟩, g0, g1, g2, g3, g4, g5⟩ := blk6 K1.out
      have HN1 : Kp (New w w1) := ⟨((((Chg.refl _ w).alloc _).alloc _).alloc _).new hn⟩
      clear hn
      repeat' (first | (with_reducible refine then_normal ?_) | (with_reducible refine then_ret ?_) | (with_reducible refine then_exit ?_) | (with_reducible refine inBlock_normal ?_) | (with_reducible refine inBlock_ret ?_) | (with_reducible refine inBlock_same ?_) | (with_reducible refine inBlock_other (by decide) ?_) | go_values | go_skip | go_guarded | go_step | go_upon | (simp only [Int.not_lt, Int.not_le] at *; go_simp) | (go_ite <;> go_prune <;> (try go_simp)))
      refine (kept_is t b tp a p y false ⟨t', b, tp, a, p, y⟩ (by rw [ht.out]) _).mono ?_; rintro e w9 ⟨rfl, hn⟩
      obtain ⟨⟨a0, a1, a2, a3, a4, a5⟩, f0, f1, f2, f3, f4, f5⟩ := blk6 (hn.heap R1.out (fun x => x))
      have HN : Kp (New w w9) := ⟨HN1.out.new hn⟩
      clear hn
      simp only [capV]
      repeat' (first | (with_reducible refine then_normal ?_) | (with_reducible refine then_ret ?_) | (with_reducible refine then_exit ?_) | (with_reducible refine inBlock_normal ?_) | (with_reducible refine inBlock_ret ?_) | (with_reducible refine inBlock_same ?_) | (with_reducible refine inBlock_other (by decide) ?_) | go_values | go_skip | go_guarded | go_step | go_upon | (simp only [Int.not_lt, Int.not_le] at *; go_simp) | (go_ite <;> go_prune <;> (try go_simp)))
      rw [hfin.out]
      refine bodyPost_ret (v := capV ⟨t', b, tp, a, p, y⟩) ?_ rfl ⟨rfl, ?_⟩
      · simp [results, Tryd.results116, go_sem, capV, *]
      · repeat (first | (with_reducible exact HN.out) | (with_reducible refine Chg.setCell ?_ (.inl (by simp <;> omega)) _))
    cases hc
  · obtain ⟨t', ht⟩ : ∃ t', Kp (t' = (t && true)) := ⟨_, ⟨rfl⟩⟩
    have hfin : Kp _ := ⟨hgood.out hc⟩
    rw [← ht.out] at hfin
    clear hbad hgood
    simp only [Bool.and_eq_true] at hc
    obtain ⟨rfl, ⟨rfl, rfl⟩, rfl⟩ := hc
    go_enter Tryd.func116, Tryd.ntmps116
    repeat' (first | (with_reducible refine then_normal ?_) | (with_reducible refine then_ret ?_) | (with_reducible refine then_exit ?_) | (with_reducible refine inBlock_normal ?_) | (with_reducible refine inBlock_ret ?_) | (with_reducible refine inBlock_same ?_) | (with_reducible refine inBlock_other (by decide) ?_) | go_values | go_skip | go_guarded | go_step | go_upon | (simp only [Int.not_lt, Int.not_le] at *; go_simp) | (go_ite <;> go_prune <;> (try go_simp)))
    refine (HW.out _).mono ?_; rintro e w1 ⟨rfl, hn⟩
    have A1 : Kp _ := ⟨hn.heap (alloc3_0 w _ _ _) (fun x => x)⟩
    have K1 : Kp _ := ⟨hn.heap (alloc3_1 w _ _ _) (fun x => x)⟩
    have R1 : Kp _ := ⟨hn.heap (alloc3_2 w _ _ _) (fun x => x)⟩
    obtain ⟨⟨a0, a1, a2, a3, a4, a5⟩, f0, f1, f2, f3, f4, f5⟩ := blk6 A1.out
    obtain ⟨⟨k0, k1, k2, k3, k4, k5⟩, g0, g1, g2, g3, g4, g5⟩ := blk6 K1.out
    have HN1 : Kp (New w w1) := ⟨((((Chg.refl _ w).alloc _).alloc _).alloc _).new hn⟩
    clear hn
    repeat' (first | (with_reducible refine then_normal ?_) | (with_reducible refine then_ret ?_) | (with_reducible refine then_exit ?_) | (with_reducible refine inBlock_normal ?_) | (with_reducible refine inBlock_ret ?_) | (with_reducible refine inBlock_same ?_) | (with_reducible refine inBlock_other (by decide) ?_) | go_values | go_skip | go_guarded | go_step | go_upon | (simp only [Int.not_lt, Int.not_le] at *; go_simp) | (go_ite <;> go_prune <;> (try go_simp)))
    refine (kept_is t b tp a p 0 true ⟨t', b, tp, a, p, 0⟩ (by rw [ht.out]) _).mono ?_; rintro e w9 ⟨rfl, hn⟩
    obtain ⟨⟨a0, a1, a2, a3, a4, a5⟩, f0, f1, f2, f3, f4, f5⟩ := blk6 (hn.heap (keep_set R1.out (by simp)) (fun x => x))
    have HN : Kp (New w w9) := ⟨(HN1.out.setCell (.inl (by simp)) _).new hn⟩
    clear hn
    simp only [capV]
    repeat' (first | (with_reducible refine then_normal ?_) | (with_reducible refine then_ret ?_) | (with_reducible refine then_exit ?_) | (with_reducible refine inBlock_normal ?_) | (with_reducible refine inBlock_ret ?_) | (with_reducible refine inBlock_same ?_) | (with_reducible refine inBlock_other (by decide) ?_) | go_values | go_skip | go_guarded | go_step | go_upon | (simp only [Int.not_lt, Int.not_le] at *; go_simp) | (go_ite <;> go_prune <;> (try go_simp)))
    rw [hfin.out]
    refine bodyPost_ret (v := capV ⟨t', b, tp, a, p, 0⟩) ?_ rfl ⟨rfl, ?_⟩
    · simp [results, Tryd.results116, go_sem, capV, *]
    · repeat (first | (with_reducible exact HN.out) | (with_reducible refine Chg.setCell ?_ (.inl (by simp <;> omega)) _))
end Go.Proofs.YtoecmleficekbaaDoor
