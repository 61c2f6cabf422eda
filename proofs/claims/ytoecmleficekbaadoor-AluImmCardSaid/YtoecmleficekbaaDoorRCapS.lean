/- The reference's capabilities (written by gen_rcap.py): refSeal_any. -/
import Derived.Test.YtoecmleficekbaaDoorRCapK
namespace Go.Proofs.YtoecmleficekbaaDoor
open Go.RowKit
set_option linter.unusedSimpArgs false
set_option linter.unusedVariables false

set_option maxRecDepth 100000 in
set_option maxHeartbeats 1000000 in
theorem refSeal_any (t : Bool) (b tp a p y : Int) (kt : Bool) (kb ktp ka kp ky : Int) (ha : 0 ≤ ka) (ha1 : ka < 4294967296) (htp : 0 ≤ ktp) (htp1 : ktp < 4294967296) (w : World) : Calls Tryd.prog 123 #[.agg #[.bool t, .int .u32 b, .int .u32 tp, .int .u32 a, .int .u16 p, .int .u16 y], .agg #[.bool kt, .int .u32 kb, .int .u32 ktp, .int .u32 ka, .int .u16 kp, .int .u16 ky]] w fun e w' => e = .returned (capV (Cp.shutBy ⟨t, b, tp, a, p, y⟩ ⟨kt, kb, ktp, ka, kp, ky⟩)) ∧ New w w' := by
  have HK : Kp _ := ⟨fun W => refKey_any kt kb ktp ka kp ky 32 ha ha1 htp htp1 W⟩
  obtain ⟨k, hk⟩ : ∃ k, Kp (Cp.key ⟨kt, kb, ktp, ka, kp, ky⟩ 32 = k) := ⟨_, ⟨rfl⟩⟩
  rw [hk.out] at HK
  obtain ⟨o, ho⟩ : ∃ o, (y == 0) = o := ⟨_, rfl⟩
  obtain ⟨g, hg⟩ : ∃ g, decide (ka < 2) = g := ⟨_, rfl⟩
  obtain ⟨l, hl⟩ : ∃ l, decide (1024 ≤ ka) = l := ⟨_, rfl⟩
  have hg' : Kp (decide (2 ≤ ka) = !g) := ⟨by rw [← hg]; by_cases h : 2 ≤ ka <;> simp [h] <;> omega⟩
  have hl' : Kp (decide (ka < 1024) = !l) := ⟨by rw [← hl]; by_cases h : ka < 1024 <;> simp [h] <;> omega⟩
  have hok : Kp (Cp.shutOk ⟨t, b, tp, a, p, y⟩ ⟨kt, kb, ktp, ka, kp, ky⟩ = (o && (k && (!g && !l)))) := ⟨by rw [← ho, ← hk.out, ← hg'.out, ← hl'.out]; rfl⟩
  have hbad : Kp ((o && (k && (!g && !l))) = false → Cp.shutBy ⟨t, b, tp, a, p, y⟩ ⟨kt, kb, ktp, ka, kp, ky⟩ = ⟨t && false, b, tp, a, p, y⟩) := ⟨fun hf => by unfold Cp.shutBy; rw [hok.out, hf]; rfl⟩
  have hgood : Kp ((o && (k && (!g && !l))) = true → Cp.shutBy ⟨t, b, tp, a, p, y⟩ ⟨kt, kb, ktp, ka, kp, ky⟩ = ⟨t, b, tp, a, p, ka⟩) := ⟨fun hf => by unfold Cp.shutBy; rw [hok.out, hf]; rfl⟩
  clear hok hk ha ha1 htp htp1
  rcases hc : (o && (k && (!g && !l))) with _ | _
  · obtain ⟨t', ht⟩ : ∃ t', Kp (t' = (t && false)) := ⟨_, ⟨rfl⟩⟩
    have hfin : Kp _ := ⟨hbad.out hc⟩
    rw [← ht.out] at hfin
    clear hbad hgood hg' hl'
    cases o
    · clear hc
      have hy0 : ¬ y = 0 := by simpa using ho
      go_enter Tryd.func123, Tryd.ntmps123
      repeat' (first | (with_reducible refine then_normal ?_) | (with_reducible refine then_ret ?_) | (with_reducible refine then_exit ?_) | (with_reducible refine inBlock_normal ?_) | (with_reducible refine inBlock_ret ?_) | (with_reducible refine inBlock_same ?_) | (with_reducible refine inBlock_other (by decide) ?_) | fail | go_values | go_skip | go_guarded | go_step | go_upon | (simp only [Int.not_lt, Int.not_le] at *; go_simp) | (go_ite <;> go_prune <;> (try go_simp)))
      refine (asks_is t b tp a p y false ⟨t', b, tp, a, p, y⟩ (by rw [ht.out]) _).mono ?_; rintro e w9 ⟨rfl, hn⟩
      obtain ⟨⟨c0, c1, c2, c3, c4, c5⟩, f0, f1, f2, f3, f4, f5⟩ := blk6 (hn.heap (alloc3_2 w _ _ _ ) (fun x => x))
      have HN : Kp (New w w9) := ⟨((((Chg.refl _ w).alloc _).alloc _).alloc _).new hn⟩
      clear hn
      simp only [capV]
      repeat' (first | (with_reducible refine then_normal ?_) | (with_reducible refine then_ret ?_) | (with_reducible refine then_exit ?_) | (with_reducible refine inBlock_normal ?_) | (with_reducible refine inBlock_ret ?_) | (with_reducible refine inBlock_same ?_) | (with_reducible refine inBlock_other (by decide) ?_) | go_values | go_skip | go_guarded | go_step | go_upon | (simp only [Int.not_lt, Int.not_le] at *; go_simp) | (go_ite <;> go_prune <;> (try go_simp)))
      rw [hfin.out]
      refine bodyPost_ret (v := capV ⟨t', b, tp, a, p, y⟩) ?_ rfl ⟨rfl, ?_⟩
      · simp [results, Tryd.results123, go_sem, capV, *]
      · repeat (first | (with_reducible exact HN.out) | (with_reducible refine Chg.setCell ?_ (.inl (by simp <;> omega)) _))
    obtain rfl : y = 0 := by simpa using ho
    cases k
    · clear hc
      go_enter Tryd.func123, Tryd.ntmps123
      repeat' (first | (with_reducible refine then_normal ?_) | (with_reducible refine then_ret ?_) | (with_reducible refine then_exit ?_) | (with_reducible refine inBlock_normal ?_) | (with_reducible refine inBlock_ret ?_) | (with_reducible refine inBlock_same ?_) | (with_reducible refine inBlock_other (by decide) ?_) | fail | go_values | go_skip | go_guarded | go_step | go_upon | (simp only [Int.not_lt, Int.not_le] at *; go_simp) | (go_ite <;> go_prune <;> (try go_simp)))
      refine (HK.out _).mono ?_; rintro e w1 ⟨rfl, hn⟩
      have A1 : Kp _ := ⟨hn.heap (alloc3_0 w _ _ _) (fun x => x)⟩
      have K1 : Kp _ := ⟨hn.heap (alloc3_1 w _ _ _) (fun x => x)⟩
      have R1 : Kp _ := ⟨hn.heap (alloc3_2 w _ _ _) (fun x => x)⟩
      obtain ⟨⟨a0, a1, a2, a3, a4, a5⟩, fa0, fa1, fa2, fa3, fa4, fa5⟩ := blk6 A1.out
      obtain ⟨⟨k0, k1, k2, k3, k4, k5⟩, fk0, fk1, fk2, fk3, fk4, fk5⟩ := blk6 K1.out
      obtain ⟨⟨r0, r1, r2, r3, r4, r5⟩, fr0, fr1, fr2, fr3, fr4, fr5⟩ := blk6 R1.out
      have HN1 : Kp (New w w1) := ⟨((((Chg.refl _ w).alloc _).alloc _).alloc _).new hn⟩
      clear hn
      repeat' (first | (with_reducible refine then_normal ?_) | (with_reducible refine then_ret ?_) | (with_reducible refine then_exit ?_) | (with_reducible refine inBlock_normal ?_) | (with_reducible refine inBlock_ret ?_) | (with_reducible refine inBlock_same ?_) | (with_reducible refine inBlock_other (by decide) ?_) | fail | go_values | go_skip | go_guarded | go_step | go_upon | (simp only [Int.not_lt, Int.not_le] at *; go_simp) | (go_ite <;> go_prune <;> (try go_simp)))
      refine (asks_is t b tp a p 0 false ⟨t', b, tp, a, p, 0⟩ (by rw [ht.out]) _).mono ?_; rintro e w9 ⟨rfl, hn⟩
      obtain ⟨⟨c0, c1, c2, c3, c4, c5⟩, f0, f1, f2, f3, f4, f5⟩ := blk6 (hn.heap R1.out (fun x => x))
      have HN : Kp (New w w9) := ⟨HN1.out.new hn⟩
      clear hn
      simp only [capV]
      repeat' (first | (with_reducible refine then_normal ?_) | (with_reducible refine then_ret ?_) | (with_reducible refine then_exit ?_) | (with_reducible refine inBlock_normal ?_) | (with_reducible refine inBlock_ret ?_) | (with_reducible refine inBlock_same ?_) | (with_reducible refine inBlock_other (by decide) ?_) | go_values | go_skip | go_guarded | go_step | go_upon | (simp only [Int.not_lt, Int.not_le] at *; go_simp) | (go_ite <;> go_prune <;> (try go_simp)))
      rw [hfin.out]
      refine bodyPost_ret (v := capV ⟨t', b, tp, a, p, 0⟩) ?_ rfl ⟨rfl, ?_⟩
      · simp [results, Tryd.results123, go_sem, capV, *]
      · repeat (first | (with_reducible exact HN.out) | (with_reducible refine Chg.setCell ?_ (.inl (by simp <;> omega)) _))
    cases g
    rotate_left
    · clear hc
      go_enter Tryd.func123, Tryd.ntmps123
      repeat' (first | (with_reducible refine then_normal ?_) | (with_reducible refine then_ret ?_) | (with_reducible refine then_exit ?_) | (with_reducible refine inBlock_normal ?_) | (with_reducible refine inBlock_ret ?_) | (with_reducible refine inBlock_same ?_) | (with_reducible refine inBlock_other (by decide) ?_) | fail | go_values | go_skip | go_guarded | go_step | go_upon | (simp only [Int.not_lt, Int.not_le] at *; go_simp) | (go_ite <;> go_prune <;> (try go_simp)))
      refine (HK.out _).mono ?_; rintro e w1 ⟨rfl, hn⟩
      have A1 : Kp _ := ⟨hn.heap (alloc3_0 w _ _ _) (fun x => x)⟩
      have K1 : Kp _ := ⟨hn.heap (alloc3_1 w _ _ _) (fun x => x)⟩
      have R1 : Kp _ := ⟨hn.heap (alloc3_2 w _ _ _) (fun x => x)⟩
      obtain ⟨⟨a0, a1, a2, a3, a4, a5⟩, fa0, fa1, fa2, fa3, fa4, fa5⟩ := blk6 A1.out
      obtain ⟨⟨k0, k1, k2, k3, k4, k5⟩, fk0, fk1, fk2, fk3, fk4, fk5⟩ := blk6 K1.out
      obtain ⟨⟨r0, r1, r2, r3, r4, r5⟩, fr0, fr1, fr2, fr3, fr4, fr5⟩ := blk6 R1.out
      have HN1 : Kp (New w w1) := ⟨((((Chg.refl _ w).alloc _).alloc _).alloc _).new hn⟩
      clear hn
      repeat' (first | (with_reducible refine then_normal ?_) | (with_reducible refine then_ret ?_) | (with_reducible refine then_exit ?_) | (with_reducible refine inBlock_normal ?_) | (with_reducible refine inBlock_ret ?_) | (with_reducible refine inBlock_same ?_) | (with_reducible refine inBlock_other (by decide) ?_) | fail | go_values | go_skip | go_guarded | go_step | go_upon | (simp only [Int.not_lt, Int.not_le] at *; go_simp) | (go_ite <;> go_prune <;> (try go_simp)))
      refine (asks_is t b tp a p 0 false ⟨t', b, tp, a, p, 0⟩ (by rw [ht.out]) _).mono ?_; rintro e w9 ⟨rfl, hn⟩
      obtain ⟨⟨c0, c1, c2, c3, c4, c5⟩, f0, f1, f2, f3, f4, f5⟩ := blk6 (hn.heap R1.out (fun x => x))
      have HN : Kp (New w w9) := ⟨HN1.out.new hn⟩
      clear hn
      simp only [capV]
      repeat' (first | (with_reducible refine then_normal ?_) | (with_reducible refine then_ret ?_) | (with_reducible refine then_exit ?_) | (with_reducible refine inBlock_normal ?_) | (with_reducible refine inBlock_ret ?_) | (with_reducible refine inBlock_same ?_) | (with_reducible refine inBlock_other (by decide) ?_) | go_values | go_skip | go_guarded | go_step | go_upon | (simp only [Int.not_lt, Int.not_le] at *; go_simp) | (go_ite <;> go_prune <;> (try go_simp)))
      rw [hfin.out]
      refine bodyPost_ret (v := capV ⟨t', b, tp, a, p, 0⟩) ?_ rfl ⟨rfl, ?_⟩
      · simp [results, Tryd.results123, go_sem, capV, *]
      · repeat (first | (with_reducible exact HN.out) | (with_reducible refine Chg.setCell ?_ (.inl (by simp <;> omega)) _))
    cases l
    rotate_left
    · clear hc
      go_enter Tryd.func123, Tryd.ntmps123
      repeat' (first | (with_reducible refine then_normal ?_) | (with_reducible refine then_ret ?_) | (with_reducible refine then_exit ?_) | (with_reducible refine inBlock_normal ?_) | (with_reducible refine inBlock_ret ?_) | (with_reducible refine inBlock_same ?_) | (with_reducible refine inBlock_other (by decide) ?_) | fail | go_values | go_skip | go_guarded | go_step | go_upon | (simp only [Int.not_lt, Int.not_le] at *; go_simp) | (go_ite <;> go_prune <;> (try go_simp)))
      refine (HK.out _).mono ?_; rintro e w1 ⟨rfl, hn⟩
      have A1 : Kp _ := ⟨hn.heap (alloc3_0 w _ _ _) (fun x => x)⟩
      have K1 : Kp _ := ⟨hn.heap (alloc3_1 w _ _ _) (fun x => x)⟩
      have R1 : Kp _ := ⟨hn.heap (alloc3_2 w _ _ _) (fun x => x)⟩
      obtain ⟨⟨a0, a1, a2, a3, a4, a5⟩, fa0, fa1, fa2, fa3, fa4, fa5⟩ := blk6 A1.out
      obtain ⟨⟨k0, k1, k2, k3, k4, k5⟩, fk0, fk1, fk2, fk3, fk4, fk5⟩ := blk6 K1.out
      obtain ⟨⟨r0, r1, r2, r3, r4, r5⟩, fr0, fr1, fr2, fr3, fr4, fr5⟩ := blk6 R1.out
      have HN1 : Kp (New w w1) := ⟨((((Chg.refl _ w).alloc _).alloc _).alloc _).new hn⟩
      clear hn
      repeat' (first | (with_reducible refine then_normal ?_) | (with_reducible refine then_ret ?_) | (with_reducible refine then_exit ?_) | (with_reducible refine inBlock_normal ?_) | (with_reducible refine inBlock_ret ?_) | (with_reducible refine inBlock_same ?_) | (with_reducible refine inBlock_other (by decide) ?_) | fail | go_values | go_skip | go_guarded | go_step | go_upon | (simp only [Int.not_lt, Int.not_le] at *; go_simp) | (go_ite <;> go_prune <;> (try go_simp)))
      refine (asks_is t b tp a p 0 false ⟨t', b, tp, a, p, 0⟩ (by rw [ht.out]) _).mono ?_; rintro e w9 ⟨rfl, hn⟩
      obtain ⟨⟨c0, c1, c2, c3, c4, c5⟩, f0, f1, f2, f3, f4, f5⟩ := blk6 (hn.heap R1.out (fun x => x))
      have HN : Kp (New w w9) := ⟨HN1.out.new hn⟩
      clear hn
      simp only [capV]
      repeat' (first | (with_reducible refine then_normal ?_) | (with_reducible refine then_ret ?_) | (with_reducible refine then_exit ?_) | (with_reducible refine inBlock_normal ?_) | (with_reducible refine inBlock_ret ?_) | (with_reducible refine inBlock_same ?_) | (with_reducible refine inBlock_other (by decide) ?_) | go_values | go_skip | go_guarded | go_step | go_upon | (simp only [Int.not_lt, Int.not_le] at *; go_simp) | (go_ite <;> go_prune <;> (try go_simp)))
      rw [hfin.out]
      refine bodyPost_ret (v := capV ⟨t', b, tp, a, p, 0⟩) ?_ rfl ⟨rfl, ?_⟩
      · simp [results, Tryd.results123, go_sem, capV, *]
      · repeat (first | (with_reducible exact HN.out) | (with_reducible refine Chg.setCell ?_ (.inl (by simp <;> omega)) _))
    cases hc
  · have hfin : Kp _ := ⟨hgood.out hc⟩
    clear hbad hgood hg' hl'
    simp only [Bool.and_eq_true, Bool.not_eq_true'] at hc
    obtain ⟨rfl, rfl, rfl, rfl⟩ := hc
    obtain rfl : y = 0 := by simpa using ho
    have hka : ka % 65536 = ka := by
      simp only [decide_eq_false_iff_not] at hg hl; omega
    go_enter Tryd.func123, Tryd.ntmps123
    repeat' (first | (with_reducible refine then_normal ?_) | (with_reducible refine then_ret ?_) | (with_reducible refine then_exit ?_) | (with_reducible refine inBlock_normal ?_) | (with_reducible refine inBlock_ret ?_) | (with_reducible refine inBlock_same ?_) | (with_reducible refine inBlock_other (by decide) ?_) | fail | go_values | go_skip | go_guarded | go_step | go_upon | (simp only [Int.not_lt, Int.not_le] at *; go_simp) | (go_ite <;> go_prune <;> (try go_simp)))
    refine (HK.out _).mono ?_; rintro e w1 ⟨rfl, hn⟩
    have A1 : Kp _ := ⟨hn.heap (alloc3_0 w _ _ _) (fun x => x)⟩
    have K1 : Kp _ := ⟨hn.heap (alloc3_1 w _ _ _) (fun x => x)⟩
    have R1 : Kp _ := ⟨hn.heap (alloc3_2 w _ _ _) (fun x => x)⟩
    obtain ⟨⟨a0, a1, a2, a3, a4, a5⟩, fa0, fa1, fa2, fa3, fa4, fa5⟩ := blk6 A1.out
    obtain ⟨⟨k0, k1, k2, k3, k4, k5⟩, fk0, fk1, fk2, fk3, fk4, fk5⟩ := blk6 K1.out
    obtain ⟨⟨r0, r1, r2, r3, r4, r5⟩, fr0, fr1, fr2, fr3, fr4, fr5⟩ := blk6 R1.out
    have HN1 : Kp (New w w1) := ⟨((((Chg.refl _ w).alloc _).alloc _).alloc _).new hn⟩
    clear hn
    repeat' (first | (with_reducible refine then_normal ?_) | (with_reducible refine then_ret ?_) | (with_reducible refine then_exit ?_) | (with_reducible refine inBlock_normal ?_) | (with_reducible refine inBlock_ret ?_) | (with_reducible refine inBlock_same ?_) | (with_reducible refine inBlock_other (by decide) ?_) | fail | go_values | go_skip | go_guarded | go_step | go_upon | (simp only [Int.not_lt, Int.not_le] at *; go_simp) | (go_ite <;> go_prune <;> (try go_simp)))
    have HN2 : Kp (New w w1) := HN1
    rw [hfin.out]
    refine bodyPost_ret (v := capV ⟨t, b, tp, a, p, ka⟩) ?_ rfl ⟨rfl, ?_⟩
    · simp [results, Tryd.results123, go_sem, capV, *]
    · repeat (first | (with_reducible exact HN2.out) | (with_reducible refine Chg.setCell ?_ (.inl (by simp <;> omega)) _))

end Go.Proofs.YtoecmleficekbaaDoor
