/- The reference's capabilities (written by gen_rcap.py): Enter, flag. -/
import Derived.Test.YtoecmleficekbaaDoorRCap
namespace Go.Proofs.YtoecmleficekbaaDoor
open Go.RowKit
set_option linter.unusedSimpArgs false
set_option linter.unusedVariables false

theorem mask4 (p : Int) (h0 : 0 ≤ p) (h1 : p < 65536) : (bits .and .u16 p 4 == 4) = !(bits .and .u16 p 4 == 0) := by
  rw [u16_and p 4 h0 h1 (by decide) (by decide)]
  have h : p.toNat &&& 4 = 0 ∨ p.toNat &&& 4 = 4 := by
    have hm : ∀ i, (p.toNat &&& 4).testBit i = (p.toNat.testBit i && decide (2 = i)) := by
      intro i
      rw [Nat.testBit_and, show (4 : Nat) = 2 ^ 2 from rfl, Nat.testBit_two_pow]
    rcases hb : p.toNat.testBit 2 with _ | _
    · left
      refine Nat.eq_of_testBit_eq fun i => ?_
      rw [hm, Nat.zero_testBit]
      by_cases hi : 2 = i
      · subst hi; rw [hb]; rfl
      · simp [hi]
    · right
      refine Nat.eq_of_testBit_eq fun i => ?_
      rw [hm, show (4 : Nat) = 2 ^ 2 from rfl, Nat.testBit_two_pow]
      by_cases hi : 2 = i
      · subst hi; rw [hb]; rfl
      · simp [hi]
  have e : ((4 : Int).toNat) = 4 := rfl
  rw [e]
  rcases h with h | h <;> rw [h] <;> decide

set_option maxRecDepth 100000 in
set_option maxHeartbeats 1000000 in
theorem refFlag_any (m : Bool) (w : World) : Calls Tryd.prog 87 #[.bool m] w fun e w' => e = .returned (.int .u32 (if m then 1 else 0)) ∧ w = w' := by
  cases m
  all_goals
    go_enter Tryd.func87, Tryd.ntmps87
    repeat' (first | (with_reducible refine then_normal ?_) | (with_reducible refine then_ret ?_) | (with_reducible refine then_exit ?_) | (with_reducible refine inBlock_normal ?_) | (with_reducible refine inBlock_ret ?_) | (with_reducible refine inBlock_same ?_) | (with_reducible refine inBlock_other (by decide) ?_) | fail | go_values | go_skip | go_guarded | go_step | go_upon | (simp only [Int.not_lt, Int.not_le] at *; go_simp) | (go_ite <;> go_prune <;> (try go_simp)))
    go_ret
    exact ⟨rfl, rfl⟩

set_option maxRecDepth 100000 in
set_option maxHeartbeats 1000000 in
theorem refEnter_any (t : Bool) (b tp a p y : Int) (hp : 0 ≤ p) (hp1 : p < 65536) (w : World) : Calls Tryd.prog 125 #[.agg #[.bool t, .int .u32 b, .int .u32 tp, .int .u32 a, .int .u16 p, .int .u16 y]] w fun e w' => e = .returned (capV (Cp.enter ⟨t, b, tp, a, p, y⟩)) ∧ New w w' := by
  obtain ⟨o, ho⟩ : ∃ o, (y == 0) = o := ⟨_, rfl⟩
  obtain ⟨t', ht⟩ : ∃ t', Kp (t' = (t && (o && (bits .and .u16 p 4 != 0)))) := ⟨_, ⟨rfl⟩⟩
  have hfin : Kp (Cp.enter ⟨t, b, tp, a, p, y⟩ = ⟨t', b, tp, a, p, 1⟩) := ⟨by unfold Cp.enter Cp.kept Cp.permits Cp.isOpen; rw [ht.out, mask4 p hp hp1, ho, Bool.and_comm o]; rfl⟩
  clear hp hp1
  cases o
  · skip
    go_enter Tryd.func125, Tryd.ntmps125
    repeat' (first | (with_reducible refine then_normal ?_) | (with_reducible refine then_ret ?_) | (with_reducible refine then_exit ?_) | (with_reducible refine inBlock_normal ?_) | (with_reducible refine inBlock_ret ?_) | (with_reducible refine inBlock_same ?_) | (with_reducible refine inBlock_other (by decide) ?_) | go_values | go_skip | go_guarded | go_step | go_upon | (simp only [Int.not_lt, Int.not_le] at *; go_simp) | (go_ite <;> go_prune <;> (try go_simp)))
    refine (asks_is t b tp a p 1 false ⟨t', b, tp, a, p, 1⟩ (by rw [ht.out]; rfl) _).mono ?_; rintro e w9 ⟨rfl, hn⟩
    obtain ⟨⟨c0, c1, c2, c3, c4, c5⟩, f0, f1, f2, f3, f4, f5⟩ := blk6 (hn.heap (alloc2_1 w _ _ ) (fun x => x))
    have HN : Kp (New w w9) := ⟨(((Chg.refl _ w).alloc _).alloc _).new hn⟩
    clear hn
    simp only [capV]
    repeat' (first | (with_reducible refine then_normal ?_) | (with_reducible refine then_ret ?_) | (with_reducible refine then_exit ?_) | (with_reducible refine inBlock_normal ?_) | (with_reducible refine inBlock_ret ?_) | (with_reducible refine inBlock_same ?_) | (with_reducible refine inBlock_other (by decide) ?_) | go_values | go_skip | go_guarded | go_step | go_upon | (simp only [Int.not_lt, Int.not_le] at *; go_simp) | (go_ite <;> go_prune <;> (try go_simp)))
    rw [hfin.out]
    refine bodyPost_ret (v := capV ⟨t', b, tp, a, p, 1⟩) ?_ rfl ⟨rfl, ?_⟩
    · simp [results, Tryd.results125, go_sem, capV, *]
    · repeat (first | (with_reducible exact HN.out) | (with_reducible refine Chg.setCell ?_ (.inl (by simp <;> omega)) _))
  obtain rfl : y = 0 := by simpa using ho
  go_enter Tryd.func125, Tryd.ntmps125
  repeat' (first | (with_reducible refine then_normal ?_) | (with_reducible refine then_ret ?_) | (with_reducible refine then_exit ?_) | (with_reducible refine inBlock_normal ?_) | (with_reducible refine inBlock_ret ?_) | (with_reducible refine inBlock_same ?_) | (with_reducible refine inBlock_other (by decide) ?_) | go_values | go_skip | go_guarded | go_step | go_upon | (simp only [Int.not_lt, Int.not_le] at *; go_simp) | (go_ite <;> go_prune <;> (try go_simp)))
  refine (asks_is t b tp a p 1 (bits .and .u16 p 4 != 0) ⟨t', b, tp, a, p, 1⟩ (by rw [ht.out]; rfl) _).mono ?_; rintro e w9 ⟨rfl, hn⟩
  obtain ⟨⟨c0, c1, c2, c3, c4, c5⟩, f0, f1, f2, f3, f4, f5⟩ := blk6 (hn.heap (alloc2_1 w _ _ ) (fun x => x))
  have HN : Kp (New w w9) := ⟨(((Chg.refl _ w).alloc _).alloc _).new hn⟩
  clear hn
  simp only [capV]
  repeat' (first | (with_reducible refine then_normal ?_) | (with_reducible refine then_ret ?_) | (with_reducible refine then_exit ?_) | (with_reducible refine inBlock_normal ?_) | (with_reducible refine inBlock_ret ?_) | (with_reducible refine inBlock_same ?_) | (with_reducible refine inBlock_other (by decide) ?_) | go_values | go_skip | go_guarded | go_step | go_upon | (simp only [Int.not_lt, Int.not_le] at *; go_simp) | (go_ite <;> go_prune <;> (try go_simp)))
  rw [hfin.out]
  refine bodyPost_ret (v := capV ⟨t', b, tp, a, p, 1⟩) ?_ rfl ⟨rfl, ?_⟩
  · simp [results, Tryd.results125, go_sem, capV, *]
  · repeat (first | (with_reducible exact HN.out) | (with_reducible refine Chg.setCell ?_ (.inl (by simp <;> omega)) _))

end Go.Proofs.YtoecmleficekbaaDoor
