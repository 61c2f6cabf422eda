/- The reference's Coded and Named by contracts. -/
import Derived.Test.YtgdeffompcikhaaDoorROpsC
namespace Go.Proofs.YtgdeffompcikhaaDoor
open Go.RowKit
set_option linter.unusedSimpArgs false
set_option linter.unusedVariables false
set_option maxRecDepth 100000 in
set_option maxHeartbeats 2000000 in
theorem refCoded_in (k : Nat) (hk : k < 67) (n : Int) (hn : n = (k : Int) + 1) (w : World) : Calls Tryd.prog 24 #[.int .i64 n] w fun e w' => e = .returned (.tuple #[.agg #[.int .i64 ((k : Int) + 1), .string ⟨(opName k).toArray⟩, .int .i64 (formR (opName k))], .bool true]) ∧ New w w' := by
  subst hn
  have h1 : decide ((k : Int) + 1 < 1) = false := by simp; omega
  have h2 : decide ((67 : Int) < (k : Int) + 1) = false := by simp; omega
  go_enter Tryd.func24, Tryd.ntmps24
  go_wp2_with fail
  refine (ops_any _).mono ?_; rintro e w1 ⟨⟨v, rfl, hr⟩, hn1⟩
  obtain ⟨g, o, cap, rfl, hl, hc⟩ := rd_op hr
  have hb := hn1.heap (heap_alloc_at w _) (fun x => x)
  obtain ⟨c0, c1, c2⟩ := hc k hk
  have k0 := frozen_known hb 0
  have k1 := frozen_known hb 1
  have k2 := frozen_known hb 2
  have g0 := cell_known hb 0
  have g1 := cell_known hb 1
  have g2 := cell_known hb 2
  simp only [List.getElem?_toArray, List.getElem?_cons_zero, List.getElem?_cons_succ] at g0 g1 g2
  have HN : Kp (New w w1) := ⟨((Chg.refl _ w).alloc _).new hn1⟩
  clear hr hn1 hb hc
  go_wp2
  refine bodyPost_ret (v := .tuple #[.agg #[.int .i64 ((k : Int) + 1), .string ⟨(opName k).toArray⟩, .int .i64 (formR (opName k))], .bool true]) ?_ rfl ⟨rfl, ?_⟩
  · simp [results, Tryd.results24, go_sem, *]
  · repeat (first | exact HN.out | refine Chg.setCell ?_ (.inl (by simp)) _)

set_option maxRecDepth 100000 in
set_option maxHeartbeats 2000000 in
theorem refCoded_out (n : Int) (hn : n < 1 ∨ 67 < n) (w : World) : Calls Tryd.prog 24 #[.int .i64 n] w fun e w' => e = .returned (.tuple #[.agg #[.int .i64 0, .string ⟨#[]⟩, .int .i64 0], .bool false]) ∧ New w w' := by
  have hn' : decide (n < 1) = true ∨ decide (n < 1) = false ∧ decide (67 < n) = true := by
    rcases hn with h | h
    · exact .inl (decide_eq_true h)
    · exact .inr ⟨decide_eq_false (by omega), decide_eq_true h⟩
  clear hn
  rcases hn' with h1 | ⟨h1, h2⟩
  all_goals
    go_enter Tryd.func24, Tryd.ntmps24
    go_wp2_with fail
    refine (ops_any _).mono ?_; rintro e w1 ⟨⟨v, rfl, hr⟩, hn1⟩
    obtain ⟨g, o, cap, rfl, hl, hc⟩ := rd_op hr
    have hb := hn1.heap (heap_alloc_at w _) (fun x => x)
    have k0 := frozen_known hb 0
    have k1 := frozen_known hb 1
    have k2 := frozen_known hb 2
    have g0 := cell_known hb 0
    have g1 := cell_known hb 1
    have g2 := cell_known hb 2
    simp only [List.getElem?_toArray, List.getElem?_cons_zero, List.getElem?_cons_succ] at g0 g1 g2
    have HN : Kp (New w w1) := ⟨((Chg.refl _ w).alloc _).new hn1⟩
    clear hr hn1 hb hc
    go_wp2
    refine bodyPost_ret (v := .tuple #[.agg #[.int .i64 0, .string ⟨#[]⟩, .int .i64 0], .bool false]) ?_ rfl ⟨rfl, ?_⟩
    · simp [results, Tryd.results24, go_sem, *]
    · repeat (first | exact HN.out | refine Chg.setCell ?_ (.inl (by simp)) _)
end Go.Proofs.YtgdeffompcikhaaDoor
