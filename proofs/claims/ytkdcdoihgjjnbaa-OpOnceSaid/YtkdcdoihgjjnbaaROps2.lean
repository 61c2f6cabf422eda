/- The reference's Coded and Named by contracts. -/
import Derived.Test.YtkdcdoihgjjnbaaROps
namespace Go.Proofs.Ytkdcdoihgjjnbaa
open Go.RowKit
set_option linter.unusedSimpArgs false
set_option linter.unusedVariables false
set_option maxRecDepth 100000 in
set_option maxHeartbeats 2000000 in
theorem refCoded_in (k : Nat) (hk : k < 67) (n : Int) (hn : n = (k : Int) + 1) (w : World) : Calls Try.prog 24 #[.int .i64 n] w fun e w' => e = .returned (.tuple #[.agg #[.int .i64 ((k : Int) + 1), .string ⟨(opName k).toArray⟩, .int .i64 (formR (opName k))], .bool true]) ∧ New w w' := by
  subst hn
  have h1 : decide ((k : Int) + 1 < 1) = false := by simp; omega
  have h2 : decide ((67 : Int) < (k : Int) + 1) = false := by simp; omega
  go_enter Try.func24, Try.ntmps24
  go_wp2_with fail
  refine (ops_any _).mono ?_; rintro e w1 ⟨⟨v, rfl, hr⟩, hn1⟩
  obtain ⟨g, o, cap, rfl, hl, hc⟩ := rd_op hr
  have hb := hn1.heap (heap_alloc_at w _) (fun x => x)
  obtain ⟨c0, c1, c2⟩ := hc k hk
  have k0 := frozen_known hb 0
  have k1 := frozen_known hb 1
  have k2 := frozen_known hb 2
  have g0 := cell_known hb 0
  have g1 := cell_known hb 1
  have g2 := cell_known hb 2
  simp only [List.getElem?_toArray, List.getElem?_cons_zero, List.getElem?_cons_succ] at g0 g1 g2
  have HN : Kp (New w w1) := ⟨((Chg.refl _ w).alloc _).new hn1⟩
  clear hr hn1 hb hc
  go_wp2
  refine bodyPost_ret (v := .tuple #[.agg #[.int .i64 ((k : Int) + 1), .string ⟨(opName k).toArray⟩, .int .i64 (formR (opName k))], .bool true]) ?_ rfl ⟨rfl, ?_⟩
  · simp [results, Try.results24, go_sem, *]
  · repeat (first | exact HN.out | refine Chg.setCell ?_ (.inl (by simp)) _)

set_option maxRecDepth 100000 in
set_option maxHeartbeats 2000000 in
theorem refCoded_out (n : Int) (hn : n < 1 ∨ 67 < n) (w : World) : Calls Try.prog 24 #[.int .i64 n] w fun e w' => e = .returned (.tuple #[.agg #[.int .i64 0, .string ⟨#[]⟩, .int .i64 0], .bool false]) ∧ New w w' := by
  have hn' : decide (n < 1) = true ∨ decide (n < 1) = false ∧ decide (67 < n) = true := by
    rcases hn with h | h
    · exact .inl (decide_eq_true h)
    · exact .inr ⟨decide_eq_false (by omega), decide_eq_true h⟩
  clear hn
  rcases hn' with h1 | ⟨h1, h2⟩
  all_goals
    go_enter Try.func24, Try.ntmps24
    go_wp2_with fail
    refine (ops_any _).mono ?_; rintro e w1 ⟨⟨v, rfl, hr⟩, hn1⟩
    obtain ⟨g, o, cap, rfl, hl, hc⟩ := rd_op hr
    have hb := hn1.heap (heap_alloc_at w _) (fun x => x)
    have k0 := frozen_known hb 0
    have k1 := frozen_known hb 1
    have k2 := frozen_known hb 2
    have g0 := cell_known hb 0
    have g1 := cell_known hb 1
    have g2 := cell_known hb 2
    simp only [List.getElem?_toArray, List.getElem?_cons_zero, List.getElem?_cons_succ] at g0 g1 g2
    have HN : Kp (New w w1) := ⟨((Chg.refl _ w).alloc _).new hn1⟩
    clear hr hn1 hb hc
    go_wp2
    refine bodyPost_ret (v := .tuple #[.agg #[.int .i64 0, .string ⟨#[]⟩, .int .i64 0], .bool false]) ?_ rfl ⟨rfl, ?_⟩
    · simp [results, Try.results24, go_sem, *]
    · repeat (first | exact HN.out | refine Chg.setCell ?_ (.inl (by simp)) _)

set_option maxRecDepth 100000 in
set_option maxHeartbeats 2000000 in
theorem refNamed_any (n : ByteArray) (w : World) : Calls Try.prog 22 #[.string n] w fun e w' => e = .returned (.tuple #[opAgg (firstOp (fun (k : Nat) => ((ByteArray.mk (opName k).toArray).toList == n.toList))), .bool (firstOp (fun (k : Nat) => ((ByteArray.mk (opName k).toArray).toList == n.toList))).isSome]) ∧ New w w' := by
  obtain ⟨P, hP⟩ : ∃ P, Kp (P = (fun (k : Nat) => ((ByteArray.mk (opName k).toArray).toList == n.toList))) := ⟨_, ⟨rfl⟩⟩
  rw [← hP.out]
  go_enter Try.func22, Try.ntmps22
  go_wp2_with fail
  refine (ops_any _).mono ?_; rintro e w1 ⟨⟨v, rfl, hr⟩, hn1⟩
  obtain ⟨g, o, cap, rfl, hl, hc⟩ := rd_op hr
  have hb := hn1.heap (heap_alloc_at w _) (fun x => x)
  have k0 := frozen_known hb 0
  have k1 := frozen_known hb 1
  have k2 := frozen_known hb 2
  have g0 := cell_known hb 0
  have g1 := cell_known hb 1
  have g2 := cell_known hb 2
  simp only [List.getElem?_toArray, List.getElem?_cons_zero, List.getElem?_cons_succ] at g0 g1 g2
  have HN : Kp (New w w1) := ⟨((Chg.refl _ w).alloc _).new hn1⟩
  have HC : Kp _ := ⟨hc⟩
  clear hr hn1 hb hc
  go_wp2_with fail
  go_loop [5] (fun i => ∃ k : Nat, k ≤ 67 ∧ i = .int .i64 (k : Int) ∧ Kp (∀ j, j < k → P j = false)) (fun i => (67 - intOf i).toNat)
  case atStart => exact ⟨0, by omega, rfl, ⟨fun j hj => absurd hj (by omega)⟩⟩
  case round =>
    obtain ⟨k, hk, rfl, hno⟩ := hrel
    by_cases hlt : k < 67
    · obtain ⟨c0, c1, c2⟩ := HC.out k hlt
      rcases hPk : P k with _ | _
      · have hq : ((opName k) == n.toList) = false := by rw [hP.out] at hPk; simpa using hPk
        have HPk : Kp _ := ⟨hPk⟩
        clear hPk
        generalize hnm : opName k = nm at c1 hq
        clear hnm
        go_wp2
        go_round
        case rel => exact ⟨k + 1, by omega, by go_num, ⟨fun j hj => by
          rcases Nat.lt_or_ge j k with h | h
          · exact hno.out j h
          · obtain rfl : j = k := by omega
            exact HPk.out⟩⟩
        case measure => simp [intOf]; omega
      · have hq : ((opName k) == n.toList) = true := by rw [hP.out] at hPk; simpa using hPk
        have hfin : Kp (firstOp P = some k) := ⟨firstOp_some hlt hPk hno.out⟩
        clear hPk
        have HV : Kp (opAgg (some k) = .agg #[.int .i64 ((k : Int) + 1), .string ⟨(opName k).toArray⟩, .int .i64 (formR (opName k))]) := ⟨rfl⟩
        generalize hnm : opName k = nm at c1 c2 hq HV
        generalize formR nm = fm at c2 HV
        clear hnm
        go_wp2
        rw [hfin.out, HV.out]
        refine bodyPost_ret (v := .tuple #[.agg #[.int .i64 ((k : Int) + 1), .string ⟨nm.toArray⟩, .int .i64 fm], .bool true]) ?_ rfl ⟨rfl, ?_⟩
        · simp [results, Try.results22, go_sem, *]
        · repeat (first | exact HN.out | refine Chg.setCell ?_ (.inl (by simp)) _)
    · obtain rfl : k = 67 := by omega
      have hfin : Kp (firstOp P = none) := ⟨firstOp_none hno.out⟩
      go_wp2
      rw [hfin.out, opAgg]
      refine bodyPost_ret (v := .tuple #[.agg #[.int .i64 0, .string ⟨#[]⟩, .int .i64 0], .bool false]) ?_ rfl ⟨rfl, ?_⟩
      · simp [results, Try.results22, go_sem, *]
      · repeat (first | exact HN.out | refine Chg.setCell ?_ (.inl (by simp)) _)
end Go.Proofs.Ytkdcdoihgjjnbaa
