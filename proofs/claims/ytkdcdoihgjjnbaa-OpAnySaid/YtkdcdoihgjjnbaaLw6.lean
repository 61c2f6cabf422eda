/- The laws of layer 6: known, OpOnce, OpAny return true. -/
import Derived.Test.YtkdcdoihgjjnbaaROps2
namespace Go.Proofs.Ytkdcdoihgjjnbaa
open Go.RowKit
set_option linter.unusedSimpArgs false
set_option linter.unusedVariables false

abbrev namedIs (s : ByteArray) : Nat → Bool := fun (k : Nat) => ((ByteArray.mk (opName k).toArray).toList == s.toList)
theorem named_some (s : ByteArray) (k : Nat) (h : firstOp (namedIs s) = some k) (w : World) : Calls Try.prog 21 #[.string s] w fun e w' => e = .returned (.tuple #[.agg #[.int .i64 ((k : Int) + 1), .string ⟨(opName k).toArray⟩, .int .i64 (formR (opName k))], .bool true]) ∧ New w w' := by
  have := named_any s w; rw [h] at this; exact this
theorem named_none (s : ByteArray) (h : firstOp (namedIs s) = none) (w : World) : Calls Try.prog 21 #[.string s] w fun e w' => e = .returned (.tuple #[.agg #[.int .i64 0, .string ⟨#[]⟩, .int .i64 0], .bool false]) ∧ New w w' := by
  have := named_any s w; rw [h] at this; exact this
theorem refNamed_some (s : ByteArray) (k : Nat) (h : firstOp (namedIs s) = some k) (w : World) : Calls Try.prog 22 #[.string s] w fun e w' => e = .returned (.tuple #[.agg #[.int .i64 ((k : Int) + 1), .string ⟨(opName k).toArray⟩, .int .i64 (formR (opName k))], .bool true]) ∧ New w w' := by
  have := refNamed_any s w; rw [h] at this; exact this
theorem refNamed_none (s : ByteArray) (h : firstOp (namedIs s) = none) (w : World) : Calls Try.prog 22 #[.string s] w fun e w' => e = .returned (.tuple #[.agg #[.int .i64 0, .string ⟨#[]⟩, .int .i64 0], .bool false]) ∧ New w w' := by
  have := refNamed_any s w; rw [h] at this; exact this
theorem ba_toList' (l : List UInt8) : (ByteArray.mk l.toArray).toList = l := ByteArray.toList_mk l
theorem named_eq (l : List UInt8) (o : Option Nat) (h : firstOp (fun k => opName k == l) = o) : firstOp (namedIs ⟨l.toArray⟩) = o := by
  rw [← h]; unfold namedIs; simp only [ba_toList']
theorem formR_in : ∀ k, k < 67 → 0 ≤ formR (opName k) ∧ formR (opName k) ≤ 9 := by decide +kernel
theorem name_once : ∀ k, k < 67 → firstOp (fun j => opName j == opName k) = some k := by decide +kernel
theorem name_inj (j k : Nat) (hj : j < 67) (hk : k < 67) : (opName j == opName k) = (((j : Int) + 1) == ((k : Int) + 1)) := by
  rw [Bool.eq_iff_iff, beq_iff_eq, beq_iff_eq]
  constructor
  · intro h
    have h1 := name_once j hj
    rw [h, name_once k hk] at h1
    injection h1 with h1; omega
  · intro h
    obtain rfl : j = k := by omega
    rfl
theorem firstOp_lt {p : Nat → Bool} {k : Nat} (h : firstOp p = some k) : k < 67 := by
  unfold firstOp at h
  have := List.mem_of_find?_eq_some h
  simpa using this

set_option maxRecDepth 100000 in
set_option maxHeartbeats 2000000 in
theorem known6_true (w : World) : Calls Try.prog 20 #[] w fun e w' => e = .returned (.bool true) ∧ New w w' := by
  have K1 : Kp (firstOp (namedIs ⟨#[97, 100, 100]⟩) = some 0) := ⟨named_eq [97, 100, 100] _ (by decide +kernel)⟩
  have K2 : Kp (firstOp (namedIs ⟨#[]⟩) = none) := ⟨named_eq [] _ (by decide +kernel)⟩
  go_enter Try.func20, Try.ntmps20
  go_wp2_with fail
  refine (named_some _ 0 K1.out _).mono ?_; rintro e w1 ⟨rfl, n1⟩
  rw [show opName 0 = [97, 100, 100] from rfl, show formR [97, 100, 100] = 3 from rfl]
  go_wp2_with fail
  refine (coded_in 66 (by omega) 67 rfl _).mono ?_; rintro e w2 ⟨rfl, n2⟩
  rw [show opName 66 = [110, 111, 112] from rfl, show formR [110, 111, 112] = 0 from rfl]
  go_wp2_with fail
  refine (coded_out 0 (by omega) _).mono ?_; rintro e w3 ⟨rfl, n3⟩
  go_wp2_with fail
  refine (named_none _ K2.out _).mono ?_; rintro e w4 ⟨rfl, n4⟩
  have b1 := n2.heap (heap_alloc_at w1 _) (fun x => x)
  have b1 := n4.heap ((Below.heap_alloc w3 _ _ (by have := lt_of_heap (n3.heap ((Below.heap_alloc w2 _ _ (lt_of_heap b1)).trans b1) (fun x => x)); omega)).trans (n3.heap ((Below.heap_alloc w2 _ _ (lt_of_heap b1)).trans b1) (fun x => x))) (fun x => x)
  have b2 := n3.heap (heap_alloc_at w2 _) (fun x => x)
  have b2 := n4.heap ((Below.heap_alloc w3 _ _ (lt_of_heap b2)).trans b2) (fun x => x)
  have l1 := lt_of_heap b1
  have l2 := lt_of_heap b2
  have a0 := cell_known b1 0
  have a2 := cell_known b1 2
  have c1 := cell_known b2 1
  have c2 := cell_known b2 2
  simp only [List.getElem?_toArray, List.getElem?_cons_zero, List.getElem?_cons_succ] at a0 a2 c1 c2
  have HN : Kp (New w w4) := ⟨((((((n1.alloc _).new n2).alloc _).new n3).alloc _).new n4)⟩
  clear n1 n2 n3 n4 b1 b2
  have al : ∀ X b j v, b < w4.heap.size → w4.cell? ⟨b, j, none⟩ = some v → (w4.alloc X).cell? ⟨b, j, none⟩ = some v := fun X b j v hb h => by rw [World.cell?_alloc_lt _ _ ⟨b, j, none⟩ hb]; exact h
  have a0' := fun X => al X _ _ _ l1 a0
  have a2' := fun X => al X _ _ _ l1 a2
  have c1' := fun X => al X _ _ _ l2 c1
  have c2' := fun X => al X _ _ _ l2 c2
  clear a0 a2 c1 c2 al
  go_wp2_with fail
  refine (all_any _).mono ?_; rintro e w5 ⟨⟨v, rfl, hr⟩, n5⟩
  obtain ⟨g, o, cap, rfl, hl, hc⟩ := rd_op hr
  go_wp2
  go_ret
  exact ⟨rfl, (HN.out.alloc _).new n5⟩

/-- op.Coded at a number that is none, whatever. -/
theorem coded_what (n : Int) (w : World) : ∃ (x : Int) (y : ByteArray) (z : Int) (b : Bool), Kp (b = decide (1 ≤ n ∧ n ≤ 67)) ∧ Kp (∀ W, Calls Try.prog 23 #[.int .i64 n] W fun e w' => e = .returned (.tuple #[.agg #[.int .i64 x, .string y, .int .i64 z], .bool b]) ∧ New W w') := by
  by_cases h : 1 ≤ n ∧ n ≤ 67
  · exact ⟨_, _, _, true, ⟨by simp [h]⟩, ⟨fun W => coded_in (n - 1).toNat (by omega) n (by omega) W⟩⟩
  · exact ⟨_, _, _, false, ⟨by simp [h]⟩, ⟨fun W => coded_out n (by omega) W⟩⟩

set_option maxRecDepth 100000 in
set_option maxHeartbeats 2000000 in
theorem opOnce_out (a b : Int) (h : ¬ (1 ≤ a ∧ a ≤ 67) ∨ ¬ (1 ≤ b ∧ b ≤ 67)) (w : World) : Calls Try.prog 9 #[.int .i64 a, .int .i64 b] w fun e w' => e = .returned (.bool true) ∧ New w w' := by
  obtain ⟨x, y, z, c, hc, HC⟩ := coded_what a w
  obtain ⟨x', y', z', c', hc', HC'⟩ := coded_what b w
  have hb : c = false ∨ c = true ∧ c' = false := by
    rw [hc.out, hc'.out]
    by_cases ha : 1 ≤ a ∧ a ≤ 67
    · have hb : ¬ (1 ≤ b ∧ b ≤ 67) := by rcases h with h | h; exact absurd ha h; exact h
      exact .inr ⟨decide_eq_true ha, decide_eq_false hb⟩
    · exact .inl (decide_eq_false ha)
  have ht : decide (a < 1) = true ∨ decide (a < 1) = false ∧ decide (67 < a) = true ∨ decide (a < 1) = false ∧ decide (67 < a) = false ∧ decide (b < 1) = true ∨ decide (a < 1) = false ∧ decide (67 < a) = false ∧ decide (b < 1) = false ∧ decide (67 < b) = true := by
    simp only [decide_eq_true_eq, decide_eq_false_iff_not]; omega
  clear h hc hc'
  rcases hb with rfl | ⟨rfl, rfl⟩ <;> rcases ht with t1 | ⟨t1, t2⟩ | ⟨t1, t2, t3⟩ | ⟨t1, t2, t3, t4⟩
  all_goals
    go_enter Try.func9, Try.ntmps9
    go_wp2_with fail
    refine (known6_true _).mono ?_; rintro e w1 ⟨rfl, n1⟩
    go_wp2_with fail
    refine (HC.out _).mono ?_; rintro e w2 ⟨rfl, n2⟩
    go_wp2_with fail
    refine (HC'.out _).mono ?_; rintro e w3 ⟨rfl, n3⟩
    go_wp2
    go_ret
    exact ⟨rfl, (((n1.new n2).alloc _).new n3).alloc _⟩

set_option maxRecDepth 100000 in
set_option maxHeartbeats 2000000 in
theorem opOnce_in (j k : Nat) (hj : j < 67) (hk : k < 67) (w : World) : Calls Try.prog 9 #[.int .i64 ((j : Int) + 1), .int .i64 ((k : Int) + 1)] w fun e w' => e = .returned (.bool true) ∧ New w w' := by
  have J := fun W => coded_in j hj _ rfl W
  have K := fun W => coded_in k hk _ rfl W
  have N := fun W => named_some ⟨(opName j).toArray⟩ j (named_eq _ _ (name_once j hj)) W
  have hi := name_inj j k hj hk
  obtain ⟨f0, f9⟩ := formR_in j hj
  generalize hnj : opName j = nj at J N hi f0 f9
  generalize hnk : opName k = nk at K hi
  generalize formR nj = fj at J N f0 f9
  generalize formR nk = fk at K
  have J' : Kp _ := ⟨J⟩; have K' : Kp _ := ⟨K⟩; have N' : Kp _ := ⟨N⟩
  clear J K N hnj hnk
  obtain ⟨q, hq, hq'⟩ : ∃ q : Bool, (nj == nk) = q ∧ (((j : Int) + 1) == ((k : Int) + 1)) = q := ⟨_, hi, rfl⟩
  clear hi
  go_enter Try.func9, Try.ntmps9
  go_wp2_with fail
  refine (known6_true _).mono ?_; rintro e w1 ⟨rfl, n1⟩
  go_wp2_with fail
  refine (J'.out _).mono ?_; rintro e w2 ⟨rfl, n2⟩
  go_wp2_with fail
  refine (K'.out _).mono ?_; rintro e w3 ⟨rfl, n3⟩
  have b1 := n3.heap (heap_alloc_at w2 _) (fun x => x)
  have a1 := cell_known b1 1
  simp only [List.getElem?_toArray, List.getElem?_cons_zero, List.getElem?_cons_succ] at a1
  have l1 := lt_of_heap b1
  have a1' : ∀ X, (w3.alloc X).cell? ⟨w2.heap.size, 1, none⟩ = some (.string ⟨nj.toArray⟩) := fun X => by rw [World.cell?_alloc_lt _ _ ⟨w2.heap.size, 1, none⟩ l1]; exact a1
  have HN3 : Kp (New w w3) := ⟨(((n1.new n2).alloc _).new n3)⟩
  have B1 : Kp _ := ⟨b1⟩
  clear n1 n2 n3 a1 b1
  go_wp2_with fail
  refine (N'.out _).mono ?_; rintro e w4 ⟨rfl, n4⟩
  have b1 := n4.heap ((Below.heap_alloc w3 _ _ l1).trans B1.out) (fun x => x)
  have b2 := n4.heap (heap_alloc_at w3 _) (fun x => x)
  have l4 := lt_of_heap b1
  have l5 := lt_of_heap b2
  have d1 := cell_known b1 1
  have d2 := cell_known b1 2
  have e1 := cell_known b2 1
  simp only [List.getElem?_toArray, List.getElem?_cons_zero, List.getElem?_cons_succ] at d1 d2 e1
  have al : ∀ X b j v, b < w4.heap.size → w4.cell? ⟨b, j, none⟩ = some v → (w4.alloc X).cell? ⟨b, j, none⟩ = some v := fun X b j v hb h => by rw [World.cell?_alloc_lt _ _ ⟨b, j, none⟩ hb]; exact h
  have d1' := fun X => al X _ _ _ l4 d1
  have d2' := fun X => al X _ _ _ l4 d2
  have e1' := fun X => al X _ _ _ l5 e1
  have HN : Kp (New w w4) := ⟨(HN3.out.alloc _).new n4⟩
  clear a1' d1 d2 e1 al b1 b2 n4 B1
  cases q
  all_goals
    go_wp2
    go_ret
    exact ⟨by simp [*], HN.out.alloc _⟩

theorem opOnce_walk (a b : Int) (w : World) : Calls Try.prog 9 #[.int .i64 a, .int .i64 b] w fun e w' => e = .returned (.bool true) ∧ New w w' := by
  by_cases h : (1 ≤ a ∧ a ≤ 67) ∧ (1 ≤ b ∧ b ≤ 67)
  · obtain ⟨j, rfl⟩ : ∃ j : Nat, a = (j : Int) + 1 := ⟨(a - 1).toNat, by omega⟩
    obtain ⟨k, rfl⟩ : ∃ k : Nat, b = (k : Int) + 1 := ⟨(b - 1).toNat, by omega⟩
    exact opOnce_in j k (by omega) (by omega) w
  · exact opOnce_out a b (by omega) w

theorem drewN_drewN (w : World) (m n : Nat) : (w.drewN m).drewN n = w.drewN (m + n) := by
  simp [World.drewN, Nat.add_assoc]

set_option maxRecDepth 100000 in
set_option maxHeartbeats 2000000 in
theorem opAny_walk (s : ByteArray) (n : Int) (_hs : s.size ≤ 140737488351232) (w : World) : Calls Try.prog 8 #[.string s, .int .i64 n] w fun e w' => e = .returned (.bool true) ∧ New w w' := by
  by_cases hl : 50 < s.size
  · go_enter Try.func8, Try.ntmps8
    go_wp2_with fail
    refine (known6_true _).mono ?_; rintro e w1 ⟨rfl, b1⟩
    go_wp2
    go_ret
    exact ⟨rfl, b1⟩
  · obtain ⟨x, y, z, c, HN, HR⟩ : ∃ (x : Int) (y : ByteArray) (z : Int) (c : Bool), Kp (∀ W, Calls Try.prog 21 #[.string s] W fun e w' => e = .returned (.tuple #[.agg #[.int .i64 x, .string y, .int .i64 z], .bool c]) ∧ New W w') ∧ Kp (∀ W, Calls Try.prog 22 #[.string s] W fun e w' => e = .returned (.tuple #[.agg #[.int .i64 x, .string y, .int .i64 z], .bool c]) ∧ New W w') := by
      rcases h : firstOp (namedIs s) with _ | k
      · exact ⟨_, _, _, _, ⟨named_none s h⟩, ⟨refNamed_none s h⟩⟩
      · exact ⟨_, _, _, _, ⟨named_some s k h⟩, ⟨refNamed_some s k h⟩⟩
    obtain ⟨x', y', z', c', HC, HD⟩ : ∃ (x : Int) (y : ByteArray) (z : Int) (c : Bool), Kp (∀ W, Calls Try.prog 23 #[.int .i64 n] W fun e w' => e = .returned (.tuple #[.agg #[.int .i64 x, .string y, .int .i64 z], .bool c]) ∧ New W w') ∧ Kp (∀ W, Calls Try.prog 24 #[.int .i64 n] W fun e w' => e = .returned (.tuple #[.agg #[.int .i64 x, .string y, .int .i64 z], .bool c]) ∧ New W w') := by
      by_cases h : 1 ≤ n ∧ n ≤ 67
      · exact ⟨_, _, _, _, ⟨fun W => coded_in (n - 1).toNat (by omega) n (by omega) W⟩, ⟨fun W => refCoded_in (n - 1).toNat (by omega) n (by omega) W⟩⟩
      · exact ⟨_, _, _, _, ⟨fun W => coded_out n (by omega) W⟩, ⟨fun W => refCoded_out n (by omega) W⟩⟩
    go_enter Try.func8, Try.ntmps8
    go_wp2_with fail
    refine (known6_true _).mono ?_; rintro e w1 ⟨rfl, n1⟩
    go_wp2_with fail
    refine (HN.out _).mono ?_; rintro e w2 ⟨rfl, n2⟩
    go_wp2_with fail
    refine (HR.out _).mono ?_; rintro e w3 ⟨rfl, n3⟩
    have l1 := n3.heap (heap_alloc_at w2 _) (fun x => x)
    go_wp2_with fail
    refine (HC.out _).mono ?_; rintro e w4 ⟨rfl, n4⟩
    have l1' := n4.heap ((Below.heap_alloc w3 _ _ (lt_of_heap l1)).trans l1) (fun x => x)
    have l2 := n4.heap (heap_alloc_at w3 _) (fun x => x)
    go_wp2_with fail
    refine (HD.out _).mono ?_; rintro e w5 ⟨rfl, n5⟩
    have m1 := n5.heap ((Below.heap_alloc w4 _ _ (lt_of_heap l1')).trans l1') (fun x => x)
    have m2 := n5.heap ((Below.heap_alloc w4 _ _ (lt_of_heap l2)).trans l2) (fun x => x)
    have m3 := n5.heap (heap_alloc_at w4 _) (fun x => x)
    have HN5 : Kp (New w w5) := ⟨((((((n1.new n2).alloc _).new n3).alloc _).new n4).alloc _).new n5⟩
    have al : ∀ X b j v, w5.cell? ⟨b, j, none⟩ = some v → b < w5.heap.size → (w5.alloc X).cell? ⟨b, j, none⟩ = some v := fun X b j v h hb => by rw [World.cell?_alloc_lt _ _ ⟨b, j, none⟩ hb]; exact h
    have a0 := fun X => al X _ _ _ (cell_known m1 0) (lt_of_heap m1)
    have a1 := fun X => al X _ _ _ (cell_known m1 1) (lt_of_heap m1)
    have a2 := fun X => al X _ _ _ (cell_known m1 2) (lt_of_heap m1)
    have b0 := fun X => al X _ _ _ (cell_known m2 0) (lt_of_heap m2)
    have b1 := fun X => al X _ _ _ (cell_known m2 1) (lt_of_heap m2)
    have b2 := fun X => al X _ _ _ (cell_known m2 2) (lt_of_heap m2)
    have c0 := fun X => al X _ _ _ (cell_known m3 0) (lt_of_heap m3)
    have c1 := fun X => al X _ _ _ (cell_known m3 1) (lt_of_heap m3)
    have c2 := fun X => al X _ _ _ (cell_known m3 2) (lt_of_heap m3)
    clear n1 n2 n3 n4 n5 l1 l1' l2 m1 m2 m3 al
    go_wp2_with fail
    refine (all_any _).mono ?_; rintro e w6 ⟨⟨v, rfl, hr⟩, n6⟩
    obtain ⟨g, o, cap, rfl, hl6, hc6⟩ := rd_op hr
    clear hr a0 a1 a2 b0 b1 b2 c0 c1 c2
    go_wp2_with fail
    refine (ops_any _).mono ?_; rintro e w7 ⟨⟨v, rfl, hr⟩, n7⟩
    obtain ⟨g', o', cap', rfl, hl7, hc7⟩ := rd_op hr
    have HC6 : Kp (∀ k, k < 67 → w7.cell? ⟨g, o + k * 3, none⟩ = some (.int .i64 ((k : Int) + 1)) ∧ w7.cell? ⟨g, o + k * 3 + 1, none⟩ = some (.string ⟨(opName k).toArray⟩) ∧ w7.cell? ⟨g, o + k * 3 + 2, none⟩ = some (.int .i64 (formR (opName k)))) := ⟨fun k hk => by
      have hh : ∀ j, w7.cell? ⟨g, j, none⟩ = w6.cell? ⟨g, j, none⟩ := fun j => n7.cell (p := ⟨g, j, none⟩) hl6 (fun x => x)
      rw [hh, hh, hh]; exact hc6 k hk⟩
    have HC7 : Kp _ := ⟨hc7⟩
    have HN7 : Kp (New w w7) := ⟨((HN5.out.alloc _).new n6).new n7⟩
    clear hr hc6 hc7 n6 n7 hl6 hl7
    go_wp2_with fail
    go_loopw [15] (fun i wr => ∃ k : Nat, k ≤ 67 ∧ i = .int .i64 (k : Int) ∧ Kp (∃ m, wr = w7.drewN m)) (fun i _ => (67 - intOf i).toNat)
    case atStart => exact ⟨0, by omega, rfl, ⟨0, rfl⟩⟩
    case round =>
      obtain ⟨k, hk, rfl, hwr⟩ := hrel
      have HNr : Kp (New w wr) := ⟨by obtain ⟨m, e⟩ := hwr.out; rw [e]; exact HN7.out.drewN m⟩
      have hceq : ∀ a, wr.cell? a = w7.cell? a := by obtain ⟨m, e⟩ := hwr.out; rw [e]; intro a; exact World.cell?_drewN ..
      by_cases hlt : k < 67
      · obtain ⟨p0, p1, p2⟩ := HC6.out k hlt
        obtain ⟨q0, q1, q2⟩ := HC7.out k hlt
        rw [← hceq] at p0 p1 p2 q0 q1 q2
        have hk0 : (0 : Int) ≤ (k : Int) := Int.natCast_nonneg _
        have hk1 : (k : Int) < 67 := by omega
        generalize opName k = nm at p1 p2 q1 q2
        generalize formR nm = fm at p2 q2
        clear hceq
        go_wp2_with fail
        go_quiet (fail)
        go_wp2
        go_roundw
        case rel => exact ⟨k + 1, by omega, by go_num, ⟨by obtain ⟨m, e⟩ := hwr.out; rw [e]; exact ⟨_, (drewN_drewN w7 m _)⟩⟩⟩
        case measure => simp [intOf]; omega
      · obtain rfl : k = 67 := by omega
        clear hceq
        go_wp2
        go_ret
        exact ⟨rfl, HNr.out⟩
end Go.Proofs.Ytkdcdoihgjjnbaa
