/- Contracts of package op: what has a code (out of XOp, XOpAll; without Named, All). -/
import Derived.Test.YtplejhefhnmabaaGreatDoorOpForm
import Derived.Test.YtplejhefhnmabaaGreatDoorCut
namespace Go.Proofs.YtplejhefhnmabaaGreatDoor
open Go.RowKit
set_option linter.unusedSimpArgs false
set_option linter.unusedVariables false
theorem frozen_new (w : World) (C : Array Value) (T : TypeId) (j : Nat) : (w.alloc (.cells C T)).frozen? ⟨w.heap.size, j, none⟩ = false := frozen_known (heap_alloc_at w _) j
/-- What 'first' has gone by. -/
structure FirstAt (p : Nat → Bool) (w wr : World) (k : Nat) (rest : List UInt8) (more : Bool) : Prop where
  le : k ≤ 67
  none : ∀ j, j < k → p j = false
  more : more = decide (k < 67)
  rest : k < 67 → rest = joinB (opNames.drop k)
  new : New w wr
  lt : w.heap.size < wr.heap.size
  res : wr.heap[w.heap.size]? = some (.cells #[.int .i64 0, .string ⟨#[]⟩, .int .i64 0] 141)


set_option maxRecDepth 100000 in
set_option maxHeartbeats 1000000 in
theorem codedIs_any (c f : Int) (s : Value) (n : Int) (p : Nat) (w : World) (hp : w.cell? ⟨p, 0, none⟩ = some (.int .i64 n)) (hlt : p < w.heap.size) : Calls Tryz.prog 64 #[.agg #[.int .i64 c, s, .int .i64 f], .pointer (some ⟨p, 0, none⟩)] w fun e w' => e = .returned (.bool (c == n)) ∧ New w w' := by
  have hp2 : ∀ X, (w.alloc X).cell? ⟨p, 0, none⟩ = some (.int .i64 n) := fun X => by rw [World.cell?_alloc_lt _ _ ⟨p, 0, none⟩ hlt]; exact hp
  go_enter Tryz.func64, Tryz.ntmps64
  go_wp2
  go_ret
  exact ⟨rfl, (Chg.refl _ w).alloc _⟩

set_option maxRecDepth 100000 in
set_option maxHeartbeats 4000000 in
theorem firstCoded_any (n : Int) (p : Nat) (w : World) (hp : w.cell? ⟨p, 0, none⟩ = some (.int .i64 n)) (hlt : p < w.heap.size) :
    Calls Tryz.prog 63 #[.func (.func 64) #[] #[.pointer (some ⟨p, 0, none⟩)]] w fun e w' => e = .returned (.tuple #[opAgg (firstOp (fun (k : Nat) => ((k : Int) + 1 == n))), .bool (firstOp (fun (k : Nat) => ((k : Int) + 1 == n))).isSome]) ∧ New w w' := by
  obtain ⟨P, hP⟩ : ∃ P, Kp (P = (fun (k : Nat) => ((k : Int) + 1 == n))) := ⟨_, ⟨rfl⟩⟩
  rw [← hP.out]
  go_enter Tryz.func63, Tryz.ntmps63
  go_wp2_with fail
  go_loopw [4, 5, 6] (fun r m n wr => ∃ (k : Nat) (rest : List UInt8) (more : Bool), r = .string ⟨rest.toArray⟩ ∧ m = .bool more ∧ n = .int .i64 ((k : Int) + 1) ∧ FirstAt P w wr k rest more) (fun _ _ n _ => (68 - intOf n).toNat)
  case atStart => exact ⟨0, _, true, rfl, rfl, rfl, by omega, fun j hj => absurd hj (by omega), rfl, fun _ => by decide +kernel, (Chg.refl _ w).alloc _, by simp, heap_alloc_at w _⟩
  case round =>
    obtain ⟨k, rest, more, rfl, rfl, rfl, hat⟩ := hrel
    by_cases hk : k < 67
    · obtain rfl : more = true := by rw [hat.more]; simpa using hk
      have hpw : wr.cell? ⟨p, 0, none⟩ = some (.int .i64 n) := by rw [hat.new.cell (p := ⟨p, 0, none⟩) hlt (fun x => x)]; exact hp
      have hlw : p < wr.heap.size := Nat.lt_of_lt_of_le hlt hat.new.size
      obtain ⟨rest2, hcut, hrest2⟩ : ∃ rest2, Kp (∀ W, Calls Tryz.prog 77 #[.string ⟨rest.toArray⟩, .string ⟨#[32]⟩] W fun e w' => e = .returned (.tuple #[.string ⟨(opName k).toArray⟩, .string ⟨List.toArray rest2⟩, .bool (decide (k < 66))]) ∧ ∃ n, w' = W.drewN n) ∧ Kp (k < 66 → rest2 = joinB (opNames.drop (k + 1))) := by
        by_cases h6 : k < 66
        · rw [hat.rest hk, join_next k h6, decide_eq_true h6]
          exact ⟨_, ⟨fun W => cut_some _ _ (opName_noBlank k hk) (joinB_length k hk) W⟩, ⟨fun _ => rfl⟩⟩
        · obtain rfl : k = 66 := by omega
          rw [hat.rest hk, join_last]
          exact ⟨[], ⟨fun W => (cut_none _ (opName_noBlank 66 hk) W).mono fun _ _ ⟨h, e⟩ => ⟨h, 0, e.symm⟩⟩, ⟨fun h => absurd h (by omega)⟩⟩
      have HF : Kp (∀ W, Calls Tryz.prog 78 #[.string ⟨(opName k).toArray⟩] W fun e w' => e = .returned (.int .i64 (formR (opName k))) ∧ W = w') := ⟨form_at k hk⟩
      have HP : Kp (P k = (fun (k : Nat) => ((k : Int) + 1 == n)) k) := ⟨by rw [hP.out]⟩
      generalize hnm : opName k = nm at HF hcut
      have hsz : w.heap.size < wr.heap.size := hat.lt
      have HN : Kp (opName k = nm) := ⟨hnm⟩
      have HAT : Kp _ := ⟨hat⟩
      clear hnm hat
      go_wp2_with fail
      refine (hcut.out _).mono ?_; rintro e w2 ⟨rfl, hd2⟩
      have hn2 : New wr w2 := by obtain ⟨nd, rfl⟩ := hd2; exact (Chg.refl _ _).drewN nd
      have hp2 : w2.cell? ⟨p, 0, none⟩ = some (.int .i64 n) := by rw [hn2.cell (p := ⟨p, 0, none⟩) hlw (fun x => x)]; exact hpw
      have hl2 : p < w2.heap.size := Nat.lt_of_lt_of_le hlw hn2.size
      have hs2 : w.heap.size < w2.heap.size := Nat.lt_of_lt_of_le hsz hn2.size
      have hN2 : Kp (New w w2) := ⟨HAT.out.new.new hn2⟩
      have hr2 : Kp _ := ⟨hn2.heap HAT.out.res (fun x => x)⟩
      clear hd2 hn2 hpw hlw hsz
      have hcell : ∀ X, (w2.alloc X).cell? ⟨p, 0, none⟩ = some (.int .i64 n) := fun X => by rw [World.cell?_alloc_lt _ _ ⟨p, 0, none⟩ hl2]; exact hp2
      go_wp2_with fail
      refine (codedIs_any _ _ _ _ p _ (hcell _) (by simp; omega)).mono ?_; rintro e w3 ⟨rfl, hn3⟩
      have e3 : ((k : Int) + 1 == n) = P k := by rw [HP.out]
      rw [e3]
      have c0 : w3.cell? ⟨w2.heap.size, 0, none⟩ = some (.int .i64 ((k : Int) + 1)) := by rw [hn3.cell (p := ⟨w2.heap.size, 0, none⟩) (by simp) (fun x => x), cell_known (heap_alloc_at w2 _)]; rfl
      have c1 : w3.cell? ⟨w2.heap.size, 1, none⟩ = some (.string ⟨nm.toArray⟩) := by rw [hn3.cell (p := ⟨w2.heap.size, 1, none⟩) (by simp) (fun x => x), cell_known (heap_alloc_at w2 _)]; rfl
      have c2 : w3.cell? ⟨w2.heap.size, 2, none⟩ = some (.int .i64 0) := by rw [hn3.cell (p := ⟨w2.heap.size, 2, none⟩) (by simp) (fun x => x), cell_known (heap_alloc_at w2 _)]; rfl
      have f2 : w3.frozen? ⟨w2.heap.size, 2, none⟩ = false := by rw [hn3.frozen (p := ⟨w2.heap.size, 2, none⟩) (by simp) (fun x => x)]; exact frozen_known (heap_alloc_at w2 _) _
      have hN3 : Kp (New w w3) := ⟨(hN2.out.alloc _).new hn3⟩
      have hs3 : w.heap.size < w3.heap.size := by have := hn3.size; simp at this; omega
      have hr3 : Kp _ := ⟨hn3.heap ((Below.heap_alloc w2 _ _ hs2).trans hr2.out) (fun x => x)⟩
      clear e3 hcell hp2 hl2 hn3
      rcases hPk : P k with _ | _
      · have HPk : Kp _ := ⟨hPk⟩
        clear hPk
        go_wp2
        go_roundw
        case rel => exact ⟨k + 1, rest2, decide (k < 66), rfl, rfl, by go_num, by omega, fun j hj => by rcases Nat.lt_or_ge j k with h | h; exact HAT.out.none j h; obtain rfl : j = k := by omega
                                                                                                        exact HPk.out, by congr 1; simp; omega, fun h => hrest2.out (by omega), hN3.out, hs3, hr3.out⟩
        case measure => simp [intOf]; omega
      · have HPk : Kp _ := ⟨hPk⟩
        clear hPk
        go_wp2_with fail
        refine (HF.out _).mono ?_; rintro e w' ⟨rfl, rfl⟩
        have g0 := cell_known hr3.out 0
        have g1 := cell_known hr3.out 1
        have g2 := cell_known hr3.out 2
        simp only [List.getElem?_toArray, List.getElem?_cons_zero, List.getElem?_cons_succ] at g0 g1 g2
        have k0 := frozen_known hr3.out 0
        have k1 := frozen_known hr3.out 1
        have k2 := frozen_known hr3.out 2
        have hne1 : ¬ w.heap.size = w2.heap.size := by omega
        have hne2 : ¬ w2.heap.size = w.heap.size := by omega
        have hfin : Kp (firstOp P = some k) := ⟨firstOp_some hk HPk.out HAT.out.none⟩
        go_wp2
        rw [hfin.out, opAgg, HN.out]
        refine bodyPost_ret (v := .tuple #[.agg #[.int .i64 ((k : Int) + 1), .string ⟨nm.toArray⟩, .int .i64 (formR nm)], .bool true]) ?_ rfl ⟨rfl, ?_⟩
        · simp [results, Tryz.results63, go_sem, *]
        · repeat (first | exact hN3.out | refine Chg.setCell ?_ (.inl (by first | exact Nat.le_refl _ | exact Nat.le_of_lt hs2)) _)
    · obtain rfl : more = false := by rw [hat.more]; simpa using hk
      have hfin : Kp (firstOp P = none) := ⟨firstOp_none fun j hj => hat.none j (by have := hat.le; omega)⟩
      have g0 := cell_known hat.res 0
      have g1 := cell_known hat.res 1
      have g2 := cell_known hat.res 2
      simp only [List.getElem?_toArray, List.getElem?_cons_zero, List.getElem?_cons_succ] at g0 g1 g2
      have k0 := frozen_known hat.res 0
      have k1 := frozen_known hat.res 1
      have k2 := frozen_known hat.res 2
      have hN3 : Kp (New w wr) := ⟨hat.new⟩
      clear hat
      go_wp2
      rw [hfin.out, opAgg]
      refine bodyPost_ret (v := .tuple #[.agg #[.int .i64 0, .string ⟨#[]⟩, .int .i64 0], .bool false]) ?_ rfl ⟨rfl, ?_⟩
      · simp [results, Tryz.results63, go_sem, *]
      · repeat (first | exact hN3.out | refine Chg.setCell ?_ (.inl (Nat.le_refl _)) _)

set_option maxRecDepth 100000 in
set_option maxHeartbeats 1000000 in
theorem coded_any (n : Int) (w : World) : Calls Tryz.prog 56 #[.int .i64 n] w fun e w' => e = .returned (.tuple #[opAgg (firstOp (fun (k : Nat) => ((k : Int) + 1 == n))), .bool (firstOp (fun (k : Nat) => ((k : Int) + 1 == n))).isSome]) ∧ New w w' := by
  have hmf : ∀ (fn : Fn) (first cap : Array Value) (w : World), (Instr.makeFunc fn first cap).run Tryz.prog w = .ok (.func fn first cap) w := fun _ _ _ _ => rfl
  have hc : ∀ W, Kp (W.cell? ⟨w.heap.size, 0, none⟩ = some (.int .i64 n) → w.heap.size < W.heap.size → Calls Tryz.prog 63 #[.func (.func 64) #[] #[.pointer (some ⟨w.heap.size, 0, none⟩)]] W fun e w' => e = .returned (.tuple #[opAgg (firstOp (fun (k : Nat) => ((k : Int) + 1 == n))), .bool (firstOp (fun (k : Nat) => ((k : Int) + 1 == n))).isSome]) ∧ New W w') := fun W => ⟨fun h1 h2 => firstCoded_any n w.heap.size W h1 h2⟩
  have hv : ∃ (c f : Int) (nm : ByteArray) (b : Bool), opAgg (firstOp (fun (k : Nat) => ((k : Int) + 1 == n))) = .agg #[.int .i64 c, .string nm, .int .i64 f] ∧ (firstOp (fun (k : Nat) => ((k : Int) + 1 == n))).isSome = b := by
    rcases firstOp (fun (k : Nat) => ((k : Int) + 1 == n)) with _ | k
    · exact ⟨_, _, _, _, rfl, rfl⟩
    · exact ⟨_, _, _, _, rfl, rfl⟩
  obtain ⟨c, f, nm, b, hv, hb⟩ := hv
  simp only [hv, hb] at hc ⊢
  clear hv hb
  go_enter Tryz.func56, Tryz.ntmps56
  go_wp2_with fail
  refine ((hc _).out (by rw [World.cell?_alloc_lt _ _ ⟨w.heap.size, 0, none⟩ (by simp), cell_known (heap_alloc_at w _)]; rfl) (by simp; omega)).mono ?_; rintro e w3 ⟨rfl, hn3⟩
  have hr : w3.heap[w.heap.size + 1]? = some (.cells #[.int .i64 0, .string ⟨#[]⟩, .int .i64 0] 141) := hn3.heap (by have := heap_alloc_at (w.alloc (.cells #[.int .i64 n] 3)) (.cells #[.int .i64 0, .string ⟨#[]⟩, .int .i64 0] 141); simpa using this) (fun x => x)
  have g0 := cell_known hr 0
  have g1 := cell_known hr 1
  have g2 := cell_known hr 2
  simp only [List.getElem?_toArray, List.getElem?_cons_zero, List.getElem?_cons_succ] at g0 g1 g2
  have k0 := frozen_known hr 0
  have k1 := frozen_known hr 1
  have k2 := frozen_known hr 2
  have hN : Kp (New w w3) := ⟨(((Chg.refl _ w).alloc _).alloc _).new hn3⟩
  clear hr hn3 hc
  go_wp2
  refine bodyPost_ret (v := .tuple #[.agg #[.int .i64 c, .string nm, .int .i64 f], .bool b]) ?_ rfl ⟨rfl, ?_⟩
  · simp [results, Tryz.results56, go_sem, *]
  · repeat (first | exact hN.out | refine Chg.setCell ?_ (.inl (by simp)) _)
def opCells (k : Nat) : List Value := [.int .i64 ((k : Int) + 1), .string ⟨(opName k).toArray⟩, .int .i64 (formR (opName k))]
def opsTo : Nat → List Value
  | 0 => []
  | k + 1 => opsTo k ++ opCells k
theorem opsTo_length : ∀ k, (opsTo k).length = k * 3
  | 0 => rfl
  | k + 1 => by rw [opsTo, List.length_append, opsTo_length k]; simp [opCells]; omega
theorem firstOp_code (n : Int) : firstOp (fun (k : Nat) => ((k : Int) + 1 == n)) = if 1 ≤ n ∧ n ≤ 67 then some (n - 1).toNat else none := by
  by_cases h : 1 ≤ n ∧ n ≤ 67
  · rw [if_pos h]
    exact firstOp_some (by omega) (by simp; omega) (fun j hj => by simp; omega)
  · rw [if_neg h]
    exact firstOp_none (fun j hj => by simp; omega)
theorem info_op : (Tryz.prog.info? 141).map (fun i => (i.zero, i.size, i.bytes)) = some (some (.agg #[.int .i64 0, .string ⟨#[]⟩, .int .i64 0]), 3, 32) := by kernel_rfl

/-- op.Coded by the number. -/
theorem coded_at (n : Int) (w : World) : Calls Tryz.prog 56 #[.int .i64 n] w fun e w' => e = .returned (.tuple #[opAgg (if 1 ≤ n ∧ n ≤ 67 then some (n - 1).toNat else none), .bool (decide (1 ≤ n ∧ n ≤ 67))]) ∧ New w w' := by
  refine (coded_any n w).mono ?_
  rintro e w' ⟨he, hn⟩
  refine ⟨?_, hn⟩
  rw [he, firstOp_code]
  by_cases h : 1 ≤ n ∧ n ≤ 67
  · rw [if_pos h, decide_eq_true h]; rfl
  · rw [if_neg h, decide_eq_false h]; rfl
theorem coded_in (k : Nat) (hk : k < 67) (n : Int) (hn : n = (k : Int) + 1) (w : World) : Calls Tryz.prog 56 #[.int .i64 n] w fun e w' => e = .returned (.tuple #[.agg #[.int .i64 ((k : Int) + 1), .string ⟨(opName k).toArray⟩, .int .i64 (formR (opName k))], .bool true]) ∧ New w w' := by
  have := coded_at n w
  rw [if_pos (by omega), decide_eq_true (by omega), show (n - 1).toNat = k by omega] at this
  exact this
theorem coded_out (n : Int) (hn : n < 1 ∨ 67 < n) (w : World) : Calls Tryz.prog 56 #[.int .i64 n] w fun e w' => e = .returned (.tuple #[.agg #[.int .i64 0, .string ⟨#[]⟩, .int .i64 0], .bool false]) ∧ New w w' := by
  have := coded_at n w
  rw [if_neg (by omega), decide_eq_false (by omega)] at this
  exact this
end Go.Proofs.YtplejhefhnmabaaGreatDoor
