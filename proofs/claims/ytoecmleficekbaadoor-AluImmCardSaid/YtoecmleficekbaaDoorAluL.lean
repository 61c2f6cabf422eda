/- Contracts of package alu: plain (written by gen_alu.py). -/
import Derived.Test.YtoecmleficekbaaDoorAluN
namespace Go.Proofs.YtoecmleficekbaaDoor
open Go.RowKit
set_option linter.unusedSimpArgs false
set_option linter.unusedVariables false

theorem ba_lit (s : ByteArray) (l : List UInt8) (h : s.toList = l) : s = ⟨l.toArray⟩ := by
  subst h; apply ByteArray.ext; simp [ByteArray.toList_eq]
set_option maxRecDepth 100000 in
set_option maxHeartbeats 1000000 in
theorem plain_addi (t : Bool) (b tp a p y : Int) (ha0 : 0 ≤ a) (ha1 : a < 4294967296) (n : Int) (w : World) : Calls Tryd.prog 78 #[.string ⟨#[97, 100, 100, 105]⟩, .agg #[.bool t, .int .u32 b, .int .u32 tp, .int .u32 a, .int .u16 p, .int .u16 y], .int .i32 n] w fun e w' => e = .returned (.tuple #[capV (Cp.int ((doR [97, 100, 100] a (n % 4294967296)).getD 0)), .bool true]) ∧ New w w' := by
  obtain ⟨V, hV⟩ : ∃ V, Kp ((doR [97, 100, 100] a (n % 4294967296)).getD 0 = V) := ⟨_, ⟨rfl⟩⟩
  have HN : Kp (∀ (s' : ByteArray) (W : World), s'.toList = [97, 100, 100] → Calls Tryd.prog 76 #[.string s', .int .u32 a, .int .u32 (n % 4294967296)] W fun e w' => e = .returned (.tuple #[capV (Cp.int V), .bool true]) ∧ New W w') := ⟨fun s' W hs => by
    have h := numbers_any s' a (n % 4294967296) ha0 ha1 (by omega) (by omega) W
    rw [hs, hV.out] at h; exact h⟩
  rw [hV.out]
  clear hV ha0 ha1
  go_enter Tryd.func78, Tryd.ntmps78
  repeat' (first | (with_reducible refine then_normal ?_) | (with_reducible refine then_ret ?_) | (with_reducible refine then_exit ?_) | (with_reducible refine inBlock_normal ?_) | (with_reducible refine inBlock_ret ?_) | (with_reducible refine inBlock_same ?_) | (with_reducible refine inBlock_other (by decide) ?_) | fail | go_values | go_skip | go_guarded | go_step | go_upon | (simp only [Int.not_lt, Int.not_le] at *; go_simp) | (go_ite <;> go_prune <;> (try go_simp)))
  have A0 := alloc2_0 w (.cells #[.bool t, .int .u32 b, .int .u32 tp, .int .u32 a, .int .u16 p, .int .u16 y] 33) (.cells #[.bool false, .int .u32 0, .int .u32 0, .int .u32 0, .int .u16 0, .int .u16 0] 33)
  have B0 := alloc2_1 w (.cells #[.bool t, .int .u32 b, .int .u32 tp, .int .u32 a, .int .u16 p, .int .u16 y] 33) (.cells #[.bool false, .int .u32 0, .int .u32 0, .int .u32 0, .int .u16 0, .int .u16 0] 33)
  have N0 : New w ((w.alloc (.cells #[.bool t, .int .u32 b, .int .u32 tp, .int .u32 a, .int .u16 p, .int .u16 y] 33)).alloc (.cells #[.bool false, .int .u32 0, .int .u32 0, .int .u32 0, .int .u16 0, .int .u16 0] 33)) := ((Chg.refl _ w).alloc _).alloc _
  generalize (w.alloc (.cells #[.bool t, .int .u32 b, .int .u32 tp, .int .u32 a, .int .u16 p, .int .u16 y] 33)).alloc (.cells #[.bool false, .int .u32 0, .int .u32 0, .int .u32 0, .int .u16 0, .int .u16 0] 33) = W0 at A0 B0 N0 ⊢
  have L0 : Kp (w.heap.size + 1 < W0.heap.size) := ⟨lt_of_heap B0⟩
  obtain ⟨⟨a0, a1, a2, a3, a4, a5⟩, _⟩ := blk6 A0
  obtain ⟨⟨b0, b1, b2, b3, b4, b5⟩, f0, f1, f2, f3, f4, f5⟩ := blk6 B0
  have HN0 : Kp (New w W0) := ⟨N0⟩
  have KB : Kp _ := ⟨B0⟩
  clear A0 B0 N0
  go_region_with (first | (go_at_call 76; refine (HN.out _ _ (by decide +kernel)).mono ?_; rintro e W1 ⟨rfl, hn⟩; obtain ⟨⟨b0, b1, b2, b3, b4, b5⟩, f0, f1, f2, f3, f4, f5⟩ := blk6 (hn.heap KB.out (fun x => x)); have HN1 : Kp (New w W1) := ⟨HN0.out.drew.new hn⟩; clear hn; simp only [capV, Cp.int]))
  all_goals
    repeat' (first | (with_reducible refine then_normal ?_) | (with_reducible refine then_ret ?_) | (with_reducible refine then_exit ?_) | (with_reducible refine inBlock_normal ?_) | (with_reducible refine inBlock_ret ?_) | (with_reducible refine inBlock_same ?_) | (with_reducible refine inBlock_other (by decide) ?_) | fail | go_values | go_skip | go_guarded | go_step | go_upon | (simp only [Int.not_lt, Int.not_le] at *; go_simp) | (go_ite <;> go_prune <;> (try go_simp)))
    refine bodyPost_ret (v := .tuple #[capV (Cp.int V), .bool true]) (by simp [results, Tryd.results78, go_sem, capV, Cp.int, *]) rfl ⟨rfl, ?_⟩
    repeat (first | (with_reducible exact HN1.out) | (with_reducible refine Chg.setCell ?_ (.inl (by simp)) _))
set_option maxRecDepth 100000 in
set_option maxHeartbeats 1000000 in
theorem plain_andi (t : Bool) (b tp a p y : Int) (ha0 : 0 ≤ a) (ha1 : a < 4294967296) (n : Int) (w : World) : Calls Tryd.prog 78 #[.string ⟨#[97, 110, 100, 105]⟩, .agg #[.bool t, .int .u32 b, .int .u32 tp, .int .u32 a, .int .u16 p, .int .u16 y], .int .i32 n] w fun e w' => e = .returned (.tuple #[capV (Cp.int ((doR [97, 110, 100] a (n % 4294967296)).getD 0)), .bool true]) ∧ New w w' := by
  obtain ⟨V, hV⟩ : ∃ V, Kp ((doR [97, 110, 100] a (n % 4294967296)).getD 0 = V) := ⟨_, ⟨rfl⟩⟩
  have HN : Kp (∀ (s' : ByteArray) (W : World), s'.toList = [97, 110, 100] → Calls Tryd.prog 76 #[.string s', .int .u32 a, .int .u32 (n % 4294967296)] W fun e w' => e = .returned (.tuple #[capV (Cp.int V), .bool true]) ∧ New W w') := ⟨fun s' W hs => by
    have h := numbers_any s' a (n % 4294967296) ha0 ha1 (by omega) (by omega) W
    rw [hs, hV.out] at h; exact h⟩
  rw [hV.out]
  clear hV ha0 ha1
  go_enter Tryd.func78, Tryd.ntmps78
  repeat' (first | (with_reducible refine then_normal ?_) | (with_reducible refine then_ret ?_) | (with_reducible refine then_exit ?_) | (with_reducible refine inBlock_normal ?_) | (with_reducible refine inBlock_ret ?_) | (with_reducible refine inBlock_same ?_) | (with_reducible refine inBlock_other (by decide) ?_) | fail | go_values | go_skip | go_guarded | go_step | go_upon | (simp only [Int.not_lt, Int.not_le] at *; go_simp) | (go_ite <;> go_prune <;> (try go_simp)))
  have A0 := alloc2_0 w (.cells #[.bool t, .int .u32 b, .int .u32 tp, .int .u32 a, .int .u16 p, .int .u16 y] 33) (.cells #[.bool false, .int .u32 0, .int .u32 0, .int .u32 0, .int .u16 0, .int .u16 0] 33)
  have B0 := alloc2_1 w (.cells #[.bool t, .int .u32 b, .int .u32 tp, .int .u32 a, .int .u16 p, .int .u16 y] 33) (.cells #[.bool false, .int .u32 0, .int .u32 0, .int .u32 0, .int .u16 0, .int .u16 0] 33)
  have N0 : New w ((w.alloc (.cells #[.bool t, .int .u32 b, .int .u32 tp, .int .u32 a, .int .u16 p, .int .u16 y] 33)).alloc (.cells #[.bool false, .int .u32 0, .int .u32 0, .int .u32 0, .int .u16 0, .int .u16 0] 33)) := ((Chg.refl _ w).alloc _).alloc _
  generalize (w.alloc (.cells #[.bool t, .int .u32 b, .int .u32 tp, .int .u32 a, .int .u16 p, .int .u16 y] 33)).alloc (.cells #[.bool false, .int .u32 0, .int .u32 0, .int .u32 0, .int .u16 0, .int .u16 0] 33) = W0 at A0 B0 N0 ⊢
  have L0 : Kp (w.heap.size + 1 < W0.heap.size) := ⟨lt_of_heap B0⟩
  obtain ⟨⟨a0, a1, a2, a3, a4, a5⟩, _⟩ := blk6 A0
  obtain ⟨⟨b0, b1, b2, b3, b4, b5⟩, f0, f1, f2, f3, f4, f5⟩ := blk6 B0
  have HN0 : Kp (New w W0) := ⟨N0⟩
  have KB : Kp _ := ⟨B0⟩
  clear A0 B0 N0
  go_region_with (first | (go_at_call 76; refine (HN.out _ _ (by decide +kernel)).mono ?_; rintro e W1 ⟨rfl, hn⟩; obtain ⟨⟨b0, b1, b2, b3, b4, b5⟩, f0, f1, f2, f3, f4, f5⟩ := blk6 (hn.heap KB.out (fun x => x)); have HN1 : Kp (New w W1) := ⟨HN0.out.drew.new hn⟩; clear hn; simp only [capV, Cp.int]))
  all_goals
    repeat' (first | (with_reducible refine then_normal ?_) | (with_reducible refine then_ret ?_) | (with_reducible refine then_exit ?_) | (with_reducible refine inBlock_normal ?_) | (with_reducible refine inBlock_ret ?_) | (with_reducible refine inBlock_same ?_) | (with_reducible refine inBlock_other (by decide) ?_) | fail | go_values | go_skip | go_guarded | go_step | go_upon | (simp only [Int.not_lt, Int.not_le] at *; go_simp) | (go_ite <;> go_prune <;> (try go_simp)))
    refine bodyPost_ret (v := .tuple #[capV (Cp.int V), .bool true]) (by simp [results, Tryd.results78, go_sem, capV, Cp.int, *]) rfl ⟨rfl, ?_⟩
    repeat (first | (with_reducible exact HN1.out) | (with_reducible refine Chg.setCell ?_ (.inl (by simp)) _))
set_option maxRecDepth 100000 in
set_option maxHeartbeats 1000000 in
theorem plain_ori (t : Bool) (b tp a p y : Int) (ha0 : 0 ≤ a) (ha1 : a < 4294967296) (n : Int) (w : World) : Calls Tryd.prog 78 #[.string ⟨#[111, 114, 105]⟩, .agg #[.bool t, .int .u32 b, .int .u32 tp, .int .u32 a, .int .u16 p, .int .u16 y], .int .i32 n] w fun e w' => e = .returned (.tuple #[capV (Cp.int ((doR [111, 114] a (n % 4294967296)).getD 0)), .bool true]) ∧ New w w' := by
  obtain ⟨V, hV⟩ : ∃ V, Kp ((doR [111, 114] a (n % 4294967296)).getD 0 = V) := ⟨_, ⟨rfl⟩⟩
  have HN : Kp (∀ (s' : ByteArray) (W : World), s'.toList = [111, 114] → Calls Tryd.prog 76 #[.string s', .int .u32 a, .int .u32 (n % 4294967296)] W fun e w' => e = .returned (.tuple #[capV (Cp.int V), .bool true]) ∧ New W w') := ⟨fun s' W hs => by
    have h := numbers_any s' a (n % 4294967296) ha0 ha1 (by omega) (by omega) W
    rw [hs, hV.out] at h; exact h⟩
  rw [hV.out]
  clear hV ha0 ha1
  go_enter Tryd.func78, Tryd.ntmps78
  repeat' (first | (with_reducible refine then_normal ?_) | (with_reducible refine then_ret ?_) | (with_reducible refine then_exit ?_) | (with_reducible refine inBlock_normal ?_) | (with_reducible refine inBlock_ret ?_) | (with_reducible refine inBlock_same ?_) | (with_reducible refine inBlock_other (by decide) ?_) | fail | go_values | go_skip | go_guarded | go_step | go_upon | (simp only [Int.not_lt, Int.not_le] at *; go_simp) | (go_ite <;> go_prune <;> (try go_simp)))
  have A0 := alloc2_0 w (.cells #[.bool t, .int .u32 b, .int .u32 tp, .int .u32 a, .int .u16 p, .int .u16 y] 33) (.cells #[.bool false, .int .u32 0, .int .u32 0, .int .u32 0, .int .u16 0, .int .u16 0] 33)
  have B0 := alloc2_1 w (.cells #[.bool t, .int .u32 b, .int .u32 tp, .int .u32 a, .int .u16 p, .int .u16 y] 33) (.cells #[.bool false, .int .u32 0, .int .u32 0, .int .u32 0, .int .u16 0, .int .u16 0] 33)
  have N0 : New w ((w.alloc (.cells #[.bool t, .int .u32 b, .int .u32 tp, .int .u32 a, .int .u16 p, .int .u16 y] 33)).alloc (.cells #[.bool false, .int .u32 0, .int .u32 0, .int .u32 0, .int .u16 0, .int .u16 0] 33)) := ((Chg.refl _ w).alloc _).alloc _
  generalize (w.alloc (.cells #[.bool t, .int .u32 b, .int .u32 tp, .int .u32 a, .int .u16 p, .int .u16 y] 33)).alloc (.cells #[.bool false, .int .u32 0, .int .u32 0, .int .u32 0, .int .u16 0, .int .u16 0] 33) = W0 at A0 B0 N0 ⊢
  have L0 : Kp (w.heap.size + 1 < W0.heap.size) := ⟨lt_of_heap B0⟩
  obtain ⟨⟨a0, a1, a2, a3, a4, a5⟩, _⟩ := blk6 A0
  obtain ⟨⟨b0, b1, b2, b3, b4, b5⟩, f0, f1, f2, f3, f4, f5⟩ := blk6 B0
  have HN0 : Kp (New w W0) := ⟨N0⟩
  have KB : Kp _ := ⟨B0⟩
  clear A0 B0 N0
  go_region_with (first | (go_at_call 76; refine (HN.out _ _ (by decide +kernel)).mono ?_; rintro e W1 ⟨rfl, hn⟩; obtain ⟨⟨b0, b1, b2, b3, b4, b5⟩, f0, f1, f2, f3, f4, f5⟩ := blk6 (hn.heap KB.out (fun x => x)); have HN1 : Kp (New w W1) := ⟨HN0.out.drew.new hn⟩; clear hn; simp only [capV, Cp.int]))
  all_goals
    repeat' (first | (with_reducible refine then_normal ?_) | (with_reducible refine then_ret ?_) | (with_reducible refine then_exit ?_) | (with_reducible refine inBlock_normal ?_) | (with_reducible refine inBlock_ret ?_) | (with_reducible refine inBlock_same ?_) | (with_reducible refine inBlock_other (by decide) ?_) | fail | go_values | go_skip | go_guarded | go_step | go_upon | (simp only [Int.not_lt, Int.not_le] at *; go_simp) | (go_ite <;> go_prune <;> (try go_simp)))
    refine bodyPost_ret (v := .tuple #[capV (Cp.int V), .bool true]) (by simp [results, Tryd.results78, go_sem, capV, Cp.int, *]) rfl ⟨rfl, ?_⟩
    repeat (first | (with_reducible exact HN1.out) | (with_reducible refine Chg.setCell ?_ (.inl (by simp)) _))
set_option maxRecDepth 100000 in
set_option maxHeartbeats 1000000 in
theorem plain_xori (t : Bool) (b tp a p y : Int) (ha0 : 0 ≤ a) (ha1 : a < 4294967296) (n : Int) (w : World) : Calls Tryd.prog 78 #[.string ⟨#[120, 111, 114, 105]⟩, .agg #[.bool t, .int .u32 b, .int .u32 tp, .int .u32 a, .int .u16 p, .int .u16 y], .int .i32 n] w fun e w' => e = .returned (.tuple #[capV (Cp.int ((doR [120, 111, 114] a (n % 4294967296)).getD 0)), .bool true]) ∧ New w w' := by
  obtain ⟨V, hV⟩ : ∃ V, Kp ((doR [120, 111, 114] a (n % 4294967296)).getD 0 = V) := ⟨_, ⟨rfl⟩⟩
  have HN : Kp (∀ (s' : ByteArray) (W : World), s'.toList = [120, 111, 114] → Calls Tryd.prog 76 #[.string s', .int .u32 a, .int .u32 (n % 4294967296)] W fun e w' => e = .returned (.tuple #[capV (Cp.int V), .bool true]) ∧ New W w') := ⟨fun s' W hs => by
    have h := numbers_any s' a (n % 4294967296) ha0 ha1 (by omega) (by omega) W
    rw [hs, hV.out] at h; exact h⟩
  rw [hV.out]
  clear hV ha0 ha1
  go_enter Tryd.func78, Tryd.ntmps78
  repeat' (first | (with_reducible refine then_normal ?_) | (with_reducible refine then_ret ?_) | (with_reducible refine then_exit ?_) | (with_reducible refine inBlock_normal ?_) | (with_reducible refine inBlock_ret ?_) | (with_reducible refine inBlock_same ?_) | (with_reducible refine inBlock_other (by decide) ?_) | fail | go_values | go_skip | go_guarded | go_step | go_upon | (simp only [Int.not_lt, Int.not_le] at *; go_simp) | (go_ite <;> go_prune <;> (try go_simp)))
  have A0 := alloc2_0 w (.cells #[.bool t, .int .u32 b, .int .u32 tp, .int .u32 a, .int .u16 p, .int .u16 y] 33) (.cells #[.bool false, .int .u32 0, .int .u32 0, .int .u32 0, .int .u16 0, .int .u16 0] 33)
  have B0 := alloc2_1 w (.cells #[.bool t, .int .u32 b, .int .u32 tp, .int .u32 a, .int .u16 p, .int .u16 y] 33) (.cells #[.bool false, .int .u32 0, .int .u32 0, .int .u32 0, .int .u16 0, .int .u16 0] 33)
  have N0 : New w ((w.alloc (.cells #[.bool t, .int .u32 b, .int .u32 tp, .int .u32 a, .int .u16 p, .int .u16 y] 33)).alloc (.cells #[.bool false, .int .u32 0, .int .u32 0, .int .u32 0, .int .u16 0, .int .u16 0] 33)) := ((Chg.refl _ w).alloc _).alloc _
  generalize (w.alloc (.cells #[.bool t, .int .u32 b, .int .u32 tp, .int .u32 a, .int .u16 p, .int .u16 y] 33)).alloc (.cells #[.bool false, .int .u32 0, .int .u32 0, .int .u32 0, .int .u16 0, .int .u16 0] 33) = W0 at A0 B0 N0 ⊢
  have L0 : Kp (w.heap.size + 1 < W0.heap.size) := ⟨lt_of_heap B0⟩
  obtain ⟨⟨a0, a1, a2, a3, a4, a5⟩, _⟩ := blk6 A0
  obtain ⟨⟨b0, b1, b2, b3, b4, b5⟩, f0, f1, f2, f3, f4, f5⟩ := blk6 B0
  have HN0 : Kp (New w W0) := ⟨N0⟩
  have KB : Kp _ := ⟨B0⟩
  clear A0 B0 N0
  go_region_with (first | (go_at_call 76; refine (HN.out _ _ (by decide +kernel)).mono ?_; rintro e W1 ⟨rfl, hn⟩; obtain ⟨⟨b0, b1, b2, b3, b4, b5⟩, f0, f1, f2, f3, f4, f5⟩ := blk6 (hn.heap KB.out (fun x => x)); have HN1 : Kp (New w W1) := ⟨HN0.out.drew.new hn⟩; clear hn; simp only [capV, Cp.int]))
  all_goals
    repeat' (first | (with_reducible refine then_normal ?_) | (with_reducible refine then_ret ?_) | (with_reducible refine then_exit ?_) | (with_reducible refine inBlock_normal ?_) | (with_reducible refine inBlock_ret ?_) | (with_reducible refine inBlock_same ?_) | (with_reducible refine inBlock_other (by decide) ?_) | fail | go_values | go_skip | go_guarded | go_step | go_upon | (simp only [Int.not_lt, Int.not_le] at *; go_simp) | (go_ite <;> go_prune <;> (try go_simp)))
    refine bodyPost_ret (v := .tuple #[capV (Cp.int V), .bool true]) (by simp [results, Tryd.results78, go_sem, capV, Cp.int, *]) rfl ⟨rfl, ?_⟩
    repeat (first | (with_reducible exact HN1.out) | (with_reducible refine Chg.setCell ?_ (.inl (by simp)) _))
set_option maxRecDepth 100000 in
set_option maxHeartbeats 1000000 in
theorem plain_slli (t : Bool) (b tp a p y : Int) (ha0 : 0 ≤ a) (ha1 : a < 4294967296) (n : Int) (w : World) : Calls Tryd.prog 78 #[.string ⟨#[115, 108, 108, 105]⟩, .agg #[.bool t, .int .u32 b, .int .u32 tp, .int .u32 a, .int .u16 p, .int .u16 y], .int .i32 n] w fun e w' => e = .returned (.tuple #[capV (Cp.int ((doR [115, 108, 108] a (n % 4294967296)).getD 0)), .bool true]) ∧ New w w' := by
  obtain ⟨V, hV⟩ : ∃ V, Kp ((doR [115, 108, 108] a (n % 4294967296)).getD 0 = V) := ⟨_, ⟨rfl⟩⟩
  have HN : Kp (∀ (s' : ByteArray) (W : World), s'.toList = [115, 108, 108] → Calls Tryd.prog 76 #[.string s', .int .u32 a, .int .u32 (n % 4294967296)] W fun e w' => e = .returned (.tuple #[capV (Cp.int V), .bool true]) ∧ New W w') := ⟨fun s' W hs => by
    have h := numbers_any s' a (n % 4294967296) ha0 ha1 (by omega) (by omega) W
    rw [hs, hV.out] at h; exact h⟩
  rw [hV.out]
  clear hV ha0 ha1
  go_enter Tryd.func78, Tryd.ntmps78
  repeat' (first | (with_reducible refine then_normal ?_) | (with_reducible refine then_ret ?_) | (with_reducible refine then_exit ?_) | (with_reducible refine inBlock_normal ?_) | (with_reducible refine inBlock_ret ?_) | (with_reducible refine inBlock_same ?_) | (with_reducible refine inBlock_other (by decide) ?_) | fail | go_values | go_skip | go_guarded | go_step | go_upon | (simp only [Int.not_lt, Int.not_le] at *; go_simp) | (go_ite <;> go_prune <;> (try go_simp)))
  have A0 := alloc2_0 w (.cells #[.bool t, .int .u32 b, .int .u32 tp, .int .u32 a, .int .u16 p, .int .u16 y] 33) (.cells #[.bool false, .int .u32 0, .int .u32 0, .int .u32 0, .int .u16 0, .int .u16 0] 33)
  have B0 := alloc2_1 w (.cells #[.bool t, .int .u32 b, .int .u32 tp, .int .u32 a, .int .u16 p, .int .u16 y] 33) (.cells #[.bool false, .int .u32 0, .int .u32 0, .int .u32 0, .int .u16 0, .int .u16 0] 33)
  have N0 : New w ((w.alloc (.cells #[.bool t, .int .u32 b, .int .u32 tp, .int .u32 a, .int .u16 p, .int .u16 y] 33)).alloc (.cells #[.bool false, .int .u32 0, .int .u32 0, .int .u32 0, .int .u16 0, .int .u16 0] 33)) := ((Chg.refl _ w).alloc _).alloc _
  generalize (w.alloc (.cells #[.bool t, .int .u32 b, .int .u32 tp, .int .u32 a, .int .u16 p, .int .u16 y] 33)).alloc (.cells #[.bool false, .int .u32 0, .int .u32 0, .int .u32 0, .int .u16 0, .int .u16 0] 33) = W0 at A0 B0 N0 ⊢
  have L0 : Kp (w.heap.size + 1 < W0.heap.size) := ⟨lt_of_heap B0⟩
  obtain ⟨⟨a0, a1, a2, a3, a4, a5⟩, _⟩ := blk6 A0
  obtain ⟨⟨b0, b1, b2, b3, b4, b5⟩, f0, f1, f2, f3, f4, f5⟩ := blk6 B0
  have HN0 : Kp (New w W0) := ⟨N0⟩
  have KB : Kp _ := ⟨B0⟩
  clear A0 B0 N0
  go_region_with (first | (go_at_call 76; refine (HN.out _ _ (by decide +kernel)).mono ?_; rintro e W1 ⟨rfl, hn⟩; obtain ⟨⟨b0, b1, b2, b3, b4, b5⟩, f0, f1, f2, f3, f4, f5⟩ := blk6 (hn.heap KB.out (fun x => x)); have HN1 : Kp (New w W1) := ⟨HN0.out.drew.new hn⟩; clear hn; simp only [capV, Cp.int]))
  all_goals
    repeat' (first | (with_reducible refine then_normal ?_) | (with_reducible refine then_ret ?_) | (with_reducible refine then_exit ?_) | (with_reducible refine inBlock_normal ?_) | (with_reducible refine inBlock_ret ?_) | (with_reducible refine inBlock_same ?_) | (with_reducible refine inBlock_other (by decide) ?_) | fail | go_values | go_skip | go_guarded | go_step | go_upon | (simp only [Int.not_lt, Int.not_le] at *; go_simp) | (go_ite <;> go_prune <;> (try go_simp)))
    refine bodyPost_ret (v := .tuple #[capV (Cp.int V), .bool true]) (by simp [results, Tryd.results78, go_sem, capV, Cp.int, *]) rfl ⟨rfl, ?_⟩
    repeat (first | (with_reducible exact HN1.out) | (with_reducible refine Chg.setCell ?_ (.inl (by simp)) _))
set_option maxRecDepth 100000 in
set_option maxHeartbeats 1000000 in
theorem plain_srli (t : Bool) (b tp a p y : Int) (ha0 : 0 ≤ a) (ha1 : a < 4294967296) (n : Int) (w : World) : Calls Tryd.prog 78 #[.string ⟨#[115, 114, 108, 105]⟩, .agg #[.bool t, .int .u32 b, .int .u32 tp, .int .u32 a, .int .u16 p, .int .u16 y], .int .i32 n] w fun e w' => e = .returned (.tuple #[capV (Cp.int ((doR [115, 114, 108] a (n % 4294967296)).getD 0)), .bool true]) ∧ New w w' := by
  obtain ⟨V, hV⟩ : ∃ V, Kp ((doR [115, 114, 108] a (n % 4294967296)).getD 0 = V) := ⟨_, ⟨rfl⟩⟩
  have HN : Kp (∀ (s' : ByteArray) (W : World), s'.toList = [115, 114, 108] → Calls Tryd.prog 76 #[.string s', .int .u32 a, .int .u32 (n % 4294967296)] W fun e w' => e = .returned (.tuple #[capV (Cp.int V), .bool true]) ∧ New W w') := ⟨fun s' W hs => by
    have h := numbers_any s' a (n % 4294967296) ha0 ha1 (by omega) (by omega) W
    rw [hs, hV.out] at h; exact h⟩
  rw [hV.out]
  clear hV ha0 ha1
  go_enter Tryd.func78, Tryd.ntmps78
  repeat' (first | (with_reducible refine then_normal ?_) | (with_reducible refine then_ret ?_) | (with_reducible refine then_exit ?_) | (with_reducible refine inBlock_normal ?_) | (with_reducible refine inBlock_ret ?_) | (with_reducible refine inBlock_same ?_) | (with_reducible refine inBlock_other (by decide) ?_) | fail | go_values | go_skip | go_guarded | go_step | go_upon | (simp only [Int.not_lt, Int.not_le] at *; go_simp) | (go_ite <;> go_prune <;> (try go_simp)))
  have A0 := alloc2_0 w (.cells #[.bool t, .int .u32 b, .int .u32 tp, .int .u32 a, .int .u16 p, .int .u16 y] 33) (.cells #[.bool false, .int .u32 0, .int .u32 0, .int .u32 0, .int .u16 0, .int .u16 0] 33)
  have B0 := alloc2_1 w (.cells #[.bool t, .int .u32 b, .int .u32 tp, .int .u32 a, .int .u16 p, .int .u16 y] 33) (.cells #[.bool false, .int .u32 0, .int .u32 0, .int .u32 0, .int .u16 0, .int .u16 0] 33)
  have N0 : New w ((w.alloc (.cells #[.bool t, .int .u32 b, .int .u32 tp, .int .u32 a, .int .u16 p, .int .u16 y] 33)).alloc (.cells #[.bool false, .int .u32 0, .int .u32 0, .int .u32 0, .int .u16 0, .int .u16 0] 33)) := ((Chg.refl _ w).alloc _).alloc _
  generalize (w.alloc (.cells #[.bool t, .int .u32 b, .int .u32 tp, .int .u32 a, .int .u16 p, .int .u16 y] 33)).alloc (.cells #[.bool false, .int .u32 0, .int .u32 0, .int .u32 0, .int .u16 0, .int .u16 0] 33) = W0 at A0 B0 N0 ⊢
  have L0 : Kp (w.heap.size + 1 < W0.heap.size) := ⟨lt_of_heap B0⟩
  obtain ⟨⟨a0, a1, a2, a3, a4, a5⟩, _⟩ := blk6 A0
  obtain ⟨⟨b0, b1, b2, b3, b4, b5⟩, f0, f1, f2, f3, f4, f5⟩ := blk6 B0
  have HN0 : Kp (New w W0) := ⟨N0⟩
  have KB : Kp _ := ⟨B0⟩
  clear A0 B0 N0
  go_region_with (first | (go_at_call 76; refine (HN.out _ _ (by decide +kernel)).mono ?_; rintro e W1 ⟨rfl, hn⟩; obtain ⟨⟨b0, b1, b2, b3, b4, b5⟩, f0, f1, f2, f3, f4, f5⟩ := blk6 (hn.heap KB.out (fun x => x)); have HN1 : Kp (New w W1) := ⟨HN0.out.drew.new hn⟩; clear hn; simp only [capV, Cp.int]))
  all_goals
    repeat' (first | (with_reducible refine then_normal ?_) | (with_reducible refine then_ret ?_) | (with_reducible refine then_exit ?_) | (with_reducible refine inBlock_normal ?_) | (with_reducible refine inBlock_ret ?_) | (with_reducible refine inBlock_same ?_) | (with_reducible refine inBlock_other (by decide) ?_) | fail | go_values | go_skip | go_guarded | go_step | go_upon | (simp only [Int.not_lt, Int.not_le] at *; go_simp) | (go_ite <;> go_prune <;> (try go_simp)))
    refine bodyPost_ret (v := .tuple #[capV (Cp.int V), .bool true]) (by simp [results, Tryd.results78, go_sem, capV, Cp.int, *]) rfl ⟨rfl, ?_⟩
    repeat (first | (with_reducible exact HN1.out) | (with_reducible refine Chg.setCell ?_ (.inl (by simp)) _))
set_option maxRecDepth 100000 in
set_option maxHeartbeats 1000000 in
theorem plain_slti (t : Bool) (b tp a p y : Int) (ha0 : 0 ≤ a) (ha1 : a < 4294967296) (n : Int) (w : World) : Calls Tryd.prog 78 #[.string ⟨#[115, 108, 116, 105]⟩, .agg #[.bool t, .int .u32 b, .int .u32 tp, .int .u32 a, .int .u16 p, .int .u16 y], .int .i32 n] w fun e w' => e = .returned (.tuple #[capV (Cp.int ((doR [115, 108, 116] a (n % 4294967296)).getD 0)), .bool true]) ∧ New w w' := by
  obtain ⟨V, hV⟩ : ∃ V, Kp ((doR [115, 108, 116] a (n % 4294967296)).getD 0 = V) := ⟨_, ⟨rfl⟩⟩
  have HN : Kp (∀ (s' : ByteArray) (W : World), s'.toList = [115, 108, 116] → Calls Tryd.prog 76 #[.string s', .int .u32 a, .int .u32 (n % 4294967296)] W fun e w' => e = .returned (.tuple #[capV (Cp.int V), .bool true]) ∧ New W w') := ⟨fun s' W hs => by
    have h := numbers_any s' a (n % 4294967296) ha0 ha1 (by omega) (by omega) W
    rw [hs, hV.out] at h; exact h⟩
  rw [hV.out]
  clear hV ha0 ha1
  go_enter Tryd.func78, Tryd.ntmps78
  repeat' (first | (with_reducible refine then_normal ?_) | (with_reducible refine then_ret ?_) | (with_reducible refine then_exit ?_) | (with_reducible refine inBlock_normal ?_) | (with_reducible refine inBlock_ret ?_) | (with_reducible refine inBlock_same ?_) | (with_reducible refine inBlock_other (by decide) ?_) | fail | go_values | go_skip | go_guarded | go_step | go_upon | (simp only [Int.not_lt, Int.not_le] at *; go_simp) | (go_ite <;> go_prune <;> (try go_simp)))
  have A0 := alloc2_0 w (.cells #[.bool t, .int .u32 b, .int .u32 tp, .int .u32 a, .int .u16 p, .int .u16 y] 33) (.cells #[.bool false, .int .u32 0, .int .u32 0, .int .u32 0, .int .u16 0, .int .u16 0] 33)
  have B0 := alloc2_1 w (.cells #[.bool t, .int .u32 b, .int .u32 tp, .int .u32 a, .int .u16 p, .int .u16 y] 33) (.cells #[.bool false, .int .u32 0, .int .u32 0, .int .u32 0, .int .u16 0, .int .u16 0] 33)
  have N0 : New w ((w.alloc (.cells #[.bool t, .int .u32 b, .int .u32 tp, .int .u32 a, .int .u16 p, .int .u16 y] 33)).alloc (.cells #[.bool false, .int .u32 0, .int .u32 0, .int .u32 0, .int .u16 0, .int .u16 0] 33)) := ((Chg.refl _ w).alloc _).alloc _
  generalize (w.alloc (.cells #[.bool t, .int .u32 b, .int .u32 tp, .int .u32 a, .int .u16 p, .int .u16 y] 33)).alloc (.cells #[.bool false, .int .u32 0, .int .u32 0, .int .u32 0, .int .u16 0, .int .u16 0] 33) = W0 at A0 B0 N0 ⊢
  have L0 : Kp (w.heap.size + 1 < W0.heap.size) := ⟨lt_of_heap B0⟩
  obtain ⟨⟨a0, a1, a2, a3, a4, a5⟩, _⟩ := blk6 A0
  obtain ⟨⟨b0, b1, b2, b3, b4, b5⟩, f0, f1, f2, f3, f4, f5⟩ := blk6 B0
  have HN0 : Kp (New w W0) := ⟨N0⟩
  have KB : Kp _ := ⟨B0⟩
  clear A0 B0 N0
  go_region_with (first | (go_at_call 76; refine (HN.out _ _ (by decide +kernel)).mono ?_; rintro e W1 ⟨rfl, hn⟩; obtain ⟨⟨b0, b1, b2, b3, b4, b5⟩, f0, f1, f2, f3, f4, f5⟩ := blk6 (hn.heap KB.out (fun x => x)); have HN1 : Kp (New w W1) := ⟨HN0.out.drew.new hn⟩; clear hn; simp only [capV, Cp.int]))
  all_goals
    repeat' (first | (with_reducible refine then_normal ?_) | (with_reducible refine then_ret ?_) | (with_reducible refine then_exit ?_) | (with_reducible refine inBlock_normal ?_) | (with_reducible refine inBlock_ret ?_) | (with_reducible refine inBlock_same ?_) | (with_reducible refine inBlock_other (by decide) ?_) | fail | go_values | go_skip | go_guarded | go_step | go_upon | (simp only [Int.not_lt, Int.not_le] at *; go_simp) | (go_ite <;> go_prune <;> (try go_simp)))
    refine bodyPost_ret (v := .tuple #[capV (Cp.int V), .bool true]) (by simp [results, Tryd.results78, go_sem, capV, Cp.int, *]) rfl ⟨rfl, ?_⟩
    repeat (first | (with_reducible exact HN1.out) | (with_reducible refine Chg.setCell ?_ (.inl (by simp)) _))
set_option maxRecDepth 100000 in
set_option maxHeartbeats 4000000 in
theorem plain_any (s : ByteArray) (t : Bool) (b tp a p y : Int) (ha0 : 0 ≤ a) (ha1 : a < 4294967296) (n : Int) (w : World) : Calls Tryd.prog 78 #[.string s, .agg #[.bool t, .int .u32 b, .int .u32 tp, .int .u32 a, .int .u16 p, .int .u16 y], .int .i32 n] w fun e w' => e = .returned (.tuple #[capV ((plainR s.toList ⟨t, b, tp, a, p, y⟩ n).getD Cp.nil), .bool (plainR s.toList ⟨t, b, tp, a, p, y⟩ n).isSome]) ∧ New w w' := by
  by_cases hadd : s.toList = [97, 100, 100, 105]
  · have e : plainR s.toList ⟨t, b, tp, a, p, y⟩ n = some (Cp.int ((doR [97, 100, 100] a (n % 4294967296)).getD 0)) := by rw [hadd]; rfl
    rw [e]
    obtain rfl := ba_lit s _ hadd
    exact plain_addi t b tp a p y ha0 ha1 n w
  replace hadd := beq_eq_false_iff_ne.2 hadd
  by_cases hand : s.toList = [97, 110, 100, 105]
  · have e : plainR s.toList ⟨t, b, tp, a, p, y⟩ n = some (Cp.int ((doR [97, 110, 100] a (n % 4294967296)).getD 0)) := by rw [hand]; rfl
    rw [e]
    obtain rfl := ba_lit s _ hand
    exact plain_andi t b tp a p y ha0 ha1 n w
  replace hand := beq_eq_false_iff_ne.2 hand
  by_cases hor : s.toList = [111, 114, 105]
  · have e : plainR s.toList ⟨t, b, tp, a, p, y⟩ n = some (Cp.int ((doR [111, 114] a (n % 4294967296)).getD 0)) := by rw [hor]; rfl
    rw [e]
    obtain rfl := ba_lit s _ hor
    exact plain_ori t b tp a p y ha0 ha1 n w
  replace hor := beq_eq_false_iff_ne.2 hor
  by_cases hxor : s.toList = [120, 111, 114, 105]
  · have e : plainR s.toList ⟨t, b, tp, a, p, y⟩ n = some (Cp.int ((doR [120, 111, 114] a (n % 4294967296)).getD 0)) := by rw [hxor]; rfl
    rw [e]
    obtain rfl := ba_lit s _ hxor
    exact plain_xori t b tp a p y ha0 ha1 n w
  replace hxor := beq_eq_false_iff_ne.2 hxor
  by_cases hsll : s.toList = [115, 108, 108, 105]
  · have e : plainR s.toList ⟨t, b, tp, a, p, y⟩ n = some (Cp.int ((doR [115, 108, 108] a (n % 4294967296)).getD 0)) := by rw [hsll]; rfl
    rw [e]
    obtain rfl := ba_lit s _ hsll
    exact plain_slli t b tp a p y ha0 ha1 n w
  replace hsll := beq_eq_false_iff_ne.2 hsll
  by_cases hsrl : s.toList = [115, 114, 108, 105]
  · have e : plainR s.toList ⟨t, b, tp, a, p, y⟩ n = some (Cp.int ((doR [115, 114, 108] a (n % 4294967296)).getD 0)) := by rw [hsrl]; rfl
    rw [e]
    obtain rfl := ba_lit s _ hsrl
    exact plain_srli t b tp a p y ha0 ha1 n w
  replace hsrl := beq_eq_false_iff_ne.2 hsrl
  by_cases hslt : s.toList = [115, 108, 116, 105]
  · have e : plainR s.toList ⟨t, b, tp, a, p, y⟩ n = some (Cp.int ((doR [115, 108, 116] a (n % 4294967296)).getD 0)) := by rw [hslt]; rfl
    rw [e]
    obtain rfl := ba_lit s _ hslt
    exact plain_slti t b tp a p y ha0 ha1 n w
  replace hslt := beq_eq_false_iff_ne.2 hslt
  clear ha0 ha1
  go_enter Tryd.func78, Tryd.ntmps78
  repeat' (first | (with_reducible refine then_normal ?_) | (with_reducible refine then_ret ?_) | (with_reducible refine then_exit ?_) | (with_reducible refine inBlock_normal ?_) | (with_reducible refine inBlock_ret ?_) | (with_reducible refine inBlock_same ?_) | (with_reducible refine inBlock_other (by decide) ?_) | (go_at_call 37; (with_reducible refine (capInt_any _ _).mono ?_); rintro e w9 ⟨rfl, hn⟩; obtain ⟨⟨c0, c1, c2, c3, c4, c5⟩, f0, f1, f2, f3, f4, f5⟩ := blk6 (hn.heap (alloc2_1 w _ _) (fun x => x)); have HN : Kp (New w w9) := ⟨(((Chg.refl _ w).alloc _).alloc _).new hn⟩; clear hn; simp only [capV, Cp.int]) | go_values | go_skip | go_guarded | go_step | go_upon | (simp only [Int.not_lt, Int.not_le] at *; go_simp) | (go_ite <;> go_prune <;> (try go_simp)))
  all_goals
    refine bodyPost_ret (v := .tuple #[capV ((plainR s.toList ⟨t, b, tp, a, p, y⟩ n).getD Cp.nil), .bool (plainR s.toList ⟨t, b, tp, a, p, y⟩ n).isSome]) ?_ rfl ⟨rfl, ?_⟩
    · simp [results, Tryd.results78, go_sem, capV, Cp.int, Cp.nil, plainR, *]
    · repeat (first | (with_reducible exact HN.out) | (with_reducible exact Chg.refl _ _) | (with_reducible refine Chg.alloc ?_ _) | (with_reducible refine Chg.setCell ?_ (.inl (by simp <;> omega)) _))
end Go.Proofs.YtoecmleficekbaaDoor
