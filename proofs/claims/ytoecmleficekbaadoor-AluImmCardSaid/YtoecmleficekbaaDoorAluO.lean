/- Contracts of package alu: what Do tries (written by gen_alu.py). -/
import Derived.Test.YtoecmleficekbaaDoorAluL
import Derived.Test.YtoecmleficekbaaDoorAluC
import Derived.Test.YtoecmleficekbaaDoorAluD
import Derived.Test.YtoecmleficekbaaDoorAluP
namespace Go.Proofs.YtoecmleficekbaaDoor
open Go.RowKit
set_option linter.unusedSimpArgs false
set_option linter.unusedVariables false

set_option maxRecDepth 100000 in
set_option maxHeartbeats 1000000 in
theorem aluTry1 (s : ByteArray) (t : Bool) (b tp a p y : Int) (kt : Bool) (kb ktp ka kp ky n : Int) (r1 : Cp) (q1 : Bool) (HN : Kp (∀ W, Calls Tryd.prog 76 #[.string s, .int .u32 a, .int .u32 ka] W fun e w' => e = .returned (.tuple #[capV r1, .bool q1]) ∧ New W w')) (B0 : Nat) (B1 : Nat) (B2 : Nat) (w : World) (hB0 : w.heap[B0]? = some (.cells #[.string s] 9)) (hB1 : w.heap[B1]? = some (.cells #[.bool t, .int .u32 b, .int .u32 tp, .int .u32 a, .int .u16 p, .int .u16 y] 33)) (hB2 : w.heap[B2]? = some (.cells #[.bool kt, .int .u32 kb, .int .u32 ktp, .int .u32 ka, .int .u16 kp, .int .u16 ky] 33)) :
    Calls Tryd.prog 75 #[.pointer (some ⟨B0, 0, none⟩), .pointer (some ⟨B1, 0, none⟩), .pointer (some ⟨B2, 0, none⟩)] w fun e w' => e = .returned (.tuple #[capV r1, .bool q1]) ∧ New w w' := by
  obtain ⟨rt, rb, rtp, ra, rp, ry⟩ := r1
  have lB0 := lt_of_heap hB0
  have s0 := cell_known hB0 0
  simp only [List.getElem?_toArray, List.getElem?_cons_zero] at s0
  clear hB0
  have lB1 := lt_of_heap hB1
  obtain ⟨⟨a0, a1, a2, a3, a4, a5⟩, _⟩ := blk6 hB1
  clear hB1
  have lB2 := lt_of_heap hB2
  obtain ⟨⟨k0, k1, k2, k3, k4, k5⟩, _⟩ := blk6 hB2
  clear hB2
  go_enter Tryd.func75, Tryd.ntmps75
  repeat' (first | (with_reducible refine then_normal ?_) | (with_reducible refine then_ret ?_) | (with_reducible refine then_exit ?_) | (with_reducible refine inBlock_normal ?_) | (with_reducible refine inBlock_ret ?_) | (with_reducible refine inBlock_same ?_) | (with_reducible refine inBlock_other (by decide) ?_) | fail | go_values | go_skip | go_guarded | go_step | go_upon | (simp only [Int.not_lt, Int.not_le] at *; go_simp) | (go_ite <;> go_prune <;> (try go_simp)))
  refine (HN.out _).mono ?_; rintro e w9 ⟨rfl, hn⟩
  obtain ⟨⟨c0, c1, c2, c3, c4, c5⟩, f0, f1, f2, f3, f4, f5⟩ := blk6 (hn.heap (heap_alloc_at w _) (fun x => x))
  have HN9 : Kp (New w w9) := ⟨((Chg.refl _ w).alloc _).new hn⟩
  clear hn
  simp only [capV]
  repeat' (first | (with_reducible refine then_normal ?_) | (with_reducible refine then_ret ?_) | (with_reducible refine then_exit ?_) | (with_reducible refine inBlock_normal ?_) | (with_reducible refine inBlock_ret ?_) | (with_reducible refine inBlock_same ?_) | (with_reducible refine inBlock_other (by decide) ?_) | fail | go_values | go_skip | go_guarded | go_step | go_upon | (simp only [Int.not_lt, Int.not_le] at *; go_simp) | (go_ite <;> go_prune <;> (try go_simp)))
  refine bodyPost_ret (v := .tuple #[capV ⟨rt, rb, rtp, ra, rp, ry⟩, .bool q1]) (by simp [results, Tryd.results75, go_sem, capV, *]) rfl ⟨rfl, ?_⟩
  repeat (first | (with_reducible exact HN9.out) | (with_reducible refine Chg.setCell ?_ (.inl (by simp)) _))
set_option maxRecDepth 100000 in
set_option maxHeartbeats 1000000 in
theorem aluTry2 (s : ByteArray) (t : Bool) (b tp a p y : Int) (kt : Bool) (kb ktp ka kp ky n : Int) (r2 : Cp) (q2 : Bool) (HN : Kp (∀ W, Calls Tryd.prog 78 #[.string s, .agg #[.bool t, .int .u32 b, .int .u32 tp, .int .u32 a, .int .u16 p, .int .u16 y], .int .i32 n] W fun e w' => e = .returned (.tuple #[capV r2, .bool q2]) ∧ New W w')) (B0 : Nat) (B1 : Nat) (B3 : Nat) (w : World) (hB0 : w.heap[B0]? = some (.cells #[.string s] 9)) (hB1 : w.heap[B1]? = some (.cells #[.bool t, .int .u32 b, .int .u32 tp, .int .u32 a, .int .u16 p, .int .u16 y] 33)) (hB3 : w.heap[B3]? = some (.cells #[.int .i32 n] 21)) :
    Calls Tryd.prog 77 #[.pointer (some ⟨B0, 0, none⟩), .pointer (some ⟨B1, 0, none⟩), .pointer (some ⟨B3, 0, none⟩)] w fun e w' => e = .returned (.tuple #[capV r2, .bool q2]) ∧ New w w' := by
  obtain ⟨rt, rb, rtp, ra, rp, ry⟩ := r2
  have lB0 := lt_of_heap hB0
  have s0 := cell_known hB0 0
  simp only [List.getElem?_toArray, List.getElem?_cons_zero] at s0
  clear hB0
  have lB1 := lt_of_heap hB1
  obtain ⟨⟨a0, a1, a2, a3, a4, a5⟩, _⟩ := blk6 hB1
  clear hB1
  have lB3 := lt_of_heap hB3
  have n0 := cell_known hB3 0
  simp only [List.getElem?_toArray, List.getElem?_cons_zero] at n0
  clear hB3
  go_enter Tryd.func77, Tryd.ntmps77
  repeat' (first | (with_reducible refine then_normal ?_) | (with_reducible refine then_ret ?_) | (with_reducible refine then_exit ?_) | (with_reducible refine inBlock_normal ?_) | (with_reducible refine inBlock_ret ?_) | (with_reducible refine inBlock_same ?_) | (with_reducible refine inBlock_other (by decide) ?_) | fail | go_values | go_skip | go_guarded | go_step | go_upon | (simp only [Int.not_lt, Int.not_le] at *; go_simp) | (go_ite <;> go_prune <;> (try go_simp)))
  refine (HN.out _).mono ?_; rintro e w9 ⟨rfl, hn⟩
  obtain ⟨⟨c0, c1, c2, c3, c4, c5⟩, f0, f1, f2, f3, f4, f5⟩ := blk6 (hn.heap (heap_alloc_at w _) (fun x => x))
  have HN9 : Kp (New w w9) := ⟨((Chg.refl _ w).alloc _).new hn⟩
  clear hn
  simp only [capV]
  repeat' (first | (with_reducible refine then_normal ?_) | (with_reducible refine then_ret ?_) | (with_reducible refine then_exit ?_) | (with_reducible refine inBlock_normal ?_) | (with_reducible refine inBlock_ret ?_) | (with_reducible refine inBlock_same ?_) | (with_reducible refine inBlock_other (by decide) ?_) | fail | go_values | go_skip | go_guarded | go_step | go_upon | (simp only [Int.not_lt, Int.not_le] at *; go_simp) | (go_ite <;> go_prune <;> (try go_simp)))
  refine bodyPost_ret (v := .tuple #[capV ⟨rt, rb, rtp, ra, rp, ry⟩, .bool q2]) (by simp [results, Tryd.results77, go_sem, capV, *]) rfl ⟨rfl, ?_⟩
  repeat (first | (with_reducible exact HN9.out) | (with_reducible refine Chg.setCell ?_ (.inl (by simp)) _))
set_option maxRecDepth 100000 in
set_option maxHeartbeats 1000000 in
theorem aluTry3 (s : ByteArray) (t : Bool) (b tp a p y : Int) (kt : Bool) (kb ktp ka kp ky n : Int) (r3 : Cp) (q3 : Bool) (HN : Kp (∀ W, Calls Tryd.prog 80 #[.string s, .agg #[.bool t, .int .u32 b, .int .u32 tp, .int .u32 a, .int .u16 p, .int .u16 y]] W fun e w' => e = .returned (.tuple #[capV r3, .bool q3]) ∧ New W w')) (B0 : Nat) (B1 : Nat) (w : World) (hB0 : w.heap[B0]? = some (.cells #[.string s] 9)) (hB1 : w.heap[B1]? = some (.cells #[.bool t, .int .u32 b, .int .u32 tp, .int .u32 a, .int .u16 p, .int .u16 y] 33)) :
    Calls Tryd.prog 79 #[.pointer (some ⟨B0, 0, none⟩), .pointer (some ⟨B1, 0, none⟩)] w fun e w' => e = .returned (.tuple #[capV r3, .bool q3]) ∧ New w w' := by
  obtain ⟨rt, rb, rtp, ra, rp, ry⟩ := r3
  have lB0 := lt_of_heap hB0
  have s0 := cell_known hB0 0
  simp only [List.getElem?_toArray, List.getElem?_cons_zero] at s0
  clear hB0
  have lB1 := lt_of_heap hB1
  obtain ⟨⟨a0, a1, a2, a3, a4, a5⟩, _⟩ := blk6 hB1
  clear hB1
  go_enter Tryd.func79, Tryd.ntmps79
  repeat' (first | (with_reducible refine then_normal ?_) | (with_reducible refine then_ret ?_) | (with_reducible refine then_exit ?_) | (with_reducible refine inBlock_normal ?_) | (with_reducible refine inBlock_ret ?_) | (with_reducible refine inBlock_same ?_) | (with_reducible refine inBlock_other (by decide) ?_) | fail | go_values | go_skip | go_guarded | go_step | go_upon | (simp only [Int.not_lt, Int.not_le] at *; go_simp) | (go_ite <;> go_prune <;> (try go_simp)))
  refine (HN.out _).mono ?_; rintro e w9 ⟨rfl, hn⟩
  obtain ⟨⟨c0, c1, c2, c3, c4, c5⟩, f0, f1, f2, f3, f4, f5⟩ := blk6 (hn.heap (heap_alloc_at w _) (fun x => x))
  have HN9 : Kp (New w w9) := ⟨((Chg.refl _ w).alloc _).new hn⟩
  clear hn
  simp only [capV]
  repeat' (first | (with_reducible refine then_normal ?_) | (with_reducible refine then_ret ?_) | (with_reducible refine then_exit ?_) | (with_reducible refine inBlock_normal ?_) | (with_reducible refine inBlock_ret ?_) | (with_reducible refine inBlock_same ?_) | (with_reducible refine inBlock_other (by decide) ?_) | fail | go_values | go_skip | go_guarded | go_step | go_upon | (simp only [Int.not_lt, Int.not_le] at *; go_simp) | (go_ite <;> go_prune <;> (try go_simp)))
  refine bodyPost_ret (v := .tuple #[capV ⟨rt, rb, rtp, ra, rp, ry⟩, .bool q3]) (by simp [results, Tryd.results79, go_sem, capV, *]) rfl ⟨rfl, ?_⟩
  repeat (first | (with_reducible exact HN9.out) | (with_reducible refine Chg.setCell ?_ (.inl (by simp)) _))
set_option maxRecDepth 100000 in
set_option maxHeartbeats 1000000 in
theorem aluTry4 (s : ByteArray) (t : Bool) (b tp a p y : Int) (kt : Bool) (kb ktp ka kp ky n : Int) (r4 : Cp) (q4 : Bool) (HN : Kp (∀ W, Calls Tryd.prog 82 #[.string s, .agg #[.bool t, .int .u32 b, .int .u32 tp, .int .u32 a, .int .u16 p, .int .u16 y], .agg #[.bool kt, .int .u32 kb, .int .u32 ktp, .int .u32 ka, .int .u16 kp, .int .u16 ky], .int .i32 n] W fun e w' => e = .returned (.tuple #[capV r4, .bool q4]) ∧ New W w')) (B0 : Nat) (B1 : Nat) (B2 : Nat) (B3 : Nat) (w : World) (hB0 : w.heap[B0]? = some (.cells #[.string s] 9)) (hB1 : w.heap[B1]? = some (.cells #[.bool t, .int .u32 b, .int .u32 tp, .int .u32 a, .int .u16 p, .int .u16 y] 33)) (hB2 : w.heap[B2]? = some (.cells #[.bool kt, .int .u32 kb, .int .u32 ktp, .int .u32 ka, .int .u16 kp, .int .u16 ky] 33)) (hB3 : w.heap[B3]? = some (.cells #[.int .i32 n] 21)) :
    Calls Tryd.prog 81 #[.pointer (some ⟨B0, 0, none⟩), .pointer (some ⟨B1, 0, none⟩), .pointer (some ⟨B2, 0, none⟩), .pointer (some ⟨B3, 0, none⟩)] w fun e w' => e = .returned (.tuple #[capV r4, .bool q4]) ∧ New w w' := by
  obtain ⟨rt, rb, rtp, ra, rp, ry⟩ := r4
  have lB0 := lt_of_heap hB0
  have s0 := cell_known hB0 0
  simp only [List.getElem?_toArray, List.getElem?_cons_zero] at s0
  clear hB0
  have lB1 := lt_of_heap hB1
  obtain ⟨⟨a0, a1, a2, a3, a4, a5⟩, _⟩ := blk6 hB1
  clear hB1
  have lB2 := lt_of_heap hB2
  obtain ⟨⟨k0, k1, k2, k3, k4, k5⟩, _⟩ := blk6 hB2
  clear hB2
  have lB3 := lt_of_heap hB3
  have n0 := cell_known hB3 0
  simp only [List.getElem?_toArray, List.getElem?_cons_zero] at n0
  clear hB3
  go_enter Tryd.func81, Tryd.ntmps81
  repeat' (first | (with_reducible refine then_normal ?_) | (with_reducible refine then_ret ?_) | (with_reducible refine then_exit ?_) | (with_reducible refine inBlock_normal ?_) | (with_reducible refine inBlock_ret ?_) | (with_reducible refine inBlock_same ?_) | (with_reducible refine inBlock_other (by decide) ?_) | fail | go_values | go_skip | go_guarded | go_step | go_upon | (simp only [Int.not_lt, Int.not_le] at *; go_simp) | (go_ite <;> go_prune <;> (try go_simp)))
  refine (HN.out _).mono ?_; rintro e w9 ⟨rfl, hn⟩
  obtain ⟨⟨c0, c1, c2, c3, c4, c5⟩, f0, f1, f2, f3, f4, f5⟩ := blk6 (hn.heap (heap_alloc_at w _) (fun x => x))
  have HN9 : Kp (New w w9) := ⟨((Chg.refl _ w).alloc _).new hn⟩
  clear hn
  simp only [capV]
  repeat' (first | (with_reducible refine then_normal ?_) | (with_reducible refine then_ret ?_) | (with_reducible refine then_exit ?_) | (with_reducible refine inBlock_normal ?_) | (with_reducible refine inBlock_ret ?_) | (with_reducible refine inBlock_same ?_) | (with_reducible refine inBlock_other (by decide) ?_) | fail | go_values | go_skip | go_guarded | go_step | go_upon | (simp only [Int.not_lt, Int.not_le] at *; go_simp) | (go_ite <;> go_prune <;> (try go_simp)))
  refine bodyPost_ret (v := .tuple #[capV ⟨rt, rb, rtp, ra, rp, ry⟩, .bool q4]) (by simp [results, Tryd.results81, go_sem, capV, *]) rfl ⟨rfl, ?_⟩
  repeat (first | (with_reducible exact HN9.out) | (with_reducible refine Chg.setCell ?_ (.inl (by simp)) _))
set_option maxRecDepth 100000 in
set_option maxHeartbeats 1000000 in
theorem aluTry5 (s : ByteArray) (t : Bool) (b tp a p y : Int) (kt : Bool) (kb ktp ka kp ky n : Int) (r5 : Cp) (q5 : Bool) (HN : Kp (∀ W, Calls Tryd.prog 84 #[.string s, .agg #[.bool t, .int .u32 b, .int .u32 tp, .int .u32 a, .int .u16 p, .int .u16 y], .agg #[.bool kt, .int .u32 kb, .int .u32 ktp, .int .u32 ka, .int .u16 kp, .int .u16 ky]] W fun e w' => e = .returned (.tuple #[capV r5, .bool q5]) ∧ New W w')) (B0 : Nat) (B1 : Nat) (B2 : Nat) (w : World) (hB0 : w.heap[B0]? = some (.cells #[.string s] 9)) (hB1 : w.heap[B1]? = some (.cells #[.bool t, .int .u32 b, .int .u32 tp, .int .u32 a, .int .u16 p, .int .u16 y] 33)) (hB2 : w.heap[B2]? = some (.cells #[.bool kt, .int .u32 kb, .int .u32 ktp, .int .u32 ka, .int .u16 kp, .int .u16 ky] 33)) :
    Calls Tryd.prog 83 #[.pointer (some ⟨B0, 0, none⟩), .pointer (some ⟨B1, 0, none⟩), .pointer (some ⟨B2, 0, none⟩)] w fun e w' => e = .returned (.tuple #[capV r5, .bool q5]) ∧ New w w' := by
  obtain ⟨rt, rb, rtp, ra, rp, ry⟩ := r5
  have lB0 := lt_of_heap hB0
  have s0 := cell_known hB0 0
  simp only [List.getElem?_toArray, List.getElem?_cons_zero] at s0
  clear hB0
  have lB1 := lt_of_heap hB1
  obtain ⟨⟨a0, a1, a2, a3, a4, a5⟩, _⟩ := blk6 hB1
  clear hB1
  have lB2 := lt_of_heap hB2
  obtain ⟨⟨k0, k1, k2, k3, k4, k5⟩, _⟩ := blk6 hB2
  clear hB2
  go_enter Tryd.func83, Tryd.ntmps83
  repeat' (first | (with_reducible refine then_normal ?_) | (with_reducible refine then_ret ?_) | (with_reducible refine then_exit ?_) | (with_reducible refine inBlock_normal ?_) | (with_reducible refine inBlock_ret ?_) | (with_reducible refine inBlock_same ?_) | (with_reducible refine inBlock_other (by decide) ?_) | fail | go_values | go_skip | go_guarded | go_step | go_upon | (simp only [Int.not_lt, Int.not_le] at *; go_simp) | (go_ite <;> go_prune <;> (try go_simp)))
  refine (HN.out _).mono ?_; rintro e w9 ⟨rfl, hn⟩
  obtain ⟨⟨c0, c1, c2, c3, c4, c5⟩, f0, f1, f2, f3, f4, f5⟩ := blk6 (hn.heap (heap_alloc_at w _) (fun x => x))
  have HN9 : Kp (New w w9) := ⟨((Chg.refl _ w).alloc _).new hn⟩
  clear hn
  simp only [capV]
  repeat' (first | (with_reducible refine then_normal ?_) | (with_reducible refine then_ret ?_) | (with_reducible refine then_exit ?_) | (with_reducible refine inBlock_normal ?_) | (with_reducible refine inBlock_ret ?_) | (with_reducible refine inBlock_same ?_) | (with_reducible refine inBlock_other (by decide) ?_) | fail | go_values | go_skip | go_guarded | go_step | go_upon | (simp only [Int.not_lt, Int.not_le] at *; go_simp) | (go_ite <;> go_prune <;> (try go_simp)))
  refine bodyPost_ret (v := .tuple #[capV ⟨rt, rb, rtp, ra, rp, ry⟩, .bool q5]) (by simp [results, Tryd.results83, go_sem, capV, *]) rfl ⟨rfl, ?_⟩
  repeat (first | (with_reducible exact HN9.out) | (with_reducible refine Chg.setCell ?_ (.inl (by simp)) _))
end Go.Proofs.YtoecmleficekbaaDoor
