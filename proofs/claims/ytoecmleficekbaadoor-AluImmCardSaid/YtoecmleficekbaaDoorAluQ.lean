/- Contracts of package alu: Do, Is (written by gen_alu.py). -/
import Derived.Test.YtoecmleficekbaaDoorAluO
import Derived.Test.YtoecmleficekbaaDoorGen
import Derived.Deep.RegionWith
namespace Go.Proofs.YtoecmleficekbaaDoor
open Go.RowKit
set_option linter.unusedSimpArgs false
set_option linter.unusedVariables false

set_option maxRecDepth 100000 in
set_option maxHeartbeats 2000000 in
theorem aluDo_1 (s : ByteArray) (t : Bool) (b tp a p y : Int) (kt : Bool) (kb ktp ka kp ky n : Int) (rt : Bool) (rb rtp ra rp ry : Int) (HN1 : Kp (∀ W, Calls Tryd.prog 76 #[.string s, .int .u32 a, .int .u32 ka] W fun e w' => e = .returned (.tuple #[capV ⟨rt, rb, rtp, ra, rp, ry⟩, .bool true]) ∧ New W w')) (w : World) :
    Calls Tryd.prog 39 #[.string s, .agg #[.bool t, .int .u32 b, .int .u32 tp, .int .u32 a, .int .u16 p, .int .u16 y], .agg #[.bool kt, .int .u32 kb, .int .u32 ktp, .int .u32 ka, .int .u16 kp, .int .u16 ky], .int .i32 n] w fun e w' => e = .returned (.tuple #[capV ⟨rt, rb, rtp, ra, rp, ry⟩, .nilIface]) ∧ New w w' := by
  go_enter Tryd.func39, Tryd.ntmps39
  repeat' (first | (with_reducible refine then_normal ?_) | (with_reducible refine then_ret ?_) | (with_reducible refine then_exit ?_) | (with_reducible refine inBlock_normal ?_) | (with_reducible refine inBlock_ret ?_) | (with_reducible refine inBlock_same ?_) | (with_reducible refine inBlock_other (by decide) ?_) | fail | go_values | go_skip | go_guarded | go_step | go_upon | (simp only [Int.not_lt, Int.not_le] at *; go_simp) | (go_ite <;> go_prune <;> (try go_simp)))
  refine wp_loop_rounds 1 ?_
  refine gen6 ?_
  intro W0 N0 z0 k0 k1 k2 k3 k4 k5
  clear z0
  have K0 : Kp _ := ⟨k0⟩
  have K1 : Kp _ := ⟨k1⟩
  have K2 : Kp _ := ⟨k2⟩
  have K3 : Kp _ := ⟨k3⟩
  have K4 : Kp _ := ⟨k4⟩
  have K5 : Kp _ := ⟨k5⟩
  have HN0 : Kp (New w W0) := ⟨N0⟩
  clear N0 k0 k1 k2 k3 k4 k5
  have d1 := cell_known K5.out 0
  simp only [List.getElem?_toArray, List.getElem?_cons_succ, List.getElem?_cons_zero] at d1
  rw [rounds_succ]
  repeat' (first | (with_reducible refine then_normal ?_) | (with_reducible refine then_ret ?_) | (with_reducible refine then_exit ?_) | (with_reducible refine inBlock_normal ?_) | (with_reducible refine inBlock_ret ?_) | (with_reducible refine inBlock_same ?_) | (with_reducible refine inBlock_other (by decide) ?_) | fail | go_values | go_skip | go_guarded | go_step | go_upon | (simp only [Int.not_lt, Int.not_le] at *; go_simp) | (go_ite <;> go_prune <;> (try go_simp)))
  refine (aluTry1 s t b tp a p y kt kb ktp ka kp ky n ⟨rt, rb, rtp, ra, rp, ry⟩ true HN1 _ _ _ _ K0.out K1.out K2.out).mono ?_; rintro e w1 ⟨rfl, hn⟩
  clear d1
  replace K0 : Kp _ := ⟨hn.heap K0.out (fun x => x)⟩
  replace K1 : Kp _ := ⟨hn.heap K1.out (fun x => x)⟩
  replace K2 : Kp _ := ⟨hn.heap K2.out (fun x => x)⟩
  replace K3 : Kp _ := ⟨hn.heap K3.out (fun x => x)⟩
  replace K4 : Kp _ := ⟨hn.heap K4.out (fun x => x)⟩
  replace K5 : Kp _ := ⟨hn.heap K5.out (fun x => x)⟩
  replace HN0 : Kp (New w w1) := ⟨HN0.out.new hn⟩
  clear hn
  obtain ⟨⟨c0, c1, c2, c3, c4, c5⟩, f0, f1, f2, f3, f4, f5⟩ := blk6 K4.out
  have l4 := lt_of_heap K4.out
  simp only [capV]
  repeat' (first | (with_reducible refine then_normal ?_) | (with_reducible refine then_ret ?_) | (with_reducible refine then_exit ?_) | (with_reducible refine inBlock_normal ?_) | (with_reducible refine inBlock_ret ?_) | (with_reducible refine inBlock_same ?_) | (with_reducible refine inBlock_other (by decide) ?_) | fail | go_values | go_skip | go_guarded | go_step | go_upon | (simp only [Int.not_lt, Int.not_le] at *; go_simp) | (go_ite <;> go_prune <;> (try go_simp)))
  refine bodyPost_ret (v := .tuple #[capV ⟨rt, rb, rtp, ra, rp, ry⟩, .nilIface]) (by simp [results, Tryd.results39, go_sem, capV, *]) rfl ⟨rfl, ?_⟩
  repeat (first | (with_reducible exact HN0.out) | (with_reducible refine Chg.alloc ?_ _) | (with_reducible refine Chg.setCell ?_ (.inl (by simp; omega)) _))
set_option maxRecDepth 100000 in
set_option maxHeartbeats 2000000 in
theorem aluDo_2 (s : ByteArray) (t : Bool) (b tp a p y : Int) (kt : Bool) (kb ktp ka kp ky n : Int) (rt : Bool) (rb rtp ra rp ry : Int) (HN1 : Kp (∀ W, Calls Tryd.prog 76 #[.string s, .int .u32 a, .int .u32 ka] W fun e w' => e = .returned (.tuple #[capV Cp.nil, .bool false]) ∧ New W w')) (HN2 : Kp (∀ W, Calls Tryd.prog 78 #[.string s, .agg #[.bool t, .int .u32 b, .int .u32 tp, .int .u32 a, .int .u16 p, .int .u16 y], .int .i32 n] W fun e w' => e = .returned (.tuple #[capV ⟨rt, rb, rtp, ra, rp, ry⟩, .bool true]) ∧ New W w')) (w : World) :
    Calls Tryd.prog 39 #[.string s, .agg #[.bool t, .int .u32 b, .int .u32 tp, .int .u32 a, .int .u16 p, .int .u16 y], .agg #[.bool kt, .int .u32 kb, .int .u32 ktp, .int .u32 ka, .int .u16 kp, .int .u16 ky], .int .i32 n] w fun e w' => e = .returned (.tuple #[capV ⟨rt, rb, rtp, ra, rp, ry⟩, .nilIface]) ∧ New w w' := by
  go_enter Tryd.func39, Tryd.ntmps39
  repeat' (first | (with_reducible refine then_normal ?_) | (with_reducible refine then_ret ?_) | (with_reducible refine then_exit ?_) | (with_reducible refine inBlock_normal ?_) | (with_reducible refine inBlock_ret ?_) | (with_reducible refine inBlock_same ?_) | (with_reducible refine inBlock_other (by decide) ?_) | fail | go_values | go_skip | go_guarded | go_step | go_upon | (simp only [Int.not_lt, Int.not_le] at *; go_simp) | (go_ite <;> go_prune <;> (try go_simp)))
  refine wp_loop_rounds 2 ?_
  refine gen6 ?_
  intro W0 N0 z0 k0 k1 k2 k3 k4 k5
  clear z0
  have K0 : Kp _ := ⟨k0⟩
  have K1 : Kp _ := ⟨k1⟩
  have K2 : Kp _ := ⟨k2⟩
  have K3 : Kp _ := ⟨k3⟩
  have K4 : Kp _ := ⟨k4⟩
  have K5 : Kp _ := ⟨k5⟩
  have HN0 : Kp (New w W0) := ⟨N0⟩
  clear N0 k0 k1 k2 k3 k4 k5
  have d1 := cell_known K5.out 0
  simp only [List.getElem?_toArray, List.getElem?_cons_succ, List.getElem?_cons_zero] at d1
  rw [rounds_succ]
  repeat' (first | (with_reducible refine then_normal ?_) | (with_reducible refine then_ret ?_) | (with_reducible refine then_exit ?_) | (with_reducible refine inBlock_normal ?_) | (with_reducible refine inBlock_ret ?_) | (with_reducible refine inBlock_same ?_) | (with_reducible refine inBlock_other (by decide) ?_) | fail | go_values | go_skip | go_guarded | go_step | go_upon | (simp only [Int.not_lt, Int.not_le] at *; go_simp) | (go_ite <;> go_prune <;> (try go_simp)))
  refine (aluTry1 s t b tp a p y kt kb ktp ka kp ky n Cp.nil false HN1 _ _ _ _ K0.out K1.out K2.out).mono ?_; rintro e w1 ⟨rfl, hn⟩
  clear d1
  replace K0 : Kp _ := ⟨hn.heap K0.out (fun x => x)⟩
  replace K1 : Kp _ := ⟨hn.heap K1.out (fun x => x)⟩
  replace K2 : Kp _ := ⟨hn.heap K2.out (fun x => x)⟩
  replace K3 : Kp _ := ⟨hn.heap K3.out (fun x => x)⟩
  replace K4 : Kp _ := ⟨hn.heap K4.out (fun x => x)⟩
  replace K5 : Kp _ := ⟨hn.heap K5.out (fun x => x)⟩
  replace HN0 : Kp (New w w1) := ⟨HN0.out.new hn⟩
  clear hn
  simp only [capV, Cp.nil]
  repeat' (first | (with_reducible refine then_normal ?_) | (with_reducible refine then_ret ?_) | (with_reducible refine then_exit ?_) | (with_reducible refine inBlock_normal ?_) | (with_reducible refine inBlock_ret ?_) | (with_reducible refine inBlock_same ?_) | (with_reducible refine inBlock_other (by decide) ?_) | fail | go_values | go_skip | go_guarded | go_step | go_upon | (simp only [Int.not_lt, Int.not_le] at *; go_simp) | (go_ite <;> go_prune <;> (try go_simp)))
  refine gen1 ?_
  intro W1 N z k
  clear z k
  replace K0 : Kp _ := ⟨N.heap K0.out (fun x => x)⟩
  replace K1 : Kp _ := ⟨N.heap K1.out (fun x => x)⟩
  replace K2 : Kp _ := ⟨N.heap K2.out (fun x => x)⟩
  replace K3 : Kp _ := ⟨N.heap K3.out (fun x => x)⟩
  replace K4 : Kp _ := ⟨N.heap K4.out (fun x => x)⟩
  replace K5 : Kp _ := ⟨N.heap K5.out (fun x => x)⟩
  replace HN0 : Kp (New w W1) := ⟨HN0.out.new N⟩
  clear N
  have d2 := cell_known K5.out 1
  simp only [List.getElem?_toArray, List.getElem?_cons_succ, List.getElem?_cons_zero] at d2
  rw [rounds_succ]
  repeat' (first | (with_reducible refine then_normal ?_) | (with_reducible refine then_ret ?_) | (with_reducible refine then_exit ?_) | (with_reducible refine inBlock_normal ?_) | (with_reducible refine inBlock_ret ?_) | (with_reducible refine inBlock_same ?_) | (with_reducible refine inBlock_other (by decide) ?_) | fail | go_values | go_skip | go_guarded | go_step | go_upon | (simp only [Int.not_lt, Int.not_le] at *; go_simp) | (go_ite <;> go_prune <;> (try go_simp)))
  refine (aluTry2 s t b tp a p y kt kb ktp ka kp ky n ⟨rt, rb, rtp, ra, rp, ry⟩ true HN2 _ _ _ _ K0.out K1.out K3.out).mono ?_; rintro e w2 ⟨rfl, hn⟩
  clear d2
  replace K0 : Kp _ := ⟨hn.heap K0.out (fun x => x)⟩
  replace K1 : Kp _ := ⟨hn.heap K1.out (fun x => x)⟩
  replace K2 : Kp _ := ⟨hn.heap K2.out (fun x => x)⟩
  replace K3 : Kp _ := ⟨hn.heap K3.out (fun x => x)⟩
  replace K4 : Kp _ := ⟨hn.heap K4.out (fun x => x)⟩
  replace K5 : Kp _ := ⟨hn.heap K5.out (fun x => x)⟩
  replace HN0 : Kp (New w w2) := ⟨HN0.out.new hn⟩
  clear hn
  obtain ⟨⟨c0, c1, c2, c3, c4, c5⟩, f0, f1, f2, f3, f4, f5⟩ := blk6 K4.out
  have l4 := lt_of_heap K4.out
  simp only [capV]
  repeat' (first | (with_reducible refine then_normal ?_) | (with_reducible refine then_ret ?_) | (with_reducible refine then_exit ?_) | (with_reducible refine inBlock_normal ?_) | (with_reducible refine inBlock_ret ?_) | (with_reducible refine inBlock_same ?_) | (with_reducible refine inBlock_other (by decide) ?_) | fail | go_values | go_skip | go_guarded | go_step | go_upon | (simp only [Int.not_lt, Int.not_le] at *; go_simp) | (go_ite <;> go_prune <;> (try go_simp)))
  refine bodyPost_ret (v := .tuple #[capV ⟨rt, rb, rtp, ra, rp, ry⟩, .nilIface]) (by simp [results, Tryd.results39, go_sem, capV, *]) rfl ⟨rfl, ?_⟩
  repeat (first | (with_reducible exact HN0.out) | (with_reducible refine Chg.alloc ?_ _) | (with_reducible refine Chg.setCell ?_ (.inl (by simp; omega)) _))
set_option maxRecDepth 100000 in
set_option maxHeartbeats 2000000 in
theorem aluDo_3 (s : ByteArray) (t : Bool) (b tp a p y : Int) (kt : Bool) (kb ktp ka kp ky n : Int) (rt : Bool) (rb rtp ra rp ry : Int) (HN1 : Kp (∀ W, Calls Tryd.prog 76 #[.string s, .int .u32 a, .int .u32 ka] W fun e w' => e = .returned (.tuple #[capV Cp.nil, .bool false]) ∧ New W w')) (HN2 : Kp (∀ W, Calls Tryd.prog 78 #[.string s, .agg #[.bool t, .int .u32 b, .int .u32 tp, .int .u32 a, .int .u16 p, .int .u16 y], .int .i32 n] W fun e w' => e = .returned (.tuple #[capV Cp.nil, .bool false]) ∧ New W w')) (HN3 : Kp (∀ W, Calls Tryd.prog 80 #[.string s, .agg #[.bool t, .int .u32 b, .int .u32 tp, .int .u32 a, .int .u16 p, .int .u16 y]] W fun e w' => e = .returned (.tuple #[capV ⟨rt, rb, rtp, ra, rp, ry⟩, .bool true]) ∧ New W w')) (w : World) :
    Calls Tryd.prog 39 #[.string s, .agg #[.bool t, .int .u32 b, .int .u32 tp, .int .u32 a, .int .u16 p, .int .u16 y], .agg #[.bool kt, .int .u32 kb, .int .u32 ktp, .int .u32 ka, .int .u16 kp, .int .u16 ky], .int .i32 n] w fun e w' => e = .returned (.tuple #[capV ⟨rt, rb, rtp, ra, rp, ry⟩, .nilIface]) ∧ New w w' := by
  go_enter Tryd.func39, Tryd.ntmps39
  repeat' (first | (with_reducible refine then_normal ?_) | (with_reducible refine then_ret ?_) | (with_reducible refine then_exit ?_) | (with_reducible refine inBlock_normal ?_) | (with_reducible refine inBlock_ret ?_) | (with_reducible refine inBlock_same ?_) | (with_reducible refine inBlock_other (by decide) ?_) | fail | go_values | go_skip | go_guarded | go_step | go_upon | (simp only [Int.not_lt, Int.not_le] at *; go_simp) | (go_ite <;> go_prune <;> (try go_simp)))
  refine wp_loop_rounds 3 ?_
  refine gen6 ?_
  intro W0 N0 z0 k0 k1 k2 k3 k4 k5
  clear z0
  have K0 : Kp _ := ⟨k0⟩
  have K1 : Kp _ := ⟨k1⟩
  have K2 : Kp _ := ⟨k2⟩
  have K3 : Kp _ := ⟨k3⟩
  have K4 : Kp _ := ⟨k4⟩
  have K5 : Kp _ := ⟨k5⟩
  have HN0 : Kp (New w W0) := ⟨N0⟩
  clear N0 k0 k1 k2 k3 k4 k5
  have d1 := cell_known K5.out 0
  simp only [List.getElem?_toArray, List.getElem?_cons_succ, List.getElem?_cons_zero] at d1
  rw [rounds_succ]
  repeat' (first | (with_reducible refine then_normal ?_) | (with_reducible refine then_ret ?_) | (with_reducible refine then_exit ?_) | (with_reducible refine inBlock_normal ?_) | (with_reducible refine inBlock_ret ?_) | (with_reducible refine inBlock_same ?_) | (with_reducible refine inBlock_other (by decide) ?_) | fail | go_values | go_skip | go_guarded | go_step | go_upon | (simp only [Int.not_lt, Int.not_le] at *; go_simp) | (go_ite <;> go_prune <;> (try go_simp)))
  refine (aluTry1 s t b tp a p y kt kb ktp ka kp ky n Cp.nil false HN1 _ _ _ _ K0.out K1.out K2.out).mono ?_; rintro e w1 ⟨rfl, hn⟩
  clear d1
  replace K0 : Kp _ := ⟨hn.heap K0.out (fun x => x)⟩
  replace K1 : Kp _ := ⟨hn.heap K1.out (fun x => x)⟩
  replace K2 : Kp _ := ⟨hn.heap K2.out (fun x => x)⟩
  replace K3 : Kp _ := ⟨hn.heap K3.out (fun x => x)⟩
  replace K4 : Kp _ := ⟨hn.heap K4.out (fun x => x)⟩
  replace K5 : Kp _ := ⟨hn.heap K5.out (fun x => x)⟩
  replace HN0 : Kp (New w w1) := ⟨HN0.out.new hn⟩
  clear hn
  simp only [capV, Cp.nil]
  repeat' (first | (with_reducible refine then_normal ?_) | (with_reducible refine then_ret ?_) | (with_reducible refine then_exit ?_) | (with_reducible refine inBlock_normal ?_) | (with_reducible refine inBlock_ret ?_) | (with_reducible refine inBlock_same ?_) | (with_reducible refine inBlock_other (by decide) ?_) | fail | go_values | go_skip | go_guarded | go_step | go_upon | (simp only [Int.not_lt, Int.not_le] at *; go_simp) | (go_ite <;> go_prune <;> (try go_simp)))
  refine gen1 ?_
  intro W1 N z k
  clear z k
  replace K0 : Kp _ := ⟨N.heap K0.out (fun x => x)⟩
  replace K1 : Kp _ := ⟨N.heap K1.out (fun x => x)⟩
  replace K2 : Kp _ := ⟨N.heap K2.out (fun x => x)⟩
  replace K3 : Kp _ := ⟨N.heap K3.out (fun x => x)⟩
  replace K4 : Kp _ := ⟨N.heap K4.out (fun x => x)⟩
  replace K5 : Kp _ := ⟨N.heap K5.out (fun x => x)⟩
  replace HN0 : Kp (New w W1) := ⟨HN0.out.new N⟩
  clear N
  have d2 := cell_known K5.out 1
  simp only [List.getElem?_toArray, List.getElem?_cons_succ, List.getElem?_cons_zero] at d2
  rw [rounds_succ]
  repeat' (first | (with_reducible refine then_normal ?_) | (with_reducible refine then_ret ?_) | (with_reducible refine then_exit ?_) | (with_reducible refine inBlock_normal ?_) | (with_reducible refine inBlock_ret ?_) | (with_reducible refine inBlock_same ?_) | (with_reducible refine inBlock_other (by decide) ?_) | fail | go_values | go_skip | go_guarded | go_step | go_upon | (simp only [Int.not_lt, Int.not_le] at *; go_simp) | (go_ite <;> go_prune <;> (try go_simp)))
  refine (aluTry2 s t b tp a p y kt kb ktp ka kp ky n Cp.nil false HN2 _ _ _ _ K0.out K1.out K3.out).mono ?_; rintro e w2 ⟨rfl, hn⟩
  clear d2
  replace K0 : Kp _ := ⟨hn.heap K0.out (fun x => x)⟩
  replace K1 : Kp _ := ⟨hn.heap K1.out (fun x => x)⟩
  replace K2 : Kp _ := ⟨hn.heap K2.out (fun x => x)⟩
  replace K3 : Kp _ := ⟨hn.heap K3.out (fun x => x)⟩
  replace K4 : Kp _ := ⟨hn.heap K4.out (fun x => x)⟩
  replace K5 : Kp _ := ⟨hn.heap K5.out (fun x => x)⟩
  replace HN0 : Kp (New w w2) := ⟨HN0.out.new hn⟩
  clear hn
  simp only [capV, Cp.nil]
  repeat' (first | (with_reducible refine then_normal ?_) | (with_reducible refine then_ret ?_) | (with_reducible refine then_exit ?_) | (with_reducible refine inBlock_normal ?_) | (with_reducible refine inBlock_ret ?_) | (with_reducible refine inBlock_same ?_) | (with_reducible refine inBlock_other (by decide) ?_) | fail | go_values | go_skip | go_guarded | go_step | go_upon | (simp only [Int.not_lt, Int.not_le] at *; go_simp) | (go_ite <;> go_prune <;> (try go_simp)))
  refine gen1 ?_
  intro W2 N z k
  clear z k
  replace K0 : Kp _ := ⟨N.heap K0.out (fun x => x)⟩
  replace K1 : Kp _ := ⟨N.heap K1.out (fun x => x)⟩
  replace K2 : Kp _ := ⟨N.heap K2.out (fun x => x)⟩
  replace K3 : Kp _ := ⟨N.heap K3.out (fun x => x)⟩
  replace K4 : Kp _ := ⟨N.heap K4.out (fun x => x)⟩
  replace K5 : Kp _ := ⟨N.heap K5.out (fun x => x)⟩
  replace HN0 : Kp (New w W2) := ⟨HN0.out.new N⟩
  clear N
  have d3 := cell_known K5.out 2
  simp only [List.getElem?_toArray, List.getElem?_cons_succ, List.getElem?_cons_zero] at d3
  rw [rounds_succ]
  repeat' (first | (with_reducible refine then_normal ?_) | (with_reducible refine then_ret ?_) | (with_reducible refine then_exit ?_) | (with_reducible refine inBlock_normal ?_) | (with_reducible refine inBlock_ret ?_) | (with_reducible refine inBlock_same ?_) | (with_reducible refine inBlock_other (by decide) ?_) | fail | go_values | go_skip | go_guarded | go_step | go_upon | (simp only [Int.not_lt, Int.not_le] at *; go_simp) | (go_ite <;> go_prune <;> (try go_simp)))
  refine (aluTry3 s t b tp a p y kt kb ktp ka kp ky n ⟨rt, rb, rtp, ra, rp, ry⟩ true HN3 _ _ _ K0.out K1.out).mono ?_; rintro e w3 ⟨rfl, hn⟩
  clear d3
  replace K0 : Kp _ := ⟨hn.heap K0.out (fun x => x)⟩
  replace K1 : Kp _ := ⟨hn.heap K1.out (fun x => x)⟩
  replace K2 : Kp _ := ⟨hn.heap K2.out (fun x => x)⟩
  replace K3 : Kp _ := ⟨hn.heap K3.out (fun x => x)⟩
  replace K4 : Kp _ := ⟨hn.heap K4.out (fun x => x)⟩
  replace K5 : Kp _ := ⟨hn.heap K5.out (fun x => x)⟩
  replace HN0 : Kp (New w w3) := ⟨HN0.out.new hn⟩
  clear hn
  obtain ⟨⟨c0, c1, c2, c3, c4, c5⟩, f0, f1, f2, f3, f4, f5⟩ := blk6 K4.out
  have l4 := lt_of_heap K4.out
  simp only [capV]
  repeat' (first | (with_reducible refine then_normal ?_) | (with_reducible refine then_ret ?_) | (with_reducible refine then_exit ?_) | (with_reducible refine inBlock_normal ?_) | (with_reducible refine inBlock_ret ?_) | (with_reducible refine inBlock_same ?_) | (with_reducible refine inBlock_other (by decide) ?_) | fail | go_values | go_skip | go_guarded | go_step | go_upon | (simp only [Int.not_lt, Int.not_le] at *; go_simp) | (go_ite <;> go_prune <;> (try go_simp)))
  refine bodyPost_ret (v := .tuple #[capV ⟨rt, rb, rtp, ra, rp, ry⟩, .nilIface]) (by simp [results, Tryd.results39, go_sem, capV, *]) rfl ⟨rfl, ?_⟩
  repeat (first | (with_reducible exact HN0.out) | (with_reducible refine Chg.alloc ?_ _) | (with_reducible refine Chg.setCell ?_ (.inl (by simp; omega)) _))
set_option maxRecDepth 100000 in
set_option maxHeartbeats 2000000 in
theorem aluDo_4 (s : ByteArray) (t : Bool) (b tp a p y : Int) (kt : Bool) (kb ktp ka kp ky n : Int) (rt : Bool) (rb rtp ra rp ry : Int) (HN1 : Kp (∀ W, Calls Tryd.prog 76 #[.string s, .int .u32 a, .int .u32 ka] W fun e w' => e = .returned (.tuple #[capV Cp.nil, .bool false]) ∧ New W w')) (HN2 : Kp (∀ W, Calls Tryd.prog 78 #[.string s, .agg #[.bool t, .int .u32 b, .int .u32 tp, .int .u32 a, .int .u16 p, .int .u16 y], .int .i32 n] W fun e w' => e = .returned (.tuple #[capV Cp.nil, .bool false]) ∧ New W w')) (HN3 : Kp (∀ W, Calls Tryd.prog 80 #[.string s, .agg #[.bool t, .int .u32 b, .int .u32 tp, .int .u32 a, .int .u16 p, .int .u16 y]] W fun e w' => e = .returned (.tuple #[capV Cp.nil, .bool false]) ∧ New W w')) (HN4 : Kp (∀ W, Calls Tryd.prog 82 #[.string s, .agg #[.bool t, .int .u32 b, .int .u32 tp, .int .u32 a, .int .u16 p, .int .u16 y], .agg #[.bool kt, .int .u32 kb, .int .u32 ktp, .int .u32 ka, .int .u16 kp, .int .u16 ky], .int .i32 n] W fun e w' => e = .returned (.tuple #[capV ⟨rt, rb, rtp, ra, rp, ry⟩, .bool true]) ∧ New W w')) (w : World) :
    Calls Tryd.prog 39 #[.string s, .agg #[.bool t, .int .u32 b, .int .u32 tp, .int .u32 a, .int .u16 p, .int .u16 y], .agg #[.bool kt, .int .u32 kb, .int .u32 ktp, .int .u32 ka, .int .u16 kp, .int .u16 ky], .int .i32 n] w fun e w' => e = .returned (.tuple #[capV ⟨rt, rb, rtp, ra, rp, ry⟩, .nilIface]) ∧ New w w' := by
  go_enter Tryd.func39, Tryd.ntmps39
  repeat' (first | (with_reducible refine then_normal ?_) | (with_reducible refine then_ret ?_) | (with_reducible refine then_exit ?_) | (with_reducible refine inBlock_normal ?_) | (with_reducible refine inBlock_ret ?_) | (with_reducible refine inBlock_same ?_) | (with_reducible refine inBlock_other (by decide) ?_) | fail | go_values | go_skip | go_guarded | go_step | go_upon | (simp only [Int.not_lt, Int.not_le] at *; go_simp) | (go_ite <;> go_prune <;> (try go_simp)))
  refine wp_loop_rounds 4 ?_
  refine gen6 ?_
  intro W0 N0 z0 k0 k1 k2 k3 k4 k5
  clear z0
  have K0 : Kp _ := ⟨k0⟩
  have K1 : Kp _ := ⟨k1⟩
  have K2 : Kp _ := ⟨k2⟩
  have K3 : Kp _ := ⟨k3⟩
  have K4 : Kp _ := ⟨k4⟩
  have K5 : Kp _ := ⟨k5⟩
  have HN0 : Kp (New w W0) := ⟨N0⟩
  clear N0 k0 k1 k2 k3 k4 k5
  have d1 := cell_known K5.out 0
  simp only [List.getElem?_toArray, List.getElem?_cons_succ, List.getElem?_cons_zero] at d1
  rw [rounds_succ]
  repeat' (first | (with_reducible refine then_normal ?_) | (with_reducible refine then_ret ?_) | (with_reducible refine then_exit ?_) | (with_reducible refine inBlock_normal ?_) | (with_reducible refine inBlock_ret ?_) | (with_reducible refine inBlock_same ?_) | (with_reducible refine inBlock_other (by decide) ?_) | fail | go_values | go_skip | go_guarded | go_step | go_upon | (simp only [Int.not_lt, Int.not_le] at *; go_simp) | (go_ite <;> go_prune <;> (try go_simp)))
  refine (aluTry1 s t b tp a p y kt kb ktp ka kp ky n Cp.nil false HN1 _ _ _ _ K0.out K1.out K2.out).mono ?_; rintro e w1 ⟨rfl, hn⟩
  clear d1
  replace K0 : Kp _ := ⟨hn.heap K0.out (fun x => x)⟩
  replace K1 : Kp _ := ⟨hn.heap K1.out (fun x => x)⟩
  replace K2 : Kp _ := ⟨hn.heap K2.out (fun x => x)⟩
  replace K3 : Kp _ := ⟨hn.heap K3.out (fun x => x)⟩
  replace K4 : Kp _ := ⟨hn.heap K4.out (fun x => x)⟩
  replace K5 : Kp _ := ⟨hn.heap K5.out (fun x => x)⟩
  replace HN0 : Kp (New w w1) := ⟨HN0.out.new hn⟩
  clear hn
  simp only [capV, Cp.nil]
  repeat' (first | (with_reducible refine then_normal ?_) | (with_reducible refine then_ret ?_) | (with_reducible refine then_exit ?_) | (with_reducible refine inBlock_normal ?_) | (with_reducible refine inBlock_ret ?_) | (with_reducible refine inBlock_same ?_) | (with_reducible refine inBlock_other (by decide) ?_) | fail | go_values | go_skip | go_guarded | go_step | go_upon | (simp only [Int.not_lt, Int.not_le] at *; go_simp) | (go_ite <;> go_prune <;> (try go_simp)))
  refine gen1 ?_
  intro W1 N z k
  clear z k
  replace K0 : Kp _ := ⟨N.heap K0.out (fun x => x)⟩
  replace K1 : Kp _ := ⟨N.heap K1.out (fun x => x)⟩
  replace K2 : Kp _ := ⟨N.heap K2.out (fun x => x)⟩
  replace K3 : Kp _ := ⟨N.heap K3.out (fun x => x)⟩
  replace K4 : Kp _ := ⟨N.heap K4.out (fun x => x)⟩
  replace K5 : Kp _ := ⟨N.heap K5.out (fun x => x)⟩
  replace HN0 : Kp (New w W1) := ⟨HN0.out.new N⟩
  clear N
  have d2 := cell_known K5.out 1
  simp only [List.getElem?_toArray, List.getElem?_cons_succ, List.getElem?_cons_zero] at d2
  rw [rounds_succ]
  repeat' (first | (with_reducible refine then_normal ?_) | (with_reducible refine then_ret ?_) | (with_reducible refine then_exit ?_) | (with_reducible refine inBlock_normal ?_) | (with_reducible refine inBlock_ret ?_) | (with_reducible refine inBlock_same ?_) | (with_reducible refine inBlock_other (by decide) ?_) | fail | go_values | go_skip | go_guarded | go_step | go_upon | (simp only [Int.not_lt, Int.not_le] at *; go_simp) | (go_ite <;> go_prune <;> (try go_simp)))
  refine (aluTry2 s t b tp a p y kt kb ktp ka kp ky n Cp.nil false HN2 _ _ _ _ K0.out K1.out K3.out).mono ?_; rintro e w2 ⟨rfl, hn⟩
  clear d2
  replace K0 : Kp _ := ⟨hn.heap K0.out (fun x => x)⟩
  replace K1 : Kp _ := ⟨hn.heap K1.out (fun x => x)⟩
  replace K2 : Kp _ := ⟨hn.heap K2.out (fun x => x)⟩
  replace K3 : Kp _ := ⟨hn.heap K3.out (fun x => x)⟩
  replace K4 : Kp _ := ⟨hn.heap K4.out (fun x => x)⟩
  replace K5 : Kp _ := ⟨hn.heap K5.out (fun x => x)⟩
  replace HN0 : Kp (New w w2) := ⟨HN0.out.new hn⟩
  clear hn
  simp only [capV, Cp.nil]
  repeat' (first | (with_reducible refine then_normal ?_) | (with_reducible refine then_ret ?_) | (with_reducible refine then_exit ?_) | (with_reducible refine inBlock_normal ?_) | (with_reducible refine inBlock_ret ?_) | (with_reducible refine inBlock_same ?_) | (with_reducible refine inBlock_other (by decide) ?_) | fail | go_values | go_skip | go_guarded | go_step | go_upon | (simp only [Int.not_lt, Int.not_le] at *; go_simp) | (go_ite <;> go_prune <;> (try go_simp)))
  refine gen1 ?_
  intro W2 N z k
  clear z k
  replace K0 : Kp _ := ⟨N.heap K0.out (fun x => x)⟩
  replace K1 : Kp _ := ⟨N.heap K1.out (fun x => x)⟩
  replace K2 : Kp _ := ⟨N.heap K2.out (fun x => x)⟩
  replace K3 : Kp _ := ⟨N.heap K3.out (fun x => x)⟩
  replace K4 : Kp _ := ⟨N.heap K4.out (fun x => x)⟩
  replace K5 : Kp _ := ⟨N.heap K5.out (fun x => x)⟩
  replace HN0 : Kp (New w W2) := ⟨HN0.out.new N⟩
  clear N
  have d3 := cell_known K5.out 2
  simp only [List.getElem?_toArray, List.getElem?_cons_succ, List.getElem?_cons_zero] at d3
  rw [rounds_succ]
  repeat' (first | (with_reducible refine then_normal ?_) | (with_reducible refine then_ret ?_) | (with_reducible refine then_exit ?_) | (with_reducible refine inBlock_normal ?_) | (with_reducible refine inBlock_ret ?_) | (with_reducible refine inBlock_same ?_) | (with_reducible refine inBlock_other (by decide) ?_) | fail | go_values | go_skip | go_guarded | go_step | go_upon | (simp only [Int.not_lt, Int.not_le] at *; go_simp) | (go_ite <;> go_prune <;> (try go_simp)))
  refine (aluTry3 s t b tp a p y kt kb ktp ka kp ky n Cp.nil false HN3 _ _ _ K0.out K1.out).mono ?_; rintro e w3 ⟨rfl, hn⟩
  clear d3
  replace K0 : Kp _ := ⟨hn.heap K0.out (fun x => x)⟩
  replace K1 : Kp _ := ⟨hn.heap K1.out (fun x => x)⟩
  replace K2 : Kp _ := ⟨hn.heap K2.out (fun x => x)⟩
  replace K3 : Kp _ := ⟨hn.heap K3.out (fun x => x)⟩
  replace K4 : Kp _ := ⟨hn.heap K4.out (fun x => x)⟩
  replace K5 : Kp _ := ⟨hn.heap K5.out (fun x => x)⟩
  replace HN0 : Kp (New w w3) := ⟨HN0.out.new hn⟩
  clear hn
  simp only [capV, Cp.nil]
  repeat' (first | (with_reducible refine then_normal ?_) | (with_reducible refine then_ret ?_) | (with_reducible refine then_exit ?_) | (with_reducible refine inBlock_normal ?_) | (with_reducible refine inBlock_ret ?_) | (with_reducible refine inBlock_same ?_) | (with_reducible refine inBlock_other (by decide) ?_) | fail | go_values | go_skip | go_guarded | go_step | go_upon | (simp only [Int.not_lt, Int.not_le] at *; go_simp) | (go_ite <;> go_prune <;> (try go_simp)))
  refine gen1 ?_
  intro W3 N z k
  clear z k
  replace K0 : Kp _ := ⟨N.heap K0.out (fun x => x)⟩
  replace K1 : Kp _ := ⟨N.heap K1.out (fun x => x)⟩
  replace K2 : Kp _ := ⟨N.heap K2.out (fun x => x)⟩
  replace K3 : Kp _ := ⟨N.heap K3.out (fun x => x)⟩
  replace K4 : Kp _ := ⟨N.heap K4.out (fun x => x)⟩
  replace K5 : Kp _ := ⟨N.heap K5.out (fun x => x)⟩
  replace HN0 : Kp (New w W3) := ⟨HN0.out.new N⟩
  clear N
  have d4 := cell_known K5.out 3
  simp only [List.getElem?_toArray, List.getElem?_cons_succ, List.getElem?_cons_zero] at d4
  rw [rounds_succ]
  repeat' (first | (with_reducible refine then_normal ?_) | (with_reducible refine then_ret ?_) | (with_reducible refine then_exit ?_) | (with_reducible refine inBlock_normal ?_) | (with_reducible refine inBlock_ret ?_) | (with_reducible refine inBlock_same ?_) | (with_reducible refine inBlock_other (by decide) ?_) | fail | go_values | go_skip | go_guarded | go_step | go_upon | (simp only [Int.not_lt, Int.not_le] at *; go_simp) | (go_ite <;> go_prune <;> (try go_simp)))
  refine (aluTry4 s t b tp a p y kt kb ktp ka kp ky n ⟨rt, rb, rtp, ra, rp, ry⟩ true HN4 _ _ _ _ _ K0.out K1.out K2.out K3.out).mono ?_; rintro e w4 ⟨rfl, hn⟩
  clear d4
  replace K0 : Kp _ := ⟨hn.heap K0.out (fun x => x)⟩
  replace K1 : Kp _ := ⟨hn.heap K1.out (fun x => x)⟩
  replace K2 : Kp _ := ⟨hn.heap K2.out (fun x => x)⟩
  replace K3 : Kp _ := ⟨hn.heap K3.out (fun x => x)⟩
  replace K4 : Kp _ := ⟨hn.heap K4.out (fun x => x)⟩
  replace K5 : Kp _ := ⟨hn.heap K5.out (fun x => x)⟩
  replace HN0 : Kp (New w w4) := ⟨HN0.out.new hn⟩
  clear hn
  obtain ⟨⟨c0, c1, c2, c3, c4, c5⟩, f0, f1, f2, f3, f4, f5⟩ := blk6 K4.out
  have l4 := lt_of_heap K4.out
  simp only [capV]
  repeat' (first | (with_reducible refine then_normal ?_) | (with_reducible refine then_ret ?_) | (with_reducible refine then_exit ?_) | (with_reducible refine inBlock_normal ?_) | (with_reducible refine inBlock_ret ?_) | (with_reducible refine inBlock_same ?_) | (with_reducible refine inBlock_other (by decide) ?_) | fail | go_values | go_skip | go_guarded | go_step | go_upon | (simp only [Int.not_lt, Int.not_le] at *; go_simp) | (go_ite <;> go_prune <;> (try go_simp)))
  refine bodyPost_ret (v := .tuple #[capV ⟨rt, rb, rtp, ra, rp, ry⟩, .nilIface]) (by simp [results, Tryd.results39, go_sem, capV, *]) rfl ⟨rfl, ?_⟩
  repeat (first | (with_reducible exact HN0.out) | (with_reducible refine Chg.alloc ?_ _) | (with_reducible refine Chg.setCell ?_ (.inl (by simp; omega)) _))
set_option maxRecDepth 100000 in
set_option maxHeartbeats 2000000 in
theorem aluDo_5 (s : ByteArray) (t : Bool) (b tp a p y : Int) (kt : Bool) (kb ktp ka kp ky n : Int) (rt : Bool) (rb rtp ra rp ry : Int) (HN1 : Kp (∀ W, Calls Tryd.prog 76 #[.string s, .int .u32 a, .int .u32 ka] W fun e w' => e = .returned (.tuple #[capV Cp.nil, .bool false]) ∧ New W w')) (HN2 : Kp (∀ W, Calls Tryd.prog 78 #[.string s, .agg #[.bool t, .int .u32 b, .int .u32 tp, .int .u32 a, .int .u16 p, .int .u16 y], .int .i32 n] W fun e w' => e = .returned (.tuple #[capV Cp.nil, .bool false]) ∧ New W w')) (HN3 : Kp (∀ W, Calls Tryd.prog 80 #[.string s, .agg #[.bool t, .int .u32 b, .int .u32 tp, .int .u32 a, .int .u16 p, .int .u16 y]] W fun e w' => e = .returned (.tuple #[capV Cp.nil, .bool false]) ∧ New W w')) (HN4 : Kp (∀ W, Calls Tryd.prog 82 #[.string s, .agg #[.bool t, .int .u32 b, .int .u32 tp, .int .u32 a, .int .u16 p, .int .u16 y], .agg #[.bool kt, .int .u32 kb, .int .u32 ktp, .int .u32 ka, .int .u16 kp, .int .u16 ky], .int .i32 n] W fun e w' => e = .returned (.tuple #[capV Cp.nil, .bool false]) ∧ New W w')) (HN5 : Kp (∀ W, Calls Tryd.prog 84 #[.string s, .agg #[.bool t, .int .u32 b, .int .u32 tp, .int .u32 a, .int .u16 p, .int .u16 y], .agg #[.bool kt, .int .u32 kb, .int .u32 ktp, .int .u32 ka, .int .u16 kp, .int .u16 ky]] W fun e w' => e = .returned (.tuple #[capV ⟨rt, rb, rtp, ra, rp, ry⟩, .bool true]) ∧ New W w')) (w : World) :
    Calls Tryd.prog 39 #[.string s, .agg #[.bool t, .int .u32 b, .int .u32 tp, .int .u32 a, .int .u16 p, .int .u16 y], .agg #[.bool kt, .int .u32 kb, .int .u32 ktp, .int .u32 ka, .int .u16 kp, .int .u16 ky], .int .i32 n] w fun e w' => e = .returned (.tuple #[capV ⟨rt, rb, rtp, ra, rp, ry⟩, .nilIface]) ∧ New w w' := by
  go_enter Tryd.func39, Tryd.ntmps39
  repeat' (first | (with_reducible refine then_normal ?_) | (with_reducible refine then_ret ?_) | (with_reducible refine then_exit ?_) | (with_reducible refine inBlock_normal ?_) | (with_reducible refine inBlock_ret ?_) | (with_reducible refine inBlock_same ?_) | (with_reducible refine inBlock_other (by decide) ?_) | fail | go_values | go_skip | go_guarded | go_step | go_upon | (simp only [Int.not_lt, Int.not_le] at *; go_simp) | (go_ite <;> go_prune <;> (try go_simp)))
  refine wp_loop_rounds 5 ?_
  refine gen6 ?_
  intro W0 N0 z0 k0 k1 k2 k3 k4 k5
  clear z0
  have K0 : Kp _ := ⟨k0⟩
  have K1 : Kp _ := ⟨k1⟩
  have K2 : Kp _ := ⟨k2⟩
  have K3 : Kp _ := ⟨k3⟩
  have K4 : Kp _ := ⟨k4⟩
  have K5 : Kp _ := ⟨k5⟩
  have HN0 : Kp (New w W0) := ⟨N0⟩
  clear N0 k0 k1 k2 k3 k4 k5
  have d1 := cell_known K5.out 0
  simp only [List.getElem?_toArray, List.getElem?_cons_succ, List.getElem?_cons_zero] at d1
  rw [rounds_succ]
  repeat' (first | (with_reducible refine then_normal ?_) | (with_reducible refine then_ret ?_) | (with_reducible refine then_exit ?_) | (with_reducible refine inBlock_normal ?_) | (with_reducible refine inBlock_ret ?_) | (with_reducible refine inBlock_same ?_) | (with_reducible refine inBlock_other (by decide) ?_) | fail | go_values | go_skip | go_guarded | go_step | go_upon | (simp only [Int.not_lt, Int.not_le] at *; go_simp) | (go_ite <;> go_prune <;> (try go_simp)))
  refine (aluTry1 s t b tp a p y kt kb ktp ka kp ky n Cp.nil false HN1 _ _ _ _ K0.out K1.out K2.out).mono ?_; rintro e w1 ⟨rfl, hn⟩
  clear d1
  replace K0 : Kp _ := ⟨hn.heap K0.out (fun x => x)⟩
  replace K1 : Kp _ := ⟨hn.heap K1.out (fun x => x)⟩
  replace K2 : Kp _ := ⟨hn.heap K2.out (fun x => x)⟩
  replace K3 : Kp _ := ⟨hn.heap K3.out (fun x => x)⟩
  replace K4 : Kp _ := ⟨hn.heap K4.out (fun x => x)⟩
  replace K5 : Kp _ := ⟨hn.heap K5.out (fun x => x)⟩
  replace HN0 : Kp (New w w1) := ⟨HN0.out.new hn⟩
  clear hn
  simp only [capV, Cp.nil]
  repeat' (first | (with_reducible refine then_normal ?_) | (with_reducible refine then_ret ?_) | (with_reducible refine then_exit ?_) | (with_reducible refine inBlock_normal ?_) | (with_reducible refine inBlock_ret ?_) | (with_reducible refine inBlock_same ?_) | (with_reducible refine inBlock_other (by decide) ?_) | fail | go_values | go_skip | go_guarded | go_step | go_upon | (simp only [Int.not_lt, Int.not_le] at *; go_simp) | (go_ite <;> go_prune <;> (try go_simp)))
  refine gen1 ?_
  intro W1 N z k
  clear z k
  replace K0 : Kp _ := ⟨N.heap K0.out (fun x => x)⟩
  replace K1 : Kp _ := ⟨N.heap K1.out (fun x => x)⟩
  replace K2 : Kp _ := ⟨N.heap K2.out (fun x => x)⟩
  replace K3 : Kp _ := ⟨N.heap K3.out (fun x => x)⟩
  replace K4 : Kp _ := ⟨N.heap K4.out (fun x => x)⟩
  replace K5 : Kp _ := ⟨N.heap K5.out (fun x => x)⟩
  replace HN0 : Kp (New w W1) := ⟨HN0.out.new N⟩
  clear N
  have d2 := cell_known K5.out 1
  simp only [List.getElem?_toArray, List.getElem?_cons_succ, List.getElem?_cons_zero] at d2
  rw [rounds_succ]
  repeat' (first | (with_reducible refine then_normal ?_) | (with_reducible refine then_ret ?_) | (with_reducible refine then_exit ?_) | (with_reducible refine inBlock_normal ?_) | (with_reducible refine inBlock_ret ?_) | (with_reducible refine inBlock_same ?_) | (with_reducible refine inBlock_other (by decide) ?_) | fail | go_values | go_skip | go_guarded | go_step | go_upon | (simp only [Int.not_lt, Int.not_le] at *; go_simp) | (go_ite <;> go_prune <;> (try go_simp)))
  refine (aluTry2 s t b tp a p y kt kb ktp ka kp ky n Cp.nil false HN2 _ _ _ _ K0.out K1.out K3.out).mono ?_; rintro e w2 ⟨rfl, hn⟩
  clear d2
  replace K0 : Kp _ := ⟨hn.heap K0.out (fun x => x)⟩
  replace K1 : Kp _ := ⟨hn.heap K1.out (fun x => x)⟩
  replace K2 : Kp _ := ⟨hn.heap K2.out (fun x => x)⟩
  replace K3 : Kp _ := ⟨hn.heap K3.out (fun x => x)⟩
  replace K4 : Kp _ := ⟨hn.heap K4.out (fun x => x)⟩
  replace K5 : Kp _ := ⟨hn.heap K5.out (fun x => x)⟩
  replace HN0 : Kp (New w w2) := ⟨HN0.out.new hn⟩
  clear hn
  simp only [capV, Cp.nil]
  repeat' (first | (with_reducible refine then_normal ?_) | (with_reducible refine then_ret ?_) | (with_reducible refine then_exit ?_) | (with_reducible refine inBlock_normal ?_) | (with_reducible refine inBlock_ret ?_) | (with_reducible refine inBlock_same ?_) | (with_reducible refine inBlock_other (by decide) ?_) | fail | go_values | go_skip | go_guarded | go_step | go_upon | (simp only [Int.not_lt, Int.not_le] at *; go_simp) | (go_ite <;> go_prune <;> (try go_simp)))
  refine gen1 ?_
  intro W2 N z k
  clear z k
  replace K0 : Kp _ := ⟨N.heap K0.out (fun x => x)⟩
  replace K1 : Kp _ := ⟨N.heap K1.out (fun x => x)⟩
  replace K2 : Kp _ := ⟨N.heap K2.out (fun x => x)⟩
  replace K3 : Kp _ := ⟨N.heap K3.out (fun x => x)⟩
  replace K4 : Kp _ := ⟨N.heap K4.out (fun x => x)⟩
  replace K5 : Kp _ := ⟨N.heap K5.out (fun x => x)⟩
  replace HN0 : Kp (New w W2) := ⟨HN0.out.new N⟩
  clear N
  have d3 := cell_known K5.out 2
  simp only [List.getElem?_toArray, List.getElem?_cons_succ, List.getElem?_cons_zero] at d3
  rw [rounds_succ]
  repeat' (first | (with_reducible refine then_normal ?_) | (with_reducible refine then_ret ?_) | (with_reducible refine then_exit ?_) | (with_reducible refine inBlock_normal ?_) | (with_reducible refine inBlock_ret ?_) | (with_reducible refine inBlock_same ?_) | (with_reducible refine inBlock_other (by decide) ?_) | fail | go_values | go_skip | go_guarded | go_step | go_upon | (simp only [Int.not_lt, Int.not_le] at *; go_simp) | (go_ite <;> go_prune <;> (try go_simp)))
  refine (aluTry3 s t b tp a p y kt kb ktp ka kp ky n Cp.nil false HN3 _ _ _ K0.out K1.out).mono ?_; rintro e w3 ⟨rfl, hn⟩
  clear d3
  replace K0 : Kp _ := ⟨hn.heap K0.out (fun x => x)⟩
  replace K1 : Kp _ := ⟨hn.heap K1.out (fun x => x)⟩
  replace K2 : Kp _ := ⟨hn.heap K2.out (fun x => x)⟩
  replace K3 : Kp _ := ⟨hn.heap K3.out (fun x => x)⟩
  replace K4 : Kp _ := ⟨hn.heap K4.out (fun x => x)⟩
  replace K5 : Kp _ := ⟨hn.heap K5.out (fun x => x)⟩
  replace HN0 : Kp (New w w3) := ⟨HN0.out.new hn⟩
  clear hn
  simp only [capV, Cp.nil]
  repeat' (first | (with_reducible refine then_normal ?_) | (with_reducible refine then_ret ?_) | (with_reducible refine then_exit ?_) | (with_reducible refine inBlock_normal ?_) | (with_reducible refine inBlock_ret ?_) | (with_reducible refine inBlock_same ?_) | (with_reducible refine inBlock_other (by decide) ?_) | fail | go_values | go_skip | go_guarded | go_step | go_upon | (simp only [Int.not_lt, Int.not_le] at *; go_simp) | (go_ite <;> go_prune <;> (try go_simp)))
  refine gen1 ?_
  intro W3 N z k
  clear z k
  replace K0 : Kp _ := ⟨N.heap K0.out (fun x => x)⟩
  replace K1 : Kp _ := ⟨N.heap K1.out (fun x => x)⟩
  replace K2 : Kp _ := ⟨N.heap K2.out (fun x => x)⟩
  replace K3 : Kp _ := ⟨N.heap K3.out (fun x => x)⟩
  replace K4 : Kp _ := ⟨N.heap K4.out (fun x => x)⟩
  replace K5 : Kp _ := ⟨N.heap K5.out (fun x => x)⟩
  replace HN0 : Kp (New w W3) := ⟨HN0.out.new N⟩
  clear N
  have d4 := cell_known K5.out 3
  simp only [List.getElem?_toArray, List.getElem?_cons_succ, List.getElem?_cons_zero] at d4
  rw [rounds_succ]
  repeat' (first | (with_reducible refine then_normal ?_) | (with_reducible refine then_ret ?_) | (with_reducible refine then_exit ?_) | (with_reducible refine inBlock_normal ?_) | (with_reducible refine inBlock_ret ?_) | (with_reducible refine inBlock_same ?_) | (with_reducible refine inBlock_other (by decide) ?_) | fail | go_values | go_skip | go_guarded | go_step | go_upon | (simp only [Int.not_lt, Int.not_le] at *; go_simp) | (go_ite <;> go_prune <;> (try go_simp)))
  refine (aluTry4 s t b tp a p y kt kb ktp ka kp ky n Cp.nil false HN4 _ _ _ _ _ K0.out K1.out K2.out K3.out).mono ?_; rintro e w4 ⟨rfl, hn⟩
  clear d4
  replace K0 : Kp _ := ⟨hn.heap K0.out (fun x => x)⟩
  replace K1 : Kp _ := ⟨hn.heap K1.out (fun x => x)⟩
  replace K2 : Kp _ := ⟨hn.heap K2.out (fun x => x)⟩
  replace K3 : Kp _ := ⟨hn.heap K3.out (fun x => x)⟩
  replace K4 : Kp _ := ⟨hn.heap K4.out (fun x => x)⟩
  replace K5 : Kp _ := ⟨hn.heap K5.out (fun x => x)⟩
  replace HN0 : Kp (New w w4) := ⟨HN0.out.new hn⟩
  clear hn
  simp only [capV, Cp.nil]
  repeat' (first | (with_reducible refine then_normal ?_) | (with_reducible refine then_ret ?_) | (with_reducible refine then_exit ?_) | (with_reducible refine inBlock_normal ?_) | (with_reducible refine inBlock_ret ?_) | (with_reducible refine inBlock_same ?_) | (with_reducible refine inBlock_other (by decide) ?_) | fail | go_values | go_skip | go_guarded | go_step | go_upon | (simp only [Int.not_lt, Int.not_le] at *; go_simp) | (go_ite <;> go_prune <;> (try go_simp)))
  refine gen1 ?_
  intro W4 N z k
  clear z k
  replace K0 : Kp _ := ⟨N.heap K0.out (fun x => x)⟩
  replace K1 : Kp _ := ⟨N.heap K1.out (fun x => x)⟩
  replace K2 : Kp _ := ⟨N.heap K2.out (fun x => x)⟩
  replace K3 : Kp _ := ⟨N.heap K3.out (fun x => x)⟩
  replace K4 : Kp _ := ⟨N.heap K4.out (fun x => x)⟩
  replace K5 : Kp _ := ⟨N.heap K5.out (fun x => x)⟩
  replace HN0 : Kp (New w W4) := ⟨HN0.out.new N⟩
  clear N
  have d5 := cell_known K5.out 4
  simp only [List.getElem?_toArray, List.getElem?_cons_succ, List.getElem?_cons_zero] at d5
  rw [rounds_succ]
  repeat' (first | (with_reducible refine then_normal ?_) | (with_reducible refine then_ret ?_) | (with_reducible refine then_exit ?_) | (with_reducible refine inBlock_normal ?_) | (with_reducible refine inBlock_ret ?_) | (with_reducible refine inBlock_same ?_) | (with_reducible refine inBlock_other (by decide) ?_) | fail | go_values | go_skip | go_guarded | go_step | go_upon | (simp only [Int.not_lt, Int.not_le] at *; go_simp) | (go_ite <;> go_prune <;> (try go_simp)))
  refine (aluTry5 s t b tp a p y kt kb ktp ka kp ky n ⟨rt, rb, rtp, ra, rp, ry⟩ true HN5 _ _ _ _ K0.out K1.out K2.out).mono ?_; rintro e w5 ⟨rfl, hn⟩
  clear d5
  replace K0 : Kp _ := ⟨hn.heap K0.out (fun x => x)⟩
  replace K1 : Kp _ := ⟨hn.heap K1.out (fun x => x)⟩
  replace K2 : Kp _ := ⟨hn.heap K2.out (fun x => x)⟩
  replace K3 : Kp _ := ⟨hn.heap K3.out (fun x => x)⟩
  replace K4 : Kp _ := ⟨hn.heap K4.out (fun x => x)⟩
  replace K5 : Kp _ := ⟨hn.heap K5.out (fun x => x)⟩
  replace HN0 : Kp (New w w5) := ⟨HN0.out.new hn⟩
  clear hn
  obtain ⟨⟨c0, c1, c2, c3, c4, c5⟩, f0, f1, f2, f3, f4, f5⟩ := blk6 K4.out
  have l4 := lt_of_heap K4.out
  simp only [capV]
  repeat' (first | (with_reducible refine then_normal ?_) | (with_reducible refine then_ret ?_) | (with_reducible refine then_exit ?_) | (with_reducible refine inBlock_normal ?_) | (with_reducible refine inBlock_ret ?_) | (with_reducible refine inBlock_same ?_) | (with_reducible refine inBlock_other (by decide) ?_) | fail | go_values | go_skip | go_guarded | go_step | go_upon | (simp only [Int.not_lt, Int.not_le] at *; go_simp) | (go_ite <;> go_prune <;> (try go_simp)))
  refine bodyPost_ret (v := .tuple #[capV ⟨rt, rb, rtp, ra, rp, ry⟩, .nilIface]) (by simp [results, Tryd.results39, go_sem, capV, *]) rfl ⟨rfl, ?_⟩
  repeat (first | (with_reducible exact HN0.out) | (with_reducible refine Chg.alloc ?_ _) | (with_reducible refine Chg.setCell ?_ (.inl (by simp; omega)) _))
set_option maxRecDepth 100000 in
set_option maxHeartbeats 2000000 in
theorem aluDo_none (s : ByteArray) (t : Bool) (b tp a p y : Int) (kt : Bool) (kb ktp ka kp ky n : Int) (HN1 : Kp (∀ W, Calls Tryd.prog 76 #[.string s, .int .u32 a, .int .u32 ka] W fun e w' => e = .returned (.tuple #[capV Cp.nil, .bool false]) ∧ New W w')) (HN2 : Kp (∀ W, Calls Tryd.prog 78 #[.string s, .agg #[.bool t, .int .u32 b, .int .u32 tp, .int .u32 a, .int .u16 p, .int .u16 y], .int .i32 n] W fun e w' => e = .returned (.tuple #[capV Cp.nil, .bool false]) ∧ New W w')) (HN3 : Kp (∀ W, Calls Tryd.prog 80 #[.string s, .agg #[.bool t, .int .u32 b, .int .u32 tp, .int .u32 a, .int .u16 p, .int .u16 y]] W fun e w' => e = .returned (.tuple #[capV Cp.nil, .bool false]) ∧ New W w')) (HN4 : Kp (∀ W, Calls Tryd.prog 82 #[.string s, .agg #[.bool t, .int .u32 b, .int .u32 tp, .int .u32 a, .int .u16 p, .int .u16 y], .agg #[.bool kt, .int .u32 kb, .int .u32 ktp, .int .u32 ka, .int .u16 kp, .int .u16 ky], .int .i32 n] W fun e w' => e = .returned (.tuple #[capV Cp.nil, .bool false]) ∧ New W w')) (HN5 : Kp (∀ W, Calls Tryd.prog 84 #[.string s, .agg #[.bool t, .int .u32 b, .int .u32 tp, .int .u32 a, .int .u16 p, .int .u16 y], .agg #[.bool kt, .int .u32 kb, .int .u32 ktp, .int .u32 ka, .int .u16 kp, .int .u16 ky]] W fun e w' => e = .returned (.tuple #[capV Cp.nil, .bool false]) ∧ New W w')) (w : World) :
    Calls Tryd.prog 39 #[.string s, .agg #[.bool t, .int .u32 b, .int .u32 tp, .int .u32 a, .int .u16 p, .int .u16 y], .agg #[.bool kt, .int .u32 kb, .int .u32 ktp, .int .u32 ka, .int .u16 kp, .int .u16 ky], .int .i32 n] w fun e w' => (∃ F, e = .returned (.tuple #[capV Cp.nil, .iface 114 (.pointer (some ⟨F, 0, none⟩))]) ∧ w.heap.size ≤ F ∧ w'.heap[F]? = some (.cells #[.string ⟨#[97, 108, 117]⟩, .int .i64 0, .iface 105 (.int .i64 7)] 118)) ∧ New w w' := by
  go_enter Tryd.func39, Tryd.ntmps39
  repeat' (first | (with_reducible refine then_normal ?_) | (with_reducible refine then_ret ?_) | (with_reducible refine then_exit ?_) | (with_reducible refine inBlock_normal ?_) | (with_reducible refine inBlock_ret ?_) | (with_reducible refine inBlock_same ?_) | (with_reducible refine inBlock_other (by decide) ?_) | fail | go_values | go_skip | go_guarded | go_step | go_upon | (simp only [Int.not_lt, Int.not_le] at *; go_simp) | (go_ite <;> go_prune <;> (try go_simp)))
  refine wp_loop_rounds 6 ?_
  refine gen6 ?_
  intro W0 N0 z0 k0 k1 k2 k3 k4 k5
  clear z0
  have K0 : Kp _ := ⟨k0⟩
  have K1 : Kp _ := ⟨k1⟩
  have K2 : Kp _ := ⟨k2⟩
  have K3 : Kp _ := ⟨k3⟩
  have K4 : Kp _ := ⟨k4⟩
  have K5 : Kp _ := ⟨k5⟩
  have HN0 : Kp (New w W0) := ⟨N0⟩
  clear N0 k0 k1 k2 k3 k4 k5
  have d1 := cell_known K5.out 0
  simp only [List.getElem?_toArray, List.getElem?_cons_succ, List.getElem?_cons_zero] at d1
  rw [rounds_succ]
  repeat' (first | (with_reducible refine then_normal ?_) | (with_reducible refine then_ret ?_) | (with_reducible refine then_exit ?_) | (with_reducible refine inBlock_normal ?_) | (with_reducible refine inBlock_ret ?_) | (with_reducible refine inBlock_same ?_) | (with_reducible refine inBlock_other (by decide) ?_) | fail | go_values | go_skip | go_guarded | go_step | go_upon | (simp only [Int.not_lt, Int.not_le] at *; go_simp) | (go_ite <;> go_prune <;> (try go_simp)))
  refine (aluTry1 s t b tp a p y kt kb ktp ka kp ky n Cp.nil false HN1 _ _ _ _ K0.out K1.out K2.out).mono ?_; rintro e w1 ⟨rfl, hn⟩
  clear d1
  replace K0 : Kp _ := ⟨hn.heap K0.out (fun x => x)⟩
  replace K1 : Kp _ := ⟨hn.heap K1.out (fun x => x)⟩
  replace K2 : Kp _ := ⟨hn.heap K2.out (fun x => x)⟩
  replace K3 : Kp _ := ⟨hn.heap K3.out (fun x => x)⟩
  replace K4 : Kp _ := ⟨hn.heap K4.out (fun x => x)⟩
  replace K5 : Kp _ := ⟨hn.heap K5.out (fun x => x)⟩
  replace HN0 : Kp (New w w1) := ⟨HN0.out.new hn⟩
  clear hn
  simp only [capV, Cp.nil]
  repeat' (first | (with_reducible refine then_normal ?_) | (with_reducible refine then_ret ?_) | (with_reducible refine then_exit ?_) | (with_reducible refine inBlock_normal ?_) | (with_reducible refine inBlock_ret ?_) | (with_reducible refine inBlock_same ?_) | (with_reducible refine inBlock_other (by decide) ?_) | fail | go_values | go_skip | go_guarded | go_step | go_upon | (simp only [Int.not_lt, Int.not_le] at *; go_simp) | (go_ite <;> go_prune <;> (try go_simp)))
  refine gen1 ?_
  intro W1 N z k
  clear z k
  replace K0 : Kp _ := ⟨N.heap K0.out (fun x => x)⟩
  replace K1 : Kp _ := ⟨N.heap K1.out (fun x => x)⟩
  replace K2 : Kp _ := ⟨N.heap K2.out (fun x => x)⟩
  replace K3 : Kp _ := ⟨N.heap K3.out (fun x => x)⟩
  replace K4 : Kp _ := ⟨N.heap K4.out (fun x => x)⟩
  replace K5 : Kp _ := ⟨N.heap K5.out (fun x => x)⟩
  replace HN0 : Kp (New w W1) := ⟨HN0.out.new N⟩
  clear N
  have d2 := cell_known K5.out 1
  simp only [List.getElem?_toArray, List.getElem?_cons_succ, List.getElem?_cons_zero] at d2
  rw [rounds_succ]
  repeat' (first | (with_reducible refine then_normal ?_) | (with_reducible refine then_ret ?_) | (with_reducible refine then_exit ?_) | (with_reducible refine inBlock_normal ?_) | (with_reducible refine inBlock_ret ?_) | (with_reducible refine inBlock_same ?_) | (with_reducible refine inBlock_other (by decide) ?_) | fail | go_values | go_skip | go_guarded | go_step | go_upon | (simp only [Int.not_lt, Int.not_le] at *; go_simp) | (go_ite <;> go_prune <;> (try go_simp)))
  refine (aluTry2 s t b tp a p y kt kb ktp ka kp ky n Cp.nil false HN2 _ _ _ _ K0.out K1.out K3.out).mono ?_; rintro e w2 ⟨rfl, hn⟩
  clear d2
  replace K0 : Kp _ := ⟨hn.heap K0.out (fun x => x)⟩
  replace K1 : Kp _ := ⟨hn.heap K1.out (fun x => x)⟩
  replace K2 : Kp _ := ⟨hn.heap K2.out (fun x => x)⟩
  replace K3 : Kp _ := ⟨hn.heap K3.out (fun x => x)⟩
  replace K4 : Kp _ := ⟨hn.heap K4.out (fun x => x)⟩
  replace K5 : Kp _ := ⟨hn.heap K5.out (fun x => x)⟩
  replace HN0 : Kp (New w w2) := ⟨HN0.out.new hn⟩
  clear hn
  simp only [capV, Cp.nil]
  repeat' (first | (with_reducible refine then_normal ?_) | (with_reducible refine then_ret ?_) | (with_reducible refine then_exit ?_) | (with_reducible refine inBlock_normal ?_) | (with_reducible refine inBlock_ret ?_) | (with_reducible refine inBlock_same ?_) | (with_reducible refine inBlock_other (by decide) ?_) | fail | go_values | go_skip | go_guarded | go_step | go_upon | (simp only [Int.not_lt, Int.not_le] at *; go_simp) | (go_ite <;> go_prune <;> (try go_simp)))
  refine gen1 ?_
  intro W2 N z k
  clear z k
  replace K0 : Kp _ := ⟨N.heap K0.out (fun x => x)⟩
  replace K1 : Kp _ := ⟨N.heap K1.out (fun x => x)⟩
  replace K2 : Kp _ := ⟨N.heap K2.out (fun x => x)⟩
  replace K3 : Kp _ := ⟨N.heap K3.out (fun x => x)⟩
  replace K4 : Kp _ := ⟨N.heap K4.out (fun x => x)⟩
  replace K5 : Kp _ := ⟨N.heap K5.out (fun x => x)⟩
  replace HN0 : Kp (New w W2) := ⟨HN0.out.new N⟩
  clear N
  have d3 := cell_known K5.out 2
  simp only [List.getElem?_toArray, List.getElem?_cons_succ, List.getElem?_cons_zero] at d3
  rw [rounds_succ]
  repeat' (first | (with_reducible refine then_normal ?_) | (with_reducible refine then_ret ?_) | (with_reducible refine then_exit ?_) | (with_reducible refine inBlock_normal ?_) | (with_reducible refine inBlock_ret ?_) | (with_reducible refine inBlock_same ?_) | (with_reducible refine inBlock_other (by decide) ?_) | fail | go_values | go_skip | go_guarded | go_step | go_upon | (simp only [Int.not_lt, Int.not_le] at *; go_simp) | (go_ite <;> go_prune <;> (try go_simp)))
  refine (aluTry3 s t b tp a p y kt kb ktp ka kp ky n Cp.nil false HN3 _ _ _ K0.out K1.out).mono ?_; rintro e w3 ⟨rfl, hn⟩
  clear d3
  replace K0 : Kp _ := ⟨hn.heap K0.out (fun x => x)⟩
  replace K1 : Kp _ := ⟨hn.heap K1.out (fun x => x)⟩
  replace K2 : Kp _ := ⟨hn.heap K2.out (fun x => x)⟩
  replace K3 : Kp _ := ⟨hn.heap K3.out (fun x => x)⟩
  replace K4 : Kp _ := ⟨hn.heap K4.out (fun x => x)⟩
  replace K5 : Kp _ := ⟨hn.heap K5.out (fun x => x)⟩
  replace HN0 : Kp (New w w3) := ⟨HN0.out.new hn⟩
  clear hn
  simp only [capV, Cp.nil]
  repeat' (first | (with_reducible refine then_normal ?_) | (with_reducible refine then_ret ?_) | (with_reducible refine then_exit ?_) | (with_reducible refine inBlock_normal ?_) | (with_reducible refine inBlock_ret ?_) | (with_reducible refine inBlock_same ?_) | (with_reducible refine inBlock_other (by decide) ?_) | fail | go_values | go_skip | go_guarded | go_step | go_upon | (simp only [Int.not_lt, Int.not_le] at *; go_simp) | (go_ite <;> go_prune <;> (try go_simp)))
  refine gen1 ?_
  intro W3 N z k
  clear z k
  replace K0 : Kp _ := ⟨N.heap K0.out (fun x => x)⟩
  replace K1 : Kp _ := ⟨N.heap K1.out (fun x => x)⟩
  replace K2 : Kp _ := ⟨N.heap K2.out (fun x => x)⟩
  replace K3 : Kp _ := ⟨N.heap K3.out (fun x => x)⟩
  replace K4 : Kp _ := ⟨N.heap K4.out (fun x => x)⟩
  replace K5 : Kp _ := ⟨N.heap K5.out (fun x => x)⟩
  replace HN0 : Kp (New w W3) := ⟨HN0.out.new N⟩
  clear N
  have d4 := cell_known K5.out 3
  simp only [List.getElem?_toArray, List.getElem?_cons_succ, List.getElem?_cons_zero] at d4
  rw [rounds_succ]
  repeat' (first | (with_reducible refine then_normal ?_) | (with_reducible refine then_ret ?_) | (with_reducible refine then_exit ?_) | (with_reducible refine inBlock_normal ?_) | (with_reducible refine inBlock_ret ?_) | (with_reducible refine inBlock_same ?_) | (with_reducible refine inBlock_other (by decide) ?_) | fail | go_values | go_skip | go_guarded | go_step | go_upon | (simp only [Int.not_lt, Int.not_le] at *; go_simp) | (go_ite <;> go_prune <;> (try go_simp)))
  refine (aluTry4 s t b tp a p y kt kb ktp ka kp ky n Cp.nil false HN4 _ _ _ _ _ K0.out K1.out K2.out K3.out).mono ?_; rintro e w4 ⟨rfl, hn⟩
  clear d4
  replace K0 : Kp _ := ⟨hn.heap K0.out (fun x => x)⟩
  replace K1 : Kp _ := ⟨hn.heap K1.out (fun x => x)⟩
  replace K2 : Kp _ := ⟨hn.heap K2.out (fun x => x)⟩
  replace K3 : Kp _ := ⟨hn.heap K3.out (fun x => x)⟩
  replace K4 : Kp _ := ⟨hn.heap K4.out (fun x => x)⟩
  replace K5 : Kp _ := ⟨hn.heap K5.out (fun x => x)⟩
  replace HN0 : Kp (New w w4) := ⟨HN0.out.new hn⟩
  clear hn
  simp only [capV, Cp.nil]
  repeat' (first | (with_reducible refine then_normal ?_) | (with_reducible refine then_ret ?_) | (with_reducible refine then_exit ?_) | (with_reducible refine inBlock_normal ?_) | (with_reducible refine inBlock_ret ?_) | (with_reducible refine inBlock_same ?_) | (with_reducible refine inBlock_other (by decide) ?_) | fail | go_values | go_skip | go_guarded | go_step | go_upon | (simp only [Int.not_lt, Int.not_le] at *; go_simp) | (go_ite <;> go_prune <;> (try go_simp)))
  refine gen1 ?_
  intro W4 N z k
  clear z k
  replace K0 : Kp _ := ⟨N.heap K0.out (fun x => x)⟩
  replace K1 : Kp _ := ⟨N.heap K1.out (fun x => x)⟩
  replace K2 : Kp _ := ⟨N.heap K2.out (fun x => x)⟩
  replace K3 : Kp _ := ⟨N.heap K3.out (fun x => x)⟩
  replace K4 : Kp _ := ⟨N.heap K4.out (fun x => x)⟩
  replace K5 : Kp _ := ⟨N.heap K5.out (fun x => x)⟩
  replace HN0 : Kp (New w W4) := ⟨HN0.out.new N⟩
  clear N
  have d5 := cell_known K5.out 4
  simp only [List.getElem?_toArray, List.getElem?_cons_succ, List.getElem?_cons_zero] at d5
  rw [rounds_succ]
  repeat' (first | (with_reducible refine then_normal ?_) | (with_reducible refine then_ret ?_) | (with_reducible refine then_exit ?_) | (with_reducible refine inBlock_normal ?_) | (with_reducible refine inBlock_ret ?_) | (with_reducible refine inBlock_same ?_) | (with_reducible refine inBlock_other (by decide) ?_) | fail | go_values | go_skip | go_guarded | go_step | go_upon | (simp only [Int.not_lt, Int.not_le] at *; go_simp) | (go_ite <;> go_prune <;> (try go_simp)))
  refine (aluTry5 s t b tp a p y kt kb ktp ka kp ky n Cp.nil false HN5 _ _ _ _ K0.out K1.out K2.out).mono ?_; rintro e w5 ⟨rfl, hn⟩
  clear d5
  replace K0 : Kp _ := ⟨hn.heap K0.out (fun x => x)⟩
  replace K1 : Kp _ := ⟨hn.heap K1.out (fun x => x)⟩
  replace K2 : Kp _ := ⟨hn.heap K2.out (fun x => x)⟩
  replace K3 : Kp _ := ⟨hn.heap K3.out (fun x => x)⟩
  replace K4 : Kp _ := ⟨hn.heap K4.out (fun x => x)⟩
  replace K5 : Kp _ := ⟨hn.heap K5.out (fun x => x)⟩
  replace HN0 : Kp (New w w5) := ⟨HN0.out.new hn⟩
  clear hn
  simp only [capV, Cp.nil]
  repeat' (first | (with_reducible refine then_normal ?_) | (with_reducible refine then_ret ?_) | (with_reducible refine then_exit ?_) | (with_reducible refine inBlock_normal ?_) | (with_reducible refine inBlock_ret ?_) | (with_reducible refine inBlock_same ?_) | (with_reducible refine inBlock_other (by decide) ?_) | fail | go_values | go_skip | go_guarded | go_step | go_upon | (simp only [Int.not_lt, Int.not_le] at *; go_simp) | (go_ite <;> go_prune <;> (try go_simp)))
  refine gen1 ?_
  intro W5 N z k
  clear z k
  replace K0 : Kp _ := ⟨N.heap K0.out (fun x => x)⟩
  replace K1 : Kp _ := ⟨N.heap K1.out (fun x => x)⟩
  replace K2 : Kp _ := ⟨N.heap K2.out (fun x => x)⟩
  replace K3 : Kp _ := ⟨N.heap K3.out (fun x => x)⟩
  replace K4 : Kp _ := ⟨N.heap K4.out (fun x => x)⟩
  replace K5 : Kp _ := ⟨N.heap K5.out (fun x => x)⟩
  replace HN0 : Kp (New w W5) := ⟨HN0.out.new N⟩
  clear N
  rw [rounds_succ]
  obtain ⟨⟨c0, c1, c2, c3, c4, c5⟩, f0, f1, f2, f3, f4, f5⟩ := blk6 K4.out
  have l4 := lt_of_heap K4.out
  repeat' (first | (with_reducible refine then_normal ?_) | (with_reducible refine then_ret ?_) | (with_reducible refine then_exit ?_) | (with_reducible refine inBlock_normal ?_) | (with_reducible refine inBlock_ret ?_) | (with_reducible refine inBlock_same ?_) | (with_reducible refine inBlock_other (by decide) ?_) | fail | go_values | go_skip | go_guarded | go_step | go_upon | (simp only [Int.not_lt, Int.not_le] at *; go_simp) | (go_ite <;> go_prune <;> (try go_simp)))
  refine bodyPost_ret (v := .tuple #[capV Cp.nil, .iface 114 (.pointer (some ⟨W5.heap.size, 0, none⟩))]) (by simp [results, Tryd.results39, go_sem, capV, Cp.nil, *]) rfl ⟨⟨W5.heap.size, rfl, HN0.out.size, ?_⟩, ?_⟩
  · repeat (first | (with_reducible exact heap_alloc_at _ _) | (with_reducible refine keep_set ?_ (by simp; omega)) | exact heap_new (by simp [World.setCell]))
  · repeat (first | (with_reducible exact HN0.out) | (with_reducible refine Chg.alloc ?_ _) | (with_reducible refine Chg.setCell ?_ (.inl (by simp; omega)) _))
end Go.Proofs.YtoecmleficekbaaDoor
