/- hasplaw4.Tells: is an error just that one? And hasplaw2.Of. -/
import Derived.Test.YtoecmleficekbaaDoorAs
import Derived.Test.YtoecmleficekbaaDoorIs2
import Derived.Test.YtoecmleficekbaaDoorGen
import Derived.Deep.RegionWith
import Derived.Deep.RegionHeld3
import Derived.Deep.QuietTactic
import Derived.BigQuiet
import Derived.Outline
namespace Go.Proofs.YtoecmleficekbaaDoor
open Go.RowKit Go.Extern.Stop Go.Stop Go.Extern
set_option linter.unusedSimpArgs false
set_option linter.unusedVariables false

/-- A *api.Fault that wraps a number-error. -/
def FaultAt (w : World) (F : Nat) (part : ByteArray) (at_ c : Int) : Prop := w.heap[F]? = some (.cells #[.string part, .int .i64 at_, .iface 105 (.int .i64 c)] 118)
theorem FaultAt.chg {B : Nat → Prop} {w w' : World} {F : Nat} {part : ByteArray} {at_ c : Int} (h : FaultAt w F part at_ c) (hc : Chg B w w') (hb : ¬ B F) : FaultAt w' F part at_ c := hc.heap h hb
theorem FaultAt.new {w w' : World} {F : Nat} {part : ByteArray} {at_ c : Int} (h : FaultAt w F part at_ c) (hc : New w w') : FaultAt w' F part at_ c := h.chg hc fun x => x
abbrev faultV (F : Nat) : Value := .iface 114 (.pointer (some ⟨F, 0, none⟩))

set_option maxRecDepth 100000 in
set_option maxHeartbeats 1000000 in
theorem tells_nil0 (p : ByteArray) (at_ : Int) (w : World) : Calls Tryd.prog 27 #[.nilIface, .agg #[.string p, .int .i64 at_, .int .i64 0]] w fun e w' => e = .returned (.bool true) ∧ New w w' := by
  go_enter Tryd.func27, Tryd.ntmps27
  repeat' (first | (with_reducible refine then_normal ?_) | (with_reducible refine then_ret ?_) | (with_reducible refine then_exit ?_) | (with_reducible refine inBlock_normal ?_) | (with_reducible refine inBlock_ret ?_) | (with_reducible refine inBlock_same ?_) | (with_reducible refine inBlock_other (by decide) ?_) | fail | go_values | go_skip | go_guarded | go_step | go_upon | (simp only [Int.not_lt, Int.not_le] at *; go_simp) | (go_ite <;> go_prune <;> (try go_simp)))
  go_ret
  exact ⟨rfl, (Chg.refl _ w).alloc _⟩
set_option maxRecDepth 100000 in
set_option maxHeartbeats 8000000 in
theorem tells_fault (F : Nat) (p : ByteArray) (at_ c : Int) (hc : (c == 0) = false) (w : World) (hg : Gl w) (hF : FaultAt w F p at_ c) :
    Calls Tryd.prog 27 #[faultV F, .agg #[.string p, .int .i64 at_, .int .i64 c]] w fun e w' => e = .returned (.bool true) ∧ New w w' := by
  have HI : Kp _ := ⟨fun W h => is_fault F c c true (by simp) W h⟩
  have HF : Kp _ := ⟨hF⟩
  have HG : Kp _ := ⟨hg⟩
  have e1 : (p.toList == p.toList) = true := by simp
  have e2 : (at_ == at_) = true := by simp
  clear hF hg
  go_enter Tryd.func27, Tryd.ntmps27
  repeat' (first | (with_reducible refine then_normal ?_) | (with_reducible refine then_ret ?_) | (with_reducible refine then_exit ?_) | (with_reducible refine inBlock_normal ?_) | (with_reducible refine inBlock_ret ?_) | (with_reducible refine inBlock_same ?_) | (with_reducible refine inBlock_other (by decide) ?_) | fail | go_values | go_skip | go_guarded | go_step | go_upon | (simp only [Int.not_lt, Int.not_le] at *; go_simp) | (go_ite <;> go_prune <;> (try go_simp)))
  refine gen2 ?_
  intro W0 N0 z0 k0 k1
  have t0 := cell_known k1 0
  have ft0 := frozen_known k1 0
  have p0 := cell_known k0 0
  have p1 := cell_known k0 1
  have p2 := cell_known k0 2
  have q0 := cell_known (HF.out.new N0) 0
  have q1 := cell_known (HF.out.new N0) 1
  have q2 := cell_known (HF.out.new N0) 2
  simp only [List.getElem?_toArray, List.getElem?_cons_succ, List.getElem?_cons_zero] at t0 p0 p1 p2 q0 q1 q2
  have l0 : Kp (w.heap.size < W0.heap.size) := ⟨lt_of_heap k0⟩
  have lF : Kp (F < w.heap.size) := ⟨lt_of_heap HF.out⟩
  have HN0 : Kp (New w W0) := ⟨N0⟩
  have HG0 : Kp (Gl W0) := ⟨HG.out.new N0⟩
  clear z0 N0 k0 k1
  first
    | (go_region_with
      (first
        | (go_at_call 66; refine (as_fault F (w.heap.size + 1) (.pointer none) _ (by exact HG0.out) (by exact t0) (by exact ft0)).mono ?_; rintro e W1 ⟨rfl, hct, hch⟩
           have r0 := (hch.cell (p := ⟨w.heap.size, 0, none⟩) (by exact l0.out) (by simp)).trans p0
           have r1 := (hch.cell (p := ⟨w.heap.size, 1, none⟩) (by exact l0.out) (by simp)).trans p1
           have r2 := (hch.cell (p := ⟨w.heap.size, 2, none⟩) (by exact l0.out) (by simp)).trans p2
           have s0 := (hch.cell (p := ⟨F, 0, none⟩) (by exact Nat.lt_trans lF.out l0.out) (by have := lF.out; simp; omega)).trans q0
           have s1 := (hch.cell (p := ⟨F, 1, none⟩) (by exact Nat.lt_trans lF.out l0.out) (by have := lF.out; simp; omega)).trans q1
           have s2 := (hch.cell (p := ⟨F, 2, none⟩) (by exact Nat.lt_trans lF.out l0.out) (by have := lF.out; simp; omega)).trans q2
           have HN1 : Kp (New w W1) := ⟨(HN0.out.drew).trans hch fun x hx he => by omega⟩
           clear hch)
        | (go_at_call 67; refine (HI.out _ (by assumption)).mono ?_; rintro e W2 ⟨rfl, rfl⟩)))
    | fail
  all_goals
    go_wp2
    go_ret
    exact ⟨rfl, HN1.out⟩

set_option maxRecDepth 100000 in
set_option maxHeartbeats 1000000 in
theorem of_any (t : Bool) (b tp a p y : Int) (w : World) : Calls Tryd.prog 30 #[.agg #[.bool t, .int .u32 b, .int .u32 tp, .int .u32 a, .int .u16 p, .int .u16 y]] w fun e w' => e = .returned (capV ⟨t, b, tp, a, p, y⟩) ∧ New w w' := by
  go_enter Tryd.func30, Tryd.ntmps30
  repeat' (first | (with_reducible refine then_normal ?_) | (with_reducible refine then_ret ?_) | (with_reducible refine then_exit ?_) | (with_reducible refine inBlock_normal ?_) | (with_reducible refine inBlock_ret ?_) | (with_reducible refine inBlock_same ?_) | (with_reducible refine inBlock_other (by decide) ?_) | fail | go_values | go_skip | go_guarded | go_step | go_upon | (simp only [Int.not_lt, Int.not_le] at *; go_simp) | (go_ite <;> go_prune <;> (try go_simp)))
  refine bodyPost_ret (v := capV ⟨t, b, tp, a, p, y⟩) (by simp [results, Tryd.results30, go_sem, capV, *]) rfl ⟨rfl, ?_⟩
  repeat (first | (with_reducible exact Chg.refl _ _) | (with_reducible refine Chg.alloc ?_ _) | (with_reducible refine Chg.setCell ?_ (.inl (by simp)) _))
end Go.Proofs.YtoecmleficekbaaDoor
