/- Contracts of package cap. -/
import Derived.Test.YtoecmleficekbaaDoorProg
import Derived.Test.YtoecmleficekbaaDoorCapF
import Derived.Test.YtoecmleficekbaaDoorHeap2
import Derived.Outline
namespace Go.Proofs.YtoecmleficekbaaDoor
open Go.RowKit
set_option linter.unusedSimpArgs false
set_option linter.unusedVariables false

/-- A new block's cells, in a world behind. -/
structure CapAt (w : World) (b : Nat) (c : Cp) : Prop where
  c0 : w.cell? ⟨b, 0, none⟩ = some (.bool c.tag)
  c1 : w.cell? ⟨b, 1, none⟩ = some (.int .u32 c.base)
  c2 : w.cell? ⟨b, 2, none⟩ = some (.int .u32 c.top)
  c3 : w.cell? ⟨b, 3, none⟩ = some (.int .u32 c.addr)
  c4 : w.cell? ⟨b, 4, none⟩ = some (.int .u16 c.perm)
  c5 : w.cell? ⟨b, 5, none⟩ = some (.int .u16 c.typ)

theorem alloc2_0 (w : World) (A B : Obj) : ((w.alloc A).alloc B).heap[w.heap.size]? = some A := (Below.heap_alloc _ _ _ (by simp)).trans (heap_alloc_at w A)
theorem alloc2_1 (w : World) (A B : Obj) : ((w.alloc A).alloc B).heap[w.heap.size + 1]? = some B := by
  have := heap_alloc_at (w.alloc A) B; simpa using this
theorem alloc3_0 (w : World) (A B C : Obj) : (((w.alloc A).alloc B).alloc C).heap[w.heap.size]? = some A := (Below.heap_alloc _ _ _ (by simp; omega)).trans (alloc2_0 w A B)
theorem alloc3_1 (w : World) (A B C : Obj) : (((w.alloc A).alloc B).alloc C).heap[w.heap.size + 1]? = some B := (Below.heap_alloc _ _ _ (by simp)).trans (alloc2_1 w A B)
theorem alloc3_2 (w : World) (A B C : Obj) : (((w.alloc A).alloc B).alloc C).heap[w.heap.size + 2]? = some C := by
  have := heap_alloc_at ((w.alloc A).alloc B) C; simpa using this
theorem blk6 {W : World} {B : Nat} {T : TypeId} {a0 a1 a2 a3 a4 a5 : Value} (h : W.heap[B]? = some (.cells #[a0, a1, a2, a3, a4, a5] T)) :
    (W.cell? ⟨B, 0, none⟩ = some a0 ∧ W.cell? ⟨B, 1, none⟩ = some a1 ∧ W.cell? ⟨B, 2, none⟩ = some a2 ∧ W.cell? ⟨B, 3, none⟩ = some a3 ∧ W.cell? ⟨B, 4, none⟩ = some a4 ∧ W.cell? ⟨B, 5, none⟩ = some a5) ∧
    (W.frozen? ⟨B, 0, none⟩ = false ∧ W.frozen? ⟨B, 1, none⟩ = false ∧ W.frozen? ⟨B, 2, none⟩ = false ∧ W.frozen? ⟨B, 3, none⟩ = false ∧ W.frozen? ⟨B, 4, none⟩ = false ∧ W.frozen? ⟨B, 5, none⟩ = false) :=
  ⟨⟨cell_known h 0, cell_known h 1, cell_known h 2, cell_known h 3, cell_known h 4, cell_known h 5⟩, ⟨frozen_known h 0, frozen_known h 1, frozen_known h 2, frozen_known h 3, frozen_known h 4, frozen_known h 5⟩⟩

set_option maxRecDepth 100000 in
set_option maxHeartbeats 1000000 in
theorem capInt_any (v : Int) (w : World) : Calls Tryd.prog 37 #[.int .u32 v] w fun e w' => e = .returned (capV (Cp.int v)) ∧ New w w' := by
  go_enter Tryd.func37, Tryd.ntmps37
  go_wp2
  refine bodyPost_ret (v := capV (Cp.int v)) ?_ rfl ⟨rfl, ?_⟩
  · simp [results, Tryd.results37, go_sem, capV, Cp.int, *]
  · repeat (first | exact Chg.refl _ _ | refine Chg.alloc ?_ _ | refine Chg.setCell ?_ (.inl (by simp)) _)

set_option maxRecDepth 100000 in
set_option maxHeartbeats 1000000 in
theorem capRoot_any (v : Int) (w : World) : Calls Tryd.prog 20 #[.int .u32 v] w fun e w' => e = .returned (capV (Cp.root v)) ∧ New w w' := by
  go_enter Tryd.func20, Tryd.ntmps20
  go_wp2
  refine bodyPost_ret (v := capV (Cp.root v)) ?_ rfl ⟨rfl, ?_⟩
  · simp [results, Tryd.results20, go_sem, capV, Cp.root, *]
  · repeat (first | exact Chg.refl _ _ | refine Chg.alloc ?_ _ | refine Chg.setCell ?_ (.inl (by simp)) _)

set_option maxRecDepth 100000 in
set_option maxHeartbeats 1000000 in
theorem kept_any (t : Bool) (b tp a p y : Int) (m : Bool) (w : World) : Calls Tryd.prog 95 #[.agg #[.bool t, .int .u32 b, .int .u32 tp, .int .u32 a, .int .u16 p, .int .u16 y], .bool m] w fun e w' => e = .returned (capV ⟨t && m, b, tp, a, p, y⟩) ∧ New w w' := by
  cases t
  all_goals
    go_enter Tryd.func95, Tryd.ntmps95
    go_wp2
    refine bodyPost_ret (v := capV _) ?_ rfl ⟨rfl, ?_⟩
    · simp [results, Tryd.results95, go_sem, capV, *]
    · repeat (first | exact Chg.refl _ _ | refine Chg.alloc ?_ _ | refine Chg.setCell ?_ (.inl (by simp)) _)

set_option maxRecDepth 100000 in
set_option maxHeartbeats 1000000 in
theorem capHas_any (t : Bool) (b tp a p y : Int) (x n : Int) (hx : 0 ≤ x) (hx1 : x < 4294967296) (hn : 0 ≤ n) (hn1 : n < 4294967296) (htp : 0 ≤ tp) (htp1 : tp < 4294967296) (w : World) : Calls Tryd.prog 97 #[.agg #[.bool t, .int .u32 b, .int .u32 tp, .int .u32 a, .int .u16 p, .int .u16 y], .int .u32 x, .int .u32 n] w fun e w' => e = .returned (.bool (Cp.has ⟨t, b, tp, a, p, y⟩ x n)) ∧ New w w' := by
  unfold Cp.has
  by_cases h : b ≤ x
  · go_enter Tryd.func97, Tryd.ntmps97
    go_wp2
    go_ret
    exact ⟨by simp [*], (Chg.refl _ w).alloc _⟩
  · go_enter Tryd.func97, Tryd.ntmps97
    go_wp2
    go_ret
    exact ⟨by simp [*]; intro _; omega, (Chg.refl _ w).alloc _⟩

set_option maxRecDepth 100000 in
set_option maxHeartbeats 2000000 in
theorem may_open (t : Bool) (b tp a p y : Int) (m : Int) (w : World) : Calls Tryd.prog 96 #[.agg #[.bool t, .int .u32 b, .int .u32 tp, .int .u32 a, .int .u16 p, .int .u16 y], .int .i64 0, .int .u16 m] w fun e w' => e = .returned (.bool (y == 0)) ∧ New w w' := by
  go_enter Tryd.func96, Tryd.ntmps96
  repeat' (first | (with_reducible refine then_normal ?_) | (with_reducible refine then_ret ?_) | (with_reducible refine then_exit ?_) | (with_reducible refine inBlock_normal ?_) | (with_reducible refine inBlock_ret ?_) | (with_reducible refine inBlock_same ?_) | (with_reducible refine inBlock_other (by decide) ?_) | go_values | go_skip | go_guarded | go_step | go_upon | (simp only [Int.not_lt, Int.not_le] at *; go_simp) | (go_ite <;> go_prune <;> (try go_simp)))
  go_ret
  exact ⟨rfl, (Chg.refl _ w).alloc _⟩

set_option maxRecDepth 100000 in
set_option maxHeartbeats 2000000 in
theorem may_permits (t : Bool) (b tp a p y : Int) (m : Int) (w : World) : Calls Tryd.prog 96 #[.agg #[.bool t, .int .u32 b, .int .u32 tp, .int .u32 a, .int .u16 p, .int .u16 y], .int .i64 1, .int .u16 m] w fun e w' => e = .returned (.bool (bits .and .u16 p m == m && y == 0)) ∧ New w w' := by
  rcases h : bits .and .u16 p m == m with _ | _
  all_goals
    go_enter Tryd.func96, Tryd.ntmps96
    repeat' (first | (with_reducible refine then_normal ?_) | (with_reducible refine then_ret ?_) | (with_reducible refine then_exit ?_) | (with_reducible refine inBlock_normal ?_) | (with_reducible refine inBlock_ret ?_) | (with_reducible refine inBlock_same ?_) | (with_reducible refine inBlock_other (by decide) ?_) | go_values | go_skip | go_guarded | go_step | go_upon | (simp only [Int.not_lt, Int.not_le] at *; go_simp) | (go_ite <;> go_prune <;> (try go_simp)))
    go_ret
    exact ⟨by simp [*], (Chg.refl _ w).alloc _⟩

set_option maxRecDepth 100000 in
set_option maxHeartbeats 2000000 in
theorem may_within (t : Bool) (b tp a p y : Int) (m : Int) (ha : 0 ≤ a) (ha1 : a < 4294967296) (htp : 0 ≤ tp) (htp1 : tp < 4294967296) (w : World) : Calls Tryd.prog 96 #[.agg #[.bool t, .int .u32 b, .int .u32 tp, .int .u32 a, .int .u16 p, .int .u16 y], .int .i64 2, .int .u16 m] w fun e w' => e = .returned (.bool ((Cp.has ⟨t, b, tp, a, p, y⟩ a 1 && bits .and .u16 p m == m) && y == 0)) ∧ New w w' := by
  have HH : Kp _ := ⟨fun W => capHas_any t b tp a p y a 1 ha ha1 (by decide) (by decide) htp htp1 W⟩
  clear ha ha1 htp htp1
  generalize Cp.has ⟨t, b, tp, a, p, y⟩ a 1 = q at HH
  rcases q with _ | _ <;> rcases h : bits .and .u16 p m == m with _ | _
  all_goals
    go_enter Tryd.func96, Tryd.ntmps96
    repeat' (first | (with_reducible refine then_normal ?_) | (with_reducible refine then_ret ?_) | (with_reducible refine then_exit ?_) | (with_reducible refine inBlock_normal ?_) | (with_reducible refine inBlock_ret ?_) | (with_reducible refine inBlock_same ?_) | (with_reducible refine inBlock_other (by decide) ?_) | fail | go_values | go_skip | go_guarded | go_step | go_upon | (simp only [Int.not_lt, Int.not_le] at *; go_simp) | (go_ite <;> go_prune <;> (try go_simp)))
    refine (HH.out _).mono ?_; rintro e w2 ⟨rfl, hn⟩
    obtain ⟨⟨c0, c1, c2, c3, c4, c5⟩, _⟩ := blk6 (hn.heap (heap_alloc_at w _) (fun x => x))
    have HN : Kp (New w w2) := ⟨((Chg.refl _ w).alloc _).new hn⟩
    clear hn
    repeat' (first | (with_reducible refine then_normal ?_) | (with_reducible refine then_ret ?_) | (with_reducible refine then_exit ?_) | (with_reducible refine inBlock_normal ?_) | (with_reducible refine inBlock_ret ?_) | (with_reducible refine inBlock_same ?_) | (with_reducible refine inBlock_other (by decide) ?_) | go_values | go_skip | go_guarded | go_step | go_upon | (simp only [Int.not_lt, Int.not_le] at *; go_simp) | (go_ite <;> go_prune <;> (try go_simp)))
    go_ret
    exact ⟨by simp [*], HN.out⟩
end Go.Proofs.YtoecmleficekbaaDoor
