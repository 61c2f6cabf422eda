/- A world that new blocks were laid in, under a letter: what is known of it (gen1 to gen8; written by a program). -/
import Derived.Test.YtoecmleficekbaaDoorCap
namespace Go.Proofs.YtoecmleficekbaaDoor
open Go.RowKit
theorem heap_old {w : World} {k : Nat} {o A : Obj} (h : w.heap[k]? = some o) : (w.alloc A).heap[k]? = some o := (Below.heap_alloc _ _ _ (lt_of_heap h)).trans h
theorem heap_new {w : World} {k : Nat} {A : Obj} (h : w.heap.size = k) : (w.alloc A).heap[k]? = some A := by rw [← h]; exact heap_alloc_at w A
theorem size_new {w : World} {k : Nat} {A : Obj} (h : w.heap.size = k) : (w.alloc A).heap.size = k + 1 := by rw [← h]; simp
section
variable {w : World} {A B C D E F G H : Obj} {Q : World → Prop}
theorem gen1 (h : ∀ W, New w W → W.heap.size = w.heap.size + 1 → W.heap[w.heap.size]? = some A → Q W) : Q (w.alloc A) :=
  h _ ((Chg.refl _ w).alloc _) (size_new rfl) (heap_new rfl)
theorem gen2 (h : ∀ W, New w W → W.heap.size = w.heap.size + 1 + 1 → W.heap[w.heap.size]? = some A → W.heap[w.heap.size + 1]? = some B → Q W) : Q ((w.alloc A).alloc B) :=
  gen1 (Q := fun W => Q (W.alloc B)) fun _ N z h0 => h _ (N.alloc _) (size_new z) (heap_old h0) (heap_new z)
theorem gen3 (h : ∀ W, New w W → W.heap.size = w.heap.size + 1 + 1 + 1 → W.heap[w.heap.size]? = some A → W.heap[w.heap.size + 1]? = some B → W.heap[w.heap.size + 1 + 1]? = some C → Q W) : Q (((w.alloc A).alloc B).alloc C) :=
  gen2 (Q := fun W => Q (W.alloc C)) fun _ N z h0 h1 => h _ (N.alloc _) (size_new z) (heap_old h0) (heap_old h1) (heap_new z)
theorem gen4 (h : ∀ W, New w W → W.heap.size = w.heap.size + 1 + 1 + 1 + 1 → W.heap[w.heap.size]? = some A → W.heap[w.heap.size + 1]? = some B → W.heap[w.heap.size + 1 + 1]? = some C → W.heap[w.heap.size + 1 + 1 + 1]? = some D → Q W) : Q ((((w.alloc A).alloc B).alloc C).alloc D) :=
  gen3 (Q := fun W => Q (W.alloc D)) fun _ N z h0 h1 h2 => h _ (N.alloc _) (size_new z) (heap_old h0) (heap_old h1) (heap_old h2) (heap_new z)
theorem gen5 (h : ∀ W, New w W → W.heap.size = w.heap.size + 1 + 1 + 1 + 1 + 1 → W.heap[w.heap.size]? = some A → W.heap[w.heap.size + 1]? = some B → W.heap[w.heap.size + 1 + 1]? = some C → W.heap[w.heap.size + 1 + 1 + 1]? = some D → W.heap[w.heap.size + 1 + 1 + 1 + 1]? = some E → Q W) : Q (((((w.alloc A).alloc B).alloc C).alloc D).alloc E) :=
  gen4 (Q := fun W => Q (W.alloc E)) fun _ N z h0 h1 h2 h3 => h _ (N.alloc _) (size_new z) (heap_old h0) (heap_old h1) (heap_old h2) (heap_old h3) (heap_new z)
theorem gen6 (h : ∀ W, New w W → W.heap.size = w.heap.size + 1 + 1 + 1 + 1 + 1 + 1 → W.heap[w.heap.size]? = some A → W.heap[w.heap.size + 1]? = some B → W.heap[w.heap.size + 1 + 1]? = some C → W.heap[w.heap.size + 1 + 1 + 1]? = some D → W.heap[w.heap.size + 1 + 1 + 1 + 1]? = some E → W.heap[w.heap.size + 1 + 1 + 1 + 1 + 1]? = some F → Q W) : Q ((((((w.alloc A).alloc B).alloc C).alloc D).alloc E).alloc F) :=
  gen5 (Q := fun W => Q (W.alloc F)) fun _ N z h0 h1 h2 h3 h4 => h _ (N.alloc _) (size_new z) (heap_old h0) (heap_old h1) (heap_old h2) (heap_old h3) (heap_old h4) (heap_new z)
theorem gen7 (h : ∀ W, New w W → W.heap.size = w.heap.size + 1 + 1 + 1 + 1 + 1 + 1 + 1 → W.heap[w.heap.size]? = some A → W.heap[w.heap.size + 1]? = some B → W.heap[w.heap.size + 1 + 1]? = some C → W.heap[w.heap.size + 1 + 1 + 1]? = some D → W.heap[w.heap.size + 1 + 1 + 1 + 1]? = some E → W.heap[w.heap.size + 1 + 1 + 1 + 1 + 1]? = some F → W.heap[w.heap.size + 1 + 1 + 1 + 1 + 1 + 1]? = some G → Q W) : Q (((((((w.alloc A).alloc B).alloc C).alloc D).alloc E).alloc F).alloc G) :=
  gen6 (Q := fun W => Q (W.alloc G)) fun _ N z h0 h1 h2 h3 h4 h5 => h _ (N.alloc _) (size_new z) (heap_old h0) (heap_old h1) (heap_old h2) (heap_old h3) (heap_old h4) (heap_old h5) (heap_new z)
theorem gen8 (h : ∀ W, New w W → W.heap.size = w.heap.size + 1 + 1 + 1 + 1 + 1 + 1 + 1 + 1 → W.heap[w.heap.size]? = some A → W.heap[w.heap.size + 1]? = some B → W.heap[w.heap.size + 1 + 1]? = some C → W.heap[w.heap.size + 1 + 1 + 1]? = some D → W.heap[w.heap.size + 1 + 1 + 1 + 1]? = some E → W.heap[w.heap.size + 1 + 1 + 1 + 1 + 1]? = some F → W.heap[w.heap.size + 1 + 1 + 1 + 1 + 1 + 1]? = some G → W.heap[w.heap.size + 1 + 1 + 1 + 1 + 1 + 1 + 1]? = some H → Q W) : Q ((((((((w.alloc A).alloc B).alloc C).alloc D).alloc E).alloc F).alloc G).alloc H) :=
  gen7 (Q := fun W => Q (W.alloc H)) fun _ N z h0 h1 h2 h3 h4 h5 h6 => h _ (N.alloc _) (size_new z) (heap_old h0) (heap_old h1) (heap_old h2) (heap_old h3) (heap_old h4) (heap_old h5) (heap_old h6) (heap_new z)
end
end Go.Proofs.YtoecmleficekbaaDoor
