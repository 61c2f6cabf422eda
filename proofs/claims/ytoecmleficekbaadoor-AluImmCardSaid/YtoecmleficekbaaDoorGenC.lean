/- A world that new blocks were laid in, under a letter, where a call stands next (gen1c to gen8c; written by a program). -/
import Derived.Test.YtoecmleficekbaaDoorGen
namespace Go.Proofs.YtoecmleficekbaaDoor
open Go.RowKit
section
variable {w : World} {A B C D E F G H : Obj} {P : Program} {f : FuncId} {args : Array Value} {R : Ending → World → Prop}
theorem gen1c (h : ∀ W, New w W → W.heap.size = w.heap.size + 1 → W.heap[w.heap.size]? = some A → Calls P f args W R) : Calls P f args (w.alloc A) R :=
  gen1 (Q := fun W => Calls P f args W R) h
theorem gen2c (h : ∀ W, New w W → W.heap.size = w.heap.size + 1 + 1 → W.heap[w.heap.size]? = some A → W.heap[w.heap.size + 1]? = some B → Calls P f args W R) : Calls P f args ((w.alloc A).alloc B) R :=
  gen2 (Q := fun W => Calls P f args W R) h
theorem gen3c (h : ∀ W, New w W → W.heap.size = w.heap.size + 1 + 1 + 1 → W.heap[w.heap.size]? = some A → W.heap[w.heap.size + 1]? = some B → W.heap[w.heap.size + 1 + 1]? = some C → Calls P f args W R) : Calls P f args (((w.alloc A).alloc B).alloc C) R :=
  gen3 (Q := fun W => Calls P f args W R) h
theorem gen4c (h : ∀ W, New w W → W.heap.size = w.heap.size + 1 + 1 + 1 + 1 → W.heap[w.heap.size]? = some A → W.heap[w.heap.size + 1]? = some B → W.heap[w.heap.size + 1 + 1]? = some C → W.heap[w.heap.size + 1 + 1 + 1]? = some D → Calls P f args W R) : Calls P f args ((((w.alloc A).alloc B).alloc C).alloc D) R :=
  gen4 (Q := fun W => Calls P f args W R) h
theorem gen5c (h : ∀ W, New w W → W.heap.size = w.heap.size + 1 + 1 + 1 + 1 + 1 → W.heap[w.heap.size]? = some A → W.heap[w.heap.size + 1]? = some B → W.heap[w.heap.size + 1 + 1]? = some C → W.heap[w.heap.size + 1 + 1 + 1]? = some D → W.heap[w.heap.size + 1 + 1 + 1 + 1]? = some E → Calls P f args W R) : Calls P f args (((((w.alloc A).alloc B).alloc C).alloc D).alloc E) R :=
  gen5 (Q := fun W => Calls P f args W R) h
theorem gen6c (h : ∀ W, New w W → W.heap.size = w.heap.size + 1 + 1 + 1 + 1 + 1 + 1 → W.heap[w.heap.size]? = some A → W.heap[w.heap.size + 1]? = some B → W.heap[w.heap.size + 1 + 1]? = some C → W.heap[w.heap.size + 1 + 1 + 1]? = some D → W.heap[w.heap.size + 1 + 1 + 1 + 1]? = some E → W.heap[w.heap.size + 1 + 1 + 1 + 1 + 1]? = some F → Calls P f args W R) : Calls P f args ((((((w.alloc A).alloc B).alloc C).alloc D).alloc E).alloc F) R :=
  gen6 (Q := fun W => Calls P f args W R) h
theorem gen7c (h : ∀ W, New w W → W.heap.size = w.heap.size + 1 + 1 + 1 + 1 + 1 + 1 + 1 → W.heap[w.heap.size]? = some A → W.heap[w.heap.size + 1]? = some B → W.heap[w.heap.size + 1 + 1]? = some C → W.heap[w.heap.size + 1 + 1 + 1]? = some D → W.heap[w.heap.size + 1 + 1 + 1 + 1]? = some E → W.heap[w.heap.size + 1 + 1 + 1 + 1 + 1]? = some F → W.heap[w.heap.size + 1 + 1 + 1 + 1 + 1 + 1]? = some G → Calls P f args W R) : Calls P f args (((((((w.alloc A).alloc B).alloc C).alloc D).alloc E).alloc F).alloc G) R :=
  gen7 (Q := fun W => Calls P f args W R) h
theorem gen8c (h : ∀ W, New w W → W.heap.size = w.heap.size + 1 + 1 + 1 + 1 + 1 + 1 + 1 + 1 → W.heap[w.heap.size]? = some A → W.heap[w.heap.size + 1]? = some B → W.heap[w.heap.size + 1 + 1]? = some C → W.heap[w.heap.size + 1 + 1 + 1]? = some D → W.heap[w.heap.size + 1 + 1 + 1 + 1]? = some E → W.heap[w.heap.size + 1 + 1 + 1 + 1 + 1]? = some F → W.heap[w.heap.size + 1 + 1 + 1 + 1 + 1 + 1]? = some G → W.heap[w.heap.size + 1 + 1 + 1 + 1 + 1 + 1 + 1]? = some H → Calls P f args W R) : Calls P f args ((((((((w.alloc A).alloc B).alloc C).alloc D).alloc E).alloc F).alloc G).alloc H) R :=
  gen8 (Q := fun W => Calls P f args W R) h
end
end Go.Proofs.YtoecmleficekbaaDoor
