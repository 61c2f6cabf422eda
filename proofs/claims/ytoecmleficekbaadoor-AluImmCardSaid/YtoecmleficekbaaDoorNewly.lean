/- A region that draws its order, whose operations read old cells alone and whose callees make memory alone: one walk in the order of the text serves every order (the kit's theorem on a class of worlds, at the class of all worlds that new blocks were laid in). -/
import Derived.Test.YtoecmleficekbaaDoorHeap
import Derived.Deep.QuietTactic
import Derived.BigQuiet
namespace Go.Proofs.YtoecmleficekbaaDoor
open Go.RowKit
/-- A world that nothing but new blocks parts from w. -/
structure NewW (w : World) where
  to : World
  is : New w to
instance (w : World) : Nonempty (NewW w) := ⟨⟨w, Chg.refl _ w⟩⟩
def ext (w : World) (x : NewW w) : World := x.to
theorem ext_new {w : World} (x : NewW w) : New w (ext w x) := x.is
theorem new_ext {w : World} {x : NewW w} {w' : World} (h : New (ext w x) w') : ∃ y : NewW w, w' = ext w y := ⟨⟨w', x.is.new h⟩, rfl⟩
theorem ext_cell {w : World} (x : NewW w) {b o : Nat} (hb : b < w.heap.size) : (ext w x).cell? ⟨b, o, none⟩ = w.cell? ⟨b, o, none⟩ := x.is.cell (p := ⟨b, o, none⟩) hb (fun h => h)
theorem ext_known {w : World} {B : Nat} {cs : Array Value} {t : TypeId} {fr : Nat × Nat} (h : w.heap[B]? = some (.cells cs t fr)) (j : Nat) : ∀ x : NewW w, (ext w x).cell? ⟨B, j, none⟩ = cs[j]? := fun x => cell_known (x.is.heap h (fun x => x)) j
theorem ext_one {w : World} {B : Nat} {t : TypeId} {a0 : Value} (h : w.heap[B]? = some (.cells #[a0] t)) : ∀ x : NewW w, (ext w x).cell? ⟨B, 0, none⟩ = some a0 := ext_known h 0
theorem ext_three {w : World} {B : Nat} {t : TypeId} {a0 a1 a2 : Value} (h : w.heap[B]? = some (.cells #[a0, a1, a2] t)) :
    (∀ x : NewW w, (ext w x).cell? ⟨B, 0, none⟩ = some a0) ∧ (∀ x : NewW w, (ext w x).cell? ⟨B, 1, none⟩ = some a1) ∧ (∀ x : NewW w, (ext w x).cell? ⟨B, 2, none⟩ = some a2) := ⟨ext_known h 0, ext_known h 1, ext_known h 2⟩
theorem ext_six {w : World} {B : Nat} {t : TypeId} {a0 a1 a2 a3 a4 a5 : Value} (h : w.heap[B]? = some (.cells #[a0, a1, a2, a3, a4, a5] t)) :
    (∀ x : NewW w, (ext w x).cell? ⟨B, 0, none⟩ = some a0) ∧ (∀ x : NewW w, (ext w x).cell? ⟨B, 1, none⟩ = some a1) ∧ (∀ x : NewW w, (ext w x).cell? ⟨B, 2, none⟩ = some a2) ∧
    (∀ x : NewW w, (ext w x).cell? ⟨B, 3, none⟩ = some a3) ∧ (∀ x : NewW w, (ext w x).cell? ⟨B, 4, none⟩ = some a4) ∧ (∀ x : NewW w, (ext w x).cell? ⟨B, 5, none⟩ = some a5) :=
  ⟨ext_known h 0, ext_known h 1, ext_known h 2, ext_known h 3, ext_known h 4, ext_known h 5⟩
section
variable {P : Program}
theorem wp_region_newly {id : Nat} {Q : Exit → Act → World → Prop} {a : Act} {w : World} {l : List Oper} (hm : P.follows .mixedOrders = true) (hB : Region.lexB .any l.toArray = true)
    (h : wpQuiet P l.toArray (fun w' => ∃ x : NewW w, w' = ext w x) (fun a' => ∀ w', (∃ x : NewW w, w' = ext w x) → Q .normal a' w') l a) : (Code.region id l.toArray true).wp P Q a w :=
  wp_region_quiet (C := fun w' => ∃ x : NewW w, w' = ext w x) hm hB ⟨⟨_, (Chg.refl _ w).drew⟩, rfl⟩ (by simpa using h)
/-- A callee that makes memory alone. -/
theorem newly {f : FuncId} {args : Array Value} {w : World} {x : NewW w} {v : Value} (h : Calls P f args (ext w x) fun e w' => e = .returned v ∧ New (ext w x) w') : Calls P f args (ext w x) fun e w'' => e = .returned v ∧ ∃ y : NewW w, w'' = ext w y :=
  h.mono fun _ _ ⟨he, hn⟩ => ⟨he, new_ext hn⟩
/-- A callee that leaves all as it is. -/
theorem newly_same {f : FuncId} {args : Array Value} {w : World} {x : NewW w} {v : Value} (h : Calls P f args (ext w x) fun e w' => e = .returned v ∧ ext w x = w') : Calls P f args (ext w x) fun e w'' => e = .returned v ∧ ∃ y : NewW w, w'' = ext w y :=
  h.mono fun _ _ ⟨he, hn⟩ => ⟨he, x, hn.symm⟩
end
end Go.Proofs.YtoecmleficekbaaDoor
