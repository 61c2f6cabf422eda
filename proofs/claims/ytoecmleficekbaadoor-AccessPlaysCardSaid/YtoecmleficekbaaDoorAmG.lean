/- The global that errors.As reads; errors.As and errors.Is as contracts. -/
import Derived.Test.YtoecmleficekbaaDoorAs
import Derived.Test.YtoecmleficekbaaDoorIs3
import Derived.Test.YtoecmleficekbaaDoorAm3
namespace Go.Proofs.YtoecmleficekbaaDoor
open Go.RowKit Am
set_option linter.unusedSimpArgs false
set_option linter.unusedVariables false
theorem New.newer {w w' : World} (h : New w w') : Newer w w' := ⟨h.os, h.tape, h.output, h.size, fun k hk => h.block k hk (fun x => x)⟩
theorem Newer.new {w w' : World} (h : Newer w w') : New w w' := ⟨h.os, h.tape, h.output, h.size, fun k hk _ => h.block k hk⟩
def GS : Sy := ⟨fun B => B = 0, Gl, fun w h B e => e ▸ h.pos, fun w w' h e => by unfold Gl at h ⊢; rw [World.cell?_of_block (e 0 rfl)]; exact h⟩
theorem mixed : Tryd.prog.follows .mixedOrders = true := by decide
theorem asC (x : AV) : SpecC Tryd.prog GS 66 [.ifc 114 (.ptr (.loc 0) 0), .ifc 116 (.ptr (.loc 1) 0)] (lk [(1, ⟨[x], 114, true⟩)]) 2 (.bool true) (upOf [(1, ⟨[.ptr (.loc 0) 0], 114, true⟩)] []) 0 := by
  rw [upOf_one]
  refine SpecC.ofSet (k := 1) (o := 0) (b := ⟨[x], 114, true⟩) (x := .ptr (.loc 0) 0) (by kernel_rfl) rfl rfl (Nat.zero_lt_one) ?_
  intro C w args' hargs hI
  obtain ⟨y, z, rfl, hy, hz⟩ := hargs.two
  cases hy with
  | ifc _ _ y hy =>
    cases hy with
    | ptr _ _ c0 h0 =>
      cases hz with
      | ifc _ _ z hz =>
        cases hz with
        | ptr _ _ c1 h1 =>
          refine ⟨c1, h1, fun cs fz hb hcell hfr => ?_⟩
          refine (as_hit ⟨c0.blk, c0.base + 0, none⟩ ⟨c1.blk, c1.base + 0, none⟩ _ w hI.sy_ hcell hfr).mono ?_
          rintro e w' ⟨rfl, rfl⟩
          exact ⟨_, _, _, rfl, .bool true, .ptr _ _ c0 h0, ((((Newer.refl w).alloc _).alloc _).alloc _).alloc _, rfl⟩
theorem isC (x y : AV) (wr : Bool) (a c : Int) : SpecC Tryd.prog GS 67 [.ifc 114 (.ptr (.loc 0) 0), .ifc 105 (.int .i64 c)] (lk [(0, ⟨[x, y, .ifc 105 (.int .i64 a)], 118, wr⟩)]) 1 (.bool (a == c)) (upOf [] []) 0 := by
  refine ⟨by kernel_rfl, fun C w args' hargs hI hfr => ?_⟩
  obtain ⟨p, z, rfl, hp, hz⟩ := hargs.two
  cases hp with
  | ifc _ _ p hp =>
    cases hp with
    | ptr _ _ c0 h0 =>
      cases hz with
      | ifc _ _ z hz =>
        cases hz
        obtain ⟨v', q1, q2⟩ := cell_of (i := 2) (hI.at_ 0 _ rfl) h0 (by show 2 < 3; decide)
        cases q2 with
        | ifc _ _ v' q2 =>
          cases q2
          refine (is_fault_at c0.blk (c0.base + 0) a c _ rfl w q1).mono ?_
          rintro e w' ⟨rfl, rfl⟩
          exact ⟨_, C, rfl, Res.same hI (.bool _)⟩
theorem isN (a c : Int) (nx : Nat) : SpecC Tryd.prog GS 67 [.ifc 105 (.int .i64 a), .ifc 105 (.int .i64 c)] (lk []) nx (.bool (a == c)) (upOf [] []) 0 :=
  SpecC.ofCalls (by kernel_rfl) rfl rfl (fun w _ => (is_int a c _ rfl w).mono fun e w' ⟨x, y⟩ => ⟨x, y ▸ Newer.refl w⟩) nx
end Go.Proofs.YtoecmleficekbaaDoor
