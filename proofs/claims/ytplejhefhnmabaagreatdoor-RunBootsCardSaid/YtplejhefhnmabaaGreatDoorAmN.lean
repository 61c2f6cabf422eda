/- The global that errors.As reads; errors.As and errors.Is as contracts, and as a table for closed runs. -/
import Derived.Test.YtplejhefhnmabaaGreatDoorAs
import Derived.Test.YtplejhefhnmabaaGreatDoorIs3
import Derived.Test.YtplejhefhnmabaaGreatDoorAm3
import Derived.KernelRfl
namespace Go.Proofs.YtplejhefhnmabaaGreatDoor
open Go.RowKit Am
set_option linter.unusedSimpArgs false
set_option linter.unusedVariables false
set_option maxRecDepth 100000
theorem New.newer {w w' : World} (h : New w w') : Newer w w' := ⟨h.os, h.tape, h.output, h.size, fun k hk => h.block k hk (fun x => x)⟩
theorem Newer.new {w w' : World} (h : Newer w w') : New w w' := ⟨h.os, h.tape, h.output, h.size, fun k hk _ => h.block k hk⟩
def GS : Sy := ⟨fun B => B = 0, Gl, fun w h B e => e ▸ h.pos, fun w w' h e => by unfold Gl at h ⊢; rw [World.cell?_of_block (e 0 rfl)]; exact h, fun _ => none, fun _ _ _ _ h => by cases h⟩
theorem mixed : Tryz.prog.follows .mixedOrders = true := by decide
theorem asC (x : AV) : SpecC Tryz.prog GS 28 [.ifc 64 (.ptr (.loc 0) 0), .ifc 79 (.ptr (.loc 1) 0)] (lk [(1, ⟨[x], 64, true⟩)]) 2 (.bool true) (upOf [(1, ⟨[.ptr (.loc 0) 0], 64, true⟩)] []) 0 := by
  rw [upOf_one]
  refine SpecC.ofSet (k := 1) (o := 0) (b := ⟨[x], 64, true⟩) (x := .ptr (.loc 0) 0) (by kernel_rfl) rfl rfl (Nat.zero_lt_one) ?_
  intro C w args' hargs hI
  obtain ⟨y, z, rfl, hy, hz⟩ := hargs.two
  cases hy with
  | ifc _ _ y hy =>
    cases hy with
    | ptr _ _ c0 h0 =>
      cases hz with
      | ifc _ _ z hz =>
        cases hz with
        | ptr _ _ c1 h1 =>
          refine ⟨c1, h1, fun cs fz hb hcell hfr => ?_⟩
          refine (as_hit ⟨c0.blk, c0.base + 0, none⟩ ⟨c1.blk, c1.base + 0, none⟩ _ w hI.sy_ hcell hfr).mono ?_
          rintro e w' ⟨rfl, rfl⟩
          exact ⟨_, _, _, rfl, .bool true, .ptr _ _ c0 h0, ((((Newer.refl w).alloc _).alloc _).alloc _).alloc _, rfl⟩
theorem isC (x y : AV) (wr : Bool) (a c : Int) : SpecC Tryz.prog GS 15 [.ifc 64 (.ptr (.loc 0) 0), .ifc 63 (.int .i64 c)] (lk [(0, ⟨[x, y, .ifc 63 (.int .i64 a)], 66, wr⟩)]) 1 (.bool (a == c)) (upOf [] []) 0 := by
  refine ⟨by kernel_rfl, fun C w args' hargs hI hfr => ?_⟩
  obtain ⟨p, z, rfl, hp, hz⟩ := hargs.two
  cases hp with
  | ifc _ _ p hp =>
    cases hp with
    | ptr _ _ c0 h0 =>
      cases hz with
      | ifc _ _ z hz =>
        cases hz
        obtain ⟨v', q1, q2⟩ := cell_of (i := 2) (hI.at_ 0 _ rfl) h0 (by show 2 < 3; decide)
        cases q2 with
        | ifc _ _ v' q2 =>
          cases q2
          refine (is_fault_at c0.blk (c0.base + 0) a c _ rfl w q1).mono ?_
          rintro e w' ⟨rfl, rfl⟩
          exact ⟨_, C, rfl, Res.same hI (.bool _)⟩
theorem isN (a c : Int) (nx : Nat) : SpecC Tryz.prog GS 15 [.ifc 63 (.int .i64 a), .ifc 63 (.int .i64 c)] (lk []) nx (.bool (a == c)) (upOf [] []) 0 :=
  SpecC.ofCalls (by kernel_rfl) rfl rfl (fun w _ => (is_int a c _ rfl w).mono fun e w' ⟨x, y⟩ => ⟨x, y ▸ Newer.refl w⟩) nx
/-! ### closed runs: errors.As, errors.Is -/
theorem asG (i oi j oj nx : Nat) (L : Am.Lit) (b : ABlk) (hj : lk L j = some b) (he : Nat.beq b.elem 64 = true) (hw : b.wr = true) (ho : oj < b.cells.length) :
    SpecC Tryz.prog GS 28 [.ifc 64 (.ptr (.loc i) oi), .ifc 79 (.ptr (.loc j) oj)] (lk L) nx (.bool true) (oneUp j { b with cells := putAt b.cells oj [.ptr (.loc i) oi] }) 0 := by
  refine SpecC.ofSet (k := j) (o := oj) (b := b) (x := .ptr (.loc i) oi) (by kernel_rfl) hj hw ho ?_
  intro C w args' hargs hI
  obtain ⟨y, z, rfl, hy, hz⟩ := hargs.two
  cases hy with
  | ifc _ _ y hy =>
    cases hy with
    | ptr _ _ c0 h0 =>
      cases hz with
      | ifc _ _ z hz =>
        cases hz with
        | ptr _ _ c1 h1 =>
          refine ⟨c1, h1, fun cs fz hb hcell hfr => ?_⟩
          refine (as_hit ⟨c0.blk, c0.base + oi, none⟩ ⟨c1.blk, c1.base + oj, none⟩ _ w hI.sy_ hcell hfr).mono ?_
          rintro e w' ⟨rfl, rfl⟩
          exact ⟨_, _, _, rfl, .bool true, .ptr _ _ c0 h0, ((((Newer.refl w).alloc _).alloc _).alloc _).alloc _, rfl⟩
theorem isG (i oi nx : Nat) (a c : Int) (L : Am.Lit) (b : ABlk) (hi : lk L i = some b) (ho : oi + 2 < b.cells.length) (hx : b.cells.getD (oi + 2) .any = .ifc 63 (.int .i64 a)) :
    SpecC Tryz.prog GS 15 [.ifc 64 (.ptr (.loc i) oi), .ifc 63 (.int .i64 c)] (lk L) nx (.bool (a == c)) (upOf [] []) 0 := by
  refine ⟨by kernel_rfl, fun C w args' hargs hI hfr => ?_⟩
  obtain ⟨p, z, rfl, hp, hz⟩ := hargs.two
  cases hp with
  | ifc _ _ p hp =>
    cases hp with
    | ptr _ _ c0 h0 =>
      cases hz with
      | ifc _ _ z hz =>
        cases hz
        obtain ⟨v', q1, q2⟩ := cell_of (i := oi + 2) (hI.at_ i _ hi) h0 ho
        rw [hx] at q2
        cases q2 with
        | ifc _ _ v' q2 =>
          cases q2
          refine (is_fault_at c0.blk (c0.base + oi) a c _ rfl w (by rw [Nat.add_assoc]; exact q1)).mono ?_
          rintro e w' ⟨rfl, rfl⟩
          exact ⟨_, C, rfl, Res.same hI (.bool _)⟩
def orE : CallF := fun f args lit nx => match Nat.beq f 28 with
  | true => match args with
    | [.ifc t (.ptr (.loc i) oi), .ifc u (.ptr (.loc j) oj)] => match Nat.beq t 64 && Nat.beq u 79, lk lit j with
      | true, some b => match Nat.beq b.elem 64 && b.wr && Nat.blt oj b.cells.length with
        | true => some ⟨.bool true, [(j, { b with cells := putAt b.cells oj [.ptr (.loc i) oi] })], [], 0⟩
        | false => none
      | _, _ => none
    | _ => none
  | false => match Nat.beq f 15 with
    | true => match args with
      | [.ifc t (.ptr (.loc i) oi), .ifc u (.int .i64 c)] => match Nat.beq t 64 && Nat.beq u 63, lk lit i with
        | true, some b => match b.cells.getD (oi + 2) .any with
          | .ifc s (.int .i64 a) => match Nat.beq s 63 && Nat.blt (oi + 2) b.cells.length with
            | true => some ⟨.bool (a == c), [], [], 0⟩
            | false => none
          | _ => none
        | _, _ => none
      | [.ifc t (.int .i64 a), .ifc u (.int .i64 c)] => match Nat.beq t 63 && Nat.beq u 63 with
        | true => some ⟨.bool (a == c), [], [], 0⟩
        | false => none
      | _ => none
    | false => none
theorem blt_lt {a b : Nat} (h : Nat.blt a b = true) : a < b := by unfold Nat.blt at h; exact Nat.le_of_ble_eq_true h
theorem orE_ok : CallOk Tryz.prog GS orE := by
  intro f args lit nx r h hl
  unfold orE at h
  split at h
  · rename_i hf
    obtain rfl := Nat.eq_of_beq_eq_true hf
    split at h
    · rename_i t i oi u j oj
      split at h
      · rename_i b htu hb
        split at h
        · rename_i hc
          injection h with h; subst h
          simp only [Bool.and_eq_true] at htu hc
          obtain rfl := Nat.eq_of_beq_eq_true htu.1
          obtain rfl := Nat.eq_of_beq_eq_true htu.2
          rw [upOf_one]
          exact asG i oi j oj nx lit b hb hc.1.1 hc.1.2 (blt_lt hc.2)
        · cases h
      · cases h
    · cases h
  · split at h
    · rename_i hf
      obtain rfl := Nat.eq_of_beq_eq_true hf
      split at h
      · rename_i t i oi u c
        split at h
        · rename_i b htu hb
          simp only [Bool.and_eq_true] at htu
          obtain rfl := Nat.eq_of_beq_eq_true htu.1
          obtain rfl := Nat.eq_of_beq_eq_true htu.2
          split at h
          · rename_i s a hx
            split at h
            · rename_i hc
              injection h with h; subst h
              simp only [Bool.and_eq_true] at hc
              obtain rfl := Nat.eq_of_beq_eq_true hc.1
              exact isG i oi nx a c lit b hb (blt_lt hc.2) hx
            · cases h
          · cases h
        · cases h
      · rename_i t a u c
        split at h
        · rename_i htu
          simp only [Bool.and_eq_true] at htu
          obtain rfl := Nat.eq_of_beq_eq_true htu.1
          obtain rfl := Nat.eq_of_beq_eq_true htu.2
          injection h with h; subst h
          have := isN a c nx
          exact ⟨this.1, fun C w args' ha hI hf => ((this.2 C w args' ha (hI.sub (fun n b hb => by cases hb)) hf).mono fun e w1 ⟨v', C1, he, r⟩ => ⟨v', C1, he, r.frame hI (fun n b hb => by cases hb) (fun n hn => by have := hn.2; have := hn.1; omega)⟩)⟩
        · cases h
      · cases h
    · cases h
end Go.Proofs.YtplejhefhnmabaaGreatDoor
