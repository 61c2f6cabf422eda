/- The globals that are read (errors.As's; the powers of ten); errors.As and errors.Is as contracts, and as a table for closed runs. -/
import Derived.Test.YtgdeffompcikhaaDoorAs
import Derived.Test.YtgdeffompcikhaaDoorIs3
import Derived.Test.YtgdeffompcikhaaDoorAm3
import Derived.KernelRfl
import Derived.Lib.LaidTab
import Derived.Lib.ItoaNum
namespace Go.Proofs.YtgdeffompcikhaaDoor
open Go.RowKit Am
set_option linter.unusedSimpArgs false
set_option linter.unusedVariables false
set_option maxRecDepth 100000
theorem New.newer {w w' : World} (h : New w w') : Newer w w' := ⟨h.os, h.tape, h.output, h.size, fun k hk => h.block k hk (fun x => x)⟩
theorem Newer.new {w w' : World} (h : Newer w w') : New w w' := ⟨h.os, h.tape, h.output, h.size, fun k hk _ => h.block k hk⟩
/-- The powers of ten lie at 1. -/
def pow10 : List AV := [.int .u64 1, .int .u64 10, .int .u64 100, .int .u64 1000, .int .u64 10000, .int .u64 100000, .int .u64 1000000, .int .u64 10000000, .int .u64 100000000, .int .u64 1000000000, .int .u64 10000000000, .int .u64 100000000000, .int .u64 1000000000000, .int .u64 10000000000000, .int .u64 100000000000000, .int .u64 1000000000000000, .int .u64 10000000000000000, .int .u64 100000000000000000, .int .u64 1000000000000000000, .int .u64 10000000000000000000]
structure GlT (w : World) : Prop where
  gl : Gl w
  arr : ∃ t fz, w.heap[1]? = some (.cells (Lib.pow10Tab.map fun z => Value.int .u64 z).toArray t fz)
theorem GlT.size {w : World} (h : GlT w) : 1 < w.heap.size := by
  obtain ⟨t, fz, h⟩ := h.arr
  exact (Array.getElem?_eq_some_iff.1 h).1
theorem GlT.tab {w : World} (h : GlT w) (i : Nat) (hi : i < 20) : ∃ v, w.cell? ⟨1, i, none⟩ = some v ∧ ∀ C, VR C (pow10.getD i .any) v := by
  obtain ⟨t, fz, h⟩ := h.arr
  refine ⟨(Lib.pow10Tab.map fun z => Value.int .u64 z).getD i undef, ?_, fun C => ?_⟩
  · simp only [World.cell?, h]
    rcases i with _ | _ | _ | _ | _ | _ | _ | _ | _ | _ | _ | _ | _ | _ | _ | _ | _ | _ | _ | _ | i <;> first | rfl | omega
  · rcases i with _ | _ | _ | _ | _ | _ | _ | _ | _ | _ | _ | _ | _ | _ | _ | _ | _ | _ | _ | _ | i <;> first | exact .int _ _ | omega
theorem GlT.tabIs {w : World} (h : GlT w) : Lib.TabIs Tryd.prog w "internal/strconv.uint64pow10" .u64 Lib.pow10Tab := by
  obtain ⟨t, fz, h⟩ := h.arr
  unfold Lib.TabIs World.var?
  rw [show Tryd.prog.globalNamed "internal/strconv.uint64pow10" = some 1 by kernel_rfl]
  simp only [Option.bind_some, h]
def GS : Sy where
  foot B := B = 0 ∨ B = 1
  holds := GlT
  low w h B e := by rcases e with rfl | rfl; exact h.gl.pos; exact h.size
  stab w w' h e := ⟨by have := h.gl; unfold Gl at this ⊢; rw [World.cell?_of_block (e 0 (.inl rfl))]; exact this, by
      obtain ⟨t, fz, h⟩ := h.arr
      exact ⟨t, fz, (e 1 (.inr rfl)).trans h⟩⟩
  gb B := match B with | 1 => some pow10 | _ => none
  gat w h B cells hB i hi := by
    match B, hB with
    | 1, hB => injection hB with hB; subst hB; exact h.tab i hi
theorem mixed : Tryd.prog.follows .mixedOrders = true := by decide
theorem asC (x : AV) : SpecC Tryd.prog GS 28 [.ifc 76 (.ptr (.loc 0) 0), .ifc 97 (.ptr (.loc 1) 0)] (lk [(1, ⟨[x], 76, true⟩)]) 2 (.bool true) (upOf [(1, ⟨[.ptr (.loc 0) 0], 76, true⟩)] []) 0 := by
  rw [upOf_one]
  refine SpecC.ofSet (k := 1) (o := 0) (b := ⟨[x], 76, true⟩) (x := .ptr (.loc 0) 0) (by kernel_rfl) rfl rfl (Nat.zero_lt_one) ?_
  intro C w args' hargs hI
  obtain ⟨y, z, rfl, hy, hz⟩ := hargs.two
  cases hy with
  | ifc _ _ y hy =>
    cases hy with
    | ptr _ _ c0 h0 =>
      cases hz with
      | ifc _ _ z hz =>
        cases hz with
        | ptr _ _ c1 h1 =>
          refine ⟨c1, h1, fun cs fz hb hcell hfr => ?_⟩
          refine (as_hit ⟨c0.blk, c0.base + 0, none⟩ ⟨c1.blk, c1.base + 0, none⟩ _ w hI.sy_.gl hcell hfr).mono ?_
          rintro e w' ⟨rfl, rfl⟩
          exact ⟨_, _, _, rfl, .bool true, .ptr _ _ c0 h0, ((((Newer.refl w).alloc _).alloc _).alloc _).alloc _, rfl⟩
theorem isC (x y : AV) (wr : Bool) (a c : Int) : SpecC Tryd.prog GS 29 [.ifc 76 (.ptr (.loc 0) 0), .ifc 74 (.int .i64 c)] (lk [(0, ⟨[x, y, .ifc 74 (.int .i64 a)], 78, wr⟩)]) 1 (.bool (a == c)) (upOf [] []) 0 := by
  refine ⟨by kernel_rfl, fun C w args' hargs hI hfr => ?_⟩
  obtain ⟨p, z, rfl, hp, hz⟩ := hargs.two
  cases hp with
  | ifc _ _ p hp =>
    cases hp with
    | ptr _ _ c0 h0 =>
      cases hz with
      | ifc _ _ z hz =>
        cases hz
        obtain ⟨v', q1, q2⟩ := cell_of (i := 2) (hI.at_ 0 _ rfl) h0 (by show 2 < 3; decide)
        cases q2 with
        | ifc _ _ v' q2 =>
          cases q2
          refine (is_fault_at c0.blk (c0.base + 0) a c _ rfl w q1).mono ?_
          rintro e w' ⟨rfl, rfl⟩
          exact ⟨_, C, rfl, Res.same hI (.bool _)⟩
theorem isN (a c : Int) (nx : Nat) : SpecC Tryd.prog GS 29 [.ifc 74 (.int .i64 a), .ifc 74 (.int .i64 c)] (lk []) nx (.bool (a == c)) (upOf [] []) 0 :=
  SpecC.ofCalls (by kernel_rfl) rfl rfl (fun w _ => (is_int a c _ rfl w).mono fun e w' ⟨x, y⟩ => ⟨x, y ▸ Newer.refl w⟩) nx
/-! ### closed runs: errors.As, errors.Is -/
theorem asG (i oi j oj nx : Nat) (L : Am.Lit) (b : ABlk) (hj : lk L j = some b) (he : Nat.beq b.elem 76 = true) (hw : b.wr = true) (ho : oj < b.cells.length) :
    SpecC Tryd.prog GS 28 [.ifc 76 (.ptr (.loc i) oi), .ifc 97 (.ptr (.loc j) oj)] (lk L) nx (.bool true) (oneUp j { b with cells := putAt b.cells oj [.ptr (.loc i) oi] }) 0 := by
  refine SpecC.ofSet (k := j) (o := oj) (b := b) (x := .ptr (.loc i) oi) (by kernel_rfl) hj hw ho ?_
  intro C w args' hargs hI
  obtain ⟨y, z, rfl, hy, hz⟩ := hargs.two
  cases hy with
  | ifc _ _ y hy =>
    cases hy with
    | ptr _ _ c0 h0 =>
      cases hz with
      | ifc _ _ z hz =>
        cases hz with
        | ptr _ _ c1 h1 =>
          refine ⟨c1, h1, fun cs fz hb hcell hfr => ?_⟩
          refine (as_hit ⟨c0.blk, c0.base + oi, none⟩ ⟨c1.blk, c1.base + oj, none⟩ _ w hI.sy_.gl hcell hfr).mono ?_
          rintro e w' ⟨rfl, rfl⟩
          exact ⟨_, _, _, rfl, .bool true, .ptr _ _ c0 h0, ((((Newer.refl w).alloc _).alloc _).alloc _).alloc _, rfl⟩
theorem isG (i oi nx : Nat) (a c : Int) (L : Am.Lit) (b : ABlk) (hi : lk L i = some b) (ho : oi + 2 < b.cells.length) (hx : b.cells.getD (oi + 2) .any = .ifc 74 (.int .i64 a)) :
    SpecC Tryd.prog GS 29 [.ifc 76 (.ptr (.loc i) oi), .ifc 74 (.int .i64 c)] (lk L) nx (.bool (a == c)) (upOf [] []) 0 := by
  refine ⟨by kernel_rfl, fun C w args' hargs hI hfr => ?_⟩
  obtain ⟨p, z, rfl, hp, hz⟩ := hargs.two
  cases hp with
  | ifc _ _ p hp =>
    cases hp with
    | ptr _ _ c0 h0 =>
      cases hz with
      | ifc _ _ z hz =>
        cases hz
        obtain ⟨v', q1, q2⟩ := cell_of (i := oi + 2) (hI.at_ i _ hi) h0 ho
        rw [hx] at q2
        cases q2 with
        | ifc _ _ v' q2 =>
          cases q2
          refine (is_fault_at c0.blk (c0.base + oi) a c _ rfl w (by rw [Nat.add_assoc]; exact q1)).mono ?_
          rintro e w' ⟨rfl, rfl⟩
          exact ⟨_, C, rfl, Res.same hI (.bool _)⟩
def orE : CallF := fun f args lit nx => match Nat.beq f 28 with
  | true => match args with
    | [.ifc t (.ptr (.loc i) oi), .ifc u (.ptr (.loc j) oj)] => match Nat.beq t 76 && Nat.beq u 97, lk lit j with
      | true, some b => match Nat.beq b.elem 76 && b.wr && Nat.blt oj b.cells.length with
        | true => some ⟨.bool true, [(j, { b with cells := putAt b.cells oj [.ptr (.loc i) oi] })], [], 0⟩
        | false => none
      | _, _ => none
    | _ => none
  | false => match Nat.beq f 29 with
    | true => match args with
      | [.ifc t (.ptr (.loc i) oi), .ifc u (.int .i64 c)] => match Nat.beq t 76 && Nat.beq u 74, lk lit i with
        | true, some b => match b.cells.getD (oi + 2) .any with
          | .ifc s (.int .i64 a) => match Nat.beq s 74 && Nat.blt (oi + 2) b.cells.length with
            | true => some ⟨.bool (a == c), [], [], 0⟩
            | false => none
          | _ => none
        | _, _ => none
      | [.ifc t (.int .i64 a), .ifc u (.int .i64 c)] => match Nat.beq t 74 && Nat.beq u 74 with
        | true => some ⟨.bool (a == c), [], [], 0⟩
        | false => none
      | _ => none
    | false => none
theorem blt_lt {a b : Nat} (h : Nat.blt a b = true) : a < b := by unfold Nat.blt at h; exact Nat.le_of_ble_eq_true h
theorem orE_ok : CallOk Tryd.prog GS orE := by
  intro f args lit nx r h hl
  unfold orE at h
  split at h
  · rename_i hf
    obtain rfl := Nat.eq_of_beq_eq_true hf
    split at h
    · rename_i t i oi u j oj
      split at h
      · rename_i b htu hb
        split at h
        · rename_i hc
          injection h with h; subst h
          simp only [Bool.and_eq_true] at htu hc
          obtain rfl := Nat.eq_of_beq_eq_true htu.1
          obtain rfl := Nat.eq_of_beq_eq_true htu.2
          rw [upOf_one]
          exact asG i oi j oj nx lit b hb hc.1.1 hc.1.2 (blt_lt hc.2)
        · cases h
      · cases h
    · cases h
  · split at h
    · rename_i hf
      obtain rfl := Nat.eq_of_beq_eq_true hf
      split at h
      · rename_i t i oi u c
        split at h
        · rename_i b htu hb
          simp only [Bool.and_eq_true] at htu
          obtain rfl := Nat.eq_of_beq_eq_true htu.1
          obtain rfl := Nat.eq_of_beq_eq_true htu.2
          split at h
          · rename_i s a hx
            split at h
            · rename_i hc
              injection h with h; subst h
              simp only [Bool.and_eq_true] at hc
              obtain rfl := Nat.eq_of_beq_eq_true hc.1
              exact isG i oi nx a c lit b hb (blt_lt hc.2) hx
            · cases h
          · cases h
        · cases h
      · rename_i t a u c
        split at h
        · rename_i htu
          simp only [Bool.and_eq_true] at htu
          obtain rfl := Nat.eq_of_beq_eq_true htu.1
          obtain rfl := Nat.eq_of_beq_eq_true htu.2
          injection h with h; subst h
          have := isN a c nx
          exact ⟨this.1, fun C w args' ha hI hf => ((this.2 C w args' ha (hI.sub (fun n b hb => by cases hb)) hf).mono fun e w1 ⟨v', C1, he, r⟩ => ⟨v', C1, he, r.frame hI (fun n b hb => by cases hb) (fun n hn => by have := hn.2; have := hn.1; omega)⟩)⟩
        · cases h
      · cases h
    · cases h
end Go.Proofs.YtgdeffompcikhaaDoor
