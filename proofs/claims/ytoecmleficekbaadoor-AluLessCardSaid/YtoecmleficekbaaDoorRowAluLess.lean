/- The tied card of the law hasplaw9.AluLess out of its walk: for every input it returns true, and its arguments read as before. Written by this repo's card.py. -/
import Derived.Test.YtoecmleficekbaaDoorRows
import Derived.Test.YtoecmleficekbaaDoorCards
import Derived.Test.YtoecmleficekbaaDoorTie
import Derived.Test.YtoecmleficekbaaDoorAmLess
import Derived.Test.YtoecmleficekbaaDoorAgg6
import Derived.WalkKit
import Derived.ProofKit
import Derived.OpenShut
import Derived.ShutString
import Derived.ChangeOld
import Derived.Below
import Derived.SizedLaws
import Derived.Carry
import Derived.ChangeSame
import Derived.ChangeVars
import Derived.JoinedOf
import Derived.RowKit
import Derived.RowKitTokens
import Derived.LaidLaws
import Derived.LaidHandle
import Derived.Stop.Joined
import Derived.Handed
import Derived.SevenTiedAt
namespace Go.Proofs.YtoecmleficekbaaDoor.aluLess
open Go.ChangeShapes Go.WideShapes Go.ChangeAt Go.RowKit
open Go.ChangeMaps (open_string shut_string)
set_option linter.unusedVariables false
set_option maxRecDepth 100000
theorem own : ownKnob Tryd.prog.godebug = none := by kernel_rfl
theorem et : Tryd.prog.globalNamed "errors.errorType" = some 0 := by kernel_rfl
theorem rt : (Tryd.prog.cutTypes.find? (·.1 == "internal/reflectlite.rtype")).map (·.2) = some 184 := by kernel_rfl
theorem oneRow : ((List.range 228).filter fun t => Tryd.prog.rowNamed t [101, 114, 114, 111, 114]) = [26] := by kernel_rfl
theorem size : Tryd.prog.types.size = 228 := by kernel_rfl
theorem laidOut : laidOutB Tryd.prog = true := by kernel_rfl
theorem handle_of_laid {W : World} (h : laidMetH Tryd.prog [("errors.errorType", Rows.laid_errors_errorType)] W) : Gl W := by
  have h' : laidMet Tryd.prog [] W ∧ handlesMet Tryd.prog [("errors.errorType", Rows.laid_errors_errorType)] W := h
  obtain ⟨name, u, ty, e1, e2, e3, e4, e5⟩ := h'.2 _ (List.mem_singleton.2 rfl)
  have en : name = [101, 114, 114, 111, 114] := (Option.some.inj e1).symm
  subst en
  obtain rfl := Option.some.inj (rt.symm.trans e2)
  have hm : ty ∈ (List.range 228).filter fun t => Tryd.prog.rowNamed t [101, 114, 114, 111, 114] := List.mem_filter.2 ⟨List.mem_range.2 (by rw [← size]; exact e3), e4⟩
  rw [oneRow] at hm
  obtain rfl := List.mem_singleton.1 hm
  have hh : typeHandle Tryd.prog 26 = .pointer (some ⟨1, 26, none⟩) := by kernel_rfl
  rw [hh] at e5
  have h0 := World.var?_cell et e5 0
  show W.cell? _ = _
  simpa using h0
noncomputable def laidWorld (os : Os) : World :=
  let w0 := World.holding Tryd.prog os ⟨#[], #[], []⟩
  { w0 with heap := w0.heap.modify 0 fun
      | .cells _ t frozen => .cells #[.iface 184 (.agg #[.pointer (some ⟨1, 26, none⟩)])] t frozen
      | o => o }
theorem laidWorld_met (os : Os) (args : Array Value) : laidMetH Tryd.prog [("errors.errorType", Rows.laid_errors_errorType)] ((laidWorld os).forCall (fun _ _ => 0) ⟨#[], args, []⟩).memory :=
  laidMetH_of_parts (laidMet_nil _ _) (by kernel_rfl)
theorem lifted (os : Os) (started : os.Started) (H : Type) (enc : TypeId × Value → H) :
    ReturnsInHanded {} Tryd.checked os 8 .any (fun w args => (Rows.aluLessSpec.pre enc Tryd.prog Tryd.f8 [] false w args ∧ laidMetH Tryd.prog [("errors.errorType", Rows.laid_errors_errorType)] w) ∧ sizedMet enc Tryd.prog Tryd.f8 (OpenSpec.ofChange Rows.aluLessSpec) false w args) (Rows.aluLessSpec.post enc Tryd.prog Tryd.f8 false true false false) := by
  refine returnsInHanded_of_change_and (C := Tryd.checked) (X := fun w _ => laidMetH Tryd.prog [("errors.errorType", Rows.laid_errors_errorType)] w) (fun _ _ _ hh h => h.of_heap hh) own started (by kernel_rfl) Tryd.func8
    (ChangeSpec.witness_at (enc := enc) (C := Tryd.checked) (os := os) (X := fun w _ => laidMetH Tryd.prog [("errors.errorType", Rows.laid_errors_errorType)] w) false (laidWorld os) #[.string ByteArray.empty, .agg #[.bool false, .int .u32 0, .int .u32 0, .int .u32 0, .int .u16 0, .int .u16 0], .agg #[.bool false, .int .u32 0, .int .u32 0, .int .u32 0, .int .u16 0, .int .u16 0], .int .i32 0] 8 rfl (by kernel_rfl) (by kernel_rfl) (by kernel_rfl) (by kernel_rfl) (by kernel_rfl) (laidWorld_met os _)) ?_
  intro W base args ds gs before hval0 hW hcnd hsz0 hL _
  have hsz : (DataW.weightsEach Tryd.prog (Tryd.f8.params.toList ++ Rows.aluLessSpec.plain.varTypes Tryd.prog) (ds ++ gs)).all (· ≤ reachBytes) = true := hsz0
  have hval : ∀ (j : Nat) t v, Tryd.f8.params[j]? = some t → args[j]? = some v → Value.okWide Tryd.prog W .any base t v := hval0
  have hW' := hW
  obtain ⟨p, q, hA0, hV, rfl, hfz, hnd⟩ := hW
  have hA : DataW.TrodAll enc Tryd.prog W 0 (fun _ => true) true Tryd.f8.params.toList args.toList ds p := hA0
  rw [Tryd.params8] at hA hval hsz
  obtain ⟨v0, vs0, d0, ds0, p0, q0, hargs, rfl, rfl, h0, r0⟩ := trodAll_cons hA
  obtain ⟨v1, vs1, d1, ds1, p1, q1, rfl, rfl, rfl, h1, r1⟩ := trodAll_cons r0
  obtain ⟨v2, vs2, d2, ds2, p2, q2, rfl, rfl, rfl, h2, r2⟩ := trodAll_cons r1
  obtain ⟨v3, vs3, d3, ds3, p3, q3, rfl, rfl, rfl, h3, r3⟩ := trodAll_cons r2
  obtain ⟨rfl, rfl, rfl⟩ := trodAll_nil r3
  obtain rfl : args = #[v0, v1, v2, v3] := by cases args; simp_all
  obtain ⟨rfl, rfl⟩ := trodVars_none hV
  obtain ⟨a0, rfl, rfl, rfl, y0⟩ := open_string Tryd.underlying9 (hval 0 9 v0 rfl rfl) h0
  have w0 : a0.size ≤ 140737488351232 := by
    have z := sized_string hsz (j := 0) (t := 9) rfl rfl
    rw [Array.length_toList] at z
    exact z
  have k1 := h1
  obtain ⟨c10, c11, c12, c13, c14, c15, y10, y11, y12, y13, y14, y15, m1, rfl, rfl, rfl, hy10, hy11, hy12, hy13, hy14, hy15⟩ := open_agg6 Tryd.underlying33 (by kernel_rfl) (by kernel_rfl) (hval 1 33 v1 rfl rfl) h1
  obtain ⟨x10, e10, rfl⟩ := DataW.trod_bool Tryd.underlying4 hy10
  obtain rfl := (List.cons.inj e10).1
  obtain ⟨x11, e11, rfl, w11⟩ := DataW.trod_int Tryd.underlying30 hy11
  obtain rfl := (List.cons.inj e11).1
  obtain ⟨b11, u11⟩ : 0 ≤ x11 ∧ x11 < 4294967296 := by have := w11; simp [Lit.wf, IntKind.min, IntKind.max, IntKind.signed, IntKind.bits] at this; omega
  obtain ⟨x12, e12, rfl, w12⟩ := DataW.trod_int Tryd.underlying30 hy12
  obtain rfl := (List.cons.inj e12).1
  obtain ⟨b12, u12⟩ : 0 ≤ x12 ∧ x12 < 4294967296 := by have := w12; simp [Lit.wf, IntKind.min, IntKind.max, IntKind.signed, IntKind.bits] at this; omega
  obtain ⟨x13, e13, rfl, w13⟩ := DataW.trod_int Tryd.underlying30 hy13
  obtain rfl := (List.cons.inj e13).1
  obtain ⟨b13, u13⟩ : 0 ≤ x13 ∧ x13 < 4294967296 := by have := w13; simp [Lit.wf, IntKind.min, IntKind.max, IntKind.signed, IntKind.bits] at this; omega
  obtain ⟨x14, e14, rfl, w14⟩ := DataW.trod_int Tryd.underlying31 hy14
  obtain rfl := (List.cons.inj e14).1
  obtain ⟨b14, u14⟩ : 0 ≤ x14 ∧ x14 < 65536 := by have := w14; simp [Lit.wf, IntKind.min, IntKind.max, IntKind.signed, IntKind.bits] at this; omega
  obtain ⟨x15, e15, rfl, w15⟩ := DataW.trod_int Tryd.underlying31 hy15
  obtain rfl := (List.cons.inj e15).1
  obtain ⟨b15, u15⟩ : 0 ≤ x15 ∧ x15 < 65536 := by have := w15; simp [Lit.wf, IntKind.min, IntKind.max, IntKind.signed, IntKind.bits] at this; omega
  have k2 := h2
  obtain ⟨c20, c21, c22, c23, c24, c25, y20, y21, y22, y23, y24, y25, m2, rfl, rfl, rfl, hy20, hy21, hy22, hy23, hy24, hy25⟩ := open_agg6 Tryd.underlying33 (by kernel_rfl) (by kernel_rfl) (hval 2 33 v2 rfl rfl) h2
  obtain ⟨x20, e20, rfl⟩ := DataW.trod_bool Tryd.underlying4 hy20
  obtain rfl := (List.cons.inj e20).1
  obtain ⟨x21, e21, rfl, w21⟩ := DataW.trod_int Tryd.underlying30 hy21
  obtain rfl := (List.cons.inj e21).1
  obtain ⟨b21, u21⟩ : 0 ≤ x21 ∧ x21 < 4294967296 := by have := w21; simp [Lit.wf, IntKind.min, IntKind.max, IntKind.signed, IntKind.bits] at this; omega
  obtain ⟨x22, e22, rfl, w22⟩ := DataW.trod_int Tryd.underlying30 hy22
  obtain rfl := (List.cons.inj e22).1
  obtain ⟨b22, u22⟩ : 0 ≤ x22 ∧ x22 < 4294967296 := by have := w22; simp [Lit.wf, IntKind.min, IntKind.max, IntKind.signed, IntKind.bits] at this; omega
  obtain ⟨x23, e23, rfl, w23⟩ := DataW.trod_int Tryd.underlying30 hy23
  obtain rfl := (List.cons.inj e23).1
  obtain ⟨b23, u23⟩ : 0 ≤ x23 ∧ x23 < 4294967296 := by have := w23; simp [Lit.wf, IntKind.min, IntKind.max, IntKind.signed, IntKind.bits] at this; omega
  obtain ⟨x24, e24, rfl, w24⟩ := DataW.trod_int Tryd.underlying31 hy24
  obtain rfl := (List.cons.inj e24).1
  obtain ⟨b24, u24⟩ : 0 ≤ x24 ∧ x24 < 65536 := by have := w24; simp [Lit.wf, IntKind.min, IntKind.max, IntKind.signed, IntKind.bits] at this; omega
  obtain ⟨x25, e25, rfl, w25⟩ := DataW.trod_int Tryd.underlying31 hy25
  obtain rfl := (List.cons.inj e25).1
  obtain ⟨b25, u25⟩ : 0 ≤ x25 ∧ x25 < 65536 := by have := w25; simp [Lit.wf, IntKind.min, IntKind.max, IntKind.signed, IntKind.bits] at this; omega
  obtain ⟨a3, rfl, rfl, rfl, w3⟩ := open_int Tryd.underlying21 (hval 3 21 v3 rfl rfl) h3
  obtain ⟨b3, c3⟩ : -2147483648 ≤ a3 ∧ a3 < 2147483648 := by have := w3; simp [Lit.wf, IntKind.min, IntKind.max, IntKind.signed, IntKind.bits] at this; omega
  have hg := handle_of_laid hL
  clear hA0 hval0 hsz0 hsz
  refine (aluLess_am a0 ⟨x10, x11, x12, x13, x14, x15⟩ ⟨x20, x21, x22, x23, x24, x25⟩ a3 w0 ⟨b11, u11, b12, u12, b13, u13, b14, u14, b15, u15⟩ ⟨b21, u21, b22, u22, b23, u23, b24, u24, b25, u25⟩ b3 c3 W hg).mono fun e W' ⟨he, hn⟩ => ?_
  have bel := hn.below
  subst he
  exact ⟨_, rfl, _, _, _, [], _, [], hW', trodAll_mk1 (shut_bool Tryd.underlying4 _), (trodAll_cons_mk (shut_string Tryd.underlying9 y0) (trodAll_cons_mk (Below.trod laidOut (by kernel_rfl) (of_decide_eq_true (by kernel_rfl)) k1 bel (by intro x hx; simp at hx)) (trodAll_cons_mk (Below.trod laidOut (by kernel_rfl) (of_decide_eq_true (by kernel_rfl)) k2 bel (by intro x hx; simp at hx)) (trodAll_cons_mk (shut_int Tryd.underlying21 w3) trodAll_mk0)))), rfl, bel.frame _, fun h => by cases h⟩
theorem over : Rows.aluLessRow.holds Tryd.pinned (OpenSpec.ofChange Rows.aluLessSpec) :=
  OpenClaim.holds_of_wide 8 Tryd.f8 rfl rfl rfl rfl rfl rfl rfl ⟨rfl, rfl, rfl, rfl, rfl⟩ rfl rfl rfl rfl rfl (by kernel_rfl) Tryd.func8 (by kernel_rfl)
    (of_decide_eq_true (by kernel_rfl)) (by unfold Func.isWrapper; first | (rw [if_pos (by decide +kernel)]; kernel_rfl) | (rw [if_neg (by decide +kernel)]; exact ⟨rfl, rfl⟩))
    (fun os started H enc _ => lifted os started H enc)
theorem noStand : ([9, 33, 33, 21].all fun t => Tryd.prog.wantsStandIn t == false) = true := by kernel_rfl
theorem proved : Rows.AluLessCardSaid :=
  Claim7.holds_tied_plain_at .later [] [.handle] true (true, "8b5ab19b1906aa61d744aac4e12e04b9cbb09ffd17e61c0e4a8659193c2d278e") true
    over (fun _ h => by cases h) (by kernel_rfl) (fun _ h => by cases h) aluLess_row_tie rfl ⟨rfl, rfl⟩ (by kernel_rfl) rfl
    (fun f fn hf hfn => by
      obtain rfl : f = 8 := Option.some.inj ((show Tryd.prog.funcNamed "hasp/hasplaw9.AluLess" = some 8 by kernel_rfl).symm.trans hf) |>.symm
      obtain rfl : fn = Tryd.f8 := (Option.some.inj (Tryd.func8.symm.trans hfn)).symm
      exact ⟨by kernel_rfl, fun j t ht => by
        rw [Tryd.params8] at ht
        have hm : t ∈ [9, 33, 33, 21] := by simpa using Array.mem_of_getElem? ht
        exact beq_iff_eq.1 (List.all_eq_true.1 noStand t hm)⟩)
    (by kernel_rfl)
#print axioms proved
end Go.Proofs.YtoecmleficekbaaDoor.aluLess
namespace Go.Proofs.YtoecmleficekbaaDoor
/-- The card, under a short name, for the claim. -/
theorem aluLess_holds : Rows.AluLessCardSaid := aluLess.proved
end Go.Proofs.YtoecmleficekbaaDoor
