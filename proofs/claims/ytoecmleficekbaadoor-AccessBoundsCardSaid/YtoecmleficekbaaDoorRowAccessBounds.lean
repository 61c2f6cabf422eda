/- The tied card of the law hasplaw5.AccessBounds out of its walk: for every input it returns true, and its arguments read as before. Written by this repo's card.py. -/
import Derived.Test.YtoecmleficekbaaDoorRows
import Derived.Test.YtoecmleficekbaaDoorCards
import Derived.Test.YtoecmleficekbaaDoorTie
import Derived.Test.YtoecmleficekbaaDoorAmABnd
import Derived.Test.YtoecmleficekbaaDoorAgg6
import Derived.WalkKit
import Derived.ProofKit
import Derived.OpenShut
import Derived.ShutString
import Derived.ChangeOld
import Derived.Below
import Derived.SizedLaws
import Derived.Carry
import Derived.ChangeSame
import Derived.ChangeVars
import Derived.JoinedOf
import Derived.RowKit
import Derived.RowKitTokens
import Derived.LaidLaws
import Derived.LaidHandle
import Derived.Stop.Joined
import Derived.Handed
import Derived.SevenTiedAt
namespace Go.Proofs.YtoecmleficekbaaDoor.accessBounds
open Go.ChangeShapes Go.WideShapes Go.ChangeAt Go.RowKit
open Go.ChangeMaps (open_string shut_string)
set_option linter.unusedVariables false
set_option maxRecDepth 100000
theorem own : ownKnob Tryd.prog.godebug = none := by kernel_rfl
theorem et : Tryd.prog.globalNamed "errors.errorType" = some 0 := by kernel_rfl
theorem rt : (Tryd.prog.cutTypes.find? (·.1 == "internal/reflectlite.rtype")).map (·.2) = some 184 := by kernel_rfl
theorem oneRow : ((List.range 228).filter fun t => Tryd.prog.rowNamed t [101, 114, 114, 111, 114]) = [26] := by kernel_rfl
theorem size : Tryd.prog.types.size = 228 := by kernel_rfl
theorem laidOut : laidOutB Tryd.prog = true := by kernel_rfl
theorem handle_of_laid {W : World} (h : laidMetH Tryd.prog [("errors.errorType", Rows.laid_errors_errorType)] W) : Gl W := by
  have h' : laidMet Tryd.prog [] W ∧ handlesMet Tryd.prog [("errors.errorType", Rows.laid_errors_errorType)] W := h
  obtain ⟨name, u, ty, e1, e2, e3, e4, e5⟩ := h'.2 _ (List.mem_singleton.2 rfl)
  have en : name = [101, 114, 114, 111, 114] := (Option.some.inj e1).symm
  subst en
  obtain rfl := Option.some.inj (rt.symm.trans e2)
  have hm : ty ∈ (List.range 228).filter fun t => Tryd.prog.rowNamed t [101, 114, 114, 111, 114] := List.mem_filter.2 ⟨List.mem_range.2 (by rw [← size]; exact e3), e4⟩
  rw [oneRow] at hm
  obtain rfl := List.mem_singleton.1 hm
  have hh : typeHandle Tryd.prog 26 = .pointer (some ⟨1, 26, none⟩) := by kernel_rfl
  rw [hh] at e5
  have h0 := World.var?_cell et e5 0
  show W.cell? _ = _
  simpa using h0
noncomputable def laidWorld (os : Os) : World :=
  let w0 := World.holding Tryd.prog os ⟨#[], #[], []⟩
  { w0 with heap := w0.heap.modify 0 fun
      | .cells _ t frozen => .cells #[.iface 184 (.agg #[.pointer (some ⟨1, 26, none⟩)])] t frozen
      | o => o }
theorem laidWorld_met (os : Os) (args : Array Value) : laidMetH Tryd.prog [("errors.errorType", Rows.laid_errors_errorType)] ((laidWorld os).forCall (fun _ _ => 0) ⟨#[], args, []⟩).memory :=
  laidMetH_of_parts (laidMet_nil _ _) (by kernel_rfl)
theorem lifted (os : Os) (started : os.Started) (H : Type) (enc : TypeId × Value → H) :
    ReturnsInHanded {} Tryd.checked os 16 .any (fun w args => (Rows.accessBoundsSpec.pre enc Tryd.prog Tryd.f16 [] false w args ∧ laidMetH Tryd.prog [("errors.errorType", Rows.laid_errors_errorType)] w) ∧ sizedMet enc Tryd.prog Tryd.f16 (OpenSpec.ofChange Rows.accessBoundsSpec) false w args) (Rows.accessBoundsSpec.post enc Tryd.prog Tryd.f16 false true false false) := by
  refine returnsInHanded_of_change_and (C := Tryd.checked) (X := fun w _ => laidMetH Tryd.prog [("errors.errorType", Rows.laid_errors_errorType)] w) (fun _ _ _ hh h => h.of_heap hh) own started (by kernel_rfl) Tryd.func16
    (ChangeSpec.witness_at (enc := enc) (C := Tryd.checked) (os := os) (X := fun w _ => laidMetH Tryd.prog [("errors.errorType", Rows.laid_errors_errorType)] w) false (laidWorld os) #[.agg #[.bool false, .int .u32 0, .int .u32 0, .int .u32 0, .int .u16 0, .int .u16 0], .int .i32 0, .int .i64 0, .int .u32 0, .agg #[.bool false, .int .u32 0, .int .u32 0, .int .u32 0, .int .u16 0, .int .u16 0]] 8 rfl (by kernel_rfl) (by kernel_rfl) (by kernel_rfl) (by kernel_rfl) (by kernel_rfl) (laidWorld_met os _)) ?_
  intro W base args ds gs before hval0 hW hcnd hsz0 hL _
  have hsz : (DataW.weightsEach Tryd.prog (Tryd.f16.params.toList ++ Rows.accessBoundsSpec.plain.varTypes Tryd.prog) (ds ++ gs)).all (· ≤ reachBytes) = true := hsz0
  have hval : ∀ (j : Nat) t v, Tryd.f16.params[j]? = some t → args[j]? = some v → Value.okWide Tryd.prog W .any base t v := hval0
  have hW' := hW
  obtain ⟨p, q, hA0, hV, rfl, hfz, hnd⟩ := hW
  have hA : DataW.TrodAll enc Tryd.prog W 0 (fun _ => true) true Tryd.f16.params.toList args.toList ds p := hA0
  rw [Tryd.params16] at hA hval hsz
  obtain ⟨v0, vs0, d0, ds0, p0, q0, hargs, rfl, rfl, h0, r0⟩ := trodAll_cons hA
  obtain ⟨v1, vs1, d1, ds1, p1, q1, rfl, rfl, rfl, h1, r1⟩ := trodAll_cons r0
  obtain ⟨v2, vs2, d2, ds2, p2, q2, rfl, rfl, rfl, h2, r2⟩ := trodAll_cons r1
  obtain ⟨v3, vs3, d3, ds3, p3, q3, rfl, rfl, rfl, h3, r3⟩ := trodAll_cons r2
  obtain ⟨v4, vs4, d4, ds4, p4, q4, rfl, rfl, rfl, h4, r4⟩ := trodAll_cons r3
  obtain ⟨rfl, rfl, rfl⟩ := trodAll_nil r4
  obtain rfl : args = #[v0, v1, v2, v3, v4] := by cases args; simp_all
  obtain ⟨rfl, rfl⟩ := trodVars_none hV
  have k0 := h0
  obtain ⟨c00, c01, c02, c03, c04, c05, y00, y01, y02, y03, y04, y05, m0, rfl, rfl, rfl, hy00, hy01, hy02, hy03, hy04, hy05⟩ := open_agg6 Tryd.underlying33 (by kernel_rfl) (by kernel_rfl) (hval 0 33 v0 rfl rfl) h0
  obtain ⟨x00, e00, rfl⟩ := DataW.trod_bool Tryd.underlying4 hy00
  obtain rfl := (List.cons.inj e00).1
  obtain ⟨x01, e01, rfl, w01⟩ := DataW.trod_int Tryd.underlying30 hy01
  obtain rfl := (List.cons.inj e01).1
  obtain ⟨b01, u01⟩ : 0 ≤ x01 ∧ x01 < 4294967296 := by have := w01; simp [Lit.wf, IntKind.min, IntKind.max, IntKind.signed, IntKind.bits] at this; omega
  obtain ⟨x02, e02, rfl, w02⟩ := DataW.trod_int Tryd.underlying30 hy02
  obtain rfl := (List.cons.inj e02).1
  obtain ⟨b02, u02⟩ : 0 ≤ x02 ∧ x02 < 4294967296 := by have := w02; simp [Lit.wf, IntKind.min, IntKind.max, IntKind.signed, IntKind.bits] at this; omega
  obtain ⟨x03, e03, rfl, w03⟩ := DataW.trod_int Tryd.underlying30 hy03
  obtain rfl := (List.cons.inj e03).1
  obtain ⟨b03, u03⟩ : 0 ≤ x03 ∧ x03 < 4294967296 := by have := w03; simp [Lit.wf, IntKind.min, IntKind.max, IntKind.signed, IntKind.bits] at this; omega
  obtain ⟨x04, e04, rfl, w04⟩ := DataW.trod_int Tryd.underlying31 hy04
  obtain rfl := (List.cons.inj e04).1
  obtain ⟨b04, u04⟩ : 0 ≤ x04 ∧ x04 < 65536 := by have := w04; simp [Lit.wf, IntKind.min, IntKind.max, IntKind.signed, IntKind.bits] at this; omega
  obtain ⟨x05, e05, rfl, w05⟩ := DataW.trod_int Tryd.underlying31 hy05
  obtain rfl := (List.cons.inj e05).1
  obtain ⟨b05, u05⟩ : 0 ≤ x05 ∧ x05 < 65536 := by have := w05; simp [Lit.wf, IntKind.min, IntKind.max, IntKind.signed, IntKind.bits] at this; omega
  obtain ⟨a1, rfl, rfl, rfl, w1⟩ := open_int Tryd.underlying21 (hval 1 21 v1 rfl rfl) h1
  obtain ⟨b1, c1⟩ : -2147483648 ≤ a1 ∧ a1 < 2147483648 := by have := w1; simp [Lit.wf, IntKind.min, IntKind.max, IntKind.signed, IntKind.bits] at this; omega
  obtain ⟨a2, rfl, rfl, rfl, w2⟩ := open_int Tryd.underlying3 (hval 2 3 v2 rfl rfl) h2
  obtain ⟨a3, rfl, rfl, rfl, w3⟩ := open_int Tryd.underlying30 (hval 3 30 v3 rfl rfl) h3
  obtain ⟨b3, c3⟩ : 0 ≤ a3 ∧ a3 < 4294967296 := by have := w3; simp [Lit.wf, IntKind.min, IntKind.max, IntKind.signed, IntKind.bits] at this; omega
  have k4 := h4
  obtain ⟨c40, c41, c42, c43, c44, c45, y40, y41, y42, y43, y44, y45, m4, rfl, rfl, rfl, hy40, hy41, hy42, hy43, hy44, hy45⟩ := open_agg6 Tryd.underlying33 (by kernel_rfl) (by kernel_rfl) (hval 4 33 v4 rfl rfl) h4
  obtain ⟨x40, e40, rfl⟩ := DataW.trod_bool Tryd.underlying4 hy40
  obtain rfl := (List.cons.inj e40).1
  obtain ⟨x41, e41, rfl, w41⟩ := DataW.trod_int Tryd.underlying30 hy41
  obtain rfl := (List.cons.inj e41).1
  obtain ⟨b41, u41⟩ : 0 ≤ x41 ∧ x41 < 4294967296 := by have := w41; simp [Lit.wf, IntKind.min, IntKind.max, IntKind.signed, IntKind.bits] at this; omega
  obtain ⟨x42, e42, rfl, w42⟩ := DataW.trod_int Tryd.underlying30 hy42
  obtain rfl := (List.cons.inj e42).1
  obtain ⟨b42, u42⟩ : 0 ≤ x42 ∧ x42 < 4294967296 := by have := w42; simp [Lit.wf, IntKind.min, IntKind.max, IntKind.signed, IntKind.bits] at this; omega
  obtain ⟨x43, e43, rfl, w43⟩ := DataW.trod_int Tryd.underlying30 hy43
  obtain rfl := (List.cons.inj e43).1
  obtain ⟨b43, u43⟩ : 0 ≤ x43 ∧ x43 < 4294967296 := by have := w43; simp [Lit.wf, IntKind.min, IntKind.max, IntKind.signed, IntKind.bits] at this; omega
  obtain ⟨x44, e44, rfl, w44⟩ := DataW.trod_int Tryd.underlying31 hy44
  obtain rfl := (List.cons.inj e44).1
  obtain ⟨b44, u44⟩ : 0 ≤ x44 ∧ x44 < 65536 := by have := w44; simp [Lit.wf, IntKind.min, IntKind.max, IntKind.signed, IntKind.bits] at this; omega
  obtain ⟨x45, e45, rfl, w45⟩ := DataW.trod_int Tryd.underlying31 hy45
  obtain rfl := (List.cons.inj e45).1
  obtain ⟨b45, u45⟩ : 0 ≤ x45 ∧ x45 < 65536 := by have := w45; simp [Lit.wf, IntKind.min, IntKind.max, IntKind.signed, IntKind.bits] at this; omega
  have hg := handle_of_laid hL
  clear hA0 hval0 hsz0 hsz
  refine (accessBounds_am ⟨x00, x01, x02, x03, x04, x05⟩ a1 a2 a3 ⟨x40, x41, x42, x43, x44, x45⟩ ⟨b01, u01, b02, u02, b03, u03, b04, u04, b05, u05⟩ b1 c1 b3 c3 ⟨b41, u41, b42, u42, b43, u43, b44, u44, b45, u45⟩ W hg).mono fun e W' ⟨he, hn⟩ => ?_
  have bel := hn.below
  subst he
  exact ⟨_, rfl, _, _, _, [], _, [], hW', trodAll_mk1 (shut_bool Tryd.underlying4 _), (trodAll_cons_mk (Below.trod laidOut (by kernel_rfl) (of_decide_eq_true (by kernel_rfl)) k0 bel (by intro x hx; simp at hx)) (trodAll_cons_mk (shut_int Tryd.underlying21 w1) (trodAll_cons_mk (shut_int Tryd.underlying3 w2) (trodAll_cons_mk (shut_int Tryd.underlying30 w3) (trodAll_cons_mk (Below.trod laidOut (by kernel_rfl) (of_decide_eq_true (by kernel_rfl)) k4 bel (by intro x hx; simp at hx)) trodAll_mk0))))), rfl, bel.frame _, fun h => by cases h⟩
theorem over : Rows.accessBoundsRow.holds Tryd.pinned (OpenSpec.ofChange Rows.accessBoundsSpec) :=
  OpenClaim.holds_of_wide 16 Tryd.f16 rfl rfl rfl rfl rfl rfl rfl ⟨rfl, rfl, rfl, rfl, rfl⟩ rfl rfl rfl rfl rfl (by kernel_rfl) Tryd.func16 (by kernel_rfl)
    (of_decide_eq_true (by kernel_rfl)) (by unfold Func.isWrapper; first | (rw [if_pos (by decide +kernel)]; kernel_rfl) | (rw [if_neg (by decide +kernel)]; exact ⟨rfl, rfl⟩))
    (fun os started H enc _ => lifted os started H enc)
theorem noStand : ([33, 21, 3, 30, 33].all fun t => Tryd.prog.wantsStandIn t == false) = true := by kernel_rfl
theorem proved : Rows.AccessBoundsCardSaid :=
  Claim7.holds_tied_plain_at .later [] [.handle] true (true, "8b5ab19b1906aa61d744aac4e12e04b9cbb09ffd17e61c0e4a8659193c2d278e") true
    over (fun _ h => by cases h) (by kernel_rfl) (fun _ h => by cases h) accessBounds_row_tie rfl ⟨rfl, rfl⟩ (by kernel_rfl) rfl
    (fun f fn hf hfn => by
      obtain rfl : f = 16 := Option.some.inj ((show Tryd.prog.funcNamed "hasp/hasplaw5.AccessBounds" = some 16 by kernel_rfl).symm.trans hf) |>.symm
      obtain rfl : fn = Tryd.f16 := (Option.some.inj (Tryd.func16.symm.trans hfn)).symm
      exact ⟨by kernel_rfl, fun j t ht => by
        rw [Tryd.params16] at ht
        have hm : t ∈ [33, 21, 3, 30, 33] := by simpa using Array.mem_of_getElem? ht
        exact beq_iff_eq.1 (List.all_eq_true.1 noStand t hm)⟩)
    (by kernel_rfl)
#print axioms proved
end Go.Proofs.YtoecmleficekbaaDoor.accessBounds
namespace Go.Proofs.YtoecmleficekbaaDoor
/-- The card, under a short name, for the claim. -/
theorem accessBounds_holds : Rows.AccessBoundsCardSaid := accessBounds.proved
end Go.Proofs.YtoecmleficekbaaDoor
