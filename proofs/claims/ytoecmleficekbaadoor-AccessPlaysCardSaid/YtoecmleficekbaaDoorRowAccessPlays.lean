/- The tied card of the law hasplaw5.AccessPlays out of its walk: for every input it returns true, and its arguments read as before. Written by this repo's card.py. -/
import Derived.Test.YtoecmleficekbaaDoorRows
import Derived.Test.YtoecmleficekbaaDoorCards
import Derived.Test.YtoecmleficekbaaDoorTie
import Derived.Test.YtoecmleficekbaaDoorAmAPlays
import Derived.Test.YtoecmleficekbaaDoorAgg6
import Derived.WalkKit
import Derived.ProofKit
import Derived.OpenShut
import Derived.ShutString
import Derived.ChangeOld
import Derived.Below
import Derived.SizedLaws
import Derived.Carry
import Derived.ChangeSame
import Derived.ChangeVars
import Derived.JoinedOf
import Derived.RowKit
import Derived.RowKitTokens
import Derived.LaidLaws
import Derived.LaidHandle
import Derived.Stop.Joined
import Derived.Handed
import Derived.SevenTiedAt
namespace Go.Proofs.YtoecmleficekbaaDoor.accessPlays
open Go.ChangeShapes Go.WideShapes Go.ChangeAt Go.RowKit
open Go.ChangeMaps (open_string shut_string)
set_option linter.unusedVariables false
set_option maxRecDepth 100000
theorem own : ownKnob Tryd.prog.godebug = none := by kernel_rfl
theorem et : Tryd.prog.globalNamed "errors.errorType" = some 0 := by kernel_rfl
theorem rt : (Tryd.prog.cutTypes.find? (·.1 == "internal/reflectlite.rtype")).map (·.2) = some 184 := by kernel_rfl
theorem oneRow : ((List.range 228).filter fun t => Tryd.prog.rowNamed t [101, 114, 114, 111, 114]) = [26] := by kernel_rfl
theorem size : Tryd.prog.types.size = 228 := by kernel_rfl
theorem laidOut : laidOutB Tryd.prog = true := by kernel_rfl
theorem handle_of_laid {W : World} (h : laidMetH Tryd.prog [("errors.errorType", Rows.laid_errors_errorType)] W) : Gl W := by
  have h' : laidMet Tryd.prog [] W ∧ handlesMet Tryd.prog [("errors.errorType", Rows.laid_errors_errorType)] W := h
  obtain ⟨name, u, ty, e1, e2, e3, e4, e5⟩ := h'.2 _ (List.mem_singleton.2 rfl)
  have en : name = [101, 114, 114, 111, 114] := (Option.some.inj e1).symm
  subst en
  obtain rfl := Option.some.inj (rt.symm.trans e2)
  have hm : ty ∈ (List.range 228).filter fun t => Tryd.prog.rowNamed t [101, 114, 114, 111, 114] := List.mem_filter.2 ⟨List.mem_range.2 (by rw [← size]; exact e3), e4⟩
  rw [oneRow] at hm
  obtain rfl := List.mem_singleton.1 hm
  have hh : typeHandle Tryd.prog 26 = .pointer (some ⟨1, 26, none⟩) := by kernel_rfl
  rw [hh] at e5
  have h0 := World.var?_cell et e5 0
  show W.cell? _ = _
  simpa using h0
noncomputable def laidWorld (os : Os) : World :=
  let w0 := World.holding Tryd.prog os ⟨#[], #[], []⟩
  { w0 with heap := w0.heap.modify 0 fun
      | .cells _ t frozen => .cells #[.iface 184 (.agg #[.pointer (some ⟨1, 26, none⟩)])] t frozen
      | o => o }
theorem laidWorld_met (os : Os) (args : Array Value) : laidMetH Tryd.prog [("errors.errorType", Rows.laid_errors_errorType)] ((laidWorld os).forCall (fun _ _ => 0) ⟨#[], args, []⟩).memory :=
  laidMetH_of_parts (laidMet_nil _ _) (by kernel_rfl)
theorem lifted (os : Os) (started : os.Started) (H : Type) (enc : TypeId × Value → H) :
    ReturnsInHanded {} Tryd.checked os 15 .any (fun w args => (Rows.accessPlaysSpec.pre enc Tryd.prog Tryd.f15 [] false w args ∧ laidMetH Tryd.prog [("errors.errorType", Rows.laid_errors_errorType)] w) ∧ sizedMet enc Tryd.prog Tryd.f15 (OpenSpec.ofChange Rows.accessPlaysSpec) false w args) (Rows.accessPlaysSpec.post enc Tryd.prog Tryd.f15 false true false false) := by
  refine returnsInHanded_of_change_and (C := Tryd.checked) (X := fun w _ => laidMetH Tryd.prog [("errors.errorType", Rows.laid_errors_errorType)] w) (fun _ _ _ hh h => h.of_heap hh) own started (by kernel_rfl) Tryd.func15
    (ChangeSpec.witness_at (enc := enc) (C := Tryd.checked) (os := os) (X := fun w _ => laidMetH Tryd.prog [("errors.errorType", Rows.laid_errors_errorType)] w) false (laidWorld os) #[.slice none 0 0, .agg #[.bool false, .int .u32 0, .int .u32 0, .int .u32 0, .int .u16 0, .int .u16 0], .int .i32 0, .int .i64 0, .int .u32 0, .agg #[.bool false, .int .u32 0, .int .u32 0, .int .u32 0, .int .u16 0, .int .u16 0]] 8 rfl (by kernel_rfl) (by kernel_rfl) (by kernel_rfl) (by kernel_rfl) (by kernel_rfl) (laidWorld_met os _)) ?_
  intro W base args ds gs before hval0 hW hcnd hsz0 hL _
  have hsz : (DataW.weightsEach Tryd.prog (Tryd.f15.params.toList ++ Rows.accessPlaysSpec.plain.varTypes Tryd.prog) (ds ++ gs)).all (· ≤ reachBytes) = true := hsz0
  have hval : ∀ (j : Nat) t v, Tryd.f15.params[j]? = some t → args[j]? = some v → Value.okWide Tryd.prog W .any base t v := hval0
  have hW' := hW
  obtain ⟨p, q, hA0, hV, rfl, hfz, hnd⟩ := hW
  have hA : DataW.TrodAll enc Tryd.prog W 0 (fun _ => true) true Tryd.f15.params.toList args.toList ds p := hA0
  rw [Tryd.params15] at hA hval hsz
  obtain ⟨v0, vs0, d0, ds0, p0, q0, hargs, rfl, rfl, h0, r0⟩ := trodAll_cons hA
  obtain ⟨v1, vs1, d1, ds1, p1, q1, rfl, rfl, rfl, h1, r1⟩ := trodAll_cons r0
  obtain ⟨v2, vs2, d2, ds2, p2, q2, rfl, rfl, rfl, h2, r2⟩ := trodAll_cons r1
  obtain ⟨v3, vs3, d3, ds3, p3, q3, rfl, rfl, rfl, h3, r3⟩ := trodAll_cons r2
  obtain ⟨v4, vs4, d4, ds4, p4, q4, rfl, rfl, rfl, h4, r4⟩ := trodAll_cons r3
  obtain ⟨v5, vs5, d5, ds5, p5, q5, rfl, rfl, rfl, h5, r5⟩ := trodAll_cons r4
  obtain ⟨rfl, rfl, rfl⟩ := trodAll_nil r5
  obtain rfl : args = #[v0, v1, v2, v3, v4, v5] := by cases args; simp_all
  obtain ⟨rfl, rfl⟩ := trodVars_none hV
  have k0 := h0
  obtain ⟨xs0, cp0, ba0, bb0, pl0, sz0⟩ := bytes_in (hval 0 22 v0 rfl rfl) h0
  have bi0 : BIn W v0 := by
    refine ⟨xs0, cp0, ba0, bb0, ?_⟩
    rcases sz0 with rfl | ⟨el, sp, rfl, he⟩
    · exact Nat.zero_le _
    · have z := sized_slice hsz (j := 0) (t := 22) rfl rfl Tryd.underlying22
      rw [bytesOfU8] at z
      have z : (el.length + sp.length) * 1 ≤ 140737488351232 := z
      omega
  have k1 := h1
  obtain ⟨c10, c11, c12, c13, c14, c15, y10, y11, y12, y13, y14, y15, m1, rfl, rfl, rfl, hy10, hy11, hy12, hy13, hy14, hy15⟩ := open_agg6 Tryd.underlying33 (by kernel_rfl) (by kernel_rfl) (hval 1 33 v1 rfl rfl) h1
  obtain ⟨x10, e10, rfl⟩ := DataW.trod_bool Tryd.underlying4 hy10
  obtain rfl := (List.cons.inj e10).1
  obtain ⟨x11, e11, rfl, w11⟩ := DataW.trod_int Tryd.underlying30 hy11
  obtain rfl := (List.cons.inj e11).1
  obtain ⟨b11, u11⟩ : 0 ≤ x11 ∧ x11 < 4294967296 := by have := w11; simp [Lit.wf, IntKind.min, IntKind.max, IntKind.signed, IntKind.bits] at this; omega
  obtain ⟨x12, e12, rfl, w12⟩ := DataW.trod_int Tryd.underlying30 hy12
  obtain rfl := (List.cons.inj e12).1
  obtain ⟨b12, u12⟩ : 0 ≤ x12 ∧ x12 < 4294967296 := by have := w12; simp [Lit.wf, IntKind.min, IntKind.max, IntKind.signed, IntKind.bits] at this; omega
  obtain ⟨x13, e13, rfl, w13⟩ := DataW.trod_int Tryd.underlying30 hy13
  obtain rfl := (List.cons.inj e13).1
  obtain ⟨b13, u13⟩ : 0 ≤ x13 ∧ x13 < 4294967296 := by have := w13; simp [Lit.wf, IntKind.min, IntKind.max, IntKind.signed, IntKind.bits] at this; omega
  obtain ⟨x14, e14, rfl, w14⟩ := DataW.trod_int Tryd.underlying31 hy14
  obtain rfl := (List.cons.inj e14).1
  obtain ⟨b14, u14⟩ : 0 ≤ x14 ∧ x14 < 65536 := by have := w14; simp [Lit.wf, IntKind.min, IntKind.max, IntKind.signed, IntKind.bits] at this; omega
  obtain ⟨x15, e15, rfl, w15⟩ := DataW.trod_int Tryd.underlying31 hy15
  obtain rfl := (List.cons.inj e15).1
  obtain ⟨b15, u15⟩ : 0 ≤ x15 ∧ x15 < 65536 := by have := w15; simp [Lit.wf, IntKind.min, IntKind.max, IntKind.signed, IntKind.bits] at this; omega
  obtain ⟨a2, rfl, rfl, rfl, w2⟩ := open_int Tryd.underlying21 (hval 2 21 v2 rfl rfl) h2
  obtain ⟨b2, c2⟩ : -2147483648 ≤ a2 ∧ a2 < 2147483648 := by have := w2; simp [Lit.wf, IntKind.min, IntKind.max, IntKind.signed, IntKind.bits] at this; omega
  obtain ⟨a3, rfl, rfl, rfl, w3⟩ := open_int Tryd.underlying3 (hval 3 3 v3 rfl rfl) h3
  obtain ⟨a4, rfl, rfl, rfl, w4⟩ := open_int Tryd.underlying30 (hval 4 30 v4 rfl rfl) h4
  obtain ⟨b4, c4⟩ : 0 ≤ a4 ∧ a4 < 4294967296 := by have := w4; simp [Lit.wf, IntKind.min, IntKind.max, IntKind.signed, IntKind.bits] at this; omega
  have k5 := h5
  obtain ⟨c50, c51, c52, c53, c54, c55, y50, y51, y52, y53, y54, y55, m5, rfl, rfl, rfl, hy50, hy51, hy52, hy53, hy54, hy55⟩ := open_agg6 Tryd.underlying33 (by kernel_rfl) (by kernel_rfl) (hval 5 33 v5 rfl rfl) h5
  obtain ⟨x50, e50, rfl⟩ := DataW.trod_bool Tryd.underlying4 hy50
  obtain rfl := (List.cons.inj e50).1
  obtain ⟨x51, e51, rfl, w51⟩ := DataW.trod_int Tryd.underlying30 hy51
  obtain rfl := (List.cons.inj e51).1
  obtain ⟨b51, u51⟩ : 0 ≤ x51 ∧ x51 < 4294967296 := by have := w51; simp [Lit.wf, IntKind.min, IntKind.max, IntKind.signed, IntKind.bits] at this; omega
  obtain ⟨x52, e52, rfl, w52⟩ := DataW.trod_int Tryd.underlying30 hy52
  obtain rfl := (List.cons.inj e52).1
  obtain ⟨b52, u52⟩ : 0 ≤ x52 ∧ x52 < 4294967296 := by have := w52; simp [Lit.wf, IntKind.min, IntKind.max, IntKind.signed, IntKind.bits] at this; omega
  obtain ⟨x53, e53, rfl, w53⟩ := DataW.trod_int Tryd.underlying30 hy53
  obtain rfl := (List.cons.inj e53).1
  obtain ⟨b53, u53⟩ : 0 ≤ x53 ∧ x53 < 4294967296 := by have := w53; simp [Lit.wf, IntKind.min, IntKind.max, IntKind.signed, IntKind.bits] at this; omega
  obtain ⟨x54, e54, rfl, w54⟩ := DataW.trod_int Tryd.underlying31 hy54
  obtain rfl := (List.cons.inj e54).1
  obtain ⟨b54, u54⟩ : 0 ≤ x54 ∧ x54 < 65536 := by have := w54; simp [Lit.wf, IntKind.min, IntKind.max, IntKind.signed, IntKind.bits] at this; omega
  obtain ⟨x55, e55, rfl, w55⟩ := DataW.trod_int Tryd.underlying31 hy55
  obtain rfl := (List.cons.inj e55).1
  obtain ⟨b55, u55⟩ : 0 ≤ x55 ∧ x55 < 65536 := by have := w55; simp [Lit.wf, IntKind.min, IntKind.max, IntKind.signed, IntKind.bits] at this; omega
  have hg := handle_of_laid hL
  clear hA0 hval0 hsz0 hsz
  refine (accessPlays_am v0 ⟨x10, x11, x12, x13, x14, x15⟩ a2 a3 a4 ⟨x50, x51, x52, x53, x54, x55⟩ W bi0 ⟨b11, u11, b12, u12, b13, u13, b14, u14, b15, u15⟩ b2 c2 b4 c4 ⟨b51, u51, b52, u52, b53, u53, b54, u54, b55, u55⟩ hg).mono fun e W' ⟨he, hn⟩ => ?_
  have bel := hn.below
  subst he
  exact ⟨_, rfl, _, _, _, [], _, [], hW', trodAll_mk1 (shut_bool Tryd.underlying4 _), (trodAll_cons_mk (Below.trod laidOut (by kernel_rfl) (of_decide_eq_true (by kernel_rfl)) k0 bel pl0) (trodAll_cons_mk (Below.trod laidOut (by kernel_rfl) (of_decide_eq_true (by kernel_rfl)) k1 bel (by intro x hx; simp at hx)) (trodAll_cons_mk (shut_int Tryd.underlying21 w2) (trodAll_cons_mk (shut_int Tryd.underlying3 w3) (trodAll_cons_mk (shut_int Tryd.underlying30 w4) (trodAll_cons_mk (Below.trod laidOut (by kernel_rfl) (of_decide_eq_true (by kernel_rfl)) k5 bel (by intro x hx; simp at hx)) trodAll_mk0)))))), rfl, bel.frame _, fun h => by cases h⟩
theorem over : Rows.accessPlaysRow.holds Tryd.pinned (OpenSpec.ofChange Rows.accessPlaysSpec) :=
  OpenClaim.holds_of_wide 15 Tryd.f15 rfl rfl rfl rfl rfl rfl rfl ⟨rfl, rfl, rfl, rfl, rfl⟩ rfl rfl rfl rfl rfl (by kernel_rfl) Tryd.func15 (by kernel_rfl)
    (of_decide_eq_true (by kernel_rfl)) (by unfold Func.isWrapper; first | (rw [if_pos (by decide +kernel)]; kernel_rfl) | (rw [if_neg (by decide +kernel)]; exact ⟨rfl, rfl⟩))
    (fun os started H enc _ => lifted os started H enc)
theorem noStand : ([22, 33, 21, 3, 30, 33].all fun t => Tryd.prog.wantsStandIn t == false) = true := by kernel_rfl
theorem proved : Rows.AccessPlaysCardSaid :=
  Claim7.holds_tied_plain_at .later [] [.handle] true (true, "8b5ab19b1906aa61d744aac4e12e04b9cbb09ffd17e61c0e4a8659193c2d278e") true
    over (fun _ h => by cases h) (by kernel_rfl) (fun _ h => by cases h) accessPlays_row_tie rfl ⟨rfl, rfl⟩ (by kernel_rfl) rfl
    (fun f fn hf hfn => by
      obtain rfl : f = 15 := Option.some.inj ((show Tryd.prog.funcNamed "hasp/hasplaw5.AccessPlays" = some 15 by kernel_rfl).symm.trans hf) |>.symm
      obtain rfl : fn = Tryd.f15 := (Option.some.inj (Tryd.func15.symm.trans hfn)).symm
      exact ⟨by kernel_rfl, fun j t ht => by
        rw [Tryd.params15] at ht
        have hm : t ∈ [22, 33, 21, 3, 30, 33] := by simpa using Array.mem_of_getElem? ht
        exact beq_iff_eq.1 (List.all_eq_true.1 noStand t hm)⟩)
    (by kernel_rfl)
#print axioms proved
end Go.Proofs.YtoecmleficekbaaDoor.accessPlays
namespace Go.Proofs.YtoecmleficekbaaDoor
/-- The card, under a short name, for the claim. -/
theorem accessPlays_holds : Rows.AccessPlaysCardSaid := accessPlays.proved
end Go.Proofs.YtoecmleficekbaaDoor
