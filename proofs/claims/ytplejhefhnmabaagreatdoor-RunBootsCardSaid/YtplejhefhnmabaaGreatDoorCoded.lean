/- Ops by their codes, as a contract; and as a table for closed runs (seats without the document's Coded, strings.Join). -/
import Derived.Test.YtplejhefhnmabaaGreatDoorAmN
import Derived.Test.YtplejhefhnmabaaGreatDoorOpC
namespace Go.Proofs.YtplejhefhnmabaaGreatDoor
open Go.RowKit Am
set_option linter.unusedSimpArgs false
set_option linter.unusedVariables false
set_option maxRecDepth 100000
def opNm (n : Int) : ByteArray := ⟨⟨opName (n - 1).toNat⟩⟩
def opFm (n : Int) : Int := formR (opName (n - 1).toNat)
theorem codedC (n : Int) (h : 1 ≤ n) (h' : n ≤ 67) (nx : Nat) : SpecC Tryz.prog GS 56 [.int .i64 n] (lk []) nx (.tup [.agg [.int .i64 n, .str (opNm n), .int .i64 (opFm n)], .bool true]) (upOf [] []) 0 :=
  SpecC.ofCalls (V := .tuple #[.agg #[.int .i64 n, .string (opNm n), .int .i64 (opFm n)], .bool true]) (by kernel_rfl) rfl rfl (fun w _ => (coded_in (n - 1).toNat (by omega) n (by omega) w).mono fun e w' ⟨x, y⟩ => ⟨by rw [x, show (((n - 1).toNat : Nat) : Int) + 1 = n by omega]; rfl, New.newer y⟩) nx
theorem codedN (n : Int) (h : n < 1 ∨ 67 < n) (nx : Nat) : SpecC Tryz.prog GS 56 [.int .i64 n] (lk []) nx (.tup [.agg [.int .i64 0, .str ⟨#[]⟩, .int .i64 0], .bool false]) (upOf [] []) 0 :=
  SpecC.ofCalls (V := .tuple #[.agg #[.int .i64 0, .string ⟨#[]⟩, .int .i64 0], .bool false]) (by kernel_rfl) rfl rfl (fun w _ => (coded_out n h w).mono fun e w' ⟨x, y⟩ => ⟨x, New.newer y⟩) nx
noncomputable def orC (next : CallF) : CallF := fun f args lit nx => match Nat.beq f 56 with
  | true => match args with
    | [.int .i64 n] => match decide (1 ≤ n), decide (n ≤ 67) with
      | true, true => forceL (opName (n - 1).toNat) fun l => forceI (formR l) fun f => some ⟨.tup [.agg [.int .i64 n, .str ⟨⟨l⟩⟩, .int .i64 f], .bool true], [], [], 0⟩
      | _, _ => some ⟨.tup [.agg [.int .i64 0, .str ⟨#[]⟩, .int .i64 0], .bool false], [], [], 0⟩
    | _ => none
  | false => next f args lit nx
theorem SpecC.wider {f : FuncId} {args : List AV} {nx nw : Nat} {v : AV} {L : Am.Lit} (h : SpecC Tryz.prog GS f args (lk []) nx v (upOf [] []) nw) (hf : ∀ n, InI nx nw n → lk L n = none) : SpecC Tryz.prog GS f args (lk L) nx v (upOf [] []) nw :=
  ⟨h.1, fun C w args' ha hI hfr => (h.2 C w args' ha (hI.sub (fun n b hb => by cases hb)) hfr).mono fun e w1 ⟨v', C1, he, r⟩ => ⟨v', C1, he, r.frame hI (fun n b hb => by cases hb) hf⟩⟩
theorem orC_ok {next : CallF} (hnext : CallOk Tryz.prog GS next) : CallOk Tryz.prog GS (orC next) := by
  intro f args lit nx r h hl
  have no : ∀ n, InI nx 0 n → lk lit n = none := fun n hn => by have := hn.1; have := hn.2; omega
  unfold orC at h
  split at h
  · rename_i hf
    obtain rfl := Nat.eq_of_beq_eq_true hf
    split at h
    · rename_i n
      split at h
      · rename_i h1 h2
        rw [forceL_eq, forceI_eq] at h
        injection h with h; subst h
        exact SpecC.wider (codedC n (of_decide_eq_true h1) (of_decide_eq_true h2) nx) no
      · rename_i hno
        injection h with h; subst h
        refine SpecC.wider (codedN n ?_ nx) no
        by_cases h1 : 1 ≤ n
        · by_cases h2 : n ≤ 67
          · exact absurd (decide_eq_true h2) (fun h2 => hno (decide_eq_true h1) h2)
          · exact .inr (by omega)
        · exact .inl (by omega)
    · cases h
  · exact hnext _ _ _ _ _ h hl
noncomputable def orO : CallF := orC orE
theorem orO_ok : CallOk Tryz.prog GS orO := orC_ok orE_ok
end Go.Proofs.YtplejhefhnmabaaGreatDoor
