/-
  NARROWER THAN 'FOR EVERY INPUT', by the rows' own cells (each row's printed sentence says how): MemTags: laid · MemApart: laid · MemPlays: laid · MemZero: laid · AluAny: laid · AluLess: laid · AluImm: laid · AluFields: laid · AccessCheck: laid · AccessWord: laid · AccessKeeps: laid · AccessPart: laid · AccessPlays: laid · AccessBounds: laid.
  DERIVED. THE GIVEN ROWS OF THIS SEAT. 14 by the template 'for every input the law returns true; each argument reads behind the call as it read before'; 0 by the template 'total and deterministic' (their statements: YtoecmleficekbaaDoorTotals.lean).
  GIVEN WITH THE SEED: the statements are not yours to turn. If you find one false, say at which input.
  Laid BY PROGRAM, IN A SANDBOX (cutbox-rows.mjs): the forced cells as the released guide's own fill.sh prints them over the translation bf1cdc4641a02c49… (all of the seat's roots in one cut). By AI agents, Wed Nov 11 2026. No macro, syntax, notation, axiom, sorry.
-/
import Derived.Test.YtoecmleficekbaaDoorChecked
import GoSem.Claim
import GoSem.ClaimJoined
import GoSem.ClaimMapViews
import Derived.JoinedTies
import Derived.KernelRfl
namespace Go.Proofs.YtoecmleficekbaaDoor
/- THE CELL 'sum', in the pinned program and in every row, IS THE sha256 OF THE DUMP (.gsa) THAT YtoecmleficekbaaDoorProg.lean LOADS. Nothing in Lean hashes anything: it is a label: what it is worth is what the hold of that sum in a sandbox is worth. -/
noncomputable def Tryd.pinned : Pinned := { name := "ytoecmleficekbaadoor", sum := "bf1cdc4641a02c49845b5f8d959f5beae3eef0f9303fb15dff9a3a5d5796c0b5", checked := Tryd.checked }
namespace Rows
def none {H : Type} : Left H := { results := [], args := [] }

/- WHAT THE LISTED PACKAGE-LEVEL VARIABLES READ AS WHEN THE CALL BEGINS. Each datum BY PROGRAM (the guide's laid-datum.mjs) off the statement by which the dump's own 'gosem.cut.vars' lays the variable. In a bare row this is a premise. The card (YtoecmleficekbaaDoorCards.lean) ties it to the program's text. -/
def laid_errors_errorType {H : Type} : DataW H := .iface "internal/reflectlite.rtype" (.agg [.ptr (.lit (.string [101, 114, 114, 111, 114]))])

/-- 'hasplaw4.MemTags': WHATEVER THE INPUT: true; the input reads as it did. -/
def memTagsSpec : ChangeSpec := { name := "memTags", fn := fun _ => fun
  | [d1, d2] => { results := [.lit (.bool true)], args := [d1, d2] }
  | _ => none }
def memTagsRow : OpenClaim := { program := "ytoecmleficekbaadoor", sum := "bf1cdc4641a02c49845b5f8d959f5beae3eef0f9303fb15dff9a3a5d5796c0b5", func := "hasp/hasplaw4.MemTags", spec := "memTags", inPlace := ["internal/reflectlite.ValueOf", "(internal/reflectlite.Value).Type", "(internal/reflectlite.Value).IsNil", "internal/reflectlite.TypeOf", "(internal/reflectlite.Value).Elem", "(internal/reflectlite.Value).Set"], unfollowed := true, recurses := true, named := ["errors.errorType"], apart := false, laid := [("errors.errorType", laid_errors_errorType)] }
def MemTagsSaid : Prop := memTagsRow.holds Tryd.pinned (OpenSpec.ofChange memTagsSpec)

/-- ITS FALSE NEIGHBOUR: 'it returns false'. Refute it at one input. -/
def memTagsWrong : ChangeSpec := { name := "memTags", fn := fun _ => fun
  | [d1, d2] => { results := [.lit (.bool false)], args := [d1, d2] }
  | _ => none }
def MemTagsWrongFalsely : Prop := memTagsRow.holds Tryd.pinned (OpenSpec.ofChange memTagsWrong)

/-- 'hasplaw4.MemApart': WHATEVER THE INPUT: true; the input reads as it did. -/
def memApartSpec : ChangeSpec := { name := "memApart", fn := fun _ => fun
  | [d1, d2, d3, d4] => { results := [.lit (.bool true)], args := [d1, d2, d3, d4] }
  | _ => none }
def memApartRow : OpenClaim := { program := "ytoecmleficekbaadoor", sum := "bf1cdc4641a02c49845b5f8d959f5beae3eef0f9303fb15dff9a3a5d5796c0b5", func := "hasp/hasplaw4.MemApart", spec := "memApart", inPlace := ["internal/reflectlite.ValueOf", "(internal/reflectlite.Value).Type", "(internal/reflectlite.Value).IsNil", "internal/reflectlite.TypeOf", "(internal/reflectlite.Value).Elem", "(internal/reflectlite.Value).Set"], unfollowed := true, recurses := true, named := ["errors.errorType"], apart := false, laid := [("errors.errorType", laid_errors_errorType)] }
def MemApartSaid : Prop := memApartRow.holds Tryd.pinned (OpenSpec.ofChange memApartSpec)

/-- ITS FALSE NEIGHBOUR: 'it returns false'. Refute it at one input. -/
def memApartWrong : ChangeSpec := { name := "memApart", fn := fun _ => fun
  | [d1, d2, d3, d4] => { results := [.lit (.bool false)], args := [d1, d2, d3, d4] }
  | _ => none }
def MemApartWrongFalsely : Prop := memApartRow.holds Tryd.pinned (OpenSpec.ofChange memApartWrong)

/-- 'hasplaw4.MemPlays': WHATEVER THE INPUT: true; the input reads as it did. -/
def memPlaysSpec : ChangeSpec := { name := "memPlays", fn := fun _ => fun
  | [d1, d2] => { results := [.lit (.bool true)], args := [d1, d2] }
  | _ => none }
def memPlaysRow : OpenClaim := { program := "ytoecmleficekbaadoor", sum := "bf1cdc4641a02c49845b5f8d959f5beae3eef0f9303fb15dff9a3a5d5796c0b5", func := "hasp/hasplaw4.MemPlays", spec := "memPlays", inPlace := ["internal/reflectlite.ValueOf", "(internal/reflectlite.Value).Type", "(internal/reflectlite.Value).IsNil", "internal/reflectlite.TypeOf", "(internal/reflectlite.Value).Elem", "(internal/reflectlite.Value).Set"], unfollowed := true, recurses := true, named := ["errors.errorType"], apart := false, laid := [("errors.errorType", laid_errors_errorType)] }
def MemPlaysSaid : Prop := memPlaysRow.holds Tryd.pinned (OpenSpec.ofChange memPlaysSpec)

/-- ITS FALSE NEIGHBOUR: 'it returns false'. Refute it at one input. -/
def memPlaysWrong : ChangeSpec := { name := "memPlays", fn := fun _ => fun
  | [d1, d2] => { results := [.lit (.bool false)], args := [d1, d2] }
  | _ => none }
def MemPlaysWrongFalsely : Prop := memPlaysRow.holds Tryd.pinned (OpenSpec.ofChange memPlaysWrong)

/-- 'hasplaw4.MemZero': WHATEVER THE INPUT: true; the input reads as it did. -/
def memZeroSpec : ChangeSpec := { name := "memZero", fn := fun _ => fun
  | [d1, d2, d3] => { results := [.lit (.bool true)], args := [d1, d2, d3] }
  | _ => none }
def memZeroRow : OpenClaim := { program := "ytoecmleficekbaadoor", sum := "bf1cdc4641a02c49845b5f8d959f5beae3eef0f9303fb15dff9a3a5d5796c0b5", func := "hasp/hasplaw4.MemZero", spec := "memZero", inPlace := ["internal/reflectlite.ValueOf", "(internal/reflectlite.Value).Type", "(internal/reflectlite.Value).IsNil", "internal/reflectlite.TypeOf", "(internal/reflectlite.Value).Elem", "(internal/reflectlite.Value).Set"], unfollowed := true, recurses := true, named := ["errors.errorType"], apart := false, laid := [("errors.errorType", laid_errors_errorType)] }
def MemZeroSaid : Prop := memZeroRow.holds Tryd.pinned (OpenSpec.ofChange memZeroSpec)

/-- ITS FALSE NEIGHBOUR: 'it returns false'. Refute it at one input. -/
def memZeroWrong : ChangeSpec := { name := "memZero", fn := fun _ => fun
  | [d1, d2, d3] => { results := [.lit (.bool false)], args := [d1, d2, d3] }
  | _ => none }
def MemZeroWrongFalsely : Prop := memZeroRow.holds Tryd.pinned (OpenSpec.ofChange memZeroWrong)

/-- 'hasplaw9.AluAny': WHATEVER THE INPUT: true; the input reads as it did. -/
def aluAnySpec : ChangeSpec := { name := "aluAny", fn := fun _ => fun
  | [d1, d2, d3, d4] => { results := [.lit (.bool true)], args := [d1, d2, d3, d4] }
  | _ => none }
def aluAnyRow : OpenClaim := { program := "ytoecmleficekbaadoor", sum := "bf1cdc4641a02c49845b5f8d959f5beae3eef0f9303fb15dff9a3a5d5796c0b5", func := "hasp/hasplaw9.AluAny", spec := "aluAny", inPlace := ["internal/reflectlite.ValueOf", "(internal/reflectlite.Value).Type", "(internal/reflectlite.Value).IsNil", "internal/reflectlite.TypeOf", "(internal/reflectlite.Value).Elem", "(internal/reflectlite.Value).Set"], unfollowed := true, recurses := true, named := ["errors.errorType"], apart := false, laid := [("errors.errorType", laid_errors_errorType)] }
def AluAnySaid : Prop := aluAnyRow.holds Tryd.pinned (OpenSpec.ofChange aluAnySpec)

/-- ITS FALSE NEIGHBOUR: 'it returns false'. Refute it at one input. -/
def aluAnyWrong : ChangeSpec := { name := "aluAny", fn := fun _ => fun
  | [d1, d2, d3, d4] => { results := [.lit (.bool false)], args := [d1, d2, d3, d4] }
  | _ => none }
def AluAnyWrongFalsely : Prop := aluAnyRow.holds Tryd.pinned (OpenSpec.ofChange aluAnyWrong)

/-- 'hasplaw9.AluLess': WHATEVER THE INPUT: true; the input reads as it did. -/
def aluLessSpec : ChangeSpec := { name := "aluLess", fn := fun _ => fun
  | [d1, d2, d3, d4] => { results := [.lit (.bool true)], args := [d1, d2, d3, d4] }
  | _ => none }
def aluLessRow : OpenClaim := { program := "ytoecmleficekbaadoor", sum := "bf1cdc4641a02c49845b5f8d959f5beae3eef0f9303fb15dff9a3a5d5796c0b5", func := "hasp/hasplaw9.AluLess", spec := "aluLess", inPlace := ["internal/reflectlite.ValueOf", "(internal/reflectlite.Value).Type", "(internal/reflectlite.Value).IsNil", "internal/reflectlite.TypeOf", "(internal/reflectlite.Value).Elem", "(internal/reflectlite.Value).Set"], unfollowed := true, recurses := true, named := ["errors.errorType"], apart := false, laid := [("errors.errorType", laid_errors_errorType)] }
def AluLessSaid : Prop := aluLessRow.holds Tryd.pinned (OpenSpec.ofChange aluLessSpec)

/-- ITS FALSE NEIGHBOUR: 'it returns false'. Refute it at one input. -/
def aluLessWrong : ChangeSpec := { name := "aluLess", fn := fun _ => fun
  | [d1, d2, d3, d4] => { results := [.lit (.bool false)], args := [d1, d2, d3, d4] }
  | _ => none }
def AluLessWrongFalsely : Prop := aluLessRow.holds Tryd.pinned (OpenSpec.ofChange aluLessWrong)

/-- 'hasplaw9.AluImm': WHATEVER THE INPUT: true; the input reads as it did. -/
def aluImmSpec : ChangeSpec := { name := "aluImm", fn := fun _ => fun
  | [d1, d2] => { results := [.lit (.bool true)], args := [d1, d2] }
  | _ => none }
def aluImmRow : OpenClaim := { program := "ytoecmleficekbaadoor", sum := "bf1cdc4641a02c49845b5f8d959f5beae3eef0f9303fb15dff9a3a5d5796c0b5", func := "hasp/hasplaw9.AluImm", spec := "aluImm", inPlace := ["internal/reflectlite.ValueOf", "(internal/reflectlite.Value).Type", "(internal/reflectlite.Value).IsNil", "internal/reflectlite.TypeOf", "(internal/reflectlite.Value).Elem", "(internal/reflectlite.Value).Set"], unfollowed := true, recurses := true, named := ["errors.errorType"], apart := false, laid := [("errors.errorType", laid_errors_errorType)] }
def AluImmSaid : Prop := aluImmRow.holds Tryd.pinned (OpenSpec.ofChange aluImmSpec)

/-- ITS FALSE NEIGHBOUR: 'it returns false'. Refute it at one input. -/
def aluImmWrong : ChangeSpec := { name := "aluImm", fn := fun _ => fun
  | [d1, d2] => { results := [.lit (.bool false)], args := [d1, d2] }
  | _ => none }
def AluImmWrongFalsely : Prop := aluImmRow.holds Tryd.pinned (OpenSpec.ofChange aluImmWrong)

/-- 'hasplaw9.AluFields': WHATEVER THE INPUT: true; the input reads as it did. -/
def aluFieldsSpec : ChangeSpec := { name := "aluFields", fn := fun _ => fun
  | [d] => { results := [.lit (.bool true)], args := [d] }
  | _ => none }
def aluFieldsRow : OpenClaim := { program := "ytoecmleficekbaadoor", sum := "bf1cdc4641a02c49845b5f8d959f5beae3eef0f9303fb15dff9a3a5d5796c0b5", func := "hasp/hasplaw9.AluFields", spec := "aluFields", inPlace := ["internal/reflectlite.ValueOf", "(internal/reflectlite.Value).Type", "(internal/reflectlite.Value).IsNil", "internal/reflectlite.TypeOf", "(internal/reflectlite.Value).Elem", "(internal/reflectlite.Value).Set"], unfollowed := true, recurses := true, named := ["errors.errorType"], apart := false, laid := [("errors.errorType", laid_errors_errorType)] }
def AluFieldsSaid : Prop := aluFieldsRow.holds Tryd.pinned (OpenSpec.ofChange aluFieldsSpec)

/-- ITS FALSE NEIGHBOUR: 'it returns false'. Refute it at one input. -/
def aluFieldsWrong : ChangeSpec := { name := "aluFields", fn := fun _ => fun
  | [d] => { results := [.lit (.bool false)], args := [d] }
  | _ => none }
def AluFieldsWrongFalsely : Prop := aluFieldsRow.holds Tryd.pinned (OpenSpec.ofChange aluFieldsWrong)

/-- 'hasplaw5.AccessCheck': WHATEVER THE INPUT: true; the input reads as it did. -/
def accessCheckSpec : ChangeSpec := { name := "accessCheck", fn := fun _ => fun
  | [d1, d2, d3, d4] => { results := [.lit (.bool true)], args := [d1, d2, d3, d4] }
  | _ => none }
def accessCheckRow : OpenClaim := { program := "ytoecmleficekbaadoor", sum := "bf1cdc4641a02c49845b5f8d959f5beae3eef0f9303fb15dff9a3a5d5796c0b5", func := "hasp/hasplaw5.AccessCheck", spec := "accessCheck", inPlace := ["internal/reflectlite.TypeOf", "internal/reflectlite.ValueOf", "(internal/reflectlite.Value).Type", "(internal/reflectlite.Value).IsNil", "(internal/reflectlite.Value).Elem", "(internal/reflectlite.Value).Set"], unfollowed := true, recurses := true, named := ["errors.errorType"], apart := false, laid := [("errors.errorType", laid_errors_errorType)] }
def AccessCheckSaid : Prop := accessCheckRow.holds Tryd.pinned (OpenSpec.ofChange accessCheckSpec)

/-- ITS FALSE NEIGHBOUR: 'it returns false'. Refute it at one input. -/
def accessCheckWrong : ChangeSpec := { name := "accessCheck", fn := fun _ => fun
  | [d1, d2, d3, d4] => { results := [.lit (.bool false)], args := [d1, d2, d3, d4] }
  | _ => none }
def AccessCheckWrongFalsely : Prop := accessCheckRow.holds Tryd.pinned (OpenSpec.ofChange accessCheckWrong)

/-- 'hasplaw5.AccessWord': WHATEVER THE INPUT: true; the input reads as it did. -/
def accessWordSpec : ChangeSpec := { name := "accessWord", fn := fun _ => fun
  | [d1, d2] => { results := [.lit (.bool true)], args := [d1, d2] }
  | _ => none }
def accessWordRow : OpenClaim := { program := "ytoecmleficekbaadoor", sum := "bf1cdc4641a02c49845b5f8d959f5beae3eef0f9303fb15dff9a3a5d5796c0b5", func := "hasp/hasplaw5.AccessWord", spec := "accessWord", inPlace := ["internal/reflectlite.TypeOf", "internal/reflectlite.ValueOf", "(internal/reflectlite.Value).Type", "(internal/reflectlite.Value).IsNil", "(internal/reflectlite.Value).Elem", "(internal/reflectlite.Value).Set"], unfollowed := true, recurses := true, named := ["errors.errorType"], apart := false, laid := [("errors.errorType", laid_errors_errorType)] }
def AccessWordSaid : Prop := accessWordRow.holds Tryd.pinned (OpenSpec.ofChange accessWordSpec)

/-- ITS FALSE NEIGHBOUR: 'it returns false'. Refute it at one input. -/
def accessWordWrong : ChangeSpec := { name := "accessWord", fn := fun _ => fun
  | [d1, d2] => { results := [.lit (.bool false)], args := [d1, d2] }
  | _ => none }
def AccessWordWrongFalsely : Prop := accessWordRow.holds Tryd.pinned (OpenSpec.ofChange accessWordWrong)

/-- 'hasplaw5.AccessKeeps': WHATEVER THE INPUT: true; the input reads as it did. -/
def accessKeepsSpec : ChangeSpec := { name := "accessKeeps", fn := fun _ => fun
  | [d] => { results := [.lit (.bool true)], args := [d] }
  | _ => none }
def accessKeepsRow : OpenClaim := { program := "ytoecmleficekbaadoor", sum := "bf1cdc4641a02c49845b5f8d959f5beae3eef0f9303fb15dff9a3a5d5796c0b5", func := "hasp/hasplaw5.AccessKeeps", spec := "accessKeeps", inPlace := ["internal/reflectlite.TypeOf", "internal/reflectlite.ValueOf", "(internal/reflectlite.Value).Type", "(internal/reflectlite.Value).IsNil", "(internal/reflectlite.Value).Elem", "(internal/reflectlite.Value).Set"], unfollowed := true, recurses := true, named := ["errors.errorType"], apart := false, laid := [("errors.errorType", laid_errors_errorType)] }
def AccessKeepsSaid : Prop := accessKeepsRow.holds Tryd.pinned (OpenSpec.ofChange accessKeepsSpec)

/-- ITS FALSE NEIGHBOUR: 'it returns false'. Refute it at one input. -/
def accessKeepsWrong : ChangeSpec := { name := "accessKeeps", fn := fun _ => fun
  | [d] => { results := [.lit (.bool false)], args := [d] }
  | _ => none }
def AccessKeepsWrongFalsely : Prop := accessKeepsRow.holds Tryd.pinned (OpenSpec.ofChange accessKeepsWrong)

/-- 'hasplaw5.AccessPart': WHATEVER THE INPUT: true; the input reads as it did. -/
def accessPartSpec : ChangeSpec := { name := "accessPart", fn := fun _ => fun
  | [d1, d2, d3, d4] => { results := [.lit (.bool true)], args := [d1, d2, d3, d4] }
  | _ => none }
def accessPartRow : OpenClaim := { program := "ytoecmleficekbaadoor", sum := "bf1cdc4641a02c49845b5f8d959f5beae3eef0f9303fb15dff9a3a5d5796c0b5", func := "hasp/hasplaw5.AccessPart", spec := "accessPart", inPlace := ["internal/reflectlite.TypeOf", "internal/reflectlite.ValueOf", "(internal/reflectlite.Value).Type", "(internal/reflectlite.Value).IsNil", "(internal/reflectlite.Value).Elem", "(internal/reflectlite.Value).Set"], unfollowed := true, recurses := true, named := ["errors.errorType"], apart := false, laid := [("errors.errorType", laid_errors_errorType)] }
def AccessPartSaid : Prop := accessPartRow.holds Tryd.pinned (OpenSpec.ofChange accessPartSpec)

/-- ITS FALSE NEIGHBOUR: 'it returns false'. Refute it at one input. -/
def accessPartWrong : ChangeSpec := { name := "accessPart", fn := fun _ => fun
  | [d1, d2, d3, d4] => { results := [.lit (.bool false)], args := [d1, d2, d3, d4] }
  | _ => none }
def AccessPartWrongFalsely : Prop := accessPartRow.holds Tryd.pinned (OpenSpec.ofChange accessPartWrong)

/-- 'hasplaw5.AccessPlays': WHATEVER THE INPUT: true; the input reads as it did. -/
def accessPlaysSpec : ChangeSpec := { name := "accessPlays", fn := fun _ => fun
  | [d1, d2, d3, d4, d5, d6] => { results := [.lit (.bool true)], args := [d1, d2, d3, d4, d5, d6] }
  | _ => none }
def accessPlaysRow : OpenClaim := { program := "ytoecmleficekbaadoor", sum := "bf1cdc4641a02c49845b5f8d959f5beae3eef0f9303fb15dff9a3a5d5796c0b5", func := "hasp/hasplaw5.AccessPlays", spec := "accessPlays", inPlace := ["internal/reflectlite.TypeOf", "internal/reflectlite.ValueOf", "(internal/reflectlite.Value).Type", "(internal/reflectlite.Value).IsNil", "(internal/reflectlite.Value).Elem", "(internal/reflectlite.Value).Set"], unfollowed := true, recurses := true, named := ["errors.errorType"], apart := false, laid := [("errors.errorType", laid_errors_errorType)] }
def AccessPlaysSaid : Prop := accessPlaysRow.holds Tryd.pinned (OpenSpec.ofChange accessPlaysSpec)

/-- ITS FALSE NEIGHBOUR: 'it returns false'. Refute it at one input. -/
def accessPlaysWrong : ChangeSpec := { name := "accessPlays", fn := fun _ => fun
  | [d1, d2, d3, d4, d5, d6] => { results := [.lit (.bool false)], args := [d1, d2, d3, d4, d5, d6] }
  | _ => none }
def AccessPlaysWrongFalsely : Prop := accessPlaysRow.holds Tryd.pinned (OpenSpec.ofChange accessPlaysWrong)

/-- 'hasplaw5.AccessBounds': WHATEVER THE INPUT: true; the input reads as it did. -/
def accessBoundsSpec : ChangeSpec := { name := "accessBounds", fn := fun _ => fun
  | [d1, d2, d3, d4, d5] => { results := [.lit (.bool true)], args := [d1, d2, d3, d4, d5] }
  | _ => none }
def accessBoundsRow : OpenClaim := { program := "ytoecmleficekbaadoor", sum := "bf1cdc4641a02c49845b5f8d959f5beae3eef0f9303fb15dff9a3a5d5796c0b5", func := "hasp/hasplaw5.AccessBounds", spec := "accessBounds", inPlace := ["internal/reflectlite.TypeOf", "internal/reflectlite.ValueOf", "(internal/reflectlite.Value).Type", "(internal/reflectlite.Value).IsNil", "(internal/reflectlite.Value).Elem", "(internal/reflectlite.Value).Set"], unfollowed := true, recurses := true, named := ["errors.errorType"], apart := false, laid := [("errors.errorType", laid_errors_errorType)] }
def AccessBoundsSaid : Prop := accessBoundsRow.holds Tryd.pinned (OpenSpec.ofChange accessBoundsSpec)

/-- ITS FALSE NEIGHBOUR: 'it returns false'. Refute it at one input. -/
def accessBoundsWrong : ChangeSpec := { name := "accessBounds", fn := fun _ => fun
  | [d1, d2, d3, d4, d5] => { results := [.lit (.bool false)], args := [d1, d2, d3, d4, d5] }
  | _ => none }
def AccessBoundsWrongFalsely : Prop := accessBoundsRow.holds Tryd.pinned (OpenSpec.ofChange accessBoundsWrong)

/- THE SECOND FORM. 'bulk': how many values and letters a reading holds, each counted each time it is reached (what is shared counts as often as it is met; a slice's spare places count too). A statement '..UptoSaid' is the law's where the arguments, and the package variables that the reading takes, are together of bulk at most 1048576: NARROWER than '..Said'. Prove '..Said' where nothing that the law and all that it calls make is longer than what came in: it says more and counts as full. Else prove '..UptoSaid'. A law counts once. -/
mutual
def uptoBulk {H : Type} : DataW H → Nat
  | .lit (.string bytes) => bytes.length + 1
  | .lit _ => 1
  | .nil => 1
  | .ptr d => uptoBulk d + 1
  | .slice elems spare => uptoBulkAll elems + uptoBulkAll spare + 1
  | .agg parts => uptoBulkAll parts + 1
  | .iface _ d => uptoBulk d + 1
  | .map entries => uptoBulkEntries entries + 1
  | .held _ => 1
def uptoBulkAll {H : Type} : List (DataW H) → Nat
  | [] => 0
  | d :: r => uptoBulk d + uptoBulkAll r
def uptoBulkEntries {H : Type} : List (Lit × DataW H) → Nat
  | [] => 0
  | x :: r => uptoBulkEntry x + uptoBulkEntries r
def uptoBulkEntry {H : Type} : Lit × DataW H → Nat
  | (.string bytes, d) => bytes.length + uptoBulk d + 1
  | (_, d) => uptoBulk d + 1
 end
def uptoSmall : (H : Type) → List (DataW H) → Bool := fun _ ds => decide (uptoBulkAll ds ≤ 1048576)
def OpenSpec.upto (s : _root_.Go.ChangeSpec) : _root_.Go.OpenSpec := { _root_.Go.OpenSpec.ofChange s with cond := some uptoSmall }

/-- 'hasplaw4.MemTags', WHERE WHAT IT READS IS OF BULK AT MOST 1048576: true; the input reads as it did. -/
def memTagsUptoRow : OpenClaim := { program := "ytoecmleficekbaadoor", sum := "bf1cdc4641a02c49845b5f8d959f5beae3eef0f9303fb15dff9a3a5d5796c0b5", func := "hasp/hasplaw4.MemTags", spec := "memTags", inPlace := ["internal/reflectlite.ValueOf", "(internal/reflectlite.Value).Type", "(internal/reflectlite.Value).IsNil", "internal/reflectlite.TypeOf", "(internal/reflectlite.Value).Elem", "(internal/reflectlite.Value).Set"], unfollowed := true, recurses := true, named := ["errors.errorType"], apart := false, laid := [("errors.errorType", laid_errors_errorType)], narrowed := true }
def MemTagsUptoSaid : Prop := memTagsUptoRow.holds Tryd.pinned (OpenSpec.upto memTagsSpec)

/-- 'hasplaw4.MemApart', WHERE WHAT IT READS IS OF BULK AT MOST 1048576: true; the input reads as it did. -/
def memApartUptoRow : OpenClaim := { program := "ytoecmleficekbaadoor", sum := "bf1cdc4641a02c49845b5f8d959f5beae3eef0f9303fb15dff9a3a5d5796c0b5", func := "hasp/hasplaw4.MemApart", spec := "memApart", inPlace := ["internal/reflectlite.ValueOf", "(internal/reflectlite.Value).Type", "(internal/reflectlite.Value).IsNil", "internal/reflectlite.TypeOf", "(internal/reflectlite.Value).Elem", "(internal/reflectlite.Value).Set"], unfollowed := true, recurses := true, named := ["errors.errorType"], apart := false, laid := [("errors.errorType", laid_errors_errorType)], narrowed := true }
def MemApartUptoSaid : Prop := memApartUptoRow.holds Tryd.pinned (OpenSpec.upto memApartSpec)

/-- 'hasplaw4.MemPlays', WHERE WHAT IT READS IS OF BULK AT MOST 1048576: true; the input reads as it did. -/
def memPlaysUptoRow : OpenClaim := { program := "ytoecmleficekbaadoor", sum := "bf1cdc4641a02c49845b5f8d959f5beae3eef0f9303fb15dff9a3a5d5796c0b5", func := "hasp/hasplaw4.MemPlays", spec := "memPlays", inPlace := ["internal/reflectlite.ValueOf", "(internal/reflectlite.Value).Type", "(internal/reflectlite.Value).IsNil", "internal/reflectlite.TypeOf", "(internal/reflectlite.Value).Elem", "(internal/reflectlite.Value).Set"], unfollowed := true, recurses := true, named := ["errors.errorType"], apart := false, laid := [("errors.errorType", laid_errors_errorType)], narrowed := true }
def MemPlaysUptoSaid : Prop := memPlaysUptoRow.holds Tryd.pinned (OpenSpec.upto memPlaysSpec)

/-- 'hasplaw4.MemZero', WHERE WHAT IT READS IS OF BULK AT MOST 1048576: true; the input reads as it did. -/
def memZeroUptoRow : OpenClaim := { program := "ytoecmleficekbaadoor", sum := "bf1cdc4641a02c49845b5f8d959f5beae3eef0f9303fb15dff9a3a5d5796c0b5", func := "hasp/hasplaw4.MemZero", spec := "memZero", inPlace := ["internal/reflectlite.ValueOf", "(internal/reflectlite.Value).Type", "(internal/reflectlite.Value).IsNil", "internal/reflectlite.TypeOf", "(internal/reflectlite.Value).Elem", "(internal/reflectlite.Value).Set"], unfollowed := true, recurses := true, named := ["errors.errorType"], apart := false, laid := [("errors.errorType", laid_errors_errorType)], narrowed := true }
def MemZeroUptoSaid : Prop := memZeroUptoRow.holds Tryd.pinned (OpenSpec.upto memZeroSpec)

/-- 'hasplaw9.AluAny', WHERE WHAT IT READS IS OF BULK AT MOST 1048576: true; the input reads as it did. -/
def aluAnyUptoRow : OpenClaim := { program := "ytoecmleficekbaadoor", sum := "bf1cdc4641a02c49845b5f8d959f5beae3eef0f9303fb15dff9a3a5d5796c0b5", func := "hasp/hasplaw9.AluAny", spec := "aluAny", inPlace := ["internal/reflectlite.ValueOf", "(internal/reflectlite.Value).Type", "(internal/reflectlite.Value).IsNil", "internal/reflectlite.TypeOf", "(internal/reflectlite.Value).Elem", "(internal/reflectlite.Value).Set"], unfollowed := true, recurses := true, named := ["errors.errorType"], apart := false, laid := [("errors.errorType", laid_errors_errorType)], narrowed := true }
def AluAnyUptoSaid : Prop := aluAnyUptoRow.holds Tryd.pinned (OpenSpec.upto aluAnySpec)

/-- 'hasplaw9.AluLess', WHERE WHAT IT READS IS OF BULK AT MOST 1048576: true; the input reads as it did. -/
def aluLessUptoRow : OpenClaim := { program := "ytoecmleficekbaadoor", sum := "bf1cdc4641a02c49845b5f8d959f5beae3eef0f9303fb15dff9a3a5d5796c0b5", func := "hasp/hasplaw9.AluLess", spec := "aluLess", inPlace := ["internal/reflectlite.ValueOf", "(internal/reflectlite.Value).Type", "(internal/reflectlite.Value).IsNil", "internal/reflectlite.TypeOf", "(internal/reflectlite.Value).Elem", "(internal/reflectlite.Value).Set"], unfollowed := true, recurses := true, named := ["errors.errorType"], apart := false, laid := [("errors.errorType", laid_errors_errorType)], narrowed := true }
def AluLessUptoSaid : Prop := aluLessUptoRow.holds Tryd.pinned (OpenSpec.upto aluLessSpec)

/-- 'hasplaw9.AluImm', WHERE WHAT IT READS IS OF BULK AT MOST 1048576: true; the input reads as it did. -/
def aluImmUptoRow : OpenClaim := { program := "ytoecmleficekbaadoor", sum := "bf1cdc4641a02c49845b5f8d959f5beae3eef0f9303fb15dff9a3a5d5796c0b5", func := "hasp/hasplaw9.AluImm", spec := "aluImm", inPlace := ["internal/reflectlite.ValueOf", "(internal/reflectlite.Value).Type", "(internal/reflectlite.Value).IsNil", "internal/reflectlite.TypeOf", "(internal/reflectlite.Value).Elem", "(internal/reflectlite.Value).Set"], unfollowed := true, recurses := true, named := ["errors.errorType"], apart := false, laid := [("errors.errorType", laid_errors_errorType)], narrowed := true }
def AluImmUptoSaid : Prop := aluImmUptoRow.holds Tryd.pinned (OpenSpec.upto aluImmSpec)

/-- 'hasplaw9.AluFields', WHERE WHAT IT READS IS OF BULK AT MOST 1048576: true; the input reads as it did. -/
def aluFieldsUptoRow : OpenClaim := { program := "ytoecmleficekbaadoor", sum := "bf1cdc4641a02c49845b5f8d959f5beae3eef0f9303fb15dff9a3a5d5796c0b5", func := "hasp/hasplaw9.AluFields", spec := "aluFields", inPlace := ["internal/reflectlite.ValueOf", "(internal/reflectlite.Value).Type", "(internal/reflectlite.Value).IsNil", "internal/reflectlite.TypeOf", "(internal/reflectlite.Value).Elem", "(internal/reflectlite.Value).Set"], unfollowed := true, recurses := true, named := ["errors.errorType"], apart := false, laid := [("errors.errorType", laid_errors_errorType)], narrowed := true }
def AluFieldsUptoSaid : Prop := aluFieldsUptoRow.holds Tryd.pinned (OpenSpec.upto aluFieldsSpec)

/-- 'hasplaw5.AccessCheck', WHERE WHAT IT READS IS OF BULK AT MOST 1048576: true; the input reads as it did. -/
def accessCheckUptoRow : OpenClaim := { program := "ytoecmleficekbaadoor", sum := "bf1cdc4641a02c49845b5f8d959f5beae3eef0f9303fb15dff9a3a5d5796c0b5", func := "hasp/hasplaw5.AccessCheck", spec := "accessCheck", inPlace := ["internal/reflectlite.TypeOf", "internal/reflectlite.ValueOf", "(internal/reflectlite.Value).Type", "(internal/reflectlite.Value).IsNil", "(internal/reflectlite.Value).Elem", "(internal/reflectlite.Value).Set"], unfollowed := true, recurses := true, named := ["errors.errorType"], apart := false, laid := [("errors.errorType", laid_errors_errorType)], narrowed := true }
def AccessCheckUptoSaid : Prop := accessCheckUptoRow.holds Tryd.pinned (OpenSpec.upto accessCheckSpec)

/-- 'hasplaw5.AccessWord', WHERE WHAT IT READS IS OF BULK AT MOST 1048576: true; the input reads as it did. -/
def accessWordUptoRow : OpenClaim := { program := "ytoecmleficekbaadoor", sum := "bf1cdc4641a02c49845b5f8d959f5beae3eef0f9303fb15dff9a3a5d5796c0b5", func := "hasp/hasplaw5.AccessWord", spec := "accessWord", inPlace := ["internal/reflectlite.TypeOf", "internal/reflectlite.ValueOf", "(internal/reflectlite.Value).Type", "(internal/reflectlite.Value).IsNil", "(internal/reflectlite.Value).Elem", "(internal/reflectlite.Value).Set"], unfollowed := true, recurses := true, named := ["errors.errorType"], apart := false, laid := [("errors.errorType", laid_errors_errorType)], narrowed := true }
def AccessWordUptoSaid : Prop := accessWordUptoRow.holds Tryd.pinned (OpenSpec.upto accessWordSpec)

/-- 'hasplaw5.AccessKeeps', WHERE WHAT IT READS IS OF BULK AT MOST 1048576: true; the input reads as it did. -/
def accessKeepsUptoRow : OpenClaim := { program := "ytoecmleficekbaadoor", sum := "bf1cdc4641a02c49845b5f8d959f5beae3eef0f9303fb15dff9a3a5d5796c0b5", func := "hasp/hasplaw5.AccessKeeps", spec := "accessKeeps", inPlace := ["internal/reflectlite.TypeOf", "internal/reflectlite.ValueOf", "(internal/reflectlite.Value).Type", "(internal/reflectlite.Value).IsNil", "(internal/reflectlite.Value).Elem", "(internal/reflectlite.Value).Set"], unfollowed := true, recurses := true, named := ["errors.errorType"], apart := false, laid := [("errors.errorType", laid_errors_errorType)], narrowed := true }
def AccessKeepsUptoSaid : Prop := accessKeepsUptoRow.holds Tryd.pinned (OpenSpec.upto accessKeepsSpec)

/-- 'hasplaw5.AccessPart', WHERE WHAT IT READS IS OF BULK AT MOST 1048576: true; the input reads as it did. -/
def accessPartUptoRow : OpenClaim := { program := "ytoecmleficekbaadoor", sum := "bf1cdc4641a02c49845b5f8d959f5beae3eef0f9303fb15dff9a3a5d5796c0b5", func := "hasp/hasplaw5.AccessPart", spec := "accessPart", inPlace := ["internal/reflectlite.TypeOf", "internal/reflectlite.ValueOf", "(internal/reflectlite.Value).Type", "(internal/reflectlite.Value).IsNil", "(internal/reflectlite.Value).Elem", "(internal/reflectlite.Value).Set"], unfollowed := true, recurses := true, named := ["errors.errorType"], apart := false, laid := [("errors.errorType", laid_errors_errorType)], narrowed := true }
def AccessPartUptoSaid : Prop := accessPartUptoRow.holds Tryd.pinned (OpenSpec.upto accessPartSpec)

/-- 'hasplaw5.AccessPlays', WHERE WHAT IT READS IS OF BULK AT MOST 1048576: true; the input reads as it did. -/
def accessPlaysUptoRow : OpenClaim := { program := "ytoecmleficekbaadoor", sum := "bf1cdc4641a02c49845b5f8d959f5beae3eef0f9303fb15dff9a3a5d5796c0b5", func := "hasp/hasplaw5.AccessPlays", spec := "accessPlays", inPlace := ["internal/reflectlite.TypeOf", "internal/reflectlite.ValueOf", "(internal/reflectlite.Value).Type", "(internal/reflectlite.Value).IsNil", "(internal/reflectlite.Value).Elem", "(internal/reflectlite.Value).Set"], unfollowed := true, recurses := true, named := ["errors.errorType"], apart := false, laid := [("errors.errorType", laid_errors_errorType)], narrowed := true }
def AccessPlaysUptoSaid : Prop := accessPlaysUptoRow.holds Tryd.pinned (OpenSpec.upto accessPlaysSpec)

/-- 'hasplaw5.AccessBounds', WHERE WHAT IT READS IS OF BULK AT MOST 1048576: true; the input reads as it did. -/
def accessBoundsUptoRow : OpenClaim := { program := "ytoecmleficekbaadoor", sum := "bf1cdc4641a02c49845b5f8d959f5beae3eef0f9303fb15dff9a3a5d5796c0b5", func := "hasp/hasplaw5.AccessBounds", spec := "accessBounds", inPlace := ["internal/reflectlite.TypeOf", "internal/reflectlite.ValueOf", "(internal/reflectlite.Value).Type", "(internal/reflectlite.Value).IsNil", "(internal/reflectlite.Value).Elem", "(internal/reflectlite.Value).Set"], unfollowed := true, recurses := true, named := ["errors.errorType"], apart := false, laid := [("errors.errorType", laid_errors_errorType)], narrowed := true }
def AccessBoundsUptoSaid : Prop := accessBoundsUptoRow.holds Tryd.pinned (OpenSpec.upto accessBoundsSpec)

end Rows
end Go.Proofs.YtoecmleficekbaaDoor
