/-
  No cell of these rows narrows 'for every input' (looked for: loops, veiled, ifaces, maps, wideKeys, modest, calm, conditions, laid).
  DERIVED. THE GIVEN ROWS OF THIS SEAT. 7 by the template 'for every input the law returns true; each argument reads behind the call as it read before'; 0 by the template 'total and deterministic' (their statements: YtkdcdoihgjjnbaaTotals.lean).
  GIVEN WITH THE SEED: the statements are not yours to turn. If you find one false, say at which input.
  Laid BY PROGRAM, IN A SANDBOX (cutbox-rows.mjs): the forced cells as the released guide's own fill.sh prints them over the translation 3ae5a5fd6968b8ae… (all of the seat's roots in one cut). By AI agents, Wed Nov 11 2026. No macro, syntax, notation, axiom, sorry.
-/
import Derived.Test.YtkdcdoihgjjnbaaChecked
import GoSem.Claim
import GoSem.ClaimJoined
import GoSem.ClaimMapViews
import Derived.JoinedTies
import Derived.KernelRfl
namespace Go.Proofs.Ytkdcdoihgjjnbaa
/- THE CELL 'sum', in the pinned program and in every row, IS THE sha256 OF THE DUMP (.gsa) THAT YtkdcdoihgjjnbaaProg.lean LOADS. Nothing in Lean hashes anything: it is a label: what it is worth is what the hold of that sum in a sandbox is worth. -/
noncomputable def Try.pinned : Pinned := { name := "ytkdcdoihgjjnbaa", sum := "3ae5a5fd6968b8aea653c1a0189ec4109558ea4cfaae81a78d624c3734d1a701", checked := Try.checked }
namespace Rows
def none {H : Type} : Left H := { results := [], args := [] }

/-- 'hasplaw1.WordDo': WHATEVER THE INPUT: true; the input reads as it did. -/
def wordDoSpec : ChangeSpec := { name := "wordDo", fn := fun _ => fun
  | [d1, d2, d3] => { results := [.lit (.bool true)], args := [d1, d2, d3] }
  | _ => none }
def wordDoRow : OpenClaim := { program := "ytkdcdoihgjjnbaa", sum := "3ae5a5fd6968b8aea653c1a0189ec4109558ea4cfaae81a78d624c3734d1a701", func := "hasp/hasplaw1.WordDo", spec := "wordDo", inPlace := ["internal/reflectlite.TypeOf"], unfollowed := true, recurses := true, apart := false }
def WordDoSaid : Prop := wordDoRow.holds Try.pinned (OpenSpec.ofChange wordDoSpec)

/-- ITS FALSE NEIGHBOUR: 'it returns false'. Refute it at one input. -/
def wordDoWrong : ChangeSpec := { name := "wordDo", fn := fun _ => fun
  | [d1, d2, d3] => { results := [.lit (.bool false)], args := [d1, d2, d3] }
  | _ => none }
def WordDoWrongFalsely : Prop := wordDoRow.holds Try.pinned (OpenSpec.ofChange wordDoWrong)

/-- 'hasplaw1.WordSigned': WHATEVER THE INPUT: true; the input reads as it did. -/
def wordSignedSpec : ChangeSpec := { name := "wordSigned", fn := fun _ => fun
  | [d1, d2] => { results := [.lit (.bool true)], args := [d1, d2] }
  | _ => none }
def wordSignedRow : OpenClaim := { program := "ytkdcdoihgjjnbaa", sum := "3ae5a5fd6968b8aea653c1a0189ec4109558ea4cfaae81a78d624c3734d1a701", func := "hasp/hasplaw1.WordSigned", spec := "wordSigned", inPlace := ["internal/reflectlite.TypeOf"], unfollowed := true, recurses := true, apart := false }
def WordSignedSaid : Prop := wordSignedRow.holds Try.pinned (OpenSpec.ofChange wordSignedSpec)

/-- ITS FALSE NEIGHBOUR: 'it returns false'. Refute it at one input. -/
def wordSignedWrong : ChangeSpec := { name := "wordSigned", fn := fun _ => fun
  | [d1, d2] => { results := [.lit (.bool false)], args := [d1, d2] }
  | _ => none }
def WordSignedWrongFalsely : Prop := wordSignedRow.holds Try.pinned (OpenSpec.ofChange wordSignedWrong)

/-- 'hasplaw1.WordLaws': WHATEVER THE INPUT: true; the input reads as it did. -/
def wordLawsSpec : ChangeSpec := { name := "wordLaws", fn := fun _ => fun
  | [d1, d2, d3] => { results := [.lit (.bool true)], args := [d1, d2, d3] }
  | _ => none }
def wordLawsRow : OpenClaim := { program := "ytkdcdoihgjjnbaa", sum := "3ae5a5fd6968b8aea653c1a0189ec4109558ea4cfaae81a78d624c3734d1a701", func := "hasp/hasplaw1.WordLaws", spec := "wordLaws", inPlace := ["internal/reflectlite.TypeOf"], unfollowed := true, recurses := true, apart := false }
def WordLawsSaid : Prop := wordLawsRow.holds Try.pinned (OpenSpec.ofChange wordLawsSpec)

/-- ITS FALSE NEIGHBOUR: 'it returns false'. Refute it at one input. -/
def wordLawsWrong : ChangeSpec := { name := "wordLaws", fn := fun _ => fun
  | [d1, d2, d3] => { results := [.lit (.bool false)], args := [d1, d2, d3] }
  | _ => none }
def WordLawsWrongFalsely : Prop := wordLawsRow.holds Try.pinned (OpenSpec.ofChange wordLawsWrong)

/-- 'hasplaw1.WordShifts': WHATEVER THE INPUT: true; the input reads as it did. -/
def wordShiftsSpec : ChangeSpec := { name := "wordShifts", fn := fun _ => fun
  | [d1, d2] => { results := [.lit (.bool true)], args := [d1, d2] }
  | _ => none }
def wordShiftsRow : OpenClaim := { program := "ytkdcdoihgjjnbaa", sum := "3ae5a5fd6968b8aea653c1a0189ec4109558ea4cfaae81a78d624c3734d1a701", func := "hasp/hasplaw1.WordShifts", spec := "wordShifts", inPlace := ["internal/reflectlite.TypeOf"], unfollowed := true, recurses := true, apart := false }
def WordShiftsSaid : Prop := wordShiftsRow.holds Try.pinned (OpenSpec.ofChange wordShiftsSpec)

/-- ITS FALSE NEIGHBOUR: 'it returns false'. Refute it at one input. -/
def wordShiftsWrong : ChangeSpec := { name := "wordShifts", fn := fun _ => fun
  | [d1, d2] => { results := [.lit (.bool false)], args := [d1, d2] }
  | _ => none }
def WordShiftsWrongFalsely : Prop := wordShiftsRow.holds Try.pinned (OpenSpec.ofChange wordShiftsWrong)

/-- 'hasplaw1.WordOrder': WHATEVER THE INPUT: true; the input reads as it did. -/
def wordOrderSpec : ChangeSpec := { name := "wordOrder", fn := fun _ => fun
  | [d1, d2] => { results := [.lit (.bool true)], args := [d1, d2] }
  | _ => none }
def wordOrderRow : OpenClaim := { program := "ytkdcdoihgjjnbaa", sum := "3ae5a5fd6968b8aea653c1a0189ec4109558ea4cfaae81a78d624c3734d1a701", func := "hasp/hasplaw1.WordOrder", spec := "wordOrder", inPlace := ["internal/reflectlite.TypeOf"], unfollowed := true, recurses := true, apart := false }
def WordOrderSaid : Prop := wordOrderRow.holds Try.pinned (OpenSpec.ofChange wordOrderSpec)

/-- ITS FALSE NEIGHBOUR: 'it returns false'. Refute it at one input. -/
def wordOrderWrong : ChangeSpec := { name := "wordOrder", fn := fun _ => fun
  | [d1, d2] => { results := [.lit (.bool false)], args := [d1, d2] }
  | _ => none }
def WordOrderWrongFalsely : Prop := wordOrderRow.holds Try.pinned (OpenSpec.ofChange wordOrderWrong)

/-- 'hasplaw6.OpAny': WHATEVER THE INPUT: true; the input reads as it did. -/
def opAnySpec : ChangeSpec := { name := "opAny", fn := fun _ => fun
  | [d1, d2] => { results := [.lit (.bool true)], args := [d1, d2] }
  | _ => none }
def opAnyRow : OpenClaim := { program := "ytkdcdoihgjjnbaa", sum := "3ae5a5fd6968b8aea653c1a0189ec4109558ea4cfaae81a78d624c3734d1a701", func := "hasp/hasplaw6.OpAny", spec := "opAny", inPlace := ["internal/bytealg.IndexByteString", "internal/bytealg.IndexString"], unfollowed := true, recurses := true, named := ["internal/bytealg.MaxLen"], apart := false }
def OpAnySaid : Prop := opAnyRow.holds Try.pinned (OpenSpec.ofChange opAnySpec)

/-- ITS FALSE NEIGHBOUR: 'it returns false'. Refute it at one input. -/
def opAnyWrong : ChangeSpec := { name := "opAny", fn := fun _ => fun
  | [d1, d2] => { results := [.lit (.bool false)], args := [d1, d2] }
  | _ => none }
def OpAnyWrongFalsely : Prop := opAnyRow.holds Try.pinned (OpenSpec.ofChange opAnyWrong)

/-- 'hasplaw6.OpOnce': WHATEVER THE INPUT: true; the input reads as it did. -/
def opOnceSpec : ChangeSpec := { name := "opOnce", fn := fun _ => fun
  | [d1, d2] => { results := [.lit (.bool true)], args := [d1, d2] }
  | _ => none }
def opOnceRow : OpenClaim := { program := "ytkdcdoihgjjnbaa", sum := "3ae5a5fd6968b8aea653c1a0189ec4109558ea4cfaae81a78d624c3734d1a701", func := "hasp/hasplaw6.OpOnce", spec := "opOnce", inPlace := ["internal/bytealg.IndexByteString", "internal/bytealg.IndexString"], unfollowed := true, recurses := true, named := ["internal/bytealg.MaxLen"], apart := false }
def OpOnceSaid : Prop := opOnceRow.holds Try.pinned (OpenSpec.ofChange opOnceSpec)

/-- ITS FALSE NEIGHBOUR: 'it returns false'. Refute it at one input. -/
def opOnceWrong : ChangeSpec := { name := "opOnce", fn := fun _ => fun
  | [d1, d2] => { results := [.lit (.bool false)], args := [d1, d2] }
  | _ => none }
def OpOnceWrongFalsely : Prop := opOnceRow.holds Try.pinned (OpenSpec.ofChange opOnceWrong)

/- THE SECOND FORM. 'bulk': how many values and letters a reading holds, each counted each time it is reached (what is shared counts as often as it is met; a slice's spare places count too). A statement '..UptoSaid' is the law's where the arguments, and the package variables that the reading takes, are together of bulk at most 1048576: NARROWER than '..Said'. Prove '..Said' where nothing that the law and all that it calls make is longer than what came in: it says more and counts as full. Else prove '..UptoSaid'. A law counts once. -/
mutual
def uptoBulk {H : Type} : DataW H → Nat
  | .lit (.string bytes) => bytes.length + 1
  | .lit _ => 1
  | .nil => 1
  | .ptr d => uptoBulk d + 1
  | .slice elems spare => uptoBulkAll elems + uptoBulkAll spare + 1
  | .agg parts => uptoBulkAll parts + 1
  | .iface _ d => uptoBulk d + 1
  | .map entries => uptoBulkEntries entries + 1
  | .held _ => 1
def uptoBulkAll {H : Type} : List (DataW H) → Nat
  | [] => 0
  | d :: r => uptoBulk d + uptoBulkAll r
def uptoBulkEntries {H : Type} : List (Lit × DataW H) → Nat
  | [] => 0
  | x :: r => uptoBulkEntry x + uptoBulkEntries r
def uptoBulkEntry {H : Type} : Lit × DataW H → Nat
  | (.string bytes, d) => bytes.length + uptoBulk d + 1
  | (_, d) => uptoBulk d + 1
 end
def uptoSmall : (H : Type) → List (DataW H) → Bool := fun _ ds => decide (uptoBulkAll ds ≤ 1048576)
def OpenSpec.upto (s : _root_.Go.ChangeSpec) : _root_.Go.OpenSpec := { _root_.Go.OpenSpec.ofChange s with cond := some uptoSmall }

/-- 'hasplaw1.WordDo', WHERE WHAT IT READS IS OF BULK AT MOST 1048576: true; the input reads as it did. -/
def wordDoUptoRow : OpenClaim := { program := "ytkdcdoihgjjnbaa", sum := "3ae5a5fd6968b8aea653c1a0189ec4109558ea4cfaae81a78d624c3734d1a701", func := "hasp/hasplaw1.WordDo", spec := "wordDo", inPlace := ["internal/reflectlite.TypeOf"], unfollowed := true, recurses := true, apart := false, narrowed := true }
def WordDoUptoSaid : Prop := wordDoUptoRow.holds Try.pinned (OpenSpec.upto wordDoSpec)

/-- 'hasplaw1.WordSigned', WHERE WHAT IT READS IS OF BULK AT MOST 1048576: true; the input reads as it did. -/
def wordSignedUptoRow : OpenClaim := { program := "ytkdcdoihgjjnbaa", sum := "3ae5a5fd6968b8aea653c1a0189ec4109558ea4cfaae81a78d624c3734d1a701", func := "hasp/hasplaw1.WordSigned", spec := "wordSigned", inPlace := ["internal/reflectlite.TypeOf"], unfollowed := true, recurses := true, apart := false, narrowed := true }
def WordSignedUptoSaid : Prop := wordSignedUptoRow.holds Try.pinned (OpenSpec.upto wordSignedSpec)

/-- 'hasplaw1.WordLaws', WHERE WHAT IT READS IS OF BULK AT MOST 1048576: true; the input reads as it did. -/
def wordLawsUptoRow : OpenClaim := { program := "ytkdcdoihgjjnbaa", sum := "3ae5a5fd6968b8aea653c1a0189ec4109558ea4cfaae81a78d624c3734d1a701", func := "hasp/hasplaw1.WordLaws", spec := "wordLaws", inPlace := ["internal/reflectlite.TypeOf"], unfollowed := true, recurses := true, apart := false, narrowed := true }
def WordLawsUptoSaid : Prop := wordLawsUptoRow.holds Try.pinned (OpenSpec.upto wordLawsSpec)

/-- 'hasplaw1.WordShifts', WHERE WHAT IT READS IS OF BULK AT MOST 1048576: true; the input reads as it did. -/
def wordShiftsUptoRow : OpenClaim := { program := "ytkdcdoihgjjnbaa", sum := "3ae5a5fd6968b8aea653c1a0189ec4109558ea4cfaae81a78d624c3734d1a701", func := "hasp/hasplaw1.WordShifts", spec := "wordShifts", inPlace := ["internal/reflectlite.TypeOf"], unfollowed := true, recurses := true, apart := false, narrowed := true }
def WordShiftsUptoSaid : Prop := wordShiftsUptoRow.holds Try.pinned (OpenSpec.upto wordShiftsSpec)

/-- 'hasplaw1.WordOrder', WHERE WHAT IT READS IS OF BULK AT MOST 1048576: true; the input reads as it did. -/
def wordOrderUptoRow : OpenClaim := { program := "ytkdcdoihgjjnbaa", sum := "3ae5a5fd6968b8aea653c1a0189ec4109558ea4cfaae81a78d624c3734d1a701", func := "hasp/hasplaw1.WordOrder", spec := "wordOrder", inPlace := ["internal/reflectlite.TypeOf"], unfollowed := true, recurses := true, apart := false, narrowed := true }
def WordOrderUptoSaid : Prop := wordOrderUptoRow.holds Try.pinned (OpenSpec.upto wordOrderSpec)

/-- 'hasplaw6.OpAny', WHERE WHAT IT READS IS OF BULK AT MOST 1048576: true; the input reads as it did. -/
def opAnyUptoRow : OpenClaim := { program := "ytkdcdoihgjjnbaa", sum := "3ae5a5fd6968b8aea653c1a0189ec4109558ea4cfaae81a78d624c3734d1a701", func := "hasp/hasplaw6.OpAny", spec := "opAny", inPlace := ["internal/bytealg.IndexByteString", "internal/bytealg.IndexString"], unfollowed := true, recurses := true, named := ["internal/bytealg.MaxLen"], apart := false, narrowed := true }
def OpAnyUptoSaid : Prop := opAnyUptoRow.holds Try.pinned (OpenSpec.upto opAnySpec)

/-- 'hasplaw6.OpOnce', WHERE WHAT IT READS IS OF BULK AT MOST 1048576: true; the input reads as it did. -/
def opOnceUptoRow : OpenClaim := { program := "ytkdcdoihgjjnbaa", sum := "3ae5a5fd6968b8aea653c1a0189ec4109558ea4cfaae81a78d624c3734d1a701", func := "hasp/hasplaw6.OpOnce", spec := "opOnce", inPlace := ["internal/bytealg.IndexByteString", "internal/bytealg.IndexString"], unfollowed := true, recurses := true, named := ["internal/bytealg.MaxLen"], apart := false, narrowed := true }
def OpOnceUptoSaid : Prop := opOnceUptoRow.holds Try.pinned (OpenSpec.upto opOnceSpec)

end Rows
end Go.Proofs.Ytkdcdoihgjjnbaa
