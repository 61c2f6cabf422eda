/- The instructions' names, codes and forms, in plain Lean. -/
import Derived.Test.YtplejhefhnmabaaGreatDoorLay
namespace Go.Proofs.YtplejhefhnmabaaGreatDoor
open Go.RowKit
def opNames : List (List UInt8) := [
  [97, 100, 100],
  [115, 117, 98],
  [109, 117, 108],
  [97, 110, 100],
  [111, 114],
  [120, 111, 114],
  [115, 108, 108],
  [115, 114, 108],
  [115, 114, 97],
  [115, 108, 116],
  [115, 108, 116, 117],
  [100, 105, 118, 117],
  [114, 101, 109, 117],
  [97, 100, 100, 105],
  [97, 110, 100, 105],
  [111, 114, 105],
  [120, 111, 114, 105],
  [115, 108, 108, 105],
  [115, 114, 108, 105],
  [115, 108, 116, 105],
  [108, 105],
  [108, 117, 105],
  [109, 118],
  [99, 98, 97, 115, 101],
  [99, 116, 111, 112],
  [99, 97, 100, 100, 114],
  [99, 112, 101, 114, 109],
  [99, 116, 121, 112, 101],
  [99, 116, 97, 103],
  [99, 115, 101, 116, 97, 100, 100, 114],
  [99, 105, 110, 99],
  [99, 105, 110, 99, 105],
  [99, 98, 111, 117, 110, 100, 115],
  [99, 98, 111, 117, 110, 100, 115, 105],
  [99, 97, 110, 100, 112],
  [99, 97, 110, 100, 112, 105],
  [99, 99, 108, 101, 97, 114],
  [99, 115, 101, 97, 108],
  [99, 117, 110, 115, 101, 97, 108],
  [99, 101, 110, 116, 101, 114],
  [99, 115, 117, 98],
  [99, 115, 117, 98, 115, 101, 116],
  [99, 101, 113],
  [108, 98],
  [108, 98, 117],
  [108, 104],
  [108, 104, 117],
  [108, 119],
  [108, 99],
  [115, 98],
  [115, 104],
  [115, 119],
  [115, 99],
  [98, 101, 113],
  [98, 110, 101],
  [98, 108, 116],
  [98, 103, 101],
  [98, 108, 116, 117],
  [98, 103, 101, 117],
  [106, 97, 108],
  [106, 97, 108, 114],
  [97, 117, 105, 112, 99, 99],
  [105, 110],
  [111, 117, 116],
  [104, 97, 108, 116],
  [101, 99, 97, 108, 108],
  [110, 111, 112]]
/-- Names with blanks between. -/
def joinB : List (List UInt8) → List UInt8
  | [] => []
  | [x] => x
  | x :: y :: r => x ++ 32 :: joinB (y :: r)
/-- An op's form by its name. -/
def formR (s : List UInt8) : Int :=
  if s == [104, 97, 108, 116] then 0 else   -- halt
  if s == [110, 111, 112] then 0 else   -- nop
  if s == [101, 99, 97, 108, 108] then 9 else   -- ecall
  if s == [106, 97, 108] then 7 else   -- jal
  if s == [108, 105] then 5 else   -- li
  if s == [108, 117, 105] then 5 else   -- lui
  if s == [97, 117, 105, 112, 99, 99] then 5 else   -- auipcc
  if s == [97, 100, 100, 105] then 4 else   -- addi
  if s == [97, 110, 100, 105] then 4 else   -- andi
  if s == [111, 114, 105] then 4 else   -- ori
  if s == [120, 111, 114, 105] then 4 else   -- xori
  if s == [115, 108, 108, 105] then 4 else   -- slli
  if s == [115, 114, 108, 105] then 4 else   -- srli
  if s == [115, 108, 116, 105] then 4 else   -- slti
  if s == [99, 105, 110, 99, 105] then 4 else   -- cinci
  if s == [99, 98, 111, 117, 110, 100, 115, 105] then 4 else   -- cboundsi
  if s == [99, 97, 110, 100, 112, 105] then 4 else   -- candpi
  if s == [106, 97, 108, 114] then 4 else   -- jalr
  if s == [98, 101, 113] then 6 else   -- beq
  if s == [98, 110, 101] then 6 else   -- bne
  if s == [98, 108, 116] then 6 else   -- blt
  if s == [98, 103, 101] then 6 else   -- bge
  if s == [98, 108, 116, 117] then 6 else   -- bltu
  if s == [98, 103, 101, 117] then 6 else   -- bgeu
  if s == [108, 98] then 8 else   -- lb
  if s == [108, 98, 117] then 8 else   -- lbu
  if s == [108, 104] then 8 else   -- lh
  if s == [108, 104, 117] then 8 else   -- lhu
  if s == [108, 119] then 8 else   -- lw
  if s == [108, 99] then 8 else   -- lc
  if s == [115, 98] then 8 else   -- sb
  if s == [115, 104] then 8 else   -- sh
  if s == [115, 119] then 8 else   -- sw
  if s == [115, 99] then 8 else   -- sc
  if s == [109, 118] then 2 else   -- mv
  if s == [99, 98, 97, 115, 101] then 2 else   -- cbase
  if s == [99, 116, 111, 112] then 2 else   -- ctop
  if s == [99, 97, 100, 100, 114] then 2 else   -- caddr
  if s == [99, 112, 101, 114, 109] then 2 else   -- cperm
  if s == [99, 116, 121, 112, 101] then 2 else   -- ctype
  if s == [99, 116, 97, 103] then 2 else   -- ctag
  if s == [99, 99, 108, 101, 97, 114] then 2 else   -- cclear
  if s == [99, 101, 110, 116, 101, 114] then 2 else   -- center
  if s == [105, 110] then 1 else   -- in
  if s == [111, 117, 116] then 1 else   -- out
  3
def opName (k : Nat) : List UInt8 := opNames.getD k []
theorem opNames_length : opNames.length = 67 := rfl
theorem opName_noBlank : ∀ k, k < 67 → (32 : UInt8) ∉ opName k := by decide +kernel
theorem joinB_length : ∀ k, k < 67 → (opName k).length + (joinB (opNames.drop (k + 1))).length ≤ 100000 := by decide +kernel
theorem join_next : ∀ k, k < 66 → joinB (opNames.drop k) = opName k ++ 32 :: joinB (opNames.drop (k + 1)) := by decide +kernel
theorem join_last : joinB (opNames.drop 66) = opName 66 := by decide +kernel
/-- The first op that is such. -/
def firstOp (p : Nat → Bool) : Option Nat := (List.range 67).find? p
theorem firstOp_some {p : Nat → Bool} {k : Nat} (hk : k < 67) (h : p k = true) (hn : ∀ j, j < k → p j = false) : firstOp p = some k := by
  unfold firstOp
  rw [List.find?_range_eq_some]
  exact ⟨h, by simpa using hk, fun j hj => by simp [hn j hj]⟩
theorem firstOp_none {p : Nat → Bool} (hn : ∀ j, j < 67 → p j = false) : firstOp p = none := by
  unfold firstOp
  rw [List.find?_eq_none]
  intro j hj
  simp [hn j (by simpa using hj)]
/-- Code and name of an op, as the program has them. -/
def opAgg : Option Nat → Value
  | some k => .agg #[.int .i64 ((k : Int) + 1), .string ⟨(opName k).toArray⟩, .int .i64 (formR (opName k))]
  | none => .agg #[.int .i64 0, .string ⟨#[]⟩, .int .i64 0]
end Go.Proofs.YtplejhefhnmabaaGreatDoor
