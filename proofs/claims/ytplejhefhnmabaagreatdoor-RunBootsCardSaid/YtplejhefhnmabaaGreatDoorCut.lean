/- strings.Cut at one blank, by contracts. -/
import Derived.Test.YtplejhefhnmabaaGreatDoorProg
import Derived.Test.YtplejhefhnmabaaGreatDoorHeap
import Derived.Lib.Bytealg
import Derived.Lib.IndexBytes
import Derived.Outline
import Derived.OwnWalk
import Derived.IntWalk
import Derived.Deep.QuietTactic
import Derived.BigQuiet
import Derived.Deep.Light
namespace Go.Proofs.YtplejhefhnmabaaGreatDoor
open Go.RowKit
set_option linter.unusedSimpArgs false

theorem indexByte_none (l : List UInt8) (c : UInt8) (h : c ∉ l) : Lib.indexByte l c = -1 := by
  induction l with
  | nil => rfl
  | cons x r ih =>
    have hx : (x == c) = false := by simp at h ⊢; exact fun e => h.1 e.symm
    have := ih (by simp at h; exact h.2)
    simp [Lib.indexByte, hx, this]
theorem indexByte_some (a b : List UInt8) (c : UInt8) (h : c ∉ a) : Lib.indexByte (a ++ c :: b) c = a.length := by
  induction a with
  | nil => simp [Lib.indexByte]
  | cons x r ih =>
    have hx : (x == c) = false := by simp at h ⊢; exact fun e => h.1 e.symm
    have := ih (by simp at h; exact h.2)
    rw [List.cons_append]
    simp [Lib.indexByte, hx, this]

set_option maxRecDepth 100000 in
set_option maxHeartbeats 1000000 in
theorem indexByte_any (s : ByteArray) (c : Int) (w : World) : Calls Tryz.prog 118 #[.string s, .int .u8 c] w fun e w' => e = .returned (.int .i64 (Lib.indexByte s.data.toList c.toNat.toUInt8)) ∧ w = w' := by
  have hT := @run_callFunc_extern Tryz.prog 124 _ Extern.BytealgIndexByte.indexByte Tryz.func124 (by kernel_rfl) (by kernel_rfl) (by kernel_rfl) (by kernel_rfl)
  have hr := fun w' => Lib.run_indexByteString (P := Tryz.prog) s c w'
  go_enter Tryz.func118, Tryz.ntmps118
  go_wp2
  go_ret
  exact ⟨rfl, rfl⟩

set_option maxRecDepth 100000 in
set_option maxHeartbeats 1000000 in
theorem index_blank (s : ByteArray) (w : World) : Calls Tryz.prog 114 #[.string s, .string ⟨#[32]⟩] w fun e w' => e = .returned (.int .i64 (Lib.indexByte s.data.toList 32)) ∧ w = w' := by
  by_cases hs : ([32] : List UInt8) = s.toList
  · have e : Lib.indexByte s.data.toList 32 = 0 := by rw [← ByteArray.toList_eq, ← hs]; rfl
    rw [e]
    have hb : (([32] : List UInt8) == s.toList) = true := beq_iff_eq.2 hs
    clear hs e
    go_enter Tryz.func114, Tryz.ntmps114
    go_wp2
    go_ret
    exact ⟨rfl, rfl⟩
  · have hb : (([32] : List UInt8) == s.toList) = false := beq_eq_false_iff_ne.2 hs
    clear hs
    go_enter Tryz.func114, Tryz.ntmps114
    go_wp2_with (go_at_call 118; (with_reducible refine (indexByte_any _ _ _).mono ?_); rintro e w' ⟨rfl, rfl⟩)
    go_ret
    exact ⟨rfl, rfl⟩

set_option maxRecDepth 100000 in
set_option maxHeartbeats 1000000 in
theorem cutL_none (s : List UInt8) (h : (32 : UInt8) ∉ s) (w : World) : Calls Tryz.prog 99 #[.string ⟨s.toArray⟩, .string ⟨#[32]⟩] w fun e w' => e = .returned (.tuple #[.string ⟨s.toArray⟩, .string ⟨#[]⟩, .bool false]) ∧ w = w' := by
  have HI : Kp (Lib.indexByte (ByteArray.mk s.toArray).data.toList 32 = -1) := ⟨indexByte_none s 32 h⟩
  clear h
  go_enter Tryz.func99, Tryz.ntmps99
  go_wp2_with fail
  refine (index_blank _ _).mono ?_; rintro e w' ⟨rfl, rfl⟩
  rw [HI.out]
  go_wp2
  go_ret3
  exact ⟨rfl, rfl⟩
set_option maxRecDepth 100000 in
set_option maxHeartbeats 1000000 in
theorem cutL_some (a b : List UInt8) (h : (32 : UInt8) ∉ a) (hl : a.length + b.length ≤ 100000) (w : World) : Calls Tryz.prog 99 #[.string ⟨(a ++ 32 :: b).toArray⟩, .string ⟨#[32]⟩] w fun e w' => e = .returned (.tuple #[.string ⟨a.toArray⟩, .string ⟨b.toArray⟩, .bool true]) ∧ ∃ n, w' = w.drewN n := by
  have HI : Kp (Lib.indexByte (ByteArray.mk (a ++ 32 :: b).toArray).data.toList 32 = a.length) := ⟨indexByte_some a b 32 h⟩
  have hz : Kp ((ByteArray.mk (a ++ 32 :: b).toArray).size = a.length + 1 + b.length) := ⟨by simp [ByteArray.size]; omega⟩
  have h1 : Kp ((ByteArray.mk (a ++ 32 :: b).toArray).extract 0 a.length = ⟨a.toArray⟩) := ⟨by apply ByteArray.ext; simp⟩
  have h2 : Kp ((ByteArray.mk (a ++ 32 :: b).toArray).extract (a.length + 1) (a.length + 1 + b.length) = ⟨b.toArray⟩) := ⟨by apply ByteArray.ext; simp⟩
  clear h
  generalize (ByteArray.mk (a ++ 32 :: b).toArray) = S at *
  rw [← hz.out] at h2
  have g1 : ((a.length : Nat) : Int) ≤ (S.size : Int) := by have := hz.out; omega
  have g2 : ((a.length : Nat) : Int) + 1 ≤ (S.size : Int) := by have := hz.out; omega
  have g3 : IntKind.i64.wrap ((a.length : Int) + 1) = (a.length : Int) + 1 := IntWalk.i64_in _ (by omega)
  have g4 : 0 ≤ (a.length : Int) + 1 := by omega
  have g5 : ((a.length : Int) + 1).toNat = a.length + 1 := by omega
  clear hl hz
  have e1 := h1.out
  have e2 := h2.out
  generalize ha : a.length = n at *
  clear ha
  go_enter Tryz.func99, Tryz.ntmps99
  go_wp2_with fail
  refine (index_blank _ _).mono ?_; rintro e w' ⟨rfl, rfl⟩
  rw [HI.out]
  go_wp2
  go_quiet (fail)
  go_wp2
  go_ret3
  exact ⟨rfl, _, rfl⟩
set_option maxRecDepth 100000 in
set_option maxHeartbeats 1000000 in
theorem cut_none (s : List UInt8) (h : (32 : UInt8) ∉ s) (w : World) : Calls Tryz.prog 77 #[.string ⟨s.toArray⟩, .string ⟨#[32]⟩] w fun e w' => e = .returned (.tuple #[.string ⟨s.toArray⟩, .string ⟨#[]⟩, .bool false]) ∧ w = w' := by
  go_enter Tryz.func77, Tryz.ntmps77
  go_wp2_with fail
  refine (cutL_none _ h _).mono ?_; rintro e w' ⟨rfl, rfl⟩
  go_wp2
  go_ret3
  exact ⟨rfl, rfl⟩
set_option maxRecDepth 100000 in
set_option maxHeartbeats 1000000 in
theorem cut_some (a b : List UInt8) (h : (32 : UInt8) ∉ a) (hl : a.length + b.length ≤ 100000) (w : World) : Calls Tryz.prog 77 #[.string ⟨(a ++ 32 :: b).toArray⟩, .string ⟨#[32]⟩] w fun e w' => e = .returned (.tuple #[.string ⟨a.toArray⟩, .string ⟨b.toArray⟩, .bool true]) ∧ ∃ n, w' = w.drewN n := by
  have hL : Kp (a.length + b.length ≤ 100000) := ⟨hl⟩
  clear hl
  have H := fun W => cutL_some a b h hL.out W
  have HK : Kp _ := ⟨H⟩
  clear H h
  generalize (ByteArray.mk (a ++ 32 :: b).toArray) = S at *
  go_enter Tryz.func77, Tryz.ntmps77
  go_wp2_with fail
  refine (HK.out _).mono ?_; rintro e w' ⟨rfl, n, rfl⟩
  go_wp2
  go_ret3
  exact ⟨rfl, _, rfl⟩
end Go.Proofs.YtplejhefhnmabaaGreatDoor
