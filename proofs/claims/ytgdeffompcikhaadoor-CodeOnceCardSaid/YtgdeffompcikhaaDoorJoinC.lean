/- strings.Join of one to four texts by ", ", as contracts; how long what is joined is. -/
import Derived.Test.YtgdeffompcikhaaDoorJoin
import Derived.Test.YtgdeffompcikhaaDoorItoa
import Derived.Test.YtgdeffompcikhaaDoorCodeT
import Derived.Test.YtgdeffompcikhaaDoorCode
namespace Go.Proofs.YtgdeffompcikhaaDoor
open Go.RowKit Am
set_option linter.unusedSimpArgs false
set_option linter.unusedVariables false
def cm : ByteArray := ⟨⟨[44, 32]⟩⟩
theorem joinC1 (a : ByteArray) (hl : (joinB' [a] ⟨⟨[44, 32]⟩⟩).length ≤ 1000000) : SpecC Tryd.prog GS 33 [.slc (.loc 0) 0 1 (.own 1), .str ⟨⟨[44, 32]⟩⟩] (lk [(0, ⟨[.str a], 9, true⟩)]) 1 (.str ⟨⟨joinB' [a] ⟨⟨[44, 32]⟩⟩⟩⟩) (upOf [] []) 0 :=
  joinG 0 0 1 1 (.own 1) _ _ _ _ rfl rfl rfl (by decide) (by decide) hl
theorem joinC2 (a b : ByteArray) (hl : (joinB' [a, b] ⟨⟨[44, 32]⟩⟩).length ≤ 1000000) : SpecC Tryd.prog GS 33 [.slc (.loc 0) 0 2 (.own 1), .str ⟨⟨[44, 32]⟩⟩] (lk [(0, ⟨[.str a, .str b], 9, true⟩)]) 1 (.str ⟨⟨joinB' [a, b] ⟨⟨[44, 32]⟩⟩⟩⟩) (upOf [] []) 0 :=
  joinG 0 0 2 1 (.own 1) _ _ _ _ rfl rfl rfl (by decide) (by decide) hl
theorem joinC3 (a b c : ByteArray) (hl : (joinB' [a, b, c] ⟨⟨[44, 32]⟩⟩).length ≤ 1000000) : SpecC Tryd.prog GS 33 [.slc (.loc 0) 0 3 (.own 1), .str ⟨⟨[44, 32]⟩⟩] (lk [(0, ⟨[.str a, .str b, .str c], 9, true⟩)]) 1 (.str ⟨⟨joinB' [a, b, c] ⟨⟨[44, 32]⟩⟩⟩⟩) (upOf [] []) 0 :=
  joinG 0 0 3 1 (.own 1) _ _ _ _ rfl rfl rfl (by decide) (by decide) hl
theorem joinC4 (a b c d : ByteArray) (hl : (joinB' [a, b, c, d] ⟨⟨[44, 32]⟩⟩).length ≤ 1000000) : SpecC Tryd.prog GS 33 [.slc (.loc 0) 0 4 (.own 1), .str ⟨⟨[44, 32]⟩⟩] (lk [(0, ⟨[.str a, .str b, .str c, .str d], 9, true⟩)]) 1 (.str ⟨⟨joinB' [a, b, c, d] ⟨⟨[44, 32]⟩⟩⟩⟩) (upOf [] []) 0 :=
  joinG 0 0 4 1 (.own 1) _ _ _ _ rfl rfl rfl (by decide) (by decide) hl
theorem i21 (n : Int) (h0 : -9223372036854775808 ≤ n) (h1 : n ≤ 9223372036854775807) : (Lib.itoa n).length ≤ 21 := Lib.itoa_length_le n h0 h1
def textB (n d s t m : Int) : ByteArray := ⟨⟨txt (n - 1).toNat d s t m⟩⟩
theorem w64 {m : Int} (h0 : -32768 ≤ m) (h1 : m ≤ 32767) : IntKind.wrap .i64 m = m := by rw [wrI64]; omega
theorem sz_mk (l : List UInt8) : (ByteArray.mk ⟨l⟩).size = l.length := rfl
theorem nm20 : ∀ k, k < 67 → (opName k).length ≤ 20 := by decide +kernel
theorem szN {n : Int} (h : 1 ≤ n) (h1 : n ≤ 67) : (opNm n).size ≤ 20 := nm20 (n - 1).toNat (by omega)
theorem lj1 (a : ByteArray) : (joinB' [a] ⟨⟨[44, 32]⟩⟩).length = a.size := by simp [joinB', Lib.join, List.intercalate]
theorem lj2 (a b : ByteArray) : (joinB' [a, b] ⟨⟨[44, 32]⟩⟩).length = a.size + 2 + b.size := by simp [joinB', Lib.join, List.intercalate]; omega
theorem lj3 (a b c : ByteArray) : (joinB' [a, b, c] ⟨⟨[44, 32]⟩⟩).length = a.size + 2 + b.size + 2 + c.size := by simp [joinB', Lib.join, List.intercalate]; omega
theorem lj4 (a b c d : ByteArray) : (joinB' [a, b, c, d] ⟨⟨[44, 32]⟩⟩).length = a.size + 2 + b.size + 2 + c.size + 2 + d.size := by simp [joinB', Lib.join, List.intercalate]; omega
theorem str_ext {a : ByteArray} {l : List UInt8} (h : a.data.toList = l) : Am.AV.str a = Am.AV.str ⟨⟨l⟩⟩ := by
  subst h; rfl
end Go.Proofs.YtgdeffompcikhaaDoor
