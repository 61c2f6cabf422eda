/- strconv.Itoa, off the shelf (its text is the library's, under this program's numbers). Function and type numbers are those of the seat r3. -/
import Derived.Test.YtgdeffompcikhaaDoorAmT
import Derived.Shelf.Strconv.Itoa3
import Derived.Lib.ItoaLen
namespace Go.Proofs.YtgdeffompcikhaaDoor
open Go.RowKit Am Go.Sort
set_option linter.unusedSimpArgs false
set_option linter.unusedVariables false
set_option maxRecDepth 100000
def itoaRen : Shelf.Ren where
  f x := match x with | 171 => 32 | 243 => 51 | 246 => 63 | 283 => 72 | 284 => 73 | 285 => 74 | 286 => 75 | 129 => 82 | 317 => 81 | 318 => 83 | 319 => 84 | 320 => 85 | 337 => 90 | 338 => 91 | n => n
  t x := match x with | 3 => 3 | 9 => 9 | 2 => 2 | 4 => 4 | 171 => 165 | 0 => 0 | 53 => 166 | 37 => 28 | 5 => 5 | 173 => 169 | 212 => 178 | 51 => 24 | 20 => 20 | 213 => 179 | 46 => 79 | 232 => 185 | 233 => 186 | n => n
  g x := match x with | 17 => 1 | 18 => 3 | 19 => 4 | n => n
theorem itoaLays : LaysM.n171 Tryd.prog itoaRen where
  mixed := by decide
  f129 := Tryd.func82
  f171 := Tryd.func32
  f243 := Tryd.func51
  f246 := Tryd.func63
  f283 := Tryd.func72
  f284 := Tryd.func73
  f285 := Tryd.func74
  f286 := Tryd.func75
  f317 := Tryd.func81
  f318 := Tryd.func83
  f319 := Tryd.func84
  f320 := Tryd.func85
  f337 := Tryd.func90
  f338 := Tryd.func91
  t0 := Tryd.underlying0
  a0 := Tryd.isAgg0
  z0 := Tryd.sizeOf0
  v0 := Tryd.zeroValue0
  t2 := Tryd.underlying2
  a2 := Tryd.isAgg2
  z2 := Tryd.sizeOf2
  v2 := Tryd.zeroValue2
  t3 := Tryd.underlying3
  a3 := Tryd.isAgg3
  z3 := Tryd.sizeOf3
  v3 := Tryd.zeroValue3
  t4 := Tryd.underlying4
  a4 := Tryd.isAgg4
  z4 := Tryd.sizeOf4
  v4 := Tryd.zeroValue4
  t5 := Tryd.underlying5
  a5 := Tryd.isAgg5
  z5 := Tryd.sizeOf5
  v5 := Tryd.zeroValue5
  t9 := Tryd.underlying9
  a9 := Tryd.isAgg9
  z9 := Tryd.sizeOf9
  v9 := Tryd.zeroValue9
  t20 := Tryd.underlying20
  a20 := Tryd.isAgg20
  z20 := Tryd.sizeOf20
  v20 := Tryd.zeroValue20
  t37 := Tryd.underlying28
  a37 := Tryd.isAgg28
  z37 := Tryd.sizeOf28
  v37 := Tryd.zeroValue28
  t46 := Tryd.underlying79
  a46 := Tryd.isAgg79
  z46 := Tryd.sizeOf79
  v46 := Tryd.zeroValue79
  t51 := Tryd.underlying24
  a51 := Tryd.isAgg24
  z51 := Tryd.sizeOf24
  v51 := Tryd.zeroValue24
  t53 := Tryd.underlying166
  a53 := Tryd.isAgg166
  z53 := Tryd.sizeOf166
  v53 := Tryd.zeroValue166
  t171 := Tryd.underlying165
  a171 := Tryd.isAgg165
  z171 := Tryd.sizeOf165
  v171 := Tryd.zeroValue165
  t173 := Tryd.underlying169
  a173 := Tryd.isAgg169
  z173 := Tryd.sizeOf169
  v173 := Tryd.zeroValue169
  t212 := Tryd.underlying178
  a212 := Tryd.isAgg178
  z212 := Tryd.sizeOf178
  v212 := Tryd.zeroValue178
  t213 := Tryd.underlying179
  a213 := Tryd.isAgg179
  z213 := Tryd.sizeOf179
  t232 := Tryd.underlying185
  a232 := Tryd.isAgg185
  z232 := Tryd.sizeOf185
  v232 := Tryd.zeroValue185
  t233 := Tryd.underlying186
  a233 := Tryd.isAgg186
  z233 := Tryd.sizeOf186
  v233 := Tryd.zeroValue186
  g17 := by kernel_rfl
  g18 := by kernel_rfl
  g19 := by kernel_rfl
  i0 := Eq.refl (some (some (Value.tuple #[]), 1, 0))
  i2 := Eq.refl (some (some (Value.int IntKind.i64 0), 1, 8))
  i3 := Eq.refl (some (some (Value.int IntKind.i64 0), 1, 8))
  i4 := Eq.refl (some (some (Value.bool false), 1, 1))
  i5 := Eq.refl (some (some (Value.int IntKind.u8 0), 1, 1))
  i9 := Eq.refl (some (some (Value.string { data := #[] }), 1, 16))
  i20 := Eq.refl (some (some Value.nilIface, 1, 16))
  i37 := Eq.refl (some (some (Value.slice none 0 0), 1, 24))
  i46 := Eq.refl (some (some (Value.int IntKind.u64 0), 1, 8))
  i51 := Eq.refl (some (some (Value.int IntKind.u32 0), 1, 4))
  i53 := Eq.refl (some (some (Value.int IntKind.u64 0), 1, 8))
  i171 := Eq.refl (some (some (Value.agg #[Value.int IntKind.u8 0, Value.int IntKind.u8 0, Value.int IntKind.u8 0, Value.int IntKind.u8 0, Value.int IntKind.u8 0, Value.int IntKind.u8 0, Value.int IntKind.u8 0, Value.int IntKind.u8 0, Value.int IntKind.u8 0, Value.int IntKind.u8 0, Value.int IntKind.u8 0, Value.int IntKind.u8 0, Value.int IntKind.u8 0, Value.int IntKind.u8 0, Value.int IntKind.u8 0, Value.int IntKind.u8 0, Value.int IntKind.u8 0, Value.int IntKind.u8 0, Value.int IntKind.u8 0, Value.int IntKind.u8 0, Value.int IntKind.u8 0, Value.int IntKind.u8 0, Value.int IntKind.u8 0, Value.int IntKind.u8 0]), 24, 24))
  i173 := Eq.refl (some (some (Value.tuple #[Value.slice none 0 0, Value.string { data := #[] }]), 1, 0))
  i212 := Eq.refl (some (some (Value.agg #[Value.int IntKind.u64 0, Value.int IntKind.u64 0, Value.int IntKind.u64 0, Value.int IntKind.u64 0, Value.int IntKind.u64 0, Value.int IntKind.u64 0, Value.int IntKind.u64 0, Value.int IntKind.u64 0, Value.int IntKind.u64 0, Value.int IntKind.u64 0, Value.int IntKind.u64 0, Value.int IntKind.u64 0, Value.int IntKind.u64 0, Value.int IntKind.u64 0, Value.int IntKind.u64 0, Value.int IntKind.u64 0, Value.int IntKind.u64 0, Value.int IntKind.u64 0, Value.int IntKind.u64 0, Value.int IntKind.u64 0]), 20, 160))
  i232 := Eq.refl (some (some (Value.agg #[Value.int IntKind.u8 0, Value.int IntKind.u8 0, Value.int IntKind.u8 0, Value.int IntKind.u8 0, Value.int IntKind.u8 0, Value.int IntKind.u8 0, Value.int IntKind.u8 0, Value.int IntKind.u8 0, Value.int IntKind.u8 0, Value.int IntKind.u8 0, Value.int IntKind.u8 0, Value.int IntKind.u8 0, Value.int IntKind.u8 0, Value.int IntKind.u8 0, Value.int IntKind.u8 0, Value.int IntKind.u8 0, Value.int IntKind.u8 0, Value.int IntKind.u8 0, Value.int IntKind.u8 0, Value.int IntKind.u8 0, Value.int IntKind.u8 0, Value.int IntKind.u8 0, Value.int IntKind.u8 0, Value.int IntKind.u8 0, Value.int IntKind.u8 0, Value.int IntKind.u8 0, Value.int IntKind.u8 0, Value.int IntKind.u8 0, Value.int IntKind.u8 0, Value.int IntKind.u8 0, Value.int IntKind.u8 0, Value.int IntKind.u8 0]), 32, 32))
  i233 := Eq.refl (some (some (Value.agg (let y := let y := let y := let y := [Value.int IntKind.u8 0, Value.int IntKind.u8 0, Value.int IntKind.u8 0, Value.int IntKind.u8 0]; Value.int IntKind.u8 0 :: Value.int IntKind.u8 0 :: Value.int IntKind.u8 0 :: Value.int IntKind.u8 0 :: y; let y := Value.int IntKind.u8 0 :: Value.int IntKind.u8 0 :: Value.int IntKind.u8 0 :: Value.int IntKind.u8 0 :: y; Value.int IntKind.u8 0 :: Value.int IntKind.u8 0 :: Value.int IntKind.u8 0 :: Value.int IntKind.u8 0 :: y; let y := let y := Value.int IntKind.u8 0 :: Value.int IntKind.u8 0 :: Value.int IntKind.u8 0 :: Value.int IntKind.u8 0 :: y; Value.int IntKind.u8 0 :: Value.int IntKind.u8 0 :: Value.int IntKind.u8 0 :: Value.int IntKind.u8 0 :: y; let y := Value.int IntKind.u8 0 :: Value.int IntKind.u8 0 :: Value.int IntKind.u8 0 :: Value.int IntKind.u8 0 :: y; Value.int IntKind.u8 0 :: Value.int IntKind.u8 0 :: Value.int IntKind.u8 0 :: Value.int IntKind.u8 0 :: y; let y := let y := let y := Value.int IntKind.u8 0 :: Value.int IntKind.u8 0 :: Value.int IntKind.u8 0 :: Value.int IntKind.u8 0 :: y; Value.int IntKind.u8 0 :: Value.int IntKind.u8 0 :: Value.int IntKind.u8 0 :: Value.int IntKind.u8 0 :: y; let y := Value.int IntKind.u8 0 :: Value.int IntKind.u8 0 :: Value.int IntKind.u8 0 :: Value.int IntKind.u8 0 :: y; Value.int IntKind.u8 0 :: Value.int IntKind.u8 0 :: Value.int IntKind.u8 0 :: Value.int IntKind.u8 0 :: y; let y := let y := Value.int IntKind.u8 0 :: Value.int IntKind.u8 0 :: Value.int IntKind.u8 0 :: Value.int IntKind.u8 0 :: y; Value.int IntKind.u8 0 :: Value.int IntKind.u8 0 :: Value.int IntKind.u8 0 :: Value.int IntKind.u8 0 :: y; let y := Value.int IntKind.u8 0 :: Value.int IntKind.u8 0 :: Value.int IntKind.u8 0 :: Value.int IntKind.u8 0 :: y; Value.int IntKind.u8 0 :: Value.int IntKind.u8 0 :: Value.int IntKind.u8 0 :: Value.int IntKind.u8 0 :: y).toArray), 64, 64))
  m17 := by kernel_rfl
  m18 := by kernel_rfl
  m19 := by kernel_rfl
theorem drewN_same (w : World) : ∀ k, (w.drewN k).os = w.os ∧ (w.drewN k).tape = w.tape ∧ (w.drewN k).output = w.output := by
  intro k
  first
  | exact ⟨rfl, rfl, rfl⟩
  | (induction k with
     | zero => exact ⟨rfl, rfl, rfl⟩
     | succ k ih => simpa [World.drewN] using ih)
theorem rfl_os (w : World) (k : Nat) (os : Array Obj) : (grow (w.drewN k) os).os = w.os := (drewN_same w k).1
theorem rfl_tape (w : World) (k : Nat) (os : Array Obj) : (grow (w.drewN k) os).tape = w.tape := (drewN_same w k).2.1
theorem rfl_out (w : World) (k : Nat) (os : Array Obj) : (grow (w.drewN k) os).output = w.output := (drewN_same w k).2.2
theorem newer_grow (w : World) (k : Nat) (os : Array Obj) : Newer w (grow (w.drewN k) os) := by
  have hh : (grow (w.drewN k) os).heap = w.heap ++ os := by simp [grow]
  refine ⟨rfl_os w k os, rfl_tape w k os, rfl_out w k os, by rw [hh]; simp, fun j hj => ?_⟩
  rw [hh, Array.getElem?_append_left hj]
theorem itoaC (n : Int) (h0 : -9223372036854775808 ≤ n) (h1 : n ≤ 9223372036854775807) (nx : Nat) : SpecC Tryd.prog GS 32 [.int .i64 n] (lk []) nx (.str ⟨⟨Lib.itoa n⟩⟩) (upOf [] []) 0 :=
  SpecC.ofCalls (V := .string ⟨⟨Lib.itoa n⟩⟩) (by kernel_rfl) rfl rfl (fun w hw => (Any.strconv_Itoa itoaLays n h0 h1 w (GlT.tabIs hw)).mono fun e w' ⟨x, k, os, y⟩ => ⟨x, by subst y; exact newer_grow w k os⟩) nx
end Go.Proofs.YtgdeffompcikhaaDoor
