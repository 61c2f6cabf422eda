/- strings.Join, off the shelf (its text is the library's, under this program's numbers), as a table for closed runs. Type numbers are those of the seat r3. -/
import Derived.Test.YtgdeffompcikhaaDoorAmT
import Derived.Shelf.Strings.OnBuilder
namespace Go.Proofs.YtgdeffompcikhaaDoor
open Go.RowKit Am
set_option linter.unusedSimpArgs false
set_option linter.unusedVariables false
set_option maxRecDepth 100000
def joinRen : Shelf.Ren where
  f x := match x with | 156 => 33 | 165 => 52 | 166 => 53 | 169 => 54 | 240 => 64 | 241 => 65 | 276 => 76 | 277 => 77 | n => n
  t x := match x with | 31 => 102 | 9 => 9 | 3 => 3 | 4 => 4 | 0 => 0 | 20 => 20 | 72 => 132 | 76 => 134 | 70 => 130 | 37 => 28 | 75 => 42 | 127 => 159 | 164 => 116 | 5 => 5 | 80 => 136 | n => n
  g n := n
theorem joinLays : Lays.n156 Tryd.prog joinRen where
  mixed := by decide
  f156 := Tryd.func33
  f165 := Tryd.func52
  f166 := Tryd.func53
  f169 := Tryd.func54
  f240 := Tryd.func64
  f241 := Tryd.func65
  f276 := Tryd.func76
  f277 := Tryd.func77
  t0 := Tryd.underlying0
  a0 := Tryd.isAgg0
  z0 := Tryd.sizeOf0
  v0 := Tryd.zeroValue0
  t3 := Tryd.underlying3
  a3 := Tryd.isAgg3
  z3 := Tryd.sizeOf3
  v3 := Tryd.zeroValue3
  t4 := Tryd.underlying4
  a4 := Tryd.isAgg4
  z4 := Tryd.sizeOf4
  v4 := Tryd.zeroValue4
  t9 := Tryd.underlying9
  a9 := Tryd.isAgg9
  z9 := Tryd.sizeOf9
  v9 := Tryd.zeroValue9
  t20 := Tryd.underlying20
  a20 := Tryd.isAgg20
  z20 := Tryd.sizeOf20
  v20 := Tryd.zeroValue20
  t31 := Tryd.underlying102
  a31 := Tryd.isAgg102
  z31 := Tryd.sizeOf102
  v31 := Tryd.zeroValue102
  t37 := Tryd.underlying28
  a37 := Tryd.isAgg28
  z37 := Tryd.sizeOf28
  v37 := Tryd.zeroValue28
  t70 := Tryd.underlying130
  a70 := Tryd.isAgg130
  z70 := Tryd.sizeOf130
  v70 := Tryd.zeroValue130
  t72 := Tryd.underlying132
  a72 := Tryd.isAgg132
  z72 := Tryd.sizeOf132
  v72 := Tryd.zeroValue132
  t75 := Tryd.underlying42
  a75 := Tryd.isAgg42
  z75 := Tryd.sizeOf42
  v75 := Tryd.zeroValue42
  t76 := Tryd.underlying134
  a76 := Tryd.isAgg134
  z76 := Tryd.sizeOf134
  v76 := Tryd.zeroValue134
  t127 := Tryd.underlying159
  a127 := Tryd.isAgg159
  z127 := Tryd.sizeOf159
  v127 := Tryd.zeroValue159
  t164 := Tryd.underlying116
  a164 := Tryd.isAgg116
  z164 := Tryd.sizeOf116
  v164 := Tryd.zeroValue116
theorem joinExtra : Builder.Extra Tryd.prog joinRen where
  sizeBuilder := by kernel_rfl
  liesBuilder := by kernel_rfl
  t5 := Tryd.underlying5
  a5 := Tryd.isAgg5
  z5 := Tryd.sizeOf5
  v5 := Tryd.zeroValue5
  infoByte := by kernel_rfl
  cellsByte := by kernel_rfl
  sizeByte := by kernel_rfl
  neB5 := by decide
/-- The texts in a row of cells. -/
def strsOf : List AV → Option (List ByteArray)
  | [] => some []
  | .str s :: l => match strsOf l with
    | some r => some (s :: r)
    | none => none
  | _ :: _ => none
theorem strsOf_at : ∀ {l : List AV} {xs : List ByteArray}, strsOf l = some xs → l.length = xs.length ∧ ∀ (j : Nat) (x : ByteArray), xs[j]? = some x → l.getD j .any = .str x
  | [], xs, h => by injection h with h; subst h; exact ⟨rfl, fun j x hx => by simp at hx⟩
  | v :: l, xs, h => by
    cases v <;> simp only [strsOf] at h <;> (try (cases h; done))
    split at h
    · rename_i s r hr
      injection h with h; subst h
      obtain ⟨h1, h2⟩ := strsOf_at hr
      refine ⟨by simp [h1], fun j x hx => ?_⟩
      cases j with
      | zero => simp at hx; subst hx; rfl
      | succ j => simpa using h2 j x (by simpa using hx)
    · cases h
def joinB' (xs : List ByteArray) (sep : ByteArray) : List UInt8 := Lib.join (xs.map (·.data.toList)) sep.data.toList
theorem joinG (k o n nx : Nat) (cp : Am.Cp) (sep : ByteArray) (L : Am.Lit) (b : ABlk) (xs : List ByteArray) (hk : lk L k = some b) (hx : strsOf ((b.cells.drop o).take n) = some xs) (hn : xs.length = n) (h1 : 1 ≤ n) (hb : n ≤ 1000000) (hl : (joinB' xs sep).length ≤ 1000000) :
    SpecC Tryd.prog GS 33 [.slc (.loc k) o n cp, .str sep] (lk L) nx (.str ⟨⟨joinB' xs sep⟩⟩) (upOf [] []) 0 := by
  refine ⟨by kernel_rfl, fun C w args' hargs hI hfr => ?_⟩
  obtain ⟨p, z, rfl, hp, hz⟩ := hargs.two
  cases hz
  cases hp with
  | slc _ _ _ _ a cap' g1 g2 g3 =>
    obtain ⟨c, hc, ha, _⟩ := g1 (by omega)
    subst ha
    obtain ⟨e1, e2⟩ := strsOf_at hx
    have hlen : o + n ≤ b.cells.length := by
      simp only [List.length_take, List.length_drop] at e1; omega
    have := Any.strings_Join joinLays joinExtra c.blk (c.base + o) cap' xs sep w (fun j x hj => by
      have hj' : j < n := by have := (List.getElem?_eq_some_iff.1 hj).1; omega
      obtain ⟨v', q1, q2⟩ := cell_of (i := o + j) (hI.at_ k b hk) hc (by omega)
      have h3 := e2 j x hj
      rw [List.getD_eq_getElem?_getD, List.getElem?_take, if_pos hj', List.getElem?_drop, ← List.getD_eq_getElem?_getD] at h3
      rw [h3] at q2
      cases q2
      rw [Nat.add_assoc]; exact q1) (hI.inw _ _ hc) (by omega) (by omega) (by have : (Lib.join (xs.map (·.data.toList)) sep.data.toList).length ≤ 1000000 := hl; omega)
    rw [hn] at this
    refine this.mono ?_
    rintro e w' ⟨rfl, hw⟩
    exact ⟨_, C, rfl, ⟨.str _, hI.newer ⟨hw.os, hw.tape, hw.output, hw.size, hw.block⟩, Goes.newer C _ ⟨hw.os, hw.tape, hw.output, hw.size, hw.block⟩, fun _ _ => rfl⟩⟩
noncomputable def orJ (next : CallF) : CallF := fun f args lit nx => match Nat.beq f 33 with
  | true => match args with
    | [.slc (.loc k) o n cp, .str sep] => match lk lit k with
      | some b => match strsOf ((b.cells.drop o).take n) with
        | some xs => match Nat.beq xs.length n && Nat.ble 1 n && Nat.ble n 1000000 && Nat.ble (joinB' xs sep).length 1000000 with
          | true => forceL (joinB' xs sep) fun l => some ⟨.str ⟨⟨l⟩⟩, [], [], 0⟩
          | false => none
        | none => none
      | none => none
    | _ => none
  | false => next f args lit nx
theorem orJ_ok {next : CallF} (hnext : CallOk Tryd.prog GS next) : CallOk Tryd.prog GS (orJ next) := by
  intro f args lit nx r h hl
  unfold orJ at h
  split at h
  · rename_i hf
    obtain rfl := Nat.eq_of_beq_eq_true hf
    split at h
    · rename_i k o n cp sep
      split at h
      · rename_i b hb
        split at h
        · rename_i xs hx
          split at h
          · rename_i hc
            rw [forceL_eq] at h
            injection h with h; subst h
            simp only [Bool.and_eq_true] at hc
            exact joinG k o n nx cp sep lit b xs hb hx (Nat.eq_of_beq_eq_true hc.1.1.1) (Nat.le_of_ble_eq_true hc.1.1.2) (Nat.le_of_ble_eq_true hc.1.2) (Nat.le_of_ble_eq_true hc.2)
          · cases h
        · cases h
      · cases h
    · cases h
  · exact hnext _ _ _ _ _ h hl
end Go.Proofs.YtgdeffompcikhaaDoor
