/- Nothing outside a capability's bounds changes through it: plain law. -/
import Derived.Test.YtplejhefhnmabaaGreatDoorFilled
import Derived.Laws.BitsAllLaws
namespace Go.Proofs.YtplejhefhnmabaaGreatDoor
open Go.RowKit Am
set_option linter.unusedSimpArgs false
set_option linter.unusedVariables false
theorem accE_ok {c : Cp} {a n q : Int} (h : (accE c a n q == 0) = true) : c.tag = true ∧ bits .and .u16 c.perm q = q ∧ c.base ≤ a ∧ a + n ≤ c.top ∧ (0 < n → Int.tmod a n = 0) := by
  have h := eq_of_beq h
  unfold accE at h
  split at h; · omega
  rename_i h1
  split at h; · omega
  split at h; · omega
  rename_i h3
  split at h; · omega
  rename_i h4
  split at h; · omega
  rename_i h5
  refine ⟨by simpa using h1, by simpa using h3, ?_⟩
  simp [Cp.has] at h4
  exact ⟨h4.1, h4.2, fun hn => by
    rcases Classical.em (Int.tmod a n = 0) with h | h
    · exact h
    · exact absurd ⟨hn, h⟩ h5⟩
def Bd (c : Cp) (B C : List Int) : Prop := ∀ i : Nat, i < 128 → B.getD i 0 = C.getD i 0 ∨ (c.base ≤ (i : Int) ∧ (i : Int) < c.top)
def Td (c : Cp) (vt : Bool) (T U : List Bool) : Prop := ∀ g : Nat, g < 8 → T.getD g false = true → U.getD g false = true ∨ (vt = true ∧ (bits .and .u16 c.perm 16 == 0) = false ∧ c.base ≤ 16 * (g : Int) ∧ 16 * (g : Int) < c.top)
theorem Bd.refl (c : Cp) (B : List Int) : Bd c B B := fun i _ => .inl rfl
theorem Bd.store {c : Cp} {B C : List Int} {T : List Bool} {a n q : Int} {bs : List Int} (h : Bd c B C) (hM : MOk B T 128 8) (he : (accE c a n q == 0) = true) (hs : spanOk 128 a n = true) (hl : (bs.length : Int) = n) : Bd c (stB B a bs) C := by
  intro i hi
  obtain ⟨s1, s2, s3⟩ := spanOk_iff.1 hs
  have hb := hM.b
  obtain ⟨_, _, e1, e2, _⟩ := accE_ok he
  rw [getD_stB (by omega)]
  by_cases hc : a.toNat ≤ i ∧ i < a.toNat + bs.length
  · exact .inr (by omega)
  · rw [if_neg hc]; exact h i hi
theorem Td.refl (c : Cp) (vt : Bool) (T : List Bool) : Td c vt T T := fun g _ h => .inl h
theorem Td.st {c : Cp} {vt : Bool} {B : List Int} {T U : List Bool} {a n : Int} {k : Nat} (h : Td c vt T U) (hM : MOk B T 128 8) (hs : spanOk 128 a n = true) (hk : (k : Int) = n) : Td c vt (stT T a k) U := by
  intro g hg ht
  obtain ⟨s1, s2, s3⟩ := spanOk_iff.1 hs
  have hT := hM.t
  rw [getD_stT (by omega)] at ht
  split at ht
  · cases ht
  · exact h g hg ht
theorem Td.put {c : Cp} {vt : Bool} {B : List Int} {T U : List Bool} {a : Int} (h : Td c vt T U) (hM : MOk B T 128 8) (hp : 0 ≤ c.perm ∧ c.perm < 65536) (he : (accE c a 16 (bif vt then 18 else 2) == 0) = true) (hs : spanOk 128 a 16 = true) : Td c vt (puT T a vt) U := by
  intro g hg ht
  obtain ⟨s1, s2, s3⟩ := spanOk_iff.1 hs
  have hT := hM.t
  obtain ⟨_, e0, e1, e2, e3⟩ := accE_ok he
  have e4 : a % 16 = 0 := by rw [← Int.tmod_eq_emod_of_nonneg s1]; exact e3 (by omega)
  rw [getD_puT vt (by omega)] at ht
  by_cases hj : g = a.toNat / 16
  · rw [if_pos hj] at ht
    subst ht
    refine .inr ⟨rfl, ?_, by omega, by omega⟩
    simp only [cond_true] at e0
    rw [u16_and c.perm 18 hp.1 hp.2 (by decide) (by decide)] at e0
    rw [u16_and c.perm 16 hp.1 hp.2 (by decide) (by decide)]
    have e5 : c.perm.toNat &&& 18 = 18 := by
      have : (18 : Int).toNat = 18 := rfl
      rw [this] at e0; omega
    have e6 : c.perm.toNat &&& 16 = 16 := by
      have : (c.perm.toNat &&& 18) &&& 16 = 16 := by rw [e5]; rfl
      rw [Nat.and_assoc] at this; exact this
    have e7 : (16 : Int).toNat = 16 := rfl
    rw [e7, e6]; rfl
  · rw [if_neg hj] at ht; exact h g hg ht
/-- Each place that Tags tells is a granule's, and it has a tag. -/
theorem tagsFrom_at (T : List Bool) : ∀ (k j : Nat), j < (tagsFrom k T).length → ∃ g, g < T.length ∧ T.getD g false = true ∧ (tagsFrom k T).getD j 0 = ((16 * (k + g) : Nat) : Int) := by
  induction T with
  | nil => intro k j h; cases h
  | cons t T ih =>
    intro k j h
    cases t with
    | true =>
      simp only [tagsFrom, if_true] at h ⊢
      cases j with
      | zero => exact ⟨0, by simp, by simp, by simp⟩
      | succ j =>
        obtain ⟨g, h1, h2, h3⟩ := ih (k + 1) j (by simpa using h)
        exact ⟨g + 1, by simpa using h1, by simpa using h2, by rw [List.getD_cons_succ, h3]; congr 1; omega⟩
    | false =>
      simp only [tagsFrom, Bool.false_eq_true, if_false] at h ⊢
      obtain ⟨g, h1, h2, h3⟩ := ih (k + 1) j h
      exact ⟨g + 1, by simpa using h1, by simpa using h2, by rw [h3]; congr 1; omega⟩
def Ld (c : Cp) (vt : Bool) (L : List Int) (U : List Bool) : Prop := ∀ j : Nat, j < L.length → 0 ≤ L.getD j 0 ∧ L.getD j 0 < 128 ∧ (ldT U (L.getD j 0) = true ∨ (vt = true ∧ (bits .and .u16 c.perm 16 == 0) = false ∧ c.base ≤ L.getD j 0 ∧ L.getD j 0 < c.top))
theorem Td.tags {c : Cp} {vt : Bool} {B : List Int} {T U : List Bool} (h : Td c vt T U) (hM : MOk B T 128 8) : Ld c vt (tagsOf T) U := by
  intro j hj
  obtain ⟨g, h1, h2, h3⟩ := tagsFrom_at T 0 j hj
  have hT := hM.t
  have e : (tagsOf T).getD j 0 = ((16 * g : Nat) : Int) := by rw [show 16 * g = 16 * (0 + g) by omega]; exact h3
  rw [e, ldT_16]
  refine ⟨by omega, by omega, ?_⟩
  rcases h g (by omega) h2 with q | ⟨q1, q2, q3, q4⟩
  · exact .inl q
  · exact .inr ⟨q1, q2, by omega, by omega⟩
theorem fl123 : MOk (flB [1, 2, 3] ⟨true, 0, 3, 0, 127, 0⟩) (flT 3 true) 128 8 := fl2 (Bs.cons (by decide) (Bs.cons (by decide) (Bs.cons (by decide) Bs.nil))) rfl (by decide) _ _
section
variable {B C : List Int} {T U : List Bool} {c w : Cp} {a v : Int} {vt : Bool}
theorem bst1 (h : MOk B T 128 8) (hs : spanOk 128 a 1 = true) : MOk (stB B a (b1 v)) (stT T a 1) 128 8 := h.store (bs := b1 v) hs (Bs.b1 v)
theorem bst2 (h : MOk B T 128 8) (hs : spanOk 128 a 2 = true) : MOk (stB B a (b2 v)) (stT T a 2) 128 8 := h.store (bs := b2 v) hs (Bs.b2 v)
theorem bst4 (h : MOk B T 128 8) (hs : spanOk 128 a 4 = true) : MOk (stB B a (b4 v)) (stT T a 4) 128 8 := h.store (bs := b4 v) hs (Bs.b4 v)
theorem bstC {t : Bool} (h : MOk B T 128 8) (hs : spanOk 128 a 16 = true) : MOk (stB B a (capB w)) (puT T a t) 128 8 := h.storeCap hs (length_capB _) (Bs.capB _)
theorem bb1 (hM : MOk B T 128 8) (h : Bd c B C) (he : (accE c a 1 2 == 0) = true) (hs : spanOk 128 a 1 = true) : Bd c (stB B a (b1 v)) C := h.store hM he hs rfl
theorem bb2 (hM : MOk B T 128 8) (h : Bd c B C) (he : (accE c a 2 2 == 0) = true) (hs : spanOk 128 a 2 = true) : Bd c (stB B a (b2 v)) C := h.store hM he hs rfl
theorem bb4 (hM : MOk B T 128 8) (h : Bd c B C) (he : (accE c a 4 2 == 0) = true) (hs : spanOk 128 a 4 = true) : Bd c (stB B a (b4 v)) C := h.store hM he hs rfl
theorem bbC (hM : MOk B T 128 8) (h : Bd c B C) (he : (accE c a 16 (bif vt then 18 else 2) == 0) = true) (hs : spanOk 128 a 16 = true) : Bd c (stB B a (capB w)) C := h.store hM he hs (by rw [length_capB]; rfl)
theorem bt1 (hM : MOk B T 128 8) (h : Td c vt T U) (hs : spanOk 128 a 1 = true) : Td c vt (stT T a 1) U := h.st hM hs rfl
theorem bt2 (hM : MOk B T 128 8) (h : Td c vt T U) (hs : spanOk 128 a 2 = true) : Td c vt (stT T a 2) U := h.st hM hs rfl
theorem bt4 (hM : MOk B T 128 8) (h : Td c vt T U) (hs : spanOk 128 a 4 = true) : Td c vt (stT T a 4) U := h.st hM hs rfl
theorem btL (hM : MOk B T 128 8) : (tagsOf T).length ≤ 8 := by have := length_tagsOf T; have := hM.t; omega
end
theorem okR3 : Cp.Ok ⟨true, 0, 3, 0, 127, 0⟩ := by constructor <;> decide
theorem bs123 : Bs [1, 2, 3] := Bs.cons (by decide) (Bs.cons (by decide) (Bs.cons (by decide) Bs.nil))
/-- The bytes of a number, k of them. -/
def bK (k v : Int) : List Int := if k = 1 then b1 v else if k = 2 then b2 v else b4 v
theorem szOk_or {k : Int} (h : szOk k = true) : k = 1 ∨ k = 2 ∨ k = 4 := by simpa [szOk] using h
theorem bK_len {k : Int} (h : szOk k = true) (v : Int) : ((bK k v).length : Int) = k := by
  rcases szOk_or h with rfl | rfl | rfl <;> rfl
theorem bK_bs (k v : Int) : Bs (bK k v) := by
  unfold bK; split
  · exact Bs.b1 v
  · split
    · exact Bs.b2 v
    · exact Bs.b4 v
section
variable {c w : Cp} {a k v : Int} {vt : Bool} (hc : c.Ok) (hz : szOk k = true)
include hz in
theorem xoK (s : spanOk 128 a k = true) : MOk (stB (flB [1, 2, 3] ⟨true, 0, 3, 0, 127, 0⟩) a (bK k v)) (stT (flT 3 true) a k.toNat) 128 8 := by
  have e := bK_len hz v
  have h := fl123.store (a := a) (bs := bK k v) (by rw [show Int.ofNat (bK k v).length = k from e]; exact s) (bK_bs k v)
  rwa [show (bK k v).length = k.toNat by omega] at h
theorem xoC (s : spanOk 128 a 16 = true) : MOk (stB (flB [1, 2, 3] ⟨true, 0, 3, 0, 127, 0⟩) a (capB w)) (puT (flT 3 true) a vt) 128 8 := bstC fl123 s
include hz in
theorem xoKC (s : spanOk 128 a k = true) (s2 : spanOk 128 a 16 = true) : MOk (stB (stB (flB [1, 2, 3] ⟨true, 0, 3, 0, 127, 0⟩) a (bK k v)) a (capB w)) (puT (stT (flT 3 true) a k.toNat) a vt) 128 8 := bstC (xoK hz s) s2
include hz in
theorem xdK (e : (accE c a k 2 == 0) = true) (s : spanOk 128 a k = true) : Bd c (stB (flB [1, 2, 3] ⟨true, 0, 3, 0, 127, 0⟩) a (bK k v)) (flB [1, 2, 3] ⟨true, 0, 3, 0, 127, 0⟩) := (Bd.refl _ _).store fl123 e s (bK_len hz v)
theorem xdC (e2 : (accE c a 16 (bif vt then 18 else 2) == 0) = true) (s2 : spanOk 128 a 16 = true) : Bd c (stB (flB [1, 2, 3] ⟨true, 0, 3, 0, 127, 0⟩) a (capB w)) (flB [1, 2, 3] ⟨true, 0, 3, 0, 127, 0⟩) := bbC fl123 (Bd.refl _ _) e2 s2
include hz in
theorem xdKC (e : (accE c a k 2 == 0) = true) (s : spanOk 128 a k = true) (e2 : (accE c a 16 (bif vt then 18 else 2) == 0) = true) (s2 : spanOk 128 a 16 = true) : Bd c (stB (stB (flB [1, 2, 3] ⟨true, 0, 3, 0, 127, 0⟩) a (bK k v)) a (capB w)) (flB [1, 2, 3] ⟨true, 0, 3, 0, 127, 0⟩) := bbC (xoK hz s) (xdK hz e s) e2 s2
theorem xtd (s : spanOk 128 a k = true) : Td c vt (stT (flT 3 true) a k.toNat) (flT 3 true) := (Td.refl _ _ _).st fl123 s (by obtain ⟨_, s2, _⟩ := spanOk_iff.1 s; omega)
include hz in
theorem xtK (s : spanOk 128 a k = true) : Ld c vt (tagsOf (stT (flT 3 true) a k.toNat)) (flT 3 true) := (xtd s).tags (xoK (v := 0) hz s)
include hz in
theorem xlK (s : spanOk 128 a k = true) : (tagsOf (stT (flT 3 true) a k.toNat)).length ≤ 8 := btL (xoK (v := 0) hz s)
theorem xlC (s : spanOk 128 a 16 = true) : (tagsOf (puT (flT 3 true) a vt)).length ≤ 8 := btL (xoC (w := ⟨true, 0, 3, 0, 127, 0⟩) s)
include hz in
theorem xlKC (s : spanOk 128 a k = true) (s2 : spanOk 128 a 16 = true) : (tagsOf (puT (stT (flT 3 true) a k.toNat) a vt)).length ≤ 8 := btL (xoKC (w := ⟨true, 0, 3, 0, 127, 0⟩) (v := 0) hz s s2)
include hc in
theorem xtC (e2 : (accE c a 16 (bif vt then 18 else 2) == 0) = true) (s2 : spanOk 128 a 16 = true) : Ld c vt (tagsOf (puT (flT 3 true) a vt)) (flT 3 true) := ((Td.refl _ _ _).put fl123 ⟨hc.p0, hc.p1⟩ e2 s2).tags (xoC (w := ⟨true, 0, 3, 0, 127, 0⟩) s2)
include hc hz in
theorem xtKC (s : spanOk 128 a k = true) (e2 : (accE c a 16 (bif vt then 18 else 2) == 0) = true) (s2 : spanOk 128 a 16 = true) : Ld c vt (tagsOf (puT (stT (flT 3 true) a k.toNat) a vt)) (flT 3 true) := ((xtd s).put (xoK (v := 0) hz s) ⟨hc.p0, hc.p1⟩ e2 s2).tags (xoKC (w := ⟨true, 0, 3, 0, 127, 0⟩) (v := 0) hz s s2)
end
end Go.Proofs.YtplejhefhnmabaaGreatDoor
