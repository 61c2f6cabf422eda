/- The document's memory, byte by byte: plain law. -/
import Derived.Test.YtplejhefhnmabaaGreatDoorMemP
namespace Go.Proofs.YtplejhefhnmabaaGreatDoor
open Go.RowKit Am
set_option linter.unusedSimpArgs false
set_option linter.unusedVariables false
theorem rext0 {A B : List Int} (hl : A.length = B.length) (h : ∀ i, A.getD i 0 = B.getD i 0) : A = B := by
  apply List.ext_getElem hl
  intro i h1 h2
  have := h i
  simpa [List.getD_eq_getElem?_getD, List.getElem?_eq_getElem h1, List.getElem?_eq_getElem h2] using this
theorem rextF {A B : List Bool} (hl : A.length = B.length) (h : ∀ i, A.getD i false = B.getD i false) : A = B := by
  apply List.ext_getElem hl
  intro i h1 h2
  have := h i
  simpa [List.getD_eq_getElem?_getD, List.getElem?_eq_getElem h1, List.getElem?_eq_getElem h2] using this
theorem putAt_set (l : List AV) (k : Nat) (v : AV) (h : k < l.length) : putAt l k [v] = l.set k v := by
  rw [putAt_eq _ _ _ (by simp; omega), List.set_eq_take_append_cons_drop, if_pos h]; rfl
theorem getD_setI (l : List Int) (k i : Nat) (v : Int) (h : k < l.length) : (l.set k v).getD i 0 = if i = k then v else l.getD i 0 := by
  simp only [List.getD_eq_getElem?_getD, List.getElem?_set]
  by_cases hi : k = i
  · rw [if_pos hi, if_pos h, if_pos hi.symm]; rfl
  · rw [if_neg hi, if_neg (fun h => hi h.symm)]
theorem getD_setB (l : List Bool) (k i : Nat) (v : Bool) (h : k < l.length) : (l.set k v).getD i false = if i = k then v else l.getD i false := by
  simp only [List.getD_eq_getElem?_getD, List.getElem?_set]
  by_cases hi : k = i
  · rw [if_pos hi, if_pos h, if_pos hi.symm]; rfl
  · rw [if_neg hi, if_neg (fun h => hi h.symm)]
theorem rs_b0 {B xs : List Int} {a : Int} {i : Nat} (hi : i < xs.length) (h : a.toNat + xs.length ≤ B.length) : (stB B a (xs.take i)).set (a.toNat + i) (xs.getD i 0) = stB B a (xs.take (i + 1)) := by
  have l1 : (xs.take i).length = i := by simp; omega
  have l2 : (xs.take (i + 1)).length = i + 1 := by simp; omega
  have e1 := length_stB (B := B) (a := a) (bs := xs.take i) (by omega)
  have e2 := length_stB (B := B) (a := a) (bs := xs.take (i + 1)) (by omega)
  apply rext0
  · rw [List.length_set]; omega
  · intro j
    rw [getD_setI _ _ _ _ (by omega), getD_stB (by omega), getD_stB (by omega), l1, l2]
    by_cases hj : j = a.toNat + i
    · rw [if_pos hj, if_pos (by omega), hj, show a.toNat + i - a.toNat = i by omega]
      simp [List.getD_eq_getElem?_getD, List.getElem?_take]
    · rw [if_neg hj]
      by_cases c : a.toNat ≤ j ∧ j < a.toNat + i
      · rw [if_pos c, if_pos (by omega)]
        simp only [List.getD_eq_getElem?_getD, List.getElem?_take]
        rw [if_pos (by omega), if_pos (by omega)]
      · rw [if_neg c, if_neg (by omega)]
theorem rs_t0 {T : List Bool} {a : Int} {i : Nat} (h : (a.toNat + i) / 16 < T.length) : (stT T a i).set ((a.toNat + i) / 16) false = stT T a (i + 1) := by
  have e1 := length_stT (T := T) (a := a) (k := i) (by omega)
  have e2 := length_stT (T := T) (a := a) (k := i + 1) (by omega)
  apply rextF
  · rw [List.length_set]; omega
  · intro j
    rw [getD_setB _ _ _ _ (by omega), getD_stT (by omega), getD_stT (by omega)]
    by_cases hj : j = (a.toNat + i) / 16
    · rw [if_pos hj, if_pos (by omega)]
    · rw [if_neg hj]
      by_cases c : 0 < i ∧ a.toNat / 16 ≤ j ∧ j ≤ (a.toNat + i - 1) / 16
      · rw [if_pos c, if_pos (by omega)]
      · rw [if_neg c, if_neg (by omega)]
section
variable {B xs : List Int} {T : List Bool} {n m k i : Nat} {a : Int} (hM : MOk B T n m) (hk : xs.length = k) (hs : spanOk n a (Int.ofNat k) = true) (h0 : decide (Int.ofNat i < Int.ofNat k) = true)
include hM hk hs h0
theorem rs_ix : i < k ∧ a + (i : Int) < n ∧ IntKind.wrap .i64 (a + Int.ofNat i) = a + i ∧ 0 ≤ a ∧ k ≤ 65536 := by
  have _hk := hk
  obtain ⟨s1, s2, s3⟩ := spanOk_iff.1 hs
  have h := of_decide_eq_true h0
  have hl := hM.le
  simp only [Int.ofNat_eq_natCast] at h s3
  refine ⟨by omega, by omega, by rw [wrapI64]; simp only [Int.ofNat_eq_natCast]; omega, s1, by omega⟩
theorem rs_b : putAt ((stB B a (xs.take i)).map (AV.int .u8)) (0 + (IntKind.wrap .i64 (a + Int.ofNat i)).toNat * 1) [AV.int .u8 (Am.asInt ((xs.map (AV.int .u8)).getD (0 + (Int.ofNat i).toNat * 1) .any))] = (stB B a (xs.take (i + 1))).map (AV.int .u8) := by
  obtain ⟨e1, e2, e3, e4, e5⟩ := rs_ix hM hk hs h0
  obtain ⟨s1, s2, s3⟩ := spanOk_iff.1 hs
  simp only [Int.ofNat_eq_natCast] at s3
  have hb := hM.b
  have l1 : (stB B a (xs.take i)).length = B.length := length_stB (by simp; omega)
  rw [e3, show 0 + (a + (i : Int)).toNat * 1 = a.toNat + i by omega, show 0 + (Int.ofNat i).toNat * 1 = i by simp, getD_ints (by omega), putAt_set _ _ _ (by simp; omega)]
  show ((stB B a (xs.take i)).map (AV.int .u8)).set (a.toNat + i) (AV.int .u8 (xs.getD i 0)) = _
  rw [← List.map_set, rs_b0 (by omega) (by omega)]
theorem rs_t : putAt ((stT T a i).map AV.bool) (0 + (IntKind.wrap .i64 (Int.tdiv (IntKind.wrap .i64 (a + Int.ofNat i)) 16)).toNat * 1) [AV.bool false] = (stT T a (i + 1)).map AV.bool := by
  obtain ⟨e1, e2, e3, e4, e5⟩ := rs_ix hM hk hs h0
  have hnm := hM.nm; have ht := hM.t; have hl := hM.le
  have l1 : (stT T a i).length = T.length := length_stT (by omega)
  have e6 : (IntKind.wrap .i64 (Int.tdiv (a + (i : Int)) 16)).toNat = (a.toNat + i) / 16 := by
    rw [Int.tdiv_eq_ediv_of_nonneg (by omega), wrapI64]; omega
  rw [e3, e6, Nat.zero_add, Nat.mul_one, putAt_set _ _ _ (by simp; omega), ← List.map_set, rs_t0 (by omega)]
end
theorem w2_u16 {X : List Int} (h : Bs X) (o : Nat) : IntKind.wrap .u16 (w2 X o) = w2 X o := by
  have a0 := h.getD o; have a1 := h.getD (o + 1)
  rw [wrU16, w2]; omega
theorem fdA (v : Int) : Int.fdiv v 256 = v / 256 := Int.fdiv_eq_ediv_of_nonneg _ (by omega)
theorem fdB (v : Int) : Int.fdiv v 65536 = v / 65536 := Int.fdiv_eq_ediv_of_nonneg _ (by omega)
theorem fdC (v : Int) : Int.fdiv v 16777216 = v / 16777216 := Int.fdiv_eq_ediv_of_nonneg _ (by omega)
theorem len16 {B : List Int} {T : List Bool} {n m : Nat} {a : Int} (hM : MOk B T n m) (hs : spanOk n a 16 = true) : (ldB B a 16).length = 16 := by
  obtain ⟨s1, s2, s3⟩ := spanOk_iff.1 hs
  have hb := hM.b
  exact length_ldB (k := 16) (by omega)
theorem rsc_t {B : List Int} {T : List Bool} {n m : Nat} {a : Int} {t : Bool} (hM : MOk B T n m) (hs : spanOk n a 16 = true) (hm : (Int.tmod a 16 != 0) = false) :
    ({ cells := putAt ((stT T a 16).map AV.bool) (0 + (IntKind.wrap .i64 (Int.tdiv a 16)).toNat * 1) [AV.bool t], elem := 4, wr := true } : ABlk) = { cells := (puT T a t).map AV.bool, elem := 4, wr := true } := by
  obtain ⟨e1, e2⟩ := gran_ix hM hs
  obtain ⟨s1, s2, s3⟩ := spanOk_iff.1 hs
  have hnm := hM.nm; have ht := hM.t; have hl := hM.le
  have hm' : a % 16 = 0 := by rw [Int.tmod_eq_emod_of_nonneg s1] at hm; simpa using hm
  have l1 : (stT T a 16).length = T.length := length_stT (by omega)
  rw [Nat.zero_add, Nat.mul_one, e1, putAt_puT t (by omega)]
  have e : (stT T a 16).set (a.toNat / 16) t = puT T a t := by
    apply rextF
    · rw [List.length_set, length_puT]; omega
    · intro j
      rw [getD_setB _ _ _ _ (by omega), getD_puT t e2, getD_stT (by omega)]
      by_cases hj : j = a.toNat / 16
      · rw [if_pos hj, if_pos hj]
      · rw [if_neg hj, if_neg hj, if_neg (by omega)]
  rw [e]
theorem stT_ok16 {B : List Int} {T : List Bool} {n m : Nat} {a : Int} (hM : MOk B T n m) (hs : spanOk n a 16 = true) : (stT T a 16).length = m := by
  obtain ⟨s1, s2, s3⟩ := spanOk_iff.1 hs
  have hnm := hM.nm; have ht := hM.t
  rw [length_stT (by omega)]; exact ht
end Go.Proofs.YtplejhefhnmabaaGreatDoor
