/- Two stores that share no granule: plain law. -/
import Derived.Test.YtoecmleficekbaaDoorMemP
namespace Go.Proofs.YtoecmleficekbaaDoor
open Go.RowKit Am
set_option linter.unusedSimpArgs false
set_option linter.unusedVariables false
def root16 : Cp := ⟨true, 0, 16, 0, 127, 0⟩
def rootG (_ : Nat) : Cp := root16
theorem root16_ok : root16.Ok := by constructor <;> decide
theorem ext0 {A B : List Int} (hl : A.length = B.length) (h : ∀ i, A.getD i 0 = B.getD i 0) : A = B := by
  apply List.ext_getElem hl
  intro i h1 h2
  have := h i
  simpa [List.getD_eq_getElem?_getD, List.getElem?_eq_getElem h1, List.getElem?_eq_getElem h2] using this
theorem extF {A B : List Bool} (hl : A.length = B.length) (h : ∀ i, A.getD i false = B.getD i false) : A = B := by
  apply List.ext_getElem hl
  intro i h1 h2
  have := h i
  simpa [List.getD_eq_getElem?_getD, List.getElem?_eq_getElem h1, List.getElem?_eq_getElem h2] using this
theorem stB_comm {B xs ys : List Int} {a b : Int} (h1 : a.toNat + xs.length ≤ B.length) (h2 : b.toNat + ys.length ≤ B.length) (hd : a.toNat + xs.length ≤ b.toNat ∨ b.toNat + ys.length ≤ a.toNat) : stB (stB B b ys) a xs = stB (stB B a xs) b ys := by
  have l1 := length_stB h1; have l2 := length_stB h2
  apply ext0
  · rw [length_stB (B := stB B b ys) (by omega), length_stB (B := stB B a xs) (by omega)]; omega
  · intro i
    rw [getD_stB (B := stB B b ys) (by omega), getD_stB (B := stB B a xs) (by omega), getD_stB h1, getD_stB h2]
    by_cases c1 : a.toNat ≤ i ∧ i < a.toNat + xs.length
    · rw [if_pos c1, if_neg (by omega), if_pos c1]
    · rw [if_neg c1, if_neg c1]
theorem stT_comm {T : List Bool} {a b : Int} {n k : Nat} (h1 : n = 0 ∨ (a.toNat + n - 1) / 16 < T.length) (h2 : k = 0 ∨ (b.toNat + k - 1) / 16 < T.length) : stT (stT T b k) a n = stT (stT T a n) b k := by
  have l1 := length_stT h1; have l2 := length_stT h2
  apply extF
  · rw [length_stT (T := stT T b k) (by omega), length_stT (T := stT T a n) (by omega)]; omega
  · intro i
    rw [getD_stT (T := stT T b k) (by omega), getD_stT (T := stT T a n) (by omega), getD_stT h1, getD_stT h2]
    by_cases c1 : 0 < n ∧ a.toNat / 16 ≤ i ∧ i ≤ (a.toNat + n - 1) / 16
    · rw [if_pos c1, if_pos c1]; split <;> rfl
    · rw [if_neg c1, if_neg c1]
section
variable {a b : Int} {n k : Nat} (ha : 0 ≤ a) (ha1 : a < 256) (hb : 0 ≤ b) (hb1 : b < 256) (hl : n ≤ 140737488351232) (hl2 : k ≤ 140737488351232)
include ha ha1 hl in
theorem ap_le (h : decide (IntKind.wrap .i64 (IntKind.wrap .i64 a + Int.ofNat n) > 256) = false) : a + (n : Int) ≤ 256 := by
  rw [wrapU8 ha ha1] at h
  have h := of_decide_eq_false h
  rw [wrapI64] at h
  simp only [Int.ofNat_eq_natCast] at h; omega
include ha ha1 in
theorem ap_sp (h : a + (n : Int) ≤ 256) : spanOk 256 (IntKind.wrap .i64 a) (Int.ofNat n) = true := by
  rw [wrapU8 ha ha1]; exact spanOk_iff.2 ⟨ha, by simp only [Int.ofNat_eq_natCast]; omega, h⟩
include ha ha1 hb hb1 in
theorem ap_d (h : decide (IntKind.wrap .i64 (Int.tdiv (IntKind.wrap .i64 (IntKind.wrap .i64 (IntKind.wrap .i64 a + Int.ofNat n) - 1)) 16) ≥ IntKind.wrap .i64 (Int.tdiv (IntKind.wrap .i64 b) 16)) = false) (h1 : a + (n : Int) ≤ 256) (h0 : (Int.ofNat n == 0) = false) : a.toNat + n ≤ b.toNat := by
  have n0 : n ≠ 0 := fun e => by subst e; cases h0
  rw [wrapU8 ha ha1, wrapU8 hb hb1, show IntKind.wrap .i64 (a + Int.ofNat n) = a + n by rw [wrapI64]; simp only [Int.ofNat_eq_natCast]; omega, show IntKind.wrap .i64 (a + (n : Int) - 1) = a + n - 1 by rw [wrapI64]; omega, Int.tdiv_eq_ediv_of_nonneg (by omega), Int.tdiv_eq_ediv_of_nonneg hb] at h
  have h := of_decide_eq_false h
  rw [wrapI64, wrapI64] at h
  omega
end
theorem ap_ok {xs ys : List Int} {a b : Int} {n k : Nat} (hx : Bs xs) (hn : xs.length = n) (hs : spanOk 256 a (Int.ofNat n) = true) : MOk (stB (fillB 256 rootG 16) a xs) (stT (fillT 256 rootG 16) a n) 256 16 := by
  subst hn
  exact (fill_okm (n := 256) (m := 16) (f := rootG) 16 (by decide) (by decide) (by decide) (by decide)).store hs hx
theorem ap_ok2 {xs ys : List Int} {a b : Int} {n k : Nat} (hx : Bs xs) (hn : xs.length = n) (hs : spanOk 256 a (Int.ofNat n) = true) (hy : Bs ys) (hk : ys.length = k) (ht : spanOk 256 b (Int.ofNat k) = true) :
    MOk (stB (stB (fillB 256 rootG 16) a xs) b ys) (stT (stT (fillT 256 rootG 16) a n) b k) 256 16 := by
  have h := ap_ok (ys := ys) (b := b) (k := k) hx hn hs
  subst hk
  exact h.store ht hy
theorem ap_b {xs ys : List Int} {a b : Int} {n k : Nat} (hn : xs.length = n) (hs : spanOk 256 a (Int.ofNat n) = true) (hk : ys.length = k) (ht : spanOk 256 b (Int.ofNat k) = true) (hd : a.toNat + n ≤ b.toNat ∨ b.toNat + k ≤ a.toNat) :
    stB (stB (fillB 256 rootG 16) b ys) a xs = stB (stB (fillB 256 rootG 16) a xs) b ys := by
  have hM := fill_okm (n := 256) (m := 16) (f := rootG) 16 (by decide) (by decide) (by decide) (by decide)
  have hb := hM.b
  obtain ⟨s1, s2, s3⟩ := spanOk_iff.1 hs
  obtain ⟨t1, t2, t3⟩ := spanOk_iff.1 ht
  simp only [Int.ofNat_eq_natCast] at s3 t3
  exact stB_comm (by omega) (by omega) (by omega)
theorem ap_t {a b : Int} {n k : Nat} (hs : spanOk 256 a (Int.ofNat n) = true) (ht : spanOk 256 b (Int.ofNat k) = true) :
    stT (stT (fillT 256 rootG 16) b k) a n = stT (stT (fillT 256 rootG 16) a n) b k := by
  have hM := fill_okm (n := 256) (m := 16) (f := rootG) 16 (by decide) (by decide) (by decide) (by decide)
  have hb := hM.t
  obtain ⟨s1, s2, s3⟩ := spanOk_iff.1 hs
  obtain ⟨t1, t2, t3⟩ := spanOk_iff.1 ht
  simp only [Int.ofNat_eq_natCast] at s3 t3
  exact stT_comm (by omega) (by omega)
end Go.Proofs.YtoecmleficekbaaDoor
