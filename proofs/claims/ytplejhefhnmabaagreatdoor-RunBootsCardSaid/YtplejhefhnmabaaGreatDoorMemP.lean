/- Package mem in plain Lean, as contracts want it: rows of bytes and of tags. -/
import Derived.Test.YtplejhefhnmabaaGreatDoorAmG
import Derived.Test.YtplejhefhnmabaaGreatDoorCapF
import Derived.Lib.EndianBits
namespace Go.Proofs.YtplejhefhnmabaaGreatDoor
open Go.RowKit Am
set_option linter.unusedSimpArgs false
set_option linter.unusedVariables false
theorem wrapI64 (x : Int) : IntKind.wrap .i64 x = (x + 9223372036854775808) % 18446744073709551616 - 9223372036854775808 := by
  simp [IntKind.wrap, IntKind.signed, IntKind.bits]
  omega
theorem wrapI32 (x : Int) : IntKind.wrap .i32 x = (x + 2147483648) % 4294967296 - 2147483648 := by
  simp [IntKind.wrap, IntKind.signed, IntKind.bits]
  omega
theorem wrU32 (n : Int) : IntKind.wrap .u32 n = n % 4294967296 := by
  simp [IntKind.wrap, IntKind.signed, IntKind.bits]
theorem wrU64 (n : Int) : IntKind.wrap .u64 n = n % 18446744073709551616 := by
  simp [IntKind.wrap, IntKind.signed, IntKind.bits]
theorem wrU16 (n : Int) : IntKind.wrap .u16 n = n % 65536 := by
  simp [IntKind.wrap, IntKind.signed, IntKind.bits]
theorem wrU8 (n : Int) : IntKind.wrap .u8 n = n % 256 := by
  simp [IntKind.wrap, IntKind.signed, IntKind.bits]
theorem bitsI_and (k : IntKind) (a b : Int) : Am.bitsI .and k a b = bits .and k a b := rfl
theorem bitsI_or (k : IntKind) (a b : Int) : Am.bitsI .or k a b = bits .or k a b := rfl
theorem bitsI_andNot (k : IntKind) (a b : Int) : Am.bitsI .andNot k a b = bits .andNot k a b := rfl
/-- Do k bytes lie from a on, among n? -/
def spanOk (n : Nat) (a k : Int) : Bool := decide (0 ≤ a) && (decide (0 ≤ k) && decide (a + k ≤ n))
theorem spanOk_iff {n : Nat} {a k : Int} : spanOk n a k = true ↔ 0 ≤ a ∧ 0 ≤ k ∧ a + k ≤ n := by
  simp [spanOk]
theorem spanOk_not {n : Nat} {a k : Int} : spanOk n a k = false ↔ ¬ (0 ≤ a ∧ 0 ≤ k ∧ a + k ≤ n) := by
  rw [← spanOk_iff]; cases spanOk n a k <;> simp
def get4 (xs : List AV) (o : Nat) : Int := (Am.bitsI .or .u32 (Am.bitsI .or .u32 (Am.bitsI .or .u32 (Am.bitsI .or .u32 (0 : Int) (IntKind.wrap .u32 (IntKind.wrap .u32 (Am.asInt (xs.getD (o + 0) .any)) * 1))) (IntKind.wrap .u32 (IntKind.wrap .u32 (Am.asInt (xs.getD (o + 1) .any)) * 256))) (IntKind.wrap .u32 (IntKind.wrap .u32 (Am.asInt (xs.getD (o + 2) .any)) * 65536))) (IntKind.wrap .u32 (IntKind.wrap .u32 (Am.asInt (xs.getD (o + 3) .any)) * 16777216)))
def get2 (xs : List AV) (o : Nat) : Int := (Am.bitsI .or .u32 (Am.bitsI .or .u32 (0 : Int) (IntKind.wrap .u32 (IntKind.wrap .u32 (Am.asInt (xs.getD (o + 0) .any)) * 1))) (IntKind.wrap .u32 (IntKind.wrap .u32 (Am.asInt (xs.getD (o + 1) .any)) * 256)))
theorem isBoo_map {l : List Bool} {i : Nat} (h : i < l.length) : (isBoo ((l.map AV.bool).getD i .any)).holds := by
  rw [List.getD_eq_getElem?_getD, List.getElem?_map, List.getElem?_eq_getElem h]
  exact trivial
/-- Bytes. -/
def Bs (B : List Int) : Prop := ∀ b, b ∈ B → 0 ≤ b ∧ b < 256
theorem Bs.getD {B : List Int} (h : Bs B) (i : Nat) : 0 ≤ B.getD i 0 ∧ B.getD i 0 < 256 := by
  rw [List.getD_eq_getElem?_getD]
  cases e : B[i]? with
  | none => simp
  | some x => simpa using h x (List.mem_of_getElem? e)
/-- Noughts. -/
def mz (n : Nat) : List Int := List.replicate n 0
def mf (n : Nat) : List Bool := List.replicate n false
/-- Bytes laid from a on. -/
def stB (B : List Int) (a : Int) (bs : List Int) : List Int := B.take a.toNat ++ (bs ++ B.drop (a.toNat + bs.length))
/-- The tags of the granules from lo on, below hi, cleared. -/
def clT (T : List Bool) (lo hi : Nat) : List Bool := T.take lo ++ (List.replicate (hi - lo) false ++ T.drop (lo + (hi - lo)))
/-- The tags behind k bytes stored from a on. -/
def stT (T : List Bool) (a : Int) (k : Nat) : List Bool := if k = 0 then T else clT T (a.toNat / 16) ((a.toNat + k - 1) / 16 + 1)
/-- The bytes from a on. -/
def ldB (B : List Int) (a k : Int) : List Int := (B.drop a.toNat).take k.toNat
/-- A granule's tag. -/
def ldT (T : List Bool) (a : Int) : Bool := T.getD (a.toNat / 16) false
def puT (T : List Bool) (a : Int) (t : Bool) : List Bool := T.set (a.toNat / 16) t
def w4 (B : List Int) (o : Nat) : Int := B.getD o 0 + B.getD (o + 1) 0 * 256 + B.getD (o + 2) 0 * 65536 + B.getD (o + 3) 0 * 16777216
def w2 (B : List Int) (o : Nat) : Int := B.getD o 0 + B.getD (o + 1) 0 * 256
def b4 (v : Int) : List Int := [v % 256, v / 256 % 256, v / 65536 % 256, v / 16777216 % 256]
def b2 (v : Int) : List Int := [v % 256, v / 256 % 256]
/-- The sixteen bytes of a capability. -/
def capB (c : Cp) : List Int := b4 c.base ++ (b4 c.top ++ (b4 c.addr ++ (b2 c.perm ++ b2 c.typ)))
/-- The capability of sixteen bytes. -/
def getC (t : Bool) (B : List Int) (o : Nat) : Cp := ⟨t, w4 B o, w4 B (o + 4), w4 B (o + 8), w2 B (o + 12), w2 B (o + 14)⟩
theorem length_mz (n : Nat) : (mz n).length = n := List.length_replicate
theorem length_mf (n : Nat) : (mf n).length = n := List.length_replicate
theorem length_stB {B bs : List Int} {a : Int} (h : a.toNat + bs.length ≤ B.length) : (stB B a bs).length = B.length := by
  simp [stB]; omega
theorem length_clT {T : List Bool} {lo hi : Nat} (h : hi ≤ T.length) (h2 : lo ≤ hi) : (clT T lo hi).length = T.length := by
  simp [clT]; omega
theorem length_stT {T : List Bool} {a : Int} {k : Nat} (h : k = 0 ∨ (a.toNat + k - 1) / 16 < T.length) : (stT T a k).length = T.length := by
  unfold stT
  split
  · rfl
  · exact length_clT (by omega) (by omega)
theorem length_puT (T : List Bool) (a : Int) (t : Bool) : (puT T a t).length = T.length := by simp [puT]
theorem length_ldB {B : List Int} {a k : Int} (h : a.toNat + k.toNat ≤ B.length) : (ldB B a k).length = k.toNat := by
  simp [ldB]; omega
theorem length_capB (c : Cp) : (capB c).length = 16 := rfl
theorem Bs.mz (n : Nat) : Bs (mz n) := fun b hb => by have := (List.mem_replicate.1 hb).2; omega
theorem Bs.stB {B bs : List Int} {a : Int} (h : Bs B) (h2 : Bs bs) : Bs (stB B a bs) := fun b hb => by
  rcases List.mem_append.1 hb with hb | hb
  · exact h b (List.mem_of_mem_take hb)
  · rcases List.mem_append.1 hb with hb | hb
    · exact h2 b hb
    · exact h b (List.mem_of_mem_drop hb)
theorem Bs.ldB {B : List Int} {a k : Int} (h : Bs B) : Bs (ldB B a k) := fun b hb => h b (List.mem_of_mem_drop (List.mem_of_mem_take hb))
theorem Bs.b4 (v : Int) : Bs (b4 v) := fun b hb => by
  simp only [Go.Proofs.YtplejhefhnmabaaGreatDoor.b4, List.mem_cons, List.not_mem_nil, or_false] at hb; omega
theorem Bs.b2 (v : Int) : Bs (b2 v) := fun b hb => by
  simp only [Go.Proofs.YtplejhefhnmabaaGreatDoor.b2, List.mem_cons, List.not_mem_nil, or_false] at hb; omega
theorem Bs.app {A B : List Int} (h : Bs A) (k : Bs B) : Bs (A ++ B) := fun b hb => by
  rcases List.mem_append.1 hb with hb | hb
  · exact h b hb
  · exact k b hb
theorem Bs.capB (c : Cp) : Bs (capB c) := (Bs.b4 _).app ((Bs.b4 _).app ((Bs.b4 _).app ((Bs.b2 _).app (Bs.b2 _))))
theorem Bs.nil : Bs [] := fun b hb => by cases hb
theorem Bs.cons {a : Int} {B : List Int} (h : 0 ≤ a ∧ a < 256) (k : Bs B) : Bs (a :: B) := fun b hb => by
  rcases List.mem_cons.1 hb with rfl | hb
  · exact h
  · exact k b hb
theorem getD_stB {B bs : List Int} {a : Int} (h : a.toNat + bs.length ≤ B.length) (i : Nat) : (stB B a bs).getD i 0 = if a.toNat ≤ i ∧ i < a.toNat + bs.length then bs.getD (i - a.toNat) 0 else B.getD i 0 := by
  simp only [stB, List.getD_eq_getElem?_getD, List.getElem?_append, List.length_take, List.getElem?_take, List.getElem?_drop]
  by_cases h1 : i < a.toNat
  · rw [if_pos (by omega), if_pos h1, if_neg (by omega)]
  · rw [if_neg (by omega)]
    by_cases h2 : i - a.toNat < bs.length
    · rw [if_pos (by omega), if_pos (by omega), Nat.min_eq_left (by omega)]
    · rw [if_neg (by omega), if_neg (by omega)]
      congr 1; congr 1; omega
theorem getD_clT {T : List Bool} {lo hi : Nat} (h : hi ≤ T.length) (h2 : lo ≤ hi) (i : Nat) : (clT T lo hi).getD i false = if lo ≤ i ∧ i < hi then false else T.getD i false := by
  simp only [clT, List.getD_eq_getElem?_getD, List.getElem?_append, List.length_take, List.getElem?_take, List.getElem?_drop, List.length_replicate, List.getElem?_replicate]
  by_cases h1 : i < lo
  · rw [if_pos (by omega), if_pos h1, if_neg (by omega)]
  · rw [if_neg (by omega)]
    by_cases h3 : i < hi
    · rw [if_pos (by omega), if_pos (by omega), if_pos (by omega)]; rfl
    · rw [if_neg (by omega), if_neg (by omega)]
      congr 1; congr 1; omega
theorem getD_stT {T : List Bool} {a : Int} {k : Nat} (h : k = 0 ∨ (a.toNat + k - 1) / 16 < T.length) (i : Nat) : (stT T a k).getD i false = if 0 < k ∧ a.toNat / 16 ≤ i ∧ i ≤ (a.toNat + k - 1) / 16 then false else T.getD i false := by
  unfold stT
  by_cases hk : k = 0
  · rw [if_pos hk, if_neg (by omega)]
  · rw [if_neg hk, getD_clT (by omega) (by omega)]
    by_cases hc : a.toNat / 16 ≤ i ∧ i ≤ (a.toNat + k - 1) / 16
    · rw [if_pos (by omega), if_pos (by omega)]
    · rw [if_neg (by omega), if_neg (by omega)]
theorem getD_puT {T : List Bool} {a : Int} (t : Bool) (h : a.toNat / 16 < T.length) (i : Nat) : (puT T a t).getD i false = if i = a.toNat / 16 then t else T.getD i false := by
  simp only [puT, List.getD_eq_getElem?_getD, List.getElem?_set]
  by_cases hi : a.toNat / 16 = i
  · rw [if_pos hi, if_pos (by omega), if_pos hi.symm]; rfl
  · rw [if_neg hi, if_neg (fun h => hi h.symm)]
theorem getD_ldB {B : List Int} {a k : Int} (i : Nat) (hi : i < k.toNat) : (ldB B a k).getD i 0 = B.getD (a.toNat + i) 0 := by
  simp only [ldB, List.getD_eq_getElem?_getD, List.getElem?_take, List.getElem?_drop, if_pos hi]
theorem getD_mz (n i : Nat) : (mz n).getD i 0 = 0 := by
  simp only [mz, List.getD_eq_getElem?_getD, List.getElem?_replicate]; split <;> rfl
theorem getD_mf (n i : Nat) : (mf n).getD i false = false := by
  simp only [mf, List.getD_eq_getElem?_getD, List.getElem?_replicate]; split <;> rfl
theorem w4_congr {A B : List Int} {o p : Nat} (h : ∀ i, i < 4 → A.getD (o + i) 0 = B.getD (p + i) 0) : w4 A o = w4 B p := by
  have h0 := h 0 (by omega); have h1 := h 1 (by omega); have h2 := h 2 (by omega); have h3 := h 3 (by omega)
  simp only [Nat.add_zero] at h0
  simp only [w4, h0, h1, h2, h3]
theorem w2_congr {A B : List Int} {o p : Nat} (h : ∀ i, i < 2 → A.getD (o + i) 0 = B.getD (p + i) 0) : w2 A o = w2 B p := by
  have h0 := h 0 (by omega); have h1 := h 1 (by omega)
  simp only [Nat.add_zero] at h0
  simp only [w2, h0, h1]
theorem getC_congr {t : Bool} {A B : List Int} {o p : Nat} (h : ∀ i, i < 16 → A.getD (o + i) 0 = B.getD (p + i) 0) : getC t A o = getC t B p := by
  have e : ∀ j k : Nat, j + k ≤ 16 → ∀ i, i < k → A.getD (o + j + i) 0 = B.getD (p + j + i) 0 := fun j k hj i hi => by
    rw [Nat.add_assoc, Nat.add_assoc]; exact h (j + i) (by omega)
  unfold getC
  rw [w4_congr (h := fun i hi => h i (by omega)), w4_congr (h := e 4 4 (by omega)), w4_congr (h := e 8 4 (by omega)), w2_congr (h := e 12 2 (by omega)), w2_congr (h := e 14 2 (by omega))]
theorem getC_ldB {t : Bool} {B : List Int} {a : Int} : getC t (ldB B a 16) 0 = getC t B a.toNat :=
  getC_congr fun i hi => by rw [Nat.zero_add]; exact getD_ldB i hi
theorem getC_capB {c : Cp} (h : c.Ok) : getC c.tag (capB c) 0 = c := by
  obtain ⟨t, b, tp, a, p, y⟩ := c
  obtain ⟨h0, h1, h2, h3, h4, h5, h6, h7, h8, h9⟩ := h
  simp only at h0 h1 h2 h3 h4 h5 h6 h7 h8 h9
  have e : capB ⟨t, b, tp, a, p, y⟩ = [b % 256, b / 256 % 256, b / 65536 % 256, b / 16777216 % 256, tp % 256, tp / 256 % 256, tp / 65536 % 256, tp / 16777216 % 256, a % 256, a / 256 % 256, a / 65536 % 256, a / 16777216 % 256, p % 256, p / 256 % 256, y % 256, y / 256 % 256] := rfl
  simp only [e, getC, w4, w2, List.getD_cons_succ, List.getD_cons_zero]
  congr 1 <;> omega
theorem getC_ok {t : Bool} {B : List Int} (h : Bs B) (o : Nat) : (getC t B o).Ok := by
  have := fun i => h.getD i
  constructor <;> simp only [getC, w4, w2]
  all_goals
    have a0 := this o; have a1 := this (o + 1); have a2 := this (o + 2); have a3 := this (o + 3)
    have b0 := this (o + 4); have b1 := this (o + 4 + 1); have b2 := this (o + 4 + 2); have b3 := this (o + 4 + 3)
    have c0 := this (o + 8); have c1 := this (o + 8 + 1); have c2 := this (o + 8 + 2); have c3 := this (o + 8 + 3)
    have d0 := this (o + 12); have d1 := this (o + 12 + 1); have e0 := this (o + 14); have e1 := this (o + 14 + 1)
    omega
theorem or4 {a b c d : Int} (ha : 0 ≤ a ∧ a < 256) (hb : 0 ≤ b ∧ b < 256) (hc : 0 ≤ c ∧ c < 256) (hd : 0 ≤ d ∧ d < 256) :
    (Am.bitsI .or .u32 (Am.bitsI .or .u32 (Am.bitsI .or .u32 (Am.bitsI .or .u32 (0 : Int) (IntKind.wrap .u32 (IntKind.wrap .u32 a * 1))) (IntKind.wrap .u32 (IntKind.wrap .u32 b * 256))) (IntKind.wrap .u32 (IntKind.wrap .u32 c * 65536))) (IntKind.wrap .u32 (IntKind.wrap .u32 d * 16777216))) = a + b * 256 + c * 65536 + d * 16777216 := by
  simp only [bitsI_or, wrU32]
  rw [Int.emod_eq_of_lt ha.1 (by omega), Int.emod_eq_of_lt hb.1 (by omega), Int.emod_eq_of_lt hc.1 (by omega), Int.emod_eq_of_lt hd.1 (by omega), Int.emod_eq_of_lt (a := a * 1) (by omega) (by omega), Int.emod_eq_of_lt (a := b * 256) (by omega) (by omega), Int.emod_eq_of_lt (a := c * 65536) (by omega) (by omega), Int.emod_eq_of_lt (a := d * 16777216) (by omega) (by omega)]
  have e0 : bits .or .u32 0 (a * 1) = a := by rw [u32_or 0 (a * 1) (by omega) (by omega) (by omega) (by omega)]; simp; omega
  rw [e0, u32_or8 a _ ha.1 ha.2 (by omega) (by omega) (by omega), u32_or16 (a + b * 256) (c * 65536) (by omega) (by omega) (by omega) (by omega) (by omega), u32_or24 (a + b * 256 + c * 65536) (d * 16777216) (by omega) (by omega) (by omega) (by omega) (by omega)]
theorem or2 {a b : Int} (ha : 0 ≤ a ∧ a < 256) (hb : 0 ≤ b ∧ b < 256) :
    (Am.bitsI .or .u32 (Am.bitsI .or .u32 (0 : Int) (IntKind.wrap .u32 (IntKind.wrap .u32 a * 1))) (IntKind.wrap .u32 (IntKind.wrap .u32 b * 256))) = a + b * 256 := by
  simp only [bitsI_or, wrU32]
  rw [Int.emod_eq_of_lt ha.1 (by omega), Int.emod_eq_of_lt hb.1 (by omega), Int.emod_eq_of_lt (a := a * 1) (by omega) (by omega), Int.emod_eq_of_lt (a := b * 256) (by omega) (by omega)]
  have e0 : bits .or .u32 0 (a * 1) = a := by rw [u32_or 0 (a * 1) (by omega) (by omega) (by omega) (by omega)]; simp; omega
  rw [e0, u32_or8 a _ ha.1 ha.2 (by omega) (by omega) (by omega)]
theorem or2w {a b : Int} (ha : 0 ≤ a ∧ a < 256) (hb : 0 ≤ b ∧ b < 256) :
    IntKind.wrap .u16 (Am.bitsI .or .u32 (Am.bitsI .or .u32 (0 : Int) (IntKind.wrap .u32 (IntKind.wrap .u32 a * 1))) (IntKind.wrap .u32 (IntKind.wrap .u32 b * 256))) = a + b * 256 := by
  rw [or2 ha hb, wrU16]; omega
theorem u8f1 (v : Int) : IntKind.wrap .u8 (Int.fdiv v 1) = v % 256 := by rw [wrU8, Int.fdiv_eq_ediv_of_nonneg _ (by omega), Int.ediv_one]
theorem u8f2 (v : Int) : IntKind.wrap .u8 (Int.fdiv v 256) = v / 256 % 256 := by rw [wrU8, Int.fdiv_eq_ediv_of_nonneg _ (by omega)]
theorem u8f3 (v : Int) : IntKind.wrap .u8 (Int.fdiv v 65536) = v / 65536 % 256 := by rw [wrU8, Int.fdiv_eq_ediv_of_nonneg _ (by omega)]
theorem u8f4 (v : Int) : IntKind.wrap .u8 (Int.fdiv v 16777216) = v / 16777216 % 256 := by rw [wrU8, Int.fdiv_eq_ediv_of_nonneg _ (by omega)]
theorem get4_w4 {B : List Int} {o : Nat} (h : Bs B) (ho : o + 4 ≤ B.length) : get4 (B.map (AV.int .u8)) o = w4 B o := by
  unfold get4
  rw [getD_ints (by omega), getD_ints (by omega), getD_ints (by omega), getD_ints (by omega)]
  exact or4 (h.getD _) (h.getD _) (h.getD _) (h.getD _)
theorem get2_w2 {B : List Int} {o : Nat} (h : Bs B) (ho : o + 2 ≤ B.length) : get2 (B.map (AV.int .u8)) o = w2 B o := by
  unfold get2
  rw [getD_ints (by omega), getD_ints (by omega)]
  exact or2 (h.getD _) (h.getD _)
theorem putAt_eq (l : List AV) : ∀ (o : Nat) (vs : List AV), o + vs.length ≤ l.length → putAt l o vs = l.take o ++ (vs ++ l.drop (o + vs.length)) := by
  intro o vs h
  apply List.ext_getElem?
  intro i
  have e := getD_putAt l o vs i h
  have hl : (putAt l o vs).length = l.length := length_putAt _ _ _
  by_cases hi : i < l.length
  · rw [List.getD_eq_getElem?_getD, List.getElem?_eq_getElem (by omega), Option.getD_some] at e
    rw [List.getElem?_eq_getElem (by omega), e]
    simp only [List.getElem?_append, List.length_take, List.getElem?_take, List.getElem?_drop]
    by_cases h1 : i < o
    · rw [if_neg (by omega), if_pos (by omega), if_pos h1, List.getD_eq_getElem?_getD, List.getElem?_eq_getElem hi]; rfl
    · by_cases h2 : i < o + vs.length
      · rw [if_pos (by omega), if_neg (by omega), if_pos (by omega), Nat.min_eq_left (by omega), List.getD_eq_getElem?_getD, List.getElem?_eq_getElem (by omega)]; rfl
      · rw [if_neg (by omega), if_neg (by omega), if_neg (by omega), Nat.min_eq_left (by omega), show o + vs.length + (i - o - vs.length) = i by omega, List.getD_eq_getElem?_getD, List.getElem?_eq_getElem hi]; rfl
  · rw [List.getElem?_eq_none (by omega), List.getElem?_eq_none (by simp; omega)]
theorem putAt_stB {B bs : List Int} {a : Int} (h : a.toNat + bs.length ≤ B.length) : putAt (B.map (AV.int .u8)) a.toNat (bs.map (AV.int .u8)) = (stB B a bs).map (AV.int .u8) := by
  rw [putAt_eq _ _ _ (by simpa using h)]
  simp [stB, List.map_append, List.map_take, List.map_drop]
theorem rep_mz (n : Nat) : rep n [AV.int .u8 0] = (mz n).map (AV.int .u8) := by rw [rep_one]; simp [mz]
theorem rep_mf (n : Nat) : rep n [AV.bool false] = (mf n).map AV.bool := by rw [rep_one]; simp [mf]
theorem putAt_clT {T : List Bool} {lo hi : Nat} (h : hi ≤ T.length) (h2 : lo ≤ hi) : putAt (T.map AV.bool) lo (rep (hi - lo) [AV.bool false]) = (clT T lo hi).map AV.bool := by
  rw [rep_one, putAt_eq _ _ _ (by simp; omega)]
  simp [clT, List.map_append, List.map_take, List.map_drop]
theorem putAt_puT {T : List Bool} {k : Nat} (t : Bool) (h : k < T.length) : putAt (T.map AV.bool) k [AV.bool t] = (T.set k t).map AV.bool := by
  rw [putAt_eq _ _ _ (by simp; omega), List.set_eq_take_append_cons_drop, if_pos h]
  simp [List.map_append, List.map_take, List.map_drop]
theorem tdiv16 {a : Int} (h : 0 ≤ a) : (IntKind.wrap .i64 (Int.tdiv a 16)).toNat = a.toNat / 16 ∨ 147573952589676412912 ≤ a := by
  rw [Int.tdiv_eq_ediv_of_nonneg h, wrapI64]; omega
/-- Where granules with tags begin, from granule k on. -/
def tagsFrom : Nat → List Bool → List Int
  | _, [] => []
  | k, t :: T => if t then ((16 * k : Nat) : Int) :: tagsFrom (k + 1) T else tagsFrom (k + 1) T
def tagsOf (T : List Bool) : List Int := tagsFrom 0 T
theorem map_take_drop (B : List Int) (f : Int → AV) (a k : Nat) : ((B.map f).drop a).take k = ((B.drop a).take k).map f := by simp
/-- A memory of n bytes, m granules. -/
structure MOk (B : List Int) (T : List Bool) (n m : Nat) : Prop where
  b : B.length = n
  t : T.length = m
  nm : n = 16 * m
  le : n ≤ 65536
  bs : Bs B
theorem MOk.new {n : Nat} (h : n ≤ 65536) (h2 : n % 16 = 0) : MOk (mz n) (mf (n / 16)) n (n / 16) := ⟨length_mz n, length_mf _, by omega, h, Bs.mz n⟩
theorem MOk.store {B : List Int} {T : List Bool} {n m : Nat} (h : MOk B T n m) {a : Int} {bs : List Int} (hs : spanOk n a (Int.ofNat bs.length) = true) (hb : Bs bs) : MOk (stB B a bs) (stT T a bs.length) n m := by
  obtain ⟨s1, s2, s3⟩ := spanOk_iff.1 hs
  have hbl := h.b; have htl := h.t; have hnm := h.nm
  have s3' : a + (bs.length : Int) ≤ n := s3
  exact ⟨(length_stB (by omega)).trans h.b, (length_stT (by omega)).trans h.t, h.nm, h.le, h.bs.stB hb⟩
theorem MOk.storeCap {B : List Int} {T : List Bool} {n m : Nat} (h : MOk B T n m) {a : Int} {bs : List Int} {t : Bool} (hs : spanOk n a 16 = true) (hl : bs.length = 16) (hb : Bs bs) : MOk (stB B a bs) (puT T a t) n m := by
  obtain ⟨s1, s2, s3⟩ := spanOk_iff.1 hs
  have hbl := h.b
  exact ⟨(length_stB (by omega)).trans h.b, (length_puT _ _ _).trans h.t, h.nm, h.le, h.bs.stB hb⟩
def newOk (n : Int) : Bool := decide (16 ≤ n) && (decide (n ≤ 65536) && decide (n % 16 = 0))
theorem newOk_iff {n : Int} : newOk n = true ↔ 16 ≤ n ∧ n ≤ 65536 ∧ n % 16 = 0 := by simp [newOk]
def newIn (n : Int) : Bool := decide (16 ≤ n) && decide (n ≤ 65536)
theorem newIn_iff {n : Int} : newIn n = true ↔ 16 ≤ n ∧ n ≤ 65536 := by simp [newIn]
theorem newIn_not {n : Int} : newIn n = false ↔ ¬ (16 ≤ n ∧ n ≤ 65536) := by rw [← newIn_iff]; cases newIn n <;> simp
def newAl (n : Int) : Bool := decide (n % 16 = 0)
theorem newAl_iff {n : Int} : newAl n = true ↔ n % 16 = 0 := by simp [newAl]
theorem newAl_not {n : Int} : newAl n = false ↔ ¬ n % 16 = 0 := by simp [newAl]
theorem gran_ix {B : List Int} {T : List Bool} {n m : Nat} {a : Int} (hM : MOk B T n m) (hs : spanOk n a 16 = true) : (IntKind.wrap .i64 (Int.tdiv a 16)).toNat = a.toNat / 16 ∧ a.toNat / 16 < T.length := by
  obtain ⟨s1, s2, s3⟩ := spanOk_iff.1 hs
  have hb := hM.b; have ht := hM.t; have hn := hM.nm; have hl := hM.le
  rw [Int.tdiv_eq_ediv_of_nonneg s1, wrapI64]
  omega
theorem asBool_ldT {B : List Int} {T : List Bool} {n m : Nat} {a : Int} (hM : MOk B T n m) (hs : spanOk n a 16 = true) : Am.asBool ((T.map AV.bool).getD (0 + (IntKind.wrap .i64 (Int.tdiv a 16)).toNat * 1) .any) = ldT T a := by
  obtain ⟨e1, e2⟩ := gran_ix hM hs
  rw [Nat.zero_add, Nat.mul_one, e1, getD_bools e2]; rfl
theorem stB_cap {B : List Int} {T : List Bool} {n m : Nat} {a : Int} {c : Cp} {l : List AV} (hM : MOk B T n m) (hs : spanOk n a 16 = true) (hl : l = (capB c).map (AV.int .u8)) : ({ cells := putAt (B.map (AV.int .u8)) a.toNat l, elem := 5, wr := true } : ABlk) = { cells := (stB B a (capB c)).map (AV.int .u8), elem := 5, wr := true } := by
  obtain ⟨s1, s2, s3⟩ := spanOk_iff.1 hs
  have hb := hM.b
  rw [hl, putAt_stB (by rw [length_capB]; omega)]
theorem puT_cap {B : List Int} {T : List Bool} {n m : Nat} {a : Int} {t : Bool} (hM : MOk B T n m) (hs : spanOk n a 16 = true) : ({ cells := putAt (T.map AV.bool) (0 + (IntKind.wrap .i64 (Int.tdiv a 16)).toNat * 1) [AV.bool t], elem := 4, wr := true } : ABlk) = { cells := (puT T a t).map AV.bool, elem := 4, wr := true } := by
  obtain ⟨e1, e2⟩ := gran_ix hM hs
  rw [Nat.zero_add, Nat.mul_one, e1, putAt_puT t e2]; rfl
theorem stB_store {B xs : List Int} {T : List Bool} {n m k : Nat} {a : Int} (hM : MOk B T n m) (hk : xs.length = k) (hs : spanOk n a (Int.ofNat k) = true) {l : List AV} (hl : l = xs.map (AV.int .u8)) : ({ cells := putAt (B.map (AV.int .u8)) a.toNat l, elem := 5, wr := true } : ABlk) = { cells := (stB B a xs).map (AV.int .u8), elem := 5, wr := true } := by
  obtain ⟨s1, s2, s3⟩ := spanOk_iff.1 hs
  have hb := hM.b
  have s3' : a + (k : Int) ≤ n := s3
  rw [hl, putAt_stB (by omega)]
theorem st_lo {n : Nat} {a k : Int} (hn : n ≤ 65536) (hs : spanOk n a k = true) : IntKind.wrap .i64 (Int.tdiv a 16) = ((a.toNat / 16 : Nat) : Int) := by
  obtain ⟨s1, s2, s3⟩ := spanOk_iff.1 hs
  rw [Int.tdiv_eq_ediv_of_nonneg s1, wrapI64]; omega
theorem st_hi {n k : Nat} {a : Int} (hn : n ≤ 65536) (hs : spanOk n a (Int.ofNat k) = true) (hk : 0 < k) :
    IntKind.wrap .i64 (IntKind.wrap .i64 (Int.tdiv (IntKind.wrap .i64 (IntKind.wrap .i64 (a + Int.ofNat k) - 1)) 16) + 1) = (((a.toNat + k - 1) / 16 + 1 : Nat) : Int) := by
  obtain ⟨s1, s2, s3⟩ := spanOk_iff.1 hs
  have e0 : IntKind.wrap .i64 (a + Int.ofNat k) = a + k := by rw [wrapI64]; simp only [Int.ofNat_eq_natCast] at *; omega
  have e1 : IntKind.wrap .i64 (a + (k : Int) - 1) = a + k - 1 := by rw [wrapI64]; simp only [Int.ofNat_eq_natCast] at *; omega
  rw [e0, e1, Int.tdiv_eq_ediv_of_nonneg (by omega)]
  have e2 : IntKind.wrap .i64 ((a + (k : Int) - 1) / 16) = (a + k - 1) / 16 := by rw [wrapI64]; simp only [Int.ofNat_eq_natCast] at *; omega
  rw [e2, wrapI64]; simp only [Int.ofNat_eq_natCast] at *; omega
theorem one_ints (l : List Int) (k : IntKind) : ∀ x, x ∈ l.map (AV.int k) → Am.one x = true := fun x hx => by
  obtain ⟨y, _, rfl⟩ := List.mem_map.1 hx; rfl
theorem one_rep (n : Nat) (b : Bool) : ∀ x, x ∈ rep n [AV.bool b] → Am.one x = true := fun x hx => by
  rw [rep_one] at hx; rw [(List.mem_replicate.1 hx).2]; rfl
theorem take_all {l : List AV} {n : Nat} (h : l.length ≤ n) : l.take n = l := List.take_of_length_le h
theorem stSrc {xs : List Int} {k : Nat} (hk : xs.length = k) : List.take (k.min (Int.ofNat k).toNat * 1) (List.take (k * 1) (List.drop 0 (xs.map (AV.int .u8)))) = xs.map (AV.int .u8) := by
  subst hk
  rw [List.drop_zero, take_all (by simp), take_all (by simp [Nat.min_def])]
theorem stT_store {B : List Int} {T : List Bool} {n m k : Nat} {a : Int} (hM : MOk B T n m) (hs : spanOk n a (Int.ofNat k) = true) (hk : 0 < k) :
    ({ cells := putAt (T.map AV.bool) (0 + (IntKind.wrap .i64 (Int.tdiv a 16)).toNat * 1) (rep ((IntKind.wrap .i64 (IntKind.wrap .i64 (Int.tdiv (IntKind.wrap .i64 (IntKind.wrap .i64 (a + Int.ofNat k) - 1)) 16) + 1)).toNat - (IntKind.wrap .i64 (Int.tdiv a 16)).toNat) [AV.bool false]), elem := 4, wr := true } : ABlk) = { cells := (stT T a k).map AV.bool, elem := 4, wr := true } := by
  rw [st_lo hM.le hs, st_hi hM.le hs hk]
  obtain ⟨s1, s2, s3⟩ := spanOk_iff.1 hs
  have hnm := hM.nm; have ht := hM.t
  simp only [Int.toNat_natCast, Nat.zero_add, Nat.mul_one]
  rw [putAt_clT (by simp only [Int.ofNat_eq_natCast] at *; omega) (by omega), stT, if_neg (by omega)]
theorem putG_all {l v : List Int} (h : v.length = l.length) : Am.putG l 0 v = v := by
  have e := Am.map_putG (AV.int .u8) l 0 v
  rw [putAt_eq _ _ _ (by simp; omega)] at e
  simp only [List.take_zero, List.nil_append, Nat.zero_add, List.length_map, h] at e
  rw [List.drop_of_length_le (by simp), List.append_nil] at e
  exact (List.map_inj_right (fun a b h => by injection h)).1 e
theorem tagsFrom_app (T U : List Bool) : ∀ k, tagsFrom k (T ++ U) = tagsFrom k T ++ tagsFrom (k + T.length) U := by
  induction T with
  | nil => intro k; rfl
  | cons t T ih =>
    intro k
    have e : k + 1 + T.length = k + (t :: T).length := by simp; omega
    cases t <;> simp [tagsFrom, ih, e]
theorem tagsOf_succ (T : List Bool) {i : Nat} (h : i < T.length) : tagsOf (T.take (i + 1)) = tagsOf (T.take i) ++ (if T.getD i false then [((16 * i : Nat) : Int)] else []) := by
  unfold tagsOf
  rw [List.take_add_one, List.getElem?_eq_getElem h, tagsFrom_app, List.getD_eq_getElem?_getD, List.getElem?_eq_getElem h]
  have e : 0 + (T.take i).length = i := by simp; omega
  rw [e]
  cases T[i] <;> simp [tagsFrom]
theorem asBool_at {T : List Bool} {i : Nat} (h : i < T.length) : Am.asBool ((T.map AV.bool).getD i .any) = T.getD i false := by
  rw [getD_bools h]; rfl
theorem tags_yes {T : List Bool} {i : Nat} (h : i < T.length) (ht : Am.asBool ((T.map AV.bool).getD i .any) = true) : tagsOf (T.take (i + 1)) = tagsOf (T.take i) ++ [((16 * i : Nat) : Int)] := by
  rw [asBool_at h] at ht; rw [tagsOf_succ T h, ht]; rfl
theorem tags_no {T : List Bool} {i : Nat} (h : i < T.length) (ht : Am.asBool ((T.map AV.bool).getD i .any) = false) : tagsOf (T.take (i + 1)) = tagsOf (T.take i) := by
  rw [asBool_at h] at ht; rw [tagsOf_succ T h, ht]; simp
theorem length_tagsFrom (T : List Bool) : ∀ k, (tagsFrom k T).length ≤ T.length := by
  induction T with
  | nil => intro k; exact Nat.le_refl _
  | cons t T ih =>
    intro k
    have := ih (k + 1)
    cases t <;> simp [tagsFrom] <;> omega
theorem length_tagsOf (T : List Bool) : (tagsOf T).length ≤ T.length := length_tagsFrom T 0
theorem incI {i m : Nat} (h : decide (Int.ofNat i < Int.ofNat m) = true) (hm : m ≤ 65536) : AV.int .i64 (IntKind.wrap .i64 (Int.ofNat i + 1)) = AV.int .i64 (Int.ofNat (i + 1)) := by
  have h := of_decide_eq_true h
  simp only [Int.ofNat_eq_natCast] at h
  congr 1; rw [wrapI64]; simp only [Int.ofNat_eq_natCast]; omega
theorem MOk.m_le {B : List Int} {T : List Bool} {n m : Nat} (h : MOk B T n m) : m ≤ 65536 := by have := h.nm; have := h.le; omega
theorem strOf_ne {B C : List Int} (hB : Bs B) (hC : Bs C) (h : (B == C) = false) : ((Am.strOf (B.map (AV.int .u8))).toList == (Am.strOf (C.map (AV.int .u8))).toList) = false := by
  cases e : ((Am.strOf (B.map (AV.int .u8))).toList == (Am.strOf (C.map (AV.int .u8))).toList) with
  | false => rfl
  | true =>
    exfalso
    have e := eq_of_beq e
    simp only [Am.strOf, ByteArray.toList_mk, List.map_map] at e
    have key : ∀ (B C : List Int), Bs B → Bs C → B.map ((fun v => UInt8.ofNat (Am.asInt v).toNat) ∘ AV.int .u8) = C.map ((fun v => UInt8.ofNat (Am.asInt v).toNat) ∘ AV.int .u8) → B = C := by
      intro B
      induction B with
      | nil => intro C _ _ h; cases C with
        | nil => rfl
        | cons c C => simp at h
      | cons b B ih =>
        intro C hB hC h
        cases C with
        | nil => simp at h
        | cons c C =>
          simp only [List.map_cons, List.cons.injEq] at h
          have h1 := hB b (List.mem_cons_self ..)
          have h2 := hC c (List.mem_cons_self ..)
          have h3 : UInt8.ofNat b.toNat = UInt8.ofNat c.toNat := h.1
          have h4 := congrArg UInt8.toNat h3
          simp only [UInt8.toNat_ofNat'] at h4
          rw [ih C (fun x hx => hB x (List.mem_cons_of_mem _ hx)) (fun x hx => hC x (List.mem_cons_of_mem _ hx)) h.2]
          congr 1; omega
    rw [key B C hB hC e, beq_self_eq_true] at h
    cases h
theorem srcAll {B : List Int} {n : Nat} (h : B.length = n) : List.take (n * 1) (List.drop 0 (B.map (AV.int .u8))) = B.map (AV.int .u8) := by
  rw [List.drop_zero, List.take_of_length_le (by simp; omega)]
/-- A memory where capabilities were stored, granule by granule. -/
def fillB (n : Nat) (f : Nat → Cp) : Nat → List Int
  | 0 => mz n
  | i + 1 => stB (fillB n f i) ((16 * i : Nat) : Int) (capB (f i))
def fillT (n : Nat) (f : Nat → Cp) : Nat → List Bool
  | 0 => mf (n / 16)
  | i + 1 => puT (fillT n f i) ((16 * i : Nat) : Int) (f i).tag
theorem w16 {i : Nat} (h : i ≤ 65536) : IntKind.wrap .i64 (16 * Int.ofNat i) = ((16 * i : Nat) : Int) := by
  rw [wrapI64]; simp only [Int.ofNat_eq_natCast]; omega
theorem al16 {i : Nat} (h : i ≤ 65536) : (Int.tmod (IntKind.wrap .i64 (16 * Int.ofNat i)) 16 != 0) = false := by
  rw [w16 h, Int.tmod_eq_emod_of_nonneg (by omega)]; simp
theorem sp16 {n i : Nat} (h : 16 * i + 16 ≤ n) (hn : n ≤ 65536) : spanOk n (IntKind.wrap .i64 (16 * Int.ofNat i)) 16 = true := by
  rw [w16 (by omega)]; exact spanOk_iff.2 (by omega)
theorem sp16' {n i : Nat} (h : 16 * i + 16 ≤ n) : spanOk n ((16 * i : Nat) : Int) 16 = true := spanOk_iff.2 (by omega)
theorem fill_ok {n : Nat} {f : Nat → Cp} (hn : n ≤ 65536) (h16 : n % 16 = 0) : ∀ i, 16 * i ≤ n → MOk (fillB n f i) (fillT n f i) n (n / 16)
  | 0, _ => MOk.new hn h16
  | i + 1, h => (fill_ok hn h16 i (by omega)).storeCap (sp16' (by omega)) (length_capB _) (Bs.capB _)
theorem ldT_16 (T : List Bool) (i : Nat) : ldT T ((16 * i : Nat) : Int) = T.getD i false := by
  unfold ldT; rw [show ((16 * i : Nat) : Int).toNat / 16 = i by omega]
theorem fill_get {n : Nat} {f : Nat → Cp} (hn : n ≤ 65536) (h16 : n % 16 = 0) (hf : ∀ i, (f i).Ok) : ∀ k, 16 * k ≤ n → ∀ i, i < k → getC (ldT (fillT n f k) ((16 * i : Nat) : Int)) (fillB n f k) (16 * i) = f i
  | 0, _, i, h => by omega
  | k + 1, hk, i, hi => by
    have hM := fill_ok (f := f) hn h16 k (by omega)
    have hb := hM.b; have ht := hM.t
    have e1 : ∀ j, (fillB n f (k + 1)).getD j 0 = if 16 * k ≤ j ∧ j < 16 * k + 16 then (capB (f k)).getD (j - 16 * k) 0 else (fillB n f k).getD j 0 := fun j => by
      have e := getD_stB (B := fillB n f k) (bs := capB (f k)) (a := ((16 * k : Nat) : Int)) (by rw [length_capB]; omega) j
      rw [length_capB, show ((16 * k : Nat) : Int).toNat = 16 * k by omega] at e
      exact e
    have e2 : ldT (fillT n f (k + 1)) ((16 * i : Nat) : Int) = if i = k then (f k).tag else ldT (fillT n f k) ((16 * i : Nat) : Int) := by
      rw [ldT_16, ldT_16]
      have e := getD_puT (T := fillT n f k) (a := ((16 * k : Nat) : Int)) (f k).tag (by omega) i
      rw [show (((16 * k : Nat) : Int).toNat / 16) = k by omega] at e
      exact e
    by_cases h : i = k
    · subst h
      rw [e2, if_pos rfl]
      refine (getC_congr (p := 0) (B := capB (f i)) fun j hj => ?_).trans (getC_capB (hf i))
      rw [e1, if_pos (by omega)]; congr 1; omega
    · rw [e2, if_neg h]
      refine (getC_congr fun j hj => ?_).trans (fill_get hn h16 hf k (by omega) i (by omega))
      rw [e1, if_neg (by omega)]
/-- What is read of a granule behind a store of bytes elsewhere. -/
theorem get_off {B : List Int} {T : List Bool} {n m k : Nat} {a : Int} {bs : List Int} (hM : MOk B T n m) (hs : spanOk n a (Int.ofNat k) = true) (hk : bs.length = k) {i : Nat} (hd : 16 * i + 16 ≤ a.toNat ∨ a.toNat + k ≤ 16 * i) :
    getC (ldT (stT T a k) ((16 * i : Nat) : Int)) (stB B a bs) (16 * i) = getC (ldT T ((16 * i : Nat) : Int)) B (16 * i) := by
  obtain ⟨s1, s2, s3⟩ := spanOk_iff.1 hs
  have hb := hM.b; have ht := hM.t; have hnm := hM.nm
  have s3' : a + (k : Int) ≤ n := s3
  rw [ldT_16, ldT_16, getD_stT (by omega), if_neg (by omega)]
  exact getC_congr fun j hj => by rw [getD_stB (by omega), if_neg (by omega)]
/-- Noughts laid over a granule. -/
theorem get_on {B : List Int} {T : List Bool} {n m k : Nat} {a : Int} (hM : MOk B T n m) (hs : spanOk n a (Int.ofNat k) = true) {i : Nat} (h1 : a.toNat ≤ 16 * i) (h2 : 16 * i + 16 ≤ a.toNat + k) :
    getC (ldT (stT T a k) ((16 * i : Nat) : Int)) (stB B a (mz k)) (16 * i) = ⟨false, 0, 0, 0, 0, 0⟩ := by
  obtain ⟨s1, s2, s3⟩ := spanOk_iff.1 hs
  have hb := hM.b; have ht := hM.t; have hnm := hM.nm
  have s3' : a + (k : Int) ≤ n := s3
  rw [ldT_16, getD_stT (by omega), if_pos (by omega)]
  have e : ∀ j, j < 16 → (stB B a (mz k)).getD (16 * i + j) 0 = 0 := fun j hj => by
    rw [getD_stB (by rw [length_mz]; omega), if_pos (by rw [length_mz]; omega), getD_mz]
  have e2 : ∀ j, j < 16 → (stB B a (mz k)).getD (16 * i + j) 0 = (mz 16).getD (0 + j) 0 := fun j hj => by rw [e j hj, getD_mz]
  rw [getC_congr e2]; rfl
theorem getC_fields {t : Bool} {B : List Int} {o : Nat} {c : Cp} (h : getC t B o = c) : t = c.tag ∧ w4 B o = c.base ∧ w4 B (o + 4) = c.top ∧ w4 B (o + 8) = c.addr ∧ w2 B (o + 12) = c.perm ∧ w2 B (o + 14) = c.typ := by
  subst h; exact ⟨rfl, rfl, rfl, rfl, rfl, rfl⟩
theorem fillB_succ {n i : Nat} {f : Nat → Cp} (h : i ≤ 65536) : stB (fillB n f i) (IntKind.wrap .i64 (16 * Int.ofNat i)) (capB (f i)) = fillB n f (i + 1) := by rw [w16 h, fillB]
theorem fillT_succ {n i : Nat} {f : Nat → Cp} (h : i ≤ 65536) : puT (fillT n f i) (IntKind.wrap .i64 (16 * Int.ofNat i)) (f i).tag = fillT n f (i + 1) := by rw [w16 h, fillT]
/-- What lies in a granule behind a Zero of whole granules. -/
def zeroIn (B : List Int) (T : List Bool) (c : Cp) (A K : Int) : Prop := ∀ i : Nat, i < 32 → ((A ≤ ((16 * i : Nat) : Int) ∧ ((16 * i : Nat) : Int) < A + K) ∧ getC (ldT T ((16 * i : Nat) : Int)) B (16 * i) = ⟨false, 0, 0, 0, 0, 0⟩) ∨ (¬ (A ≤ ((16 * i : Nat) : Int) ∧ ((16 * i : Nat) : Int) < A + K) ∧ getC (ldT T ((16 * i : Nat) : Int)) B (16 * i) = c)
theorem zero_in {c : Cp} (hc : c.Ok) {A K : Int} (hA : 0 ≤ A ∧ A ≤ 240 ∧ A % 16 = 0) (hK : 0 ≤ K ∧ K ≤ 240 ∧ K % 16 = 0) : zeroIn (stB (fillB 512 (fun _ => c) 32) A (mz K.toNat)) (stT (fillT 512 (fun _ => c) 32) A K.toNat) c A K := by
  intro i hi
  have hM := fill_ok (n := 512) (f := fun _ => c) (by decide) (by decide) 32 (by decide)
  have hs : spanOk 512 A (Int.ofNat K.toNat) = true := spanOk_iff.2 (by simp only [Int.ofNat_eq_natCast]; omega)
  by_cases h : A ≤ ((16 * i : Nat) : Int) ∧ ((16 * i : Nat) : Int) < A + K
  · exact .inl ⟨h, get_on hM hs (by omega) (by omega)⟩
  · exact .inr ⟨h, (get_off hM hs (length_mz _) (by omega)).trans (fill_get (by decide) (by decide) (fun _ => hc) 32 (by decide) i hi)⟩
theorem zero_ok {c : Cp} {A K : Int} (hA : 0 ≤ A ∧ A ≤ 240 ∧ A % 16 = 0) (hK : 0 ≤ K ∧ K ≤ 240 ∧ K % 16 = 0) : MOk (stB (fillB 512 (fun _ => c) 32) A (mz K.toNat)) (stT (fillT 512 (fun _ => c) 32) A K.toNat) 512 32 := by
  have h := (fill_ok (n := 512) (f := fun _ => c) (by decide) (by decide) 32 (by decide)).store (a := A) (bs := mz K.toNat) (by rw [length_mz]; exact spanOk_iff.2 (by simp only [Int.ofNat_eq_natCast]; omega)) (Bs.mz _)
  rwa [length_mz] at h
theorem mod16w {x : Int} (h0 : 0 ≤ x) (h1 : x < 256) : 0 ≤ IntKind.wrap .i64 (16 * IntKind.wrap .i64 (Int.tmod x 16)) ∧ IntKind.wrap .i64 (16 * IntKind.wrap .i64 (Int.tmod x 16)) ≤ 240 ∧ IntKind.wrap .i64 (16 * IntKind.wrap .i64 (Int.tmod x 16)) % 16 = 0 := by
  rw [Int.tmod_eq_emod_of_nonneg h0, wrapI64, wrapI64]; omega
theorem zero_sp {A K : Int} (hA : 0 ≤ A ∧ A ≤ 240 ∧ A % 16 = 0) (hK : 0 ≤ K ∧ K ≤ 240 ∧ K % 16 = 0) : spanOk 512 A K = true := spanOk_iff.2 (by omega)
theorem fill_okm {n m : Nat} {f : Nat → Cp} (i : Nat) (hn : n ≤ 65536) (h16 : n % 16 = 0) (hm : m = n / 16) (h : 16 * i ≤ n) : MOk (fillB n f i) (fillT n f i) n m := hm ▸ fill_ok hn h16 i h
/-- The roots of MemTags. -/
def rootF (i : Nat) : Cp := ⟨true, 0, (i : Int) % 4294967296, 0, 127, 0⟩
theorem rootF_ok (i : Nat) : (rootF i).Ok := by constructor <;> simp only [rootF] <;> omega
theorem rootF_w {i : Nat} (h : i ≤ 65536) : (⟨true, 0, IntKind.wrap .u32 (Int.ofNat i), 0, 127, 0⟩ : Cp) = rootF i := by
  unfold rootF; rw [wrU32]; rfl
/-- Is a granule hit by k bytes from a on? -/
def hitG (a : Int) (k i : Nat) : Prop := 0 < k ∧ a < ((16 * i : Nat) : Int) + 16 ∧ a + (k : Int) > ((16 * i : Nat) : Int)
def tagsIn (B : List Int) (T : List Bool) (f : Nat → Cp) (a : Int) (k : Nat) : Prop := ∀ i : Nat, i < 16 → (hitG a k i ∧ ldT T ((16 * i : Nat) : Int) = false) ∨ (¬ hitG a k i ∧ (getC (ldT T ((16 * i : Nat) : Int)) B (16 * i) = f i))
theorem tags_in {f : Nat → Cp} (hf : ∀ i, (f i).Ok) {a : Int} {xs : List Int} {k : Nat} (hk : xs.length = k) (hs : spanOk 256 a (Int.ofNat k) = true) : tagsIn (stB (fillB 256 f 16) a xs) (stT (fillT 256 f 16) a k) f a k := by
  intro i hi
  have hM := fill_ok (n := 256) (f := f) (by decide) (by decide) 16 (by decide)
  have ht := hM.t
  obtain ⟨s1, s2, s3⟩ := spanOk_iff.1 hs
  simp only [Int.ofNat_eq_natCast] at s2 s3
  by_cases h : hitG a k i
  · refine .inl ⟨h, ?_⟩
    obtain ⟨h1, h2, h3⟩ := h
    rw [ldT_16, getD_stT (by omega), if_pos (by omega)]
  · refine .inr ⟨h, ?_⟩
    by_cases k0 : k = 0
    · subst k0
      obtain rfl : xs = [] := List.length_eq_zero_iff.1 hk
      have e : stB (fillB 256 f 16) a [] = fillB 256 f 16 := by simp [stB]
      rw [e]; exact fill_get (by decide) (by decide) hf 16 (by decide) i hi
    · refine (get_off hM hs hk ?_).trans (fill_get (by decide) (by decide) hf 16 (by decide) i hi)
      unfold hitG at h; omega
theorem tags_ok {f : Nat → Cp} {a : Int} {xs : List Int} {k : Nat} (hk : xs.length = k) (hb : Bs xs) (hs : spanOk 256 a (Int.ofNat k) = true) : MOk (stB (fillB 256 f 16) a xs) (stT (fillT 256 f 16) a k) 256 16 := by
  subst hk
  exact (fill_ok (n := 256) (f := f) (by decide) (by decide) 16 (by decide)).store hs hb
theorem stSrcL {xs : List Int} {k : Nat} (hk : xs.length = k) : List.take (k.min (Int.ofNat k).toNat * 1) (List.take (k * 1) (List.drop 0 (xs.map (AV.int .u8)))) = xs.map (AV.int .u8) := stSrc hk
theorem wrapU8 {a : Int} (h : 0 ≤ a) (h1 : a < 256) : IntKind.wrap .i64 a = a := by rw [wrapI64]; omega
theorem sp16o {n i : Nat} (h : 16 * i + 16 ≤ n) (hn : n ≤ 65536) : spanOk n (IntKind.wrap .i64 (16 * Int.ofNat i)) 1 = true := by
  rw [w16 (by omega)]; exact spanOk_iff.2 (by omega)
end Go.Proofs.YtplejhefhnmabaaGreatDoor
