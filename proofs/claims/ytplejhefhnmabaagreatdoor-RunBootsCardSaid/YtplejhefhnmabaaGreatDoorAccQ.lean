/- What the document reads and writes through a capability: plain law. -/
import Derived.Test.YtplejhefhnmabaaGreatDoorAccP
import Derived.Test.YtplejhefhnmabaaGreatDoorRefM
import Derived.Test.YtplejhefhnmabaaGreatDoorFilled
import Derived.Test.YtplejhefhnmabaaGreatDoorBnd
namespace Go.Proofs.YtplejhefhnmabaaGreatDoor
open Go.RowKit Am
set_option linter.unusedSimpArgs false
set_option linter.unusedVariables false
theorem ws_get {xs : List Int} {k i : Nat} (h0 : decide (Int.ofNat i < Int.ofNat k) = true) : (xs.map (AV.int .u8)).getD (0 + (Int.ofNat i).toNat * 1) .any = ((xs.take k).map (AV.int .u8)).getD (0 + (Int.ofNat i).toNat * 1) .any := by
  have h := of_decide_eq_true h0
  simp only [Int.ofNat_eq_natCast] at h
  rw [show 0 + (Int.ofNat i).toNat * 1 = i by simp]
  simp only [List.getD_eq_getElem?_getD, List.getElem?_map, List.getElem?_take]
  rw [if_pos (by omega)]
theorem w4_ldB {B : List Int} {a : Int} : w4 (ldB B a 4) 0 = w4 B a.toNat := w4_congr fun i hi => by rw [Nat.zero_add]; exact getD_ldB i hi
theorem w2_ldB {B : List Int} {a : Int} : w2 (ldB B a 2) 0 = w2 B a.toNat := w2_congr fun i hi => by rw [Nat.zero_add]; exact getD_ldB i hi
theorem w1_ldB {B : List Int} {a : Int} : (ldB B a 1).getD 0 0 = B.getD a.toNat 0 := getD_ldB 0 (by decide)
theorem len_ldB {B : List Int} {T : List Bool} {n m : Nat} {a k : Int} (hM : MOk B T n m) (hs : spanOk n a k = true) : (ldB B a k).length = k.toNat := by
  obtain ⟨s1, s2, s3⟩ := spanOk_iff.1 hs
  have hb := hM.b
  exact length_ldB (by omega)
theorem accAlI {c : Cp} {a off p : Int} (h : (accE c (IntKind.wrap .u32 (a + IntKind.wrap .u32 off)) 16 p == 0) = true) : (Int.tmod (IntKind.wrap .i64 (IntKind.wrap .u32 (a + IntKind.wrap .u32 off))) 16 != 0) = false := by rw [plA_i64]; exact accAl h
theorem same_str {B : List Int} {T : List Bool} {n m : Nat} (hM : MOk B T n m) : List.take ((Int.ofNat n).toNat * 1) (List.drop 0 ((ldB B 0 (Int.ofNat n)).map (AV.int .u8))) = List.take (n * 1) (List.drop 0 (B.map (AV.int .u8))) := by
  have hb := hM.b
  have e : ldB B 0 (Int.ofNat n) = B := by simp [ldB, List.take_of_length_le (Nat.le_of_eq hb)]
  rw [e]; simp
theorem u8_map (l : List Int) (k : Nat) : (isU8s (List.take k (List.drop 0 (l.map (AV.int .u8))))).holds := isU8s_holds.2 fun x hx => by
  obtain ⟨y, _, rfl⟩ := List.mem_map.1 (List.mem_of_mem_drop (List.mem_of_mem_take hx))
  exact ⟨y, rfl⟩
theorem u8_len {B : List Int} {T : List Bool} {n m : Nat} (hM : MOk B T n m) : (chkLe (0 + (Int.ofNat n).toNat * 1) ((ldB B 0 (Int.ofNat n)).map (AV.int .u8)).length).holds := by
  have hb := hM.b
  have e : ldB B 0 (Int.ofNat n) = B := by simp [ldB, List.take_of_length_le (Nat.le_of_eq hb)]
  rw [e]; simp only [chkLe_holds, List.length_map, Int.ofNat_eq_natCast]; omega
theorem u8_lenB {B : List Int} {T : List Bool} {n m : Nat} (hM : MOk B T n m) : (chkLe (0 + n * 1) (B.map (AV.int .u8)).length).holds := by
  have hb := hM.b
  simp only [chkLe_holds, List.length_map]; omega
/-- A number read through a capability. -/
def ldK (k : Int) (B : List Int) (o : Nat) (s : Bool) : Int := if k = 1 then ld1 B o s else if k = 2 then ld2 B o s else ld4 B o s
/-- What is there once a number was stored, or not. -/
def okW (c : Cp) (n : Nat) (a k : Int) : Bool := szOk k && ((accE c a k 2 == 0) && spanOk n a k)
def wrB (c : Cp) (n : Nat) (a k v : Int) (B : List Int) : List Int := bif okW c n a k then stB B a (bK k v) else B
def wrT (c : Cp) (n : Nat) (a k : Int) (T : List Bool) : List Bool := bif okW c n a k then stT T a k.toNat else T
def okC (c : Cp) (n : Nat) (a : Int) (t : Bool) : Bool := (accE c a 16 (bif t then 18 else 2) == 0) && spanOk n a 16
def wcB (c : Cp) (n : Nat) (a : Int) (w : Cp) (B : List Int) : List Int := bif okC c n a w.tag then stB B a (capB w) else B
def wcT (c : Cp) (n : Nat) (a : Int) (t : Bool) (T : List Bool) : List Bool := bif okC c n a t then puT T a t else T
section
variable {B : List Int} {T : List Bool} {n m : Nat} {a k v : Int} {c w : Cp} {t : Bool}
theorem wr_ok (h : MOk B T n m) : MOk (wrB c n a k v B) (wrT c n a k T) n m := by
  unfold wrB wrT
  cases ho : okW c n a k with
  | false => exact h
  | true =>
    simp only [okW, Bool.and_eq_true] at ho
    have e := bK_len ho.1 v
    have h2 := h.store (a := a) (bs := bK k v) (by rw [show Int.ofNat (bK k v).length = k from e]; exact ho.2.2) (bK_bs k v)
    rwa [show (bK k v).length = k.toNat by omega] at h2
theorem wr_okY (h : MOk B T n m) (z : szOk k = true) (e : (accE c a k 2 == 0) = true) (s : spanOk n a k = true) : MOk (stB B a (bK k v)) (stT T a k.toNat) n m := by
  have h2 := h.store (a := a) (bs := bK k v) (by rw [show Int.ofNat (bK k v).length = k from bK_len z v]; exact s) (bK_bs k v)
  rwa [show (bK k v).length = k.toNat by have := bK_len z v; omega] at h2
theorem wc_okY (h : MOk B T n m) (s : spanOk n a 16 = true) : MOk (stB B a (capB w)) (puT T a t) n m := h.storeCap s (length_capB _) (Bs.capB _)
theorem wc_ok (h : MOk B T n m) : MOk (wcB c n a w B) (wcT c n a w.tag T) n m := by
  unfold wcB wcT
  cases ho : okC c n a w.tag with
  | false => exact h
  | true =>
    simp only [okC, Bool.and_eq_true] at ho
    exact h.storeCap ho.2 (length_capB _) (Bs.capB _)
theorem wrB_y (z : szOk k = true) (e : (accE c a k 2 == 0) = true) (s : spanOk n a k = true) : stB B a (bK k v) = wrB c n a k v B := by simp only [wrB, okW, z, e, s, Bool.and_self, cond_true]
theorem wrT_y (z : szOk k = true) (e : (accE c a k 2 == 0) = true) (s : spanOk n a k = true) : stT T a k.toNat = wrT c n a k T := by simp only [wrT, okW, z, e, s, Bool.and_self, cond_true]
theorem wrB_z (z : szOk k = false) : B = wrB c n a k v B := by simp only [wrB, okW, z, Bool.false_and, cond_false]
theorem wrT_z (z : szOk k = false) : T = wrT c n a k T := by simp only [wrT, okW, z, Bool.false_and, cond_false]
theorem wrB_e (e : (accE c a k 2 == 0) = false) : B = wrB c n a k v B := by simp only [wrB, okW, e, Bool.false_and, Bool.and_false, cond_false]
theorem wrT_e (e : (accE c a k 2 == 0) = false) : T = wrT c n a k T := by simp only [wrT, okW, e, Bool.false_and, Bool.and_false, cond_false]
theorem wrB_s (s : spanOk n a k = false) : B = wrB c n a k v B := by simp only [wrB, okW, s, Bool.and_false, cond_false]
theorem wrT_s (s : spanOk n a k = false) : T = wrT c n a k T := by simp only [wrT, okW, s, Bool.and_false, cond_false]
theorem wcB_y (e : (accE c a 16 (bif w.tag then 18 else 2) == 0) = true) (s : spanOk n a 16 = true) : stB B a (capB w) = wcB c n a w B := by simp only [wcB, okC, e, s, Bool.and_self, cond_true]
theorem wcT_y (e : (accE c a 16 (bif t then 18 else 2) == 0) = true) (s : spanOk n a 16 = true) : puT T a t = wcT c n a t T := by simp only [wcT, okC, e, s, Bool.and_self, cond_true]
theorem wcB_e (e : (accE c a 16 (bif w.tag then 18 else 2) == 0) = false) : B = wcB c n a w B := by simp only [wcB, okC, e, Bool.false_and, cond_false]
theorem wcT_e (e : (accE c a 16 (bif t then 18 else 2) == 0) = false) : T = wcT c n a t T := by simp only [wcT, okC, e, Bool.false_and, cond_false]
theorem wcB_s (s : spanOk n a 16 = false) : B = wcB c n a w B := by simp only [wcB, okC, s, Bool.and_false, cond_false]
theorem wcT_s (s : spanOk n a 16 = false) : T = wcT c n a t T := by simp only [wcT, okC, s, Bool.and_false, cond_false]
end
end Go.Proofs.YtplejhefhnmabaaGreatDoor
