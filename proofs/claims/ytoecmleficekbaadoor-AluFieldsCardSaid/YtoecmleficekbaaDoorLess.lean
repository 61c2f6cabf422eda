/- What an instruction makes is not more than what it was made of. -/
import Derived.Test.YtoecmleficekbaaDoorAluF
import Derived.Laws.BitsAllLaws
namespace Go.Proofs.YtoecmleficekbaaDoor
open Go.RowKit
theorem nat_andNot_self (p : Nat) (hp : p < 65536) : p &&& (65535 - p) = 0 := by
  apply Nat.eq_of_testBit_eq
  intro i
  have h := @Nat.testBit_two_pow_sub_succ p 16 (by simpa using hp) i
  rw [show 2 ^ 16 - (p + 1) = 65535 - p by omega] at h
  rw [Nat.testBit_and, h]
  cases p.testBit i <;> simp
theorem andNot_self (p : Int) (h0 : 0 ≤ p) (h1 : p < 65536) : bits .andNot .u16 p p = 0 := by
  rw [u16_andNot p p h0 h1 h0 h1, nat_andNot_self _ (by omega)]; rfl
theorem and_lt (p m : Nat) : p &&& m ≤ p := Nat.and_le_left
theorem andNot_and (p m : Int) (h0 : 0 ≤ p) (h1 : p < 65536) (m0 : 0 ≤ m) (m1 : m < 65536) : bits .andNot .u16 (bits .and .u16 p m) p = 0 := by
  have hle : p.toNat &&& m.toNat ≤ p.toNat := Nat.and_le_left
  rw [u16_and p m h0 h1 m0 m1, u16_andNot _ p (by omega) (by omega) h0 h1]
  rw [Int.toNat_natCast, Nat.and_comm p.toNat, Nat.and_assoc, nat_andNot_self _ (by omega)]; simp
theorem Cp.sub_self (c : Cp) (h : c.Ok) : Cp.sub c c = true := by
  simp [Cp.sub, andNot_self c.perm h.p0 h.p1]
/-- What the law AluLess says of one answer. -/
structure Below9 (o : List UInt8) (c k r : Cp) : Prop where
  tag : c.tag = true
  sub : Cp.sub r c = true
  typ : r.typ = c.typ ∨ (o = [99, 115, 101, 97, 108] ∧ c.typ = 0 ∧ 2 ≤ r.typ) ∨ (o = [99, 101, 110, 116, 101, 114] ∧ c.typ = 0 ∧ r.typ = 1) ∨ (o = [99, 117, 110, 115, 101, 97, 108] ∧ 2 ≤ c.typ ∧ r.typ = 0 ∧ k.tag = true)
theorem numbersR_tag {o : List UInt8} {c k r : Cp} (h : numbersR o c k = some r) : r.tag = false := by
  unfold numbersR at h
  cases hd : doR o c.addr k.addr with
  | none => rw [hd] at h; cases h
  | some x => rw [hd] at h; injection h with h; subst h; rfl
theorem plainR_tag {o : List UInt8} {c r : Cp} {n : Int} (h : plainR o c n = some r) : r.tag = false := by
  unfold plainR at h
  repeat' (split at h)
  all_goals first | (cases h; done) | (injection h with h; subst h; rfl)
theorem partsR_tag {o : List UInt8} {c r : Cp} (h : partsR o c = some r) : r.tag = false := by
  unfold partsR at h
  repeat' (split at h)
  all_goals first | (cases h; done) | (injection h with h; subst h; rfl)
theorem comparedR_tag {o : List UInt8} {c k r : Cp} (h : comparedR o c k = some r) : r.tag = false := by
  unfold comparedR at h
  repeat' (split at h)
  all_goals first | (cases h; done) | (injection h with h; subst h; rfl)
theorem kept_below {o : List UInt8} {c k : Cp} (hc : c.Ok) {r : Cp} {b : Bool} (hb : r.base = c.base) (ht : r.top = c.top) (hp : r.perm = c.perm) (hy : r.typ = c.typ) (hg : r.tag = c.tag) (h : (Cp.kept r b).tag = true) : Below9 o c k (Cp.kept r b) := by
  have h' : r.tag = true := by simp only [Cp.kept, Bool.and_eq_true] at h; exact h.1
  refine ⟨by rw [← hg]; exact h', ?_, .inl hy⟩
  simp [Cp.sub, Cp.kept, hb, ht, hp, andNot_self c.perm hc.p0 hc.p1]
theorem bounds_below {o : List UInt8} {c k : Cp} (hc : c.Ok) {n : Int} (h0 : 0 ≤ n) (h1 : n < 4294967296) (h : (c.bounds n).tag = true) : Below9 o c k (c.bounds n) := by
  have h' : c.tag = true ∧ c.isOpen = true ∧ c.has c.addr n = true := by simpa [Cp.bounds, Cp.kept, Bool.and_eq_true] using h
  obtain ⟨g1, g2, g3⟩ := h'
  simp only [Cp.has, Bool.and_eq_true, decide_eq_true_eq] at g3
  refine ⟨g1, ?_, .inl rfl⟩
  have := hc.t1; have := hc.a0
  have e1 : (c.bounds n).base = c.addr := rfl
  have e2 : (c.bounds n).top = (c.addr + n) % 4294967296 := rfl
  have e3 : (c.bounds n).perm = c.perm := rfl
  rw [Int.emod_eq_of_lt (by omega) (by omega)] at e2
  unfold Cp.sub
  rw [e1, e2, e3, andNot_self c.perm hc.p0 hc.p1]
  simp [g3.1, g3.2]
theorem ite_some {b : Prop} [Decidable b] {x r : Cp} {y : Option Cp} (h : (if b then some x else y) = some r) : (b ∧ x = r) ∨ (¬ b ∧ y = some r) := by
  by_cases hb : b
  · rw [if_pos hb] at h; exact .inl ⟨hb, Option.some.inj h⟩
  · rw [if_neg hb] at h; exact .inr ⟨hb, h⟩
theorem derivedR_below {o : List UInt8} {c k r : Cp} {n : Int} (hc : c.Ok) (hk : k.Ok) (hn0 : -2147483648 ≤ n) (hn1 : n < 2147483648) (h : derivedR o c k n = some r) (ht : r.tag = true) : Below9 o c k r := by
  unfold derivedR at h
  rcases ite_some h with ⟨ho, rfl⟩ | ⟨_, h⟩
  · exact ⟨ht, Cp.sub_self _ hc, .inl rfl⟩
  rcases ite_some h with ⟨ho, rfl⟩ | ⟨_, h⟩
  · exact kept_below hc rfl rfl rfl rfl rfl ht
  rcases ite_some h with ⟨ho, rfl⟩ | ⟨_, h⟩
  · exact kept_below hc rfl rfl rfl rfl rfl ht
  rcases ite_some h with ⟨ho, rfl⟩ | ⟨_, h⟩
  · exact kept_below hc rfl rfl rfl rfl rfl ht
  rcases ite_some h with ⟨ho, rfl⟩ | ⟨_, h⟩
  · unfold Cp.boundsI at ht ⊢
    split at ht
    · simp [Cp.clear, Cp.kept] at ht
    · rename_i hneg; rw [if_neg hneg]; exact bounds_below hc (by omega) (by omega) ht
  rcases ite_some h with ⟨ho, rfl⟩ | ⟨_, h⟩
  · exact bounds_below hc hk.a0 hk.a1 ht
  rcases ite_some h with ⟨ho, rfl⟩ | ⟨_, h⟩
  · have h' : c.tag = true := by simp only [Cp.andPerm, Cp.kept, Bool.and_eq_true] at ht; exact ht.1
    refine ⟨h', ?_, .inl rfl⟩
    simp [Cp.sub, Cp.andPerm, Cp.kept, andNot_and c.perm (n % 65536) hc.p0 hc.p1 (by omega) (by omega)]
  rcases ite_some h with ⟨ho, rfl⟩ | ⟨_, h⟩
  · have h' : c.tag = true := by simp only [Cp.andPerm, Cp.kept, Bool.and_eq_true] at ht; exact ht.1
    refine ⟨h', ?_, .inl rfl⟩
    simp [Cp.sub, Cp.andPerm, Cp.kept, andNot_and c.perm (k.addr % 65536) hc.p0 hc.p1 (by omega) (by omega)]
  rcases ite_some h with ⟨ho, rfl⟩ | ⟨_, h⟩
  · simp [Cp.clear, Cp.kept] at ht
  rcases ite_some h with ⟨ho, rfl⟩ | ⟨_, h⟩
  · unfold Cp.shutBy at ht ⊢
    split at ht
    · rename_i hs
      rw [if_pos hs]
      simp only [Cp.shutOk, Bool.and_eq_true, decide_eq_true_eq] at hs
      refine ⟨ht, ?_, .inr (.inl ⟨by simpa using ho, by simpa [Cp.isOpen] using hs.1, hs.2.2.1⟩)⟩
      simp [Cp.sub, andNot_self c.perm hc.p0 hc.p1]
    · simp [Cp.kept] at ht
  rcases ite_some h with ⟨ho, rfl⟩ | ⟨_, h⟩
  · unfold Cp.openBy at ht ⊢
    split at ht
    · rename_i hs
      rw [if_pos hs]
      simp only [Cp.openOk, Cp.key, Bool.and_eq_true, decide_eq_true_eq] at hs
      refine ⟨ht, ?_, .inr (.inr (.inr ⟨by simpa using ho, hs.1, rfl, hs.2.1.1⟩))⟩
      simp [Cp.sub, andNot_self c.perm hc.p0 hc.p1]
    · simp [Cp.kept] at ht
  rcases ite_some h with ⟨ho, rfl⟩ | ⟨_, h⟩
  · have h' : c.tag = true ∧ c.permits 4 = true ∧ c.isOpen = true := by simpa [Cp.enter, Cp.kept, Bool.and_eq_true] using ht
    refine ⟨h'.1, ?_, .inr (.inr (.inl ⟨by simpa using ho, by simpa [Cp.isOpen] using h'.2.2, rfl⟩))⟩
    simp [Cp.sub, Cp.enter, Cp.kept, andNot_self c.perm hc.p0 hc.p1]
  · cases h
theorem aluR_below {o : List UInt8} {c k r : Cp} {n : Int} (hc : c.Ok) (hk : k.Ok) (hn0 : -2147483648 ≤ n) (hn1 : n < 2147483648) (h : aluR o c k n = some r) (ht : r.tag = true) : Below9 o c k r := by
  unfold aluR at h
  split at h
  · rename_i r' h'; injection h with h; subst h; rw [numbersR_tag h'] at ht; cases ht
  split at h
  · rename_i r' h'; injection h with h; subst h; rw [plainR_tag h'] at ht; cases ht
  split at h
  · rename_i r' h'; injection h with h; subst h; rw [partsR_tag h'] at ht; cases ht
  split at h
  · rename_i r' h'; injection h with h; subst h; exact derivedR_below hc hk hn0 hn1 h' ht
  · rw [comparedR_tag h] at ht; cases ht
end Go.Proofs.YtoecmleficekbaaDoor
