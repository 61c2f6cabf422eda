/- The walks of the laws of layer 1: each returns true, whatever the numbers. -/
import Derived.Test.YtkdcdoihgjjnbaaKn1
import Derived.Laws.BitsLemmas
namespace Go.Proofs.Ytkdcdoihgjjnbaa
open Go.RowKit
set_option linter.unusedSimpArgs false

theorem refDo_lit (s : ByteArray) (a b : Int) (w : World) (ha : 0 ≤ a) (ha' : a < 4294967296) (hb : 0 ≤ b) (hb' : b < 4294967296) (x : Int) (y : Bool) (h : (doR s.toList a b).getD 0 = x ∧ (doR s.toList a b).isSome = y) :
    Calls Try.prog 12 #[.string s, .int .u32 a, .int .u32 b] w fun e w' => e = .returned (.tuple #[.int .u32 x, .bool y]) ∧ w = w' := by
  have := refDo_any s a b ha ha' hb hb' w; rw [h.1, h.2] at this; exact this
theorem refHolds_lit (s : ByteArray) (a b : Int) (w : World) (x y : Bool) (h : (holdsR s.toList a b).getD false = x ∧ (holdsR s.toList a b).isSome = y) :
    Calls Try.prog 14 #[.string s, .int .u32 a, .int .u32 b] w fun e w' => e = .returned (.tuple #[.bool x, .bool y]) ∧ w = w' := by
  have := refHolds_any s a b w; rw [h.1, h.2] at this; exact this

set_option maxRecDepth 100000 in
set_option maxHeartbeats 2000000 in
theorem wordDo_walk (s : ByteArray) (a b : Int) (_hs : s.size ≤ 140737488351232) (ha : 0 ≤ a) (ha' : a < 4294967296) (hb : 0 ≤ b) (hb' : b < 4294967296) (w : World) :
    Calls Try.prog 3 #[.string s, .int .u32 a, .int .u32 b] w fun e w' => e = .returned (.bool true) ∧ New w w' := by
  by_cases hl : 50 < s.size
  · go_enter Try.func3, Try.ntmps3
    go_wp2_with fail
    refine (known1_true _).mono ?_; rintro e w1 ⟨rfl, b1⟩
    go_wp2
    go_ret
    exact ⟨rfl, b1⟩
  · have B : Kp ((0 ≤ a ∧ a < 4294967296) ∧ (0 ≤ b ∧ b < 4294967296)) := ⟨⟨ha, ha'⟩, ⟨hb, hb'⟩⟩
    rcases hd : doR s.toList a b with _ | x <;> rcases hh : holdsR s.toList a b with _ | y
    all_goals
      have D : Kp _ := ⟨hd⟩
      have H : Kp _ := ⟨hh⟩
      clear hd hh ha ha' hb hb'
      go_enter Try.func3, Try.ntmps3
      go_wp2_with fail
      refine (known1_true _).mono ?_; rintro e w1 ⟨rfl, b1⟩
      go_wp2_with fail
      refine (do_lit s a b _ _ B.out.1.1 B.out.1.2 B.out.2.1 B.out.2.2 _ D.out rfl).mono ?_; rintro e w' ⟨rfl, rfl⟩
      go_wp2_with fail
      refine (refDo_lit s a b _ B.out.1.1 B.out.1.2 B.out.2.1 B.out.2.2 _ _ (by rw [D.out]; exact ⟨rfl, rfl⟩)).mono ?_; rintro e w' ⟨rfl, rfl⟩
      go_wp2_with fail
      refine (holds_lit s a b _ _ B.out.1.1 B.out.1.2 B.out.2.1 B.out.2.2 _ H.out rfl).mono ?_; rintro e w' ⟨rfl, rfl⟩
      go_wp2_with fail
      refine (refHolds_lit s a b _ _ _ (by rw [H.out]; exact ⟨rfl, rfl⟩)).mono ?_; rintro e w' ⟨rfl, rfl⟩
      go_wp2_with (go_at_call 15; refine (is_int _ _ true rfl _).mono ?_; rintro e w' ⟨rfl, rfl⟩)
      go_ret
      exact ⟨rfl, b1⟩

set_option maxRecDepth 100000 in
set_option maxHeartbeats 2000000 in
theorem wordSigned_walk (v n : Int) (hv : 0 ≤ v) (hv' : v < 4294967296) (w : World) :
    Calls Try.prog 4 #[.int .u32 v, .int .i64 n] w fun e w' => e = .returned (.bool true) ∧ New w w' := by
  have hT := fun W => text_any v hv hv' W
  have hR := fun W => refText_any v hv hv' W
  have hl : (textL v.toNat).length = 10 := rfl
  generalize textL v.toNat = t at hT hR hl
  have HT : Kp _ := ⟨hT⟩; have HR : Kp _ := ⟨hR⟩
  clear hT hR
  have hz : (ByteArray.mk t.toArray).size = 10 := by simp [ByteArray.size, hl]
  have HL := Lib.hid hl
  clear hl
  go_enter Try.func4, Try.ntmps4
  go_wp2_with fail
  refine (known1_true _).mono ?_; rintro e w1 ⟨rfl, b1⟩
  go_wp2_with fail
  refine (signed_any _ _ _).mono ?_; rintro e w' ⟨rfl, rfl⟩
  go_wp2_with fail
  refine (refSigned_any _ _ _).mono ?_; rintro e w' ⟨rfl, rfl⟩
  go_wp2_with fail
  refine (HT.out _).mono ?_; rintro e w2 ⟨rfl, b2⟩
  go_wp2_with fail
  refine (HR.out _).mono ?_; rintro e w' ⟨rfl, rfl⟩
  go_wp2_with fail
  refine (HT.out _).mono ?_; rintro e w3 ⟨rfl, b3⟩
  go_wp2
  go_ret
  exact ⟨by simp [HL.out], (b1.new b2).new b3⟩

theorem law_sub (a b : Int) (ha : 0 ≤ a) (ha' : a < 4294967296) : ((a + b) % 4294967296 + -b % 4294967296) % 4294967296 = a := by omega
theorem law_mul (a b c : Int) : (c * a % 4294967296 + c * b % 4294967296) % 4294967296 = c * ((a + b) % 4294967296) % 4294967296 := by
  rw [← Int.add_emod, ← Int.mul_add, Int.mul_emod c ((a + b) % 4294967296), Int.emod_emod_of_dvd _ (Int.dvd_refl _), ← Int.mul_emod]
theorem law_div (a b : Int) (ha : 0 ≤ a) (ha' : a < 4294967296) (hb : 0 < b) : 0 ≤ a / b ∧ a / b < 4294967296 ∧ 0 ≤ a % b ∧ a % b < b ∧ (a / b * b % 4294967296 + a % b) % 4294967296 = a := by
  have h1 := Int.emod_nonneg a (show b ≠ 0 by omega)
  have h2 := Int.emod_lt_of_pos a hb
  have h3 := Int.mul_ediv_add_emod a b
  rw [Int.mul_comm] at h3
  have h4 := Int.ediv_nonneg ha (Int.le_of_lt hb)
  have h5 := Int.ediv_le_self b ha
  refine ⟨h4, by omega, h1, h2, ?_⟩
  generalize a / b * b = p at *
  generalize a % b = r at *
  omega

set_option maxRecDepth 100000 in
set_option maxHeartbeats 2000000 in
theorem wordLaws_walk (a b c : Int) (ha : 0 ≤ a) (ha' : a < 4294967296) (hb : 0 ≤ b) (hb' : b < 4294967296) (hc : 0 ≤ c) (hc' : c < 4294967296) (w : World) :
    Calls Try.prog 5 #[.int .u32 a, .int .u32 b, .int .u32 c] w fun e w' => e = .returned (.bool true) ∧ New w w' := by
  have A : Kp (0 ≤ a ∧ a < 4294967296) := ⟨⟨ha, ha'⟩⟩; have B : Kp (0 ≤ b ∧ b < 4294967296) := ⟨⟨hb, hb'⟩⟩; have C : Kp (0 ≤ c ∧ c < 4294967296) := ⟨⟨hc, hc'⟩⟩
  obtain ⟨s, hs, S⟩ : ∃ s, Kp ((a + b) % 4294967296 = s) ∧ Kp (0 ≤ s ∧ s < 4294967296) := ⟨_, ⟨rfl⟩, ⟨by omega⟩⟩
  obtain ⟨x, y, z, hx, hy, hz, hyz⟩ : ∃ x y z, Kp (c * s % 4294967296 = x) ∧ Kp (c * a % 4294967296 = y) ∧ Kp (c * b % 4294967296 = z) ∧ (y + z) % 4294967296 = x := ⟨_, _, _, ⟨rfl⟩, ⟨rfl⟩, ⟨rfl⟩, by rw [← hs.out]; exact law_mul a b c⟩
  have hd : Kp ((s + -b % 4294967296) % 4294967296 = a) := ⟨by rw [← hs.out]; exact law_sub a b ha ha'⟩
  obtain ⟨q, r, hq, hr, hqr⟩ : ∃ q r, Kp ((if b = 0 then 4294967295 else a / b) = q) ∧ Kp ((if b = 0 then a else a % b) = r) ∧ Kp (b ≠ 0 → (q * b % 4294967296 + r) % 4294967296 = a ∧ r < b) := ⟨_, _, ⟨rfl⟩, ⟨rfl⟩, ⟨fun h => by
    rw [if_neg h, if_neg h]; exact ⟨(law_div a b ha ha' (by omega)).2.2.2.2, (law_div a b ha ha' (by omega)).2.2.2.1⟩⟩⟩
  obtain ⟨lt, ge, hlt, hge, hlg⟩ : ∃ lt ge : Bool, Kp (decide (wrap32 a < wrap32 b) = lt) ∧ Kp (decide (wrap32 b ≤ wrap32 a) = ge) ∧ (lt == !ge) = true := ⟨_, _, ⟨rfl⟩, ⟨rfl⟩, by
    by_cases h : wrap32 a < wrap32 b
    · rw [decide_eq_true h, decide_eq_false (by omega)]; rfl
    · rw [decide_eq_false h, decide_eq_true (by omega)]; rfl⟩
  have h0 : (b == 0) = true ∨ (b == 0) = false ∧ (q * b % 4294967296 + r) % 4294967296 = a ∧ r < b := by
    by_cases h : b = 0
    · exact .inl (by rw [h]; rfl)
    · exact .inr ⟨by simpa using h, (hqr.out h).1, (hqr.out h).2⟩
  clear ha ha' hb hb' hc hc'
  rcases h0 with h0 | ⟨h0, h1, h2⟩
  all_goals
    go_enter Try.func5, Try.ntmps5
    go_wp2_with fail
    refine (known1_true _).mono ?_; rintro e w1 ⟨rfl, b1⟩
    go_wp2_with fail
    refine (do_lit _ a b (.tuple #[.int .u32 s, .nilIface]) _ A.out.1 A.out.2 B.out.1 B.out.2 (some s) (by rw [ba_toList]; exact congrArg some hs.out) rfl).mono ?_; rintro e w' ⟨rfl, rfl⟩
    go_wp2_with fail
    refine (do_lit _ s b (.tuple #[.int .u32 a, .nilIface]) _ S.out.1 S.out.2 B.out.1 B.out.2 (some a) (by rw [ba_toList]; exact congrArg some hd.out) rfl).mono ?_; rintro e w' ⟨rfl, rfl⟩
    go_wp2_with fail
    refine (do_lit _ c s (.tuple #[.int .u32 x, .nilIface]) _ C.out.1 C.out.2 S.out.1 S.out.2 (some x) (by rw [ba_toList]; exact congrArg some hx.out) rfl).mono ?_; rintro e w' ⟨rfl, rfl⟩
    go_wp2_with fail
    refine (do_lit _ c a (.tuple #[.int .u32 y, .nilIface]) _ C.out.1 C.out.2 A.out.1 A.out.2 (some y) (by rw [ba_toList]; exact congrArg some hy.out) rfl).mono ?_; rintro e w' ⟨rfl, rfl⟩
    go_wp2_with fail
    refine (do_lit _ c b (.tuple #[.int .u32 z, .nilIface]) _ C.out.1 C.out.2 B.out.1 B.out.2 (some z) (by rw [ba_toList]; exact congrArg some hz.out) rfl).mono ?_; rintro e w' ⟨rfl, rfl⟩
    go_wp2_with fail
    refine (do_lit _ a b (.tuple #[.int .u32 q, .nilIface]) _ A.out.1 A.out.2 B.out.1 B.out.2 (some q) (by rw [ba_toList]; exact congrArg some hq.out) rfl).mono ?_; rintro e w' ⟨rfl, rfl⟩
    go_wp2_with fail
    refine (do_lit _ a b (.tuple #[.int .u32 r, .nilIface]) _ A.out.1 A.out.2 B.out.1 B.out.2 (some r) (by rw [ba_toList]; exact congrArg some hr.out) rfl).mono ?_; rintro e w' ⟨rfl, rfl⟩
    go_wp2_with fail
    refine (holds_lit _ a b (.tuple #[.bool lt, .nilIface]) _ A.out.1 A.out.2 B.out.1 B.out.2 (some lt) (by rw [ba_toList]; exact congrArg some hlt.out) rfl).mono ?_; rintro e w' ⟨rfl, rfl⟩
    go_wp2_with fail
    refine (holds_lit _ a b (.tuple #[.bool ge, .nilIface]) _ A.out.1 A.out.2 B.out.1 B.out.2 (some ge) (by rw [ba_toList]; exact congrArg some hge.out) rfl).mono ?_; rintro e w' ⟨rfl, rfl⟩
    go_wp2
    go_ret
    exact ⟨by simp [*], b1⟩

set_option maxRecDepth 100000 in
set_option maxHeartbeats 2000000 in
theorem wordOrder_walk (a b : Int) (ha : 0 ≤ a) (ha' : a < 4294967296) (hb : 0 ≤ b) (hb' : b < 4294967296) (w : World) :
    Calls Try.prog 7 #[.int .u32 a, .int .u32 b] w fun e w' => e = .returned (.bool true) ∧ New w w' := by
  have A : Kp (0 ≤ a ∧ a < 4294967296) := ⟨⟨ha, ha'⟩⟩; have B : Kp (0 ≤ b ∧ b < 4294967296) := ⟨⟨hb, hb'⟩⟩
  obtain ⟨x, y, sm, eb, nb, hx, hy, he, hn, hs, x0, x1, y0, y1, hxy, hnb⟩ : ∃ (x y : Int) (sm eb nb : Bool), Kp ((if wrap32 a < wrap32 b then 1 else 0) = x) ∧ Kp ((if a < b then 1 else 0) = y) ∧ (a == b) = eb ∧ Kp ((a != b) = nb) ∧ (a / 2147483648 == b / 2147483648) = sm ∧ 0 ≤ x ∧ x ≤ 1 ∧ 0 ≤ y ∧ y ≤ 1 ∧ (x == y) = (sm || eb) ∧ nb = !eb := by
    refine ⟨_, _, _, _, _, ⟨rfl⟩, ⟨rfl⟩, rfl, ⟨rfl⟩, rfl, by split <;> decide, by split <;> decide, by split <;> decide, by split <;> decide, ?_, rfl⟩
    unfold wrap32
    rw [Bool.eq_iff_iff]
    simp only [Bool.or_eq_true, beq_iff_eq]
    split <;> split <;> omega
  subst hnb
  have E : Kp ((a == b) = eb) := ⟨he⟩
  clear ha ha' hb hb'
  cases sm <;> cases eb <;> simp only [Bool.or_true, Bool.or_false, Bool.true_or, Bool.false_or, Bool.not_true, Bool.not_false] at *
  all_goals
    go_enter Try.func7, Try.ntmps7
    go_wp2_with fail
    refine (known1_true _).mono ?_; rintro e w1 ⟨rfl, b1⟩
    go_wp2_with fail
    refine (do_lit _ a b (.tuple #[.int .u32 x, .nilIface]) _ A.out.1 A.out.2 B.out.1 B.out.2 (some x) (by rw [ba_toList]; exact congrArg some hx.out) rfl).mono ?_; rintro e w' ⟨rfl, rfl⟩
    go_wp2_with fail
    refine (do_lit _ a b (.tuple #[.int .u32 y, .nilIface]) _ A.out.1 A.out.2 B.out.1 B.out.2 (some y) (by rw [ba_toList]; exact congrArg some hy.out) rfl).mono ?_; rintro e w' ⟨rfl, rfl⟩
    go_wp2_with fail
    refine (holds_lit _ a b (.tuple #[.bool _, .nilIface]) _ A.out.1 A.out.2 B.out.1 B.out.2 (some _) (by rw [ba_toList]; exact congrArg some E.out) rfl).mono ?_; rintro e w' ⟨rfl, rfl⟩
    go_wp2_with fail
    refine (holds_lit _ a b (.tuple #[.bool _, .nilIface]) _ A.out.1 A.out.2 B.out.1 B.out.2 (some _) (by rw [ba_toList]; exact congrArg some hn.out) rfl).mono ?_; rintro e w' ⟨rfl, rfl⟩
    go_wp2
    go_ret
    exact ⟨by simp [*], b1⟩

theorem law_mask (a : Int) (k : Nat) (ha : 0 ≤ a) (ha' : a < 4294967296) (hk : k < 32) : bits .and .u32 a ((2 ^ (32 - (k : Int)).toNat - 1) % 4294967296) = a * 2 ^ ((k : Int) % 32).toNat % 4294967296 / 2 ^ ((k : Int) % 32).toNat := by
  rw [show ((k : Int) % 32).toNat = k by omega, show (32 - (k : Int)).toNat = 32 - k by omega]
  obtain ⟨n, rfl⟩ := Int.eq_ofNat_of_zero_le ha
  have hp : (2 : Nat) ^ (32 - k) * 2 ^ k = 4294967296 := by rw [← Nat.pow_add, show 32 - k + k = 32 by omega]
  have hq : 0 < (2 : Nat) ^ k := Nat.two_pow_pos k
  have hle : (2 : Nat) ^ (32 - k) ≤ 2 ^ 32 := Nat.pow_le_pow_right (n := 2) (by decide) (by omega)
  have hpos : 0 < (2 : Nat) ^ (32 - k) := Nat.two_pow_pos _
  have hc : ((2 : Int) ^ (32 - k)) = ((2 ^ (32 - k) : Nat) : Int) := by simp
  have e : ((2 : Int) ^ (32 - k) - 1) % 4294967296 = 2 ^ (32 - k) - 1 := by rw [hc]; omega
  rw [e, bits_mask .u32 32 (by decide) (fun n h0 h1 => by rw [IntKind.wrap_u32]; omega) (32 - k) (by omega) _ ha (by omega)]
  have hn : n * 2 ^ k % 4294967296 / 2 ^ k = n % 2 ^ (32 - k) := by
    rw [← hp, Nat.mul_mod_mul_right, Nat.mul_div_cancel _ hq]
  have := congrArg (fun x : Nat => (x : Int)) hn
  simpa using this.symm
theorem law_signed (a : Int) (k : Int) (hk0 : 0 ≤ k) (hk : k < 32) : signedR a (32 - k) = wrap32 (a * 2 ^ (k % 32).toNat % 4294967296) / 2 ^ (k % 32).toNat % 4294967296 := by
  unfold signedR signedS
  rw [if_neg (by omega), if_neg (by omega), show (32 - (32 - k)).toNat = (k % 32).toNat by omega]

set_option maxRecDepth 100000 in
set_option maxHeartbeats 2000000 in
theorem wordShifts_walk (a n : Int) (ha : 0 ≤ a) (ha' : a < 4294967296) (hn : 0 ≤ n) (hn' : n < 256) (w : World) :
    Calls Try.prog 6 #[.int .u32 a, .int .u8 n] w fun e w' => e = .returned (.bool true) ∧ New w w' := by
  obtain ⟨k, hk, hk0, hk1⟩ : ∃ k : Int, n % 32 = k ∧ 0 ≤ k ∧ k < 32 := ⟨_, rfl, by omega, by omega⟩
  have A : Kp (0 ≤ a ∧ a < 4294967296) := ⟨⟨ha, ha'⟩⟩; have KB : Kp (0 ≤ k ∧ k < 4294967296) := ⟨⟨hk0, by omega⟩⟩; have KC : Kp (0 ≤ k + 32 ∧ k + 32 < 4294967296) := ⟨⟨by omega, by omega⟩⟩
  obtain ⟨l, r, s, hl, hr, hs, L⟩ : ∃ l r s, Kp (a * 2 ^ (k % 32).toNat % 4294967296 = l) ∧ Kp (l / 2 ^ (k % 32).toNat = r) ∧ Kp (wrap32 l / 2 ^ (k % 32).toNat % 4294967296 = s) ∧ Kp (0 ≤ l ∧ l < 4294967296) := ⟨_, _, _, ⟨rfl⟩, ⟨rfl⟩, ⟨rfl⟩, ⟨by omega⟩⟩
  have hm : Kp (a * 2 ^ ((k + 32) % 32).toNat % 4294967296 = l) := ⟨by rw [show (k + 32) % 32 = k % 32 by omega]; exact hl.out⟩
  go_enter Try.func6, Try.ntmps6
  go_wp2_with fail
  refine (known1_true _).mono ?_; rintro e w1 ⟨rfl, b1⟩
  go_wp2_with fail
  refine (do_lit _ a k (.tuple #[.int .u32 l, .nilIface]) _ A.out.1 A.out.2 KB.out.1 KB.out.2 (some l) (by rw [ba_toList]; exact congrArg some hl.out) rfl).mono ?_; rintro e w' ⟨rfl, rfl⟩
  go_wp2_with fail
  refine (do_lit _ l k (.tuple #[.int .u32 r, .nilIface]) _ L.out.1 L.out.2 KB.out.1 KB.out.2 (some r) (by rw [ba_toList]; exact congrArg some hr.out) rfl).mono ?_; rintro e w' ⟨rfl, rfl⟩
  go_wp2_with fail
  refine (do_lit _ l k (.tuple #[.int .u32 s, .nilIface]) _ L.out.1 L.out.2 KB.out.1 KB.out.2 (some s) (by rw [ba_toList]; exact congrArg some hs.out) rfl).mono ?_; rintro e w' ⟨rfl, rfl⟩
  go_wp2_with fail
  refine (do_lit _ a (k + 32) (.tuple #[.int .u32 l, .nilIface]) _ A.out.1 A.out.2 KC.out.1 KC.out.2 (some l) (by rw [ba_toList]; exact congrArg some hm.out) rfl).mono ?_; rintro e w' ⟨rfl, rfl⟩
  have hmask : bits .and .u32 a ((2 ^ (32 - k).toNat - 1) % 4294967296) = r := by
    obtain ⟨m, rfl⟩ := Int.eq_ofNat_of_zero_le hk0
    rw [law_mask a m ha ha' (by omega), hl.out, hr.out]
  go_wp2_with fail
  refine (signed_any _ _ _).mono ?_; rintro e w' ⟨rfl, rfl⟩
  rw [law_signed a k hk0 hk1, hl.out, hs.out]
  go_wp2
  go_ret
  exact ⟨rfl, b1⟩
end Go.Proofs.Ytkdcdoihgjjnbaa
