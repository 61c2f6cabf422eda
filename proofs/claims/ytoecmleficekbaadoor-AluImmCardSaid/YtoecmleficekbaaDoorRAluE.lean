/- The reference's Alu, whole (written by gen_ralu.py). -/
import Derived.Test.YtoecmleficekbaaDoorRAlu
import Derived.Test.YtoecmleficekbaaDoorAluE
namespace Go.Proofs.YtoecmleficekbaaDoor
open Go.RowKit
set_option linter.unusedSimpArgs false
set_option linter.unusedVariables false

theorem ba_snoc (s : ByteArray) (h : s.size - 1 < s.size) : s.toList = (s.extract 0 (s.size - 1)).toList ++ [s[s.size - 1]'h] := by
  rw [ByteArray.toList_eq, ByteArray.toList_eq]
  have hl : s.data.toList.length = s.size := by rw [Array.length_toList]; rfl
  have e1 : (s.extract 0 (s.size - 1)).data.toList = s.data.toList.take (s.size - 1) := by simp; rw [List.dropLast_eq_take, hl]
  have e2 : s[s.size - 1]'h = s.data.toList[s.size - 1]'(by rw [hl]; exact h) := rfl
  rw [e1, e2, List.take_append_getElem]
  rw [List.take_of_length_le (by rw [hl]; omega)]
theorem rest_eq (o : List UInt8) (c k : Cp) (n : Int) (hd : doR o c.addr k.addr = none) (p0 : (o == [97, 100, 100, 105]) = false) (p1 : (o == [97, 110, 100, 105]) = false) (p2 : (o == [111, 114, 105]) = false) (p3 : (o == [120, 111, 114, 105]) = false) (p4 : (o == [115, 108, 108, 105]) = false) (p5 : (o == [115, 114, 108, 105]) = false) (p6 : (o == [115, 108, 116, 105]) = false) (n0 : (o == [108, 105]) = false) (n1 : (o == [108, 117, 105]) = false) (n2 : (o == [109, 118]) = false) (n3 : (o == [99, 98, 97, 115, 101]) = false) (n4 : (o == [99, 116, 111, 112]) = false) (n5 : (o == [99, 97, 100, 100, 114]) = false) (n6 : (o == [99, 112, 101, 114, 109]) = false) (n7 : (o == [99, 116, 121, 112, 101]) = false) (n8 : (o == [99, 116, 97, 103]) = false) : aluR o c k n = deriveR o c k n := by
  unfold aluR numbersR plainR partsR deriveR
  rw [hd]
  simp [*]
  rcases derivedR o c k n with _ | r <;> rfl
set_option maxHeartbeats 1000000 in
theorem refAlu_any (s : ByteArray) (hs50 : (s.size : Int) ≤ 50) (c k : Cp) (hc : c.Ok) (hk : k.Ok) (n : Int) (hn0 : -2147483648 ≤ n) (hn1 : n < 2147483648) (w : World) :
    Calls Tryd.prog 40 #[.string s, capV c, capV k, .int .i32 n] w fun e w' => e = .returned (optV (aluR s.toList c k n)) ∧ New w w' := by
  obtain ⟨t, b, tp, a, p, y⟩ := c
  obtain ⟨kt, kb, ktp, ka, kp, ky⟩ := k
  obtain ⟨hb0, hb1, htp0, htp1, ha0, ha1, hp0, hp1, hy0, hy1⟩ := hc
  obtain ⟨hkb0, hkb1, hktp0, hktp1, hka0, hka1, hkp0, hkp1, hky0, hky1⟩ := hk
  simp only at *
  rcases hd : doR s.toList a ka with _ | v
  rotate_left
  · have e : aluR s.toList ⟨t, b, tp, a, p, y⟩ ⟨kt, kb, ktp, ka, kp, ky⟩ n = some (Cp.int v) := by
      unfold aluR numbersR; simp only [hd]; rfl
    rw [e]
    exact refAlu_num s t b tp a p y kt kb ktp ka kp ky n v ⟨fun W => by have h := refDo_any s a ka ha0 ha1 hka0 hka1 W; rw [hd] at h; exact h⟩ w
  have HD : Kp (∀ W, Calls Tryd.prog 85 #[.string s, .int .u32 a, .int .u32 ka] W fun e w' => e = .returned (.tuple #[.int .u32 0, .bool false]) ∧ W = w') := ⟨fun W => by have h := refDo_any s a ka ha0 ha1 hka0 hka1 W; rw [hd] at h; exact h⟩
  by_cases h : s.toList = [97, 100, 100, 105]
  · have e : aluR s.toList ⟨t, b, tp, a, p, y⟩ ⟨kt, kb, ktp, ka, kp, ky⟩ n = some (Cp.int ((doR [97, 100, 100] a (n % 4294967296)).getD 0)) := by rw [h]; kernel_rfl
    rw [e]
    obtain rfl := ba_lit s _ h
    exact refAlu_addi t b tp a p y kt kb ktp ka kp ky n ((doR [97, 100, 100] a (n % 4294967296)).getD 0) HD ⟨fun s' W hs => by have h := refDo_any s' a (n % 4294967296) ha0 ha1 (by omega) (by omega) W; rw [hs, show (doR [97, 100, 100] a (n % 4294967296)).isSome = true from by kernel_rfl] at h; exact h⟩ w
  have p0 := beq_eq_false_iff_ne.2 h
  clear h
  by_cases h : s.toList = [97, 110, 100, 105]
  · have e : aluR s.toList ⟨t, b, tp, a, p, y⟩ ⟨kt, kb, ktp, ka, kp, ky⟩ n = some (Cp.int ((doR [97, 110, 100] a (n % 4294967296)).getD 0)) := by rw [h]; kernel_rfl
    rw [e]
    obtain rfl := ba_lit s _ h
    exact refAlu_andi t b tp a p y kt kb ktp ka kp ky n ((doR [97, 110, 100] a (n % 4294967296)).getD 0) HD ⟨fun s' W hs => by have h := refDo_any s' a (n % 4294967296) ha0 ha1 (by omega) (by omega) W; rw [hs, show (doR [97, 110, 100] a (n % 4294967296)).isSome = true from by kernel_rfl] at h; exact h⟩ w
  have p1 := beq_eq_false_iff_ne.2 h
  clear h
  by_cases h : s.toList = [111, 114, 105]
  · have e : aluR s.toList ⟨t, b, tp, a, p, y⟩ ⟨kt, kb, ktp, ka, kp, ky⟩ n = some (Cp.int ((doR [111, 114] a (n % 4294967296)).getD 0)) := by rw [h]; kernel_rfl
    rw [e]
    obtain rfl := ba_lit s _ h
    exact refAlu_ori t b tp a p y kt kb ktp ka kp ky n ((doR [111, 114] a (n % 4294967296)).getD 0) HD ⟨fun s' W hs => by have h := refDo_any s' a (n % 4294967296) ha0 ha1 (by omega) (by omega) W; rw [hs, show (doR [111, 114] a (n % 4294967296)).isSome = true from by kernel_rfl] at h; exact h⟩ w
  have p2 := beq_eq_false_iff_ne.2 h
  clear h
  by_cases h : s.toList = [120, 111, 114, 105]
  · have e : aluR s.toList ⟨t, b, tp, a, p, y⟩ ⟨kt, kb, ktp, ka, kp, ky⟩ n = some (Cp.int ((doR [120, 111, 114] a (n % 4294967296)).getD 0)) := by rw [h]; kernel_rfl
    rw [e]
    obtain rfl := ba_lit s _ h
    exact refAlu_xori t b tp a p y kt kb ktp ka kp ky n ((doR [120, 111, 114] a (n % 4294967296)).getD 0) HD ⟨fun s' W hs => by have h := refDo_any s' a (n % 4294967296) ha0 ha1 (by omega) (by omega) W; rw [hs, show (doR [120, 111, 114] a (n % 4294967296)).isSome = true from by kernel_rfl] at h; exact h⟩ w
  have p3 := beq_eq_false_iff_ne.2 h
  clear h
  by_cases h : s.toList = [115, 108, 108, 105]
  · have e : aluR s.toList ⟨t, b, tp, a, p, y⟩ ⟨kt, kb, ktp, ka, kp, ky⟩ n = some (Cp.int ((doR [115, 108, 108] a (n % 4294967296)).getD 0)) := by rw [h]; kernel_rfl
    rw [e]
    obtain rfl := ba_lit s _ h
    exact refAlu_slli t b tp a p y kt kb ktp ka kp ky n ((doR [115, 108, 108] a (n % 4294967296)).getD 0) HD ⟨fun s' W hs => by have h := refDo_any s' a (n % 4294967296) ha0 ha1 (by omega) (by omega) W; rw [hs, show (doR [115, 108, 108] a (n % 4294967296)).isSome = true from by kernel_rfl] at h; exact h⟩ w
  have p4 := beq_eq_false_iff_ne.2 h
  clear h
  by_cases h : s.toList = [115, 114, 108, 105]
  · have e : aluR s.toList ⟨t, b, tp, a, p, y⟩ ⟨kt, kb, ktp, ka, kp, ky⟩ n = some (Cp.int ((doR [115, 114, 108] a (n % 4294967296)).getD 0)) := by rw [h]; kernel_rfl
    rw [e]
    obtain rfl := ba_lit s _ h
    exact refAlu_srli t b tp a p y kt kb ktp ka kp ky n ((doR [115, 114, 108] a (n % 4294967296)).getD 0) HD ⟨fun s' W hs => by have h := refDo_any s' a (n % 4294967296) ha0 ha1 (by omega) (by omega) W; rw [hs, show (doR [115, 114, 108] a (n % 4294967296)).isSome = true from by kernel_rfl] at h; exact h⟩ w
  have p5 := beq_eq_false_iff_ne.2 h
  clear h
  by_cases h : s.toList = [115, 108, 116, 105]
  · have e : aluR s.toList ⟨t, b, tp, a, p, y⟩ ⟨kt, kb, ktp, ka, kp, ky⟩ n = some (Cp.int ((doR [115, 108, 116] a (n % 4294967296)).getD 0)) := by rw [h]; kernel_rfl
    rw [e]
    obtain rfl := ba_lit s _ h
    exact refAlu_slti t b tp a p y kt kb ktp ka kp ky n ((doR [115, 108, 116] a (n % 4294967296)).getD 0) HD ⟨fun s' W hs => by have h := refDo_any s' a (n % 4294967296) ha0 ha1 (by omega) (by omega) W; rw [hs, show (doR [115, 108, 116] a (n % 4294967296)).isSome = true from by kernel_rfl] at h; exact h⟩ w
  have p6 := beq_eq_false_iff_ne.2 h
  clear h
  by_cases h : s.toList = [108, 105]
  · have e : aluR s.toList ⟨t, b, tp, a, p, y⟩ ⟨kt, kb, ktp, ka, kp, ky⟩ n = some (Cp.int (n % 4294967296)) := by rw [h]; kernel_rfl
    rw [e]
    obtain rfl := ba_lit s _ h
    have r := refAlu_li t b tp a p y kt kb ktp ka kp ky n HD w
    exact r
  have n0 := beq_eq_false_iff_ne.2 h
  clear h
  by_cases h : s.toList = [108, 117, 105]
  · have e : aluR s.toList ⟨t, b, tp, a, p, y⟩ ⟨kt, kb, ktp, ka, kp, ky⟩ n = some (Cp.int (n % 4294967296 * 65536 % 4294967296)) := by rw [h]; kernel_rfl
    rw [e]
    obtain rfl := ba_lit s _ h
    have r := refAlu_lui t b tp a p y kt kb ktp ka kp ky n HD w
    exact r
  have n1 := beq_eq_false_iff_ne.2 h
  clear h
  by_cases h : s.toList = [109, 118]
  · have e : aluR s.toList ⟨t, b, tp, a, p, y⟩ ⟨kt, kb, ktp, ka, kp, ky⟩ n = some (⟨t, b, tp, a, p, y⟩) := by rw [h]; kernel_rfl
    rw [e]
    obtain rfl := ba_lit s _ h
    have r := refAlu_mv t b tp a p y kt kb ktp ka kp ky n HD w
    exact r
  have n2 := beq_eq_false_iff_ne.2 h
  clear h
  by_cases h : s.toList = [99, 98, 97, 115, 101]
  · have e : aluR s.toList ⟨t, b, tp, a, p, y⟩ ⟨kt, kb, ktp, ka, kp, ky⟩ n = some (Cp.int b) := by rw [h]; kernel_rfl
    rw [e]
    obtain rfl := ba_lit s _ h
    have r := refAlu_cbase t b tp a p y kt kb ktp ka kp ky n HD w
    exact r
  have n3 := beq_eq_false_iff_ne.2 h
  clear h
  by_cases h : s.toList = [99, 116, 111, 112]
  · have e : aluR s.toList ⟨t, b, tp, a, p, y⟩ ⟨kt, kb, ktp, ka, kp, ky⟩ n = some (Cp.int tp) := by rw [h]; kernel_rfl
    rw [e]
    obtain rfl := ba_lit s _ h
    have r := refAlu_ctop t b tp a p y kt kb ktp ka kp ky n HD w
    exact r
  have n4 := beq_eq_false_iff_ne.2 h
  clear h
  by_cases h : s.toList = [99, 97, 100, 100, 114]
  · have e : aluR s.toList ⟨t, b, tp, a, p, y⟩ ⟨kt, kb, ktp, ka, kp, ky⟩ n = some (Cp.int a) := by rw [h]; kernel_rfl
    rw [e]
    obtain rfl := ba_lit s _ h
    have r := refAlu_caddr t b tp a p y kt kb ktp ka kp ky n HD w
    exact r
  have n5 := beq_eq_false_iff_ne.2 h
  clear h
  by_cases h : s.toList = [99, 112, 101, 114, 109]
  · have e : aluR s.toList ⟨t, b, tp, a, p, y⟩ ⟨kt, kb, ktp, ka, kp, ky⟩ n = some (Cp.int p) := by rw [h]; kernel_rfl
    rw [e]
    obtain rfl := ba_lit s _ h
    have r := refAlu_cperm t b tp a p y kt kb ktp ka kp ky n HD w
    rw [Int.emod_eq_of_lt hp0 (by omega)] at r
    exact r
  have n6 := beq_eq_false_iff_ne.2 h
  clear h
  by_cases h : s.toList = [99, 116, 121, 112, 101]
  · have e : aluR s.toList ⟨t, b, tp, a, p, y⟩ ⟨kt, kb, ktp, ka, kp, ky⟩ n = some (Cp.int y) := by rw [h]; kernel_rfl
    rw [e]
    obtain rfl := ba_lit s _ h
    have r := refAlu_ctype t b tp a p y kt kb ktp ka kp ky n HD w
    rw [Int.emod_eq_of_lt hy0 (by omega)] at r
    exact r
  have n7 := beq_eq_false_iff_ne.2 h
  clear h
  by_cases h : s.toList = [99, 116, 97, 103]
  · have e : aluR s.toList ⟨t, b, tp, a, p, y⟩ ⟨kt, kb, ktp, ka, kp, ky⟩ n = some (Cp.int (if t then 1 else 0)) := by rw [h]; kernel_rfl
    rw [e]
    obtain rfl := ba_lit s _ h
    have r := refAlu_ctag t b tp a p y kt kb ktp ka kp ky n HD w
    exact r
  have n8 := beq_eq_false_iff_ne.2 h
  clear h
  rw [rest_eq s.toList ⟨t, b, tp, a, p, y⟩ ⟨kt, kb, ktp, ka, kp, ky⟩ n hd p0 p1 p2 p3 p4 p5 p6 n0 n1 n2 n3 n4 n5 n6 n7 n8]
  have HR := fun W => refDerive_any s t b tp a p y hb0 hb1 htp0 htp1 ha0 ha1 hp0 hp1 hy0 hy1 kt kb ktp ka kp ky hkb0 hkb1 hktp0 hktp1 hka0 hka1 hkp0 hkp1 hky0 hky1 n hn0 hn1 W
  unfold optV
  generalize deriveR s.toList ⟨t, b, tp, a, p, y⟩ ⟨kt, kb, ktp, ka, kp, ky⟩ n = r at HR
  obtain ⟨⟨rt, rb, rtp, ra, rp, ry⟩, hr⟩ : ∃ x, r.getD Cp.nil = x := ⟨_, rfl⟩
  rw [hr] at HR ⊢
  by_cases h1 : (s.size : Int) > 1
  · have hsz : s.size - 1 < s.size := by omega
    rcases gc : (((s[s.size - 1]'hsz).toNat : Int) == 105) with _ | _
    · exact refAlu_other s t b tp a p y kt kb ktp ka kp ky n rt rb rtp ra rp ry _ n0 n1 n2 n3 n4 n5 n6 n7 n8 hs50 (by omega) (by omega) (decide_eq_true h1) hsz gc HD ⟨HR⟩ w
    · have hb : s[s.size - 1]'hsz = 105 := by
        have h := beq_iff_eq.1 gc
        exact UInt8.toNat_inj.1 (by show _ = 105; omega)
      have hl := ba_snoc s hsz
      rw [hb] at hl
      have nb : ∀ l : List UInt8, (s.toList == l ++ [105]) = false → ((s.extract 0 (s.size - 1)).toList == l) = false := fun l h => by
        rw [beq_eq_false_iff_ne] at h ⊢
        exact fun e => h (by rw [hl, e])
      exact refAlu_with s t b tp a p y kt kb ktp ka kp ky n rt rb rtp ra rp ry _ n0 n1 n2 n3 n4 n5 n6 n7 n8 hs50 (by omega) (by omega) (decide_eq_true h1) hsz gc (nb _ p0) (nb _ p1) (nb _ p2) (nb _ p3) (nb _ p4) (nb _ p5) (nb _ p6) HD ⟨HR⟩ w
  · exact refAlu_short s t b tp a p y kt kb ktp ka kp ky n rt rb rtp ra rp ry _ n0 n1 n2 n3 n4 n5 n6 n7 n8 (decide_eq_false h1) HD ⟨HR⟩ w
end Go.Proofs.YtoecmleficekbaaDoor
