/- word.Text and its reference, by contracts. -/
import Derived.Test.YtkdcdoihgjjnbaaProg
import Derived.Test.YtkdcdoihgjjnbaaHeap
import Derived.Test.YtkdcdoihgjjnbaaTextF
import Derived.Lib.SlBytesConst
import Derived.LoopTactic
import Derived.Outline
import Derived.Deep.Light
import Derived.Lib.Hide
namespace Go.Proofs.Ytkdcdoihgjjnbaa
open Go.RowKit
set_option linter.unusedSimpArgs false
set_option linter.unusedVariables false

theorem info_u8 : (Try.prog.info? 5).map (fun i => (i.zero, i.size, i.bytes)) = some (some (.int .u8 0), 1, 1) := by kernel_rfl
def byteVals (l : List UInt8) : List Value := l.map fun b => .int .u8 (b.toNat : Int)

set_option maxRecDepth 100000 in
set_option maxHeartbeats 1000000 in
theorem text_any (v : Int) (hv : 0 ≤ v) (hv' : v < 4294967296) (w : World) : Calls Try.prog 18 #[.int .u32 v] w fun e w' => e = .returned (.string ⟨(textL v.toNat).toArray⟩) ∧ New w w' := by
  have kc := fun (w : World) (C : Array Value) (n c : Nat) => Lib.run_convert_bytes_const (P := Try.prog) w 64 5 C n c Try.underlying64 Try.underlying5
  obtain ⟨i0, hi, hz0, hz1, hz2⟩ := info_parts info_u8
  have HI := Lib.hid hi; have HZ0 := Lib.hid hz0; have HZ1 := Lib.hid hz1; have HZ2 := Lib.hid hz2
  clear hi hz0 hz1 hz2
  go_enter Try.func18, Try.ntmps18
  go_wp2
  go_loopw [3, 4] (fun b at_ wr => ∃ k : Nat, k ≤ 8 ∧ at_ = .int .i64 (28 - 4 * (k : Int)) ∧ Hid (Own wr w.heap.size 5 1 b (k + 2) (byteVals (textTo v.toNat k))) ∧ Hid (New w wr)) (fun _ at_ _ => (intOf at_ + 4).toNat)
  case atStart => exact ⟨0, by omega, rfl, Own.lit w w.heap.size _ 1 _ 2 2 2 3 _ (Nat.le_refl _) rfl (by decide) (by omega) rfl (.inr (by decide)) rfl, (Chg.refl _ w).alloc _⟩
  case round =>
    obtain ⟨k, hk, rfl, hown, hnew⟩ := hrel
    by_cases hlt : k < 8
    · have hb := shift_digit v k hv hv' hlt
      have hd16 : v.toNat / 16 ^ (7 - k) % 16 < 16 := Nat.mod_lt _ (by decide)
      have hts := Lib.hid (textTo_succ v.toNat k)
      have hdg : Hid (digit v.toNat k = hexB (v.toNat / 16 ^ (7 - k) % 16)) := rfl
      generalize v.toNat / 16 ^ (7 - k) % 16 = d at hb hd16 hdg
      go_wp2_with (at_builtin; refine wpList_append_Own _ rfl _ _ 64 64 rfl w.heap.size 5 i0 (.int .u8 0) 1 1 Try.underlying64 HI.out HZ0.out HZ1.out HZ2.out rfl _ _ _ rfl (hown.out.new ((Chg.refl _ _).alloc _)) _ 1 [.int .u8 _] rfl (Src.ofSlice _ Try.underlying64 _ _ _ _ rfl (cells_one _ _ _ _) ?_) ?_ ?_ ?_ ?_)
      · intro u hu; simp at hu; rw [hu]; rfl
      · unfold maxLen; omega
      · omega
      · have := hnew.out.size; simp; omega
      · intro v' w' hown' hc _
        have HO : Hid (Own w' w.heap.size 5 1 v' (k + 1 + 2) (byteVals (textTo v.toNat (k + 1)))) := by
          rw [hts.out, hdg.out]
          rw [hexes_at d hd16] at hown'
          have e : byteVals (textTo v.toNat k ++ [hexB d]) = byteVals (textTo v.toNat k) ++ [Value.int .u8 ((hexB d).toNat : Int)] := by simp [byteVals]
          rw [e]
          exact hown'
        have HN : Hid (New w w') := Chg.append (hnew.out.alloc _) (hown.out.new ((Chg.refl _ _).alloc _)) hc
        clear hown' hc hown hnew hb
        go_wp2
        go_roundw
        case rel => exact ⟨k + 1, by omega, by rw [show (28 - 4 * ((k + 1 : Nat) : Int)) = 28 - 4 * (k : Int) - 4 by omega], HO, HN⟩
        case measure => simp [intOf]; omega
    · obtain rfl : k = 8 := by omega
      have hcv := run_string_Own (P := Try.prog) wr w.heap.size 64 9 5 u3 10 (textTo v.toNat 8) Try.underlying64 Try.underlying5 Try.underlying9 hown.out (by omega)
      go_wp2
      go_ret
      exact ⟨rfl, hnew⟩

set_option maxRecDepth 100000 in
set_option maxHeartbeats 1000000 in
theorem refText_any (v : Int) (hv : 0 ≤ v) (hv' : v < 4294967296) (w : World) : Calls Try.prog 19 #[.int .u32 v] w fun e w' => e = .returned (.string ⟨(textL v.toNat).toArray⟩) ∧ w = w' := by
  obtain ⟨n, rfl⟩ := Int.eq_ofNat_of_zero_le hv
  rw [Int.toNat_natCast]
  have hR : Kp ([48, 120] ++ textBack n 8 = textL n) := ⟨textBack_all n⟩
  generalize textL n = R at hR ⊢
  have hn : Kp (n < 4294967296) := ⟨by omega⟩
  clear hv hv'
  go_enter Try.func19, Try.ntmps19
  go_wp2
  go_loop [0, 3, 4] (fun x s i => ∃ (k : Nat) (X : Int) (tb : List UInt8), k ≤ 8 ∧ i = .int .i64 (k : Int) ∧ x = .int .u32 X ∧ s = .string ⟨tb.toArray⟩ ∧ 0 ≤ X ∧ X < 4294967296 ∧ Kp (X = ((n / 16 ^ k : Nat) : Int)) ∧ Kp (tb = textBack n k)) (fun _ _ i => (8 - intOf i).toNat)
  case atStart => exact ⟨0, n, [], by omega, rfl, rfl, rfl, by omega, by have := hn.out; omega, ⟨by simp⟩, ⟨rfl⟩⟩
  case round =>
    obtain ⟨k, X, tb, hk, rfl, rfl, rfl, hX0, hX1, hm, htb⟩ := hrel
    by_cases hlt : k < 8
    · obtain ⟨d, hd16, hb, hdg⟩ : ∃ d : Nat, d < 16 ∧ bits .and .u32 X 15 = (d : Int) ∧ Kp (digit n (7 - k) = hexB d) := by
        refine ⟨n / 16 ^ k % 16, Nat.mod_lt _ (by decide), ?_, ⟨by unfold digit; rw [show 7 - (7 - k) = k by omega]⟩⟩
        rw [hm.out]; exact low_digit _ (by have := hm.out; omega)
      have hsh : Kp (X / 16 = ((n / 16 ^ (k + 1) : Nat) : Int)) := ⟨by rw [Nat.pow_succ, hm.out, ← Nat.div_div_eq_div_mul]; rfl⟩
      have htl : tb.length ≤ 8 := by rw [htb.out, textBack_length]; omega
      have hsl := hexes_slice d hd16
      go_wp2
      refine ⟨⟨k + 1, X / 16, hexB d :: tb, by omega, by go_num, rfl, congrArg Value.string (ba_append [hexB d] tb), by omega, by omega, hsh, ⟨?_⟩⟩, by simp [intOf]; omega⟩
      rw [textBack, hdg.out, htb.out]
    · obtain rfl : k = 8 := by omega
      have e : R = [48, 120] ++ tb := by rw [← hR.out, htb.out]
      have E : Kp _ := ⟨e⟩
      clear e
      have htl : tb.length ≤ 8 := by rw [htb.out, textBack_length]; omega
      go_wp2
      go_ret
      exact ⟨by rw [E.out, ← ba_append]; rfl, rfl⟩
end Go.Proofs.Ytkdcdoihgjjnbaa
