/- hasplaw1.known: true. -/
import Derived.Test.YtkdcdoihgjjnbaaWord
import Derived.Test.YtkdcdoihgjjnbaaText
import Derived.Test.YtkdcdoihgjjnbaaIs
namespace Go.Proofs.Ytkdcdoihgjjnbaa
open Go.RowKit
set_option linter.unusedSimpArgs false

theorem doEnd_lit (s : ByteArray) (a b : Int) (r : Option Int) (v : Value) (h : doR s.toList a b = r) (hv : DoEnd r (.returned v)) {e : Ending} (he : DoEnd (doR s.toList a b) e) : e = .returned v := by
  rw [h] at he; unfold DoEnd at he hv; rw [he, hv]
theorem do_lit (s : ByteArray) (a b : Int) (v : Value) (w : World) (ha : 0 ≤ a) (ha' : a < 4294967296) (hb : 0 ≤ b) (hb' : b < 4294967296) (r : Option Int) (h : doR s.toList a b = r) (hv : DoEnd r (.returned v)) :
    Calls Try.prog 11 #[.string s, .int .u32 a, .int .u32 b] w fun e w' => e = .returned v ∧ w = w' :=
  (do_any s a b ha ha' hb hb' w).mono fun _ _ ⟨he, hw⟩ => ⟨doEnd_lit s a b r v h hv he, hw⟩
theorem holds_lit (s : ByteArray) (a b : Int) (v : Value) (w : World) (ha : 0 ≤ a) (ha' : a < 4294967296) (hb : 0 ≤ b) (hb' : b < 4294967296) (r : Option Bool) (h : holdsR s.toList a b = r) (hv : HoldsEnd r (.returned v)) :
    Calls Try.prog 13 #[.string s, .int .u32 a, .int .u32 b] w fun e w' => e = .returned v ∧ w = w' :=
  (holds_any s a b ha ha' hb hb' w).mono fun _ _ ⟨he, hw⟩ => ⟨by rw [h] at he; unfold HoldsEnd at he hv; rw [he, hv], hw⟩
theorem ba_toList (l : List UInt8) : (ByteArray.mk l.toArray).toList = l := ByteArray.toList_mk l

set_option maxRecDepth 100000 in
set_option maxHeartbeats 1000000 in
theorem known1_true (w : World) : Calls Try.prog 10 #[] w fun e w' => e = .returned (.bool true) ∧ New w w' := by
  go_enter Try.func10, Try.ntmps10
  go_wp2_with fail
  refine (do_lit _ _ _ (.tuple #[.int .u32 1, .nilIface]) _ (by decide) (by decide) (by decide) (by decide) (some 1) (by rw [ba_toList]; decide +kernel) rfl).mono ?_; rintro e w' ⟨rfl, rfl⟩
  go_wp2_with fail
  refine (do_lit _ _ _ (.tuple #[.int .u32 3221225472, .nilIface]) _ (by decide) (by decide) (by decide) (by decide) (some 3221225472) (by rw [ba_toList]; decide +kernel) rfl).mono ?_; rintro e w' ⟨rfl, rfl⟩
  go_wp2_with fail
  refine (do_lit _ _ _ (.tuple #[.int .u32 0, .iface 35 (.int .i64 7)]) _ (by decide) (by decide) (by decide) (by decide) none (by rw [ba_toList]; decide +kernel) rfl).mono ?_; rintro e w' ⟨rfl, rfl⟩
  go_wp2_with fail
  refine (holds_lit _ _ _ (.tuple #[.bool true, .nilIface]) _ (by decide) (by decide) (by decide) (by decide) (some true) (by rw [ba_toList]; decide +kernel) rfl).mono ?_; rintro e w' ⟨rfl, rfl⟩
  go_wp2_with fail
  refine (holds_lit _ _ _ (.tuple #[.bool false, .iface 35 (.int .i64 7)]) _ (by decide) (by decide) (by decide) (by decide) none (by rw [ba_toList]; decide +kernel) rfl).mono ?_; rintro e w' ⟨rfl, rfl⟩
  go_wp2_with fail
  refine (is_int _ _ true rfl _).mono ?_; rintro e w' ⟨rfl, rfl⟩
  go_wp2_with fail
  refine (is_int _ _ true rfl _).mono ?_; rintro e w' ⟨rfl, rfl⟩
  go_wp2_with fail
  refine (signed_any _ _ _).mono ?_; rintro e w' ⟨rfl, rfl⟩
  rw [show signedR 384 8 = 4294967168 by decide +kernel]
  go_wp2_with fail
  refine (text_any 161 (by decide) (by decide) _).mono ?_; rintro e w7 ⟨rfl, b7⟩
  rw [show textL (161 : Int).toNat = [48, 120, 48, 48, 48, 48, 48, 48, 97, 49] by decide +kernel]
  go_wp2
  go_ret
  exact ⟨rfl, b7⟩
end Go.Proofs.Ytkdcdoihgjjnbaa
