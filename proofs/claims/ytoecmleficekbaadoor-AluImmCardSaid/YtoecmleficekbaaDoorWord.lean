/- Contracts of package word and of its reference. -/
import Derived.Test.YtoecmleficekbaaDoorProg
import Derived.Test.YtoecmleficekbaaDoorWordF
import Derived.Test.YtoecmleficekbaaDoorLay
import Derived.Lib.Hide
import Derived.Outline
import Derived.Deep.Light
import Derived.Laws.Bits64
namespace Go.Proofs.YtoecmleficekbaaDoor
open Go.RowKit
set_option linter.unusedSimpArgs false

/-- A call of word.Do that ends so. -/
def DoEnd (r : Option Int) (e : Ending) : Prop := e = .returned (.tuple #[.int .u32 (r.getD 0), match r with | some _ => .nilIface | none => .iface 105 (.int .i64 7)])
theorem DoEnd.some {r : Option Int} {v : Int} (h : r = some v) : DoEnd r (.returned (.tuple #[.int .u32 v, .nilIface])) := by rw [h]; rfl
theorem DoEnd.none {r : Option Int} (h : r = none) : DoEnd r (.returned (.tuple #[.int .u32 0, .iface 105 (.int .i64 7)])) := by rw [h]; rfl

set_option maxRecDepth 100000 in
set_option maxHeartbeats 1000000 in
theorem shifted_any (a : Int) (w : World) : Calls Tryd.prog 128 #[.int .u32 a] w fun e w' => e = .returned (.int .u32 (bits .xor .u32 a 2147483648)) ∧ w = w' := by
  go_enter Tryd.func128, Tryd.ntmps128
  go_wp2
  go_ret
  exact ⟨rfl, rfl⟩

set_option maxRecDepth 100000 in
set_option maxHeartbeats 1000000 in
theorem do_any (s : ByteArray) (a b : Int) (ha : 0 ≤ a) (ha' : a < 4294967296) (hb : 0 ≤ b) (hb' : b < 4294967296) (w : World) : Calls Tryd.prog 112 #[.string s, .int .u32 a, .int .u32 b] w fun e w' => DoEnd (doR s.toList a b) e ∧ w = w' := by
  go_enter Tryd.func112, Tryd.ntmps112
  repeat' (first | (with_reducible refine then_normal ?_) | (with_reducible refine then_ret ?_) | (with_reducible refine then_exit ?_) | (with_reducible refine inBlock_normal ?_) | (with_reducible refine inBlock_ret ?_) | (with_reducible refine inBlock_same ?_) | (with_reducible refine inBlock_other (by decide) ?_) | (go_at_call 128; (with_reducible refine (shifted_any _ _).mono ?_); rintro e w' ⟨rfl, rfl⟩) | go_values | go_skip | go_guarded | go_step | go_upon | (simp only [Int.not_lt, Int.not_le] at *; go_simp) | (go_ite <;> go_prune <;> (try go_simp)))
  all_goals (try go_ret2)
  all_goals (try go_light)
  all_goals first | (exfalso; simp_all; done) | (refine ⟨DoEnd.some ?_, rfl⟩) | (refine ⟨DoEnd.none ?_, rfl⟩)
  all_goals have hx := xor_sign_lt a b ha ha' hb hb'
  all_goals have hy : bits .xor .u32 b 2147483648 ≤ bits .xor .u32 a 2147483648 ↔ ¬ wrap32 a < wrap32 b := by rw [← Int.not_lt, hx]
  all_goals (try simp only [hx, hy] at *)
  all_goals first | (simp [doR, *]; done) | (rw [Int.tdiv_eq_ediv_of_nonneg ha]; have := Int.ediv_le_self b ha; have := Int.ediv_nonneg ha hb; simp [doR, *]; omega) | (have e0 : b = 0 := eq_of_beq ‹(b == 0) = true›; simp [doR, *]; done)

set_option maxRecDepth 100000 in
set_option maxHeartbeats 1000000 in
theorem refDo_any (s : ByteArray) (a b : Int) (ha : 0 ≤ a) (ha' : a < 4294967296) (hb : 0 ≤ b) (hb' : b < 4294967296) (w : World) : Calls Tryd.prog 85 #[.string s, .int .u32 a, .int .u32 b] w fun e w' => (e = .returned (.tuple #[.int .u32 ((doR s.toList a b).getD 0), .bool (doR s.toList a b).isSome])) ∧ w = w' := by
  go_enter Tryd.func85, Tryd.ntmps85
  repeat' (first | (with_reducible refine then_normal ?_) | (with_reducible refine then_ret ?_) | (with_reducible refine then_exit ?_) | (with_reducible refine inBlock_normal ?_) | (with_reducible refine inBlock_ret ?_) | (with_reducible refine inBlock_same ?_) | (with_reducible refine inBlock_other (by decide) ?_) | go_values | go_skip | go_guarded | go_step | go_upon | (simp only [Int.not_lt, Int.not_le] at *; go_simp) | (go_ite <;> go_prune <;> (try go_simp)))
  all_goals (try go_ret2)
  all_goals (try go_light)
  all_goals first | (exfalso; simp_all; done) | (refine ⟨congrArg Ending.returned (congrArg Value.tuple ?_), rfl⟩)
  all_goals have hx := and31 b hb hb'
  all_goals have hz : min (IntKind.u64.wrap (b % 32)).toNat 32 = (b % 32).toNat := by rw [IntKind.wrap_u64]; omega
  all_goals (have hd : a.tdiv b % 4294967296 = a / b := by rw [Int.tdiv_eq_ediv_of_nonneg ha]; have := Int.ediv_le_self b ha; have := Int.ediv_nonneg ha hb; omega)
  all_goals first | (simp [doR, *]; done) | (have e := eq_of_beq ‹(s.toList == _) = true›; first | (have e0 : b = 0 := eq_of_beq ‹(b == 0) = true›; simp [e, doR, e0]; done) | (simp [e, doR, hx, hz, hd, Int.sub_eq_add_neg, *]; done) | (simp [e, doR, Int.sub_eq_add_neg]; done))
end Go.Proofs.YtoecmleficekbaaDoor
