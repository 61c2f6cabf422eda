/- What alu.Do ends in; alu.Is; the reference's Alu, whole. -/
import Derived.Test.YtoecmleficekbaaDoorAluQ
import Derived.Test.YtoecmleficekbaaDoorRAlu
namespace Go.Proofs.YtoecmleficekbaaDoor
open Go.RowKit
set_option linter.unusedSimpArgs false
set_option linter.unusedVariables false

structure AluEnd (r : Option Cp) (w w' : World) (e : Ending) : Prop where
  yes : ∀ c, r = some c → e = .returned (.tuple #[capV c, .nilIface])
  no : r = none → ∃ F, e = .returned (.tuple #[capV Cp.nil, .iface 114 (.pointer (some ⟨F, 0, none⟩))]) ∧ w.heap.size ≤ F ∧ w'.heap[F]? = some (.cells #[.string ⟨#[97, 108, 117]⟩, .int .i64 0, .iface 105 (.int .i64 7)] 118)

/-- An answer that may be none, as two results. -/
def optV (r : Option Cp) : Value := .tuple #[capV (r.getD Cp.nil), .bool r.isSome]

theorem numbers_opt (s : ByteArray) (c k : Cp) (hc : c.Ok) (hk : k.Ok) (w : World) :
    Calls Tryd.prog 76 #[.string s, .int .u32 c.addr, .int .u32 k.addr] w fun e w' => e = .returned (optV (numbersR s.toList c k)) ∧ New w w' := by
  refine (numbers_any s c.addr k.addr hc.a0 hc.a1 hk.a0 hk.a1 w).mono fun e w' ⟨he, hn⟩ => ⟨?_, hn⟩
  rw [he]; unfold numbersR optV
  cases doR s.toList c.addr k.addr <;> rfl

theorem aluDo_any (s : ByteArray) (c k : Cp) (hc : c.Ok) (hk : k.Ok) (n : Int) (hn0 : -2147483648 ≤ n) (hn1 : n < 2147483648) (w : World) :
    Calls Tryd.prog 39 #[.string s, capV c, capV k, .int .i32 n] w fun e w' => AluEnd (aluR s.toList c k n) w w' e ∧ New w w' := by
  have H1 := numbers_opt s c k hc hk
  obtain ⟨t, b, tp, a, p, y⟩ := c
  obtain ⟨kt, kb, ktp, ka, kp, ky⟩ := k
  obtain ⟨hb0, hb1, htp0, htp1, ha0, ha1, hp0, hp1, hy0, hy1⟩ := hc
  obtain ⟨hkb0, hkb1, hktp0, hktp1, hka0, hka1, hkp0, hkp1, hky0, hky1⟩ := hk
  simp only at *
  have H2 := fun W => plain_any s t b tp a p y ha0 ha1 n W
  have H3 := fun W => parts_any s t b tp a p y hp0 hp1 hy0 hy1 W
  have H4 := fun W => derived_any s t b tp a p y hb0 hb1 htp0 htp1 ha0 ha1 hp0 hp1 hy0 hy1 kt kb ktp ka kp ky hkb0 hkb1 hktp0 hktp1 hka0 hka1 hkp0 hkp1 hky0 hky1 n hn0 hn1 W
  have H5 := fun W => compared_any s t b tp a p y kt kb ktp ka kp ky W
  unfold aluR
  have yes : ∀ (r : Cp) (e : Ending) (w w' : World), e = .returned (.tuple #[capV r, .nilIface]) → AluEnd (some r) w w' e := fun r e w w' he => ⟨fun c hc => by injection hc with hc; rw [← hc]; exact he, fun h => by cases h⟩
  rcases e1 : numbersR s.toList ⟨t, b, tp, a, p, y⟩ ⟨kt, kb, ktp, ka, kp, ky⟩ with _ | ⟨rt, rb, rtp, ra, rp, ry⟩
  · rw [e1] at H1
    rcases e2 : plainR s.toList ⟨t, b, tp, a, p, y⟩ n with _ | ⟨rt, rb, rtp, ra, rp, ry⟩
    · rw [e2] at H2
      rcases e3 : partsR s.toList ⟨t, b, tp, a, p, y⟩ with _ | ⟨rt, rb, rtp, ra, rp, ry⟩
      · rw [e3] at H3
        rcases e4 : derivedR s.toList ⟨t, b, tp, a, p, y⟩ ⟨kt, kb, ktp, ka, kp, ky⟩ n with _ | ⟨rt, rb, rtp, ra, rp, ry⟩
        · rw [e4] at H4
          rcases e5 : comparedR s.toList ⟨t, b, tp, a, p, y⟩ ⟨kt, kb, ktp, ka, kp, ky⟩ with _ | ⟨rt, rb, rtp, ra, rp, ry⟩
          · rw [e5] at H5
            exact (aluDo_none s t b tp a p y kt kb ktp ka kp ky n ⟨H1⟩ ⟨H2⟩ ⟨H3⟩ ⟨H4⟩ ⟨H5⟩ w).mono fun e w' ⟨he, hn⟩ => ⟨⟨(fun c hc => by cases hc), (fun _ => he)⟩, hn⟩
          · rw [e5] at H5
            exact (aluDo_5 s t b tp a p y kt kb ktp ka kp ky n rt rb rtp ra rp ry ⟨H1⟩ ⟨H2⟩ ⟨H3⟩ ⟨H4⟩ ⟨H5⟩ w).mono fun e w' ⟨he, hn⟩ => ⟨yes _ _ _ _ he, hn⟩
        · rw [e4] at H4
          exact (aluDo_4 s t b tp a p y kt kb ktp ka kp ky n rt rb rtp ra rp ry ⟨H1⟩ ⟨H2⟩ ⟨H3⟩ ⟨H4⟩ w).mono fun e w' ⟨he, hn⟩ => ⟨yes _ _ _ _ he, hn⟩
      · rw [e3] at H3
        exact (aluDo_3 s t b tp a p y kt kb ktp ka kp ky n rt rb rtp ra rp ry ⟨H1⟩ ⟨H2⟩ ⟨H3⟩ w).mono fun e w' ⟨he, hn⟩ => ⟨yes _ _ _ _ he, hn⟩
    · rw [e2] at H2
      exact (aluDo_2 s t b tp a p y kt kb ktp ka kp ky n rt rb rtp ra rp ry ⟨H1⟩ ⟨H2⟩ w).mono fun e w' ⟨he, hn⟩ => ⟨yes _ _ _ _ he, hn⟩
  · rw [e1] at H1
    exact (aluDo_1 s t b tp a p y kt kb ktp ka kp ky n rt rb rtp ra rp ry ⟨H1⟩ w).mono fun e w' ⟨he, hn⟩ => ⟨yes _ _ _ _ he, hn⟩

theorem nil_ok : Cp.nil.Ok := ⟨by decide, by decide, by decide, by decide, by decide, by decide, by decide, by decide, by decide, by decide⟩
set_option maxRecDepth 100000 in
set_option maxHeartbeats 1000000 in
theorem aluIs_any (s : ByteArray) (w : World) : Calls Tryd.prog 41 #[.string s] w fun e w' => e = .returned (.bool (aluR s.toList Cp.nil Cp.nil 0).isSome) ∧ New w w' := by
  have HD : Kp _ := ⟨fun W => aluDo_any s Cp.nil Cp.nil nil_ok nil_ok 0 (by decide) (by decide) W⟩
  simp only [capV, Cp.nil] at HD
  generalize hr : aluR s.toList Cp.nil Cp.nil 0 = r
  simp only [Cp.nil] at hr
  rw [hr] at HD
  rcases r with _ | ⟨rt, rb, rtp, ra, rp, ry⟩
  all_goals
    clear hr
    go_enter Tryd.func41, Tryd.ntmps41
    repeat' (first | (with_reducible refine then_normal ?_) | (with_reducible refine then_ret ?_) | (with_reducible refine then_exit ?_) | (with_reducible refine inBlock_normal ?_) | (with_reducible refine inBlock_ret ?_) | (with_reducible refine inBlock_same ?_) | (with_reducible refine inBlock_other (by decide) ?_) | fail | go_values | go_skip | go_guarded | go_step | go_upon | (simp only [Int.not_lt, Int.not_le] at *; go_simp) | (go_ite <;> go_prune <;> (try go_simp)))
  · refine (HD.out _).mono ?_; rintro e w1 ⟨he, hn⟩
    obtain ⟨F, rfl, _, _⟩ := he.no rfl
    have HN : Kp (New w w1) := ⟨hn⟩
    clear he hn
    simp only [capV, Cp.nil]
    repeat' (first | (with_reducible refine then_normal ?_) | (with_reducible refine then_ret ?_) | (with_reducible refine then_exit ?_) | (with_reducible refine inBlock_normal ?_) | (with_reducible refine inBlock_ret ?_) | (with_reducible refine inBlock_same ?_) | (with_reducible refine inBlock_other (by decide) ?_) | fail | go_values | go_skip | go_guarded | go_step | go_upon | (simp only [Int.not_lt, Int.not_le] at *; go_simp) | (go_ite <;> go_prune <;> (try go_simp)))
    go_ret
    exact ⟨rfl, by repeat (first | (with_reducible exact HN.out) | (with_reducible refine Chg.alloc ?_ _))⟩
  · refine (HD.out _).mono ?_; rintro e w1 ⟨he, hn⟩
    obtain rfl := he.yes _ rfl
    have HN : Kp (New w w1) := ⟨hn⟩
    clear he hn
    simp only [capV]
    repeat' (first | (with_reducible refine then_normal ?_) | (with_reducible refine then_ret ?_) | (with_reducible refine then_exit ?_) | (with_reducible refine inBlock_normal ?_) | (with_reducible refine inBlock_ret ?_) | (with_reducible refine inBlock_same ?_) | (with_reducible refine inBlock_other (by decide) ?_) | fail | go_values | go_skip | go_guarded | go_step | go_upon | (simp only [Int.not_lt, Int.not_le] at *; go_simp) | (go_ite <;> go_prune <;> (try go_simp)))
    go_ret
    exact ⟨rfl, by repeat (first | (with_reducible exact HN.out) | (with_reducible refine Chg.alloc ?_ _))⟩
end Go.Proofs.YtoecmleficekbaaDoor
