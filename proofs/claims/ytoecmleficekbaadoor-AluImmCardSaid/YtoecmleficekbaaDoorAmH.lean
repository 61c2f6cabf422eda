/- Contracts of layer 9 that the older walks have proved. -/
import Derived.Test.YtoecmleficekbaaDoorAluE
import Derived.Test.YtoecmleficekbaaDoorRAluE
import Derived.Test.YtoecmleficekbaaDoorKn9
import Derived.Test.YtoecmleficekbaaDoorLw9F
import Derived.Test.YtoecmleficekbaaDoorAmG
namespace Go.Proofs.YtoecmleficekbaaDoor
open Go.RowKit Am
set_option linter.unusedSimpArgs false
set_option linter.unusedVariables false
def aluG (o : List UInt8) (c k : Cp) (n : Int) : Cp := (aluR o c k n).getD Cp.nil
theorem aluG_some {o : List UInt8} {c k : Cp} {n : Int} (h : (aluR o c k n).isSome = true) : aluR o c k n = some (aluG o c k n) := by
  unfold aluG; cases h' : aluR o c k n with
  | none => rw [h'] at h; cases h
  | some x => rfl
theorem known9C (nx : Nat) : SpecC Tryd.prog GS 38 [] (Am.lk []) nx (.bool true) (upOf [] []) 0 :=
  SpecC.ofCalls (A := []) (V := .bool true) (by kernel_rfl) rfl rfl (fun w hw => (known9_true w hw).mono fun e w' ⟨a, b⟩ => ⟨a, b.newer⟩) nx
theorem aluYesC (s : ByteArray) (t : Bool) (b tp a p y : Int) (kt : Bool) (kb ktp ka kp ky n : Int) (hc : Cp.Ok ⟨t, b, tp, a, p, y⟩) (hk : Cp.Ok ⟨kt, kb, ktp, ka, kp, ky⟩) (hn0 : -2147483648 ≤ n) (hn1 : n < 2147483648)
    (hr : (aluR s.toList ⟨t, b, tp, a, p, y⟩ ⟨kt, kb, ktp, ka, kp, ky⟩ n).isSome = true) (nx : Nat) :
    SpecC Tryd.prog GS 39 [.str s, .agg [.bool t, .int .u32 b, .int .u32 tp, .int .u32 a, .int .u16 p, .int .u16 y], .agg [.bool kt, .int .u32 kb, .int .u32 ktp, .int .u32 ka, .int .u16 kp, .int .u16 ky], .int .i32 n] (Am.lk []) nx
      (.tup [.agg [.bool (aluG s.toList ⟨t, b, tp, a, p, y⟩ ⟨kt, kb, ktp, ka, kp, ky⟩ n).tag, .int .u32 (aluG s.toList ⟨t, b, tp, a, p, y⟩ ⟨kt, kb, ktp, ka, kp, ky⟩ n).base, .int .u32 (aluG s.toList ⟨t, b, tp, a, p, y⟩ ⟨kt, kb, ktp, ka, kp, ky⟩ n).top, .int .u32 (aluG s.toList ⟨t, b, tp, a, p, y⟩ ⟨kt, kb, ktp, ka, kp, ky⟩ n).addr, .int .u16 (aluG s.toList ⟨t, b, tp, a, p, y⟩ ⟨kt, kb, ktp, ka, kp, ky⟩ n).perm, .int .u16 (aluG s.toList ⟨t, b, tp, a, p, y⟩ ⟨kt, kb, ktp, ka, kp, ky⟩ n).typ], .nili]) (upOf [] []) 0 :=
  SpecC.ofCalls (by kernel_rfl) rfl rfl (fun w hw => (aluDo_any s ⟨t, b, tp, a, p, y⟩ ⟨kt, kb, ktp, ka, kp, ky⟩ hc hk n hn0 hn1 w).mono fun e w' ⟨x, z⟩ => ⟨x.yes _ (aluG_some hr), z.newer⟩) nx
theorem aluNoC (s : ByteArray) (t : Bool) (b tp a p y : Int) (kt : Bool) (kb ktp ka kp ky n : Int) (hc : Cp.Ok ⟨t, b, tp, a, p, y⟩) (hk : Cp.Ok ⟨kt, kb, ktp, ka, kp, ky⟩) (hn0 : -2147483648 ≤ n) (hn1 : n < 2147483648)
    (hr : (aluR s.toList ⟨t, b, tp, a, p, y⟩ ⟨kt, kb, ktp, ka, kp, ky⟩ n).isSome = false) :
    SpecC Tryd.prog GS 39 [.str s, .agg [.bool t, .int .u32 b, .int .u32 tp, .int .u32 a, .int .u16 p, .int .u16 y], .agg [.bool kt, .int .u32 kb, .int .u32 ktp, .int .u32 ka, .int .u16 kp, .int .u16 ky], .int .i32 n] (Am.lk []) 0
      (.tup [.agg [.bool false, .int .u32 0, .int .u32 0, .int .u32 0, .int .u16 0, .int .u16 0], .ifc 114 (.ptr (.loc 0) 0)]) (upOf [(0, ⟨[.str ⟨#[97, 108, 117]⟩, .int .i64 0, .ifc 105 (.int .i64 7)], 118, true⟩)] []) 1 := by
  refine SpecC.ofBlk (by kernel_rfl) rfl (fun w hw => (aluDo_any s ⟨t, b, tp, a, p, y⟩ ⟨kt, kb, ktp, ka, kp, ky⟩ hc hk n hn0 hn1 w).mono fun e w' ⟨x, z⟩ => ?_)
  obtain ⟨F, h1, h2, h3⟩ := x.no (by simpa using hr)
  refine ⟨F, _, _, h1, z.newer, h2, h3, Nat.le_refl 3, fun C hC => ?_, fun C i hi => ?_⟩
  · refine .tup _ _ rfl fun i hi => ?_
    match i, hi with
    | 0, _ => exact conc_to C (.agg [.bool false, .int .u32 0, .int .u32 0, .int .u32 0, .int .u16 0, .int .u16 0]) _ rfl
    | 1, _ => exact .ifc _ _ _ (.ptr (.loc 0) 0 ⟨F, 0, 3⟩ hC)
    | n + 2, h => exact absurd h (by simp)
  · have q := (concL_to C [.str ⟨#[97, 108, 117]⟩, .int .i64 0, .ifc 105 (.int .i64 7)] _ rfl).2 i hi
    simpa [Array.getD_eq_getD_getElem?, List.getD_eq_getElem?_getD] using q
theorem refAluYesC (s : ByteArray) (t : Bool) (b tp a p y : Int) (kt : Bool) (kb ktp ka kp ky n : Int) (h50 : (s.size : Int) ≤ 50) (hc : Cp.Ok ⟨t, b, tp, a, p, y⟩) (hk : Cp.Ok ⟨kt, kb, ktp, ka, kp, ky⟩) (hn0 : -2147483648 ≤ n) (hn1 : n < 2147483648)
    (hr : (aluR s.toList ⟨t, b, tp, a, p, y⟩ ⟨kt, kb, ktp, ka, kp, ky⟩ n).isSome = true) (nx : Nat) :
    SpecC Tryd.prog GS 40 [.str s, .agg [.bool t, .int .u32 b, .int .u32 tp, .int .u32 a, .int .u16 p, .int .u16 y], .agg [.bool kt, .int .u32 kb, .int .u32 ktp, .int .u32 ka, .int .u16 kp, .int .u16 ky], .int .i32 n] (Am.lk []) nx
      (.tup [.agg [.bool (aluG s.toList ⟨t, b, tp, a, p, y⟩ ⟨kt, kb, ktp, ka, kp, ky⟩ n).tag, .int .u32 (aluG s.toList ⟨t, b, tp, a, p, y⟩ ⟨kt, kb, ktp, ka, kp, ky⟩ n).base, .int .u32 (aluG s.toList ⟨t, b, tp, a, p, y⟩ ⟨kt, kb, ktp, ka, kp, ky⟩ n).top, .int .u32 (aluG s.toList ⟨t, b, tp, a, p, y⟩ ⟨kt, kb, ktp, ka, kp, ky⟩ n).addr, .int .u16 (aluG s.toList ⟨t, b, tp, a, p, y⟩ ⟨kt, kb, ktp, ka, kp, ky⟩ n).perm, .int .u16 (aluG s.toList ⟨t, b, tp, a, p, y⟩ ⟨kt, kb, ktp, ka, kp, ky⟩ n).typ], .bool true]) (upOf [] []) 0 :=
  SpecC.ofCalls (by kernel_rfl) rfl rfl (fun w hw => (refAlu_any s h50 ⟨t, b, tp, a, p, y⟩ ⟨kt, kb, ktp, ka, kp, ky⟩ hc hk n hn0 hn1 w).mono fun e w' ⟨x, z⟩ => ⟨by rw [x, aluG_some hr]; rfl, z.newer⟩) nx
theorem refAluNoC (s : ByteArray) (t : Bool) (b tp a p y : Int) (kt : Bool) (kb ktp ka kp ky n : Int) (h50 : (s.size : Int) ≤ 50) (hc : Cp.Ok ⟨t, b, tp, a, p, y⟩) (hk : Cp.Ok ⟨kt, kb, ktp, ka, kp, ky⟩) (hn0 : -2147483648 ≤ n) (hn1 : n < 2147483648)
    (hr : (aluR s.toList ⟨t, b, tp, a, p, y⟩ ⟨kt, kb, ktp, ka, kp, ky⟩ n).isSome = false) (nx : Nat) :
    SpecC Tryd.prog GS 40 [.str s, .agg [.bool t, .int .u32 b, .int .u32 tp, .int .u32 a, .int .u16 p, .int .u16 y], .agg [.bool kt, .int .u32 kb, .int .u32 ktp, .int .u32 ka, .int .u16 kp, .int .u16 ky], .int .i32 n] (Am.lk []) nx
      (.tup [.agg [.bool false, .int .u32 0, .int .u32 0, .int .u32 0, .int .u16 0, .int .u16 0], .bool false]) (upOf [] []) 0 :=
  SpecC.ofCalls (by kernel_rfl) rfl rfl (fun w hw => (refAlu_any s h50 ⟨t, b, tp, a, p, y⟩ ⟨kt, kb, ktp, ka, kp, ky⟩ hc hk n hn0 hn1 w).mono fun e w' ⟨x, z⟩ => ⟨by rw [x, show aluR s.toList ⟨t, b, tp, a, p, y⟩ ⟨kt, kb, ktp, ka, kp, ky⟩ n = none by simpa using hr]; rfl, z.newer⟩) nx
theorem aluIsC (s : ByteArray) (nx : Nat) : SpecC Tryd.prog GS 41 [.str s] (Am.lk []) nx (.bool (aluR s.toList Cp.nil Cp.nil 0).isSome) (upOf [] []) 0 :=
  SpecC.ofCalls (A := [.string s]) (V := .bool (aluR s.toList Cp.nil Cp.nil 0).isSome) (by kernel_rfl) rfl rfl (fun w hw => (aluIs_any s w).mono fun e w' ⟨x, z⟩ => ⟨x, z.newer⟩) nx
theorem refSubC (t : Bool) (b tp a p y : Int) (kt : Bool) (kb ktp ka kp ky : Int) (nx : Nat) :
    SpecC Tryd.prog GS 42 [.agg [.bool t, .int .u32 b, .int .u32 tp, .int .u32 a, .int .u16 p, .int .u16 y], .agg [.bool kt, .int .u32 kb, .int .u32 ktp, .int .u32 ka, .int .u16 kp, .int .u16 ky]] (Am.lk []) nx
      (.bool (Cp.sub ⟨t, b, tp, a, p, y⟩ ⟨kt, kb, ktp, ka, kp, ky⟩)) (upOf [] []) 0 :=
  SpecC.ofCalls (V := .bool (Cp.sub ⟨t, b, tp, a, p, y⟩ ⟨kt, kb, ktp, ka, kp, ky⟩)) (by kernel_rfl) rfl rfl (fun w hw => (refSub_any t b tp a p y kt kb ktp ka kp ky w).mono fun e w' ⟨x, z⟩ => ⟨x, z.newer⟩) nx
end Go.Proofs.YtoecmleficekbaaDoor
