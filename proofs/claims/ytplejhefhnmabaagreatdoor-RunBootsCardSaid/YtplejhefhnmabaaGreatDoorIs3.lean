/- errors.Is of a *api.Fault (at any place of a block) that wraps a number-error, at a number-error as target. -/
import Derived.Test.YtplejhefhnmabaaGreatDoorIs
import Derived.Test.YtplejhefhnmabaaGreatDoorLay
import Derived.Test.YtplejhefhnmabaaGreatDoorIs2
namespace Go.Proofs.YtplejhefhnmabaaGreatDoor
open Go.RowKit Go.Extern.Stop Go.Stop Go.Extern
set_option linter.unusedSimpArgs false

set_option maxRecDepth 100000 in
set_option maxHeartbeats 1000000 in
theorem unwrap_at (F o : Nat) (v : Value) (w : World) (h : w.cell? ⟨F, o + 2, none⟩ = some v) : Calls Tryz.prog 147 #[.pointer (some ⟨F, o, none⟩)] w fun e w' => e = .returned v ∧ w = w' := by
  go_enter Tryz.func147, Tryz.ntmps147
  go_wp2
  go_ret
  exact ⟨rfl, rfl⟩

set_option maxRecDepth 100000 in
set_option maxHeartbeats 2000000 in
theorem is_fault_at (F o : Nat) (a c : Int) (b : Bool) (hb : (a == c) = b) (w : World) (hF : w.cell? ⟨F, o + 2, none⟩ = some (.iface 63 (.int .i64 a))) :
    Calls Tryz.prog 15 #[.iface 64 (.pointer (some ⟨F, o, none⟩)), .iface 63 (.int .i64 c)] w fun e w' => e = .returned (.bool b) ∧ w = w' := by
  obtain ⟨i, hi, hcmp⟩ := Option.map_eq_some_iff.1 Is.comp
  have hT := @run_callFunc_extern Tryz.prog 35 _ Extern.ReflectliteType.typeOf Tryz.func35 (by kernel_rfl) (by kernel_rfl) (by kernel_rfl) (by kernel_rfl)
  have hC := @run_callFunc_extern Tryz.prog 153 _ (Extern.ReflectliteType.method fun t => do Rtype.noPackHeld "Comparable" t; pure (.bool (← typeInfo t).comparable)) Tryz.func153 (by kernel_rfl) (by kernel_rfl) (by kernel_rfl) (by kernel_rfl)
  have tT := Is.typeOf
  have cT := Is.comparable
  have mR := Is.methodComparable
  have nE := Is.noIs
  have uE := Is.noUnwrap
  have vE := Is.noUnwraps
  have nF := IsF.noIs
  have uF := IsF.hasUnwrap
  have mU := IsF.methodUnwrap
  have qF := IsF.types
  have HU : Kp _ := ⟨fun v h => unwrap_at F o v w h⟩
  have KF : Kp _ := ⟨hF⟩
  clear hF
  have heq := run_eql_iface_int (P := Tryz.prog) w a c Tryz.underlying28 Tryz.underlying63 hi hcmp
  rw [hb] at heq
  clear hb
  go_enter Tryz.func15, Tryz.ntmps15
  cases b <;> go_wp2
  all_goals refine wp_loop_rounds 2 ?_
  all_goals rw [rounds_succ]
  all_goals go_wp2_with ((go_at_call 147; refine (HU.out _ KF.out).mono ?_; rintro e w' ⟨rfl, rfl⟩))
  all_goals rw [rounds_succ]
  all_goals go_wp2
  all_goals go_ret
  all_goals exact ⟨rfl, rfl⟩
end Go.Proofs.YtplejhefhnmabaaGreatDoor
