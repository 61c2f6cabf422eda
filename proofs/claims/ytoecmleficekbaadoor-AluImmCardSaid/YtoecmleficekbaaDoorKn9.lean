/- hasplaw9.known: true (written by gen_law9.py). -/
import Derived.Test.YtoecmleficekbaaDoorAluE
import Derived.Test.YtoecmleficekbaaDoorTells
import Derived.Test.YtoecmleficekbaaDoorNewly
import Derived.Test.YtoecmleficekbaaDoorGenC
import Derived.Deep.DeepCutAuto
import Derived.Deep.RegionHeld3
namespace Go.Proofs.YtoecmleficekbaaDoor
open Go.RowKit
set_option linter.unusedSimpArgs false
set_option linter.unusedVariables false

theorem aluDo_lit (s : ByteArray) (c k : Cp) (n : Int) (r : Cp) (h : aluR s.toList c k n = some r) (hc : c.Ok) (hk : k.Ok) (hn0 : -2147483648 ≤ n) (hn1 : n < 2147483648) (w : World) :
    Calls Tryd.prog 39 #[.string s, capV c, capV k, .int .i32 n] w fun e w' => e = .returned (.tuple #[capV r, .nilIface]) ∧ New w w' :=
  (aluDo_any s c k hc hk n hn0 hn1 w).mono fun e w' ⟨he, hn⟩ => ⟨he.yes r h, hn⟩
theorem aluDo_bad (s : ByteArray) (c k : Cp) (n : Int) (h : aluR s.toList c k n = none) (hc : c.Ok) (hk : k.Ok) (hn0 : -2147483648 ≤ n) (hn1 : n < 2147483648) (w : World) :
    Calls Tryd.prog 39 #[.string s, capV c, capV k, .int .i32 n] w fun e w' => (∃ F, e = .returned (.tuple #[capV Cp.nil, faultV F]) ∧ w.heap.size ≤ F ∧ FaultAt w' F ⟨#[97, 108, 117]⟩ 0 7) ∧ New w w' :=
  (aluDo_any s c k hc hk n hn0 hn1 w).mono fun e w' ⟨he, hn⟩ => ⟨he.no h, hn⟩
theorem heap_drew {w : World} {k : Nat} {o : Obj} (h : w.heap[k]? = some o) : w.drew.heap[k]? = some o := h
theorem new_heap {w w' : World} {k : Nat} {o : Obj} (h : New w w') (hk : w.heap[k]? = some o) : w'.heap[k]? = some o := h.heap hk (fun x => x)
theorem six_stores {W : World} {g : Nat} {T : TypeId} {a0 a1 a2 a3 a4 a5 v0 v1 v2 v3 v4 v5 : Value} (h : W.heap[g]? = some (.cells #[a0, a1, a2, a3, a4, a5] T)) :
    ((((((W.setCell ⟨g, 0, none⟩ v0).setCell ⟨g, 1, none⟩ v1).setCell ⟨g, 2, none⟩ v2).setCell ⟨g, 3, none⟩ v3).setCell ⟨g, 4, none⟩ v4).setCell ⟨g, 5, none⟩ v5).heap[g]? = some (.cells #[v0, v1, v2, v3, v4, v5] T) :=
  heap_setCell_at (heap_setCell_at (heap_setCell_at (heap_setCell_at (heap_setCell_at (heap_setCell_at h 0 v0) 1 v1) 2 v2) 3 v3) 4 v4) 5 v5
theorem six_new {W0 W : World} {g : Nat} {v0 v1 v2 v3 v4 v5 : Value} (h : New W0 W) (hg : W0.heap.size ≤ g) :
    New W0 ((((((W.setCell ⟨g, 0, none⟩ v0).setCell ⟨g, 1, none⟩ v1).setCell ⟨g, 2, none⟩ v2).setCell ⟨g, 3, none⟩ v3).setCell ⟨g, 4, none⟩ v4).setCell ⟨g, 5, none⟩ v5) :=
  (((((h.setCell (.inl hg) v0).setCell (.inl hg) v1).setCell (.inl hg) v2).setCell (.inl hg) v3).setCell (.inl hg) v4).setCell (.inl hg) v5
theorem aluIs_lit (s : ByteArray) (q : Bool) (h : (aluR s.toList Cp.nil Cp.nil 0).isSome = q) (w : World) : Calls Tryd.prog 41 #[.string s] w fun e w' => e = .returned (.bool q) ∧ New w w' := by
  rw [← h]; exact aluIs_any s w

set_option maxRecDepth 100000 in
set_option maxHeartbeats 8000000 in
theorem known9_true (w : World) (hg : Gl w) : Calls Tryd.prog 38 #[] w fun e w' => e = .returned (.bool true) ∧ New w w' := by
  have HI : Kp (∀ (v : Int) (W : World), Calls Tryd.prog 37 #[.int .u32 v] W fun e w' => e = .returned (.agg #[.bool false, .int .u32 0, .int .u32 0, .int .u32 v, .int .u16 0, .int .u16 0]) ∧ New W w') := ⟨fun v W => capInt_any v W⟩
  have H1 : Kp _ := ⟨fun W => aluIs_lit ⟨#[99, 115, 101, 97, 108]⟩ true (by rw [ByteArray.toList_mk]; kernel_rfl) W⟩
  have H2 : Kp _ := ⟨fun W => aluIs_lit ⟨#[108, 119]⟩ false (by rw [ByteArray.toList_mk]; kernel_rfl) W⟩
  have KG : Kp (Gl w) := ⟨hg⟩
  clear hg
  have HDo : Kp (∀ W, Calls Tryd.prog 39 #[.string ⟨#[99, 115, 117, 98, 115, 101, 116]⟩, .agg #[.bool true, .int .u32 0, .int .u32 16, .int .u32 0, .int .u16 127, .int .u16 0], capV (Cp.root 64), .int .i32 0] W fun e w' => e = .returned (.tuple #[.agg #[.bool false, .int .u32 0, .int .u32 0, .int .u32 1, .int .u16 0, .int .u16 0], .nilIface]) ∧ New W w') := ⟨fun W => aluDo_lit _ ⟨true, 0, 16, 0, 127, 0⟩ (Cp.root 64) 0 ⟨false, 0, 0, 1, 0, 0⟩ (by rw [ByteArray.toList_mk]; kernel_rfl) ⟨by decide, by decide, by decide, by decide, by decide, by decide, by decide, by decide, by decide, by decide⟩ ⟨by decide, by decide, by decide, by decide, by decide, by decide, by decide, by decide, by decide, by decide⟩ (by decide) (by decide) W⟩
  go_enter Tryd.func38, Tryd.ntmps38
  repeat' (first | (with_reducible refine then_normal ?_) | (with_reducible refine then_ret ?_) | (with_reducible refine then_exit ?_) | (with_reducible refine inBlock_normal ?_) | (with_reducible refine inBlock_ret ?_) | (with_reducible refine inBlock_same ?_) | (with_reducible refine inBlock_other (by decide) ?_) | fail | go_values | go_skip | go_guarded | go_step | go_upon | (simp only [Int.not_lt, Int.not_le] at *; go_simp) | (go_ite <;> go_prune <;> (try go_simp)))
  refine (capInt_any 5 _).mono ?_; rintro e w1 ⟨rfl, hn⟩
  replace KG : Kp (Gl w1) := ⟨KG.out.new hn⟩
  have HN : Kp (New w w1) := ⟨hn⟩
  clear hn
  repeat' (first | (with_reducible refine then_normal ?_) | (with_reducible refine then_ret ?_) | (with_reducible refine then_exit ?_) | (with_reducible refine inBlock_normal ?_) | (with_reducible refine inBlock_ret ?_) | (with_reducible refine inBlock_same ?_) | (with_reducible refine inBlock_other (by decide) ?_) | fail | go_values | go_skip | go_guarded | go_step | go_upon | (simp only [Int.not_lt, Int.not_le] at *; go_simp) | (go_ite <;> go_prune <;> (try go_simp)))
  refine (capInt_any 0 _).mono ?_; rintro e w2 ⟨rfl, hn⟩
  replace KG : Kp (Gl w2) := ⟨KG.out.new hn⟩
  replace HN : Kp (New w w2) := ⟨HN.out.new hn⟩
  clear hn
  repeat' (first | (with_reducible refine then_normal ?_) | (with_reducible refine then_ret ?_) | (with_reducible refine then_exit ?_) | (with_reducible refine inBlock_normal ?_) | (with_reducible refine inBlock_ret ?_) | (with_reducible refine inBlock_same ?_) | (with_reducible refine inBlock_other (by decide) ?_) | fail | go_values | go_skip | go_guarded | go_step | go_upon | (simp only [Int.not_lt, Int.not_le] at *; go_simp) | (go_ite <;> go_prune <;> (try go_simp)))
  refine (aluDo_lit _ (Cp.int 5) (Cp.int 0) (-7) ⟨false, 0, 0, 4294967294, 0, 0⟩ (by rw [ByteArray.toList_mk]; kernel_rfl) ⟨by decide, by decide, by decide, by decide, by decide, by decide, by decide, by decide, by decide, by decide⟩ ⟨by decide, by decide, by decide, by decide, by decide, by decide, by decide, by decide, by decide, by decide⟩ (by decide) (by decide) _).mono ?_; rintro e w3 ⟨rfl, hn⟩
  replace KG : Kp (Gl w3) := ⟨KG.out.new hn⟩
  replace HN : Kp (New w w3) := ⟨HN.out.new hn⟩
  clear hn
  simp only [capV]
  repeat' (first | (with_reducible refine then_normal ?_) | (with_reducible refine then_ret ?_) | (with_reducible refine then_exit ?_) | (with_reducible refine inBlock_normal ?_) | (with_reducible refine inBlock_ret ?_) | (with_reducible refine inBlock_same ?_) | (with_reducible refine inBlock_other (by decide) ?_) | fail | go_values | go_skip | go_guarded | go_step | go_upon | (simp only [Int.not_lt, Int.not_le] at *; go_simp) | (go_ite <;> go_prune <;> (try go_simp)))
  first | refine gen1 ?_ | refine gen1c ?_
  intro w4 hn z k
  clear z
  replace KG : Kp (Gl w4) := ⟨KG.out.new hn⟩
  replace HN : Kp (New w w4) := ⟨HN.out.new hn⟩
  have KA : Kp _ := ⟨k⟩
  clear hn k
  repeat' (first | (with_reducible refine then_normal ?_) | (with_reducible refine then_ret ?_) | (with_reducible refine then_exit ?_) | (with_reducible refine inBlock_normal ?_) | (with_reducible refine inBlock_ret ?_) | (with_reducible refine inBlock_same ?_) | (with_reducible refine inBlock_other (by decide) ?_) | fail | go_values | go_skip | go_guarded | go_step | go_upon | (simp only [Int.not_lt, Int.not_le] at *; go_simp) | (go_ite <;> go_prune <;> (try go_simp)))
  refine (capRoot_any 64 _).mono ?_; rintro e w5 ⟨rfl, hn⟩
  replace KA : Kp _ := ⟨hn.heap KA.out (fun x => x)⟩
  replace KG : Kp (Gl w5) := ⟨KG.out.new hn⟩
  replace HN : Kp (New w w5) := ⟨HN.out.new hn⟩
  clear hn
  repeat' (first | (with_reducible refine then_normal ?_) | (with_reducible refine then_ret ?_) | (with_reducible refine then_exit ?_) | (with_reducible refine inBlock_normal ?_) | (with_reducible refine inBlock_ret ?_) | (with_reducible refine inBlock_same ?_) | (with_reducible refine inBlock_other (by decide) ?_) | fail | go_values | go_skip | go_guarded | go_step | go_upon | (simp only [Int.not_lt, Int.not_le] at *; go_simp) | (go_ite <;> go_prune <;> (try go_simp)))
  refine (capInt_any 0 _).mono ?_; rintro e w6 ⟨rfl, hn⟩
  replace KA : Kp _ := ⟨hn.heap KA.out (fun x => x)⟩
  replace KG : Kp (Gl w6) := ⟨KG.out.new hn⟩
  replace HN : Kp (New w w6) := ⟨HN.out.new hn⟩
  clear hn
  repeat' (first | (with_reducible refine then_normal ?_) | (with_reducible refine then_ret ?_) | (with_reducible refine then_exit ?_) | (with_reducible refine inBlock_normal ?_) | (with_reducible refine inBlock_ret ?_) | (with_reducible refine inBlock_same ?_) | (with_reducible refine inBlock_other (by decide) ?_) | fail | go_values | go_skip | go_guarded | go_step | go_upon | (simp only [Int.not_lt, Int.not_le] at *; go_simp) | (go_ite <;> go_prune <;> (try go_simp)))
  refine (aluDo_lit _ (Cp.root 64) (Cp.int 0) 16 ⟨true, 0, 16, 0, 127, 0⟩ (by rw [ByteArray.toList_mk]; kernel_rfl) ⟨by decide, by decide, by decide, by decide, by decide, by decide, by decide, by decide, by decide, by decide⟩ ⟨by decide, by decide, by decide, by decide, by decide, by decide, by decide, by decide, by decide, by decide⟩ (by decide) (by decide) _).mono ?_; rintro e w7 ⟨rfl, hn⟩
  replace KA : Kp _ := ⟨hn.heap KA.out (fun x => x)⟩
  replace KG : Kp (Gl w7) := ⟨KG.out.new hn⟩
  replace HN : Kp (New w w7) := ⟨HN.out.new hn⟩
  clear hn
  simp only [capV]
  repeat' (first | (with_reducible refine then_normal ?_) | (with_reducible refine then_ret ?_) | (with_reducible refine then_exit ?_) | (with_reducible refine inBlock_normal ?_) | (with_reducible refine inBlock_ret ?_) | (with_reducible refine inBlock_same ?_) | (with_reducible refine inBlock_other (by decide) ?_) | fail | go_values | go_skip | go_guarded | go_step | go_upon | (simp only [Int.not_lt, Int.not_le] at *; go_simp) | (go_ite <;> go_prune <;> (try go_simp)))
  first | refine gen1 ?_ | refine gen1c ?_
  intro w8 hn z k
  clear z
  replace KA : Kp _ := ⟨hn.heap KA.out (fun x => x)⟩
  replace KG : Kp (Gl w8) := ⟨KG.out.new hn⟩
  replace HN : Kp (New w w8) := ⟨HN.out.new hn⟩
  have KB : Kp _ := ⟨k⟩
  clear hn k
  repeat' (first | (with_reducible refine then_normal ?_) | (with_reducible refine then_ret ?_) | (with_reducible refine then_exit ?_) | (with_reducible refine inBlock_normal ?_) | (with_reducible refine inBlock_ret ?_) | (with_reducible refine inBlock_same ?_) | (with_reducible refine inBlock_other (by decide) ?_) | fail | go_values | go_skip | go_guarded | go_step | go_upon | (simp only [Int.not_lt, Int.not_le] at *; go_simp) | (go_ite <;> go_prune <;> (try go_simp)))
  refine (capInt_any 0 _).mono ?_; rintro e w9 ⟨rfl, hn⟩
  replace KA : Kp _ := ⟨hn.heap KA.out (fun x => x)⟩
  replace KB : Kp _ := ⟨hn.heap KB.out (fun x => x)⟩
  replace KG : Kp (Gl w9) := ⟨KG.out.new hn⟩
  replace HN : Kp (New w w9) := ⟨HN.out.new hn⟩
  clear hn
  repeat' (first | (with_reducible refine then_normal ?_) | (with_reducible refine then_ret ?_) | (with_reducible refine then_exit ?_) | (with_reducible refine inBlock_normal ?_) | (with_reducible refine inBlock_ret ?_) | (with_reducible refine inBlock_same ?_) | (with_reducible refine inBlock_other (by decide) ?_) | fail | go_values | go_skip | go_guarded | go_step | go_upon | (simp only [Int.not_lt, Int.not_le] at *; go_simp) | (go_ite <;> go_prune <;> (try go_simp)))
  refine (capInt_any 0 _).mono ?_; rintro e w10 ⟨rfl, hn⟩
  replace KA : Kp _ := ⟨hn.heap KA.out (fun x => x)⟩
  replace KB : Kp _ := ⟨hn.heap KB.out (fun x => x)⟩
  replace KG : Kp (Gl w10) := ⟨KG.out.new hn⟩
  replace HN : Kp (New w w10) := ⟨HN.out.new hn⟩
  clear hn
  repeat' (first | (with_reducible refine then_normal ?_) | (with_reducible refine then_ret ?_) | (with_reducible refine then_exit ?_) | (with_reducible refine inBlock_normal ?_) | (with_reducible refine inBlock_ret ?_) | (with_reducible refine inBlock_same ?_) | (with_reducible refine inBlock_other (by decide) ?_) | fail | go_values | go_skip | go_guarded | go_step | go_upon | (simp only [Int.not_lt, Int.not_le] at *; go_simp) | (go_ite <;> go_prune <;> (try go_simp)))
  refine (aluDo_bad _ (Cp.int 0) (Cp.int 0) 0 (by rw [ByteArray.toList_mk]; kernel_rfl) ⟨by decide, by decide, by decide, by decide, by decide, by decide, by decide, by decide, by decide, by decide⟩ ⟨by decide, by decide, by decide, by decide, by decide, by decide, by decide, by decide, by decide, by decide⟩ (by decide) (by decide) _).mono ?_; rintro e w11 ⟨⟨F, rfl, _, hF⟩, hn⟩
  replace KA : Kp _ := ⟨hn.heap KA.out (fun x => x)⟩
  replace KB : Kp _ := ⟨hn.heap KB.out (fun x => x)⟩
  replace KG : Kp (Gl w11) := ⟨KG.out.new hn⟩
  replace HN : Kp (New w w11) := ⟨HN.out.new hn⟩
  clear hn
  have KF : Kp _ := ⟨hF⟩
  clear hF
  simp only [capV, Cp.nil]
  repeat' (first | (with_reducible refine then_normal ?_) | (with_reducible refine then_ret ?_) | (with_reducible refine then_exit ?_) | (with_reducible refine inBlock_normal ?_) | (with_reducible refine inBlock_ret ?_) | (with_reducible refine inBlock_same ?_) | (with_reducible refine inBlock_other (by decide) ?_) | fail | go_values | go_skip | go_guarded | go_step | go_upon | (simp only [Int.not_lt, Int.not_le] at *; go_simp) | (go_ite <;> go_prune <;> (try go_simp)))
  first | refine gen1 ?_ | refine gen1c ?_
  intro w12 hn z k
  clear z
  replace KA : Kp _ := ⟨hn.heap KA.out (fun x => x)⟩
  replace KB : Kp _ := ⟨hn.heap KB.out (fun x => x)⟩
  replace KF : Kp _ := ⟨hn.heap KF.out (fun x => x)⟩
  replace KG : Kp (Gl w12) := ⟨KG.out.new hn⟩
  replace HN : Kp (New w w12) := ⟨HN.out.new hn⟩
  clear hn k
  repeat' (first | (with_reducible refine then_normal ?_) | (with_reducible refine then_ret ?_) | (with_reducible refine then_exit ?_) | (with_reducible refine inBlock_normal ?_) | (with_reducible refine inBlock_ret ?_) | (with_reducible refine inBlock_same ?_) | (with_reducible refine inBlock_other (by decide) ?_) | fail | go_values | go_skip | go_guarded | go_step | go_upon | (simp only [Int.not_lt, Int.not_le] at *; go_simp) | (go_ite <;> go_prune <;> (try go_simp)))
  obtain ⟨⟨b0, b1, b2, b3, b4, b5⟩, _⟩ := blk6 KB.out
  have lb := lt_of_heap KB.out
  go_cut [7, 8] (fun s7 s8 wx => ∃ g, s7 = .pointer (some ⟨g, 0, none⟩) ∧ s8 = .nilIface ∧ Kp (wx.heap[g]? = some (.cells #[.bool false, .int .u32 0, .int .u32 0, .int .u32 1, .int .u16 0, .int .u16 0] 33)) ∧ Kp (New w12 wx))
  case first =>
    go_region_with (first
      | (go_at_call 20; refine (capRoot_any 64 _).mono ?_; rintro e wr ⟨rfl, hn⟩; have HNr : Kp (New _ wr) := ⟨hn⟩; have KB' : Kp _ := ⟨(by first | (with_reducible exact new_heap hn (heap_drew KB.out)) | (with_reducible exact new_heap hn (heap_old (heap_drew KB.out))) : wr.heap[_]? = some _)⟩; have lb := lt_of_heap KB'.out; obtain ⟨⟨b0, b1, b2, b3, b4, b5⟩, _⟩ := blk6 KB'.out; (first | (have KN : Kp _ := ⟨(by with_reducible exact new_heap hn (heap_alloc_at _ _) : wr.heap[_]? = some _)⟩; obtain ⟨⟨n0, n1, n2, n3, n4, n5⟩, f0, f1, f2, f3, f4, f5⟩ := blk6 KN.out) | skip); clear hn)
      | (go_at_call 39; refine (HDo.out _).mono ?_; rintro e wd ⟨rfl, hn⟩; have HNd : Kp (New _ wd) := ⟨hn⟩; (first | (have KN' : Kp _ := ⟨(by with_reducible exact new_heap hn KN.out : wd.heap[_]? = some _)⟩; obtain ⟨⟨n0, n1, n2, n3, n4, n5⟩, f0, f1, f2, f3, f4, f5⟩ := blk6 KN'.out) | (have KN' : Kp _ := ⟨(by with_reducible exact new_heap hn (heap_alloc_at _ _) : wd.heap[_]? = some _)⟩; obtain ⟨⟨n0, n1, n2, n3, n4, n5⟩, f0, f1, f2, f3, f4, f5⟩ := blk6 KN'.out) | skip); clear hn))
    all_goals
      go_wp2_with fail
      go_meet
      refine ⟨_, rfl, rfl, ⟨?_⟩, ⟨?_⟩⟩
      · first
          | (with_reducible exact heap_alloc_at _ _)
          | (with_reducible exact six_stores (new_heap HNd.out (heap_alloc_at _ _)))
          | (with_reducible exact six_stores KN'.out)
      · have z : w12.heap.size ≤ wr.heap.size := by have := HNr.out.size; simp at this; omega
        have hA : New w12 wr := by
          first
            | (with_reducible exact ((Chg.refl (fun _ => False) w12).drew).new HNr.out)
            | (with_reducible exact (((Chg.refl (fun _ => False) w12).alloc _).drew).new HNr.out)
            | (with_reducible exact (((Chg.refl (fun _ => False) w12).drew).alloc _).new HNr.out)
        have hB : New w12 wd := by
          first
            | (with_reducible exact hA.new HNd.out)
            | (with_reducible exact (hA.alloc _).new HNd.out)
        first
          | (with_reducible exact hB.alloc _)
          | (with_reducible exact six_new hB (Nat.le_refl _))
          | (with_reducible exact six_new hB z)
  case rest =>
  obtain ⟨g, rfl, rfl, KC, HX⟩ := hcut
  have hn := HX.out
  clear HX
  replace KA : Kp _ := ⟨hn.heap KA.out (fun x => x)⟩
  replace KB : Kp _ := ⟨hn.heap KB.out (fun x => x)⟩
  replace KF : Kp _ := ⟨hn.heap KF.out (fun x => x)⟩
  replace KG : Kp _ := ⟨KG.out.new hn⟩
  replace HN : Kp _ := ⟨HN.out.new hn⟩
  clear hn
  repeat' (first | (with_reducible refine then_normal ?_) | (with_reducible refine then_ret ?_) | (with_reducible refine then_exit ?_) | (with_reducible refine inBlock_normal ?_) | (with_reducible refine inBlock_ret ?_) | (with_reducible refine inBlock_same ?_) | (with_reducible refine inBlock_other (by decide) ?_) | fail | go_values | go_skip | go_guarded | go_step | go_upon | (simp only [Int.not_lt, Int.not_le] at *; go_simp) | (go_ite <;> go_prune <;> (try go_simp)))
  refine (capInt_any 0 _).mono ?_; rintro e w14 ⟨rfl, hn⟩
  replace KA : Kp _ := ⟨hn.heap KA.out (fun x => x)⟩
  replace KB : Kp _ := ⟨hn.heap KB.out (fun x => x)⟩
  replace KF : Kp _ := ⟨hn.heap KF.out (fun x => x)⟩
  replace KC : Kp _ := ⟨hn.heap KC.out (fun x => x)⟩
  replace KG : Kp (Gl w14) := ⟨KG.out.new hn⟩
  replace HN : Kp (New w w14) := ⟨HN.out.new hn⟩
  clear hn
  repeat' (first | (with_reducible refine then_normal ?_) | (with_reducible refine then_ret ?_) | (with_reducible refine then_exit ?_) | (with_reducible refine inBlock_normal ?_) | (with_reducible refine inBlock_ret ?_) | (with_reducible refine inBlock_same ?_) | (with_reducible refine inBlock_other (by decide) ?_) | fail | go_values | go_skip | go_guarded | go_step | go_upon | (simp only [Int.not_lt, Int.not_le] at *; go_simp) | (go_ite <;> go_prune <;> (try go_simp)))
  refine (capInt_any 0 _).mono ?_; rintro e w15 ⟨rfl, hn⟩
  replace KA : Kp _ := ⟨hn.heap KA.out (fun x => x)⟩
  replace KB : Kp _ := ⟨hn.heap KB.out (fun x => x)⟩
  replace KF : Kp _ := ⟨hn.heap KF.out (fun x => x)⟩
  replace KC : Kp _ := ⟨hn.heap KC.out (fun x => x)⟩
  replace KG : Kp (Gl w15) := ⟨KG.out.new hn⟩
  replace HN : Kp (New w w15) := ⟨HN.out.new hn⟩
  clear hn
  repeat' (first | (with_reducible refine then_normal ?_) | (with_reducible refine then_ret ?_) | (with_reducible refine then_exit ?_) | (with_reducible refine inBlock_normal ?_) | (with_reducible refine inBlock_ret ?_) | (with_reducible refine inBlock_same ?_) | (with_reducible refine inBlock_other (by decide) ?_) | fail | go_values | go_skip | go_guarded | go_step | go_upon | (simp only [Int.not_lt, Int.not_le] at *; go_simp) | (go_ite <;> go_prune <;> (try go_simp)))
  refine (aluDo_lit _ (Cp.int 0) (Cp.int 0) 1 ⟨false, 0, 0, 65536, 0, 0⟩ (by rw [ByteArray.toList_mk]; kernel_rfl) ⟨by decide, by decide, by decide, by decide, by decide, by decide, by decide, by decide, by decide, by decide⟩ ⟨by decide, by decide, by decide, by decide, by decide, by decide, by decide, by decide, by decide, by decide⟩ (by decide) (by decide) _).mono ?_; rintro e w16 ⟨rfl, hn⟩
  replace KA : Kp _ := ⟨hn.heap KA.out (fun x => x)⟩
  replace KB : Kp _ := ⟨hn.heap KB.out (fun x => x)⟩
  replace KF : Kp _ := ⟨hn.heap KF.out (fun x => x)⟩
  replace KC : Kp _ := ⟨hn.heap KC.out (fun x => x)⟩
  replace KG : Kp (Gl w16) := ⟨KG.out.new hn⟩
  replace HN : Kp (New w w16) := ⟨HN.out.new hn⟩
  clear hn
  simp only [capV]
  repeat' (first | (with_reducible refine then_normal ?_) | (with_reducible refine then_ret ?_) | (with_reducible refine then_exit ?_) | (with_reducible refine inBlock_normal ?_) | (with_reducible refine inBlock_ret ?_) | (with_reducible refine inBlock_same ?_) | (with_reducible refine inBlock_other (by decide) ?_) | fail | go_values | go_skip | go_guarded | go_step | go_upon | (simp only [Int.not_lt, Int.not_le] at *; go_simp) | (go_ite <;> go_prune <;> (try go_simp)))
  first | refine gen1 ?_ | refine gen1c ?_
  intro w17 hn z k
  clear z
  replace KA : Kp _ := ⟨hn.heap KA.out (fun x => x)⟩
  replace KB : Kp _ := ⟨hn.heap KB.out (fun x => x)⟩
  replace KF : Kp _ := ⟨hn.heap KF.out (fun x => x)⟩
  replace KC : Kp _ := ⟨hn.heap KC.out (fun x => x)⟩
  replace KG : Kp (Gl w17) := ⟨KG.out.new hn⟩
  replace HN : Kp (New w w17) := ⟨HN.out.new hn⟩
  have KD : Kp _ := ⟨k⟩
  clear hn k
  repeat' (first | (with_reducible refine then_normal ?_) | (with_reducible refine then_ret ?_) | (with_reducible refine then_exit ?_) | (with_reducible refine inBlock_normal ?_) | (with_reducible refine inBlock_ret ?_) | (with_reducible refine inBlock_same ?_) | (with_reducible refine inBlock_other (by decide) ?_) | fail | go_values | go_skip | go_guarded | go_step | go_upon | (simp only [Int.not_lt, Int.not_le] at *; go_simp) | (go_ite <;> go_prune <;> (try go_simp)))
  obtain ⟨a0, a1, a2, a3, a4, a5⟩ := ext_six KA.out
  obtain ⟨b0, b1, b2, b3, b4, b5⟩ := ext_six KB.out
  obtain ⟨c0, c1, c2, c3, c4, c5⟩ := ext_six KC.out
  obtain ⟨d0, d1, d2, d3, d4, d5⟩ := ext_six KD.out
  (refine wp_region_newly (by kernel_rfl) (by kernel_rfl) ?_; (repeat (go_big_quiet_step (first
    | (go_at_call 37; exact newly (HI.out _ _))
    | (go_at_call 27; exact newly (tells_fault F _ 0 7 (by decide) _ (KG.out.new (ext_new _)) (FaultAt.new KF.out (ext_new _))))
    | (go_at_call 41; with_reducible exact newly (H1.out _))
    | (go_at_call 41; with_reducible exact newly (H2.out _))))); refine wpQuiet_nil ?_; intro _ hw'; obtain ⟨xw, rfl⟩ := hw')
  repeat' (first | (with_reducible refine then_normal ?_) | (with_reducible refine then_ret ?_) | (with_reducible refine then_exit ?_) | (with_reducible refine inBlock_normal ?_) | (with_reducible refine inBlock_ret ?_) | (with_reducible refine inBlock_same ?_) | (with_reducible refine inBlock_other (by decide) ?_) | fail | go_values | go_skip | go_guarded | go_step | go_upon | (simp only [Int.not_lt, Int.not_le] at *; go_simp) | (go_ite <;> go_prune <;> (try go_simp)))
  go_ret
  exact ⟨rfl, HN.out.new (ext_new _)⟩
end Go.Proofs.YtoecmleficekbaaDoor
