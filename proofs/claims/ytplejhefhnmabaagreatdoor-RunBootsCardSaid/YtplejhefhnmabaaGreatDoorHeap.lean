/- Words on memory, of whatever program: what a call may have changed (Chg); a row that a slice of the call's own shows (Own); append onto it. -/
import Derived.WalkKit
import Derived.Deep.Upon
import Derived.Laws.IdiomStrings
import Derived.Laws.BytesString
import Derived.Test.YtplejhefhnmabaaGreatDoorLay
namespace Go.Proofs.YtplejhefhnmabaaGreatDoor
open Go.RowKit

/-- Of the blocks that were there none has changed but those of B; the streams are as they were. -/
structure Chg (B : Nat → Prop) (w w' : World) : Prop where
  os : w'.os = w.os
  tape : w'.tape = w.tape
  output : w'.output = w.output
  size : w.heap.size ≤ w'.heap.size
  block : ∀ k, k < w.heap.size → ¬ B k → w'.heap[k]? = w.heap[k]?
abbrev New (w w' : World) : Prop := Chg (fun _ => False) w w'
theorem Chg.refl (B : Nat → Prop) (w : World) : Chg B w w := ⟨rfl, rfl, rfl, Nat.le_refl _, fun _ _ _ => rfl⟩
theorem Chg.trans {B C : Nat → Prop} {a b c : World} (h : Chg B a b) (k : Chg C b c) (hC : ∀ x, x < a.heap.size → C x → B x) : Chg B a c :=
  ⟨k.os.trans h.os, k.tape.trans h.tape, k.output.trans h.output, Nat.le_trans h.size k.size,
    fun i hi hB => (k.block i (Nat.lt_of_lt_of_le hi h.size) (fun hc => hB (hC i hi hc))).trans (h.block i hi hB)⟩
theorem Chg.trans' {B : Nat → Prop} {a b c : World} (h : Chg B a b) (k : Chg B b c) : Chg B a c := h.trans k fun _ _ hb => hb
theorem Chg.new {B : Nat → Prop} {a b c : World} (h : Chg B a b) (k : New b c) : Chg B a c := h.trans k fun _ _ hb => hb.elim
theorem Chg.mono {B C : Nat → Prop} {a b : World} (h : Chg B a b) (hC : ∀ x, B x → C x) : Chg C a b :=
  ⟨h.os, h.tape, h.output, h.size, fun k hk hn => h.block k hk fun hb => hn (hC k hb)⟩
theorem Chg.drew {B : Nat → Prop} {a w : World} (h : Chg B a w) : Chg B a w.drew := ⟨h.os, h.tape, h.output, h.size, h.block⟩
theorem drewN_heap (w : World) (n : Nat) : (w.drewN n).heap = w.heap := by simp
theorem Chg.drewN {B : Nat → Prop} {a w : World} (h : Chg B a w) (n : Nat) : Chg B a (w.drewN n) := by
  refine ⟨?_, ?_, ?_, ?_, ?_⟩
  · rw [← h.os]; simp [World.drewN]
  · rw [← h.tape]; simp [World.drewN]
  · rw [← h.output]; simp [World.drewN]
  · simpa using h.size
  · intro k hk hb; rw [drewN_heap]; exact h.block k hk hb
theorem Chg.alloc {B : Nat → Prop} {a w : World} (h : Chg B a w) (o : Obj) : Chg B a (w.alloc o) :=
  ⟨h.os, h.tape, h.output, by have := h.size; simp; omega, fun k hk hb => (Below.heap_alloc w o k (Nat.lt_of_lt_of_le hk h.size)).trans (h.block k hk hb)⟩
theorem Chg.setCell {B : Nat → Prop} {a w : World} (h : Chg B a w) {p : Addr} (hp : a.heap.size ≤ p.block ∨ B p.block) (u : Value) : Chg B a (w.setCell p u) :=
  ⟨h.os, h.tape, h.output, by simpa [World.setCell] using h.size, fun k hk hb => by
    rw [Below.heap_setCell _ _ _ _ (fun e => by rcases hp with hp | hp; omega; exact hb (e ▸ hp))]; exact h.block k hk hb⟩
theorem Chg.below {w w' : World} (h : New w w') : Below w.heap.size w w' := ⟨h.os, h.tape, h.output, h.size, fun k hk => h.block k hk (fun x => x)⟩
theorem Chg.ofBelow {w w' : World} (h : Below w.heap.size w w') : New w w' := ⟨h.os, h.tape, h.output, h.size, fun k hk _ => h.block k hk⟩
theorem Chg.cell {B : Nat → Prop} {w w' : World} (h : Chg B w w') {p : Addr} (hp : p.block < w.heap.size) (hb : ¬ B p.block) : w'.cell? p = w.cell? p := World.cell?_of_block (h.block p.block hp hb)
theorem Chg.frozen {B : Nat → Prop} {w w' : World} (h : Chg B w w') {p : Addr} (hp : p.block < w.heap.size) (hb : ¬ B p.block) : w'.frozen? p = w.frozen? p := World.frozen?_of_block (h.block p.block hp hb)
theorem lt_of_heap {w : World} {k : Nat} {o : Obj} (h : w.heap[k]? = some o) : k < w.heap.size := by
  rcases Nat.lt_or_ge k w.heap.size with hl | hg
  · exact hl
  · rw [Array.getElem?_eq_none hg] at h; cases h
theorem Chg.heap {B : Nat → Prop} {w w' : World} (h : Chg B w w') {k : Nat} {o : Obj} (hk : w.heap[k]? = some o) (hb : ¬ B k) : w'.heap[k]? = some o := (h.block k (lt_of_heap hk) hb).trans hk
theorem Chg.ofGrown {w w' : World} {row : Option Nat} (h : w.grownBy w' row) : Chg (fun k => some k = row) w w' := ⟨h.os, h.tape, h.output, h.size, fun k hk hb => h.block k hk hb⟩

/-- A cell, or the mark, of a block that is known whole. -/
theorem cell_known {w : World} {B : Nat} {cs : Array Value} {t : TypeId} {fr : Nat × Nat} (h : w.heap[B]? = some (.cells cs t fr)) (j : Nat) : w.cell? ⟨B, j, none⟩ = cs[j]? := by simp [World.cell?, h]
theorem frozen_known {w : World} {B : Nat} {cs : Array Value} {t : TypeId} (h : w.heap[B]? = some (.cells cs t (0, 0))) (j : Nat) : w.frozen? ⟨B, j, none⟩ = false := by simp [World.frozen?, h]
theorem frozen_known' {w : World} {B : Nat} {cs : Array Value} {t : TypeId} {lo hi : Nat} (h : w.heap[B]? = some (.cells cs t (lo, hi))) (hf : hi ≤ lo ∨ cs.size ≤ lo) (j : Nat) (hj : j < cs.size) : w.frozen? ⟨B, j, none⟩ = false := by
  simp only [World.frozen?, h, Bool.and_eq_false_iff, decide_eq_false_iff_not]; omega
theorem heap_alloc_at (w : World) (o : Obj) : (w.alloc o).heap[w.heap.size]? = some o := heap_alloc_new w o
theorem heap_setCell_at {w : World} {B : Nat} {cs : Array Value} {t : TypeId} {fr : Nat × Nat} (h : w.heap[B]? = some (.cells cs t fr)) (j : Nat) (u : Value) : (w.setCell ⟨B, j, none⟩ u).heap[B]? = some (.cells (cs.setIfInBounds j u) t fr) := by
  simp [World.setCell, Array.getElem?_modify, h]
/-- The cells xs from a place on. -/
def Cells (w : World) (b o : Nat) (xs : List Value) : Prop := ∀ j u, xs[j]? = some u → w.cell? ⟨b, o + j, none⟩ = some u
theorem add_lit (b o j : Nat) : (⟨b, o, none⟩ : Addr).add j = ⟨b, o + j, none⟩ := by unfold Addr.add; split <;> simp_all
theorem Cells.add {w : World} {b o : Nat} {xs : List Value} (h : Cells w b o xs) : ∀ j u, xs[j]? = some u → w.cell? ((⟨b, o, none⟩ : Addr).add j) = some u := fun j u hu => by rw [add_lit]; exact h j u hu
theorem Cells.chg {B : Nat → Prop} {w w' : World} {b o : Nat} {xs : List Value} (h : Cells w b o xs) (hc : Chg B w w') (hb : ¬ B b) (hlt : b < w.heap.size) : Cells w' b o xs := fun j u hu => by
  rw [hc.cell (p := ⟨b, o + j, none⟩) hlt hb]; exact h j u hu

/-- What a block of cells holds behind a row of stores. -/
theorem heap_setCells_at (g : Nat) (t : TypeId) (fr : Nat × Nat) : ∀ (vs : List Value) (o : Nat) (w : World) (cs : Array Value), w.heap[g]? = some (.cells cs t fr) → o + vs.length ≤ cs.size →
    ∃ cs', (w.setCells g o vs).heap[g]? = some (.cells cs' t fr) ∧ cs'.toList = cs.toList.take o ++ vs ++ cs.toList.drop (o + vs.length)
  | [], o, w, cs, h, _ => ⟨cs, h, by simp⟩
  | v :: r, o, w, cs, h, hl => by
    obtain ⟨cs', h1, h2⟩ := heap_setCells_at g t fr r (o + 1) (w.setCell ⟨g, o, none⟩ v) (cs.setIfInBounds o v) (heap_setCell_at h o v) (by simp at hl ⊢; omega)
    refine ⟨cs', h1, h2.trans ?_⟩
    have ho : o < cs.toList.length := by simp at hl ⊢; omega
    rw [Array.toList_setIfInBounds]
    have e1 : (cs.toList.set o v).take (o + 1) = cs.toList.take o ++ [v] := by
      rw [List.take_set, List.take_succ_eq_append_getElem ho, List.set_append_right _ _ (by rw [List.length_take]; exact Nat.min_le_left _ _), List.length_take, Nat.min_eq_left (Nat.le_of_lt ho), Nat.sub_self]; rfl
    have e2 : (cs.toList.set o v).drop (o + 1 + r.length) = cs.toList.drop (o + (v :: r).length) := by
      rw [List.drop_set_of_lt (by omega), List.length_cons]; congr 1; omega
    rw [e1, e2, List.append_assoc, List.append_assoc, List.append_assoc]; rfl
theorem tape_setCells (g : Nat) : ∀ (vs : List Value) (o : Nat) (w : World), (w.setCells g o vs).tape = w.tape ∧ (w.setCells g o vs).heap.size = w.heap.size
  | [], _, _ => ⟨rfl, rfl⟩
  | v :: r, o, w => by rw [World.setCells]; have := tape_setCells g r (o + 1) (w.setCell ⟨g, o, none⟩ v); exact ⟨this.1, this.2.trans (by simp [World.setCell])⟩
theorem Chg.setCells {B : Nat → Prop} {a w : World} (h : Chg B a w) (g o : Nat) (vs : List Value) (hg : a.heap.size ≤ g ∨ B g) : Chg B a (w.setCells g o vs) :=
  ⟨(World.os_setCells w g o vs).trans h.os, (tape_setCells g vs o w).1.trans h.tape, (World.output_setCells w g o vs).trans h.output, by rw [(tape_setCells g vs o w).2]; exact h.size,
    fun k hk hb => (World.heap_setCells_other w g o vs (Nat.lt_of_lt_of_le hk h.size) (fun e => by rcases hg with hg | hg; omega; exact hb (e ▸ hg))).trans (h.block k hk hb)⟩

/-- v is a slice of n elements (size cells each) whose cells are xs, in a row of its own in a block from base on; no cell of the row is frozen. -/
def Own (w : World) (base : Nat) (e : TypeId) (size : Nat) (v : Value) (n : Nat) (xs : List Value) : Prop :=
  xs.length = n * size ∧
  ((v = .slice none 0 0 ∧ n = 0) ∨
   ∃ g cap cur lo hi, v = .slice (some ⟨g, 0, none⟩) n cap ∧ base ≤ g ∧ w.heap[g]? = some (.cells cur e (lo, hi)) ∧ (hi ≤ lo ∨ cur.size ≤ lo) ∧ n ≤ cap ∧ cap ≤ maxLen ∧ cur.size = cap * size ∧ cur.toList.take (n * size) = xs)
theorem Own.nil (w : World) (base : Nat) (e : TypeId) (size : Nat) : Own w base e size (.slice none 0 0) 0 [] := ⟨by simp, .inl ⟨rfl, rfl⟩⟩
theorem Own.lower {w : World} {base base' : Nat} {e : TypeId} {size : Nat} {v : Value} {n : Nat} {xs : List Value} (h : Own w base e size v n xs) (hb : base' ≤ base) : Own w base' e size v n xs := by
  obtain ⟨h1, h2 | ⟨g, cap, cur, lo, hi, hv, hg, r⟩⟩ := h
  · exact ⟨h1, .inl h2⟩
  · exact ⟨h1, .inr ⟨g, cap, cur, lo, hi, hv, by omega, r⟩⟩
theorem Own.chg {B : Nat → Prop} {w w' : World} {base : Nat} {e : TypeId} {size : Nat} {v : Value} {n : Nat} {xs : List Value} (h : Own w base e size v n xs) (hc : Chg B w w') (hb : ∀ g, v.ownBlock = some g → ¬ B g) : Own w' base e size v n xs := by
  obtain ⟨h1, h2 | ⟨g, cap, cur, lo, hi, hv, hg, hh, r⟩⟩ := h
  · exact ⟨h1, .inl h2⟩
  · exact ⟨h1, .inr ⟨g, cap, cur, lo, hi, hv, hg, hc.heap hh (hb g (by rw [hv]; rfl)), r⟩⟩
theorem Own.new {w w' : World} {base : Nat} {e : TypeId} {size : Nat} {v : Value} {n : Nat} {xs : List Value} (h : Own w base e size v n xs) (hc : New w w') : Own w' base e size v n xs := h.chg hc fun _ _ x => x
theorem Own.ge {w : World} {base : Nat} {e : TypeId} {size : Nat} {v : Value} {n : Nat} {xs : List Value} (h : Own w base e size v n xs) {g : Nat} (hg : v.ownBlock = some g) : base ≤ g := by
  obtain ⟨_, ⟨h2, _⟩ | ⟨g', cap, cur, lo, hi, hv, hb, _⟩⟩ := h
  · rw [h2] at hg; cases hg
  · rw [hv] at hg; cases hg; exact hb
/-- An append onto a row made behind w leaves what was there at w. -/
theorem Chg.append {B : Nat → Prop} {w w1 w2 : World} {v : Value} {e : TypeId} {size n : Nat} {xs : List Value} (h : Chg B w w1) (hown : Own w1 w.heap.size e size v n xs) (hc : Chg (fun k => some k = v.ownBlock) w1 w2) : Chg B w w2 :=
  h.trans hc fun x hx he => absurd (hown.ge he.symm) (by omega)
theorem Own.cells {w : World} {base : Nat} {e : TypeId} {size : Nat} {v : Value} {n : Nat} {xs : List Value} (h : Own w base e size v n xs) {g l cap : Nat} (hv : v = .slice (some ⟨g, 0, none⟩) l cap) : Cells w g 0 xs := by
  obtain ⟨h1, ⟨h2, _⟩ | ⟨g', cap', cur, lo, hi, hv', hg, hh, _, _, _, _, ht⟩⟩ := h
  · rw [h2] at hv; cases hv
  · rw [hv'] at hv; cases hv
    intro j u hu
    rw [Nat.zero_add, cell_known hh j]
    have hj : j < n * size := by have := (List.getElem?_eq_some_iff.1 hu).1; omega
    rw [← ht, List.getElem?_take_of_lt hj] at hu
    simpa using hu
theorem Own.lit (w : World) (base : Nat) (e : TypeId) (size : Nat) (xs : List Value) (n cap lo hi : Nat) (cur : Array Value) (hb : base ≤ w.heap.size) (hl : xs.length = n * size) (hm : cap ≤ maxLen) (hn : n ≤ cap) (hs : cur.size = cap * size)
    (hf : hi ≤ lo ∨ cur.size ≤ lo) (ht : cur.toList.take (n * size) = xs) : Own (w.alloc (.cells cur e (lo, hi))) base e size (.slice (some ⟨w.heap.size, 0, none⟩) n cap) n xs :=
  ⟨hl, .inr ⟨w.heap.size, cap, cur, lo, hi, rfl, hb, heap_alloc_at w _, hf, hn, hm, hs, ht⟩⟩

theorem cells_one (w : World) (v : Value) (T : TypeId) (fr : Nat × Nat) : ∀ j u, [v][j]? = some u → (w.alloc (.cells #[v] T fr)).cell? ((⟨w.heap.size, 0, none⟩ : Addr).add j) = some u := fun j u hu => by
  rw [add_lit, Nat.zero_add, cell_known (heap_alloc_at w _)]
  cases j with
  | zero => simpa using hu
  | succ j => simp at hu
/-- v is a slice that shows the cells xs (n elements of size cells), in a block from base on. -/
def Rd (w : World) (base size : Nat) (v : Value) (n : Nat) (xs : List Value) : Prop :=
  xs.length = n * size ∧ ((v = .slice none 0 0 ∧ n = 0) ∨ ∃ g o cap, v = .slice (some ⟨g, o, none⟩) n cap ∧ base ≤ g ∧ g < w.heap.size ∧ Cells w g o xs)
theorem Own.rd {w : World} {base : Nat} {e : TypeId} {size : Nat} {v : Value} {n : Nat} {xs : List Value} (h : Own w base e size v n xs) : Rd w base size v n xs := by
  obtain ⟨h1, h2 | ⟨g, cap, cur, lo, hi, hv, hg, hh, _⟩⟩ := id h
  · exact ⟨h1, .inl h2⟩
  · exact ⟨h1, .inr ⟨g, 0, cap, hv, hg, lt_of_heap hh, h.cells hv⟩⟩
theorem Rd.new {w w' : World} {base size : Nat} {v : Value} {n : Nat} {xs : List Value} (h : Rd w base size v n xs) (hc : New w w') : Rd w' base size v n xs := by
  obtain ⟨h1, h2 | ⟨g, o, cap, hv, hg, hl, hcs⟩⟩ := h
  · exact ⟨h1, .inl h2⟩
  · exact ⟨h1, .inr ⟨g, o, cap, hv, hg, Nat.lt_of_lt_of_le hl hc.size, hcs.chg hc (fun x => x) hl⟩⟩
theorem Rd.form {w : World} {base size : Nat} {v : Value} {n : Nat} {xs : List Value} (h : Rd w base size v n xs) (hn : 0 < n) : ∃ g o cap, v = .slice (some ⟨g, o, none⟩) n cap ∧ g < w.heap.size ∧ Cells w g o xs := by
  obtain ⟨h1, ⟨_, h0⟩ | ⟨g, o, cap, hv, hg, hl, hcs⟩⟩ := h
  · omega
  · exact ⟨g, o, cap, hv, hl, hcs⟩
theorem cells_block (w : World) (cs : List Value) (T : TypeId) (fr : Nat × Nat) : ∀ j u, cs[j]? = some u → (w.alloc (.cells cs.toArray T fr)).cell? ((⟨w.heap.size, 0, none⟩ : Addr).add j) = some u := fun j u hu => by
  rw [add_lit, Nat.zero_add, cell_known (heap_alloc_at w _)]
  simpa using hu
section
variable {P : Program}
/-- append onto a row of one's own, of whatever is appended. -/
theorem run_append_Own (w : World) (base : Nat) (t tx ty e : TypeId) (i : TypeInfo) (z : Value) (size bytes : Nat) (ht : P.underlying t = some (.slice e)) (hi : P.info? e = some i) (hz : i.zero = some z)
    (hsize : i.size = size) (hby : i.bytes = bytes) (hzs : z.cells.size = size)
    (v : Value) (n : Nat) (xs : List Value) (hown : Own w base e size v n xs) (x : Value) (m : Nat) (news : List Value) (hsrc : Src P size tx x m news w)
    (h63 : n + m ≤ maxLen) (hbytes : (n + m) * bytes ≤ 140737488355328) (hbase : base ≤ w.heap.size) :
    ∃ v' w', (Builtin.append_ #[t, tx] ty #[v, x]).run P w = .ok v' w' ∧ Own w' base e size v' (n + m) (xs ++ news) ∧ Chg (fun k => some k = v.ownBlock) w w' ∧ (v'.ownBlock = v.ownBlock ∨ v'.ownBlock = some w.heap.size) := by
  subst hsize
  subst hby
  have h63' : n + m ≤ 9223372036854775807 := by simp only [maxLen] at h63; omega
  have hlen : (xs ++ news).length = (n + m) * i.size := by rw [List.length_append, hown.1, hsrc.newsLen, Nat.add_mul]
  have grown : ∀ (old : Nat), old < n + m →
      Own (w.drew.alloc (.cells ((xs ++ news).toArray ++ Builtin.zeroCells z.cells (grownCap w (n + m) old e - (n + m))) e)) base e i.size (.slice (some ⟨w.heap.size, 0, none⟩) (n + m) (grownCap w (n + m) old e)) (n + m) (xs ++ news) := by
    intro old ho
    have hge := grownCap_ge w (n + m) old e
    have hcm : grownCap w (n + m) old e ≤ maxLen := grownCap_le_maxLen w (n + m) old e h63
    refine Own.lit w.drew base e i.size (xs ++ news) (n + m) _ 0 0 _ hbase hlen hcm hge ?_ (.inl (Nat.le_refl 0)) ?_
    · rw [Array.size_append, List.size_toArray, hlen, size_zeroCells, hzs, ← Nat.add_mul]; congr 1; omega
    · rw [Array.toList_append, ← hlen]; exact List.take_left
  obtain ⟨h1, ⟨rfl, rfl⟩ | ⟨g, cap, cur, lo, hi', rfl, hbg, hh, hfr, hnc, hcm, hcs, htk⟩⟩ := id hown
  · have hx : xs = [] := List.eq_nil_of_length_eq_zero (by simpa using h1)
    subst hx
    by_cases hm : m = 0
    · subst hm
      have hn : news = [] := List.eq_nil_of_length_eq_zero (by simpa using hsrc.newsLen)
      subst hn
      refine ⟨.slice none 0 0, w, ?_, Own.nil w base e i.size, Chg.refl _ _, .inl rfl⟩
      rcases hsrc.kind with ⟨e', hk⟩ | hk <;> simp [Builtin.append_, run_underlying ht, run_underlying hk, sizeOf, typeInfo, hi, hsrc.len, hsrc.cells]
    · have hr := run_append_grow_src (P := P) w t tx ty e i z ht hi hz none 0 0 [] (by simp [Builtin.firstCells]) x m news hsrc (by omega) (by omega) (growslice_fits (by omega) hbytes)
      simp only [Nat.zero_add, List.nil_append] at hr grown ⊢
      exact ⟨_, _, hr, grown 0 (by omega), ((Chg.refl _ w).drew).alloc _, .inr rfl⟩
  · by_cases hroom : n + m ≤ cap
    · have hfit : n * i.size + news.length ≤ cur.size := by rw [hsrc.newsLen, hcs, ← Nat.add_mul]; exact Nat.mul_le_mul_right _ hroom
      have hr := run_append_room_src (P := P) w t tx ty e i ht hi g 0 n cap x m news hsrc hroom (fun j hj => by rw [cell_known hh, Nat.zero_add]; simp; omega) (fun j hj => frozen_known' hh hfr _ (by omega))
      rw [Nat.zero_add] at hr
      obtain ⟨cs', hc1, hc2⟩ := heap_setCells_at g e (lo, hi') news (n * i.size) w cur hh hfit
      have hcz : cs'.size = cur.size := by
        rw [← Array.length_toList, hc2]; simp; omega
      refine ⟨_, _, hr, ⟨hlen, .inr ⟨g, cap, cs', lo, hi', rfl, hbg, hc1, by rw [hcz]; exact hfr, hroom, hcm, by rw [hcz, hcs], ?_⟩⟩, (Chg.refl _ w).setCells g _ _ (.inr rfl), .inl rfl⟩
      rw [hc2, htk, ← hlen]
      exact List.take_left
    · have hfc := run_firstCells_some (P := P) w.drew i.size n ⟨g, 0, none⟩ n cap xs h1 (by have := (hown.cells rfl).add; simpa using this)
      have hr := run_append_grow_src (P := P) w t tx ty e i z ht hi hz (some ⟨g, 0, none⟩) n cap xs hfc x m news hsrc (by omega) (by omega) (growslice_fits (by omega) hbytes)
      exact ⟨_, _, hr, grown cap (by omega), ((Chg.refl _ w).drew).alloc _, .inr rfl⟩
/-- The same, at the operation. -/
theorem wp_append_Own {o : Oper} {a : Act} {K : Act → World → Prop} {Q : Exit → Act → World → Prop} (w : World) (s x : Operand) (t tx : TypeId)
    (ho : o.op = .call { callee := .builtin .append, args := #[s, x], argTypes := #[t, tx] })
    (base : Nat) (e : TypeId) (i : TypeInfo) (z : Value) (size bytes : Nat) (ht : P.underlying t = some (.slice e)) (hi : P.info? e = some i) (hz : i.zero = some z)
    (hsize : i.size = size) (hby : i.bytes = bytes) (hzs : z.cells.size = size)
    (v : Value) (n : Nat) (xs : List Value) (hs : a.eval s = v) (hown : Own w base e size v n xs) (xv : Value) (m : Nat) (news : List Value) (hx : a.eval x = xv) (hsrc : Src P size tx xv m news w)
    (h63 : n + m ≤ maxLen) (hbytes : (n + m) * bytes ≤ 140737488355328) (hbase : base ≤ w.heap.size)
    (h : ∀ v' w', Own w' base e size v' (n + m) (xs ++ news) → Chg (fun k => some k = v.ownBlock) w w' → (v'.ownBlock = v.ownBlock ∨ v'.ownBlock = some w.heap.size) → K (a.put o.dst v') w') : o.wp P a w K Q := by
  obtain ⟨v', w', hr, h2, h3, h4⟩ := run_append_Own (P := P) w base t tx o.type e i z size bytes ht hi hz hsize hby hzs v n xs hown xv m news hsrc h63 hbytes hbase
  unfold Oper.wp execOp
  simp only [ho, resolve, invoke, builtin, Sem.run_bind, Sem.run_pure, Result.andThen_ok, List.map_toArray, List.map_cons, List.map_nil, hs, hx, hr]
  exact h v' w' h2 h3 h4
theorem wpList_append_Own {ops : Array Oper} {rest : List Oper} {o : Oper} {a : Act} {Q : Exit → Act → World → Prop} (w : World) (hgd : o.guard = none) (s x : Operand) (t tx : TypeId)
    (ho : o.op = .call { callee := .builtin .append, args := #[s, x], argTypes := #[t, tx] })
    (base : Nat) (e : TypeId) (i : TypeInfo) (z : Value) (size bytes : Nat) (ht : P.underlying t = some (.slice e)) (hi : P.info? e = some i) (hz : i.zero = some z)
    (hsize : i.size = size) (hby : i.bytes = bytes) (hzs : z.cells.size = size)
    (v : Value) (n : Nat) (xs : List Value) (hs : a.eval s = v) (hown : Own w base e size v n xs) (xv : Value) (m : Nat) (news : List Value) (hx : a.eval x = xv) (hsrc : Src P size tx xv m news w)
    (h63 : n + m ≤ maxLen) (hbytes : (n + m) * bytes ≤ 140737488355328) (hbase : base ≤ w.heap.size)
    (h : ∀ v' w', Own w' base e size v' (n + m) (xs ++ news) → Chg (fun k => some k = v.ownBlock) w w' → (v'.ownBlock = v.ownBlock ∨ v'.ownBlock = some w.heap.size) → wpList P ops Q rest (a.put o.dst v') w') : wpList P ops Q (o :: rest) a w :=
  wpList_plain hgd fun _ hK => wp_append_Own w s x t tx ho base e i z size bytes ht hi hz hsize hby hzs v n xs hs hown xv m news hx hsrc h63 hbytes hbase fun v' w' h2 h3 h4 => hK _ _ (h v' w' h2 h3 h4)
/-- string(b), b's row one's own. -/
theorem run_string_Own (w : World) (base : Nat) (src dst e : TypeId) (v : Value) (n : Nat) (l : List UInt8) (hs : P.underlying src = some (.slice e)) (he : P.underlying e = some (.int .u8)) (hd : P.underlying dst = some .string)
    (hown : Own w base e 1 v n (l.map fun b => .int .u8 (b.toNat : Int))) (hn : n ≠ 0) : (convert src dst v).run P w = .ok (.string ⟨l.toArray⟩) w := by
  have hl : n = l.length := by have := hown.1; simpa using this.symm
  subst hl
  obtain ⟨h1, ⟨rfl, h0⟩ | ⟨g, cap, cur, lo, hi', rfl, _⟩⟩ := id hown
  · exact absurd h0 hn
  · refine run_convert_bytes_back w src dst e ⟨g, 0, none⟩ cap l hs he hd fun j hj => ?_
    exact (hown.cells rfl).add j _ (by simp [hj])
end
end Go.Proofs.YtplejhefhnmabaaGreatDoor
