/- slices.Backward over bytes: what the iterator owes; a loop over it whose body changes one cell of its own is a part of a text. -/
import Derived.Test.YtplejhefhnmabaaGreatDoorAmN
import Derived.RangeFuncFrom
import Derived.RangeFuncCalls
import Derived.RangeFuncBound
import Derived.RangeFuncLeaves
import Derived.WalkKit
import Derived.OwnWalkIn
import Derived.TacticsInMore
import Derived.LoopNIn
import Derived.LoopIn
import Derived.KernelRfl
import Derived.Shelf.Abstract
namespace Go.Proofs.YtplejhefhnmabaaGreatDoor
open Go.RowKit Go.Shelf Am
set_option linter.unusedSimpArgs false
set_option linter.unusedVariables false
attribute [local go_sem] Oper.semAt_some
/-- What has come when k rounds are over. -/
def upto {α : Type} (f : Nat → α) (k : Nat) : List α := (List.range k).map f
theorem upto_succ {α : Type} (f : Nat → α) (k : Nat) : upto f (k + 1) = upto f k ++ [f k] := by simp [upto, List.range_succ]
theorem upto_length {α : Type} (f : Nat → α) (k : Nat) : (upto f k).length = k := by simp [upto]
/-- What a round keeps: every block below B but one. -/
def KpB (B X : Nat) (W W' : World) : Prop := ∀ j, j < B → j ≠ X → W'.heap[j]? = W.heap[j]?
theorem KpB.refl (B X : Nat) (W : World) : KpB B X W W := fun _ _ _ => rfl
theorem KpB.trans {B X : Nat} {A W V : World} (h : KpB B X A W) (k : KpB B X W V) : KpB B X A V := fun j hj hx => (k j hj hx).trans (h j hj hx)
theorem KpB.cell {B X : Nat} {A W : World} (h : KpB B X A W) {p : Addr} (hp : p.block < B) (hx : p.block ≠ X) : W.cell? p = A.cell? p := World.cell?_of_block (h p.block hp hx)
theorem KpB.put {B X : Nat} {w : World} (hn : B ≤ w.heap.size) (W : World) (l : Nat) (o o' : Obj) (hl : w.heap.size ≤ l) (h : W.heap[l]? = some o) (_ : o.isCells = false) (_ : o.isWalk = false) : KpB B X W (W.putObj l o') :=
  fun j hj _ => World.putObj_heap_other (by omega)
/-- One cell of w is another value; the rest is as it was, and new blocks. -/
structure CellIs (w : World) (p : Addr) (cs : Array Value) (e : TypeId) (fz : Nat × Nat) (v : Value) (W : World) : Prop where
  at_ : W.heap[p.block]? = some (.cells (cs.setIfInBounds p.off v) e fz)
  oth : ∀ j, j < w.heap.size → j ≠ p.block → W.heap[j]? = w.heap[j]?
  os : W.os = w.os
  tape : W.tape = w.tape
  output : W.output = w.output
  size : w.heap.size ≤ W.heap.size
theorem CellIs.grown {w : World} {p : Addr} {cs : Array Value} {e : TypeId} {fz : Nat × Nat} {v : Value} {A B : World} {row : Option Nat} (hp : p.block < w.heap.size) (h : CellIs w p cs e fz v A) (hg : A.grownBy B row) (hr : ∀ r, row = some r → w.heap.size ≤ r ∧ ∃ o : Obj, A.heap[r]? = some o ∧ o.isCells = false) : CellIs w p cs e fz v B :=
  ⟨(hg.block _ (by have := h.size; omega) (fun e => by have := (hr _ e.symm).1; omega)).trans h.at_, fun j hj hx => (hg.block _ (by have := h.size; omega) (fun e => by have := (hr _ e.symm).1; omega)).trans (h.oth j hj hx),
    hg.os.trans h.os, hg.tape.trans h.tape, hg.output.trans h.output, Nat.le_trans h.size hg.size⟩
theorem CellIs.cell {w : World} {p : Addr} {cs : Array Value} {e : TypeId} {fz : Nat × Nat} {v : Value} {W : World} (h : CellIs w p cs e fz v W) (hs : p.spot = none) (hq : p.off < cs.size) : W.cell? p = some v := by
  simp [World.cell?, h.at_, hq, hs]
theorem CellIs.frozen {w : World} {p : Addr} {cs : Array Value} {e : TypeId} {fz : Nat × Nat} {v : Value} {W : World} (h : CellIs w p cs e fz v W) (hz : ¬ (fz.1 ≤ p.off ∧ p.off < fz.2)) : W.frozen? p = false := by
  obtain ⟨lo, hi⟩ := fz
  simp only [World.frozen?, h.at_, Bool.and_eq_false_iff, decide_eq_false_iff_not]; simp at hz; omega
theorem CellIs.set {w : World} {p : Addr} {cs : Array Value} {e : TypeId} {fz : Nat × Nat} {v : Value} {W : World} (h : CellIs w p cs e fz v W) (hs : p.spot = none) (hp : p.block < w.heap.size) (u : Value) : CellIs w p cs e fz u (W.setCell p u) := by
  refine ⟨?_, fun j hj hx => (Below.heap_setCell W p u j hx).trans (h.oth j hj hx), h.os, h.tape, h.output, by simp [World.setCell]; exact h.size⟩
  have := h.size
  simp [World.setCell, h.at_, Array.getElem?_modify, hs]
theorem KpB.set {B X : Nat} (W : World) {p : Addr} (hp : p.block = X) (u : Value) : KpB B X W (W.setCell p u) := fun j _ hx => Below.heap_setCell W p u j (by omega)
/-- The world behind such a loop, under names. -/
theorem Res.after {C : Cx} {F : Hv} {sy : Sy} {w W : World} {nx k : Nat} {b : ABlk} (hI : Inj C F sy w) (hk : F k = some b) (hbw : b.wr = true) {c : CB} {cs cs' : Array Value} {fz : Nat × Nat} (hc : C (.loc k) = some c)
    (hb : w.heap[c.blk]? = some (.cells cs b.elem fz)) (hat : W.heap[c.blk]? = some (.cells cs' b.elem fz)) (hsz : cs'.size = cs.size) (oth : ∀ j, j < w.heap.size → j ≠ c.blk → W.heap[j]? = w.heap[j]?)
    (os : W.os = w.os) (tape : W.tape = w.tape) (output : W.output = w.output) (size : w.heap.size ≤ W.heap.size) {l : List AV} (hl : l.length = b.cells.length) (hv : ∀ i, i < l.length → VR C (l.getD i .any) (cs'.getD (c.base + i) undef)) :
    Res C F sy w nx .any (oneUp k { b with cells := l }) 0 undef W C := by
  have hlt := hI.inw _ _ hc
  have hap : ∀ n b', (F.app (oneUp k { b with cells := l })) n = some b' → n ≠ k → F n = some b' := fun n b' h hn => by simpa [Hv.app, oneUp, hn] using h
  have hdom : ∀ n b', (F.app (oneUp k { b with cells := l })) n = some b' → ∃ b'', F n = some b'' ∧ (b'.wr = true → b''.wr = true) := fun n b' h => by
    by_cases hn : n = k
    · exact ⟨b, hn ▸ hk, fun _ => hbw⟩
    · exact ⟨b', hap n b' h hn, id⟩
  refine ⟨.any _, ⟨?_, ?_, ?_, ?_, ?_⟩, ⟨Cx.le_refl C, fun _ => rfl, os, tape, output, size, ?_, ?_⟩, fun _ _ => rfl⟩
  · intro n b' hb'
    by_cases hn : n = k
    · subst hn
      simp only [Hv.app, oneUp, if_true] at hb'
      injection hb' with hb'; subst hb'
      rcases hI.at_ n b hk with ⟨h1, h2⟩ | ⟨c2, cs2, fz2, h1, h2, h3, h4, h5, h6⟩
      · rw [hc] at h1; cases h1
      · rw [hc] at h1; injection h1 with h1; subst h1
        rw [hb] at h2; injection h2 with h2; injection h2 with e1 e2 e3; subst e1; subst e3
        exact .inr ⟨c, _, fz, hc, hat, by omega, by simp only [hl]; exact h4, hv, h6⟩
    · refine (hI.at_ n b' (hap n b' hb' hn)).of (Cx.le_refl C) id fun c' hc' => oth _ (hI.inw _ _ hc') fun e => hI.sep n k b' b c' c (hap n b' hb' hn) hk hn (.inr hbw) hc' hc e
  · exact sy.stab _ _ hI.sy_ fun B hB => oth _ (sy.low _ hI.sy_ B hB) fun e => hI.seps k b c hk hbw hc (e ▸ hB)
  · intro n m b1 b2 c1 c2 h1 h2 hne hww
    obtain ⟨_, g1, q1⟩ := hdom n b1 h1
    obtain ⟨_, g2, q2⟩ := hdom m b2 h2
    exact hI.sep n m _ _ c1 c2 g1 g2 hne (hww.imp q1 q2)
  · intro n b1 c1 h1 hw
    obtain ⟨_, g1, q1⟩ := hdom n b1 h1
    exact hI.seps n _ c1 g1 (q1 hw)
  · intro n c' h; have := hI.inw n c' h; omega
  · intro B hB hn; exact oth B hB (fun e => hn k b c hk hbw hc e.symm)
  · intro n b1 c1 h1 h2
    obtain ⟨b2, g1, q1⟩ := hdom n b1 h1
    exact .inr ⟨n, b2, c1, g1, h2, rfl, q1⟩
/-- The k-th that comes: from behind. -/
def backAt (zs : List Int) (len k : Nat) : Int × Int := ((len : Int) - 1 - k, zs[len - 1 - k]?.getD 0)
set_option maxRecDepth 100000 in
set_option maxHeartbeats 4000000 in
/-- slices.Backward's closure, for every loop body that keeps what lay below B but X. -/
theorem back1_in (F : Fence) (n : Nat) (hF : F.fn 74) (hro : F.round = none) (hn : 1 ≤ n) (l Bx ob B X b off len cap : Nat) (zs : List Int) (hlen : len ≤ 65536) (hb : b < B) (hbX : b ≠ X) (hx : Bx < B) (hxX : Bx ≠ X) (J Jx : List (Int × Int) → World → Prop)
    (hY : ∀ pre x W, J pre W → pre.length < len → YieldAt F (n - 1) Tryz.prog l #[.int .i64 x.1, .int .u8 x.2] W fun e W' =>
      (e = .returned (.bool true) ∧ J (pre ++ [x]) W' ∧ KpB B X W W') ∨ (e = .returned (.bool false) ∧ Jx (pre ++ [x]) W'))
    (W : World) (hBs : W.cell? ⟨Bx, ob, none⟩ = some (.slice (some ⟨b, off, none⟩) len cap)) (hc : ∀ j, j < len → W.cell? ⟨b, off + j, none⟩ = some (.int .u8 (zs[j]?.getD 0))) (h0 : J [] W) :
    CallsIn F n Tryz.prog 74 #[.func (.yield l) #[] #[], .pointer (some ⟨Bx, ob, none⟩)] W fun e W' => (∃ v, e = .returned v) ∧
      ((∃ ys, ys = upto (backAt zs len) len ∧ J ys W') ∨ (∃ pre, True ∧ Jx pre W')) := by
  refine callsIn_of_wp Tryz.func74 rfl hF ?_ hro
  simp only [Tryz.ntmps74, List.size_toArray, List.length_cons, List.length_nil, Nat.reduceAdd, Nat.reduceSub, Array.replicate_succ, Array.replicate_zero, List.push_toArray, List.append_toArray, List.nil_append, List.cons_append]
  gi_wp2
  gi_loopw [3] (fun i wr => ∃ k : Nat, k ≤ len ∧ i = .int .i64 ((len : Int) - 1 - k) ∧ J (upto (backAt zs len) k) wr ∧ KpB B X W wr)
    (fun i _ => (intOf i + 1).toNat)
  case atStart => exact ⟨0, Nat.zero_le _, by simp, h0, KpB.refl _ _ _⟩
  case round =>
    obtain ⟨k, hk, rfl, hJs, hnx⟩ := hrel
    have hbx := (hnx.cell (p := ⟨Bx, ob, none⟩) hx hxX).trans hBs
    by_cases hlt : k < len
    · have hcx := (hnx.cell (p := ⟨b, off + (len - 1 - k), none⟩) hb hbX).trans (hc (len - 1 - k) (by omega))
      have hi : ((len : Int) - 1 - k) = ((len - 1 - k : Nat) : Int) := by omega
      obtain ⟨fn, tmps, assign, body, hy, hR⟩ := hY _ (backAt zs len k) wr hJs (by rw [upto_length]; exact hlt)
      rw [show backAt zs len k = (((len - 1 - k : Nat) : Int), zs[len - 1 - k]?.getD 0) by unfold backAt; rw [hi]] at hy
      dsimp only at hy
      rw [hi]
      have hj : len - 1 - k < len := by omega
      generalize hjj : len - 1 - k = j at *
      gi_wp2
      refine hR.mono ?_
      rintro e W3 (⟨rfl, hJ3, hk3⟩ | ⟨rfl, hJx3⟩)
      · gi_wp2
        go_roundw
        case rel => exact ⟨k + 1, by omega, by first | (simp; done) | (simp; omega), by rw [upto_succ]; exact hJ3, hnx.trans hk3⟩
        case measure => simp [intOf]
      · gi_wp2
        refine bodyPost_ret (results_none rfl _ _ _) rfl ?_
        exact ⟨⟨_, rfl⟩, .inr ⟨_, trivial, hJx3⟩⟩
    · obtain rfl : k = len := by omega
      gi_wp2
      go_end0
      exact ⟨⟨_, rfl⟩, .inl ⟨_, rfl, hJs⟩⟩
/-- .. and so the iterator's value. -/
theorem back_stops (F : Fence) (n : Nat) (hF : F.fn 74) (hro : F.round = none) (hn : 1 ≤ n) (Bx ob B X b off len cap : Nat) (zs : List Int) (hlen : len ≤ 65536) (w : World) (hb : b < B) (hbX : b ≠ X) (hx : Bx < B) (hxX : Bx ≠ X) (hB : B ≤ w.heap.size)
    (hBs : w.cell? ⟨Bx, ob, none⟩ = some (.slice (some ⟨b, off, none⟩) len cap)) (hc : ∀ j, j < len → w.cell? ⟨b, off + j, none⟩ = some (.int .u8 (zs[j]?.getD 0))) :
    SeqStopsK F n Tryz.prog 74 #[.pointer (some ⟨Bx, ob, none⟩)] (fun x : Int × Int => #[Value.int .i64 x.1, Value.int .u8 x.2]) (KpB B X) (fun ys => ys = upto (backAt zs len) len) (fun _ => True) len w := fun l J Jx W hW _ _ hY h0 =>
  back1_in F n hF hro hn l Bx ob B X b off len cap zs hlen hb hbX hx hxX J Jx hY W ((hW.cell (p := ⟨Bx, ob, none⟩) (by simp; omega)).trans hBs) (fun j hj => (hW.cell (p := ⟨b, off + j, none⟩) (by simp; omega)).trans (hc j hj)) h0
/-- An array of a known size, written out. -/
theorem arr_lit (T : Array Value) {n : Nat} (h : T.size = n) : ∃ f : Nat → Value, (∀ i, f i = T.getD i undef) ∧ T = ((List.range n).map f).toArray := by
  refine ⟨fun i => T.getD i undef, fun _ => rfl, ?_⟩
  subst h
  apply Array.ext
  · simp
  · intro i h1 h2; simp [Array.getD, h1]
theorem seg_of {P : Program} {sy : Sy} {c : Code} {s s1 : St} {R asg bd rest : Code} {g : Operand} {ps : Array Tmp} {i : Nat} (h : c = Code.seq (.seq R (.block i (.rangeFunc g ps asg bd))) rest)
    (h1 : ∀ C a w, StR sy ⟨C, lk s.lit, w, s.nx, s1.nx, a.defers⟩ C s a w → ∀ Q : Exit → Act → World → Prop, (∀ C' a' w', StR sy ⟨C, lk s.lit, w, s.nx, s1.nx, a.defers⟩ C' s1 a' w' → Q .normal a' w') → (Code.seq R (.block i (.rangeFunc g ps asg bd))).wp P Q a w) :
    SSpec P sy 1 c s s1 := by
  subst h
  intro C a w Q hs hq
  exact wp_seq (h1 C a w hs _ fun C' a' w' h => hq C' a' w' h)
structure Held (p : Prop) : Prop where
  out : p
def stepB (v x : Int) : Int := bits .or .u32 (v * 256 % 4294967296) (x % 4294967296)
def valB (pre : List (Int × Int)) : Int := pre.foldl (fun v x => stepB v x.2) 0
theorem valB_snoc (pre : List (Int × Int)) (x : Int × Int) : valB (pre ++ [x]) = stepB (valB pre) x.2 := by simp [valB]
def fT0 (x0 x2 : AV) : List AV := [x0, .any, x2, .any, .any, .slc (.loc 13) 0 4 (.ex 4), .any, .ptr (.loc 14) 0, .any, .any, .any, .any, .any, .any, .any, .any, .any, .any, .any, .any, .any, .any, .any, .any, .any, .any, .any, .any, .any, .any, .any, .any, .any, .any, .any, .any, .any, .any, .any, .any, .any, .any, .any, .any, .any, .any, .any, .any, .any, .any, .any, .any, .any, .any, .any, .any, .any, .any, .any, .any, .any, .any, .any, .any, .any, .any, .any, .any, .any, .any, .any, .any]
def fT1 (x0 x2 : AV) : List AV := [x0, .any, x2, .any, .any, .slc (.loc 13) 0 4 (.ex 4), .any, .ptr (.loc 14) 0, .any, .any, .any, .any, .any, .any, .any, .any, .any, .any, .any, .any, .any, .any, .any, .any, .any, .any, .any, .any, .any, .any, .any, .any, .any, .any, .any, .any, .any, .any, .any, .any, .any, .any, .any, .any, .slc (.loc 13) 0 4 (.ex 4), .fn 74 [] [.ptr (.loc 15) 0], .any, .any, .any, .any, .any, .any, .any, .any, .any, .any, .any, .any, .any, .any, .any, .any, .any, .any, .any, .any, .any, .any, .any, .any, .any, .any]
def fTE (x0 x2 : AV) : List AV := [x0, .any, x2, .any, .any, .any, .any, .ptr (.loc 14) 0, .any, .any, .any, .any, .any, .any, .any, .any, .any, .any, .any, .any, .any, .any, .any, .any, .any, .any, .any, .any, .any, .any, .any, .any, .any, .any, .any, .any, .any, .any, .any, .any, .any, .any, .any, .any, .any, .any, .any, .any, .any, .any, .any, .any, .any, .any, .any, .any, .any, .any, .any, .any, .any, .any, .any, .any, .any, .any, .any, .any, .any, .any, .any, .any]
def fL0 (L : List Int) (v : Int) : Am.Lit := [(13, ⟨L.map (.int .u8), 5, true⟩), (14, ⟨[.int .u32 v], 23, true⟩)]
def fL1 (L : List Int) (v : Int) : Am.Lit := [(13, ⟨L.map (.int .u8), 5, true⟩), (14, ⟨[.int .u32 v], 23, true⟩), (15, ⟨[.slc (.loc 13) 0 4 (.ex 4)], 22, true⟩)]
theorem stR_tm {sy : Sy} {E : Env} {C : Cx} {s : St} {a : Act} {w : World} (h : StR sy E C s a w) {i : Nat} {v : AV} (hi : i < s.tm.length) (e : s.tm.getD i .any = v) : VR C v (a.tmps.getD i undef) := e ▸ h.tm i hi
theorem setSame {cs : Array Value} {i : Nat} (h : i < cs.size) : cs.setIfInBounds i (cs.getD i undef) = cs := by
  apply Array.ext
  · simp
  · intro j h1 h2
    rw [Array.getElem_setIfInBounds]
    split
    · rename_i e; subst e; simp [Array.getD, h]
    · rfl
theorem ltb {a b : Nat} (h : Nat.ble (a + 1) b = true) : a < b := Nat.le_of_ble_eq_true h
theorem VR.slcE {C : Cx} {k o len : Nat} {v : Value} (hl : len ≠ 0) (h : VR C (.slc (.loc k) o len (.ex len)) v) : ∃ c, C (.loc k) = some c ∧ v = .slice (some ⟨c.blk, c.base + o, none⟩) len len := by
  cases h with
  | slc _ _ _ _ a cap' h1 h2 h3 =>
    obtain rfl := h3 _ rfl
    obtain ⟨c, e, rfl, _⟩ := h1 hl
    exact ⟨c, e, rfl⟩
theorem VR.ptrE {C : Cx} {k o : Nat} {v : Value} (h : VR C (.ptr (.loc k) o) v) : ∃ c, C (.loc k) = some c ∧ v = .pointer (some ⟨c.blk, c.base + o, none⟩) := by
  cases h with
  | ptr _ _ c hc => exact ⟨c, hc, rfl⟩
theorem blkSome {C : Cx} {nm : Nm} {b : ABlk} {w : World} {c : CB} (h : BlkAt C nm b w) (hc : C nm = some c) : ∃ cs fz, w.heap[c.blk]? = some (.cells cs b.elem fz) ∧ c.base + c.size ≤ cs.size ∧ b.cells.length ≤ c.size ∧
    (∀ i, i < b.cells.length → VR C (b.cells.getD i .any) (cs.getD (c.base + i) undef)) ∧ (b.wr = true → ∀ i, i < c.size → ¬ (fz.1 ≤ c.base + i ∧ c.base + i < fz.2)) := by
  rcases h with ⟨h1, _⟩ | ⟨c', cs, fz, h1, h2, h3, h4, h5, h6⟩
  · rw [h1] at hc; cases hc
  · rw [hc] at h1; injection h1 with h1; subst h1; exact ⟨cs, fz, h2, h3, h4, h5, h6⟩
theorem cell_of {w : World} {b o : Nat} {cs : Array Value} {e : TypeId} {fz : Nat × Nat} {v : Value} (h : w.heap[b]? = some (.cells cs e fz)) (hi : o < cs.size) (hv : cs.getD o undef = v) : w.cell? ⟨b, o, none⟩ = some v := by
  subst hv
  simp [World.cell?, h, hi, Array.getD]
theorem upto4 (L : List Int) : upto (backAt L 4) 4 = [(3, L[3]?.getD 0), (2, L[2]?.getD 0), (1, L[1]?.getD 0), (0, L[0]?.getD 0)] := by
  simp [upto, backAt, List.range, List.range.loop]
theorem VR.fnE {C : Cx} {k o g : Nat} {v : Value} (h : VR C (.fn g [] [.ptr (.loc k) o]) v) : ∃ c, C (.loc k) = some c ∧ v = .func (.func g) #[] #[.pointer (some ⟨c.blk, c.base + o, none⟩)] := by
  cases h with
  | fn _ _ _ l' m' h1 h2 h3 h4 =>
    obtain ⟨c, hc, e⟩ := VR.ptrE (h4 0 (ltb rfl))
    refine ⟨c, hc, ?_⟩
    have e1 : l' = #[] := by apply Array.eq_empty_of_size_eq_zero; simpa using h1.symm
    have e2 : m' = #[m'.getD 0 undef] := by
      apply Array.ext
      · simpa using h2.symm
      · intro i h1 h2'
        have : i = 0 := by simp at h2'; omega
        subst this
        simp [Array.getD, h1]
    rw [e1, e2, e]
def fA (f : Nat → Value) : Array Value := #[f 0, f 1, f 2, f 3, f 4, f 5, f 6, f 7, f 8, f 9, f 10, f 11, f 12, f 13, f 14, f 15, f 16, f 17, f 18, f 19, f 20, f 21, f 22, f 23, f 24, f 25, f 26, f 27, f 28, f 29, f 30, f 31, f 32, f 33, f 34, f 35, f 36, f 37, f 38, f 39, f 40, f 41, f 42, f 43, f 44, f 45, f 46, f 47, f 48, f 49, f 50, f 51, f 52, f 53, f 54, f 55, f 56, f 57, f 58, f 59, f 60, f 61, f 62, f 63, f 64, f 65, f 66, f 67, f 68, f 69, f 70, f 71]
def fB (f : Nat → Value) (x : Int × Int) : Array Value := #[f 0, f 1, f 2, f 3, f 4, f 5, f 6, f 7, f 8, .int .u8 x.2, f 10, f 11, f 12, f 13, f 14, f 15, f 16, f 17, f 18, f 19, f 20, f 21, f 22, f 23, f 24, f 25, f 26, f 27, f 28, f 29, f 30, f 31, f 32, f 33, f 34, f 35, f 36, f 37, f 38, f 39, f 40, f 41, f 42, f 43, f 44, f 45, .int .i64 x.1, .int .u8 x.2, f 48, f 49, f 50, f 51, f 52, f 53, f 54, f 55, f 56, f 57, f 58, f 59, f 60, f 61, f 62, f 63, f 64, f 65, f 66, f 67, f 68, f 69, f 70, f 71]
theorem fA_eq (f : Nat → Value) : ((List.range 72).map f).toArray = fA f := rfl
set_option maxRecDepth 100000 in
set_option maxHeartbeats 4000000 in
theorem fetchSeg {sy : Sy} (back : SpecC Tryz.prog sy 60 [.slc (.loc 13) 0 4 (.ex 4)] (lk []) 15 (.fn 74 [] [.ptr (.loc 15) 0]) (upOf [(15, ⟨[.slc (.loc 13) 0 4 (.ex 4)], 22, true⟩)] []) 1)
    (L : List Int) (h4 : L.length = 4) (x0 x2 : AV) : SSpec Tryz.prog sy 1 (bodyAt Tryz.f55 63) ⟨fT0 x0 x2, fL0 L 0, 15, .nil⟩ ⟨fTE x0 x2, [(14, ⟨[.int .u32 (valB (upto (backAt L 4) 4))], 23, true⟩)], 16, .nil⟩ := by
  refine seg_of rfl ?_
  intro C a w hs Q hq
  have hv : vcN Tryz.prog sy 16 (bodyAt Tryz.f55 159) 0 (fun e s => e = .norm ∧ s = ⟨fT1 x0 x2, fL1 L 0, 16, .nil⟩) ⟨fT0 x0 x2, fL0 L 0, 15, .call [] (.fn 74 [] [.ptr (.loc 15) 0]) [(15, ⟨[.slc (.loc 13) 0 4 (.ex 4)], 22, true⟩)] [] 1 .nil⟩ :=
    ⟨back, rfl, rfl⟩
  refine wp_seq (wp_mono (vcN_ok (hi := 16) rfl (by decide) (bodyAt Tryz.f55 159) 0 _ _ C a w (hs.sc _) hv) ?_)
  rintro e a' w' ⟨x, s', C', rfl, ⟨rfl, rfl⟩, hs'⟩
  refine wp_block ((wpIn_wide (n := 9)).1 ?_)
  obtain ⟨T, ds⟩ := a'
  have hsz : T.size = 72 := hs'.size.symm
  obtain ⟨f, hf, hT⟩ := arr_lit T hsz
  rw [fA_eq] at hT
  obtain ⟨cv, hcv, e7⟩ := VR.ptrE (stR_tm hs' (i := 7) (ltb rfl) rfl)
  obtain ⟨cb, hcb, e45⟩ := VR.fnE (stR_tm hs' (i := 45) (ltb rfl) rfl)
  obtain ⟨cs6, fz6, g6, s6, l6, v6, z6⟩ := blkSome (hs'.inj.at_ 14 _ rfl) hcv
  obtain ⟨cs7, fz7, g7, s7, l7, v7, z7⟩ := blkSome (hs'.inj.at_ 15 _ rfl) hcb
  obtain ⟨cl, hcl, e5⟩ := VR.slcE (by decide) (v7 0 (ltb rfl))
  obtain ⟨cs5, fz5, g5, s5, l5, v5, z5⟩ := blkSome (hs'.inj.at_ 13 _ rfl) hcl
  have hb := hs'.inj.inw _ _ hcl
  have hx := hs'.inj.inw _ _ hcb
  have hp := hs'.inj.inw _ _ hcv
  have hbX : cl.blk ≠ cv.blk := hs'.inj.sep 13 14 _ _ cl cv rfl rfl (by decide) (.inl rfl) hcl hcv
  have hxX : cb.blk ≠ cv.blk := hs'.inj.sep 15 14 _ _ cb cv rfl rfl (by decide) (.inl rfl) hcb hcv
  have hg : ({ tmps := T, defers := ds } : Act).eval (.tmp 45) = .func (.func 74) #[] #[.pointer (some ⟨cb.blk, cb.base + 0, none⟩)] := e45
  have hp6 : cv.base + 0 < cs6.size := by have : (1 : Nat) ≤ cv.size := l6; omega
  have c60 : cs6.getD (cv.base + 0) undef = .int .u32 0 := by
    have := v6 0 (ltb rfl)
    revert this; generalize cs6.getD (cv.base + 0) undef = z; intro this; cases this; rfl
  have h0 : CellIs w' ⟨cv.blk, cv.base + 0, none⟩ cs6 23 fz6 (.int .u32 (valB [])) w' := by
    refine ⟨?_, fun _ _ _ => rfl, rfl, rfl, rfl, Nat.le_refl _⟩
    show w'.heap[cv.blk]? = some (.cells (cs6.setIfInBounds (cv.base + 0) (.int .u32 0)) 23 fz6)
    rw [g6, ← c60, setSame hp6]
  have hBs := cell_of g7 (o := cb.base + 0) (by have : (1 : Nat) ≤ cb.size := l7; omega) e5
  have l5' : 4 ≤ cl.size := by have : (L.map (AV.int .u8)).length ≤ cl.size := l5; rw [List.length_map, h4] at this; exact this
  have hcs : ∀ j, j < 4 → w'.cell? ⟨cl.blk, cl.base + 0 + j, none⟩ = some (.int .u8 (L[j]?.getD 0)) := fun j hj => by
    refine cell_of g5 (by omega) ?_
    have := v5 j (by show j < (L.map (AV.int .u8)).length; rw [List.length_map, h4]; exact hj)
    rw [show (⟨L.map (AV.int .u8), 5, true⟩ : ABlk).cells.getD j .any = .int .u8 (L[j]?.getD 0) by simp [List.getD_eq_getElem?_getD, List.getElem?_map, show j < L.length by omega]] at this
    revert this; rw [Nat.add_zero]; generalize cs5.getD (cl.base + j) undef = z; intro this; cases this; rfl
  have hz6 : ¬ (fz6.1 ≤ cv.base + 0 ∧ cv.base + 0 < fz6.2) := z6 rfl 0 l6
  subst hT
  refine wpIn_rangeFunc_ownF (F := Fence.wide) (n := 9) rfl (by decide) (gf := 74) (lb := #[.pointer (some ⟨cb.blk, cb.base + 0, none⟩)]) hg trivial (enters_of Tryz.func74 (by kernel_rfl) rfl)
    (back_stops Fence.wide (9 - 1) trivial rfl (by decide) cb.blk (cb.base + 0) w'.heap.size cv.blk cl.blk (cl.base + 0) 4 4 L (by decide) w' hb hbX hx hxX (Nat.le_refl _) hBs hcs)
    KpB.trans (KpB.put (Nat.le_refl _)) (Below.refl _ _) (fun _ => rfl)
    (fun pre W => CellIs w' ⟨cv.blk, cv.base + 0, none⟩ cs6 23 fz6 (.int .u32 (valB pre)) W)
    (fun _ _ _ => False)
    (fun pre A B row hs hg hr => hs.grown hp hg hr)
    (fun _ _ _ _ _ hs _ _ => hs)
    h0
    (fun x => { tmps := fB f x, defers := [] }) ?assign ?body ?done ?stop
  case assign =>
    intro l x W K hK
    clear hf e7 e45 hsz hg back hs hs' hq hv v5 v6 v7 z5 z6 z7 h0 hBs hcs c60 hz6 g5 g6 g7
    simp only [fA, fB] at hK ⊢
    gi_wp2
    exact hK
  case body =>
    rintro l pre x W hc _
    have hcell := hc.cell rfl hp6
    have hfr := hc.frozen hz6
    have h7 : f 7 = .pointer (some ⟨cv.blk, cv.base + 0, none⟩) := (hf 7).trans e7
    have hend : ∀ v, v = stepB (valB pre) x.2 → CellIs w' ⟨cv.blk, cv.base + 0, none⟩ cs6 23 fz6 (.int .u32 (valB (pre ++ [x]))) (W.setCell ⟨cv.blk, cv.base + 0, none⟩ (.int .u32 v)) := fun v e => by rw [valB_snoc, e]; exact hc.set rfl hp _
    clear hf e7 e45 hsz hg back hs hs' hq hv v5 v6 v7 z5 z6 z7 h0 hBs hcs c60 hz6 g5 g6 g7 hc hp6 s6
    have hend := Held.mk hend
    generalize cv.base + 0 = q at *
    simp only [fB, h7]
    gi_wp2
    exact ⟨KeepsOthers.setCell _ _ _, KpB.set W (p := ⟨cv.blk, q, none⟩) rfl _, hend.out _ rfl⟩
  case done =>
    rintro D xs W hD rfl hc hK
    show Q .normal _ W
    have hr : Res C' (restr (fL1 L 0) [14]) sy w' 16 .any (upOf [(14, ⟨[.int .u32 (valB (upto (backAt L 4) 4))], 23, true⟩)] []) 0 undef W C' := by
      rw [upOf_one]
      refine Res.after (k := 14) (b := ⟨[.int .u32 0], 23, true⟩) (hs'.inj.sub (fun n b hb => by unfold restr at hb; cases hm : memN [14] n <;> rw [hm] at hb <;> first | (cases hb; done) | exact hb)) rfl rfl hcv g6 hc.at_ (by simp) hc.oth hc.os hc.tape hc.output hc.size rfl ?_
      intro i hi
      have hi : i < 1 := hi
      obtain rfl : i = 0 := by omega
      show VR C' (.int .u32 _) _
      rw [show (cs6.setIfInBounds (cv.base + 0) (Value.int .u32 (valB (upto (backAt L 4) 4)))).getD (cv.base + 0) undef = Value.int .u32 (valB (upto (backAt L 4) 4)) by simp only [Array.getD, Array.size_setIfInBounds, hp6, dif_pos]; simp]
      exact .int _ _
    have hs1 := hs'.step (dst := none) (sc := .nil) rfl hr
    obtain ⟨C2, hs2⟩ := Wk.sub2 (sy := sy) (nb := 15) (hi := 16) (t := ⟨fTE x0 x2, [(14, ⟨[.int .u32 (valB (upto (backAt L 4) 4))], 23, true⟩)], 16, .nil⟩) [0, 2, 7] [14] _ _ rfl rfl rfl rfl rfl _ C' _ W rfl rfl hs1
    have hkd : KeepD w' W := fun D' x hx' => (hc.oth D' (Array.getElem?_eq_some_iff.1 hx').1 (fun e => by subst e; rw [g6] at hx'; cases hx')).trans hx'
    refine hq C2 _ W ⟨hs2.size, hs2.tm, hs2.inj, hs2.fresh, hs2.goes, hs2.low, hs2.keep, ?_, hs2.base⟩
    exact hs'.defers.trans ⟨[D], rfl, ⟨fun D' h => by rw [List.mem_singleton.1 h]; exact ⟨hD, hK⟩, List.pairwise_singleton _ _⟩⟩ hkd (Nat.le_refl _) hs'.goes.size
  case stop =>
    rintro D c pre W _ _ h _
    exact h.elim
