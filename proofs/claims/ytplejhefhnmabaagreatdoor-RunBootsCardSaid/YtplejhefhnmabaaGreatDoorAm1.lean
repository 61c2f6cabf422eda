import Derived.WalkKit
import Derived.Laws.AppendOwn
import Derived.Laws.CopyRow
import Derived.Laws.Cover3
import Derived.Laws.BytesString
import Derived.Laws.StructEq
/- Abstract machine, part A: values under names, blocks under names, what they stand for in a world. -/
namespace Go.Proofs.YtplejhefhnmabaaGreatDoor.Am
set_option linter.unusedSimpArgs false
set_option linter.unusedVariables false
inductive Nm | loc (k : Nat) | sym (k : Nat)
  deriving DecidableEq
inductive Cp | ex (c : Nat) | own (e : Nat)
  deriving DecidableEq
inductive AV where
  | any | bad
  | bool (b : Bool)
  | tru | fls
  | int (k : IntKind) (n : Int)
  | str (s : ByteArray)
  | nilp | ptr (b : Nm) (o : Nat) | gp (b o : Nat)
  | nils | slc (b : Nm) (o len : Nat) (cap : Cp)
  | lst (b : Nm) (o len : Nat) (cap : Cp)
  | fn (f : FuncId) (first cap : List AV)
  | nilf
  | ifc (t : TypeId) (v : AV)
  | nili
  | agg (l : List AV)
  | tup (l : List AV)
  deriving Inhabited
structure ABlk where
  cells : List AV
  elem : TypeId
  wr : Bool
abbrev Lit := List (Nat × ABlk)
def lk : Lit → Nat → Option ABlk
  | [], _ => none
  | (n, b) :: l, k => bif Nat.beq n k then some b else lk l k
def put : Lit → Nat → ABlk → Lit
  | [], k, x => [(k, x)]
  | (n, b) :: l, k, x => bif Nat.beq n k then (n, x) :: l else (n, b) :: put l k x
def del : Lit → Nat → Lit
  | [], _ => []
  | (n, b) :: l, k => bif Nat.beq n k then del l k else (n, b) :: del l k
def puts (l : Lit) : Lit → Lit
  | [] => l
  | (n, b) :: u => put (puts l u) n b
def dels (l : Lit) : List Nat → Lit
  | [] => l
  | n :: u => dels (del l n) u
theorem beqf {m k : Nat} (h : m ≠ k) : Nat.beq m k = false := by
  cases e : Nat.beq m k with
  | false => rfl
  | true => exact absurd (Nat.eq_of_beq_eq_true e) h
theorem lk_put (l : Lit) (k : Nat) (x : ABlk) (n : Nat) : lk (put l k x) n = if k = n then some x else lk l n := by
  induction l with
  | nil => simp only [put, lk]; by_cases h : k = n <;> simp [h, Nat.beq_eq_true_eq, cond_eq_ite, Nat.beq_eq]
  | cons p l ih =>
    obtain ⟨m, b⟩ := p
    simp only [put]
    by_cases h : m = k
    · subst h; simp only [Nat.beq_refl, cond_true, lk]; by_cases h : m = n <;> simp [h, cond_eq_ite, Nat.beq_eq]
    · have : Nat.beq m k = false := beqf h
      simp only [this, cond_false, lk, ih]
      by_cases h2 : m = n
      · subst h2; simp [Ne.symm h]
      · have : Nat.beq m n = false := beqf h2
        simp [this]
theorem lk_del (l : Lit) (k n : Nat) : lk (del l k) n = if k = n then none else lk l n := by
  induction l with
  | nil => simp [del, lk]
  | cons p l ih =>
    obtain ⟨m, b⟩ := p
    simp only [del]
    by_cases h : m = k
    · subst h; simp only [Nat.beq_refl, cond_true, ih, lk]; by_cases h : m = n
      · simp [h]
      · have : Nat.beq m n = false := beqf h
        simp [this]
    · have : Nat.beq m k = false := beqf h
      simp only [this, cond_false, lk, ih]
      by_cases h2 : m = n
      · subst h2; simp [Ne.symm h]
      · have : Nat.beq m n = false := beqf h2
        simp [this]

structure CB where
  blk : Nat
  base : Nat
  size : Nat
abbrev Cx := Nm → Option CB
def Cx.le (C D : Cx) : Prop := ∀ n c, C n = some c → D n = some c

/-- What an abstract value stands for. -/
inductive VR (C : Cx) : AV → Value → Prop
  | any (v : Value) : VR C .any v
  | bool (b : Bool) : VR C (.bool b) (.bool b)
  | tru : VR C .tru (.bool true)
  | fls : VR C .fls (.bool false)
  | int (k : IntKind) (n : Int) : VR C (.int k n) (.int k n)
  | str (s : ByteArray) : VR C (.str s) (.string s)
  | nilp : VR C .nilp (.pointer none)
  | ptr (b : Nm) (o : Nat) (c : CB) : C b = some c → VR C (.ptr b o) (.pointer (some ⟨c.blk, c.base + o, none⟩))
  | gp (b o : Nat) : VR C (.gp b o) (.pointer (some ⟨b, o, none⟩))
  | nils : VR C .nils (.slice none 0 0)
  | slc (b : Nm) (o len : Nat) (cap : Cp) (a : Addr) (cap' : Nat) :
      (cap' ≠ 0 → ∃ c, C b = some c ∧ a = ⟨c.blk, c.base + o, none⟩ ∧ ∀ e, cap = .own e → o + cap' * e ≤ c.size) → len ≤ cap' → (∀ k, cap = .ex k → cap' = k) →
      VR C (.slc b o len cap) (.slice (some a) len cap')
  | lstn (b : Nm) (o : Nat) (cap : Cp) : VR C (.lst b o 0 cap) (.slice none 0 0)
  | lsts (b : Nm) (o len : Nat) (cap : Cp) (a : Addr) (cap' : Nat) : VR C (.slc b o len cap) (.slice (some a) len cap') → VR C (.lst b o len cap) (.slice (some a) len cap')
  | fn (f : FuncId) (l m : List AV) (l' m' : Array Value) : l.length = l'.size → m.length = m'.size →
      (∀ i, i < l.length → VR C (l.getD i .any) (l'.getD i undef)) → (∀ i, i < m.length → VR C (m.getD i .any) (m'.getD i undef)) →
      VR C (.fn f l m) (.func (.func f) l' m')
  | nilf : VR C .nilf .nilFunc
  | ifc (t : TypeId) (v : AV) (v' : Value) : VR C v v' → VR C (.ifc t v) (.iface t v')
  | nili : VR C .nili .nilIface
  | agg (l : List AV) (l' : Array Value) : l.length = l'.size → (∀ i, i < l.length → VR C (l.getD i .any) (l'.getD i undef)) → VR C (.agg l) (.agg l')
  | tup (l : List AV) (l' : Array Value) : l.length = l'.size → (∀ i, i < l.length → VR C (l.getD i .any) (l'.getD i undef)) → VR C (.tup l) (.tuple l')
theorem VR.mono {C D : Cx} (h : C.le D) {v : AV} {v' : Value} (r : VR C v v') : VR D v v' := by
  induction r with
  | any v => exact .any v
  | bool b => exact .bool b
  | tru => exact .tru
  | fls => exact .fls
  | int k n => exact .int k n
  | str s => exact .str s
  | nilp => exact .nilp
  | ptr b o c hc => exact .ptr b o c (h _ _ hc)
  | gp b o => exact .gp b o
  | nils => exact .nils
  | slc b o len cap a cap' h1 h2 h3 => exact .slc b o len cap a cap' (fun hn => let ⟨c, e, r⟩ := h1 hn; ⟨c, h _ _ e, r⟩) h2 h3
  | lstn b o cap => exact .lstn b o cap
  | lsts b o len cap a cap' _ ih => exact .lsts b o len cap a cap' ih
  | fn f l m l' m' h1 h2 _ _ i1 i2 => exact .fn f l m l' m' h1 h2 i1 i2
  | nilf => exact .nilf
  | ifc t v v' _ ih => exact .ifc t v v' ih
  | nili => exact .nili
  | agg l l' h1 _ i => exact .agg l l' h1 i
  | tup l l' h1 _ i => exact .tup l l' h1 i

/-- A row of abstract values and a row of values. -/
def VRs (C : Cx) (l : List AV) (l' : Array Value) : Prop := l.length = l'.size ∧ ∀ i, i < l.length → VR C (l.getD i .any) (l'.getD i undef)
theorem VRs.mono {C D : Cx} (h : C.le D) {l : List AV} {l' : Array Value} (r : VRs C l l') : VRs D l l' := ⟨r.1, fun i hi => (r.2 i hi).mono h⟩
theorem VRs.nil {C : Cx} : VRs C [] #[] := ⟨rfl, fun i hi => by cases hi⟩

/-- A block under a name. -/
def BlkAt (C : Cx) (nm : Nm) (b : ABlk) (w : World) : Prop :=
  (C nm = none ∧ b.cells = []) ∨ ∃ c cs fz, C nm = some c ∧ w.heap[c.blk]? = some (.cells cs b.elem fz) ∧ c.base + c.size ≤ cs.size ∧ b.cells.length ≤ c.size ∧
    (∀ i, i < b.cells.length → VR C (b.cells.getD i .any) (cs.getD (c.base + i) undef)) ∧
    (b.wr = true → ∀ i, i < c.size → ¬ (fz.1 ≤ c.base + i ∧ c.base + i < fz.2))
abbrev Hv := Nat → Option ABlk
/-- What becomes of some names: none: as it was; some none: no longer told of. -/
abbrev Up := Nat → Option (Option ABlk)
def Hv.app (H : Hv) (U : Up) : Hv := fun n => match U n with | some o => o | none => H n
/-- What is known of the world beside the named blocks: it goes by some blocks alone. -/
structure Sy where
  foot : Nat → Prop
  holds : World → Prop
  low : ∀ w, holds w → ∀ B, foot B → B < w.heap.size
  stab : ∀ w w', holds w → (∀ B, foot B → w'.heap[B]? = w.heap[B]?) → holds w'
  gb : Nat → Option (List AV)
  gat : ∀ w, holds w → ∀ B cells, gb B = some cells → ∀ i, i < cells.length → ∃ v', w.cell? ⟨B, i, none⟩ = some v' ∧ ∀ C, VR C (cells.getD i .any) v'
structure Inj (C : Cx) (H : Hv) (sy : Sy) (w : World) : Prop where
  at_ : ∀ n b, H n = some b → BlkAt C (.loc n) b w
  sy_ : sy.holds w
  sep : ∀ n m b b' c c', H n = some b → H m = some b' → n ≠ m → (b.wr = true ∨ b'.wr = true) → C (.loc n) = some c → C (.loc m) = some c' → c.blk ≠ c'.blk
  seps : ∀ n b c, H n = some b → b.wr = true → C (.loc n) = some c → ¬ sy.foot c.blk
  inw : ∀ n c, C n = some c → c.blk < w.heap.size
/-- Nothing but the named blocks has changed; the named ones are the old ones or new. -/
structure Goes (C : Cx) (H : Hv) (w : World) (C1 : Cx) (H1 : Hv) (w1 : World) : Prop where
  mono : Cx.le C C1
  syc : ∀ s, C1 (.sym s) = C (.sym s)
  os : w1.os = w.os
  tape : w1.tape = w.tape
  output : w1.output = w.output
  size : w.heap.size ≤ w1.heap.size
  same : ∀ B, B < w.heap.size → (∀ n b c, H n = some b → b.wr = true → C (.loc n) = some c → c.blk ≠ B) → w1.heap[B]? = w.heap[B]?
  rng : ∀ n b c, H1 n = some b → C1 (.loc n) = some c → w.heap.size ≤ c.blk ∨ ∃ m b' c', H m = some b' ∧ C (.loc m) = some c' ∧ c'.blk = c.blk ∧ (b.wr = true → b'.wr = true)
theorem Cx.le_refl (C : Cx) : Cx.le C C := fun _ _ h => h
theorem Cx.le_trans {A B C : Cx} (h : Cx.le A B) (k : Cx.le B C) : Cx.le A C := fun n c e => k n c (h n c e)
theorem Goes.refl (C : Cx) (H : Hv) (w : World) : Goes C H w C H w :=
  ⟨Cx.le_refl C, fun _ => rfl, rfl, rfl, rfl, Nat.le_refl _, fun _ _ _ => rfl, fun n b c h1 h2 => .inr ⟨n, b, c, h1, h2, rfl, id⟩⟩
theorem Goes.trans {A B C : Cx} {l m n : Hv} {u v w : World} (h : Goes A l u B m v) (k : Goes B m v C n w) : Goes A l u C n w where
  mono := Cx.le_trans h.mono k.mono
  syc s := (k.syc s).trans (h.syc s)
  os := k.os.trans h.os
  tape := k.tape.trans h.tape
  output := k.output.trans h.output
  size := Nat.le_trans h.size k.size
  same X hX hn := by
    refine (k.same X (Nat.lt_of_lt_of_le hX h.size) ?_).trans (h.same X hX hn)
    intro a b c hl hw hc e
    rcases h.rng a b c hl hc with hr | ⟨m', b', c', h1, h2, h3, h4⟩
    · omega
    · exact hn m' b' c' h1 (h4 hw) h2 (h3.trans e)
  rng a b c hl hc := by
    rcases k.rng a b c hl hc with hr | ⟨m', b', c', h1, h2, h3, h4⟩
    · exact .inl (Nat.le_trans h.size hr)
    · rcases h.rng m' b' c' h1 h2 with hr | ⟨m2, b2, c2, g1, g2, g3, g4⟩
      · exact .inl (h3 ▸ hr)
      · exact .inr ⟨m2, b2, c2, g1, g2, g3.trans h3, fun hw => g4 (h4 hw)⟩
/-- A draw from the tape changes nothing. -/
theorem Inj.drew {C : Cx} {H : Hv} {sy : Sy} {w : World} (h : Inj C H sy w) : Inj C H sy { w with drawn := w.drawn + 1 } := ⟨h.at_, sy.stab _ _ h.sy_ fun _ _ => rfl, h.sep, h.seps, h.inw⟩
theorem Goes.drew {A B : Cx} {l m : Hv} {u v : World} (h : Goes A l u B m v) : Goes A l u B m { v with drawn := v.drawn + 1 } := ⟨h.mono, h.syc, h.os, h.tape, h.output, h.size, h.same, h.rng⟩
/-- Fewer names are told of. -/
theorem Inj.sub {C : Cx} {H H' : Hv} {sy : Sy} {w : World} (h : Inj C H sy w) (hs : ∀ n b, H' n = some b → H n = some b) : Inj C H' sy w :=
  ⟨fun n b hb => h.at_ n b (hs n b hb), h.sy_, fun n m b b' c c' h1 h2 => h.sep n m b b' c c' (hs _ _ h1) (hs _ _ h2), fun n b c h1 => h.seps n b c (hs _ _ h1), h.inw⟩
theorem BlkAt.of {C D : Cx} {nm : Nm} {b : ABlk} {w v : World} (h : BlkAt C nm b w) (hm : C.le D) (hn : C nm = none → D nm = none) (hb : ∀ c, C nm = some c → v.heap[c.blk]? = w.heap[c.blk]?) : BlkAt D nm b v := by
  rcases h with ⟨h1, h2⟩ | ⟨c, cs, fz, h1, h2, h3, h4, h5, h6⟩
  · exact .inl ⟨hn h1, h2⟩
  · exact .inr ⟨c, cs, fz, hm _ _ h1, (hb c h1).trans h2, h3, h4, fun i hi => (h5 i hi).mono hm, h6⟩
/-- The names that a step may lay: those from nx on, nw of them. -/
def InI (nx nw n : Nat) : Prop := nx ≤ n ∧ n < nx + nw
/-- What a step has come to: from (C, H, w) on, with the answer v'. -/
structure Res (C : Cx) (H : Hv) (sy : Sy) (w : World) (nx : Nat) (v : AV) (U : Up) (nw : Nat) (v' : Value) (w1 : World) (C1 : Cx) : Prop where
  val : VR C1 v v'
  inj : Inj C1 (H.app U) sy w1
  goes : Goes C H w C1 (H.app U) w1
  keep : ∀ n, ¬ InI nx nw n → C1 (.loc n) = C (.loc n)
/-- A step told of some names is a step where more names are told of. -/
theorem Res.frame {C C1 : Cx} {F H : Hv} {sy : Sy} {w w1 : World} {nx nw : Nat} {v : AV} {U : Up} {v' : Value} (r : Res C F sy w nx v U nw v' w1 C1) (hI : Inj C H sy w)
    (hs : ∀ n b, F n = some b → H n = some b) (hf : ∀ n, InI nx nw n → H n = none) : Res C H sy w nx v U nw v' w1 C1 := by
  have out : ∀ n b, (H.app U) n = some b → (F.app U) n ≠ some b → U n = none ∧ H n = some b ∧ F n = none := by
    intro n b h1 h2
    unfold Hv.app at h1 h2
    cases hu : U n with
    | some o => rw [hu] at h1 h2; exact absurd h1 h2
    | none =>
      rw [hu] at h1 h2
      refine ⟨rfl, h1, ?_⟩
      cases hF : F n with
      | none => rfl
      | some b' => have := hs n b' hF; rw [show H n = some b from h1] at this; injection this with e; subst e; exact absurd hF h2
  have old : ∀ n b, H n = some b → C1 (.loc n) = C (.loc n) := fun n b hb => r.keep n fun hi => by rw [hf n hi] at hb; cases hb
  have blk : ∀ n b, H n = some b → F n = none → ∀ c, C (.loc n) = some c → w1.heap[c.blk]? = w.heap[c.blk]? := by
    intro n b hb hF c hc
    refine r.goes.same _ (hI.inw _ _ hc) ?_
    intro m bm cm hm hw hcm e
    exact hI.sep m n bm b cm c (hs _ _ hm) hb (fun h => by subst h; rw [hF] at hm; cases hm) (.inl hw) hcm hc e
  refine ⟨r.val, ⟨?_, r.inj.sy_, ?_, ?_, r.inj.inw⟩, ⟨r.goes.mono, r.goes.syc, r.goes.os, r.goes.tape, r.goes.output, r.goes.size, ?_, ?_⟩, r.keep⟩
  · intro n b hb
    by_cases h : (F.app U) n = some b
    · exact r.inj.at_ n b h
    · obtain ⟨_, hH, hF⟩ := out n b hb h
      exact (hI.at_ n b hH).of r.goes.mono (fun e => (old n b hH).trans e) (fun c hc => blk n b hH hF c hc)
  · intro n m b b' c c' h1 h2 hne hww hc hc' e
    by_cases g1 : (F.app U) n = some b
    · by_cases g2 : (F.app U) m = some b'
      · exact r.inj.sep n m b b' c c' g1 g2 hne hww hc hc' e
      · obtain ⟨_, hH, hF⟩ := out m b' h2 g2
        rw [old m b' hH] at hc'
        rcases r.goes.rng n b c g1 hc with hr | ⟨k, bk, ck, hk, hck, hbk, hbw⟩
        · have := hI.inw _ _ hc'; omega
        · exact hI.sep k m bk b' ck c' (hs _ _ hk) hH (fun h => by subst h; rw [hF] at hk; cases hk) (hww.imp hbw id) hck hc' (hbk.trans e)
    · obtain ⟨_, hH, hF⟩ := out n b h1 g1
      rw [old n b hH] at hc
      by_cases g2 : (F.app U) m = some b'
      · rcases r.goes.rng m b' c' g2 hc' with hr | ⟨k, bk, ck, hk, hck, hbk, hbw⟩
        · have := hI.inw _ _ hc; omega
        · exact hI.sep n k b bk c ck hH (hs _ _ hk) (fun h => by subst h; rw [hF] at hk; cases hk) (hww.imp id hbw) hc hck (e.trans hbk.symm)
      · obtain ⟨_, hH', hF'⟩ := out m b' h2 g2
        rw [old m b' hH'] at hc'
        exact hI.sep n m b b' c c' hH hH' hne hww hc hc' e
  · intro n b c h1 hw hc
    by_cases g1 : (F.app U) n = some b
    · exact r.inj.seps n b c g1 hw hc
    · obtain ⟨_, hH, hF⟩ := out n b h1 g1
      rw [old n b hH] at hc
      exact hI.seps n b c hH hw hc
  · exact fun B hB hn => r.goes.same B hB fun n b c h1 hw h2 => hn n b c (hs _ _ h1) hw h2
  · intro n b c h1 hc
    by_cases g1 : (F.app U) n = some b
    · rcases r.goes.rng n b c g1 hc with hr | ⟨k, bk, ck, hk, hck, hbk, hbw⟩
      · exact .inl hr
      · exact .inr ⟨k, bk, ck, hs _ _ hk, hck, hbk, hbw⟩
    · obtain ⟨_, hH, hF⟩ := out n b h1 g1
      rw [old n b hH] at hc
      exact .inr ⟨n, b, c, hH, hc, rfl, id⟩
/-- A call that gives v and does U to the names that it is told of. -/
def Spec (P : Program) (sy : Sy) (f : FuncId) (args : List AV) (F : Hv) (nx : Nat) (v : AV) (U : Up) (nw : Nat) : Prop :=
  ∀ C w (args' : Array Value), VRs C args args' → Inj C F sy w → (∀ n, InI nx nw n → C (.loc n) = none) →
    Calls P f args' w fun e w1 => ∃ v' C1, e = .returned v' ∧ Res C F sy w nx v U nw v' w1 C1
end Go.Proofs.YtplejhefhnmabaaGreatDoor.Am

/- Abstract machine, part B: what a step does to memory: nothing, a new block, a row of stores. -/
namespace Go.Proofs.YtplejhefhnmabaaGreatDoor.Am
set_option linter.unusedSimpArgs false
set_option linter.unusedVariables false
def noUp : Up := fun _ => none
theorem Hv.app_no (H : Hv) : H.app noUp = H := rfl
theorem Res.same {C : Cx} {F : Hv} {sy : Sy} {w : World} {nx : Nat} {v : AV} {v' : Value} (hI : Inj C F sy w) (hv : VR C v v') : Res C F sy w nx v noUp 0 v' w C :=
  ⟨hv, hI, Goes.refl C F w, fun _ _ => rfl⟩
def oneUp (k : Nat) (b : ABlk) : Up := fun n => if n = k then some (some b) else none
def Cx.lay (C : Cx) (k : Nat) (c : CB) : Cx := fun n => if n = .loc k then some c else C n
theorem Cx.lay_le {C : Cx} {k : Nat} {c : CB} (h : C (.loc k) = none) : Cx.le C (C.lay k c) := fun n d e => by
  unfold Cx.lay; split
  · rename_i hn; subst hn; rw [h] at e; cases e
  · exact e
theorem Cx.lay_at (C : Cx) (k : Nat) (c : CB) : (C.lay k c) (.loc k) = some c := by simp [Cx.lay]
theorem Cx.lay_ne {C : Cx} {k : Nat} {c : CB} {n : Nm} (h : n ≠ .loc k) : (C.lay k c) n = C n := by simp [Cx.lay, h]
/-- A new block, of which a first part is told of. -/
theorem Res.alloc {C : Cx} {F : Hv} {sy : Sy} {w : World} {nx : Nat} {cells : List AV} {cs : Array Value} {t : TypeId} {fz : Nat × Nat} (wr : Bool) (hI : Inj C F sy w) (hf : C (.loc nx) = none)
    (hl : cells.length ≤ cs.size) (hv : ∀ i, i < cells.length → VR C (cells.getD i .any) (cs.getD i undef)) (hz : ∀ i, i < cs.size → ¬ (fz.1 ≤ i ∧ i < fz.2)) {v : AV} {v' : Value}
    (hr : VR (C.lay nx ⟨w.heap.size, 0, cs.size⟩) v v') :
    Res C F sy w nx v (oneUp nx ⟨cells, t, wr⟩) 1 v' (w.alloc (.cells cs t fz)) (C.lay nx ⟨w.heap.size, 0, cs.size⟩) := by
  have hle : Cx.le C (C.lay nx ⟨w.heap.size, 0, cs.size⟩) := Cx.lay_le hf
  have old : ∀ B, B < w.heap.size → (w.alloc (.cells cs t fz)).heap[B]? = w.heap[B]? := fun B hB => by
    show (w.heap.push _)[B]? = _; rw [Array.getElem?_push, if_neg (by omega)]
  have new : (w.alloc (.cells cs t fz)).heap[w.heap.size]? = some (.cells cs t fz) := by
    show (w.heap.push _)[w.heap.size]? = _; simp
  have nm : ∀ n c, (C.lay nx ⟨w.heap.size, 0, cs.size⟩) (.loc n) = some c → n ≠ nx → C (.loc n) = some c := fun n c h hn => by rwa [Cx.lay_ne (by simpa using hn)] at h
  have hap : ∀ n b, (F.app (oneUp nx ⟨cells, t, wr⟩)) n = some b → n ≠ nx → F n = some b := fun n b h hn => by simpa [Hv.app, oneUp, hn] using h
  refine ⟨hr, ⟨?_, ?_, ?_, ?_, ?_⟩, ⟨hle, fun s => Cx.lay_ne (by simp), rfl, rfl, rfl, by simp, fun B hB _ => old B hB, ?_⟩, fun n hn => Cx.lay_ne (by intro h; injection h with h; exact hn ⟨by omega, by omega⟩)⟩
  · intro n b hb
    by_cases hn : n = nx
    · subst hn
      simp only [Hv.app, oneUp, if_true] at hb
      injection hb with hb; subst hb
      refine .inr ⟨_, cs, fz, Cx.lay_at _ _ _, new, by simp, hl, fun i hi => by simpa using (hv i hi).mono hle, fun _ i hi => by simpa using hz i hi⟩
    · refine (hI.at_ n b (hap n b hb hn)).of hle (fun h => by rw [Cx.lay_ne (by simpa using hn)]; exact h) fun c hc => old _ (hI.inw _ _ hc)
  · exact sy.stab _ _ hI.sy_ fun B hB => old _ (sy.low _ hI.sy_ _ hB)
  · intro n m b b' c c' h1 h2 hne hww hc hc' e
    by_cases hn : n = nx
    · subst hn
      rw [Cx.lay_at] at hc; injection hc with hc; subst hc
      have := hI.inw _ _ (nm m c' hc' (Ne.symm hne))
      simp only at e; omega
    · by_cases hm : m = nx
      · subst hm
        rw [Cx.lay_at] at hc'; injection hc' with hc'; subst hc'
        have := hI.inw _ _ (nm n c hc hn)
        simp only at e; omega
      · exact hI.sep n m b b' c c' (hap n b h1 hn) (hap m b' h2 hm) hne hww (nm n c hc hn) (nm m c' hc' hm) e
  · intro n b c h1 hw hc
    by_cases hn : n = nx
    · subst hn
      rw [Cx.lay_at] at hc; injection hc with hc; subst hc
      exact fun h => absurd (sy.low _ hI.sy_ _ h) (Nat.lt_irrefl _)
    · exact hI.seps n b c (hap n b h1 hn) hw (nm n c hc hn)
  · intro n c hc
    by_cases hn : n = .loc nx
    · subst hn; rw [Cx.lay_at] at hc; injection hc with hc; subst hc; simp
    · rw [Cx.lay_ne hn] at hc; have := hI.inw _ _ hc; simp; omega
  · intro n b c h1 hc
    by_cases hn : n = nx
    · subst hn; rw [Cx.lay_at] at hc; injection hc with hc; subst hc; exact .inl (Nat.le_refl _)
    · exact .inr ⟨n, b, c, hap n b h1 hn, nm n c hc hn, rfl, id⟩

/-- A row of values behind one another, put into a row. -/
def setRow (cs : Array Value) (o : Nat) : List Value → Array Value
  | [] => cs
  | v :: r => setRow (cs.setIfInBounds o v) (o + 1) r
theorem size_setRow (o : Nat) (l : List Value) (cs : Array Value) : (setRow cs o l).size = cs.size := by
  induction l generalizing cs o with
  | nil => rfl
  | cons v r ih => simp only [setRow]; rw [ih]; simp
theorem getD_setRow (o : Nat) (l : List Value) (cs : Array Value) (h : o + l.length ≤ cs.size) (i : Nat) : (setRow cs o l).getD i undef = if o ≤ i ∧ i < o + l.length then l.getD (i - o) undef else cs.getD i undef := by
  induction l generalizing cs o with
  | nil => simp only [setRow, List.length_nil]; rw [if_neg (by omega)]
  | cons v r ih =>
    simp only [setRow, List.length_cons] at *
    rw [ih (o + 1) (cs.setIfInBounds o v) (by simp; omega)]
    by_cases h1 : o + 1 ≤ i ∧ i < o + 1 + r.length
    · rw [if_pos h1, if_pos (by omega)]
      obtain ⟨j, rfl⟩ : ∃ j, i = o + 1 + j := ⟨i - (o + 1), by omega⟩
      rw [show o + 1 + j - (o + 1) = j by omega, show o + 1 + j - o = j + 1 by omega]; rfl
    · rw [if_neg h1]
      by_cases h2 : i = o
      · subst h2; rw [if_pos (by omega)]; simp [Array.getD_eq_getD_getElem?, Array.getElem?_setIfInBounds_self_of_lt (show i < cs.size by omega)]
      · rw [if_neg (by omega)]; simp [Array.getD_eq_getD_getElem?, Array.getElem?_setIfInBounds_ne (Ne.symm h2)]
def putAt : List AV → Nat → List AV → List AV
  | a :: l, 0, v :: vs => v :: putAt l 0 vs
  | l, 0, [] => l
  | a :: l, n + 1, vs => a :: putAt l n vs
  | [], _, _ => []
theorem length_putAt (l : List AV) : ∀ (o : Nat) (vs : List AV), (putAt l o vs).length = l.length := by
  induction l with
  | nil => intro o vs; cases o <;> cases vs <;> rfl
  | cons a l ih => intro o vs; cases o with
    | zero => cases vs with
      | nil => rfl
      | cons v vs => simp [putAt, ih]
    | succ n => simp [putAt, ih]
theorem getD_putAt (l : List AV) : ∀ (o : Nat) (vs : List AV) (i : Nat), o + vs.length ≤ l.length → (putAt l o vs).getD i .any = if o ≤ i ∧ i < o + vs.length then vs.getD (i - o) .any else l.getD i .any := by
  induction l with
  | nil => intro o vs i h; have : vs = [] := by cases vs with | nil => rfl | cons _ _ => simp at h
           subst this; simp at h; subst h; simp [putAt]
  | cons a l ih =>
    intro o vs i h
    cases o with
    | zero => cases vs with
      | nil => simp [putAt]
      | cons v vs =>
        cases i with
        | zero => simp [putAt]
        | succ i => simp only [putAt]; rw [List.getD_cons_succ, ih 0 vs i (by simp at h ⊢; omega)]; simp only [List.length_cons, List.getD_cons_succ, Nat.zero_le, true_and, Nat.zero_add, Nat.sub_zero]
                    by_cases h1 : i < vs.length
                    · rw [if_pos h1, if_pos (by omega)]
                    · rw [if_neg h1, if_neg (by omega)]
    | succ n =>
      cases i with
      | zero => simp only [putAt]; rw [if_neg (by omega)]; rfl
      | succ i =>
        simp only [putAt, List.getD_cons_succ]; rw [ih n vs i (by simp at h ⊢; omega)]
        by_cases h1 : n ≤ i ∧ i < n + vs.length
        · rw [if_pos h1, if_pos (by omega)]; congr 1; omega
        · rw [if_neg h1, if_neg (by omega)]
/-- A row of stores into a block that is told of. -/
theorem Res.stores {C : Cx} {F : Hv} {sy : Sy} {w w1 : World} {nx k : Nat} {b : ABlk} {o : Nat} {vs : List AV} {vs' : List Value} (hI : Inj C F sy w) (hk : F k = some b) (hbw : b.wr = true)
    {c : CB} {cs : Array Value} {fz : Nat × Nat} (hc : C (.loc k) = some c) (hb : w.heap[c.blk]? = some (.cells cs b.elem fz))
    (ho : o + vs.length ≤ b.cells.length) (hl : vs.length = vs'.length) (hv : ∀ i, i < vs.length → VR C (vs.getD i .any) (vs'.getD i undef))
    (hw : w1 = { w with heap := w.heap.setIfInBounds c.blk (.cells (setRow cs (c.base + o) vs') b.elem fz) }) {v : AV} {v' : Value} (hr : VR C v v') :
    Res C F sy w nx v (oneUp k { b with cells := putAt b.cells o vs }) 0 v' w1 C := by
  subst hw
  have hcs : ∃ c', c'= c := ⟨c, rfl⟩
  have other : ∀ B, B ≠ c.blk → (w.heap.setIfInBounds c.blk (.cells (setRow cs (c.base + o) vs') b.elem fz))[B]? = w.heap[B]? := fun B hB => Array.getElem?_setIfInBounds_ne (Ne.symm hB)
  have at' : (w.heap.setIfInBounds c.blk (.cells (setRow cs (c.base + o) vs') b.elem fz))[c.blk]? = some (.cells (setRow cs (c.base + o) vs') b.elem fz) := by
    rw [Array.getElem?_setIfInBounds_self_of_lt (hI.inw _ _ hc)]
  have hap : ∀ n b', (F.app (oneUp k { b with cells := putAt b.cells o vs })) n = some b' → n ≠ k → F n = some b' := fun n b' h hn => by simpa [Hv.app, oneUp, hn] using h
  have hdom : ∀ n b', (F.app (oneUp k { b with cells := putAt b.cells o vs })) n = some b' → ∃ b'', F n = some b'' ∧ (b'.wr = true → b''.wr = true) := fun n b' h => by
    by_cases hn : n = k
    · exact ⟨b, hn ▸ hk, fun _ => hbw⟩
    · exact ⟨b', hap n b' h hn, id⟩
  refine ⟨hr, ⟨?_, ?_, ?_, ?_, ?_⟩, ⟨Cx.le_refl C, fun _ => rfl, rfl, rfl, rfl, by simp, ?_, ?_⟩, fun _ _ => rfl⟩
  · intro n b' hb'
    by_cases hn : n = k
    · subst hn
      simp only [Hv.app, oneUp, if_true] at hb'
      injection hb' with hb'; subst hb'
      rcases hI.at_ n b hk with ⟨h1, h2⟩ | ⟨c2, cs2, fz2, h1, h2, h3, h4, h5, h6⟩
      · rw [hc] at h1; cases h1
      · rw [hc] at h1; injection h1 with h1; subst h1
        rw [hb] at h2; injection h2 with h2; injection h2 with e1 e2 e3; subst e1; subst e3
        refine .inr ⟨c, _, fz, hc, at', by rw [size_setRow]; exact h3, by simpa [length_putAt] using h4, ?_, h6⟩
        intro i hi
        simp only [length_putAt] at hi
        simp only
        rw [getD_putAt _ _ _ _ ho, getD_setRow _ _ _ (by omega)]
        by_cases hin : o ≤ i ∧ i < o + vs.length
        · rw [if_pos hin, if_pos (by omega), show c.base + i - (c.base + o) = i - o by omega]; exact hv _ (by omega)
        · rw [if_neg hin, if_neg (by omega)]; exact h5 i hi
    · refine (hI.at_ n b' (hap n b' hb' hn)).of (Cx.le_refl C) id fun c' hc' => other _ fun e => hI.sep n k b' b c' c (hap n b' hb' hn) hk hn (.inr hbw) hc' hc e
  · exact sy.stab _ _ hI.sy_ fun B hB => other _ fun e => hI.seps k b c hk hbw hc (e ▸ hB)
  · intro n m b1 b2 c1 c2 h1 h2 hne hww
    obtain ⟨_, g1, q1⟩ := hdom n b1 h1
    obtain ⟨_, g2, q2⟩ := hdom m b2 h2
    exact hI.sep n m _ _ c1 c2 g1 g2 hne (hww.imp q1 q2)
  · intro n b1 c1 h1 hw
    obtain ⟨_, g1, q1⟩ := hdom n b1 h1
    exact hI.seps n _ c1 g1 (q1 hw)
  · intro n c' h; have := hI.inw n c' h; simpa using this
  · intro B hB hn; exact other B (fun e => hn k b c hk hbw hc e.symm)
  · intro n b1 c1 h1 h2
    obtain ⟨b2, g1, q1⟩ := hdom n b1 h1
    exact .inr ⟨n, b2, c1, g1, h2, rfl, q1⟩

/-- What may not be written is said of a block anew: it stays as it was, and is no longer written. -/
theorem Res.refz {C : Cx} {F : Hv} {sy : Sy} {w w1 : World} {nx k : Nat} {b : ABlk} (hI : Inj C F sy w) (hk : F k = some b) (hbw : b.wr = true)
    {c : CB} {cs : Array Value} {fz fz' : Nat × Nat} (hc : C (.loc k) = some c) (hb : w.heap[c.blk]? = some (.cells cs b.elem fz))
    (hw : w1 = { w with heap := w.heap.setIfInBounds c.blk (.cells cs b.elem fz') }) {v : AV} {v' : Value} (hr : VR C v v') :
    Res C F sy w nx v (oneUp k { b with wr := false }) 0 v' w1 C := by
  subst hw
  have other : ∀ B, B ≠ c.blk → (w.heap.setIfInBounds c.blk (.cells cs b.elem fz'))[B]? = w.heap[B]? := fun B hB => Array.getElem?_setIfInBounds_ne (Ne.symm hB)
  have at' : (w.heap.setIfInBounds c.blk (.cells cs b.elem fz'))[c.blk]? = some (.cells cs b.elem fz') := by
    rw [Array.getElem?_setIfInBounds_self_of_lt (hI.inw _ _ hc)]
  have hap : ∀ n b', (F.app (oneUp k { b with wr := false })) n = some b' → n ≠ k → F n = some b' := fun n b' h hn => by simpa [Hv.app, oneUp, hn] using h
  have hdom : ∀ n b', (F.app (oneUp k { b with wr := false })) n = some b' → ∃ b'', F n = some b'' ∧ (b'.wr = true → b''.wr = true) := fun n b' h => by
    by_cases hn : n = k
    · exact ⟨b, hn ▸ hk, fun _ => hbw⟩
    · exact ⟨b', hap n b' h hn, id⟩
  refine ⟨hr, ⟨?_, ?_, ?_, ?_, ?_⟩, ⟨Cx.le_refl C, fun _ => rfl, rfl, rfl, rfl, by simp, ?_, ?_⟩, fun _ _ => rfl⟩
  · intro n b' hb'
    by_cases hn : n = k
    · subst hn
      simp only [Hv.app, oneUp, if_true] at hb'
      injection hb' with hb'; subst hb'
      rcases hI.at_ n b hk with ⟨h1, h2⟩ | ⟨c2, cs2, fz2, h1, h2, h3, h4, h5, h6⟩
      · rw [hc] at h1; cases h1
      · rw [hc] at h1; injection h1 with h1; subst h1
        rw [hb] at h2; injection h2 with h2; injection h2 with e1 e2 e3; subst e1; subst e3
        exact .inr ⟨c, _, fz', hc, at', h3, h4, h5, fun h => by cases h⟩
    · refine (hI.at_ n b' (hap n b' hb' hn)).of (Cx.le_refl C) id fun c' hc' => other _ fun e => hI.sep n k b' b c' c (hap n b' hb' hn) hk hn (.inr hbw) hc' hc e
  · exact sy.stab _ _ hI.sy_ fun B hB => other _ fun e => hI.seps k b c hk hbw hc (e ▸ hB)
  · intro n m b1 b2 c1 c2 h1 h2 hne hww
    obtain ⟨_, g1, q1⟩ := hdom n b1 h1
    obtain ⟨_, g2, q2⟩ := hdom m b2 h2
    exact hI.sep n m _ _ c1 c2 g1 g2 hne (hww.imp q1 q2)
  · intro n b1 c1 h1 hw
    obtain ⟨_, g1, q1⟩ := hdom n b1 h1
    exact hI.seps n _ c1 g1 (q1 hw)
  · intro n c' h; have := hI.inw n c' h; simpa using this
  · intro B hB hn; exact other B (fun e => hn k b c hk hbw hc e.symm)
  · intro n b1 c1 h1 h2
    obtain ⟨b2, g1, q1⟩ := hdom n b1 h1
    exact .inr ⟨n, b2, c1, g1, h2, rfl, q1⟩
/-- Which values lie in one cell. -/
def one : AV → Bool
  | .any | .bad | .agg _ | .tup _ => false
  | _ => true
theorem VR.one {C : Cx} {v : AV} {v' : Value} (h : VR C v v') (ho : one v = true) : v'.oneCell' = true := by
  cases h <;> first | rfl | cases ho
theorem run_storeCells {P : Program} (t : TypeId) (fz : Nat × Nat) (g o : Nat) : ∀ (vs : List Value) (i : Nat) (cs : Array Value) (w : World), w.heap[g]? = some (.cells cs t fz) → o + i + vs.length ≤ cs.size → (∀ v ∈ vs, v.oneCell' = true) →
    (∀ j, j < vs.length → ¬ (fz.1 ≤ o + i + j ∧ o + i + j < fz.2)) →
    (storeCells ⟨g, o, none⟩ vs i).run P w = .ok () { w with heap := w.heap.setIfInBounds g (.cells (setRow cs (o + i) vs) t fz) }
  | [], i, cs, w, hg, _, _, _ => by
    have hlt : g < w.heap.size := by
      rcases Nat.lt_or_ge g w.heap.size with h | h
      · exact h
      · rw [Array.getElem?_eq_none h] at hg; cases hg
    have : w.heap.setIfInBounds g (.cells cs t fz) = w.heap := by
      apply Array.ext_getElem?; intro j
      by_cases hj : j = g
      · subst hj; rw [Array.getElem?_setIfInBounds_self_of_lt hlt, hg]
      · rw [Array.getElem?_setIfInBounds_ne (Ne.symm hj)]
    simp only [storeCells, setRow, this]; rfl
  | v :: r, i, cs, w, hg, hl, h1, hz => by
    have hlt : g < w.heap.size := by
      rcases Nat.lt_or_ge g w.heap.size with h | h
      · exact h
      · rw [Array.getElem?_eq_none h] at hg; cases hg
    have hi : o + i < cs.size := by simp at hl; omega
    have hadd : (⟨g, o, none⟩ : Addr).add i = ⟨g, o + i, none⟩ := by unfold Addr.add; split <;> simp_all
    have hcell : w.cell? ⟨g, o + i, none⟩ = some cs[o + i] := by simp [World.cell?, hg, hi]
    have hfro : w.frozen? ⟨g, o + i, none⟩ = false := by
      obtain ⟨lo, hi'⟩ := fz
      have := hz 0 (by simp)
      simp only [World.frozen?, hg, Bool.and_eq_false_iff, decide_eq_false_iff_not]; simp at this; omega
    have hset : w.setCell ⟨g, o + i, none⟩ v = { w with heap := w.heap.setIfInBounds g (.cells (cs.setIfInBounds (o + i) v) t fz) } := by
      unfold World.setCell
      congr 1
      apply Array.ext_getElem?; intro j
      rw [Array.getElem?_modify]
      by_cases hj : j = g
      · subst hj; rw [Array.getElem?_setIfInBounds_self_of_lt hlt]; simp [hg]
      · rw [Array.getElem?_setIfInBounds_ne (Ne.symm hj)]; simp [Ne.symm hj]
    have hst : (store ((⟨g, o, none⟩ : Addr).add i) v).run P w = .ok () { w with heap := w.heap.setIfInBounds g (.cells (cs.setIfInBounds (o + i) v) t fz) } := by
      rw [hadd, run_store P w _ v _ (h1 v (by simp)), hcell]
      simp [hfro, hset]
    have ih := run_storeCells (P := P) t fz g o r (i + 1) (cs.setIfInBounds (o + i) v) { w with heap := w.heap.setIfInBounds g (.cells (cs.setIfInBounds (o + i) v) t fz) }
      (by simp [Array.getElem?_setIfInBounds_self_of_lt hlt]) (by simp at hl ⊢; omega) (fun x hx => h1 x (by simp [hx])) (fun j hj => by have := hz (j + 1) (by simp; omega); rwa [show o + i + (j + 1) = o + (i + 1) + j by omega] at this)
    simp only [storeCells, Sem.run_bind, hst, Result.andThen_ok, ih]
    congr 2
    apply Array.ext_getElem?; intro j
    by_cases hj : j = g
    · subst hj; simp [Array.getElem?_setIfInBounds_self_of_lt, hlt, setRow, Nat.add_assoc]
    · simp [Array.getElem?_setIfInBounds_ne (Ne.symm hj)]
end Go.Proofs.YtplejhefhnmabaaGreatDoor.Am

/- Abstract machine, part C: what one operation computes of abstract values. -/
namespace Go.Proofs.YtplejhefhnmabaaGreatDoor.Am
set_option linter.unusedSimpArgs false
set_option linter.unusedVariables false
/-- A limb that is owed: none, or a statement. -/
inductive Ob | t | p (P : Prop)
def andO : Ob → Prop → Prop
  | .t, K => K
  | .p P, K => P ∧ K
def Ob.holds : Ob → Prop
  | .t => True
  | .p P => P
theorem andO_iff (o : Ob) (K : Prop) : andO o K ↔ o.holds ∧ K := by cases o <;> simp [andO, Ob.holds]
def andOs : List Ob → Prop → Prop
  | [], K => K
  | o :: l, K => andO o (andOs l K)
def Obs : List Ob → Prop
  | [] => True
  | o :: l => o.holds ∧ Obs l
theorem andOs_iff (l : List Ob) (K : Prop) : andOs l K ↔ Obs l ∧ K := by
  induction l with
  | nil => simp [andOs, Obs]
  | cons o l ih => simp [andOs, Obs, andO_iff, ih, and_assoc]
def chkLe (a b : Nat) : Ob := bif Nat.ble a b then .t else .p (a ≤ b)
theorem chkLe_holds {a b : Nat} : (chkLe a b).holds ↔ a ≤ b := by
  unfold chkLe
  cases h : Nat.ble a b with
  | true => simpa [Ob.holds] using Nat.le_of_ble_eq_true h
  | false => simp [Ob.holds]
def chkEq (a b : Nat) : Ob := bif Nat.beq a b then .t else .p (a = b)
theorem chkEq_holds {a b : Nat} : (chkEq a b).holds ↔ a = b := by
  unfold chkEq
  cases h : Nat.beq a b with
  | true => simpa [Ob.holds] using Nat.eq_of_beq_eq_true h
  | false => simp [Ob.holds]
def neZ (b : Int) : Ob := match b with
  | .ofNat 0 => .p False
  | .ofNat (_ + 1) => .t
  | .negSucc _ => .t
theorem neZ_holds {b : Int} : (neZ b).holds ↔ b ≠ 0 := by
  cases b with
  | ofNat n => cases n with
    | zero => simp [neZ, Ob.holds]
    | succ n => simp [neZ, Ob.holds]; omega
  | negSucc n => simp [neZ, Ob.holds]
def nonneg (b : Int) : Ob := match b with
  | .ofNat _ => .t
  | .negSucc _ => .p False
theorem nonneg_holds {b : Int} : (nonneg b).holds ↔ 0 ≤ b := by
  cases b with
  | ofNat n => simp [nonneg, Ob.holds]
  | negSucc n => simp [nonneg, Ob.holds]
def leI (a b : Int) : Ob := match Int.sub b a with
  | .ofNat _ => .t
  | .negSucc _ => .p False
theorem leI_holds {a b : Int} : (leI a b).holds ↔ a ≤ b := by
  unfold leI
  have : Int.sub b a = b - a := rfl
  rw [this]
  cases h : b - a with
  | ofNat n => simp [Ob.holds]; have : (0 : Int) ≤ b - a := by rw [h]; exact Int.natCast_nonneg n
               omega
  | negSucc n => simp [Ob.holds]; have : b - a < 0 := by rw [h]; exact Int.negSucc_lt_zero n
                 omega
def asInt : AV → Int | .int _ n => n | _ => 0
def asBool : AV → Bool | .bool b => b | .tru => true | _ => false
def asStr : AV → ByteArray | .str b => b | _ => ByteArray.empty
def kEq : IntKind → IntKind → Bool
  | .i8, .i8 | .i16, .i16 | .i32, .i32 | .i64, .i64 | .u8, .u8 | .u16, .u16 | .u32, .u32 | .u64, .u64 => true
  | _, _ => false
theorem kEq_eq {a b : IntKind} (h : kEq a b = true) : a = b := by cases a <;> cases b <;> first | rfl | cases h
def isInt (k : IntKind) : AV → Ob | .int k' _ => bif kEq k' k then .t else .p False | _ => .p False
theorem isInt_holds {k : IntKind} {v : AV} : (isInt k v).holds ↔ v = .int k (asInt v) := by
  cases v <;> simp [isInt, Ob.holds, asInt]
  rename_i k' n
  cases h : kEq k' k with
  | true => have := kEq_eq h; simp [Ob.holds, this]
  | false => simp [Ob.holds]; intro e; subst e; revert h; cases k' <;> decide
def isBoo : AV → Ob | .bool _ => .t | .tru => .t | .fls => .t | _ => .p False
theorem isBoo_holds {v : AV} : (isBoo v).holds → v = .bool (asBool v) ∨ v = .tru ∨ v = .fls := by
  cases v <;> simp [isBoo, Ob.holds, asBool]
def isStr : AV → Ob | .str _ => .t | _ => .p False
theorem isStr_holds {v : AV} : (isStr v).holds ↔ v = .str (asStr v) := by cases v <;> simp [isStr, Ob.holds, asStr]
def cellsO : AV → Option (List AV)
  | .agg l => some l
  | .any | .bad | .tup _ => none
  | .tru => some [.bool true]
  | .fls => some [.bool false]
  | v => some [v]
def canon : AV → AV | .tru => .bool true | .fls => .bool false | v => v
theorem VR.canon {C : Cx} {v : AV} {v' : Value} (h : VR C v v') : VR C (canon v) v' := by
  cases h <;> first | exact .bool _ | assumption | (constructor <;> assumption)
theorem cells1 {C : Cx} {x : AV} {y : Value} (h : VR C x y) (hy : y.cells = #[y]) : [x].length = y.cells.size ∧ ∀ i, i < [x].length → VR C ([x].getD i .any) (y.cells.getD i undef) := by
  rw [hy]; exact ⟨rfl, fun i hi => by have : i = 0 := by simpa using hi
                                      subst this; exact h⟩
theorem cellsO_VR {C : Cx} {v : AV} {v' : Value} {l : List AV} (h : VR C v v') (e : cellsO v = some l) : l.length = v'.cells.size ∧ ∀ i, i < l.length → VR C (l.getD i .any) (v'.cells.getD i undef) := by
  cases h <;> simp only [cellsO] at e <;> first
    | (cases e; done)
    | (injection e with e; subst e; first | exact cells1 (.bool _) rfl | exact cells1 (by constructor <;> assumption) rfl)
    | (injection e with e; subst e; exact ⟨by assumption, by assumption⟩)
def takeN (cells : List AV) (o : Nat) : Nat → List AV
  | 0 => []
  | n + 1 => cells.getD o .any :: takeN cells (o + 1) n
theorem length_takeN (cells : List AV) (n : Nat) : ∀ o, (takeN cells o n).length = n := by
  induction n with
  | zero => intro o; rfl
  | succ n ih => intro o; simp [takeN, ih]
theorem getD_takeN (cells : List AV) (n : Nat) : ∀ o i, i < n → (takeN cells o n).getD i .any = cells.getD (o + i) .any := by
  induction n with
  | zero => intro o i h; omega
  | succ n ih => intro o i h; cases i with
    | zero => simp [takeN]
    | succ i => simp only [takeN, List.getD_cons_succ]; rw [ih (o + 1) i (by omega)]; congr 1; omega
mutual
def ofV : Value → AV
  | .bool b => bif b then .tru else .fls
  | .int k n => .int k n
  | .string s => .str s
  | .pointer none => .nilp
  | .slice none 0 0 => .nils
  | .nilFunc => .nilf
  | .nilIface => .nili
  | .iface t v => .ifc t (ofV v)
  | .agg ⟨l⟩ => .agg (ofVs l)
  | .tuple ⟨l⟩ => .tup (ofVs l)
  | _ => .any
def ofVs : List Value → List AV
  | [] => []
  | .bool b :: l => .bool b :: ofVs l
  | v :: l => ofV v :: ofVs l
end
mutual
theorem ofV_VR (C : Cx) : ∀ v, VR C (ofV v) v
  | .bool true => .tru
  | .bool false => .fls
  | .int k n => .int k n
  | .string s => .str s
  | .pointer none => .nilp
  | .pointer (some _) => .any _
  | .slice none 0 0 => .nils
  | .slice none 0 (_ + 1) => .any _
  | .slice none (_ + 1) _ => .any _
  | .slice (some _) _ _ => .any _
  | .nilFunc => .nilf
  | .nilIface => .nili
  | .iface t v => .ifc t _ _ (ofV_VR C v)
  | .agg ⟨l⟩ => .agg _ _ (by simpa using (ofVs_VR C l).1) (fun i hi => by have := (ofVs_VR C l).2 i; simpa [Array.getD_eq_getD_getElem?] using this)
  | .tuple ⟨l⟩ => .tup _ _ (by simpa using (ofVs_VR C l).1) (fun i hi => by have := (ofVs_VR C l).2 i; simpa [Array.getD_eq_getD_getElem?] using this)
  | .float _ _ => .any _
  | .complex _ _ _ => .any _
  | .map _ => .any _
  | .chan _ => .any _
  | .func _ _ _ => .any _
theorem ofVs_VR (C : Cx) : ∀ l : List Value, (ofVs l).length = l.length ∧ ∀ i, VR C ((ofVs l).getD i .any) (l[i]?.getD undef)
  | [] => ⟨rfl, fun i => .any _⟩
  | v :: l => by
    have ih := ofVs_VR C l
    have hv := ofV_VR C v
    cases v
    case bool b => exact ⟨by simp [ofVs, ih.1], fun i => by cases i with
      | zero => exact .bool b
      | succ i => simpa [ofVs] using ih.2 i⟩
    all_goals exact ⟨by simp [ofVs, ih.1], fun i => by cases i with
      | zero => simpa [ofVs] using hv
      | succ i => simpa [ofVs] using ih.2 i⟩
end
end Go.Proofs.YtplejhefhnmabaaGreatDoor.Am

/- Abstract machine, part D: operations that leave memory alone. -/
namespace Go.Proofs.YtplejhefhnmabaaGreatDoor.Am
set_option linter.unusedSimpArgs false
set_option linter.unusedVariables false
abbrev Rho := Operand → AV
/-- What an operation that leaves memory alone computes; what it owes. -/
abbrev PV := Option (AV × List Ob)
def chkLt (n : Int) (len : Nat) : Ob := leI (n + 1) len
theorem chkLt_holds {n : Int} {len : Nat} : (chkLt n len).holds ↔ n < len := by unfold chkLt; rw [leI_holds]; omega
def pickA (c a b : AV) : PV := match c with
  | .tru => some (a, [])
  | .fls => some (b, [])
  | .bool c => match a, b with
    | .bool x, .bool y => some (.bool (bif c then x else y), [])
    | _, _ => none
  | _ => none
def nilCheckA : AV → PV
  | .gp b o => some (.gp b o, [])
  | .ptr b o => some (.ptr b o, [])
  | .fn f a b => some (.fn f a b, [])
  | _ => none
def fieldAddrA (P : Program) (s : TypeId) (x : AV) (f : Nat) : PV := match x with
  | .ptr b o => match P.underlying s with
    | some (.struct fs) => match fs[f]? with
      | some fd => match P.cellsOf fd.type with
        | 0 => none
        | _ + 1 => some (.ptr b (o + fd.offset), [])
      | none => none
    | _ => none
  | .gp b o => match P.underlying s with
    | some (.struct fs) => match fs[f]? with
      | some fd => match P.cellsOf fd.type with
        | 0 => none
        | _ + 1 => some (.gp b (o + fd.offset), [])
      | none => none
    | _ => none
  | _ => none
def indexAddrA (P : Program) (t : TypeId) (x i : AV) : PV := match i with
  | .int k n => match P.underlying t with
    | some (.slice e) => match x with
      | .slc b o len cap => match P.info? e with
        | some ie => some (.ptr b (o + n.toNat * ie.size), [nonneg n, chkLt n len])
        | none => none
      | .lst b o len cap => match P.info? e with
        | some ie => some (.ptr b (o + n.toNat * ie.size), [nonneg n, chkLt n len])
        | none => none
      | _ => none
    | some (.array len e) => match x with
      | .ptr b o => match P.info? e with
        | some ie => some (.ptr b (o + n.toNat * ie.size), [nonneg n, chkLt n len])
        | none => none
      | .gp b o => match P.info? e with
        | some ie => some (.gp b (o + n.toNat * ie.size), [nonneg n, chkLt n len])
        | none => none
      | _ => none
    | _ => none
  | _ => none
def isAggB (P : Program) (t : TypeId) : Option Bool := match P.underlying t with
  | some (.struct _) => some true
  | some (.array _ _) => some true
  | some _ => some false
  | none => none
/-- A part of a row of cells, as a value of type t. -/
def partA (P : Program) (t : TypeId) (l : List AV) (off : Nat) : PV := match isAggB P t with
  | some true => match P.info? t with
    | some i => some (.agg (takeN l off i.size), [chkLe (off + i.size) l.length])
    | none => none
  | some false => some (l.getD off .any, [chkLe (off + 1) l.length])
  | none => none
def fieldA (P : Program) (t : TypeId) (x : AV) (f : Nat) : PV := match x with
  | .agg l => match P.underlying t with
    | some (.struct fs) => match fs[f]? with
      | some fd => partA P fd.type l fd.offset
      | none => none
    | _ => none
  | _ => none
def indexA (P : Program) (t : TypeId) (x i : AV) : PV := match i with
  | .int _ n => match P.underlying t with
    | some .string => match x with
      | .str s => some (.int .u8 ((s.data.toList.getD n.toNat 0).toNat : Int), [nonneg n, chkLt n s.size])
      | _ => none
    | some (.array len el) => match x with
      | .agg l => match P.info? el with
        | some ie => match partA P el l (n.toNat * ie.size) with
          | some (v, ob) => some (v, nonneg n :: chkLt n len :: ob)
          | none => none
        | none => none
      | _ => none
    | _ => none
  | _ => none
def extractA (x : AV) (i : Nat) : PV := match x with
  | .tup l => some (l.getD i .any, [chkLe (i + 1) l.length])
  | _ => none
def bitsI (op : BinOp) (k : IntKind) (a b : Int) : Int :=
  match op with
  | .and => k.wrap ((BitVec.ofInt k.bits a &&& BitVec.ofInt k.bits b).toNat)
  | .or => k.wrap ((BitVec.ofInt k.bits a ||| BitVec.ofInt k.bits b).toNat)
  | .xor => k.wrap ((BitVec.ofInt k.bits a ^^^ BitVec.ofInt k.bits b).toNat)
  | .andNot => k.wrap ((BitVec.ofInt k.bits a &&& ~~~ BitVec.ofInt k.bits b).toNat)
  | _ => 0
def binI (op : BinOp) (k : IntKind) (a : Int) (k' : IntKind) (b : Int) : PV :=
  match op with
  | .shl => some (.int k (k.wrap (a * 2 ^ (min b.toNat k.bits))), [nonneg b])
  | .shr => some (.int k (a.fdiv (2 ^ (min b.toNat k.bits))), [nonneg b])
  | op => match kEq k k' with
    | false => none
    | true => match op with
      | .add => some (.int k (k.wrap (a + b)), [])
      | .sub => some (.int k (k.wrap (a - b)), [])
      | .mul => some (.int k (k.wrap (a * b)), [])
      | .quo => some (.int k (k.wrap (a.tdiv b)), [neZ b])
      | .rem => some (.int k (a.tmod b), [neZ b])
      | .and => some (.int k (bitsI .and k a b), [])
      | .or => some (.int k (bitsI .or k a b), [])
      | .xor => some (.int k (bitsI .xor k a b), [])
      | .andNot => some (.int k (bitsI .andNot k a b), [])
      | .eql => some (.bool (a == b), [])
      | .neq => some (.bool (a != b), [])
      | .lss => some (.bool (decide (a < b)), [])
      | .leq => some (.bool (decide (a ≤ b)), [])
      | .gtr => some (.bool (decide (a > b)), [])
      | .geq => some (.bool (decide (a ≥ b)), [])
      | _ => none
def binS (op : BinOp) (a b : ByteArray) : PV :=
  match op with
  | .add => some (.str (a ++ b), [chkLe (a.size + b.size) 9223372036854775807])
  | .eql => some (.bool (a.toList == b.toList), [])
  | .neq => some (.bool (!(a.toList == b.toList)), [])
  | .lss => some (.bool (Op.bytesLess a.toList b.toList), [])
  | .leq => some (.bool (Op.bytesLess a.toList b.toList || a.toList == b.toList), [])
  | .gtr => some (.bool (!(Op.bytesLess a.toList b.toList || a.toList == b.toList)), [])
  | .geq => some (.bool (!Op.bytesLess a.toList b.toList), [])
  | _ => none
def boo (b : Bool) : AV := bif b then .tru else .fls
theorem VR.boo (C : Cx) (b : Bool) : VR C (boo b) (.bool b) := by cases b <;> constructor
/-- Are two values of a type alike? -/
inductive Eq2 | lit (b : Bool) | val (b : Bool)
def isIfc (P : Program) (t : TypeId) : Bool := match P.underlying t with | some (.interface _) => true | _ => false
/-- Alike, of values in one cell each, of a type that is no interface. -/
def eqCell (x y : AV) : Option Bool := match x, y with
  | .bool a, .bool b => some (a == b)
  | .bool a, .tru => some (a == true)
  | .bool a, .fls => some (a == false)
  | .tru, .bool b => some (true == b)
  | .fls, .bool b => some (false == b)
  | .tru, .tru => some true
  | .fls, .fls => some true
  | .tru, .fls => some false
  | .fls, .tru => some false
  | .int k a, .int k' b => bif kEq k k' then some (a == b) else none
  | .str a, .str b => some (a == b)
  | .nilp, .nilp => some true
  | .nilp, .ptr _ _ => some false
  | .ptr _ _, .nilp => some false
  | _, _ => none
def isOne (P : Program) (t : TypeId) (x : AV) : Bool := match P.underlying t, x with
  | some .bool, .bool _ | some .bool, .tru | some .bool, .fls => true
  | some (.int _), .int _ _ => true
  | some .string, .str _ => true
  | some (.pointer _), .nilp | some (.pointer _), .ptr _ _ => true
  | _, _ => false
def eqFieldsA (P : Program) (xs ys : List AV) : List Field → Option (Bool × List Ob)
  | [] => some (true, [])
  | f :: fs => match f.name == "_" with
    | true => none
    | false => match isOne P f.type (xs.getD f.offset .any), isAggB P f.type with
      | true, some false => match eqCell (xs.getD f.offset .any) (ys.getD f.offset .any), eqFieldsA P xs ys fs with
        | some b, some (r, ob) => some (b && r, chkLe (f.offset + 1) xs.length :: chkLe (f.offset + 1) ys.length :: ob)
        | _, _ => none
      | _, _ => none
def negIf (op : BinOp) (b : Bool) : Bool := match op with | .neq => !b | _ => b
def eqA (P : Program) (op : BinOp) (t : TypeId) (x y : AV) : PV :=
  match x with
  | .nili => match isIfc P t, y with
    | true, .ifc _ _ => some (boo (negIf op false), [])
    | _, _ => none
  | .ifc tx vx => match isIfc P t, y with
    | true, .nili => some (boo (negIf op false), [])
    | true, .ifc ty vy => match Nat.beq tx ty with
      | false => some (boo (negIf op false), [])
      | true => match P.info? tx with
        | some i => match i.comparable, isOne P tx vx, eqCell vx vy with
          | true, true, some b => some (.bool (negIf op b), [])
          | _, _, _ => none
        | none => none
    | _, _ => none
  | .nilp => match P.underlying t, y with
    | some (.pointer _), .nilp => some (boo (negIf op true), [])
    | some (.pointer _), .ptr _ _ => some (boo (negIf op false), [])
    | _, _ => none
  | .ptr _ _ => match P.underlying t, y with
    | some (.pointer _), .nilp => some (boo (negIf op false), [])
    | _, _ => none
  | .nils => match P.underlying t, y with
    | some (.slice _), .nils => some (boo (negIf op true), [])
    | some (.slice _), .slc .. => some (boo (negIf op false), [])
    | _, _ => none
  | .slc .. => match P.underlying t, y with
    | some (.slice _), .nils => some (boo (negIf op false), [])
    | _, _ => none
  | .agg xs => match y, P.underlying t, P.stoodInHeld t, P.eqGuardType P.depth t with
    | .agg ys, some (.struct fs), false, false => match eqFieldsA P xs ys fs.toList with
      | some (b, ob) => some (.bool (negIf op b), ob)
      | none => none
    | _, _, _, _ => none
  | _ => match isOne P t x, eqCell x y with
    | true, some b => some (.bool (negIf op b), [])
    | _, _ => none
def isConstO : Operand → Bool | .const _ => true | _ => false
def binA (P : Program) (op : BinOp) (t : TypeId) (xo yo : Operand) (x y : AV) : PV :=
  match x, y with
  | .int k a, .int k' b => binI op k a k' b
  | .str a, .str b => binS op a b
  | .nili, .nili => match op, isIfc P t, isConstO xo || isConstO yo with
    | .eql, true, true => some (.tru, [])
    | .neq, true, true => some (.fls, [])
    | _, _, _ => none
  | x, y => match op with
    | .eql => eqA P .eql t x y
    | .neq => eqA P .neq t x y
    | _ => none
def unA (op : UnOp) (x : AV) : PV := match op, x with
  | .not, .tru => some (.fls, [])
  | .not, .fls => some (.tru, [])
  | .not, .bool b => some (.bool (!b), [])
  | .neg, .int k n => some (.int k (k.wrap (0 - n)), [])
  | .xor, .int k n => some (.int k (bitsI .xor k (if k.signed then -1 else k.max) n), [])
  | _, _ => none
def convA (P : Program) (s d : TypeId) (x : AV) : PV := match P.underlying s, P.underlying d, x with
  | some _, some (.int k), .int _ n => some (.int k (k.wrap n), [])
  | some _, some .string, .str b => some (.str b, [])
  | _, _, _ => none
def arrPtrA (P : Program) (t : TypeId) (x : AV) : PV := match P.underlying t, x with
  | some (.array (n + 1) _), .slc b o len _ => some (.ptr b o, [chkLe (n + 1) len])
  | _, _ => none
def mkIfcA (P : Program) (t : TypeId) (x : AV) : PV := match P.underlying t with
  | some (.interface _) => none
  | some _ => some (.ifc t (canon x), [])
  | none => none
def intO (ρ : Rho) : Option Operand → Option (Option Int)
  | none => some none
  | some x => match ρ x with | .int _ n => some (some n) | _ => none
def strideA (P : Program) (e : TypeId) : Option Nat := match P.info? e with | some i => some i.size | none => none
/-- A part of a text (reckoned by its list). -/
def cutB (s : ByteArray) (lo hi : Nat) : ByteArray := ⟨⟨(s.data.toList.drop lo).take (hi - lo)⟩⟩
theorem cutB_eq (s : ByteArray) (lo hi : Nat) : cutB s lo hi = s.extract lo hi := by
  apply ByteArray.ext
  apply Array.ext'
  rw [ByteArray.data_extract, Array.toList_extract]
  rfl
def sliceA (P : Program) (ρ : Rho) (t : TypeId) (x : AV) (lo hi mx : Option Operand) : PV :=
  match intO ρ lo, intO ρ hi, intO ρ mx with
  | some lo, some hi, some mx => match P.underlying t with
    | some .string => match x, mx with
      | .str s, none => some (.str (cutB s (lo.getD 0).toNat (hi.getD s.size).toNat), [nonneg (lo.getD 0), leI (lo.getD 0) (hi.getD s.size), leI (hi.getD s.size) s.size])
      | _, _ => none
    | some (.slice e) => match x, P.info? e with
      | .nils, some _ => some (.nils, [nonneg (lo.getD 0), leI (lo.getD 0) 0, nonneg (hi.getD 0), leI (hi.getD 0) 0, nonneg (mx.getD 0), leI (mx.getD 0) 0])
      | .lst b o len (.own sz), some ie => match mx, Nat.beq sz ie.size with
        | none, true => some (.lst b (o + (lo.getD 0).toNat * ie.size) ((hi.getD len).toNat - (lo.getD 0).toNat) (.own sz), [nonneg (lo.getD 0), leI (lo.getD 0) (hi.getD len), leI (hi.getD len) len])
        | _, _ => none
      | .lst b o len (.ex c), some ie => match mx with
        | none => some (.lst b (o + (lo.getD 0).toNat * ie.size) ((hi.getD len).toNat - (lo.getD 0).toNat) (.ex (c - (lo.getD 0).toNat)), [nonneg (lo.getD 0), leI (lo.getD 0) (hi.getD len), leI (hi.getD len) len])
        | _ => none
      | .slc b o len cap, some ie => match mx with
        | none => match cap with
          | .ex c => some (.slc b (o + (lo.getD 0).toNat * ie.size) ((hi.getD len).toNat - (lo.getD 0).toNat) (.ex (c - (lo.getD 0).toNat)), [nonneg (lo.getD 0), leI (lo.getD 0) (hi.getD len), leI (hi.getD len) len])
          | .own sz => match Nat.beq sz ie.size with
            | true => some (.slc b (o + (lo.getD 0).toNat * ie.size) ((hi.getD len).toNat - (lo.getD 0).toNat) (.own sz), [nonneg (lo.getD 0), leI (lo.getD 0) (hi.getD len), leI (hi.getD len) len])
            | false => none
        | some m => some (.slc b (o + (lo.getD 0).toNat * ie.size) ((hi.getD len).toNat - (lo.getD 0).toNat) (.ex (m.toNat - (lo.getD 0).toNat)), [nonneg (lo.getD 0), leI (lo.getD 0) (hi.getD len), leI (hi.getD len) m, leI m len])
      | _, _ => none
    | some (.array n e) => match x, mx, P.info? e with
      | .ptr b o, none, some ie => some (.slc b (o + (lo.getD 0).toNat * ie.size) ((hi.getD n).toNat - (lo.getD 0).toNat) (.ex (n - (lo.getD 0).toNat)), [nonneg (lo.getD 0), leI (lo.getD 0) (hi.getD n), leI (hi.getD n) n])
      | _, _, _ => none
    | _ => none
  | _, _, _ => none
def minA : AV → AV → Option AV
  | .int k x, .int _ y => some (.int k (if y < x then y else x))
  | _, _ => none
def maxA : AV → AV → Option AV
  | .int k x, .int _ y => some (.int k (if y > x then y else x))
  | _, _ => none
def lenA (P : Program) (t : TypeId) (x : AV) : PV := match P.underlying t, x with
  | some .string, .str s => some (.int .i64 s.size, [])
  | some (.slice _), .slc _ _ n _ => some (.int .i64 n, [])
  | some (.slice _), .nils => some (.int .i64 0, [])
  | some (.slice _), .lst _ _ n _ => some (.int .i64 n, [])
  | some (.array n _), _ => some (.int .i64 n, [])
  | _, _ => none
def fillA (place : Nat → Option (Nat × Nat)) (cells : List AV) : List (Nat × AV) → Option (List AV × List Ob)
  | [] => some (cells, [])
  | (i, v) :: rest => match place i, cellsO v with
    | some (off, size), some l => match fillA place (putAt cells off l) rest with
      | some (c, ob) => some (c, chkEq l.length size :: chkLe (off + l.length) cells.length :: ob)
      | none => none
    | _, _ => none
def infosB (P : Program) : List Field → Bool
  | [] => true
  | f :: fs => match P.info? f.type with | some _ => infosB P fs | none => false
def buildA (P : Program) (ρ : Rho) (t : TypeId) (parts : Array (Nat × Operand)) : PV :=
  match P.info? t, P.underlying t with
  | some i, some (.struct fs) => match i.zero with
    | some (.agg ⟨z⟩) => match infosB P fs.toList with
      | true => match fillA (fun j => match fs[j]? with | some f => (match P.info? f.type with | some fi => some (f.offset, fi.size) | none => none) | none => none) (ofVs z) (parts.toList.map fun p => (p.1, ρ p.2)) with
        | some (c, ob) => some (.agg c, ob)
        | none => none
      | false => none
    | _ => none
  | some i, some (.array _ e) => match i.zero, P.info? e with
    | some (.agg ⟨z⟩), some ie => match fillA (fun j => some (j * ie.size, ie.size)) (ofVs z) (parts.toList.map fun p => (p.1, ρ p.2)) with
      | some (c, ob) => some (.agg c, ob)
      | none => none
    | _, _ => none
  | _, _ => none
/-- Operations that leave memory alone. -/
def aopV (P : Program) (ρ : Rho) (o : Oper) : PV :=
  match o.op with
  | .move x | .assign x => some (ρ x, [])
  | .pick c a b => pickA (ρ c) (ρ a) (ρ b)
  | .nilCheck x => nilCheckA (ρ x)
  | .fieldAddr s x f => fieldAddrA P s (ρ x) f
  | .indexAddr t x i => indexAddrA P t (ρ x) (ρ i)
  | .field t x f => fieldA P t (ρ x) f
  | .index t x i => indexA P t (ρ x) (ρ i)
  | .extract x i => extractA (ρ x) i
  | .binOp op t x y _ => binA P op t x y (ρ x) (ρ y)
  | .unOp op _ x => unA op (ρ x)
  | .convert s d x => convA P s d (ρ x)
  | .sliceToArrayPointer t x => arrPtrA P t (ρ x)
  | .makeInterface t x => mkIfcA P t (ρ x)
  | .makeFunc (.func f) a b => some (.fn f (a.toList.map ρ) (b.toList.map ρ), [])
  | .slice t x lo hi mx => match mx, hi with
    | some _, none => none
    | _, _ => sliceA P ρ t (ρ x) lo hi mx
  | .build t parts => buildA P ρ t parts
  | .call c => match c.callee, c.args.toList, c.argTypes.toList with
    | .builtin .len, [x], [t] => lenA P t (ρ x)
    | .builtin .min, [x, y], _ => (minA (ρ x) (ρ y)).map fun v => (v, [])
    | .builtin .max, [x, y], _ => (maxA (ρ x) (ρ y)).map fun v => (v, [])
    | _, _, _ => none
  | _ => none
def VOk (P : Program) (o : Oper) (ρ : Rho) (v : AV) : Prop := ∀ (C : Cx) (ρ' : Operand → Value) (w : World), (∀ x, VR C (ρ x) (ρ' x)) → ∃ v', (execOp ρ' o).run P w = .ok (.value v') w ∧ VR C v v'
end Go.Proofs.YtplejhefhnmabaaGreatDoor.Am

/- Abstract machine, part E: operations that leave memory alone compute what they are said to. -/
namespace Go.Proofs.YtplejhefhnmabaaGreatDoor.Am
set_option linter.unusedSimpArgs false
set_option linter.unusedVariables false
section
variable {P : Program} {C : Cx} {ρ : Rho} {ρ' : Operand → Value} {w : World}
theorem info_of {t : TypeId} {i : TypeInfo} (h : P.info? t = some i) (w : World) : (typeInfo t).run P w = .ok i w := by simp [typeInfo, h]
theorem sizeOf_of {t : TypeId} {i : TypeInfo} (h : P.info? t = some i) (w : World) : (sizeOf t).run P w = .ok i.size w := by simp [sizeOf, info_of h]
theorem add_none (b o n : Nat) : (⟨b, o, none⟩ : Addr).add n = ⟨b, o + n, none⟩ := by unfold Addr.add; split <;> simp_all
theorem pick_ok {c a b x y z : AV} {x' y' z' : Value} {v : AV} {ob : List Ob} (hx : VR C x x') (hy : VR C y y') (hz : VR C z z') (e : pickA x y z = some (v, ob)) :
    ∃ b, x' = .bool b ∧ VR C v (if b then y' else z') := by
  unfold pickA at e
  split at e
  · cases hx; injection e with e; injection e with e _; subst e; exact ⟨true, rfl, hy⟩
  · cases hx; injection e with e; injection e with e _; subst e; exact ⟨false, rfl, hz⟩
  · rename_i c
    split at e
    · injection e with e; injection e with e _; subst e
      cases hx; cases hy; cases hz
      exact ⟨c, rfl, by cases c <;> exact .bool _⟩
    · cases e
  · cases e
theorem nilCheck_ok {x v : AV} {x' : Value} {ob : List Ob} (hx : VR C x x') (e : nilCheckA x = some (v, ob)) : VR C v x' ∧ ((∃ a, x' = .pointer (some a)) ∨ ∃ f a b, x' = .func (.func f) a b) := by
  unfold nilCheckA at e
  split at e
  · injection e with e; injection e with e _; subst e; cases hx; exact ⟨.gp _ _, .inl ⟨_, rfl⟩⟩
  · injection e with e; injection e with e _; subst e; cases hx with | ptr b o c hc => exact ⟨.ptr _ _ _ hc, .inl ⟨_, rfl⟩⟩
  · injection e with e; injection e with e _; subst e; cases hx with | fn f l m l' m' h1 h2 h3 h4 => exact ⟨.fn _ _ _ _ _ h1 h2 h3 h4, .inr ⟨_, _, _, rfl⟩⟩
  · cases e
theorem fieldAddr_ok {s : TypeId} {x v : AV} {x' : Value} {f : Nat} {ob : List Ob} (hx : VR C x x') (e : fieldAddrA P s x f = some (v, ob)) : ∃ v', (Instr.fieldAt s x' f).run P w = .ok v' w ∧ VR C v v' := by
  unfold fieldAddrA at e
  split at e
  · split at e
    · split at e
      · rename_i fs hu _ fd hf
        split at e
        · cases e
        · rename_i n hn
          injection e with e; injection e with e _; subst e
          cases hx with
          | ptr b o c hc =>
            have hi : ∃ i, P.info? fd.type = some i ∧ i.size = n + 1 := by
              unfold Program.cellsOf at hn
              cases h : P.info? fd.type with
              | none => rw [h] at hn; simp at hn
              | some i => rw [h] at hn; exact ⟨i, rfl, by simpa using hn⟩
            obtain ⟨i, hi, hs⟩ := hi
            refine ⟨_, ?_, .ptr _ _ _ hc⟩
            simp [Instr.fieldAt, run_underlying hu, hf, Instr.sureAddr, fieldPlace, sizeOf_of hi, hs, add_none, Nat.add_assoc]
      · cases e
    · cases e
  · split at e
    · split at e
      · rename_i fs hu _ fd hf
        split at e
        · cases e
        · rename_i n hn
          injection e with e; injection e with e _; subst e
          cases hx with
          | gp b o =>
            have hi : ∃ i, P.info? fd.type = some i ∧ i.size = n + 1 := by
              unfold Program.cellsOf at hn
              cases h : P.info? fd.type with
              | none => rw [h] at hn; simp at hn
              | some i => rw [h] at hn; exact ⟨i, rfl, by simpa using hn⟩
            obtain ⟨i, hi, hs⟩ := hi
            refine ⟨_, ?_, .gp _ _⟩
            simp [Instr.fieldAt, run_underlying hu, hf, Instr.sureAddr, fieldPlace, sizeOf_of hi, hs, add_none, Nat.add_assoc]
      · cases e
    · cases e
  · cases e
theorem indexAddr_ok {t : TypeId} {x y v : AV} {x' y' : Value} {ob : List Ob} (hx : VR C x x') (hy : VR C y y') (e : indexAddrA P t x y = some (v, ob)) (ho : Obs ob) :
    ∃ v', (Instr.indexAt t x' y').run P w = .ok v' w ∧ VR C v v' := by
  unfold indexAddrA at e
  split at e
  · rename_i k n
    cases hy
    split at e
    · rename_i el hu
      split at e
      · split at e
        · rename_i b o len cap _ ie hi
          injection e with e; injection e with e e2; subst e; subst e2
          simp only [Obs, nonneg_holds, chkLt_holds] at ho
          obtain ⟨h0, h1, _⟩ := ho
          cases hx with
          | slc _ _ _ _ a cap' g1 g2 g3 =>
            obtain ⟨c, hc, ha, _⟩ := g1 (by omega)
            subst ha
            refine ⟨.pointer (some ⟨c.blk, c.base + (o + n.toNat * ie.size), none⟩), ?_, .ptr _ _ _ hc⟩
            simp [Instr.indexAt, asIntOf, run_underlying hu, h0, h1, sizeOf_of hi, add_none, Nat.add_assoc]
        · cases e
      · split at e
        · rename_i b o len cap _ ie hi
          injection e with e; injection e with e e2; subst e; subst e2
          simp only [Obs, nonneg_holds, chkLt_holds] at ho
          obtain ⟨h0, h1, _⟩ := ho
          cases hx with
          | lstn => omega
          | lsts _ _ _ _ a cap' hx =>
           cases hx with
           | slc _ _ _ _ a cap' g1 g2 g3 =>
            obtain ⟨c, hc, ha, _⟩ := g1 (by omega)
            subst ha
            refine ⟨.pointer (some ⟨c.blk, c.base + (o + n.toNat * ie.size), none⟩), ?_, .ptr _ _ _ hc⟩
            simp [Instr.indexAt, asIntOf, run_underlying hu, h0, h1, sizeOf_of hi, add_none, Nat.add_assoc]
        · cases e
      · cases e
    · rename_i len el hu
      split at e
      · split at e
        · rename_i b o _ ie hi
          injection e with e; injection e with e e2; subst e; subst e2
          simp only [Obs, nonneg_holds, chkLt_holds] at ho
          obtain ⟨h0, h1, _⟩ := ho
          cases hx with
          | ptr _ _ c hc =>
            refine ⟨.pointer (some ⟨c.blk, c.base + (o + n.toNat * ie.size), none⟩), ?_, .ptr _ _ _ hc⟩
            simp [Instr.indexAt, asIntOf, run_underlying hu, h0, h1, Instr.sureAddr, sizeOf_of hi, add_none, Nat.add_assoc]
        · cases e
      · split at e
        · rename_i b o _ ie hi
          injection e with e; injection e with e e2; subst e; subst e2
          simp only [Obs, nonneg_holds, chkLt_holds] at ho
          obtain ⟨h0, h1, _⟩ := ho
          cases hx with
          | gp _ _ =>
            refine ⟨.pointer (some ⟨b, o + n.toNat * ie.size, none⟩), ?_, .gp _ _⟩
            simp [Instr.indexAt, asIntOf, run_underlying hu, h0, h1, Instr.sureAddr, sizeOf_of hi, add_none, Nat.add_assoc]
        · cases e
      · cases e
    · cases e
  · cases e
theorem isAgg_of {t : TypeId} {b : Bool} (h : isAggB P t = some b) (w : World) : (isAgg t).run P w = .ok b w := by
  unfold isAggB at h
  split at h <;> (try cases h)
  · rename_i hu; simp [isAgg, run_underlying hu]
  · rename_i hu; simp [isAgg, run_underlying hu]
  · rename_i d h1 h2 hu
    simp only [isAgg, Sem.run_bind, run_underlying hu, Result.andThen_ok]
    cases d <;> first | rfl | (exact absurd rfl (h1 _)) | (exact absurd rfl (h2 _ _))
theorem part_ok {t : TypeId} {l : List AV} {cs : Array Value} {off : Nat} {v : AV} {ob : List Ob} (hl : l.length = cs.size) (hv : ∀ i, i < l.length → VR C (l.getD i .any) (cs.getD i undef))
    (e : partA P t l off = some (v, ob)) (ho : Obs ob) : ∃ v', (part t cs off).run P w = .ok v' w ∧ VR C v v' := by
  unfold partA at e
  split at e
  · rename_i ha
    split at e
    · rename_i i hi
      injection e with e; injection e with e e2; subst e; subst e2
      simp only [Obs, chkLe_holds] at ho
      refine ⟨.agg (cs.extract off (off + i.size)), by simp [part, isAgg_of ha, sizeOf_of hi], .agg _ _ ?_ ?_⟩
      · rw [length_takeN]; simp; omega
      · intro j hj
        rw [length_takeN] at hj
        rw [getD_takeN _ _ _ _ hj]
        have := hv (off + j) (by omega)
        rw [show (cs.extract off (off + i.size)).getD j undef = cs.getD (off + j) undef by
          simp [Array.getD_eq_getD_getElem?, Array.getElem?_extract]; rw [if_pos (by omega)]]
        exact this
    · cases e
  · rename_i ha
    injection e with e; injection e with e e2; subst e; subst e2
    simp only [Obs, chkLe_holds] at ho
    have hlt : off < cs.size := by omega
    refine ⟨cs.getD off undef, ?_, hv off (by omega)⟩
    simp [part, isAgg_of ha, Array.getD_eq_getD_getElem?, hlt]
  · cases e
theorem field_ok {t : TypeId} {x v : AV} {x' : Value} {f : Nat} {ob : List Ob} (hx : VR C x x') (e : fieldA P t x f = some (v, ob)) (ho : Obs ob) : ∃ v', (Instr.field t x' f).run P w = .ok v' w ∧ VR C v v' := by
  unfold fieldA at e
  split at e
  · split at e
    · split at e
      · rename_i l _ fs hu _ fd hf
        cases hx with
        | agg _ l' h1 h2 =>
          obtain ⟨v', h3, h4⟩ := part_ok (w := w) h1 h2 e ho
          exact ⟨v', by simp [Instr.field, run_underlying hu, hf, asAgg, h3], h4⟩
      · cases e
    · cases e
  · cases e
theorem index_ok {t : TypeId} {x y v : AV} {x' y' : Value} {ob : List Ob} (hx : VR C x x') (hy : VR C y y') (e : indexA P t x y = some (v, ob)) (ho : Obs ob) : ∃ v', (Instr.index t x' y').run P w = .ok v' w ∧ VR C v v' := by
  unfold indexA at e
  split at e
  · rename_i k n
    cases hy
    split at e
    · rename_i hu
      split at e
      · rename_i s
        injection e with e; injection e with e e2; subst e; subst e2
        simp only [Obs, nonneg_holds, chkLt_holds] at ho
        obtain ⟨h0, h1, _⟩ := ho
        cases hx
        have hlt : n.toNat < s.size := by omega
        have hg : s[n.toNat]? = some (s.data.toList.getD n.toNat 0) := by
          rw [getElem?_pos s n.toNat hlt]
          congr 1
          have hl : n.toNat < s.data.toList.length := by simpa using hlt
          rw [List.getD_eq_getElem?_getD, List.getElem?_eq_getElem hl]
          first | rfl | simp [ByteArray.getElem_eq_getElem_data]
        refine ⟨_, ?_, .int _ _⟩
        simp only [Instr.index, asIntOf, Sem.run_bind, Sem.run_pure, Result.andThen_ok, run_underlying hu, if_pos h0, hg]
      · cases e
    · rename_i len el hu
      split at e
      · rename_i l
        split at e
        · rename_i ie hi
          split at e
          · rename_i v0 ob0 hp
            injection e with e; injection e with e e2; subst e; subst e2
            simp only [Obs, nonneg_holds, chkLt_holds] at ho
            obtain ⟨h0, h1, ho⟩ := ho
            cases hx with
            | agg _ l' g1 g2 =>
              obtain ⟨v', h3, h4⟩ := part_ok (w := w) g1 g2 hp ho
              exact ⟨v', by simp [Instr.index, asIntOf, run_underlying hu, h0, h1, sizeOf_of hi, h3], h4⟩
          · cases e
        · cases e
      · cases e
    · cases e
  · cases e
theorem extract_ok {x v : AV} {x' : Value} {i : Nat} {ob : List Ob} (hx : VR C x x') (e : extractA x i = some (v, ob)) (ho : Obs ob) : ∃ v', (Instr.extract x' i).run P w = .ok v' w ∧ VR C v v' := by
  unfold extractA at e
  split at e
  · rename_i l
    injection e with e; injection e with e e2; subst e; subst e2
    simp only [Obs, chkLe_holds] at ho
    cases hx with
    | tup _ l' h1 h2 =>
      have hlt : i < l'.size := by omega
      exact ⟨l'.getD i undef, by simp [Instr.extract, Array.getD_eq_getD_getElem?, hlt], h2 i (by omega)⟩
  · cases e
theorem binI_ok {op : BinOp} {k k' : IntKind} {a b : Int} {t : TypeId} {v : AV} {ob : List Ob} (e : binI op k a k' b = some (v, ob)) (ho : Obs ob) :
    ∃ v', (binOp op t (.int k a) (.int k' b)).run P w = .ok v' w ∧ VR C v v' := by
  cases op
  case shl =>
    injection e with e; injection e with e e2; subst e; subst e2
    simp only [Obs, nonneg_holds] at ho
    exact ⟨_, by simp [binOp, Op.shift, show ¬ b < 0 by omega], .int _ _⟩
  case shr =>
    injection e with e; injection e with e e2; subst e; subst e2
    simp only [Obs, nonneg_holds] at ho
    exact ⟨_, by simp [binOp, Op.shift, show ¬ b < 0 by omega], .int _ _⟩
  case quo =>
    cases hk : kEq k k' with
    | false => simp only [binI, hk] at e; cases e
    | true =>
      have := kEq_eq hk; subst this
      simp only [binI, hk] at e
      injection e with e; injection e with e e2; subst e; subst e2
      simp only [Obs, neZ_holds] at ho
      exact ⟨_, by simp only [binOp, ne_eq, not_true, if_false, Op.intDiv, if_neg ho.1]; rfl, .int _ _⟩
  case rem =>
    cases hk : kEq k k' with
    | false => simp only [binI, hk] at e; cases e
    | true =>
      have := kEq_eq hk; subst this
      simp only [binI, hk] at e
      injection e with e; injection e with e e2; subst e; subst e2
      simp only [Obs, neZ_holds] at ho
      exact ⟨_, by simp only [binOp, ne_eq, not_true, if_false, Op.intDiv, if_neg ho.1]; rfl, .int _ _⟩
  all_goals
    cases hk : kEq k k' with
    | false => simp only [binI, hk] at e; cases e
    | true =>
      have := kEq_eq hk; subst this
      simp only [binI, hk] at e
      injection e with e; injection e with e e2; subst e; subst e2
      first
      | exact ⟨_, by simp only [binOp, ne_eq, not_true, if_false, Op.intArith]; rfl, .int _ _⟩
      | exact ⟨_, by simp only [binOp, ne_eq, not_true, if_false, Op.intBits]; rfl, .int _ _⟩
      | exact ⟨_, by simp only [binOp, ne_eq, not_true, if_false, Op.intCmp]; rfl, .bool _⟩
theorem binS_ok {op : BinOp} {a b : ByteArray} {t : TypeId} {v : AV} {ob : List Ob} (e : binS op a b = some (v, ob)) (ho : Obs ob) :
    ∃ v', (binOp op t (.string a) (.string b)).run P w = .ok v' w ∧ VR C v v' := by
  cases op
  case add =>
    injection e with e; injection e with e e2; subst e; subst e2
    simp only [Obs, chkLe_holds] at ho
    exact ⟨_, by simp only [binOp, Op.stringOp]; rw [if_neg (by simp [IntKind.max, IntKind.signed, IntKind.bits]; omega)]; rfl, .str _⟩
  all_goals first
    | (cases e; done)
    | (injection e with e; injection e with e e2; subst e; exact ⟨_, by simp only [binOp, Op.stringOp]; rfl, .bool _⟩)
theorem un_ok {op : UnOp} {x v : AV} {x' : Value} {ob : List Ob} (hx : VR C x x') (e : unA op x = some (v, ob)) : ∃ v', (Op.unary op x').run P w = .ok v' w ∧ VR C v v' := by
  unfold unA at e
  split at e <;> first
    | (cases e; done)
    | (injection e with e; injection e with e e2; subst e; cases hx
       first
       | exact ⟨_, rfl, .fls⟩ | exact ⟨_, rfl, .tru⟩ | exact ⟨_, rfl, .bool _⟩
       | exact ⟨_, rfl, .int _ _⟩)
theorem conv_ok {s d : TypeId} {x v : AV} {x' : Value} {ob : List Ob} (hx : VR C x x') (e : convA P s d x = some (v, ob)) : ∃ v', (convert s d x').run P w = .ok v' w ∧ VR C v v' := by
  unfold convA at e
  split at e
  · rename_i h1 h2
    injection e with e; injection e with e e2; subst e; cases hx
    exact ⟨_, by simp only [convert, Sem.run_bind, run_underlying h1, run_underlying h2, Result.andThen_ok]; rfl, .int _ _⟩
  · rename_i h1 h2
    injection e with e; injection e with e e2; subst e; cases hx
    exact ⟨_, by simp only [convert, Sem.run_bind, run_underlying h1, run_underlying h2, Result.andThen_ok]; rfl, .str _⟩
  · cases e
theorem arrPtr_ok {t : TypeId} {x v : AV} {x' : Value} {ob : List Ob} (hx : VR C x x') (e : arrPtrA P t x = some (v, ob)) (ho : Obs ob) : ∃ v', (Instr.arrayAt t x').run P w = .ok v' w ∧ VR C v v' := by
  unfold arrPtrA at e
  split at e
  · rename_i n el b o len cap hu
    injection e with e; injection e with e e2; subst e; subst e2
    simp only [Obs, chkLe_holds] at ho
    cases hx with
    | slc _ _ _ _ a cap' g1 g2 g3 =>
      obtain ⟨c, hc, ha, _⟩ := g1 (by omega)
      subst ha
      exact ⟨_, by simp [Instr.arrayAt, run_underlying hu, show ¬ len < n + 1 by omega], .ptr _ _ _ hc⟩
  · cases e
theorem mkIfc_ok {t : TypeId} {x v : AV} {x' : Value} {ob : List Ob} (hx : VR C x x') (e : mkIfcA P t x = some (v, ob)) : ∃ v', (Instr.makeInterface t x').run P w = .ok v' w ∧ VR C v v' := by
  unfold mkIfcA at e
  split at e
  · cases e
  · rename_i d h1 hu
    injection e with e; injection e with e e2; subst e
    refine ⟨.iface t x', ?_, .ifc _ _ _ hx.canon⟩
    simp only [Instr.makeInterface, Sem.run_bind, run_underlying hu, Result.andThen_ok]
    cases d <;> first | rfl | (exact absurd rfl (h1 _))
  · cases e
theorem len_ok {t : TypeId} {x v : AV} {x' : Value} {ty : TypeId} {ob : List Ob} (hx : VR C x x') (e : lenA P t x = some (v, ob)) : ∃ v', (Builtin.len_ #[t] ty #[x']).run P w = .ok v' w ∧ VR C v v' := by
  unfold lenA at e
  split at e
  · rename_i s hu; cases hx
    injection e with e; injection e with e e2; subst e
    exact ⟨.int .i64 s.size, by simp [Builtin.len_, run_underlying hu, goInt], .int _ _⟩
  · rename_i n _ hu; cases hx
    injection e with e; injection e with e e2; subst e
    exact ⟨.int .i64 n, by simp [Builtin.len_, run_underlying hu, goInt], .int _ _⟩
  · rename_i hu; cases hx
    injection e with e; injection e with e e2; subst e
    exact ⟨.int .i64 0, by simp [Builtin.len_, run_underlying hu, goInt], .int _ _⟩
  · rename_i n _ hu
    injection e with e; injection e with e e2; subst e
    cases hx with
    | lstn => exact ⟨.int .i64 0, by simp [Builtin.len_, run_underlying hu, goInt], .int _ _⟩
    | lsts _ _ _ _ a cap' hx => exact ⟨.int .i64 n, by simp [Builtin.len_, run_underlying hu, goInt], .int _ _⟩
  · rename_i n _ hu
    injection e with e; injection e with e e2; subst e
    exact ⟨.int .i64 n, by simp [Builtin.len_, run_underlying hu, goInt], .int _ _⟩
  · cases e
end
end Go.Proofs.YtplejhefhnmabaaGreatDoor.Am

/- Abstract machine, part E2: comparisons, slices, structs. -/
namespace Go.Proofs.YtplejhefhnmabaaGreatDoor.Am
set_option linter.unusedSimpArgs false
set_option linter.unusedVariables false
section
variable {P : Program} {C : Cx} {ρ : Rho} {ρ' : Operand → Value} {w : World}
theorem isIfc_of {t : TypeId} (h : isIfc P t = true) : ∃ m, P.underlying t = some (.interface m) := by
  unfold isIfc at h; split at h
  · rename_i m hu; exact ⟨m, hu⟩
  · exact absurd h (by decide)
theorem asB {C : Cx} {x : AV} {x' : Value} (hx : VR C x x') (h : x = .bool (asBool x) ∨ x = .tru ∨ x = .fls) : x' = .bool (asBool x) := by
  rcases h with h | h | h
  · rw [h] at hx; cases hx; rw [h]
  · subst h; cases hx; rfl
  · subst h; cases hx; rfl
theorem eqBool {x y : AV} {b : Bool} (h : x = .bool (asBool x) ∨ x = .tru ∨ x = .fls) (e : eqCell x y = some b) : (y = .bool (asBool y) ∨ y = .tru ∨ y = .fls) ∧ b = (asBool x == asBool y) := by
  rcases h with h | h | h
  · rw [h] at e ⊢
    cases y <;> simp only [eqCell] at e <;> first | (cases e; done) | (injection e with e; subst e; exact ⟨by simp [asBool], rfl⟩)
  · subst h
    cases y <;> simp only [eqCell] at e <;> first | (cases e; done) | (injection e with e; subst e; exact ⟨by simp [asBool], rfl⟩)
  · subst h
    cases y <;> simp only [eqCell] at e <;> first | (cases e; done) | (injection e with e; subst e; exact ⟨by simp [asBool], rfl⟩)
theorem run_eq_nilp (d : Nat) (t el : TypeId) (b : Option Addr) (h : P.underlying t = some (.pointer el)) : (Op.equalIn (d + 1) t (.pointer none) (.pointer b)).run P w = .ok b.isNone w := by
  simp only [Op.equalIn, Sem.run_bind, run_underlying h, Result.andThen_ok]; rfl
theorem run_eq_pnil (d : Nat) (t el : TypeId) (a : Addr) (h : P.underlying t = some (.pointer el)) : (Op.equalIn (d + 1) t (.pointer (some a)) (.pointer none)).run P w = .ok false w := by
  simp only [Op.equalIn, Sem.run_bind, run_underlying h, Result.andThen_ok]; rfl
theorem run_eq_nili (d : Nat) (t : TypeId) (m) (tx : TypeId) (v : Value) (h : P.underlying t = some (.interface m)) : (Op.equalIn (d + 1) t .nilIface (.iface tx v)).run P w = .ok false w := by
  simp only [Op.equalIn, Sem.run_bind, run_underlying h, Result.andThen_ok]; rfl
theorem run_eq_inil (d : Nat) (t : TypeId) (m) (tx : TypeId) (v : Value) (h : P.underlying t = some (.interface m)) : (Op.equalIn (d + 1) t (.iface tx v) .nilIface).run P w = .ok false w := by
  simp only [Op.equalIn, Sem.run_bind, run_underlying h, Result.andThen_ok]; rfl
theorem run_eq_nilnil (d : Nat) (t : TypeId) (m) (h : P.underlying t = some (.interface m)) : (Op.equalIn (d + 1) t .nilIface .nilIface).run P w = .ok true w := by
  simp only [Op.equalIn, Sem.run_bind, run_underlying h, Result.andThen_ok]; rfl
theorem run_eq_ifc_ne (d : Nat) (t : TypeId) (m) (tx ty : TypeId) (v u : Value) (h : P.underlying t = some (.interface m)) (hne : tx ≠ ty) : (Op.equalIn (d + 1) t (.iface tx v) (.iface ty u)).run P w = .ok false w := by
  simp only [Op.equalIn, Sem.run_bind, run_underlying h, Result.andThen_ok]; rw [if_pos hne]; rfl
theorem run_eq_ifc_eq (d : Nat) (t : TypeId) (m) (tx : TypeId) (v u : Value) (i : TypeInfo) (b : Bool) (h : P.underlying t = some (.interface m)) (hi : P.info? tx = some i) (hc : i.comparable = true) (hq : (Op.equalIn d tx v u).run P w = .ok b w) :
    (Op.equalIn (d + 1) t (.iface tx v) (.iface tx u)).run P w = .ok b w := by
  simp only [Op.equalIn, Sem.run_bind, run_underlying h, Result.andThen_ok]
  rw [if_neg (by simp)]
  simp only [Sem.run_bind, info_of hi, Result.andThen_ok, hc, Bool.not_true, Bool.false_eq_true, if_false]
  exact hq
theorem run_eq_nils (d : Nat) (t el : TypeId) (b : Option Addr) (l c : Nat) (h : P.underlying t = some (.slice el)) : (Op.equalIn (d + 1) t (.slice none 0 0) (.slice b l c)).run P w = .ok b.isNone w := by
  simp only [Op.equalIn, Sem.run_bind, run_underlying h, Result.andThen_ok]; rfl
theorem run_eq_snil (d : Nat) (t el : TypeId) (a : Addr) (l c : Nat) (h : P.underlying t = some (.slice el)) : (Op.equalIn (d + 1) t (.slice (some a) l c) (.slice none 0 0)).run P w = .ok false w := by
  simp only [Op.equalIn, Sem.run_bind, run_underlying h, Result.andThen_ok]; rfl
theorem eqCell_ok {t : TypeId} {x y : AV} {x' y' : Value} {b : Bool} (d : Nat) (hx : VR C x x') (hy : VR C y y') (h1 : isOne P t x = true) (e : eqCell x y = some b) : (Op.equalIn (d + 1) t x' y').run P w = .ok b w := by
  have boolc : P.underlying t = some .bool → (x = .bool (asBool x) ∨ x = .tru ∨ x = .fls) → (Op.equalIn (d + 1) t x' y').run P w = .ok b w := by
    intro hu h
    obtain ⟨h2, h3⟩ := eqBool h e
    rw [asB hx h, asB hy h2, h3]
    exact run_equalIn_bool' w d t _ _ hu
  unfold isOne at h1
  split at h1 <;> (try (cases h1; done)) <;> rename_i hu
  · exact boolc hu (.inl rfl)
  · exact boolc hu (.inr (.inl rfl))
  · exact boolc hu (.inr (.inr rfl))
  · cases y <;> simp only [eqCell] at e <;> (try (cases e; done))
    rename_i k n k' n'
    cases hk : kEq k k' with
    | false => rw [hk] at e; cases e
    | true =>
      rw [hk] at e; injection e with e; subst e
      have := kEq_eq hk; subst this
      cases hx; cases hy
      exact run_equalIn_int w d t _ _ _ _ hu
  · cases y <;> simp only [eqCell] at e <;> (try (cases e; done))
    injection e with e; subst e
    cases hx; cases hy
    rw [run_equalIn_string w d t _ _ hu, beq_toListBytes]
  · cases y <;> simp only [eqCell] at e <;> (try (cases e; done)) <;> (injection e with e; subst e; cases hx; cases hy)
    · exact run_eq_nilp d t _ none hu
    · exact run_eq_nilp d t _ (some _) hu
  · cases y <;> simp only [eqCell] at e <;> (try (cases e; done))
    injection e with e; subst e; cases hx; cases hy
    exact run_eq_pnil d t _ _ hu
theorem eqFields_ok (d : Nat) {xs ys : List AV} {xs' ys' : Array Value} (hl : xs.length = xs'.size) (hv : ∀ i, i < xs.length → VR C (xs.getD i .any) (xs'.getD i undef))
    (gl : ys.length = ys'.size) (gv : ∀ i, i < ys.length → VR C (ys.getD i .any) (ys'.getD i undef)) : ∀ (fs : List Field) (b : Bool) (ob : List Ob), eqFieldsA P xs ys fs = some (b, ob) → Obs ob →
      (Op.eqFields (d + 1) xs' ys' fs).run P w = .ok b w
  | [], b, ob, e, ho => by injection e with e; injection e with e _; subst e; simp [Op.eqFields]
  | f :: fs, b, ob, e, ho => by
    unfold eqFieldsA at e
    split at e
    · cases e
    · rename_i hn
      split at e
      · rename_i h1 h2
        split at e
        · rename_i b1 r ob1 h3 h4
          injection e with e; injection e with e e2; subst e; subst e2
          simp only [Obs, chkLe_holds] at ho
          obtain ⟨o1, o2, o3⟩ := ho
          have ih := eqFields_ok d hl hv gl gv fs r ob1 h4 o3
          have hne : f.name ≠ "_" := by simpa using hn
          have px : (part f.type xs' f.offset).run P w = .ok (xs'.getD f.offset undef) w := by
            have hlt : f.offset < xs'.size := by omega
            simp [part, isAgg_of h2, Array.getD_eq_getD_getElem?, hlt]
          have py : (part f.type ys' f.offset).run P w = .ok (ys'.getD f.offset undef) w := by
            have hlt : f.offset < ys'.size := by omega
            simp [part, isAgg_of h2, Array.getD_eq_getD_getElem?, hlt]
          have hq := eqCell_ok (P := P) (w := w) d (hv _ (by omega)) (gv _ (by omega)) h1 h3
          simp only [Op.eqFields]
          rw [if_pos hne]
          simp only [Sem.run_bind, px, py, Result.andThen_ok, hq]
          cases b1
          · simp
          · simpa using ih
        · cases e
      · cases e
/-- What no guard stands ahead of. -/
def plainV : Value → Bool
  | .agg _ => false
  | .nilIface => false
  | _ => true
theorem eqGuard_plain {op : BinOp} {t : TypeId} {xo yo : Operand} {a b : Value} (h : plainV a = true) : (eqGuard op t xo yo a b).run P w = .ok () w := by
  cases a <;> first | (cases h; done) | (cases op <;> rfl)
theorem eqGuard_nil {op : BinOp} {t : TypeId} {xo yo : Operand} {b : Value} (h : plainV b = true) : (eqGuard op t xo yo .nilIface b).run P w = .ok () w := by
  cases b <;> first | (cases h; done) | (cases op <;> rfl)
theorem eqGuard_nils {op : BinOp} {t : TypeId} {xo yo : Operand} (h : (isConstO xo || isConstO yo) = true) : (eqGuard op t xo yo .nilIface .nilIface).run P w = .ok () w := by
  cases xo <;> cases yo <;> first | (cases h; done) | (cases op <;> rfl)
theorem eqGuard_agg {op : BinOp} {t : TypeId} {xo yo : Operand} {xs ys : Array Value} (h : P.eqGuardType P.depth t = false) : (eqGuard op t xo yo (.agg xs) (.agg ys)).run P w = .ok () w := run_eqGuard_agg w op t xo yo xs ys h
/-- '==' and '!=' of what is neither numbers nor texts. -/
theorem bin_eq {op : BinOp} {t : TypeId} {a b : Value} {r : Bool} (hop : op = .eql ∨ op = .neq) (hi : ∀ k n k' n', a = .int k n → b = .int k' n' → False) (hs : ∀ x y, a = .string x → b = .string y → False)
    (hf : ∀ k x k' y, a = .float k x → b = .float k' y → False) (hc : ∀ k x y k' z u, a = .complex k x y → b = .complex k' z u → False) (h : (Op.equalIn 10000 t a b).run P w = .ok r w) : (binOp op t a b).run P w = .ok (.bool (negIf op r)) w := by
  have he : (Op.equal t a b).run P w = .ok r w := h
  rcases hop with rfl | rfl
  · cases a <;> cases b <;> first
      | (simp only [binOp, Sem.run_bind, he, Result.andThen_ok]; rfl)
      | exact (hi _ _ _ _ rfl rfl).elim | exact (hs _ _ rfl rfl).elim | exact (hf _ _ _ _ rfl rfl).elim | exact (hc _ _ _ _ _ _ rfl rfl).elim
  · cases a <;> cases b <;> first
      | (simp only [binOp, Sem.run_bind, he, Result.andThen_ok]; rfl)
      | exact (hi _ _ _ _ rfl rfl).elim | exact (hs _ _ rfl rfl).elim | exact (hf _ _ _ _ rfl rfl).elim | exact (hc _ _ _ _ _ _ rfl rfl).elim
theorem isOne_any (t : TypeId) : isOne P t .any = false := by
  unfold isOne
  cases P.underlying t with
  | none => rfl
  | some d => cases d <;> rfl
theorem isOne_plain {t : TypeId} {x : AV} {x' : Value} (hx : VR C x x') (h : isOne P t x = true) : plainV x' = true ∧ x'.oneCell' = true := by
  unfold isOne at h
  split at h <;> (try (cases h; done)) <;> cases hx <;> exact ⟨rfl, rfl⟩
theorem eqA_ok {op : BinOp} (hop : op = .eql ∨ op = .neq) {t : TypeId} {xo yo : Operand} {x y v : AV} {x' y' : Value} {ob : List Ob} (hx : VR C x x') (hy : VR C y y') (e : eqA P op t x y = some (v, ob)) (ho : Obs ob)
    (h1 : ∀ k n k' n', x = .int k n → y = .int k' n' → False) (h2 : ∀ a b, x = .str a → y = .str b → False) :
    ∃ v', (do eqGuard op t xo yo x' y'; binOp op t x' y').run P w = .ok v' w ∧ VR C v v' := by
  have fin : ∀ r, (eqGuard op t xo yo x' y').run P w = .ok () w → (Op.equalIn 10000 t x' y').run P w = .ok r w → (∀ k n k' n', x' = .int k n → y' = .int k' n' → False) → (∀ a b, x' = .string a → y' = .string b → False) →
      (∀ k x k' y, x' = .float k x → y' = .float k' y → False) → (∀ k x y k' z u, x' = .complex k x y → y' = .complex k' z u → False) →
      (do eqGuard op t xo yo x' y'; binOp op t x' y').run P w = .ok (.bool (negIf op r)) w := by
    intro r hg he a1 a2 a3 a4
    simp only [Sem.run_bind, hg, Result.andThen_ok]
    exact bin_eq hop a1 a2 a3 a4 he
  unfold eqA at e
  split at e
  · -- nil interface
    split at e
    · rename_i hi
      injection e with e; injection e with e _; subst e
      obtain ⟨m, hm⟩ := isIfc_of hi
      cases hx; cases hy
      exact ⟨_, fin false (eqGuard_nil rfl) (run_eq_nili 9999 _ _ _ _ hm) (by simp) (by simp) (by simp) (by simp), VR.boo _ _⟩
    · cases e
  · split at e
    · rename_i hi
      injection e with e; injection e with e _; subst e
      obtain ⟨m, hm⟩ := isIfc_of hi
      cases hx; cases hy
      exact ⟨_, fin false (eqGuard_plain rfl) (run_eq_inil 9999 _ _ _ _ hm) (by simp) (by simp) (by simp) (by simp), VR.boo _ _⟩
    · rename_i tx vx _ _ ty vy hi
      obtain ⟨m, hm⟩ := isIfc_of hi
      split at e
      · rename_i hne
        injection e with e; injection e with e _; subst e
        have hne : tx ≠ ty := fun h => by subst h; rw [Nat.beq_refl] at hne; cases hne
        cases hx; cases hy
        exact ⟨_, fin false (eqGuard_plain rfl) (run_eq_ifc_ne 9999 _ _ _ _ _ _ hm hne) (by simp) (by simp) (by simp) (by simp), VR.boo _ _⟩
      · rename_i heq
        have heq : tx = ty := Nat.eq_of_beq_eq_true heq
        subst heq
        split at e
        · rename_i i hinfo
          split at e
          · rename_i b hc h1 h3
            injection e with e; injection e with e _; subst e
            cases hx with
            | ifc _ _ vx' hvx => cases hy with
              | ifc _ _ vy' hvy =>
                refine ⟨_, fin b (eqGuard_plain rfl) ?_ (by simp) (by simp) (by simp) (by simp), .bool _⟩
                have := eqCell_ok (P := P) (w := w) 9998 hvx hvy h1 h3
                exact run_eq_ifc_eq 9999 _ _ _ _ _ _ _ hm hinfo hc this
          · cases e
        · cases e
    · cases e
  · split at e
    · rename_i hu
      injection e with e; injection e with e _; subst e
      cases hx; cases hy
      exact ⟨_, fin true (eqGuard_plain rfl) (run_eq_nilp 9999 _ _ none hu) (by simp) (by simp) (by simp) (by simp), VR.boo _ _⟩
    · rename_i hu
      injection e with e; injection e with e _; subst e
      cases hx; cases hy
      exact ⟨_, fin false (eqGuard_plain rfl) (run_eq_nilp 9999 _ _ (some _) hu) (by simp) (by simp) (by simp) (by simp), VR.boo _ _⟩
    · cases e
  · split at e
    · rename_i hu
      injection e with e; injection e with e _; subst e
      cases hx; cases hy
      exact ⟨_, fin false (eqGuard_plain rfl) (run_eq_pnil 9999 _ _ _ hu) (by simp) (by simp) (by simp) (by simp), VR.boo _ _⟩
    · cases e
  · split at e
    · rename_i hu
      injection e with e; injection e with e _; subst e
      cases hx; cases hy
      exact ⟨_, fin true (eqGuard_plain rfl) (run_eq_nils 9999 _ _ none _ _ hu) (by simp) (by simp) (by simp) (by simp), VR.boo _ _⟩
    · rename_i hu
      injection e with e; injection e with e _; subst e
      cases hx; cases hy
      exact ⟨_, fin false (eqGuard_plain rfl) (run_eq_nils 9999 _ _ (some _) _ _ hu) (by simp) (by simp) (by simp) (by simp), VR.boo _ _⟩
    · cases e
  · split at e
    · rename_i hu
      injection e with e; injection e with e _; subst e
      cases hx; cases hy
      exact ⟨_, fin false (eqGuard_plain rfl) (run_eq_snil 9999 _ _ _ _ _ hu) (by simp) (by simp) (by simp) (by simp), VR.boo _ _⟩
    · cases e
  · split at e
    · rename_i xs _ _ _ _ ys fs hu hp hg
      split at e
      · rename_i b ob1 hf
        injection e with e; injection e with e e2; subst e; subst e2
        cases hx with
        | agg _ xs' g1 g2 => cases hy with
          | agg _ ys' g3 g4 =>
            have hfo : P.underlying t = some (.struct (P.fieldsOf t)) ∧ P.fieldsOf t = fs := by
              have : P.fieldsOf t = fs := by simp [Program.fieldsOf, hu]
              exact ⟨by rw [this]; exact hu, this⟩
            have := eqFields_ok (P := P) (w := w) 9998 g1 g2 g3 g4 fs.toList b _ hf ho
            refine ⟨_, fin b (eqGuard_agg hg) ?_ (by simp) (by simp) (by simp) (by simp), .bool _⟩
            rw [show (10000 : Nat) = 9999 + 1 from rfl, run_equalIn_struct w 9999 t _ _ hfo.1 hp, hfo.2]
            exact this
      · cases e
    · cases e
  · split at e
    · rename_i b h3 h4
      injection e with e; injection e with e _; subst e
      have hp := isOne_plain hx h3
      have hq := eqCell_ok (P := P) (w := w) 9999 hx hy h3 h4
      refine ⟨_, fin b (eqGuard_plain hp.1) hq ?_ ?_ ?_ ?_, .bool _⟩
      · intro k n k' n' e1 e2; subst e1; subst e2
        cases hx
        · rw [isOne_any] at h3; cases h3
        · cases y <;> simp only [eqCell] at h4 <;> (try (cases h4; done))
          exact h1 _ _ _ _ rfl rfl
      · intro a b e1 e2; subst e1; subst e2
        cases hx
        · rw [isOne_any] at h3; cases h3
        · cases y <;> simp only [eqCell] at h4 <;> (try (cases h4; done))
          exact h2 _ _ rfl rfl
      · intro k a k' b e1 e2; subst e1; cases hx; rw [isOne_any] at h3; cases h3
      · intro k a b k' c d e1 e2; subst e1; cases hx; rw [isOne_any] at h3; cases h3
    · cases e
end
end Go.Proofs.YtplejhefhnmabaaGreatDoor.Am

/- Abstract machine, part E3: slices, structs; all operations that leave memory alone. -/
namespace Go.Proofs.YtplejhefhnmabaaGreatDoor.Am
set_option linter.unusedSimpArgs false
set_option linter.unusedVariables false
section
variable {P : Program} {C : Cx} {ρ : Rho} {ρ' : Operand → Value} {w : World}
theorem intO_ok (hρ : ∀ x, VR C (ρ x) (ρ' x)) {x : Option Operand} {n : Option Int} (e : intO ρ x = some n) : (x = none ∧ n = none) ∨ ∃ y k m, x = some y ∧ n = some m ∧ ρ' y = .int k m := by
  unfold intO at e
  split at e
  · injection e with e; exact .inl ⟨rfl, e.symm⟩
  · rename_i y
    split at e
    · rename_i k m hy
      injection e with e
      have := hρ y; rw [hy] at this
      generalize ρ' y = z at this
      cases this
      refine .inr ⟨y, k, m, rfl, e.symm, ?_⟩
      have := hρ y; rw [hy] at this
      generalize hz : ρ' y = z at this
      cases this; rfl
    · cases e
theorem bound_ok {k : IntKind} {n : Int} {m : Nat} {c : BoundsCode} (h0 : 0 ≤ n) (h : n ≤ m) : (Instr.sliceBound (.int k n) m c).run P w = .ok n.toNat w := by
  simp [Instr.sliceBound, asIntOf, h0, h]
/-- The bounds of a slice expression. -/
theorem bounds_ok (hρ : ∀ x, VR C (ρ x) (ρ' x)) (isS : Bool) (len cap : Nat) {lo hi mx : Option Operand} {l h m : Option Int} (el : intO ρ lo = some l) (eh : intO ρ hi = some h) (em : intO ρ mx = some m)
    (h0 : 0 ≤ l.getD 0) (h1 : l.getD 0 ≤ h.getD len) (h2 : h.getD len ≤ m.getD cap) (h3 : m.getD cap ≤ cap) (hlc : mx.isSome = true → hi.isSome = true) :
    (Instr.sliceBounds isS len cap (lo.map ρ') (hi.map ρ') (mx.map ρ')).run P w = .ok ((l.getD 0).toNat, (h.getD len).toNat, (m.getD cap).toNat) w := by
  have hm : ∀ c, ((match (mx.map ρ' : Option Value) with
    | some v => Instr.sliceBound v cap c
    | none => pure cap) : Sem Nat).run P w = .ok (m.getD cap).toNat w := by
    intro c
    rcases intO_ok hρ em with ⟨rfl, rfl⟩ | ⟨y, k, n, rfl, rfl, hy⟩
    · simp
    · simp only [Option.map_some, hy]; exact bound_ok (by simp only [Option.getD_some] at *; omega) (by simpa using h3)
  rcases intO_ok hρ em with ⟨rfl, rfl⟩ | ⟨y, k, n, rfl, rfl, hy⟩
  · rcases intO_ok hρ eh with ⟨rfl, rfl⟩ | ⟨y, k, n, rfl, rfl, hy⟩
    · rcases intO_ok hρ el with ⟨rfl, rfl⟩ | ⟨y, k, n, rfl, rfl, hy⟩
      · simp [Instr.sliceBounds]
      · simp only [Option.getD_some, Option.getD_none] at *
        simp only [Instr.sliceBounds, Option.map_none, Option.map_some, hy, Sem.run_bind, Sem.run_pure, Result.andThen_ok, bound_ok h0 h1]; simp
    · rcases intO_ok hρ el with ⟨rfl, rfl⟩ | ⟨y', k', n', rfl, rfl, hy'⟩
      · simp only [Option.getD_some, Option.getD_none] at *
        have : ∀ c, (Instr.sliceBound (.int k n) cap c).run P w = .ok n.toNat w := fun c => bound_ok h1 h2
        simp only [Instr.sliceBounds, Option.map_none, Option.map_some, hy, Sem.run_bind, Sem.run_pure, Result.andThen_ok, this]; simp
      · simp only [Option.getD_some, Option.getD_none] at *
        have t1 : ∀ c, (Instr.sliceBound (.int k n) cap c).run P w = .ok n.toNat w := fun c => bound_ok (by omega) h2
        have t2 : ∀ c, (Instr.sliceBound (.int k' n') n.toNat c).run P w = .ok n'.toNat w := fun c => bound_ok h0 (by omega)
        simp only [Instr.sliceBounds, Option.map_none, Option.map_some, hy, hy', Sem.run_bind, Sem.run_pure, Result.andThen_ok, t1, t2]; simp
  · rcases intO_ok hρ eh with ⟨rfl, rfl⟩ | ⟨y2, k2, n2, rfl, rfl, hy2⟩
    · exact absurd (hlc rfl) (by simp)
    · have t0 : ∀ c, (Instr.sliceBound (.int k n) cap c).run P w = .ok n.toNat w := fun c => bound_ok (by simp only [Option.getD_some] at *; omega) (by simpa using h3)
      rcases intO_ok hρ el with ⟨rfl, rfl⟩ | ⟨y', k', n', rfl, rfl, hy'⟩
      · simp only [Option.getD_some, Option.getD_none] at *
        have t1 : ∀ c, (Instr.sliceBound (.int k2 n2) n.toNat c).run P w = .ok n2.toNat w := fun c => bound_ok h1 (by omega)
        simp only [Instr.sliceBounds, Option.map_none, Option.map_some, hy, hy2, Sem.run_bind, Sem.run_pure, Result.andThen_ok, t0, t1]; rfl
      · simp only [Option.getD_some, Option.getD_none] at *
        have t1 : ∀ c, (Instr.sliceBound (.int k2 n2) n.toNat c).run P w = .ok n2.toNat w := fun c => bound_ok (by omega) (by omega)
        have t2 : ∀ c, (Instr.sliceBound (.int k' n') n2.toNat c).run P w = .ok n'.toNat w := fun c => bound_ok h0 (by omega)
        simp only [Instr.sliceBounds, Option.map_some, hy, hy', hy2, Sem.run_bind, Sem.run_pure, Result.andThen_ok, t0, t1, t2]
theorem slc_VR {b : Nm} {o l h m cap' sz : Nat} {cap cap2 : Cp} {a : Addr} (g1 : cap' ≠ 0 → ∃ c, C b = some c ∧ a = ⟨c.blk, c.base + o, none⟩ ∧ ∀ e, cap = .own e → o + cap' * e ≤ c.size)
    (hlh : l ≤ h) (hhm : h ≤ m) (hmc : m ≤ cap') (hx : ∀ k, cap2 = .ex k → m - l = k) (ho : ∀ e, cap2 = .own e → cap = .own e ∧ e = sz) :
    VR C (.slc b (o + l * sz) (h - l) cap2) (.slice (some (if m = l then a else a.add (l * sz))) (h - l) (m - l)) := by
  refine .slc _ _ _ _ _ _ ?_ (by omega) hx
  intro hne
  obtain ⟨c, hc, ha, hs⟩ := g1 (by omega)
  refine ⟨c, hc, ?_, ?_⟩
  · rw [if_neg (by omega), ha, add_none, Nat.add_assoc]
  · intro e he
    obtain ⟨h1, h2⟩ := ho e he
    have := hs e h1
    subst h2
    have h3 : l * e + (m - l) * e = m * e := by rw [← Nat.add_mul]; congr 1; omega
    have h4 : m * e ≤ cap' * e := Nat.mul_le_mul_right _ hmc
    omega
theorem sliceAt_run (hρ : ∀ x, VR C (ρ x) (ρ' x)) {t el' : TypeId} {ie : TypeInfo} (hu : P.underlying t = some (.slice el')) (hinfo : P.info? el' = some ie) (a : Option Addr) (len cap' : Nat) {lo hi mx : Option Operand} {l h m : Option Int}
    (el : intO ρ lo = some l) (eh : intO ρ hi = some h) (em : intO ρ mx = some m) (hlc : mx.isSome = true → hi.isSome = true) (hh : 0 ≤ l.getD 0) (h1 : l.getD 0 ≤ h.getD len) (h2 : h.getD len ≤ m.getD cap') (h3 : m.getD cap' ≤ cap') :
    (Instr.sliceAt t (.slice a len cap') (lo.map ρ') (hi.map ρ') (mx.map ρ')).run P w =
      .ok (.slice (if (m.getD cap').toNat = (l.getD 0).toNat then a else a.map (·.add ((l.getD 0).toNat * ie.size))) ((h.getD len).toNat - (l.getD 0).toNat) ((m.getD cap').toNat - (l.getD 0).toNat)) w := by
  have := bounds_ok (P := P) (w := w) hρ true len cap' el eh em hh h1 h2 h3 hlc
  simp only [Instr.sliceAt, Sem.run_bind, run_underlying hu, Result.andThen_ok, Instr.slice, this, sizeOf_of hinfo, Sem.run_pure]
theorem sliceA_ok (hρ : ∀ x, VR C (ρ x) (ρ' x)) {t : TypeId} {x v : AV} {x' : Value} {lo hi mx : Option Operand} {ob : List Ob} (hlc : mx.isSome = true → hi.isSome = true) (hx : VR C x x') (e : sliceA P ρ t x lo hi mx = some (v, ob)) (hob : Obs ob) :
    ∃ v', (Instr.sliceAt t x' (lo.map ρ') (hi.map ρ') (mx.map ρ')).run P w = .ok v' w ∧ VR C v v' := by
  unfold sliceA at e
  split at e
  · rename_i l h m el eh em
    split at e
    · -- a text
      rename_i hu
      split at e
      · rename_i s
        injection e with e; injection e with e e2; subst e; subst e2
        simp only [Obs, nonneg_holds, leI_holds] at hob
        obtain ⟨o1, o2, o3, _⟩ := hob
        cases hx
        have hmx : mx = none := by
          rcases intO_ok hρ em with ⟨h, _⟩ | ⟨_, _, _, _, h, _⟩
          · exact h
          · cases h
        subst hmx
        have := bounds_ok (P := P) (w := w) hρ false s.size s.size el eh em o1 o2 (by simpa using o3) (by simp) (by simp)
        simp only [Option.map_none] at this
        refine ⟨.string (s.extract (l.getD 0).toNat (h.getD s.size).toNat), ?_, cutB_eq _ _ _ ▸ .str _⟩
        simp only [Instr.sliceAt, Sem.run_bind, run_underlying hu, Result.andThen_ok, Instr.slice]
        simp [this]
      · cases e
    · rename_i el' hu
      split at e
      · -- nil
        rename_i i hinfo
        injection e with e; injection e with e e2; subst e; subst e2
        simp only [Obs, nonneg_holds, leI_holds] at hob
        obtain ⟨p1, p2, p3, p4, p5, p6, _⟩ := hob
        have o1 : l.getD 0 = 0 := by omega
        have o2 : h.getD 0 = 0 := by omega
        have o3 : m.getD 0 = 0 := by omega
        cases hx
        have := bounds_ok (P := P) (w := w) hρ true 0 0 el eh em (by omega) (by simp [o1, o2]) (by simp [o2, o3]) (by simp [o3]) hlc
        refine ⟨.slice none 0 0, ?_, .nils⟩
        simp only [Instr.sliceAt, Sem.run_bind, run_underlying hu, Result.andThen_ok, Instr.slice, this, sizeOf_of hinfo]
        simp [o1, o2, o3]
      · -- a list, owned
        rename_i b o len sz ie hinfo
        split at e
        · rename_i hsz
          injection e with e; injection e with e e2; subst e; subst e2
          have hsz := Nat.eq_of_beq_eq_true hsz
          simp only [Obs, nonneg_holds, leI_holds] at hob
          obtain ⟨o1, o2, o3, _⟩ := hob
          cases hx with
          | lstn =>
            refine ⟨_, sliceAt_run hρ hu hinfo none 0 0 el eh em hlc o1 o2 (by simpa using o3) (by simp), ?_⟩
            have : (h.getD (0 : Nat)).toNat - (l.getD 0).toNat = 0 := by omega
            rw [this]
            simp only [Option.getD_none, Option.map_none, ite_self]
            have e0 : ((0 : Nat) : Int).toNat - (l.getD 0).toNat = 0 := by omega
            rw [e0]
            exact .lstn _ _ _
          | lsts _ _ _ _ a cap' hx =>
            cases hx with
            | slc _ _ _ _ _ _ g1 g2 g3 =>
              refine ⟨_, sliceAt_run hρ hu hinfo (some a) len cap' el eh em hlc o1 o2 (by simp only [Option.getD_none]; omega) (by simp), ?_⟩
              have := slc_VR (cap2 := .own sz) (sz := ie.size) g1 (show (l.getD 0).toNat ≤ (h.getD len).toNat by omega) (show (h.getD len).toNat ≤ cap' by omega) (Nat.le_refl _) (by intro k hk; cases hk) (by intro e he; injection he with he; subst he; exact ⟨rfl, hsz⟩)
              have e1 : (((none : Option Int).getD cap').toNat) = cap' := by simp
              rw [e1]
              have e2 : (if cap' = (l.getD 0).toNat then some a else Option.map (·.add ((l.getD 0).toNat * ie.size)) (some a)) = some (if cap' = (l.getD 0).toNat then a else a.add ((l.getD 0).toNat * ie.size)) := by split <;> rfl
              rw [e2]
              exact .lsts _ _ _ _ _ _ this
        · cases e
      · -- a list of an exact capacity
        rename_i b o len c ie hinfo
        split at e
        · injection e with e; injection e with e e2; subst e; subst e2
          simp only [Obs, nonneg_holds, leI_holds] at hob
          obtain ⟨o1, o2, o3, _⟩ := hob
          cases hx with
          | lstn =>
            refine ⟨_, sliceAt_run hρ hu hinfo none 0 0 el eh em hlc o1 o2 (by simpa using o3) (by simp), ?_⟩
            have : (h.getD (0 : Nat)).toNat - (l.getD 0).toNat = 0 := by omega
            rw [this]
            simp only [Option.getD_none, Option.map_none, ite_self]
            have e0 : ((0 : Nat) : Int).toNat - (l.getD 0).toNat = 0 := by omega
            rw [e0]
            exact .lstn _ _ _
          | lsts _ _ _ _ a cap' hx =>
            cases hx with
            | slc _ _ _ _ _ _ g1 g2 g3 =>
              refine ⟨_, sliceAt_run hρ hu hinfo (some a) len cap' el eh em hlc o1 o2 (by simp only [Option.getD_none]; omega) (by simp), ?_⟩
              have := slc_VR (cap2 := .ex (c - (l.getD 0).toNat)) (sz := ie.size) g1 (show (l.getD 0).toNat ≤ (h.getD len).toNat by omega) (show (h.getD len).toNat ≤ cap' by omega) (Nat.le_refl _) (by intro k hk; injection hk with hk; have := g3 c rfl; omega) (by intro e he; cases he)
              have e1 : (((none : Option Int).getD cap').toNat) = cap' := by simp
              rw [e1]
              have e2 : (if cap' = (l.getD 0).toNat then some a else Option.map (·.add ((l.getD 0).toNat * ie.size)) (some a)) = some (if cap' = (l.getD 0).toNat then a else a.add ((l.getD 0).toNat * ie.size)) := by split <;> rfl
              rw [e2]
              exact .lsts _ _ _ _ _ _ this
        · cases e
      · rename_i b o len cap ie hinfo
        cases hx with
        | slc _ _ _ _ a cap' g1 g2 g3 =>
          have go : ∀ (hh : 0 ≤ l.getD 0) (h1 : l.getD 0 ≤ h.getD len) (h2 : h.getD len ≤ m.getD cap') (h3 : m.getD cap' ≤ cap'), (Instr.sliceAt t (.slice (some a) len cap') (lo.map ρ') (hi.map ρ') (mx.map ρ')).run P w =
              .ok (.slice (some (if (m.getD cap').toNat = (l.getD 0).toNat then a else a.add ((l.getD 0).toNat * ie.size))) ((h.getD len).toNat - (l.getD 0).toNat) ((m.getD cap').toNat - (l.getD 0).toNat)) w := by
            intro hh h1 h2 h3
            rw [sliceAt_run hρ hu hinfo (some a) len cap' el eh em hlc hh h1 h2 h3]
            split <;> simp
          split at e
          · split at e
            · rename_i c
              injection e with e; injection e with e e2; subst e; subst e2
              simp only [Obs, nonneg_holds, leI_holds] at hob
              obtain ⟨o1, o2, o3, _⟩ := hob
              have hcc := g3 c rfl
              refine ⟨_, go o1 o2 (by simp only [Option.getD_none]; omega) (by simp), slc_VR g1 (by omega) (by simp only [Option.getD_none]; omega) (by simp) ?_ (by intro e he; cases he)⟩
              intro k hk; injection hk with hk; simp only [Option.getD_none]; omega
            · split at e
              · rename_i sz _ hsz
                injection e with e; injection e with e e2; subst e; subst e2
                have hsz := Nat.eq_of_beq_eq_true hsz
                simp only [Obs, nonneg_holds, leI_holds] at hob
                obtain ⟨o1, o2, o3, _⟩ := hob
                refine ⟨_, go o1 o2 (by simp only [Option.getD_none]; omega) (by simp), slc_VR g1 (by omega) (by simp only [Option.getD_none]; omega) (by simp) (by intro k hk; cases hk) ?_⟩
                intro e he; injection he with he; subst he; exact ⟨rfl, hsz⟩
              · cases e
          · rename_i m
            injection e with e; injection e with e e2; subst e; subst e2
            simp only [Obs, nonneg_holds, leI_holds] at hob
            obtain ⟨o1, o2, o3, o4, _⟩ := hob
            refine ⟨_, go o1 o2 (by simpa using o3) (by simp only [Option.getD_some]; omega), slc_VR g1 (by omega) (by simp only [Option.getD_some]; omega) (by simp only [Option.getD_some]; omega) ?_ (by intro e he; cases he)⟩
            intro k hk; injection hk with hk
      · cases e
    · -- an array
      rename_i n el' hu
      split at e
      · rename_i b o ie hinfo
        injection e with e; injection e with e e2; subst e; subst e2
        simp only [Obs, nonneg_holds, leI_holds] at hob
        obtain ⟨o1, o2, o3, _⟩ := hob
        cases hx with
        | ptr _ _ c hc =>
          have hmx : mx = none := by
            rcases intO_ok hρ em with ⟨h, _⟩ | ⟨_, _, _, _, h, _⟩
            · exact h
            · cases h
          subst hmx
          have := bounds_ok (P := P) (w := w) hρ false n n el eh em o1 o2 (by simpa using o3) (by simp) (by simp)
          simp only [Option.map_none] at this
          refine ⟨.slice (some (if n = (l.getD 0).toNat then ⟨c.blk, c.base + o, none⟩ else (⟨c.blk, c.base + o, none⟩ : Addr).add ((l.getD 0).toNat * ie.size))) ((h.getD n).toNat - (l.getD 0).toNat) (n - (l.getD 0).toNat), ?_, ?_⟩
          · simp only [Instr.sliceAt, Sem.run_bind, run_underlying hu, Result.andThen_ok, Instr.sureAddr, Sem.run_pure, Option.map_none, this, sizeOf_of hinfo]
            simp
          · refine .slc _ _ _ _ _ _ ?_ (by omega) (by intro k hk; injection hk)
            intro hne
            refine ⟨c, hc, ?_, by intro e he; cases he⟩
            rw [if_neg (by omega), add_none, Nat.add_assoc]
      · cases e
    · cases e
  · cases e
theorem fill_ok {place : Nat → Option (Nat × Nat)} (hρ : ∀ x, VR C (ρ x) (ρ' x)) : ∀ (parts : List (Nat × Operand)) (cells : List AV) (cs : Array Value) (out : List AV) (ob : List Ob), cells.length = cs.size → (∀ i, i < cells.length → VR C (cells.getD i .any) (cs.getD i undef)) →
    fillA place cells (parts.map fun p => (p.1, ρ p.2)) = some (out, ob) → Obs ob →
    ∃ cs', Instr.fill place cs (parts.map fun p => (p.1, ρ' p.2)) = some cs' ∧ out.length = cs'.size ∧ ∀ i, i < out.length → VR C (out.getD i .any) (cs'.getD i undef)
  | [], cells, cs, out, ob, hl, hv, e, ho => by
    injection e with e; injection e with e _; subst e
    exact ⟨cs, rfl, hl, hv⟩
  | (i, x) :: rest, cells, cs, out, ob, hl, hv, e, ho => by
    simp only [List.map_cons, fillA] at e
    split at e
    · rename_i off size l hp hc
      split at e
      · rename_i c ob1 hf
        injection e with e; injection e with e e2; subst e; subst e2
        simp only [Obs, chkEq_holds, chkLe_holds] at ho
        obtain ⟨o1, o2, o3⟩ := ho
        obtain ⟨g1, g2⟩ := cellsO_VR (hρ x) hc
        have fold : ((ρ' x).cells.zipIdx.foldl (fun cs (p : Value × Nat) => cs.setIfInBounds (off + p.2) p.1) cs) = setRow cs off (ρ' x).cells.toList := by
          rw [← Array.foldl_toList, Array.toList_zipIdx]
          generalize (ρ' x).cells.toList = r
          have : ∀ (r : List Value) (k : Nat) (cs : Array Value), (r.zipIdx k).foldl (fun cs (p : Value × Nat) => cs.setIfInBounds (off + p.2) p.1) cs = setRow cs (off + k) r := by
            intro r
            induction r with
            | nil => intro k cs; rfl
            | cons v r ih => intro k cs; simp only [List.zipIdx_cons, List.foldl_cons, setRow]; rw [ih]; rfl
          simpa using this r 0 cs
        obtain ⟨cs', h1, h2, h3⟩ := fill_ok hρ rest (putAt cells off l) (setRow cs off (ρ' x).cells.toList) c ob1 (by rw [length_putAt, size_setRow]; exact hl) (by
          intro i hi
          rw [length_putAt] at hi
          rw [getD_putAt _ _ _ _ o2, getD_setRow _ _ _ (by simp; omega)]
          have hlen : (ρ' x).cells.toList.length = l.length := by simpa using g1.symm
          by_cases hin : off ≤ i ∧ i < off + l.length
          · rw [if_pos hin, if_pos (by omega)]
            have := g2 (i - off) (by omega)
            simpa [Array.getD_eq_getD_getElem?, List.getD_eq_getElem?_getD] using this
          · rw [if_neg hin, if_neg (by omega)]; exact hv i hi) hf o3
        refine ⟨cs', ?_, h2, h3⟩
        simp only [List.map_cons, Instr.fill, hp]
        rw [if_neg (by simp; omega)]
        rw [show (((ρ' x).cells.zipIdx.foldl (fun cs (x : Value × Nat) => match x with | (c, j) => cs.setIfInBounds (off + j) c) cs)) = setRow cs off (ρ' x).cells.toList from fold]
        exact h1
      · cases e
    · cases e
end
end Go.Proofs.YtplejhefhnmabaaGreatDoor.Am

/- Abstract machine, part E4: all operations that leave memory alone. -/
namespace Go.Proofs.YtplejhefhnmabaaGreatDoor.Am
set_option linter.unusedSimpArgs false
set_option linter.unusedVariables false
section
variable {P : Program} {C : Cx} {ρ : Rho} {ρ' : Operand → Value} {w : World}
theorem zero_of {t : TypeId} {i : TypeInfo} {z : Value} (h : P.info? t = some i) (hz : i.zero = some z) (w : World) : (zeroValue t).run P w = .ok z w := by simp [zeroValue, info_of h, hz]
theorem cells_ofVs (C : Cx) (z : List Value) : (ofVs z).length = (⟨z⟩ : Array Value).size ∧ ∀ i, i < (ofVs z).length → VR C ((ofVs z).getD i .any) ((⟨z⟩ : Array Value).getD i undef) :=
  ⟨(ofVs_VR C z).1, fun i _ => by have := (ofVs_VR C z).2 i; simpa [Array.getD_eq_getD_getElem?] using this⟩
theorem mapM_places (fs : List Field) (w : World) (hs : ∀ f : Field, f ∈ fs → ∃ i, P.info? f.type = some i) :
    ∃ pl : List (Nat × Nat), (fs.mapM (fun (f : Field) => do pure (f.offset, ← sizeOf f.type)) : Sem (List (Nat × Nat))).run P w = .ok pl w ∧ pl.length = fs.length ∧ ∀ (j : Nat) (f : Field) (i : TypeInfo), fs[j]? = some f → P.info? f.type = some i → pl[j]? = some (f.offset, i.size) := by
  induction fs with
  | nil => exact ⟨[], by simp, rfl, fun j f i h => by simp at h⟩
  | cons f fs ih =>
    obtain ⟨i, hi⟩ := hs f (by simp)
    obtain ⟨pl, h1, h2, h3⟩ := ih (fun f hf => hs f (by simp [hf]))
    refine ⟨(f.offset, i.size) :: pl, ?_, by simp [h2], ?_⟩
    · simp only [List.mapM_cons, Sem.run_bind, sizeOf_of hi, Result.andThen_ok, Sem.run_pure, h1]
    · intro j g k hj hk
      cases j with
      | zero => simp at hj; subst hj; rw [hi] at hk; injection hk with hk; subst hk; rfl
      | succ j => simpa using h3 j g k (by simpa using hj) hk
theorem infosB_of {fs : List Field} (h : infosB P fs = true) : ∀ f : Field, f ∈ fs → ∃ i, P.info? f.type = some i := by
  induction fs with
  | nil => intro f hf; cases hf
  | cons g fs ih =>
    unfold infosB at h
    split at h
    · rename_i i hi
      intro f hf
      rcases List.mem_cons.1 hf with rfl | hf
      · exact ⟨i, hi⟩
      · exact ih h f hf
    · cases h
theorem build_ok (hρ : ∀ x, VR C (ρ x) (ρ' x)) {t : TypeId} {parts : Array (Nat × Operand)} {v : AV} {ob : List Ob} (e : buildA P ρ t parts = some (v, ob)) (hob : Obs ob) :
    ∃ v', (Instr.build t (parts.map fun (i, x) => (i, ρ' x))).run P w = .ok v' w ∧ VR C v v' := by
  unfold buildA at e
  split at e
  · rename_i i fs hinfo hu
    split at e
    · rename_i z hz
      split at e
      · rename_i hb
        split at e
        · rename_i c ob1 hf
          injection e with e; injection e with e e2; subst e; subst e2
          obtain ⟨cs', h1, h2, h3⟩ := fill_ok hρ parts.toList (ofVs z) ⟨z⟩ c ob1 (cells_ofVs C z).1 (cells_ofVs C z).2 hf hob
          obtain ⟨pl, p1, p2, p3⟩ := mapM_places (P := P) fs.toList w (infosB_of hb)
          refine ⟨.agg cs', ?_, .agg _ _ h2 h3⟩
          have hpl : (fs.mapM (fun (f : Field) => do pure (f.offset, ← sizeOf f.type)) : Sem (Array (Nat × Nat))).run P w = .ok pl.toArray w := by
            rw [Array.mapM_eq_mapM_toList]
            simp only [← Functor.map_map, map_eq_pure_bind, Sem.run_bind, p1, Result.andThen_ok, Sem.run_pure]
          have hfill : Instr.fill (pl.toArray[·]?) ⟨z⟩ ((parts.map fun (i, x) => (i, ρ' x)).toList) = some cs' := by
            rw [← h1]
            have e1 : (parts.map fun (i, x) => (i, ρ' x)).toList = parts.toList.map fun p => (p.1, ρ' p.2) := by simp
            rw [e1]
            congr 1
            funext j
            cases hj : fs[j]? with
            | none =>
              have : ¬ j < fs.size := by intro h; simp [Array.getElem?_eq_getElem h] at hj
              have hsz : fs.toList.length = fs.size := by simp
              simp; omega
            | some f =>
              have hm : f ∈ fs.toList := by rw [Array.mem_toList_iff]; exact Array.mem_of_getElem? hj
              obtain ⟨fi, hfi⟩ := infosB_of hb f hm
              simp only [hfi]
              have := p3 j f fi (by simpa using hj) hfi
              simpa using this
          simp only [Instr.build, Sem.run_bind, zero_of hinfo hz, Result.andThen_ok, run_underlying hu, hpl, Value.cells]
          rw [hfill]
          simp
        · cases e
      · cases e
    · cases e
  · rename_i i el hinfo hu
    split at e
    · rename_i z ie hz hie
      split at e
      · rename_i c ob1 hf
        injection e with e; injection e with e e2; subst e; subst e2
        obtain ⟨cs', h1, h2, h3⟩ := fill_ok hρ parts.toList (ofVs z) ⟨z⟩ c ob1 (cells_ofVs C z).1 (cells_ofVs C z).2 hf hob
        refine ⟨.agg cs', ?_, .agg _ _ h2 h3⟩
        have e1 : (parts.map fun (i, x) => (i, ρ' x)).toList = parts.toList.map fun p => (p.1, ρ' p.2) := by simp
        simp only [Instr.build, Sem.run_bind, zero_of hinfo hz, Result.andThen_ok, run_underlying hu, sizeOf_of hie, Value.cells]
        rw [e1, h1]
        simp
      · cases e
    · cases e
  · cases e
theorem makeFunc_ok (hρ : ∀ x, VR C (ρ x) (ρ' x)) (f : FuncId) (a b : Array Operand) : VR C (.fn f (a.toList.map ρ) (b.toList.map ρ)) (.func (.func f) (a.map ρ') (b.map ρ')) := by
  have : ∀ (a : Array Operand) i, i < (a.toList.map ρ).length → VR C ((a.toList.map ρ).getD i .any) ((a.map ρ').getD i undef) := by
    intro a i hi
    have h : i < a.size := by simpa using hi
    simp only [List.getD_eq_getElem?_getD, List.getElem?_map, Array.getElem?_toList, Array.getD_eq_getD_getElem?, Array.getElem?_map, Array.getElem?_eq_getElem h, Option.map_some, Option.getD_some]
    exact hρ _
  exact .fn _ _ _ _ _ (by simp) (by simp) (this a) (this b)
theorem binA_ok {op : BinOp} {t : TypeId} {xo yo : Operand} {x y v : AV} {x' y' : Value} {ob : List Ob} (hx : VR C x x') (hy : VR C y y') (e : binA P op t xo yo x y = some (v, ob)) (ho : Obs ob) :
    ∃ v', (do eqGuard op t xo yo x' y'; binOp op t x' y').run P w = .ok v' w ∧ VR C v v' := by
  unfold binA at e
  split at e
  · rename_i k a k' b
    cases hx; cases hy
    obtain ⟨v', h1, h2⟩ := binI_ok (P := P) (C := C) (w := w) (t := t) e ho
    have hg : (eqGuard op t xo yo (.int k a) (.int k' b)).run P w = .ok () w := eqGuard_plain rfl
    exact ⟨v', by simp only [Sem.run_bind, hg, Result.andThen_ok, h1], h2⟩
  · rename_i a b
    cases hx; cases hy
    obtain ⟨v', h1, h2⟩ := binS_ok (P := P) (C := C) (w := w) (t := t) e ho
    have hg : (eqGuard op t xo yo (.string a) (.string b)).run P w = .ok () w := eqGuard_plain rfl
    exact ⟨v', by simp only [Sem.run_bind, hg, Result.andThen_ok, h1], h2⟩
  · cases hx; cases hy
    split at e
    · rename_i hi hc
      injection e with e; injection e with e _; subst e
      obtain ⟨m, hm⟩ := isIfc_of hi
      have hg : (eqGuard .eql t xo yo .nilIface .nilIface).run P w = .ok () w := eqGuard_nils hc
      refine ⟨.bool true, ?_, .tru⟩
      simp only [Sem.run_bind, hg, Result.andThen_ok]
      exact bin_eq (.inl rfl) (by simp) (by simp) (by simp) (by simp) (run_eq_nilnil 9999 _ _ hm)
    · rename_i hi hc
      injection e with e; injection e with e _; subst e
      obtain ⟨m, hm⟩ := isIfc_of hi
      have hg : (eqGuard .neq t xo yo .nilIface .nilIface).run P w = .ok () w := eqGuard_nils hc
      refine ⟨.bool false, ?_, .fls⟩
      simp only [Sem.run_bind, hg, Result.andThen_ok]
      exact bin_eq (.inr rfl) (by simp) (by simp) (by simp) (by simp) (run_eq_nilnil 9999 _ _ hm)
    · cases e
  · rename_i h1 h2 h3
    split at e
    · exact eqA_ok (.inl rfl) hx hy e ho (fun k n k' n' a b => h1 _ _ _ _ a b) (fun a b c d => h2 _ _ c d)
    · exact eqA_ok (.inr rfl) hx hy e ho (fun k n k' n' a b => h1 _ _ _ _ a b) (fun a b c d => h2 _ _ c d)
    · cases e
theorem aopV_ok {o : Oper} {v : AV} {ob : List Ob} (e : aopV P ρ o = some (v, ob)) (ho : Obs ob) (hρ : ∀ x, VR C (ρ x) (ρ' x)) : ∃ v', (execOp ρ' o).run P w = .ok (.value v') w ∧ VR C v v' := by
  have lift : ∀ {s : Sem Value} {v' : Value}, s.run P w = .ok v' w → (do pure (.value (← s)) : Sem Next).run P w = .ok (.value v') w := fun h => by simp [h]
  obtain ⟨dst, op, type, pos, after, guard⟩ := o
  cases op <;> simp only [aopV] at e <;> (try (cases e; done)) <;> simp only [execOp]
  case move x => injection e with e; injection e with e _; subst e; exact ⟨_, rfl, hρ x⟩
  case assign x => injection e with e; injection e with e _; subst e; exact ⟨_, rfl, hρ x⟩
  case pick c a b =>
    obtain ⟨t, h1, h2⟩ := pick_ok (c := .any) (a := .any) (b := .any) (hρ c) (hρ a) (hρ b) e
    refine ⟨_, ?_, h2⟩
    simp [h1, Go.asBool]
  case build t parts => obtain ⟨v', h1, h2⟩ := build_ok hρ e ho; exact ⟨v', lift h1, h2⟩
  case nilCheck x =>
    obtain ⟨h1, h2⟩ := nilCheck_ok (hρ x) e
    refine ⟨_, ?_, h1⟩
    rcases h2 with ⟨a, h2⟩ | ⟨f, a, b, h2⟩ <;> rw [h2] <;> rfl
  case binOp op t x y yt => obtain ⟨v', h1, h2⟩ := binA_ok (hρ x) (hρ y) e ho; exact ⟨v', lift h1, h2⟩
  case unOp op t x => obtain ⟨v', h1, h2⟩ := un_ok (w := w) (hρ x) e; exact ⟨v', lift h1, h2⟩
  case convert s d x => obtain ⟨v', h1, h2⟩ := conv_ok (w := w) (hρ x) e; exact ⟨v', lift h1, h2⟩
  case sliceToArrayPointer t x => obtain ⟨v', h1, h2⟩ := arrPtr_ok (w := w) (hρ x) e ho; exact ⟨v', lift h1, h2⟩
  case makeInterface t x => obtain ⟨v', h1, h2⟩ := mkIfc_ok (w := w) (hρ x) e; exact ⟨v', lift h1, h2⟩
  case makeFunc fn a b =>
    cases fn <;> simp only [aopV] at e <;> (try (cases e; done))
    injection e with e; injection e with e _; subst e
    exact ⟨_, rfl, makeFunc_ok hρ _ _ _⟩
  case slice t x lo hi mx =>
    have : sliceA P ρ t (ρ x) lo hi mx = some (v, ob) ∧ (mx.isSome = true → hi.isSome = true) := by
      cases mx <;> cases hi <;> first | (cases e; done) | exact ⟨e, by simp⟩
    obtain ⟨v', h1, h2⟩ := sliceA_ok (w := w) hρ this.2 (hρ x) this.1 ho
    exact ⟨v', lift h1, h2⟩
  case fieldAddr s x f => obtain ⟨v', h1, h2⟩ := fieldAddr_ok (w := w) (hρ x) e; exact ⟨v', lift h1, h2⟩
  case field t x f => obtain ⟨v', h1, h2⟩ := field_ok (w := w) (hρ x) e ho; exact ⟨v', lift h1, h2⟩
  case indexAddr t x i => obtain ⟨v', h1, h2⟩ := indexAddr_ok (w := w) (hρ x) (hρ i) e ho; exact ⟨v', lift h1, h2⟩
  case index t x i => obtain ⟨v', h1, h2⟩ := index_ok (w := w) (hρ x) (hρ i) e ho; exact ⟨v', lift h1, h2⟩
  case extract x i => obtain ⟨v', h1, h2⟩ := extract_ok (w := w) (hρ x) e ho; exact ⟨v', lift h1, h2⟩
  case call c =>
    obtain ⟨callee, args, argTypes⟩ := c
    split at e
    · rename_i x t hc ha ht
      simp only at hc ha ht
      subst hc
      have ha' : args = #[x] := by rw [← Array.toArray_toList (xs := args), ha]
      have ht' : argTypes = #[t] := by rw [← Array.toArray_toList (xs := argTypes), ht]
      subst ha'; subst ht'
      obtain ⟨v', h1, h2⟩ := len_ok (w := w) (ty := type) (hρ x) e
      refine ⟨v', ?_, h2⟩
      simp [resolve, invoke, builtin, h1]
    · rename_i x y hc ha
      simp only at hc ha
      subst hc
      have ha' : args = #[x, y] := by rw [← Array.toArray_toList (xs := args), ha]
      subst ha'
      cases hm : minA (ρ x) (ρ y) with
      | none => rw [hm] at e; cases e
      | some r =>
        rw [hm] at e; injection e with e; injection e with e _; subst e
        have hx := hρ x; have hy := hρ y
        generalize hxa : ρ x = ax at hx hm
        generalize hya : ρ y = ay at hy hm
        generalize hxb : ρ' x = bx at hx
        generalize hyb : ρ' y = by' at hy
        unfold minA at hm
        split at hm
        · injection hm with hm; subst hm; cases hx; cases hy
          exact ⟨_, by simp [resolve, invoke, builtin, Builtin.min_, Builtin.min2, hxb, hyb], .int _ _⟩
        · cases hm
    · rename_i x y hc ha
      simp only at hc ha
      subst hc
      have ha' : args = #[x, y] := by rw [← Array.toArray_toList (xs := args), ha]
      subst ha'
      cases hm : maxA (ρ x) (ρ y) with
      | none => rw [hm] at e; cases e
      | some r =>
        rw [hm] at e; injection e with e; injection e with e _; subst e
        have hx := hρ x; have hy := hρ y
        generalize hxa : ρ x = ax at hx hm
        generalize hya : ρ y = ay at hy hm
        generalize hxb : ρ' x = bx at hx
        generalize hyb : ρ' y = by' at hy
        unfold maxA at hm
        split at hm
        · injection hm with hm; subst hm; cases hx; cases hy
          exact ⟨_, by simp [resolve, invoke, builtin, Builtin.max_, Builtin.max2, hxb, hyb], .int _ _⟩
        · cases hm
    · cases e
end
end Go.Proofs.YtplejhefhnmabaaGreatDoor.Am

