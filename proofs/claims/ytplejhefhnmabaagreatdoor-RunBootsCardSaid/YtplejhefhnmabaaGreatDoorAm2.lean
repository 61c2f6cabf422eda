import Derived.Test.YtplejhefhnmabaaGreatDoorAm1
import Derived.Laws.IdiomStrings
/- Abstract machine, part F: operations on memory: what they are said to do. -/
namespace Go.Proofs.YtplejhefhnmabaaGreatDoor.Am
set_option linter.unusedSimpArgs false
set_option linter.unusedVariables false
/-- What an operation does: its answer; the names that it is told of; what becomes of which names; how many new names; what it owes. -/
structure Ent where
  v : AV
  rd : List Nat
  up : Lit
  rm : List Nat
  nw : Nat
  ob : List Ob
def memN : List Nat → Nat → Bool
  | [], _ => false
  | a :: l, n => bif Nat.beq a n then true else memN l n
def restr (lit : Lit) (rd : List Nat) : Hv := fun n => bif memN rd n then lk lit n else none
def pick (lit : Lit) : List Nat → Lit
  | [] => []
  | n :: l => match lk lit n with
    | some b => (n, b) :: pick lit l
    | none => pick lit l
theorem lk_pick (lit : Lit) (rd : List Nat) : lk (pick lit rd) = restr lit rd := by
  funext n
  induction rd with
  | nil => rfl
  | cons m l ih =>
    simp only [pick, restr, memN] at ih ⊢
    by_cases h : m = n
    · subst h
      simp only [Nat.beq_refl, cond_true]
      cases hl : lk lit m with
      | some b => simp [lk, Nat.beq_refl]
      | none => rw [ih, hl]; cases memN l m <;> rfl
    · simp only [beqf h, cond_false]
      cases hl : lk lit m with
      | some b => simp only [lk, beqf h, cond_false]; exact ih
      | none => exact ih
def upOf (up : Lit) (rm : List Nat) : Up := fun n => match lk up n with
  | some b => some (some b)
  | none => bif memN rm n then some none else none
theorem upOf_nil : upOf [] [] = noUp := rfl
theorem upOf_one (k : Nat) (b : ABlk) : upOf [(k, b)] [] = oneUp k b := by
  funext n
  simp only [upOf, lk, memN, oneUp, cond_false]
  by_cases h : n = k
  · subst h; simp [Nat.beq_refl]
  · rw [beqf (Ne.symm h)]; simp [h]
theorem memN_self (k : Nat) (l : List Nat) : memN (k :: l) k = true := by simp [memN, Nat.beq_refl]
def getB (lit : Lit) (sy : Sy) : Nm → Option ABlk
  | .loc k => lk lit k
  | .sym _ => none
def nmL : Nm → List Nat
  | .loc k => [k]
  | .sym _ => []
def loadA (P : Program) (t : TypeId) (cells : List AV) (o : Nat) : PV :=
  match P.underlying t with
  | some (.struct _) => match P.info? t with
    | some i => some (.agg (takeN cells o i.size), [chkLe (o + i.size) cells.length])
    | none => none
  | some (.array _ _) => match P.info? t with
    | some i => some (.agg (takeN cells o i.size), [chkLe (o + i.size) cells.length])
    | none => none
  | some (.int k) => some (.int k (asInt (cells.getD o .any)), [isInt k (cells.getD o .any)])
  | some .bool => some (.bool (asBool (cells.getD o .any)), [isBoo (cells.getD o .any)])
  | some .string => some (.str (asStr (cells.getD o .any)), [isStr (cells.getD o .any)])
  | some _ => some (cells.getD o .any, [chkLe (o + 1) cells.length])
  | none => none
def chkOne (v : AV) : Ob := bif one v then .t else .p (one v = true)
theorem chkOne_holds {v : AV} : (chkOne v).holds ↔ one v = true := by
  unfold chkOne; cases h : one v <;> simp [Ob.holds]
def chkOnes : List AV → Ob
  | [] => .t
  | v :: l => bif one v then chkOnes l else .p (∀ x ∈ v :: l, one x = true)
theorem chkOnes_holds {l : List AV} : (chkOnes l).holds ↔ ∀ x ∈ l, one x = true := by
  induction l with
  | nil => simp [chkOnes, Ob.holds]
  | cons v l ih =>
    unfold chkOnes
    cases h : one v with
    | true => simp [ih, h]
    | false => simp [Ob.holds]
def rep : Nat → List AV → List AV
  | 0, _ => []
  | n + 1, z => z ++ rep n z
theorem length_rep (n : Nat) (z : List AV) : (rep n z).length = n * z.length := by
  induction n with
  | zero => simp [rep]
  | succ n ih => simp [rep, ih, Nat.succ_mul]; omega
theorem getD_rep (n : Nat) (z : List AV) : ∀ i, i < n * z.length → (rep n z).getD i .any = z.getD (i % z.length) .any := by
  induction n with
  | zero => intro i h; omega
  | succ n ih =>
    intro i h
    simp only [rep]
    by_cases hi : i < z.length
    · rw [List.getD_eq_getElem?_getD, List.getElem?_append_left hi, Nat.mod_eq_of_lt hi, ← List.getD_eq_getElem?_getD]
    · rw [List.getD_eq_getElem?_getD, List.getElem?_append_right (by omega), ← List.getD_eq_getElem?_getD, ih (i - z.length) (by rw [Nat.succ_mul] at h; omega), ← Nat.mod_eq_sub_mod (by omega)]
def isU8s : List AV → Ob
  | [] => .t
  | .int .u8 _ :: l => isU8s l
  | _ => .p False
theorem isU8s_holds {l : List AV} : (isU8s l).holds ↔ ∀ x ∈ l, ∃ n, x = .int .u8 n := by
  induction l with
  | nil => simp [isU8s, Ob.holds]
  | cons v l ih =>
    cases v
    case int k n =>
      cases k
      case u8 => simp only [isU8s, ih]; simp
      all_goals simp [isU8s, Ob.holds]
    all_goals simp [isU8s, Ob.holds]
def strOf (l : List AV) : ByteArray := ⟨(l.map fun v => UInt8.ofNat (asInt v).toNat).toArray⟩
def bytesA (s : ByteArray) : List AV := s.data.toList.map fun b => .int .u8 b.toNat
def pv (e : PV) : Option Ent := match e with
  | some (v, ob) => some ⟨v, [], [], [], 0, ob⟩
  | none => none
/-- The cells that a slice or a text shows; the names that are told of. -/
def srcA (lit : Lit) (sy : Sy) (size : Nat) : AV → Option (List AV × Nat × List Nat × List Ob)
  | .nils => some ([], 0, [], [])
  | .slc b o n _ => match getB lit sy b with
    | some blk => some ((blk.cells.drop o).take (n * size), n, nmL b, [chkLe (o + n * size) blk.cells.length])
    | none => none
  | .lst b o n _ => match getB lit sy b with
    | some blk => some ((blk.cells.drop o).take (n * size), n, nmL b, [chkLe (o + n * size) blk.cells.length])
    | none => none
  | .str s => match size with
    | 1 => some (bytesA s, s.size, [], [])
    | _ => none
  | _ => none
def noStr : AV → Bool | .str _ => false | _ => true
/-- The list that is grown: its cells, its length, is it surely some slice, the name. -/
inductive Dst | nil | own (k o n : Nat) (cells : List AV) (maybe : Bool) | full (b : Nm) (n : Nat) (cells : List AV) (rd : List Nat)
def aLoad (P : Program) (ρ : Rho) (lit : Lit) (sy : Sy) (nx : Nat) (t : TypeId) (a : Operand) : Option Ent := match ρ a with
  | .ptr b o => match getB lit sy b with
    | some blk => match loadA P t blk.cells o with
      | some (v, ob) => some ⟨v, nmL b, [], [], 0, ob⟩
      | none => none
    | none => none
  | .gp B o => match sy.gb B with
    | some cells => match loadA P t cells o with
      | some (v, ob) => some ⟨v, [], [], [], 0, ob⟩
      | none => none
    | none => none
  | _ => none
def aStore (P : Program) (ρ : Rho) (lit : Lit) (sy : Sy) (nx : Nat) (t : TypeId) (a x : Operand) : Option Ent := match ρ a with
  | .ptr (.loc k) o => match lk lit k with
    | some blk => match cellsO (ρ x), blk.wr, P.info? t with
      | some vs, true, some i => some ⟨.tup [], [k], [(k, { blk with cells := putAt blk.cells o vs })], [], 0, [chkEq vs.length i.size, chkLe (o + vs.length) blk.cells.length, chkOnes vs]⟩
      | _, _, _ => none
    | none => none
  | _ => none
def aAlloc (P : Program) (ρ : Rho) (lit : Lit) (sy : Sy) (nx : Nat) (t : TypeId) : Option Ent := match P.info? t with
  | some i => match i.zero with
    | some z => match cellsO (ofV z) with
      | some cells => some ⟨.ptr (.loc nx) 0, [], [(nx, ⟨cells, t, true⟩)], [], 1, []⟩
      | none => none
    | none => none
  | none => none
def aBox (P : Program) (ρ : Rho) (lit : Lit) (sy : Sy) (nx : Nat) (t : TypeId) (x : Operand) : Option Ent := match cellsO (ρ x) with
  | some cells => some ⟨.ptr (.loc nx) 0, [], [(nx, ⟨cells, t, true⟩)], [], 1, []⟩
  | none => none
def aBuildSlice (P : Program) (ρ : Rho) (lit : Lit) (sy : Sy) (nx : Nat) (t : TypeId) (len : Nat) (parts : Array (Nat × Operand)) : Option Ent := match P.underlying t with
  | some (.slice e) => match P.info? e with
    | some ie => match ie.zero with
      | some z => match cellsO (ofV z), Nat.ble (len * ie.size) 16777216 with
        | some zc, true => match fillA (fun j => some (j * ie.size, ie.size)) (rep len zc) (parts.toList.map fun p => (p.1, ρ p.2)) with
          | some (c, ob) => some ⟨.slc (.loc nx) 0 len (.ex len), [], [(nx, ⟨c, e, true⟩)], [], 1, chkEq zc.length ie.size :: ob⟩
          | none => none
        | _, _ => none
      | none => none
    | none => none
  | _ => none
def aMakeSlice (P : Program) (ρ : Rho) (lit : Lit) (sy : Sy) (nx : Nat) (t : TypeId) (l c : Operand) : Option Ent := match P.underlying t with
  | some (.slice e) => match P.info? e with
    | some ie => match ie.zero, ρ l, ρ c with
      | some z, .int _ l, .int _ c => match cellsO (ofV z) with
        | some zc => some ⟨.slc (.loc nx) 0 l.toNat (.own ie.size), [], [(nx, ⟨rep l.toNat zc, e, true⟩)], [], 1, [chkEq zc.length ie.size, nonneg l, leI l c, leI c 140737488355328, leI (ie.bytes * c) 281474976710656]⟩
        | none => none
      | _, _, _ => none
    | none => none
  | _ => none
def aConvert (P : Program) (ρ : Rho) (lit : Lit) (sy : Sy) (nx : Nat) (o : Oper) (s d : TypeId) (x : Operand) : Option Ent := match P.underlying s, P.underlying d, ρ x with
  | some (.slice e), some .string, x => match P.underlying e, srcA lit sy 1 x, noStr x with
    | some (.int .u8), some (cells, n, rd, ob), true => some ⟨.str (strOf cells), rd, [], [], 0, isU8s cells :: ob⟩
    | _, _, _ => none
  | some .string, some (.slice e), .str s => match P.underlying e with
    | some (.int .u8) => some ⟨.slc (.loc nx) 0 s.size (.own 1), [], [(nx, ⟨bytesA s, e, true⟩)], [], 1, []⟩
    | _ => none
  | some (.slice _), some (.slice e), .slc (.loc k) of n cp => match P.underlying e, lk lit k, Nat.beq s d && Nat.ble 1 n with
    | some (.int .u8), some blk, true => match blk.wr with
      | true => some ⟨.slc (.loc k) of n cp, [k], [(k, { blk with wr := false })], [], 0, []⟩
      | false => none
    | _, _, _ => none
  | _, _, _ => pv (aopV P ρ o)
def aAppend (P : Program) (ρ : Rho) (lit : Lit) (sy : Sy) (nx : Nat) (s x : Operand) (t u : TypeId) : Option Ent := match P.underlying t, P.underlying u with
  | some (.slice e), some du => match P.info? e, (match du with | .int _ => false | _ => true) with
    | some ie, true => match ie.zero, srcA lit sy ie.size (ρ x) with
      | some z, some (xs, m, rdx, obx) => match ρ s with
        | .nils => match m with
          | 0 => some ⟨.nils, rdx, [], [], 0, obx⟩
          | m + 1 => some ⟨.slc (.loc nx) 0 (m + 1) (.own ie.size), rdx, [(nx, ⟨xs, e, true⟩)], [], 1, chkLe ((m + 1) * (ie.bytes + 1)) 70368744177664 :: chkEq z.cells.size ie.size :: obx⟩
        | .slc (.loc k) o n (.own sz) => match lk lit k, Nat.beq sz ie.size with
          | some blk, true => match blk.wr && Nat.beq blk.elem e with
            | true => some ⟨.slc (.loc nx) 0 (n + m) (.own ie.size), k :: rdx, [(nx, ⟨blk.cells.drop o ++ xs, e, true⟩)], [k], 1, chkEq (o + n * ie.size) blk.cells.length :: chkLe ((n + m) * (ie.bytes + 1)) 70368744177664 :: chkOnes xs :: chkEq z.cells.size ie.size :: obx⟩
            | false => none
          | _, _ => none
        | .lst (.loc k) o n (.own sz) => match lk lit k, Nat.beq sz ie.size with
          | some blk, true => match blk.wr && Nat.beq blk.elem e with
            | true => some ⟨.lst (.loc nx) 0 (n + m) (.own ie.size), k :: rdx, [(nx, ⟨blk.cells.drop o ++ xs, e, true⟩)], [k], 1, chkEq (o + n * ie.size) blk.cells.length :: chkLe ((n + m) * (ie.bytes + 1)) 70368744177664 :: chkOnes xs :: chkEq z.cells.size ie.size :: obx⟩
            | false => none
          | _, _ => none
        | .slc b o n (.ex 0) => some ⟨.slc (.loc nx) 0 m (.own ie.size), rdx, [(nx, ⟨xs, e, true⟩)], [], 1, chkLe (m * (ie.bytes + 1)) 70368744177664 :: chkEq z.cells.size ie.size :: obx⟩
        | .slc b o n (.ex c) => match getB lit sy b, Nat.ble (n + m) c with
          | some blk, false => some ⟨.slc (.loc nx) 0 (n + m) (.own ie.size), nmL b ++ rdx, [(nx, ⟨(blk.cells.drop o).take (n * ie.size) ++ xs, e, true⟩)], [], 1, chkLe (o + n * ie.size) blk.cells.length :: chkLe ((n + m) * (ie.bytes + 1)) 70368744177664 :: chkEq z.cells.size ie.size :: obx⟩
          | _, _ => none
        | _ => none
      | _, _ => none
    | _, _ => none
  | _, _ => none
def aCopy (P : Program) (ρ : Rho) (lit : Lit) (sy : Sy) (nx : Nat) (d x : Operand) (t u : TypeId) : Option Ent := match P.underlying t with
  | some (.slice e) => match P.info? e with
    | some ie => match ρ d, srcA lit sy ie.size (ρ x) with
      | .slc (.loc k) o n _, some (xs, m, rdx, obx) => match lk lit k with
        | some blk => match blk.wr with
          | true => some ⟨.int .i64 (Nat.min m n), k :: rdx, [(k, { blk with cells := putAt blk.cells o (xs.take (Nat.min m n * ie.size)) })], [], 0, chkLe (o + Nat.min m n * ie.size) blk.cells.length :: chkOnes (xs.take (Nat.min m n * ie.size)) :: obx⟩
          | false => none
        | none => none
      | _, _ => none
    | none => none
  | _ => none
def aClear (P : Program) (ρ : Rho) (lit : Lit) (sy : Sy) (nx : Nat) (s : Operand) (t : TypeId) : Option Ent := match P.underlying t with
  | some (.slice e) => match P.info? e with
    | some ie => match ie.zero, ρ s with
      | some z, .slc (.loc k) o n _ => match lk lit k, cellsO (ofV z) with
        | some blk, some zc => match blk.wr with
          | true => some ⟨.tup [], [k], [(k, { blk with cells := putAt blk.cells o (rep n zc) })], [], 0, [chkLe (o + n * zc.length) blk.cells.length, chkOnes (rep n zc)]⟩
          | false => none
        | _, _ => none
      | _, _ => none
    | none => none
  | _ => none
def aCall (P : Program) (ρ : Rho) (lit : Lit) (sy : Sy) (nx : Nat) (o : Oper) (c : Call) : Option Ent := match c.callee, c.args.toList, c.argTypes.toList with
  | .builtin .append, [s, x], [t, u] => aAppend P ρ lit sy nx s x t u
  | .builtin .copy, [d, x], [t, u] => aCopy P ρ lit sy nx d x t u
  | .builtin .clear, [s], [t] => aClear P ρ lit sy nx s t
  | _, _, _ => pv (aopV P ρ o)
def aopM (P : Program) (ρ : Rho) (lit : Lit) (sy : Sy) (nx : Nat) (o : Oper) : Option Ent :=
  match o.op with
  | .load t a => aLoad P ρ lit sy nx t a
  | .store t a x => aStore P ρ lit sy nx t a x
  | .alloc t => aAlloc P ρ lit sy nx t
  | .box t x => aBox P ρ lit sy nx t x
  | .buildSlice t len parts => aBuildSlice P ρ lit sy nx t len parts
  | .makeSlice t l c => aMakeSlice P ρ lit sy nx t l c
  | .convert s d x => aConvert P ρ lit sy nx o s d x
  | .call c => aCall P ρ lit sy nx o c
  | _ => pv (aopV P ρ o)
def EOk (P : Program) (sy : Sy) (o : Oper) (ρ : Rho) (lit : Lit) (nx : Nat) (e : Ent) : Prop :=
  ∀ (C : Cx) (ρ' : Operand → Value) (w : World), (∀ x, VR C (ρ x) (ρ' x)) → Inj C (restr lit e.rd) sy w → (∀ n, InI nx e.nw n → C (.loc n) = none) →
    ∃ v' w1 C1, ((execOp ρ' o).run P w = .ok (.value v') w1 ∨ ((execOp ρ' o).run P w = .ok .skip w1 ∧ v' = undef)) ∧ Res C (restr lit e.rd) sy w nx e.v (upOf e.up e.rm) e.nw v' w1 C1
theorem EOk.pure {P : Program} {sy : Sy} {o : Oper} {ρ : Rho} {lit : Lit} {nx : Nat} {v : AV} {ob : List Ob} (e : aopV P ρ o = some (v, ob)) (ho : Obs ob) : EOk P sy o ρ lit nx ⟨v, [], [], [], 0, ob⟩ := by
  intro C ρ' w hρ hI _
  obtain ⟨v', h1, h2⟩ := aopV_ok (P := P) (w := w) e ho hρ
  exact ⟨v', w, C, .inl h1, by rw [upOf_nil]; exact Res.same hI h2⟩
end Go.Proofs.YtplejhefhnmabaaGreatDoor.Am

/- Abstract machine, part G: loads, stores, new variables. -/
namespace Go.Proofs.YtplejhefhnmabaaGreatDoor.Am
set_option linter.unusedSimpArgs false
set_option linter.unusedVariables false
section
variable {P : Program} {C : Cx} {ρ : Rho} {ρ' : Operand → Value} {w : World} {lit : Lit} {sy : Sy} {nx : Nat}
theorem restr_mem {lit : Lit} {rd : List Nat} {n : Nat} (h : memN rd n = true) : restr lit rd n = lk lit n := by simp [restr, h]
theorem memN_nmL {b : Nm} {k : Nat} (h : b = .loc k) (l : List Nat) : memN (nmL b ++ l) k = true := by subst h; simp [nmL, memN_self]
theorem memN_app {l m : List Nat} {k : Nat} (h : memN m k = true) : memN (l ++ m) k = true := by
  induction l with
  | nil => exact h
  | cons a l ih => simp only [List.cons_append, memN]; cases Nat.beq a k <;> simp [ih]
theorem blk_of {rd : List Nat} {b : Nm} {blk : ABlk} (hI : Inj C (restr lit rd) sy w) (hg : getB lit sy b = some blk) (hm : ∀ k, b = .loc k → memN rd k = true) : BlkAt C b blk w := by
  cases b with
  | loc k => exact hI.at_ k blk (by rw [restr_mem (hm k rfl)]; exact hg)
  | sym s => cases hg
theorem nmL_mem {b : Nm} {l : List Nat} : ∀ k, b = .loc k → memN (nmL b ++ l) k = true := fun k h => memN_nmL h l
theorem nmL_mem' {b : Nm} : ∀ k, b = .loc k → memN (nmL b) k = true := fun k h => by simpa using memN_nmL (l := []) h
theorem cell_of {b : Nm} {blk : ABlk} {c : CB} (hB : BlkAt C b blk w) (hc : C b = some c) {i : Nat} (hi : i < blk.cells.length) : ∃ v', w.cell? ⟨c.blk, c.base + i, none⟩ = some v' ∧ VR C (blk.cells.getD i .any) v' := by
  rcases hB with ⟨h1, h2⟩ | ⟨c2, cs, fz, h1, h2, h3, h4, h5, h6⟩
  · rw [h2] at hi; cases hi
  · rw [hc] at h1; injection h1 with h1; subst h1
    have hlt : c.base + i < cs.size := by omega
    refine ⟨cs.getD (c.base + i) undef, ?_, h5 i hi⟩
    simp [World.cell?, h2, Array.getD_eq_getD_getElem?, hlt]
def CellsAt (C : Cx) (cells : List AV) (c : CB) (w : World) : Prop := ∀ i, i < cells.length → ∃ v', w.cell? ⟨c.blk, c.base + i, none⟩ = some v' ∧ VR C (cells.getD i .any) v'
/-- A row of cells, read one by one. -/
theorem cells_ofH {cells : List AV} {c : CB} (hB : CellsAt C cells c w) {o n : Nat} (hi : o + n ≤ cells.length) :
    ∃ vs : Array Value, (loadCells ⟨c.blk, c.base + o, none⟩ n).run P w = .ok vs w ∧ vs.size = n ∧ (∀ j, j < n → VR C (cells.getD (o + j) .any) (vs.getD j undef)) ∧ (∀ v ∈ vs.toList, True) := by
  have hf : ∀ j, j < n → ∃ v', w.cell? ⟨c.blk, c.base + (o + j), none⟩ = some v' ∧ VR C (cells.getD (o + j) .any) v' := fun j hj => hB _ (by omega)
  let f : Nat → Value := fun j => (w.cell? ⟨c.blk, c.base + (o + j), none⟩).getD undef
  have hcell : ∀ j, j < n → w.cell? ((⟨c.blk, c.base + o, none⟩ : Addr).add j) = some (f j) := by
    intro j hj
    obtain ⟨v', h1, _⟩ := hf j hj
    rw [add_none, Nat.add_assoc, h1]; simp [f, h1]
  refine ⟨_, run_loadCells w ⟨c.blk, c.base + o, none⟩ n f hcell, by simp, ?_, fun _ _ => trivial⟩
  intro j hj
  obtain ⟨v', h1, h2⟩ := hf j hj
  have : ((Array.range n).map f).getD j undef = f j := by simp [Array.getD_eq_getD_getElem?, hj]
  have e : f j = v' := by simp [f, h1]
  first
  | (rw [this, e]; exact h2)
  | (simp [Array.getD_eq_getD_getElem?, hj, e]; exact h2)
theorem loadVar_okH {t : TypeId} {cells : List AV} {o : Nat} {v : AV} {ob : List Ob} {c : CB} (hB : CellsAt C cells c w) (e : loadA P t cells o = some (v, ob)) (ho : Obs ob) :
    ∃ v', (loadVar t ⟨c.blk, c.base + o, none⟩).run P w = .ok v' w ∧ VR C v v' := by
  have agg : ∀ i, isAggB P t = some true → P.info? t = some i → (some (AV.agg (takeN cells o i.size), [chkLe (o + i.size) cells.length]) = some (v, ob)) →
      ∃ v', (loadVar t ⟨c.blk, c.base + o, none⟩).run P w = .ok v' w ∧ VR C v v' := by
    intro i ha hi e
    injection e with e; injection e with e e2; subst e; subst e2
    simp only [Obs, chkLe_holds] at ho
    obtain ⟨vs, h1, h2, h3, _⟩ := cells_ofH (P := P) hB (o := o) (n := i.size) ho.1
    refine ⟨.agg vs, by simp [loadVar, isAgg_of ha, sizeOf_of hi, h1], .agg _ _ (by rw [length_takeN, h2]) ?_⟩
    intro j hj
    rw [length_takeN] at hj
    rw [getD_takeN _ _ _ _ hj]
    exact h3 j hj
  have cell : ∀ (u : AV), isAggB P t = some false → o < cells.length → (∀ x, VR C (cells.getD o .any) x → VR C u x) → v = u → ∃ v', (loadVar t ⟨c.blk, c.base + o, none⟩).run P w = .ok v' w ∧ VR C v v' := by
    intro u ha hl hu hv
    obtain ⟨v', h1, h2⟩ := hB _ hl
    exact ⟨v', by simp [loadVar, isAgg_of ha, h1], hv ▸ hu _ h2⟩
  have ne : ∀ {x : AV}, cells.getD o .any = x → x ≠ .any → o < cells.length := by
    intro x hx hn
    rcases Nat.lt_or_ge o cells.length with h | h
    · exact h
    · rw [List.getD_eq_getElem?_getD, List.getElem?_eq_none h] at hx; exact absurd hx.symm hn
  unfold loadA at e
  split at e
  · rename_i hu
    split at e
    · rename_i i hi; exact agg i (by simp [isAggB, hu]) hi e
    · cases e
  · rename_i hu
    split at e
    · rename_i i hi; exact agg i (by simp [isAggB, hu]) hi e
    · cases e
  · rename_i k hu
    injection e with e; injection e with e e2; subst e; subst e2
    simp only [Obs, isInt_holds] at ho
    exact cell _ (by simp [isAggB, hu]) (ne ho.1 (by simp)) (fun x hx => by rw [ho.1] at hx; simpa [asInt] using hx) rfl
  · rename_i hu
    injection e with e; injection e with e e2; subst e; subst e2
    simp only [Obs] at ho
    have hb := isBoo_holds ho.1
    refine cell _ (by simp [isAggB, hu]) ?_ (fun x hx => ?_) rfl
    · rcases hb with h | h | h <;> exact ne h (by simp)
    · have := asB hx hb; subst this; exact .bool _
  · rename_i hu
    injection e with e; injection e with e e2; subst e; subst e2
    simp only [Obs, isStr_holds] at ho
    exact cell _ (by simp [isAggB, hu]) (ne ho.1 (by simp)) (fun x hx => by rw [ho.1] at hx; simpa [asStr] using hx) rfl
  · rename_i d h1 h2 h3 h4 h5 hu
    injection e with e; injection e with e e2; subst e; subst e2
    simp only [Obs, chkLe_holds] at ho
    refine cell _ ?_ (by omega) (fun x hx => hx) rfl
    unfold isAggB; rw [hu]
    cases d <;> first | rfl | exact absurd rfl (h1 _) | exact absurd rfl (h2 _ _)
  · cases e
theorem cells_of {b : Nm} {blk : ABlk} {c : CB} (hB : BlkAt C b blk w) (hc : C b = some c) {o n : Nat} (hi : o + n ≤ blk.cells.length) :
    ∃ vs : Array Value, (loadCells ⟨c.blk, c.base + o, none⟩ n).run P w = .ok vs w ∧ vs.size = n ∧ (∀ j, j < n → VR C (blk.cells.getD (o + j) .any) (vs.getD j undef)) ∧ (∀ v ∈ vs.toList, True) :=
  cells_ofH (fun _ hi => cell_of hB hc hi) hi
theorem loadVar_ok {t : TypeId} {b : Nm} {blk : ABlk} {o : Nat} {v : AV} {ob : List Ob} {c : CB} (hB : BlkAt C b blk w) (hc : C b = some c) (e : loadA P t blk.cells o = some (v, ob)) (ho : Obs ob) :
    ∃ v', (loadVar t ⟨c.blk, c.base + o, none⟩).run P w = .ok v' w ∧ VR C v v' := loadVar_okH (fun _ hi => cell_of hB hc hi) e ho
theorem load_ok {t : TypeId} {a' : Value} {b : Nm} {o : Nat} {blk : ABlk} {v : AV} {ob : List Ob} (ha : VR C (.ptr b o) a') (hI : Inj C (restr lit (nmL b)) sy w) (hg : getB lit sy b = some blk) (e : loadA P t blk.cells o = some (v, ob)) (ho : Obs ob) :
    ∃ v', (Instr.loadAt t a').run P w = .ok v' w ∧ VR C v v' := by
  cases ha with
  | ptr _ _ c hc =>
    obtain ⟨v', h1, h2⟩ := loadVar_ok (P := P) (blk_of hI hg nmL_mem') hc e ho
    exact ⟨v', by simp [Instr.loadAt, Instr.sureAddr, h1], h2⟩
/-- A load from a place that is told of by itself. -/
theorem loadG_ok {F : Hv} {t : TypeId} {a' : Value} {B : Nat} {o : Nat} {cells : List AV} {v : AV} {ob : List Ob} (ha : VR C (.gp B o) a') (hI : Inj C F sy w) (hg : sy.gb B = some cells) (e : loadA P t cells o = some (v, ob)) (ho : Obs ob) :
    ∃ v', (Instr.loadAt t a').run P w = .ok v' w ∧ VR C v v' := by
  cases ha
  obtain ⟨v', h4, h5⟩ := loadVar_okH (P := P) (c := ⟨B, 0, 0⟩) (w := w) (C := C) (fun i hi => by
    obtain ⟨v', h1, h2⟩ := sy.gat w hI.sy_ B cells hg i hi
    exact ⟨v', by simpa using h1, h2 C⟩) e ho
  simp only [Nat.zero_add] at h4
  exact ⟨v', by simp [Instr.loadAt, Instr.sureAddr, h4], h5⟩
theorem mem_of_getD {l : List AV} {l' : List Value} (hl : l.length = l'.length) (hv : ∀ i, i < l.length → VR C (l.getD i .any) (l'.getD i undef)) (ho : ∀ x ∈ l, one x = true) : ∀ v ∈ l', v.oneCell' = true := by
  intro v hv'
  obtain ⟨i, hi, rfl⟩ := List.mem_iff_getElem.1 hv'
  have h1 := hv i (by omega)
  have hil : i < l.length := by omega
  rw [List.getD_eq_getElem?_getD, List.getElem?_eq_getElem hil, List.getD_eq_getElem?_getD, List.getElem?_eq_getElem hi] at h1
  exact VR.one h1 (ho _ (List.getElem_mem hil))
/-- Stores of a row of values into a block that is told of. -/
theorem stores_ok {F : Hv} {k o : Nat} {blk : ABlk} {c : CB} {vs : List AV} {vs' : List Value} (hI : Inj C F sy w) (hk : F k = some blk) (hc : C (.loc k) = some c) (hw : blk.wr = true)
    (hl : vs.length = vs'.length) (hv : ∀ i, i < vs.length → VR C (vs.getD i .any) (vs'.getD i undef)) (h1 : ∀ x ∈ vs, one x = true) (hfit : o + vs.length ≤ blk.cells.length) {v : AV} {v' : Value} (hr : VR C v v') :
    ∃ w1, (storeCells ⟨c.blk, c.base + o, none⟩ vs').run P w = .ok () w1 ∧ Res C F sy w nx v (oneUp k { blk with cells := putAt blk.cells o vs }) 0 v' w1 C := by
  rcases hI.at_ k blk hk with ⟨g1, g2⟩ | ⟨c2, cs, fz, g1, g2, g3, g4, g5, g6⟩
  · rw [hc] at g1; cases g1
  · rw [hc] at g1; injection g1 with g1; subst g1
    have := run_storeCells (P := P) blk.elem fz c.blk (c.base + o) vs' 0 cs w g2 (by omega) (mem_of_getD hl hv h1) (fun j hj => by have := g6 hw (o + j) (by omega); rwa [show c.base + (o + j) = c.base + o + 0 + j by omega] at this)
    exact ⟨_, this, Res.stores hI hk hw hc g2 hfit hl hv rfl hr⟩
theorem store_ok {t : TypeId} {x : AV} {a' x' : Value} {k o : Nat} {blk : ABlk} {vs : List AV} {i : TypeInfo} (ha : VR C (.ptr (.loc k) o) a') (hx : VR C x x') (hI : Inj C (restr lit [k]) sy w) (hk : lk lit k = some blk)
    (hc : cellsO x = some vs) (hw : blk.wr = true) (hi : P.info? t = some i) (h1 : vs.length = i.size) (h2 : o + vs.length ≤ blk.cells.length) (h3 : ∀ x ∈ vs, one x = true) :
    ∃ w1, (Instr.storeAt t a' x').run P w = .ok () w1 ∧ Res C (restr lit [k]) sy w nx (.tup []) (oneUp k { blk with cells := putAt blk.cells o vs }) 0 undef w1 C := by
  cases ha with
  | ptr _ _ c hcc =>
    obtain ⟨g1, g2⟩ := cellsO_VR hx hc
    obtain ⟨w1, e1, e2⟩ := stores_ok (P := P) (nx := nx) (vs' := x'.cells.toList) hI (by rw [restr_mem (memN_self k [])]; exact hk) hcc hw (by simpa using g1) (fun i hi => by simpa [Array.getD_eq_getD_getElem?, List.getD_eq_getElem?_getD] using g2 i hi) h3 h2 (VR.tup [] #[] rfl (fun i hi => by cases hi) : VR C (.tup []) undef)
    refine ⟨w1, ?_, e2⟩
    simp only [Instr.storeAt, Instr.sureAddr, Sem.run_bind, Sem.run_pure, Result.andThen_ok, storeVar, sizeOf_of hi]
    rw [if_neg (by omega)]
    simpa using e1
theorem newVar_ok {F : Hv} {t : TypeId} {v : AV} {v' : Value} {cells : List AV} (hI : Inj C F sy w) (hf : C (.loc nx) = none) (hv : VR C v v') (hc : cellsO v = some cells) :
    ∃ w1 C1, (newVar t v').run P w = .ok ⟨w.heap.size, 0, none⟩ w1 ∧ Res C F sy w nx (.ptr (.loc nx) 0) (oneUp nx ⟨cells, t, true⟩) 1 (.pointer (some ⟨w.heap.size, 0, none⟩)) w1 C1 := by
  obtain ⟨g1, g2⟩ := cellsO_VR hv hc
  refine ⟨_, _, ?_, Res.alloc (cs := v'.cells) (fz := (0, 0)) true hI hf (by omega) g2 (by intro i _ h; omega) ?_⟩
  · rfl
  · have := VR.ptr (C := C.lay nx ⟨w.heap.size, 0, v'.cells.size⟩) (.loc nx) 0 _ (Cx.lay_at _ _ _)
    simpa using this
end
end Go.Proofs.YtplejhefhnmabaaGreatDoor.Am

/- Abstract machine, part H: rows: made, copied, appended to, cleared, turned into texts. -/
namespace Go.Proofs.YtplejhefhnmabaaGreatDoor.Am
set_option linter.unusedSimpArgs false
set_option linter.unusedVariables false
section
variable {P : Program} {C : Cx} {ρ : Rho} {ρ' : Operand → Value} {w : World} {lit : Lit} {sy : Sy} {nx : Nat}
theorem newRow_run (e : TypeId) (cs : Array Value) : (newRow e cs).run P w = .ok ⟨w.heap.size, 0, none⟩ (w.alloc (.cells cs e)) := rfl
/-- Zeros, over and over. -/
theorem zeros_rel {z : Value} {zc : List AV} (hz : cellsO (ofV z) = some zc) (n size : Nat) (hs : zc.length = size) :
    (rep n zc).length = ((Array.range (n * size)).map (z.cells[· % z.cells.size]!)).size ∧ ∀ i, i < (rep n zc).length → VR C ((rep n zc).getD i .any) (((Array.range (n * size)).map (z.cells[· % z.cells.size]!)).getD i undef) := by
  obtain ⟨g1, g2⟩ := cellsO_VR (ofV_VR C z) hz
  refine ⟨by simp [length_rep, hs], fun i hi => ?_⟩
  rw [length_rep] at hi
  rw [getD_rep _ _ _ hi]
  have hp : 0 < zc.length := by rcases Nat.eq_zero_or_pos zc.length with h | h; rw [h] at hi; simp at hi; exact h
  have hm := Nat.mod_lt i hp
  have := g2 _ hm
  have h3 : i < n * size := by rw [← hs]; exact hi
  have h4 : i % zc.length < z.cells.size := by rw [← g1]; exact hm
  rw [Array.getD_eq_getD_getElem?, Array.getElem?_eq_getElem h4] at this
  rw [Array.getD_eq_getD_getElem?, Array.getElem?_map, Array.getElem?_range, if_pos h3, Option.map_some, Option.getD_some, ← g1, getElem!_pos z.cells (i % zc.length) h4]
  simpa using this
theorem slcNew_VR {len cap' sz size : Nat} {cap : Cp} (hl : len ≤ cap') (hx : ∀ k, cap = .ex k → cap' = k) (ho : ∀ e, cap = .own e → cap' * e ≤ size) (C : Cx) :
    VR (C.lay nx ⟨w.heap.size, 0, size⟩) (.slc (.loc nx) 0 len cap) (.slice (some ⟨w.heap.size, 0, none⟩) len cap') :=
  .slc _ _ _ _ _ _ (fun _ => ⟨_, Cx.lay_at _ _ _, by simp, fun e he => by have := ho e he; simpa using this⟩) hl hx
theorem buildSlice_ok (hρ : ∀ x, VR C (ρ x) (ρ' x)) {F : Hv} (hI : Inj C F sy w) (hf : C (.loc nx) = none) {t e : TypeId} {ie : TypeInfo} {z : Value} {zc c : List AV} {len : Nat} {parts : Array (Nat × Operand)} {ob : List Ob}
    (hu : P.underlying t = some (.slice e)) (hi : P.info? e = some ie) (hz : ie.zero = some z) (hc : cellsO (ofV z) = some zc) (hle : len * ie.size ≤ 16777216) (hs : zc.length = ie.size)
    (hfill : fillA (fun j => some (j * ie.size, ie.size)) (rep len zc) (parts.toList.map fun p => (p.1, ρ p.2)) = some (c, ob)) (ho : Obs ob) :
    ∃ v' w1 C1, (Instr.buildSlice t len (parts.map fun (i, x) => (i, ρ' x))).run P w = .ok v' w1 ∧ Res C F sy w nx (.slc (.loc nx) 0 len (.ex len)) (oneUp nx ⟨c, e, true⟩) 1 v' w1 C1 := by
  obtain ⟨r1, r2⟩ := zeros_rel (C := C) hc len ie.size hs
  obtain ⟨cs', h1, h2, h3⟩ := fill_ok hρ parts.toList _ _ c ob r1 r2 hfill ho
  refine ⟨.slice (some ⟨w.heap.size, 0, none⟩) len len, w.alloc (.cells cs' e), _, ?_, Res.alloc (cs := cs') (fz := (0, 0)) true hI hf (by omega) h3 (by intro i _ h; omega) (slcNew_VR (sz := 0) (Nat.le_refl _) (by intro k hk; injection hk) (by intro e he; cases he) C)⟩
  have e1 : (parts.map fun (i, x) => (i, ρ' x)).toList = parts.toList.map fun p => (p.1, ρ' p.2) := by simp
  simp only [Instr.buildSlice, Sem.run_bind, run_underlying hu, Result.andThen_ok, sizeOf_of hi]
  rw [if_neg (show ¬ len * ie.size > 2 ^ 24 by omega)]
  have hm0 : len * ie.size = 0 → ((Array.range (len * ie.size)).map ((#[] : Array Value)[· % (#[] : Array Value).size]!)) = (Array.range (len * ie.size)).map (z.cells[· % z.cells.size]!) := fun h0 => by rw [h0]; simp
  split
  · rename_i h0
    simp only [Sem.run_bind, Sem.run_pure, Result.andThen_ok, hm0 h0, e1, h1, newRow_run]
  · simp only [Sem.run_bind, Sem.run_pure, Result.andThen_ok, zero_of hi hz, e1, h1, newRow_run]
theorem makeSlice_ok {F : Hv} (hI : Inj C F sy w) (hf : C (.loc nx) = none) {t e : TypeId} {ie : TypeInfo} {z : Value} {zc : List AV} {l c : Int} {k k' : IntKind}
    (hu : P.underlying t = some (.slice e)) (hi : P.info? e = some ie) (hz : ie.zero = some z) (hc : cellsO (ofV z) = some zc) (hs : zc.length = ie.size) (h0 : 0 ≤ l) (h1 : l ≤ c) (h2 : c ≤ 140737488355328) (h3 : ie.bytes * c ≤ 281474976710656) :
    ∃ v' w1 C1, (Instr.makeSlice t (.int k l) (.int k' c)).run P w = .ok v' w1 ∧ Res C F sy w nx (.slc (.loc nx) 0 l.toNat (.own ie.size)) (oneUp nx ⟨rep l.toNat zc, e, true⟩) 1 v' w1 C1 := by
  obtain ⟨r1, r2⟩ := zeros_rel (C := C) hc c.toNat ie.size hs
  have wl : IntKind.i64.wrap l = l := by simp [IntKind.wrap, IntKind.bits, IntKind.signed]; omega
  have wc : IntKind.i64.wrap c = c := by simp [IntKind.wrap, IntKind.bits, IntKind.signed]; omega
  have hln : l.toNat ≤ c.toNat := by omega
  have hpre : ∀ i, i < (rep l.toNat zc).length → (rep l.toNat zc).getD i .any = (rep c.toNat zc).getD i .any ∧ i < (rep c.toNat zc).length := by
    intro i hi'
    rw [length_rep] at hi'
    have : l.toNat * zc.length ≤ c.toNat * zc.length := Nat.mul_le_mul_right _ hln
    exact ⟨by rw [getD_rep _ _ _ hi', getD_rep _ _ _ (by omega)], by rw [length_rep]; omega⟩
  have hlen : (rep l.toNat zc).length ≤ (rep c.toNat zc).length := by rw [length_rep, length_rep]; exact Nat.mul_le_mul_right _ hln
  refine ⟨.slice (some ⟨w.heap.size, 0, none⟩) l.toNat c.toNat, _, _, ?_, Res.alloc (cs := ((Array.range (c.toNat * ie.size)).map (z.cells[· % z.cells.size]!))) (fz := (0, 0)) true hI hf (by omega) (fun i hi' => by rw [(hpre i hi').1]; exact r2 i (hpre i hi').2) (by intro i _ h; omega)
    (slcNew_VR (sz := 0) hln (by intro k hk; cases hk) (by intro e he; injection he with he; subst he; simp) C)⟩
  have hask : ∀ n, (askRoom n).run P w = .ok () w := by intro n; unfold askRoom; split <;> rfl
  simp only [Instr.makeSlice, Sem.run_bind, run_underlying hu, Result.andThen_ok, Go.asInt, asIntOf, Sem.run_pure, info_of hi, wl, wc]
  have hc1 : ¬ ((decide (c < 0) || decide ((ie.bytes : Int) * c > 2 ^ 48)) = true ∨ l < 0 ∨ l > c) := by
    simp only [Bool.or_eq_true, decide_eq_true_eq]; omega
  have hc2 : ((decide (c < 0) || decide ((ie.bytes : Int) * c > 2 ^ 48)) || decide (l < 0) || decide (l > c)) = false := by
    simp only [Bool.or_eq_false_iff, decide_eq_false_iff_not]; omega
  rw [if_neg (by rw [hc2]; simp)]
  simp only [Sem.run_bind, hask, Result.andThen_ok, sizeOf_of hi]
  have hm0 : c.toNat * ie.size = 0 → ((Array.range (c.toNat * ie.size)).map ((#[] : Array Value)[· % (#[] : Array Value).size]!)) = (Array.range (c.toNat * ie.size)).map (z.cells[· % z.cells.size]!) := fun h0 => by rw [h0]; simp
  split
  · rename_i h0
    simp only [Sem.run_bind, Sem.run_pure, Result.andThen_ok, hm0 h0, newRow_run]
  · simp only [Sem.run_bind, Sem.run_pure, Result.andThen_ok, zero_of hi hz, newRow_run]
end
end Go.Proofs.YtplejhefhnmabaaGreatDoor.Am

/- Abstract machine, part I: what a slice or a text shows; texts of bytes; copies. -/
namespace Go.Proofs.YtplejhefhnmabaaGreatDoor.Am
set_option linter.unusedSimpArgs false
set_option linter.unusedVariables false
section
variable {P : Program} {C : Cx} {ρ : Rho} {ρ' : Operand → Value} {w : World} {lit : Lit} {sy : Sy} {nx : Nat}
theorem getD_take_drop (l : List AV) (o n i : Nat) (h : i < n) : ((l.drop o).take n).getD i .any = l.getD (o + i) .any := by
  simp [List.getD_eq_getElem?_getD, List.getElem?_take, h, List.getElem?_drop]
theorem src_slc {b : Nm} {o n size : Nat} {cap : Cp} {blk : ABlk} {a : Addr} {cap' : Nat} (hx : VR C (.slc b o n cap) (.slice (some a) n cap')) (hB : BlkAt C b blk w) (hfit : o + n * size ≤ blk.cells.length) (m : Nat) (hm : m ≤ n) :
    ∃ cs, (Builtin.firstCells size m (.slice (some a) n cap')).run P w = .ok cs w ∧ cs.size = m * size ∧ ∀ i, i < m * size → VR C (((blk.cells.drop o).take (m * size)).getD i .any) (cs.getD i undef) := by
  have hmn : m * size ≤ n * size := Nat.mul_le_mul_right _ hm
  by_cases h0 : m * size = 0
  · refine ⟨#[], ?_, by simp [h0], fun i hi => by omega⟩
    simp only [Builtin.firstCells, h0, loadCells, loadCellsFrom]; rfl
  · cases hx with
    | slc _ _ _ _ _ _ g1 g2 g3 =>
      have hn : 0 < m := by rcases Nat.eq_zero_or_pos m with h | h; subst h; simp at h0; exact h
      obtain ⟨c, hc, ha, _⟩ := g1 (by omega)
      subst ha
      obtain ⟨vs, h1, h2, h3, _⟩ := cells_of (P := P) hB hc (o := o) (n := m * size) (by omega)
      exact ⟨vs, by simp only [Builtin.firstCells, h1], h2, fun i hi => by rw [getD_take_drop _ _ _ _ hi]; exact h3 i hi⟩
/-- What is shown: its length, its first cells. -/
theorem src_ok {size : Nat} {x : AV} {x' : Value} {cells : List AV} {n : Nat} {rd : List Nat} {ob : List Ob} (hx : VR C x x') (e : srcA lit sy size x = some (cells, n, rd, ob)) (ho : Obs ob)
    {R : List Nat} (hI : Inj C (restr lit R) sy w) (hR : ∀ k, memN rd k = true → memN R k = true) :
    (Builtin.lenOf x').run P w = .ok n w ∧ cells.length = n * size ∧ ∀ m, m ≤ n → ∃ cs, (Builtin.firstCells size m x').run P w = .ok cs w ∧ cs.size = m * size ∧ ∀ i, i < m * size → VR C ((cells.take (m * size)).getD i .any) (cs.getD i undef) := by
  have tk : ∀ (l : List AV) (o m : Nat), m ≤ n → ((l.drop o).take (n * size)).take (m * size) = (l.drop o).take (m * size) := fun l o m hm => by rw [List.take_take, Nat.min_eq_left (Nat.mul_le_mul_right _ hm)]
  unfold srcA at e
  split at e
  · injection e with e; injection e with e1 e; injection e with e2 e; injection e with e3 e4; subst e1; subst e2
    cases hx
    exact ⟨rfl, by simp, fun m hm => ⟨#[], by simp [Builtin.firstCells], by simp at hm; simp [hm], fun i hi => by simp at hm; simp [hm] at hi⟩⟩
  · rename_i b o n' cap
    split at e
    · rename_i blk hg
      injection e with e; injection e with e1 e; injection e with e2 e; injection e with e3 e4; subst e1; subst e2; subst e3; subst e4
      simp only [Obs, chkLe_holds] at ho
      have hB := blk_of hI hg (fun k hk => hR k (nmL_mem' k hk))
      cases hx with
      | slc _ _ _ _ a cap' g1 g2 g3 =>
        refine ⟨rfl, by simp; omega, fun m hm => ?_⟩
        obtain ⟨cs, h1, h2, h3⟩ := src_slc (P := P) (VR.slc _ _ _ _ _ _ g1 g2 g3) hB ho.1 m hm
        exact ⟨cs, h1, h2, fun i hi => by rw [tk _ _ _ hm]; exact h3 i hi⟩
    · cases e
  · rename_i b o n' cap
    split at e
    · rename_i blk hg
      injection e with e; injection e with e1 e; injection e with e2 e; injection e with e3 e4; subst e1; subst e2; subst e3; subst e4
      simp only [Obs, chkLe_holds] at ho
      have hB := blk_of hI hg (fun k hk => hR k (nmL_mem' k hk))
      cases hx with
      | lstn => exact ⟨rfl, by simp, fun m hm => ⟨#[], by simp [Builtin.firstCells], by simp at hm; simp [hm], fun i hi => by simp at hm; simp [hm] at hi⟩⟩
      | lsts _ _ _ _ a cap' hx =>
        refine ⟨rfl, by simp; omega, fun m hm => ?_⟩
        obtain ⟨cs, h1, h2, h3⟩ := src_slc (P := P) hx hB ho.1 m hm
        exact ⟨cs, h1, h2, fun i hi => by rw [tk _ _ _ hm]; exact h3 i hi⟩
    · cases e
  · rename_i s
    split at e
    · injection e with e; injection e with e1 e; injection e with e2 e; injection e with e3 e4; subst e1; subst e2
      cases hx
      refine ⟨rfl, by simp [bytesA], fun m hm => ⟨(s.extract 0 m).data.map fun b => .int .u8 b.toNat, by simp [Builtin.firstCells], ?_, ?_⟩⟩
      · have : s.data.size = s.size := rfl
        simp [ByteArray.data_extract]; omega
      · intro i hi
        have hs : s.data.size = s.size := rfl
        have hi' : i < s.data.size := by omega
        have hl : i < s.data.toList.length := by simpa using hi'
        simp only [Nat.mul_one] at hi ⊢
        have e1 : (List.take m (bytesA s)).getD i .any = .int .u8 (s.data[i]).toNat := by
          simp [bytesA, List.getD_eq_getElem?_getD, List.getElem?_take, hi, Array.getElem?_eq_getElem hi']
        have e2 : ((s.extract 0 m).data.map fun b => (Value.int .u8 b.toNat)).getD i undef = .int .u8 (s.data[i]).toNat := by
          simp only [ByteArray.data_extract, Array.getD_eq_getD_getElem?, Array.getElem?_map, Array.getElem?_extract]
          rw [if_pos (by omega)]
          simp [Array.getElem?_eq_getElem hi']
        rw [e1, e2]; exact .int _ _
    · cases e
  · cases e
theorem strOf_data {l : List AV} {cs : Array Value} (hl : l.length = cs.size) (hv : ∀ i, i < l.length → VR C (l.getD i .any) (cs.getD i undef)) (hu : ∀ x ∈ l, ∃ n, x = .int .u8 n) :
    cs.toList = l.map fun v => .int .u8 (asInt v) := by
  apply List.ext_getElem?
  intro i
  by_cases hi : i < l.length
  · have h1 := hv i hi
    obtain ⟨n, hn⟩ := hu _ (List.getElem_mem hi)
    rw [List.getD_eq_getElem?_getD, List.getElem?_eq_getElem hi, Option.getD_some, hn] at h1
    have hc : i < cs.size := by omega
    rw [Array.getD_eq_getD_getElem?, Array.getElem?_eq_getElem hc, Option.getD_some] at h1
    rw [Array.getElem?_toList, Array.getElem?_eq_getElem hc, List.getElem?_map, List.getElem?_eq_getElem hi, Option.map_some, hn]
    generalize cs[i] = z at h1
    cases h1; rfl
  · rw [List.getElem?_eq_none (by simp; omega), List.getElem?_eq_none (by simp; omega)]
theorem fold_push (l : List AV) : ∀ s : ByteArray, ((l.map asInt).foldl (fun r n => r.push (UInt8.ofNat n.toNat)) s) = ⟨s.data ++ (l.map fun v => UInt8.ofNat (asInt v).toNat).toArray⟩ := by
  induction l with
  | nil => intro s; simp
  | cons v l ih => intro s; simp only [List.map_cons, List.foldl_cons, ih]; congr 1; simp [ByteArray.push]
theorem toStr_ok {s d e : TypeId} {x : AV} {x' : Value} {cells : List AV} {n : Nat} {rd : List Nat} {ob : List Ob} (hs : P.underlying s = some (.slice e)) (hd : P.underlying d = some .string) (he : P.underlying e = some (.int .u8))
    (hx : VR C x x') (ex : srcA lit sy 1 x = some (cells, n, rd, ob)) (ho : Obs ob) (hu : ∀ x ∈ cells, ∃ n, x = .int .u8 n) (hI : Inj C (restr lit rd) sy w) (hxs : ∀ s, x ≠ .str s) :
    (convert s d x').run P w = .ok (.string (strOf cells)) w := by
  obtain ⟨h1, h2, h3⟩ := src_ok (P := P) hx ex ho hI (fun k h => h)
  obtain ⟨cs, g1, g2, g3⟩ := h3 n (Nat.le_refl n)
  have nilc : ∀ (l c : Nat), x' = .slice none l c → n = 0 → (convert s d x').run P w = .ok (.string (strOf cells)) w := by
    intro l c hx' hn
    subst hx'; subst hn
    have : cells = [] := List.length_eq_zero_iff.1 (by omega)
    subst this
    rw [run_convert_bytes_string w s d e none l c hs he hd]; rfl
  have somec : ∀ a c, x' = .slice (some a) n c → (convert s d x').run P w = .ok (.string (strOf cells)) w := by
    intro a c hx'
    subst hx'
    rw [run_convert_bytes_string w s d e (some a) n c hs he hd]
    simp only [Builtin.firstCells, Nat.mul_one] at g1 g2 g3
    have hd' := strOf_data (cs := cs) (by omega) (fun i hi => by have := g3 i (by omega); rwa [List.take_of_length_le (by omega)] at this) hu
    have hcs : cs = ((cells.map asInt).map (Value.int .u8)).toArray := by
      apply Array.toList_inj.1; rw [hd']; simp
    rw [run_bytesToString w a n c (cells.map asInt) (by rw [g1, hcs]), fold_push]
    simp [strOf]
  unfold srcA at ex
  split at ex
  · cases hx; exact nilc 0 0 rfl (by injection ex with ex; injection ex with _ ex; injection ex with e2 _; exact e2.symm)
  · split at ex
    · injection ex with ex; injection ex with _ ex; injection ex with e2 _; subst e2
      cases hx; exact somec _ _ rfl
    · cases ex
  · split at ex
    · injection ex with ex; injection ex with _ ex; injection ex with e2 _; subst e2
      cases hx
      · exact nilc 0 0 rfl rfl
      · exact somec _ _ rfl
    · cases ex
  · exact absurd rfl (hxs _)
  · cases ex
theorem ofStr_ok {F : Hv} (hI : Inj C F sy w) (hf : C (.loc nx) = none) {s d e : TypeId} {b : ByteArray} (hs : P.underlying s = some .string) (hd : P.underlying d = some (.slice e)) (he : P.underlying e = some (.int .u8)) :
    ∃ v' w1 C1, (convert s d (.string b)).run P w = .ok v' w1 ∧ Res C F sy w nx (.slc (.loc nx) 0 b.size (.own 1)) (oneUp nx ⟨bytesA b, e, true⟩) 1 v' w1 C1 := by
  have hcap : b.size ≤ grownCap w b.size 0 e := by simp [grownCap, Question.cut]
  have hsz : (bytesRow b (grownCap w b.size 0 e)).size = grownCap w b.size 0 e := by simp [bytesRow]; have : b.data.size = b.size := rfl; omega
  have r := Res.alloc (w := w.drew) (nx := nx) (cells := bytesA b) (cs := bytesRow b (grownCap w b.size 0 e)) (t := e) (fz := ((bytesRow b (grownCap w b.size 0 e)).size, (bytesRow b (grownCap w b.size 0 e)).size + 1)) true hI.drew hf
    (by rw [hsz]; simp [bytesA]; have : b.data.size = b.size := rfl; omega) (by
      intro i hi
      have hb : b.data.size = b.size := rfl
      have hi' : i < b.data.size := by simpa [bytesA] using hi
      have e1 : (bytesA b).getD i .any = .int .u8 (b.data[i]).toNat := by simp [bytesA, List.getD_eq_getElem?_getD, Array.getElem?_eq_getElem hi']
      have e2 : (bytesRow b (grownCap w b.size 0 e)).getD i undef = .int .u8 (b.data[i]).toNat := by
        simp only [bytesRow, Array.getD_eq_getD_getElem?]
        rw [Array.getElem?_append_left (by simpa using hi')]
        simp [Array.getElem?_eq_getElem hi']
      rw [e1, e2]; exact .int _ _) (by intro i hi h; simp at h; omega) (slcNew_VR (w := w.drew) (nx := nx) (sz := 0) (cap := .own 1) hcap (by intro k hk; cases hk) (by intro e he; injection he with he; subst he; rw [hsz]; simp) C)
  exact ⟨_, _, _, run_bytes_of_string w s d e b hs hd he, r.val, r.inj, ⟨r.goes.mono, r.goes.syc, r.goes.os, r.goes.tape, r.goes.output, r.goes.size, r.goes.same, r.goes.rng⟩, r.keep⟩
theorem copy_ok {dT sT ty e : TypeId} {ie : TypeInfo} {k o n m : Nat} {cap : Cp} {blk : ABlk} {x : AV} {dv xv : Value} {xs : List AV} {rd : List Nat} {ob : List Ob} (hu : P.underlying dT = some (.slice e)) (hi : P.info? e = some ie)
    (hd : VR C (.slc (.loc k) o n cap) dv) (hx : VR C x xv) (ex : srcA lit sy ie.size x = some (xs, m, rd, ob)) (ho : Obs ob) (hI : Inj C (restr lit (k :: rd)) sy w) (hk : lk lit k = some blk) (hw : blk.wr = true)
    (hfit : o + Nat.min m n * ie.size ≤ blk.cells.length) (h1 : ∀ x ∈ xs.take (Nat.min m n * ie.size), one x = true) :
    ∃ w1, (Builtin.copy_ #[dT, sT] ty #[dv, xv]).run P w = .ok (goInt (Nat.min m n)) w1 ∧ Res C (restr lit (k :: rd)) sy w nx (.int .i64 (Nat.min m n)) (oneUp k { blk with cells := putAt blk.cells o (xs.take (Nat.min m n * ie.size)) }) 0 (goInt (Nat.min m n)) w1 C := by
  obtain ⟨s1, s2, s3⟩ := src_ok (P := P) hx ex ho hI (fun j h => by simp only [memN]; cases Nat.beq k j <;> simp [h])
  obtain ⟨cs, g1, g2, g3⟩ := s3 (Nat.min m n) (Nat.min_le_left _ _)
  have hkr : restr lit (k :: rd) k = some blk := by rw [restr_mem (memN_self k rd)]; exact hk
  have hlen : (xs.take (Nat.min m n * ie.size)).length = cs.toList.length := by
    have : Nat.min m n * ie.size ≤ m * ie.size := Nat.mul_le_mul_right _ (Nat.min_le_left _ _)
    simp; omega
  have hlen' : (xs.take (Nat.min m n * ie.size)).length = Nat.min m n * ie.size := by simp at hlen ⊢; omega
  have hv : ∀ i, i < (xs.take (Nat.min m n * ie.size)).length → VR C ((xs.take (Nat.min m n * ie.size)).getD i .any) (cs.toList.getD i undef) := fun i hi => by
    have := g3 i (by omega); simpa [Array.getD_eq_getD_getElem?, List.getD_eq_getElem?_getD] using this
  cases hd with
  | slc _ _ _ _ a cap' q1 q2 q3 =>
    have hrun : ∀ w1, (storeCells a cs.toList).run P w = .ok () w1 → (Builtin.copy_ #[dT, sT] ty #[.slice (some a) n cap', xv]).run P w = .ok (goInt (Nat.min m n)) w1 := by
      intro w1 hst
      simp only [Builtin.copy_]
      simp only [Sem.run_bind, run_underlying hu, s1, sizeOf_of hi, g1, hst, Result.andThen_ok, Sem.run_pure, List.getElem?_toArray, List.getElem?_cons_zero, List.getElem?_cons_succ]
    by_cases h0 : Nat.min m n * ie.size = 0
    · have hcs : cs.toList = [] := List.length_eq_zero_iff.1 (by rw [← hlen, hlen', h0])
      have hxs : xs.take (Nat.min m n * ie.size) = [] := by rw [h0]; rfl
      refine ⟨w, hrun w (by rw [hcs]; rfl), ?_⟩
      rw [hxs]
      have : ({ blk with cells := putAt blk.cells o [] } : ABlk) = blk := by
        have : putAt blk.cells o [] = blk.cells := by
          apply List.ext_getElem?
          intro i
          have hl : (putAt blk.cells o []).length = blk.cells.length := length_putAt _ _ _
          by_cases hi : i < blk.cells.length
          · have := getD_putAt blk.cells o [] i (by simp; omega)
            rw [if_neg (by simp)] at this
            rw [List.getD_eq_getElem?_getD, List.getD_eq_getElem?_getD, List.getElem?_eq_getElem (by omega), List.getElem?_eq_getElem hi] at this
            rw [List.getElem?_eq_getElem (by omega), List.getElem?_eq_getElem hi]; simpa using this
          · rw [List.getElem?_eq_none (by omega), List.getElem?_eq_none (by omega)]
        rw [this]
      rw [this]
      have hap : (restr lit (k :: rd)).app (oneUp k blk) = restr lit (k :: rd) := by
        funext j; simp only [Hv.app, oneUp]; by_cases hj : j = k
        · subst hj; simp [hkr]
        · simp [hj]
      exact ⟨.int _ _, by rw [hap]; exact hI, by rw [hap]; exact Goes.refl _ _ _, fun _ _ => rfl⟩
    · have hmn : 0 < Nat.min m n := by rcases Nat.eq_zero_or_pos (Nat.min m n) with h | h; rw [h] at h0; simp at h0; exact h
      have hn : Nat.min m n ≤ n := Nat.min_le_right _ _
      obtain ⟨c, hc, ha, _⟩ := q1 (by omega)
      subst ha
      obtain ⟨w1, e1, e2⟩ := stores_ok (P := P) (nx := nx) hI hkr hc hw hlen hv h1 (by rw [hlen']; exact hfit) (VR.int .i64 (Nat.min m n : Nat) : VR C (.int .i64 (Nat.min m n : Nat)) (goInt (Nat.min m n : Nat)))
      exact ⟨w1, hrun w1 e1, e2⟩
end
end Go.Proofs.YtplejhefhnmabaaGreatDoor.Am

/- Abstract machine, part J: append, clear. -/
namespace Go.Proofs.YtplejhefhnmabaaGreatDoor.Am
set_option linter.unusedSimpArgs false
set_option linter.unusedVariables false
section
variable {P : Program} {C : Cx} {ρ : Rho} {ρ' : Operand → Value} {w : World} {lit : Lit} {sy : Sy} {nx : Nat}
/-- Fewer names are told of behind the step. -/
theorem Res.less {F : Hv} {v : AV} {U U' : Up} {nw : Nat} {v' : Value} {w1 : World} {C1 : Cx} (r : Res C F sy w nx v U nw v' w1 C1) (h : ∀ n b, (F.app U') n = some b → (F.app U) n = some b) : Res C F sy w nx v U' nw v' w1 C1 :=
  ⟨r.val, r.inj.sub h, ⟨r.goes.mono, r.goes.syc, r.goes.os, r.goes.tape, r.goes.output, r.goes.size, r.goes.same, fun n b c h1 h2 => r.goes.rng n b c (h _ _ h1) h2⟩, r.keep⟩
/-- The count of draws is no matter. -/
theorem Res.ofDrew {F : Hv} {v : AV} {U : Up} {nw : Nat} {v' : Value} {w1 : World} {C1 : Cx} (r : Res C F sy w.drew nx v U nw v' w1 C1) : Res C F sy w nx v U nw v' w1 C1 :=
  ⟨r.val, r.inj, ⟨r.goes.mono, r.goes.syc, r.goes.os, r.goes.tape, r.goes.output, r.goes.size, r.goes.same, r.goes.rng⟩, r.keep⟩
theorem upOf_mv (k nx : Nat) (b : ABlk) (n : Nat) : upOf [(nx, b)] [k] n = if n = nx then some (some b) else if n = k then some none else none := by
  simp only [upOf, lk, memN]
  by_cases h : n = nx
  · subst h; simp [Nat.beq_refl]
  · rw [beqf (Ne.symm h)]
    by_cases h2 : n = k
    · subst h2; simp [Nat.beq_refl, h]
    · rw [beqf (Ne.symm h2)]; simp [h, h2]
/-- A name that stands for nothing: no cells. -/
theorem Res.virt {F : Hv} {k e : Nat} {v : AV} {v' : Value} (hI : Inj C F sy w) (hf : C (.loc nx) = none) (hr : VR C v v') (wr : Bool) : Res C F sy w nx v (upOf [(nx, ⟨[], e, wr⟩)] [k]) 1 v' w C := by
  have hap : ∀ n b, (F.app (upOf [(nx, ⟨[], e, wr⟩)] [k])) n = some b → (n = nx ∧ b = ⟨[], e, wr⟩) ∨ (n ≠ nx ∧ F n = some b) := fun n b h => by
    simp only [Hv.app, upOf_mv] at h
    by_cases hn : n = nx
    · subst hn; simp at h; exact .inl ⟨rfl, h.symm⟩
    · by_cases hk : n = k
      · simp [hn, hk] at h; split at h <;> simp_all
      · simp [hn, hk] at h; exact .inr ⟨hn, h⟩
  refine ⟨hr, ⟨?_, hI.sy_, ?_, ?_, hI.inw⟩, ⟨Cx.le_refl C, fun _ => rfl, rfl, rfl, rfl, Nat.le_refl _, fun _ _ _ => rfl, ?_⟩, fun _ _ => rfl⟩
  · intro n b h
    rcases hap n b h with ⟨rfl, rfl⟩ | ⟨_, h⟩
    · exact .inl ⟨hf, rfl⟩
    · exact hI.at_ n b h
  · intro n m b b' c c' h1 h2 hne hww hc hc'
    rcases hap n b h1 with ⟨rfl, rfl⟩ | ⟨_, g1⟩
    · rw [hf] at hc; cases hc
    · rcases hap m b' h2 with ⟨rfl, rfl⟩ | ⟨_, g2⟩
      · rw [hf] at hc'; cases hc'
      · exact hI.sep n m b b' c c' g1 g2 hne hww hc hc'
  · intro n b c h1 hw hc
    rcases hap n b h1 with ⟨rfl, rfl⟩ | ⟨_, g1⟩
    · rw [hf] at hc; cases hc
    · exact hI.seps n b c g1 hw hc
  · intro n b c h1 hc
    rcases hap n b h1 with ⟨rfl, rfl⟩ | ⟨_, g1⟩
    · rw [hf] at hc; cases hc
    · exact .inr ⟨n, b, c, g1, hc, rfl, id⟩
/-- A block goes on under a new name, from a place on, with a row put into it. -/
theorem Res.moved {F : Hv} {k o p : Nat} {b : ABlk} {nc : List AV} {vs' : List Value} (hI : Inj C F sy w) (hf : C (.loc nx) = none) (hk : F k = some b) (hw : b.wr = true)
    {c : CB} {cs : Array Value} {fz : Nat × Nat} (hc : C (.loc k) = some c) (hb : w.heap[c.blk]? = some (.cells cs b.elem fz)) (ho : o ≤ c.size) (hn : nc.length ≤ c.size - o)
    (hv : ∀ i, i < nc.length → VR C (nc.getD i .any) ((setRow cs (c.base + p) vs').getD (c.base + o + i) undef)) {v : AV} {v' : Value} (hr : VR (C.lay nx ⟨c.blk, c.base + o, c.size - o⟩) v v') :
    Res C F sy w nx v (upOf [(nx, ⟨nc, b.elem, true⟩)] [k]) 1 v' { w with heap := w.heap.setIfInBounds c.blk (.cells (setRow cs (c.base + p) vs') b.elem fz) } (C.lay nx ⟨c.blk, c.base + o, c.size - o⟩) := by
  have hkn : k ≠ nx := fun h => by subst h; rw [hc] at hf; cases hf
  have hle : Cx.le C (C.lay nx ⟨c.blk, c.base + o, c.size - o⟩) := Cx.lay_le hf
  have hbs : c.base + c.size ≤ cs.size ∧ (∀ i, i < c.size → ¬ (fz.1 ≤ c.base + i ∧ c.base + i < fz.2)) := by
    rcases hI.at_ k b hk with ⟨g1, _⟩ | ⟨c2, cs2, fz2, g1, g2, g3, g4, g5, g6⟩
    · rw [hc] at g1; cases g1
    · rw [hc] at g1; injection g1 with g1; subst g1
      rw [hb] at g2; injection g2 with g2; injection g2 with e1 e2 e3; subst e1; subst e3
      exact ⟨g3, g6 hw⟩
  have other : ∀ B, B ≠ c.blk → (w.heap.setIfInBounds c.blk (.cells (setRow cs (c.base + p) vs') b.elem fz))[B]? = w.heap[B]? := fun B hB => Array.getElem?_setIfInBounds_ne (Ne.symm hB)
  have at' : (w.heap.setIfInBounds c.blk (.cells (setRow cs (c.base + p) vs') b.elem fz))[c.blk]? = some (.cells (setRow cs (c.base + p) vs') b.elem fz) := by
    rw [Array.getElem?_setIfInBounds_self_of_lt (hI.inw _ _ hc)]
  have nm : ∀ n d, (C.lay nx ⟨c.blk, c.base + o, c.size - o⟩) (.loc n) = some d → n ≠ nx → C (.loc n) = some d := fun n d h hn => by rwa [Cx.lay_ne (by simpa using hn)] at h
  have hap : ∀ n b', (F.app (upOf [(nx, ⟨nc, b.elem, true⟩)] [k])) n = some b' → (n = nx ∧ b' = ⟨nc, b.elem, true⟩) ∨ (n ≠ nx ∧ n ≠ k ∧ F n = some b') := fun n b' h => by
    simp only [Hv.app, upOf_mv] at h
    by_cases hn : n = nx
    · subst hn; simp at h; exact .inl ⟨rfl, h.symm⟩
    · by_cases hk : n = k
      · subst hk; simp [hn] at h
      · simp [hn, hk] at h; exact .inr ⟨hn, hk, h⟩
  refine ⟨hr, ⟨?_, ?_, ?_, ?_, ?_⟩, ⟨hle, fun s => Cx.lay_ne (by simp), rfl, rfl, rfl, by simp, ?_, ?_⟩, fun n hn => Cx.lay_ne (by intro h; injection h with h; exact hn ⟨by omega, by omega⟩)⟩
  · intro n b' h
    rcases hap n b' h with ⟨rfl, rfl⟩ | ⟨h1, h2, h3⟩
    · refine .inr ⟨_, _, fz, Cx.lay_at _ _ _, at', by rw [size_setRow]; simp only; omega, hn, fun i hi => (hv i hi).mono hle, fun _ i hi => ?_⟩
      have := hbs.2 (o + i) (by simp only at hi; omega)
      rwa [← Nat.add_assoc] at this
    · exact (hI.at_ n b' h3).of hle (fun h => by rw [Cx.lay_ne (by simpa using h1)]; exact h) fun d hd => other _ fun e => hI.sep n k b' b d c h3 hk h2 (.inr hw) hd hc e
  · exact sy.stab _ _ hI.sy_ fun B hB => other _ fun e => hI.seps k b c hk hw hc (e ▸ hB)
  · intro n m b1 b2 c1 c2 h1 h2 hne hww hc1 hc2 e
    rcases hap n b1 h1 with ⟨rfl, rfl⟩ | ⟨g1, g2, g3⟩
    · rw [Cx.lay_at] at hc1; injection hc1 with hc1; subst hc1
      rcases hap m b2 h2 with ⟨rfl, _⟩ | ⟨q1, q2, q3⟩
      · exact hne rfl
      · exact hI.sep m k b2 b c2 c q3 hk q2 (.inr hw) (nm m c2 hc2 q1) hc e.symm
    · rcases hap m b2 h2 with ⟨rfl, rfl⟩ | ⟨q1, q2, q3⟩
      · rw [Cx.lay_at] at hc2; injection hc2 with hc2; subst hc2
        exact hI.sep n k b1 b c1 c g3 hk g2 (.inr hw) (nm n c1 hc1 g1) hc e
      · exact hI.sep n m b1 b2 c1 c2 g3 q3 hne hww (nm n c1 hc1 g1) (nm m c2 hc2 q1) e
  · intro n b1 c1 h1 hw1 hc1
    rcases hap n b1 h1 with ⟨rfl, rfl⟩ | ⟨g1, g2, g3⟩
    · rw [Cx.lay_at] at hc1; injection hc1 with hc1; subst hc1
      exact hI.seps k b c hk hw hc
    · exact hI.seps n b1 c1 g3 hw1 (nm n c1 hc1 g1)
  · intro n d hd
    by_cases hn : n = .loc nx
    · subst hn; rw [Cx.lay_at] at hd; injection hd with hd; subst hd; have := hI.inw _ _ hc; simpa using this
    · rw [Cx.lay_ne hn] at hd; have := hI.inw _ _ hd; simpa using this
  · intro B hB hn; exact other B (fun e => hn k b c hk hw hc e.symm)
  · intro n b1 c1 h1 hc1
    rcases hap n b1 h1 with ⟨rfl, rfl⟩ | ⟨g1, g2, g3⟩
    · rw [Cx.lay_at] at hc1; injection hc1 with hc1; subst hc1; exact .inr ⟨k, b, c, hk, hc, rfl, fun _ => hw⟩
    · exact .inr ⟨n, b1, c1, g3, nm n c1 hc1 g1, rfl, id⟩
end
end Go.Proofs.YtplejhefhnmabaaGreatDoor.Am

/- Abstract machine, part K: append, clear, all operations but calls. -/
namespace Go.Proofs.YtplejhefhnmabaaGreatDoor.Am
set_option linter.unusedSimpArgs false
set_option linter.unusedVariables false
section
variable {P : Program} {C : Cx} {ρ : Rho} {ρ' : Operand → Value} {w : World} {lit : Lit} {sy : Sy} {nx : Nat}
theorem choose_cap (need old : Nat) (e : TypeId) (w : World) : (choose (.appendCap need old e)).run P w = .ok (grownCap w need old e) w.drew := rfl
theorem append_grow {t u e ty : TypeId} {du : TypeDesc} {ie : TypeInfo} {z : Value} {x' : Value} {base : Option Addr} {sLen sCap m : Nat} {olds news : Array Value} (hu : P.underlying t = some (.slice e)) (hu2 : P.underlying u = some du) (hd : ∀ k, du ≠ .int k) (hi : P.info? e = some ie) (hz : ie.zero = some z)
    (hlen : (Builtin.lenOf x').run P w = .ok m w) (hold : (Builtin.firstCells ie.size sLen (.slice base sLen sCap)).run P w.drew = .ok olds w.drew) (hnew : (Builtin.firstCells ie.size m x').run P w.drew = .ok news w.drew) (hg : sCap < sLen + m)
    (hb : (sLen + m) * (ie.bytes + 1) ≤ 70368744177664) :
    (Builtin.append_ #[t, u] ty #[.slice base sLen sCap, x']).run P w =
      .ok (.slice (some ⟨w.heap.size, 0, none⟩) (sLen + m) (grownCap w (sLen + m) sCap e)) (w.drew.alloc (.cells (olds ++ news ++ Builtin.zeroCells z.cells (grownCap w (sLen + m) sCap e - (sLen + m))) e)) := by
  have hn : ¬ (sLen + m ≤ sCap) := by omega
  have h1 : sLen + m ≤ 70368744177664 := Nat.le_trans (Nat.le_mul_of_pos_right _ (by omega)) hb
  have h63' : ¬ (9223372036854775807 < ((sLen : Int) + (m : Int))) := by omega
  have h2 : (sLen + m) * ie.bytes ≤ 140737488355328 := Nat.le_trans (Nat.mul_le_mul_left _ (by omega)) (Nat.le_trans hb (by omega))
  have h48 := growslice_fits (bytes := ie.bytes) hg h2
  have h48' : ¬ (281474976710656 < Builtin.nextslicecap (sLen + m) sCap * ie.bytes) := by omega
  have hz2 : (match du with | .int _ => true | _ => false) = false := by cases du <;> first | rfl | exact absurd rfl (hd _)
  have hask : ∀ n (w : World), (askRoom n).run P w = .ok () w := by intro n w; unfold askRoom; split <;> rfl
  have hzz : (decide (du matches .int _)) = false := by cases du <;> first | rfl | exact absurd rfl (hd _)
  have hmx : IntKind.i64.max = 9223372036854775807 := rfl
  simp only [Builtin.append_, List.getElem?_toArray, List.getElem?_cons_zero, List.getElem?_cons_succ, Sem.run_bind, run_underlying hu, run_underlying hu2, Result.andThen_ok, sizeOf_of hi, Sem.run_pure]
  cases du <;> first
    | exact absurd rfl (hd _)
    | (simp only [Bool.false_eq_true, if_false, Sem.run_bind, hlen, Result.andThen_ok, if_neg hn, info_of hi, hmx]
       have h63 : ¬ ((((sLen + m : Nat) : Int) > 9223372036854775807) ∧ (False ∨ ie.bytes = 0)) := by intro h; omega
       have h63'' : ¬ ((((sLen + m : Nat) : Int) > 9223372036854775807) ∧ (false = true ∨ ie.bytes = 0)) := by intro h; omega
       first
       | rw [if_neg h63]
       | rw [if_neg h63'']
       | skip
       simp only [Sem.run_bind, info_of hi, Result.andThen_ok]
       rw [if_neg (show ¬ Builtin.nextslicecap (sLen + m) sCap * ie.bytes > 2 ^ 48 by omega)]
       simp only [Sem.run_bind, choose_cap, hask, info_of hi, Result.andThen_ok, hold, hnew, Bool.not_false, if_true, zero_of hi hz, newRow_run, Sem.run_pure]
       rfl)
theorem append_here {t u e ty : TypeId} {du : TypeDesc} {ie : TypeInfo} {x' : Value} {a : Addr} {sLen sCap m : Nat} {news : Array Value} {w1 : World} (hu : P.underlying t = some (.slice e)) (hu2 : P.underlying u = some du) (hd : ∀ k, du ≠ .int k) (hi : P.info? e = some ie)
    (hlen : (Builtin.lenOf x').run P w = .ok m w) (hnew : (Builtin.firstCells ie.size m x').run P w = .ok news w) (hg : sLen + m ≤ sCap) (hst : (storeCells (a.add (sLen * ie.size)) news.toList).run P w = .ok () w1) :
    (Builtin.append_ #[t, u] ty #[.slice (some a) sLen sCap, x']).run P w = .ok (.slice (some a) (sLen + m) sCap) w1 := by
  simp only [Builtin.append_, List.getElem?_toArray, List.getElem?_cons_zero, List.getElem?_cons_succ, Sem.run_bind, run_underlying hu, run_underlying hu2, Result.andThen_ok, sizeOf_of hi, Sem.run_pure]
  cases du <;> first
    | exact absurd rfl (hd _)
    | (simp only [Bool.false_eq_true, if_false, Sem.run_bind, hlen, Result.andThen_ok, if_pos hg, Bool.not_false, if_true, hnew, hst, Sem.run_pure])
theorem append_here_nil {t u e ty : TypeId} {du : TypeDesc} {ie : TypeInfo} {x' : Value} {news : Array Value} (hu : P.underlying t = some (.slice e)) (hu2 : P.underlying u = some du) (hd : ∀ k, du ≠ .int k) (hi : P.info? e = some ie)
    (hlen : (Builtin.lenOf x').run P w = .ok 0 w) (hnew : (Builtin.firstCells ie.size 0 x').run P w = .ok news w) :
    (Builtin.append_ #[t, u] ty #[.slice none 0 0, x']).run P w = .ok (.slice none 0 0) w := by
  simp only [Builtin.append_, List.getElem?_toArray, List.getElem?_cons_zero, List.getElem?_cons_succ, Sem.run_bind, run_underlying hu, run_underlying hu2, Result.andThen_ok, sizeOf_of hi, Sem.run_pure]
  cases du <;> first
    | exact absurd rfl (hd _)
    | (simp only [Bool.false_eq_true, if_false, Sem.run_bind, hlen, Result.andThen_ok, Nat.add_zero, Nat.le_refl, if_true, Bool.not_false, hnew, Sem.run_pure])
/-- A new row of what was there, what comes behind it, and zeros. -/
theorem grown_res {F : Hv} (hI : Inj C F sy w) (hf : C (.loc nx) = none) {xs ys : List AV} {olds news rest : Array Value} {e size len cap' : Nat} (h1 : xs.length = olds.size) (h2 : ys.length = news.size) (hv : ∀ i, i < xs.length → VR C (xs.getD i .any) (olds.getD i undef)) (gv : ∀ i, i < ys.length → VR C (ys.getD i .any) (news.getD i undef))
    (hl : len ≤ cap') (hs : cap' * size ≤ olds.size + news.size + rest.size) {v : AV} (hvv : ∀ D a, VR D (.slc (.loc nx) 0 len (.own size)) (.slice (some a) len cap') → VR D v (.slice (some a) len cap')) :
    ∃ C1, Res C F sy w nx v (oneUp nx ⟨xs ++ ys, e, true⟩) 1 (.slice (some ⟨w.heap.size, 0, none⟩) len cap') (w.drew.alloc (.cells (olds ++ news ++ rest) e)) C1 := by
  refine ⟨_, Res.ofDrew (Res.alloc (w := w.drew) (cs := olds ++ news ++ rest) (fz := (0, 0)) true hI.drew hf (by simp; omega) ?_ (by intro i _ h; omega) (hvv _ _ (slcNew_VR (w := w.drew) (sz := 0) hl (by intro k hk; cases hk) (by intro e he; injection he with he; subst he; simp; omega) C)))⟩
  intro i hi
  simp only [List.length_append] at hi
  by_cases h : i < xs.length
  · have e1 : (xs ++ ys).getD i .any = xs.getD i .any := by simp [List.getD_eq_getElem?_getD, List.getElem?_append_left h]
    have e2 : (olds ++ news ++ rest).getD i undef = olds.getD i undef := by
      simp only [Array.getD_eq_getD_getElem?]
      rw [Array.getElem?_append_left (by simp; omega), Array.getElem?_append_left (by omega)]
    rw [e1, e2]; exact hv i h
  · have e1 : (xs ++ ys).getD i .any = ys.getD (i - xs.length) .any := by simp [List.getD_eq_getElem?_getD, List.getElem?_append_right (show xs.length ≤ i by omega)]
    have e2 : (olds ++ news ++ rest).getD i undef = news.getD (i - xs.length) undef := by
      simp only [Array.getD_eq_getD_getElem?]
      rw [Array.getElem?_append_left (by simp; omega), Array.getElem?_append_right (by omega), h1]
    rw [e1, e2]; exact gv _ (by omega)
/-- Append to a list of one's own. -/
theorem appendOwn_ok {t u e ty : TypeId} {du : TypeDesc} {ie : TypeInfo} {z : Value} {x : AV} {x' : Value} {k o n m : Nat} {blk : ABlk} {xs : List AV} {rd : List Nat} {ob : List Ob} {a : Addr} {cap' : Nat} (hu : P.underlying t = some (.slice e)) (hu2 : P.underlying u = some du) (hd : ∀ k, du ≠ .int k)
    (hi : P.info? e = some ie) (hz : ie.zero = some z) (hzs : z.cells.size = ie.size) (hs : VR C (.slc (.loc k) o n (.own ie.size)) (.slice (some a) n cap')) (hx : VR C x x') (ex : srcA lit sy ie.size x = some (xs, m, rd, ob)) (ho : Obs ob)
    (hI : Inj C (restr lit (k :: rd)) sy w) (hf : C (.loc nx) = none) (hk : lk lit k = some blk) (hw : blk.wr = true) (hel : blk.elem = e) (hfit : o + n * ie.size = blk.cells.length) (hb : (n + m) * (ie.bytes + 1) ≤ 70368744177664) (h1 : ∀ x ∈ xs, one x = true)
    {v : AV} (hvv : ∀ D a c, VR D (.slc (.loc nx) 0 (n + m) (.own ie.size)) (.slice (some a) (n + m) c) → VR D v (.slice (some a) (n + m) c)) :
    ∃ v' w1 C1, (Builtin.append_ #[t, u] ty #[.slice (some a) n cap', x']).run P w = .ok v' w1 ∧ Res C (restr lit (k :: rd)) sy w nx v (upOf [(nx, ⟨blk.cells.drop o ++ xs, e, true⟩)] [k]) 1 v' w1 C1 := by
  have hsub : ∀ j, memN rd j = true → memN (k :: rd) j = true := fun j h => by simp only [memN]; cases Nat.beq k j <;> simp [h]
  obtain ⟨s1, s2, s3⟩ := src_ok (P := P) hx ex ho hI hsub
  have hkr : restr lit (k :: rd) k = some blk := by rw [restr_mem (memN_self k rd)]; exact hk
  have hB := hI.at_ k blk hkr
  by_cases hle : n + m ≤ cap'
  · obtain ⟨cs, g1, g2, g3⟩ := s3 m (Nat.le_refl m)
    have hxl : xs.length = cs.toList.length := by simp; omega
    have hxt : xs.take (m * ie.size) = xs := List.take_of_length_le (by omega)
    rw [hxt] at g3
    cases hs with
    | slc _ _ _ _ _ _ q1 q2 q3 =>
      by_cases hc0 : cap' = 0
      · subst hc0
        have hn : n = 0 := by omega
        have hm : m = 0 := by omega
        subst hn; subst hm
        have hcs : cs.toList = [] := List.length_eq_zero_iff.1 (by rw [← hxl, s2]; simp)
        have hxs : xs = [] := List.length_eq_zero_iff.1 (by rw [s2]; simp)
        refine ⟨_, w, C, append_here hu hu2 hd hi s1 g1 hle (by rw [hcs]; rfl), ?_⟩
        have : blk.cells.drop o ++ xs = [] := by rw [hxs, List.drop_of_length_le (by omega)]; rfl
        rw [this]
        exact Res.virt hI hf (hvv C a 0 (.slc _ _ _ _ _ _ (fun h => absurd rfl h) (Nat.le_refl _) (by intro k hk; cases hk))) true
      · obtain ⟨c, hc, ha, hsz⟩ := q1 hc0
        subst ha
        have hsz := hsz _ rfl
        have hcap : n * ie.size + m * ie.size ≤ cap' * ie.size := by rw [← Nat.add_mul]; exact Nat.mul_le_mul_right _ hle
        rcases hB with ⟨b1, b2⟩ | ⟨c2, cs2, fz, b1, b2, b3, b4, b5, b6⟩
        · rw [hc] at b1; cases b1
        · rw [hc] at b1; injection b1 with b1; subst b1
          have hst := run_storeCells (P := P) blk.elem fz c.blk (c.base + (o + n * ie.size)) cs.toList 0 cs2 w b2 (by omega) (mem_of_getD hxl (fun i hi => by have := g3 i (by omega); simpa [Array.getD_eq_getD_getElem?, List.getD_eq_getElem?_getD] using this) h1)
            (fun j hj => by have := b6 hw (o + n * ie.size + j) (by omega); rwa [show c.base + (o + n * ie.size + j) = c.base + (o + n * ie.size) + 0 + j by omega] at this)
          refine ⟨_, _, C.lay nx ⟨c.blk, c.base + o, c.size - o⟩, append_here hu hu2 hd hi s1 g1 hle (by rw [add_none, Nat.add_assoc]; exact hst), ?_⟩
          rw [Nat.add_zero]
          have hdl : (blk.cells.drop o).length = n * ie.size := by simp; omega
          subst hel
          refine Res.moved (o := o) (p := o + n * ie.size) hI hf hkr hw hc b2 (by omega) (by simp only [List.length_append, hdl]; omega) ?_ (hvv _ _ _ ?_)
          · intro i hi
            simp only [List.length_append, hdl] at hi
            rw [getD_setRow _ _ _ (by omega)]
            by_cases hin : i < n * ie.size
            · rw [if_neg (by omega)]
              have e1 : (blk.cells.drop o ++ xs).getD i .any = blk.cells.getD (o + i) .any := by
                simp only [List.getD_eq_getElem?_getD]; rw [List.getElem?_append_left (by omega), List.getElem?_drop]
              rw [e1, Nat.add_assoc]; exact b5 _ (by omega)
            · rw [if_pos (by omega)]
              have e1 : (blk.cells.drop o ++ xs).getD i .any = xs.getD (i - n * ie.size) .any := by
                simp only [List.getD_eq_getElem?_getD]; rw [List.getElem?_append_right (by omega), hdl]
              rw [e1, show c.base + o + i - (c.base + (o + n * ie.size)) = i - n * ie.size by omega]
              have := g3 (i - n * ie.size) (by omega); simpa [Array.getD_eq_getD_getElem?, List.getD_eq_getElem?_getD] using this
          · refine .slc _ _ _ _ _ _ (fun _ => ⟨_, Cx.lay_at _ _ _, by simp, ?_⟩) hle (by intro k hk; cases hk)
            intro e he; injection he with he; subst he; simp only; omega
  · have hId := hI.drew
    obtain ⟨_, _, d3⟩ := src_ok (P := P) (w := w.drew) hx ex ho hId hsub
    obtain ⟨cs, g1, g2, g3⟩ := d3 m (Nat.le_refl m)
    have hxt : xs.take (m * ie.size) = xs := List.take_of_length_le (by omega)
    rw [hxt] at g3
    obtain ⟨os, k1, k2, k3⟩ := src_slc (P := P) (w := w.drew) (size := ie.size) hs (hId.at_ k blk hkr) (by omega) n (Nat.le_refl n)
    have hrun := append_grow (ty := ty) hu hu2 hd hi hz s1 k1 g1 (show cap' < n + m by omega) hb
    have hdl : (blk.cells.drop o).length = os.size := by simp; omega
    have hcap : n + m ≤ grownCap w (n + m) cap' e := by simp [grownCap, Question.cut]
    have hzc : (Builtin.zeroCells z.cells (grownCap w (n + m) cap' e - (n + m))).size = (grownCap w (n + m) cap' e - (n + m)) * ie.size := by rw [size_zeroCells, hzs]
    obtain ⟨C1, r⟩ := grown_res (rest := Builtin.zeroCells z.cells (grownCap w (n + m) cap' e - (n + m))) (e := e) (size := ie.size) (len := n + m) (cap' := grownCap w (n + m) cap' e) hI hf hdl (show xs.length = cs.size by omega)
      (fun i hi => by have := k3 i (by omega); rwa [List.take_of_length_le (by omega)] at this) (fun i hi => g3 i (by omega)) hcap
      (by rw [hzc, k2, g2, ← Nat.add_mul, ← Nat.add_mul]; exact Nat.mul_le_mul_right _ (by omega)) (v := v) (fun D a h => hvv D a _ h)
    refine ⟨_, _, C1, hrun, r.less ?_⟩
    intro j b hb'
    simp only [Hv.app, upOf_mv] at hb'
    simp only [Hv.app, oneUp]
    by_cases hj : j = nx
    · simp [hj] at hb' ⊢; exact hb'
    · by_cases hjk : j = k
      · subst hjk; simp [hj] at hb'
      · simp [hj, hjk] at hb' ⊢; exact hb'
end
end Go.Proofs.YtplejhefhnmabaaGreatDoor.Am

/- Abstract machine, part L: every operation but a call of a function does what it is said to. -/
namespace Go.Proofs.YtplejhefhnmabaaGreatDoor.Am
set_option linter.unusedSimpArgs false
set_option linter.unusedVariables false
section
variable {P : Program} {C : Cx} {ρ : Rho} {ρ' : Operand → Value} {w : World} {lit : Lit} {sy : Sy} {nx : Nat}
/-- Append to what has no room, or is nil: a new row. -/
theorem appendNew_ok {t u e ty : TypeId} {du : TypeDesc} {ie : TypeInfo} {z : Value} {x : AV} {x' : Value} {base : Option Addr} {n c m : Nat} {ys xs : List AV} {rd R : List Nat} {ob : List Ob} (hu : P.underlying t = some (.slice e)) (hu2 : P.underlying u = some du) (hd : ∀ k, du ≠ .int k)
    (hi : P.info? e = some ie) (hz : ie.zero = some z) (hzs : z.cells.size = ie.size) (hx : VR C x x') (ex : srcA lit sy ie.size x = some (xs, m, rd, ob)) (ho : Obs ob)
    (hI : Inj C (restr lit R) sy w) (hR : ∀ j, memN rd j = true → memN R j = true) (hf : C (.loc nx) = none) (hb : (n + m) * (ie.bytes + 1) ≤ 70368744177664) (hc : c < n + m)
    (hold : ∃ olds : Array Value, (Builtin.firstCells ie.size n (.slice base n c)).run P w.drew = .ok olds w.drew ∧ olds.size = n * ie.size ∧ ys.length = olds.size ∧ ∀ i, i < ys.length → VR C (ys.getD i .any) (olds.getD i undef))
    {v : AV} (hvv : ∀ D a c, VR D (.slc (.loc nx) 0 (n + m) (.own ie.size)) (.slice (some a) (n + m) c) → VR D v (.slice (some a) (n + m) c)) :
    ∃ v' w1 C1, (Builtin.append_ #[t, u] ty #[.slice base n c, x']).run P w = .ok v' w1 ∧ Res C (restr lit R) sy w nx v (oneUp nx ⟨ys ++ xs, e, true⟩) 1 v' w1 C1 := by
  obtain ⟨s1, s2, s3⟩ := src_ok (P := P) hx ex ho hI hR
  have hId := hI.drew
  obtain ⟨_, _, d3⟩ := src_ok (P := P) (w := w.drew) hx ex ho hId hR
  obtain ⟨cs, g1, g2, g3⟩ := d3 m (Nat.le_refl m)
  have hxt : xs.take (m * ie.size) = xs := List.take_of_length_le (by omega)
  rw [hxt] at g3
  obtain ⟨os, k1, k2, k3, k4⟩ := hold
  have hrun := append_grow (ty := ty) hu hu2 hd hi hz s1 k1 g1 hc hb
  have hcap : n + m ≤ grownCap w (n + m) c e := by simp [grownCap, Question.cut]
  have hzc : (Builtin.zeroCells z.cells (grownCap w (n + m) c e - (n + m))).size = (grownCap w (n + m) c e - (n + m)) * ie.size := by rw [size_zeroCells, hzs]
  obtain ⟨C1, r⟩ := grown_res (rest := Builtin.zeroCells z.cells (grownCap w (n + m) c e - (n + m))) (e := e) (size := ie.size) (len := n + m) (cap' := grownCap w (n + m) c e) hI hf k3 (show xs.length = cs.size by omega)
    k4 (fun i hi => g3 i (by omega)) hcap
    (by rw [hzc, k2, g2, ← Nat.add_mul, ← Nat.add_mul]; exact Nat.mul_le_mul_right _ (by omega)) (v := v) (fun D a h => hvv D a _ h)
  exact ⟨_, _, C1, hrun, r⟩
theorem clear_ok {t e ty : TypeId} {ie : TypeInfo} {z : Value} {k o n : Nat} {cap : Cp} {blk : ABlk} {sv : Value} {zc : List AV} (hu : P.underlying t = some (.slice e)) (hi : P.info? e = some ie) (hz : ie.zero = some z) (hc : cellsO (ofV z) = some zc)
    (hs : VR C (.slc (.loc k) o n cap) sv) (hI : Inj C (restr lit [k]) sy w) (hk : lk lit k = some blk) (hw : blk.wr = true) (hfit : o + n * zc.length ≤ blk.cells.length) (h1 : ∀ x ∈ rep n zc, one x = true) :
    ∃ w1, (Builtin.clear_ #[t] ty #[sv]).run P w = .ok (.tuple #[]) w1 ∧ Res C (restr lit [k]) sy w nx (.tup []) (oneUp k { blk with cells := putAt blk.cells o (rep n zc) }) 0 (.tuple #[]) w1 C := by
  have hkr : restr lit [k] k = some blk := by rw [restr_mem (memN_self k [])]; exact hk
  have ht : VR C (.tup []) (.tuple #[]) := .tup [] #[] rfl (fun i hi => by cases hi)
  obtain ⟨zg1, zg2⟩ := cellsO_VR (ofV_VR C z) hc
  have zr := zeros_rel (C := C) hc n zc.length rfl
  have hzeq : Builtin.zeroCells z.cells n = (Array.range (n * zc.length)).map (z.cells[· % z.cells.size]!) := by simp only [Builtin.zeroCells, ← zg1]
  cases hs with
  | slc _ _ _ _ a cap' q1 q2 q3 =>
    by_cases h0 : n = 0
    · subst h0
      refine ⟨w, by simp [Builtin.clear_, run_underlying hu], ?_⟩
      have : putAt blk.cells o (rep 0 zc) = blk.cells := by
        simp only [rep]
        apply List.ext_getElem?
        intro i
        have hl : (putAt blk.cells o []).length = blk.cells.length := length_putAt _ _ _
        by_cases hi : i < blk.cells.length
        · have := getD_putAt blk.cells o [] i (by simp; omega)
          rw [if_neg (by simp)] at this
          rw [List.getD_eq_getElem?_getD, List.getD_eq_getElem?_getD, List.getElem?_eq_getElem (by omega), List.getElem?_eq_getElem hi] at this
          rw [List.getElem?_eq_getElem (by omega), List.getElem?_eq_getElem hi]; simpa using this
        · rw [List.getElem?_eq_none (by omega), List.getElem?_eq_none (by omega)]
      rw [this]
      have hap : (restr lit [k]).app (oneUp k blk) = restr lit [k] := by
        funext j; simp only [Hv.app, oneUp]; by_cases hj : j = k
        · subst hj; simp [hkr]
        · simp [hj]
      exact ⟨ht, by rw [show ({ blk with cells := blk.cells } : ABlk) = blk from rfl, hap]; exact hI, by rw [show ({ blk with cells := blk.cells } : ABlk) = blk from rfl, hap]; exact Goes.refl _ _ _, fun _ _ => rfl⟩
    · obtain ⟨c, hcc, ha, _⟩ := q1 (by omega)
      subst ha
      obtain ⟨w1, e1, e2⟩ := stores_ok (P := P) (nx := nx) (vs' := (Builtin.zeroCells z.cells n).toList) hI hkr hcc hw (by rw [hzeq]; simpa using zr.1) (fun i hi => by rw [hzeq]; have := zr.2 i hi; rw [Array.getD_eq_getD_getElem?] at this; simp only [List.getD_eq_getElem?_getD, Array.getElem?_toList]; simpa only [List.getD_eq_getElem?_getD] using this) h1 (by rw [length_rep]; exact hfit) ht
      refine ⟨w1, ?_, e2⟩
      obtain ⟨n, rfl⟩ : ∃ m, n = m + 1 := ⟨n - 1, by omega⟩
      simp only [Builtin.clear_, List.getElem?_toArray, List.getElem?_cons_zero, Sem.run_bind, run_underlying hu, Result.andThen_ok, zero_of hi hz, e1, Sem.run_pure]
theorem pv_ok {o : Oper} {e : Ent} (h : pv (aopV P ρ o) = some e) (ho : Obs e.ob) : EOk P sy o ρ lit nx e := by
  unfold pv at h
  split at h
  · rename_i v ob hv
    injection h with h; subst h
    exact EOk.pure hv ho
  · cases h
theorem fresh1 {C : Cx} {nx : Nat} (h : ∀ n, InI nx 1 n → C (.loc n) = none) : C (.loc nx) = none := h nx ⟨Nat.le_refl _, by omega⟩
theorem lift_run {s : Sem Value} {v' : Value} {w w1 : World} (h : s.run P w = .ok v' w1) : (do pure (.value (← s)) : Sem Next).run P w = .ok (.value v') w1 := by simp [h]
theorem opdV {x : Operand} {v : AV} (hρ : ∀ x, VR C (ρ x) (ρ' x)) (h : ρ x = v) : VR C v (ρ' x) := h ▸ hρ x
/-- **Every operation but a call of a function.** -/
theorem aopM_ok {o : Oper} {e : Ent} (h : aopM P ρ lit sy nx o = some e) (ho : Obs e.ob) : EOk P sy o ρ lit nx e := by
  obtain ⟨dst, op, type, pos, after, guard⟩ := o
  cases op
  case load t a =>
    simp only [aopM, aLoad, aStore, aAlloc, aBox, aBuildSlice, aMakeSlice, aConvert, aCall, aAppend, aCopy, aClear] at h
    split at h
    · rename_i b off ha
      split at h
      · rename_i blk hg
        split at h
        · rename_i v ob hl
          injection h with h; subst h
          intro C ρ' w hρ hI hf
          obtain ⟨v', h1, h2⟩ := load_ok (P := P) (opdV hρ ha) hI hg hl ho
          exact ⟨v', w, C, .inl (by simp only [execOp]; exact lift_run h1), by rw [upOf_nil]; exact Res.same hI h2⟩
        · cases h
      · cases h
    · rename_i B off ha
      split at h
      · rename_i blk hg
        split at h
        · rename_i v ob hl
          injection h with h; subst h
          intro C ρ' w hρ hI hf
          obtain ⟨v', h1, h2⟩ := loadG_ok (P := P) (opdV hρ ha) hI hg hl ho
          exact ⟨v', w, C, .inl (by simp only [execOp]; exact lift_run h1), by rw [upOf_nil]; exact Res.same hI h2⟩
        · cases h
      · cases h
    · cases h
  case store t a x =>
    simp only [aopM, aLoad, aStore, aAlloc, aBox, aBuildSlice, aMakeSlice, aConvert, aCall, aAppend, aCopy, aClear] at h
    split at h
    · rename_i k off ha
      split at h
      · rename_i blk hg
        split at h
        · rename_i vs i hc hw hi
          injection h with h; subst h
          intro C ρ' w hρ hI hf
          simp only [Obs, chkEq_holds, chkLe_holds, chkOnes_holds] at ho
          obtain ⟨w1, h1, h2⟩ := store_ok (P := P) (nx := nx) (opdV hρ ha) (hρ x) hI hg hc hw hi ho.1 ho.2.1 ho.2.2.1
          exact ⟨undef, w1, C, .inr ⟨by simp only [execOp]; simp [h1], rfl⟩, by rw [upOf_one]; exact h2⟩
        · cases h
      · cases h
    · cases h
  case alloc t =>
    simp only [aopM, aLoad, aStore, aAlloc, aBox, aBuildSlice, aMakeSlice, aConvert, aCall, aAppend, aCopy, aClear] at h
    split at h
    · rename_i i hi
      split at h
      · rename_i z hz
        split at h
        · rename_i cells hc
          injection h with h; subst h
          intro C ρ' w hρ hI hf
          obtain ⟨w1, C1, h1, h2⟩ := newVar_ok (P := P) (t := t) hI (fresh1 hf) (ofV_VR C z) hc
          refine ⟨_, w1, C1, .inl ?_, by rw [upOf_one]; exact h2⟩
          simp only [execOp]
          refine lift_run ?_
          simp only [Instr.alloc, Sem.run_bind, zero_of hi hz, Result.andThen_ok, h1, Sem.run_pure]
        · cases h
      · cases h
    · cases h
  case box t x =>
    simp only [aopM, aLoad, aStore, aAlloc, aBox, aBuildSlice, aMakeSlice, aConvert, aCall, aAppend, aCopy, aClear] at h
    split at h
    · rename_i cells hc
      injection h with h; subst h
      intro C ρ' w hρ hI hf
      obtain ⟨w1, C1, h1, h2⟩ := newVar_ok (P := P) (t := t) hI (fresh1 hf) (hρ x) hc
      refine ⟨_, w1, C1, .inl ?_, by rw [upOf_one]; exact h2⟩
      simp only [execOp]
      refine lift_run ?_
      simp only [Instr.box, Sem.run_bind, Result.andThen_ok, h1, Sem.run_pure]
    · cases h
  case buildSlice t len parts =>
    simp only [aopM, aLoad, aStore, aAlloc, aBox, aBuildSlice, aMakeSlice, aConvert, aCall, aAppend, aCopy, aClear] at h
    split at h
    · rename_i el hu
      split at h
      · rename_i ie hi
        split at h
        · rename_i z hz
          split at h
          · rename_i zc hc hle
            split at h
            · rename_i c ob hf'
              injection h with h; subst h
              intro C ρ' w hρ hI hf
              simp only [Obs, chkEq_holds] at ho
              obtain ⟨v', w1, C1, h1, h2⟩ := buildSlice_ok (P := P) hρ hI (fresh1 hf) hu hi hz hc (Nat.le_of_ble_eq_true hle) ho.1 hf' ho.2
              exact ⟨v', w1, C1, .inl (by simp only [execOp]; exact lift_run h1), by rw [upOf_one]; exact h2⟩
            · cases h
          · cases h
        · cases h
      · cases h
    · cases h
  case makeSlice t l c =>
    simp only [aopM, aLoad, aStore, aAlloc, aBox, aBuildSlice, aMakeSlice, aConvert, aCall, aAppend, aCopy, aClear] at h
    split at h
    · rename_i el hu
      split at h
      · rename_i ie hi
        split at h
        · rename_i z k l' k' c' hz hl hcc
          split at h
          · rename_i zc hc
            injection h with h; subst h
            intro C ρ' w hρ hI hf
            simp only [Obs, chkEq_holds, nonneg_holds, leI_holds] at ho
            have e1 := opdV hρ hl; have e2 := opdV hρ hcc
            generalize hl' : ρ' l = lv at e1
            generalize hc' : ρ' c = cv at e2
            cases e1; cases e2
            obtain ⟨v', w1, C1, h1, h2⟩ := makeSlice_ok (P := P) (k := k) (k' := k') hI (fresh1 hf) hu hi hz hc ho.1 ho.2.1 ho.2.2.1 ho.2.2.2.1 ho.2.2.2.2.1
            exact ⟨v', w1, C1, .inl (by simp only [execOp, hl', hc']; exact lift_run h1), by rw [upOf_one]; exact h2⟩
          · cases h
        · cases h
      · cases h
    · cases h
  case convert s d x =>
    simp only [aopM, aLoad, aStore, aAlloc, aBox, aBuildSlice, aMakeSlice, aConvert, aCall, aAppend, aCopy, aClear] at h
    split at h
    · rename_i el hs hd
      split at h
      · rename_i cells n rd ob he hsrc hns
        injection h with h; subst h
        intro C ρ' w hρ hI hf
        simp only [Obs, isU8s_holds] at ho
        have h1 := toStr_ok (P := P) hs hd he (hρ x) hsrc ho.2 ho.1 hI (fun b hb => by rw [hb] at hns; cases hns)
        exact ⟨_, w, C, .inl (by simp only [execOp]; exact lift_run h1), by rw [upOf_nil]; exact Res.same hI (.str _)⟩
      · cases h
    · rename_i el b hs hd hb
      split at h
      · rename_i he
        injection h with h; subst h
        intro C ρ' w hρ hI hf
        have e1 := opdV hρ hb
        generalize hx' : ρ' x = xv at e1
        cases e1
        obtain ⟨v', w1, C1, h1, h2⟩ := ofStr_ok (P := P) hI (fresh1 hf) hs hd he
        exact ⟨v', w1, C1, .inl (by simp only [execOp, hx']; exact lift_run h1), by rw [upOf_one]; exact h2⟩
      · cases h
    · rename_i es el k of n cp hs hd hx
      split at h
      · rename_i blk he hk hsd
        split at h
        · rename_i hw
          injection h with h; subst h
          intro C ρ' w hρ hI hf
          simp only [Bool.and_eq_true] at hsd
          obtain rfl := Nat.eq_of_beq_eq_true hsd.1
          have hn := Nat.le_of_ble_eq_true hsd.2
          have e1 := opdV hρ hx
          generalize hx' : ρ' x = xv at e1
          have e2 := e1
          cases e1 with
          | slc _ _ _ _ a cap' g1 g2 g3 =>
            obtain ⟨c, hc, ha, _⟩ := g1 (by omega)
            subst ha
            have hF : restr lit [k] k = some blk := by rw [restr_mem (memN_self _ _)]; exact hk
            rcases hI.at_ k blk hF with ⟨q1, _⟩ | ⟨c2, cs, fz, q1, q2, _⟩
            · rw [hc] at q1; cases q1
            · rw [hc] at q1; injection q1 with q1; subst q1
              have hsh : w.shape? c.blk = some (blk.elem, cs.size) := by unfold World.shape?; rw [q2]
              obtain ⟨fz', hfz⟩ : ∃ fz', w.freeze ⟨c.blk, cs.size, none⟩ 1 = { w with heap := w.heap.setIfInBounds c.blk (.cells cs blk.elem fz') } := by
                refine ⟨if fz.1 == fz.2 then (cs.size, cs.size + 1) else (min fz.1 cs.size, max fz.2 (cs.size + 1)), ?_⟩
                unfold World.freeze
                rw [if_neg (by decide)]
                congr 1
                apply Array.ext_getElem?; intro j
                rw [Array.getElem?_modify]
                by_cases hj : j = c.blk
                · subst hj; rw [Array.getElem?_setIfInBounds_self_of_lt (hI.inw _ _ hc)]; simp [q2]
                · rw [Array.getElem?_setIfInBounds_ne (Ne.symm hj)]; simp [Ne.symm hj]
              refine ⟨_, w.freeze ⟨c.blk, cs.size, none⟩ 1, C, .inl ?_, by rw [upOf_one]; exact Res.refz hI hF hw hc q2 hfz e2⟩
              simp only [execOp, hx']
              refine lift_run ?_
              obtain rfl : es = el := by rw [hs] at hd; injection hd with hd; injection hd
              simp [convert, run_underlying hs, run_underlying he, markStringish, hsh]
        · cases h
      · cases h
    · exact pv_ok h ho
  case call c =>
    obtain ⟨callee, args, argTypes⟩ := c
    simp only [aopM, aLoad, aStore, aAlloc, aBox, aBuildSlice, aMakeSlice, aConvert, aCall, aAppend, aCopy, aClear] at h
    split at h
    · -- append
      rename_i _ s x t u hargs hts
      have ha' : args = #[s, x] := by rw [← Array.toArray_toList (xs := args), hargs]
      have ht' : argTypes = #[t, u] := by rw [← Array.toArray_toList (xs := argTypes), hts]
      subst ha'; subst ht'
      have run : ∀ {ρ' : Operand → Value} {w w1 : World} {v' : Value}, (Builtin.append_ #[t, u] type #[ρ' s, ρ' x]).run P w = .ok v' w1 → (execOp ρ' ⟨dst, .call ⟨.builtin .append, #[s, x], #[t, u]⟩, type, pos, after, guard⟩).run P w = .ok (.value v') w1 := by
        intro ρ' w w1 v' h; simp [execOp, resolve, invoke, builtin, h]
      split at h
      · rename_i el du hu hu2
        split at h
        · rename_i ie hi hdu
          have hd : ∀ k, du ≠ .int k := by intro k hk; subst hk; cases hdu
          split at h
          · rename_i z xs m rdx obx hz hsrc
            split at h
            · -- nil
              rename_i hs
              split at h
              · injection h with h; subst h
                intro C ρ' w hρ hI hf
                have e1 := opdV hρ hs
                generalize hs' : ρ' s = sv at e1
                cases e1
                obtain ⟨s1, s2, s3⟩ := src_ok (P := P) (hρ x) hsrc ho hI (fun j h => h)
                obtain ⟨cs, g1, _, _⟩ := s3 0 (Nat.le_refl 0)
                exact ⟨_, w, C, .inl (run (by rw [hs']; exact append_here_nil hu hu2 hd hi s1 g1)), by rw [upOf_nil]; exact Res.same hI .nils⟩
              · rename_i m
                injection h with h; subst h
                intro C ρ' w hρ hI hf
                simp only [Obs, chkLe_holds, chkEq_holds] at ho
                have e1 := opdV hρ hs
                generalize hs' : ρ' s = sv at e1
                cases e1
                obtain ⟨v', w1, C1, h1, h2⟩ := appendNew_ok (P := P) (ty := type) (base := none) (n := 0) (c := 0) (ys := []) hu hu2 hd hi hz ho.2.1 (hρ x) hsrc ho.2.2 hI (fun j h => h) (fresh1 hf) (by rw [Nat.zero_add]; exact ho.1) (by omega)
                  ⟨#[], rfl, by simp, by simp, fun i hi => by cases hi⟩ (v := .slc (.loc nx) 0 (m + 1) (.own ie.size)) (fun D a c h => by rw [Nat.zero_add] at h ⊢; exact h)
                exact ⟨v', w1, C1, .inl (run (by rw [hs']; exact h1)), by rw [upOf_one]; exact h2⟩
            · -- a list of one's own
              rename_i k o n sz hs
              split at h
              · rename_i blk hk hsz
                split at h
                · rename_i hwe
                  injection h with h; subst h
                  intro C ρ' w hρ hI hf
                  simp only [Obs, chkLe_holds, chkEq_holds, chkOnes_holds] at ho
                  simp only [Bool.and_eq_true] at hwe
                  have hsz := Nat.eq_of_beq_eq_true hsz
                  have e1 := opdV hρ hs
                  generalize hs' : ρ' s = sv at e1
                  subst hsz
                  cases e1 with
                  | slc _ _ _ _ a cap' g1 g2 g3 =>
                    obtain ⟨v', w1, C1, h1, h2⟩ := appendOwn_ok (P := P) (ty := type) hu hu2 hd hi hz ho.2.2.2.1 (VR.slc _ _ _ _ _ _ g1 g2 g3) (hρ x) hsrc ho.2.2.2.2 hI (fresh1 hf) hk hwe.1 (Nat.eq_of_beq_eq_true hwe.2) ho.1 ho.2.1 ho.2.2.1
                      (v := .slc (.loc nx) 0 (n + m) (.own ie.size)) (fun D a c h => h)
                    exact ⟨v', w1, C1, .inl (run (by rw [hs']; exact h1)), h2⟩
                · cases h
              · cases h
            · -- such a list, or nil
              rename_i k o n sz hs
              split at h
              · rename_i blk hk hsz
                split at h
                · rename_i hwe
                  injection h with h; subst h
                  intro C ρ' w hρ hI hf
                  simp only [Obs, chkLe_holds, chkEq_holds, chkOnes_holds] at ho
                  simp only [Bool.and_eq_true] at hwe
                  have hsz := Nat.eq_of_beq_eq_true hsz
                  have e1 := opdV hρ hs
                  generalize hs' : ρ' s = sv at e1
                  subst hsz
                  have hsub : ∀ j, memN rdx j = true → memN (k :: rdx) j = true := fun j h => by simp only [memN]; cases Nat.beq k j <;> simp [h]
                  cases e1 with
                  | lstn =>
                    have hnil : blk.cells.drop o = [] := List.drop_of_length_le (by omega)
                    by_cases hm : m = 0
                    · subst hm
                      obtain ⟨s1, s2, s3⟩ := src_ok (P := P) (hρ x) hsrc ho.2.2.2.2 hI hsub
                      obtain ⟨cs, q1, _, _⟩ := s3 0 (Nat.le_refl 0)
                      have hxs : xs = [] := List.length_eq_zero_iff.1 (by rw [s2]; simp)
                      refine ⟨_, w, C, .inl (run (by rw [hs']; exact append_here_nil hu hu2 hd hi s1 q1)), ?_⟩
                      simp only [hnil, hxs, List.append_nil]
                      exact Res.virt hI (fresh1 hf) (.lstn _ _ _) true
                    · obtain ⟨v', w1, C1, h1, h2⟩ := appendNew_ok (P := P) (ty := type) (base := none) (n := 0) (c := 0) (ys := blk.cells.drop o) hu hu2 hd hi hz ho.2.2.2.1 (hρ x) hsrc ho.2.2.2.2 hI hsub (fresh1 hf) ho.2.1 (by omega)
                        ⟨#[], rfl, by simp, by rw [hnil]; rfl, fun i hi => by rw [hnil] at hi; cases hi⟩ (v := .lst (.loc nx) 0 (0 + m) (.own ie.size)) (fun D a c h => .lsts _ _ _ _ _ _ h)
                      refine ⟨v', w1, C1, .inl (run (by rw [hs']; exact h1)), h2.less ?_⟩
                      intro j b hb'
                      simp only [Hv.app, upOf_mv] at hb'
                      simp only [Hv.app, oneUp]
                      by_cases hj : j = nx
                      · simp [hj] at hb' ⊢; exact hb'
                      · by_cases hjk : j = k
                        · subst hjk; simp [hj] at hb'
                        · simp [hj, hjk] at hb' ⊢; exact hb'
                  | lsts _ _ _ _ a cap' hx =>
                    obtain ⟨v', w1, C1, h1, h2⟩ := appendOwn_ok (P := P) (ty := type) hu hu2 hd hi hz ho.2.2.2.1 hx (hρ x) hsrc ho.2.2.2.2 hI (fresh1 hf) hk hwe.1 (Nat.eq_of_beq_eq_true hwe.2) ho.1 ho.2.1 ho.2.2.1
                      (v := .lst (.loc nx) 0 (n + m) (.own ie.size)) (fun D a c h => .lsts _ _ _ _ _ _ h)
                    exact ⟨v', w1, C1, .inl (run (by rw [hs']; exact h1)), h2⟩
                · cases h
              · cases h
            · -- nothing, and no room
              rename_i b o n hs
              injection h with h; subst h
              intro C ρ' w hρ hI hf
              simp only [Obs, chkLe_holds, chkEq_holds] at ho
              have e1 := opdV hρ hs
              generalize hs' : ρ' s = sv at e1
              cases e1 with
              | slc _ _ _ _ a cap' g1 g2 g3 =>
                have hcc := g3 0 rfl
                subst hcc
                obtain rfl : n = 0 := by omega
                by_cases hm : m = 0
                · subst hm
                  obtain ⟨s1, s2, s3⟩ := src_ok (P := P) (hρ x) hsrc ho.2.2 hI (fun j h => h)
                  obtain ⟨cs, q1, q2, _⟩ := s3 0 (Nat.le_refl 0)
                  have hxs : xs = [] := List.length_eq_zero_iff.1 (by rw [s2]; simp)
                  have hcs : cs.toList = [] := List.length_eq_zero_iff.1 (by rw [Array.length_toList, q2]; simp)
                  refine ⟨_, w, C, .inl (run (by rw [hs']; exact append_here (ty := type) hu hu2 hd hi s1 q1 (Nat.le_refl _) (by rw [hcs]; rfl))), ?_⟩
                  subst hxs
                  have hr : VR C (.slc (.loc nx) 0 0 (.own ie.size)) (.slice (some a) (0 + 0) 0) := .slc _ _ _ _ _ _ (fun h => absurd rfl h) (Nat.le_refl _) (fun k hk => by cases hk)
                  exact (Res.virt (k := nx) hI (fresh1 hf) hr true).less fun j b hb' => by
                    rw [upOf_one] at hb'
                    simp only [Hv.app, oneUp] at hb'
                    simp only [Hv.app, upOf_mv]
                    by_cases hj : j = nx
                    · rw [if_pos hj] at hb' ⊢; exact hb'
                    · rw [if_neg hj] at hb' ⊢; rw [if_neg hj]; exact hb'
                · obtain ⟨v', w1, C1, h1, h2⟩ := appendNew_ok (P := P) (ty := type) (base := some a) (n := 0) (c := 0) (ys := []) hu hu2 hd hi hz ho.2.1 (hρ x) hsrc ho.2.2 hI (fun j h => h) (fresh1 hf) (by rw [Nat.zero_add]; exact ho.1) (by omega)
                    ⟨#[], by simp [Builtin.firstCells]; rfl, by simp, by simp, fun i hi => by cases hi⟩ (v := .slc (.loc nx) 0 m (.own ie.size)) (fun D a c h => by rw [Nat.zero_add] at h ⊢; exact h)
                  exact ⟨v', w1, C1, .inl (run (by rw [hs']; exact h1)), by rw [upOf_one]; exact h2⟩
            · -- a slice without room
              rename_i b o n c hne hs
              split at h
              · rename_i blk hg hle
                injection h with h; subst h
                intro C ρ' w hρ hI hf
                simp only [Obs, chkLe_holds, chkEq_holds] at ho
                have hlt : c < n + m := by
                  rcases Nat.lt_or_ge c (n + m) with h | h
                  · exact h
                  · rw [Nat.ble_eq_true_of_le h] at hle; cases hle
                have e1 := opdV hρ hs
                generalize hs' : ρ' s = sv at e1
                cases e1 with
                | slc _ _ _ _ a cap' g1 g2 g3 =>
                  have hcc := g3 c rfl
                  subst hcc
                  obtain ⟨os, k1, k2, k3⟩ := src_slc (P := P) (w := w.drew) (size := ie.size) (VR.slc _ _ _ _ _ _ g1 g2 g3) (blk_of hI.drew hg (fun j hj => nmL_mem j hj)) ho.1 n (Nat.le_refl n)
                  obtain ⟨v', w1, C1, h1, h2⟩ := appendNew_ok (P := P) (ty := type) (ys := (blk.cells.drop o).take (n * ie.size)) hu hu2 hd hi hz ho.2.2.1 (hρ x) hsrc ho.2.2.2 hI (fun j h => memN_app h) (fresh1 hf) ho.2.1 hlt
                    ⟨os, k1, k2, by simp; omega, fun i hi => k3 i (by simp at hi; omega)⟩ (v := .slc (.loc nx) 0 (n + m) (.own ie.size)) (fun D a c h => h)
                  exact ⟨v', w1, C1, .inl (run (by rw [hs']; exact h1)), by rw [upOf_one]; exact h2⟩
              · cases h
            · cases h
          · cases h
        · cases h
      · cases h
    · -- copy
      rename_i _ d x t u hargs hts
      have ha' : args = #[d, x] := by rw [← Array.toArray_toList (xs := args), hargs]
      have ht' : argTypes = #[t, u] := by rw [← Array.toArray_toList (xs := argTypes), hts]
      subst ha'; subst ht'
      split at h
      · rename_i el hu
        split at h
        · rename_i ie hi
          split at h
          · rename_i k o n cap xs m rdx obx hd hsrc
            split at h
            · rename_i blk hk
              split at h
              · rename_i hw
                injection h with h; subst h
                intro C ρ' w hρ hI hf
                simp only [Obs, chkLe_holds, chkOnes_holds] at ho
                obtain ⟨w1, h1, h2⟩ := copy_ok (P := P) (nx := nx) (dT := t) (sT := u) (ty := type) hu hi (opdV hρ hd) (hρ x) hsrc ho.2.2 hI hk hw ho.1 ho.2.1
                exact ⟨goInt (Nat.min m n), w1, C, .inl (by simp [execOp, resolve, invoke, builtin, h1]), by rw [upOf_one]; exact h2⟩
              · cases h
            · cases h
          · cases h
        · cases h
      · cases h
    · -- clear
      rename_i _ s t hargs hts
      have ha' : args = #[s] := by rw [← Array.toArray_toList (xs := args), hargs]
      have ht' : argTypes = #[t] := by rw [← Array.toArray_toList (xs := argTypes), hts]
      subst ha'; subst ht'
      split at h
      · rename_i el hu
        split at h
        · rename_i ie hi
          split at h
          · rename_i z k o n cap hz hs
            split at h
            · rename_i blk zc hk hc
              split at h
              · rename_i hw
                injection h with h; subst h
                intro C ρ' w hρ hI hf
                simp only [Obs, chkLe_holds, chkOnes_holds] at ho
                obtain ⟨w1, h1, h2⟩ := clear_ok (P := P) (nx := nx) (ty := type) hu hi hz hc (opdV hρ hs) hI hk hw ho.1 ho.2.1
                exact ⟨.tuple #[], w1, C, .inl (by simp [execOp, resolve, invoke, builtin, h1]), by rw [upOf_one]; exact h2⟩
              · cases h
            · cases h
          · cases h
        · cases h
      · cases h
    · exact pv_ok h ho
  all_goals exact pv_ok h ho
end
end Go.Proofs.YtplejhefhnmabaaGreatDoor.Am

