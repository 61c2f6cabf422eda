/- Contracts printed by this repo's drv.py; walks behind them. -/
import Derived.Test.YtplejhefhnmabaaGreatDoorAmRb1
import Derived.KernelRfl
namespace Go.Proofs.YtplejhefhnmabaaGreatDoor
open Go.RowKit Am
set_option linter.unusedVariables false
set_option linter.unusedSimpArgs false
set_option maxRecDepth 100000
/- Fetch, as a table for closed runs. -/
def nmOf : AV → Option Nat
  | .ptr (.loc n) _ => some n
  | .slc (.loc n) _ _ _ => some n
  | _ => none
def setNm (p : Nat) : AV → AV
  | .ptr (.loc _) o => .ptr (.loc p) o
  | .slc (.loc _) o l c => .slc (.loc p) o l c
  | v => v
def canV : AV → Bool
  | .ptr (.loc _) _ => true
  | .slc (.loc _) _ _ _ => true
  | .nils => true
  | _ => false
theorem setNm_ren {R : Nat → Nat} {p : Nat} {v : AV} (hc : canV v = true) (h : ∀ k, nmOf v = some k → R p = k) : (setNm p v).ren R = v := by
  cases v <;> first | (cases hc; done) | skip
  case ptr b o => cases b with
    | loc k => simp only [setNm, AV.ren, Nm.ren]; rw [h k rfl]
    | sym k => cases hc
  case nils => rfl
  case slc b o l c => cases b with
    | loc k => simp only [setNm, AV.ren, Nm.ren]; rw [h k rfl]
    | sym k => cases hc
def freshN (l : List Nat) : Nat → Nat → Nat
  | 0, n => n
  | k + 1, n => bif memN l n then freshN l k (n + 1) else n
def isU8 : AV → Bool
  | .int k n => kEq k .u8 && (decide (0 ≤ n) && decide (n < 256))
  | _ => false
def isBo : AV → Bool
  | .bool _ => true
  | _ => false
theorem u8s_map : ∀ (l : List AV), l.all isU8 = true → (l.map Am.asInt).map (AV.int .u8) = l ∧ Bs (l.map Am.asInt)
  | [], _ => ⟨rfl, Bs.nil⟩
  | v :: l, h => by
    simp only [List.all_cons, Bool.and_eq_true] at h
    obtain ⟨h1, h2⟩ := u8s_map l h.2
    cases v <;> first | (cases h.1; done) | skip
    rename_i k n
    simp only [isU8, Bool.and_eq_true, decide_eq_true_eq] at h
    have hk : k = .u8 := by have := h.1.1; cases k <;> first | rfl | cases this
    subst hk
    exact ⟨by simp only [List.map_cons, Am.asInt, h1], Bs.cons h.1.2 h2⟩
theorem bos_map : ∀ (l : List AV), l.all isBo = true → (l.map Am.asBool).map AV.bool = l
  | [], _ => rfl
  | v :: l, h => by
    simp only [List.all_cons, Bool.and_eq_true] at h
    cases v <;> first | (cases h.1; done) | skip
    simp only [List.map_cons, Am.asBool, bos_map l h.2]
theorem renL_ints (R : Nat → Nat) (k : IntKind) : ∀ l : List Int, AV.renL R (l.map (AV.int k)) = l.map (AV.int k)
  | [] => rfl
  | a :: l => by simp only [List.map_cons, AV.renL, AV.ren, renL_ints R k l]
theorem renL_bools (R : Nat → Nat) : ∀ l : List Bool, AV.renL R (l.map AV.bool) = l.map AV.bool
  | [] => rfl
  | a :: l => by simp only [List.map_cons, AV.renL, AV.ren, renL_bools R l]
theorem SpecC.atW {P : Program} {sy : Sy} {f : FuncId} {args args1 : List AV} {L L1 lit up up1 : Am.Lit} {k nw nx : Nat} {v v1 : AV} (h : SpecC P sy f args (lk L) k v (upOf up []) nw) (rd : List Nat) (ok : renOk rd k nx L = true)
    (e1 : AV.renL (renR rd k nx) args = args1) (e2 : renLit (renR rd k nx) L = L1) (e3 : v.ren (renR rd k nx) = v1) (e4 : renLit (renR rd k nx) up = up1) (hs : ∀ n b, lk L1 n = some b → lk lit n = some b) (hl : upLt lit nx = true) :
    SpecC P sy f args1 (lk lit) nx v1 (upOf up1 []) nw := by
  obtain ⟨h1, h2⟩ := h.at_ rd nx ok e1 e2 e3 e4 rfl
  exact ⟨h1, fun C w args' ha hI hfr => (h2 C w args' ha (hI.sub hs) hfr).mono fun e w1 ⟨v', C1, he, r⟩ => ⟨v', C1, he, r.frame hI hs (fun n hn => upLt_of hl hn.1)⟩⟩
def capOk (b tp a p y : Int) : Bool := decide (0 ≤ b) && decide (b < 4294967296) && decide (0 ≤ tp) && decide (tp < 4294967296) && decide (0 ≤ a) && decide (a < 4294967296) && decide (0 ≤ p) && decide (p < 65536) && decide (0 ≤ y) && decide (y < 65536)
theorem capOk_ok {t : Bool} {b tp a p y : Int} (h : capOk b tp a p y = true) : Cp.Ok ⟨t, b, tp, a, p, y⟩ := by
  simp only [capOk, Bool.and_eq_true, decide_eq_true_eq] at h
  obtain ⟨⟨⟨⟨⟨⟨⟨⟨⟨h1, h2⟩, h3⟩, h4⟩, h5⟩, h6⟩, h7⟩, h8⟩, h9⟩, h10⟩ := h
  exact ⟨h1, h2, h3, h4, h5, h6, h7, h8, h9, h10⟩
def inst0 : AV := .agg [.int .i64 0, .int .i64 0, .int .i64 0, .int .i64 0, .int .i32 0]
/-- What Fetch answers; none: what is there is no instruction. -/
noncomputable def fetchR (t : Bool) (b tp a p y : Int) (B : List Int) (n nx : Nat) : Option CR :=
  match (accE ⟨t, b, tp, a, p, y⟩ a 4 4 == 0) with
  | false => forceI (accE ⟨t, b, tp, a, p, y⟩ a 4 4) fun e => forceN (nx + 4) fun k => some ⟨.tup [inst0, .ifc 64 (.ptr (.loc k) 0)], [(k, ⟨[.str (ByteArray.mk #[97, 99, 99, 101, 115, 115]), .int .i64 a, .ifc 63 (.int .i64 e)], 66, true⟩)], [], 60⟩
  | true => match spanOk n (IntKind.wrap .i64 a) 4 with
    | false => forceI (IntKind.wrap .i64 a) fun z => forceN (nx + 4) fun k => some ⟨.tup [inst0, .ifc 64 (.ptr (.loc k) 0)], [(k, ⟨[.str (ByteArray.mk #[109, 101, 109]), .int .i64 z, .ifc 63 (.int .i64 6)], 66, true⟩)], [], 60⟩
    | true => forceI (w4 (ldB B (IntKind.wrap .i64 a) 4) 0) fun v => match decide (1 ≤ oV v) && (decide (oV v ≤ 67) && zV (opFm (oV v)) v) with
      | true => forceI (oV v) fun o => forceI (bif hRd (opFm o) then dV v else 0) fun d => forceI (bif hRs (opFm o) then sV v else 0) fun s => forceI (bif hRt (opFm o) then tV v else 0) fun u => forceI (bif hIm (opFm o) then iV v else 0) fun m =>
        some ⟨.tup [.agg [.int .i64 o, .int .i64 d, .int .i64 s, .int .i64 u, .int .i32 m], .nili], [], [], 60⟩
      | false => none
def fRd (s k kb kt : Nat) (xr xi xo : AV) : List Nat :=
  let l := s :: k :: kb :: kt :: ((nmOf xr).toList ++ ((nmOf xi).toList ++ (nmOf xo).toList))
  let d1 := freshN l 12 0
  let d2 := freshN (d1 :: l) 12 0
  let d3 := freshN (d1 :: d2 :: l) 12 0
  [s, k, kb, kt, (nmOf xr).getD d1, (nmOf xi).getD d2, (nmOf xo).getD d3]
noncomputable def orF (next : CallF) : CallF := fun f args lit nx => match Nat.beq f 55 with
  | true => match args with
    | [.ptr (.loc s) 0] => match lk lit s with
      | some ⟨[xr, .bool t, .int .u32 b, .int .u32 tp, .int .u32 a, .int .u16 p, .int .u16 y, .ptr (.loc k) 0, xi, xo], e1, true⟩ => match lk lit k with
        | some ⟨[.slc (.loc kb) 0 n (.own 1), .slc (.loc kt) 0 m (.own 1)], e2, true⟩ => match lk lit kb, lk lit kt with
          | some ⟨bs, e3, true⟩, some ⟨ts, e4, true⟩ =>
            match Nat.beq e1 46 && (Nat.beq e2 90 && (Nat.beq e3 5 && (Nat.beq e4 4 && (canV xr && (canV xi && (canV xo && (bs.all isU8 && (ts.all isBo && (Nat.beq bs.length n && (Nat.beq ts.length m && (Nat.beq n (16 * m) && (Nat.ble n 65536 && (capOk b tp a p y && renOk (fRd s k kb kt xr xi xo) 7 nx [(0, ⟨[], 0, true⟩)]))))))))))))) with
            | true => fetchR t b tp a p y (bs.map Am.asInt) n nx
            | false => none
          | _, _ => none
        | _ => none
      | _ => none
    | _ => none
  | false => next f args lit nx
def fL (s k kb kt : Nat) (xr xi xo : AV) (t : Bool) (b tp a p y : Int) (B : List Int) (Tg : List Bool) (n m : Nat) : Am.Lit :=
  [(s, ⟨[xr, .bool t, .int .u32 b, .int .u32 tp, .int .u32 a, .int .u16 p, .int .u16 y, .ptr (.loc k) 0, xi, xo], 46, true⟩), (k, ⟨[.slc (.loc kb) 0 n (.own 1), .slc (.loc kt) 0 m (.own 1)], 90, true⟩), (kb, ⟨B.map (.int .u8), 5, true⟩), (kt, ⟨Tg.map .bool, 4, true⟩)]
theorem lk4 {lit : Am.Lit} {s k kb kt : Nat} {x1 x2 x3 x4 : ABlk} (h1 : lk lit s = some x1) (h2 : lk lit k = some x2) (h3 : lk lit kb = some x3) (h4 : lk lit kt = some x4) (n : Nat) (x : ABlk) (h : lk [(s, x1), (k, x2), (kb, x3), (kt, x4)] n = some x) : lk lit n = some x := by
  simp only [lk] at h
  cases e1 : Nat.beq s n with
  | true => rw [e1] at h; rw [← Nat.eq_of_beq_eq_true e1, h1]; exact h
  | false =>
    rw [e1] at h
    cases e2 : Nat.beq k n with
    | true => rw [e2] at h; rw [← Nat.eq_of_beq_eq_true e2, h2]; exact h
    | false =>
      rw [e2] at h
      cases e3 : Nat.beq kb n with
      | true => rw [e3] at h; rw [← Nat.eq_of_beq_eq_true e3, h3]; exact h
      | false =>
        rw [e3] at h
        cases e4 : Nat.beq kt n with
        | true => rw [e4] at h; rw [← Nat.eq_of_beq_eq_true e4, h4]; exact h
        | false => rw [e4] at h; cases h
theorem fetch_at {s k kb kt nx : Nat} {xr xi xo : AV} {t : Bool} {b tp a p y : Int} {B : List Int} {Tg : List Bool} {n m : Nat} {lit up0 up1 : Am.Lit} {v0 v1 : AV}
    (h : ∀ xr xi xo, SpecC Tryz.prog GS 55 [.ptr (.loc 0) 0] (lk (fL 0 1 2 3 xr xi xo t b tp a p y B Tg n m)) 7 v0 (upOf up0 []) 60)
    (cr : canV xr = true) (ci : canV xi = true) (co : canV xo = true) (ok : renOk (fRd s k kb kt xr xi xo) 7 nx [(0, ⟨[], 0, true⟩)] = true) (e3 : ∀ R : Nat → Nat, R 11 = nx + 4 → v0.ren R = v1) (e4 : ∀ R : Nat → Nat, R 11 = nx + 4 → renLit R up0 = up1)
    (hs : ∀ n' x, lk (fL s k kb kt xr xi xo t b tp a p y B Tg n m) n' = some x → lk lit n' = some x) (hl : upLt lit nx = true) : SpecC Tryz.prog GS 55 [.ptr (.loc s) 0] (lk lit) nx v1 (upOf up1 []) 60 := by
  have r11 : renR (fRd s k kb kt xr xi xo) 7 nx 11 = nx + 4 := by simp [renR]
  have r0 : renR (fRd s k kb kt xr xi xo) 7 nx 0 = s := rfl
  have r1 : renR (fRd s k kb kt xr xi xo) 7 nx 1 = k := rfl
  have r2 : renR (fRd s k kb kt xr xi xo) 7 nx 2 = kb := rfl
  have r3 : renR (fRd s k kb kt xr xi xo) 7 nx 3 = kt := rfl
  have r4 : (setNm 4 xr).ren (renR (fRd s k kb kt xr xi xo) 7 nx) = xr := setNm_ren cr fun k' hk => by show (nmOf xr).getD _ = k'; rw [hk]; rfl
  have r5 : (setNm 5 xi).ren (renR (fRd s k kb kt xr xi xo) 7 nx) = xi := setNm_ren ci fun k' hk => by show (nmOf xi).getD _ = k'; rw [hk]; rfl
  have r6 : (setNm 6 xo).ren (renR (fRd s k kb kt xr xi xo) 7 nx) = xo := setNm_ren co fun k' hk => by show (nmOf xo).getD _ = k'; rw [hk]; rfl
  have ok' : renOk (fRd s k kb kt xr xi xo) 7 nx (fL 0 1 2 3 (setNm 4 xr) (setNm 5 xi) (setNm 6 xo) t b tp a p y B Tg n m) = true := ok
  generalize fRd s k kb kt xr xi xo = rd at *
  refine SpecC.atW (h (setNm 4 xr) (setNm 5 xi) (setNm 6 xo)) rd ok' ?_ ?_ (e3 _ r11) (e4 _ r11) hs hl
  · simp only [AV.renL, AV.ren, Nm.ren, r0]
  · simp only [fL, renLit, ABlk.ren, AV.renL, AV.ren, Nm.ren, r0, r1, r2, r3, r4, r5, r6, renL_ints, renL_bools]
theorem orF_ok {next : CallF} (hnext : CallOk Tryz.prog GS next) : CallOk Tryz.prog GS (orF next) := by
  intro f args lit nx r h hl
  unfold orF at h
  split at h
  · rename_i hf
    obtain rfl := Nat.eq_of_beq_eq_true hf
    split at h <;> first | (cases h; done) | skip
    rename_i s
    split at h <;> first | (cases h; done) | skip
    rename_i xr t b tp a p y k xi xo e1 hs1
    split at h <;> first | (cases h; done) | skip
    rename_i kb n kt m e2 hs2
    split at h <;> first | (cases h; done) | skip
    rename_i bs e3 ts e4 hs3 hs4
    split at h <;> first | (cases h; done) | skip
    rename_i hb
    simp only [Bool.and_eq_true] at hb
    obtain ⟨q1, q2, q3, q4, cr, ci, co, ub, ut, z1, z2, z3, z4, ck, ok⟩ := hb
    obtain rfl := Nat.eq_of_beq_eq_true q1
    obtain rfl := Nat.eq_of_beq_eq_true q2
    obtain rfl := Nat.eq_of_beq_eq_true q3
    obtain rfl := Nat.eq_of_beq_eq_true q4
    obtain ⟨m1, m2⟩ := u8s_map bs ub
    have m3 := bos_map ts ut
    have hM : MOk (bs.map Am.asInt) (ts.map Am.asBool) n m := ⟨by rw [List.length_map]; exact Nat.eq_of_beq_eq_true z1, by rw [List.length_map]; exact Nat.eq_of_beq_eq_true z2, Nat.eq_of_beq_eq_true z3, Nat.le_of_ble_eq_true z4, m2⟩
    have hc : Cp.Ok ⟨t, b, tp, a, p, y⟩ := capOk_ok ck
    rw [← m1] at hs3
    rw [← m3] at hs4
    have hs := lk4 hs1 hs2 hs3 hs4
    generalize bs.map Am.asInt = B at *
    generalize ts.map Am.asBool = Tg at *
    unfold fetchR at h
    split at h
    · rename_i he
      simp only [forceI_eq, forceN_eq, Option.some.injEq] at h
      subst h
      exact fetch_at (fun xr xi xo => fetchAcc xr xi xo t b tp a p y B Tg n m hM hc he) cr ci co ok (fun R hR => by simp only [inst0, AV.ren, AV.renL, Nm.ren, hR]) (fun R hR => by simp only [renLit, ABlk.ren, AV.ren, AV.renL, hR]) hs hl
    · rename_i he
      split at h
      · rename_i hp
        simp only [forceI_eq, forceN_eq, Option.some.injEq] at h
        subst h
        exact fetch_at (fun xr xi xo => fetchMem xr xi xo t b tp a p y B Tg n m hM hc he hp) cr ci co ok (fun R hR => by simp only [inst0, AV.ren, AV.renL, Nm.ren, hR]) (fun R hR => by simp only [renLit, ABlk.ren, AV.ren, AV.renL, hR]) hs hl
      · rename_i hp
        simp only [forceI_eq] at h
        split at h <;> first | (cases h; done) | skip
        rename_i hd
        simp only [Bool.and_eq_true, decide_eq_true_eq] at hd
        simp only [Option.some.injEq] at h
        subst h
        exact fetch_at (fun xr xi xo => fetchYes xr xi xo t b tp a p y B Tg n m hM hc he hp hd.1 hd.2.1 hd.2.2) cr ci co ok (fun R hR => by simp only [AV.ren, AV.renL]) (fun R hR => rfl) hs hl
  · exact hnext _ _ _ _ _ h hl
noncomputable def or10 : CallF := orF orO
theorem or10_ok : CallOk Tryz.prog GS or10 := orF_ok orO_ok
theorem known11 (nx : Nat) : Am.SpecC Tryz.prog GS 4 [] (Am.lk []) nx (AV.bool true) (Am.upOf [] []) 238 := Am.isTrue_ok mixed or10_ok (lim := 100000) (d := 60) (by kernel_rfl) nx
end Go.Proofs.YtplejhefhnmabaaGreatDoor
