/- The words of an instruction tell it (plain lists of bytes). -/
import Derived.Test.YtgdeffompcikhaaDoorCodeF
import Derived.Test.YtgdeffompcikhaaDoorOpF
import Derived.Lib.ItoaNum
import Derived.Lib.Join
namespace Go.Proofs.YtgdeffompcikhaaDoor
open Go.Lib
set_option linter.unusedSimpArgs false
set_option linter.unusedVariables false
theorem split_u {c : UInt8} : ∀ {x y r r' : List UInt8}, c ∉ x → c ∉ y → x ++ c :: r = y ++ c :: r' → x = y ∧ r = r'
  | [], [], r, r', _, _, h => ⟨rfl, by simpa using h⟩
  | [], b :: y, r, r', _, hy, h => by simp at h; exact absurd (by simp [h.1]) hy
  | a :: x, [], r, r', hx, _, h => by simp at h; exact absurd (by simp [h.1]) hx
  | a :: x, b :: y, r, r', hx, hy, h => by
    simp only [List.cons_append, List.cons.injEq] at h
    obtain ⟨rfl, h⟩ := h
    obtain ⟨rfl, rfl⟩ := split_u (fun hh => hx (by simp [hh])) (fun hh => hy (by simp [hh])) h
    exact ⟨rfl, rfl⟩
theorem dig : ∀ (u : Nat) (b : UInt8), b ∈ decDigits u → 48 ≤ b.toNat ∧ b.toNat ≤ 57 := by
  intro u
  induction u using Nat.strongRecOn with
  | _ u ih =>
    intro b hb
    rw [decDigits] at hb
    split at hb
    · simp at hb; subst hb; simp; omega
    · rename_i h
      rw [List.mem_append] at hb
      rcases hb with hb | hb
      · exact ih (u / 10) (by omega) b hb
      · simp at hb; subst hb; simp; omega
theorem itoa_chars (n : Int) (b : UInt8) (hb : b ∈ itoa n) : b.toNat = 45 ∨ (48 ≤ b.toNat ∧ b.toNat ≤ 57) := by
  unfold itoa at hb
  split at hb
  · simp at hb
    rcases hb with rfl | hb
    · exact .inl rfl
    · exact .inr (dig _ _ hb)
  · exact .inr (dig _ _ hb)
theorem no_itoa (c : UInt8) (hc : c.toNat ≠ 45 ∧ ¬ (48 ≤ c.toNat ∧ c.toNat ≤ 57)) (n : Int) : c ∉ itoa n := fun h => by
  rcases itoa_chars n c h with h | h
  · exact hc.1 h
  · exact hc.2 h
def valD (l : List UInt8) : Nat := l.foldl (fun a b => a * 10 + (b.toNat - 48)) 0
theorem valD_dec : ∀ u : Nat, valD (decDigits u) = u := by
  intro u
  induction u using Nat.strongRecOn with
  | _ u ih =>
    rw [decDigits]
    split
    · simp [valD]; omega
    · rename_i h
      have := ih (u / 10) (by omega)
      unfold valD at this ⊢
      rw [List.foldl_append, this]
      simp; omega
theorem dec_inj {a b : Nat} (h : decDigits a = decDigits b) : a = b := by have := congrArg valD h; rwa [valD_dec, valD_dec] at this
theorem dec_ne45 (u : Nat) (l : List UInt8) : decDigits u ≠ 45 :: l := fun h => by
  have := dig u 45 (by rw [h]; simp)
  revert this; decide
theorem itoa_inj {a b : Int} (h : itoa a = itoa b) : a = b := by
  unfold itoa at h
  split at h <;> split at h
  · simp at h; have := dec_inj h; omega
  · exact absurd h.symm (dec_ne45 _ _)
  · exact absurd h (dec_ne45 _ _)
  · have := dec_inj h; omega
theorem opName_inj : ∀ j, j < 67 → ∀ k, k < 67 → opName j = opName k → j = k := by decide +kernel
/-- The words of what has the operands that it has. -/
def txOps (a b c e : Bool) (d s t m : Int) : List (List UInt8) := (bif a then [99 :: itoa d] else []) ++ (bif b then [99 :: itoa s] else []) ++ (bif c then [99 :: itoa t] else []) ++ (bif e then [itoa m] else [])
theorem join_two (x y : List UInt8) (r : List (List UInt8)) : join (x :: y :: r) [44, 32] = x ++ 44 :: 32 :: join (y :: r) [44, 32] := by
  simp [join, List.intercalate]
theorem join_inj : ∀ (xs ys : List (List UInt8)), xs.length = ys.length → (∀ x ∈ xs, (44 : UInt8) ∉ x) → (∀ y ∈ ys, (44 : UInt8) ∉ y) → join xs [44, 32] = join ys [44, 32] → xs = ys
  | [], [], _, _, _, _ => rfl
  | [x], [y], _, _, _, h => by rw [join_one, join_one] at h; rw [h]
  | x :: x2 :: xs, y :: y2 :: ys, hl, hx, hy, h => by
    rw [join_two, join_two] at h
    obtain ⟨h1, h2⟩ := split_u (hx x (by simp)) (hy y (by simp)) h
    have h3 : join (x2 :: xs) [44, 32] = join (y2 :: ys) [44, 32] := by simpa using h2
    rw [h1, join_inj (x2 :: xs) (y2 :: ys) (by simpa using hl) (fun z hz => hx z (List.mem_cons_of_mem _ hz)) (fun z hz => hy z (List.mem_cons_of_mem _ hz)) h3]
  | [], _ :: _, hl, _, _, _ => by simp at hl
  | _ :: _, [], hl, _, _, _ => by simp at hl
  | [_], _ :: _ :: _, hl, _, _, _ => by simp at hl
  | _ :: _ :: _, [_], hl, _, _, _ => by simp at hl
theorem n44 (n : Int) : (44 : UInt8) ∉ itoa n := no_itoa 44 (by decide) n
theorem txOps_no (a b c e : Bool) (d s t m : Int) : ∀ x ∈ txOps a b c e d s t m, (44 : UInt8) ∉ x := by
  have c44 : ∀ n, (44 : UInt8) ∉ 99 :: itoa n := fun n hh => by
    rcases List.mem_cons.1 hh with h | h
    · revert h; decide
    · exact n44 n h
  intro x hx
  unfold txOps at hx
  simp only [List.mem_append] at hx
  rcases hx with ((hx | hx) | hx) | hx
  · cases a <;> simp at hx; subst hx; exact c44 d
  · cases b <;> simp at hx; subst hx; exact c44 s
  · cases c <;> simp at hx; subst hx; exact c44 t
  · cases e <;> simp at hx; subst hx; exact n44 m
theorem tail_inj (a b c e : Bool) {d s t m d' s' t' m' : Int} (h : join (txOps a b c e d s t m) [44, 32] = join (txOps a b c e d' s' t' m') [44, 32])
    (xd : a = true ∨ d = d') (xs : b = true ∨ s = s') (xt : c = true ∨ t = t') (xm : e = true ∨ m = m') : d = d' ∧ s = s' ∧ t = t' ∧ m = m' := by
  have h := join_inj _ _ (by cases a <;> cases b <;> cases c <;> cases e <;> rfl) (txOps_no a b c e d s t m) (txOps_no a b c e d' s' t' m') h
  have q : (a = true → d = d') ∧ (b = true → s = s') ∧ (c = true → t = t') ∧ (e = true → m = m') := by
    cases a <;> cases b <;> cases c <;> cases e <;> simp [txOps] at h ⊢ <;> (try (obtain ⟨h1, h2, h3, h4⟩ := h; exact ⟨itoa_inj h1, itoa_inj h2, itoa_inj h3, itoa_inj h4⟩)) <;>
      (try (obtain ⟨h1, h2, h3⟩ := h; exact ⟨itoa_inj h1, itoa_inj h2, itoa_inj h3⟩)) <;> (try (obtain ⟨h1, h2⟩ := h; exact ⟨itoa_inj h1, itoa_inj h2⟩)) <;> (try exact itoa_inj h)
  exact ⟨xd.elim q.1 id, xs.elim q.2.1 id, xt.elim q.2.2.1 id, xm.elim q.2.2.2 id⟩
def anyOp (f : Int) : Bool := hRd f || hRs f || hRt f || hIm f
def txM (d s m : Int) : List UInt8 := 99 :: (itoa d ++ 44 :: 32 :: (itoa m ++ 40 :: 99 :: (itoa s ++ [41])))
def txRest (f d s t m : Int) : List UInt8 := if f = 8 then txM d s m else join (txOps (hRd f) (hRs f) (hRt f) (hIm f) d s t m) [44, 32]
def txt (k : Nat) (d s t m : Int) : List UInt8 := bif anyOp (formR (opName k)) then opName k ++ 32 :: txRest (formR (opName k)) d s t m else opName k
theorem txM_inj {d s m d' s' m' : Int} (h : txM d s m = txM d' s' m') : d = d' ∧ s = s' ∧ m = m' := by
  unfold txM at h
  simp only [List.cons.injEq, true_and] at h
  obtain ⟨h1, h2⟩ := split_u (n44 d) (n44 d') h
  simp only [List.cons.injEq, true_and] at h2
  obtain ⟨h3, h4⟩ := split_u (no_itoa 40 (by decide) m) (no_itoa 40 (by decide) m') h2
  simp only [List.cons.injEq, true_and] at h4
  obtain ⟨h5, _⟩ := split_u (no_itoa 41 (by decide) s) (no_itoa 41 (by decide) s') h4
  exact ⟨itoa_inj h1, itoa_inj h5, itoa_inj h3⟩
theorem txt_inj {k k' : Nat} (hk : k < 67) (hk' : k' < 67) {d s t m d' s' t' m' : Int} (h : txt k d s t m = txt k' d' s' t' m')
    (xd : hRd (formR (opName k)) = true ∨ d = 0) (xs : hRs (formR (opName k)) = true ∨ s = 0) (xt : hRt (formR (opName k)) = true ∨ t = 0) (xm : hIm (formR (opName k)) = true ∨ m = 0)
    (xd' : hRd (formR (opName k')) = true ∨ d' = 0) (xs' : hRs (formR (opName k')) = true ∨ s' = 0) (xt' : hRt (formR (opName k')) = true ∨ t' = 0) (xm' : hIm (formR (opName k')) = true ∨ m' = 0) :
    k = k' ∧ d = d' ∧ s = s' ∧ t = t' ∧ m = m' := by
  have b := opName_noBlank k hk
  have b' := opName_noBlank k' hk'
  have both : ∀ {f : Int} {x y : Int} {g : Int → Bool}, (g f = true ∨ x = 0) → (g f = true ∨ y = 0) → (g f = true ∨ x = y) := fun h1 h2 => by
    rcases h1 with h1 | h1
    · exact .inl h1
    · rcases h2 with h2 | h2
      · exact .inl h2
      · exact .inr (h1.trans h2.symm)
  unfold txt at h
  cases ha : anyOp (formR (opName k)) <;> cases hb : anyOp (formR (opName k')) <;> rw [ha, hb] at h <;> simp only [cond_true, cond_false] at h
  · obtain rfl := opName_inj k hk k' hk' h
    simp only [anyOp, Bool.or_eq_false_iff] at ha
    obtain ⟨⟨⟨h1, h2⟩, h3⟩, h4⟩ := ha
    rw [h1] at xd xd'; rw [h2] at xs xs'; rw [h3] at xt xt'; rw [h4] at xm xm'
    simp only [Bool.false_eq_true, false_or] at xd xd' xs xs' xt xt' xm xm'
    exact ⟨rfl, by omega, by omega, by omega, by omega⟩
  · exact absurd (by rw [h]; simp) b
  · exact absurd (by rw [← h]; simp) b'
  · obtain ⟨h1, h2⟩ := split_u b b' h
    obtain rfl := opName_inj k hk k' hk' h1
    unfold txRest at h2
    split at h2
    · rename_i h8
      obtain ⟨e1, e2, e3⟩ := txM_inj h2
      rw [h8] at xt xt'
      have z : hRt 8 = false := by decide
      rw [z] at xt xt'
      simp only [Bool.false_eq_true, false_or] at xt xt'
      exact ⟨rfl, e1, e2, by omega, e3⟩
    · exact ⟨rfl, tail_inj _ _ _ _ h2 (both (f := formR (opName k)) (g := hRd) xd xd') (both (f := formR (opName k)) (g := hRs) xs xs') (both (f := formR (opName k)) (g := hRt) xt xt') (both (f := formR (opName k)) (g := hIm) xm xm')⟩
end Go.Proofs.YtgdeffompcikhaaDoor
