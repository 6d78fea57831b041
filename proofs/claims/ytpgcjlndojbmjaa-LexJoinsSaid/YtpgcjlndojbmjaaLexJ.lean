/- Tokens of two texts with a line end between. -/
import Derived.Test.YtpgcjlndojbmjaaLexB
namespace Go.Proofs.Ytpgcjlndojbmjaa.Pure
open Go.RowKit Go.Proofs.Ytpgcjlndojbmjaa.PL Go.Proofs.YtpgcjlndojbmjaaW.PrintWords Go.Proofs.YtpgcjlndojbmjaaW.PrintLast
set_option linter.unusedVariables false
set_option linter.unusedSimpArgs false
theorem tw_app (p : UInt8 → Bool) (c : UInt8) (r : List UInt8) (hc : p c = false) : ∀ l : List UInt8, (l ++ c :: r).takeWhile p = l.takeWhile p := by
  intro l
  induction l with
  | nil => simp [hc]
  | cons a t ih =>
    rw [List.cons_append, List.takeWhile_cons, List.takeWhile_cons, ih]
theorem dw_app (p : UInt8 → Bool) (c : UInt8) (r : List UInt8) (hc : p c = false) : ∀ l : List UInt8, (l ++ c :: r).dropWhile p = l.dropWhile p ++ c :: r := by
  intro l
  induction l with
  | nil => simp [hc]
  | cons a t ih =>
    rw [List.cons_append, List.dropWhile_cons, List.dropWhile_cons, ih]
    split <;> rfl
/-- A byte that ends any token. -/
def stop (c : UInt8) : Prop := worU c = false ∧ c.toNat ≠ 39 ∧ c.toNat ≠ 61 ∧ c.toNat ≠ 62
theorem stop_let {c : UInt8} (h : stop c) : letU c = false ∧ digU c = false := by
  have := h.1
  simp only [worU, Bool.or_eq_false_iff] at this
  exact this
theorem headLet_app (l : List UInt8) (c : UInt8) (r : List UInt8) (h : letU c = false) : headLet (l ++ c :: r) = headLet l := by
  cases l with
  | nil => exact h
  | cons a t => rfl
theorem texS_app (c0 : UInt8) (r : List UInt8) (hc : c0.toNat ≠ 39) : ∀ (N : Nat) (l : List UInt8), l.length = N → ∀ (acc : List UInt8) (n : Nat) {x : List UInt8 × Nat}, texS acc n l = some x → texS acc n (l ++ c0 :: r) = some x := by
  intro N
  induction N using Nat.strongRecOn with
  | _ N ih =>
  intro l hl acc n x h
  match l, hl with
  | [], hl => simp [texS] at h
  | [c], hl =>
    simp only [texS] at h
    simp only [List.cons_append, List.nil_append, texS]
    split at h
    · rename_i h39; rw [if_pos h39, if_neg hc]; exact h
    · cases h
  | c :: d :: t, hl =>
    simp only [List.length_cons] at hl
    simp only [texS] at h
    simp only [List.cons_append, texS]
    split at h
    · rename_i h39
      rw [if_pos h39]
      split at h
      · rename_i hd
        rw [if_pos hd]
        exact ih t.length (by omega) t rfl _ _ h
      · rename_i hd
        rw [if_neg hd]
        exact h
    · rename_i h39
      rw [if_neg h39]
      exact ih (t.length + 1) (by omega) (d :: t) (by simp) _ _ h
theorem sigS_app (c : UInt8) (t : List UInt8) (c0 : UInt8) (r : List UInt8) (hs : stop c0) : sigS c (t ++ c0 :: r) = sigS c t := by
  cases t with
  | nil =>
    unfold sigS
    simp only [List.nil_append]
    rw [if_neg hs.2.2.2, if_neg hs.2.2.1]
  | cons d t => rfl
theorem tokS_app (l : List UInt8) (c0 : UInt8) (r : List UInt8) (hs : stop c0) {k : Int} {s : List UInt8} {v : Int} {n : Nat} (h : tokS l = .ok k s v n) : tokS (l ++ c0 :: r) = .ok k s v n := by
  have hl := stop_let hs
  cases l with
  | nil => simp [tokS] at h
  | cons c t =>
    rw [tokS_cons] at h
    rw [List.cons_append, tokS_cons, ← List.cons_append, tw_app _ _ _ hs.1, tw_app _ _ _ hl.2, dw_app _ _ _ hl.2, headLet_app _ _ _ hl.1]
    by_cases h1 : letU c = true
    · rw [if_pos h1] at h ⊢; exact h
    · rw [if_neg h1] at h ⊢
      by_cases h2 : digU c = true
      · rw [if_pos h2] at h ⊢; exact h
      · rw [if_neg h2] at h ⊢
        by_cases h3 : c.toNat = 39
        · rw [if_pos h3] at h ⊢
          cases hv : texS [] 1 t with
          | none => rw [hv] at h; cases h
          | some x => rw [hv] at h; rw [texS_app c0 r hs.2.1 _ t rfl _ _ hv]; exact h
        · rw [if_neg h3] at h ⊢
          rw [sigS_app c t c0 r hs]; exact h
/-- The tokens of what stands ahead of a byte that ends any token. -/
theorem lexS_app (c0 : UInt8) (B : List UInt8) (hs : stop c0) (hb : blaU c0 = true) : ∀ (f : Nat) (l : List UInt8) (p : Nat) (acc r : List Tk), lexS f p l acc = (r, 0) → l.length < f →
    ∃ acc', r = acc' ++ [⟨0, ((p + l.length : Nat) : Int), [], 0⟩] ∧ ∀ F, l.length + 1 + B.length < F → ∃ F', B.length < F' ∧ lexS F p (l ++ c0 :: B) acc = lexS F' (p + l.length + 1) B acc' := by
  intro f
  induction f with
  | zero => intro l p acc r h hl; omega
  | succ f ih =>
    intro l p acc r h hl
    cases l with
    | nil =>
      rw [lexS_end] at h
      injection h with h1 h2
      refine ⟨acc, h1.symm, fun F hF => ?_⟩
      obtain ⟨F, rfl⟩ : ∃ G, F = G + 1 := ⟨F - 1, by simp at hF; omega⟩
      refine ⟨F, by simp at hF; omega, ?_⟩
      rw [List.nil_append, lexS_cons, if_pos hb]
      rfl
    | cons c t =>
      rw [lexS_cons] at h
      by_cases hbl : blaU c = true
      · rw [if_pos hbl] at h
        obtain ⟨acc', h1, h2⟩ := ih t (p + 1) acc r h (by simp at hl; omega)
        refine ⟨acc', by rw [h1, List.length_cons, show p + 1 + t.length = p + (t.length + 1) by omega], fun F hF => ?_⟩
        obtain ⟨F, rfl⟩ : ∃ G, F = G + 1 := ⟨F - 1, by simp at hF; omega⟩
        obtain ⟨F', g1, g2⟩ := h2 F (by simp at hF; omega)
        refine ⟨F', g1, ?_⟩
        rw [List.cons_append, lexS_cons, if_pos hbl, g2, List.length_cons, show p + 1 + t.length = p + (t.length + 1) by omega]
      · rw [if_neg hbl] at h
        cases ht : tokS (c :: t) with
        | bad e =>
          rw [ht] at h
          injection h with _ h2
          exact absurd h2 (tokS_bad _ ht)
        | ok k s v n =>
          rw [ht] at h
          have hn := tokS_n _ ht
          have hdl : ((c :: t).drop n).length = (c :: t).length - n := List.length_drop
          obtain ⟨acc', h1, h2⟩ := ih ((c :: t).drop n) (p + n) _ r h (by omega)
          refine ⟨acc', by rw [h1, hdl, show p + n + ((c :: t).length - n) = p + (c :: t).length by omega], fun F hF => ?_⟩
          obtain ⟨F, rfl⟩ : ∃ G, F = G + 1 := ⟨F - 1, by omega⟩
          obtain ⟨F', g1, g2⟩ := h2 F (by omega)
          refine ⟨F', g1, ?_⟩
          have ht' := tokS_app (c :: t) c0 B hs ht
          rw [List.cons_append] at ht' ⊢
          rw [lexS_cons, if_neg hbl, ht']
          simp only
          rw [show (c :: (t ++ c0 :: B)).drop n = (c :: t).drop n ++ c0 :: B by rw [← List.cons_append, List.drop_append_of_le_length hn.2.1], g2, hdl, show p + n + ((c :: t).length - n) = p + (c :: t).length by omega]
/-- How much more than the bytes there is doesn't count. -/
theorem lexS_fuel : ∀ (f g : Nat) (l : List UInt8) (p : Nat) (acc : List Tk), l.length < f → l.length < g → lexS f p l acc = lexS g p l acc := by
  intro f
  induction f with
  | zero => intro g l p acc h; omega
  | succ f ih =>
    intro g l p acc h h'
    obtain ⟨g, rfl⟩ : ∃ G, g = G + 1 := ⟨g - 1, by omega⟩
    cases l with
    | nil => rw [lexS_end, lexS_end]
    | cons c t =>
      simp only [List.length_cons] at h h'
      rw [lexS_cons, lexS_cons, ih g t (p + 1) acc (by omega) (by omega)]
      split
      · rfl
      · cases ht : tokS (c :: t) with
        | bad e => rfl
        | ok k s v n =>
          have hn := tokS_n _ ht
          simp only
          exact ih g _ _ _ (by rw [List.length_drop, List.length_cons]; omega) (by rw [List.length_drop, List.length_cons]; omega)
def shT (m : Nat) (t : Tk) : Tk := ⟨t.k, t.p + m, t.s, t.v⟩
theorem lexS_shift (m : Nat) (a0 : List Tk) : ∀ (f : Nat) (l : List UInt8) (p : Nat) (acc r : List Tk), lexS f p l acc = (r, 0) → lexS f (p + m) l (a0 ++ acc.map (shT m)) = (a0 ++ r.map (shT m), 0) := by
  intro f
  induction f with
  | zero =>
    intro l p acc r h
    simp only [lexS] at h ⊢
    injection h with h1 _
    rw [← h1]
    simp [shT]
  | succ f ih =>
    intro l p acc r h
    cases l with
    | nil =>
      rw [lexS_end] at h ⊢
      injection h with h1 _
      rw [← h1]
      simp [shT]
    | cons c t =>
      rw [lexS_cons] at h ⊢
      by_cases hb : blaU c = true
      · rw [if_pos hb] at h ⊢
        rw [show p + m + 1 = p + 1 + m by omega]
        exact ih t (p + 1) acc r h
      · rw [if_neg hb] at h ⊢
        cases ht : tokS (c :: t) with
        | bad e =>
          rw [ht] at h
          injection h with _ h2
          exact absurd h2 (tokS_bad _ ht)
        | ok k s v n =>
          rw [ht] at h
          simp only at h ⊢
          have := ih _ _ _ _ h
          rw [show p + m + n = p + n + m by omega]
          simpa [shT] using this
theorem stop10 : stop 10 := ⟨by decide, by decide, by decide, by decide⟩
theorem stop32 : stop 32 := ⟨by decide, by decide, by decide, by decide⟩
theorem lexT_join (c0 : UInt8) (hs : stop c0) (hb : blaU c0 = true) (A B : List UInt8) (xs ys : List Tk) (hA : lexT A = (xs, 0)) (hB : lexT B = (ys, 0)) (hl : A.length + 1 + B.length ≤ 2000) :
    ∃ x', xs = x' ++ [⟨0, (A.length : Int), [], 0⟩] ∧ lexT (A ++ c0 :: B) = (x' ++ ys.map (shT (A.length + 1)), 0) := by
  unfold lexT at hA hB
  rw [if_neg (by omega)] at hA hB
  obtain ⟨x', h1, h2⟩ := lexS_app c0 B hs hb _ _ _ _ _ hA (by omega)
  rw [Nat.zero_add] at h1
  refine ⟨x', h1, ?_⟩
  unfold lexT
  rw [if_neg (by simp only [List.length_append, List.length_cons]; omega)]
  obtain ⟨F', g1, g2⟩ := h2 ((A ++ c0 :: B).length + 1) (by simp only [List.length_append, List.length_cons]; omega)
  rw [g2, lexS_fuel F' (B.length + 1) B _ _ g1 (by omega)]
  have := lexS_shift (A.length + 1) x' (B.length + 1) B 0 [] ys hB
  rw [show 0 + A.length + 1 = 0 + (A.length + 1) by omega]
  simpa using this
theorem lexT_ne (l : List UInt8) (r : List Tk) (h : lexT l = (r, 0)) : r ≠ [] := by
  unfold lexT at h
  split at h
  · injection h with _ h2; cases h2
  · obtain ⟨x', h1, _⟩ := lexS_app 10 [] stop10 (by decide) _ _ _ _ _ h (by omega)
    rw [h1]; simp
end Go.Proofs.Ytpgcjlndojbmjaa.Pure
