/- lex.Lex tells the tokens that Spec tells. -/
import Derived.Test.YtpgcjlndojbmjaaLexF
namespace Go.Proofs.Ytpgcjlndojbmjaa.Pure
open Go.RowKit Go.Proofs.Ytpgcjlndojbmjaa.PL Go.Proofs.YtpgcjlndojbmjaaW.PrintWords Go.Proofs.YtpgcjlndojbmjaaW.PrintLast Go.Proofs.YtpgcjlndojbmjaaW.PrintMore
set_option linter.unusedVariables false
set_option linter.unusedSimpArgs false

theorem sigS_bad (c : UInt8) (t : List UInt8) {e : Int} (h : sigS c t = .bad e) : e = 13 := by
  unfold sigS at h
  cases t with
  | nil => simp only at h; repeat' (split at h)
           all_goals (first | (cases h; rfl) | cases h)
  | cons d t => simp only at h; repeat' (split at h)
                all_goals (first | (cases h; rfl) | cases h)
theorem tokS_bad (l : List UInt8) {e : Int} (h : tokS l = .bad e) : e ≠ 0 := by
  cases l with
  | nil => simp [tokS] at h; omega
  | cons c t =>
    rw [tokS_cons] at h
    by_cases h1 : letU c = true
    · rw [if_pos h1] at h; cases h
    · rw [if_neg h1] at h
      by_cases h2 : digU c = true
      · rw [if_pos h2] at h
        cases hv : numS 0 ((c :: t).takeWhile digU) with
        | none => rw [hv] at h; cases h; decide
        | some x =>
          rw [hv] at h
          simp only at h
          by_cases h3 : headLet ((c :: t).dropWhile digU) = true
          · rw [if_pos h3] at h; cases h; decide
          · rw [if_neg h3] at h; cases h
      · rw [if_neg h2] at h
        by_cases h3 : c.toNat = 39
        · rw [if_pos h3] at h
          cases hv : texS [] 1 t with
          | none => rw [hv] at h; cases h; decide
          | some x =>
            obtain ⟨x, m⟩ := x
            rw [hv] at h
            simp only at h
            by_cases h4 : x.length > 64
            · rw [if_pos h4] at h; cases h; decide
            · rw [if_neg h4] at h; cases h
        · rw [if_neg h3] at h
          rw [sigS_bad c t h]; decide
def toS (t : Tk) : S28 := ⟨t.k, t.p, ofL t.s, t.v⟩
def res (r : List Tk × Int) : List S28 × Int := (r.1.map toS, r.2)
theorem lexS_end (f p : Nat) (acc : List Tk) : lexS (f + 1) p [] acc = (acc ++ [⟨0, p, [], 0⟩], 0) := rfl
theorem lexS_cons (f p : Nat) (c : UInt8) (t : List UInt8) (acc : List Tk) : lexS (f + 1) p (c :: t) acc = if blaU c then lexS f (p + 1) t acc else match tokS (c :: t) with
    | .bad e => ([], e)
    | .ok k s v n => lexS f (p + n) ((c :: t).drop n) (acc ++ [⟨k, p, s, v⟩]) := rfl
theorem toS_snoc (acc : List Tk) (k p : Int) (s : List UInt8) (v : Int) : acc.map toS ++ [(⟨k, p, ofL s, v⟩ : S28)] = (acc ++ [(⟨k, p, s, v⟩ : Tk)]).map toS := by simp [toS]
theorem Lex_l (x : ByteArray) (hx : x.size ≤ 2000) : ∀ (f : Nat) (l : List UInt8) (p : Nat) (acc : List Tk), l.length < f → (bs x).drop p = l → acc.length ≤ p → p ≤ x.size →
    Ev (fun n => lex_Lex.l0 n x (acc.map toS) (p : Int)) (res (lexS f p l acc)) := by
  intro f
  induction f with
  | zero => intro l p acc h; omega
  | succ f ih =>
    intro l p acc hf h ha hp
    cases l with
    | nil =>
      have h1 := drop_nil h
      refine Ev.step (f := fun _ => some _) (fun k => ?_) (evs _)
      show lex_Lex.l0 (k + 1) x _ p = _
      simp only [lex_Lex.l0]
      rw [if_neg (by omega), if_pos (by rw [List.length_map]; omega), lexS_end]
      have e : (x.size : Int) = (p : Int) := by omega
      rw [e]
      simp [res, toS, ofL]
    | cons c t =>
      obtain ⟨g1, g2, g3⟩ := drop_cons h
      have hb : bs (x.extract p x.size) = c :: t := by rw [bs_tail, h]
      refine Ev.step (f := fun n => (lex_token.f n (x.extract p x.size)).bind fun bt142 => (if bt142.2.2.2.2.2 = 0 then (if bt142.1 = 0 then (lex_Lex.l0 n x (acc.map toS) (wrap64 (p + bt142.2.2.2.2.1))) else (if (acc.map toS).length < 3518437208883 then (lex_Lex.l0 n x ((acc.map toS) ++ [(⟨bt142.1, p, bt142.2.2.1, bt142.2.2.2.1⟩ : S28)]) (wrap64 (p + bt142.2.2.2.2.1))) else (none))) else (some (([] : List (S28)), bt142.2.2.2.2.2)))) (fun k => ?_) ?_
      · show lex_Lex.l0 (k + 1) x _ p = _
        simp only [lex_Lex.l0]
        rw [if_pos (by omega), if_pos (by omega), if_pos (by omega)]
        rfl
      refine Ev.bind (token_f _ (by rw [ByteArray.size_extract]; omega) c t hb) ?_
      rw [encB_cons, lexS_cons]
      by_cases hbl : blaU c = true
      · rw [if_pos hbl, if_pos hbl]
        refine ev_of_eq (fun k => ?_) (ih t (p + 1) acc (by simp at hf; omega) g3 (by omega) (by omega))
        simp only [if_true]
        rw [wr (by omega) (by omega)]
        rfl
      · rw [if_neg hbl, if_neg hbl]
        cases ht : tokS (c :: t) with
        | bad e =>
          have := tokS_bad _ ht
          refine ev_of_eq (f := fun _ => some _) (fun k => ?_) (evs _)
          rw [if_neg (show ¬ (enc (TR.bad e)).2.2.2.2.2 = 0 from this)]
          rfl
        | ok k s v n =>
          obtain ⟨n1, n2, n3⟩ := tokS_n _ ht
          have hl : (c :: t).length = x.size - p := by rw [← h, List.length_drop, bs_len]
          refine ev_of_eq (fun k' => ?_) (ih ((c :: t).drop n) (p + n) (acc ++ [⟨k, p, s, v⟩]) (by rw [List.length_drop]; omega) (by rw [← h, List.drop_drop]) (by simp; omega) (by omega))
          rw [if_pos (show (enc (TR.ok k s v n)).2.2.2.2.2 = 0 from rfl), if_neg (show ¬ (enc (TR.ok k s v n)).1 = 0 from n3), if_pos (by rw [List.length_map]; omega)]
          show lex_Lex.l0 k' x (acc.map toS ++ [(⟨k, p, ofL s, v⟩ : S28)]) (wrap64 (p + n)) = _
          rw [toS_snoc, wr (by omega) (by omega)]
          rfl
def lexT (l : List UInt8) : List Tk × Int := if l.length > 2000 then ([], 3) else lexS (l.length + 1) 0 l []
theorem Lex_f (x : ByteArray) : Ev (fun n => lex_Lex.f n x) (res (lexT (bs x))) := by
  unfold lex_Lex.f lexT
  rw [bs_len]
  by_cases h : x.size > 2000
  · rw [if_pos h]
    refine ev_of_eq (f := fun _ => some _) (fun k => ?_) (evs _)
    rw [if_pos (by omega)]
    rfl
  · rw [if_neg h]
    refine ev_of_eq (f := fun n => lex_Lex.l0 n x ([] : List S28) 0) (fun k => ?_) ?_
    · rw [if_neg (by omega)]
    · exact Lex_l x (by omega) (x.size + 1) (bs x) 0 [] (by rw [bs_len]; omega) rfl (by simp) (by omega)
end Go.Proofs.Ytpgcjlndojbmjaa.Pure
