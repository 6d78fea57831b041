/- LexAll: for every text of at most 2,100 bytes, lex.Lex tells the tokens, or the fault, that the document's answer tells; asked twice. Beyond that bound the statement says nothing. -/
import Derived.Test.YtpgcjlndojbmjaaLexB
import Derived.Test.YtpgcjlndojbmjaaPLx16
namespace Go.Proofs.Ytpgcjlndojbmjaa.Pure
open Go.RowKit Go.Proofs.Ytpgcjlndojbmjaa.PL Go.Proofs.YtpgcjlndojbmjaaW.PrintWords Go.Proofs.YtpgcjlndojbmjaaW.PrintLast
set_option linter.unusedVariables false
set_option linter.unusedSimpArgs false
theorem rd_get {xs : List S28} {i : Nat} {c : S28} {t : List S28} (h : xs.drop i = c :: t) : i < xs.length ∧ rd_T28 xs (i : Int) = c ∧ xs.drop (i + 1) = t := by
  have hl : i < xs.length := by
    rcases Nat.lt_or_ge i xs.length with h' | h'
    · exact h'
    · rw [List.drop_of_length_le h'] at h; cases h
  rw [List.drop_eq_getElem_cons hl] at h
  injection h with h1 h2
  exact ⟨hl, by simp [rd_T28, List.getD_eq_getElem?_getD, List.getElem?_eq_getElem hl, h1], h2⟩
theorem same_b (c : S28) : (!((c.f0) == (c.f0)) || (!((c.f1) == (c.f1)) || (!(((c.f2).toList) == ((c.f2).toList)) || (!((c.f3) == (c.f3)))))) = false := by simp
theorem lexT_len (l : List UInt8) : (lexT l).1.length ≤ 2001 ∧ ((lexT l).1.map toS).length ≤ 2001 := by
  have key : ∀ (f : Nat) (l : List UInt8) (p : Nat) (acc : List Tk), (lexS f p l acc).1.length ≤ acc.length + l.length + 1 := by
    intro f
    induction f with
    | zero => intro l p acc; simp [lexS]
    | succ f ih =>
      intro l p acc
      cases l with
      | nil => simp [lexS_end]
      | cons c t =>
        rw [lexS_cons]
        split
        · have := ih t (p + 1) acc
          simp only [List.length_cons]; omega
        · split
          · simp
          · rename_i k s v n ht
            have hn := tokS_n _ ht
            have := ih ((c :: t).drop n) (p + n) (acc ++ [⟨k, p, s, v⟩])
            simp only [List.length_append, List.length_cons, List.length_nil, List.length_drop] at *
            omega
  have h1 : (lexT l).1.length ≤ 2001 := by
    unfold lexT
    split
    · simp
    · have := key (l.length + 1) l 0 []
      simp only [List.length_nil] at this; omega
  exact ⟨h1, by rw [List.length_map]; exact h1⟩
theorem all_l1 (a0 : ByteArray) (turn : Int) (ms : List S28) (hm : ms.length ≤ 2001) (h0 : Ev (fun n => antipodelaw16_LexAll.l0 n a0 (wrap64 (turn + 1))) true) : ∀ (r xs : List S28) (i : Nat), ms.drop i = r → xs.drop i = r → xs.length = ms.length →
    Ev (fun n => antipodelaw16_LexAll.l1 n a0 turn xs ms (i : Int)) true := by
  intro r
  induction r with
  | nil =>
    intro xs i hm' hx hl
    have := List.drop_eq_nil_iff.1 hm'
    refine Ev.step (f := fun n => antipodelaw16_LexAll.l0 n a0 (wrap64 (turn + 1))) (fun k => ?_) h0
    show antipodelaw16_LexAll.l1 (k + 1) a0 turn xs ms i = _
    simp only [antipodelaw16_LexAll.l1]
    rw [if_neg (by omega)]
  | cons c r ih =>
    intro xs i hm' hx hl
    obtain ⟨a1, a2, a3⟩ := rd_get hm'
    obtain ⟨b1, b2, b3⟩ := rd_get hx
    refine Ev.step (f := fun n => antipodelaw16_LexAll.l1 n a0 turn (xs.set i (⟨0, 0, (⟨#[]⟩ : ByteArray), 0⟩ : S28)) ms ((i + 1 : Nat) : Int)) (fun k => ?_) (ih _ (i + 1) a3 (by rw [List.drop_set_of_lt (by omega)]; exact b3) (by rw [List.length_set]; exact hl))
    show antipodelaw16_LexAll.l1 (k + 1) a0 turn xs ms i = _
    simp only [antipodelaw16_LexAll.l1]
    rw [if_pos (by omega), if_pos (by omega), if_pos (by omega), a2, b2, same_b, if_neg (by decide), wr (by omega) (by omega), Int.toNat_natCast]
    rfl
theorem all_l0 (a0 : ByteArray) : ∀ (d : Nat) (turn : Nat), turn + d = 2 → Ev (fun n => antipodelaw16_LexAll.l0 n a0 (turn : Int)) true := by
  intro d
  induction d with
  | zero =>
    intro turn h
    refine Ev.step (f := fun _ => some _) (fun k => ?_) (evs _)
    show antipodelaw16_LexAll.l0 (k + 1) a0 turn = _
    simp only [antipodelaw16_LexAll.l0]
    rw [if_neg (by omega)]
  | succ d ih =>
    intro turn h
    have hn := ih (turn + 1) (by omega)
    refine Ev.step (f := fun k => (lex_Lex.f k a0).bind fun bt212 => ((antipoderef16_Lex.f k a0).bind fun bt216 => (if bt212.2 = bt216.2 then (antipodelaw16_LexAll.j1 k a0 turn bt212.1 bt216.1 ((bt212.1.length : Int) != (bt216.1.length : Int))) else (antipodelaw16_LexAll.j1 k a0 turn bt212.1 bt216.1 true)))) (fun k => ?_) ?_
    · show antipodelaw16_LexAll.l0 (k + 1) a0 turn = _
      simp only [antipodelaw16_LexAll.l0]
      rw [if_pos (by omega)]
    refine Ev.bind (f := fun k bt212 => ((antipoderef16_Lex.f k a0).bind fun bt216 => (if bt212.2 = bt216.2 then (antipodelaw16_LexAll.j1 k a0 turn bt212.1 bt216.1 ((bt212.1.length : Int) != (bt216.1.length : Int))) else (antipodelaw16_LexAll.j1 k a0 turn bt212.1 bt216.1 true)))) (Lex_f a0) ?_
    refine Ev.bind (rLex_f a0) ?_
    generalize hr : res (lexT (bs a0)) = r
    have hlen : r.1.length ≤ 2001 := by rw [← hr]; exact (lexT_len _).2
    refine ev_of_eq (f := fun k => antipodelaw16_LexAll.j1 k a0 turn r.1 r.1 false) (fun k => ?_) ?_
    · rw [if_pos rfl]; simp
    refine Ev.step (f := fun k => antipodelaw16_LexAll.l1 k a0 turn r.1 r.1 0) (fun k => ?_) ?_
    · show antipodelaw16_LexAll.j1 (k + 1) a0 turn r.1 r.1 false = _
      simp only [antipodelaw16_LexAll.j1, Bool.false_eq_true, if_false]
    · refine all_l1 a0 turn r.1 hlen ?_ r.1 r.1 0 rfl rfl rfl
      rw [wr (by omega) (by omega)]
      exact hn
theorem LexAll : antipodelaw16_LexAll.Pure := by
  intro a0 h0
  refine Ev.rounds (g := fun n => antipodelaw16_LexAll.f n a0) ?_
  unfold antipodelaw16_LexAll.f
  refine Ev.bind (f := fun n t211 => _) begun_f ?_
  by_cases h : (a0.size : Int) > 2100
  · refine ev_of_eq (f := fun _ => some _) (fun k => ?_) (evs _)
    rw [if_pos rfl, if_pos h]
  · refine ev_of_eq (fun k => by rw [if_pos rfl, if_neg h]; rfl) (all_l0 a0 2 0 rfl)
end Go.Proofs.Ytpgcjlndojbmjaa.Pure
