/- begun; the reference's Word. -/
import Derived.Test.YtpgcjlndojbmjaaLexW
import Derived.Test.YtpgcjlndojbmjaaPLx10
namespace Go.Proofs.Ytpgcjlndojbmjaa.Pure
open Go.RowKit Go.Proofs.Ytpgcjlndojbmjaa.PL Go.Proofs.YtpgcjlndojbmjaaW.PrintWords Go.Proofs.YtpgcjlndojbmjaaW.PrintLast Go.Proofs.YtpgcjlndojbmjaaW.PrintMore
set_option linter.unusedVariables false
set_option linter.unusedSimpArgs false

theorem lex_a5 : lexT [97, 60, 61, 53] = ([⟨1, 0, [65], 0⟩, ⟨4, 1, [60, 61], 0⟩, ⟨2, 3, [], 5⟩, ⟨0, 4, [], 0⟩], 0) := by rfl
theorem begun_f : Ev (fun n => antipodelaw16_begun.f n) true := by
  unfold antipodelaw16_begun.f
  refine Ev.bind (f := fun n bt156 => _) (Lex_f ⟨#[97, 60, 61, 53]⟩) ?_
  rw [show lexT (bs ⟨#[97, 60, 61, 53]⟩) = _ from lex_a5]
  have w1 := Word_f ⟨#[84, 49]⟩ (by decide)
  have w2 := Word_f ⟨#[83, 69, 76, 69, 67, 84]⟩ (by decide)
  rw [show wordS (bs ⟨#[84, 49]⟩) = true by decide +kernel] at w1
  rw [show wordS (bs ⟨#[83, 69, 76, 69, 67, 84]⟩) = false by decide +kernel] at w2
  have h : Ev (fun k => (lex_Word.f k (⟨#[84, 49]⟩ : ByteArray)).bind fun t164 => (if t164 = true then ((lex_Word.f k (⟨#[83, 69, 76, 69, 67, 84]⟩ : ByteArray)).bind fun t165 => (some (!t165))) else (some false))) true := by
    refine Ev.bind w1 ?_
    refine ev_of_eq (f := fun k => (lex_Word.f k (⟨#[83, 69, 76, 69, 67, 84]⟩ : ByteArray)).bind fun t165 => (some (!t165))) (fun k => rfl) ?_
    exact Ev.bind w2 (evs _)
  refine ev_of_eq (fun k => ?_) h
  simp [res, toS, rd_T28, toL, bs_ofL]
theorem rword_w (x : ByteArray) (hx : x.size ≤ 140737488351232) : ∀ (r : List ByteArray) (L : List ByteArray) (i : Nat), L.drop i = r → L.length ≤ 1000 →
    Ev (fun n => antipoderef16_Word.l1 n x L (i : Int)) (!((r.map bs).contains (bs x))) := by
  intro r
  induction r with
  | nil =>
    intro L i h hL
    have := List.drop_eq_nil_iff.1 h
    refine Ev.step (f := fun _ => some _) (fun k => ?_) (evs _)
    show antipoderef16_Word.l1 (k + 1) x L i = _
    simp only [antipoderef16_Word.l1]
    rw [if_neg (by omega)]
    rfl
  | cons y r ih =>
    intro L i h hL
    have hi : i < L.length := by
      rcases Nat.lt_or_ge i L.length with h' | h'
      · exact h'
      · rw [List.drop_of_length_le h'] at h; cases h
    have hy : rdOf ByteArray.empty L (i : Int) = y := by
      rw [List.drop_eq_getElem_cons hi] at h
      injection h with h1 _
      simp [rdOf, List.getD_eq_getElem?_getD, List.getElem?_eq_getElem hi, h1]
    have h' : L.drop (i + 1) = r := by rw [← List.tail_drop, h]; rfl
    by_cases e : bs y = bs x
    · refine Ev.step (f := fun _ => some _) (fun k => ?_) (evs _)
      show antipoderef16_Word.l1 (k + 1) x L i = _
      simp only [antipoderef16_Word.l1]
      rw [if_pos (by omega), if_pos (by omega), hy, toL, toL, if_pos e, List.map_cons, e]
      simp
    · refine Ev.step (f := fun n => antipoderef16_Word.l1 n x L ((i + 1 : Nat) : Int)) (fun k => ?_) ?_
      · show antipoderef16_Word.l1 (k + 1) x L i = _
        simp only [antipoderef16_Word.l1]
        rw [if_pos (by omega), if_pos (by omega), hy, toL, toL, if_neg e, wr (by omega) (by omega)]
        rfl
      · have := ih L (i + 1) h' hL
        rw [List.map_cons, List.contains_cons, show (bs x == bs y) = false by simpa using fun h => e h.symm, Bool.false_or]
        exact this
theorem rres_list : ∃ L : List ByteArray, antipoderef16_Reserved.f = some L ∧ L.map bs = RW ∧ L.length ≤ 1000 := ⟨_, rfl, by decide +kernel, by decide +kernel⟩
theorem rword_c (x : ByteArray) (hx : x.size ≤ 140737488351232) : ∀ (l : List UInt8) (i : Nat), (bs x).drop i = l →
    Ev (fun n => antipoderef16_Word.l0 n x (i : Int)) (l.all worU && (l.map uppU == l) && !(RW.contains (bs x))) := by
  intro l
  induction l with
  | nil =>
    intro i h
    have := drop_nil h
    obtain ⟨L, h1, h2, h3⟩ := rres_list
    refine Ev.step (f := fun n => antipoderef16_Word.l1 n x L 0) (fun k => ?_) ?_
    · show antipoderef16_Word.l0 (k + 1) x i = _
      simp only [antipoderef16_Word.l0]
      rw [if_neg (by omega), h1, Option.bind_some]
    · have := rword_w x hx L L 0 rfl h3
      rw [h2] at this
      simpa using this
  | cons c t ih =>
    intro i h
    obtain ⟨g1, g2, g3⟩ := drop_cons h
    have hgo : ∀ k, antipoderef16_Word.l0 (k + 1) x (i : Int) = if worU c = true then (if ((uppU c).toNat : Int) = (c.toNat : Int) then antipoderef16_Word.l0 k x ((i + 1 : Nat) : Int) else some false) else some false := by
      intro k
      simp only [antipoderef16_Word.l0]
      rw [if_pos (by omega), if_pos (by omega), g2, rletter_f, Option.bind_some, rgreat_f, rdigit_f, Option.bind_some, Option.bind_some, wr (by omega) (by omega)]
      simp only [worU, Bool.or_eq_true]
      by_cases h1 : letU c = true
      · rw [if_pos h1, if_pos (show letU c = true ∨ digU c = true from .inl h1)]; rfl
      · rw [if_neg h1]
        by_cases h2 : digU c = true
        · rw [if_pos h2, if_pos (show letU c = true ∨ digU c = true from .inr h2)]; rfl
        · rw [if_neg h2, if_neg (by rintro (h | h); exact h1 h; exact h2 h)]
    by_cases hw : worU c = true
    · by_cases hu : uppU c = c
      · refine Ev.step (f := fun n => antipoderef16_Word.l0 n x ((i + 1 : Nat) : Int)) (fun k => ?_) ?_
        · show antipoderef16_Word.l0 (k + 1) x i = _
          rw [hgo, if_pos hw, if_pos (by rw [hu])]
        · have := ih (i + 1) g3
          simp only [List.all_cons, hw, Bool.true_and, List.map_cons, hu]
          simpa using this
      · refine Ev.step (f := fun _ => some _) (fun k => ?_) (evs _)
        show antipoderef16_Word.l0 (k + 1) x i = _
        rw [hgo, if_pos hw, if_neg (fun e => hu (UInt8.toNat_inj.1 (by omega)))]
        simp [hu]
    · refine Ev.step (f := fun _ => some _) (fun k => ?_) (evs _)
      show antipoderef16_Word.l0 (k + 1) x i = _
      rw [hgo, if_neg hw]
      simp [hw]
theorem rWord_f (x : ByteArray) (hx : x.size ≤ 140737488351232) : Ev (fun n => antipoderef16_Word.f n x) (wordS (bs x)) := by
  have jt : Ev (fun n => antipoderef16_Word.j0 n x true) false :=
    Ev.step (f := fun _ => some _) (fun k => by show antipoderef16_Word.j0 (k + 1) x true = _; simp only [antipoderef16_Word.j0, if_true]) (evs _)
  unfold antipoderef16_Word.f
  rcases list_cases (bs x) with hb | ⟨c, t, hb⟩
  · have := size0 x hb
    refine ev_of_eq (fun k => by rw [if_pos (by omega)]) ?_
    rw [hb]
    exact jt
  · have h0 : bt x 0 = (c.toNat : Int) := (drop_cons (s := x) (i := 0) (show (bs x).drop 0 = c :: t from hb)).2.1
    have hsz : x.size = t.length + 1 := by rw [← bs_len, hb]; simp
    by_cases h16 : x.size > 16
    · refine ev_of_eq (fun k => by rw [if_neg (by omega), if_pos (by omega)]) ?_
      unfold wordS
      rw [show decide ((bs x).length ≤ 16) = false by rw [bs_len]; simp; omega]
      simpa using jt
    · refine ev_of_eq (f := fun k => antipoderef16_Word.j0 k x (digU c)) (fun k => by rw [if_neg (by omega), if_neg (by omega), if_pos (by omega), h0, rdigit_f, Option.bind_some]) ?_
      by_cases hd : digU c = true
      · rw [hd]
        unfold wordS
        rw [show headDig (bs x) = true by rw [hb]; exact hd]
        simpa using jt
      · rw [Bool.eq_false_iff.2 hd]
        refine Ev.step (f := fun n => antipoderef16_Word.l0 n x 0) (fun k => by show antipoderef16_Word.j0 (k + 1) x false = _; simp only [antipoderef16_Word.j0, Bool.false_eq_true, if_false]) ?_
        have := rword_c x hx (bs x) 0 rfl
        unfold wordS
        rw [show (bs x).isEmpty = false by rw [hb]; rfl, show headDig (bs x) = false by rw [hb]; exact Bool.eq_false_iff.2 hd, show decide ((bs x).length ≤ 16) = true by rw [bs_len]; simp; omega]
        simpa using this
end Go.Proofs.Ytpgcjlndojbmjaa.Pure
