/- The reference's Lex as a whole; begun. -/
import Derived.Test.YtpgcjlndojbmjaaLexR
namespace Go.Proofs.Ytpgcjlndojbmjaa.Pure
open Go.RowKit Go.Proofs.Ytpgcjlndojbmjaa.PL Go.Proofs.YtpgcjlndojbmjaaW.PrintWords Go.Proofs.YtpgcjlndojbmjaaW.PrintLast Go.Proofs.YtpgcjlndojbmjaaW.PrintMore
set_option linter.unusedVariables false
set_option linter.unusedSimpArgs false

theorem strOf1 (c : UInt8) : strOfNums [((uppU c).toNat : Int)] = ofL [uppU c] := strOf [uppU c]
theorem rword_l (x : ByteArray) (hx : x.size ≤ 140737488351232) (p : Nat) : ∀ (l : List UInt8) (q : Nat) (acc : List UInt8), (bs x).drop q = l → acc.length ≤ q →
    Ev (fun n => antipoderef16_one.l0 n x (q : Int) (ofL acc)) (1, 0, ofL (acc ++ (l.takeWhile worU).map uppU), 0, ((q + (l.takeWhile worU).length : Nat) : Int), 0) := by
  intro l
  induction l with
  | nil =>
    intro q acc h ha
    have := drop_nil h
    refine Ev.step (f := fun _ => some _) (fun k => ?_) (evs _)
    show antipoderef16_one.l0 (k + 1) x q _ = _
    simp only [antipoderef16_one.l0]
    rw [if_neg (by omega)]
    simp
  | cons c t ih =>
    intro q acc h ha
    obtain ⟨g1, g2, g3⟩ := drop_cons h
    rw [List.takeWhile_cons]
    by_cases hw : worU c = true
    · rw [if_pos hw]
      have e1 : acc ++ (c :: t.takeWhile worU).map uppU = (acc ++ [uppU c]) ++ (t.takeWhile worU).map uppU := by simp
      rw [e1, List.length_cons, show q + ((t.takeWhile worU).length + 1) = q + 1 + (t.takeWhile worU).length by omega]
      refine Ev.step (f := fun n => antipoderef16_one.l0 n x ((q + 1 : Nat) : Int) (ofL (acc ++ [uppU c]))) (fun k => ?_) (ih (q + 1) _ g3 (by simp; omega))
      show antipoderef16_one.l0 (k + 1) x q _ = _
      simp only [antipoderef16_one.l0]
      have e2 : ofL acc ++ ofL [uppU c] = ofL (acc ++ [uppU c]) := by apply bs_inj; rw [bs_append, bs_ofL, bs_ofL, bs_ofL]
      rw [if_pos (by omega), if_pos (by omega), g2, rletter_f, rdigit_f, rgreat_f]
      simp only [Option.bind_some]
      have hsz : (ofL acc).size + (ofL [uppU c]).size ≤ 9223372036854775807 := by rw [ofL_size, ofL_size]; simp; omega
      have hw' := hw
      simp only [worU, Bool.or_eq_true] at hw'
      rw [strOf1, e2, wr (by omega) (by omega)]
      by_cases hl : letU c = true
      · rw [if_pos hl, if_pos hsz]; rfl
      · rw [if_neg hl, if_pos (hw'.resolve_left hl), if_pos hsz]; rfl
    · rw [if_neg hw]
      refine Ev.step (f := fun _ => some _) (fun k => ?_) (evs _)
      show antipoderef16_one.l0 (k + 1) x q _ = _
      simp only [antipoderef16_one.l0]
      have hw' := hw
      simp only [worU, Bool.or_eq_true, not_or] at hw'
      rw [if_pos (by omega), if_pos (by omega), g2, rletter_f, rdigit_f, Option.bind_some, if_neg hw'.1, Option.bind_some, if_neg hw'.2]
      simp
theorem ext_one {x : ByteArray} {p : Nat} {c : UInt8} {t : List UInt8} (h : (bs x).drop p = c :: t) : x.extract p (p + 1) = ofL [c] := by
  apply bs_inj; rw [bs_extract, bs_ofL, h, show p + 1 - p = 1 by omega]; rfl
theorem ext_two {x : ByteArray} {p : Nat} {c d : UInt8} {t : List UInt8} (h : (bs x).drop p = c :: d :: t) : x.extract p (p + 2) = ofL [c, d] := by
  apply bs_inj; rw [bs_extract, bs_ofL, h, show p + 2 - p = 2 by omega]; rfl
def signsL : List UInt8 := [40, 41, 44, 59, 42, 61, 60, 62, 43, 45, 47, 37]
theorem rsign_l (x : ByteArray) (hx : x.size ≤ 140737488351232) (p : Nat) (c : UInt8) (t : List UInt8) (h : (bs x).drop p = c :: t) : ∀ (r : List UInt8) (i : Nat), signsL.drop i = r →
    Ev (fun n => antipoderef16_one.l1 n x (p : Int) (i : Int)) (encR p (if c ∈ r then TR.ok 4 [c] 0 1 else TR.bad 13)) := by
  obtain ⟨g1, g2, g3⟩ := drop_cons h
  intro r
  induction r with
  | nil =>
    intro i hr
    have hi : 12 ≤ i := by have := List.drop_eq_nil_iff.1 hr; simpa [signsL] using this
    refine Ev.step (f := fun _ => some _) (fun k => ?_) (evs _)
    show antipoderef16_one.l1 (k + 1) x p i = _
    simp only [antipoderef16_one.l1]
    rw [if_neg (by omega)]
    rfl
  | cons d r ih =>
    intro i hr
    have hi : i < 12 := by
      rcases Nat.lt_or_ge i 12 with h' | h'
      · exact h'
      · rw [List.drop_of_length_le (by simpa [signsL] using h')] at hr; cases hr
    have hd : bt (⟨#[40, 41, 44, 59, 42, 61, 60, 62, 43, 45, 47, 37]⟩ : ByteArray) (i : Int) = (d.toNat : Int) := (drop_cons (s := ⟨#[40, 41, 44, 59, 42, 61, 60, 62, 43, 45, 47, 37]⟩) (i := i) (c := d) (t := r) hr).2.1
    have hr' : signsL.drop (i + 1) = r := by rw [← List.tail_drop, hr]; rfl
    by_cases e : d = c
    · subst e
      rw [if_pos (List.mem_cons_self)]
      refine Ev.step (f := fun _ => some _) (fun k => ?_) (evs _)
      show antipoderef16_one.l1 (k + 1) x p i = _
      simp only [antipoderef16_one.l1]
      rw [if_pos (by omega), if_pos (by omega), if_pos (by omega), if_pos (by omega), hd, g2, if_pos rfl, wr (by omega) (by omega), if_pos (by omega), if_pos (by omega), show ((p : Int) + 1).toNat = p + 1 by omega, Int.toNat_natCast, ext_one h]
      rfl
    · have hne : ¬ (d.toNat : Int) = (c.toNat : Int) := fun e' => e (UInt8.toNat_inj.1 (by omega))
      have hm : (c ∈ d :: r) = (c ∈ r) := by
        apply propext
        rw [List.mem_cons]
        exact ⟨fun h => h.resolve_left (fun e' => e e'.symm), .inr⟩
      simp only [hm]
      refine Ev.step (f := fun n => antipoderef16_one.l1 n x p ((i + 1 : Nat) : Int)) (fun k => ?_) (ih (i + 1) hr')
      show antipoderef16_one.l1 (k + 1) x p i = _
      simp only [antipoderef16_one.l1]
      rw [if_pos (by omega), if_pos (by omega), if_pos (by omega), if_pos (by omega), hd, g2, if_neg hne, wr (by omega) (by omega)]
      rfl
theorem rsign_j (x : ByteArray) (hx : x.size ≤ 140737488351232) (p : Nat) (c : UInt8) (t : List UInt8) (h : (bs x).drop p = c :: t) :
    Ev (fun n => antipoderef16_one.j1 n x (p : Int)) (encR p (if c ∈ signsL then TR.ok 4 [c] 0 1 else TR.bad 13)) :=
  Ev.step (f := fun n => antipoderef16_one.l1 n x (p : Int) 0) (fun k => by show antipoderef16_one.j1 (k + 1) x p = _; simp only [antipoderef16_one.j1]) (rsign_l x hx p c t h signsL 0 rfl)
theorem mem_signs (c : UInt8) : c ∈ signsL ↔ (c.toNat = 60 ∨ c.toNat = 62 ∨ isSign c = true) := by
  have := all_bytes (P := fun c => decide (c ∈ signsL) = decide (c.toNat = 60 ∨ c.toNat = 62 ∨ isSign c = true)) (by decide +kernel) c
  exact decide_eq_decide.1 this
theorem two_ne {x : ByteArray} {p : Nat} {c d a b : UInt8} {t : List UInt8} (h : (bs x).drop p = c :: d :: t) : ((x.extract p (p + 2)).toList = ([a, b] : List UInt8)) = (c = a ∧ d = b) := by
  rw [toL, ext_two h, bs_ofL]
  simp
theorem rone_f (x : ByteArray) (hx : x.size ≤ 140737488351232) (p : Nat) (c : UInt8) (t : List UInt8) (h : (bs x).drop p = c :: t) : Ev (fun n => antipoderef16_one.f n x (p : Int)) (encR p (tokS (c :: t))) := by
  obtain ⟨g1, g2, g3⟩ := drop_cons h
  unfold antipoderef16_one.f
  refine ev_of_eq (f := fun k => _) (fun k => by rw [if_pos (by omega), if_pos (by omega), g2, rletter_f, rdigit_f, Option.bind_some, Option.bind_some]) ?_
  rw [tokS_cons]
  by_cases h1 : letU c = true
  · refine ev_of_eq (f := fun k => _) (fun k => by rw [if_pos h1]) ?_
    rw [if_pos h1]
    have := rword_l x hx p (c :: t) p [] h (by simp)
    exact this
  · refine ev_of_eq (f := fun k => _) (fun k => by rw [if_neg h1]) ?_
    rw [if_neg h1]
    by_cases h2 : digU c = true
    · refine ev_of_eq (f := fun k => (antipoderef16_number.f k x p).bind fun bt121 => (some (bt121.1, bt121.2.1, bt121.2.2.1, bt121.2.2.2.1, bt121.2.2.2.2.1, bt121.2.2.2.2.2))) (fun k => by rw [if_pos h2]) ?_
      rw [if_pos h2]
      exact Ev.bind (rnumber_f x hx p _ h) (evs _)
    · refine ev_of_eq (f := fun k => _) (fun k => by rw [if_neg h2]) ?_
      rw [if_neg h2]
      by_cases h3 : c.toNat = 39
      · refine ev_of_eq (f := fun k => (antipoderef16_text.f k x p).bind fun bt121 => (some (bt121.1, bt121.2.1, bt121.2.2.1, bt121.2.2.2.1, bt121.2.2.2.2.1, bt121.2.2.2.2.2))) (fun k => by rw [if_pos (by omega)]) ?_
        rw [if_pos h3]
        exact Ev.bind (rtext_f x hx p c t h) (evs _)
      · refine ev_of_eq (f := fun k => _) (fun k => by rw [if_neg (show ¬ (c.toNat : Int) = 39 by omega), wr (x := (p : Int) + 1) (by omega) (by omega)]) ?_
        rw [if_neg h3]
        have hj := rsign_j x hx p c t h
        cases t with
        | nil =>
          have := drop_nil g3
          refine ev_of_eq (f := fun n => antipoderef16_one.j1 n x (p : Int)) (fun k => by rw [if_neg (by omega)]) ?_
          unfold sigS
          by_cases c60 : c.toNat = 60
          · rw [if_pos ((mem_signs c).2 (.inl c60))] at hj; rw [if_pos c60]; exact hj
          · rw [if_neg c60]
            by_cases c62 : c.toNat = 62
            · rw [if_pos ((mem_signs c).2 (.inr (.inl c62)))] at hj; rw [if_pos c62]; exact hj
            · rw [if_neg c62]
              by_cases hs : isSign c = true
              · rw [if_pos ((mem_signs c).2 (.inr (.inr hs)))] at hj; rw [if_pos hs]; exact hj
              · rw [if_neg (fun hm => ((mem_signs c).1 hm).elim c60 (fun hm => hm.elim c62 hs))] at hj; rw [if_neg hs]; exact hj
        | cons d t =>
          obtain ⟨e1, e2, e3⟩ := drop_cons g3
          have hw2 : wrap64 ((p : Int) + 2) = (p : Int) + 2 := wr (by omega) (by omega)
          have hn : ((p : Int) + 2).toNat = p + 2 := by omega
          refine ev_of_eq (f := fun k => _) (fun k => by rw [if_pos (show (p : Int) + 1 < (x.size : Int) by omega), hw2, if_pos (by omega), if_pos (by omega), hn, Int.toNat_natCast]) ?_
          simp only [two_ne h]
          rw [ext_two h]
          have k60 : (c = 60) = (c.toNat = 60) := propext ⟨fun h => by rw [h]; rfl, fun h => UInt8.toNat_inj.1 h⟩
          have k62 : (c = 62) = (c.toNat = 62) := propext ⟨fun h => by rw [h]; rfl, fun h => UInt8.toNat_inj.1 h⟩
          have d61 : (d = 61) = (d.toNat = 61) := propext ⟨fun h => by rw [h]; rfl, fun h => UInt8.toNat_inj.1 h⟩
          have d62 : (d = 62) = (d.toNat = 62) := propext ⟨fun h => by rw [h]; rfl, fun h => UInt8.toNat_inj.1 h⟩
          simp only [k60, k62, d61, d62]
          have hone : ∀ s, encR p (TR.ok 4 s 0 2) = (4, 0, ofL s, 0, (p : Int) + 2, 0) := fun s => rfl
          unfold sigS
          by_cases c60 : c.toNat = 60
          · rw [if_pos c60]
            simp only
            rw [if_pos ((mem_signs c).2 (.inl c60))] at hj
            by_cases q2 : d.toNat = 62
            · rw [if_pos q2, hone]
              refine ev_of_eq (f := fun _ => some _) (fun k => ?_) (evs _)
              rw [if_neg (by omega), if_neg (by omega), if_pos ⟨c60, q2⟩]
            · rw [if_neg q2]
              by_cases q1 : d.toNat = 61
              · rw [if_pos q1, hone]
                refine ev_of_eq (f := fun _ => some _) (fun k => ?_) (evs _)
                rw [if_pos ⟨c60, q1⟩]
              · rw [if_neg q1]
                refine ev_of_eq (fun k => ?_) hj
                rw [if_neg (by omega), if_neg (by omega), if_neg (by omega)]
          · rw [if_neg c60]
            by_cases c62 : c.toNat = 62
            · rw [if_pos c62]
              simp only
              rw [if_pos ((mem_signs c).2 (.inr (.inl c62)))] at hj
              by_cases q1 : d.toNat = 61
              · rw [if_pos q1, hone]
                refine ev_of_eq (f := fun _ => some _) (fun k => ?_) (evs _)
                rw [if_neg (by omega), if_pos ⟨c62, q1⟩]
              · rw [if_neg q1]
                refine ev_of_eq (fun k => ?_) hj
                rw [if_neg (by omega), if_neg (by omega), if_neg (by omega)]
            · rw [if_neg c62]
              by_cases hs : isSign c = true
              · rw [if_pos ((mem_signs c).2 (.inr (.inr hs)))] at hj
                rw [if_pos hs]
                refine ev_of_eq (fun k => ?_) hj
                rw [if_neg (by omega), if_neg (by omega), if_neg (by omega)]
              · rw [if_neg (fun hm => ((mem_signs c).1 hm).elim c60 (fun hm => hm.elim c62 hs))] at hj
                rw [if_neg hs]
                refine ev_of_eq (fun k => ?_) hj
                rw [if_neg (by omega), if_neg (by omega), if_neg (by omega)]
theorem rLex_l (x : ByteArray) (hx : x.size ≤ 2000) : ∀ (f : Nat) (l : List UInt8) (p : Nat) (acc : List Tk), l.length < f → (bs x).drop p = l → acc.length ≤ p → p ≤ x.size →
    Ev (fun n => antipoderef16_Lex.l0 n x (acc.map toS) (p : Int)) (res (lexS f p l acc)) := by
  intro f
  induction f with
  | zero => intro l p acc h; omega
  | succ f ih =>
    intro l p acc hf h ha hp
    cases l with
    | nil =>
      have h1 := drop_nil h
      refine Ev.step (f := fun _ => some _) (fun k => ?_) (evs _)
      show antipoderef16_Lex.l0 (k + 1) x _ p = _
      simp only [antipoderef16_Lex.l0]
      rw [if_neg (by omega), if_pos (by rw [List.length_map]; omega), lexS_end]
      have e : (x.size : Int) = (p : Int) := by omega
      rw [e]
      simp [res, toS, ofL]
    | cons c t =>
      obtain ⟨g1, g2, g3⟩ := drop_cons h
      rw [lexS_cons]
      by_cases hbl : blaU c = true
      · rw [if_pos hbl]
        refine Ev.step (f := fun n => antipoderef16_Lex.l0 n x (acc.map toS) ((p + 1 : Nat) : Int)) (fun k => ?_) (ih t (p + 1) acc (by simp at hf; omega) g3 (by omega) (by omega))
        show antipoderef16_Lex.l0 (k + 1) x _ p = _
        simp only [antipoderef16_Lex.l0]
        rw [if_pos (by omega), if_pos (by omega), g2, rblank_f, Option.bind_some, if_pos hbl, wr (by omega) (by omega)]
        rfl
      · rw [if_neg hbl]
        refine Ev.step (f := fun n => (antipoderef16_one.f n x (p : Int)).bind fun bt201 => (if bt201.2.2.2.2.2 = 0 then (if (acc.map toS).length < 3518437208883 then (antipoderef16_Lex.l0 n x ((acc.map toS) ++ [(⟨bt201.1, p, bt201.2.2.1, bt201.2.2.2.1⟩ : S28)]) bt201.2.2.2.2.1) else (none)) else (some (([] : List (S28)), bt201.2.2.2.2.2)))) (fun k => ?_) ?_
        · show antipoderef16_Lex.l0 (k + 1) x _ p = _
          simp only [antipoderef16_Lex.l0]
          rw [if_pos (by omega), if_pos (by omega), g2, rblank_f, Option.bind_some, if_neg hbl]
        refine Ev.bind (rone_f x (by omega) p c t h) ?_
        cases ht : tokS (c :: t) with
        | bad e =>
          have := tokS_bad _ ht
          refine ev_of_eq (f := fun _ => some _) (fun k => ?_) (evs _)
          rw [if_neg (show ¬ (encR p (TR.bad e)).2.2.2.2.2 = 0 from this)]
          rfl
        | ok k s v n =>
          obtain ⟨n1, n2, n3⟩ := tokS_n _ ht
          have hl : (c :: t).length = x.size - p := by rw [← h, List.length_drop, bs_len]
          refine ev_of_eq (fun k' => ?_) (ih ((c :: t).drop n) (p + n) (acc ++ [⟨k, p, s, v⟩]) (by rw [List.length_drop]; omega) (by rw [← h, List.drop_drop]) (by simp; omega) (by omega))
          rw [if_pos (show (encR p (TR.ok k s v n)).2.2.2.2.2 = 0 from rfl), if_pos (by rw [List.length_map]; omega)]
          show antipoderef16_Lex.l0 k' x (acc.map toS ++ [(⟨k, p, ofL s, v⟩ : S28)]) ((p + n : Nat) : Int) = _
          rw [toS_snoc]
theorem rLex_f (x : ByteArray) : Ev (fun n => antipoderef16_Lex.f n x) (res (lexT (bs x))) := by
  unfold antipoderef16_Lex.f lexT
  rw [bs_len]
  by_cases h : x.size > 2000
  · rw [if_pos h]
    refine ev_of_eq (f := fun _ => some _) (fun k => ?_) (evs _)
    rw [if_pos (by omega)]
    rfl
  · rw [if_neg h]
    refine ev_of_eq (f := fun n => antipoderef16_Lex.l0 n x ([] : List S28) 0) (fun k => ?_) ?_
    · rw [if_neg (by omega)]
    · exact rLex_l x (by omega) (x.size + 1) (bs x) 0 [] (by rw [bs_len]; omega) rfl (by simp) (by omega)
end Go.Proofs.Ytpgcjlndojbmjaa.Pure
