/- What LexBack needs of the lemmas about tokens, Word and begun: no answer of the document in it. -/
import Derived.Test.YtpgcjlndojbmjaaLexG
import Derived.Test.YtpgcjlndojbmjaaPLx10
namespace Go.Proofs.Ytpgcjlndojbmjaa.Pure
open Go.RowKit Go.Proofs.Ytpgcjlndojbmjaa.PL Go.Proofs.YtpgcjlndojbmjaaW.PrintWords Go.Proofs.YtpgcjlndojbmjaaW.PrintLast
set_option linter.unusedVariables false
set_option linter.unusedSimpArgs false
theorem all_bytes {P : UInt8 → Prop} (h : ∀ n : Nat, n < 256 → P (UInt8.ofNat n)) (c : UInt8) : P c := by
  have := h c.toNat c.toNat_lt
  rwa [UInt8.ofNat_toNat] at this
/-- The words that are no names. -/
def RW : List (List UInt8) := [[65, 76, 76], [65, 78, 68], [65, 83], [65, 83, 67], [66, 69, 84, 87, 69, 69, 78], [66, 79, 85, 78, 68], [66, 89], [67, 79, 85, 78, 84], [68, 69, 76, 69, 84, 69], [68, 69, 83, 67], [69, 88, 65, 67, 84], [70, 65, 76, 83, 69], [70, 82, 79, 77], [73, 78, 83, 69, 82, 84], [73, 78, 84, 79], [73, 83], [76, 73, 77, 73, 84], [78, 79, 84], [78, 85, 76, 76], [78, 79, 87], [79, 70], [79, 82], [79, 82, 68, 69, 82], [83, 69, 76, 69, 67, 84], [83, 69, 84], [83, 85, 77], [83, 89, 83, 84, 69, 77], [84, 73, 77, 69], [84, 82, 85, 69], [85, 80, 68, 65, 84, 69], [86, 65, 76, 85, 69, 83], [87, 72, 69, 82, 69]]
def headDig : List UInt8 → Bool
  | [] => false
  | d :: _ => digU d
def wordS (l : List UInt8) : Bool := !l.isEmpty && decide (l.length ≤ 16) && !headDig l && l.all worU && (l.map uppU == l) && !(RW.contains l)
/-- Words with blanks around. -/
def joinW : List (List UInt8) → List UInt8
  | [] => [32]
  | w :: ws => 32 :: (w ++ joinW ws)
theorem con_cons (b : UInt8) (l sub : List UInt8) : Lib.contains (b :: l) sub = (sub.isPrefixOf (b :: l) || Lib.contains l sub) := by
  unfold Lib.contains
  rw [Lib.index]
  cases h : sub.isPrefixOf (b :: l) with
  | true => simp
  | false =>
    simp only [Bool.false_eq_true, if_false, Bool.false_or]
    have := Lib.index_ge l sub
    by_cases h1 : Lib.index l sub = -1
    · rw [h1]; rfl
    · rw [if_neg (by simpa using h1)]
      apply decide_eq_decide.2
      omega
theorem con_nil (c : UInt8) (t : List UInt8) : Lib.contains [] (c :: t) = false := rfl
theorem con_skip (sub : List UInt8) (c : UInt8) (t : List UInt8) (hs : sub = c :: t) : ∀ (w r : List UInt8), (∀ b ∈ w, b ≠ c) → Lib.contains (w ++ r) sub = Lib.contains r sub := by
  intro w r
  induction w with
  | nil => intro _; rfl
  | cons b w ih =>
    intro h
    rw [List.cons_append, con_cons, ih (fun x hx => h x (by simp [hx]))]
    have : sub.isPrefixOf (b :: (w ++ r)) = false := by
      subst hs
      simp only [List.isPrefixOf, Bool.and_eq_false_iff]
      exact .inl (beq_eq_false_iff_ne.2 fun e => h b (by simp) e.symm)
    rw [this, Bool.false_or]
theorem joinW_head (ws : List (List UInt8)) : ∃ r, joinW ws = 32 :: r := by cases ws with
  | nil => exact ⟨[], rfl⟩
  | cons w ws => exact ⟨_, rfl⟩
theorem pre_word : ∀ (l w r : List UInt8), (∀ b ∈ l, b ≠ 32) → (∀ b ∈ w, b ≠ 32) → (l ++ [32]).isPrefixOf (w ++ 32 :: r) = (l == w) := by
  intro l
  induction l with
  | nil =>
    intro w r _ hw
    cases w with
    | nil => simp [List.isPrefixOf]
    | cons a w =>
      have := hw a (by simp)
      simp [List.isPrefixOf, Ne.symm this]
  | cons c l ih =>
    intro w r hl hw
    cases w with
    | nil =>
      have := hl c (by simp)
      simp [List.isPrefixOf, this]
    | cons a w =>
      have := ih w r (fun b hb => hl b (by simp [hb])) (fun b hb => hw b (by simp [hb]))
      simp only [List.cons_append, List.isPrefixOf, this]
      rfl
theorem con_join (l : List UInt8) (hl : ∀ b ∈ l, b ≠ 32) : ∀ (ws : List (List UInt8)), (∀ w ∈ ws, ∀ b ∈ w, b ≠ 32) → Lib.contains (joinW ws) (32 :: (l ++ [32])) = ws.contains l := by
  intro ws
  induction ws with
  | nil =>
    intro _
    rw [joinW, con_cons, con_nil, Bool.or_false]
    cases l <;> simp [List.isPrefixOf]
  | cons w ws ih =>
    intro h
    obtain ⟨r, hr⟩ := joinW_head ws
    rw [joinW, con_cons, con_skip _ 32 _ rfl w _ (h w (by simp)), ih (fun v hv => h v (by simp [hv])), hr]
    have := pre_word l w r hl (h w (by simp))
    simp only [List.isPrefixOf, beq_self_eq_true, Bool.true_and, this, List.contains_cons]
theorem all_tw (p : UInt8 → Bool) : ∀ l : List UInt8, ((l.takeWhile p).length < l.length) = (l.all p = false) := by
  intro l
  induction l with
  | nil => simp
  | cons a t ih =>
    rw [List.takeWhile_cons]
    by_cases h : p a = true
    · rw [if_pos h]
      simp only [List.length_cons, List.all_cons, h, Bool.true_and, Nat.add_lt_add_iff_right]
      exact ih
    · rw [if_neg h]
      simp [Bool.eq_false_iff.2 h]
theorem word_no32 (c : UInt8) (h : worU c = true) : c ≠ 32 := by
  rintro rfl; revert h; decide
theorem list_cases (l : List UInt8) : l = [] ∨ ∃ c t, l = c :: t := by cases l with
  | nil => exact .inl rfl
  | cons c t => exact .inr ⟨c, t, rfl⟩
theorem resB_list : (⟨#[32, 65, 76, 76, 32, 65, 78, 68, 32, 65, 83, 32, 65, 83, 67, 32, 66, 69, 84, 87, 69, 69, 78, 32, 66, 79, 85, 78, 68, 32, 66, 89, 32, 67, 79, 85, 78, 84, 32, 68, 69, 76, 69, 84, 69, 32, 68, 69, 83, 67, 32, 69, 88, 65, 67, 84, 32, 70, 65, 76, 83, 69, 32, 70, 82, 79, 77, 32, 73, 78, 83, 69, 82, 84, 32, 73, 78, 84, 79, 32, 73, 83, 32, 76, 73, 77, 73, 84, 32, 78, 79, 84, 32, 78, 85, 76, 76, 32, 78, 79, 87, 32, 79, 70, 32, 79, 82, 32, 79, 82, 68, 69, 82, 32, 83, 69, 76, 69, 67, 84, 32, 83, 69, 84, 32, 83, 85, 77, 32, 83, 89, 83, 84, 69, 77, 32, 84, 73, 77, 69, 32, 84, 82, 85, 69, 32, 85, 80, 68, 65, 84, 69, 32, 86, 65, 76, 85, 69, 83, 32, 87, 72, 69, 82, 69, 32]⟩ : ByteArray).data.toList = joinW RW := by decide +kernel
theorem resB_size : (⟨#[32, 65, 76, 76, 32, 65, 78, 68, 32, 65, 83, 32, 65, 83, 67, 32, 66, 69, 84, 87, 69, 69, 78, 32, 66, 79, 85, 78, 68, 32, 66, 89, 32, 67, 79, 85, 78, 84, 32, 68, 69, 76, 69, 84, 69, 32, 68, 69, 83, 67, 32, 69, 88, 65, 67, 84, 32, 70, 65, 76, 83, 69, 32, 70, 82, 79, 77, 32, 73, 78, 83, 69, 82, 84, 32, 73, 78, 84, 79, 32, 73, 83, 32, 76, 73, 77, 73, 84, 32, 78, 79, 84, 32, 78, 85, 76, 76, 32, 78, 79, 87, 32, 79, 70, 32, 79, 82, 32, 79, 82, 68, 69, 82, 32, 83, 69, 76, 69, 67, 84, 32, 83, 69, 84, 32, 83, 85, 77, 32, 83, 89, 83, 84, 69, 77, 32, 84, 73, 77, 69, 32, 84, 82, 85, 69, 32, 85, 80, 68, 65, 84, 69, 32, 86, 65, 76, 85, 69, 83, 32, 87, 72, 69, 82, 69, 32]⟩ : ByteArray).size < 4294967281 := by decide +kernel
theorem Word_f (x : ByteArray) (hx : x.size ≤ 140737488351232) : Ev (fun n => lex_Word.f n x) (wordS (bs x)) := by
  unfold lex_Word.f
  rw [toL]
  rcases list_cases (bs x) with hb | ⟨c, t, hb⟩
  · refine ev_of_eq (f := fun _ => some _) (fun k => ?_) (evs _)
    rw [if_pos hb, hb]
    rfl
  · have h0 : bt x 0 = (c.toNat : Int) := (drop_cons (s := x) (i := 0) (show (bs x).drop 0 = c :: t from hb)).2.1
    have hsz : x.size = t.length + 1 := by rw [← bs_len, hb]; simp
    refine ev_of_eq (f := fun k => _) (fun k => by rw [if_neg (by rw [hb]; simp)]) ?_
    by_cases h16 : x.size > 16
    · refine ev_of_eq (f := fun _ => some _) (fun k => ?_) (evs _)
      rw [if_pos (by omega)]
      unfold wordS
      rw [show decide ((bs x).length ≤ 16) = false by rw [bs_len]; simp; omega]
      simp
    · refine ev_of_eq (f := fun k => _) (fun k => by rw [if_neg (by omega), if_pos (by omega), h0, digit_f, Option.bind_some]) ?_
      by_cases hd : digU c = true
      · refine ev_of_eq (f := fun _ => some _) (fun k => ?_) (evs _)
        rw [if_pos hd]
        unfold wordS
        rw [show headDig (bs x) = true by rw [hb]; exact hd]
        simp
      · refine ev_of_eq (f := fun k => (lex_run_of_wordy.f k x).bind _) (fun k => by rw [if_neg hd]) ?_
        refine Ev.bind (f := fun n t153 => _) (run_word_f x hx) ?_
        have hall := all_tw worU (bs x)
        rw [bs_len] at hall
        by_cases ha : (bs x).all worU = true
        · have hn : ¬ ((bs x).takeWhile worU).length < x.size := by rw [hall, ha]; decide
          refine ev_of_eq (f := fun _ => some _) (fun k => ?_) (evs _)
          rw [if_neg (by omega), upper_f x hx, Option.bind_some, toL, bs_ofL]
          by_cases hu : (bs x).map uppU = bs x
          · have hcon : strings_Contains.f (⟨#[32, 65, 76, 76, 32, 65, 78, 68, 32, 65, 83, 32, 65, 83, 67, 32, 66, 69, 84, 87, 69, 69, 78, 32, 66, 79, 85, 78, 68, 32, 66, 89, 32, 67, 79, 85, 78, 84, 32, 68, 69, 76, 69, 84, 69, 32, 68, 69, 83, 67, 32, 69, 88, 65, 67, 84, 32, 70, 65, 76, 83, 69, 32, 70, 82, 79, 77, 32, 73, 78, 83, 69, 82, 84, 32, 73, 78, 84, 79, 32, 73, 83, 32, 76, 73, 77, 73, 84, 32, 78, 79, 84, 32, 78, 85, 76, 76, 32, 78, 79, 87, 32, 79, 70, 32, 79, 82, 32, 79, 82, 68, 69, 82, 32, 83, 69, 76, 69, 67, 84, 32, 83, 69, 84, 32, 83, 85, 77, 32, 83, 89, 83, 84, 69, 77, 32, 84, 73, 77, 69, 32, 84, 82, 85, 69, 32, 85, 80, 68, 65, 84, 69, 32, 86, 65, 76, 85, 69, 83, 32, 87, 72, 69, 82, 69, 32]⟩ : ByteArray) (((⟨#[32]⟩ : ByteArray) ++ x) ++ (⟨#[32]⟩ : ByteArray)) = some (RW.contains (bs x)) := by
              unfold strings_Contains.f
              rw [if_pos resB_size, resB_list]
              have e1 : (((⟨#[32]⟩ : ByteArray) ++ x) ++ (⟨#[32]⟩ : ByteArray)).data.toList = 32 :: (bs x ++ [32]) := by
                show bs _ = _
                rw [bs_append, bs_append]
                rfl
              rw [e1, ← con_join (bs x) (fun b hb' => word_no32 b (List.all_eq_true.1 ha b hb')) RW (by decide)]
            rw [if_pos hu, if_pos (by omega), if_pos (by rw [ByteArray.size_append]; show 1 + x.size + 1 ≤ _; omega), hcon, Option.bind_some]
            unfold wordS
            rw [ha, hu, show (bs x).isEmpty = false by rw [hb]; rfl, show headDig (bs x) = false by rw [hb]; exact Bool.eq_false_iff.2 hd, show decide ((bs x).length ≤ 16) = true by rw [bs_len]; simp; omega]
            simp
          · rw [if_neg hu]
            unfold wordS
            rw [show ((bs x).map uppU == bs x) = false by simpa using hu]
            simp
        · have hf := Bool.eq_false_iff.2 ha
          have hn : ((bs x).takeWhile worU).length < x.size := by rw [hall]; exact hf
          refine ev_of_eq (f := fun _ => some _) (fun k => ?_) (evs _)
          rw [if_pos (by omega)]
          unfold wordS
          rw [hf]
          simp
theorem lex_a5 : lexT [97, 60, 61, 53] = ([⟨1, 0, [65], 0⟩, ⟨4, 1, [60, 61], 0⟩, ⟨2, 3, [], 5⟩, ⟨0, 4, [], 0⟩], 0) := by rfl
theorem begun_f : Ev (fun n => antipodelaw16_begun.f n) true := by
  unfold antipodelaw16_begun.f
  refine Ev.bind (f := fun n bt156 => _) (Lex_f ⟨#[97, 60, 61, 53]⟩) ?_
  rw [show lexT (bs ⟨#[97, 60, 61, 53]⟩) = _ from lex_a5]
  have w1 := Word_f ⟨#[84, 49]⟩ (by decide)
  have w2 := Word_f ⟨#[83, 69, 76, 69, 67, 84]⟩ (by decide)
  rw [show wordS (bs ⟨#[84, 49]⟩) = true by decide +kernel] at w1
  rw [show wordS (bs ⟨#[83, 69, 76, 69, 67, 84]⟩) = false by decide +kernel] at w2
  have h : Ev (fun k => (lex_Word.f k (⟨#[84, 49]⟩ : ByteArray)).bind fun t164 => (if t164 = true then ((lex_Word.f k (⟨#[83, 69, 76, 69, 67, 84]⟩ : ByteArray)).bind fun t165 => (some (!t165))) else (some false))) true := by
    refine Ev.bind w1 ?_
    refine ev_of_eq (f := fun k => (lex_Word.f k (⟨#[83, 69, 76, 69, 67, 84]⟩ : ByteArray)).bind fun t165 => (some (!t165))) (fun k => rfl) ?_
    exact Ev.bind w2 (evs _)
  refine ev_of_eq (fun k => ?_) h
  simp [res, toS, rd_T28, toL, bs_ofL]
theorem tw_app (p : UInt8 → Bool) (c : UInt8) (r : List UInt8) (hc : p c = false) : ∀ l : List UInt8, (l ++ c :: r).takeWhile p = l.takeWhile p := by
  intro l
  induction l with
  | nil => simp [hc]
  | cons a t ih =>
    rw [List.cons_append, List.takeWhile_cons, List.takeWhile_cons, ih]
theorem dw_app (p : UInt8 → Bool) (c : UInt8) (r : List UInt8) (hc : p c = false) : ∀ l : List UInt8, (l ++ c :: r).dropWhile p = l.dropWhile p ++ c :: r := by
  intro l
  induction l with
  | nil => simp [hc]
  | cons a t ih =>
    rw [List.cons_append, List.dropWhile_cons, List.dropWhile_cons, ih]
    split <;> rfl
/-- A byte that ends any token. -/
def stop (c : UInt8) : Prop := worU c = false ∧ c.toNat ≠ 39 ∧ c.toNat ≠ 61 ∧ c.toNat ≠ 62
theorem stop_let {c : UInt8} (h : stop c) : letU c = false ∧ digU c = false := by
  have := h.1
  simp only [worU, Bool.or_eq_false_iff] at this
  exact this
theorem headLet_app (l : List UInt8) (c : UInt8) (r : List UInt8) (h : letU c = false) : headLet (l ++ c :: r) = headLet l := by
  cases l with
  | nil => exact h
  | cons a t => rfl
theorem texS_app (c0 : UInt8) (r : List UInt8) (hc : c0.toNat ≠ 39) : ∀ (N : Nat) (l : List UInt8), l.length = N → ∀ (acc : List UInt8) (n : Nat) {x : List UInt8 × Nat}, texS acc n l = some x → texS acc n (l ++ c0 :: r) = some x := by
  intro N
  induction N using Nat.strongRecOn with
  | _ N ih =>
  intro l hl acc n x h
  match l, hl with
  | [], hl => simp [texS] at h
  | [c], hl =>
    simp only [texS] at h
    simp only [List.cons_append, List.nil_append, texS]
    split at h
    · rename_i h39; rw [if_pos h39, if_neg hc]; exact h
    · cases h
  | c :: d :: t, hl =>
    simp only [List.length_cons] at hl
    simp only [texS] at h
    simp only [List.cons_append, texS]
    split at h
    · rename_i h39
      rw [if_pos h39]
      split at h
      · rename_i hd
        rw [if_pos hd]
        exact ih t.length (by omega) t rfl _ _ h
      · rename_i hd
        rw [if_neg hd]
        exact h
    · rename_i h39
      rw [if_neg h39]
      exact ih (t.length + 1) (by omega) (d :: t) (by simp) _ _ h
theorem sigS_app (c : UInt8) (t : List UInt8) (c0 : UInt8) (r : List UInt8) (hs : stop c0) : sigS c (t ++ c0 :: r) = sigS c t := by
  cases t with
  | nil =>
    unfold sigS
    simp only [List.nil_append]
    rw [if_neg hs.2.2.2, if_neg hs.2.2.1]
  | cons d t => rfl
theorem tokS_app (l : List UInt8) (c0 : UInt8) (r : List UInt8) (hs : stop c0) {k : Int} {s : List UInt8} {v : Int} {n : Nat} (h : tokS l = .ok k s v n) : tokS (l ++ c0 :: r) = .ok k s v n := by
  have hl := stop_let hs
  cases l with
  | nil => simp [tokS] at h
  | cons c t =>
    rw [tokS_cons] at h
    rw [List.cons_append, tokS_cons, ← List.cons_append, tw_app _ _ _ hs.1, tw_app _ _ _ hl.2, dw_app _ _ _ hl.2, headLet_app _ _ _ hl.1]
    by_cases h1 : letU c = true
    · rw [if_pos h1] at h ⊢; exact h
    · rw [if_neg h1] at h ⊢
      by_cases h2 : digU c = true
      · rw [if_pos h2] at h ⊢; exact h
      · rw [if_neg h2] at h ⊢
        by_cases h3 : c.toNat = 39
        · rw [if_pos h3] at h ⊢
          cases hv : texS [] 1 t with
          | none => rw [hv] at h; cases h
          | some x => rw [hv] at h; rw [texS_app c0 r hs.2.1 _ t rfl _ _ hv]; exact h
        · rw [if_neg h3] at h ⊢
          rw [sigS_app c t c0 r hs]; exact h
theorem stop32 : stop 32 := ⟨by decide, by decide, by decide, by decide⟩
end Go.Proofs.Ytpgcjlndojbmjaa.Pure
