/- The printed functions of package lex tell what Spec tells. -/
import Derived.Test.YtpgcjlndojbmjaaSpec
import Derived.Test.YtpgcjlndojbmjaaPLx8
namespace Go.Proofs.Ytpgcjlndojbmjaa.Pure
open Go.RowKit Go.Proofs.Ytpgcjlndojbmjaa.PL Go.Proofs.YtpgcjlndojbmjaaW.PrintWords Go.Proofs.YtpgcjlndojbmjaaW.PrintLast Go.Proofs.YtpgcjlndojbmjaaW.PrintMore
set_option linter.unusedVariables false
set_option linter.unusedSimpArgs false

def bs (s : ByteArray) : List UInt8 := s.data.toList
def ofL (l : List UInt8) : ByteArray := ⟨l.toArray⟩
theorem bs_len (s : ByteArray) : (bs s).length = s.size := data_length s
theorem bs_ofL (l : List UInt8) : bs (ofL l) = l := by simp [bs, ofL]
theorem ofL_bs (s : ByteArray) : ofL (bs s) = s := by simp [bs, ofL]
theorem bs_inj {s t : ByteArray} (h : bs s = bs t) : s = t := by rw [← ofL_bs s, h, ofL_bs]
theorem toL (s : ByteArray) : s.toList = bs s := Go.ByteArray.toList_eq s
theorem ofL_size (l : List UInt8) : (ofL l).size = l.length := by rw [← bs_len, bs_ofL]
theorem bs_extract (s : ByteArray) (a b : Nat) : bs (s.extract a b) = ((bs s).drop a).take (b - a) := by
  simp only [bs, ByteArray.data_extract, Array.toList_extract, List.extract_eq_take_drop]
theorem bs_tail (s : ByteArray) (a : Nat) : bs (s.extract a s.size) = (bs s).drop a := by
  rw [bs_extract, List.take_of_length_le]
  simp [bs_len]
theorem bs_append (s t : ByteArray) : bs (s ++ t) = bs s ++ bs t := by simp [bs, ByteArray.data_append]
theorem drop_cons {s : ByteArray} {i : Nat} {c : UInt8} {t : List UInt8} (h : (bs s).drop i = c :: t) : i < s.size ∧ bt s (i : Int) = (c.toNat : Int) ∧ (bs s).drop (i + 1) = t := by
  have hl : i < (bs s).length := by
    rcases Nat.lt_or_ge i (bs s).length with h' | h'
    · exact h'
    · rw [List.drop_of_length_le h'] at h; cases h
  have hs : i < s.size := by rwa [bs_len] at hl
  rw [List.drop_eq_getElem_cons hl] at h
  injection h with h1 h2
  refine ⟨hs, ?_, h2⟩
  subst h1
  simp only [bt, Int.toNat_natCast, hs, dite_true]
  rfl
theorem drop_nil {s : ByteArray} {i : Nat} (h : (bs s).drop i = []) : s.size ≤ i := by
  have := List.drop_eq_nil_iff.1 h
  rwa [bs_len] at this
theorem wr {x : Int} (h0 : -9223372036854775808 ≤ x) (h1 : x ≤ 9223372036854775807) : wrap64 x = x := by
  unfold wrap64; omega
theorem tw_all (p : UInt8 → Bool) : ∀ (l : List UInt8) (c : UInt8), c ∈ l.takeWhile p → p c = true := by
  intro l
  induction l with
  | nil => intro c h; cases h
  | cons a t ih =>
    intro c h
    rw [List.takeWhile_cons] at h
    by_cases hp : p a = true
    · rw [if_pos hp] at h
      rcases List.mem_cons.1 h with rfl | h
      · exact hp
      · exact ih c h
    · rw [if_neg hp] at h; cases h
theorem dw_drop (p : UInt8 → Bool) : ∀ (l : List UInt8), l.dropWhile p = l.drop (l.takeWhile p).length := by
  intro l
  induction l with
  | nil => rfl
  | cons a t ih =>
    rw [List.takeWhile_cons, List.dropWhile_cons]
    by_cases hp : p a = true
    · rw [if_pos hp, if_pos hp, ih]; rfl
    · rw [if_neg hp, if_neg hp]; rfl
theorem evs {α : Type} (r : α) : Ev (fun _ => some r) r := ⟨0, fun _ _ => rfl⟩
theorem ev_of_eq {α : Type} {g f : Nat → Option α} {r : α} (h : ∀ k, g k = f k) (e : Ev f r) : Ev g r := by
  obtain ⟨K, hK⟩ := e
  exact ⟨K, fun k hk => (h k).trans (hK k hk)⟩
theorem letter_f (c : UInt8) : lex_letter.f (c.toNat : Int) = some (letU c) := by
  have k0 : ∀ n : Nat, n < 256 → lex_letter.f (n : Int) = some (letU (UInt8.ofNat n)) := by decide +kernel
  have h := k0 c.toNat c.toNat_lt
  rwa [UInt8.ofNat_toNat] at h
theorem digit_f (c : UInt8) : lex_digit.f (c.toNat : Int) = some (digU c) := by
  have k0 : ∀ n : Nat, n < 256 → lex_digit.f (n : Int) = some (digU (UInt8.ofNat n)) := by decide +kernel
  have h := k0 c.toNat c.toNat_lt
  rwa [UInt8.ofNat_toNat] at h
theorem wordy_f (c : UInt8) : lex_wordy.f (c.toNat : Int) = some (worU c) := by
  unfold lex_wordy.f
  rw [letter_f, digit_f]
  simp only [Option.bind_some, worU]
  cases letU c <;> simp
theorem run_word (x : ByteArray) (hx : x.size ≤ 140737488351232) : ∀ (l : List UInt8) (i : Nat), (bs x).drop i = l →
    Ev (fun n => lex_run_of_wordy.l0 n x (i : Int)) ((i + (l.takeWhile worU).length : Nat) : Int) := by
  intro l
  induction l with
  | nil =>
    intro i h
    have h1 := drop_nil h
    refine Ev.step (f := fun _ => some (i : Int)) (fun k => ?_) (evs _)
    show lex_run_of_wordy.l0 (k + 1) x i = _
    simp only [lex_run_of_wordy.l0]
    rw [if_neg (by omega)]
  | cons c t ih =>
    intro i h
    obtain ⟨h1, h2, h3⟩ := drop_cons h
    rw [List.takeWhile_cons]
    by_cases hw : worU c = true
    · rw [if_pos hw, List.length_cons]
      refine Ev.step (f := fun n => lex_run_of_wordy.l0 n x ((i + 1 : Nat) : Int)) (fun k => ?_) (by rw [show i + ((t.takeWhile worU).length + 1) = (i + 1) + (t.takeWhile worU).length by omega]; exact ih (i + 1) h3)
      show lex_run_of_wordy.l0 (k + 1) x i = lex_run_of_wordy.l0 k x ((i + 1 : Nat) : Int)
      simp only [lex_run_of_wordy.l0]
      rw [if_pos (by omega), if_pos (by omega), h2, wordy_f, hw, wr (by omega) (by omega)]
      rfl
    · rw [if_neg hw]
      refine Ev.step (f := fun _ => some (i : Int)) (fun k => ?_) (evs _)
      show lex_run_of_wordy.l0 (k + 1) x i = _
      simp only [lex_run_of_wordy.l0]
      rw [if_pos (by omega), if_pos (by omega), h2, wordy_f, Bool.eq_false_iff.2 hw]
      rfl
theorem run_digit (x : ByteArray) (hx : x.size ≤ 140737488351232) : ∀ (l : List UInt8) (i : Nat), (bs x).drop i = l →
    Ev (fun n => lex_run_of_digit.l0 n x (i : Int)) ((i + (l.takeWhile digU).length : Nat) : Int) := by
  intro l
  induction l with
  | nil =>
    intro i h
    have h1 := drop_nil h
    refine Ev.step (f := fun _ => some (i : Int)) (fun k => ?_) (evs _)
    show lex_run_of_digit.l0 (k + 1) x i = _
    simp only [lex_run_of_digit.l0]
    rw [if_neg (by omega)]
  | cons c t ih =>
    intro i h
    obtain ⟨h1, h2, h3⟩ := drop_cons h
    rw [List.takeWhile_cons]
    by_cases hw : digU c = true
    · rw [if_pos hw, List.length_cons]
      refine Ev.step (f := fun n => lex_run_of_digit.l0 n x ((i + 1 : Nat) : Int)) (fun k => ?_) (by rw [show i + ((t.takeWhile digU).length + 1) = (i + 1) + (t.takeWhile digU).length by omega]; exact ih (i + 1) h3)
      show lex_run_of_digit.l0 (k + 1) x i = lex_run_of_digit.l0 k x ((i + 1 : Nat) : Int)
      simp only [lex_run_of_digit.l0]
      rw [if_pos (by omega), if_pos (by omega), h2, digit_f, hw, wr (by omega) (by omega)]
      rfl
    · rw [if_neg hw]
      refine Ev.step (f := fun _ => some (i : Int)) (fun k => ?_) (evs _)
      show lex_run_of_digit.l0 (k + 1) x i = _
      simp only [lex_run_of_digit.l0]
      rw [if_pos (by omega), if_pos (by omega), h2, digit_f, Bool.eq_false_iff.2 hw]
      rfl
theorem run_word_f (x : ByteArray) (hx : x.size ≤ 140737488351232) : Ev (fun n => lex_run_of_wordy.f n x) (((bs x).takeWhile worU).length : Int) := by
  have h := run_word x hx (bs x) 0 rfl
  rw [Nat.zero_add] at h
  exact h
theorem run_digit_f (x : ByteArray) (hx : x.size ≤ 140737488351232) : Ev (fun n => lex_run_of_digit.f n x) (((bs x).takeWhile digU).length : Int) := by
  have h := run_digit x hx (bs x) 0 rfl
  rw [Nat.zero_add] at h
  exact h
theorem upper_f (x : ByteArray) (hx : x.size ≤ 140737488351232) : lex_upper.f x = some (ofL ((bs x).map uppU)) := by
  unfold lex_upper.f
  rw [if_pos (by omega)]
  congr 1
  apply bs_inj
  rw [bs_ofL]
  simp only [bs, Array.toList_map]
  rfl
/-- How the program tells a token. -/
def enc : TR → Int × Int × ByteArray × Int × Int × Int
  | .bad e => (0, 0, ⟨#[]⟩, 0, 0, e)
  | .ok k s v n => (k, 0, ofL s, v, (n : Int), 0)
theorem dig_range {c : UInt8} (h : digU c = true) : 48 ≤ (c.toNat : Int) ∧ (c.toNat : Int) ≤ 57 := by
  simp [digU] at h; omega
theorem number_f (x : ByteArray) (hx : x.size ≤ 140737488351232) : Ev (fun n => lex_number.f n x)
    (enc (match numS 0 ((bs x).takeWhile digU) with
      | none => TR.bad 5
      | some v => if headLet ((bs x).dropWhile digU) then TR.bad 13 else TR.ok 2 [] v ((bs x).takeWhile digU).length)) := by
  unfold lex_number.f
  refine Ev.bind (f := fun n t => lex_number.l0 n x t 0 t 0) (run_digit_f x hx) ?_
  generalize hN : ((bs x).takeWhile digU).length = N
  have hle : N ≤ x.size := by rw [← bs_len, ← hN]; exact (List.takeWhile_sublist _).length_le
  -- behind the digits
  have htail : (bs x).dropWhile digU = (bs x).drop N := by rw [← hN, dw_drop]
  have key : ∀ (l : List UInt8) (i : Nat) (v : Int), (bs x).drop i = l ++ (bs x).drop N → i + l.length = N → (∀ c ∈ l, digU c = true) → 0 ≤ v → v ≤ 9223372036854775807 →
      Ev (fun n => lex_number.l0 n x (N : Int) v (N : Int) (i : Int)) (enc (match numS v l with
      | none => TR.bad 5
      | some v => if headLet ((bs x).drop N) then TR.bad 13 else TR.ok 2 [] v N)) := by
    intro l
    induction l with
    | nil =>
      intro i v h hi _ h0 h1
      simp only [List.length_nil, Nat.add_zero] at hi
      subst hi
      simp only [numS]
      cases ht : (bs x).drop i with
      | nil =>
        have := drop_nil ht
        refine Ev.step (f := fun _ => some _) (fun k => ?_) (evs _)
        show lex_number.l0 (k + 1) x i v i i = _
        simp only [lex_number.l0]
        rw [if_neg (by omega), if_neg (by omega)]
        rfl
      | cons c t =>
        obtain ⟨g1, g2, g3⟩ := drop_cons ht
        refine Ev.step (f := fun _ => some _) (fun k => ?_) (evs _)
        show lex_number.l0 (k + 1) x i v i i = _
        simp only [lex_number.l0]
        rw [if_neg (by omega), if_pos (by omega), if_pos (by omega), g2, letter_f]
        simp only [Option.bind_some]
        by_cases hl : letU c = true
        · rw [if_pos hl, if_pos (show headLet (c :: t) = true from hl)]; rfl
        · rw [if_neg hl, if_neg (show ¬ headLet (c :: t) = true from hl)]; rfl
    | cons c t ih =>
      intro i v h hi hd h0 h1
      obtain ⟨g1, g2, g3⟩ := drop_cons (show (bs x).drop i = c :: (t ++ (bs x).drop N) from h)
      have hr := dig_range (hd c (by simp))
      simp only [List.length_cons] at hi
      have hm : ((c.toNat : Int) - 48) % 256 = (c.toNat : Int) - 48 := by omega
      simp only [numS]
      by_cases hv : v > (9223372036854775807 - ((c.toNat : Int) - 48)) / 10
      · rw [if_pos hv]
        refine Ev.step (f := fun _ => some _) (fun k => ?_) (evs _)
        show lex_number.l0 (k + 1) x N v N i = _
        simp only [lex_number.l0]
        rw [if_pos (by omega), if_pos (by omega), if_pos (by omega), g2, hm, if_pos hv]
        rfl
      · rw [if_neg hv]
        refine Ev.step (f := fun n => lex_number.l0 n x (N : Int) (10 * v + ((c.toNat : Int) - 48)) (N : Int) ((i + 1 : Nat) : Int)) (fun k => ?_) (ih (i + 1) _ g3 (by omega) (fun d hd' => hd d (by simp [hd'])) (by omega) (by omega))
        show lex_number.l0 (k + 1) x N v N i = lex_number.l0 k x (N : Int) (10 * v + ((c.toNat : Int) - 48)) (N : Int) ((i + 1 : Nat) : Int)
        simp only [lex_number.l0]
        rw [if_pos (by omega), if_pos (by omega), if_pos (by omega), g2, hm, if_neg hv, wr (x := 10 * v) (by omega) (by omega), wr (by omega) (by omega), wr (by omega) (by omega)]
        rfl
  have hall : ∀ c ∈ (bs x).takeWhile digU, digU c = true := tw_all _ _
  have := key ((bs x).takeWhile digU) 0 0 (by rw [← htail, List.drop_zero, List.takeWhile_append_dropWhile]) (by omega) hall (by omega) (by omega)
  rw [htail]
  exact this
theorem snoc_map (acc : List UInt8) (c : UInt8) : (acc.map fun b : UInt8 => (b.toNat : Int)) ++ [(c.toNat : Int)] = (acc ++ [c]).map fun b : UInt8 => (b.toNat : Int) := by simp
theorem strOf (acc : List UInt8) : strOfNums (acc.map fun b : UInt8 => (b.toNat : Int)) = ofL acc := by
  apply bs_inj
  rw [bs_ofL]
  simp only [bs, strOfNums, List.map_map]
  rw [List.map_congr_left (g := id) (fun c _ => by simp), List.map_id]
def encT : Option (List UInt8 × Nat) → TR
  | none => .bad 13
  | some (s, n) => if s.length > 64 then .bad 3 else .ok 3 s 0 n
theorem text_l (x : ByteArray) (hx : x.size ≤ 140737488351232) : ∀ (m : Nat) (l : List UInt8) (i : Nat) (acc : List UInt8), l.length = m → (bs x).drop i = l → acc.length ≤ i →
    Ev (fun n => lex_text.l0 n x (acc.map fun b : UInt8 => (b.toNat : Int)) (i : Int)) (enc (encT (texS acc i l))) := by
  intro m
  induction m using Nat.strongRecOn with
  | _ m ih =>
  intro l i acc hm h ha
  match l, hm, h with
  | [], hm, h =>
    have := drop_nil h
    refine Ev.step (f := fun _ => some _) (fun k => ?_) (evs _)
    show lex_text.l0 (k + 1) x _ i = _
    simp only [lex_text.l0, texS]
    rw [if_neg (by omega)]
    rfl
  | [c], hm, h =>
    obtain ⟨g1, g2, g3⟩ := drop_cons h
    have g4 := drop_nil g3
    by_cases hc : c.toNat = 39
    · simp only [texS]
      rw [if_pos hc]
      refine Ev.step (f := fun n => lex_text.j1 n x (acc.map fun b : UInt8 => (b.toNat : Int)) ((i + 1 : Nat) : Int) true) (fun k => ?_) (Ev.step (f := fun _ => some _) (fun k => ?_) (evs _))
      · show lex_text.l0 (k + 1) x _ i = _
        simp only [lex_text.l0]
        rw [if_pos (by omega), if_pos (by omega), g2, if_pos (by omega), wr (by omega) (by omega), if_pos (by omega)]
        rfl
      · show lex_text.j1 (k + 1) x _ _ true = _
        simp only [lex_text.j1, if_true, List.length_map, encT]
        by_cases h64 : acc.length > 64
        · rw [if_pos (by omega), if_pos h64]; rfl
        · rw [if_neg (by omega), if_neg h64, strOf]; rfl
    · simp only [texS]
      rw [if_neg hc]
      refine Ev.step (f := fun n => lex_text.l0 n x ((acc ++ [c]).map fun b : UInt8 => (b.toNat : Int)) ((i + 1 : Nat) : Int)) (fun k => ?_) ?_
      · show lex_text.l0 (k + 1) x _ i = _
        simp only [lex_text.l0]
        rw [if_pos (by omega), if_pos (by omega), g2, if_neg (by omega), if_pos (by rw [List.length_map]; omega), snoc_map, wr (by omega) (by omega)]
        rfl
      · have := ih 0 (by simp at hm; omega) [] (i + 1) (acc ++ [c]) rfl g3 (by simp; omega)
        simpa only [texS] using this
  | c :: d :: t, hm, h =>
    obtain ⟨g1, g2, g3⟩ := drop_cons h
    obtain ⟨e1, e2, e3⟩ := drop_cons g3
    simp only [List.length_cons] at hm
    by_cases hc : c.toNat = 39
    · by_cases hd : d.toNat = 39
      · simp only [texS]
        rw [if_pos hc, if_pos hd]
        refine Ev.step (f := fun n => lex_text.j1 n x (acc.map fun b : UInt8 => (b.toNat : Int)) ((i + 1 : Nat) : Int) false) (fun k => ?_) (Ev.step (f := fun n => lex_text.l0 n x ((acc ++ [d]).map fun b : UInt8 => (b.toNat : Int)) ((i + 2 : Nat) : Int)) (fun k => ?_) (ih t.length (by omega) t (i + 2) (acc ++ [d]) rfl e3 (by simp; omega)))
        · show lex_text.l0 (k + 1) x _ i = _
          simp only [lex_text.l0]
          rw [if_pos (by omega), if_pos (by omega), g2, if_pos (by omega), wr (by omega) (by omega), if_neg (by omega), if_pos (by omega), if_pos (by omega), show ((i : Int) + 1) = ((i + 1 : Nat) : Int) by omega, e2, hd]
          rfl
        · show lex_text.j1 (k + 1) x _ ((i + 1 : Nat) : Int) false = _
          simp only [lex_text.j1, Bool.false_eq_true, if_false]
          rw [if_pos (by omega), if_pos (by omega), if_pos (by rw [List.length_map]; omega), e2, snoc_map, wr (by omega) (by omega)]
          rfl
      · simp only [texS]
        rw [if_pos hc, if_neg hd]
        refine Ev.step (f := fun n => lex_text.j1 n x (acc.map fun b : UInt8 => (b.toNat : Int)) ((i + 1 : Nat) : Int) true) (fun k => ?_) (Ev.step (f := fun _ => some _) (fun k => ?_) (evs _))
        · show lex_text.l0 (k + 1) x _ i = _
          simp only [lex_text.l0]
          rw [if_pos (by omega), if_pos (by omega), g2, if_pos (by omega), wr (by omega) (by omega), if_neg (by omega), if_pos (by omega), if_pos (by omega), show ((i : Int) + 1) = ((i + 1 : Nat) : Int) by omega, e2, bne_iff_ne.2 (by omega)]
        · show lex_text.j1 (k + 1) x _ _ true = _
          simp only [lex_text.j1, if_true, List.length_map, encT]
          by_cases h64 : acc.length > 64
          · rw [if_pos (by omega), if_pos h64]; rfl
          · rw [if_neg (by omega), if_neg h64, strOf]; rfl
    · simp only [texS]
      rw [if_neg hc]
      refine Ev.step (f := fun n => lex_text.l0 n x ((acc ++ [c]).map fun b : UInt8 => (b.toNat : Int)) ((i + 1 : Nat) : Int)) (fun k => ?_) (ih (t.length + 1) (by omega) (d :: t) (i + 1) (acc ++ [c]) (by simp) g3 (by simp; omega))
      show lex_text.l0 (k + 1) x _ i = _
      simp only [lex_text.l0]
      rw [if_pos (by omega), if_pos (by omega), g2, if_neg (by omega), if_pos (by rw [List.length_map]; omega), snoc_map, wr (by omega) (by omega)]
      rfl
theorem text_f (x : ByteArray) (hx : x.size ≤ 140737488351232) (c : UInt8) (t : List UInt8) (h : bs x = c :: t) : Ev (fun n => lex_text.f n x) (enc (encT (texS [] 1 t))) :=
  text_l x hx t.length t 1 [] rfl (by rw [h]; rfl) (by simp)
theorem ext1 {x : ByteArray} {c : UInt8} {t : List UInt8} (h : bs x = c :: t) : x.extract 0 1 = ofL [c] := by
  apply bs_inj; rw [bs_extract, bs_ofL, h]; rfl
theorem ext2 {x : ByteArray} {c d : UInt8} {t : List UInt8} (h : bs x = c :: d :: t) : x.extract 0 2 = ofL [c, d] := by
  apply bs_inj; rw [bs_extract, bs_ofL, h]; rfl
theorem sign_f (x : ByteArray) (hx : x.size ≤ 140737488351232) (c : UInt8) (t : List UInt8) (h : bs x = c :: t) : Ev (fun n => lex_sign.f n x) (enc (sigS c t)) := by
  have hsz : (x.size : Int) = t.length + 1 := by rw [← bs_len, h]; simp
  have h0 := (drop_cons (s := x) (i := 0) (show (bs x).drop 0 = c :: t from h)).2.1
  simp only [Int.natCast_zero] at h0
  have hb : bt x 0 = (c.toNat : Int) := h0
  unfold lex_sign.f
  refine ev_of_eq (f := fun n => _) (fun k => by rw [if_pos (by omega), hb]) ?_
  by_cases c60 : c.toNat = 60
  · refine ev_of_eq (f := fun n => _) (fun k => by rw [if_pos (show (c.toNat : Int) = 60 by omega)]) ?_
    unfold sigS
    rw [if_pos c60]
    cases t with
    | nil =>
      simp only [List.length_nil] at hsz
      refine ev_of_eq (f := fun n => lex_sign.j0 n x 1 false) (fun k => by rw [if_neg (by omega)]) (Ev.step (f := fun _ => some _) (fun k => ?_) (evs _))
      show lex_sign.j0 (k + 1) x 1 false = _
      simp only [lex_sign.j0, Bool.false_eq_true, if_false]
      rw [if_neg (by omega), if_pos (by omega), if_pos (by omega)]
      show some (4, 0, x.extract 0 1, 0, 1, 0) = _
      rw [ext1 h]; rfl
    | cons d t =>
      simp only [List.length_cons] at hsz
      have h1 := (drop_cons (s := x) (i := 1) (show (bs x).drop 1 = d :: t by rw [h]; rfl)).2.1
      have hb1 : bt x 1 = (d.toNat : Int) := h1
      simp only
      refine ev_of_eq (f := fun n => lex_sign.j0 n x 1 (bt x 1 == 62)) (fun k => by rw [if_pos (by omega), if_pos (by omega)]) (Ev.step (f := fun _ => some _) (fun k => ?_) (evs _))
      show lex_sign.j0 (k + 1) x 1 (bt x 1 == 62) = _
      rw [hb1]
      by_cases d62 : d.toNat = 62
      · rw [if_pos d62, beq_iff_eq.2 (show (d.toNat : Int) = 62 by omega)]
        simp only [lex_sign.j0, if_true]
        rw [if_pos (by omega), if_pos (by omega), ext2 h]; rfl
      · rw [if_neg d62, beq_eq_false_iff_ne.2 (show (d.toNat : Int) ≠ 62 by omega)]
        simp only [lex_sign.j0, Bool.false_eq_true, if_false]
        rw [if_pos (by omega), if_pos (by omega), hb1]
        by_cases d61 : d.toNat = 61
        · rw [if_pos d61, if_pos (by omega), if_pos (by omega), if_pos (by omega), ext2 h]; rfl
        · rw [if_neg d61, if_neg (by omega), if_pos (by omega), if_pos (by omega)]
          show some (4, 0, x.extract 0 1, 0, 1, 0) = _
          rw [ext1 h]; rfl
  · refine ev_of_eq (f := fun n => _) (fun k => by rw [if_neg (show ¬ (c.toNat : Int) = 60 by omega)]) ?_
    unfold sigS
    rw [if_neg c60]
    refine ev_of_eq (f := fun _ => some _) (fun k => ?_) (evs _)
    by_cases c62 : c.toNat = 62
    · rw [if_pos c62, if_pos (show (c.toNat : Int) = 62 by omega)]
      cases t with
      | nil =>
        simp only [List.length_nil] at hsz
        rw [if_neg (by omega), if_pos (by omega), if_pos (by omega), ext1 h]; rfl
      | cons d t =>
        simp only [List.length_cons] at hsz
        have hb1 : bt x 1 = (d.toNat : Int) := (drop_cons (s := x) (i := 1) (show (bs x).drop 1 = d :: t by rw [h]; rfl)).2.1
        simp only
        rw [if_pos (by omega), if_pos (by omega), hb1]
        by_cases d61 : d.toNat = 61
        · rw [if_pos d61, if_pos (by omega), if_pos (by omega), if_pos (by omega), ext2 h]; rfl
        · rw [if_neg d61, if_neg (by omega), if_pos (by omega), if_pos (by omega), ext1 h]; rfl
    · rw [if_neg c62, if_neg (show ¬ (c.toNat : Int) = 62 by omega)]
      have hone : (if 0 ≤ 1 then (if 1 ≤ (x.size : Int) then (some ((4 : Int), (0 : Int), x.extract 0 1, (0 : Int), (1 : Int), (0 : Int))) else none) else none) = some (enc (TR.ok 4 [c] 0 1)) := by
        rw [if_pos (by omega), if_pos (by omega), ext1 h]; rfl
      rw [hone]
      have hq : ∀ q : Nat, ((c.toNat : Int) = (q : Int)) ↔ c.toNat = q := fun q => by omega
      by_cases hs : isSign c = true
      · rw [if_pos hs]
        simp only [isSign, Bool.or_eq_true, beq_iff_eq] at hs
        rcases hs with ((((((((h1 | h1) | h1) | h1) | h1) | h1) | h1) | h1) | h1) | h1 <;> simp [h1]
      · rw [if_neg hs]
        simp only [isSign, Bool.or_eq_true, beq_iff_eq, not_or] at hs
        obtain ⟨⟨⟨⟨⟨⟨⟨⟨⟨n1, n2⟩, n3⟩, n4⟩, n5⟩, n6⟩, n7⟩, n8⟩, n9⟩, n10⟩ := hs
        rw [if_neg (by omega), if_neg (by omega), if_neg (by omega), if_neg (by omega), if_neg (by omega), if_neg (by omega), if_neg (by omega), if_neg (by omega), if_neg (by omega), if_neg (by omega)]
        rfl
/-- What lex.token tells: a blank, or a token. -/
def encB : List UInt8 → Int × Int × ByteArray × Int × Int × Int
  | [] => (0, 0, ⟨#[]⟩, 0, 0, 0)
  | c :: t => if blaU c then (0, 0, ⟨#[]⟩, 0, 1, 0) else enc (tokS (c :: t))
theorem encB_cons (c : UInt8) (t : List UInt8) : encB (c :: t) = if blaU c then (0, 0, ⟨#[]⟩, 0, 1, 0) else enc (tokS (c :: t)) := rfl
theorem token_f (x : ByteArray) (hx : x.size ≤ 140737488351232) (c : UInt8) (t : List UInt8) (h : bs x = c :: t) : Ev (fun n => lex_token.f n x) (encB (c :: t)) := by
  have hsz : (x.size : Int) = t.length + 1 := by rw [← bs_len, h]; simp
  have hb : bt x 0 = (c.toNat : Int) := (drop_cons (s := x) (i := 0) (show (bs x).drop 0 = c :: t from h)).2.1
  have hj : Ev (fun n => lex_token.j0 n x (bt x 0) (blaU c)) (encB (c :: t)) := by
    rw [hb]
    rw [encB_cons]
    by_cases hbl : blaU c = true
    · rw [if_pos hbl, hbl]
      refine Ev.step (f := fun _ => some _) (fun k => ?_) (evs _)
      show lex_token.j0 (k + 1) x _ true = _
      simp only [lex_token.j0, if_true]
    · rw [if_neg hbl, Bool.eq_false_iff.2 hbl]
      refine Ev.step (f := fun k => _) (fun k => by show lex_token.j0 (k + 1) x _ false = _; simp only [lex_token.j0, Bool.false_eq_true, if_false]; rw [letter_f, digit_f, Option.bind_some, Option.bind_some]) ?_
      rw [tokS_cons, ← h]
      by_cases h1 : letU c = true
      · refine ev_of_eq (f := fun k => _) (fun k => by rw [if_pos h1]) ?_
        rw [if_pos h1]
        refine Ev.bind (f := fun n t118 => if 0 ≤ t118 then (if t118 ≤ (x.size : Int) then ((lex_upper.f (x.extract 0 (t118 : Int).toNat)).bind fun t119 => (some (1, 0, t119, 0, t118, 0))) else none) else none) (run_word_f x hx) ?_
        have hle : ((bs x).takeWhile worU).length ≤ (bs x).length := (List.takeWhile_sublist _).length_le
        rw [bs_len] at hle
        refine ev_of_eq (f := fun _ => some _) (fun k => ?_) (evs _)
        rw [if_pos (by omega), if_pos (by omega), upper_f _ (by rw [ByteArray.size_extract]; omega)]
        simp only [Option.bind_some, enc, Int.toNat_natCast]
        have e : bs (x.extract 0 ((bs x).takeWhile worU).length) = (bs x).takeWhile worU := by
          rw [bs_extract, List.drop_zero, Nat.sub_zero]
          exact (List.prefix_iff_eq_take.1 (List.takeWhile_prefix worU)).symm
        rw [e]
      · refine ev_of_eq (f := fun k => _) (fun k => by rw [if_neg h1]) ?_
        rw [if_neg h1]
        by_cases h2 : digU c = true
        · refine ev_of_eq (f := fun k => (lex_number.f k x).bind fun bt121 => (some (bt121.1, bt121.2.1, bt121.2.2.1, bt121.2.2.2.1, bt121.2.2.2.2.1, bt121.2.2.2.2.2))) (fun k => by rw [if_pos h2]) ?_
          rw [if_pos h2]
          exact Ev.bind (number_f x hx) (evs _)
        · refine ev_of_eq (f := fun k => _) (fun k => by rw [if_neg h2]) ?_
          rw [if_neg h2]
          by_cases h3 : c.toNat = 39
          · refine ev_of_eq (f := fun k => (lex_text.f k x).bind fun bt121 => (some (bt121.1, bt121.2.1, bt121.2.2.1, bt121.2.2.2.1, bt121.2.2.2.2.1, bt121.2.2.2.2.2))) (fun k => by rw [if_pos (by omega)]) ?_
            rw [if_pos h3]
            exact Ev.bind (text_f x hx c t h) (evs _)
          · refine ev_of_eq (f := fun k => (lex_sign.f k x).bind fun bt121 => (some (bt121.1, bt121.2.1, bt121.2.2.1, bt121.2.2.2.1, bt121.2.2.2.2.1, bt121.2.2.2.2.2))) (fun k => by rw [if_neg (by omega)]) ?_
            rw [if_neg h3]
            exact Ev.bind (sign_f x hx c t h) (evs _)
  refine ev_of_eq (fun k => ?_) hj
  unfold lex_token.f
  rw [if_pos (by omega), hb]
  by_cases b1 : c.toNat = 9
  · rw [if_pos (by omega), show blaU c = true by simp [blaU, b1]]
  · rw [if_neg (by omega)]
    by_cases b2 : c.toNat = 10
    · rw [if_pos (by omega), show blaU c = true by simp [blaU, b2]]
    · rw [if_neg (by omega)]
      by_cases b3 : c.toNat = 13
      · rw [if_pos (by omega), show blaU c = true by simp [blaU, b3]]
      · rw [if_neg (by omega)]
        congr 1
        by_cases b4 : c.toNat = 32
        · rw [show blaU c = true by simp [blaU, b4], beq_iff_eq]; omega
        · rw [show blaU c = false by simp [blaU, b1, b2, b3, b4], beq_eq_false_iff_ne]; omega
end Go.Proofs.Ytpgcjlndojbmjaa.Pure
