/- LexBack: for any list of at most 100 words, numbers and texts, what is written with a blank (or a blank, a tab and a line end) behind each is read as it was, if it has at most MaxSql bytes. Beyond that bound of 100 the statement says nothing. -/
import Derived.Test.YtpgcjlndojbmjaaLexK
import Derived.Test.YtpgcjlndojbmjaaPLx23
namespace Go.Proofs.Ytpgcjlndojbmjaa.Pure
open Go.RowKit Go.Proofs.Ytpgcjlndojbmjaa.PL Go.Proofs.YtpgcjlndojbmjaaW.PrintWords Go.Proofs.YtpgcjlndojbmjaaW.PrintLast
set_option linter.unusedVariables false
set_option linter.unusedSimpArgs false
/-! numbers in digits -/
def digF : Nat → Nat → List UInt8
  | 0, _ => []
  | f + 1, u => if u = 0 then [] else digF f (u / 10) ++ [UInt8.ofNat (48 + u % 10)]
theorem numS_app (b : List UInt8) : ∀ (a : List UInt8) (v : Int), numS v (a ++ b) = (numS v a).bind fun w => numS w b := by
  intro a
  induction a with
  | nil => intro v; rfl
  | cons c t ih =>
    intro v
    simp only [List.cons_append, numS]
    split
    · rfl
    · exact ih _
theorem dig_byte (d : Nat) (h : d < 10) : digU (UInt8.ofNat (48 + d)) = true ∧ (UInt8.ofNat (48 + d)).toNat = 48 + d := by
  have : ∀ d, d < 10 → (digU (UInt8.ofNat (48 + d)) = true ∧ (UInt8.ofNat (48 + d)).toNat = 48 + d) := by decide +kernel
  exact this d h
theorem digF_num : ∀ (f u : Nat), u < 10 ^ f → u ≤ 9223372036854775807 → numS 0 (digF f u) = some (u : Int) := by
  intro f
  induction f with
  | zero => intro u h _; simp at h; subst h; rfl
  | succ f ih =>
    intro u h hm
    unfold digF
    by_cases h0 : u = 0
    · rw [if_pos h0, h0]; rfl
    · rw [if_neg h0, numS_app, ih (u / 10) (by rw [Nat.pow_succ] at h; omega) (by omega)]
      simp only [Option.bind_some, numS]
      rw [(dig_byte (u % 10) (by omega)).2]
      rw [if_neg (by omega)]
      congr 1
      omega
theorem digF_all : ∀ (f u : Nat), ∀ c ∈ digF f u, digU c = true := by
  intro f
  induction f with
  | zero => intro u c h; cases h
  | succ f ih =>
    intro u c h
    unfold digF at h
    split at h
    · cases h
    · rcases List.mem_append.1 h with h | h
      · exact ih _ c h
      · rw [List.mem_singleton] at h; subst h; exact (dig_byte (u % 10) (by omega)).1
theorem digF_len : ∀ (f u : Nat), (digF f u).length ≤ f := by
  intro f
  induction f with
  | zero => intro u; simp [digF]
  | succ f ih =>
    intro u
    unfold digF
    split
    · simp
    · have := ih (u / 10); simp; omega
theorem digF_ne (f u : Nat) (h : u ≠ 0) : digF (f + 1) u ≠ [] := by
  unfold digF; rw [if_neg h]; simp
def digS (u : Nat) : List UInt8 := if u = 0 then [48] else digF 20 u
theorem digS_num (u : Nat) (h : u ≤ 9223372036854775807) : numS 0 (digS u) = some (u : Int) := by
  unfold digS
  split
  · rename_i h0; subst h0; rfl
  · exact digF_num 20 u (by omega) h
theorem digS_all (u : Nat) : ∀ c ∈ digS u, digU c = true := by
  unfold digS
  split
  · intro c h; rw [List.mem_singleton] at h; subst h; rfl
  · exact digF_all 20 u
theorem digS_ne (u : Nat) : digS u ≠ [] := by
  unfold digS
  split
  · simp
  · rename_i h; exact digF_ne 19 u h
theorem digS_len (u : Nat) : (digS u).length ≤ 20 := by
  unfold digS
  split
  · simp
  · exact digF_len 20 u
theorem dconst (r : Nat) (h : r < 10) : ((⟨#[48, 49, 50, 51, 52, 53, 54, 55, 56, 57]⟩ : ByteArray).extract r (r + 1)) = ofL [UInt8.ofNat (48 + r)] := by
  apply bs_inj
  rw [bs_extract, bs_ofL]
  have : ∀ r, r < 10 → ((bs (⟨#[48, 49, 50, 51, 52, 53, 54, 55, 56, 57]⟩ : ByteArray)).drop r).take (r + 1 - r) = [UInt8.ofNat (48 + r)] := by decide +kernel
  exact this r h
theorem u64_in {x : Int} (h0 : 0 ≤ x) (h1 : x ≤ 18446744073709551615) : IntKind.u64.wrap x = x := by
  unfold IntKind.wrap
  simp [IntKind.signed, IntKind.bits]
  omega
theorem Digits_l (v : Int) (hv : 0 ≤ v) : ∀ (f u : Nat) (s : List UInt8), u < 10 ^ f → u ≤ 9223372036854775807 → s.length + f ≤ 100 →
    Ev (fun n => antipoderef7_Digits.l0 n v (u : Int) (ofL s)) (ofL (digF f u ++ s)) := by
  intro f
  induction f with
  | zero =>
    intro u s h _ _
    simp at h; subst h
    refine Ev.step (f := fun _ => some _) (fun k => ?_) (evs _)
    show antipoderef7_Digits.l0 (k + 1) v _ _ = _
    simp only [antipoderef7_Digits.l0]
    rw [if_neg (by omega), if_neg (by omega)]
    rfl
  | succ f ih =>
    intro u s h hm hs
    unfold digF
    by_cases h0 : u = 0
    · subst h0
      rw [if_pos rfl]
      refine Ev.step (f := fun _ => some _) (fun k => ?_) (evs _)
      show antipoderef7_Digits.l0 (k + 1) v _ _ = _
      simp only [antipoderef7_Digits.l0]
      rw [if_neg (by omega), if_neg (by omega)]
      rfl
    · rw [if_neg h0]
      have hmod : Int.tmod (u : Int) 10 = ((u % 10 : Nat) : Int) := by rw [Int.tmod_eq_emod_of_nonneg (by omega)]; omega
      have hdiv : Int.tdiv (u : Int) 10 = ((u / 10 : Nat) : Int) := by rw [Int.tdiv_eq_ediv_of_nonneg (by omega)]; omega
      have hw1 : IntKind.u64.wrap (((u % 10 : Nat) : Int) + 1) = ((u % 10 + 1 : Nat) : Int) := by rw [u64_in (by omega) (by omega)]; omega
      have hw2 : IntKind.u64.wrap ((u / 10 : Nat) : Int) = ((u / 10 : Nat) : Int) := u64_in (by omega) (by omega)
      have e : ofL [UInt8.ofNat (48 + u % 10)] ++ ofL s = ofL ([UInt8.ofNat (48 + u % 10)] ++ s) := by apply bs_inj; rw [bs_append, bs_ofL, bs_ofL, bs_ofL]
      refine Ev.step (f := fun n => antipoderef7_Digits.l0 n v ((u / 10 : Nat) : Int) (ofL ([UInt8.ofNat (48 + u % 10)] ++ s))) (fun k => ?_) ?_
      · show antipoderef7_Digits.l0 (k + 1) v _ _ = _
        simp only [antipoderef7_Digits.l0]
        rw [if_pos (by omega), hmod, hdiv, hw1, hw2, if_pos (by omega), if_pos (by omega), if_pos (by omega), Int.toNat_natCast, Int.toNat_natCast, dconst _ (by omega), if_pos (by rw [ofL_size, ofL_size]; simp; omega), e]
      · have := ih (u / 10) ([UInt8.ofNat (48 + u % 10)] ++ s) (by rw [Nat.pow_succ] at h; omega) (by omega) (by simp; omega)
        rw [List.append_assoc]
        exact this
theorem Digits_f (u : Nat) (h : u ≤ 9223372036854775807) : Ev (fun n => antipoderef7_Digits.f n (u : Int)) (ofL (digS u)) := by
  unfold antipoderef7_Digits.f digS
  by_cases h0 : u = 0
  · subst h0
    rw [if_pos rfl]
    refine ev_of_eq (f := fun _ => some _) (fun k => ?_) (evs _)
    rw [if_pos (by omega)]
    rfl
  · rw [if_neg h0]
    refine ev_of_eq (f := fun n => antipoderef7_Digits.j0 n (u : Int) (u : Int) (ofL [])) (fun k => ?_) (Ev.step (f := fun n => antipoderef7_Digits.l0 n (u : Int) (u : Int) (ofL [])) (fun k => ?_) ?_)
    · rw [if_neg (by omega), if_neg (by omega), u64_in (by omega) (by omega)]
      rfl
    · show antipoderef7_Digits.j0 (k + 1) _ _ _ = _
      simp only [antipoderef7_Digits.j0]
    · have := Digits_l (u : Int) (by omega) 20 u [] (by omega) h (by simp)
      rw [List.append_nil] at this
      exact this
/-! texts -/
def esc : List UInt8 → List UInt8
  | [] => []
  | c :: t => if c.toNat = 39 then 39 :: c :: esc t else c :: esc t
theorem esc_len : ∀ l, (esc l).length ≤ 2 * l.length := by
  intro l
  induction l with
  | nil => simp [esc]
  | cons c t ih => unfold esc; split <;> simp <;> omega
def shoS (s : List UInt8) : List UInt8 := 39 :: (esc s ++ [39])
theorem one_byte {x : ByteArray} {i : Nat} {c : UInt8} {t : List UInt8} (h : (bs x).drop i = c :: t) : x.extract i (i + 1) = ofL [c] := by
  apply bs_inj; rw [bs_extract, bs_ofL, h, show i + 1 - i = 1 by omega]; rfl
theorem app_ofL (a b : List UInt8) : ofL a ++ ofL b = ofL (a ++ b) := by apply bs_inj; rw [bs_append, bs_ofL, bs_ofL, bs_ofL]
theorem Show_l (x : ByteArray) (hx : x.size ≤ 64) : ∀ (l : List UInt8) (i : Nat) (acc : List UInt8), (bs x).drop i = l → acc.length ≤ 2 * i + 1 → i ≤ x.size →
    Ev (fun n => antipoderef7_Show.l0 n (ofL acc) (i : Int) 3 0 x) (ofL (acc ++ (esc l ++ [39]))) := by
  intro l
  induction l with
  | nil =>
    intro i acc h ha hi
    have := drop_nil h
    refine Ev.step (f := fun _ => some _) (fun k => ?_) (evs _)
    show antipoderef7_Show.l0 (k + 1) _ _ _ _ x = _
    simp only [antipoderef7_Show.l0]
    rw [if_neg (by omega), if_pos (by rw [ofL_size]; omega), show (⟨#[39]⟩ : ByteArray) = ofL [39] from rfl, app_ofL]
    rfl
  | cons c t ih =>
    intro i acc h ha hi
    obtain ⟨g1, g2, g3⟩ := drop_cons h
    unfold esc
    by_cases hc : c.toNat = 39
    · rw [if_pos hc]
      have e2 : acc ++ (39 :: c :: esc t ++ [39]) = (acc ++ [39] ++ [c]) ++ (esc t ++ [39]) := by simp
      rw [e2]
      refine Ev.step (f := fun n => antipoderef7_Show.l0 n (ofL (acc ++ [39] ++ [c])) ((i + 1 : Nat) : Int) 3 0 x) (fun k => ?_) (ih (i + 1) _ g3 (by simp; omega) (by omega))
      show antipoderef7_Show.l0 (k + 1) _ _ _ _ x = _
      simp only [antipoderef7_Show.l0]
      rw [if_pos (by omega), if_pos (by omega), g2, if_pos (by omega), if_pos (by rw [ofL_size]; omega), wr (by omega) (by omega), if_pos (by omega), if_pos (by omega), show ((i : Int) + 1).toNat = i + 1 by omega, Int.toNat_natCast, one_byte h, show (⟨#[39]⟩ : ByteArray) = ofL [39] from rfl, app_ofL, if_pos (by rw [ofL_size, ofL_size]; simp; omega), app_ofL]
      rfl
    · rw [if_neg hc]
      have e2 : acc ++ (c :: esc t ++ [39]) = (acc ++ [c]) ++ (esc t ++ [39]) := by simp
      rw [e2]
      refine Ev.step (f := fun n => antipoderef7_Show.l0 n (ofL (acc ++ [c])) ((i + 1 : Nat) : Int) 3 0 x) (fun k => ?_) (ih (i + 1) _ g3 (by simp; omega) (by omega))
      show antipoderef7_Show.l0 (k + 1) _ _ _ _ x = _
      simp only [antipoderef7_Show.l0]
      rw [if_pos (by omega), if_pos (by omega), g2, if_neg (by omega), wr (by omega) (by omega), if_pos (by omega), if_pos (by omega), show ((i : Int) + 1).toNat = i + 1 by omega, Int.toNat_natCast, one_byte h, if_pos (by rw [ofL_size, ofL_size]; simp; omega), app_ofL]
      rfl
theorem Show_f (x : ByteArray) (hx : x.size ≤ 64) : Ev (fun n => antipoderef7_Show.f n 3 0 x) (ofL (shoS (bs x))) := by
  unfold antipoderef7_Show.f
  have hm : antipoderef7_May.f 3 0 x = some true := by
    unfold antipoderef7_May.f
    rw [if_neg (by decide), if_neg (by decide), if_neg (by decide), if_pos rfl, if_pos rfl, decide_eq_true (by omega)]
  refine ev_of_eq (f := fun n => antipoderef7_Show.l0 n (ofL [39]) 0 3 0 x) (fun k => ?_) ?_
  · rw [hm, Option.bind_some, if_pos rfl, if_neg (by decide), if_neg (by decide), if_neg (by decide)]
    rfl
  · exact Show_l x hx (bs x) 0 [39] rfl (by simp) (by omega)
theorem texS_esc (c0 : UInt8) (R : List UInt8) (h0 : c0.toNat ≠ 39) : ∀ (s acc : List UInt8) (n : Nat), texS acc n (esc s ++ 39 :: c0 :: R) = some (acc ++ s, n + (esc s).length + 1) := by
  intro s
  induction s with
  | nil =>
    intro acc n
    simp only [esc, List.nil_append, texS]
    rw [if_pos (by decide), if_neg h0]
    simp
  | cons c t ih =>
    intro acc n
    unfold esc
    by_cases hc : c.toNat = 39
    · rw [if_pos hc]
      simp only [List.cons_append, texS]
      rw [if_pos (by decide), if_pos hc, ih]
      simp; omega
    · rw [if_neg hc]
      obtain ⟨d, u, hd⟩ : ∃ d u, esc t ++ 39 :: c0 :: R = d :: u := by
        cases esc t with
        | nil => exact ⟨_, _, rfl⟩
        | cons a b => exact ⟨_, _, rfl⟩
      have := ih (acc ++ [c]) (n + 1)
      rw [hd] at this
      rw [List.cons_append, hd]
      simp only [texS]
      rw [if_neg hc, this]
      simp; omega
/-! what is written is read -/
/-- A text that is read as one token, whatever begins with a blank behind it. -/
def Reads (w : List UInt8) (k : Int) (s : List UInt8) (v : Int) : Prop := w ≠ [] ∧ (∀ c t, w = c :: t → blaU c = false) ∧ ∀ R, tokS (w ++ 32 :: R) = .ok k s v w.length
theorem all_takeWhile (p : UInt8 → Bool) : ∀ l : List UInt8, (∀ c ∈ l, p c = true) → l.takeWhile p = l ∧ l.dropWhile p = [] := by
  intro l
  induction l with
  | nil => intro _; exact ⟨rfl, rfl⟩
  | cons a t ih =>
    intro h
    have := ih (fun c hc => h c (by simp [hc]))
    rw [List.takeWhile_cons, List.dropWhile_cons, if_pos (h a (by simp)), if_pos (h a (by simp)), this.1, this.2]
    exact ⟨rfl, rfl⟩
theorem nobl (c : UInt8) : (worU c = true → blaU c = false) ∧ (digU c = true → letU c = false) ∧ (worU c = true → digU c = false → letU c = true) :=
  all_bytes (P := fun c => (worU c = true → blaU c = false) ∧ (digU c = true → letU c = false) ∧ (worU c = true → digU c = false → letU c = true)) (by decide +kernel) c
theorem reads_word (w : List UInt8) (h : wordS w = true) : Reads w 1 w 0 := by
  unfold wordS at h
  simp only [Bool.and_eq_true, Bool.not_eq_true', List.isEmpty_eq_false_iff, beq_iff_eq, List.all_eq_true] at h
  obtain ⟨⟨⟨⟨⟨h1, h2⟩, h3⟩, h4⟩, h5⟩, h6⟩ := h
  refine ⟨h1, fun c t e => (nobl c).1 (h4 c (by rw [e]; simp)), fun R => ?_⟩
  rcases list_cases w with e | ⟨c, t, e⟩
  · exact absurd e h1
  · have hw := all_takeWhile worU w (fun c hc => h4 c hc)
    have hl : letU c = true := (nobl c).2.2 (h4 c (by rw [e]; simp)) (by rw [e] at h3; exact h3)
    have ht := tokS_cons c t
    rw [if_pos hl, ← e, hw.1, h5] at ht
    exact tokS_app w 32 R stop32 ht
theorem reads_num (u : Nat) (h : u ≤ 9223372036854775807) : Reads (digS u) 2 [] (u : Int) := by
  have hall := digS_all u
  refine ⟨digS_ne u, fun c t e => (nobl c).1 (by simp [worU, hall c (by rw [e]; simp)]), fun R => ?_⟩
  rcases list_cases (digS u) with e | ⟨c, t, e⟩
  · exact absurd e (digS_ne u)
  · have hw := all_takeWhile digU _ hall
    have hd : digU c = true := hall c (by rw [e]; simp)
    have ht := tokS_cons c t
    rw [if_neg (by rw [(nobl c).2.1 hd]; decide), if_pos hd, ← e, hw.1, hw.2, digS_num u h] at ht
    exact tokS_app _ 32 R stop32 ht
theorem reads_text (s : List UInt8) (h : s.length ≤ 64) : Reads (shoS s) 3 s 0 := by
  refine ⟨by simp [shoS], fun c t e => by unfold shoS at e; injection e with e1 _; rw [← e1]; decide, fun R => ?_⟩
  unfold shoS
  have ht := texS_esc 32 R (by decide) s [] 1
  rw [List.cons_append, tokS_cons, if_neg (by decide), if_neg (by decide), if_pos (by decide), List.append_assoc, List.singleton_append, ht]
  simp only [List.nil_append]
  rw [if_neg (by omega)]
  congr 1
  simp; omega
/-- What stands so far is read as W, whatever stands behind it. -/
def Sofar (L : List UInt8) (W : List Tk) : Prop := ∀ R F, L.length + R.length < F → ∃ F', R.length < F' ∧ lexS F 0 (L ++ R) [] = lexS F' L.length R W
theorem sofar_nil : Sofar [] [] := fun R F h => ⟨F, by simpa using h, rfl⟩
theorem sofar_blank {L : List UInt8} {W : List Tk} (h : Sofar L W) (c : UInt8) (hc : blaU c = true) : Sofar (L ++ [c]) W := by
  intro R F hF
  simp only [List.length_append, List.length_cons, List.length_nil] at hF
  obtain ⟨F', h1, h2⟩ := h (c :: R) F (by simp; omega)
  obtain ⟨F', rfl⟩ : ∃ G, F' = G + 1 := ⟨F' - 1, by simp at h1; omega⟩
  refine ⟨F', by simp at h1; omega, ?_⟩
  rw [List.append_assoc, List.singleton_append, h2, lexS_cons, if_pos hc]
  simp
theorem sofar_tok {L : List UInt8} {W : List Tk} (h : Sofar L W) {w : List UInt8} {k : Int} {s : List UInt8} {v : Int} (hr : Reads w k s v) : Sofar (L ++ w ++ [32]) (W ++ [⟨k, (L.length : Int), s, v⟩]) := by
  intro R F hF
  simp only [List.length_append, List.length_cons, List.length_nil] at hF
  obtain ⟨h1, h2, h3⟩ := hr
  obtain ⟨F', g1, g2⟩ := h (w ++ 32 :: R) F (by simp; omega)
  simp only [List.length_append, List.length_cons] at g1
  obtain ⟨F', rfl⟩ : ∃ G, F' = G + 1 := ⟨F' - 1, by omega⟩
  rcases list_cases w with e | ⟨c, t, e⟩
  · exact absurd e h1
  have hl : w.length = t.length + 1 := by rw [e]; simp
  obtain ⟨F', rfl⟩ : ∃ G, F' = G + 1 := ⟨F' - 1, by omega⟩
  refine ⟨F', by omega, ?_⟩
  have ht := h3 R
  have e3 : L ++ w ++ [32] ++ R = L ++ (w ++ 32 :: R) := by simp
  rw [e3, g2, e, List.cons_append, lexS_cons, if_neg (by rw [h2 c t e]; decide)]
  rw [e, List.cons_append] at ht
  rw [ht]
  simp only
  have e4 : (c :: (t ++ 32 :: R)).drop (c :: t).length = 32 :: R := by rw [← List.cons_append, List.drop_left]
  rw [e4, lexS_cons, if_pos (by decide)]
  simp only [List.length_append, List.length_cons, List.length_nil, hl]
theorem sofar_end {L : List UInt8} {W : List Tk} (h : Sofar L W) (hl : L.length ≤ 2000) : lexT L = (W ++ [⟨0, (L.length : Int), [], 0⟩], 0) := by
  unfold lexT
  rw [if_neg (by omega)]
  obtain ⟨F', h1, h2⟩ := h [] (L.length + 1) (by simp)
  obtain ⟨F', rfl⟩ : ∃ G, F' = G + 1 := ⟨F' - 1, by simp at h1; omega⟩
  rw [List.append_nil] at h2
  rw [h2, lexS_end]
/-! the law -/
theorem rd_mapB (L : List Tk) (i : Nat) (h : i < L.length) : rd_T28 (L.map toS) (i : Int) = toS L[i] := by
  simp [rd_T28, List.getD_eq_getElem?_getD, List.getElem?_eq_getElem h]
theorem same_c (c : S28) : (!((c.f0) == (c.f0)) || (!((c.f1) == (c.f1)) || (!(((c.f2).toList) == ((c.f2).toList)) || (!((c.f3) == (c.f3)))))) = false := by simp
theorem back_l1 (W : List Tk) (e : Tk) (hW : W.length ≤ 100) : ∀ (d i : Nat), i + d = W.length → Ev (fun n => antipodelaw16_LexBack.l1 n (W.map toS) ((W ++ [e]).map toS) (i : Int)) true := by
  intro d
  have l1 : (W.map toS).length = W.length := by simp
  have l2 : ((W ++ [e]).map toS).length = W.length + 1 := by simp
  induction d with
  | zero =>
    intro i hi
    refine Ev.step (f := fun _ => some _) (fun k => ?_) (evs _)
    show antipodelaw16_LexBack.l1 (k + 1) _ _ i = _
    simp only [antipodelaw16_LexBack.l1]
    rw [if_neg (by rw [l1]; omega)]
  | succ d ih =>
    intro i hi
    have hi' : i < W.length := by omega
    have r1 := rd_mapB W i hi'
    have r2 := rd_mapB (W ++ [e]) i (by simp; omega)
    rw [List.getElem_append_left hi'] at r2
    refine Ev.step (f := fun n => antipodelaw16_LexBack.l1 n (W.map toS) ((W ++ [e]).map toS) ((i + 1 : Nat) : Int)) (fun k => ?_) (ih (i + 1) (by omega))
    show antipodelaw16_LexBack.l1 (k + 1) _ _ i = _
    simp only [antipodelaw16_LexBack.l1]
    rw [if_pos (by rw [l1]; omega), if_pos (by omega), if_pos (by rw [l2]; omega), r1, r2, same_c, if_neg (by decide), wr (by omega) (by omega)]
    rfl
/-- Any element's number is one of the machine's. -/
def Fits (c : S28) : Prop := c.f3 ≤ 9223372036854775807
theorem Word_any (x : ByteArray) : Ev (fun n => lex_Word.f n x) (wordS (bs x)) := by
  by_cases h16 : x.size ≤ 16
  · exact Word_f x (by omega)
  · have hb : bs x ≠ [] := by intro e; have := bs_len x; rw [e] at this; simp at this; omega
    refine ev_of_eq (f := fun _ => some _) (fun k => ?_) (evs _)
    unfold lex_Word.f
    rw [toL, if_neg hb, if_pos (by omega)]
    unfold wordS
    rw [show decide ((bs x).length ≤ 16) = false by rw [bs_len]; simp; omega]
    simp
theorem back_end (l0 : List S28) (tab : Bool) (h100 : l0.length ≤ 100) (L : List UInt8) (W : List Tk) (hs : Sofar L W) (hl : L.length ≤ 100 * 200) (hW : W.length ≤ 100) (i : Nat) (hi : l0.length ≤ i) :
    Ev (fun n => antipodelaw16_LexBack.l0 n l0 tab (ofL L) (W.map toS) (i : Int)) true := by
  refine Ev.step (f := fun k => (lex_Lex.f k (ofL L)).bind fun bt261 => (if ((ofL L).size : Int) > 2000 then (some (bt261.2 == 3)) else (if bt261.2 = 0 then (if (bt261.1.length : Int) = (wrap64 (((W.map toS).length : Int) + 1)) then (if 0 ≤ ((W.map toS).length : Int) then (if ((W.map toS).length : Int) < (bt261.1.length : Int) then (antipodelaw16_LexBack.j2 k (W.map toS) bt261.1 (!(((rd_T28 bt261.1 ((W.map toS).length : Int)).f0) == 0) || (!(((rd_T28 bt261.1 ((W.map toS).length : Int)).f1) == ((ofL L).size : Int)) || (!((((rd_T28 bt261.1 ((W.map toS).length : Int)).f2).toList) == ([] : List UInt8)) || (!(((rd_T28 bt261.1 ((W.map toS).length : Int)).f3) == 0)))))) else (none)) else (none)) else (antipodelaw16_LexBack.j2 k (W.map toS) bt261.1 true)) else (antipodelaw16_LexBack.j2 k (W.map toS) bt261.1 true)))) (fun k => ?_) ?_
  · show antipodelaw16_LexBack.l0 (k + 1) l0 tab _ _ i = _
    simp only [antipodelaw16_LexBack.l0]
    rw [if_neg (by omega)]
  refine Ev.bind (Lex_f (ofL L)) ?_
  rw [bs_ofL, ofL_size]
  by_cases h2000 : L.length > 2000
  · refine ev_of_eq (f := fun _ => some _) (fun k => ?_) (evs _)
    rw [if_pos (by omega)]
    unfold lexT
    rw [if_pos h2000]
    rfl
  · rw [sofar_end hs (by omega)]
    have hlen : ((W ++ [(⟨0, (L.length : Int), [], 0⟩ : Tk)]).map toS).length = W.length + 1 := by simp
    have hr : rd_T28 ((W ++ [(⟨0, (L.length : Int), [], 0⟩ : Tk)]).map toS) (W.length : Int) = toS ⟨0, (L.length : Int), [], 0⟩ := by
      rw [rd_mapB _ W.length (by simp)]
      congr 1
      simp
    refine ev_of_eq (f := fun k => antipodelaw16_LexBack.j2 k (W.map toS) ((W ++ [(⟨0, (L.length : Int), [], 0⟩ : Tk)]).map toS) false) (fun k => ?_) (Ev.step (f := fun k => antipodelaw16_LexBack.l1 k (W.map toS) ((W ++ [(⟨0, (L.length : Int), [], 0⟩ : Tk)]).map toS) 0) (fun k => ?_) (back_l1 W _ hW W.length 0 (by omega)))
    · rw [if_neg (by omega)]
      show (if (0 : Int) = 0 then (if ((((W ++ [(⟨0, (L.length : Int), [], 0⟩ : Tk)]).map toS).length : Nat) : Int) = (wrap64 (((W.map toS).length : Int) + 1)) then (if 0 ≤ ((W.map toS).length : Int) then (if ((W.map toS).length : Int) < ((((W ++ [(⟨0, (L.length : Int), [], 0⟩ : Tk)]).map toS).length : Nat) : Int) then (antipodelaw16_LexBack.j2 k (W.map toS) ((W ++ [(⟨0, (L.length : Int), [], 0⟩ : Tk)]).map toS) (!(((rd_T28 ((W ++ [(⟨0, (L.length : Int), [], 0⟩ : Tk)]).map toS) ((W.map toS).length : Int)).f0) == 0) || (!(((rd_T28 ((W ++ [(⟨0, (L.length : Int), [], 0⟩ : Tk)]).map toS) ((W.map toS).length : Int)).f1) == (L.length : Int)) || (!((((rd_T28 ((W ++ [(⟨0, (L.length : Int), [], 0⟩ : Tk)]).map toS) ((W.map toS).length : Int)).f2).toList) == ([] : List UInt8)) || (!(((rd_T28 ((W ++ [(⟨0, (L.length : Int), [], 0⟩ : Tk)]).map toS) ((W.map toS).length : Int)).f3) == 0)))))) else (none)) else (none)) else _) else _) = _
      rw [if_pos rfl, hlen, List.length_map, wr (by omega) (by omega), if_pos (by omega), if_pos (by omega), if_pos (by omega), hr]
      congr 1
      simp [toS, toL, bs_ofL]
    · show antipodelaw16_LexBack.j2 (k + 1) _ _ false = _
      simp only [antipodelaw16_LexBack.j2, Bool.false_eq_true, if_false]
theorem ab : blaU 9 = true ∧ blaU 10 = true := by decide
theorem back_l0 (l0 : List S28) (tab : Bool) (h100 : l0.length ≤ 100) (hf : ∀ c ∈ l0, Fits c) : ∀ (r : List S28) (i : Nat), l0.drop i = r → ∀ (L : List UInt8) (W : List Tk), Sofar L W → L.length ≤ i * 200 → W.length ≤ i → i ≤ l0.length →
    Ev (fun n => antipodelaw16_LexBack.l0 n l0 tab (ofL L) (W.map toS) (i : Int)) true := by
  intro r
  induction r with
  | nil =>
    intro i h L W hs hl hW hi
    have := List.drop_eq_nil_iff.1 h
    exact back_end l0 tab h100 L W hs (by omega) (by omega) i (by omega)
  | cons c r ih =>
    intro i h L W hs hl hW hi
    have hlt : i < l0.length := by
      rcases Nat.lt_or_ge i l0.length with h' | h'
      · exact h'
      · rw [List.drop_of_length_le h'] at h; cases h
    have hrd : rd_T28 l0 (i : Int) = c := by
      have h' := h
      rw [List.drop_eq_getElem_cons hlt] at h'
      injection h' with h1 h2
      simp [rd_T28, List.getD_eq_getElem?_getD, List.getElem?_eq_getElem hlt, h1]
    have hmem : c ∈ l0 := by
      rw [List.drop_eq_getElem_cons hlt] at h
      injection h with h1 h2
      rw [← h1]; exact List.getElem_mem _
    have h3 : l0.drop (i + 1) = r := by rw [← List.tail_drop, h]; rfl
    have fv : c.f3 ≤ 9223372036854775807 := hf c hmem
    -- behind the switch
    have key : ∀ (w : List UInt8) (k : Int) (s : List UInt8) (v : Int), Reads w k s v → w.length ≤ 190 →
        Ev (fun n => antipodelaw16_LexBack.j1 n l0 tab (ofL L) (W.map toS) (i : Int) (ofL w) k 0 (ofL s) v) true := by
      intro w k s v hr hw
      have hs1 := sofar_tok hs hr
      have e1 : ofL L ++ ofL w = ofL (L ++ w) := app_ofL _ _
      have e2 : (⟨#[32]⟩ : ByteArray) = ofL [32] := rfl
      have e3 : (⟨#[9, 10]⟩ : ByteArray) = ofL [9, 10] := rfl
      have eW : W.map toS ++ [(⟨k, ((ofL L).size : Int), ofL s, v⟩ : S28)] = (W ++ [(⟨k, (L.length : Int), s, v⟩ : Tk)]).map toS := by rw [ofL_size]; simp [toS]
      cases tab with
      | false =>
        refine Ev.step (f := fun n => antipodelaw16_LexBack.l0 n l0 false (ofL (L ++ w ++ [32])) ((W ++ [(⟨k, (L.length : Int), s, v⟩ : Tk)]).map toS) ((i + 1 : Nat) : Int)) (fun k' => ?_) (ih (i + 1) h3 _ _ hs1 (by simp; omega) (by simp; omega) (by omega))
        show antipodelaw16_LexBack.j1 (k' + 1) _ _ _ _ _ _ _ _ _ _ = _
        simp only [antipodelaw16_LexBack.j1, Bool.false_eq_true, if_false]
        rw [if_pos (by rw [List.length_map]; omega), Option.bind_some, if_pos (by rw [ofL_size, ofL_size]; omega), e1, if_pos (by rw [ofL_size]; simp; omega), e2, app_ofL, eW, wr (by omega) (by omega)]
        rfl
      | true =>
        have hs2 := sofar_blank (sofar_blank hs1 9 ab.1) 10 ab.2
        have e4 : L ++ w ++ [32] ++ [9, 10] = L ++ w ++ [32] ++ [9] ++ [10] := by simp
        refine Ev.step (f := fun n => antipodelaw16_LexBack.l0 n l0 true (ofL (L ++ w ++ [32] ++ [9] ++ [10])) ((W ++ [(⟨k, (L.length : Int), s, v⟩ : Tk)]).map toS) ((i + 1 : Nat) : Int)) (fun k' => ?_) (ih (i + 1) h3 _ _ hs2 (by simp; omega) (by simp; omega) (by omega))
        show antipodelaw16_LexBack.j1 (k' + 1) _ _ _ _ _ _ _ _ _ _ = _
        simp only [antipodelaw16_LexBack.j1, if_true]
        rw [if_pos (by rw [List.length_map]; omega), Option.bind_some, if_pos (by rw [ofL_size, ofL_size]; omega), e1, if_pos (by rw [ofL_size]; simp; omega), e2, app_ofL, if_pos (by rw [ofL_size]; simp; omega), e3, app_ofL, e4, eW, wr (by omega) (by omega)]
        rfl
    have hl0 : ∀ k', antipodelaw16_LexBack.l0 (k' + 1) l0 tab (ofL L) (W.map toS) (i : Int) = (if c.f0 = 1 then ((lex_Word.f k' c.f2).bind fun t247 => (if t247 = true then (antipodelaw16_LexBack.j1 k' l0 tab (ofL L) (W.map toS) (i : Int) c.f2 c.f0 0 c.f2 0) else (some true))) else (if c.f0 = 2 then (if c.f3 < 0 then (some true) else ((antipoderef7_Digits.f k' c.f3).bind fun t252 => (antipodelaw16_LexBack.j1 k' l0 tab (ofL L) (W.map toS) (i : Int) t252 c.f0 0 (⟨#[]⟩ : ByteArray) c.f3))) else (if c.f0 = 3 then (if (c.f2.size : Int) > 64 then (some true) else ((antipoderef7_Show.f k' 3 0 c.f2).bind fun t256 => (antipodelaw16_LexBack.j1 k' l0 tab (ofL L) (W.map toS) (i : Int) t256 c.f0 0 c.f2 0))) else (some true)))) := by
      intro k'
      simp only [antipodelaw16_LexBack.l0]
      rw [if_pos (by omega), if_pos (by omega), hrd]
    refine Ev.step (fun k' => hl0 k') ?_
    by_cases k1 : c.f0 = 1
    · refine ev_of_eq (f := fun k' => (lex_Word.f k' c.f2).bind fun t247 => (if t247 = true then (antipodelaw16_LexBack.j1 k' l0 tab (ofL L) (W.map toS) (i : Int) c.f2 c.f0 0 c.f2 0) else (some true))) (fun k' => by rw [if_pos k1]) ?_
      refine Ev.bind (Word_any c.f2) ?_
      by_cases hw : wordS (bs c.f2) = true
      · have := key _ 1 _ 0 (reads_word _ hw) (by
          unfold wordS at hw
          simp only [Bool.and_eq_true, decide_eq_true_eq] at hw
          omega)
        rw [ofL_bs] at this
        exact ev_of_eq (fun k' => by rw [if_pos hw, k1]) this
      · exact ev_of_eq (f := fun _ => some _) (fun k' => by rw [if_neg hw]) (evs _)
    · by_cases k2 : c.f0 = 2
      · by_cases hneg : c.f3 < 0
        · exact ev_of_eq (f := fun _ => some _) (fun k' => by rw [if_neg k1, if_pos k2, if_pos hneg]) (evs _)
        · refine ev_of_eq (f := fun k' => (antipoderef7_Digits.f k' c.f3).bind fun t252 => (antipodelaw16_LexBack.j1 k' l0 tab (ofL L) (W.map toS) (i : Int) t252 c.f0 0 (⟨#[]⟩ : ByteArray) c.f3)) (fun k' => by rw [if_neg k1, if_pos k2, if_neg hneg]) ?_
          obtain ⟨u, hu⟩ := Int.eq_ofNat_of_zero_le (show 0 ≤ c.f3 by omega)
          rw [hu, k2]
          refine Ev.bind (Digits_f u (by omega)) ?_
          exact key _ 2 [] _ (reads_num u (by omega)) (by have := digS_len u; omega)
      · by_cases k3 : c.f0 = 3
        · by_cases h64 : (c.f2.size : Int) > 64
          · exact ev_of_eq (f := fun _ => some _) (fun k' => by rw [if_neg k1, if_neg k2, if_pos k3, if_pos h64]) (evs _)
          · refine ev_of_eq (f := fun k' => (antipoderef7_Show.f k' 3 0 c.f2).bind fun t256 => (antipodelaw16_LexBack.j1 k' l0 tab (ofL L) (W.map toS) (i : Int) t256 c.f0 0 c.f2 0)) (fun k' => by rw [if_neg k1, if_neg k2, if_pos k3, if_neg h64]) ?_
            rw [k3]
            refine Ev.bind (Show_f c.f2 (by omega)) ?_
            have := key _ 3 _ 0 (reads_text (bs c.f2) (by rw [bs_len]; omega)) (by
              have := esc_len (bs c.f2)
              rw [bs_len] at this
              simp only [shoS, List.length_cons, List.length_append, List.length_nil]
              omega)
            rw [ofL_bs] at this
            exact this
        · exact ev_of_eq (f := fun _ => some _) (fun k' => by rw [if_neg k1, if_neg k2, if_neg k3]) (evs _)
theorem LexBack (l0 : List S28) (a1 : Bool) (hf : ∀ c ∈ l0, Fits c) : ∃ k, antipodelaw16_LexBack.f k l0 a1 = some true := by
  refine Ev.rounds (g := fun n => antipodelaw16_LexBack.f n l0 a1) ?_
  unfold antipodelaw16_LexBack.f
  refine Ev.bind (f := fun n t242 => _) begun_f ?_
  by_cases h : (l0.length : Int) > 100
  · exact ev_of_eq (f := fun _ => some _) (fun k => by rw [if_pos rfl, if_pos h]) (evs _)
  · exact ev_of_eq (fun k => by rw [if_pos rfl, if_neg h]; rfl) (back_l0 l0 a1 (by omega) hf l0 0 rfl [] [] sofar_nil (by simp) (by simp) (by omega))
end Go.Proofs.Ytpgcjlndojbmjaa.Pure
