/- The reference's Lex tells the same. -/
import Derived.Test.YtpgcjlndojbmjaaLexG
import Derived.Test.YtpgcjlndojbmjaaPLx15
namespace Go.Proofs.Ytpgcjlndojbmjaa.Pure
open Go.RowKit Go.Proofs.Ytpgcjlndojbmjaa.PL Go.Proofs.YtpgcjlndojbmjaaW.PrintWords Go.Proofs.YtpgcjlndojbmjaaW.PrintLast Go.Proofs.YtpgcjlndojbmjaaW.PrintMore
set_option linter.unusedVariables false
set_option linter.unusedSimpArgs false

theorem all_bytes {P : UInt8 → Prop} (h : ∀ n : Nat, n < 256 → P (UInt8.ofNat n)) (c : UInt8) : P c := by
  have := h c.toNat c.toNat_lt
  rwa [UInt8.ofNat_toNat] at this
theorem rdigit_f (c : UInt8) : antipoderef16_digit.f (c.toNat : Int) = some (digU c) := all_bytes (P := fun c => antipoderef16_digit.f (c.toNat : Int) = some (digU c)) (by decide +kernel) c
theorem rgreat_f (c : UInt8) : antipoderef16_great.f (c.toNat : Int) = some ((uppU c).toNat : Int) := all_bytes (P := fun c => antipoderef16_great.f (c.toNat : Int) = some ((uppU c).toNat : Int)) (by decide +kernel) c
theorem rletter_f (c : UInt8) : antipoderef16_letter.f (c.toNat : Int) = some (letU c) := all_bytes (P := fun c => antipoderef16_letter.f (c.toNat : Int) = some (letU c)) (by decide +kernel) c
theorem rblank_f (c : UInt8) : antipoderef16_blank.f (c.toNat : Int) = some (blaU c) := all_bytes (P := fun c => antipoderef16_blank.f (c.toNat : Int) = some (blaU c)) (by decide +kernel) c
/-- How the reference tells a token that begins at the place p. -/
def encR (p : Nat) : TR → Int × Int × ByteArray × Int × Int × Int
  | .bad e => (0, 0, ⟨#[]⟩, 0, 0, e)
  | .ok k s v n => (k, 0, ofL s, v, ((p + n : Nat) : Int), 0)
def numR (l : List UInt8) (p : Nat) (q : Nat) (v : Int) : TR :=
  match numS v (l.takeWhile digU) with
  | none => .bad 5
  | some w => if headLet (l.dropWhile digU) then .bad 13 else .ok 2 [] w (q - p + (l.takeWhile digU).length)
theorem rnumber_l (x : ByteArray) (hx : x.size ≤ 140737488351232) (p : Nat) : ∀ (l : List UInt8) (q : Nat) (v : Int), (bs x).drop q = l → p ≤ q → 0 ≤ v → v ≤ 9223372036854775807 →
    Ev (fun n => antipoderef16_number.l0 n x (q : Int) v) (encR p (numR l p q v)) := by
  intro l
  induction l with
  | nil =>
    intro q v h hq h0 h1
    have := drop_nil h
    refine Ev.step (f := fun n => antipoderef16_number.j1 n x q v false) (fun k => ?_) (Ev.step (f := fun _ => some _) (fun k => ?_) (evs _))
    · show antipoderef16_number.l0 (k + 1) x q v = _
      simp only [antipoderef16_number.l0]
      rw [if_neg (by omega)]
    · show antipoderef16_number.j1 (k + 1) x q v false = _
      simp only [antipoderef16_number.j1, Bool.false_eq_true, if_false]
      rw [if_neg (by omega)]
      show _ = some (2, 0, ofL [], v, ((p + (q - p + 0) : Nat) : Int), 0)
      rw [show p + (q - p + 0) = q by omega]
      rfl
  | cons c t ih =>
    intro q v h hq h0 h1
    obtain ⟨g1, g2, g3⟩ := drop_cons h
    refine Ev.step (f := fun n => antipoderef16_number.j1 n x q v (digU c)) (fun k => ?_) ?_
    · show antipoderef16_number.l0 (k + 1) x q v = _
      simp only [antipoderef16_number.l0]
      rw [if_pos (by omega), if_pos (by omega), g2, rdigit_f]
      rfl
    unfold numR
    rw [List.takeWhile_cons, List.dropWhile_cons]
    by_cases hd : digU c = true
    · have hr := dig_range hd
      have hm : ((c.toNat : Int) - 48) % 256 = (c.toNat : Int) - 48 := by omega
      rw [if_pos hd, if_pos hd, hd]
      simp only [numS]
      by_cases hv : v > (9223372036854775807 - ((c.toNat : Int) - 48)) / 10
      · rw [if_pos hv]
        refine Ev.step (f := fun _ => some _) (fun k => ?_) (evs _)
        show antipoderef16_number.j1 (k + 1) x q v true = _
        simp only [antipoderef16_number.j1, if_true]
        rw [if_pos (by omega), if_pos (by omega), g2, hm, if_pos hv]
        rfl
      · rw [if_neg hv]
        refine Ev.step (f := fun n => antipoderef16_number.l0 n x ((q + 1 : Nat) : Int) (10 * v + ((c.toNat : Int) - 48))) (fun k => ?_) ?_
        · show antipoderef16_number.j1 (k + 1) x q v true = _
          simp only [antipoderef16_number.j1, if_true]
          rw [if_pos (by omega), if_pos (by omega), g2, hm, if_neg hv, wr (x := (q : Int) + 1) (by omega) (by omega), wr (x := v * 10) (by omega) (by omega), wr (by omega) (by omega), Int.mul_comm v 10]
          rfl
        · have := ih (q + 1) (10 * v + ((c.toNat : Int) - 48)) g3 (by omega) (by omega) (by omega)
          unfold numR at this
          rw [List.length_cons, show q - p + ((t.takeWhile digU).length + 1) = q + 1 - p + (t.takeWhile digU).length by omega]
          exact this
    · rw [if_neg hd, if_neg hd, Bool.eq_false_iff.2 hd]
      simp only [numS]
      refine Ev.step (f := fun _ => some _) (fun k => ?_) (evs _)
      show antipoderef16_number.j1 (k + 1) x q v false = _
      simp only [antipoderef16_number.j1, Bool.false_eq_true, if_false]
      rw [if_pos (by omega), if_pos (by omega), g2, rletter_f, Option.bind_some]
      by_cases hl : letU c = true
      · rw [if_pos hl, if_pos (show headLet (c :: t) = true from hl)]; rfl
      · rw [if_neg hl, if_neg (show ¬ headLet (c :: t) = true from hl)]
        show _ = some (2, 0, ofL [], v, ((p + (q - p + 0) : Nat) : Int), 0)
        rw [show p + (q - p + 0) = q by omega]
        rfl
theorem rnumber_f (x : ByteArray) (hx : x.size ≤ 140737488351232) (p : Nat) (l : List UInt8) (h : (bs x).drop p = l) : Ev (fun n => antipoderef16_number.f n x (p : Int)) (encR p (match numS 0 (l.takeWhile digU) with
      | none => TR.bad 5
      | some v => if headLet (l.dropWhile digU) then TR.bad 13 else TR.ok 2 [] v (l.takeWhile digU).length)) := by
  have := rnumber_l x hx p l p 0 h (Nat.le_refl _) (by omega) (by omega)
  unfold numR at this
  rw [Nat.sub_self, Nat.zero_add] at this
  exact this
theorem texS_shift : ∀ (N : Nat) (l : List UInt8), l.length = N → ∀ (acc : List UInt8) (n m : Nat), texS acc (n + m) l = (texS acc n l).map fun r => (r.1, r.2 + m) := by
  intro N
  induction N using Nat.strongRecOn with
  | _ N ih =>
  intro l hl acc n m
  match l, hl with
  | [], hl => rfl
  | [c], hl =>
    simp only [texS]
    split
    · simp; omega
    · rfl
  | c :: d :: t, hl =>
    simp only [List.length_cons] at hl
    simp only [texS]
    split
    · split
      · rw [show n + m + 2 = (n + 2) + m by omega]
        exact ih t.length (by omega) t rfl _ _ _
      · simp; omega
    · rw [show n + m + 1 = (n + 1) + m by omega]
      exact ih (t.length + 1) (by omega) (d :: t) (by simp) _ _ _
theorem ofL_snoc (acc : List UInt8) (c : UInt8) {x : ByteArray} {i : Nat} {t : List UInt8} (h : (bs x).drop i = c :: t) : ofL acc ++ x.extract i (i + 1) = ofL (acc ++ [c]) := by
  apply bs_inj
  rw [bs_append, bs_ofL, bs_ofL, bs_extract, h]
  congr 1
  rw [show i + 1 - i = 1 by omega]
  rfl
theorem ext_size {x : ByteArray} {i : Nat} : (x.extract i (i + 1)).size ≤ 1 := by rw [ByteArray.size_extract]; omega
theorem rtext_l (x : ByteArray) (hx : x.size ≤ 140737488351232) : ∀ (m : Nat) (l : List UInt8) (i : Nat) (acc : List UInt8), l.length = m → (bs x).drop i = l → acc.length ≤ i →
    Ev (fun n => antipoderef16_text.l0 n x (ofL acc) (i : Int)) (encR 0 (encT (texS acc i l))) := by
  intro m
  induction m using Nat.strongRecOn with
  | _ m ih =>
  intro l i acc hm h ha
  match l, hm, h with
  | [], hm, h =>
    have := drop_nil h
    refine Ev.step (f := fun _ => some _) (fun k => ?_) (evs _)
    show antipoderef16_text.l0 (k + 1) x _ i = _
    simp only [antipoderef16_text.l0, texS]
    rw [if_neg (by omega)]
    rfl
  | [c], hm, h =>
    obtain ⟨g1, g2, g3⟩ := drop_cons h
    have g4 := drop_nil g3
    have hes := @ext_size x i
    by_cases hc : c.toNat = 39
    · simp only [texS]
      rw [if_pos hc]
      refine Ev.step (f := fun n => antipoderef16_text.j1 n x (ofL acc) (i : Int) true) (fun k => ?_) (Ev.step (f := fun _ => some _) (fun k => ?_) (evs _))
      · show antipoderef16_text.l0 (k + 1) x _ i = _
        simp only [antipoderef16_text.l0]
        rw [if_pos (by omega), if_pos (by omega), g2, if_pos (by omega), wr (by omega) (by omega), if_pos (by omega)]
      · show antipoderef16_text.j1 (k + 1) x _ _ true = _
        simp only [antipoderef16_text.j1, if_true, ofL_size, encT]
        by_cases h64 : acc.length > 64
        · rw [if_pos (by omega), if_pos h64]; rfl
        · rw [if_neg (by omega), if_neg h64, wr (by omega) (by omega)]
          show _ = some (3, 0, ofL acc, 0, ((0 + (i + 1) : Nat) : Int), 0)
          rw [Nat.zero_add]; rfl
    · simp only [texS]
      rw [if_neg hc]
      refine Ev.step (f := fun n => antipoderef16_text.l0 n x (ofL (acc ++ [c])) ((i + 1 : Nat) : Int)) (fun k => ?_) ?_
      · show antipoderef16_text.l0 (k + 1) x _ i = _
        simp only [antipoderef16_text.l0]
        rw [if_pos (by omega), if_pos (by omega), g2, if_neg (by omega), wr (by omega) (by omega), if_pos (by omega), if_pos (by omega), show ((i : Int) + 1).toNat = i + 1 by omega, Int.toNat_natCast, if_pos (by rw [ofL_size]; omega), ofL_snoc acc c h]
        rfl
      · have := ih 0 (by simp at hm; omega) [] (i + 1) (acc ++ [c]) rfl g3 (by simp; omega)
        simpa only [texS] using this
  | c :: d :: t, hm, h =>
    obtain ⟨g1, g2, g3⟩ := drop_cons h
    obtain ⟨e1, e2, e3⟩ := drop_cons g3
    have hes := @ext_size x i
    have hes2 := @ext_size x (i + 1)
    simp only [List.length_cons] at hm
    by_cases hc : c.toNat = 39
    · by_cases hd : d.toNat = 39
      · simp only [texS]
        rw [if_pos hc, if_pos hd]
        refine Ev.step (f := fun n => antipoderef16_text.j1 n x (ofL acc) (i : Int) false) (fun k => ?_) (Ev.step (f := fun n => antipoderef16_text.l0 n x (ofL (acc ++ [d])) ((i + 2 : Nat) : Int)) (fun k => ?_) (ih t.length (by omega) t (i + 2) (acc ++ [d]) rfl e3 (by simp; omega)))
        · show antipoderef16_text.l0 (k + 1) x _ i = _
          simp only [antipoderef16_text.l0]
          rw [if_pos (by omega), if_pos (by omega), g2, if_pos (by omega), wr (by omega) (by omega), if_neg (by omega), if_pos (by omega), if_pos (by omega), show ((i : Int) + 1) = ((i + 1 : Nat) : Int) by omega, e2, hd]
          rfl
        · show antipoderef16_text.j1 (k + 1) x _ (i : Int) false = _
          simp only [antipoderef16_text.j1, Bool.false_eq_true, if_false]
          rw [wr (x := (i : Int) + 1) (by omega) (by omega), wr (by omega) (by omega), if_pos (by omega), if_pos (by omega), if_pos (by omega), show ((i : Int) + 1).toNat = i + 1 by omega, show ((i : Int) + 1 + 1).toNat = i + 1 + 1 by omega, if_pos (by rw [ofL_size]; omega), ofL_snoc acc d g3]
          rfl
      · simp only [texS]
        rw [if_pos hc, if_neg hd]
        refine Ev.step (f := fun n => antipoderef16_text.j1 n x (ofL acc) (i : Int) true) (fun k => ?_) (Ev.step (f := fun _ => some _) (fun k => ?_) (evs _))
        · show antipoderef16_text.l0 (k + 1) x _ i = _
          simp only [antipoderef16_text.l0]
          rw [if_pos (by omega), if_pos (by omega), g2, if_pos (by omega), wr (by omega) (by omega), if_neg (by omega), if_pos (by omega), if_pos (by omega), show ((i : Int) + 1) = ((i + 1 : Nat) : Int) by omega, e2, bne_iff_ne.2 (by omega)]
        · show antipoderef16_text.j1 (k + 1) x _ _ true = _
          simp only [antipoderef16_text.j1, if_true, ofL_size, encT]
          by_cases h64 : acc.length > 64
          · rw [if_pos (by omega), if_pos h64]; rfl
          · rw [if_neg (by omega), if_neg h64, wr (by omega) (by omega)]
            show _ = some (3, 0, ofL acc, 0, ((0 + (i + 1) : Nat) : Int), 0)
            rw [Nat.zero_add]; rfl
    · simp only [texS]
      rw [if_neg hc]
      refine Ev.step (f := fun n => antipoderef16_text.l0 n x (ofL (acc ++ [c])) ((i + 1 : Nat) : Int)) (fun k => ?_) (ih (t.length + 1) (by omega) (d :: t) (i + 1) (acc ++ [c]) (by simp) g3 (by simp; omega))
      show antipoderef16_text.l0 (k + 1) x _ i = _
      simp only [antipoderef16_text.l0]
      rw [if_pos (by omega), if_pos (by omega), g2, if_neg (by omega), wr (by omega) (by omega), if_pos (by omega), if_pos (by omega), show ((i : Int) + 1).toNat = i + 1 by omega, Int.toNat_natCast, if_pos (by rw [ofL_size]; omega), ofL_snoc acc c h]
      rfl
theorem rtext_f (x : ByteArray) (hx : x.size ≤ 140737488351232) (p : Nat) (c : UInt8) (t : List UInt8) (h : (bs x).drop p = c :: t) : Ev (fun n => antipoderef16_text.f n x (p : Int)) (encR p (encT (texS [] 1 t))) := by
  obtain ⟨g1, g2, g3⟩ := drop_cons h
  have := rtext_l x hx t.length t (p + 1) [] rfl g3 (by simp)
  have e : encR 0 (encT (texS [] (p + 1) t)) = encR p (encT (texS [] 1 t)) := by
    rw [Nat.add_comm p 1, texS_shift _ t rfl [] 1 p]
    cases texS [] 1 t with
    | none => rfl
    | some r =>
      obtain ⟨s, n⟩ := r
      simp only [Option.map_some, encT]
      by_cases h64 : s.length > 64
      · rw [if_pos h64, if_pos h64]; rfl
      · rw [if_neg h64, if_neg h64]
        simp only [encR]
        rw [show 0 + (n + p) = p + n by omega]
  rw [e] at this
  refine ev_of_eq (fun k => ?_) this
  unfold antipoderef16_text.f
  rw [wr (by omega) (by omega)]
  rfl
end Go.Proofs.Ytpgcjlndojbmjaa.Pure
