/- ValueReads: which value stands at a beginning, written either way. -/
import Derived.Test.YtcflmkklpehmmaaDoorReads
import Derived.Test.YtcflmkklpehmmaaDoorSpecP
namespace Go.Proofs.YtcflmkklpehmmaaDoor.Pure
open Go.RowKit Go.Proofs.YtcflmkklpehmmaaDoor.PL Go.Proofs.YtcflmkklpehmmaaDoorW.PrintWords Go.Proofs.YtcflmkklpehmmaaDoorW.PrintLast
set_option linter.unusedVariables false
set_option linter.unusedSimpArgs false
/-- Both come to the same. -/
def Both {α : Type} (f g : Nat → Option α) (r : α) : Prop := Ev f r ∧ Ev g r
theorem both_eq {α : Type} {f g : Nat → Option α} {r : α} (h1 : ∀ k, f k = some r) (h2 : ∀ k, g k = some r) : Both f g r := ⟨ev_eq h1, ev_eq h2⟩
/-! numbers of eight bytes -/
def hornW (a b : Int) : Int := IntKind.u64.wrap (IntKind.u64.wrap (a * 256) + IntKind.u64.wrap b)
theorem wrap_range (x : Int) : 0 ≤ IntKind.u64.wrap x ∧ IntKind.u64.wrap x < 18446744073709551616 := by rw [IntKind.wrap_u64]; omega
theorem rd_take (l : List Int) (i : Nat) (hi : i < 8) (hl : 9 ≤ l.length) : rd ((l.take 9).drop 1) (i : Int) = rd l ((1 + i : Nat) : Int) := by
  unfold rd
  rw [Int.toNat_natCast, Int.toNat_natCast, List.getD_eq_getElem?_getD, List.getD_eq_getElem?_getD, List.getElem?_drop, List.getElem?_take_of_lt (by omega)]
theorem get_both (l : List Int) (hl : 9 ≤ l.length) (hm : l.length ≤ 1024) : ∀ (d i : Nat) (a : Int), i + d = 8 → 0 ≤ a → a < 18446744073709551616 →
    ∃ r, 0 ≤ r ∧ r < 18446744073709551616 ∧ Both (fun k => bits_Get.l0 k a ((l.take 9).drop 1) 8 (i : Int)) (fun k => antipoderef1_Get.l0 k l 1 8 a (i : Int)) (r, 0) := by
  intro d
  have hlen : (((l.take 9).drop 1).length : Int) = 8 := by simp; omega
  induction d with
  | zero =>
    intro i a hi h0 h1
    obtain rfl : i = 8 := by omega
    refine ⟨a, h0, h1, Ev.step (f := fun _ => some (a, 0)) (fun k => ?_) (evk _), Ev.step (f := fun _ => some (a, 0)) (fun k => ?_) (evk _)⟩
    · rw [bits_Get.l0, if_neg (by decide)]
    · rw [antipoderef1_Get.l0, if_neg (by decide)]
  | succ d ih =>
    intro i a hi h0 h1
    obtain ⟨r, hr0, hr1, e1, e2⟩ := ih (i + 1) (hornW a (rd l ((1 + i : Nat) : Int))) (by omega) (wrap_range _).1 (wrap_range _).2
    have hw : wrap64 ((i : Int) + 1) = ((i + 1 : Nat) : Int) := by unfold wrap64; omega
    have hw2 : wrap64 (1 + (i : Int)) = ((1 + i : Nat) : Int) := by unfold wrap64; omega
    refine ⟨r, hr0, hr1, Ev.step (fun k => ?_) e1, Ev.step (fun k => ?_) e2⟩
    · rw [bits_Get.l0, if_pos (by omega), if_pos (by omega), if_pos (by omega), hw, rd_take l i (by omega) hl]
      rfl
    · rw [antipoderef1_Get.l0, if_pos (by omega), hw2, if_pos (by omega), if_pos (by omega), hw]
      rfl
theorem Get_both (l : List Int) (hm : l.length ≤ 1024) (h1 : 1 ≤ l.length) : ∃ r, (r.2 = 0 → 0 ≤ r.1 ∧ r.1 < 18446744073709551616) ∧ Both (fun k => bits_Get.f k l 1 8) (fun k => antipoderef1_Get.f k l 1 8) r := by
  by_cases hl : 9 ≤ l.length
  · obtain ⟨r, h0, hh, e1, e2⟩ := get_both l hl hm 8 0 0 rfl (by decide) (by decide)
    refine ⟨(r, 0), fun _ => ⟨h0, hh⟩, ?_, ?_⟩
    · have ht : (((l.take (wrap64 (1 + 8)).toNat).drop (1 : Int).toNat)) = (l.take 9).drop 1 := by rw [show wrap64 (1 + 8) = 9 by unfold wrap64; omega]; rfl
      have hlen : (((l.take 9).drop 1).length : Int) = 8 := by simp; omega
      obtain ⟨K, hK⟩ := e1
      refine ⟨K + 1, fun k hk => ?_⟩
      obtain ⟨m, rfl⟩ : ∃ m, k = m + 1 := ⟨k - 1, by omega⟩
      have := hK m (by omega)
      simp only at this ⊢
      unfold bits_Get.f
      rw [if_neg (by decide), if_neg (by decide)]
      simp only [bits_Get.j0]
      rw [if_neg (by decide), w64 (x := (l.length : Int) - 8) (by omega) (by omega), if_neg (by omega), if_pos (by decide), ht, show wrap64 (1 + 8) = 9 by unfold wrap64; omega, if_pos (by decide), if_pos (by omega), hlen]
      exact this
    · obtain ⟨K, hK⟩ := e2
      refine ⟨K + 2, fun k hk => ?_⟩
      obtain ⟨m, rfl⟩ : ∃ m, k = m + 2 := ⟨k - 2, by omega⟩
      have := hK m (by omega)
      simp only at this ⊢
      unfold antipoderef1_Get.f
      rw [if_neg (by decide), if_neg (by decide)]
      simp only [antipoderef1_Get.j0]
      rw [if_neg (by decide), if_neg (by omega)]
      simp only [antipoderef1_Get.j1]
      rw [w64 (x := (l.length : Int) - 1) (by omega) (by omega), if_neg (by simp; omega)]
      exact this
  · refine ⟨(0, 2), (fun h => by cases h), ⟨1, fun k hk => ?_⟩, ⟨2, fun k hk => ?_⟩⟩
    · obtain ⟨m, rfl⟩ : ∃ m, k = m + 1 := ⟨k - 1, by omega⟩
      simp only
      unfold bits_Get.f
      rw [if_neg (by decide), if_neg (by decide)]
      simp only [bits_Get.j0]
      rw [if_neg (by decide), w64 (x := (l.length : Int) - 8) (by omega) (by omega), if_pos (by omega)]
    · obtain ⟨m, rfl⟩ : ∃ m, k = m + 2 := ⟨k - 2, by omega⟩
      simp only
      unfold antipoderef1_Get.f
      rw [if_neg (by decide), if_neg (by decide)]
      simp only [antipoderef1_Get.j0]
      rw [if_neg (by decide), if_neg (by omega)]
      simp only [antipoderef1_Get.j1]
      rw [w64 (x := (l.length : Int) - 1) (by omega) (by omega), if_pos (by simp; omega)]
theorem refBack_f (u : Int) (h0 : 0 ≤ u) (h1 : u < 18446744073709551616) : antipoderef1_Back.f u = some (u - 9223372036854775808) := by
  unfold antipoderef1_Back.f
  by_cases h : u ≥ 9223372036854775808
  · rw [if_pos h, u64w (by omega) (by omega), w64 (by omega) (by omega)]
  · rw [if_neg h, w64 (x := u) (by omega) (by omega), w64 (x := u - 9223372036854775807) (by omega) (by omega), w64 (by omega) (by omega)]
    refine congrArg some (by omega)
/-! texts in keys -/
theorem text_both (l : List Int) (hm : l.length ≤ 1024) : ∀ (d i : Nat) (acc : List Int), l.length ≤ i + d → i ≤ l.length + 1 → acc.length ≤ 64 →
    ∃ r, Both (fun k => value_takeText.l0 k l acc (i : Int)) (fun k => antipoderef7_takeText.l0 k l acc (i : Int)) r := by
  have hend : ∀ (i : Nat) (acc : List Int), l.length ≤ i → ∃ r, Both (fun k => value_takeText.l0 k l acc (i : Int)) (fun k => antipoderef7_takeText.l0 k l acc (i : Int)) r := by
    intro i acc hi
    refine ⟨(0, 0, ⟨#[]⟩, 0, 2), Ev.step (f := fun _ => some (0, 0, ⟨#[]⟩, 0, 2)) (fun k => ?_) (evk _), Ev.step (f := fun _ => some (0, 0, ⟨#[]⟩, 0, 2)) (fun k => ?_) (evk _)⟩
    · rw [value_takeText.l0, if_neg (by omega)]
    · rw [antipoderef7_takeText.l0, if_neg (by omega)]
  intro d
  induction d using Nat.strongRecOn with
  | ind d ih =>
    intro i acc hd hi ha
    by_cases hlt : l.length ≤ i
    · exact hend i acc hlt
    have hw : wrap64 ((i : Int) + 1) = ((i + 1 : Nat) : Int) := by unfold wrap64; omega
    have hw2 : wrap64 (((i + 1 : Nat) : Int) + 1) = ((i + 2 : Nat) : Int) := by unfold wrap64; omega
    have hw3 : wrap64 ((i : Int) + 2) = ((i + 2 : Nat) : Int) := by unfold wrap64; omega
    by_cases hz : rd l (i : Int) = 0
    · by_cases he : ((i + 1 : Nat) : Int) = (l.length : Int)
      · refine ⟨(0, 0, ⟨#[]⟩, 0, 2), Ev.step (f := fun _ => some (0, 0, ⟨#[]⟩, 0, 2)) (fun k => ?_) (evk _), Ev.step (f := fun _ => some (0, 0, ⟨#[]⟩, 0, 2)) (fun k => ?_) (evk _)⟩
        · rw [value_takeText.l0, if_pos (by omega), if_pos (by omega), if_pos hz, hw, if_pos he]
        · rw [antipoderef7_takeText.l0, if_pos (by omega), if_pos (by omega), if_pos hz, hw, if_pos he]
      · by_cases h1 : rd l ((i + 1 : Nat) : Int) = 1
        · refine ⟨(3, 0, strOfNums acc, ((i + 2 : Nat) : Int), 0), Ev.step (f := fun _ => some (3, 0, strOfNums acc, ((i + 2 : Nat) : Int), 0)) (fun k => ?_) (evk _), Ev.step (f := fun _ => some (3, 0, strOfNums acc, ((i + 2 : Nat) : Int), 0)) (fun k => ?_) (evk _)⟩
          · rw [value_takeText.l0, if_pos (by omega), if_pos (by omega), if_pos hz, hw, if_neg he, if_pos (by omega), if_pos (by omega), if_pos h1, hw2]
          · rw [antipoderef7_takeText.l0, if_pos (by omega), if_pos (by omega), if_pos hz, hw, if_neg he, if_pos (by omega), if_pos (by omega), if_pos h1, hw3]
        · by_cases h255 : rd l ((i + 1 : Nat) : Int) = 255
          · by_cases hfull : (acc.length : Int) = 64
            · refine ⟨(0, 0, ⟨#[]⟩, 0, 3), Ev.step (f := fun _ => some (0, 0, ⟨#[]⟩, 0, 3)) (fun k => ?_) (evk _), Ev.step (f := fun k => antipoderef7_takeText.j1 k l acc (i : Int)) (fun k => ?_) (Ev.step (f := fun _ => some (0, 0, ⟨#[]⟩, 0, 3)) (fun k => ?_) (evk _))⟩
              · rw [value_takeText.l0, if_pos (by omega), if_pos (by omega), if_pos hz, hw, if_neg he, if_pos (by omega), if_pos (by omega), if_neg h1, if_pos h255, if_pos hfull]
              · rw [antipoderef7_takeText.l0, if_pos (by omega), if_pos (by omega), if_pos hz, hw, if_neg he, if_pos (by omega), if_pos (by omega), if_neg h1, if_pos h255]
              · rw [antipoderef7_takeText.j1, if_pos hfull]
            · obtain ⟨r, e1, e2⟩ := ih (d - 1) (by omega) (i + 2) (acc ++ [rd l (i : Int)]) (by omega) (by omega) (by simp; omega)
              refine ⟨r, Ev.step (fun k => ?_) e1, Ev.step (f := fun k => antipoderef7_takeText.j1 k l acc (i : Int)) (fun k => ?_) (Ev.step (fun k => ?_) e2)⟩
              · rw [value_takeText.l0, if_pos (by omega), if_pos (by omega), if_pos hz, hw, if_neg he, if_pos (by omega), if_pos (by omega), if_neg h1, if_pos h255, if_neg hfull, if_pos (by omega), hw2]
              · rw [antipoderef7_takeText.l0, if_pos (by omega), if_pos (by omega), if_pos hz, hw, if_neg he, if_pos (by omega), if_pos (by omega), if_neg h1, if_pos h255]
              · rw [antipoderef7_takeText.j1, if_neg hfull, if_pos (by omega), if_pos (by omega), if_pos (by omega)]
                simp only [Option.bind_some]
                rw [if_pos hz, hw, hw2]
          · refine ⟨(0, 0, ⟨#[]⟩, 0, 9), Ev.step (f := fun _ => some (0, 0, ⟨#[]⟩, 0, 9)) (fun k => ?_) (evk _), Ev.step (f := fun _ => some (0, 0, ⟨#[]⟩, 0, 9)) (fun k => ?_) (evk _)⟩
            · rw [value_takeText.l0, if_pos (by omega), if_pos (by omega), if_pos hz, hw, if_neg he, if_pos (by omega), if_pos (by omega), if_neg h1, if_neg h255]
            · rw [antipoderef7_takeText.l0, if_pos (by omega), if_pos (by omega), if_pos hz, hw, if_neg he, if_pos (by omega), if_pos (by omega), if_neg h1, if_neg h255]
    · by_cases hfull : (acc.length : Int) = 64
      · refine ⟨(0, 0, ⟨#[]⟩, 0, 3), Ev.step (f := fun _ => some (0, 0, ⟨#[]⟩, 0, 3)) (fun k => ?_) (evk _), Ev.step (f := fun k => antipoderef7_takeText.j1 k l acc (i : Int)) (fun k => ?_) (Ev.step (f := fun _ => some (0, 0, ⟨#[]⟩, 0, 3)) (fun k => ?_) (evk _))⟩
        · rw [value_takeText.l0, if_pos (by omega), if_pos (by omega), if_neg hz, if_pos hfull]
        · rw [antipoderef7_takeText.l0, if_pos (by omega), if_pos (by omega), if_neg hz]
        · rw [antipoderef7_takeText.j1, if_pos hfull]
      · obtain ⟨r, e1, e2⟩ := ih (d - 1) (by omega) (i + 1) (acc ++ [rd l (i : Int)]) (by omega) (by omega) (by simp; omega)
        refine ⟨r, Ev.step (fun k => ?_) e1, Ev.step (f := fun k => antipoderef7_takeText.j1 k l acc (i : Int)) (fun k => ?_) (Ev.step (fun k => ?_) e2)⟩
        · rw [value_takeText.l0, if_pos (by omega), if_pos (by omega), if_neg hz, if_neg hfull, if_pos (by omega), hw]
        · rw [antipoderef7_takeText.l0, if_pos (by omega), if_pos (by omega), if_neg hz]
        · rw [antipoderef7_takeText.j1, if_neg hfull, if_pos (by omega), if_pos (by omega), if_pos (by omega)]
          simp only [Option.bind_some]
          rw [if_neg hz, hw]
/-! keys -/
theorem rk0 (m : Nat) (l : List Int) (hl : l.length = 0) : antipoderef7_TakeKey.f m l = some (0, 0, (⟨#[]⟩ : ByteArray), 0, 2) := by
  unfold antipoderef7_TakeKey.f
  rw [if_pos (by omega)]
theorem vk0 (m : Nat) (l : List Int) (hl : l.length = 0) : value_TakeKey.f m l = some (0, 0, (⟨#[]⟩ : ByteArray), 0, 2) := by
  unfold value_TakeKey.f
  rw [if_pos (by omega)]
theorem ref_bool (l : List Int) (h : 1 ≤ l.length) (h1 : rd l 0 = 1) (m : Nat) : antipoderef7_TakeKey.f m l = (value_takeBool.f l).bind fun bt => some (bt.1, bt.2.1, bt.2.2.1, bt.2.2.2.1, bt.2.2.2.2) := by
  unfold antipoderef7_TakeKey.f value_takeBool.f
  rw [if_neg (by omega), if_pos (by omega), h1, if_neg (by decide), if_pos rfl]
  split
  · rfl
  · split
    · split <;> rfl
    · rfl
theorem bool_some (l : List Int) (h : 1 ≤ l.length) : ∃ r, value_takeBool.f l = some r := by
  unfold value_takeBool.f
  by_cases h2 : (l.length : Int) < 2
  · rw [if_pos h2]; exact ⟨_, rfl⟩
  · rw [if_neg h2, if_pos (by omega)]
    split <;> exact ⟨_, rfl⟩
theorem TakeKey_both (l : List Int) (hm : l.length ≤ 1024) (hb : ∀ x ∈ l, 0 ≤ x ∧ x < 256) : ∃ r, Both (fun k => value_TakeKey.f k l) (fun k => antipoderef7_TakeKey.f k l) r := by
  by_cases hz : l.length = 0
  · exact ⟨_, both_eq (fun k => vk0 k l hz) (fun k => rk0 k l hz)⟩
  have hr : 0 ≤ rd l 0 ∧ rd l 0 < 256 := by
    cases l with
    | nil => simp at hz
    | cons a t => exact hb a (by simp)
  have hpos : 0 < l.length := by omega
  by_cases h0 : rd l 0 = 0
  · refine ⟨_, both_eq (fun k => tk0 k l hpos h0) (fun k => ?_)⟩
    unfold antipoderef7_TakeKey.f
    rw [if_neg (by omega), if_pos (by omega), if_pos h0]
  by_cases h1 : rd l 0 = 1
  · obtain ⟨r, er⟩ := bool_some l (by omega)
    refine ⟨(r.1, r.2.1, r.2.2.1, r.2.2.2.1, r.2.2.2.2), both_eq (fun k => ?_) (fun k => ?_)⟩
    · rw [tk1 k l hpos h1, er]; rfl
    · rw [ref_bool l (by omega) h1 k, er]; rfl
  by_cases h2 : rd l 0 = 2
  · obtain ⟨r, hrg, e1, e2⟩ := Get_both l hm (by omega)
    have hf : ∀ k, antipoderef7_TakeKey.f k l = (antipoderef1_Get.f k l 1 8).bind fun bt => if bt.2 = 0 then ((antipoderef1_Back.f bt.1).bind fun t => (some (2, t, (⟨#[]⟩ : ByteArray), 9, 0))) else (some (0, 0, (⟨#[]⟩ : ByteArray), 0, bt.2)) := by
      intro k
      unfold antipoderef7_TakeKey.f
      rw [if_neg (by omega), if_pos (by omega), if_neg h0, if_neg h1, if_pos h2]
    by_cases hz2 : r.2 = 0
    · obtain ⟨g0, g1⟩ := hrg hz2
      refine ⟨(2, r.1 - 9223372036854775808, ⟨#[]⟩, 9, 0), Ev.congr (fun k => tk2 k l hpos h2) (Ev.bind e1 (ev_eq fun k => ?_)), Ev.congr hf (Ev.bind e2 (ev_eq fun k => ?_))⟩
      · rw [if_pos hz2, Back_f _ g0 g1]; rfl
      · rw [if_pos hz2, refBack_f _ g0 g1]; rfl
    · exact ⟨(0, 0, ⟨#[]⟩, 0, r.2), Ev.congr (fun k => tk2 k l hpos h2) (Ev.bind e1 (ev_eq fun k => by rw [if_neg hz2])), Ev.congr hf (Ev.bind e2 (ev_eq fun k => by rw [if_neg hz2]))⟩
  by_cases h3 : rd l 0 = 3
  · obtain ⟨r, e1, e2⟩ := text_both l hm l.length 1 [] (by omega) (by omega) (by simp)
    refine ⟨(r.1, r.2.1, r.2.2.1, r.2.2.2.1, r.2.2.2.2), Ev.congr (fun k => tk3 k l hpos h3) (Ev.bind e1 (evk _)), Ev.congr (f := fun k => (antipoderef7_takeText.l0 k l [] 1).bind fun bt => some (bt.1, bt.2.1, bt.2.2.1, bt.2.2.2.1, bt.2.2.2.2)) (fun k => ?_) (Ev.bind e2 (evk _))⟩
    unfold antipoderef7_TakeKey.f
    rw [if_neg (by omega), if_pos (by omega), if_neg h0, if_neg h1, if_neg h2, if_pos h3]
    rfl
  · refine ⟨(0, 0, ⟨#[]⟩, 0, 9), both_eq (fun k => ?_) (fun k => ?_)⟩
    · unfold value_TakeKey.f
      rw [if_neg (by omega), if_pos (by omega), w64 (by omega) (by omega), if_neg h0, if_neg h1, if_neg h2, if_neg h3]
    · unfold antipoderef7_TakeKey.f
      rw [if_neg (by omega), if_pos (by omega), if_neg h0, if_neg h1, if_neg h2, if_neg h3]
/-! numbers of seven bits a byte -/
theorem pow7 (i : Nat) : (2 : Nat) ^ (7 * (i + 1)) = 128 * 2 ^ (7 * i) := by
  have h7 : (2 : Nat) ^ 7 = 128 := by decide
  rw [show 7 * (i + 1) = 7 * i + 7 by omega, Nat.pow_add, h7, Nat.mul_comm]
theorem pow_le (i : Nat) (h : i ≤ 9) : (2 : Nat) ^ (7 * i) ≤ 9223372036854775808 := by
  have := Nat.pow_le_pow_right (show 0 < 2 by decide) (show 7 * i ≤ 63 by omega)
  exact this
theorem ref_add (v c P : Nat) (hv : v + c * P < 18446744073709551616) (hc : c < 128) (b : Int) (hb : Int.tmod b 128 = (c : Int)) : IntKind.u64.wrap ((v : Int) + IntKind.u64.wrap (IntKind.u64.wrap (Int.tmod b 128) * (P : Int))) = ((v + c * P : Nat) : Int) := by
  have e : ((c : Int) * (P : Int)) = ((c * P : Nat) : Int) := by simp
  rw [hb, u64w (x := (c : Int)) (by omega) (by omega), e, u64w (x := ((c * P : Nat) : Int)) (by omega) (by omega), u64w (by omega) (by omega)]
  omega
theorem var_both (l : List Int) (hm : l.length ≤ 1024) (hb : ∀ x ∈ l, 0 ≤ x ∧ x < 256) : ∀ (d i v : Nat), i + d = 9 → v < 2 ^ (7 * i) →
    ∃ r : Int × Int × Int, (r.2.2 = 0 → 0 ≤ r.1 ∧ r.1 < 18446744073709551616 ∧ 0 ≤ r.2.1 ∧ r.2.1 ≤ l.length) ∧ Both (fun k => bits_TakeVar.l0 k (v : Int) l (l.length : Int) (i : Int)) (fun k => antipoderef1_TakeVar.l0 k l (v : Int) ((2 ^ (7 * i) : Nat) : Int) (i : Int)) r := by
  intro d
  induction d with
  | zero =>
    intro i v hi hv
    obtain rfl : i = 9 := by omega
    by_cases hlt : l.length ≤ 9
    · refine ⟨(0, 0, 2), (fun h => by cases h), Ev.step (f := fun _ => some (0, 0, 2)) (fun k => ?_) (evk _), Ev.step (f := fun _ => some (0, 0, 2)) (fun k => ?_) (evk _)⟩
      · rw [bits_TakeVar.l0, if_neg (by omega)]
      · rw [antipoderef1_TakeVar.l0, if_pos (by decide), if_pos (by omega)]
    · have hr : 0 ≤ rd l ((9 : Nat) : Int) ∧ rd l ((9 : Nat) : Int) < 256 := by
        have h9 : 9 < l.length := by omega
        have : rd l ((9 : Nat) : Int) = l[9] := by unfold rd; rw [Int.toNat_natCast, List.getD_eq_getElem?_getD, List.getElem?_eq_getElem h9]; rfl
        rw [this]
        exact hb _ (List.getElem_mem h9)
      obtain ⟨b, hbe⟩ : ∃ b, rd l ((9 : Nat) : Int) = b := ⟨_, rfl⟩
      rw [hbe] at hr
      by_cases hg : b > 1
      · refine ⟨(0, 0, 5), (fun h => by cases h), ⟨2, fun k hk => ?_⟩, ⟨2, fun k hk => ?_⟩⟩
        · obtain ⟨m, rfl⟩ : ∃ m, k = m + 2 := ⟨k - 2, by omega⟩
          simp only
          rw [bits_TakeVar.l0, if_pos (by omega), if_pos (by omega), if_pos (by omega), if_pos (by rfl), hbe, decide_eq_true hg, bits_TakeVar.j1, if_pos rfl]
        · obtain ⟨m, rfl⟩ : ∃ m, k = m + 2 := ⟨k - 2, by omega⟩
          simp only
          rw [antipoderef1_TakeVar.l0, if_pos (by decide), if_neg (by omega), if_pos (by rfl), if_pos (by omega), if_pos (by omega), hbe, decide_eq_true hg, antipoderef1_TakeVar.j1, if_pos rfl]
      · obtain ⟨c, rfl⟩ := Int.eq_ofNat_of_zero_le hr.1
        have hc : c ≤ 1 := by omega
        have hP : (2 : Nat) ^ (7 * 9) = 9223372036854775808 := by decide
        have hsum : v + c * 2 ^ (7 * 9) < 18446744073709551616 := by
          rw [hP] at hv ⊢
          rcases (show c = 0 ∨ c = 1 by omega) with rfl | rfl <;> omega
        have hs := or_shl v c 9 (by decide) hv (by omega) hsum
        have hsh : 0 ≤ IntKind.u64.wrap (wrap64 (7 * ((9 : Nat) : Int))) := (wrap_range _).1
        have hw : wrap64 (((9 : Nat) : Int) + 1) = 10 := by unfold wrap64; omega
        have ha := ref_add v c (2 ^ (7 * 9)) hsum (by omega) (c : Int) (by rw [Int.tmod_eq_emod_of_nonneg (by omega)]; omega)
        by_cases hz : (c : Int) = 0
        · refine ⟨(0, 0, 9), (fun h => by cases h), ⟨2, fun k hk => ?_⟩, ⟨2, fun k hk => ?_⟩⟩
          · obtain ⟨m, rfl⟩ : ∃ m, k = m + 2 := ⟨k - 2, by omega⟩
            simp only
            rw [bits_TakeVar.l0, if_pos (by omega), if_pos (by omega), if_pos (by omega), if_pos (by rfl), hbe, decide_eq_false hg, bits_TakeVar.j1, if_neg (by decide), if_pos hsh, if_neg (by omega), if_pos hz, if_pos (by decide)]
          · obtain ⟨m, rfl⟩ : ∃ m, k = m + 2 := ⟨k - 2, by omega⟩
            simp only
            rw [antipoderef1_TakeVar.l0, if_pos (by decide), if_neg (by omega), if_pos (by rfl), if_pos (by omega), if_pos (by omega), hbe, decide_eq_false hg, antipoderef1_TakeVar.j1, if_neg (by decide), if_pos (by omega), if_pos (by omega), hbe, if_pos (by omega), if_pos hz, if_pos (by decide)]
        · refine ⟨(((v + c * 2 ^ (7 * 9) : Nat) : Int), 10, 0), fun _ => ⟨by omega, by omega, by simp, by simp; omega⟩, ⟨2, fun k hk => ?_⟩, ⟨2, fun k hk => ?_⟩⟩
          · obtain ⟨m, rfl⟩ : ∃ m, k = m + 2 := ⟨k - 2, by omega⟩
            simp only
            rw [bits_TakeVar.l0, if_pos (by omega), if_pos (by omega), if_pos (by omega), if_pos (by rfl), hbe, decide_eq_false hg, bits_TakeVar.j1, if_neg (by decide), if_pos hsh, if_neg (by omega), if_neg hz, andNot_lo c (by omega), hs, hw]
          · obtain ⟨m, rfl⟩ : ∃ m, k = m + 2 := ⟨k - 2, by omega⟩
            simp only
            rw [antipoderef1_TakeVar.l0, if_pos (by decide), if_neg (by omega), if_pos (by rfl), if_pos (by omega), if_pos (by omega), hbe, decide_eq_false hg, antipoderef1_TakeVar.j1, if_neg (by decide), if_pos (by omega), if_pos (by omega), hbe, if_pos (by omega), if_neg hz, ha, hw]
  | succ d ih =>
    intro i v hi hv
    have hi9 : ¬ (i : Int) = 9 := by omega
    have h10 : (i : Int) < 10 := by omega
    by_cases hlt : l.length ≤ i
    · refine ⟨(0, 0, 2), (fun h => by cases h), Ev.step (f := fun _ => some (0, 0, 2)) (fun k => ?_) (evk _), Ev.step (f := fun _ => some (0, 0, 2)) (fun k => ?_) (evk _)⟩
      · rw [bits_TakeVar.l0, if_neg (by omega)]
      · rw [antipoderef1_TakeVar.l0, if_pos h10, if_pos (by omega)]
    · have hltI : (i : Int) < (l.length : Int) := by omega
      have hge : ¬ (i : Int) ≥ (l.length : Int) := by omega
      have h0i : (0 : Int) ≤ (i : Int) := by omega
      have hr : 0 ≤ rd l (i : Int) ∧ rd l (i : Int) < 256 := by
        have h9 : i < l.length := by omega
        have : rd l (i : Int) = l[i] := by unfold rd; rw [Int.toNat_natCast, List.getD_eq_getElem?_getD, List.getElem?_eq_getElem h9]; rfl
        rw [this]
        exact hb _ (List.getElem_mem h9)
      obtain ⟨b, hbe⟩ : ∃ b, rd l (i : Int) = b := ⟨_, rfl⟩
      rw [hbe] at hr
      obtain ⟨b, rfl⟩ := Int.eq_ofNat_of_zero_le hr.1
      have hb256 : b < 256 := by have := hr.2; omega
      have hP := pow_le i (by omega)
      have hsh : 0 ≤ IntKind.u64.wrap (wrap64 (7 * (i : Int))) := (wrap_range _).1
      have hw : wrap64 ((i : Int) + 1) = ((i + 1 : Nat) : Int) := by unfold wrap64; omega
      have hq : v + b % 128 * 2 ^ (7 * i) < 2 ^ (7 * (i + 1)) := by
        rw [pow7]
        have h1 : b % 128 * 2 ^ (7 * i) ≤ 127 * 2 ^ (7 * i) := Nat.mul_le_mul_right _ (by omega)
        omega
      have hPP := pow_le (i + 1) (by omega)
      have hsum : v + b % 128 * 2 ^ (7 * i) < 18446744073709551616 := by omega
      have hs := or_shl v (b % 128) i (by omega) hv (by omega) hsum
      have ha := ref_add v (b % 128) (2 ^ (7 * i)) hsum (by omega) (b : Int) (by rw [Int.tmod_eq_emod_of_nonneg (by omega)]; omega)
      by_cases hlo : b < 128
      · have hbm : b % 128 = b := by omega
        rw [hbm] at hs ha hsum
        have hge2 : ¬ (b : Int) ≥ 128 := by omega
        have hlt2 : (b : Int) < 128 := by omega
        by_cases hz : (b : Int) = 0
        · by_cases hi0 : (i : Int) > 0
          · refine ⟨(0, 0, 9), (fun h => by cases h), ⟨2, fun k hk => ?_⟩, ⟨2, fun k hk => ?_⟩⟩
            · obtain ⟨m, rfl⟩ : ∃ m, k = m + 2 := ⟨k - 2, by omega⟩
              simp only
              rw [bits_TakeVar.l0, if_pos hltI, if_pos h0i, if_pos hltI, if_neg hi9, hbe, bits_TakeVar.j1, if_neg (by decide), if_pos hsh, if_neg hge2, if_pos hz, if_pos hi0]
            · obtain ⟨m, rfl⟩ : ∃ m, k = m + 2 := ⟨k - 2, by omega⟩
              simp only
              rw [antipoderef1_TakeVar.l0, if_pos h10, if_neg hge, if_neg hi9, antipoderef1_TakeVar.j1, if_neg (by decide), if_pos h0i, if_pos hltI, hbe, if_pos hlt2, if_pos hz, if_pos hi0]
          · refine ⟨(((v + b * 2 ^ (7 * i) : Nat) : Int), ((i + 1 : Nat) : Int), 0), fun _ => ⟨by omega, by omega, by simp; omega, by simp; omega⟩, ⟨2, fun k hk => ?_⟩, ⟨2, fun k hk => ?_⟩⟩
            · obtain ⟨m, rfl⟩ : ∃ m, k = m + 2 := ⟨k - 2, by omega⟩
              simp only
              rw [bits_TakeVar.l0, if_pos hltI, if_pos h0i, if_pos hltI, if_neg hi9, hbe, bits_TakeVar.j1, if_neg (by decide), if_pos hsh, if_neg hge2, if_pos hz, if_neg hi0, andNot_lo b hlo, hs, hw]
            · obtain ⟨m, rfl⟩ : ∃ m, k = m + 2 := ⟨k - 2, by omega⟩
              simp only
              rw [antipoderef1_TakeVar.l0, if_pos h10, if_neg hge, if_neg hi9, antipoderef1_TakeVar.j1, if_neg (by decide), if_pos h0i, if_pos hltI, hbe, if_pos hlt2, if_pos hz, if_neg hi0, ha, hw]
        · refine ⟨(((v + b * 2 ^ (7 * i) : Nat) : Int), ((i + 1 : Nat) : Int), 0), fun _ => ⟨by omega, by omega, by simp; omega, by simp; omega⟩, ⟨2, fun k hk => ?_⟩, ⟨2, fun k hk => ?_⟩⟩
          · obtain ⟨m, rfl⟩ : ∃ m, k = m + 2 := ⟨k - 2, by omega⟩
            simp only
            rw [bits_TakeVar.l0, if_pos hltI, if_pos h0i, if_pos hltI, if_neg hi9, hbe, bits_TakeVar.j1, if_neg (by decide), if_pos hsh, if_neg hge2, if_neg hz, andNot_lo b hlo, hs, hw]
          · obtain ⟨m, rfl⟩ : ∃ m, k = m + 2 := ⟨k - 2, by omega⟩
            simp only
            rw [antipoderef1_TakeVar.l0, if_pos h10, if_neg hge, if_neg hi9, antipoderef1_TakeVar.j1, if_neg (by decide), if_pos h0i, if_pos hltI, hbe, if_pos hlt2, if_neg hz, ha, hw]
      · have hge2 : (b : Int) ≥ 128 := by omega
        have hlt2 : ¬ (b : Int) < 128 := by omega
        obtain ⟨r, hr0, ⟨K1, e1⟩, ⟨K2, e2⟩⟩ := ih (i + 1) (v + b % 128 * 2 ^ (7 * i)) (by omega) hq
        have han : Go.bits .andNot .u8 (b : Int) 128 = ((b % 128 : Nat) : Int) := by
          have := andNot_hi (b % 128) (by omega)
          rwa [show b % 128 + 128 = b by omega] at this
        have hu : IntKind.u64.wrap (((2 ^ (7 * i) : Nat) : Int) * 128) = ((2 ^ (7 * (i + 1)) : Nat) : Int) := by
          rw [pow7]
          rw [pow7] at hPP
          rw [u64w (by omega) (by omega)]
          omega
        refine ⟨r, hr0, ⟨K1 + 2, fun k hk => ?_⟩, ⟨K2 + 2, fun k hk => ?_⟩⟩
        · obtain ⟨m, rfl⟩ : ∃ m, k = m + 2 := ⟨k - 2, by omega⟩
          have := e1 m (by omega)
          simp only at this ⊢
          rw [bits_TakeVar.l0, if_pos hltI, if_pos h0i, if_pos hltI, if_neg hi9, hbe, bits_TakeVar.j1, if_neg (by decide), if_pos hsh, if_pos hge2, han, hs, hw]
          exact this
        · obtain ⟨m, rfl⟩ : ∃ m, k = m + 2 := ⟨k - 2, by omega⟩
          have := e2 m (by omega)
          simp only at this ⊢
          rw [antipoderef1_TakeVar.l0, if_pos h10, if_neg hge, if_neg hi9, antipoderef1_TakeVar.j1, if_neg (by decide), if_pos h0i, if_pos hltI, hbe, if_neg hlt2, ha, hu, hw]
          exact this
theorem TakeVar_both (l : List Int) (hm : l.length ≤ 1024) (hb : ∀ x ∈ l, 0 ≤ x ∧ x < 256) : ∃ r : Int × Int × Int, (r.2.2 = 0 → 0 ≤ r.1 ∧ r.1 < 18446744073709551616 ∧ 0 ≤ r.2.1 ∧ r.2.1 ≤ l.length) ∧ Both (fun k => bits_TakeVar.f k l) (fun k => antipoderef1_TakeVar.f k l) r :=
  var_both l hm hb 9 0 0 rfl (by decide)
theorem refZag_f (u : Nat) (hu : u < 18446744073709551616) : antipoderef1_Zag.f (u : Int) = some (zagI u) := by
  unfold antipoderef1_Zag.f zagI
  have e1 : Int.tmod (u : Int) 2 = ((u % 2 : Nat) : Int) := by rw [Int.tmod_eq_emod_of_nonneg (by omega)]; omega
  have e2 : Int.tdiv (u : Int) 2 = ((u / 2 : Nat) : Int) := by rw [Int.tdiv_eq_ediv_of_nonneg (by omega)]; omega
  rw [e1, e2, u64w (x := ((u / 2 : Nat) : Int)) (by omega) (by omega), w64 (x := ((u / 2 : Nat) : Int)) (by omega) (by omega), w64 (x := -((u / 2 : Nat) : Int)) (by omega) (by omega), w64 (x := -((u / 2 : Nat) : Int) - 1) (by omega) (by omega)]
  by_cases h : u % 2 = 0
  · rw [if_pos (by omega), if_pos h]
    exact congrArg some (by omega)
  · rw [if_neg (by omega), if_neg h]
    exact congrArg some (by omega)
theorem TakeText_both (l : List Int) (hm : l.length ≤ 1024) (hb : ∀ x ∈ l, 0 ≤ x ∧ x < 256) : ∃ r : List Int × Int × Int, (0 ≤ r.2.1 ∧ r.2.1 ≤ 1048576 + 1024) ∧ Both (fun k => bits_TakeText.f k l) (fun k => antipoderef1_TakeText.f k l) r := by
  obtain ⟨r, hr, e1, e2⟩ := TakeVar_both l hm hb
  by_cases hz : r.2.2 = 0
  · obtain ⟨g0, g1, g2, g3⟩ := hr hz
    by_cases hbig : r.1 > 1048576
    · refine ⟨([], 0, 3), ⟨by decide, by decide⟩, Ev.bind e1 (ev_eq fun k => ?_), Ev.bind e2 (ev_eq fun k => ?_)⟩
      · rw [if_pos hz, if_pos hbig]
      · rw [if_pos hz, if_pos hbig]
    · have w1 : wrap64 ((l.length : Int) - r.2.1) = (l.length : Int) - r.2.1 := w64 (by omega) (by omega)
      have w2 : IntKind.u64.wrap ((l.length : Int) - r.2.1) = (l.length : Int) - r.2.1 := u64w (by omega) (by omega)
      have w3 : wrap64 r.1 = r.1 := w64 (by omega) (by omega)
      by_cases hs : r.1 > (l.length : Int) - r.2.1
      · refine ⟨([], 0, 2), ⟨by decide, by decide⟩, Ev.bind e1 (ev_eq fun k => ?_), Ev.bind e2 (ev_eq fun k => ?_)⟩
        · rw [if_pos hz, if_neg hbig, w1, w2, if_pos hs]
        · rw [if_pos hz, if_neg hbig, w1, w3, if_pos (by omega)]
      · have w4 : wrap64 (r.2.1 + r.1) = r.2.1 + r.1 := w64 (by omega) (by omega)
        have hlen : ((l.take (r.2.1 + r.1).toNat).drop r.2.1.toNat).length ≤ 1024 := by simp; omega
        refine ⟨((l.take (r.2.1 + r.1).toNat).drop r.2.1.toNat, r.2.1 + r.1, 0), ⟨by simp; omega, by simp; omega⟩, Ev.bind e1 (ev_eq fun k => ?_), Ev.bind e2 (ev_eq fun k => ?_)⟩
        · rw [if_pos hz, if_neg hbig, w1, w2, if_neg hs, if_pos (by omega), w3, w4, if_pos (by omega), if_pos (by omega)]
          unfold bits_room.f
          rw [if_pos ⟨by decide, by decide, by omega⟩]
          rfl
        · rw [if_pos hz, if_neg hbig, w1, w3, if_neg (by omega)]
          simp only [Option.bind_some, List.nil_append, List.length_nil]
          rw [if_pos (by omega), w4, if_pos (by omega), if_pos (by omega), if_pos (by omega)]
  · exact ⟨([], 0, r.2.2), ⟨by simp, by simp⟩, Ev.bind e1 (ev_eq fun k => by rw [if_neg hz]), Ev.bind e2 (ev_eq fun k => by rw [if_neg hz])⟩
theorem Take_both (l : List Int) (hm : l.length ≤ 1024) (hb : ∀ x ∈ l, 0 ≤ x ∧ x < 256) : ∃ r, Both (fun k => value_Take.f k l) (fun k => antipoderef7_Take.f k l) r := by
  by_cases hz : l.length = 0
  · refine ⟨(0, 0, ⟨#[]⟩, 0, 2), both_eq (fun k => ?_) (fun k => ?_)⟩
    · unfold value_Take.f; rw [if_pos (by omega)]
    · unfold antipoderef7_Take.f; rw [if_pos (by omega)]
  have hr : 0 ≤ rd l 0 ∧ rd l 0 < 256 := by
    cases l with
    | nil => simp at hz
    | cons a t => exact hb a (by simp)
  have hpos : 0 < l.length := by omega
  have hdl : (l.drop 1).length ≤ 1024 := by simp; omega
  have hdb : ∀ x ∈ l.drop 1, 0 ≤ x ∧ x < 256 := fun x hx => hb x (List.mem_of_mem_drop hx)
  have hj : ∀ k, antipoderef7_Take.f k l = antipoderef7_Take.j0 k l (rd l 0) (decide (rd l 0 = 0 ∨ rd l 0 = 1)) := by
    intro k
    unfold antipoderef7_Take.f
    rw [if_neg (by omega), if_pos (by omega)]
    by_cases h0 : rd l 0 = 0
    · rw [if_pos h0]; simp [h0]
    · rw [if_neg h0]
      by_cases h1 : rd l 0 = 1
      · simp [h1]
      · rw [beq_eq_false_iff_ne.2 h1]; simp [h0, h1]
  by_cases hkey : rd l 0 = 0 ∨ rd l 0 = 1
  · obtain ⟨r, e1, e2⟩ := TakeKey_both l hm hb
    refine ⟨(r.1, r.2.1, r.2.2.1, r.2.2.2.1, r.2.2.2.2), ?_, ?_⟩
    · have : ∀ k, value_Take.f k l = (value_TakeKey.f k l).bind fun bt => some (bt.1, bt.2.1, bt.2.2.1, bt.2.2.2.1, bt.2.2.2.2) := by
        intro k
        rcases hkey with h | h
        · rw [tp0 k l hpos h, tk0 k l hpos h]; rfl
        · rw [tp1 k l hpos h, tk1 k l hpos h]
          obtain ⟨q, hq⟩ := bool_some l (by omega)
          rw [hq]; rfl
      exact Ev.congr this (Ev.bind e1 (evk _))
    · refine Ev.congr hj (Ev.step (f := fun k => (antipoderef7_TakeKey.f k l).bind fun bt => some (bt.1, bt.2.1, bt.2.2.1, bt.2.2.2.1, bt.2.2.2.2)) (fun k => ?_) (Ev.bind e2 (evk _)))
      simp only [antipoderef7_Take.j0]
      rw [if_pos (by simpa using hkey)]
  have h0 : rd l 0 ≠ 0 := fun h => hkey (.inl h)
  have h1 : rd l 0 ≠ 1 := fun h => hkey (.inr h)
  by_cases h2 : rd l 0 = 2
  · obtain ⟨r, hrg, e1, e2⟩ := TakeVar_both (l.drop 1) hdl hdb
    have hf2 : ∀ k, antipoderef7_Take.j0 (k + 1) l (rd l 0) (decide (rd l 0 = 0 ∨ rd l 0 = 1)) = (antipoderef1_TakeVar.f k (l.drop 1)).bind fun bt => if bt.2.2 = 0 then ((antipoderef1_Zag.f bt.1).bind fun t => (some (2, t, (⟨#[]⟩ : ByteArray), wrap64 (bt.2.1 + 1), 0))) else (some (0, 0, (⟨#[]⟩ : ByteArray), 0, bt.2.2)) := by
      intro k
      simp only [antipoderef7_Take.j0]
      rw [if_neg (by simpa using hkey), if_pos h2, if_pos (by omega)]
    by_cases hz2 : r.2.2 = 0
    · obtain ⟨g0, g1, g2, g3⟩ := hrg hz2
      have e : (r.1.toNat : Int) = r.1 := by omega
      refine ⟨(2, zagI r.1.toNat, ⟨#[]⟩, wrap64 (r.2.1 + 1), 0), Ev.congr (fun k => tp2 k l hpos h2) (Ev.bind e1 (ev_eq fun k => ?_)), Ev.congr hj (Ev.step hf2 (Ev.bind e2 (ev_eq fun k => ?_)))⟩
      · rw [if_pos hz2, ← e, Zag_f _ (by omega), Int.add_comm 1]; rfl
      · rw [if_pos hz2, ← e, refZag_f _ (by omega)]; rfl
    · exact ⟨(0, 0, ⟨#[]⟩, 0, r.2.2), Ev.congr (fun k => tp2 k l hpos h2) (Ev.bind e1 (ev_eq fun k => by rw [if_neg hz2])), Ev.congr hj (Ev.step hf2 (Ev.bind e2 (ev_eq fun k => by rw [if_neg hz2])))⟩
  by_cases h3 : rd l 0 = 3
  · obtain ⟨r, hrg, e1, e2⟩ := TakeText_both (l.drop 1) hdl hdb
    have hf3 : ∀ k, antipoderef7_Take.j0 (k + 1) l (rd l 0) (decide (rd l 0 = 0 ∨ rd l 0 = 1)) = (antipoderef1_TakeText.f k (l.drop 1)).bind fun bt => if bt.2.2 = 0 then (if (bt.1.length : Int) > 64 then (some (0, 0, (⟨#[]⟩ : ByteArray), 0, 3)) else (some (3, 0, strOfNums bt.1, wrap64 (bt.2.1 + 1), 0))) else (some (0, 0, (⟨#[]⟩ : ByteArray), 0, bt.2.2)) := by
      intro k
      simp only [antipoderef7_Take.j0]
      rw [if_neg (by simpa using hkey), if_neg h2, if_pos h3, if_pos (by omega)]
    by_cases hz2 : r.2.2 = 0
    · by_cases hl64 : (r.1.length : Int) > 64
      · exact ⟨(0, 0, ⟨#[]⟩, 0, 3), Ev.congr (fun k => tp3 k l hpos h3) (Ev.bind e1 (ev_eq fun k => by rw [if_pos hz2, if_pos hl64])), Ev.congr hj (Ev.step hf3 (Ev.bind e2 (ev_eq fun k => by rw [if_pos hz2, if_pos hl64])))⟩
      · exact ⟨(3, 0, strOfNums r.1, wrap64 (r.2.1 + 1), 0), Ev.congr (fun k => tp3 k l hpos h3) (Ev.bind e1 (ev_eq fun k => by rw [if_pos hz2, if_neg hl64, Int.add_comm 1])), Ev.congr hj (Ev.step hf3 (Ev.bind e2 (ev_eq fun k => by rw [if_pos hz2, if_neg hl64])))⟩
    · exact ⟨(0, 0, ⟨#[]⟩, 0, r.2.2), Ev.congr (fun k => tp3 k l hpos h3) (Ev.bind e1 (ev_eq fun k => by rw [if_neg hz2])), Ev.congr hj (Ev.step hf3 (Ev.bind e2 (ev_eq fun k => by rw [if_neg hz2])))⟩
  · refine ⟨(0, 0, ⟨#[]⟩, 0, 9), ev_eq (fun k => ?_), Ev.congr hj (Ev.step (f := fun _ => some (0, 0, ⟨#[]⟩, 0, 9)) (fun k => ?_) (evk _))⟩
    · unfold value_Take.f
      rw [if_neg (by omega), if_pos (by omega), w64 (by omega) (by omega), if_neg h0, if_neg h1, if_neg h2, if_neg h3]
    · simp only [antipoderef7_Take.j0]
      rw [if_neg (by simpa using hkey), if_neg h2, if_neg h3]
theorem ValueReads (l : List Int) (hb : ∀ x ∈ l, 0 ≤ x ∧ x < 256) : ∃ k, antipodelaw7_ValueReads.f k l = some true := by
  obtain ⟨K0, h0⟩ := begun_f
  simp only at h0
  by_cases hl : (l.length : Int) > 1024
  · refine ⟨K0, ?_⟩
    unfold antipodelaw7_ValueReads.f
    rw [h0 _ (by omega)]
    simp only [Option.bind_some, if_true]
    rw [if_pos hl]
  · obtain ⟨x, ⟨K1, h1⟩, ⟨K2, h2⟩⟩ := TakeKey_both l (by omega) hb
    obtain ⟨u, ⟨K3, h3⟩, ⟨K4, h4⟩⟩ := Take_both l (by omega) hb
    simp only at h1 h2 h3 h4
    refine ⟨K0 + K1 + K2 + K3 + K4, ?_⟩
    unfold antipodelaw7_ValueReads.f
    rw [h0 _ (by omega)]
    simp only [Option.bind_some, if_true]
    rw [if_neg hl, h1 _ (by omega), h2 _ (by omega), h3 _ (by omega), h4 _ (by omega)]
    simp
end Go.Proofs.YtcflmkklpehmmaaDoor.Pure
