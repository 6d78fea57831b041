/- What Plain writes, as a list; that TakeKey and Take read what was written. -/
import Derived.Test.YtcflmkklpehmmaaDoorPLx9
import Derived.Test.YtcflmkklpehmmaaDoorPLx17
import Derived.Test.YtcflmkklpehmmaaDoorPLx33
import Derived.Test.YtcflmkklpehmmaaDoorSpecK
namespace Go.Proofs.YtcflmkklpehmmaaDoor.Pure
open Go.RowKit Go.Proofs.YtcflmkklpehmmaaDoor.PL Go.Proofs.YtcflmkklpehmmaaDoorW.PrintWords Go.Proofs.YtcflmkklpehmmaaDoorW.PrintLast
set_option linter.unusedVariables false
set_option linter.unusedSimpArgs false
/-! reading a list -/
theorem rd_drop {l t : List Int} {a : Int} {i : Nat} (h : l.drop i = a :: t) : rd l i = a ∧ i < l.length ∧ l.drop (i + 1) = t ∧ l.length = i + 1 + t.length := by
  have hlt : i < l.length := by
    rcases Nat.lt_or_ge i l.length with h' | h'
    · exact h'
    · rw [List.drop_of_length_le h'] at h; cases h
  rw [List.drop_eq_getElem_cons hlt] at h
  injection h with h1 h2
  refine ⟨?_, hlt, h2, ?_⟩
  · unfold rd
    rw [Int.toNat_natCast, List.getD_eq_getElem?_getD, List.getElem?_eq_getElem hlt]
    exact h1
  · have := congrArg List.length h2
    rw [List.length_drop] at this
    omega
theorem rd_zero (a : Int) (l : List Int) : rd (a :: l) 0 = a := rfl
theorem strOf_nums (s : ByteArray) : strOfNums (numsB s) = s := by
  unfold strOfNums numsB
  cases s with | mk a =>
  congr 1
  apply Array.toList_inj.1
  have e : ((fun n : Int => UInt8.ofNat n.toNat) ∘ fun c : UInt8 => (c.toNat : Int)) = id := by funext c; simp
  simp [List.map_map, e]
theorem w64 {x : Int} (h0 : -9223372036854775808 ≤ x) (h : x ≤ 9223372036854775807) : wrap64 x = x := by unfold wrap64; omega
theorem u64w {x : Int} (h0 : 0 ≤ x) (h : x < 18446744073709551616) : IntKind.u64.wrap x = x := by rw [IntKind.wrap_u64]; omega
/-! eight bytes back -/
theorem get_step (k : Nat) (a a' b : Int) (xs : List Int) (n i : Nat) (hb : rd xs i = b) (hi : i < n) (hn : n = xs.length) (hl : n ≤ 64) (h0 : 0 ≤ a) (h1 : a < 72057594037927936) (h2 : 0 ≤ b) (h3 : b < 256) (ha : a' = a * 256 + b) :
    bits_Get.l0 (k + 1) a xs (n : Int) (i : Int) = bits_Get.l0 k a' xs (n : Int) ((i + 1 : Nat) : Int) := by
  rw [bits_Get.l0, if_pos (by omega), if_pos (by omega), if_pos (by omega), hb, u64w (x := b) (by omega) (by omega), u64w (x := a * 256) (by omega) (by omega), u64w (by omega) (by omega), w64 (by omega) (by omega), ha]
  rfl
theorem Get_be8 (a u : Int) (rest : List Int) (h0 : 0 ≤ u) (h1 : u < 18446744073709551616) (hr : rest.length ≤ 4294967296) : Ev (fun k => bits_Get.f k (a :: (be8 u ++ rest)) 1 8) (u, 0) := by
  refine Ev.of (k := 11) (fun k => bits_Get.mono _ _ _ k) ?_
  unfold bits_Get.f
  rw [if_neg (by decide), if_neg (by decide)]
  simp only [bits_Get.j0]
  rw [if_neg (by decide)]
  have hlen : ((a :: (be8 u ++ rest)).length : Int) = 9 + rest.length := by simp [be8]; omega
  rw [hlen, w64 (x := 9 + (rest.length : Int) - 8) (by omega) (by omega), if_neg (by omega), if_pos (by decide), show wrap64 (1 + 8) = 9 by unfold wrap64; omega, if_pos (by decide), if_pos (by omega)]
  have ht : ((a :: (be8 u ++ rest)).take ((9 : Int).toNat)).drop (1 : Int).toNat = be8 u := by simp [be8]
  rw [ht, be8_length]
  have s := get_step
  rw [show (0 : Int) = ((0 : Nat) : Int) by rfl, show ((8 : Nat) : Int) = ((8 : Nat) : Int) by rfl]
  rw [s 9 _ (u / 72057594037927936) (u / 72057594037927936 % 256) (be8 u) 8 0 rfl (by decide) rfl (by decide) (by decide) (by decide) (by omega) (by omega) (by omega),
    s 8 _ (u / 281474976710656) (u / 281474976710656 % 256) (be8 u) 8 1 rfl (by decide) rfl (by decide) (by omega) (by omega) (by omega) (by omega) (by omega),
    s 7 _ (u / 1099511627776) (u / 1099511627776 % 256) (be8 u) 8 2 rfl (by decide) rfl (by decide) (by omega) (by omega) (by omega) (by omega) (by omega),
    s 6 _ (u / 4294967296) (u / 4294967296 % 256) (be8 u) 8 3 rfl (by decide) rfl (by decide) (by omega) (by omega) (by omega) (by omega) (by omega),
    s 5 _ (u / 16777216) (u / 16777216 % 256) (be8 u) 8 4 rfl (by decide) rfl (by decide) (by omega) (by omega) (by omega) (by omega) (by omega),
    s 4 _ (u / 65536) (u / 65536 % 256) (be8 u) 8 5 rfl (by decide) rfl (by decide) (by omega) (by omega) (by omega) (by omega) (by omega),
    s 3 _ (u / 256) (u / 256 % 256) (be8 u) 8 6 rfl (by decide) rfl (by decide) (by omega) (by omega) (by omega) (by omega) (by omega),
    s 2 _ u (u % 256) (be8 u) 8 7 rfl (by decide) rfl (by decide) (by omega) (by omega) (by omega) (by omega) (by omega)]
  rw [bits_Get.l0, if_neg (by decide)]
  rfl
/-! a text back -/
theorem takeText_l0 (x0 rest : List Int) (hx : x0.length ≤ 8589934592) : ∀ (m acc : List Int) (i : Nat), x0.drop i = escL m ++ 0 :: 1 :: rest → acc.length + m.length ≤ 64 →
    Ev (fun k => value_takeText.l0 k x0 acc (i : Int)) (3, 0, strOfNums (acc ++ m), ((i + (escL m).length + 2 : Nat) : Int), 0) := by
  intro m
  induction m with
  | nil =>
    intro acc i h hl
    obtain ⟨r0, l0, d1, e0⟩ := rd_drop (show x0.drop i = 0 :: 1 :: rest by simpa [escL] using h)
    obtain ⟨r1, l1, d2, e1⟩ := rd_drop d1
    refine Ev.step (f := fun _ => some (3, 0, strOfNums acc, ((i + 2 : Nat) : Int), 0)) (fun k => ?_) (by simpa [escL] using evk _)
    have hw : wrap64 ((i : Int) + 1) = ((i + 1 : Nat) : Int) := by unfold wrap64; omega
    rw [value_takeText.l0, if_pos (by omega), if_pos (by omega), r0, if_pos rfl, hw, if_neg (by omega), if_pos (by omega), if_pos (by omega), r1, if_pos rfl]
    rw [w64 (by omega) (by omega)]
    rfl
  | cons c m ih =>
    intro acc i h hl
    simp only [List.length_cons] at hl
    by_cases hc : c = 0
    · subst hc
      obtain ⟨r0, l0, d1, e0⟩ := rd_drop (show x0.drop i = 0 :: 255 :: (escL m ++ 0 :: 1 :: rest) by simpa [escL] using h)
      obtain ⟨r1, l1, d2, e1⟩ := rd_drop d1
      have := ih (acc ++ [0]) (i + 1 + 1) d2 (by simp; omega)
      refine Ev.step (f := fun k => value_takeText.l0 k x0 (acc ++ [0]) ((i + 1 + 1 : Nat) : Int)) (fun k => ?_) ?_
      · have hw : wrap64 ((i : Int) + 1) = ((i + 1 : Nat) : Int) := by unfold wrap64; omega
        have hw2 : wrap64 (((i + 1 : Nat) : Int) + 1) = ((i + 1 + 1 : Nat) : Int) := by unfold wrap64; omega
        rw [value_takeText.l0, if_pos (by omega), if_pos (by omega), r0, if_pos rfl, hw, if_neg (by simp at e1; omega), if_pos (by omega), if_pos (by omega), r1, if_neg (by decide), if_pos rfl, if_neg (by omega), if_pos (by omega), hw2]
      · have e : ((i + 1 + 1 + (escL m).length + 2 : Nat) : Int) = ((i + (escL (0 :: m)).length + 2 : Nat) : Int) := by simp [escL]; omega
        rw [e] at this
        simpa using this
    · obtain ⟨r0, l0, d1, e0⟩ := rd_drop (show x0.drop i = c :: (escL m ++ 0 :: 1 :: rest) by simpa [escL, hc] using h)
      have := ih (acc ++ [c]) (i + 1) d1 (by simp; omega)
      refine Ev.step (f := fun k => value_takeText.l0 k x0 (acc ++ [c]) ((i + 1 : Nat) : Int)) (fun k => ?_) ?_
      · have hw : wrap64 ((i : Int) + 1) = ((i + 1 : Nat) : Int) := by unfold wrap64; omega
        rw [value_takeText.l0, if_pos (by omega), if_pos (by omega), r0, if_neg hc, if_neg (by omega), if_pos (by omega), hw]
      · have e : ((i + 1 + (escL m).length + 2 : Nat) : Int) = ((i + (escL (c :: m)).length + 2 : Nat) : Int) := by simp [escL, hc]; omega
        rw [e] at this
        simpa using this
theorem tk0 (m : Nat) (l : List Int) (hl : 0 < l.length) (e : rd l 0 = 0) : value_TakeKey.f m l = some (0, 0, (⟨#[]⟩ : ByteArray), 1, 0) := by
  unfold value_TakeKey.f
  rw [if_neg (by omega), if_pos (by omega), e, show wrap64 0 = 0 by unfold wrap64; omega, if_pos rfl]
theorem tk1 (m : Nat) (l : List Int) (hl : 0 < l.length) (e : rd l 0 = 1) : value_TakeKey.f m l = (value_takeBool.f l).bind fun bt => some (bt.1, bt.2.1, bt.2.2.1, bt.2.2.2.1, bt.2.2.2.2) := by
  unfold value_TakeKey.f
  rw [if_neg (by omega), if_pos (by omega), e, show wrap64 1 = 1 by unfold wrap64; omega, if_neg (by decide), if_pos rfl]
theorem tk2 (m : Nat) (l : List Int) (hl : 0 < l.length) (e : rd l 0 = 2) : value_TakeKey.f m l = (bits_Get.f m l 1 8).bind fun bt => if bt.2 = 0 then ((bits_Back.f bt.1).bind fun t => (some (2, t, (⟨#[]⟩ : ByteArray), 9, 0))) else (some (0, 0, (⟨#[]⟩ : ByteArray), 0, bt.2)) := by
  unfold value_TakeKey.f
  rw [if_neg (by omega), if_pos (by omega), e, show wrap64 2 = 2 by unfold wrap64; omega, if_neg (by decide), if_neg (by decide), if_pos rfl]
theorem tk3 (m : Nat) (l : List Int) (hl : 0 < l.length) (e : rd l 0 = 3) : value_TakeKey.f m l = (value_takeText.f m l).bind fun bt => some (bt.1, bt.2.1, bt.2.2.1, bt.2.2.2.1, bt.2.2.2.2) := by
  unfold value_TakeKey.f
  rw [if_neg (by omega), if_pos (by omega), e, show wrap64 3 = 3 by unfold wrap64; omega, if_neg (by decide), if_neg (by decide), if_neg (by decide), if_pos rfl]
theorem takeBool_f (l : List Int) (b : Int) (hl : 2 ≤ l.length) (e : rd l 1 = b) (h0 : 0 ≤ b) (h1 : b ≤ 1) : value_takeBool.f l = some (1, b, (⟨#[]⟩ : ByteArray), 2, 0) := by
  unfold value_takeBool.f
  rw [if_neg (by omega), if_pos (by omega), e, if_neg (by omega), w64 (by omega) (by omega)]
theorem TakeKey_back (k n : Int) (s : ByteArray) (rest : List Int) (hm : mayV k n s) (h0 : -9223372036854775808 ≤ n) (h1 : n ≤ 9223372036854775807) (hr : rest.length ≤ 4294967296) :
    Ev (fun m => value_TakeKey.f m (keyL k n s ++ rest)) (k, n, s, ((keyL k n s).length : Int), 0) := by
  have hk : k = 0 ∨ k = 1 ∨ k = 2 ∨ k = 3 := by unfold mayV at hm; omega
  have hz : k ≠ 3 → s = ⟨#[]⟩ := fun hk => by
    have : s.size = 0 := by unfold mayV at hm; omega
    have h2 : s.data.toList.length = 0 := by simpa using this
    cases s with | mk a =>
    congr 1
    apply Array.toList_inj.1
    rw [List.eq_nil_of_length_eq_zero h2]
  rcases hk with rfl | rfl | rfl | rfl
  · obtain rfl := hz (by decide)
    have hn : n = 0 := by unfold mayV at hm; omega
    subst hn
    exact ev_eq (fun m => tk0 m _ (by simp [keyL]) rfl)
  · obtain rfl := hz (by decide)
    have hn : n = 0 ∨ n = 1 := by unfold mayV at hm; omega
    refine ev_eq (fun m => ?_)
    rw [tk1 m _ (by simp [keyL]) rfl, takeBool_f _ n (by simp [keyL]) rfl (by omega) (by omega)]
    rfl
  · obtain rfl := hz (by decide)
    refine Ev.congr (fun m => tk2 m _ (by simp [keyL]) rfl) ?_
    refine Ev.bind (Get_be8 2 (n + 9223372036854775808) rest (by omega) (by omega) hr) (ev_eq fun m => ?_)
    simp only [if_true]
    rw [Back_f _ (by omega) (by omega)]
    simp only [Option.bind_some]
    rw [show n + 9223372036854775808 - 9223372036854775808 = n by omega]
    rfl
  · have hs : s.size ≤ 64 := by unfold mayV at hm; omega
    have hn : n = 0 := by unfold mayV at hm; omega
    subst hn
    have hel := escL_length (numsB s)
    rw [numsB_length] at hel
    refine Ev.congr (fun m => tk3 m _ (by simp [keyL]) rfl) ?_
    · have hd : (keyL 3 0 s ++ rest).drop 1 = escL (numsB s) ++ 0 :: 1 :: rest := by simp [keyL]
      have := takeText_l0 (keyL 3 0 s ++ rest) rest (by simp [keyL]; omega) (numsB s) [] 1 hd (by simp [numsB_length]; omega)
      refine Ev.bind this (ev_eq fun m => ?_)
      simp only [List.nil_append, strOf_nums]
      have e : ((1 + (escL (numsB s)).length + 2 : Nat) : Int) = ((keyL 3 0 s).length : Int) := by simp [keyL]; omega
      rw [e]
end Go.Proofs.YtcflmkklpehmmaaDoor.Pure
