/- What Key writes, as a list; what Order and Put answer. -/
import Derived.Test.YtcflmkklpehmmaaDoorPLx10
import Derived.Laws.Bits64
import Derived.Lib.Zigzag
namespace Go.Proofs.YtcflmkklpehmmaaDoor.Pure
open Go.RowKit Go.Proofs.YtcflmkklpehmmaaDoor.PL Go.Proofs.YtcflmkklpehmmaaDoorW.PrintWords Go.Proofs.YtcflmkklpehmmaaDoorW.PrintLast
set_option linter.unusedVariables false
set_option linter.unusedSimpArgs false
theorem evk {α : Type} (r : α) : Ev (fun _ => some r) r := ⟨0, fun _ _ => rfl⟩
theorem Ev.eq {α : Type} {g f : Nat → Option α} {r : α} (h : ∀ k, g k = f k) (e : Ev f r) : Ev g r := Ev.congr h e
theorem ev_eq {α : Type} {g : Nat → Option α} {r : α} (h : ∀ k, g k = some r) : Ev g r := ⟨0, fun k _ => h k⟩
/-! the sign's bit -/
theorem xor_high (x : Nat) (hx : x < 18446744073709551616) : x ^^^ 9223372036854775808 = (x + 9223372036854775808) % 18446744073709551616 := by
  have key : ∀ y : Nat, y < 2 ^ 63 → y ^^^ 2 ^ 63 = y + 2 ^ 63 := fun y hy => by
    have h1 := Nat.two_pow_add_eq_or_of_lt hy 1
    rw [Nat.mul_one] at h1
    rw [Nat.add_comm, h1]
    apply Nat.eq_of_testBit_eq
    intro i
    rw [Nat.testBit_xor, Nat.testBit_or, Nat.testBit_two_pow]
    by_cases e : 63 = i
    · subst e
      rw [Nat.testBit_lt_two_pow hy]
      simp
    · simp [e]
  by_cases h : x < 9223372036854775808
  · have := key x (by omega)
    simp only [show (2 : Nat) ^ 63 = 9223372036854775808 by rfl] at this
    rw [this]
    omega
  · obtain ⟨y, rfl⟩ : ∃ y, x = y + 9223372036854775808 := ⟨x - 9223372036854775808, by omega⟩
    have := key y (by omega)
    simp only [show (2 : Nat) ^ 63 = 9223372036854775808 by rfl] at this
    rw [← this, Nat.xor_assoc, Nat.xor_self, Nat.xor_zero, this]
    omega
theorem xor_i (m : Nat) (hm : m < 18446744073709551616) : Go.bits .xor .u64 (m : Int) 9223372036854775808 = (((m + 9223372036854775808) % 18446744073709551616 : Nat) : Int) := by
  have h := bits_xor_u64_nat m 9223372036854775808 (by omega) (by omega)
  rw [xor_high _ hm] at h
  exact h
theorem Order_f (n : Int) (h0 : -9223372036854775808 ≤ n) (h1 : n ≤ 9223372036854775807) : bits_Order.f n = some (n + 9223372036854775808) := by
  have e : IntKind.u64.wrap n = ((n % 18446744073709551616).toNat : Int) := by rw [IntKind.wrap_u64]; omega
  have h := xor_i (n % 18446744073709551616).toNat (by omega)
  rw [← e] at h
  exact congrArg some (h.trans (by omega))
theorem Back_f (u : Int) (h0 : 0 ≤ u) (h1 : u < 18446744073709551616) : bits_Back.f u = some (u - 9223372036854775808) := by
  have e : (u.toNat : Int) = u := by omega
  have h := xor_i u.toNat (by omega)
  rw [e] at h
  exact congrArg some ((congrArg wrap64 h).trans (by unfold wrap64; omega))
/-! eight bytes -/
def be8 (u : Int) : List Int := [u / 72057594037927936 % 256, u / 281474976710656 % 256, u / 1099511627776 % 256, u / 4294967296 % 256, u / 16777216 % 256, u / 65536 % 256, u / 256 % 256, u % 256]
theorem be8_length (u : Int) : (be8 u).length = 8 := rfl
theorem bitLen_le (x : Nat) : Lib.bitLen x ≤ 64 := by
  have : ∀ f x, Lib.bitLenAux f x ≤ f := by
    intro f
    induction f with
    | zero => intro x; simp [Lib.bitLenAux]
    | succ f ih => intro x; unfold Lib.bitLenAux; split <;> have := ih (x / 2) <;> omega
  exact this 64 x
theorem put_step (k : Nat) (u : Int) (l : List Int) (s : Int) (h0 : 0 ≤ s) (h1 : s < 64) (hl : l.length < 140737488355328) : bits_Put.l0 (k + 1) u l s = bits_Put.l0 k u (l ++ [u / 2 ^ s.toNat % 256]) (s - 8) := by
  rw [bits_Put.l0]
  have e : IntKind.u64.wrap s = s := by rw [IntKind.wrap_u64]; omega
  have e2 : wrap64 (s - 8) = s - 8 := by unfold wrap64; omega
  rw [if_pos h0, e, if_pos h0, if_pos hl, e2]
  unfold shr
  rw [Nat.min_eq_left (by show s.toNat ≤ 64; omega)]
theorem put_end (k : Nat) (u : Int) (l : List Int) (s : Int) (h0 : s < 0) : bits_Put.l0 (k + 1) u l s = some (l, 0) := by
  rw [bits_Put.l0, if_neg (by omega)]
theorem Put_f (l : List Int) (u : Int) (hl : l.length ≤ 4294967296) (h0 : 0 ≤ u) (h1 : u < 18446744073709551616) : Ev (fun k => bits_Put.f k l u 8) (l ++ be8 u, 0) := by
  refine Ev.of (k := 11) (fun k => bits_Put.mono _ _ _ k) ?_
  unfold bits_Put.f
  rw [if_neg (by decide)]
  simp only [bits_Put.j0]
  rw [if_neg (by decide)]
  unfold bits_Len64.f bits_room.f
  rw [if_pos (by omega)]
  have hb := bitLen_le u.toNat
  simp only [Option.bind_some]
  rw [show wrap64 (8 * 8) = 64 by unfold wrap64; omega, if_neg (by omega), if_pos ⟨by decide, by decide, hl⟩]
  simp only [Option.bind_some]
  rw [show wrap64 (8 * wrap64 (8 - 1)) = 56 by unfold wrap64; omega]
  rw [put_step _ _ _ _ (by decide) (by decide) (by omega), put_step _ _ _ _ (by decide) (by decide) (by simp; omega), put_step _ _ _ _ (by decide) (by decide) (by simp; omega), put_step _ _ _ _ (by decide) (by decide) (by simp; omega),
    put_step _ _ _ _ (by decide) (by decide) (by simp; omega), put_step _ _ _ _ (by decide) (by decide) (by simp; omega), put_step _ _ _ _ (by decide) (by decide) (by simp; omega), put_step _ _ _ _ (by decide) (by decide) (by simp; omega), put_end _ _ _ _ (by decide)]
  simp only [List.append_assoc, List.cons_append, List.nil_append]
  unfold be8
  simp
/-! texts in keys -/
def escL : List Int → List Int
  | [] => []
  | c :: t => if c = 0 then 0 :: 255 :: escL t else c :: escL t
def keyL (k n : Int) (s : ByteArray) : List Int := k :: (if k = 1 then [n] else if k = 2 then be8 (n + 9223372036854775808) else if k = 3 then escL (numsB s) ++ [0, 1] else [])
theorem escL_length (l : List Int) : (escL l).length ≤ 2 * l.length := by
  induction l with
  | nil => simp [escL]
  | cons c t ih => unfold escL; split <;> simp <;> omega
theorem bt_nums (s : ByteArray) (i : Nat) (h : i < s.size) : (numsB s)[i]? = some (bt s i) := by
  unfold numsB bt
  have h' : i < s.data.toList.length := by simpa using h
  rw [List.getElem?_map, List.getElem?_eq_getElem h', Option.map_some]
  simp [h]
  rfl
theorem wrap_inc {i : Int} (h0 : 0 ≤ i) (h : i < 9223372036854775807) : wrap64 (i + 1) = i + 1 := by unfold wrap64; omega
theorem bt_drop (s : ByteArray) (i : Nat) (h : i < s.size) : (numsB s).drop i = bt s i :: (numsB s).drop (i + 1) := by
  have := bt_nums s i h
  rw [List.drop_eq_getElem?_toList_append, this]
  rfl
theorem Key_l0 (s : ByteArray) (hs : s.size ≤ 1048576) (a b : Int) : ∀ (d i : Nat) (l : List Int), i + d = s.size → l.length + 2 * d ≤ 8589934592 → Ev (fun k => value_Key.l0 k l s.size i a b s) (l ++ escL ((numsB s).drop i) ++ [0, 1]) := by
  intro d
  induction d with
  | zero =>
    intro i l hi hl
    refine Ev.step (f := fun _ => some (l ++ [0, 1])) (fun k => ?_) (by rw [List.drop_of_length_le (by rw [numsB_length]; omega)]; simpa [escL] using evk _)
    rw [value_Key.l0, if_neg (by omega)]
    simp only [Option.bind_some]
    rw [if_pos (by simp; omega)]
  | succ d ih =>
    intro i l hi hl
    have hw : wrap64 ((i : Int) + 1) = ((i + 1 : Nat) : Int) := by unfold wrap64; omega
    rw [bt_drop s i (by omega)]
    by_cases h : bt s i = 0
    · refine Ev.step (f := fun k => value_Key.l0 k (l ++ [bt s i] ++ [255]) s.size ((i + 1 : Nat) : Int) a b s) (fun k => ?_) ?_
      · rw [value_Key.l0, if_pos (by omega), if_pos (by omega), if_pos (by omega), if_pos (by omega)]
        simp only [Option.bind_some]
        rw [if_pos h, if_pos (by simp; omega), hw]
      · have := ih (i + 1) (l ++ [bt s i] ++ [255]) (by omega) (by simp; omega)
        rw [escL, if_pos h]
        rw [h] at this ⊢
        simpa using this
    · refine Ev.step (f := fun k => value_Key.l0 k (l ++ [bt s i]) s.size ((i + 1 : Nat) : Int) a b s) (fun k => ?_) ?_
      · rw [value_Key.l0, if_pos (by omega), if_pos (by omega), if_pos (by omega), if_pos (by omega)]
        simp only [Option.bind_some]
        rw [if_neg h, hw]
      · have := ih (i + 1) (l ++ [bt s i]) (by omega) (by simp; omega)
        rw [escL, if_neg h]
        simpa using this
/-- A value that may be. -/
def mayV (k n : Int) (s : ByteArray) : Prop := (k = 0 ∧ n = 0 ∧ s.size = 0) ∨ (k = 1 ∧ (n = 0 ∨ n = 1) ∧ s.size = 0) ∨ (k = 2 ∧ s.size = 0) ∨ (k = 3 ∧ n = 0 ∧ s.size ≤ 64)
instance (k n : Int) (s : ByteArray) : Decidable (mayV k n s) := by unfold mayV; exact inferInstance
theorem toList_nil (s : ByteArray) : (s.toList == ([] : List UInt8)) = decide (s.size = 0) := by
  rw [Lib.toList_data]
  have : s.size = s.data.toList.length := by simp
  rw [this]
  cases s.data.toList <;> simp
theorem May_f (k n : Int) (s : ByteArray) : value_May.f k n s = some (decide (mayV k n s)) := by
  unfold value_May.f
  simp only [toList_nil]
  have e : ∀ p q : Prop, [Decidable p] → [Decidable q] → (p ↔ q) → decide p = decide q := fun p q _ _ h => decide_eq_decide.2 h
  repeat' split
  all_goals (congr 1; first | (refine e _ _ ?_; unfold mayV; omega) | (symm; refine decide_eq_false ?_; unfold mayV; omega))
theorem Key_f (l : List Int) (k n : Int) (s : ByteArray) (hl : l.length ≤ 1048576) (h0 : -9223372036854775808 ≤ n) (h1 : n ≤ 9223372036854775807) (hm : mayV k n s) : Ev (fun m => value_Key.f m l k n s) (l ++ keyL k n s) := by
  have hk : k = 0 ∨ k = 1 ∨ k = 2 ∨ k = 3 := by unfold mayV at hm; omega
  have hk256 : k % 256 = k := by omega
  have hd : decide (mayV k n s) = true := decide_eq_true hm
  rcases hk with rfl | rfl | rfl | rfl
  · refine ev_eq (fun m => ?_)
    unfold value_Key.f
    simp only [Option.bind_some, List.nil_append, List.length_nil, May_f, hd, if_true]
    rw [if_pos (by omega), if_pos (by omega), if_neg (by decide), if_neg (by decide), if_neg (by decide)]
    simp [keyL]
  · have hn : n % 256 = n := by unfold mayV at hm; omega
    refine ev_eq (fun m => ?_)
    unfold value_Key.f
    simp only [Option.bind_some, List.nil_append, List.length_nil, May_f, hd, if_true]
    rw [if_pos (by omega), if_pos (by omega), if_pos (by simp; omega), hn]
    simp [keyL]
  · refine Ev.congr (f := fun m => (bits_Put.f m (l ++ [2]) (n + 9223372036854775808) 8).bind fun t => some t.1) (fun m => ?_) ?_
    · unfold value_Key.f
      simp only [Option.bind_some, List.nil_append, List.length_nil, May_f, hd, if_true]
      rw [if_pos (by omega), if_pos (by omega), if_neg (by decide), Order_f n h0 h1]
      rfl
    · have := Ev.bind (f := fun _ (t : List Int × Int) => some t.1) (Put_f (l ++ [2]) (n + 9223372036854775808) (by simp; omega) (by omega) (by omega)) (evk _)
      simpa [keyL] using this
  · have hs : s.size ≤ 64 := by unfold mayV at hm; omega
    refine Ev.congr (f := fun m => value_Key.l0 m (l ++ [3]) s.size ((0 : Nat) : Int) 3 n s) (fun m => ?_) ?_
    · unfold value_Key.f
      simp only [Option.bind_some, List.nil_append, List.length_nil, May_f, hd, if_true]
      rw [if_pos (by omega), if_pos (by omega), if_neg (by decide), if_neg (by decide)]
      rfl
    · have := Key_l0 s (by omega) 3 n s.size 0 (l ++ [3]) (by omega) (by simp; omega)
      simpa [keyL] using this
theorem Key_no (l : List Int) (k n : Int) (s : ByteArray) (hl : l.length ≤ 1048576) (hm : ¬ mayV k n s) : Ev (fun m => value_Key.f m l k n s) l := by
  have hd : decide (mayV k n s) = false := decide_eq_false hm
  refine ev_eq (fun m => ?_)
  unfold value_Key.f
  simp only [Option.bind_some, List.nil_append, List.length_nil, May_f, hd]
  rw [if_pos (by omega), if_neg (by decide)]
set_option maxRecDepth 100000 in
theorem begun_f : Ev (fun n => antipodelaw7_begun.f n) true := Ev.of (k := 100) (fun k => antipodelaw7_begun.mono k) (by decide +kernel)
end Go.Proofs.YtcflmkklpehmmaaDoor.Pure
