/- ValueWrites: which values may be, and how they are written and shown. -/
import Derived.Test.YtcflmkklpehmmaaDoorWrites
import Derived.Test.YtcflmkklpehmmaaDoorSpecV
namespace Go.Proofs.YtcflmkklpehmmaaDoor.Pure
open Go.RowKit Go.Proofs.YtcflmkklpehmmaaDoor.PL Go.Proofs.YtcflmkklpehmmaaDoorW.PrintWords Go.Proofs.YtcflmkklpehmmaaDoorW.PrintLast
set_option linter.unusedVariables false
set_option linter.unusedSimpArgs false
theorem refMay_f (k n : Int) (s : ByteArray) : antipoderef7_May.f k n s = some (decide (mayV k n s)) := May_f k n s
/-! eight bytes -/
theorem refOrder_f (n : Int) (h0 : -9223372036854775808 ≤ n) (h1 : n ≤ 9223372036854775807) : antipoderef1_Order.f n = some (n + 9223372036854775808) := by
  unfold antipoderef1_Order.f
  by_cases h : n ≥ 0
  · rw [if_pos h, u64w (x := n) (by omega) (by omega), u64w (by omega) (by omega)]
    exact congrArg some (by omega)
  · rw [if_neg h, w64 (x := n + 9223372036854775807) (by omega) (by omega), w64 (by omega) (by omega), u64w (by omega) (by omega)]
    exact congrArg some (by omega)
theorem rput_step (k : Nat) (u u' b : Int) (x x' : List Int) (i : Nat) (hi : i < x.length) (h0 : 0 ≤ u) (h1 : u < 18446744073709551616) (hu : u' = u / 256) (hb : b = u % 256) (hx : x' = x.set i b) (hl : x.length ≤ 8) :
    antipoderef1_Put.l0 (k + 1) [] u x (i : Int) = antipoderef1_Put.l0 k [] u' x' ((i : Int) - 1) := by
  have e1 : Int.tdiv u 256 = u' := by rw [Int.tdiv_eq_ediv_of_nonneg h0, hu]
  have e2 : Int.tmod u 256 % 256 = b := by rw [Int.tmod_eq_emod_of_nonneg h0, hb]; omega
  rw [antipoderef1_Put.l0, if_pos (by omega), if_pos (by omega), if_pos (by omega), e1, e2, u64w (by omega) (by omega), w64 (by omega) (by omega), Int.toNat_natCast, hx]
theorem Eight_f (u : Int) (h0 : 0 ≤ u) (h1 : u < 18446744073709551616) : Ev (fun k => antipoderef1_Eight.f k u) (be8 u) := by
  refine Ev.of (k := 11) (fun k => antipoderef1_Eight.mono _ k) ?_
  unfold antipoderef1_Eight.f antipoderef1_Put.f
  rw [if_neg (by decide)]
  simp only [antipoderef1_Put.j0]
  rw [if_neg (by decide), if_pos (by decide), if_pos (by decide), show wrap64 (8 - 1) = ((7 : Nat) : Int) by unfold wrap64; omega]
  have s := rput_step
  have hr : List.replicate (8 : Int).toNat (0 : Int) = [0, 0, 0, 0, 0, 0, 0, 0] := rfl
  rw [hr, s 9 u (u / 256) (u % 256) _ [0, 0, 0, 0, 0, 0, 0, u % 256] 7 (by simp) h0 h1 rfl rfl rfl (by simp)]
  rw [show (((7 : Nat) : Int) - 1) = ((6 : Nat) : Int) by rfl, s 8 (u / 256) (u / 65536) (u / 256 % 256) _ [0, 0, 0, 0, 0, 0, u / 256 % 256, u % 256] 6 (by simp) (by omega) (by omega) (by omega) rfl rfl (by simp)]
  rw [show (((6 : Nat) : Int) - 1) = ((5 : Nat) : Int) by rfl, s 7 (u / 65536) (u / 16777216) (u / 65536 % 256) _ [0, 0, 0, 0, 0, u / 65536 % 256, u / 256 % 256, u % 256] 5 (by simp) (by omega) (by omega) (by omega) rfl rfl (by simp)]
  rw [show (((5 : Nat) : Int) - 1) = ((4 : Nat) : Int) by rfl, s 6 (u / 16777216) (u / 4294967296) (u / 16777216 % 256) _ [0, 0, 0, 0, u / 16777216 % 256, u / 65536 % 256, u / 256 % 256, u % 256] 4 (by simp) (by omega) (by omega) (by omega) rfl rfl (by simp)]
  rw [show (((4 : Nat) : Int) - 1) = ((3 : Nat) : Int) by rfl, s 5 (u / 4294967296) (u / 1099511627776) (u / 4294967296 % 256) _ [0, 0, 0, u / 4294967296 % 256, u / 16777216 % 256, u / 65536 % 256, u / 256 % 256, u % 256] 3 (by simp) (by omega) (by omega) (by omega) rfl rfl (by simp)]
  rw [show (((3 : Nat) : Int) - 1) = ((2 : Nat) : Int) by rfl, s 4 (u / 1099511627776) (u / 281474976710656) (u / 1099511627776 % 256) _ [0, 0, u / 1099511627776 % 256, u / 4294967296 % 256, u / 16777216 % 256, u / 65536 % 256, u / 256 % 256, u % 256] 2 (by simp) (by omega) (by omega) (by omega) rfl rfl (by simp)]
  rw [show (((2 : Nat) : Int) - 1) = ((1 : Nat) : Int) by rfl, s 3 (u / 281474976710656) (u / 72057594037927936) (u / 281474976710656 % 256) _ [0, u / 281474976710656 % 256, u / 1099511627776 % 256, u / 4294967296 % 256, u / 16777216 % 256, u / 65536 % 256, u / 256 % 256, u % 256] 1 (by simp) (by omega) (by omega) (by omega) rfl rfl (by simp)]
  rw [show (((1 : Nat) : Int) - 1) = ((0 : Nat) : Int) by rfl, s 2 (u / 72057594037927936) 0 (u / 72057594037927936 % 256) _ (be8 u) 0 (by simp) (by omega) (by omega) (by omega) rfl rfl (by simp)]
  rw [antipoderef1_Put.l0, if_neg (by decide), if_neg (by decide)]
  simp [be8]
/-! keys -/
theorem refKey_l0 (s : ByteArray) (hs : s.size ≤ 1048576) (a b : Int) : ∀ (d i : Nat) (l : List Int), i + d = s.size → l.length + 2 * d ≤ 8589934592 → Ev (fun k => antipoderef7_Key.l0 k l i a b s) (l ++ escL ((numsB s).drop i) ++ [0, 1]) := by
  intro d
  induction d with
  | zero =>
    intro i l hi hl
    refine Ev.step (f := fun _ => some (l ++ [0, 1])) (fun k => ?_) (by rw [List.drop_of_length_le (by rw [numsB_length]; omega)]; simpa [escL] using evk _)
    rw [antipoderef7_Key.l0, if_neg (by omega)]
    simp only [Option.bind_some]
    rw [if_pos (by simp; omega)]
  | succ d ih =>
    intro i l hi hl
    have hw : wrap64 ((i : Int) + 1) = ((i + 1 : Nat) : Int) := by unfold wrap64; omega
    rw [bt_drop s i (by omega)]
    by_cases h : bt s i = 0
    · refine Ev.step (f := fun k => antipoderef7_Key.l0 k (l ++ [bt s i] ++ [255]) ((i + 1 : Nat) : Int) a b s) (fun k => ?_) ?_
      · rw [antipoderef7_Key.l0, if_pos (by omega), if_pos (by omega), if_pos (by omega)]
        simp only [Option.bind_some]
        rw [if_pos h, if_pos (by simp; omega), hw]
      · have := ih (i + 1) (l ++ [bt s i] ++ [255]) (by omega) (by simp; omega)
        rw [escL, if_pos h]
        rw [h] at this ⊢
        simpa using this
    · refine Ev.step (f := fun k => antipoderef7_Key.l0 k (l ++ [bt s i]) ((i + 1 : Nat) : Int) a b s) (fun k => ?_) ?_
      · rw [antipoderef7_Key.l0, if_pos (by omega), if_pos (by omega), if_pos (by omega)]
        simp only [Option.bind_some]
        rw [if_neg h, hw]
      · have := ih (i + 1) (l ++ [bt s i]) (by omega) (by simp; omega)
        rw [escL, if_neg h]
        simpa using this
theorem refKey_f (l : List Int) (k n : Int) (s : ByteArray) (hl : l.length ≤ 1048576) (h0 : -9223372036854775808 ≤ n) (h1 : n ≤ 9223372036854775807) (hm : mayV k n s) : Ev (fun m => antipoderef7_Key.f m l k n s) (l ++ keyL k n s) := by
  have hk : k = 0 ∨ k = 1 ∨ k = 2 ∨ k = 3 := by unfold mayV at hm; omega
  have hk256 : k % 256 = k := by omega
  have hd : decide (mayV k n s) = true := decide_eq_true hm
  rcases hk with rfl | rfl | rfl | rfl
  · refine ev_eq (fun m => ?_)
    unfold antipoderef7_Key.f
    simp only [Option.bind_some, List.nil_append, List.length_nil, refMay_f, hd, if_true]
    rw [if_pos (by omega), if_pos (by omega), if_neg (by decide), if_neg (by decide), if_neg (by decide)]
    simp [keyL]
  · have hn : n % 256 = n := by unfold mayV at hm; omega
    refine ev_eq (fun m => ?_)
    unfold antipoderef7_Key.f
    simp only [Option.bind_some, List.nil_append, List.length_nil, refMay_f, hd, if_true]
    rw [if_pos (by omega), if_pos (by omega), if_pos (by simp; omega), hn]
    simp [keyL]
  · refine Ev.congr (f := fun m => (antipoderef1_Eight.f m (n + 9223372036854775808)).bind fun t => if (l ++ [2]).length + t.length < 140737488355328 then some (l ++ [2] ++ t) else none) (fun m => ?_) ?_
    · unfold antipoderef7_Key.f
      simp only [Option.bind_some, List.nil_append, List.length_nil, refMay_f, hd, if_true]
      rw [if_pos (by omega), if_pos (by omega), if_neg (by decide), refOrder_f n h0 h1]
      rfl
    · refine Ev.bind (Eight_f (n + 9223372036854775808) (by omega) (by omega)) (ev_eq fun m => ?_)
      rw [be8_length, if_pos (by simp; omega)]
      simp [keyL]
  · have hs : s.size ≤ 64 := by unfold mayV at hm; omega
    refine Ev.congr (f := fun m => antipoderef7_Key.l0 m (l ++ [3]) ((0 : Nat) : Int) 3 n s) (fun m => ?_) ?_
    · unfold antipoderef7_Key.f
      simp only [Option.bind_some, List.nil_append, List.length_nil, refMay_f, hd, if_true]
      rw [if_pos (by omega), if_pos (by omega), if_neg (by decide), if_neg (by decide)]
      rfl
    · have := refKey_l0 s (by omega) 3 n s.size 0 (l ++ [3]) (by omega) (by simp; omega)
      simpa [keyL] using this
theorem refKey_no (l : List Int) (k n : Int) (s : ByteArray) (hl : l.length ≤ 1048576) (hm : ¬ mayV k n s) : Ev (fun m => antipoderef7_Key.f m l k n s) l := by
  have hd : decide (mayV k n s) = false := decide_eq_false hm
  refine ev_eq (fun m => ?_)
  unfold antipoderef7_Key.f
  simp only [Option.bind_some, List.nil_append, List.length_nil, refMay_f, hd]
  rw [if_pos (by omega), if_neg (by decide)]
/-! plain -/
theorem refVar_l0 : ∀ (d u : Nat) (acc : List Int), u < 128 ^ (d + 1) → u < 18446744073709551616 → acc.length + d ≤ 17179869184 → Ev (fun k => antipoderef1_Var.l0 k (u : Int) acc) (acc ++ varL u) := by
  intro d
  induction d with
  | zero =>
    intro u acc hu h64 hl
    refine Ev.step (f := fun _ => some (acc ++ varL u)) (fun k => ?_) (evk _)
    rw [antipoderef1_Var.l0, if_neg (by omega), if_pos (by omega), varL, if_pos (by omega), show ((u : Int) % 256) = u by omega]
  | succ d ih =>
    intro u acc hu h64 hl
    by_cases h : u < 128
    · refine Ev.step (f := fun _ => some (acc ++ varL u)) (fun k => ?_) (evk _)
      rw [antipoderef1_Var.l0, if_neg (by omega), if_pos (by omega), varL, if_pos h, show ((u : Int) % 256) = u by omega]
    · have := ih (u / 128) (acc ++ [((u % 128 + 128 : Nat) : Int)]) (by rw [Nat.pow_succ] at hu; omega) (by omega) (by simp; omega)
      have e1 : Int.tmod (u : Int) 128 = ((u % 128 : Nat) : Int) := by rw [Int.tmod_eq_emod_of_nonneg (by omega)]; omega
      have e2 : Int.tdiv (u : Int) 128 = ((u / 128 : Nat) : Int) := by rw [Int.tdiv_eq_ediv_of_nonneg (by omega)]; omega
      have e3 : (((u % 128 : Nat) : Int) + 128) % 256 = ((u % 128 + 128 : Nat) : Int) := by omega
      refine Ev.step (f := fun k => antipoderef1_Var.l0 k ((u / 128 : Nat) : Int) (acc ++ [((u % 128 + 128 : Nat) : Int)])) (fun k => ?_) ?_
      · rw [antipoderef1_Var.l0, if_pos (by omega), if_pos (by omega), e1, e2, e3, u64w (by omega) (by omega)]
      · rw [varL, if_neg h]
        simpa using this
theorem refVar_f (l : List Int) (u : Nat) (hu : u < 18446744073709551616) (hl : l.length ≤ 4294967296) : Ev (fun k => antipoderef1_Var.f k l (u : Int)) (l ++ varL u) := by
  unfold antipoderef1_Var.f
  refine Ev.congr (f := fun k => antipoderef1_Var.l0 k (u : Int) l) (fun k => ?_) (refVar_l0 9 u l (by omega) hu (by omega))
  simp only [Option.bind_some, List.nil_append, List.length_nil]
  rw [if_pos (by omega)]
theorem refZig_f (n : Int) (h0 : -9223372036854775808 ≤ n) (h1 : n ≤ 9223372036854775807) : antipoderef1_Zig.f n = some ((Lib.zigzag n : Nat) : Int) := by
  unfold antipoderef1_Zig.f Lib.zigzag
  by_cases h : n ≥ 0
  · rw [if_pos h, if_pos h, u64w (x := n) (by omega) (by omega), u64w (by omega) (by omega)]
    exact congrArg some (by omega)
  · rw [if_neg h, if_neg h, w64 (x := n + 1) (by omega) (by omega), w64 (x := -(n + 1)) (by omega) (by omega), u64w (x := -(n + 1)) (by omega) (by omega), u64w (x := 2 * -(n + 1)) (by omega) (by omega), u64w (by omega) (by omega)]
    exact congrArg some (by omega)
theorem refText_f (l : List Int) (s : ByteArray) (hs : s.size ≤ 4294967296) (hl : l.length ≤ 4294967296) : Ev (fun k => antipoderef1_Text_s.f k l s) (l ++ varL s.size ++ numsB s) := by
  refine Ev.congr (f := fun k => antipoderef1_Text.f k l (numsB s)) (fun k => by unfold antipoderef1_Text_s.f; rw [if_pos hs]) ?_
  unfold antipoderef1_Text.f
  rw [numsB_length, u64w (by omega) (by omega)]
  refine Ev.bind (refVar_f l s.size (by omega) hl) (ev_eq fun k => ?_)
  have := varL_length 9 s.size (by omega)
  rw [if_pos (by simp; omega)]
theorem refPlain_f (l : List Int) (k n : Int) (s : ByteArray) (hl : l.length ≤ 1048576) (h0 : -9223372036854775808 ≤ n) (h1 : n ≤ 9223372036854775807) (hm : mayV k n s) : Ev (fun m => antipoderef7_Plain.f m l k n s) (l ++ plainL k n s) := by
  have hk : k = 0 ∨ k = 1 ∨ k = 2 ∨ k = 3 := by unfold mayV at hm; omega
  have hk256 : k % 256 = k := by omega
  have hd : decide (mayV k n s) = true := decide_eq_true hm
  rcases hk with rfl | rfl | rfl | rfl
  · refine ev_eq (fun m => ?_)
    unfold antipoderef7_Plain.f
    simp only [Option.bind_some, List.nil_append, List.length_nil, refMay_f, hd, if_true]
    rw [if_pos (by omega), if_pos (by omega), if_neg (by decide), if_neg (by decide), if_neg (by decide)]
    simp [plainL]
  · have hn : n % 256 = n := by unfold mayV at hm; omega
    refine ev_eq (fun m => ?_)
    unfold antipoderef7_Plain.f
    simp only [Option.bind_some, List.nil_append, List.length_nil, refMay_f, hd, if_true]
    rw [if_pos (by omega), if_pos (by omega), if_pos (by simp; omega), hn]
    simp [plainL]
  · refine Ev.congr (f := fun m => (antipoderef1_Var.f m (l ++ [2]) ((Lib.zigzag n : Nat) : Int)).bind fun t => some t) (fun m => ?_) ?_
    · unfold antipoderef7_Plain.f
      simp only [Option.bind_some, List.nil_append, List.length_nil, refMay_f, hd, if_true]
      rw [if_pos (by omega), if_pos (by omega), if_neg (by decide), refZig_f n h0 h1]
      rfl
    · have := Ev.bind (f := fun _ t => some t) (refVar_f (l ++ [2]) (Lib.zigzag n) (Lib.zigzag_lt h0 h1) (by simp; omega)) (evk _)
      simpa [plainL] using this
  · have hs : s.size ≤ 64 := by unfold mayV at hm; omega
    refine Ev.congr (f := fun m => (antipoderef1_Text_s.f m (l ++ [3]) s).bind fun t => some t) (fun m => ?_) ?_
    · unfold antipoderef7_Plain.f
      simp only [Option.bind_some, List.nil_append, List.length_nil, refMay_f, hd, if_true]
      rw [if_pos (by omega), if_pos (by omega), if_neg (by decide), if_neg (by decide)]
      rfl
    · have := Ev.bind (f := fun _ t => some t) (refText_f (l ++ [3]) s (by omega) (by simp; omega)) (evk _)
      simpa [plainL] using this
theorem refPlain_no (l : List Int) (k n : Int) (s : ByteArray) (hl : l.length ≤ 1048576) (hm : ¬ mayV k n s) : Ev (fun m => antipoderef7_Plain.f m l k n s) l := by
  have hd : decide (mayV k n s) = false := decide_eq_false hm
  refine ev_eq (fun m => ?_)
  unfold antipoderef7_Plain.f
  simp only [Option.bind_some, List.nil_append, List.length_nil, refMay_f, hd]
  rw [if_pos (by omega), if_neg (by decide)]
/-! shown -/
def dbl (c : UInt8) (new : List UInt8) (s : List UInt8) : List UInt8 := s.flatMap fun b => if b = c then new else [b]
theorem replaceK_dbl (c : UInt8) (new : List UInt8) : ∀ s : List UInt8, Lib.replaceK [c] new (Lib.count s [c]) s = dbl c new s := by
  intro s
  induction s with
  | nil => rfl
  | cons b l ih =>
    by_cases h : b = c
    · subst h
      have hix : Lib.index (b :: l) [b] = ((0 : Nat) : Int) := by rw [Lib.index]; simp [List.isPrefixOf]
      rw [Lib.count_cons_eq, Nat.add_comm 1, Lib.replaceK_hit _ _ _ _ 0 hix]
      simp [dbl, ih]
    · rw [Lib.count_cons_ne _ _ _ h]
      have hd : dbl c new (b :: l) = b :: dbl c new l := by simp [dbl, h]
      rw [hd, ← ih]
      by_cases hz : Lib.count l [c] = 0
      · rw [hz]; rfl
      · obtain ⟨i, hi⟩ := Lib.index_of_count (s := l) (old := [c]) (by omega)
        obtain ⟨m, hm⟩ : ∃ m, Lib.count l [c] = m + 1 := ⟨Lib.count l [c] - 1, by omega⟩
        have hp : ([c] : List UInt8).isPrefixOf (b :: l) = false := by simp [List.isPrefixOf, Ne.symm h]
        have hix : Lib.index (b :: l) [c] = ((i + 1 : Nat) : Int) := by
          rw [Lib.index, hp, hi]
          simp only [Bool.false_eq_true, if_false]
          rw [if_neg (by simp)]
          omega
        rw [hm, Lib.replaceK_hit _ _ _ _ _ hix, Lib.replaceK_hit _ _ _ _ _ hi]
        simp
theorem replaceAll_dbl (s : List UInt8) : Lib.replaceAll s [39] [39, 39] = dbl 39 [39, 39] s := by
  unfold Lib.replaceAll Lib.replace Lib.replaceNum
  rw [if_neg (by decide), if_pos (.inl (by decide))]
  exact replaceK_dbl 39 [39, 39] s
theorem count_len (s : List UInt8) (c : UInt8) : Lib.count s [c] ≤ s.length := by
  induction s with
  | nil => exact Nat.le_of_eq rfl
  | cons b l ih =>
    by_cases h : b = c
    · subst h; rw [Lib.count_cons_eq]; simp; omega
    · rw [Lib.count_cons_ne _ _ _ h]; simp; omega
theorem ba_ext {a b : ByteArray} (h : a.data.toList = b.data.toList) : a = b := by
  cases a; cases b
  congr 1
  exact Array.toList_inj.1 h
theorem ba_size (a : ByteArray) : a.size = a.data.toList.length := by simp
theorem app_list (a b : ByteArray) : (a ++ b).data.toList = a.data.toList ++ b.data.toList := by simp
theorem at_list (s : ByteArray) (i : Nat) (h : i < s.size) : (s.extract i (i + 1)).data.toList = [s.data.toList[i]'(by simpa using h)] := by
  have h' : i < s.data.toList.length := by simpa using h
  have : (s.extract i (i + 1)).data.toList = (s.data.toList.drop i).take 1 := by simp
  rw [this, List.drop_eq_getElem_cons h']
  rfl
theorem bt_list (s : ByteArray) (i : Nat) (h : i < s.size) : bt s i = ((s.data.toList[i]'(by simpa using h)).toNat : Int) := by
  unfold bt
  simp [h]
  rfl
theorem dbl_cons (c b : UInt8) (new l : List UInt8) : dbl c new (b :: l) = (if b = c then new else [b]) ++ dbl c new l := by simp [dbl]
theorem dbl_length (s : List UInt8) : (dbl 39 [39, 39] s).length ≤ 2 * s.length := by
  induction s with
  | nil => simp [dbl]
  | cons b l ih =>
    have : dbl 39 [39, 39] (b :: l) = (if b = 39 then [39, 39] else [b]) ++ dbl 39 [39, 39] l := by simp [dbl]
    rw [this, List.length_append]
    split <;> simp <;> omega
theorem refShow_l0 (s : ByteArray) (hs : s.size ≤ 1048576) (a b : Int) : ∀ (d i : Nat) (x : ByteArray), i + d = s.size → x.size + 2 * d ≤ 8589934592 →
    ∃ r : ByteArray, r.data.toList = x.data.toList ++ dbl 39 [39, 39] (s.data.toList.drop i) ++ [39] ∧ Ev (fun k => antipoderef7_Show.l0 k x (i : Int) a b s) r := by
  intro d
  induction d with
  | zero =>
    intro i x hi hx
    refine ⟨x ++ ⟨#[39]⟩, ?_, Ev.step (f := fun _ => some (x ++ ⟨#[39]⟩)) (fun k => ?_) (evk _)⟩
    · rw [app_list, List.drop_of_length_le (by rw [← ba_size]; omega)]; simp [dbl]
    · rw [antipoderef7_Show.l0, if_neg (by omega), if_pos (by omega)]
  | succ d ih =>
    intro i x hi hx
    have hlt : i < s.size := by omega
    have h' : i < s.data.toList.length := by rw [← ba_size]; exact hlt
    have hw : wrap64 ((i : Int) + 1) = ((i + 1 : Nat) : Int) := by unfold wrap64; omega
    have hdr : s.data.toList.drop i = s.data.toList[i] :: s.data.toList.drop (i + 1) := List.drop_eq_getElem_cons h'
    have hel := at_list s i hlt
    have hes : (s.extract i (i + 1)).size = 1 := by rw [ba_size, hel]; rfl
    have hbt := bt_list s i hlt
    by_cases hq : bt s (i : Int) = 39
    · have hc : s.data.toList[i] = 39 := by
        rw [hbt] at hq
        exact UInt8.toNat_inj.1 (by show _ = 39; omega)
      obtain ⟨r, hr, he⟩ := ih (i + 1) ((x ++ ⟨#[39]⟩) ++ s.extract i (i + 1)) (by omega) (by
        rw [ba_size, app_list, app_list, hel]
        rw [ba_size] at hx
        simp only [List.length_append, List.length_cons, List.length_nil]
        omega)
      refine ⟨r, ?_, Ev.step (fun k => ?_) he⟩
      · rw [hr, hdr, app_list, app_list, hel, dbl_cons, if_pos hc, hc]
        simp
      · have hsz : (x ++ (⟨#[39]⟩ : ByteArray)).size + (s.extract i (i + 1)).size ≤ 9223372036854775807 := by
          rw [hes, ba_size, app_list]
          rw [ba_size] at hx
          simp only [List.length_append, List.length_cons, List.length_nil]
          omega
        rw [antipoderef7_Show.l0, if_pos (by omega), if_pos (by omega), if_pos hq, if_pos (by omega), hw, if_pos (by omega), if_pos (by omega), Int.toNat_natCast, Int.toNat_natCast, if_pos hsz]
    · have hc : s.data.toList[i] ≠ 39 := fun e => hq (by rw [hbt, e]; rfl)
      obtain ⟨r, hr, he⟩ := ih (i + 1) (x ++ s.extract i (i + 1)) (by omega) (by
        rw [ba_size, app_list, hel]
        rw [ba_size] at hx
        simp only [List.length_append, List.length_cons, List.length_nil]
        omega)
      refine ⟨r, ?_, Ev.step (fun k => ?_) he⟩
      · rw [hr, hdr, app_list, hel, dbl_cons, if_neg hc]
        simp
      · have hsz : x.size + (s.extract i (i + 1)).size ≤ 9223372036854775807 := by rw [hes]; omega
        rw [antipoderef7_Show.l0, if_pos (by omega), if_pos (by omega), if_neg hq, hw, if_pos (by omega), if_pos (by omega), Int.toNat_natCast, Int.toNat_natCast, if_pos hsz]
/-! digits -/
theorem digit_at (d : Nat) (h : d < 10) : ((⟨#[48, 49, 50, 51, 52, 53, 54, 55, 56, 57]⟩ : ByteArray).extract d (d + 1)).data.toList = [UInt8.ofNat (48 + d)] := by
  have : ∀ d : Fin 10, ((⟨#[48, 49, 50, 51, 52, 53, 54, 55, 56, 57]⟩ : ByteArray).extract d.val (d.val + 1)).data.toList = [UInt8.ofNat (48 + d.val)] := by decide +kernel
  exact this ⟨d, h⟩
def signed (n : Int) (l : List UInt8) : List UInt8 := if n < 0 then 45 :: l else l
theorem digits_end (n : Int) (acc : ByteArray) (ha : acc.size ≤ 1000) : ∃ r : ByteArray, r.data.toList = signed n acc.data.toList ∧ Ev (fun k => antipoderef7_Digits.l0 k n 0 acc) r := by
  unfold signed
  by_cases h : n < 0
  · refine ⟨⟨#[45]⟩ ++ acc, ?_, Ev.step (f := fun _ => some (⟨#[45]⟩ ++ acc)) (fun k => ?_) (evk _)⟩
    · rw [app_list, if_pos h]; rfl
    · rw [antipoderef7_Digits.l0, if_neg (by decide), if_pos h, if_pos (by omega)]
  · refine ⟨acc, by rw [if_neg h], Ev.step (f := fun _ => some acc) (fun k => ?_) (evk _)⟩
    rw [antipoderef7_Digits.l0, if_neg (by decide), if_neg h]
theorem digits_l0 (n : Int) : ∀ (d u : Nat) (acc : ByteArray), 0 < u → u < 10 ^ (d + 1) → u < 18446744073709551616 → acc.size + d ≤ 900 →
    ∃ r : ByteArray, r.data.toList = signed n (Lib.decDigits u ++ acc.data.toList) ∧ Ev (fun k => antipoderef7_Digits.l0 k n (u : Int) acc) r := by
  intro d
  have step : ∀ (k u : Nat) (acc : ByteArray), 0 < u → u < 18446744073709551616 → acc.size ≤ 900 → antipoderef7_Digits.l0 (k + 1) n (u : Int) acc = antipoderef7_Digits.l0 k n ((u / 10 : Nat) : Int) (((⟨#[48, 49, 50, 51, 52, 53, 54, 55, 56, 57]⟩ : ByteArray).extract (u % 10) (u % 10 + 1)) ++ acc) := by
    intro k u acc hu h64 ha
    have e1 : Int.tmod (u : Int) 10 = ((u % 10 : Nat) : Int) := by rw [Int.tmod_eq_emod_of_nonneg (by omega)]; omega
    have e2 : Int.tdiv (u : Int) 10 = ((u / 10 : Nat) : Int) := by rw [Int.tdiv_eq_ediv_of_nonneg (by omega)]; omega
    have e3 : IntKind.u64.wrap (((u % 10 : Nat) : Int) + 1) = ((u % 10 + 1 : Nat) : Int) := by rw [u64w (by omega) (by omega)]; omega
    have hsz : ((⟨#[48, 49, 50, 51, 52, 53, 54, 55, 56, 57]⟩ : ByteArray).extract (u % 10) (u % 10 + 1)).size = 1 := by rw [ba_size, digit_at _ (by omega)]; rfl
    rw [antipoderef7_Digits.l0, if_pos (by omega), e1, e2, e3, if_pos (by omega), if_pos (by omega), if_pos (by omega), Int.toNat_natCast, Int.toNat_natCast, hsz, if_pos (by omega), u64w (by omega) (by omega)]
  have hsize : ∀ (u : Nat) (acc : ByteArray), (((⟨#[48, 49, 50, 51, 52, 53, 54, 55, 56, 57]⟩ : ByteArray).extract (u % 10) (u % 10 + 1)) ++ acc).size = 1 + acc.size := by
    intro u acc
    rw [ba_size, app_list, digit_at _ (by omega), ba_size acc]
    simp
    omega
  induction d with
  | zero =>
    intro u acc hu h10 h64 ha
    obtain ⟨r, hr, he⟩ := digits_end n (((⟨#[48, 49, 50, 51, 52, 53, 54, 55, 56, 57]⟩ : ByteArray).extract (u % 10) (u % 10 + 1)) ++ acc) (by rw [hsize]; omega)
    refine ⟨r, ?_, Ev.step (fun k => ?_) he⟩
    · rw [hr, app_list, digit_at _ (by omega), Lib.decDigits, dif_pos (by omega), show u % 10 = u by omega]
    · rw [step k u acc hu h64 (by omega), show u / 10 = 0 by omega]
      rfl
  | succ d ih =>
    intro u acc hu h10 h64 ha
    by_cases h : u < 10
    · obtain ⟨r, hr, he⟩ := digits_end n (((⟨#[48, 49, 50, 51, 52, 53, 54, 55, 56, 57]⟩ : ByteArray).extract (u % 10) (u % 10 + 1)) ++ acc) (by rw [hsize]; omega)
      refine ⟨r, ?_, Ev.step (fun k => ?_) he⟩
      · rw [hr, app_list, digit_at _ (by omega), Lib.decDigits, dif_pos h, show u % 10 = u by omega]
      · rw [step k u acc hu h64 (by omega), show u / 10 = 0 by omega]
        rfl
    · obtain ⟨r, hr, he⟩ := ih (u / 10) (((⟨#[48, 49, 50, 51, 52, 53, 54, 55, 56, 57]⟩ : ByteArray).extract (u % 10) (u % 10 + 1)) ++ acc) (by omega) (by rw [Nat.pow_succ] at h10; omega) (by omega) (by rw [hsize]; omega)
      refine ⟨r, ?_, Ev.step (fun k => ?_) he⟩
      · rw [hr, app_list, digit_at _ (by omega)]
        have : Lib.decDigits u = Lib.decDigits (u / 10) ++ [UInt8.ofNat (48 + u % 10)] := by rw [Lib.decDigits, dif_neg h]
        rw [this]
        simp
      · exact step k u acc hu h64 (by omega)
theorem Digits_f (n : Int) (h0 : -9223372036854775808 ≤ n) (h1 : n ≤ 9223372036854775807) : Ev (fun k => antipoderef7_Digits.f k n) ⟨(Lib.itoa n).toArray⟩ := by
  by_cases hz : n = 0
  · subst hz
    refine ev_eq (fun k => ?_)
    unfold antipoderef7_Digits.f
    rw [if_pos rfl]
    refine congrArg some (ba_ext ?_)
    unfold Lib.itoa
    rw [if_neg (by decide), Lib.decDigits, dif_pos (by decide)]
    rfl
  · obtain ⟨r, hr, he⟩ := digits_l0 n 19 n.natAbs ⟨#[]⟩ (by omega) (by omega) (by omega) (by decide)
    have hrr : r = ⟨(Lib.itoa n).toArray⟩ := by
      refine ba_ext ?_
      rw [hr]
      unfold signed Lib.itoa
      by_cases hn : n < 0
      · rw [if_pos hn, if_pos hn]; simp
      · rw [if_neg hn, if_neg hn, show n.toNat = n.natAbs by omega]; simp
    rw [← hrr]
    refine Ev.congr (f := fun k => antipoderef7_Digits.j0 k n (n.natAbs : Int) ⟨#[]⟩) (fun k => ?_) (Ev.step (fun k => by simp only [antipoderef7_Digits.j0]) he)
    unfold antipoderef7_Digits.f
    rw [if_neg hz]
    by_cases hn : n < 0
    · rw [if_pos hn, w64 (x := n + 1) (by omega) (by omega), w64 (x := -(n + 1)) (by omega) (by omega), u64w (x := -(n + 1)) (by omega) (by omega), u64w (by omega) (by omega), show -(n + 1) + 1 = (n.natAbs : Int) by omega]
    · rw [if_neg hn, u64w (by omega) (by omega), show (n.natAbs : Int) = n by omega]
theorem Show_both (k n : Int) (s : ByteArray) (h0 : -9223372036854775808 ≤ n) (h1 : n ≤ 9223372036854775807) : ∃ r, value_Show.f k n s = some r ∧ Ev (fun m => antipoderef7_Show.f m k n s) r := by
  by_cases hm : mayV k n s
  · have hd : decide (mayV k n s) = true := decide_eq_true hm
    have hk : k = 0 ∨ k = 1 ∨ k = 2 ∨ k = 3 := by unfold mayV at hm; omega
    rcases hk with rfl | rfl | rfl | rfl
    · refine ⟨⟨#[78, 85, 76, 76]⟩, ?_, ev_eq fun m => ?_⟩
      · unfold value_Show.f
        simp only [Option.bind_some, May_f, hd, if_true]
        rw [if_neg (by decide), if_neg (by decide), if_neg (by decide)]
      · unfold antipoderef7_Show.f
        simp only [Option.bind_some, refMay_f, hd, if_true]
    · by_cases hn : n = 1
      · refine ⟨⟨#[84, 82, 85, 69]⟩, ?_, ev_eq fun m => ?_⟩
        · unfold value_Show.f
          simp only [Option.bind_some, May_f, hd, if_true]
          rw [if_pos hn]
        · unfold antipoderef7_Show.f
          simp only [Option.bind_some, refMay_f, hd, if_true]
          rw [if_neg (by decide), if_pos hn]
      · refine ⟨⟨#[70, 65, 76, 83, 69]⟩, ?_, ev_eq fun m => ?_⟩
        · unfold value_Show.f
          simp only [Option.bind_some, May_f, hd, if_true]
          rw [if_neg hn]
        · unfold antipoderef7_Show.f
          simp only [Option.bind_some, refMay_f, hd, if_true]
          rw [if_neg (by decide), if_neg hn]
    · refine ⟨⟨(Lib.itoa n).toArray⟩, ?_, Ev.congr (f := fun m => (antipoderef7_Digits.f m n).bind fun t => some t) (fun m => ?_) (Ev.bind (Digits_f n h0 h1) (evk _))⟩
      · unfold value_Show.f strconv_FormatInt.f
        simp only [Option.bind_some, May_f, hd, if_true]
        rw [if_neg (by decide), if_pos ⟨h0, h1⟩]
        rfl
      · unfold antipoderef7_Show.f
        simp only [Option.bind_some, refMay_f, hd, if_true]
        rw [if_neg (by decide), if_neg (by decide)]
    · have hs : s.size ≤ 64 := by unfold mayV at hm; omega
      obtain ⟨r, hr, he⟩ := refShow_l0 s (by omega) 3 n s.size 0 ⟨#[39]⟩ (by omega) (by show 1 + _ ≤ _; omega)
      refine ⟨r, ?_, Ev.congr (fun m => ?_) he⟩
      · unfold value_Show.f strings_ReplaceAll.f
        simp only [Option.bind_some, May_f, hd, if_true]
        rw [if_neg (by decide), if_neg (by decide)]
        have hc : Lib.countB s ⟨#[39]⟩ ≤ s.size := by rw [ba_size]; exact count_len s.data.toList 39
        have hcond : s.size < 4294967281 ∧ 1 ≤ (⟨#[39]⟩ : ByteArray).size ∧ s.size + Lib.countB s ⟨#[39]⟩ * (⟨#[39, 39]⟩ : ByteArray).size ≤ 140737488355328 := ⟨by omega, by decide, by show _ + _ * 2 ≤ _; omega⟩
        rw [if_pos hcond]
        simp only [Option.bind_some]
        have hrl : Lib.replaceAll s.data.toList (⟨#[39]⟩ : ByteArray).data.toList (⟨#[39, 39]⟩ : ByteArray).data.toList = dbl 39 [39, 39] s.data.toList := replaceAll_dbl _
        rw [hrl]
        have hl := dbl_length s.data.toList
        rw [← ba_size] at hl
        have hz : (⟨(dbl 39 [39, 39] s.data.toList).toArray⟩ : ByteArray).size = (dbl 39 [39, 39] s.data.toList).length := by rw [ba_size]
        have hz2 : ((⟨#[39]⟩ : ByteArray) ++ (⟨(dbl 39 [39, 39] s.data.toList).toArray⟩ : ByteArray)).size = 1 + (dbl 39 [39, 39] s.data.toList).length := by rw [ba_size, app_list]; simp; omega
        rw [if_pos (by rw [hz]; omega), if_pos (by rw [hz2]; omega)]
        refine congrArg some (ba_ext ?_)
        rw [hr, app_list, app_list]
        simp
      · unfold antipoderef7_Show.f
        simp only [Option.bind_some, refMay_f, hd, if_true]
        rw [if_neg (by decide), if_neg (by decide), if_neg (by decide)]
        rfl
  · have hd : decide (mayV k n s) = false := decide_eq_false hm
    refine ⟨⟨#[]⟩, ?_, ev_eq fun m => ?_⟩
    · unfold value_Show.f
      simp only [Option.bind_some, May_f, hd]
      rw [if_neg (by decide)]
    · unfold antipoderef7_Show.f
      simp only [Option.bind_some, refMay_f, hd]
      rw [if_neg (by decide)]
theorem Key_any (l : List Int) (k n : Int) (s : ByteArray) (hl : l.length ≤ 1048576) (h0 : -9223372036854775808 ≤ n) (h1 : n ≤ 9223372036854775807) : ∃ r, Ev (fun m => value_Key.f m l k n s) r ∧ Ev (fun m => antipoderef7_Key.f m l k n s) r := by
  by_cases hm : mayV k n s
  · exact ⟨_, Key_f l k n s hl h0 h1 hm, refKey_f l k n s hl h0 h1 hm⟩
  · exact ⟨_, Key_no l k n s hl hm, refKey_no l k n s hl hm⟩
theorem Plain_any (l : List Int) (k n : Int) (s : ByteArray) (hl : l.length ≤ 1048576) (h0 : -9223372036854775808 ≤ n) (h1 : n ≤ 9223372036854775807) : ∃ r, Ev (fun m => value_Plain.f m l k n s) r ∧ Ev (fun m => antipoderef7_Plain.f m l k n s) r := by
  by_cases hm : mayV k n s
  · exact ⟨_, Plain_f l k n s hl h0 h1 hm, refPlain_f l k n s hl h0 h1 hm⟩
  · exact ⟨_, Plain_no l k n s hl hm, refPlain_no l k n s hl hm⟩
theorem ValueWrites (l : List Int) (a0 a1 : Int) (a2 : ByteArray) (hb : ∀ x ∈ l, 0 ≤ x ∧ x < 256) (h0 : -9223372036854775808 ≤ a1) (h1 : a1 ≤ 9223372036854775807) : ∃ k, antipodelaw7_ValueWrites.f k l a0 a1 a2 = some true := by
  obtain ⟨K0, g0⟩ := begun_f
  simp only at g0
  have hj : ∀ x : Bool, (x = false → l.length ≤ 1024) → Ev (fun k => VW.j0 k l l x a0 a1 a2) true := by
    intro x hx
    cases x with
    | true => exact Ev.step (f := fun _ => some true) (fun k => by simp [VW.j0]) (evk _)
    | false =>
      have hl := hx rfl
      obtain ⟨r1, ⟨K1, e1⟩, ⟨K2, e2⟩⟩ := Key_any l a0 a1 a2 (by omega) h0 h1
      obtain ⟨r2, ⟨K3, e3⟩, ⟨K4, e4⟩⟩ := Plain_any l a0 a1 a2 (by omega) h0 h1
      obtain ⟨r3, e5, ⟨K6, e6⟩⟩ := Show_both a0 a1 a2 h0 h1
      simp only at e1 e2 e3 e4 e6
      have hround : ∀ (k : Nat) (i : Int), K1 + K2 + K3 + K4 + K6 ≤ k → i < 2 → VW.l0 (k + 1) l l i a0 a1 a2 = VW.l0 k l l (wrap64 (i + 1)) a0 a1 a2 := by
        intro k i hk hi
        rw [VW.l0, if_pos hi, e1 k (by omega), e2 k (by omega), e3 k (by omega), e4 k (by omega)]
        simp only [Option.bind_some]
        rw [if_pos trivial, if_pos trivial, May_f, refMay_f, e5, e6 k (by omega)]
        simp [antipodelaw0_Kept.f]
      refine ⟨K1 + K2 + K3 + K4 + K6 + 4, fun k hk => ?_⟩
      obtain ⟨m, rfl⟩ : ∃ m, k = m + 4 := ⟨k - 4, by omega⟩
      simp only [VW.j0, Bool.false_eq_true, if_false]
      rw [hround (m + 2) 0 (by omega) (by decide), show wrap64 (0 + 1) = 1 by unfold wrap64; omega, hround (m + 1) 1 (by omega) (by decide), show wrap64 (1 + 1) = 2 by unfold wrap64; omega, VW.l0, if_neg (by decide)]
  obtain ⟨K1, g1⟩ := hj true (by simp)
  simp only at g1
  by_cases hl : (l.length : Int) > 1024
  · refine ⟨K0 + K1, ?_⟩
    unfold antipodelaw7_ValueWrites.f VW.f
    rw [g0 _ (by omega)]
    simp only [Option.bind_some, if_true]
    rw [if_pos hl]
    exact g1 _ (by omega)
  · obtain ⟨K2, g2⟩ := hj false (fun _ => by omega)
    simp only at g2
    refine ⟨K0 + K1 + K2, ?_⟩
    unfold antipodelaw7_ValueWrites.f VW.f antipodelaw7_light.f
    rw [g0 _ (by omega)]
    simp only [Option.bind_some, if_true]
    rw [if_neg hl]
    cases hx : !(decide ((a2.size : Int) ≤ 1000)) with
    | true => exact g1 _ (by omega)
    | false => exact g2 _ (by omega)
end Go.Proofs.YtcflmkklpehmmaaDoor.Pure
