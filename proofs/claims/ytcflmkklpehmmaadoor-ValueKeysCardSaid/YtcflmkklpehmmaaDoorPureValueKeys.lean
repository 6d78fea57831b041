/- ValueKeys: keys of values that may be stand in their order, and none is the beginning of another one. -/
import Derived.Test.YtcflmkklpehmmaaDoorPLx13
import Derived.Test.YtcflmkklpehmmaaDoorSpecK
namespace Go.Proofs.YtcflmkklpehmmaaDoor.Pure
open Go.RowKit Go.Proofs.YtcflmkklpehmmaaDoor.PL Go.Proofs.YtcflmkklpehmmaaDoorW.PrintWords Go.Proofs.YtcflmkklpehmmaaDoorW.PrintLast
set_option linter.unusedVariables false
set_option linter.unusedSimpArgs false
def cmpI (a b : Int) : Int := if a < b then -1 else if a > b then 1 else 0
def orI (a b : Int) : Int := if a = 0 then b else a
def cmpV (a0 a1 : Int) (a2 : ByteArray) (b0 b1 : Int) (b2 : ByteArray) : Int := orI (cmpI a0 b0) (orI (cmpI a1 b1) (Lib.compareBytes a2.data.toList b2.data.toList))
theorem cmp_int (a b : Int) : cmp_Compare_int.f a b = some (cmpI a b) := by
  unfold cmp_Compare_int.f cmp_isNaN_int.f cmpI
  simp only [Option.bind_some, bne_self_eq_false, Bool.false_eq_true, if_false]
  repeat' split
  all_goals first | rfl | omega
theorem cmp_int64 (a b : Int) : cmp_Compare_int64.f a b = some (cmpI a b) := by
  unfold cmp_Compare_int64.f cmp_isNaN_int64.f cmpI
  simp only [Option.bind_some, bne_self_eq_false, Bool.false_eq_true, if_false]
  repeat' split
  all_goals first | rfl | omega
theorem or_f (a b c : Int) : cmp_Or_int.f 5 [a, b, c] = some (orI a (orI b c)) := by
  unfold cmp_Or_int.f orI
  simp only [cmp_Or_int.l0, rd, wrap64]
  by_cases h : a = 0 <;> by_cases h2 : b = 0 <;> by_cases h3 : c = 0 <;> simp [h, h2, h3]
theorem Compare_f (a0 a1 : Int) (a2 : ByteArray) (b0 b1 : Int) (b2 : ByteArray) : Ev (fun n => value_Compare.f n a0 a1 a2 b0 b1 b2) (cmpV a0 a1 a2 b0 b1 b2) := by
  unfold value_Compare.f
  refine Ev.congr (fun k => by rw [cmp_int, cmp_int64]; rfl) (Ev.bind (f := fun _ t => some t) (Ev.of (k := 5) (fun k => cmp_Or_int.mono _ k) (or_f (cmpI a0 b0) (cmpI a1 b1) (Lib.compareBytes a2.data.toList b2.data.toList))) (evk _))
theorem cb_range : ∀ a b : List UInt8, Lib.compareBytes a b = -1 ∨ Lib.compareBytes a b = 0 ∨ Lib.compareBytes a b = 1 := by
  intro a
  induction a with
  | nil => intro b; cases b <;> simp [Lib.compareBytes]
  | cons x t ih =>
    intro b
    cases b with
    | nil => simp [Lib.compareBytes]
    | cons y s =>
      simp only [Lib.compareBytes]
      split
      · simp
      · split
        · simp
        · exact ih s
theorem cb_eq : ∀ a b : List UInt8, Lib.compareBytes a b = 0 ↔ a = b := by
  intro a
  induction a with
  | nil => intro b; cases b <;> simp [Lib.compareBytes]
  | cons x t ih =>
    intro b
    cases b with
    | nil => simp [Lib.compareBytes]
    | cons y s =>
      simp only [Lib.compareBytes, UInt8.lt_iff_toNat_lt, List.cons.injEq]
      by_cases h : x.toNat < y.toNat
      · rw [if_pos h]; constructor
        · intro e; cases e
        · intro e; rw [e.1] at h; omega
      · by_cases h2 : y.toNat < x.toNat
        · rw [if_neg h, if_pos h2]; constructor
          · intro e; cases e
          · intro e; rw [e.1] at h2; omega
        · rw [if_neg h, if_neg h2, ih s]
          have : x = y := UInt8.toNat_inj.1 (by omega)
          simp [this]
theorem bl_cb : ∀ a b : List UInt8, Op.bytesLess a b = decide (Lib.compareBytes a b < 0) := by
  intro a
  induction a with
  | nil => intro b; cases b <;> simp [Lib.compareBytes, Op.bytesLess]
  | cons x t ih =>
    intro b
    cases b with
    | nil => simp [Lib.compareBytes, Op.bytesLess]
    | cons y s =>
      simp only [Lib.compareBytes, Op.bytesLess, UInt8.lt_iff_toNat_lt, ih s]
      by_cases h : x.toNat < y.toNat
      · simp [h]
      · by_cases h2 : y.toNat < x.toNat
        · have : x ≠ y := fun e => by rw [e] at h2; omega
          simp [h, h2, this]
        · have : x = y := UInt8.toNat_inj.1 (by omega)
          simp [this]
/-- Two lists of bytes differ at a place that both have; c tells which way. -/
def Diff (X Y : List Int) (c : Int) : Prop := ∃ p x y X' Y', X = p ++ x :: X' ∧ Y = p ++ y :: Y' ∧ 0 ≤ x ∧ x < 256 ∧ 0 ≤ y ∧ y < 256 ∧ x ≠ y ∧ c = (if x < y then -1 else 1)
theorem Diff.cons {X Y : List Int} {c : Int} (a : Int) (h : Diff X Y c) : Diff (a :: X) (a :: Y) c := by
  obtain ⟨p, x, y, X', Y', rfl, rfl, h⟩ := h
  exact ⟨a :: p, x, y, X', Y', rfl, rfl, h⟩
theorem Diff.head {x y c : Int} {X Y : List Int} (h0 : 0 ≤ x) (h1 : x < 256) (h2 : 0 ≤ y) (h3 : y < 256) (h4 : x ≠ y) (hc : c = (if x < y then -1 else 1)) : Diff (x :: X) (y :: Y) c := ⟨[], x, y, X, Y, rfl, rfl, h0, h1, h2, h3, h4, hc⟩
def by8 (l : List Int) : List UInt8 := l.map fun n => UInt8.ofNat n.toNat
theorem cb_app (p : List UInt8) (a b : List UInt8) : Lib.compareBytes (p ++ a) (p ++ b) = Lib.compareBytes a b := by
  induction p with
  | nil => rfl
  | cons x t ih => simp [Lib.compareBytes, ih]
theorem Diff.cb {X Y : List Int} {c : Int} (h : Diff X Y c) : Lib.compareBytes (by8 X) (by8 Y) = c ∧ c ≠ 0 ∧ ∀ n, n = min X.length Y.length → (by8 X).take n ≠ (by8 Y).take n := by
  obtain ⟨p, x, y, X', Y', rfl, rfl, h0, h1, h2, h3, h4, hc⟩ := h
  have ex : (UInt8.ofNat x.toNat).toNat = x.toNat := by rw [UInt8.toNat_ofNat']; omega
  have ey : (UInt8.ofNat y.toNat).toNat = y.toNat := by rw [UInt8.toNat_ofNat']; omega
  refine ⟨?_, ?_, fun n hn e => ?_⟩
  · unfold by8
    rw [List.map_append, List.map_append, cb_app]
    simp only [List.map_cons, Lib.compareBytes, UInt8.lt_iff_toNat_lt, ex, ey]
    rw [hc]
    by_cases l : x < y
    · rw [if_pos l, if_pos (by omega)]
    · rw [if_neg l, if_neg (by omega), if_pos (by omega)]
  · rw [hc]; split <;> decide
  · have e1 : ((by8 (p ++ x :: X')).take n)[p.length]? = some (UInt8.ofNat x.toNat) := by
      rw [List.getElem?_take_of_lt (by simp at hn; omega)]
      simp [by8]
    have e2 : ((by8 (p ++ y :: Y')).take n)[p.length]? = some (UInt8.ofNat y.toNat) := by
      rw [List.getElem?_take_of_lt (by simp at hn; omega)]
      simp [by8]
    rw [e, e2] at e1
    have := congrArg UInt8.toNat (Option.some.inj e1)
    omega
theorem diff_be8 (u v : Int) (h0 : 0 ≤ u) (h1 : u < 18446744073709551616) (h2 : 0 ≤ v) (h3 : v < 18446744073709551616) (hne : u ≠ v) : Diff (be8 u) (be8 v) (if u < v then -1 else 1) := by
  unfold be8
  by_cases e7 : u / 72057594037927936 % 256 = v / 72057594037927936 % 256
  · rw [e7]; refine Diff.cons _ ?_
    by_cases e6 : u / 281474976710656 % 256 = v / 281474976710656 % 256
    · rw [e6]; refine Diff.cons _ ?_
      by_cases e5 : u / 1099511627776 % 256 = v / 1099511627776 % 256
      · rw [e5]; refine Diff.cons _ ?_
        by_cases e4 : u / 4294967296 % 256 = v / 4294967296 % 256
        · rw [e4]; refine Diff.cons _ ?_
          by_cases e3 : u / 16777216 % 256 = v / 16777216 % 256
          · rw [e3]; refine Diff.cons _ ?_
            by_cases e2 : u / 65536 % 256 = v / 65536 % 256
            · rw [e2]; refine Diff.cons _ ?_
              by_cases e1 : u / 256 % 256 = v / 256 % 256
              · rw [e1]; refine Diff.cons _ ?_
                refine Diff.head (by omega) (by omega) (by omega) (by omega) (by omega) ?_
                by_cases l : u < v
                · rw [if_pos l, if_pos (by omega)]
                · rw [if_neg l, if_neg (by omega)]
              · refine Diff.head (by omega) (by omega) (by omega) (by omega) e1 ?_
                by_cases l : u < v
                · rw [if_pos l, if_pos (by omega)]
                · rw [if_neg l, if_neg (by omega)]
            · refine Diff.head (by omega) (by omega) (by omega) (by omega) e2 ?_
              by_cases l : u < v
              · rw [if_pos l, if_pos (by omega)]
              · rw [if_neg l, if_neg (by omega)]
          · refine Diff.head (by omega) (by omega) (by omega) (by omega) e3 ?_
            by_cases l : u < v
            · rw [if_pos l, if_pos (by omega)]
            · rw [if_neg l, if_neg (by omega)]
        · refine Diff.head (by omega) (by omega) (by omega) (by omega) e4 ?_
          by_cases l : u < v
          · rw [if_pos l, if_pos (by omega)]
          · rw [if_neg l, if_neg (by omega)]
      · refine Diff.head (by omega) (by omega) (by omega) (by omega) e5 ?_
        by_cases l : u < v
        · rw [if_pos l, if_pos (by omega)]
        · rw [if_neg l, if_neg (by omega)]
    · refine Diff.head (by omega) (by omega) (by omega) (by omega) e6 ?_
      by_cases l : u < v
      · rw [if_pos l, if_pos (by omega)]
      · rw [if_neg l, if_neg (by omega)]
  · refine Diff.head (by omega) (by omega) (by omega) (by omega) e7 ?_
    by_cases l : u < v
    · rw [if_pos l, if_pos (by omega)]
    · rw [if_neg l, if_neg (by omega)]
theorem diff_esc : ∀ (s t : List UInt8), s ≠ t → Diff (escL (s.map fun c => (c.toNat : Int)) ++ [0, 1]) (escL (t.map fun c => (c.toNat : Int)) ++ [0, 1]) (Lib.compareBytes s t) := by
  intro s
  induction s with
  | nil =>
    intro t h
    cases t with
    | nil => exact absurd rfl h
    | cons d t =>
      have hd := d.toNat_lt
      simp only [List.map_nil, List.map_cons, escL, Lib.compareBytes]
      by_cases e : (d.toNat : Int) = 0
      · rw [if_pos e]
        exact Diff.cons 0 (Diff.head (by omega) (by omega) (by omega) (by omega) (by omega) (by decide))
      · rw [if_neg e]
        exact Diff.head (by omega) (by omega) (by omega) (by omega) (fun h => e h.symm) (by rw [if_pos (by omega)])
  | cons c s ih =>
    intro t h
    have hc := c.toNat_lt
    cases t with
    | nil =>
      simp only [List.map_nil, List.map_cons, escL, Lib.compareBytes]
      by_cases e : (c.toNat : Int) = 0
      · rw [if_pos e]
        exact Diff.cons 0 (Diff.head (by omega) (by omega) (by omega) (by omega) (by omega) (by decide))
      · rw [if_neg e]
        exact Diff.head (by omega) (by omega) (by omega) (by omega) e (by rw [if_neg (by omega)])
    | cons d t =>
      have hd := d.toNat_lt
      simp only [List.map_cons, escL, Lib.compareBytes, UInt8.lt_iff_toNat_lt]
      by_cases e : c = d
      · subst e
        have := ih t (fun e => h (by rw [e]))
        rw [if_neg (Nat.lt_irrefl _), if_neg (Nat.lt_irrefl _)]
        by_cases z : (c.toNat : Int) = 0
        · rw [if_pos z, if_pos z]
          exact Diff.cons 0 (Diff.cons 255 this)
        · rw [if_neg z, if_neg z]
          exact Diff.cons _ this
      · have e' : c.toNat ≠ d.toNat := fun h => e (UInt8.toNat_inj.1 h)
        have hcmp : (if c.toNat < d.toNat then (-1 : Int) else if d.toNat < c.toNat then 1 else Lib.compareBytes s t) = (if (c.toNat : Int) < (d.toNat : Int) then -1 else 1) := by
          by_cases l : c.toNat < d.toNat
          · rw [if_pos l, if_pos (by omega)]
          · rw [if_neg l, if_pos (by omega), if_neg (by omega)]
        rw [hcmp]
        by_cases z : (c.toNat : Int) = 0 <;> by_cases y : (d.toNat : Int) = 0
        · omega
        · rw [if_pos z, if_neg y]
          exact Diff.head (by omega) (by omega) (by omega) (by omega) (by omega) (by rw [z])
        · rw [if_neg z, if_pos y]
          exact Diff.head (by omega) (by omega) (by omega) (by omega) (by omega) (by rw [y])
        · rw [if_neg z, if_neg y]
          exact Diff.head (by omega) (by omega) (by omega) (by omega) (by omega) rfl
theorem size_zero {s t : ByteArray} (hs : s.size = 0) (ht : t.size = 0) : s = t := by
  have h1 : s.data.toList.length = 0 := by simpa using hs
  have h2 : t.data.toList.length = 0 := by simpa using ht
  cases s with | mk a => cases t with | mk b =>
  congr 1
  apply Array.toList_inj.1
  rw [List.eq_nil_of_length_eq_zero h1, List.eq_nil_of_length_eq_zero h2]
theorem or_cmp (a b X : Int) (h : a ≠ b) : (if (if a < b then (-1 : Int) else if a > b then 1 else 0) = 0 then X else (if a < b then (-1 : Int) else if a > b then 1 else 0)) = (if a < b then -1 else 1) := by
  by_cases l : a < b
  · simp [l]
  · have l2 : a > b := by omega
    simp [l, l2]
theorem diff_key (a0 a1 : Int) (a2 : ByteArray) (b0 b1 : Int) (b2 : ByteArray) (ha : mayV a0 a1 a2) (hb : mayV b0 b1 b2) (ha0 : -9223372036854775808 ≤ a1) (ha1 : a1 ≤ 9223372036854775807) (hb0 : -9223372036854775808 ≤ b1) (hb1 : b1 ≤ 9223372036854775807)
    (hne : ¬ (a0 = b0 ∧ a1 = b1 ∧ a2 = b2)) : Diff (keyL a0 a1 a2) (keyL b0 b1 b2) (cmpV a0 a1 a2 b0 b1 b2) := by
  unfold keyL cmpV cmpI orI
  by_cases e : a0 = b0
  · subst e
    refine Diff.cons _ ?_
    have hirr : ∀ z : Int, (if z < z then (-1 : Int) else if z > z then 1 else 0) = 0 := fun z => by simp
    rw [hirr, if_pos rfl]
    by_cases k1 : a0 = 1
    · have hz : a2 = b2 := size_zero (by unfold mayV at ha; omega) (by unfold mayV at hb; omega)
      rw [if_pos k1, if_pos k1]
      have hn : a1 ≠ b1 := fun e => hne ⟨rfl, e, hz⟩
      unfold mayV at ha hb
      exact Diff.head (by omega) (by omega) (by omega) (by omega) hn (or_cmp _ _ _ hn)
    · by_cases k2 : a0 = 2
      · have hz : a2 = b2 := size_zero (by unfold mayV at ha; omega) (by unfold mayV at hb; omega)
        rw [if_neg k1, if_pos k2, if_neg k1, if_pos k2]
        have hn : a1 ≠ b1 := fun e => hne ⟨rfl, e, hz⟩
        have := diff_be8 (a1 + 9223372036854775808) (b1 + 9223372036854775808) (by omega) (by omega) (by omega) (by omega) (by omega)
        rw [or_cmp _ _ _ hn]
        by_cases l : a1 < b1
        · rw [if_pos (by omega)] at this
          rw [if_pos l]; exact this
        · rw [if_neg (by omega)] at this
          rw [if_neg l]; exact this
      · by_cases k3 : a0 = 3
        · rw [if_neg k1, if_neg k2, if_pos k3, if_neg k1, if_neg k2, if_pos k3]
          have hz : a1 = b1 := by unfold mayV at ha hb; omega
          subst hz
          rw [hirr, if_pos rfl]
          refine diff_esc _ _ (fun e => hne ⟨rfl, rfl, ?_⟩)
          cases a2; cases b2
          congr 1
          exact Array.toList_inj.1 e
        · exact absurd ⟨rfl, by unfold mayV at ha hb; omega, size_zero (by unfold mayV at ha; omega) (by unfold mayV at hb; omega)⟩ hne
  · have hc := or_cmp a0 b0 (if (if a1 < b1 then (-1 : Int) else if a1 > b1 then 1 else 0) = 0 then Lib.compareBytes a2.data.toList b2.data.toList else (if a1 < b1 then (-1 : Int) else if a1 > b1 then 1 else 0)) e
    unfold mayV at ha hb
    exact Diff.head (by omega) (by omega) (by omega) (by omega) e hc
theorem strOf_by8 (l : List Int) : (strOfNums l).toList = by8 l := by
  rw [Lib.toList_data]
  simp [strOfNums, by8]
theorem strOf_size (l : List Int) : (strOfNums l).size = l.length := by
  have : (strOfNums l).data.toList.length = l.length := by rw [← Lib.toList_data, strOf_by8]; simp [by8]
  simpa using this
theorem ext_take (l : List Int) (n : Nat) : ((strOfNums l).extract 0 n).toList = (by8 l).take n := by
  rw [← strOf_by8, Lib.toList_data, Lib.toList_data]
  simp
theorem fieldsEq (a0 a1 : Int) (a2 : ByteArray) (b0 b1 : Int) (b2 : ByteArray) : (a0 == b0 && (a1 == b1 && (a2.toList == b2.toList))) = decide (a0 = b0 ∧ a1 = b1 ∧ a2 = b2) := by
  have e : (a2.toList == b2.toList) = decide (a2 = b2) := by
    rw [Lib.toList_data, Lib.toList_data]
    by_cases h : a2 = b2
    · subst h; simp
    · rw [decide_eq_false h]
      refine beq_eq_false_iff_ne.2 fun h2 => h ?_
      cases a2; cases b2
      congr 1
      exact Array.toList_inj.1 h2
  rw [e]
  by_cases h0 : a0 = b0 <;> by_cases h1 : a1 = b1 <;> by_cases h2 : a2 = b2 <;> simp [h0, h1, h2]
theorem ValueKeys (a0 a1 : Int) (a2 : ByteArray) (b0 b1 : Int) (b2 : ByteArray) (ha0 : -9223372036854775808 ≤ a1) (ha1 : a1 ≤ 9223372036854775807) (hb0 : -9223372036854775808 ≤ b1) (hb1 : b1 ≤ 9223372036854775807) :
    ∃ k, antipodelaw7_ValueKeys.f k a0 a1 a2 b0 b1 b2 = some true := by
  obtain ⟨K0, h0⟩ := begun_f
  simp only at h0
  have hj : ∀ x : Bool, (x = false → mayV a0 a1 a2 ∧ mayV b0 b1 b2) → Ev (fun k => antipodelaw7_ValueKeys.j0 k x a0 a1 a2 b0 b1 b2) true := by
    intro x hx
    cases x with
    | true => exact Ev.step (f := fun _ => some true) (fun k => by simp [antipodelaw7_ValueKeys.j0]) (evk _)
    | false =>
      obtain ⟨ma, mb⟩ := hx rfl
      obtain ⟨K1, h1⟩ := Key_f [] a0 a1 a2 (by simp) ha0 ha1 ma
      obtain ⟨K2, h2⟩ := Key_f [] b0 b1 b2 (by simp) hb0 hb1 mb
      obtain ⟨K3, h3⟩ := Compare_f a0 a1 a2 b0 b1 b2
      simp only [List.nil_append] at h1 h2 h3
      refine ⟨K1 + K2 + K3 + 1, fun k hk => ?_⟩
      obtain ⟨m, rfl⟩ : ∃ m, k = m + 1 := ⟨k - 1, by omega⟩
      simp only [antipodelaw7_ValueKeys.j0, Bool.false_eq_true, if_false]
      rw [h1 _ (by omega), h2 _ (by omega), h3 _ (by omega)]
      simp only [Option.bind_some, fieldsEq, strOf_by8, strOf_size, ext_take, bl_cb]
      by_cases e : a0 = b0 ∧ a1 = b1 ∧ a2 = b2
      · obtain ⟨rfl, rfl, rfl⟩ := e
        have hz : cmpV a0 a1 a2 a0 a1 a2 = 0 := by
          unfold cmpV cmpI orI
          simp [(cb_eq a2.data.toList a2.data.toList).2 rfl]
        have hs : Lib.compareBytes (by8 (keyL a0 a1 a2)) (by8 (keyL a0 a1 a2)) = 0 := (cb_eq _ _).2 rfl
        rw [hz, hs]
        simp
      · obtain ⟨d1, d2, d3⟩ := (diff_key a0 a1 a2 b0 b1 b2 ma mb ha0 ha1 hb0 hb1 e).cb
        rw [decide_eq_false e, d1]
        have hxy : (by8 (keyL a0 a1 a2) == by8 (keyL b0 b1 b2)) = false := beq_eq_false_iff_ne.2 fun h => d2 (by rw [← d1]; exact (cb_eq _ _).2 h)
        have hc : (cmpV a0 a1 a2 b0 b1 b2 == 0) = false := beq_eq_false_iff_ne.2 d2
        rw [hxy, hc]
        simp only [beq_self_eq_true, if_true, Bool.false_eq_true, if_false]
        have hmn : mn ((keyL a0 a1 a2).length : Int) ((keyL b0 b1 b2).length : Int) = ((min (keyL a0 a1 a2).length (keyL b0 b1 b2).length : Nat) : Int) := by unfold mn; split <;> omega
        rw [hmn, if_pos (by omega), if_pos (by omega), if_pos (by omega)]
        congr 1
        exact bne_iff_ne.2 (d3 _ (by simp))
  have e1 := May_f a0 a1 a2
  have e2 := May_f b0 b1 b2
  obtain ⟨K1, g1⟩ := hj true (by simp)
  simp only at g1
  by_cases ma : mayV a0 a1 a2
  · by_cases mb : mayV b0 b1 b2
    · obtain ⟨K2, g2⟩ := hj false (fun _ => ⟨ma, mb⟩)
      refine ⟨K0 + K2, ?_⟩
      unfold antipodelaw7_ValueKeys.f
      rw [h0 _ (by omega), e1, e2, decide_eq_true ma, decide_eq_true mb]
      simp only [Option.bind_some, if_true]
      exact g2 _ (by omega)
    · refine ⟨K0 + K1, ?_⟩
      unfold antipodelaw7_ValueKeys.f
      rw [h0 _ (by omega), e1, e2, decide_eq_true ma, decide_eq_false mb]
      simp only [Option.bind_some, if_true]
      exact g1 _ (by omega)
  · refine ⟨K0 + K1, ?_⟩
    unfold antipodelaw7_ValueKeys.f
    rw [h0 _ (by omega), e1, decide_eq_false ma]
    simp only [Option.bind_some, if_true, Bool.false_eq_true, if_false]
    exact g1 _ (by omega)
end Go.Proofs.YtcflmkklpehmmaaDoor.Pure
