/- ValueOrder: values that may be stand in a line. -/
import Derived.Test.YtcflmkklpehmmaaDoorPLx15
namespace Go.Proofs.YtcflmkklpehmmaaDoor.Pure
open Go.RowKit Go.Proofs.YtcflmkklpehmmaaDoor.PL Go.Proofs.YtcflmkklpehmmaaDoorW.PrintWords Go.Proofs.YtcflmkklpehmmaaDoorW.PrintLast
set_option linter.unusedVariables false
set_option linter.unusedSimpArgs false
theorem evs {α : Type} (r : α) : Ev (fun _ => some r) r := ⟨0, fun _ _ => rfl⟩
theorem ev_of_eq {α : Type} {g f : Nat → Option α} {r : α} (h : ∀ k, g k = f k) (e : Ev f r) : Ev g r := by
  obtain ⟨K, hK⟩ := e
  exact ⟨K, fun k hk => (h k).trans (hK k hk)⟩
set_option maxRecDepth 100000 in
theorem begun_f : Ev (fun n => antipodelaw7_begun.f n) true := Ev.of (k := 100) (fun k => antipodelaw7_begun.mono k) (by decide +kernel)
/-- The order of values. -/
def cmpI (a b : Int) : Int := if a < b then -1 else if a > b then 1 else 0
def orI (a b : Int) : Int := if a = 0 then b else a
def cmpV (a0 a1 : Int) (a2 : ByteArray) (b0 b1 : Int) (b2 : ByteArray) : Int := orI (cmpI a0 b0) (orI (cmpI a1 b1) (Lib.compareBytes a2.data.toList b2.data.toList))
theorem cmp_int (a b : Int) : cmp_Compare_int.f a b = some (cmpI a b) := by
  unfold cmp_Compare_int.f cmp_isNaN_int.f cmpI
  simp only [Option.bind_some, bne_self_eq_false, Bool.false_eq_true, if_false]
  repeat' split
  all_goals first | rfl | omega
theorem cmp_int64 (a b : Int) : cmp_Compare_int64.f a b = some (cmpI a b) := by
  unfold cmp_Compare_int64.f cmp_isNaN_int64.f cmpI
  simp only [Option.bind_some, bne_self_eq_false, Bool.false_eq_true, if_false]
  repeat' split
  all_goals first | rfl | omega
theorem or_f (a b c : Int) : cmp_Or_int.f 5 [a, b, c] = some (orI a (orI b c)) := by
  unfold cmp_Or_int.f orI
  simp only [cmp_Or_int.l0, rd, wrap64]
  by_cases h : a = 0 <;> by_cases h2 : b = 0 <;> by_cases h3 : c = 0 <;> simp [h, h2, h3]
theorem Compare_f (a0 a1 : Int) (a2 : ByteArray) (b0 b1 : Int) (b2 : ByteArray) : Ev (fun n => value_Compare.f n a0 a1 a2 b0 b1 b2) (cmpV a0 a1 a2 b0 b1 b2) := by
  unfold value_Compare.f
  refine ev_of_eq (fun k => by rw [cmp_int, cmp_int64]; rfl) (Ev.bind (f := fun _ t => some t) (Ev.of (k := 5) (fun k => cmp_Or_int.mono _ k) (or_f (cmpI a0 b0) (cmpI a1 b1) (Lib.compareBytes a2.data.toList b2.data.toList))) (evs _))
/-! the order of texts -/
theorem cb_range : ∀ a b : List UInt8, Lib.compareBytes a b = -1 ∨ Lib.compareBytes a b = 0 ∨ Lib.compareBytes a b = 1 := by
  intro a
  induction a with
  | nil => intro b; cases b <;> simp [Lib.compareBytes]
  | cons x t ih =>
    intro b
    cases b with
    | nil => simp [Lib.compareBytes]
    | cons y s =>
      simp only [Lib.compareBytes]
      split
      · simp
      · split
        · simp
        · exact ih s
theorem cb_swap : ∀ a b : List UInt8, Lib.compareBytes a b = - Lib.compareBytes b a := by
  intro a
  induction a with
  | nil => intro b; cases b <;> simp [Lib.compareBytes]
  | cons x t ih =>
    intro b
    cases b with
    | nil => simp [Lib.compareBytes]
    | cons y s =>
      simp only [Lib.compareBytes, UInt8.lt_iff_toNat_lt]
      by_cases h : x.toNat < y.toNat
      · rw [if_pos h, if_neg (by omega), if_pos h]
      · by_cases h2 : y.toNat < x.toNat
        · rw [if_neg h, if_pos h2, if_pos h2]; rfl
        · rw [if_neg h, if_neg h2, if_neg h2, if_neg h]; exact ih s
theorem cb_eq : ∀ a b : List UInt8, Lib.compareBytes a b = 0 ↔ a = b := by
  intro a
  induction a with
  | nil => intro b; cases b <;> simp [Lib.compareBytes]
  | cons x t ih =>
    intro b
    cases b with
    | nil => simp [Lib.compareBytes]
    | cons y s =>
      simp only [Lib.compareBytes, UInt8.lt_iff_toNat_lt, List.cons.injEq]
      by_cases h : x.toNat < y.toNat
      · rw [if_pos h]; constructor
        · intro e; cases e
        · intro e; rw [e.1] at h; omega
      · by_cases h2 : y.toNat < x.toNat
        · rw [if_neg h, if_pos h2]; constructor
          · intro e; cases e
          · intro e; rw [e.1] at h2; omega
        · rw [if_neg h, if_neg h2, ih s]
          have : x = y := UInt8.toNat_inj.1 (by omega)
          simp [this]
theorem cb_trans : ∀ a b c : List UInt8, Lib.compareBytes a b ≤ 0 → Lib.compareBytes b c ≤ 0 → Lib.compareBytes a c ≤ 0 := by
  intro a
  induction a with
  | nil => intro b c; cases c <;> simp [Lib.compareBytes]
  | cons x t ih =>
    intro b c
    cases b with
    | nil => simp [Lib.compareBytes]
    | cons y s =>
      cases c with
      | nil => simp [Lib.compareBytes]
      | cons z u =>
        simp only [Lib.compareBytes, UInt8.lt_iff_toNat_lt]
        have := ih s u
        repeat' split
        all_goals first | omega | (intro h1 h2; first | omega | exact this h1 h2)
theorem bl_cb : ∀ a b : List UInt8, Op.bytesLess a b = decide (Lib.compareBytes a b < 0) := by
  intro a
  induction a with
  | nil => intro b; cases b <;> simp [Lib.compareBytes, Op.bytesLess]
  | cons x t ih =>
    intro b
    cases b with
    | nil => simp [Lib.compareBytes, Op.bytesLess]
    | cons y s =>
      simp only [Lib.compareBytes, Op.bytesLess, UInt8.lt_iff_toNat_lt, ih s]
      by_cases h : x.toNat < y.toNat
      · simp [h]
      · by_cases h2 : y.toNat < x.toNat
        · have : x ≠ y := fun e => by rw [e] at h2; omega
          simp [h, h2, this]
        · have : x = y := UInt8.toNat_inj.1 (by omega)
          simp [this]
theorem ref_f (a0 a1 : Int) (a2 : ByteArray) (b0 b1 : Int) (b2 : ByteArray) : antipoderef7_Compare.f a0 a1 a2 b0 b1 b2 = some (cmpV a0 a1 a2 b0 b1 b2) := by
  unfold antipoderef7_Compare.f antipoderef7_sign.f cmpV orI cmpI
  rw [Lib.toList_data, Lib.toList_data, bl_cb]
  have hr := cb_range a2.data.toList b2.data.toList
  have he := cb_eq a2.data.toList b2.data.toList
  by_cases h0 : a0 = b0
  · subst h0
    rw [if_pos rfl]
    by_cases h1 : a1 = b1
    · subst h1
      rw [if_pos rfl]
      by_cases h2 : a2.data.toList = b2.data.toList
      · rw [if_pos h2]
        simp [he.2 h2]
      · rw [if_neg h2]
        have hn : Lib.compareBytes a2.data.toList b2.data.toList ≠ 0 := fun e => h2 (he.1 e)
        rcases hr with h | h | h
        · simp [h]
        · exact absurd h hn
        · simp [h]
    · rw [if_neg h1]
      by_cases h3 : a1 < b1
      · simp [h3]
      · have h4 : a1 > b1 := by omega
        simp [h3, h4]
  · rw [if_neg h0]
    by_cases h3 : a0 < b0
    · simp [h3]
    · have h4 : a0 > b0 := by omega
      simp [h3, h4]
theorem cmpV_range (a0 a1 : Int) (a2 : ByteArray) (b0 b1 : Int) (b2 : ByteArray) : -1 ≤ cmpV a0 a1 a2 b0 b1 b2 ∧ cmpV a0 a1 a2 b0 b1 b2 ≤ 1 := by
  have hr := cb_range a2.data.toList b2.data.toList
  unfold cmpV orI cmpI
  repeat' split
  all_goals omega
theorem cmpV_swap (a0 a1 : Int) (a2 : ByteArray) (b0 b1 : Int) (b2 : ByteArray) : cmpV a0 a1 a2 b0 b1 b2 = - cmpV b0 b1 b2 a0 a1 a2 := by
  have hs := cb_swap a2.data.toList b2.data.toList
  unfold cmpV orI cmpI
  repeat' split
  all_goals omega
theorem cmpV_trans (a0 a1 : Int) (a2 : ByteArray) (b0 b1 : Int) (b2 : ByteArray) (c0 c1 : Int) (c2 : ByteArray) (h1 : cmpV a0 a1 a2 b0 b1 b2 ≤ 0) (h2 : cmpV b0 b1 b2 c0 c1 c2 ≤ 0) : cmpV a0 a1 a2 c0 c1 c2 ≤ 0 := by
  have ht := cb_trans a2.data.toList b2.data.toList c2.data.toList
  unfold cmpV orI cmpI at *
  by_cases p : a0 < b0
  · by_cases q : c0 < b0 <;> by_cases q2 : b0 < c0 <;> simp_all <;> (repeat' split) <;> omega
  · repeat' split
    all_goals (first | omega | (repeat' split at h1) <;> (repeat' split at h2) <;> omega)
theorem may_some (a0 a1 : Int) (a2 : ByteArray) : ∃ m, value_May.f a0 a1 a2 = some m := by
  unfold value_May.f
  repeat' split
  all_goals exact ⟨_, rfl⟩
theorem ValueOrder (a0 a1 : Int) (a2 : ByteArray) (b0 b1 : Int) (b2 : ByteArray) (c0 c1 : Int) (c2 : ByteArray) : ∃ k, antipodelaw7_ValueOrder.f k a0 a1 a2 b0 b1 b2 c0 c1 c2 = some true := by
  obtain ⟨K0, h0⟩ := begun_f
  obtain ⟨K1, h1⟩ := Compare_f a0 a1 a2 b0 b1 b2
  obtain ⟨K2, h2⟩ := Compare_f b0 b1 b2 a0 a1 a2
  obtain ⟨K3, h3⟩ := Compare_f b0 b1 b2 c0 c1 c2
  obtain ⟨K4, h4⟩ := Compare_f a0 a1 a2 c0 c1 c2
  have hr := cmpV_range a0 a1 a2 b0 b1 b2
  have hs := cmpV_swap a0 a1 a2 b0 b1 b2
  have ht := cmpV_trans a0 a1 a2 b0 b1 b2 c0 c1 c2
  simp only at h0 h1 h2 h3 h4
  have hw : wrap64 (- cmpV b0 b1 b2 a0 a1 a2) = - cmpV b0 b1 b2 a0 a1 a2 := by unfold wrap64; omega
  have hj : ∀ x : Bool, antipodelaw7_ValueOrder.j0 (K0 + K1 + K2 + K3 + K4 + 1) x a0 a1 a2 b0 b1 b2 c0 c1 c2 = some true := by
    intro x
    simp only [antipodelaw7_ValueOrder.j0]
    cases x
    · simp only [Bool.false_eq_true, if_false]
      rw [h1 _ (by omega), h2 _ (by omega), h3 _ (by omega), h4 _ (by omega), ref_f]
      simp only [Option.bind_some]
      rw [if_pos hr.1, if_pos hr.2, hw, if_pos hs, if_pos True.intro]
      split
      · split
        · rw [decide_eq_false (by rename_i p q; have := ht p q; omega)]; rfl
        · rfl
      · rfl
    · rfl
  obtain ⟨m1, e1⟩ := may_some a0 a1 a2
  obtain ⟨m2, e2⟩ := may_some b0 b1 b2
  obtain ⟨m3, e3⟩ := may_some c0 c1 c2
  refine ⟨K0 + K1 + K2 + K3 + K4 + 1, ?_⟩
  unfold antipodelaw7_ValueOrder.f
  rw [h0 _ (by omega), e1, e2, e3]
  simp only [Option.bind_some, if_true, hj]
  repeat' split
  all_goals rfl
end Go.Proofs.YtcflmkklpehmmaaDoor.Pure
