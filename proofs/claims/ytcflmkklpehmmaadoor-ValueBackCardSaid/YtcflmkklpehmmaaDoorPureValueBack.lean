/- ValueBack: a value that may be is read as it was written, either way, whatever stands behind it. -/
import Derived.Test.YtcflmkklpehmmaaDoorPLx38
import Derived.Test.YtcflmkklpehmmaaDoorSpecP
namespace Go.Proofs.YtcflmkklpehmmaaDoor.Pure
open Go.RowKit Go.Proofs.YtcflmkklpehmmaaDoor.PL Go.Proofs.YtcflmkklpehmmaaDoorW.PrintWords Go.Proofs.YtcflmkklpehmmaaDoorW.PrintLast
set_option linter.unusedVariables false
set_option linter.unusedSimpArgs false
theorem keyL_length (k n : Int) (s : ByteArray) (hm : mayV k n s) : (keyL k n s).length ≤ 140 := by
  have h := escL_length (numsB s)
  rw [numsB_length] at h
  unfold keyL
  unfold mayV at hm
  rw [List.length_cons]
  split
  · simp
  · split
    · simp [be8]
    · split
      · simp; omega
      · simp
theorem plainL_length (k n : Int) (s : ByteArray) (hm : mayV k n s) (h0 : -9223372036854775808 ≤ n) (h1 : n ≤ 9223372036854775807) : (plainL k n s).length ≤ 80 := by
  have hz := varL_length 9 (Lib.zigzag n) (by have := Lib.zigzag_lt h0 h1; omega)
  have hs : s.size ≤ 64 := by unfold mayV at hm; omega
  have hv := varL_length 9 s.size (by omega)
  unfold plainL
  rw [List.length_cons]
  split
  · simp
  · split
    · omega
    · split
      · simp [numsB_length]; omega
      · simp
theorem ValueBack (a0 a1 : Int) (a2 : ByteArray) (bl : List Int) (ha0 : -9223372036854775808 ≤ a1) (ha1 : a1 ≤ 9223372036854775807) (hb : ∀ x ∈ bl, 0 ≤ x ∧ x < 256) :
    ∃ k, antipodelaw7_ValueBack.f k a0 a1 a2 bl = some true := by
  obtain ⟨K0, h0⟩ := begun_f
  simp only at h0
  have hj : ∀ x : Bool, (x = false → mayV a0 a1 a2 ∧ bl.length ≤ 1024) → Ev (fun k => antipodelaw7_ValueBack.j0 k bl x a0 a1 a2) true := by
    intro x hx
    cases x with
    | true => exact Ev.step (f := fun _ => some true) (fun k => by simp [antipodelaw7_ValueBack.j0]) (evk _)
    | false =>
      obtain ⟨ma, hbl⟩ := hx rfl
      have l1 := keyL_length a0 a1 a2 ma
      have l2 := plainL_length a0 a1 a2 ma ha0 ha1
      obtain ⟨K1, h1⟩ := Key_f [] a0 a1 a2 (by simp) ha0 ha1 ma
      obtain ⟨K2, h2⟩ := Plain_f [] a0 a1 a2 (by simp) ha0 ha1 ma
      obtain ⟨K3, h3⟩ := TakeKey_back a0 a1 a2 bl ma ha0 ha1 (by omega)
      obtain ⟨K4, h4⟩ := Take_back a0 a1 a2 bl ma ha0 ha1 (by omega)
      simp only [List.nil_append] at h1 h2 h3 h4
      refine ⟨K1 + K2 + K3 + K4 + 1, fun k hk => ?_⟩
      obtain ⟨m, rfl⟩ : ∃ m, k = m + 1 := ⟨k - 1, by omega⟩
      simp only [antipodelaw7_ValueBack.j0, Bool.false_eq_true, if_false]
      rw [h1 _ (by omega), h2 _ (by omega)]
      simp only [Option.bind_some]
      rw [if_pos (by omega), h3 _ (by omega)]
      simp only [Option.bind_some]
      rw [if_pos (by omega), h4 _ (by omega)]
      simp
  obtain ⟨K1, g1⟩ := hj true (by simp)
  simp only at g1
  have e1 := May_f a0 a1 a2
  by_cases ma : mayV a0 a1 a2
  · by_cases hl : (bl.length : Int) > 1024
    · refine ⟨K0 + K1, ?_⟩
      unfold antipodelaw7_ValueBack.f
      rw [h0 _ (by omega), e1, decide_eq_true ma, decide_eq_true hl]
      simp only [Option.bind_some, if_true]
      exact g1 _ (by omega)
    · obtain ⟨K2, g2⟩ := hj false (fun _ => ⟨ma, by omega⟩)
      refine ⟨K0 + K2, ?_⟩
      unfold antipodelaw7_ValueBack.f
      rw [h0 _ (by omega), e1, decide_eq_true ma, decide_eq_false hl]
      simp only [Option.bind_some, if_true]
      exact g2 _ (by omega)
  · refine ⟨K0 + K1, ?_⟩
    unfold antipodelaw7_ValueBack.f
    rw [h0 _ (by omega), e1, decide_eq_false ma]
    simp only [Option.bind_some, if_true, Bool.false_eq_true, if_false]
    exact g1 _ (by omega)
end Go.Proofs.YtcflmkklpehmmaaDoor.Pure
