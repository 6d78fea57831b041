/- What Plain writes, as a list. -/
import Derived.Test.YtcflmkklpehmmaaDoorPLx17
import Derived.Test.YtcflmkklpehmmaaDoorSpecK
namespace Go.Proofs.YtcflmkklpehmmaaDoor.Pure
open Go.RowKit Go.Proofs.YtcflmkklpehmmaaDoor.PL Go.Proofs.YtcflmkklpehmmaaDoorW.PrintWords Go.Proofs.YtcflmkklpehmmaaDoorW.PrintLast
set_option linter.unusedVariables false
set_option linter.unusedSimpArgs false
theorem w64 {x : Int} (h0 : -9223372036854775808 ≤ x) (h : x ≤ 9223372036854775807) : wrap64 x = x := by unfold wrap64; omega
theorem u64w {x : Int} (h0 : 0 ≤ x) (h : x < 18446744073709551616) : IntKind.u64.wrap x = x := by rw [IntKind.wrap_u64]; omega
/-! seven bits a byte -/
def varL (u : Nat) : List Int := if u < 128 then [(u : Int)] else ((u % 128 + 128 : Nat) : Int) :: varL (u / 128)
termination_by u
decreasing_by omega
theorem or128 (u : Nat) : Go.bits .or .u8 ((u : Int) % 256) 128 = ((u % 128 + 128 : Nat) : Int) := by
  have h := (bits_nat .u8 8 (by decide) wraps_u8 (u % 256) 128 (by omega) (by decide)).2
  have h2 := Lib.or128_nat ⟨u % 256, by omega⟩
  simp only at h2
  rw [show ((u : Int) % 256) = ((u % 256 : Nat) : Int) by omega]
  refine h.trans ?_
  rw [h2]
  omega
theorem Var_l0 : ∀ (d u : Nat) (acc : List Int), u < 128 ^ (d + 1) → acc.length + d ≤ 17179869184 → Ev (fun k => bits_Var.l0 k (u : Int) acc) (acc ++ varL u) := by
  intro d
  induction d with
  | zero =>
    intro u acc hu hl
    refine Ev.step (f := fun _ => some (acc ++ varL u)) (fun k => ?_) (evk _)
    rw [bits_Var.l0, if_neg (by omega), if_pos (by omega), varL, if_pos (by omega), show ((u : Int) % 256) = u by omega]
  | succ d ih =>
    intro u acc hu hl
    by_cases h : u < 128
    · refine Ev.step (f := fun _ => some (acc ++ varL u)) (fun k => ?_) (evk _)
      rw [bits_Var.l0, if_neg (by omega), if_pos (by omega), varL, if_pos h, show ((u : Int) % 256) = u by omega]
    · have := ih (u / 128) (acc ++ [((u % 128 + 128 : Nat) : Int)]) (by rw [Nat.pow_succ] at hu; omega) (by simp; omega)
      refine Ev.step (f := fun k => bits_Var.l0 k ((u / 128 : Nat) : Int) (acc ++ [((u % 128 + 128 : Nat) : Int)])) (fun k => ?_) ?_
      · rw [bits_Var.l0, if_pos (by omega), if_pos (by omega), or128, show ((u : Int) / 128) = ((u / 128 : Nat) : Int) by omega]
      · rw [varL, if_neg h]
        simpa using this
theorem Var_f (l : List Int) (u : Nat) (hu : u < 18446744073709551616) (hl : l.length ≤ 4294967296) : Ev (fun k => bits_Var.f k l (u : Int)) (l ++ varL u) := by
  unfold bits_Var.f bits_room.f
  refine Ev.congr (f := fun k => bits_Var.l0 k (u : Int) l) (fun k => ?_) (Var_l0 9 u l (by omega) (by omega))
  rw [if_pos ⟨by decide, by decide, hl⟩]
  rfl
theorem varL_length : ∀ (d u : Nat), u < 128 ^ (d + 1) → (varL u).length ≤ d + 1 := by
  intro d
  induction d with
  | zero => intro u hu; rw [varL, if_pos (by omega)]; simp
  | succ d ih =>
    intro u hu
    rw [varL]
    split
    · simp
    · have := ih (u / 128) (by rw [Nat.pow_succ] at hu; omega)
      simp; omega
/-! the signs -/
theorem u64w_neg {x : Int} (h0 : -18446744073709551616 ≤ x) (h : x < 0) : IntKind.u64.wrap x = x + 18446744073709551616 := by rw [IntKind.wrap_u64]; omega
theorem xor_comm (k : IntKind) (a b : Int) : Go.bits .xor k a b = Go.bits .xor k b a := by
  unfold Go.bits
  simp only [BitVec.xor_comm]
theorem Zig_f (n : Int) (h0 : -9223372036854775808 ≤ n) (h1 : n ≤ 9223372036854775807) : bits_Zig.f n = some ((Lib.zigzag n : Nat) : Int) := by
  unfold bits_Zig.f
  refine congrArg some ?_
  by_cases h : n < 0
  · have e : n / 9223372036854775808 = -1 := by omega
    rw [e, xor_comm]
    exact Lib.zigzag_neg h0 h
  · have e : n / 9223372036854775808 = 0 := by omega
    rw [e, Lib.zigzag_nonneg (by omega), u64w (x := n) (by omega) (by omega), u64w (x := n * 2) (by omega) (by omega)]
    obtain ⟨m, rfl⟩ := Int.eq_ofNat_of_zero_le (show 0 ≤ n by omega)
    have := bits_xor_u64_nat (m * 2) 0 (by omega) (by decide)
    rw [Nat.xor_zero] at this
    rw [show ((m : Int) * 2) = ((m * 2 : Nat) : Int) by omega]
    exact this
/-! Plain -/
def plainL (k n : Int) (s : ByteArray) : List Int := k :: (if k = 1 then [n] else if k = 2 then varL (Lib.zigzag n) else if k = 3 then varL s.size ++ numsB s else [])
theorem Text_f (l : List Int) (s : ByteArray) (hs : s.size ≤ 4294967296) (hl : l.length ≤ 4294967296) : Ev (fun k => bits_Text_s.f k l s) (l ++ varL s.size ++ numsB s) := by
  refine Ev.congr (f := fun k => bits_Text.f k l (numsB s)) (fun k => by unfold bits_Text_s.f; rw [if_pos hs]) ?_
  unfold bits_Text.f
  rw [numsB_length, u64w (by omega) (by omega)]
  refine Ev.bind (Var_f l s.size (by omega) hl) (ev_eq fun k => ?_)
  have := varL_length 9 s.size (by omega)
  rw [if_pos (by simp; omega)]
theorem Plain_f (l : List Int) (k n : Int) (s : ByteArray) (hl : l.length ≤ 1048576) (h0 : -9223372036854775808 ≤ n) (h1 : n ≤ 9223372036854775807) (hm : mayV k n s) : Ev (fun m => value_Plain.f m l k n s) (l ++ plainL k n s) := by
  have hk : k = 0 ∨ k = 1 ∨ k = 2 ∨ k = 3 := by unfold mayV at hm; omega
  have hk256 : k % 256 = k := by omega
  have hd : decide (mayV k n s) = true := decide_eq_true hm
  rcases hk with rfl | rfl | rfl | rfl
  · refine ev_eq (fun m => ?_)
    unfold value_Plain.f
    simp only [Option.bind_some, List.nil_append, List.length_nil, May_f, hd, if_true]
    rw [if_pos (by omega), if_pos (by omega), if_neg (by decide), if_neg (by decide), if_neg (by decide)]
    simp [plainL]
  · have hn : n % 256 = n := by unfold mayV at hm; omega
    refine ev_eq (fun m => ?_)
    unfold value_Plain.f
    simp only [Option.bind_some, List.nil_append, List.length_nil, May_f, hd, if_true]
    rw [if_pos (by omega), if_pos (by omega), if_pos (by simp; omega), hn]
    simp [plainL]
  · refine Ev.congr (f := fun m => (bits_Var.f m (l ++ [2]) ((Lib.zigzag n : Nat) : Int)).bind fun t => some t) (fun m => ?_) ?_
    · unfold value_Plain.f
      simp only [Option.bind_some, List.nil_append, List.length_nil, May_f, hd, if_true]
      rw [if_pos (by omega), if_pos (by omega), if_neg (by decide), Zig_f n h0 h1]
      rfl
    · have := Ev.bind (f := fun _ t => some t) (Var_f (l ++ [2]) (Lib.zigzag n) (Lib.zigzag_lt h0 h1) (by simp; omega)) (evk _)
      simpa [plainL] using this
  · have hs : s.size ≤ 64 := by unfold mayV at hm; omega
    refine Ev.congr (f := fun m => (bits_Text_s.f m (l ++ [3]) s).bind fun t => some t) (fun m => ?_) ?_
    · unfold value_Plain.f
      simp only [Option.bind_some, List.nil_append, List.length_nil, May_f, hd, if_true]
      rw [if_pos (by omega), if_pos (by omega), if_neg (by decide), if_neg (by decide)]
      rfl
    · have := Ev.bind (f := fun _ t => some t) (Text_f (l ++ [3]) s (by omega) (by simp; omega)) (evk _)
      simpa [plainL] using this
theorem Plain_no (l : List Int) (k n : Int) (s : ByteArray) (hl : l.length ≤ 1048576) (hm : ¬ mayV k n s) : Ev (fun m => value_Plain.f m l k n s) l := by
  have hd : decide (mayV k n s) = false := decide_eq_false hm
  refine ev_eq (fun m => ?_)
  unfold value_Plain.f
  simp only [Option.bind_some, List.nil_append, List.length_nil, May_f, hd]
  rw [if_pos (by omega), if_neg (by decide)]
end Go.Proofs.YtcflmkklpehmmaaDoor.Pure
