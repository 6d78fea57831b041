/- What Plain writes, and that Take reads it. -/
import Derived.Test.YtcflmkklpehmmaaDoorSpecB
namespace Go.Proofs.YtcflmkklpehmmaaDoor.Pure
open Go.RowKit Go.Proofs.YtcflmkklpehmmaaDoor.PL Go.Proofs.YtcflmkklpehmmaaDoorW.PrintWords Go.Proofs.YtcflmkklpehmmaaDoorW.PrintLast
set_option linter.unusedVariables false
set_option linter.unusedSimpArgs false
/-! seven bits a byte -/
def varL (u : Nat) : List Int := if u < 128 then [(u : Int)] else ((u % 128 + 128 : Nat) : Int) :: varL (u / 128)
termination_by u
decreasing_by omega
theorem or128 (u : Nat) : Go.bits .or .u8 ((u : Int) % 256) 128 = ((u % 128 + 128 : Nat) : Int) := by
  have h := (bits_nat .u8 8 (by decide) wraps_u8 (u % 256) 128 (by omega) (by decide)).2
  have h2 := Lib.or128_nat ⟨u % 256, by omega⟩
  simp only at h2
  rw [show ((u : Int) % 256) = ((u % 256 : Nat) : Int) by omega]
  refine h.trans ?_
  rw [h2]
  omega
theorem Var_l0 : ∀ (d u : Nat) (acc : List Int), u < 128 ^ (d + 1) → acc.length + d ≤ 17179869184 → Ev (fun k => bits_Var.l0 k (u : Int) acc) (acc ++ varL u) := by
  intro d
  induction d with
  | zero =>
    intro u acc hu hl
    refine Ev.step (f := fun _ => some (acc ++ varL u)) (fun k => ?_) (evk _)
    rw [bits_Var.l0, if_neg (by omega), if_pos (by omega), varL, if_pos (by omega), show ((u : Int) % 256) = u by omega]
  | succ d ih =>
    intro u acc hu hl
    by_cases h : u < 128
    · refine Ev.step (f := fun _ => some (acc ++ varL u)) (fun k => ?_) (evk _)
      rw [bits_Var.l0, if_neg (by omega), if_pos (by omega), varL, if_pos h, show ((u : Int) % 256) = u by omega]
    · have := ih (u / 128) (acc ++ [((u % 128 + 128 : Nat) : Int)]) (by rw [Nat.pow_succ] at hu; omega) (by simp; omega)
      refine Ev.step (f := fun k => bits_Var.l0 k ((u / 128 : Nat) : Int) (acc ++ [((u % 128 + 128 : Nat) : Int)])) (fun k => ?_) ?_
      · rw [bits_Var.l0, if_pos (by omega), if_pos (by omega), or128, show ((u : Int) / 128) = ((u / 128 : Nat) : Int) by omega]
      · rw [varL, if_neg h]
        simpa using this
theorem Var_f (l : List Int) (u : Nat) (hu : u < 18446744073709551616) (hl : l.length ≤ 4294967296) : Ev (fun k => bits_Var.f k l (u : Int)) (l ++ varL u) := by
  unfold bits_Var.f bits_room.f
  refine Ev.congr (f := fun k => bits_Var.l0 k (u : Int) l) (fun k => ?_) (Var_l0 9 u l (by omega) (by omega))
  rw [if_pos ⟨by decide, by decide, hl⟩]
  rfl
theorem varL_length : ∀ (d u : Nat), u < 128 ^ (d + 1) → (varL u).length ≤ d + 1 := by
  intro d
  induction d with
  | zero => intro u hu; rw [varL, if_pos (by omega)]; simp
  | succ d ih =>
    intro u hu
    rw [varL]
    split
    · simp
    · have := ih (u / 128) (by rw [Nat.pow_succ] at hu; omega)
      simp; omega
/-! the signs -/
theorem u64w_neg {x : Int} (h0 : -18446744073709551616 ≤ x) (h : x < 0) : IntKind.u64.wrap x = x + 18446744073709551616 := by rw [IntKind.wrap_u64]; omega
theorem xor_comm (k : IntKind) (a b : Int) : Go.bits .xor k a b = Go.bits .xor k b a := by
  unfold Go.bits
  simp only [BitVec.xor_comm]
theorem Zig_f (n : Int) (h0 : -9223372036854775808 ≤ n) (h1 : n ≤ 9223372036854775807) : bits_Zig.f n = some ((Lib.zigzag n : Nat) : Int) := by
  unfold bits_Zig.f
  refine congrArg some ?_
  by_cases h : n < 0
  · have e : n / 9223372036854775808 = -1 := by omega
    rw [e, xor_comm]
    exact Lib.zigzag_neg h0 h
  · have e : n / 9223372036854775808 = 0 := by omega
    rw [e, Lib.zigzag_nonneg (by omega), u64w (x := n) (by omega) (by omega), u64w (x := n * 2) (by omega) (by omega)]
    obtain ⟨m, rfl⟩ := Int.eq_ofNat_of_zero_le (show 0 ≤ n by omega)
    have := bits_xor_u64_nat (m * 2) 0 (by omega) (by decide)
    rw [Nat.xor_zero] at this
    rw [show ((m : Int) * 2) = ((m * 2 : Nat) : Int) by omega]
    exact this
def zagI (u : Nat) : Int := if u % 2 = 0 then (u : Int) / 2 else -((u : Int) / 2) - 1
theorem Zag_f (u : Nat) (hu : u < 18446744073709551616) : bits_Zag.f (u : Int) = some (zagI u) := by
  unfold bits_Zag.f zagI
  rw [Lib.u64_and1 _ (by omega) (by omega), w64 (x := (u : Int) / 2) (by omega) (by omega), w64 (x := (u : Int) % 2) (by omega) (by omega), w64 (x := -((u : Int) % 2)) (by omega) (by omega)]
  refine congrArg some ?_
  have e : ((u : Int) / 2) = ((u / 2 : Nat) : Int) := by omega
  by_cases h : u % 2 = 0
  · rw [if_pos h, show -((u : Int) % 2) = 0 by omega, e]
    unfold Go.bits
    have : (BitVec.ofInt 64 ((u / 2 : Nat) : Int)).toNat = u / 2 := by
      rw [BitVec.ofInt_natCast, BitVec.toNat_ofNat]; exact Nat.mod_eq_of_lt (by omega)
    show IntKind.i64.wrap ((BitVec.ofInt 64 ((u / 2 : Nat) : Int) ^^^ BitVec.ofInt 64 0).toNat : Int) = _
    rw [show BitVec.ofInt 64 0 = 0#64 by decide, BitVec.xor_zero, this, IntKind.wrap_i64]
    omega
  · rw [if_neg h, show -((u : Int) % 2) = -1 by omega, e, xor_comm, Lib.i64_not _ (by omega)]
theorem zag_zig (n : Int) : zagI (Lib.zigzag n) = n := by
  unfold zagI Lib.zigzag
  split <;> split <;> omega
/-! Plain -/
def plainL (k n : Int) (s : ByteArray) : List Int := k :: (if k = 1 then [n] else if k = 2 then varL (Lib.zigzag n) else if k = 3 then varL s.size ++ numsB s else [])
theorem Text_f (l : List Int) (s : ByteArray) (hs : s.size ≤ 4294967296) (hl : l.length ≤ 4294967296) : Ev (fun k => bits_Text_s.f k l s) (l ++ varL s.size ++ numsB s) := by
  refine Ev.congr (f := fun k => bits_Text.f k l (numsB s)) (fun k => by unfold bits_Text_s.f; rw [if_pos hs]) ?_
  unfold bits_Text.f
  rw [numsB_length, u64w (by omega) (by omega)]
  refine Ev.bind (Var_f l s.size (by omega) hl) (ev_eq fun k => ?_)
  have := varL_length 9 s.size (by omega)
  rw [if_pos (by simp; omega)]
theorem Plain_f (l : List Int) (k n : Int) (s : ByteArray) (hl : l.length ≤ 1048576) (h0 : -9223372036854775808 ≤ n) (h1 : n ≤ 9223372036854775807) (hm : mayV k n s) : Ev (fun m => value_Plain.f m l k n s) (l ++ plainL k n s) := by
  have hk : k = 0 ∨ k = 1 ∨ k = 2 ∨ k = 3 := by unfold mayV at hm; omega
  have hk256 : k % 256 = k := by omega
  have hd : decide (mayV k n s) = true := decide_eq_true hm
  rcases hk with rfl | rfl | rfl | rfl
  · refine ev_eq (fun m => ?_)
    unfold value_Plain.f
    simp only [Option.bind_some, List.nil_append, List.length_nil, May_f, hd, if_true]
    rw [if_pos (by omega), if_pos (by omega), if_neg (by decide), if_neg (by decide), if_neg (by decide)]
    simp [plainL]
  · have hn : n % 256 = n := by unfold mayV at hm; omega
    refine ev_eq (fun m => ?_)
    unfold value_Plain.f
    simp only [Option.bind_some, List.nil_append, List.length_nil, May_f, hd, if_true]
    rw [if_pos (by omega), if_pos (by omega), if_pos (by simp; omega), hn]
    simp [plainL]
  · refine Ev.congr (f := fun m => (bits_Var.f m (l ++ [2]) ((Lib.zigzag n : Nat) : Int)).bind fun t => some t) (fun m => ?_) ?_
    · unfold value_Plain.f
      simp only [Option.bind_some, List.nil_append, List.length_nil, May_f, hd, if_true]
      rw [if_pos (by omega), if_pos (by omega), if_neg (by decide), Zig_f n h0 h1]
      rfl
    · have := Ev.bind (f := fun _ t => some t) (Var_f (l ++ [2]) (Lib.zigzag n) (Lib.zigzag_lt h0 h1) (by simp; omega)) (evk _)
      simpa [plainL] using this
  · have hs : s.size ≤ 64 := by unfold mayV at hm; omega
    refine Ev.congr (f := fun m => (bits_Text_s.f m (l ++ [3]) s).bind fun t => some t) (fun m => ?_) ?_
    · unfold value_Plain.f
      simp only [Option.bind_some, List.nil_append, List.length_nil, May_f, hd, if_true]
      rw [if_pos (by omega), if_pos (by omega), if_neg (by decide), if_neg (by decide)]
      rfl
    · have := Ev.bind (f := fun _ t => some t) (Text_f (l ++ [3]) s (by omega) (by simp; omega)) (evk _)
      simpa [plainL] using this
theorem Plain_no (l : List Int) (k n : Int) (s : ByteArray) (hl : l.length ≤ 1048576) (hm : ¬ mayV k n s) : Ev (fun m => value_Plain.f m l k n s) l := by
  have hd : decide (mayV k n s) = false := decide_eq_false hm
  refine ev_eq (fun m => ?_)
  unfold value_Plain.f
  simp only [Option.bind_some, List.nil_append, List.length_nil, May_f, hd]
  rw [if_pos (by omega), if_neg (by decide)]
/-! a number back -/
theorem andNot_lo (b : Nat) (h : b < 128) : Go.bits .andNot .u8 (b : Int) 128 = (b : Int) := by
  have : ∀ b : Fin 128, Go.bits .andNot .u8 ((b.val : Nat) : Int) 128 = (b.val : Int) := by decide +kernel
  exact this ⟨b, h⟩
theorem andNot_hi (b : Nat) (h : b < 128) : Go.bits .andNot .u8 ((b + 128 : Nat) : Int) 128 = (b : Int) := by
  have : ∀ b : Fin 128, Go.bits .andNot .u8 ((b.val + 128 : Nat) : Int) 128 = (b.val : Int) := by decide +kernel
  exact this ⟨b, h⟩
theorem or_comm (k : IntKind) (a b : Int) : Go.bits .or k a b = Go.bits .or k b a := by
  unfold Go.bits
  simp only [BitVec.or_comm]
theorem or_shl (v c i : Nat) (hi : i ≤ 9) (hv : v < 2 ^ (7 * i)) (hc : c < 128) (ht : v + c * 2 ^ (7 * i) < 18446744073709551616) :
    Go.bits .or .u64 (v : Int) (shl .u64 (IntKind.u64.wrap (c : Int)) (IntKind.u64.wrap (wrap64 (7 * (i : Int))))) = ((v + c * 2 ^ (7 * i) : Nat) : Int) := by
  have e1 : IntKind.u64.wrap (c : Int) = c := u64w (by omega) (by omega)
  have e2 : IntKind.u64.wrap (wrap64 (7 * (i : Int))) = ((7 * i : Nat) : Int) := by rw [w64 (by omega) (by omega), u64w (by omega) (by omega)]; omega
  have e3 : shl .u64 (c : Int) ((7 * i : Nat) : Int) = ((c * 2 ^ (7 * i) : Nat) : Int) := by
    unfold shl
    rw [Int.toNat_natCast, Nat.min_eq_left (by show 7 * i ≤ 64; omega)]
    have : ((c : Int) * 2 ^ (7 * i)) = ((c * 2 ^ (7 * i) : Nat) : Int) := by simp
    rw [this, u64w (by omega) (by omega)]
  rw [e1, e2, e3, or_comm]
  have hp : (2 : Nat) ^ (7 * i) ≤ 2 ^ 63 := Nat.pow_le_pow_right (by decide) (by omega)
  have h := bits_join .u64 64 (by decide) wraps_u64 (7 * i) ((c * 2 ^ (7 * i) : Nat) : Int) (v : Int) (by omega) (by rw [show (2 : Int) ^ (7 * i) = ((2 ^ (7 * i) : Nat) : Int) by simp, ← Int.natCast_emod, Nat.mul_mod_left]; rfl) (by omega) (by omega) (by exact_mod_cast hv) (by omega)
  rw [h]
  omega
theorem takeVar_l0 (x rest : List Int) (hx : x.length ≤ 8589934592) : ∀ (d i v u : Nat), i + d = 9 → x.drop i = varL u ++ rest → v < 2 ^ (7 * i) → v + u * 2 ^ (7 * i) < 18446744073709551616 → (u = 0 → i = 0) →
    Ev (fun k => bits_TakeVar.l0 k (v : Int) x (x.length : Int) (i : Int)) (((v + u * 2 ^ (7 * i) : Nat) : Int), ((i + (varL u).length : Nat) : Int), 0) := by
  intro d
  induction d with
  | zero =>
    intro i v u hi h hv ht h0
    obtain rfl : i = 9 := by omega
    have hu : u < 128 := by omega
    rw [varL, if_pos hu] at h ⊢
    obtain ⟨r0, l0, d1, e0⟩ := rd_drop (show x.drop 9 = (u : Int) :: rest by simpa using h)
    have hs := or_shl v u 9 (by decide) hv hu ht
    have hj : ∀ k, bits_TakeVar.l0 (k + 2) (v : Int) x (x.length : Int) ((9 : Nat) : Int) = some (((v + u * 2 ^ (7 * 9) : Nat) : Int), ((9 + 1 : Nat) : Int), 0) := by
      intro k
      rw [bits_TakeVar.l0, if_pos (by omega), if_pos (by omega), if_pos (by omega), if_pos (by rfl), r0]
      rw [bits_TakeVar.j1, if_neg (by simp; omega)]
      have hi9 : 0 ≤ IntKind.u64.wrap (wrap64 (7 * ((9 : Nat) : Int))) := by rw [w64 (by omega) (by omega), u64w (by omega) (by omega)]; omega
      have hw : wrap64 (((9 : Nat) : Int) + 1) = ((9 + 1 : Nat) : Int) := by unfold wrap64; omega
      rw [if_pos hi9, if_neg (by omega), if_neg (by omega), andNot_lo u hu, hs, hw]
    exact ⟨2, fun k hk => by obtain ⟨m, rfl⟩ : ∃ m, k = m + 2 := ⟨k - 2, by omega⟩; exact hj m⟩
  | succ d ih =>
    intro i v u hi h hv ht h0
    have hi9 : (i : Int) ≠ 9 := by omega
    have hsh : 0 ≤ IntKind.u64.wrap (wrap64 (7 * (i : Int))) := by rw [w64 (by omega) (by omega), u64w (by omega) (by omega)]; omega
    by_cases hu : u < 128
    · rw [varL, if_pos hu] at h ⊢
      obtain ⟨r0, l0, d1, e0⟩ := rd_drop (show x.drop i = (u : Int) :: rest by simpa using h)
      have hs := or_shl v u i (by omega) hv hu ht
      have hj : ∀ k, bits_TakeVar.l0 (k + 2) (v : Int) x (x.length : Int) (i : Int) = some (((v + u * 2 ^ (7 * i) : Nat) : Int), ((i + 1 : Nat) : Int), 0) := by
        intro k
        rw [bits_TakeVar.l0, if_pos (by omega), if_pos (by omega), if_pos (by omega), if_neg hi9, r0]
        rw [bits_TakeVar.j1, if_neg (by decide), if_pos hsh, if_neg (by omega)]
        have hw : wrap64 ((i : Int) + 1) = ((i + 1 : Nat) : Int) := by unfold wrap64; omega
        by_cases z : (u : Int) = 0
        · have hi0 : ¬ (i : Int) > 0 := by
            have e := h0 (by exact_mod_cast z)
            rw [e]
            decide
          rw [if_pos z, if_neg hi0, andNot_lo u hu, hs, hw]
        · rw [if_neg z, andNot_lo u hu, hs, hw]
      exact ⟨2, fun k hk => by obtain ⟨m, rfl⟩ : ∃ m, k = m + 2 := ⟨k - 2, by omega⟩; exact hj m⟩
    · rw [varL, if_neg hu] at h ⊢
      obtain ⟨r0, l0, d1, e0⟩ := rd_drop (show x.drop i = ((u % 128 + 128 : Nat) : Int) :: (varL (u / 128) ++ rest) by simpa using h)
      have hq : u = u % 128 + 128 * (u / 128) := by omega
      have hp : 2 ^ (7 * (i + 1)) = 128 * 2 ^ (7 * i) := by
        have h7 : (2 : Nat) ^ 7 = 128 := by decide
        rw [show 7 * (i + 1) = 7 * i + 7 by omega, Nat.pow_add, h7, Nat.mul_comm]
      have hsum : v + u % 128 * 2 ^ (7 * i) + u / 128 * (128 * 2 ^ (7 * i)) = v + u * 2 ^ (7 * i) := by
        have : u * 2 ^ (7 * i) = u % 128 * 2 ^ (7 * i) + 128 * (u / 128) * 2 ^ (7 * i) := by rw [← Nat.add_mul, ← hq]
        rw [this, ← Nat.mul_assoc, Nat.mul_comm (u / 128) 128, Nat.add_assoc]
      have hlow : v + u % 128 * 2 ^ (7 * i) < 128 * 2 ^ (7 * i) := by
        have h1 : u % 128 * 2 ^ (7 * i) ≤ 127 * 2 ^ (7 * i) := Nat.mul_le_mul_right _ (by omega)
        omega
      have hs := or_shl v (u % 128) i (by omega) hv (by omega) (by omega)
      have := ih (i + 1) (v + u % 128 * 2 ^ (7 * i)) (u / 128) (by omega) d1 (by rw [hp]; exact hlow) (by rw [hp, hsum]; exact ht) (by omega)
      rw [hp, hsum] at this
      have hj : ∀ k, bits_TakeVar.l0 (k + 2) (v : Int) x (x.length : Int) (i : Int) = bits_TakeVar.l0 k ((v + u % 128 * 2 ^ (7 * i) : Nat) : Int) x (x.length : Int) ((i + 1 : Nat) : Int) := by
        intro k
        rw [bits_TakeVar.l0, if_pos (by omega), if_pos (by omega), if_pos (by omega), if_neg hi9, r0]
        rw [bits_TakeVar.j1, if_neg (by decide), if_pos hsh, if_pos (by omega), andNot_hi _ (by omega), hs]
        have hw : wrap64 ((i : Int) + 1) = ((i + 1 : Nat) : Int) := by unfold wrap64; omega
        rw [hw]
      obtain ⟨K, hK⟩ := this
      refine ⟨K + 2, fun k hk => ?_⟩
      obtain ⟨m, rfl⟩ : ∃ m, k = m + 2 := ⟨k - 2, by omega⟩
      have h2 := hK m (by omega)
      simp only at h2 ⊢
      rw [hj, h2]
      simp
      omega
theorem TakeVar_back (u : Nat) (rest : List Int) (hu : u < 18446744073709551616) (hr : rest.length ≤ 4294967296) : Ev (fun k => bits_TakeVar.f k (varL u ++ rest)) ((u : Int), ((varL u).length : Int), 0) := by
  have hl := varL_length 9 u (by omega)
  have := takeVar_l0 (varL u ++ rest) rest (by simp; omega) 9 0 0 u rfl rfl (by decide) (by omega) (fun _ => rfl)
  simpa [bits_TakeVar.f] using this
theorem TakeText_back (s : ByteArray) (rest : List Int) (hs : s.size ≤ 1048576) (hr : rest.length ≤ 1073741824) : Ev (fun k => bits_TakeText.f k (varL s.size ++ numsB s ++ rest)) (numsB s, (((varL s.size).length + s.size : Nat) : Int), 0) := by
  have hl := varL_length 9 s.size (by omega)
  unfold bits_TakeText.f
  rw [List.append_assoc]
  refine Ev.bind (TakeVar_back s.size (numsB s ++ rest) (by omega) (by simp [numsB_length]; omega)) (ev_eq fun k => ?_)
  simp only [if_true]
  have hn := numsB_length s
  rw [if_neg (by omega)]
  have hlen : ((varL s.size ++ (numsB s ++ rest)).length : Int) = (varL s.size).length + s.size + rest.length := by simp [hn]; omega
  rw [hlen, w64 (x := ((varL s.size).length : Int) + s.size + rest.length - (varL s.size).length) (by omega) (by omega), u64w (by omega) (by omega), if_neg (by omega), if_pos (by omega), w64 (x := (s.size : Int)) (by omega) (by omega), w64 (x := ((varL s.size).length : Int) + s.size) (by omega) (by omega), if_pos (by omega), if_pos (by omega)]
  have e1 : (((varL s.size).length : Int) + s.size).toNat = (varL s.size).length + s.size := by omega
  rw [e1, Int.toNat_natCast]
  have e2 : ((varL s.size ++ (numsB s ++ rest)).take ((varL s.size).length + s.size)).drop (varL s.size).length = numsB s := by
    rw [← List.append_assoc, List.take_left' (by simp [hn]), List.drop_left' rfl]
  rw [e2]
  unfold bits_room.f
  rw [if_pos (by omega)]
  simp
theorem tp0 (m : Nat) (l : List Int) (hl : 0 < l.length) (e : rd l 0 = 0) : value_Take.f m l = some (0, 0, (⟨#[]⟩ : ByteArray), 1, 0) := by
  unfold value_Take.f
  rw [if_neg (by omega), if_pos (by omega), e, show wrap64 0 = 0 by unfold wrap64; omega, if_pos rfl]
theorem tp1 (m : Nat) (l : List Int) (hl : 0 < l.length) (e : rd l 0 = 1) : value_Take.f m l = (value_takeBool.f l).bind fun bt => some (bt.1, bt.2.1, bt.2.2.1, bt.2.2.2.1, bt.2.2.2.2) := by
  unfold value_Take.f
  rw [if_neg (by omega), if_pos (by omega), e, show wrap64 1 = 1 by unfold wrap64; omega, if_neg (by decide), if_pos rfl]
theorem tp2 (m : Nat) (l : List Int) (hl : 0 < l.length) (e : rd l 0 = 2) : value_Take.f m l = (bits_TakeVar.f m (l.drop 1)).bind fun bt => if bt.2.2 = 0 then ((bits_Zag.f bt.1).bind fun t => (some (2, t, (⟨#[]⟩ : ByteArray), wrap64 (1 + bt.2.1), 0))) else (some (0, 0, (⟨#[]⟩ : ByteArray), 0, bt.2.2)) := by
  unfold value_Take.f
  rw [if_neg (by omega), if_pos (by omega), e, show wrap64 2 = 2 by unfold wrap64; omega, if_neg (by decide), if_neg (by decide), if_pos rfl, if_pos (by omega)]
theorem tp3 (m : Nat) (l : List Int) (hl : 0 < l.length) (e : rd l 0 = 3) : value_Take.f m l = (bits_TakeText.f m (l.drop 1)).bind fun bt => if bt.2.2 = 0 then (if (bt.1.length : Int) > 64 then (some (0, 0, (⟨#[]⟩ : ByteArray), 0, 3)) else (some (3, 0, strOfNums bt.1, wrap64 (1 + bt.2.1), 0))) else (some (0, 0, (⟨#[]⟩ : ByteArray), 0, bt.2.2)) := by
  unfold value_Take.f
  rw [if_neg (by omega), if_pos (by omega), e, show wrap64 3 = 3 by unfold wrap64; omega, if_neg (by decide), if_neg (by decide), if_neg (by decide), if_pos rfl, if_pos (by omega)]
theorem Take_back (k n : Int) (s : ByteArray) (rest : List Int) (hm : mayV k n s) (h0 : -9223372036854775808 ≤ n) (h1 : n ≤ 9223372036854775807) (hr : rest.length ≤ 1073741824) :
    Ev (fun m => value_Take.f m (plainL k n s ++ rest)) (k, n, s, ((plainL k n s).length : Int), 0) := by
  have hk : k = 0 ∨ k = 1 ∨ k = 2 ∨ k = 3 := by unfold mayV at hm; omega
  have hz : k ≠ 3 → s = ⟨#[]⟩ := fun hk => by
    have : s.size = 0 := by unfold mayV at hm; omega
    have h2 : s.data.toList.length = 0 := by simpa using this
    cases s with | mk a =>
    congr 1
    apply Array.toList_inj.1
    rw [List.eq_nil_of_length_eq_zero h2]
  rcases hk with rfl | rfl | rfl | rfl
  · obtain rfl := hz (by decide)
    have hn : n = 0 := by unfold mayV at hm; omega
    subst hn
    exact ev_eq (fun m => tp0 m _ (by simp [plainL]) rfl)
  · obtain rfl := hz (by decide)
    have hn : n = 0 ∨ n = 1 := by unfold mayV at hm; omega
    refine ev_eq (fun m => ?_)
    rw [tp1 m _ (by simp [plainL]) rfl, takeBool_f _ n (by simp [plainL]) rfl (by omega) (by omega)]
    rfl
  · obtain rfl := hz (by decide)
    have hl := varL_length 9 (Lib.zigzag n) (by have := Lib.zigzag_lt h0 h1; omega)
    refine Ev.congr (fun m => tp2 m _ (by simp [plainL]) rfl) ?_
    have hd : (plainL 2 n ⟨#[]⟩ ++ rest).drop 1 = varL (Lib.zigzag n) ++ rest := by simp [plainL]
    rw [hd]
    refine Ev.bind (TakeVar_back (Lib.zigzag n) rest (Lib.zigzag_lt h0 h1) (by omega)) (ev_eq fun m => ?_)
    simp only [if_true]
    rw [Zag_f _ (Lib.zigzag_lt h0 h1), zag_zig, w64 (by omega) (by omega)]
    simp [plainL]
    omega
  · have hs : s.size ≤ 64 := by unfold mayV at hm; omega
    have hn : n = 0 := by unfold mayV at hm; omega
    subst hn
    have hl := varL_length 9 s.size (by omega)
    refine Ev.congr (fun m => tp3 m _ (by simp [plainL]) rfl) ?_
    have hd : (plainL 3 0 s ++ rest).drop 1 = varL s.size ++ numsB s ++ rest := by simp [plainL]
    rw [hd]
    refine Ev.bind (TakeText_back s rest (by omega) hr) (ev_eq fun m => ?_)
    simp only [if_true]
    rw [numsB_length, if_neg (by omega), w64 (by omega) (by omega), strOf_nums]
    simp [plainL, numsB_length]
    omega
end Go.Proofs.YtcflmkklpehmmaaDoor.Pure
