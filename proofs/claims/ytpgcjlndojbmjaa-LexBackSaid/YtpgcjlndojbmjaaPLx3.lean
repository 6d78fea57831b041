-- Written by drv.py (this session's program over the kit's print).
import Derived.Test.YtpgcjlndojbmjaaPLx0
import Derived.Test.YtpgcjlndojbmjaaPLx2
namespace Go.Proofs.Ytpgcjlndojbmjaa.PL
open Go.RowKit Go.Proofs.YtpgcjlndojbmjaaW.PrintWords Go.Proofs.YtpgcjlndojbmjaaW.PrintLast Go.Proofs.YtpgcjlndojbmjaaW.PrintMore
attribute [local go_sem] max2_int min2_int max_two min_two max_three min_three max_four min_four   -- for this text's walks alone
attribute [local go_sem ↓] isSome_setCell
set_option linter.unusedVariables false
set_option linter.unusedSimpArgs false

/-! ### lex_run_of_digit: function 18 -/
def lex_run_of_digit.l0 : Nat → ByteArray → Int → Option (Int)
 | 0, _, _ => none
 | k + 1, x0, x5 => if x5 < (x0.size : Int) then (if 0 ≤ x5 then ((lex_digit.f (bt x0 x5)).bind fun t104 => (if t104 = true then (lex_run_of_digit.l0 k x0 (wrap64 (x5 + 1))) else (some x5))) else (none)) else (some x5)
def lex_run_of_digit.f (k : Nat) (a0 : ByteArray)  : Option (Int) := lex_run_of_digit.l0 k a0 0
theorem lex_run_of_digit.mono_l : ∀ k, (∀ y0 y1, LeO (lex_run_of_digit.l0 k y0 y1) (lex_run_of_digit.l0 (k + 1) y0 y1))
 | 0 => fun _ _ r h => by simp [lex_run_of_digit.l0] at h
 | k + 1 => by
  have ih0 := lex_run_of_digit.mono_l k
  ·intro y0 y1
   unfold lex_run_of_digit.l0
   repeat' first
   | (with_reducible exact ih0 _ _)
   | (with_reducible exact LeO.refl _)
   | (with_reducible exact LeO.none _)
   | (with_reducible refine LeO.ite ?_ ?_)
   | (with_reducible refine LeO.bind ?_ (fun _ => ?_))
   | exact ih0 _ _
   | exact LeO.none _
   | refine LeO.ite ?_ ?_
   | refine LeO.bind ?_ (fun _ => ?_)
theorem lex_run_of_digit.mono : ∀ a0 k, LeO (lex_run_of_digit.f k a0) (lex_run_of_digit.f (k + 1) a0) := by
 intro a0 k
 have ih0 := lex_run_of_digit.mono_l k
 unfold lex_run_of_digit.f
 repeat' first
   | (with_reducible exact ih0 _ _)
   | (with_reducible exact LeO.refl _)
   | (with_reducible exact LeO.none _)
   | (with_reducible refine LeO.ite ?_ ?_)
   | (with_reducible refine LeO.bind ?_ (fun _ => ?_))
   | exact ih0 _ _
   | exact LeO.none _
   | refine LeO.ite ?_ ?_
   | refine LeO.bind ?_ (fun _ => ?_)
set_option maxHeartbeats 8000000 in
set_option maxRecDepth 100000 in
theorem lex_run_of_digit.calls (k : Nat) (a0 : ByteArray)  (r : Int) (w : World) (h : lex_run_of_digit.f k a0 = some r) :
  Calls Try.prog 18 #[.string a0, .func (.func 17) #[] #[]] w fun e w' => e = .returned (.int .i64 r) ∧ Drawn0 w w' := by
 have H : (lex_run_of_digit.l0 k a0 0) = some r := h
 clear h
 have H' := Aside0.mk H
 clear H
 go_enter Try.func18, Try.ntmps18
 go_wp2
 go_loopg [5] k (fun kq v5 w' => ∃ (x5_1 : Int), v5 = .int .i64 x5_1 ∧ Aside0 (lex_run_of_digit.l0 kq a0 x5_1 = some r) ∧ Aside0 (kq ≤ k) ∧ Drawn0 w w')
 case atStart => exact ⟨(0), (by first | rfl | (simp; done) | (simp [*]; done)), H', ⟨Nat.le_refl _⟩, by repeat (first | exact Drawn0.refl _ | apply Drawn0.step)⟩
 case round =>
  clear H'
  try clear p2
  obtain ⟨x5_1, rfl, HA, HK1, ⟨m1, rfl⟩⟩ := hrel
  cases gk with
  | zero => exact absurd HA.out (by simp [lex_run_of_digit.l0])
  | succ k1 =>
   have H := HA.out
   clear HA
   simp only [lex_run_of_digit.l0] at H
   by_cases c3 : x5_1 < (a0.size : Int)
   ·rw [if_pos c3] at H
    have c3b0 : decide (x5_1 < (a0.size : Int)) = true := decide_eq_true c3
    clear c3
    by_cases c4 : 0 ≤ x5_1
    ·rw [if_pos c4] at H
     have c4b0 : decide (0 ≤ x5_1) = true := decide_eq_true c4
     clear c4
     replace H := Option.bind_eq_some_iff.mp H
     obtain ⟨t104, A60, H⟩ := H
     replace H : (if t104 = true then (lex_run_of_digit.l0 k1 a0 (wrap64 (x5_1 + 1))) else (some x5_1)) = some r := H
     have A6 := Aside0.mk A60
     clear A60
     by_cases c7 : t104 = true
     ·subst c7
      have H1 : (lex_run_of_digit.l0 k1 a0 (wrap64 (x5_1 + 1))) = some r := by rw [if_pos rfl] at H; exact H
      clear H
      have H := H1
      clear H1
      have H' := Aside0.mk H
      clear H
      have p5 : 0 ≤ (x5_1 : Int) := of_decide_eq_true (by assumption)
      have q5 : x5_1 < (a0.size : Int) := of_decide_eq_true (by assumption)
      have hx5 := bt_at a0 x5_1
      replace p5 := eq_true p5
      replace q5 := eq_true q5
      go_wp2_with (first | (go_at_call 17; (with_reducible refine (lex_digit.calls (bt a0 x5_1) true _ A6.out).mono ?_); rintro e w' ⟨rfl, ⟨nd, rfl⟩⟩))
      go_roundg k1
      case measure => have := HK1.out; omega
      case rel => exact ⟨(wrap64 (x5_1 + 1)), (by first | rfl | (simp; done) | (simp [*]; done)), H', ⟨by have := HK1.out; omega⟩, by repeat (first | exact Drawn0.refl _ | apply Drawn0.step)⟩
     ·replace c7 := Bool.eq_false_iff.mpr c7
      subst c7
      have H1 : (some x5_1) = some r := by rw [if_neg (show ¬ (false = true) by decide)] at H; exact H
      clear H
      have H := H1
      clear H1
      obtain rfl := Option.some.inj H
      have p5 : 0 ≤ (x5_1 : Int) := of_decide_eq_true (by assumption)
      have q5 : x5_1 < (a0.size : Int) := of_decide_eq_true (by assumption)
      have hx5 := bt_at a0 x5_1
      replace p5 := eq_true p5
      replace q5 := eq_true q5
      go_wp2_with (first | (go_at_call 17; (with_reducible refine (lex_digit.calls (bt a0 x5_1) false _ A6.out).mono ?_); rintro e w' ⟨rfl, ⟨nd, rfl⟩⟩))
      go_ret
      exact ⟨by first | rfl | (simp; done) | (simp [*]; done), by repeat (first | exact Drawn0.refl _ | apply Drawn0.step)⟩
    ·rw [if_neg c4] at H
     exact absurd H (by simp)
   ·rw [if_neg c3] at H
    have c3b0 : decide (x5_1 < (a0.size : Int)) = false := decide_eq_false c3
    clear c3
    obtain rfl := Option.some.inj H
    go_wp2
    go_ret
    exact ⟨by first | rfl | (simp; done) | (simp [*]; done), by repeat (first | exact Drawn0.refl _ | apply Drawn0.step)⟩

/-! ### lex_upper: function 20 -/

def upB (c : UInt8) : UInt8 := if 97 ≤ c.toNat ∧ c.toNat ≤ 122 then c - 32 else c
def upI (c : Int) : Int := if 97 ≤ c then (if c ≤ 122 then (c - 32) % 256 else c) else c
/-- What upper's row holds when the first k bytes have been turned. -/
structure UpRow (s : ByteArray) (w wr : World) (k : Nat) : Prop where
  below : Below w.heap.size w wr
  cell : ∀ j, j < s.size → wr.cell? ⟨w.heap.size, j, none⟩ = some (.int .u8 (if j < k then upI (bt s j) else bt s j))
  free : ∀ j, j < s.size → wr.frozen? ⟨w.heap.size, j, none⟩ = false
theorem bt_byte (s : ByteArray) (j : Nat) (h : j < s.size) : bt s j = ((s.data.toList.getD j 0).toNat : Int) := by
  have h' : j < s.data.toList.length := by simpa using h
  simp [bt, h, List.getD_eq_getElem?_getD, List.getElem?_eq_getElem h']
  rfl
theorem upRow_start (s : ByteArray) (w : World) : UpRow s w (Lib.bytesWorld w 5 s) 0 := by
  refine ⟨bytes_below (Below.refl _ _) (Nat.le_refl _) _ _, fun j hj => ?_, fun j hj => ?_⟩
  · rw [Lib.bytesWorld_cell w 5 s j hj, if_neg (by omega), bt_byte s j hj]
  · have := Lib.bytesWorld_at_new w 5 s
    simp only [World.frozen?, this]
    have hc : s.size ≤ (Lib.bytesCells w 5 s).size := by simp [Lib.bytesCells]
    simp; omega
theorem upRow_keep {s : ByteArray} {w wr : World} {k : Nat} (h : UpRow s w wr k) (hk : k < s.size) (hu : upI (bt s k) = bt s k) : UpRow s w wr (k + 1) := by
  refine ⟨h.below, fun j hj => ?_, h.free⟩
  rw [h.cell j hj]
  by_cases e : j = k
  · subst e; rw [if_neg (by omega), if_pos (by omega), hu]
  · by_cases l : j < k
    · rw [if_pos l, if_pos (by omega)]
    · rw [if_neg l, if_neg (by omega)]
theorem upRow_put {s : ByteArray} {w wr : World} {k : Nat} (h : UpRow s w wr k) (hk : k < s.size) {x : Int} (hu : upI (bt s k) = x) : UpRow s w (wr.setCell ⟨w.heap.size, k, none⟩ (.int .u8 x)) (k + 1) := by
  refine ⟨h.below.setCell (Nat.le_refl _) _, fun j hj => ?_, fun j hj => (World.frozen?_setCell _ _ _ _).trans (h.free j hj)⟩
  by_cases e : j = k
  · subst e; rw [World.cell?_setCell_same _ _ _ (h.cell j hj), if_pos (by omega), hu]
  · rw [World.cell?_setCell_other _ _ _ _ (fun e' => e (by injection e' with _ e2 _; exact e2.symm)), h.cell j hj]
    by_cases l : j < k
    · rw [if_pos l, if_pos (by omega)]
    · rw [if_neg l, if_neg (by omega)]
theorem upB_list (s : ByteArray) : strOfNums ((List.range s.size).map fun j : Nat => upI (bt s j)) = ⟨s.data.map upB⟩ := by
  have k0 : ∀ n : Nat, n < 256 → UInt8.ofNat (upI (n : Int)).toNat = upB (UInt8.ofNat n) := by decide +kernel
  have key : ∀ c : UInt8, UInt8.ofNat (upI (c.toNat : Int)).toNat = upB c := fun c => by
    have h := k0 c.toNat c.toNat_lt
    rwa [UInt8.ofNat_toNat] at h
  unfold strOfNums
  refine congrArg ByteArray.mk (Array.ext ?_ fun i h1 h2 => ?_)
  · simp only [List.size_toArray, List.length_map, List.length_range, Array.size_map]
    rfl
  · simp only [List.size_toArray, List.length_map, List.length_range] at h1
    simp only [List.getElem_toArray, List.getElem_map, List.getElem_range, Array.getElem_map]
    rw [bt_byte s i h1]
    have h' : i < s.data.toList.length := by simpa using h1
    rw [List.getD_eq_getElem?_getD, List.getElem?_eq_getElem h']
    exact key _
set_option maxHeartbeats 800000 in
set_option maxRecDepth 100000 in
theorem upper_calls (a0 : ByteArray) (w : World) (hs : a0.size ≤ 9223372036854775807) :
    Calls Try.prog 20 #[.string a0] w fun e w' => e = .returned (.string ⟨a0.data.map upB⟩) ∧ Below w.heap.size w w' := by
  have hcv := fun (W : World) => Lib.run_convert_string_bytes (P := Try.prog) W 9 47 5 a0 Try.underlying9 Try.underlying47 Try.underlying5
  go_enter Try.func20, Try.ntmps20
  go_wp2
  have hst := upRow_start a0 w
  clear hcv
  go_loopw [4, 5, 10] (fun v4 v5 i wr => ∃ k : Nat, k ≤ a0.size ∧ i = .int .i64 k ∧ UpRow a0 w wr k) (fun _ _ i _ => a0.size - (intOf i).toNat)
  case atStart => exact ⟨0, Nat.zero_le _, rfl, hst⟩
  case round =>
    obtain ⟨k, hk, rfl, hR⟩ := hrel
    clear hst
    by_cases hlt : k < a0.size
    · have hc := hR.cell k hlt
      rw [if_neg (by omega)] at hc
      have hf := hR.free k hlt
      have hr := bt_range a0 k
      obtain ⟨c, hcq⟩ : ∃ c, bt a0 k = c := ⟨_, rfl⟩
      rw [hcq] at hc hr
      have Hq := Lib.hid hcq; clear hcq
      have hd : decide ((k : Int) < (a0.size : Int)) = true := decide_eq_true (by omega)
      have hd2 : decide (k < a0.size) = true := decide_eq_true hlt
      by_cases h1 : 97 ≤ c
      · by_cases h2 : c ≤ 122
        · have hb1 : decide (97 ≤ c) = true := decide_eq_true h1
          have hb2 : decide (c ≤ 122) = true := decide_eq_true h2
          go_wp2
          go_roundw
          case rel => exact ⟨k + 1, by omega, by go_num, upRow_put hR hlt (by rw [Hq.out, upI, if_pos h1, if_pos h2]; omega)⟩
          case measure => simp [intOf]; omega
        · have hb1 : decide (97 ≤ c) = true := decide_eq_true h1
          have hb2 : decide (c ≤ 122) = false := decide_eq_false h2
          go_wp2
          go_roundw
          case rel => exact ⟨k + 1, by omega, by go_num, upRow_keep hR hlt (by rw [Hq.out, upI, if_pos h1, if_neg h2])⟩
          case measure => simp [intOf]; omega
      · have hb1 : decide (97 ≤ c) = false := decide_eq_false h1
        go_wp2
        go_roundw
        case rel => exact ⟨k + 1, by omega, by go_num, upRow_keep hR hlt (by rw [Hq.out, upI, if_neg h1])⟩
        case measure => simp [intOf]; omega
    · have hd : decide ((k : Int) < (a0.size : Int)) = false := decide_eq_false (by omega)
      have hd2 : decide (k < a0.size) = false := decide_eq_false hlt
      have hcb := fun cap => run_convert_bytes_arg (P := Try.prog) wr 47 5 Try.underlying47 Try.underlying5 w.heap.size 0 a0.size cap ((List.range a0.size).map fun j : Nat => upI (bt a0 j)) (by simp) (fun i hi => by rw [Nat.zero_add, hR.cell i hi, if_pos (by omega)]; simp [hi]) 9 Try.underlying9
      go_wp2
      go_ret
      exact ⟨by rw [upB_list]; rfl, hR.below⟩
def lex_upper.f (a0 : ByteArray) : Option ByteArray := if a0.size ≤ 9223372036854775807 then some ⟨a0.data.map upB⟩ else none
theorem lex_upper.calls (a0 : ByteArray) (r : ByteArray) (w : World) (h : lex_upper.f a0 = some r) :
    Calls Try.prog 20 #[.string a0] w fun e w' => e = .returned (.string r) ∧ Below w.heap.size w w' := by
  unfold lex_upper.f at h
  by_cases c : a0.size ≤ 9223372036854775807
  · rw [if_pos c] at h
    obtain rfl := Option.some.inj h
    exact upper_calls a0 w c
  · rw [if_neg c] at h
    cases h


end Go.Proofs.Ytpgcjlndojbmjaa.PL
