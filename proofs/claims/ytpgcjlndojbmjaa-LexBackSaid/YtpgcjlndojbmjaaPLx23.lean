-- Written by drv.py (this session's program over the kit's print).
import Derived.Test.YtpgcjlndojbmjaaPLx0
import Derived.Test.YtpgcjlndojbmjaaPLx1
import Derived.Test.YtpgcjlndojbmjaaPLx8
import Derived.Test.YtpgcjlndojbmjaaPLx9
import Derived.Test.YtpgcjlndojbmjaaPLx10
import Derived.Test.YtpgcjlndojbmjaaPLx20
import Derived.Test.YtpgcjlndojbmjaaPLx22
namespace Go.Proofs.Ytpgcjlndojbmjaa.PL
open Go.RowKit Go.Proofs.YtpgcjlndojbmjaaW.PrintWords Go.Proofs.YtpgcjlndojbmjaaW.PrintLast Go.Proofs.YtpgcjlndojbmjaaW.PrintMore
attribute [local go_sem] max2_int min2_int max_two min_two max_three min_three max_four min_four   -- for this text's walks alone
attribute [local go_sem ↓] isSome_setCell
set_option linter.unusedVariables false
set_option linter.unusedSimpArgs false

attribute [local go_sem high] eqA28
/-! ### antipodelaw16_LexBack: function 5 -/
mutual
def antipodelaw16_LexBack.l0 : Nat → List (S28) → Bool → ByteArray → List (S28) → Int → Option (Bool)
 | 0, _, _, _, _, _ => none
 | k + 1, x0, x1, x5, x6, x7 => if x7 < (x0.length : Int) then (if 0 ≤ x7 then (if ((rd_T28 x0 x7).f0) = 1 then ((lex_Word.f k ((rd_T28 x0 x7).f2)).bind fun t247 => (if t247 = true then (antipodelaw16_LexBack.j1 k x0 x1 x5 x6 x7 ((rd_T28 x0 x7).f2) ((rd_T28 x0 x7).f0) 0 ((rd_T28 x0 x7).f2) 0) else (some true))) else (if ((rd_T28 x0 x7).f0) = 2 then (if ((rd_T28 x0 x7).f3) < 0 then (some true) else ((antipoderef7_Digits.f k ((rd_T28 x0 x7).f3)).bind fun t252 => (antipodelaw16_LexBack.j1 k x0 x1 x5 x6 x7 t252 ((rd_T28 x0 x7).f0) 0 (⟨#[]⟩ : ByteArray) ((rd_T28 x0 x7).f3)))) else (if ((rd_T28 x0 x7).f0) = 3 then (if (((rd_T28 x0 x7).f2).size : Int) > 64 then (some true) else ((antipoderef7_Show.f k 3 0 ((rd_T28 x0 x7).f2)).bind fun t256 => (antipodelaw16_LexBack.j1 k x0 x1 x5 x6 x7 t256 ((rd_T28 x0 x7).f0) 0 ((rd_T28 x0 x7).f2) 0))) else (some true)))) else (none)) else ((lex_Lex.f k x5).bind fun bt261 => (if (x5.size : Int) > 2000 then (some (bt261.2 == 3)) else (if bt261.2 = 0 then (if (bt261.1.length : Int) = (wrap64 ((x6.length : Int) + 1)) then (if 0 ≤ (x6.length : Int) then (if (x6.length : Int) < (bt261.1.length : Int) then (antipodelaw16_LexBack.j2 k x6 bt261.1 (!(((rd_T28 bt261.1 (x6.length : Int)).f0) == 0) || (!(((rd_T28 bt261.1 (x6.length : Int)).f1) == (x5.size : Int)) || (!((((rd_T28 bt261.1 (x6.length : Int)).f2).toList) == ([] : List UInt8)) || (!(((rd_T28 bt261.1 (x6.length : Int)).f3) == 0)))))) else (none)) else (none)) else (antipodelaw16_LexBack.j2 k x6 bt261.1 true)) else (antipodelaw16_LexBack.j2 k x6 bt261.1 true))))
def antipodelaw16_LexBack.j1 : Nat → List (S28) → Bool → ByteArray → List (S28) → Int → ByteArray → Int → Int → ByteArray → Int → Option (Bool)
 | 0, _, _, _, _, _, _, _, _, _, _ => none
 | k + 1, x0, x1, x5, x6, x7, x8, x245000, x245001, x245002, x245003 => if x6.length < 3518437208883 then ((some (x6 ++ [(⟨x245000, (x5.size : Int), x245002, x245003⟩ : S28)] : List (S28))).bind fun y258 => (if x5.size + x8.size ≤ 9223372036854775807 then (if (x5 ++ x8).size + 1 ≤ 9223372036854775807 then (if x1 = true then (if ((x5 ++ x8) ++ (⟨#[32]⟩ : ByteArray)).size + 2 ≤ 9223372036854775807 then (antipodelaw16_LexBack.l0 k x0 x1 (((x5 ++ x8) ++ (⟨#[32]⟩ : ByteArray)) ++ (⟨#[9, 10]⟩ : ByteArray)) y258 (wrap64 (x7 + 1))) else (none)) else (antipodelaw16_LexBack.l0 k x0 x1 ((x5 ++ x8) ++ (⟨#[32]⟩ : ByteArray)) y258 (wrap64 (x7 + 1)))) else (none)) else (none))) else (none)
def antipodelaw16_LexBack.j2 : Nat → List (S28) → List (S28) → Bool → Option (Bool)
 | 0, _, _, _ => none
 | k + 1, x6, x10, x141 => if x141 = true then (some false) else (antipodelaw16_LexBack.l1 k x6 x10 0)
def antipodelaw16_LexBack.l1 : Nat → List (S28) → List (S28) → Int → Option (Bool)
 | 0, _, _, _ => none
 | k + 1, x6, x10, x12 => if x12 < (x6.length : Int) then (if 0 ≤ x12 then (if x12 < (x10.length : Int) then (if (!(((rd_T28 x10 x12).f0) == ((rd_T28 x6 x12).f0)) || (!(((rd_T28 x10 x12).f1) == ((rd_T28 x6 x12).f1)) || (!((((rd_T28 x10 x12).f2).toList) == (((rd_T28 x6 x12).f2).toList)) || (!(((rd_T28 x10 x12).f3) == ((rd_T28 x6 x12).f3)))))) = true then (some false) else (antipodelaw16_LexBack.l1 k x6 x10 (wrap64 (x12 + 1)))) else (none)) else (none)) else (some true)
end
def antipodelaw16_LexBack.f (k : Nat) (l0 : List (S28)) (a1 : Bool) : Option (Bool) := (antipodelaw16_begun.f k).bind fun t242 => (if t242 = true then (if (l0.length : Int) > 100 then (some true) else (antipodelaw16_LexBack.l0 k l0 a1 (⟨#[]⟩ : ByteArray) ([] : List (S28)) 0)) else (some false))
theorem antipodelaw16_LexBack.mono_l : ∀ k, (∀ y0 y1 y2 y3 y4, LeO (antipodelaw16_LexBack.l0 k y0 y1 y2 y3 y4) (antipodelaw16_LexBack.l0 (k + 1) y0 y1 y2 y3 y4)) ∧ (∀ y0 y1 y2 y3 y4 y5 y6 y7 y8 y9, LeO (antipodelaw16_LexBack.j1 k y0 y1 y2 y3 y4 y5 y6 y7 y8 y9) (antipodelaw16_LexBack.j1 (k + 1) y0 y1 y2 y3 y4 y5 y6 y7 y8 y9)) ∧ (∀ y0 y1 y2, LeO (antipodelaw16_LexBack.j2 k y0 y1 y2) (antipodelaw16_LexBack.j2 (k + 1) y0 y1 y2)) ∧ (∀ y0 y1 y2, LeO (antipodelaw16_LexBack.l1 k y0 y1 y2) (antipodelaw16_LexBack.l1 (k + 1) y0 y1 y2))
 | 0 => ⟨fun _ _ _ _ _ r h => by simp [antipodelaw16_LexBack.l0] at h, fun _ _ _ _ _ _ _ _ _ _ r h => by simp [antipodelaw16_LexBack.j1] at h, fun _ _ _ r h => by simp [antipodelaw16_LexBack.j2] at h, fun _ _ _ r h => by simp [antipodelaw16_LexBack.l1] at h⟩
 | k + 1 => by
  obtain ⟨ih0, ih1, ih2, ih3⟩ := antipodelaw16_LexBack.mono_l k
  refine ⟨?_, ?_, ?_, ?_⟩
  ·intro y0 y1 y2 y3 y4
   unfold antipodelaw16_LexBack.l0
   repeat' first
   | (with_reducible exact ih0 _ _ _ _ _)
   | (with_reducible exact ih1 _ _ _ _ _ _ _ _ _ _)
   | (with_reducible exact ih2 _ _ _)
   | (with_reducible exact ih3 _ _ _)
   | (with_reducible exact antipodelaw16_begun.mono _)
   | (with_reducible exact antipoderef7_Digits.mono _ _)
   | (with_reducible exact antipoderef7_Show.mono _ _ _ _)
   | (with_reducible exact lex_Lex.mono _ _)
   | (with_reducible exact lex_Word.mono _ _)
   | (with_reducible exact LeO.refl _)
   | (with_reducible exact LeO.none _)
   | (with_reducible refine LeO.ite ?_ ?_)
   | (with_reducible refine LeO.bind ?_ (fun _ => ?_))
   | exact ih0 _ _ _ _ _
   | exact ih1 _ _ _ _ _ _ _ _ _ _
   | exact ih2 _ _ _
   | exact ih3 _ _ _
   | exact antipodelaw16_begun.mono _
   | exact antipoderef7_Digits.mono _ _
   | exact antipoderef7_Show.mono _ _ _ _
   | exact lex_Lex.mono _ _
   | exact lex_Word.mono _ _
   | exact LeO.none _
   | refine LeO.ite ?_ ?_
   | refine LeO.bind ?_ (fun _ => ?_)
  ·intro y0 y1 y2 y3 y4 y5 y6 y7 y8 y9
   unfold antipodelaw16_LexBack.j1
   repeat' first
   | (with_reducible exact ih0 _ _ _ _ _)
   | (with_reducible exact ih1 _ _ _ _ _ _ _ _ _ _)
   | (with_reducible exact ih2 _ _ _)
   | (with_reducible exact ih3 _ _ _)
   | (with_reducible exact antipodelaw16_begun.mono _)
   | (with_reducible exact antipoderef7_Digits.mono _ _)
   | (with_reducible exact antipoderef7_Show.mono _ _ _ _)
   | (with_reducible exact lex_Lex.mono _ _)
   | (with_reducible exact lex_Word.mono _ _)
   | (with_reducible exact LeO.refl _)
   | (with_reducible exact LeO.none _)
   | (with_reducible refine LeO.ite ?_ ?_)
   | (with_reducible refine LeO.bind ?_ (fun _ => ?_))
   | exact ih0 _ _ _ _ _
   | exact ih1 _ _ _ _ _ _ _ _ _ _
   | exact ih2 _ _ _
   | exact ih3 _ _ _
   | exact antipodelaw16_begun.mono _
   | exact antipoderef7_Digits.mono _ _
   | exact antipoderef7_Show.mono _ _ _ _
   | exact lex_Lex.mono _ _
   | exact lex_Word.mono _ _
   | exact LeO.none _
   | refine LeO.ite ?_ ?_
   | refine LeO.bind ?_ (fun _ => ?_)
  ·intro y0 y1 y2
   unfold antipodelaw16_LexBack.j2
   repeat' first
   | (with_reducible exact ih0 _ _ _ _ _)
   | (with_reducible exact ih1 _ _ _ _ _ _ _ _ _ _)
   | (with_reducible exact ih2 _ _ _)
   | (with_reducible exact ih3 _ _ _)
   | (with_reducible exact antipodelaw16_begun.mono _)
   | (with_reducible exact antipoderef7_Digits.mono _ _)
   | (with_reducible exact antipoderef7_Show.mono _ _ _ _)
   | (with_reducible exact lex_Lex.mono _ _)
   | (with_reducible exact lex_Word.mono _ _)
   | (with_reducible exact LeO.refl _)
   | (with_reducible exact LeO.none _)
   | (with_reducible refine LeO.ite ?_ ?_)
   | (with_reducible refine LeO.bind ?_ (fun _ => ?_))
   | exact ih0 _ _ _ _ _
   | exact ih1 _ _ _ _ _ _ _ _ _ _
   | exact ih2 _ _ _
   | exact ih3 _ _ _
   | exact antipodelaw16_begun.mono _
   | exact antipoderef7_Digits.mono _ _
   | exact antipoderef7_Show.mono _ _ _ _
   | exact lex_Lex.mono _ _
   | exact lex_Word.mono _ _
   | exact LeO.none _
   | refine LeO.ite ?_ ?_
   | refine LeO.bind ?_ (fun _ => ?_)
  ·intro y0 y1 y2
   unfold antipodelaw16_LexBack.l1
   repeat' first
   | (with_reducible exact ih0 _ _ _ _ _)
   | (with_reducible exact ih1 _ _ _ _ _ _ _ _ _ _)
   | (with_reducible exact ih2 _ _ _)
   | (with_reducible exact ih3 _ _ _)
   | (with_reducible exact antipodelaw16_begun.mono _)
   | (with_reducible exact antipoderef7_Digits.mono _ _)
   | (with_reducible exact antipoderef7_Show.mono _ _ _ _)
   | (with_reducible exact lex_Lex.mono _ _)
   | (with_reducible exact lex_Word.mono _ _)
   | (with_reducible exact LeO.refl _)
   | (with_reducible exact LeO.none _)
   | (with_reducible refine LeO.ite ?_ ?_)
   | (with_reducible refine LeO.bind ?_ (fun _ => ?_))
   | exact ih0 _ _ _ _ _
   | exact ih1 _ _ _ _ _ _ _ _ _ _
   | exact ih2 _ _ _
   | exact ih3 _ _ _
   | exact antipodelaw16_begun.mono _
   | exact antipoderef7_Digits.mono _ _
   | exact antipoderef7_Show.mono _ _ _ _
   | exact lex_Lex.mono _ _
   | exact lex_Word.mono _ _
   | exact LeO.none _
   | refine LeO.ite ?_ ?_
   | refine LeO.bind ?_ (fun _ => ?_)
theorem antipodelaw16_LexBack.mono : ∀ a0 a1 k, LeO (antipodelaw16_LexBack.f k a0 a1) (antipodelaw16_LexBack.f (k + 1) a0 a1) := by
 intro a0 a1 k
 obtain ⟨ih0, ih1, ih2, ih3⟩ := antipodelaw16_LexBack.mono_l k
 unfold antipodelaw16_LexBack.f
 repeat' first
   | (with_reducible exact ih0 _ _ _ _ _)
   | (with_reducible exact ih1 _ _ _ _ _ _ _ _ _ _)
   | (with_reducible exact ih2 _ _ _)
   | (with_reducible exact ih3 _ _ _)
   | (with_reducible exact antipodelaw16_begun.mono _)
   | (with_reducible exact antipoderef7_Digits.mono _ _)
   | (with_reducible exact antipoderef7_Show.mono _ _ _ _)
   | (with_reducible exact lex_Lex.mono _ _)
   | (with_reducible exact lex_Word.mono _ _)
   | (with_reducible exact LeO.refl _)
   | (with_reducible exact LeO.none _)
   | (with_reducible refine LeO.ite ?_ ?_)
   | (with_reducible refine LeO.bind ?_ (fun _ => ?_))
   | exact ih0 _ _ _ _ _
   | exact ih1 _ _ _ _ _ _ _ _ _ _
   | exact ih2 _ _ _
   | exact ih3 _ _ _
   | exact antipodelaw16_begun.mono _
   | exact antipoderef7_Digits.mono _ _
   | exact antipoderef7_Show.mono _ _ _ _
   | exact lex_Lex.mono _ _
   | exact lex_Word.mono _ _
   | exact LeO.none _
   | refine LeO.ite ?_ ?_
   | refine LeO.bind ?_ (fun _ => ?_)
def antipodelaw16_LexBack.T17 : Bool × List (List Nat × List Nat) := (true, [([], []), ([], []), ([0, 1], [0, 1]), ([2], [2]), ([3], [3]), ([], []), ([], []), ([5, 6], [5, 6]), ([7], [7]), ([8], [8]), ([4, 0, 1, 2, 3, 4], [4]), ([0, 1, 2, 3, 4, 5, 6, 7, 8, 9, 10], []), ([11, 9, 10, 0, 1, 2, 3, 4, 5, 6, 7, 8, 9, 10], [9, 11])])
def antipodelaw16_LexBack.B17 : List Nat := [0, 0, 3, 7, 15, 0, 0, 96, 224, 480, 31, 2047, 4095]
theorem antipodelaw16_LexBack.tab17 : rtab .any (opsOf Try.f5 17) = antipodelaw16_LexBack.T17 := by kernel_rfl
theorem antipodelaw16_LexBack.bits17 : waitsOk antipodelaw16_LexBack.T17.2 antipodelaw16_LexBack.B17 = true := by kernel_rfl
def antipodelaw16_LexBack.T21 : Bool × List (List Nat × List Nat) := (true, [([], []), ([], []), ([0, 1], [0, 1]), ([2], [2]), ([3], [3]), ([4], [4]), ([], []), ([], []), ([6, 7], [6, 7]), ([8], [8]), ([9], [9]), ([5, 5, 0, 1, 2, 3, 4, 5], [5]), ([0, 1, 2, 3, 4, 5, 6, 7, 8, 9, 10, 11], []), ([12, 10, 11, 0, 1, 2, 3, 4, 5, 6, 7, 8, 9, 10, 11], [10, 12])])
def antipodelaw16_LexBack.B21 : List Nat := [0, 0, 3, 7, 15, 31, 0, 0, 192, 448, 960, 63, 4095, 8191]
theorem antipodelaw16_LexBack.tab21 : rtab .any (opsOf Try.f5 21) = antipodelaw16_LexBack.T21 := by kernel_rfl
theorem antipodelaw16_LexBack.bits21 : waitsOk antipodelaw16_LexBack.T21.2 antipodelaw16_LexBack.B21 = true := by kernel_rfl
def antipodelaw16_LexBack.T25 : Bool × List (List Nat × List Nat) := (true, [([], []), ([], []), ([0, 1], [0, 1]), ([2], [2]), ([3], [3]), ([4], [4]), ([5], [5]), ([], []), ([], []), ([7, 8], [7, 8]), ([9], [9]), ([10], [10]), ([6, 6, 0, 1, 2, 3, 4, 5, 6], [6]), ([0, 1, 2, 3, 4, 5, 6, 7, 8, 9, 10, 11, 12], []), ([13, 11, 12, 0, 1, 2, 3, 4, 5, 6, 7, 8, 9, 10, 11, 12], [11, 13])])
def antipodelaw16_LexBack.B25 : List Nat := [0, 0, 3, 7, 15, 31, 63, 0, 0, 384, 896, 1920, 127, 8191, 16383]
theorem antipodelaw16_LexBack.tab25 : rtab .any (opsOf Try.f5 25) = antipodelaw16_LexBack.T25 := by kernel_rfl
theorem antipodelaw16_LexBack.bits25 : waitsOk antipodelaw16_LexBack.T25.2 antipodelaw16_LexBack.B25 = true := by kernel_rfl
def antipodelaw16_LexBack.T39 : Bool × List (List Nat × List Nat) := (true, [([], []), ([], []), ([0, 1], [0, 1]), ([2], [2]), ([], []), ([], []), ([4, 5], [4, 5]), ([6], [6]), ([3, 7], [3, 7])])
def antipodelaw16_LexBack.B39 : List Nat := [0, 0, 3, 7, 0, 0, 48, 112, 255]
theorem antipodelaw16_LexBack.tab39 : rtab .any (opsOf Try.f5 39) = antipodelaw16_LexBack.T39 := by kernel_rfl
theorem antipodelaw16_LexBack.bits39 : waitsOk antipodelaw16_LexBack.T39.2 antipodelaw16_LexBack.B39 = true := by kernel_rfl
set_option maxHeartbeats 8000000 in
set_option maxRecDepth 100000 in
theorem antipodelaw16_LexBack.calls (k : Nat) (A0 : Option Addr) (c0 : Nat) (l0 : List (S28)) (a1 : Bool) (r : Bool) (w : World) (hr0 : Kd.C k28 w A0 l0.length l0) (hc0 : l0.length ≤ c0) (hsh : Sh w) (h : antipodelaw16_LexBack.f k l0 a1 = some r) :
  Calls Try.prog 5 #[.slice A0 l0.length c0, .bool a1] w fun e w' => e = .returned (.bool r) ∧ Below w.heap.size w w' := by
 have hu28 := Try.underlying28
 have hu33 := Try.underlying33
 have HR0 := Aside0.mk hr0
 have HC0 := Aside0.mk hc0
 clear hr0 hc0
 have HB := Aside0.mk (Below.refl w.heap.size w)
 have H : ((antipodelaw16_begun.f k).bind fun t242 => (if t242 = true then (if (l0.length : Int) > 100 then (some true) else (antipodelaw16_LexBack.l0 k l0 a1 (⟨#[]⟩ : ByteArray) ([] : List (S28)) 0)) else (some false))) = some r := h
 clear h
 replace H := Option.bind_eq_some_iff.mp H
 obtain ⟨t242, A30, H⟩ := H
 replace H : (if t242 = true then (if (l0.length : Int) > 100 then (some true) else (antipodelaw16_LexBack.l0 k l0 a1 (⟨#[]⟩ : ByteArray) ([] : List (S28)) 0)) else (some false)) = some r := H
 have A3 := Aside0.mk A30
 clear A30
 by_cases c4 : t242 = true
 ·subst c4
  have H1 : (if (l0.length : Int) > 100 then (some true) else (antipodelaw16_LexBack.l0 k l0 a1 (⟨#[]⟩ : ByteArray) ([] : List (S28)) 0)) = some r := by rw [if_pos rfl] at H; exact H
  clear H
  have H := H1
  clear H1
  by_cases c5 : (l0.length : Int) > 100
  ·rw [if_pos c5] at H
   have c5b0 : decide (100 < (l0.length : Int)) = true := decide_eq_true c5
   have c5b1 : decide (100 < l0.length) = true := decide_eq_true (by omega)
   clear c5
   obtain rfl := Option.some.inj H
   go_enter Try.func5, Try.ntmps5
   go_wp2_with (first | ((with_reducible refine gate_callee (f := 7) rfl ?_); refine goesL_ (some 13) rfl rfl Try.func7 (by kernel_rfl) rfl #[] rfl (by (try simp only [List.map_toArray, List.map_cons, List.map_nil]); first | done | rfl | (simp only [List.length_drop, List.length_take]; rfl)) ?_; (with_reducible refine (antipodelaw16_begun.calls k  true _ ?side1 A3.out).mono ?_); (case side1 => exact Sh.below hsh (by repeat (first | (with_reducible first | exact HB.out | apply below_alloc | apply pw_below_drewN | apply below_drew1) | exact HB.out))); rintro e w6 ⟨rfl, hb⟩; refine ⟨_, rfl, ?_⟩; have n0_ := Aside0.mk (below_step (by repeat (first | (with_reducible first | exact HB.out | apply below_alloc | apply pw_below_drewN | apply below_drew1) | exact HB.out)) hb); clear HB; have HB := n0_; clear n0_; (try clear hb); (try clear hb2); (try clear hk); (try clear hi)))
   go_ret
   exact ⟨by first | rfl | (simp [errW_none, errW_some] <;> rfl) | (simp [*, errW_none, errW_some] <;> rfl), by repeat (first | (with_reducible first | exact HB.out | apply below_alloc | apply pw_below_drewN | apply below_drew1) | exact HB.out)⟩
  ·rw [if_neg c5] at H
   have c5b0 : decide (100 < (l0.length : Int)) = false := decide_eq_false c5
   have c5b1 : decide (100 < l0.length) = false := decide_eq_false (by omega)
   clear c5
   have H' := Aside0.mk H
   clear H
   go_enter Try.func5, Try.ntmps5
   go_wp2_with (first | ((with_reducible refine gate_callee (f := 7) rfl ?_); refine goesL_ (some 13) rfl rfl Try.func7 (by kernel_rfl) rfl #[] rfl (by (try simp only [List.map_toArray, List.map_cons, List.map_nil]); first | done | rfl | (simp only [List.length_drop, List.length_take]; rfl)) ?_; (with_reducible refine (antipodelaw16_begun.calls k  true _ ?side1 A3.out).mono ?_); (case side1 => exact Sh.below hsh (by repeat (first | (with_reducible first | exact HB.out | apply below_alloc | apply pw_below_drewN | apply below_drew1) | exact HB.out))); rintro e w7 ⟨rfl, hb⟩; refine ⟨_, rfl, ?_⟩; have n0_ := Aside0.mk (below_step (by repeat (first | (with_reducible first | exact HB.out | apply below_alloc | apply pw_below_drewN | apply below_drew1) | exact HB.out)) hb); clear HB; have HB := n0_; clear n0_; (try clear hb); (try clear hb2); (try clear hk); (try clear hi)))
   go_loopg [5, 6, 7] k (fun kq v5 v6 v7 w' => ∃ (x5_1 : ByteArray) (x6_1 : List (S28)) (x7_1 : Int), v5 = .string x5_1 ∧ v7 = .int .i64 x7_1 ∧ Aside0 (antipodelaw16_LexBack.l0 kq l0 a1 x5_1 x6_1 x7_1 = some r) ∧ Aside0 (kq ≤ k) ∧ Aside0 (Kd.R k28 28 w' w.heap.size (fun _ => True) v6 x6_1) ∧ Aside0 (Below w.heap.size w w'))
   case atStart => exact ⟨((⟨#[]⟩ : ByteArray)), (([] : List (S28))), (0), (by first | rfl | (simp; done) | (simp [*]; done)), (by first | rfl | (simp; done) | (simp [*]; done)), H', ⟨Nat.le_refl _⟩, ⟨by first | exact Kd.R_nil _ _ _ _ _ | exact Kd.N_nil _ _ _ _ _ | exact Kd.V_nil _ _ _ _ _ | exact Kd.Q_nil _ _ _ _ _ | exact Kd.S_nil _ _ _ _ _⟩, ⟨by repeat (first | (with_reducible first | exact HB.out | apply below_alloc | apply pw_below_drewN | apply below_drew1) | exact HB.out)⟩⟩
   case round =>
    clear H'
    try clear p2
    try clear c4
    try clear c5
    try clear c5b0
    try clear c5b1
    try clear c7
    obtain ⟨x5_1, x6_1, x7_1, rfl, rfl, HA, HK1, HO_6, HB⟩ := hrel
    cases gk with
    | zero => exact absurd HA.out (by simp [antipodelaw16_LexBack.l0])
    | succ k1 =>
     have H := HA.out
     clear HA
     simp only [antipodelaw16_LexBack.l0] at H
     by_cases c8 : x7_1 < (l0.length : Int)
     ·rw [if_pos c8] at H
      have c8b0 : decide (x7_1 < (l0.length : Int)) = true := decide_eq_true c8
      clear c8
      by_cases c9 : 0 ≤ x7_1
      ·rw [if_pos c9] at H
       have c9b0 : decide (0 ≤ x7_1) = true := decide_eq_true c9
       clear c9
       have HC10 := Aside0.mk H
       clear H
       have p243 : 0 ≤ (x7_1 : Int) := of_decide_eq_true (by assumption)
       have q243 : x7_1 < (l0.length : Int) := of_decide_eq_true (by assumption)
       obtain ⟨ad243, e243, hx243_0, hx243_1, hx243_2, hx243_3⟩ := at_T28 HR0.out x7_1 p243 q243
       cases e243
       replace hx243_0 := (HB.out.cell (World.block_lt_of_cell? w _ hx243_0)).trans hx243_0
       replace hx243_1 := (HB.out.cell (World.block_lt_of_cell? w _ hx243_1)).trans hx243_1
       replace hx243_2 := (HB.out.cell (World.block_lt_of_cell? w _ hx243_2)).trans hx243_2
       replace hx243_3 := (HB.out.cell (World.block_lt_of_cell? w _ hx243_3)).trans hx243_3
       replace p243 := eq_true p243
       replace q243 := eq_true q243
       go_upto_block 2 with (first | ((with_reducible refine gate_dst (N := 9) rfl ?_); (try (refine gate_guard (by rfl) ?_; dsimp only)); refine box_event ?hg (N := 9) ?hd (cs := #[.int .i64 0, .int .i64 0, .string (⟨#[]⟩ : ByteArray), .int .i64 0]) (t := 28) ?hr ?_; (case hd => rfl); (case hg => rfl); (case hr => first | (go_simp; done) | (go_simp; rfl)); intro gb244 hg w11 hbox hb; have n0_ := Aside0.mk (Kd.R_below (Kd.R_elderB (by (with_reducible repeat (first | apply Kd.R_alloc | apply Kd.R_drewN | apply Kd.R_drew)); exact HO_6.out) gb244 (Nat.le_of_eq hg.symm)) hb); have n1_ := Aside0.mk (below_step (by repeat (first | (with_reducible first | exact HB.out | apply below_alloc | apply pw_below_drewN | apply below_drew1) | exact HB.out)) hb); have n2_ := Aside0.mk (hbox); have n3_ := Aside0.mk ((by rw [hg]; exact (below_size (by repeat (first | (with_reducible first | exact HB.out | apply below_alloc | apply pw_below_drewN | apply below_drew1) | exact HB.out))) : w.heap.size ≤ gb244)); have n4_ := Aside0.mk ((by rw [hg]; exact (below_size (by repeat (first | (with_reducible first | exact HB.out | apply below_alloc | apply pw_below_drewN | apply below_drew1) | exact HB.out))) : w.heap.size ≤ gb244)); clear HO_6; clear HB; have HO_6 := n0_; have HB := n1_; have BK244 := n2_; have GW244 := n3_; have GE244 := n4_; clear n0_ n1_ n2_ n3_ n4_; clear hb hbox hg; have hcz12_0 : w11.cell? ⟨gb244, 0, none⟩ = some (.int .i64 0) := (blk_cell BK244.out 0).trans rfl; have hcz12_1 : w11.cell? ⟨gb244, 1, none⟩ = some (.int .i64 0) := (blk_cell BK244.out 1).trans rfl; have hcz12_2 : w11.cell? ⟨gb244, 2, none⟩ = some (.string (⟨#[]⟩ : ByteArray)) := (blk_cell BK244.out 2).trans rfl; have hcz12_3 : w11.cell? ⟨gb244, 3, none⟩ = some (.int .i64 0) := (blk_cell BK244.out 3).trans rfl; have hfz12_0 := blk_frozen BK244.out 0; have hfz12_1 := blk_frozen BK244.out 1; have hfz12_2 := blk_frozen BK244.out 2; have hfz12_3 := blk_frozen BK244.out 3; have p245 : 0 ≤ (x7_1 : Int) := of_decide_eq_true (by assumption); have q245 : x7_1 < (l0.length : Int) := of_decide_eq_true (by assumption); obtain ⟨ad245, e245, hx245_0, hx245_1, hx245_2, hx245_3⟩ := at_T28 HR0.out x7_1 p245 q245; obtain rfl : ad243 = ad245 := (by injection e245); have hn245_0 : ad243.block ≠ gb244 := Nat.ne_of_lt (Nat.lt_of_lt_of_le (by have := World.block_lt_of_cell? _ _ hx245_0; first | rwa [add_block] at this | exact this) GW244.out); have hn245_1 : ad243.block ≠ gb244 := Nat.ne_of_lt (Nat.lt_of_lt_of_le (by have := World.block_lt_of_cell? _ _ hx245_0; first | rwa [add_block] at this | exact this) GW244.out); have hn245_2 : ad243.block ≠ gb244 := Nat.ne_of_lt (Nat.lt_of_lt_of_le (by have := World.block_lt_of_cell? _ _ hx245_0; first | rwa [add_block] at this | exact this) GW244.out); have hn245_3 : ad243.block ≠ gb244 := Nat.ne_of_lt (Nat.lt_of_lt_of_le (by have := World.block_lt_of_cell? _ _ hx245_0; first | rwa [add_block] at this | exact this) GW244.out); replace hx245_0 := (HB.out.cell (World.block_lt_of_cell? w _ hx245_0)).trans hx245_0; replace hx245_1 := (HB.out.cell (World.block_lt_of_cell? w _ hx245_1)).trans hx245_1; replace hx245_2 := (HB.out.cell (World.block_lt_of_cell? w _ hx245_2)).trans hx245_2; replace hx245_3 := (HB.out.cell (World.block_lt_of_cell? w _ hx245_3)).trans hx245_3; replace hx245_0 := (cell_far (p := ⟨gb244, 0, none⟩) (by first | exact hn245_0 | exact abn hn245_0) (.int .i64 ((rd_T28 l0 x7_1).f0))).trans hx245_0; replace hx245_1 := (cell_far (p := ⟨gb244, 0, none⟩) (by first | exact hn245_0 | exact abn hn245_0) (.int .i64 ((rd_T28 l0 x7_1).f0))).trans hx245_1; replace hx245_2 := (cell_far (p := ⟨gb244, 0, none⟩) (by first | exact hn245_0 | exact abn hn245_0) (.int .i64 ((rd_T28 l0 x7_1).f0))).trans hx245_2; replace hx245_3 := (cell_far (p := ⟨gb244, 0, none⟩) (by first | exact hn245_0 | exact abn hn245_0) (.int .i64 ((rd_T28 l0 x7_1).f0))).trans hx245_3; replace hx245_0 := (cell_far (p := ⟨gb244, 1, none⟩) (by first | exact hn245_1 | exact abn hn245_1) (.int .i64 0)).trans hx245_0; replace hx245_1 := (cell_far (p := ⟨gb244, 1, none⟩) (by first | exact hn245_1 | exact abn hn245_1) (.int .i64 0)).trans hx245_1; replace hx245_2 := (cell_far (p := ⟨gb244, 1, none⟩) (by first | exact hn245_1 | exact abn hn245_1) (.int .i64 0)).trans hx245_2; replace hx245_3 := (cell_far (p := ⟨gb244, 1, none⟩) (by first | exact hn245_1 | exact abn hn245_1) (.int .i64 0)).trans hx245_3; replace hx245_0 := (cell_far (p := ⟨gb244, 2, none⟩) (by first | exact hn245_2 | exact abn hn245_2) (.string (⟨#[]⟩ : ByteArray))).trans hx245_0; replace hx245_1 := (cell_far (p := ⟨gb244, 2, none⟩) (by first | exact hn245_2 | exact abn hn245_2) (.string (⟨#[]⟩ : ByteArray))).trans hx245_1; replace hx245_2 := (cell_far (p := ⟨gb244, 2, none⟩) (by first | exact hn245_2 | exact abn hn245_2) (.string (⟨#[]⟩ : ByteArray))).trans hx245_2; replace hx245_3 := (cell_far (p := ⟨gb244, 2, none⟩) (by first | exact hn245_2 | exact abn hn245_2) (.string (⟨#[]⟩ : ByteArray))).trans hx245_3; replace hx245_0 := (cell_far (p := ⟨gb244, 3, none⟩) (by first | exact hn245_3 | exact abn hn245_3) (.int .i64 0)).trans hx245_0; replace hx245_1 := (cell_far (p := ⟨gb244, 3, none⟩) (by first | exact hn245_3 | exact abn hn245_3) (.int .i64 0)).trans hx245_1; replace hx245_2 := (cell_far (p := ⟨gb244, 3, none⟩) (by first | exact hn245_3 | exact abn hn245_3) (.int .i64 0)).trans hx245_2; replace hx245_3 := (cell_far (p := ⟨gb244, 3, none⟩) (by first | exact hn245_3 | exact abn hn245_3) (.int .i64 0)).trans hx245_3; clear hn245_0; clear hn245_1; clear hn245_2; clear hn245_3; replace p245 := eq_true p245; replace q245 := eq_true q245))
       (try simp only [Act.put, List.setIfInBounds_toArray, List.set_cons_zero, List.set_cons_succ])
       go_cut [8] (fun v8 wc => ∃ (kq : Nat) (x8_9 : ByteArray) (x245002_9 : ByteArray) (x245003_9 : Int), v8 = .string x8_9 ∧ Aside0 (antipodelaw16_LexBack.j1 kq l0 a1 x5_1 x6_1 x7_1 x8_9 ((rd_T28 l0 x7_1).f0) 0 x245002_9 x245003_9 = some r) ∧ Aside0 (kq ≤ k1) ∧ Aside0 (Kd.R k28 28 wc w.heap.size (fun k_ => k_ ≠ gb244) u6 x6_1) ∧ Aside0 (wc.heap[gb244]? = some (.cells #[.int .i64 ((rd_T28 l0 x7_1).f0), .int .i64 0, .string x245002_9, .int .i64 x245003_9] 28 (0, 0))) ∧ Aside0 (Below w.heap.size w wc))
       case first =>
        have H := HC10.out
        clear HC10
        by_cases c13 : ((rd_T28 l0 x7_1).f0) = 1
        ·rw [if_pos c13] at H
         have c13b0 : (((rd_T28 l0 x7_1).f0) == 1) = true := beq_iff_eq.mpr c13
         have c13b1 : (((rd_T28 l0 x7_1).f0) != 1) = false := bne_eq_false_iff_eq.mpr c13
         clear c13
         (first | rw [c13b0] | (simp only [i64_w, i32_w]; rw [c13b0]) | skip)
         replace H := Option.bind_eq_some_iff.mp H
         obtain ⟨t247, A140, H⟩ := H
         replace H : (if t247 = true then (antipodelaw16_LexBack.j1 k1 l0 a1 x5_1 x6_1 x7_1 ((rd_T28 l0 x7_1).f2) ((rd_T28 l0 x7_1).f0) 0 ((rd_T28 l0 x7_1).f2) 0) else (some true)) = some r := H
         have A14 := Aside0.mk A140
         clear A140
         by_cases c15 : t247 = true
         ·subst c15
          have H1 : (antipodelaw16_LexBack.j1 k1 l0 a1 x5_1 x6_1 x7_1 ((rd_T28 l0 x7_1).f2) ((rd_T28 l0 x7_1).f0) 0 ((rd_T28 l0 x7_1).f2) 0) = some r := by rw [if_pos rfl] at H; exact H
          clear H
          have H := H1
          clear H1
          have H' := Aside0.mk H
          clear H
          have p246 : 0 ≤ (x7_1 : Int) := of_decide_eq_true (by assumption)
          have q246 : x7_1 < (l0.length : Int) := of_decide_eq_true (by assumption)
          obtain ⟨ad246, e246, hx246_0, hx246_1, hx246_2, hx246_3⟩ := at_T28 HR0.out x7_1 p246 q246
          obtain rfl : ad243 = ad246 := (by injection e246)
          have hn246_0 : ad243.block ≠ gb244 := Nat.ne_of_lt (Nat.lt_of_lt_of_le (by have := World.block_lt_of_cell? _ _ hx246_0; first | rwa [add_block] at this | exact this) GW244.out)
          have hn246_1 : ad243.block ≠ gb244 := Nat.ne_of_lt (Nat.lt_of_lt_of_le (by have := World.block_lt_of_cell? _ _ hx246_0; first | rwa [add_block] at this | exact this) GW244.out)
          have hn246_2 : ad243.block ≠ gb244 := Nat.ne_of_lt (Nat.lt_of_lt_of_le (by have := World.block_lt_of_cell? _ _ hx246_0; first | rwa [add_block] at this | exact this) GW244.out)
          have hn246_3 : ad243.block ≠ gb244 := Nat.ne_of_lt (Nat.lt_of_lt_of_le (by have := World.block_lt_of_cell? _ _ hx246_0; first | rwa [add_block] at this | exact this) GW244.out)
          replace hx246_0 := (HB.out.cell (World.block_lt_of_cell? w _ hx246_0)).trans hx246_0
          replace hx246_1 := (HB.out.cell (World.block_lt_of_cell? w _ hx246_1)).trans hx246_1
          replace hx246_2 := (HB.out.cell (World.block_lt_of_cell? w _ hx246_2)).trans hx246_2
          replace hx246_3 := (HB.out.cell (World.block_lt_of_cell? w _ hx246_3)).trans hx246_3
          replace hx246_0 := (cell_far (p := ⟨gb244, 0, none⟩) (by first | exact hn246_0 | exact abn hn246_0) (.int .i64 ((rd_T28 l0 x7_1).f0))).trans hx246_0
          replace hx246_1 := (cell_far (p := ⟨gb244, 0, none⟩) (by first | exact hn246_0 | exact abn hn246_0) (.int .i64 ((rd_T28 l0 x7_1).f0))).trans hx246_1
          replace hx246_2 := (cell_far (p := ⟨gb244, 0, none⟩) (by first | exact hn246_0 | exact abn hn246_0) (.int .i64 ((rd_T28 l0 x7_1).f0))).trans hx246_2
          replace hx246_3 := (cell_far (p := ⟨gb244, 0, none⟩) (by first | exact hn246_0 | exact abn hn246_0) (.int .i64 ((rd_T28 l0 x7_1).f0))).trans hx246_3
          replace hx246_0 := (cell_far (p := ⟨gb244, 1, none⟩) (by first | exact hn246_1 | exact abn hn246_1) (.int .i64 0)).trans hx246_0
          replace hx246_1 := (cell_far (p := ⟨gb244, 1, none⟩) (by first | exact hn246_1 | exact abn hn246_1) (.int .i64 0)).trans hx246_1
          replace hx246_2 := (cell_far (p := ⟨gb244, 1, none⟩) (by first | exact hn246_1 | exact abn hn246_1) (.int .i64 0)).trans hx246_2
          replace hx246_3 := (cell_far (p := ⟨gb244, 1, none⟩) (by first | exact hn246_1 | exact abn hn246_1) (.int .i64 0)).trans hx246_3
          replace hx246_0 := (cell_far (p := ⟨gb244, 2, none⟩) (by first | exact hn246_2 | exact abn hn246_2) (.string (⟨#[]⟩ : ByteArray))).trans hx246_0
          replace hx246_1 := (cell_far (p := ⟨gb244, 2, none⟩) (by first | exact hn246_2 | exact abn hn246_2) (.string (⟨#[]⟩ : ByteArray))).trans hx246_1
          replace hx246_2 := (cell_far (p := ⟨gb244, 2, none⟩) (by first | exact hn246_2 | exact abn hn246_2) (.string (⟨#[]⟩ : ByteArray))).trans hx246_2
          replace hx246_3 := (cell_far (p := ⟨gb244, 2, none⟩) (by first | exact hn246_2 | exact abn hn246_2) (.string (⟨#[]⟩ : ByteArray))).trans hx246_3
          replace hx246_0 := (cell_far (p := ⟨gb244, 3, none⟩) (by first | exact hn246_3 | exact abn hn246_3) (.int .i64 0)).trans hx246_0
          replace hx246_1 := (cell_far (p := ⟨gb244, 3, none⟩) (by first | exact hn246_3 | exact abn hn246_3) (.int .i64 0)).trans hx246_1
          replace hx246_2 := (cell_far (p := ⟨gb244, 3, none⟩) (by first | exact hn246_3 | exact abn hn246_3) (.int .i64 0)).trans hx246_2
          replace hx246_3 := (cell_far (p := ⟨gb244, 3, none⟩) (by first | exact hn246_3 | exact abn hn246_3) (.int .i64 0)).trans hx246_3
          clear hn246_0
          clear hn246_1
          clear hn246_2
          clear hn246_3
          replace p246 := eq_true p246
          replace q246 := eq_true q246
          try go_wp2_with (first | ((with_reducible refine gate_callee (f := 10) rfl ?_); refine goesL_ (some 42) rfl rfl Try.func10 (by kernel_rfl) rfl #[.string ((rd_T28 l0 x7_1).f2)] rfl (by (try simp only [List.map_toArray, List.map_cons, List.map_nil]); first | done | rfl | (simp only [List.length_drop, List.length_take]; rfl)) ?_; (with_reducible refine (lex_Word.calls k1 ((rd_T28 l0 x7_1).f2) true _ ?side1 A14.out).mono ?_); (case side1 => exact Sh.below hsh (by repeat (first | (with_reducible first | exact HB.out | apply below_alloc | apply pw_below_drewN | apply below_drew1 | refine below_set ?_ GE244.out) | exact HB.out))); rintro e w16 ⟨rfl, hb⟩; refine ⟨_, rfl, ?_⟩; have n0_ := Aside0.mk (Kd.R_below (by (with_reducible repeat (first | apply Kd.R_alloc | apply Kd.R_drewN | apply Kd.R_drew)); exact (Kd.R_mono (Kd.R_far (p := ⟨gb244, 3, none⟩) (Kd.R_far (p := ⟨gb244, 2, none⟩) (Kd.R_far (p := ⟨gb244, 1, none⟩) (Kd.R_far (p := ⟨gb244, 0, none⟩) (Kd.R_mono HO_6.out (fun k_ hk => (⟨hk, hk.2⟩ : _ ∧ k_ ≠ gb244))) (fun _ hk => hk.2) (.int .i64 ((rd_T28 l0 x7_1).f0))) (fun _ hk => hk.2) (.int .i64 0)) (fun _ hk => hk.2) (.string (⟨#[]⟩ : ByteArray))) (fun _ hk => hk.2) (.int .i64 0)) (fun _ h_ => h_.1))) hb); have n1_ := Aside0.mk (blk_below (g := gb244) (o := .cells #[.int .i64 ((rd_T28 l0 x7_1).f0), .int .i64 0, .string (⟨#[]⟩ : ByteArray), .int .i64 0] 28 (0, 0)) (by (with_reducible repeat (first | refine blk_drewN ?_ _ | refine blk_drew ?_ | refine blk_alloc ?_ _)); refine blk_put (cs := #[.int .i64 ((rd_T28 l0 x7_1).f0), .int .i64 0, .string (⟨#[]⟩ : ByteArray), .int .i64 0]) ?_ 3 _ rfl; (with_reducible repeat (first | refine blk_drewN ?_ _ | refine blk_drew ?_ | refine blk_alloc ?_ _)); refine blk_put (cs := #[.int .i64 ((rd_T28 l0 x7_1).f0), .int .i64 0, .string (⟨#[]⟩ : ByteArray), .int .i64 0]) ?_ 2 _ rfl; (with_reducible repeat (first | refine blk_drewN ?_ _ | refine blk_drew ?_ | refine blk_alloc ?_ _)); refine blk_put (cs := #[.int .i64 ((rd_T28 l0 x7_1).f0), .int .i64 0, .string (⟨#[]⟩ : ByteArray), .int .i64 0]) ?_ 1 _ rfl; (with_reducible repeat (first | refine blk_drewN ?_ _ | refine blk_drew ?_ | refine blk_alloc ?_ _)); refine blk_put (cs := #[.int .i64 0, .int .i64 0, .string (⟨#[]⟩ : ByteArray), .int .i64 0]) ?_ 0 _ rfl; (with_reducible repeat (first | refine blk_drewN ?_ _ | refine blk_drew ?_ | refine blk_alloc ?_ _)); exact BK244.out) hb); have n2_ := Aside0.mk (below_step (by repeat (first | (with_reducible first | exact HB.out | apply below_alloc | apply pw_below_drewN | apply below_drew1 | refine below_set ?_ GE244.out) | exact HB.out)) hb); clear HO_6; clear BK244; clear HB; have HO_6 := n0_; have BK244 := n1_; have HB := n2_; clear n0_ n1_ n2_; (try clear hb); (try clear hb2); (try clear hk); (try clear hi)))
          have n0_ := Aside0.mk (Kd.R_drew HO_6.out)
          have n1_ := Aside0.mk (blk_drew BK244.out)
          have n2_ := Aside0.mk (below_drew1 HB.out)
          clear HO_6
          clear BK244
          clear HB
          have HO_6 := n0_
          have BK244 := n1_
          have HB := n2_
          clear n0_ n1_ n2_
          have p248 : 0 ≤ (x7_1 : Int) := of_decide_eq_true (by assumption)
          have q248 : x7_1 < (l0.length : Int) := of_decide_eq_true (by assumption)
          obtain ⟨ad248, e248, hx248_0, hx248_1, hx248_2, hx248_3⟩ := at_T28 HR0.out x7_1 p248 q248
          have hw248_3 := hx248_3
          have hw248_2 := hx248_2
          have hw248_1 := hx248_1
          have hw248_0 := hx248_0
          obtain rfl : ad243 = ad248 := (by injection e248)
          replace hx248_0 := (HB.out.cell (World.block_lt_of_cell? w _ hx248_0)).trans hx248_0
          replace hx248_1 := (HB.out.cell (World.block_lt_of_cell? w _ hx248_1)).trans hx248_1
          replace hx248_2 := (HB.out.cell (World.block_lt_of_cell? w _ hx248_2)).trans hx248_2
          replace hx248_3 := (HB.out.cell (World.block_lt_of_cell? w _ hx248_3)).trans hx248_3
          replace p248 := eq_true p248
          replace q248 := eq_true q248
          have p249 : 0 ≤ (x7_1 : Int) := of_decide_eq_true (by assumption)
          have q249 : x7_1 < (l0.length : Int) := of_decide_eq_true (by assumption)
          obtain ⟨ad249, e249, hx249_0, hx249_1, hx249_2, hx249_3⟩ := at_T28 HR0.out x7_1 p249 q249
          have hw249_3 := hx249_3
          have hw249_2 := hx249_2
          have hw249_1 := hx249_1
          have hw249_0 := hx249_0
          obtain rfl : ad243 = ad249 := (by injection e249)
          replace hx249_0 := (HB.out.cell (World.block_lt_of_cell? w _ hx249_0)).trans hx249_0
          replace hx249_1 := (HB.out.cell (World.block_lt_of_cell? w _ hx249_1)).trans hx249_1
          replace hx249_2 := (HB.out.cell (World.block_lt_of_cell? w _ hx249_2)).trans hx249_2
          replace hx249_3 := (HB.out.cell (World.block_lt_of_cell? w _ hx249_3)).trans hx249_3
          replace p249 := eq_true p249
          replace q249 := eq_true q249
          refine start_ (n := 13) (S := fun w' => w'.cell? (ad243.add ((x7_1).toNat * 4)) = some (.int .i64 ((rd_T28 l0 x7_1).f0)) ∧ w'.cell? ⟨(ad243.add ((x7_1).toNat * 4)).block, (ad243.add ((x7_1).toNat * 4)).off + 1, none⟩ = some (.int .i64 ((rd_T28 l0 x7_1).f1)) ∧ w'.cell? ⟨(ad243.add ((x7_1).toNat * 4)).block, (ad243.add ((x7_1).toNat * 4)).off + 2, none⟩ = some (.string ((rd_T28 l0 x7_1).f2)) ∧ w'.cell? ⟨(ad243.add ((x7_1).toNat * 4)).block, (ad243.add ((x7_1).toNat * 4)).off + 3, none⟩ = some (.int .i64 ((rd_T28 l0 x7_1).f3)) ∧ w'.cell? (ad243.add ((x7_1).toNat * 4)) = some (.int .i64 ((rd_T28 l0 x7_1).f0)) ∧ w'.cell? ⟨(ad243.add ((x7_1).toNat * 4)).block, (ad243.add ((x7_1).toNat * 4)).off + 1, none⟩ = some (.int .i64 ((rd_T28 l0 x7_1).f1)) ∧ w'.cell? ⟨(ad243.add ((x7_1).toNat * 4)).block, (ad243.add ((x7_1).toNat * 4)).off + 2, none⟩ = some (.string ((rd_T28 l0 x7_1).f2)) ∧ w'.cell? ⟨(ad243.add ((x7_1).toNat * 4)).block, (ad243.add ((x7_1).toNat * 4)).off + 3, none⟩ = some (.int .i64 ((rd_T28 l0 x7_1).f3))) (ds := []) #[false, false, false, false, false, false, false, false, false, false, false, false, false] (by kernel_rfl) rfl rfl ⟨((HB.out.cell (World.block_lt_of_cell? w _ hw248_0)).trans hw248_0), ((HB.out.cell (World.block_lt_of_cell? w _ hw248_1)).trans hw248_1), ((HB.out.cell (World.block_lt_of_cell? w _ hw248_2)).trans hw248_2), ((HB.out.cell (World.block_lt_of_cell? w _ hw248_3)).trans hw248_3), ((HB.out.cell (World.block_lt_of_cell? w _ hw249_0)).trans hw249_0), ((HB.out.cell (World.block_lt_of_cell? w _ hw249_1)).trans hw249_1), ((HB.out.cell (World.block_lt_of_cell? w _ hw249_2)).trans hw249_2), ((HB.out.cell (World.block_lt_of_cell? w _ hw249_3)).trans hw249_3)⟩ (fun hHeld => ?_); refine with_tabW antipodelaw16_LexBack.tab17 antipodelaw16_LexBack.bits17 (fun HT_ HW_ => ?_)
          generalize w16.drew = w17 at HO_6 BK244 HB hx248_0 hx248_1 hx248_2 hx248_3 hx249_0 hx249_1 hx249_2 hx249_3 hHeld ⊢
          refine pure_ (i := 0) (N := some 44) (v := ?_) (a' := ?_) #[true, false, false, false, false, false, false, false, false, false, false, false, false] rfl rfl (any_of HT_.out (by kernel_rfl)) (fun _ _ _ h => h) (Or.inl ⟨by rfl, ?_⟩) ?_ ?_
          rotate_left
          ·intro w'
           go_simp
           with_reducible rfl
          rotate_left
          ·simp only [Act.put, List.setIfInBounds_toArray, List.set_cons_zero, List.set_cons_succ, i64_w, i32_w]
           rfl
          refine pure_ (i := 1) (N := some 45) (v := ?_) (a' := ?_) #[true, true, false, false, false, false, false, false, false, false, false, false, false] rfl rfl (any_of HT_.out (by kernel_rfl)) (fun _ _ _ h => h) (Or.inl ⟨by rfl, ?_⟩) ?_ ?_
          rotate_left
          ·intro w'
           go_simp
           with_reducible rfl
          rotate_left
          ·simp only [Act.put, List.setIfInBounds_toArray, List.set_cons_zero, List.set_cons_succ, i64_w, i32_w]
           rfl
          refine pure_ (i := 2) (N := some 46) (v := ?_) (a' := ?_) #[true, true, true, false, false, false, false, false, false, false, false, false, false] rfl rfl (any_of HT_.out (by kernel_rfl)) (fun _ _ _ h => h) (Or.inl ⟨by rfl, ?_⟩) ?_ ?_
          rotate_left
          ·intro w'
           go_simp
           with_reducible rfl
          rotate_left
          ·simp only [Act.put, List.setIfInBounds_toArray, List.set_cons_zero, List.set_cons_succ, i64_w, i32_w]
           rfl
          refine pure_ (i := 3) (N := some 47) (v := ?_) (a' := ?_) #[true, true, true, true, false, false, false, false, false, false, false, false, false] rfl rfl (any_of HT_.out (by kernel_rfl)) (fun _ _ _ h => h) (Or.inl ⟨by rfl, ?_⟩) ?_ ?_
          rotate_left
          ·intro w'
           go_simp
           with_reducible rfl
          rotate_left
          ·simp only [Act.put, List.setIfInBounds_toArray, List.set_cons_zero, List.set_cons_succ, i64_w, i32_w]
           rfl
          refine pure_ (i := 5) (N := some 49) (v := ?_) (a' := ?_) #[true, true, true, true, false, true, false, false, false, false, false, false, false] rfl rfl (any_of HT_.out (by kernel_rfl)) (fun _ _ _ h => h) (Or.inl ⟨by rfl, ?_⟩) ?_ ?_
          rotate_left
          ·intro w'
           go_simp
           with_reducible rfl
          rotate_left
          ·simp only [Act.put, List.setIfInBounds_toArray, List.set_cons_zero, List.set_cons_succ, i64_w, i32_w]
           rfl
          refine pure_ (i := 6) (N := some 50) (v := ?_) (a' := ?_) #[true, true, true, true, false, true, true, false, false, false, false, false, false] rfl rfl (any_of HT_.out (by kernel_rfl)) (fun _ _ _ h => h) (Or.inl ⟨by rfl, ?_⟩) ?_ ?_
          rotate_left
          ·intro w'
           go_simp
           with_reducible rfl
          rotate_left
          ·simp only [Act.put, List.setIfInBounds_toArray, List.set_cons_zero, List.set_cons_succ, i64_w, i32_w]
           rfl
          refine pure_ (i := 7) (N := some 51) (v := ?_) (a' := ?_) #[true, true, true, true, false, true, true, true, false, false, false, false, false] rfl rfl (any_of HT_.out (by kernel_rfl)) (fun _ _ _ h => h) (Or.inl ⟨by rfl, ?_⟩) ?_ ?_
          rotate_left
          ·intro w'
           go_simp
           with_reducible rfl
          rotate_left
          ·simp only [Act.put, List.setIfInBounds_toArray, List.set_cons_zero, List.set_cons_succ, i64_w, i32_w]
           rfl
          refine pure_ (i := 8) (N := some 52) (v := ?_) (a' := ?_) #[true, true, true, true, false, true, true, true, true, false, false, false, false] rfl rfl (any_of HT_.out (by kernel_rfl)) (fun _ _ _ h => h) (Or.inl ⟨by rfl, ?_⟩) ?_ ?_
          rotate_left
          ·intro w'
           go_simp
           with_reducible rfl
          rotate_left
          ·simp only [Act.put, List.setIfInBounds_toArray, List.set_cons_zero, List.set_cons_succ, i64_w, i32_w]
           rfl
          refine take_ (i := 4) (N := some 48) (v := ?_) (a' := ?_) #[true, true, true, true, true, true, true, true, true, false, false, false, false] rfl rfl (take_ofW HT_.out HW_.out (by kernel_rfl)) (fun _ _ _ h => h) (Or.inl ⟨by rfl, ?_⟩) hHeld ?_ ?_
          rotate_left
          ·rintro w' ⟨s0, s1, s2, s3, s4, s5, s6, s7⟩
           go_simp
           with_reducible rfl
          rotate_left
          ·simp only [Act.put, List.setIfInBounds_toArray, List.set_cons_zero, List.set_cons_succ, i64_w, i32_w]
           rfl
          refine pure_ (i := 10) (N := some 8) (v := ?_) (a' := ?_) #[true, true, true, true, true, true, true, true, true, false, true, false, false] rfl rfl (any_of HT_.out (by kernel_rfl)) (fun _ _ _ h => h) (Or.inl ⟨by rfl, ?_⟩) ?_ ?_
          rotate_left
          ·intro w'
           go_simp
           with_reducible rfl
          rotate_left
          ·simp only [Act.put, List.setIfInBounds_toArray, List.set_cons_zero, List.set_cons_succ, i64_w, i32_w]
           rfl
          refine take_ (i := 9) (N := some 53) (v := ?_) (a' := ?_) #[true, true, true, true, true, true, true, true, true, true, true, false, false] rfl rfl (take_ofW HT_.out HW_.out (by kernel_rfl)) (fun _ _ _ h => h) (Or.inl ⟨by rfl, ?_⟩) hHeld ?_ ?_
          rotate_left
          ·rintro w' ⟨s0, s1, s2, s3, s4, s5, s6, s7⟩
           go_simp
           with_reducible rfl
          rotate_left
          ·simp only [Act.put, List.setIfInBounds_toArray, List.set_cons_zero, List.set_cons_succ, i64_w, i32_w]
           rfl
          refine pure_ (i := 11) (N := some 54) (v := ?_) (a' := ?_) #[true, true, true, true, true, true, true, true, true, true, true, true, false] rfl rfl (any_of HT_.out (by kernel_rfl)) (fun _ _ _ h => h) (Or.inl ⟨by rfl, ?_⟩) ?_ ?_
          rotate_left
          ·intro w'
           go_simp
           with_reducible rfl
          rotate_left
          ·simp only [Act.put, List.setIfInBounds_toArray, List.set_cons_zero, List.set_cons_succ, i64_w, i32_w]
           rfl
          refine one_ (i := 12) (N := none) #[true, true, true, true, true, true, true, true, true, true, true, true, true] rfl rfl (one_of HT_.out (by kernel_rfl)) (by decide) (fun K hK => ?_)
          have hs18 : w17.cell? ⟨gb244, 2, none⟩ = some (.string (⟨#[]⟩ : ByteArray)) := (blk_cell BK244.out 2).trans rfl
          have hfs18 := blk_frozen BK244.out 2
          refine skip_ (w1 := ?_) (by rfl) rfl ?_ ?_
          rotate_left
          ·go_simp
           rfl
          refine hK.out _ _ ⟨((cell_far (p := ⟨gb244, _, none⟩) (by first | exact Nat.ne_of_lt (Nat.lt_of_lt_of_le (by have := World.block_lt_of_cell? _ _ hw248_0; first | rwa [add_block] at this | exact this) GW244.out) | (rw [add_block]; exact Nat.ne_of_lt (Nat.lt_of_lt_of_le (by have := World.block_lt_of_cell? _ _ hw248_0; first | rwa [add_block] at this | exact this) GW244.out)) | (show (Addr.add _ _).block ≠ _; rw [add_block]; exact Nat.ne_of_lt (Nat.lt_of_lt_of_le (by have := World.block_lt_of_cell? _ _ hw248_0; first | rwa [add_block] at this | exact this) GW244.out)) | (dsimp only; exact Nat.ne_of_lt (Nat.lt_of_lt_of_le (by have := World.block_lt_of_cell? _ _ hw248_0; first | rwa [add_block] at this | exact this) GW244.out))) _).trans (hHeld.1)), ((cell_far (p := ⟨gb244, _, none⟩) (by first | exact Nat.ne_of_lt (Nat.lt_of_lt_of_le (by have := World.block_lt_of_cell? _ _ hw248_1; first | rwa [add_block] at this | exact this) GW244.out) | (rw [add_block]; exact Nat.ne_of_lt (Nat.lt_of_lt_of_le (by have := World.block_lt_of_cell? _ _ hw248_1; first | rwa [add_block] at this | exact this) GW244.out)) | (show (Addr.add _ _).block ≠ _; rw [add_block]; exact Nat.ne_of_lt (Nat.lt_of_lt_of_le (by have := World.block_lt_of_cell? _ _ hw248_1; first | rwa [add_block] at this | exact this) GW244.out)) | (dsimp only; exact Nat.ne_of_lt (Nat.lt_of_lt_of_le (by have := World.block_lt_of_cell? _ _ hw248_1; first | rwa [add_block] at this | exact this) GW244.out))) _).trans (hHeld.2.1)), ((cell_far (p := ⟨gb244, _, none⟩) (by first | exact Nat.ne_of_lt (Nat.lt_of_lt_of_le (by have := World.block_lt_of_cell? _ _ hw248_2; first | rwa [add_block] at this | exact this) GW244.out) | (rw [add_block]; exact Nat.ne_of_lt (Nat.lt_of_lt_of_le (by have := World.block_lt_of_cell? _ _ hw248_2; first | rwa [add_block] at this | exact this) GW244.out)) | (show (Addr.add _ _).block ≠ _; rw [add_block]; exact Nat.ne_of_lt (Nat.lt_of_lt_of_le (by have := World.block_lt_of_cell? _ _ hw248_2; first | rwa [add_block] at this | exact this) GW244.out)) | (dsimp only; exact Nat.ne_of_lt (Nat.lt_of_lt_of_le (by have := World.block_lt_of_cell? _ _ hw248_2; first | rwa [add_block] at this | exact this) GW244.out))) _).trans (hHeld.2.2.1)), ((cell_far (p := ⟨gb244, _, none⟩) (by first | exact Nat.ne_of_lt (Nat.lt_of_lt_of_le (by have := World.block_lt_of_cell? _ _ hw248_3; first | rwa [add_block] at this | exact this) GW244.out) | (rw [add_block]; exact Nat.ne_of_lt (Nat.lt_of_lt_of_le (by have := World.block_lt_of_cell? _ _ hw248_3; first | rwa [add_block] at this | exact this) GW244.out)) | (show (Addr.add _ _).block ≠ _; rw [add_block]; exact Nat.ne_of_lt (Nat.lt_of_lt_of_le (by have := World.block_lt_of_cell? _ _ hw248_3; first | rwa [add_block] at this | exact this) GW244.out)) | (dsimp only; exact Nat.ne_of_lt (Nat.lt_of_lt_of_le (by have := World.block_lt_of_cell? _ _ hw248_3; first | rwa [add_block] at this | exact this) GW244.out))) _).trans (hHeld.2.2.2.1)), ((cell_far (p := ⟨gb244, _, none⟩) (by first | exact Nat.ne_of_lt (Nat.lt_of_lt_of_le (by have := World.block_lt_of_cell? _ _ hw249_0; first | rwa [add_block] at this | exact this) GW244.out) | (rw [add_block]; exact Nat.ne_of_lt (Nat.lt_of_lt_of_le (by have := World.block_lt_of_cell? _ _ hw249_0; first | rwa [add_block] at this | exact this) GW244.out)) | (show (Addr.add _ _).block ≠ _; rw [add_block]; exact Nat.ne_of_lt (Nat.lt_of_lt_of_le (by have := World.block_lt_of_cell? _ _ hw249_0; first | rwa [add_block] at this | exact this) GW244.out)) | (dsimp only; exact Nat.ne_of_lt (Nat.lt_of_lt_of_le (by have := World.block_lt_of_cell? _ _ hw249_0; first | rwa [add_block] at this | exact this) GW244.out))) _).trans (hHeld.2.2.2.2.1)), ((cell_far (p := ⟨gb244, _, none⟩) (by first | exact Nat.ne_of_lt (Nat.lt_of_lt_of_le (by have := World.block_lt_of_cell? _ _ hw249_1; first | rwa [add_block] at this | exact this) GW244.out) | (rw [add_block]; exact Nat.ne_of_lt (Nat.lt_of_lt_of_le (by have := World.block_lt_of_cell? _ _ hw249_1; first | rwa [add_block] at this | exact this) GW244.out)) | (show (Addr.add _ _).block ≠ _; rw [add_block]; exact Nat.ne_of_lt (Nat.lt_of_lt_of_le (by have := World.block_lt_of_cell? _ _ hw249_1; first | rwa [add_block] at this | exact this) GW244.out)) | (dsimp only; exact Nat.ne_of_lt (Nat.lt_of_lt_of_le (by have := World.block_lt_of_cell? _ _ hw249_1; first | rwa [add_block] at this | exact this) GW244.out))) _).trans (hHeld.2.2.2.2.2.1)), ((cell_far (p := ⟨gb244, _, none⟩) (by first | exact Nat.ne_of_lt (Nat.lt_of_lt_of_le (by have := World.block_lt_of_cell? _ _ hw249_2; first | rwa [add_block] at this | exact this) GW244.out) | (rw [add_block]; exact Nat.ne_of_lt (Nat.lt_of_lt_of_le (by have := World.block_lt_of_cell? _ _ hw249_2; first | rwa [add_block] at this | exact this) GW244.out)) | (show (Addr.add _ _).block ≠ _; rw [add_block]; exact Nat.ne_of_lt (Nat.lt_of_lt_of_le (by have := World.block_lt_of_cell? _ _ hw249_2; first | rwa [add_block] at this | exact this) GW244.out)) | (dsimp only; exact Nat.ne_of_lt (Nat.lt_of_lt_of_le (by have := World.block_lt_of_cell? _ _ hw249_2; first | rwa [add_block] at this | exact this) GW244.out))) _).trans (hHeld.2.2.2.2.2.2.1)), ((cell_far (p := ⟨gb244, _, none⟩) (by first | exact Nat.ne_of_lt (Nat.lt_of_lt_of_le (by have := World.block_lt_of_cell? _ _ hw249_3; first | rwa [add_block] at this | exact this) GW244.out) | (rw [add_block]; exact Nat.ne_of_lt (Nat.lt_of_lt_of_le (by have := World.block_lt_of_cell? _ _ hw249_3; first | rwa [add_block] at this | exact this) GW244.out)) | (show (Addr.add _ _).block ≠ _; rw [add_block]; exact Nat.ne_of_lt (Nat.lt_of_lt_of_le (by have := World.block_lt_of_cell? _ _ hw249_3; first | rwa [add_block] at this | exact this) GW244.out)) | (dsimp only; exact Nat.ne_of_lt (Nat.lt_of_lt_of_le (by have := World.block_lt_of_cell? _ _ hw249_3; first | rwa [add_block] at this | exact this) GW244.out))) _).trans (hHeld.2.2.2.2.2.2.2))⟩ (fun hHeld => ?_)
          clear hK K
          refine done_ (done_of HT_.out (by kernel_rfl)) ?_
          try go_wp2
          go_meet
          case rel => exact ⟨_, ((rd_T28 l0 x7_1).f2), ((rd_T28 l0 x7_1).f2), (0), (by first | rfl | (simp; done) | (simp [*]; done)), H', ⟨by have := HK1.out; first | omega | exact Nat.le_refl _⟩, ⟨by (with_reducible repeat (first | apply Kd.R_alloc | apply Kd.R_drewN | apply Kd.R_drew)); exact Kd.R_mono (Kd.R_far (p := ⟨gb244, 2, none⟩) (Kd.R_mono HO_6.out (fun k_ hk => (⟨hk, hk.2⟩ : _ ∧ k_ ≠ gb244))) (fun _ hk => hk.2) (.string ((rd_T28 l0 x7_1).f2))) (fun _ hk => hk.1.2)⟩, ⟨by (with_reducible repeat (first | refine blk_drewN ?_ _ | refine blk_drew ?_ | refine blk_alloc ?_ _)); refine blk_put (cs := #[.int .i64 ((rd_T28 l0 x7_1).f0), .int .i64 0, .string (⟨#[]⟩ : ByteArray), .int .i64 0]) ?_ 2 _ rfl; (with_reducible repeat (first | refine blk_drewN ?_ _ | refine blk_drew ?_ | refine blk_alloc ?_ _)); exact BK244.out⟩, ⟨by repeat (first | (with_reducible first | exact HB.out | apply below_alloc | apply pw_below_drewN | apply below_drew1 | refine below_set ?_ GE244.out) | exact HB.out)⟩⟩
         ·replace c15 := Bool.eq_false_iff.mpr c15
          subst c15
          have H1 : (some true) = some r := by rw [if_neg (show ¬ (false = true) by decide)] at H; exact H
          clear H
          have H := H1
          clear H1
          obtain rfl := Option.some.inj H
          have p246 : 0 ≤ (x7_1 : Int) := of_decide_eq_true (by assumption)
          have q246 : x7_1 < (l0.length : Int) := of_decide_eq_true (by assumption)
          obtain ⟨ad246, e246, hx246_0, hx246_1, hx246_2, hx246_3⟩ := at_T28 HR0.out x7_1 p246 q246
          obtain rfl : ad243 = ad246 := (by injection e246)
          have hn246_0 : ad243.block ≠ gb244 := Nat.ne_of_lt (Nat.lt_of_lt_of_le (by have := World.block_lt_of_cell? _ _ hx246_0; first | rwa [add_block] at this | exact this) GW244.out)
          have hn246_1 : ad243.block ≠ gb244 := Nat.ne_of_lt (Nat.lt_of_lt_of_le (by have := World.block_lt_of_cell? _ _ hx246_0; first | rwa [add_block] at this | exact this) GW244.out)
          have hn246_2 : ad243.block ≠ gb244 := Nat.ne_of_lt (Nat.lt_of_lt_of_le (by have := World.block_lt_of_cell? _ _ hx246_0; first | rwa [add_block] at this | exact this) GW244.out)
          have hn246_3 : ad243.block ≠ gb244 := Nat.ne_of_lt (Nat.lt_of_lt_of_le (by have := World.block_lt_of_cell? _ _ hx246_0; first | rwa [add_block] at this | exact this) GW244.out)
          replace hx246_0 := (HB.out.cell (World.block_lt_of_cell? w _ hx246_0)).trans hx246_0
          replace hx246_1 := (HB.out.cell (World.block_lt_of_cell? w _ hx246_1)).trans hx246_1
          replace hx246_2 := (HB.out.cell (World.block_lt_of_cell? w _ hx246_2)).trans hx246_2
          replace hx246_3 := (HB.out.cell (World.block_lt_of_cell? w _ hx246_3)).trans hx246_3
          replace hx246_0 := (cell_far (p := ⟨gb244, 0, none⟩) (by first | exact hn246_0 | exact abn hn246_0) (.int .i64 ((rd_T28 l0 x7_1).f0))).trans hx246_0
          replace hx246_1 := (cell_far (p := ⟨gb244, 0, none⟩) (by first | exact hn246_0 | exact abn hn246_0) (.int .i64 ((rd_T28 l0 x7_1).f0))).trans hx246_1
          replace hx246_2 := (cell_far (p := ⟨gb244, 0, none⟩) (by first | exact hn246_0 | exact abn hn246_0) (.int .i64 ((rd_T28 l0 x7_1).f0))).trans hx246_2
          replace hx246_3 := (cell_far (p := ⟨gb244, 0, none⟩) (by first | exact hn246_0 | exact abn hn246_0) (.int .i64 ((rd_T28 l0 x7_1).f0))).trans hx246_3
          replace hx246_0 := (cell_far (p := ⟨gb244, 1, none⟩) (by first | exact hn246_1 | exact abn hn246_1) (.int .i64 0)).trans hx246_0
          replace hx246_1 := (cell_far (p := ⟨gb244, 1, none⟩) (by first | exact hn246_1 | exact abn hn246_1) (.int .i64 0)).trans hx246_1
          replace hx246_2 := (cell_far (p := ⟨gb244, 1, none⟩) (by first | exact hn246_1 | exact abn hn246_1) (.int .i64 0)).trans hx246_2
          replace hx246_3 := (cell_far (p := ⟨gb244, 1, none⟩) (by first | exact hn246_1 | exact abn hn246_1) (.int .i64 0)).trans hx246_3
          replace hx246_0 := (cell_far (p := ⟨gb244, 2, none⟩) (by first | exact hn246_2 | exact abn hn246_2) (.string (⟨#[]⟩ : ByteArray))).trans hx246_0
          replace hx246_1 := (cell_far (p := ⟨gb244, 2, none⟩) (by first | exact hn246_2 | exact abn hn246_2) (.string (⟨#[]⟩ : ByteArray))).trans hx246_1
          replace hx246_2 := (cell_far (p := ⟨gb244, 2, none⟩) (by first | exact hn246_2 | exact abn hn246_2) (.string (⟨#[]⟩ : ByteArray))).trans hx246_2
          replace hx246_3 := (cell_far (p := ⟨gb244, 2, none⟩) (by first | exact hn246_2 | exact abn hn246_2) (.string (⟨#[]⟩ : ByteArray))).trans hx246_3
          replace hx246_0 := (cell_far (p := ⟨gb244, 3, none⟩) (by first | exact hn246_3 | exact abn hn246_3) (.int .i64 0)).trans hx246_0
          replace hx246_1 := (cell_far (p := ⟨gb244, 3, none⟩) (by first | exact hn246_3 | exact abn hn246_3) (.int .i64 0)).trans hx246_1
          replace hx246_2 := (cell_far (p := ⟨gb244, 3, none⟩) (by first | exact hn246_3 | exact abn hn246_3) (.int .i64 0)).trans hx246_2
          replace hx246_3 := (cell_far (p := ⟨gb244, 3, none⟩) (by first | exact hn246_3 | exact abn hn246_3) (.int .i64 0)).trans hx246_3
          clear hn246_0
          clear hn246_1
          clear hn246_2
          clear hn246_3
          replace p246 := eq_true p246
          replace q246 := eq_true q246
          go_wp2_with (first | ((with_reducible refine gate_callee (f := 10) rfl ?_); refine goesL_ (some 42) rfl rfl Try.func10 (by kernel_rfl) rfl #[.string ((rd_T28 l0 x7_1).f2)] rfl (by (try simp only [List.map_toArray, List.map_cons, List.map_nil]); first | done | rfl | (simp only [List.length_drop, List.length_take]; rfl)) ?_; (with_reducible refine (lex_Word.calls k1 ((rd_T28 l0 x7_1).f2) false _ ?side1 A14.out).mono ?_); (case side1 => exact Sh.below hsh (by repeat (first | (with_reducible first | exact HB.out | apply below_alloc | apply pw_below_drewN | apply below_drew1 | refine below_set ?_ GE244.out) | exact HB.out))); rintro e w19 ⟨rfl, hb⟩; refine ⟨_, rfl, ?_⟩; have n0_ := Aside0.mk (Kd.R_below (by (with_reducible repeat (first | apply Kd.R_alloc | apply Kd.R_drewN | apply Kd.R_drew)); exact (Kd.R_mono (Kd.R_far (p := ⟨gb244, 3, none⟩) (Kd.R_far (p := ⟨gb244, 2, none⟩) (Kd.R_far (p := ⟨gb244, 1, none⟩) (Kd.R_far (p := ⟨gb244, 0, none⟩) (Kd.R_mono HO_6.out (fun k_ hk => (⟨hk, hk.2⟩ : _ ∧ k_ ≠ gb244))) (fun _ hk => hk.2) (.int .i64 ((rd_T28 l0 x7_1).f0))) (fun _ hk => hk.2) (.int .i64 0)) (fun _ hk => hk.2) (.string (⟨#[]⟩ : ByteArray))) (fun _ hk => hk.2) (.int .i64 0)) (fun _ h_ => h_.1))) hb); have n1_ := Aside0.mk (blk_below (g := gb244) (o := .cells #[.int .i64 ((rd_T28 l0 x7_1).f0), .int .i64 0, .string (⟨#[]⟩ : ByteArray), .int .i64 0] 28 (0, 0)) (by (with_reducible repeat (first | refine blk_drewN ?_ _ | refine blk_drew ?_ | refine blk_alloc ?_ _)); refine blk_put (cs := #[.int .i64 ((rd_T28 l0 x7_1).f0), .int .i64 0, .string (⟨#[]⟩ : ByteArray), .int .i64 0]) ?_ 3 _ rfl; (with_reducible repeat (first | refine blk_drewN ?_ _ | refine blk_drew ?_ | refine blk_alloc ?_ _)); refine blk_put (cs := #[.int .i64 ((rd_T28 l0 x7_1).f0), .int .i64 0, .string (⟨#[]⟩ : ByteArray), .int .i64 0]) ?_ 2 _ rfl; (with_reducible repeat (first | refine blk_drewN ?_ _ | refine blk_drew ?_ | refine blk_alloc ?_ _)); refine blk_put (cs := #[.int .i64 ((rd_T28 l0 x7_1).f0), .int .i64 0, .string (⟨#[]⟩ : ByteArray), .int .i64 0]) ?_ 1 _ rfl; (with_reducible repeat (first | refine blk_drewN ?_ _ | refine blk_drew ?_ | refine blk_alloc ?_ _)); refine blk_put (cs := #[.int .i64 0, .int .i64 0, .string (⟨#[]⟩ : ByteArray), .int .i64 0]) ?_ 0 _ rfl; (with_reducible repeat (first | refine blk_drewN ?_ _ | refine blk_drew ?_ | refine blk_alloc ?_ _)); exact BK244.out) hb); have n2_ := Aside0.mk (below_step (by repeat (first | (with_reducible first | exact HB.out | apply below_alloc | apply pw_below_drewN | apply below_drew1 | refine below_set ?_ GE244.out) | exact HB.out)) hb); clear HO_6; clear BK244; clear HB; have HO_6 := n0_; have BK244 := n1_; have HB := n2_; clear n0_ n1_ n2_; (try clear hb); (try clear hb2); (try clear hk); (try clear hi)))
          go_ret
          exact ⟨by first | rfl | (simp [errW_none, errW_some] <;> rfl) | (simp [*, errW_none, errW_some] <;> rfl), by repeat (first | (with_reducible first | exact HB.out | apply below_alloc | apply pw_below_drewN | apply below_drew1 | refine below_set ?_ GE244.out) | exact HB.out)⟩
        ·rw [if_neg c13] at H
         have c13b0 : (((rd_T28 l0 x7_1).f0) == 1) = false := beq_eq_false_iff_ne.mpr c13
         have c13b1 : (((rd_T28 l0 x7_1).f0) != 1) = true := bne_iff_ne.mpr c13
         (first | rw [c13b0] | (simp only [i64_w, i32_w]; rw [c13b0]) | skip)
         by_cases c20 : ((rd_T28 l0 x7_1).f0) = 2
         ·rw [if_pos c20] at H
          have c20b0 : (((rd_T28 l0 x7_1).f0) == 2) = true := beq_iff_eq.mpr c20
          have c20b1 : (((rd_T28 l0 x7_1).f0) != 2) = false := bne_eq_false_iff_eq.mpr c20
          clear c20
          by_cases c21 : ((rd_T28 l0 x7_1).f3) < 0
          ·rw [if_pos c21] at H
           have c21b0 : decide (((rd_T28 l0 x7_1).f3) < 0) = true := decide_eq_true c21
           clear c21
           obtain rfl := Option.some.inj H
           have p250 : 0 ≤ (x7_1 : Int) := of_decide_eq_true (by assumption)
           have q250 : x7_1 < (l0.length : Int) := of_decide_eq_true (by assumption)
           obtain ⟨ad250, e250, hx250_0, hx250_1, hx250_2, hx250_3⟩ := at_T28 HR0.out x7_1 p250 q250
           obtain rfl : ad243 = ad250 := (by injection e250)
           have hn250_0 : ad243.block ≠ gb244 := Nat.ne_of_lt (Nat.lt_of_lt_of_le (by have := World.block_lt_of_cell? _ _ hx250_0; first | rwa [add_block] at this | exact this) GW244.out)
           have hn250_1 : ad243.block ≠ gb244 := Nat.ne_of_lt (Nat.lt_of_lt_of_le (by have := World.block_lt_of_cell? _ _ hx250_0; first | rwa [add_block] at this | exact this) GW244.out)
           have hn250_2 : ad243.block ≠ gb244 := Nat.ne_of_lt (Nat.lt_of_lt_of_le (by have := World.block_lt_of_cell? _ _ hx250_0; first | rwa [add_block] at this | exact this) GW244.out)
           have hn250_3 : ad243.block ≠ gb244 := Nat.ne_of_lt (Nat.lt_of_lt_of_le (by have := World.block_lt_of_cell? _ _ hx250_0; first | rwa [add_block] at this | exact this) GW244.out)
           replace hx250_0 := (HB.out.cell (World.block_lt_of_cell? w _ hx250_0)).trans hx250_0
           replace hx250_1 := (HB.out.cell (World.block_lt_of_cell? w _ hx250_1)).trans hx250_1
           replace hx250_2 := (HB.out.cell (World.block_lt_of_cell? w _ hx250_2)).trans hx250_2
           replace hx250_3 := (HB.out.cell (World.block_lt_of_cell? w _ hx250_3)).trans hx250_3
           replace hx250_0 := (cell_far (p := ⟨gb244, 0, none⟩) (by first | exact hn250_0 | exact abn hn250_0) (.int .i64 ((rd_T28 l0 x7_1).f0))).trans hx250_0
           replace hx250_1 := (cell_far (p := ⟨gb244, 0, none⟩) (by first | exact hn250_0 | exact abn hn250_0) (.int .i64 ((rd_T28 l0 x7_1).f0))).trans hx250_1
           replace hx250_2 := (cell_far (p := ⟨gb244, 0, none⟩) (by first | exact hn250_0 | exact abn hn250_0) (.int .i64 ((rd_T28 l0 x7_1).f0))).trans hx250_2
           replace hx250_3 := (cell_far (p := ⟨gb244, 0, none⟩) (by first | exact hn250_0 | exact abn hn250_0) (.int .i64 ((rd_T28 l0 x7_1).f0))).trans hx250_3
           replace hx250_0 := (cell_far (p := ⟨gb244, 1, none⟩) (by first | exact hn250_1 | exact abn hn250_1) (.int .i64 0)).trans hx250_0
           replace hx250_1 := (cell_far (p := ⟨gb244, 1, none⟩) (by first | exact hn250_1 | exact abn hn250_1) (.int .i64 0)).trans hx250_1
           replace hx250_2 := (cell_far (p := ⟨gb244, 1, none⟩) (by first | exact hn250_1 | exact abn hn250_1) (.int .i64 0)).trans hx250_2
           replace hx250_3 := (cell_far (p := ⟨gb244, 1, none⟩) (by first | exact hn250_1 | exact abn hn250_1) (.int .i64 0)).trans hx250_3
           replace hx250_0 := (cell_far (p := ⟨gb244, 2, none⟩) (by first | exact hn250_2 | exact abn hn250_2) (.string (⟨#[]⟩ : ByteArray))).trans hx250_0
           replace hx250_1 := (cell_far (p := ⟨gb244, 2, none⟩) (by first | exact hn250_2 | exact abn hn250_2) (.string (⟨#[]⟩ : ByteArray))).trans hx250_1
           replace hx250_2 := (cell_far (p := ⟨gb244, 2, none⟩) (by first | exact hn250_2 | exact abn hn250_2) (.string (⟨#[]⟩ : ByteArray))).trans hx250_2
           replace hx250_3 := (cell_far (p := ⟨gb244, 2, none⟩) (by first | exact hn250_2 | exact abn hn250_2) (.string (⟨#[]⟩ : ByteArray))).trans hx250_3
           replace hx250_0 := (cell_far (p := ⟨gb244, 3, none⟩) (by first | exact hn250_3 | exact abn hn250_3) (.int .i64 0)).trans hx250_0
           replace hx250_1 := (cell_far (p := ⟨gb244, 3, none⟩) (by first | exact hn250_3 | exact abn hn250_3) (.int .i64 0)).trans hx250_1
           replace hx250_2 := (cell_far (p := ⟨gb244, 3, none⟩) (by first | exact hn250_3 | exact abn hn250_3) (.int .i64 0)).trans hx250_2
           replace hx250_3 := (cell_far (p := ⟨gb244, 3, none⟩) (by first | exact hn250_3 | exact abn hn250_3) (.int .i64 0)).trans hx250_3
           clear hn250_0
           clear hn250_1
           clear hn250_2
           clear hn250_3
           replace p250 := eq_true p250
           replace q250 := eq_true q250
           go_wp2
           go_ret
           exact ⟨by first | rfl | (simp [errW_none, errW_some] <;> rfl) | (simp [*, errW_none, errW_some] <;> rfl), by repeat (first | (with_reducible first | exact HB.out | apply below_alloc | apply pw_below_drewN | apply below_drew1 | refine below_set ?_ GE244.out) | exact HB.out)⟩
          ·rw [if_neg c21] at H
           have c21b0 : decide (((rd_T28 l0 x7_1).f3) < 0) = false := decide_eq_false c21
           clear c21
           replace H := Option.bind_eq_some_iff.mp H
           obtain ⟨t252, A220, H⟩ := H
           replace H : (antipodelaw16_LexBack.j1 k1 l0 a1 x5_1 x6_1 x7_1 t252 ((rd_T28 l0 x7_1).f0) 0 (⟨#[]⟩ : ByteArray) ((rd_T28 l0 x7_1).f3)) = some r := H
           have A22 := Aside0.mk A220
           clear A220
           have H' := Aside0.mk H
           clear H
           have p250 : 0 ≤ (x7_1 : Int) := of_decide_eq_true (by assumption)
           have q250 : x7_1 < (l0.length : Int) := of_decide_eq_true (by assumption)
           obtain ⟨ad250, e250, hx250_0, hx250_1, hx250_2, hx250_3⟩ := at_T28 HR0.out x7_1 p250 q250
           obtain rfl : ad243 = ad250 := (by injection e250)
           have hn250_0 : ad243.block ≠ gb244 := Nat.ne_of_lt (Nat.lt_of_lt_of_le (by have := World.block_lt_of_cell? _ _ hx250_0; first | rwa [add_block] at this | exact this) GW244.out)
           have hn250_1 : ad243.block ≠ gb244 := Nat.ne_of_lt (Nat.lt_of_lt_of_le (by have := World.block_lt_of_cell? _ _ hx250_0; first | rwa [add_block] at this | exact this) GW244.out)
           have hn250_2 : ad243.block ≠ gb244 := Nat.ne_of_lt (Nat.lt_of_lt_of_le (by have := World.block_lt_of_cell? _ _ hx250_0; first | rwa [add_block] at this | exact this) GW244.out)
           have hn250_3 : ad243.block ≠ gb244 := Nat.ne_of_lt (Nat.lt_of_lt_of_le (by have := World.block_lt_of_cell? _ _ hx250_0; first | rwa [add_block] at this | exact this) GW244.out)
           replace hx250_0 := (HB.out.cell (World.block_lt_of_cell? w _ hx250_0)).trans hx250_0
           replace hx250_1 := (HB.out.cell (World.block_lt_of_cell? w _ hx250_1)).trans hx250_1
           replace hx250_2 := (HB.out.cell (World.block_lt_of_cell? w _ hx250_2)).trans hx250_2
           replace hx250_3 := (HB.out.cell (World.block_lt_of_cell? w _ hx250_3)).trans hx250_3
           replace hx250_0 := (cell_far (p := ⟨gb244, 0, none⟩) (by first | exact hn250_0 | exact abn hn250_0) (.int .i64 ((rd_T28 l0 x7_1).f0))).trans hx250_0
           replace hx250_1 := (cell_far (p := ⟨gb244, 0, none⟩) (by first | exact hn250_0 | exact abn hn250_0) (.int .i64 ((rd_T28 l0 x7_1).f0))).trans hx250_1
           replace hx250_2 := (cell_far (p := ⟨gb244, 0, none⟩) (by first | exact hn250_0 | exact abn hn250_0) (.int .i64 ((rd_T28 l0 x7_1).f0))).trans hx250_2
           replace hx250_3 := (cell_far (p := ⟨gb244, 0, none⟩) (by first | exact hn250_0 | exact abn hn250_0) (.int .i64 ((rd_T28 l0 x7_1).f0))).trans hx250_3
           replace hx250_0 := (cell_far (p := ⟨gb244, 1, none⟩) (by first | exact hn250_1 | exact abn hn250_1) (.int .i64 0)).trans hx250_0
           replace hx250_1 := (cell_far (p := ⟨gb244, 1, none⟩) (by first | exact hn250_1 | exact abn hn250_1) (.int .i64 0)).trans hx250_1
           replace hx250_2 := (cell_far (p := ⟨gb244, 1, none⟩) (by first | exact hn250_1 | exact abn hn250_1) (.int .i64 0)).trans hx250_2
           replace hx250_3 := (cell_far (p := ⟨gb244, 1, none⟩) (by first | exact hn250_1 | exact abn hn250_1) (.int .i64 0)).trans hx250_3
           replace hx250_0 := (cell_far (p := ⟨gb244, 2, none⟩) (by first | exact hn250_2 | exact abn hn250_2) (.string (⟨#[]⟩ : ByteArray))).trans hx250_0
           replace hx250_1 := (cell_far (p := ⟨gb244, 2, none⟩) (by first | exact hn250_2 | exact abn hn250_2) (.string (⟨#[]⟩ : ByteArray))).trans hx250_1
           replace hx250_2 := (cell_far (p := ⟨gb244, 2, none⟩) (by first | exact hn250_2 | exact abn hn250_2) (.string (⟨#[]⟩ : ByteArray))).trans hx250_2
           replace hx250_3 := (cell_far (p := ⟨gb244, 2, none⟩) (by first | exact hn250_2 | exact abn hn250_2) (.string (⟨#[]⟩ : ByteArray))).trans hx250_3
           replace hx250_0 := (cell_far (p := ⟨gb244, 3, none⟩) (by first | exact hn250_3 | exact abn hn250_3) (.int .i64 0)).trans hx250_0
           replace hx250_1 := (cell_far (p := ⟨gb244, 3, none⟩) (by first | exact hn250_3 | exact abn hn250_3) (.int .i64 0)).trans hx250_1
           replace hx250_2 := (cell_far (p := ⟨gb244, 3, none⟩) (by first | exact hn250_3 | exact abn hn250_3) (.int .i64 0)).trans hx250_2
           replace hx250_3 := (cell_far (p := ⟨gb244, 3, none⟩) (by first | exact hn250_3 | exact abn hn250_3) (.int .i64 0)).trans hx250_3
           clear hn250_0
           clear hn250_1
           clear hn250_2
           clear hn250_3
           replace p250 := eq_true p250
           replace q250 := eq_true q250
           try go_wp2
           have n0_ : Aside0 (Kd.R k28 28 ((((w11.setCell ⟨gb244, 0, none⟩ (.int .i64 ((rd_T28 l0 x7_1).f0))).setCell ⟨gb244, 1, none⟩ (.int .i64 0)).setCell ⟨gb244, 2, none⟩ (.string (⟨#[]⟩ : ByteArray))).setCell ⟨gb244, 3, none⟩ (.int .i64 0)) w.heap.size (fun k_ => k_ ≠ gb244) u6 x6_1) := ⟨by (with_reducible repeat (first | apply Kd.R_alloc | apply Kd.R_drewN | apply Kd.R_drew)); exact Kd.R_mono (Kd.R_far (p := ⟨gb244, 3, none⟩) (Kd.R_far (p := ⟨gb244, 2, none⟩) (Kd.R_far (p := ⟨gb244, 1, none⟩) (Kd.R_far (p := ⟨gb244, 0, none⟩) (Kd.R_mono HO_6.out (fun k_ hk => (⟨hk, hk.2⟩ : _ ∧ k_ ≠ gb244))) (fun _ hk => hk.2) (.int .i64 ((rd_T28 l0 x7_1).f0))) (fun _ hk => hk.2) (.int .i64 0)) (fun _ hk => hk.2) (.string (⟨#[]⟩ : ByteArray))) (fun _ hk => hk.2) (.int .i64 0)) (fun _ hk => hk.1.2)⟩
           have n1_ : Aside0 (((((w11.setCell ⟨gb244, 0, none⟩ (.int .i64 ((rd_T28 l0 x7_1).f0))).setCell ⟨gb244, 1, none⟩ (.int .i64 0)).setCell ⟨gb244, 2, none⟩ (.string (⟨#[]⟩ : ByteArray))).setCell ⟨gb244, 3, none⟩ (.int .i64 0)).heap[gb244]? = some (.cells #[.int .i64 ((rd_T28 l0 x7_1).f0), .int .i64 0, .string (⟨#[]⟩ : ByteArray), .int .i64 0] 28 (0, 0))) := ⟨by (with_reducible repeat (first | refine blk_drewN ?_ _ | refine blk_drew ?_ | refine blk_alloc ?_ _)); refine blk_put (cs := #[.int .i64 ((rd_T28 l0 x7_1).f0), .int .i64 0, .string (⟨#[]⟩ : ByteArray), .int .i64 0]) ?_ 3 _ rfl; (with_reducible repeat (first | refine blk_drewN ?_ _ | refine blk_drew ?_ | refine blk_alloc ?_ _)); refine blk_put (cs := #[.int .i64 ((rd_T28 l0 x7_1).f0), .int .i64 0, .string (⟨#[]⟩ : ByteArray), .int .i64 0]) ?_ 2 _ rfl; (with_reducible repeat (first | refine blk_drewN ?_ _ | refine blk_drew ?_ | refine blk_alloc ?_ _)); refine blk_put (cs := #[.int .i64 ((rd_T28 l0 x7_1).f0), .int .i64 0, .string (⟨#[]⟩ : ByteArray), .int .i64 0]) ?_ 1 _ rfl; (with_reducible repeat (first | refine blk_drewN ?_ _ | refine blk_drew ?_ | refine blk_alloc ?_ _)); refine blk_put (cs := #[.int .i64 0, .int .i64 0, .string (⟨#[]⟩ : ByteArray), .int .i64 0]) ?_ 0 _ rfl; (with_reducible repeat (first | refine blk_drewN ?_ _ | refine blk_drew ?_ | refine blk_alloc ?_ _)); exact BK244.out⟩
           have n2_ : Aside0 (Below w.heap.size w ((((w11.setCell ⟨gb244, 0, none⟩ (.int .i64 ((rd_T28 l0 x7_1).f0))).setCell ⟨gb244, 1, none⟩ (.int .i64 0)).setCell ⟨gb244, 2, none⟩ (.string (⟨#[]⟩ : ByteArray))).setCell ⟨gb244, 3, none⟩ (.int .i64 0))) := ⟨by repeat (first | (with_reducible first | exact HB.out | apply below_alloc | apply pw_below_drewN | apply below_drew1 | refine below_set ?_ GE244.out) | exact HB.out)⟩
           (try clear HO_6)
           (try clear BK244)
           (try clear HB)
           generalize ((((w11.setCell ⟨gb244, 0, none⟩ (.int .i64 ((rd_T28 l0 x7_1).f0))).setCell ⟨gb244, 1, none⟩ (.int .i64 0)).setCell ⟨gb244, 2, none⟩ (.string (⟨#[]⟩ : ByteArray))).setCell ⟨gb244, 3, none⟩ (.int .i64 0)) = w23 at n0_ n1_ n2_ ⊢
           have HO_6 := n0_
           have BK244 := n1_
           have HB := n2_
           clear n0_ n1_ n2_
           have n0_ := Aside0.mk (Kd.R_drew HO_6.out)
           have n1_ := Aside0.mk (blk_drew BK244.out)
           have n2_ := Aside0.mk (below_drew1 HB.out)
           clear HO_6
           clear BK244
           clear HB
           have HO_6 := n0_
           have BK244 := n1_
           have HB := n2_
           clear n0_ n1_ n2_
           have p251 : 0 ≤ (x7_1 : Int) := of_decide_eq_true (by assumption)
           have q251 : x7_1 < (l0.length : Int) := of_decide_eq_true (by assumption)
           obtain ⟨ad251, e251, hx251_0, hx251_1, hx251_2, hx251_3⟩ := at_T28 HR0.out x7_1 p251 q251
           have hw251_3 := hx251_3
           have hw251_2 := hx251_2
           have hw251_1 := hx251_1
           have hw251_0 := hx251_0
           obtain rfl : ad243 = ad251 := (by injection e251)
           replace hx251_0 := (HB.out.cell (World.block_lt_of_cell? w _ hx251_0)).trans hx251_0
           replace hx251_1 := (HB.out.cell (World.block_lt_of_cell? w _ hx251_1)).trans hx251_1
           replace hx251_2 := (HB.out.cell (World.block_lt_of_cell? w _ hx251_2)).trans hx251_2
           replace hx251_3 := (HB.out.cell (World.block_lt_of_cell? w _ hx251_3)).trans hx251_3
           replace p251 := eq_true p251
           replace q251 := eq_true q251
           have p253 : 0 ≤ (x7_1 : Int) := of_decide_eq_true (by assumption)
           have q253 : x7_1 < (l0.length : Int) := of_decide_eq_true (by assumption)
           obtain ⟨ad253, e253, hx253_0, hx253_1, hx253_2, hx253_3⟩ := at_T28 HR0.out x7_1 p253 q253
           have hw253_3 := hx253_3
           have hw253_2 := hx253_2
           have hw253_1 := hx253_1
           have hw253_0 := hx253_0
           obtain rfl : ad243 = ad253 := (by injection e253)
           replace hx253_0 := (HB.out.cell (World.block_lt_of_cell? w _ hx253_0)).trans hx253_0
           replace hx253_1 := (HB.out.cell (World.block_lt_of_cell? w _ hx253_1)).trans hx253_1
           replace hx253_2 := (HB.out.cell (World.block_lt_of_cell? w _ hx253_2)).trans hx253_2
           replace hx253_3 := (HB.out.cell (World.block_lt_of_cell? w _ hx253_3)).trans hx253_3
           replace p253 := eq_true p253
           replace q253 := eq_true q253
           refine start_ (n := 14) (S := fun w' => w'.cell? (ad243.add ((x7_1).toNat * 4)) = some (.int .i64 ((rd_T28 l0 x7_1).f0)) ∧ w'.cell? ⟨(ad243.add ((x7_1).toNat * 4)).block, (ad243.add ((x7_1).toNat * 4)).off + 1, none⟩ = some (.int .i64 ((rd_T28 l0 x7_1).f1)) ∧ w'.cell? ⟨(ad243.add ((x7_1).toNat * 4)).block, (ad243.add ((x7_1).toNat * 4)).off + 2, none⟩ = some (.string ((rd_T28 l0 x7_1).f2)) ∧ w'.cell? ⟨(ad243.add ((x7_1).toNat * 4)).block, (ad243.add ((x7_1).toNat * 4)).off + 3, none⟩ = some (.int .i64 ((rd_T28 l0 x7_1).f3)) ∧ w'.cell? (ad243.add ((x7_1).toNat * 4)) = some (.int .i64 ((rd_T28 l0 x7_1).f0)) ∧ w'.cell? ⟨(ad243.add ((x7_1).toNat * 4)).block, (ad243.add ((x7_1).toNat * 4)).off + 1, none⟩ = some (.int .i64 ((rd_T28 l0 x7_1).f1)) ∧ w'.cell? ⟨(ad243.add ((x7_1).toNat * 4)).block, (ad243.add ((x7_1).toNat * 4)).off + 2, none⟩ = some (.string ((rd_T28 l0 x7_1).f2)) ∧ w'.cell? ⟨(ad243.add ((x7_1).toNat * 4)).block, (ad243.add ((x7_1).toNat * 4)).off + 3, none⟩ = some (.int .i64 ((rd_T28 l0 x7_1).f3))) (ds := []) #[false, false, false, false, false, false, false, false, false, false, false, false, false, false] (by kernel_rfl) rfl rfl ⟨((HB.out.cell (World.block_lt_of_cell? w _ hw251_0)).trans hw251_0), ((HB.out.cell (World.block_lt_of_cell? w _ hw251_1)).trans hw251_1), ((HB.out.cell (World.block_lt_of_cell? w _ hw251_2)).trans hw251_2), ((HB.out.cell (World.block_lt_of_cell? w _ hw251_3)).trans hw251_3), ((HB.out.cell (World.block_lt_of_cell? w _ hw253_0)).trans hw253_0), ((HB.out.cell (World.block_lt_of_cell? w _ hw253_1)).trans hw253_1), ((HB.out.cell (World.block_lt_of_cell? w _ hw253_2)).trans hw253_2), ((HB.out.cell (World.block_lt_of_cell? w _ hw253_3)).trans hw253_3)⟩ (fun hHeld => ?_); refine with_tabW antipodelaw16_LexBack.tab21 antipodelaw16_LexBack.bits21 (fun HT_ HW_ => ?_)
           generalize w23.drew = w24 at HO_6 BK244 HB hx251_0 hx251_1 hx251_2 hx251_3 hx253_0 hx253_1 hx253_2 hx253_3 hHeld ⊢
           refine pure_ (i := 0) (N := some 63) (v := ?_) (a' := ?_) #[true, false, false, false, false, false, false, false, false, false, false, false, false, false] rfl rfl (any_of HT_.out (by kernel_rfl)) (fun _ _ _ h => h) (Or.inl ⟨by rfl, ?_⟩) ?_ ?_
           rotate_left
           ·intro w'
            go_simp
            with_reducible rfl
           rotate_left
           ·simp only [Act.put, List.setIfInBounds_toArray, List.set_cons_zero, List.set_cons_succ, i64_w, i32_w]
            rfl
           refine pure_ (i := 1) (N := some 64) (v := ?_) (a' := ?_) #[true, true, false, false, false, false, false, false, false, false, false, false, false, false] rfl rfl (any_of HT_.out (by kernel_rfl)) (fun _ _ _ h => h) (Or.inl ⟨by rfl, ?_⟩) ?_ ?_
           rotate_left
           ·intro w'
            go_simp
            with_reducible rfl
           rotate_left
           ·simp only [Act.put, List.setIfInBounds_toArray, List.set_cons_zero, List.set_cons_succ, i64_w, i32_w]
            rfl
           refine pure_ (i := 2) (N := some 65) (v := ?_) (a' := ?_) #[true, true, true, false, false, false, false, false, false, false, false, false, false, false] rfl rfl (any_of HT_.out (by kernel_rfl)) (fun _ _ _ h => h) (Or.inl ⟨by rfl, ?_⟩) ?_ ?_
           rotate_left
           ·intro w'
            go_simp
            with_reducible rfl
           rotate_left
           ·simp only [Act.put, List.setIfInBounds_toArray, List.set_cons_zero, List.set_cons_succ, i64_w, i32_w]
            rfl
           refine pure_ (i := 3) (N := some 66) (v := ?_) (a' := ?_) #[true, true, true, true, false, false, false, false, false, false, false, false, false, false] rfl rfl (any_of HT_.out (by kernel_rfl)) (fun _ _ _ h => h) (Or.inl ⟨by rfl, ?_⟩) ?_ ?_
           rotate_left
           ·intro w'
            go_simp
            with_reducible rfl
           rotate_left
           ·simp only [Act.put, List.setIfInBounds_toArray, List.set_cons_zero, List.set_cons_succ, i64_w, i32_w]
            rfl
           refine pure_ (i := 6) (N := some 69) (v := ?_) (a' := ?_) #[true, true, true, true, false, false, true, false, false, false, false, false, false, false] rfl rfl (any_of HT_.out (by kernel_rfl)) (fun _ _ _ h => h) (Or.inl ⟨by rfl, ?_⟩) ?_ ?_
           rotate_left
           ·intro w'
            go_simp
            with_reducible rfl
           rotate_left
           ·simp only [Act.put, List.setIfInBounds_toArray, List.set_cons_zero, List.set_cons_succ, i64_w, i32_w]
            rfl
           refine pure_ (i := 7) (N := some 70) (v := ?_) (a' := ?_) #[true, true, true, true, false, false, true, true, false, false, false, false, false, false] rfl rfl (any_of HT_.out (by kernel_rfl)) (fun _ _ _ h => h) (Or.inl ⟨by rfl, ?_⟩) ?_ ?_
           rotate_left
           ·intro w'
            go_simp
            with_reducible rfl
           rotate_left
           ·simp only [Act.put, List.setIfInBounds_toArray, List.set_cons_zero, List.set_cons_succ, i64_w, i32_w]
            rfl
           refine pure_ (i := 8) (N := some 71) (v := ?_) (a' := ?_) #[true, true, true, true, false, false, true, true, true, false, false, false, false, false] rfl rfl (any_of HT_.out (by kernel_rfl)) (fun _ _ _ h => h) (Or.inl ⟨by rfl, ?_⟩) ?_ ?_
           rotate_left
           ·intro w'
            go_simp
            with_reducible rfl
           rotate_left
           ·simp only [Act.put, List.setIfInBounds_toArray, List.set_cons_zero, List.set_cons_succ, i64_w, i32_w]
            rfl
           refine pure_ (i := 9) (N := some 72) (v := ?_) (a' := ?_) #[true, true, true, true, false, false, true, true, true, true, false, false, false, false] rfl rfl (any_of HT_.out (by kernel_rfl)) (fun _ _ _ h => h) (Or.inl ⟨by rfl, ?_⟩) ?_ ?_
           rotate_left
           ·intro w'
            go_simp
            with_reducible rfl
           rotate_left
           ·simp only [Act.put, List.setIfInBounds_toArray, List.set_cons_zero, List.set_cons_succ, i64_w, i32_w]
            rfl
           refine take_ (i := 4) (N := some 67) (v := ?_) (a' := ?_) #[true, true, true, true, true, false, true, true, true, true, false, false, false, false] rfl rfl (take_ofW HT_.out HW_.out (by kernel_rfl)) (fun _ _ _ h => h) (Or.inl ⟨by rfl, ?_⟩) hHeld ?_ ?_
           rotate_left
           ·rintro w' ⟨s0, s1, s2, s3, s4, s5, s6, s7⟩
            go_simp
            with_reducible rfl
           rotate_left
           ·simp only [Act.put, List.setIfInBounds_toArray, List.set_cons_zero, List.set_cons_succ, i64_w, i32_w]
            rfl
           refine take_ (i := 10) (N := some 73) (v := ?_) (a' := ?_) #[true, true, true, true, true, false, true, true, true, true, true, false, false, false] rfl rfl (take_ofW HT_.out HW_.out (by kernel_rfl)) (fun _ _ _ h => h) (Or.inl ⟨by rfl, ?_⟩) hHeld ?_ ?_
           rotate_left
           ·rintro w' ⟨s0, s1, s2, s3, s4, s5, s6, s7⟩
            go_simp
            with_reducible rfl
           rotate_left
           ·simp only [Act.put, List.setIfInBounds_toArray, List.set_cons_zero, List.set_cons_succ, i64_w, i32_w]
            rfl
           refine one_ (i := 5) (N := some 68) #[true, true, true, true, true, true, true, true, true, true, true, false, false, false] rfl rfl (one_of HT_.out (by kernel_rfl)) (by decide) (fun K hK => ?_)
           refine goes_ Try.func12 (by kernel_rfl) rfl #[.int .i64 ((rd_T28 l0 x7_1).f3)] (by rfl) rfl rfl (by (try simp only [List.map_toArray, List.map_cons, List.map_nil]); first | done | rfl | (simp only [List.length_drop, List.length_take]; rfl)) ?_
           with_reducible refine (antipoderef7_Digits.calls k1 ((rd_T28 l0 x7_1).f3) t252 _ A22.out).mono ?_
           rintro e w' ⟨rfl, ⟨nd, rfl⟩⟩
           refine ⟨_, rfl, ?_⟩
           refine hK.out _ _ ⟨((HB.out.cell (World.block_lt_of_cell? w _ hw251_0)).trans hw251_0), ((HB.out.cell (World.block_lt_of_cell? w _ hw251_1)).trans hw251_1), ((HB.out.cell (World.block_lt_of_cell? w _ hw251_2)).trans hw251_2), ((HB.out.cell (World.block_lt_of_cell? w _ hw251_3)).trans hw251_3), ((HB.out.cell (World.block_lt_of_cell? w _ hw253_0)).trans hw253_0), ((HB.out.cell (World.block_lt_of_cell? w _ hw253_1)).trans hw253_1), ((HB.out.cell (World.block_lt_of_cell? w _ hw253_2)).trans hw253_2), ((HB.out.cell (World.block_lt_of_cell? w _ hw253_3)).trans hw253_3)⟩ (fun hHeld => ?_)
           clear hK K
           refine norm_ (a' := ?_) ?_ ?_
           rotate_left
           ·show Act.put _ (some 68) _ = _
            simp only [Act.put, List.setIfInBounds_toArray, List.set_cons_zero, List.set_cons_succ, i64_w, i32_w]
            rfl
           refine pure_ (i := 11) (N := some 8) (v := ?_) (a' := ?_) #[true, true, true, true, true, true, true, true, true, true, true, true, false, false] rfl rfl (any_of HT_.out (by kernel_rfl)) (fun _ _ _ h => h) (Or.inl ⟨by rfl, ?_⟩) ?_ ?_
           rotate_left
           ·intro w'
            go_simp
            with_reducible rfl
           rotate_left
           ·simp only [Act.put, List.setIfInBounds_toArray, List.set_cons_zero, List.set_cons_succ, i64_w, i32_w]
            rfl
           refine pure_ (i := 12) (N := some 74) (v := ?_) (a' := ?_) #[true, true, true, true, true, true, true, true, true, true, true, true, true, false] rfl rfl (any_of HT_.out (by kernel_rfl)) (fun _ _ _ h => h) (Or.inl ⟨by rfl, ?_⟩) ?_ ?_
           rotate_left
           ·intro w'
            go_simp
            with_reducible rfl
           rotate_left
           ·simp only [Act.put, List.setIfInBounds_toArray, List.set_cons_zero, List.set_cons_succ, i64_w, i32_w]
            rfl
           refine one_ (i := 13) (N := none) #[true, true, true, true, true, true, true, true, true, true, true, true, true, true] rfl rfl (one_of HT_.out (by kernel_rfl)) (by decide) (fun K hK => ?_)
           have hs25 : w24.cell? ⟨gb244, 3, none⟩ = some (.int .i64 0) := (blk_cell BK244.out 3).trans rfl
           have hfs25 := blk_frozen BK244.out 3
           refine skip_ (w1 := ?_) (by rfl) rfl ?_ ?_
           rotate_left
           ·go_simp
            rfl
           refine hK.out _ _ ⟨((cell_far (p := ⟨gb244, _, none⟩) (by first | exact Nat.ne_of_lt (Nat.lt_of_lt_of_le (by have := World.block_lt_of_cell? _ _ hw251_0; first | rwa [add_block] at this | exact this) GW244.out) | (rw [add_block]; exact Nat.ne_of_lt (Nat.lt_of_lt_of_le (by have := World.block_lt_of_cell? _ _ hw251_0; first | rwa [add_block] at this | exact this) GW244.out)) | (show (Addr.add _ _).block ≠ _; rw [add_block]; exact Nat.ne_of_lt (Nat.lt_of_lt_of_le (by have := World.block_lt_of_cell? _ _ hw251_0; first | rwa [add_block] at this | exact this) GW244.out)) | (dsimp only; exact Nat.ne_of_lt (Nat.lt_of_lt_of_le (by have := World.block_lt_of_cell? _ _ hw251_0; first | rwa [add_block] at this | exact this) GW244.out))) _).trans (hHeld.1)), ((cell_far (p := ⟨gb244, _, none⟩) (by first | exact Nat.ne_of_lt (Nat.lt_of_lt_of_le (by have := World.block_lt_of_cell? _ _ hw251_1; first | rwa [add_block] at this | exact this) GW244.out) | (rw [add_block]; exact Nat.ne_of_lt (Nat.lt_of_lt_of_le (by have := World.block_lt_of_cell? _ _ hw251_1; first | rwa [add_block] at this | exact this) GW244.out)) | (show (Addr.add _ _).block ≠ _; rw [add_block]; exact Nat.ne_of_lt (Nat.lt_of_lt_of_le (by have := World.block_lt_of_cell? _ _ hw251_1; first | rwa [add_block] at this | exact this) GW244.out)) | (dsimp only; exact Nat.ne_of_lt (Nat.lt_of_lt_of_le (by have := World.block_lt_of_cell? _ _ hw251_1; first | rwa [add_block] at this | exact this) GW244.out))) _).trans (hHeld.2.1)), ((cell_far (p := ⟨gb244, _, none⟩) (by first | exact Nat.ne_of_lt (Nat.lt_of_lt_of_le (by have := World.block_lt_of_cell? _ _ hw251_2; first | rwa [add_block] at this | exact this) GW244.out) | (rw [add_block]; exact Nat.ne_of_lt (Nat.lt_of_lt_of_le (by have := World.block_lt_of_cell? _ _ hw251_2; first | rwa [add_block] at this | exact this) GW244.out)) | (show (Addr.add _ _).block ≠ _; rw [add_block]; exact Nat.ne_of_lt (Nat.lt_of_lt_of_le (by have := World.block_lt_of_cell? _ _ hw251_2; first | rwa [add_block] at this | exact this) GW244.out)) | (dsimp only; exact Nat.ne_of_lt (Nat.lt_of_lt_of_le (by have := World.block_lt_of_cell? _ _ hw251_2; first | rwa [add_block] at this | exact this) GW244.out))) _).trans (hHeld.2.2.1)), ((cell_far (p := ⟨gb244, _, none⟩) (by first | exact Nat.ne_of_lt (Nat.lt_of_lt_of_le (by have := World.block_lt_of_cell? _ _ hw251_3; first | rwa [add_block] at this | exact this) GW244.out) | (rw [add_block]; exact Nat.ne_of_lt (Nat.lt_of_lt_of_le (by have := World.block_lt_of_cell? _ _ hw251_3; first | rwa [add_block] at this | exact this) GW244.out)) | (show (Addr.add _ _).block ≠ _; rw [add_block]; exact Nat.ne_of_lt (Nat.lt_of_lt_of_le (by have := World.block_lt_of_cell? _ _ hw251_3; first | rwa [add_block] at this | exact this) GW244.out)) | (dsimp only; exact Nat.ne_of_lt (Nat.lt_of_lt_of_le (by have := World.block_lt_of_cell? _ _ hw251_3; first | rwa [add_block] at this | exact this) GW244.out))) _).trans (hHeld.2.2.2.1)), ((cell_far (p := ⟨gb244, _, none⟩) (by first | exact Nat.ne_of_lt (Nat.lt_of_lt_of_le (by have := World.block_lt_of_cell? _ _ hw253_0; first | rwa [add_block] at this | exact this) GW244.out) | (rw [add_block]; exact Nat.ne_of_lt (Nat.lt_of_lt_of_le (by have := World.block_lt_of_cell? _ _ hw253_0; first | rwa [add_block] at this | exact this) GW244.out)) | (show (Addr.add _ _).block ≠ _; rw [add_block]; exact Nat.ne_of_lt (Nat.lt_of_lt_of_le (by have := World.block_lt_of_cell? _ _ hw253_0; first | rwa [add_block] at this | exact this) GW244.out)) | (dsimp only; exact Nat.ne_of_lt (Nat.lt_of_lt_of_le (by have := World.block_lt_of_cell? _ _ hw253_0; first | rwa [add_block] at this | exact this) GW244.out))) _).trans (hHeld.2.2.2.2.1)), ((cell_far (p := ⟨gb244, _, none⟩) (by first | exact Nat.ne_of_lt (Nat.lt_of_lt_of_le (by have := World.block_lt_of_cell? _ _ hw253_1; first | rwa [add_block] at this | exact this) GW244.out) | (rw [add_block]; exact Nat.ne_of_lt (Nat.lt_of_lt_of_le (by have := World.block_lt_of_cell? _ _ hw253_1; first | rwa [add_block] at this | exact this) GW244.out)) | (show (Addr.add _ _).block ≠ _; rw [add_block]; exact Nat.ne_of_lt (Nat.lt_of_lt_of_le (by have := World.block_lt_of_cell? _ _ hw253_1; first | rwa [add_block] at this | exact this) GW244.out)) | (dsimp only; exact Nat.ne_of_lt (Nat.lt_of_lt_of_le (by have := World.block_lt_of_cell? _ _ hw253_1; first | rwa [add_block] at this | exact this) GW244.out))) _).trans (hHeld.2.2.2.2.2.1)), ((cell_far (p := ⟨gb244, _, none⟩) (by first | exact Nat.ne_of_lt (Nat.lt_of_lt_of_le (by have := World.block_lt_of_cell? _ _ hw253_2; first | rwa [add_block] at this | exact this) GW244.out) | (rw [add_block]; exact Nat.ne_of_lt (Nat.lt_of_lt_of_le (by have := World.block_lt_of_cell? _ _ hw253_2; first | rwa [add_block] at this | exact this) GW244.out)) | (show (Addr.add _ _).block ≠ _; rw [add_block]; exact Nat.ne_of_lt (Nat.lt_of_lt_of_le (by have := World.block_lt_of_cell? _ _ hw253_2; first | rwa [add_block] at this | exact this) GW244.out)) | (dsimp only; exact Nat.ne_of_lt (Nat.lt_of_lt_of_le (by have := World.block_lt_of_cell? _ _ hw253_2; first | rwa [add_block] at this | exact this) GW244.out))) _).trans (hHeld.2.2.2.2.2.2.1)), ((cell_far (p := ⟨gb244, _, none⟩) (by first | exact Nat.ne_of_lt (Nat.lt_of_lt_of_le (by have := World.block_lt_of_cell? _ _ hw253_3; first | rwa [add_block] at this | exact this) GW244.out) | (rw [add_block]; exact Nat.ne_of_lt (Nat.lt_of_lt_of_le (by have := World.block_lt_of_cell? _ _ hw253_3; first | rwa [add_block] at this | exact this) GW244.out)) | (show (Addr.add _ _).block ≠ _; rw [add_block]; exact Nat.ne_of_lt (Nat.lt_of_lt_of_le (by have := World.block_lt_of_cell? _ _ hw253_3; first | rwa [add_block] at this | exact this) GW244.out)) | (dsimp only; exact Nat.ne_of_lt (Nat.lt_of_lt_of_le (by have := World.block_lt_of_cell? _ _ hw253_3; first | rwa [add_block] at this | exact this) GW244.out))) _).trans (hHeld.2.2.2.2.2.2.2))⟩ (fun hHeld => ?_)
           clear hK K
           refine done_ (done_of HT_.out (by kernel_rfl)) ?_
           try go_wp2
           go_meet
           case rel => exact ⟨_, (t252), ((⟨#[]⟩ : ByteArray)), ((rd_T28 l0 x7_1).f3), (by first | rfl | (simp; done) | (simp [*]; done)), H', ⟨by have := HK1.out; first | omega | exact Nat.le_refl _⟩, ⟨by (with_reducible repeat (first | apply Kd.R_alloc | apply Kd.R_drewN | apply Kd.R_drew)); exact Kd.R_mono (Kd.R_far (p := ⟨gb244, 3, none⟩) (Kd.R_mono HO_6.out (fun k_ hk => (⟨hk, hk⟩ : _ ∧ k_ ≠ gb244))) (fun _ hk => hk.2) (.int .i64 ((rd_T28 l0 x7_1).f3))) (fun _ hk => hk.1)⟩, ⟨by (with_reducible repeat (first | refine blk_drewN ?_ _ | refine blk_drew ?_ | refine blk_alloc ?_ _)); refine blk_put (cs := #[.int .i64 ((rd_T28 l0 x7_1).f0), .int .i64 0, .string (⟨#[]⟩ : ByteArray), .int .i64 0]) ?_ 3 _ rfl; (with_reducible repeat (first | refine blk_drewN ?_ _ | refine blk_drew ?_ | refine blk_alloc ?_ _)); exact BK244.out⟩, ⟨by repeat (first | (with_reducible first | exact HB.out | apply below_alloc | apply pw_below_drewN | apply below_drew1 | refine below_set ?_ GE244.out) | exact HB.out)⟩⟩
         ·rw [if_neg c20] at H
          have c20b0 : (((rd_T28 l0 x7_1).f0) == 2) = false := beq_eq_false_iff_ne.mpr c20
          have c20b1 : (((rd_T28 l0 x7_1).f0) != 2) = true := bne_iff_ne.mpr c20
          by_cases c26 : ((rd_T28 l0 x7_1).f0) = 3
          ·rw [if_pos c26] at H
           have c26b0 : (((rd_T28 l0 x7_1).f0) == 3) = true := beq_iff_eq.mpr c26
           have c26b1 : (((rd_T28 l0 x7_1).f0) != 3) = false := bne_eq_false_iff_eq.mpr c26
           clear c26
           by_cases c27 : (((rd_T28 l0 x7_1).f2).size : Int) > 64
           ·rw [if_pos c27] at H
            have c27b0 : decide (64 < (((rd_T28 l0 x7_1).f2).size : Int)) = true := decide_eq_true c27
            have c27b1 : decide (64 < ((rd_T28 l0 x7_1).f2).size) = true := decide_eq_true (by omega)
            clear c27
            obtain rfl := Option.some.inj H
            have p254 : 0 ≤ (x7_1 : Int) := of_decide_eq_true (by assumption)
            have q254 : x7_1 < (l0.length : Int) := of_decide_eq_true (by assumption)
            obtain ⟨ad254, e254, hx254_0, hx254_1, hx254_2, hx254_3⟩ := at_T28 HR0.out x7_1 p254 q254
            obtain rfl : ad243 = ad254 := (by injection e254)
            have hn254_0 : ad243.block ≠ gb244 := Nat.ne_of_lt (Nat.lt_of_lt_of_le (by have := World.block_lt_of_cell? _ _ hx254_0; first | rwa [add_block] at this | exact this) GW244.out)
            have hn254_1 : ad243.block ≠ gb244 := Nat.ne_of_lt (Nat.lt_of_lt_of_le (by have := World.block_lt_of_cell? _ _ hx254_0; first | rwa [add_block] at this | exact this) GW244.out)
            have hn254_2 : ad243.block ≠ gb244 := Nat.ne_of_lt (Nat.lt_of_lt_of_le (by have := World.block_lt_of_cell? _ _ hx254_0; first | rwa [add_block] at this | exact this) GW244.out)
            have hn254_3 : ad243.block ≠ gb244 := Nat.ne_of_lt (Nat.lt_of_lt_of_le (by have := World.block_lt_of_cell? _ _ hx254_0; first | rwa [add_block] at this | exact this) GW244.out)
            replace hx254_0 := (HB.out.cell (World.block_lt_of_cell? w _ hx254_0)).trans hx254_0
            replace hx254_1 := (HB.out.cell (World.block_lt_of_cell? w _ hx254_1)).trans hx254_1
            replace hx254_2 := (HB.out.cell (World.block_lt_of_cell? w _ hx254_2)).trans hx254_2
            replace hx254_3 := (HB.out.cell (World.block_lt_of_cell? w _ hx254_3)).trans hx254_3
            replace hx254_0 := (cell_far (p := ⟨gb244, 0, none⟩) (by first | exact hn254_0 | exact abn hn254_0) (.int .i64 ((rd_T28 l0 x7_1).f0))).trans hx254_0
            replace hx254_1 := (cell_far (p := ⟨gb244, 0, none⟩) (by first | exact hn254_0 | exact abn hn254_0) (.int .i64 ((rd_T28 l0 x7_1).f0))).trans hx254_1
            replace hx254_2 := (cell_far (p := ⟨gb244, 0, none⟩) (by first | exact hn254_0 | exact abn hn254_0) (.int .i64 ((rd_T28 l0 x7_1).f0))).trans hx254_2
            replace hx254_3 := (cell_far (p := ⟨gb244, 0, none⟩) (by first | exact hn254_0 | exact abn hn254_0) (.int .i64 ((rd_T28 l0 x7_1).f0))).trans hx254_3
            replace hx254_0 := (cell_far (p := ⟨gb244, 1, none⟩) (by first | exact hn254_1 | exact abn hn254_1) (.int .i64 0)).trans hx254_0
            replace hx254_1 := (cell_far (p := ⟨gb244, 1, none⟩) (by first | exact hn254_1 | exact abn hn254_1) (.int .i64 0)).trans hx254_1
            replace hx254_2 := (cell_far (p := ⟨gb244, 1, none⟩) (by first | exact hn254_1 | exact abn hn254_1) (.int .i64 0)).trans hx254_2
            replace hx254_3 := (cell_far (p := ⟨gb244, 1, none⟩) (by first | exact hn254_1 | exact abn hn254_1) (.int .i64 0)).trans hx254_3
            replace hx254_0 := (cell_far (p := ⟨gb244, 2, none⟩) (by first | exact hn254_2 | exact abn hn254_2) (.string (⟨#[]⟩ : ByteArray))).trans hx254_0
            replace hx254_1 := (cell_far (p := ⟨gb244, 2, none⟩) (by first | exact hn254_2 | exact abn hn254_2) (.string (⟨#[]⟩ : ByteArray))).trans hx254_1
            replace hx254_2 := (cell_far (p := ⟨gb244, 2, none⟩) (by first | exact hn254_2 | exact abn hn254_2) (.string (⟨#[]⟩ : ByteArray))).trans hx254_2
            replace hx254_3 := (cell_far (p := ⟨gb244, 2, none⟩) (by first | exact hn254_2 | exact abn hn254_2) (.string (⟨#[]⟩ : ByteArray))).trans hx254_3
            replace hx254_0 := (cell_far (p := ⟨gb244, 3, none⟩) (by first | exact hn254_3 | exact abn hn254_3) (.int .i64 0)).trans hx254_0
            replace hx254_1 := (cell_far (p := ⟨gb244, 3, none⟩) (by first | exact hn254_3 | exact abn hn254_3) (.int .i64 0)).trans hx254_1
            replace hx254_2 := (cell_far (p := ⟨gb244, 3, none⟩) (by first | exact hn254_3 | exact abn hn254_3) (.int .i64 0)).trans hx254_2
            replace hx254_3 := (cell_far (p := ⟨gb244, 3, none⟩) (by first | exact hn254_3 | exact abn hn254_3) (.int .i64 0)).trans hx254_3
            clear hn254_0
            clear hn254_1
            clear hn254_2
            clear hn254_3
            replace p254 := eq_true p254
            replace q254 := eq_true q254
            go_wp2
            go_ret
            exact ⟨by first | rfl | (simp [errW_none, errW_some] <;> rfl) | (simp [*, errW_none, errW_some] <;> rfl), by repeat (first | (with_reducible first | exact HB.out | apply below_alloc | apply pw_below_drewN | apply below_drew1 | refine below_set ?_ GE244.out) | exact HB.out)⟩
           ·rw [if_neg c27] at H
            have c27b0 : decide (64 < (((rd_T28 l0 x7_1).f2).size : Int)) = false := decide_eq_false c27
            have c27b1 : decide (64 < ((rd_T28 l0 x7_1).f2).size) = false := decide_eq_false (by omega)
            clear c27
            replace H := Option.bind_eq_some_iff.mp H
            obtain ⟨t256, A280, H⟩ := H
            replace H : (antipodelaw16_LexBack.j1 k1 l0 a1 x5_1 x6_1 x7_1 t256 ((rd_T28 l0 x7_1).f0) 0 ((rd_T28 l0 x7_1).f2) 0) = some r := H
            have A28 := Aside0.mk A280
            clear A280
            have H' := Aside0.mk H
            clear H
            have p254 : 0 ≤ (x7_1 : Int) := of_decide_eq_true (by assumption)
            have q254 : x7_1 < (l0.length : Int) := of_decide_eq_true (by assumption)
            obtain ⟨ad254, e254, hx254_0, hx254_1, hx254_2, hx254_3⟩ := at_T28 HR0.out x7_1 p254 q254
            obtain rfl : ad243 = ad254 := (by injection e254)
            have hn254_0 : ad243.block ≠ gb244 := Nat.ne_of_lt (Nat.lt_of_lt_of_le (by have := World.block_lt_of_cell? _ _ hx254_0; first | rwa [add_block] at this | exact this) GW244.out)
            have hn254_1 : ad243.block ≠ gb244 := Nat.ne_of_lt (Nat.lt_of_lt_of_le (by have := World.block_lt_of_cell? _ _ hx254_0; first | rwa [add_block] at this | exact this) GW244.out)
            have hn254_2 : ad243.block ≠ gb244 := Nat.ne_of_lt (Nat.lt_of_lt_of_le (by have := World.block_lt_of_cell? _ _ hx254_0; first | rwa [add_block] at this | exact this) GW244.out)
            have hn254_3 : ad243.block ≠ gb244 := Nat.ne_of_lt (Nat.lt_of_lt_of_le (by have := World.block_lt_of_cell? _ _ hx254_0; first | rwa [add_block] at this | exact this) GW244.out)
            replace hx254_0 := (HB.out.cell (World.block_lt_of_cell? w _ hx254_0)).trans hx254_0
            replace hx254_1 := (HB.out.cell (World.block_lt_of_cell? w _ hx254_1)).trans hx254_1
            replace hx254_2 := (HB.out.cell (World.block_lt_of_cell? w _ hx254_2)).trans hx254_2
            replace hx254_3 := (HB.out.cell (World.block_lt_of_cell? w _ hx254_3)).trans hx254_3
            replace hx254_0 := (cell_far (p := ⟨gb244, 0, none⟩) (by first | exact hn254_0 | exact abn hn254_0) (.int .i64 ((rd_T28 l0 x7_1).f0))).trans hx254_0
            replace hx254_1 := (cell_far (p := ⟨gb244, 0, none⟩) (by first | exact hn254_0 | exact abn hn254_0) (.int .i64 ((rd_T28 l0 x7_1).f0))).trans hx254_1
            replace hx254_2 := (cell_far (p := ⟨gb244, 0, none⟩) (by first | exact hn254_0 | exact abn hn254_0) (.int .i64 ((rd_T28 l0 x7_1).f0))).trans hx254_2
            replace hx254_3 := (cell_far (p := ⟨gb244, 0, none⟩) (by first | exact hn254_0 | exact abn hn254_0) (.int .i64 ((rd_T28 l0 x7_1).f0))).trans hx254_3
            replace hx254_0 := (cell_far (p := ⟨gb244, 1, none⟩) (by first | exact hn254_1 | exact abn hn254_1) (.int .i64 0)).trans hx254_0
            replace hx254_1 := (cell_far (p := ⟨gb244, 1, none⟩) (by first | exact hn254_1 | exact abn hn254_1) (.int .i64 0)).trans hx254_1
            replace hx254_2 := (cell_far (p := ⟨gb244, 1, none⟩) (by first | exact hn254_1 | exact abn hn254_1) (.int .i64 0)).trans hx254_2
            replace hx254_3 := (cell_far (p := ⟨gb244, 1, none⟩) (by first | exact hn254_1 | exact abn hn254_1) (.int .i64 0)).trans hx254_3
            replace hx254_0 := (cell_far (p := ⟨gb244, 2, none⟩) (by first | exact hn254_2 | exact abn hn254_2) (.string (⟨#[]⟩ : ByteArray))).trans hx254_0
            replace hx254_1 := (cell_far (p := ⟨gb244, 2, none⟩) (by first | exact hn254_2 | exact abn hn254_2) (.string (⟨#[]⟩ : ByteArray))).trans hx254_1
            replace hx254_2 := (cell_far (p := ⟨gb244, 2, none⟩) (by first | exact hn254_2 | exact abn hn254_2) (.string (⟨#[]⟩ : ByteArray))).trans hx254_2
            replace hx254_3 := (cell_far (p := ⟨gb244, 2, none⟩) (by first | exact hn254_2 | exact abn hn254_2) (.string (⟨#[]⟩ : ByteArray))).trans hx254_3
            replace hx254_0 := (cell_far (p := ⟨gb244, 3, none⟩) (by first | exact hn254_3 | exact abn hn254_3) (.int .i64 0)).trans hx254_0
            replace hx254_1 := (cell_far (p := ⟨gb244, 3, none⟩) (by first | exact hn254_3 | exact abn hn254_3) (.int .i64 0)).trans hx254_1
            replace hx254_2 := (cell_far (p := ⟨gb244, 3, none⟩) (by first | exact hn254_3 | exact abn hn254_3) (.int .i64 0)).trans hx254_2
            replace hx254_3 := (cell_far (p := ⟨gb244, 3, none⟩) (by first | exact hn254_3 | exact abn hn254_3) (.int .i64 0)).trans hx254_3
            clear hn254_0
            clear hn254_1
            clear hn254_2
            clear hn254_3
            replace p254 := eq_true p254
            replace q254 := eq_true q254
            try go_wp2
            have n0_ : Aside0 (Kd.R k28 28 ((((w11.setCell ⟨gb244, 0, none⟩ (.int .i64 ((rd_T28 l0 x7_1).f0))).setCell ⟨gb244, 1, none⟩ (.int .i64 0)).setCell ⟨gb244, 2, none⟩ (.string (⟨#[]⟩ : ByteArray))).setCell ⟨gb244, 3, none⟩ (.int .i64 0)) w.heap.size (fun k_ => k_ ≠ gb244) u6 x6_1) := ⟨by (with_reducible repeat (first | apply Kd.R_alloc | apply Kd.R_drewN | apply Kd.R_drew)); exact Kd.R_mono (Kd.R_far (p := ⟨gb244, 3, none⟩) (Kd.R_far (p := ⟨gb244, 2, none⟩) (Kd.R_far (p := ⟨gb244, 1, none⟩) (Kd.R_far (p := ⟨gb244, 0, none⟩) (Kd.R_mono HO_6.out (fun k_ hk => (⟨hk, hk.2⟩ : _ ∧ k_ ≠ gb244))) (fun _ hk => hk.2) (.int .i64 ((rd_T28 l0 x7_1).f0))) (fun _ hk => hk.2) (.int .i64 0)) (fun _ hk => hk.2) (.string (⟨#[]⟩ : ByteArray))) (fun _ hk => hk.2) (.int .i64 0)) (fun _ hk => hk.1.2)⟩
            have n1_ : Aside0 (((((w11.setCell ⟨gb244, 0, none⟩ (.int .i64 ((rd_T28 l0 x7_1).f0))).setCell ⟨gb244, 1, none⟩ (.int .i64 0)).setCell ⟨gb244, 2, none⟩ (.string (⟨#[]⟩ : ByteArray))).setCell ⟨gb244, 3, none⟩ (.int .i64 0)).heap[gb244]? = some (.cells #[.int .i64 ((rd_T28 l0 x7_1).f0), .int .i64 0, .string (⟨#[]⟩ : ByteArray), .int .i64 0] 28 (0, 0))) := ⟨by (with_reducible repeat (first | refine blk_drewN ?_ _ | refine blk_drew ?_ | refine blk_alloc ?_ _)); refine blk_put (cs := #[.int .i64 ((rd_T28 l0 x7_1).f0), .int .i64 0, .string (⟨#[]⟩ : ByteArray), .int .i64 0]) ?_ 3 _ rfl; (with_reducible repeat (first | refine blk_drewN ?_ _ | refine blk_drew ?_ | refine blk_alloc ?_ _)); refine blk_put (cs := #[.int .i64 ((rd_T28 l0 x7_1).f0), .int .i64 0, .string (⟨#[]⟩ : ByteArray), .int .i64 0]) ?_ 2 _ rfl; (with_reducible repeat (first | refine blk_drewN ?_ _ | refine blk_drew ?_ | refine blk_alloc ?_ _)); refine blk_put (cs := #[.int .i64 ((rd_T28 l0 x7_1).f0), .int .i64 0, .string (⟨#[]⟩ : ByteArray), .int .i64 0]) ?_ 1 _ rfl; (with_reducible repeat (first | refine blk_drewN ?_ _ | refine blk_drew ?_ | refine blk_alloc ?_ _)); refine blk_put (cs := #[.int .i64 0, .int .i64 0, .string (⟨#[]⟩ : ByteArray), .int .i64 0]) ?_ 0 _ rfl; (with_reducible repeat (first | refine blk_drewN ?_ _ | refine blk_drew ?_ | refine blk_alloc ?_ _)); exact BK244.out⟩
            have n2_ : Aside0 (Below w.heap.size w ((((w11.setCell ⟨gb244, 0, none⟩ (.int .i64 ((rd_T28 l0 x7_1).f0))).setCell ⟨gb244, 1, none⟩ (.int .i64 0)).setCell ⟨gb244, 2, none⟩ (.string (⟨#[]⟩ : ByteArray))).setCell ⟨gb244, 3, none⟩ (.int .i64 0))) := ⟨by repeat (first | (with_reducible first | exact HB.out | apply below_alloc | apply pw_below_drewN | apply below_drew1 | refine below_set ?_ GE244.out) | exact HB.out)⟩
            (try clear HO_6)
            (try clear BK244)
            (try clear HB)
            generalize ((((w11.setCell ⟨gb244, 0, none⟩ (.int .i64 ((rd_T28 l0 x7_1).f0))).setCell ⟨gb244, 1, none⟩ (.int .i64 0)).setCell ⟨gb244, 2, none⟩ (.string (⟨#[]⟩ : ByteArray))).setCell ⟨gb244, 3, none⟩ (.int .i64 0)) = w29 at n0_ n1_ n2_ ⊢
            have HO_6 := n0_
            have BK244 := n1_
            have HB := n2_
            clear n0_ n1_ n2_
            have n0_ := Aside0.mk (Kd.R_drew HO_6.out)
            have n1_ := Aside0.mk (blk_drew BK244.out)
            have n2_ := Aside0.mk (below_drew1 HB.out)
            clear HO_6
            clear BK244
            clear HB
            have HO_6 := n0_
            have BK244 := n1_
            have HB := n2_
            clear n0_ n1_ n2_
            have p255 : 0 ≤ (x7_1 : Int) := of_decide_eq_true (by assumption)
            have q255 : x7_1 < (l0.length : Int) := of_decide_eq_true (by assumption)
            obtain ⟨ad255, e255, hx255_0, hx255_1, hx255_2, hx255_3⟩ := at_T28 HR0.out x7_1 p255 q255
            have hw255_3 := hx255_3
            have hw255_2 := hx255_2
            have hw255_1 := hx255_1
            have hw255_0 := hx255_0
            obtain rfl : ad243 = ad255 := (by injection e255)
            replace hx255_0 := (HB.out.cell (World.block_lt_of_cell? w _ hx255_0)).trans hx255_0
            replace hx255_1 := (HB.out.cell (World.block_lt_of_cell? w _ hx255_1)).trans hx255_1
            replace hx255_2 := (HB.out.cell (World.block_lt_of_cell? w _ hx255_2)).trans hx255_2
            replace hx255_3 := (HB.out.cell (World.block_lt_of_cell? w _ hx255_3)).trans hx255_3
            replace p255 := eq_true p255
            replace q255 := eq_true q255
            have p257 : 0 ≤ (x7_1 : Int) := of_decide_eq_true (by assumption)
            have q257 : x7_1 < (l0.length : Int) := of_decide_eq_true (by assumption)
            obtain ⟨ad257, e257, hx257_0, hx257_1, hx257_2, hx257_3⟩ := at_T28 HR0.out x7_1 p257 q257
            have hw257_3 := hx257_3
            have hw257_2 := hx257_2
            have hw257_1 := hx257_1
            have hw257_0 := hx257_0
            obtain rfl : ad243 = ad257 := (by injection e257)
            replace hx257_0 := (HB.out.cell (World.block_lt_of_cell? w _ hx257_0)).trans hx257_0
            replace hx257_1 := (HB.out.cell (World.block_lt_of_cell? w _ hx257_1)).trans hx257_1
            replace hx257_2 := (HB.out.cell (World.block_lt_of_cell? w _ hx257_2)).trans hx257_2
            replace hx257_3 := (HB.out.cell (World.block_lt_of_cell? w _ hx257_3)).trans hx257_3
            replace p257 := eq_true p257
            replace q257 := eq_true q257
            refine start_ (n := 15) (S := fun w' => w'.cell? (ad243.add ((x7_1).toNat * 4)) = some (.int .i64 ((rd_T28 l0 x7_1).f0)) ∧ w'.cell? ⟨(ad243.add ((x7_1).toNat * 4)).block, (ad243.add ((x7_1).toNat * 4)).off + 1, none⟩ = some (.int .i64 ((rd_T28 l0 x7_1).f1)) ∧ w'.cell? ⟨(ad243.add ((x7_1).toNat * 4)).block, (ad243.add ((x7_1).toNat * 4)).off + 2, none⟩ = some (.string ((rd_T28 l0 x7_1).f2)) ∧ w'.cell? ⟨(ad243.add ((x7_1).toNat * 4)).block, (ad243.add ((x7_1).toNat * 4)).off + 3, none⟩ = some (.int .i64 ((rd_T28 l0 x7_1).f3)) ∧ w'.cell? (ad243.add ((x7_1).toNat * 4)) = some (.int .i64 ((rd_T28 l0 x7_1).f0)) ∧ w'.cell? ⟨(ad243.add ((x7_1).toNat * 4)).block, (ad243.add ((x7_1).toNat * 4)).off + 1, none⟩ = some (.int .i64 ((rd_T28 l0 x7_1).f1)) ∧ w'.cell? ⟨(ad243.add ((x7_1).toNat * 4)).block, (ad243.add ((x7_1).toNat * 4)).off + 2, none⟩ = some (.string ((rd_T28 l0 x7_1).f2)) ∧ w'.cell? ⟨(ad243.add ((x7_1).toNat * 4)).block, (ad243.add ((x7_1).toNat * 4)).off + 3, none⟩ = some (.int .i64 ((rd_T28 l0 x7_1).f3))) (ds := []) #[false, false, false, false, false, false, false, false, false, false, false, false, false, false, false] (by kernel_rfl) rfl rfl ⟨((HB.out.cell (World.block_lt_of_cell? w _ hw255_0)).trans hw255_0), ((HB.out.cell (World.block_lt_of_cell? w _ hw255_1)).trans hw255_1), ((HB.out.cell (World.block_lt_of_cell? w _ hw255_2)).trans hw255_2), ((HB.out.cell (World.block_lt_of_cell? w _ hw255_3)).trans hw255_3), ((HB.out.cell (World.block_lt_of_cell? w _ hw257_0)).trans hw257_0), ((HB.out.cell (World.block_lt_of_cell? w _ hw257_1)).trans hw257_1), ((HB.out.cell (World.block_lt_of_cell? w _ hw257_2)).trans hw257_2), ((HB.out.cell (World.block_lt_of_cell? w _ hw257_3)).trans hw257_3)⟩ (fun hHeld => ?_); refine with_tabW antipodelaw16_LexBack.tab25 antipodelaw16_LexBack.bits25 (fun HT_ HW_ => ?_)
            generalize w29.drew = w30 at HO_6 BK244 HB hx255_0 hx255_1 hx255_2 hx255_3 hx257_0 hx257_1 hx257_2 hx257_3 hHeld ⊢
            refine pure_ (i := 0) (N := some 84) (v := ?_) (a' := ?_) #[true, false, false, false, false, false, false, false, false, false, false, false, false, false, false] rfl rfl (any_of HT_.out (by kernel_rfl)) (fun _ _ _ h => h) (Or.inl ⟨by rfl, ?_⟩) ?_ ?_
            rotate_left
            ·intro w'
             go_simp
             with_reducible rfl
            rotate_left
            ·simp only [Act.put, List.setIfInBounds_toArray, List.set_cons_zero, List.set_cons_succ, i64_w, i32_w]
             rfl
            refine pure_ (i := 1) (N := some 85) (v := ?_) (a' := ?_) #[true, true, false, false, false, false, false, false, false, false, false, false, false, false, false] rfl rfl (any_of HT_.out (by kernel_rfl)) (fun _ _ _ h => h) (Or.inl ⟨by rfl, ?_⟩) ?_ ?_
            rotate_left
            ·intro w'
             go_simp
             with_reducible rfl
            rotate_left
            ·simp only [Act.put, List.setIfInBounds_toArray, List.set_cons_zero, List.set_cons_succ, i64_w, i32_w]
             rfl
            refine pure_ (i := 2) (N := some 86) (v := ?_) (a' := ?_) #[true, true, true, false, false, false, false, false, false, false, false, false, false, false, false] rfl rfl (any_of HT_.out (by kernel_rfl)) (fun _ _ _ h => h) (Or.inl ⟨by rfl, ?_⟩) ?_ ?_
            rotate_left
            ·intro w'
             go_simp
             with_reducible rfl
            rotate_left
            ·simp only [Act.put, List.setIfInBounds_toArray, List.set_cons_zero, List.set_cons_succ, i64_w, i32_w]
             rfl
            refine pure_ (i := 3) (N := some 87) (v := ?_) (a' := ?_) #[true, true, true, true, false, false, false, false, false, false, false, false, false, false, false] rfl rfl (any_of HT_.out (by kernel_rfl)) (fun _ _ _ h => h) (Or.inl ⟨by rfl, ?_⟩) ?_ ?_
            rotate_left
            ·intro w'
             go_simp
             with_reducible rfl
            rotate_left
            ·simp only [Act.put, List.setIfInBounds_toArray, List.set_cons_zero, List.set_cons_succ, i64_w, i32_w]
             rfl
            refine pure_ (i := 7) (N := some 91) (v := ?_) (a' := ?_) #[true, true, true, true, false, false, false, true, false, false, false, false, false, false, false] rfl rfl (any_of HT_.out (by kernel_rfl)) (fun _ _ _ h => h) (Or.inl ⟨by rfl, ?_⟩) ?_ ?_
            rotate_left
            ·intro w'
             go_simp
             with_reducible rfl
            rotate_left
            ·simp only [Act.put, List.setIfInBounds_toArray, List.set_cons_zero, List.set_cons_succ, i64_w, i32_w]
             rfl
            refine pure_ (i := 8) (N := some 92) (v := ?_) (a' := ?_) #[true, true, true, true, false, false, false, true, true, false, false, false, false, false, false] rfl rfl (any_of HT_.out (by kernel_rfl)) (fun _ _ _ h => h) (Or.inl ⟨by rfl, ?_⟩) ?_ ?_
            rotate_left
            ·intro w'
             go_simp
             with_reducible rfl
            rotate_left
            ·simp only [Act.put, List.setIfInBounds_toArray, List.set_cons_zero, List.set_cons_succ, i64_w, i32_w]
             rfl
            refine pure_ (i := 9) (N := some 93) (v := ?_) (a' := ?_) #[true, true, true, true, false, false, false, true, true, true, false, false, false, false, false] rfl rfl (any_of HT_.out (by kernel_rfl)) (fun _ _ _ h => h) (Or.inl ⟨by rfl, ?_⟩) ?_ ?_
            rotate_left
            ·intro w'
             go_simp
             with_reducible rfl
            rotate_left
            ·simp only [Act.put, List.setIfInBounds_toArray, List.set_cons_zero, List.set_cons_succ, i64_w, i32_w]
             rfl
            refine pure_ (i := 10) (N := some 94) (v := ?_) (a' := ?_) #[true, true, true, true, false, false, false, true, true, true, true, false, false, false, false] rfl rfl (any_of HT_.out (by kernel_rfl)) (fun _ _ _ h => h) (Or.inl ⟨by rfl, ?_⟩) ?_ ?_
            rotate_left
            ·intro w'
             go_simp
             with_reducible rfl
            rotate_left
            ·simp only [Act.put, List.setIfInBounds_toArray, List.set_cons_zero, List.set_cons_succ, i64_w, i32_w]
             rfl
            refine take_ (i := 4) (N := some 88) (v := ?_) (a' := ?_) #[true, true, true, true, true, false, false, true, true, true, true, false, false, false, false] rfl rfl (take_ofW HT_.out HW_.out (by kernel_rfl)) (fun _ _ _ h => h) (Or.inl ⟨by rfl, ?_⟩) hHeld ?_ ?_
            rotate_left
            ·rintro w' ⟨s0, s1, s2, s3, s4, s5, s6, s7⟩
             go_simp
             with_reducible rfl
            rotate_left
            ·simp only [Act.put, List.setIfInBounds_toArray, List.set_cons_zero, List.set_cons_succ, i64_w, i32_w]
             rfl
            refine pure_ (i := 5) (N := some 89) (v := ?_) (a' := ?_) #[true, true, true, true, true, true, false, true, true, true, true, false, false, false, false] rfl rfl (any_of HT_.out (by kernel_rfl)) (fun _ _ _ h => h) (Or.inl ⟨by rfl, ?_⟩) ?_ ?_
            rotate_left
            ·intro w'
             go_simp
             with_reducible rfl
            rotate_left
            ·simp only [Act.put, List.setIfInBounds_toArray, List.set_cons_zero, List.set_cons_succ, i64_w, i32_w]
             rfl
            refine take_ (i := 11) (N := some 95) (v := ?_) (a' := ?_) #[true, true, true, true, true, true, false, true, true, true, true, true, false, false, false] rfl rfl (take_ofW HT_.out HW_.out (by kernel_rfl)) (fun _ _ _ h => h) (Or.inl ⟨by rfl, ?_⟩) hHeld ?_ ?_
            rotate_left
            ·rintro w' ⟨s0, s1, s2, s3, s4, s5, s6, s7⟩
             go_simp
             with_reducible rfl
            rotate_left
            ·simp only [Act.put, List.setIfInBounds_toArray, List.set_cons_zero, List.set_cons_succ, i64_w, i32_w]
             rfl
            refine one_ (i := 6) (N := some 90) #[true, true, true, true, true, true, true, true, true, true, true, true, false, false, false] rfl rfl (one_of HT_.out (by kernel_rfl)) (by decide) (fun K hK => ?_)
            refine goes_ Try.func13 (by kernel_rfl) rfl #[.agg #[.int .i64 3, .int .i64 0, .string ((rd_T28 l0 x7_1).f2)]] (by rfl) rfl rfl (by (try simp only [List.map_toArray, List.map_cons, List.map_nil]); first | done | rfl | (simp only [List.length_drop, List.length_take]; rfl)) ?_
            with_reducible refine (antipoderef7_Show.calls k1 3 0 ((rd_T28 l0 x7_1).f2) t256 _ A28.out).mono ?_
            rintro e w31 ⟨rfl, hb⟩
            refine ⟨_, rfl, ?_⟩
            have n0_ := Aside0.mk (Kd.R_below (by (with_reducible repeat (first | apply Kd.R_alloc | apply Kd.R_drewN | apply Kd.R_drew)); exact HO_6.out) hb)
            have n1_ := Aside0.mk (blk_below (g := gb244) (o := .cells #[.int .i64 ((rd_T28 l0 x7_1).f0), .int .i64 0, .string (⟨#[]⟩ : ByteArray), .int .i64 0] 28 (0, 0)) (by (with_reducible repeat (first | refine blk_drewN ?_ _ | refine blk_drew ?_ | refine blk_alloc ?_ _)); exact BK244.out) hb)
            have n2_ := Aside0.mk (below_step (by repeat (first | (with_reducible first | exact HB.out | apply below_alloc | apply pw_below_drewN | apply below_drew1 | refine below_set ?_ GE244.out) | exact HB.out)) hb)
            clear HO_6
            clear BK244
            clear HB
            have HO_6 := n0_
            have BK244 := n1_
            have HB := n2_
            clear n0_ n1_ n2_
            (try clear hb)
            (try clear hb2)
            (try clear hk)
            (try clear hi)
            refine hK.out _ _ ⟨((HB.out.cell (World.block_lt_of_cell? w _ hw255_0)).trans hw255_0), ((HB.out.cell (World.block_lt_of_cell? w _ hw255_1)).trans hw255_1), ((HB.out.cell (World.block_lt_of_cell? w _ hw255_2)).trans hw255_2), ((HB.out.cell (World.block_lt_of_cell? w _ hw255_3)).trans hw255_3), ((HB.out.cell (World.block_lt_of_cell? w _ hw257_0)).trans hw257_0), ((HB.out.cell (World.block_lt_of_cell? w _ hw257_1)).trans hw257_1), ((HB.out.cell (World.block_lt_of_cell? w _ hw257_2)).trans hw257_2), ((HB.out.cell (World.block_lt_of_cell? w _ hw257_3)).trans hw257_3)⟩ (fun hHeld => ?_)
            clear hK K
            refine norm_ (a' := ?_) ?_ ?_
            rotate_left
            ·show Act.put _ (some 90) _ = _
             simp only [Act.put, List.setIfInBounds_toArray, List.set_cons_zero, List.set_cons_succ, i64_w, i32_w]
             rfl
            refine pure_ (i := 12) (N := some 8) (v := ?_) (a' := ?_) #[true, true, true, true, true, true, true, true, true, true, true, true, true, false, false] rfl rfl (any_of HT_.out (by kernel_rfl)) (fun _ _ _ h => h) (Or.inl ⟨by rfl, ?_⟩) ?_ ?_
            rotate_left
            ·intro w'
             go_simp
             with_reducible rfl
            rotate_left
            ·simp only [Act.put, List.setIfInBounds_toArray, List.set_cons_zero, List.set_cons_succ, i64_w, i32_w]
             rfl
            refine pure_ (i := 13) (N := some 96) (v := ?_) (a' := ?_) #[true, true, true, true, true, true, true, true, true, true, true, true, true, true, false] rfl rfl (any_of HT_.out (by kernel_rfl)) (fun _ _ _ h => h) (Or.inl ⟨by rfl, ?_⟩) ?_ ?_
            rotate_left
            ·intro w'
             go_simp
             with_reducible rfl
            rotate_left
            ·simp only [Act.put, List.setIfInBounds_toArray, List.set_cons_zero, List.set_cons_succ, i64_w, i32_w]
             rfl
            refine one_ (i := 14) (N := none) #[true, true, true, true, true, true, true, true, true, true, true, true, true, true, true] rfl rfl (one_of HT_.out (by kernel_rfl)) (by decide) (fun K hK => ?_)
            have hs32 : w31.cell? ⟨gb244, 2, none⟩ = some (.string (⟨#[]⟩ : ByteArray)) := (blk_cell BK244.out 2).trans rfl
            have hfs32 := blk_frozen BK244.out 2
            refine skip_ (w1 := ?_) (by rfl) rfl ?_ ?_
            rotate_left
            ·go_simp
             rfl
            refine hK.out _ _ ⟨((cell_far (p := ⟨gb244, _, none⟩) (by first | exact Nat.ne_of_lt (Nat.lt_of_lt_of_le (by have := World.block_lt_of_cell? _ _ hw255_0; first | rwa [add_block] at this | exact this) GW244.out) | (rw [add_block]; exact Nat.ne_of_lt (Nat.lt_of_lt_of_le (by have := World.block_lt_of_cell? _ _ hw255_0; first | rwa [add_block] at this | exact this) GW244.out)) | (show (Addr.add _ _).block ≠ _; rw [add_block]; exact Nat.ne_of_lt (Nat.lt_of_lt_of_le (by have := World.block_lt_of_cell? _ _ hw255_0; first | rwa [add_block] at this | exact this) GW244.out)) | (dsimp only; exact Nat.ne_of_lt (Nat.lt_of_lt_of_le (by have := World.block_lt_of_cell? _ _ hw255_0; first | rwa [add_block] at this | exact this) GW244.out))) _).trans (hHeld.1)), ((cell_far (p := ⟨gb244, _, none⟩) (by first | exact Nat.ne_of_lt (Nat.lt_of_lt_of_le (by have := World.block_lt_of_cell? _ _ hw255_1; first | rwa [add_block] at this | exact this) GW244.out) | (rw [add_block]; exact Nat.ne_of_lt (Nat.lt_of_lt_of_le (by have := World.block_lt_of_cell? _ _ hw255_1; first | rwa [add_block] at this | exact this) GW244.out)) | (show (Addr.add _ _).block ≠ _; rw [add_block]; exact Nat.ne_of_lt (Nat.lt_of_lt_of_le (by have := World.block_lt_of_cell? _ _ hw255_1; first | rwa [add_block] at this | exact this) GW244.out)) | (dsimp only; exact Nat.ne_of_lt (Nat.lt_of_lt_of_le (by have := World.block_lt_of_cell? _ _ hw255_1; first | rwa [add_block] at this | exact this) GW244.out))) _).trans (hHeld.2.1)), ((cell_far (p := ⟨gb244, _, none⟩) (by first | exact Nat.ne_of_lt (Nat.lt_of_lt_of_le (by have := World.block_lt_of_cell? _ _ hw255_2; first | rwa [add_block] at this | exact this) GW244.out) | (rw [add_block]; exact Nat.ne_of_lt (Nat.lt_of_lt_of_le (by have := World.block_lt_of_cell? _ _ hw255_2; first | rwa [add_block] at this | exact this) GW244.out)) | (show (Addr.add _ _).block ≠ _; rw [add_block]; exact Nat.ne_of_lt (Nat.lt_of_lt_of_le (by have := World.block_lt_of_cell? _ _ hw255_2; first | rwa [add_block] at this | exact this) GW244.out)) | (dsimp only; exact Nat.ne_of_lt (Nat.lt_of_lt_of_le (by have := World.block_lt_of_cell? _ _ hw255_2; first | rwa [add_block] at this | exact this) GW244.out))) _).trans (hHeld.2.2.1)), ((cell_far (p := ⟨gb244, _, none⟩) (by first | exact Nat.ne_of_lt (Nat.lt_of_lt_of_le (by have := World.block_lt_of_cell? _ _ hw255_3; first | rwa [add_block] at this | exact this) GW244.out) | (rw [add_block]; exact Nat.ne_of_lt (Nat.lt_of_lt_of_le (by have := World.block_lt_of_cell? _ _ hw255_3; first | rwa [add_block] at this | exact this) GW244.out)) | (show (Addr.add _ _).block ≠ _; rw [add_block]; exact Nat.ne_of_lt (Nat.lt_of_lt_of_le (by have := World.block_lt_of_cell? _ _ hw255_3; first | rwa [add_block] at this | exact this) GW244.out)) | (dsimp only; exact Nat.ne_of_lt (Nat.lt_of_lt_of_le (by have := World.block_lt_of_cell? _ _ hw255_3; first | rwa [add_block] at this | exact this) GW244.out))) _).trans (hHeld.2.2.2.1)), ((cell_far (p := ⟨gb244, _, none⟩) (by first | exact Nat.ne_of_lt (Nat.lt_of_lt_of_le (by have := World.block_lt_of_cell? _ _ hw257_0; first | rwa [add_block] at this | exact this) GW244.out) | (rw [add_block]; exact Nat.ne_of_lt (Nat.lt_of_lt_of_le (by have := World.block_lt_of_cell? _ _ hw257_0; first | rwa [add_block] at this | exact this) GW244.out)) | (show (Addr.add _ _).block ≠ _; rw [add_block]; exact Nat.ne_of_lt (Nat.lt_of_lt_of_le (by have := World.block_lt_of_cell? _ _ hw257_0; first | rwa [add_block] at this | exact this) GW244.out)) | (dsimp only; exact Nat.ne_of_lt (Nat.lt_of_lt_of_le (by have := World.block_lt_of_cell? _ _ hw257_0; first | rwa [add_block] at this | exact this) GW244.out))) _).trans (hHeld.2.2.2.2.1)), ((cell_far (p := ⟨gb244, _, none⟩) (by first | exact Nat.ne_of_lt (Nat.lt_of_lt_of_le (by have := World.block_lt_of_cell? _ _ hw257_1; first | rwa [add_block] at this | exact this) GW244.out) | (rw [add_block]; exact Nat.ne_of_lt (Nat.lt_of_lt_of_le (by have := World.block_lt_of_cell? _ _ hw257_1; first | rwa [add_block] at this | exact this) GW244.out)) | (show (Addr.add _ _).block ≠ _; rw [add_block]; exact Nat.ne_of_lt (Nat.lt_of_lt_of_le (by have := World.block_lt_of_cell? _ _ hw257_1; first | rwa [add_block] at this | exact this) GW244.out)) | (dsimp only; exact Nat.ne_of_lt (Nat.lt_of_lt_of_le (by have := World.block_lt_of_cell? _ _ hw257_1; first | rwa [add_block] at this | exact this) GW244.out))) _).trans (hHeld.2.2.2.2.2.1)), ((cell_far (p := ⟨gb244, _, none⟩) (by first | exact Nat.ne_of_lt (Nat.lt_of_lt_of_le (by have := World.block_lt_of_cell? _ _ hw257_2; first | rwa [add_block] at this | exact this) GW244.out) | (rw [add_block]; exact Nat.ne_of_lt (Nat.lt_of_lt_of_le (by have := World.block_lt_of_cell? _ _ hw257_2; first | rwa [add_block] at this | exact this) GW244.out)) | (show (Addr.add _ _).block ≠ _; rw [add_block]; exact Nat.ne_of_lt (Nat.lt_of_lt_of_le (by have := World.block_lt_of_cell? _ _ hw257_2; first | rwa [add_block] at this | exact this) GW244.out)) | (dsimp only; exact Nat.ne_of_lt (Nat.lt_of_lt_of_le (by have := World.block_lt_of_cell? _ _ hw257_2; first | rwa [add_block] at this | exact this) GW244.out))) _).trans (hHeld.2.2.2.2.2.2.1)), ((cell_far (p := ⟨gb244, _, none⟩) (by first | exact Nat.ne_of_lt (Nat.lt_of_lt_of_le (by have := World.block_lt_of_cell? _ _ hw257_3; first | rwa [add_block] at this | exact this) GW244.out) | (rw [add_block]; exact Nat.ne_of_lt (Nat.lt_of_lt_of_le (by have := World.block_lt_of_cell? _ _ hw257_3; first | rwa [add_block] at this | exact this) GW244.out)) | (show (Addr.add _ _).block ≠ _; rw [add_block]; exact Nat.ne_of_lt (Nat.lt_of_lt_of_le (by have := World.block_lt_of_cell? _ _ hw257_3; first | rwa [add_block] at this | exact this) GW244.out)) | (dsimp only; exact Nat.ne_of_lt (Nat.lt_of_lt_of_le (by have := World.block_lt_of_cell? _ _ hw257_3; first | rwa [add_block] at this | exact this) GW244.out))) _).trans (hHeld.2.2.2.2.2.2.2))⟩ (fun hHeld => ?_)
            clear hK K
            refine done_ (done_of HT_.out (by kernel_rfl)) ?_
            try go_wp2
            go_meet
            case rel => exact ⟨_, (t256), ((rd_T28 l0 x7_1).f2), (0), (by first | rfl | (simp; done) | (simp [*]; done)), H', ⟨by have := HK1.out; first | omega | exact Nat.le_refl _⟩, ⟨by (with_reducible repeat (first | apply Kd.R_alloc | apply Kd.R_drewN | apply Kd.R_drew)); exact Kd.R_mono (Kd.R_far (p := ⟨gb244, 2, none⟩) (Kd.R_mono HO_6.out (fun k_ hk => (⟨hk, hk⟩ : _ ∧ k_ ≠ gb244))) (fun _ hk => hk.2) (.string ((rd_T28 l0 x7_1).f2))) (fun _ hk => hk.1)⟩, ⟨by (with_reducible repeat (first | refine blk_drewN ?_ _ | refine blk_drew ?_ | refine blk_alloc ?_ _)); refine blk_put (cs := #[.int .i64 ((rd_T28 l0 x7_1).f0), .int .i64 0, .string (⟨#[]⟩ : ByteArray), .int .i64 0]) ?_ 2 _ rfl; (with_reducible repeat (first | refine blk_drewN ?_ _ | refine blk_drew ?_ | refine blk_alloc ?_ _)); exact BK244.out⟩, ⟨by repeat (first | (with_reducible first | exact HB.out | apply below_alloc | apply pw_below_drewN | apply below_drew1 | refine below_set ?_ GE244.out) | exact HB.out)⟩⟩
          ·rw [if_neg c26] at H
           have c26b0 : (((rd_T28 l0 x7_1).f0) == 3) = false := beq_eq_false_iff_ne.mpr c26
           have c26b1 : (((rd_T28 l0 x7_1).f0) != 3) = true := bne_iff_ne.mpr c26
           obtain rfl := Option.some.inj H
           go_wp2
           go_ret
           exact ⟨by first | rfl | (simp [errW_none, errW_some] <;> rfl) | (simp [*, errW_none, errW_some] <;> rfl), by repeat (first | (with_reducible first | exact HB.out | apply below_alloc | apply pw_below_drewN | apply below_drew1 | refine below_set ?_ GE244.out) | exact HB.out)⟩
       case rest =>
        clear HC10
        try clear c1
        try clear c2
        try clear p2
        try clear q2
        try clear hx2
        try clear c10
        try clear c12
        try clear c13
        try clear c13b0
        try clear c13b1
        try clear c20
        try clear c20b0
        try clear c20b1
        try clear c21
        try clear c21b0
        try clear p24
        try clear q24
        try clear hx24
        try clear p25
        try clear q25
        try clear hx25
        try clear c26
        try clear c26b0
        try clear c26b1
        try clear c27
        try clear c27b0
        try clear c27b1
        try clear hx246_0
        try clear hx246_1
        try clear hx246_2
        try clear hx246_3
        try clear hx250_0
        try clear hx250_1
        try clear hx250_2
        try clear hx250_3
        try clear hx251_0
        try clear hx251_1
        try clear hx251_2
        try clear hx251_3
        try clear hx253_0
        try clear hx253_1
        try clear hx253_2
        try clear hx253_3
        try clear hx254_0
        try clear hx254_1
        try clear hx254_2
        try clear hx254_3
        try clear hx255_0
        try clear hx255_1
        try clear hx255_2
        try clear hx255_3
        try clear hx257_0
        try clear hx257_1
        try clear hx257_2
        try clear hx257_3
        try clear p246
        try clear p250
        try clear p251
        try clear p253
        try clear p254
        try clear p255
        try clear p257
        try clear q246
        try clear q250
        try clear q251
        try clear q253
        try clear q254
        try clear q255
        try clear q257
        obtain ⟨kq, x8_9, x245002_9, x245003_9, rfl, HA, HJ9, HO_6, BK244, HB⟩ := hcut
        cases kq with
        | zero => exact absurd HA.out (by simp [antipodelaw16_LexBack.j1])
        | succ kj9 =>
         have H := HA.out
         clear HA
         simp only [antipodelaw16_LexBack.j1] at H
         by_cases c33 : x6_1.length < 3518437208883
         ·rw [if_pos c33] at H
          have LMc33 := Aside0.mk c33
          clear c33
          obtain ⟨y258, hy258⟩ : ∃ y_ : List (S28), y_ = (x6_1 ++ [(⟨((rd_T28 l0 x7_1).f0), (x5_1.size : Int), x245002_9, x245003_9⟩ : S28)]) := ⟨_, rfl⟩
          replace H : (if x5_1.size + x8_9.size ≤ 9223372036854775807 then (if (x5_1 ++ x8_9).size + 1 ≤ 9223372036854775807 then (if a1 = true then (if ((x5_1 ++ x8_9) ++ (⟨#[32]⟩ : ByteArray)).size + 2 ≤ 9223372036854775807 then (antipodelaw16_LexBack.l0 kj9 l0 a1 (((x5_1 ++ x8_9) ++ (⟨#[32]⟩ : ByteArray)) ++ (⟨#[9, 10]⟩ : ByteArray)) y258 (wrap64 (x7_1 + 1))) else (none)) else (antipodelaw16_LexBack.l0 kj9 l0 a1 ((x5_1 ++ x8_9) ++ (⟨#[32]⟩ : ByteArray)) y258 (wrap64 (x7_1 + 1)))) else (none)) else (none)) = some r := by first | (rw [hy258]; with_reducible exact H) | (have H2_ := (Option.bind_some _ _).symm.trans H; rw [hy258]; with_reducible exact H2_) | (have H2_ := (Option.bind_some _ _).symm.trans H; with_reducible exact H2_) | with_reducible exact H | (rw [hy258]; exact H) | exact H
          have Ny258 := Aside0.mk hy258
          clear hy258
          by_cases c34 : x5_1.size + x8_9.size ≤ 9223372036854775807
          ·rw [if_pos c34] at H
           have c34b0 := eq_true c34
           have c34b1 : decide (x5_1.size + x8_9.size ≤ 9223372036854775807) = true := decide_eq_true c34
           try have c34b2 : (9223372036854775807 < x5_1.size + x8_9.size) = False := eq_false (Nat.not_lt.2 c34)
           by_cases c35 : (x5_1 ++ x8_9).size + 1 ≤ 9223372036854775807
           ·rw [if_pos c35] at H
            have c35z : (x5_1.size + x8_9.size) + 1 ≤ 9223372036854775807 := by have h_ := c35; simp only [ByteArray.size_append] at h_; exact h_
            have c35y := eq_true c35z
            have c35x : decide ((x5_1.size + x8_9.size) + 1 ≤ 9223372036854775807) = true := decide_eq_true c35z
            have c35w : (9223372036854775807 < (x5_1.size + x8_9.size) + 1) = False := eq_false (by omega)
            have c35b0 := eq_true c35
            have c35b1 : decide ((x5_1 ++ x8_9).size + 1 ≤ 9223372036854775807) = true := decide_eq_true c35
            try have c35b2 : (9223372036854775807 < (x5_1 ++ x8_9).size + 1) = False := eq_false (Nat.not_lt.2 c35)
            by_cases c36 : a1 = true
            ·subst c36
             have H1 : (if ((x5_1 ++ x8_9) ++ (⟨#[32]⟩ : ByteArray)).size + 2 ≤ 9223372036854775807 then (antipodelaw16_LexBack.l0 kj9 l0 true (((x5_1 ++ x8_9) ++ (⟨#[32]⟩ : ByteArray)) ++ (⟨#[9, 10]⟩ : ByteArray)) y258 (wrap64 (x7_1 + 1))) else (none)) = some r := by rw [if_pos rfl] at H; exact H
             clear H
             have H := H1
             clear H1
             by_cases c37 : ((x5_1 ++ x8_9) ++ (⟨#[32]⟩ : ByteArray)).size + 2 ≤ 9223372036854775807
             ·rw [if_pos c37] at H
              have c37z : ((x5_1.size + x8_9.size) + 1) + 2 ≤ 9223372036854775807 := by have h_ := c37; simp only [ByteArray.size_append] at h_; exact h_
              have c37y := eq_true c37z
              have c37x : decide (((x5_1.size + x8_9.size) + 1) + 2 ≤ 9223372036854775807) = true := decide_eq_true c37z
              have c37w : (9223372036854775807 < ((x5_1.size + x8_9.size) + 1) + 2) = False := eq_false (by omega)
              have c37b0 := eq_true c37
              have c37b1 : decide (((x5_1 ++ x8_9) ++ (⟨#[32]⟩ : ByteArray)).size + 2 ≤ 9223372036854775807) = true := decide_eq_true c37
              try have c37b2 : (9223372036854775807 < ((x5_1 ++ x8_9) ++ (⟨#[32]⟩ : ByteArray)).size + 2) = False := eq_false (Nat.not_lt.2 c37)
              have H' := Aside0.mk H
              clear H
              have hcz38_0 : wc.cell? ⟨gb244, 0, none⟩ = some (.int .i64 ((rd_T28 l0 x7_1).f0)) := (blk_cell BK244.out 0).trans rfl
              have hcz38_1 : wc.cell? ⟨gb244, 1, none⟩ = some (.int .i64 0) := (blk_cell BK244.out 1).trans rfl
              have hcz38_2 : wc.cell? ⟨gb244, 2, none⟩ = some (.string x245002_9) := (blk_cell BK244.out 2).trans rfl
              have hcz38_3 : wc.cell? ⟨gb244, 3, none⟩ = some (.int .i64 x245003_9) := (blk_cell BK244.out 3).trans rfl
              have hfz38_0 := blk_frozen BK244.out 0
              have hfz38_1 := blk_frozen BK244.out 1
              have hfz38_2 := blk_frozen BK244.out 2
              have hfz38_3 := blk_frozen BK244.out 3
              go_wp2_with (first | ((with_reducible refine gate_builtin (b := .append) (xs := #[.tmp 100, .tmp 102]) rfl ?_); (try (refine gate_guard (by rfl) ?_; dsimp only)); at_builtin; refine Kd.R_append k28 (w0 := w) w.heap.size rfl (.tmp 100) (.tmp 102) 23 28 (.agg #[(.int .i64 0), (.int .i64 0), (.string ⟨#[]⟩), (.int .i64 0)]) 40 rfl Try.underlying23 info28 rfl (by decide) (by omega) u6 x6_1 (⟨((rd_T28 l0 x7_1).f0), (x5_1.size : Int), x245002_9, x245003_9⟩ : S28) [.int .i64 ((rd_T28 l0 x7_1).f0), .int .i64 (x5_1.size : Int), .string x245002_9, .int .i64 x245003_9] (fun k_ => k_ ≠ gb244) (fun _ => False) rfl (by first | (go_simp; done) | (go_simp; rfl)) ?aP (fun _ hk => hk.elim) ?aF ?aO ?aB ?aS ?aL ?_; (case aP => exact k28_mkM _ _ _ (⟨((rd_T28 l0 x7_1).f0), (x5_1.size : Int), x245002_9, x245003_9⟩ : S28)); (case aB => exact (by repeat (first | (with_reducible first | exact HB.out | apply below_alloc | apply pw_below_drewN | apply below_drew1 | refine below_set ?_ GE244.out) | exact HB.out))); (case aF => exact (fun k_ hk => Kd.freshB (g := gb244) (o := .cells #[.int .i64 ((rd_T28 l0 x7_1).f0), .int .i64 (x5_1.size : Int), .string x245002_9, .int .i64 x245003_9] 28 (0, 0)) (by (with_reducible repeat (first | refine blk_drewN ?_ _ | refine blk_drew ?_ | refine blk_alloc ?_ _)); refine blk_put (cs := #[.int .i64 ((rd_T28 l0 x7_1).f0), .int .i64 0, .string x245002_9, .int .i64 x245003_9]) ?_ 1 _ rfl; (with_reducible repeat (first | refine blk_drewN ?_ _ | refine blk_drew ?_ | refine blk_alloc ?_ _)); exact BK244.out) k_ hk)); (case aO => exact (by (with_reducible repeat (first | apply Kd.R_alloc | apply Kd.R_drewN | apply Kd.R_drew)); exact Kd.R_mono (Kd.R_far (p := ⟨gb244, 1, none⟩) (Kd.R_mono HO_6.out (fun k_ hk => (⟨hk, hk⟩ : _ ∧ k_ ≠ gb244))) (fun _ hk => hk.2) (.int .i64 (x5_1.size : Int))) (fun _ hk => hk.1))); (case aS => exact (below_size (by repeat (first | (with_reducible first | exact HB.out | apply below_alloc | apply pw_below_drewN | apply below_drew1 | refine below_set ?_ GE244.out) | exact HB.out)))); (case aL => have := LMc33.out; omega); intro v259 w39 ho hb hg hat; rw [← Ny258.out] at ho; have n0_ := Aside0.mk (blk_grown (g := gb244) (o := .cells #[.int .i64 ((rd_T28 l0 x7_1).f0), .int .i64 (x5_1.size : Int), .string x245002_9, .int .i64 x245003_9] 28 (0, 0)) (by (with_reducible repeat (first | refine blk_drewN ?_ _ | refine blk_drew ?_ | refine blk_alloc ?_ _)); refine blk_put (cs := #[.int .i64 ((rd_T28 l0 x7_1).f0), .int .i64 0, .string x245002_9, .int .i64 x245003_9]) ?_ 1 _ rfl; (with_reducible repeat (first | refine blk_drewN ?_ _ | refine blk_drew ?_ | refine blk_alloc ?_ _)); exact BK244.out) hg (Kd.R_away HO_6.out (fun _ hk => hk))); have n1_ := Aside0.mk (hb); have n2_ := Aside0.mk (ho); clear BK244; clear HB; clear HO_6; have BK244 := n0_; have HB := n1_; have HO260 := n2_; clear n0_ n1_ n2_; clear ho hb hg hat))
              go_roundg kj9
              case measure => have := HK1.out; have := HJ9.out; omega
              case rel => exact ⟨(((x5_1 ++ x8_9) ++ (⟨#[32]⟩ : ByteArray)) ++ (⟨#[9, 10]⟩ : ByteArray)), (y258), (wrap64 (x7_1 + 1)), (by first | rfl | (simp; done) | (simp [*]; done)), (by first | rfl | (simp; done) | (simp [*]; done)), H', ⟨by have := HK1.out; have := HJ9.out; omega⟩, ⟨by (with_reducible repeat (first | apply Kd.R_alloc | apply Kd.R_drewN | apply Kd.R_drew)); exact Kd.R_mono HO260.out (fun _ hk => trivial)⟩, ⟨by repeat (first | (with_reducible first | exact HB.out | apply below_alloc | apply pw_below_drewN | apply below_drew1 | refine below_set ?_ GE244.out) | exact HB.out)⟩⟩
             ·rw [if_neg c37] at H
              exact absurd H (by simp)
            ·replace c36 := Bool.eq_false_iff.mpr c36
             subst c36
             have H1 : (antipodelaw16_LexBack.l0 kj9 l0 false ((x5_1 ++ x8_9) ++ (⟨#[32]⟩ : ByteArray)) y258 (wrap64 (x7_1 + 1))) = some r := by rw [if_neg (show ¬ (false = true) by decide)] at H; exact H
             clear H
             have H := H1
             clear H1
             have H' := Aside0.mk H
             clear H
             have hcz40_0 : wc.cell? ⟨gb244, 0, none⟩ = some (.int .i64 ((rd_T28 l0 x7_1).f0)) := (blk_cell BK244.out 0).trans rfl
             have hcz40_1 : wc.cell? ⟨gb244, 1, none⟩ = some (.int .i64 0) := (blk_cell BK244.out 1).trans rfl
             have hcz40_2 : wc.cell? ⟨gb244, 2, none⟩ = some (.string x245002_9) := (blk_cell BK244.out 2).trans rfl
             have hcz40_3 : wc.cell? ⟨gb244, 3, none⟩ = some (.int .i64 x245003_9) := (blk_cell BK244.out 3).trans rfl
             have hfz40_0 := blk_frozen BK244.out 0
             have hfz40_1 := blk_frozen BK244.out 1
             have hfz40_2 := blk_frozen BK244.out 2
             have hfz40_3 := blk_frozen BK244.out 3
             go_wp2_with (first | ((with_reducible refine gate_builtin (b := .append) (xs := #[.tmp 100, .tmp 102]) rfl ?_); (try (refine gate_guard (by rfl) ?_; dsimp only)); at_builtin; refine Kd.R_append k28 (w0 := w) w.heap.size rfl (.tmp 100) (.tmp 102) 23 28 (.agg #[(.int .i64 0), (.int .i64 0), (.string ⟨#[]⟩), (.int .i64 0)]) 40 rfl Try.underlying23 info28 rfl (by decide) (by omega) u6 x6_1 (⟨((rd_T28 l0 x7_1).f0), (x5_1.size : Int), x245002_9, x245003_9⟩ : S28) [.int .i64 ((rd_T28 l0 x7_1).f0), .int .i64 (x5_1.size : Int), .string x245002_9, .int .i64 x245003_9] (fun k_ => k_ ≠ gb244) (fun _ => False) rfl (by first | (go_simp; done) | (go_simp; rfl)) ?aP (fun _ hk => hk.elim) ?aF ?aO ?aB ?aS ?aL ?_; (case aP => exact k28_mkM _ _ _ (⟨((rd_T28 l0 x7_1).f0), (x5_1.size : Int), x245002_9, x245003_9⟩ : S28)); (case aB => exact (by repeat (first | (with_reducible first | exact HB.out | apply below_alloc | apply pw_below_drewN | apply below_drew1 | refine below_set ?_ GE244.out) | exact HB.out))); (case aF => exact (fun k_ hk => Kd.freshB (g := gb244) (o := .cells #[.int .i64 ((rd_T28 l0 x7_1).f0), .int .i64 (x5_1.size : Int), .string x245002_9, .int .i64 x245003_9] 28 (0, 0)) (by (with_reducible repeat (first | refine blk_drewN ?_ _ | refine blk_drew ?_ | refine blk_alloc ?_ _)); refine blk_put (cs := #[.int .i64 ((rd_T28 l0 x7_1).f0), .int .i64 0, .string x245002_9, .int .i64 x245003_9]) ?_ 1 _ rfl; (with_reducible repeat (first | refine blk_drewN ?_ _ | refine blk_drew ?_ | refine blk_alloc ?_ _)); exact BK244.out) k_ hk)); (case aO => exact (by (with_reducible repeat (first | apply Kd.R_alloc | apply Kd.R_drewN | apply Kd.R_drew)); exact Kd.R_mono (Kd.R_far (p := ⟨gb244, 1, none⟩) (Kd.R_mono HO_6.out (fun k_ hk => (⟨hk, hk⟩ : _ ∧ k_ ≠ gb244))) (fun _ hk => hk.2) (.int .i64 (x5_1.size : Int))) (fun _ hk => hk.1))); (case aS => exact (below_size (by repeat (first | (with_reducible first | exact HB.out | apply below_alloc | apply pw_below_drewN | apply below_drew1 | refine below_set ?_ GE244.out) | exact HB.out)))); (case aL => have := LMc33.out; omega); intro v259 w41 ho hb hg hat; rw [← Ny258.out] at ho; have n0_ := Aside0.mk (blk_grown (g := gb244) (o := .cells #[.int .i64 ((rd_T28 l0 x7_1).f0), .int .i64 (x5_1.size : Int), .string x245002_9, .int .i64 x245003_9] 28 (0, 0)) (by (with_reducible repeat (first | refine blk_drewN ?_ _ | refine blk_drew ?_ | refine blk_alloc ?_ _)); refine blk_put (cs := #[.int .i64 ((rd_T28 l0 x7_1).f0), .int .i64 0, .string x245002_9, .int .i64 x245003_9]) ?_ 1 _ rfl; (with_reducible repeat (first | refine blk_drewN ?_ _ | refine blk_drew ?_ | refine blk_alloc ?_ _)); exact BK244.out) hg (Kd.R_away HO_6.out (fun _ hk => hk))); have n1_ := Aside0.mk (hb); have n2_ := Aside0.mk (ho); clear BK244; clear HB; clear HO_6; have BK244 := n0_; have HB := n1_; have HO260 := n2_; clear n0_ n1_ n2_; clear ho hb hg hat))
             go_roundg kj9
             case measure => have := HK1.out; have := HJ9.out; omega
             case rel => exact ⟨((x5_1 ++ x8_9) ++ (⟨#[32]⟩ : ByteArray)), (y258), (wrap64 (x7_1 + 1)), (by first | rfl | (simp; done) | (simp [*]; done)), (by first | rfl | (simp; done) | (simp [*]; done)), H', ⟨by have := HK1.out; have := HJ9.out; omega⟩, ⟨by (with_reducible repeat (first | apply Kd.R_alloc | apply Kd.R_drewN | apply Kd.R_drew)); exact Kd.R_mono HO260.out (fun _ hk => trivial)⟩, ⟨by repeat (first | (with_reducible first | exact HB.out | apply below_alloc | apply pw_below_drewN | apply below_drew1 | refine below_set ?_ GE244.out) | exact HB.out)⟩⟩
           ·rw [if_neg c35] at H
            exact absurd H (by simp)
          ·rw [if_neg c34] at H
           exact absurd H (by simp)
         ·rw [if_neg c33] at H
          exact absurd H (by simp)
      ·rw [if_neg c9] at H
       exact absurd H (by simp)
     ·rw [if_neg c8] at H
      have c8b0 : decide (x7_1 < (l0.length : Int)) = false := decide_eq_false c8
      clear c8
      replace H := Option.bind_eq_some_iff.mp H
      obtain ⟨⟨t261, t262⟩, A420, H⟩ := H
      replace H : (if (x5_1.size : Int) > 2000 then (some (t262 == 3)) else (if t262 = 0 then (if (t261.length : Int) = (wrap64 ((x6_1.length : Int) + 1)) then (if 0 ≤ (x6_1.length : Int) then (if (x6_1.length : Int) < (t261.length : Int) then (antipodelaw16_LexBack.j2 k1 x6_1 t261 (!(((rd_T28 t261 (x6_1.length : Int)).f0) == 0) || (!(((rd_T28 t261 (x6_1.length : Int)).f1) == (x5_1.size : Int)) || (!((((rd_T28 t261 (x6_1.length : Int)).f2).toList) == ([] : List UInt8)) || (!(((rd_T28 t261 (x6_1.length : Int)).f3) == 0)))))) else (none)) else (none)) else (antipodelaw16_LexBack.j2 k1 x6_1 t261 true)) else (antipodelaw16_LexBack.j2 k1 x6_1 t261 true))) = some r := H
      have A42 := Aside0.mk A420
      clear A420
      by_cases c43 : (x5_1.size : Int) > 2000
      ·rw [if_pos c43] at H
       have c43b0 : decide (2000 < (x5_1.size : Int)) = true := decide_eq_true c43
       have c43b1 : decide (2000 < x5_1.size) = true := decide_eq_true (by omega)
       clear c43
       obtain rfl := Option.some.inj H
       go_wp2_with (first | ((with_reducible refine gate_callee (f := 8) rfl ?_); refine goesL_ (some 113) rfl rfl Try.func8 (by kernel_rfl) rfl #[.string x5_1] rfl (by (try simp only [List.map_toArray, List.map_cons, List.map_nil]); first | done | rfl | (simp only [List.length_drop, List.length_take]; rfl)) ?_; (with_reducible refine (lex_Lex.calls k1 x5_1 t261 t262 _ A42.out).mono ?_); rintro e w44 ⟨v263, rfl, ho0, hb⟩; refine ⟨_, rfl, ?_⟩; have n0_ := Aside0.mk (Kd.R_elder' (by (with_reducible repeat (first | apply Kd.R_alloc | apply Kd.R_drewN | apply Kd.R_drew)); exact HO_6.out) (Kd.R_base ho0) hb); have n1_ := Aside0.mk (Kd.R_lower (Kd.R_new' ho0 (Kd.R_lt (by (with_reducible repeat (first | apply Kd.R_alloc | apply Kd.R_drewN | apply Kd.R_drew)); exact HO_6.out))) (below_size (by repeat (first | (with_reducible first | exact HB.out | apply below_alloc | apply pw_below_drewN | apply below_drew1) | exact HB.out)))); have n2_ := Aside0.mk (below_step (by repeat (first | (with_reducible first | exact HB.out | apply below_alloc | apply pw_below_drewN | apply below_drew1) | exact HB.out)) hb); clear HO_6; clear HB; have HO_6 := n0_; have HO264 := n1_; have HB := n2_; clear n0_ n1_ n2_; (try clear hb); (try clear hb2); (try clear hk); (try clear hi); (try clear ho0)))
       go_ret
       exact ⟨by first | rfl | (simp [errW_none, errW_some] <;> rfl) | (simp [*, errW_none, errW_some] <;> rfl), by repeat (first | (with_reducible first | exact HB.out | apply below_alloc | apply pw_below_drewN | apply below_drew1) | exact HB.out)⟩
      ·rw [if_neg c43] at H
       have c43b0 : decide (2000 < (x5_1.size : Int)) = false := decide_eq_false c43
       have c43b1 : decide (2000 < x5_1.size) = false := decide_eq_false (by omega)
       clear c43
       have HC45 := Aside0.mk H
       clear H
       go_upto_region 34 with (first | ((with_reducible refine gate_callee (f := 8) rfl ?_); refine goesL_ (some 113) rfl rfl Try.func8 (by kernel_rfl) rfl #[.string x5_1] rfl (by (try simp only [List.map_toArray, List.map_cons, List.map_nil]); first | done | rfl | (simp only [List.length_drop, List.length_take]; rfl)) ?_; (with_reducible refine (lex_Lex.calls k1 x5_1 t261 t262 _ A42.out).mono ?_); rintro e w46 ⟨v263, rfl, ho0, hb⟩; refine ⟨_, rfl, ?_⟩; have n0_ := Aside0.mk (Kd.R_elder' (by (with_reducible repeat (first | apply Kd.R_alloc | apply Kd.R_drewN | apply Kd.R_drew)); exact HO_6.out) (Kd.R_base ho0) hb); have n1_ := Aside0.mk (Kd.R_lower (Kd.R_new' ho0 (Kd.R_lt (by (with_reducible repeat (first | apply Kd.R_alloc | apply Kd.R_drewN | apply Kd.R_drew)); exact HO_6.out))) (below_size (by repeat (first | (with_reducible first | exact HB.out | apply below_alloc | apply pw_below_drewN | apply below_drew1) | exact HB.out)))); have n2_ := Aside0.mk (below_step (by repeat (first | (with_reducible first | exact HB.out | apply below_alloc | apply pw_below_drewN | apply below_drew1) | exact HB.out)) hb); clear HO_6; clear HB; have HO_6 := n0_; have HO264 := n1_; have HB := n2_; clear n0_ n1_ n2_; (try clear hb); (try clear hb2); (try clear hk); (try clear hi); (try clear ho0)))
       (try simp only [Act.put, List.setIfInBounds_toArray, List.set_cons_zero, List.set_cons_succ])
       go_cut [141] (fun v141 wc => ∃ (kq : Nat) (x141_44 : Bool), v141 = .bool x141_44 ∧ Aside0 (antipodelaw16_LexBack.j2 kq x6_1 t261 x141_44 = some r) ∧ Aside0 (kq ≤ k1) ∧ Aside0 (Kd.R k28 28 wc w.heap.size (fun k_ => some k_ ≠ (v263 : Value).ownBlock) u6 x6_1) ∧ Aside0 (Kd.R k28 28 wc w.heap.size (fun k_ => some k_ ≠ (u6 : Value).ownBlock) v263 t261) ∧ Aside0 (Below w.heap.size w wc))
       case first =>
        have H := HC45.out
        clear HC45
        by_cases c47 : t262 = 0
        ·rw [if_pos c47] at H
         have c47b0 : (t262 == 0) = true := beq_iff_eq.mpr c47
         have c47b1 : (t262 != 0) = false := bne_eq_false_iff_eq.mpr c47
         clear c47
         (first | rw [c47b0] | (simp only [i64_w, i32_w]; rw [c47b0]) | skip)
         by_cases c48 : (t261.length : Int) = (wrap64 ((x6_1.length : Int) + 1))
         ·rw [if_pos c48] at H
          have c48b0 : ((t261.length : Int) == (wrap64 ((x6_1.length : Int) + 1))) = true := beq_iff_eq.mpr c48
          have c48b1 : ((t261.length : Int) != (wrap64 ((x6_1.length : Int) + 1))) = false := bne_eq_false_iff_eq.mpr c48
          clear c48
          by_cases c49 : 0 ≤ (x6_1.length : Int)
          ·rw [if_pos c49] at H
           have c49b0 : decide (0 ≤ (x6_1.length : Int)) = true := decide_eq_true c49
           have c49b1 : decide (0 ≤ x6_1.length) = true := decide_eq_true (by omega)
           clear c49
           by_cases c50 : (x6_1.length : Int) < (t261.length : Int)
           ·rw [if_pos c50] at H
            have c50b0 : decide ((x6_1.length : Int) < (t261.length : Int)) = true := decide_eq_true c50
            have c50b1 : decide (x6_1.length < t261.length) = true := decide_eq_true (Int.ofNat_lt.mp c50)
            clear c50
            have H' := Aside0.mk H
            clear H
            obtain ⟨Ao51, co51, eo51⟩ := Kd.R_slice HO264.out
            subst eo51
            obtain ⟨Ao52, co52, eo52⟩ := Kd.R_slice HO_6.out
            subst eo52
            have p265 : 0 ≤ ((x6_1.length : Int) : Int) := of_decide_eq_true (by assumption)
            have q265 : (x6_1.length : Int) < (t261.length : Int) := of_decide_eq_true (by assumption)
            obtain ⟨ad265, e265, hx265_0, hx265_1, hx265_2, hx265_3⟩ := at_T28 (Kd.R_reads' HO264.out).2.2 (x6_1.length : Int) p265 q265
            cases e265
            (try simp only [Go.IntWalk.toNatUp] at hx265_0)
            (try simp only [Go.IntWalk.toNatUp] at hx265_1)
            (try simp only [Go.IntWalk.toNatUp] at hx265_2)
            (try simp only [Go.IntWalk.toNatUp] at hx265_3)
            replace p265 := eq_true p265
            replace q265 := eq_true q265
            go_wp2
            go_meet
            case rel => exact ⟨_, ((!(((rd_T28 t261 (x6_1.length : Int)).f0) == 0) || (!(((rd_T28 t261 (x6_1.length : Int)).f1) == (x5_1.size : Int)) || (!((((rd_T28 t261 (x6_1.length : Int)).f2).toList) == ([] : List UInt8)) || (!(((rd_T28 t261 (x6_1.length : Int)).f3) == 0)))))), (by first | rfl | (simp; done) | (simp [*]; done)), H', ⟨by have := HK1.out; first | omega | exact Nat.le_refl _⟩, ⟨by (with_reducible repeat (first | apply Kd.R_alloc | apply Kd.R_drewN | apply Kd.R_drew)); exact Kd.R_mono HO_6.out (fun _ hk => hk.2)⟩, ⟨by (with_reducible repeat (first | apply Kd.R_alloc | apply Kd.R_drewN | apply Kd.R_drew)); exact Kd.R_mono HO264.out (fun _ hk => hk.2)⟩, ⟨by repeat (first | (with_reducible first | exact HB.out | apply below_alloc | apply pw_below_drewN | apply below_drew1) | exact HB.out)⟩⟩
           ·rw [if_neg c50] at H
            exact absurd H (by simp)
          ·rw [if_neg c49] at H
           exact absurd H (by simp)
         ·rw [if_neg c48] at H
          have c48b0 : ((t261.length : Int) == (wrap64 ((x6_1.length : Int) + 1))) = false := beq_eq_false_iff_ne.mpr c48
          have c48b1 : ((t261.length : Int) != (wrap64 ((x6_1.length : Int) + 1))) = true := bne_iff_ne.mpr c48
          have H' := Aside0.mk H
          clear H
          obtain ⟨Ao53, co53, eo53⟩ := Kd.R_slice HO264.out
          subst eo53
          obtain ⟨Ao54, co54, eo54⟩ := Kd.R_slice HO_6.out
          subst eo54
          go_wp2
          go_meet
          case rel => exact ⟨_, (true), (by first | rfl | (simp; done) | (simp [*]; done)), H', ⟨by have := HK1.out; first | omega | exact Nat.le_refl _⟩, ⟨by (with_reducible repeat (first | apply Kd.R_alloc | apply Kd.R_drewN | apply Kd.R_drew)); exact Kd.R_mono HO_6.out (fun _ hk => hk.2)⟩, ⟨by (with_reducible repeat (first | apply Kd.R_alloc | apply Kd.R_drewN | apply Kd.R_drew)); exact Kd.R_mono HO264.out (fun _ hk => hk.2)⟩, ⟨by repeat (first | (with_reducible first | exact HB.out | apply below_alloc | apply pw_below_drewN | apply below_drew1) | exact HB.out)⟩⟩
        ·rw [if_neg c47] at H
         have c47b0 : (t262 == 0) = false := beq_eq_false_iff_ne.mpr c47
         have c47b1 : (t262 != 0) = true := bne_iff_ne.mpr c47
         (first | rw [c47b0] | (simp only [i64_w, i32_w]; rw [c47b0]) | skip)
         have H' := Aside0.mk H
         clear H
         go_wp2
         go_meet
         case rel => exact ⟨_, (true), (by first | rfl | (simp; done) | (simp [*]; done)), H', ⟨by have := HK1.out; first | omega | exact Nat.le_refl _⟩, ⟨by (with_reducible repeat (first | apply Kd.R_alloc | apply Kd.R_drewN | apply Kd.R_drew)); exact Kd.R_mono HO_6.out (fun _ hk => hk.2)⟩, ⟨by (with_reducible repeat (first | apply Kd.R_alloc | apply Kd.R_drewN | apply Kd.R_drew)); exact Kd.R_mono HO264.out (fun _ hk => hk.2)⟩, ⟨by repeat (first | (with_reducible first | exact HB.out | apply below_alloc | apply pw_below_drewN | apply below_drew1) | exact HB.out)⟩⟩
       case rest =>
        clear HC45
        try clear c1
        try clear c2
        try clear p2
        try clear q2
        try clear hx2
        try clear c3
        try clear c4
        try clear c5
        try clear p6
        try clear c8
        try clear c8b0
        try clear c9
        try clear c10
        try clear c12
        try clear c13
        try clear c13b0
        try clear c13b1
        try clear c20
        try clear c20b0
        try clear c20b1
        try clear c21
        try clear c21b0
        try clear p24
        try clear q24
        try clear hx24
        try clear p25
        try clear q25
        try clear hx25
        try clear c26
        try clear c26b0
        try clear c26b1
        try clear p26
        try clear q26
        try clear hx26
        try clear c27
        try clear c27b0
        try clear c27b1
        try clear c33
        try clear c34
        try clear c34b0
        try clear c34b1
        try clear c34b2
        try clear c35
        try clear c35b0
        try clear c35b1
        try clear c35b2
        try clear c36
        try clear c37
        try clear c37b0
        try clear c37b1
        try clear c37b2
        try clear c43
        try clear c43b0
        try clear c43b1
        try clear c47
        try clear c47b0
        try clear c47b1
        try clear c48
        try clear c48b0
        try clear c48b1
        try clear c49
        try clear c49b0
        try clear c49b1
        try clear c50
        try clear c50b0
        try clear c50b1
        try clear hcz38_0
        try clear hcz38_1
        try clear hcz38_2
        try clear hcz38_3
        try clear hcz40_0
        try clear hcz40_1
        try clear hcz40_2
        try clear hcz40_3
        try clear hfz38_0
        try clear hfz38_1
        try clear hfz38_2
        try clear hfz38_3
        try clear hfz40_0
        try clear hfz40_1
        try clear hfz40_2
        try clear hfz40_3
        try clear hx246_0
        try clear hx246_1
        try clear hx246_2
        try clear hx246_3
        try clear hx250_0
        try clear hx250_1
        try clear hx250_2
        try clear hx250_3
        try clear hx251_0
        try clear hx251_1
        try clear hx251_2
        try clear hx251_3
        try clear hx253_0
        try clear hx253_1
        try clear hx253_2
        try clear hx253_3
        try clear hx254_0
        try clear hx254_1
        try clear hx254_2
        try clear hx254_3
        try clear hx255_0
        try clear hx255_1
        try clear hx255_2
        try clear hx255_3
        try clear hx257_0
        try clear hx257_1
        try clear hx257_2
        try clear hx257_3
        try clear hx265_0
        try clear hx265_1
        try clear hx265_2
        try clear hx265_3
        try clear p2
        try clear p24
        try clear p246
        try clear p25
        try clear p250
        try clear p251
        try clear p253
        try clear p254
        try clear p255
        try clear p257
        try clear p265
        try clear q2
        try clear q24
        try clear q246
        try clear q25
        try clear q250
        try clear q251
        try clear q253
        try clear q254
        try clear q255
        try clear q257
        try clear q265
        obtain ⟨kq, x141_44, rfl, HA, HJ44, HO_6, HO_10, HB⟩ := hcut
        cases kq with
        | zero => exact absurd HA.out (by simp [antipodelaw16_LexBack.j2])
        | succ kj44 =>
         have H := HA.out
         clear HA
         simp only [antipodelaw16_LexBack.j2] at H
         by_cases c55 : x141_44 = true
         ·subst c55
          have H1 : (some false) = some r := by rw [if_pos rfl] at H; exact H
          clear H
          have H := H1
          clear H1
          obtain rfl := Option.some.inj H
          go_wp2
          go_ret
          exact ⟨by first | rfl | (simp [errW_none, errW_some] <;> rfl) | (simp [*, errW_none, errW_some] <;> rfl), by repeat (first | (with_reducible first | exact HB.out | apply below_alloc | apply pw_below_drewN | apply below_drew1) | exact HB.out)⟩
         ·replace c55 := Bool.eq_false_iff.mpr c55
          subst c55
          have H1 : (antipodelaw16_LexBack.l1 kj44 x6_1 t261 0) = some r := by rw [if_neg (show ¬ (false = true) by decide)] at H; exact H
          clear H
          have H := H1
          clear H1
          have H' := Aside0.mk H
          clear H
          go_wp2
          go_loopg [12] kj44 (fun kq v12 w' => ∃ (x12_3 : Int), v12 = .int .i64 x12_3 ∧ Aside0 (antipodelaw16_LexBack.l1 kq x6_1 t261 x12_3 = some r) ∧ Aside0 (kq ≤ kj44) ∧ Aside0 (Kd.R k28 28 w' w.heap.size (fun k_ => some k_ ≠ (v263 : Value).ownBlock) u6 x6_1) ∧ Aside0 (Kd.R k28 28 w' w.heap.size (fun k_ => some k_ ≠ (u6 : Value).ownBlock) v263 t261) ∧ Aside0 (Below w.heap.size w w'))
          case atStart => exact ⟨(0), (by first | rfl | (simp; done) | (simp [*]; done)), H', ⟨Nat.le_refl _⟩, ⟨by (with_reducible repeat (first | apply Kd.R_alloc | apply Kd.R_drewN | apply Kd.R_drew)); exact HO_6.out⟩, ⟨by (with_reducible repeat (first | apply Kd.R_alloc | apply Kd.R_drewN | apply Kd.R_drew)); exact HO_10.out⟩, ⟨by repeat (first | (with_reducible first | exact HB.out | apply below_alloc | apply pw_below_drewN | apply below_drew1) | exact HB.out)⟩⟩
          case round =>
           clear H'
           try clear c1
           try clear c2
           try clear p2
           try clear q2
           try clear hx2
           try clear c3
           try clear c4
           try clear c5
           try clear p6
           try clear c8
           try clear c8b0
           try clear c9
           try clear c10
           try clear c12
           try clear c13
           try clear c13b0
           try clear c13b1
           try clear c20
           try clear c20b0
           try clear c20b1
           try clear c21
           try clear c21b0
           try clear p24
           try clear q24
           try clear hx24
           try clear p25
           try clear q25
           try clear hx25
           try clear c26
           try clear c26b0
           try clear c26b1
           try clear p26
           try clear q26
           try clear hx26
           try clear c27
           try clear c27b0
           try clear c27b1
           try clear c33
           try clear c34
           try clear c34b0
           try clear c34b1
           try clear c34b2
           try clear c35
           try clear c35b0
           try clear c35b1
           try clear c35b2
           try clear c36
           try clear c37
           try clear c37b0
           try clear c37b1
           try clear c37b2
           try clear c43
           try clear c43b0
           try clear c43b1
           try clear c47
           try clear c47b0
           try clear c47b1
           try clear c48
           try clear c48b0
           try clear c48b1
           try clear c49
           try clear c49b0
           try clear c49b1
           try clear c50
           try clear c50b0
           try clear c50b1
           try clear c55
           try clear hcz38_0
           try clear hcz38_1
           try clear hcz38_2
           try clear hcz38_3
           try clear hcz40_0
           try clear hcz40_1
           try clear hcz40_2
           try clear hcz40_3
           try clear hfz38_0
           try clear hfz38_1
           try clear hfz38_2
           try clear hfz38_3
           try clear hfz40_0
           try clear hfz40_1
           try clear hfz40_2
           try clear hfz40_3
           try clear hx246_0
           try clear hx246_1
           try clear hx246_2
           try clear hx246_3
           try clear hx250_0
           try clear hx250_1
           try clear hx250_2
           try clear hx250_3
           try clear hx251_0
           try clear hx251_1
           try clear hx251_2
           try clear hx251_3
           try clear hx253_0
           try clear hx253_1
           try clear hx253_2
           try clear hx253_3
           try clear hx254_0
           try clear hx254_1
           try clear hx254_2
           try clear hx254_3
           try clear hx255_0
           try clear hx255_1
           try clear hx255_2
           try clear hx255_3
           try clear hx257_0
           try clear hx257_1
           try clear hx257_2
           try clear hx257_3
           try clear hx265_0
           try clear hx265_1
           try clear hx265_2
           try clear hx265_3
           try clear p2
           try clear p24
           try clear p246
           try clear p25
           try clear p250
           try clear p251
           try clear p253
           try clear p254
           try clear p255
           try clear p257
           try clear p26
           try clear p265
           try clear p6
           try clear q2
           try clear q24
           try clear q246
           try clear q25
           try clear q250
           try clear q251
           try clear q253
           try clear q254
           try clear q255
           try clear q257
           try clear q26
           try clear q265
           obtain ⟨x12_3, rfl, HA, HK3, HO_6, HO_10, HB⟩ := hrel
           cases gk with
           | zero => exact absurd HA.out (by simp [antipodelaw16_LexBack.l1])
           | succ k3 =>
            have H := HA.out
            clear HA
            simp only [antipodelaw16_LexBack.l1] at H
            by_cases c56 : x12_3 < (x6_1.length : Int)
            ·rw [if_pos c56] at H
             have c56b0 : decide (x12_3 < (x6_1.length : Int)) = true := decide_eq_true c56
             clear c56
             by_cases c57 : 0 ≤ x12_3
             ·rw [if_pos c57] at H
              have c57b0 : decide (0 ≤ x12_3) = true := decide_eq_true c57
              clear c57
              by_cases c58 : x12_3 < (t261.length : Int)
              ·rw [if_pos c58] at H
               have c58b0 : decide (x12_3 < (t261.length : Int)) = true := decide_eq_true c58
               clear c58
               by_cases c59 : (!(((rd_T28 t261 x12_3).f0) == ((rd_T28 x6_1 x12_3).f0)) || (!(((rd_T28 t261 x12_3).f1) == ((rd_T28 x6_1 x12_3).f1)) || (!((((rd_T28 t261 x12_3).f2).toList) == (((rd_T28 x6_1 x12_3).f2).toList)) || (!(((rd_T28 t261 x12_3).f3) == ((rd_T28 x6_1 x12_3).f3)))))) = true
               ·rw [if_pos c59] at H
                have c59b0 : (!(((rd_T28 t261 x12_3).f0) == ((rd_T28 x6_1 x12_3).f0)) || (!(((rd_T28 t261 x12_3).f1) == ((rd_T28 x6_1 x12_3).f1)) || (!((((rd_T28 t261 x12_3).f2).toList) == (((rd_T28 x6_1 x12_3).f2).toList)) || (!(((rd_T28 t261 x12_3).f3) == ((rd_T28 x6_1 x12_3).f3)))))) = true := c59
                clear c59
                obtain rfl := Option.some.inj H
                obtain ⟨Ao60, co60, eo60⟩ := Kd.R_slice HO_6.out
                subst eo60
                try go_wp2
                have n0_ := Aside0.mk (Kd.R_drew HO_6.out)
                have n1_ := Aside0.mk (Kd.R_drew HO_10.out)
                have n2_ := Aside0.mk (below_drew1 HB.out)
                clear HO_6
                clear HO_10
                clear HB
                have HO_6 := n0_
                have HO_10 := n1_
                have HB := n2_
                clear n0_ n1_ n2_
                obtain ⟨Ao62, co62, eo62⟩ := Kd.R_slice HO_10.out
                (first | subst eo62 | (injection eo62 with f1_ f2_ f3_; have f4_ := f1_.symm; have f5_ := f3_.symm; clear f1_ f2_ f3_; subst f4_; subst f5_))
                have p266 : 0 ≤ (x12_3 : Int) := of_decide_eq_true (by assumption)
                have q266 : x12_3 < (t261.length : Int) := of_decide_eq_true (by assumption)
                obtain ⟨ad266, e266, hx266_0, hx266_1, hx266_2, hx266_3⟩ := at_T28 (Kd.R_reads' HO_10.out).2.2 x12_3 p266 q266
                cases e266
                replace p266 := eq_true p266
                replace q266 := eq_true q266
                have p267 : 0 ≤ (x12_3 : Int) := of_decide_eq_true (by assumption)
                have q267 : x12_3 < (x6_1.length : Int) := of_decide_eq_true (by assumption)
                obtain ⟨ad267, e267, hx267_0, hx267_1, hx267_2, hx267_3⟩ := at_T28 (Kd.R_reads' HO_6.out).2.2 x12_3 p267 q267
                cases e267
                replace p267 := eq_true p267
                replace q267 := eq_true q267
                refine start_ (n := 9) (S := fun w' => w'.cell? (ad266.add ((x12_3).toNat * 4)) = some (.int .i64 ((rd_T28 t261 x12_3).f0)) ∧ w'.cell? ⟨(ad266.add ((x12_3).toNat * 4)).block, (ad266.add ((x12_3).toNat * 4)).off + 1, none⟩ = some (.int .i64 ((rd_T28 t261 x12_3).f1)) ∧ w'.cell? ⟨(ad266.add ((x12_3).toNat * 4)).block, (ad266.add ((x12_3).toNat * 4)).off + 2, none⟩ = some (.string ((rd_T28 t261 x12_3).f2)) ∧ w'.cell? ⟨(ad266.add ((x12_3).toNat * 4)).block, (ad266.add ((x12_3).toNat * 4)).off + 3, none⟩ = some (.int .i64 ((rd_T28 t261 x12_3).f3)) ∧ w'.cell? (ad267.add ((x12_3).toNat * 4)) = some (.int .i64 ((rd_T28 x6_1 x12_3).f0)) ∧ w'.cell? ⟨(ad267.add ((x12_3).toNat * 4)).block, (ad267.add ((x12_3).toNat * 4)).off + 1, none⟩ = some (.int .i64 ((rd_T28 x6_1 x12_3).f1)) ∧ w'.cell? ⟨(ad267.add ((x12_3).toNat * 4)).block, (ad267.add ((x12_3).toNat * 4)).off + 2, none⟩ = some (.string ((rd_T28 x6_1 x12_3).f2)) ∧ w'.cell? ⟨(ad267.add ((x12_3).toNat * 4)).block, (ad267.add ((x12_3).toNat * 4)).off + 3, none⟩ = some (.int .i64 ((rd_T28 x6_1 x12_3).f3))) (ds := []) #[false, false, false, false, false, false, false, false, false] (by kernel_rfl) rfl rfl ⟨hx266_0, hx266_1, hx266_2, hx266_3, hx267_0, hx267_1, hx267_2, hx267_3⟩ (fun hHeld => ?_); refine with_tabW antipodelaw16_LexBack.tab39 antipodelaw16_LexBack.bits39 (fun HT_ HW_ => ?_)
                generalize wr.drew = w61 at HO_6 HO_10 HB hx266_0 hx266_1 hx266_2 hx266_3 hx267_0 hx267_1 hx267_2 hx267_3 hHeld ⊢
                refine pure_ (i := 0) (N := some 148) (v := ?_) (a' := ?_) #[true, false, false, false, false, false, false, false, false] rfl rfl (any_of HT_.out (by kernel_rfl)) (fun _ _ _ h => h) (Or.inl ⟨by rfl, ?_⟩) ?_ ?_
                rotate_left
                ·intro w'
                 go_simp
                 with_reducible rfl
                rotate_left
                ·simp only [Act.put, List.setIfInBounds_toArray, List.set_cons_zero, List.set_cons_succ, i64_w, i32_w]
                 rfl
                refine pure_ (i := 1) (N := some 149) (v := ?_) (a' := ?_) #[true, true, false, false, false, false, false, false, false] rfl rfl (any_of HT_.out (by kernel_rfl)) (fun _ _ _ h => h) (Or.inl ⟨by rfl, ?_⟩) ?_ ?_
                rotate_left
                ·intro w'
                 go_simp
                 with_reducible rfl
                rotate_left
                ·simp only [Act.put, List.setIfInBounds_toArray, List.set_cons_zero, List.set_cons_succ, i64_w, i32_w]
                 rfl
                refine pure_ (i := 2) (N := some 150) (v := ?_) (a' := ?_) #[true, true, true, false, false, false, false, false, false] rfl rfl (any_of HT_.out (by kernel_rfl)) (fun _ _ _ h => h) (Or.inl ⟨by rfl, ?_⟩) ?_ ?_
                rotate_left
                ·intro w'
                 go_simp
                 with_reducible rfl
                rotate_left
                ·simp only [Act.put, List.setIfInBounds_toArray, List.set_cons_zero, List.set_cons_succ, i64_w, i32_w]
                 rfl
                refine pure_ (i := 4) (N := some 152) (v := ?_) (a' := ?_) #[true, true, true, false, true, false, false, false, false] rfl rfl (any_of HT_.out (by kernel_rfl)) (fun _ _ _ h => h) (Or.inl ⟨by rfl, ?_⟩) ?_ ?_
                rotate_left
                ·intro w'
                 go_simp
                 with_reducible rfl
                rotate_left
                ·simp only [Act.put, List.setIfInBounds_toArray, List.set_cons_zero, List.set_cons_succ, i64_w, i32_w]
                 rfl
                refine pure_ (i := 5) (N := some 153) (v := ?_) (a' := ?_) #[true, true, true, false, true, true, false, false, false] rfl rfl (any_of HT_.out (by kernel_rfl)) (fun _ _ _ h => h) (Or.inl ⟨by rfl, ?_⟩) ?_ ?_
                rotate_left
                ·intro w'
                 go_simp
                 with_reducible rfl
                rotate_left
                ·simp only [Act.put, List.setIfInBounds_toArray, List.set_cons_zero, List.set_cons_succ, i64_w, i32_w]
                 rfl
                refine pure_ (i := 6) (N := some 154) (v := ?_) (a' := ?_) #[true, true, true, false, true, true, true, false, false] rfl rfl (any_of HT_.out (by kernel_rfl)) (fun _ _ _ h => h) (Or.inl ⟨by rfl, ?_⟩) ?_ ?_
                rotate_left
                ·intro w'
                 go_simp
                 with_reducible rfl
                rotate_left
                ·simp only [Act.put, List.setIfInBounds_toArray, List.set_cons_zero, List.set_cons_succ, i64_w, i32_w]
                 rfl
                refine take_ (i := 3) (N := some 151) (v := ?_) (a' := ?_) #[true, true, true, true, true, true, true, false, false] rfl rfl (take_ofW HT_.out HW_.out (by kernel_rfl)) (fun _ _ _ h => h) (Or.inl ⟨by rfl, ?_⟩) hHeld ?_ ?_
                rotate_left
                ·rintro w' ⟨s0, s1, s2, s3, s4, s5, s6, s7⟩
                 go_simp
                 with_reducible rfl
                rotate_left
                ·simp only [Act.put, List.setIfInBounds_toArray, List.set_cons_zero, List.set_cons_succ, i64_w, i32_w]
                 rfl
                refine take_ (i := 7) (N := some 155) (v := ?_) (a' := ?_) #[true, true, true, true, true, true, true, true, false] rfl rfl (take_ofW HT_.out HW_.out (by kernel_rfl)) (fun _ _ _ h => h) (Or.inl ⟨by rfl, ?_⟩) hHeld ?_ ?_
                rotate_left
                ·rintro w' ⟨s0, s1, s2, s3, s4, s5, s6, s7⟩
                 go_simp
                 with_reducible rfl
                rotate_left
                ·simp only [Act.put, List.setIfInBounds_toArray, List.set_cons_zero, List.set_cons_succ, i64_w, i32_w]
                 rfl
                refine pure_ (i := 8) (N := some 156) (v := ?_) (a' := ?_) #[true, true, true, true, true, true, true, true, true] rfl rfl (any_of HT_.out (by kernel_rfl)) (fun _ _ _ h => h) (Or.inl ⟨by rfl, ?_⟩) ?_ ?_
                rotate_left
                ·intro w'
                 go_simp
                 with_reducible rfl
                rotate_left
                ·simp only [Act.put, List.setIfInBounds_toArray, List.set_cons_zero, List.set_cons_succ, i64_w, i32_w]
                 rfl
                refine done_ (done_of HT_.out (by kernel_rfl)) ?_
                try go_wp2
                go_ret
                exact ⟨by first | rfl | (simp [errW_none, errW_some] <;> rfl) | (simp [*, errW_none, errW_some] <;> rfl), by repeat (first | (with_reducible first | exact HB.out | apply below_alloc | apply pw_below_drewN | apply below_drew1) | exact HB.out)⟩
               ·rw [if_neg c59] at H
                have c59b0 : (!(((rd_T28 t261 x12_3).f0) == ((rd_T28 x6_1 x12_3).f0)) || (!(((rd_T28 t261 x12_3).f1) == ((rd_T28 x6_1 x12_3).f1)) || (!((((rd_T28 t261 x12_3).f2).toList) == (((rd_T28 x6_1 x12_3).f2).toList)) || (!(((rd_T28 t261 x12_3).f3) == ((rd_T28 x6_1 x12_3).f3)))))) = false := by simpa using c59
                clear c59
                have H' := Aside0.mk H
                clear H
                obtain ⟨Ao63, co63, eo63⟩ := Kd.R_slice HO_6.out
                subst eo63
                try go_wp2
                have n0_ := Aside0.mk (Kd.R_drew HO_6.out)
                have n1_ := Aside0.mk (Kd.R_drew HO_10.out)
                have n2_ := Aside0.mk (below_drew1 HB.out)
                clear HO_6
                clear HO_10
                clear HB
                have HO_6 := n0_
                have HO_10 := n1_
                have HB := n2_
                clear n0_ n1_ n2_
                obtain ⟨Ao65, co65, eo65⟩ := Kd.R_slice HO_10.out
                (first | subst eo65 | (injection eo65 with f1_ f2_ f3_; have f4_ := f1_.symm; have f5_ := f3_.symm; clear f1_ f2_ f3_; subst f4_; subst f5_))
                have p266 : 0 ≤ (x12_3 : Int) := of_decide_eq_true (by assumption)
                have q266 : x12_3 < (t261.length : Int) := of_decide_eq_true (by assumption)
                obtain ⟨ad266, e266, hx266_0, hx266_1, hx266_2, hx266_3⟩ := at_T28 (Kd.R_reads' HO_10.out).2.2 x12_3 p266 q266
                cases e266
                replace p266 := eq_true p266
                replace q266 := eq_true q266
                have p267 : 0 ≤ (x12_3 : Int) := of_decide_eq_true (by assumption)
                have q267 : x12_3 < (x6_1.length : Int) := of_decide_eq_true (by assumption)
                obtain ⟨ad267, e267, hx267_0, hx267_1, hx267_2, hx267_3⟩ := at_T28 (Kd.R_reads' HO_6.out).2.2 x12_3 p267 q267
                cases e267
                replace p267 := eq_true p267
                replace q267 := eq_true q267
                refine start_ (n := 9) (S := fun w' => w'.cell? (ad266.add ((x12_3).toNat * 4)) = some (.int .i64 ((rd_T28 t261 x12_3).f0)) ∧ w'.cell? ⟨(ad266.add ((x12_3).toNat * 4)).block, (ad266.add ((x12_3).toNat * 4)).off + 1, none⟩ = some (.int .i64 ((rd_T28 t261 x12_3).f1)) ∧ w'.cell? ⟨(ad266.add ((x12_3).toNat * 4)).block, (ad266.add ((x12_3).toNat * 4)).off + 2, none⟩ = some (.string ((rd_T28 t261 x12_3).f2)) ∧ w'.cell? ⟨(ad266.add ((x12_3).toNat * 4)).block, (ad266.add ((x12_3).toNat * 4)).off + 3, none⟩ = some (.int .i64 ((rd_T28 t261 x12_3).f3)) ∧ w'.cell? (ad267.add ((x12_3).toNat * 4)) = some (.int .i64 ((rd_T28 x6_1 x12_3).f0)) ∧ w'.cell? ⟨(ad267.add ((x12_3).toNat * 4)).block, (ad267.add ((x12_3).toNat * 4)).off + 1, none⟩ = some (.int .i64 ((rd_T28 x6_1 x12_3).f1)) ∧ w'.cell? ⟨(ad267.add ((x12_3).toNat * 4)).block, (ad267.add ((x12_3).toNat * 4)).off + 2, none⟩ = some (.string ((rd_T28 x6_1 x12_3).f2)) ∧ w'.cell? ⟨(ad267.add ((x12_3).toNat * 4)).block, (ad267.add ((x12_3).toNat * 4)).off + 3, none⟩ = some (.int .i64 ((rd_T28 x6_1 x12_3).f3))) (ds := []) #[false, false, false, false, false, false, false, false, false] (by kernel_rfl) rfl rfl ⟨hx266_0, hx266_1, hx266_2, hx266_3, hx267_0, hx267_1, hx267_2, hx267_3⟩ (fun hHeld => ?_); refine with_tabW antipodelaw16_LexBack.tab39 antipodelaw16_LexBack.bits39 (fun HT_ HW_ => ?_)
                generalize wr.drew = w64 at HO_6 HO_10 HB hx266_0 hx266_1 hx266_2 hx266_3 hx267_0 hx267_1 hx267_2 hx267_3 hHeld ⊢
                refine pure_ (i := 0) (N := some 148) (v := ?_) (a' := ?_) #[true, false, false, false, false, false, false, false, false] rfl rfl (any_of HT_.out (by kernel_rfl)) (fun _ _ _ h => h) (Or.inl ⟨by rfl, ?_⟩) ?_ ?_
                rotate_left
                ·intro w'
                 go_simp
                 with_reducible rfl
                rotate_left
                ·simp only [Act.put, List.setIfInBounds_toArray, List.set_cons_zero, List.set_cons_succ, i64_w, i32_w]
                 rfl
                refine pure_ (i := 1) (N := some 149) (v := ?_) (a' := ?_) #[true, true, false, false, false, false, false, false, false] rfl rfl (any_of HT_.out (by kernel_rfl)) (fun _ _ _ h => h) (Or.inl ⟨by rfl, ?_⟩) ?_ ?_
                rotate_left
                ·intro w'
                 go_simp
                 with_reducible rfl
                rotate_left
                ·simp only [Act.put, List.setIfInBounds_toArray, List.set_cons_zero, List.set_cons_succ, i64_w, i32_w]
                 rfl
                refine pure_ (i := 2) (N := some 150) (v := ?_) (a' := ?_) #[true, true, true, false, false, false, false, false, false] rfl rfl (any_of HT_.out (by kernel_rfl)) (fun _ _ _ h => h) (Or.inl ⟨by rfl, ?_⟩) ?_ ?_
                rotate_left
                ·intro w'
                 go_simp
                 with_reducible rfl
                rotate_left
                ·simp only [Act.put, List.setIfInBounds_toArray, List.set_cons_zero, List.set_cons_succ, i64_w, i32_w]
                 rfl
                refine pure_ (i := 4) (N := some 152) (v := ?_) (a' := ?_) #[true, true, true, false, true, false, false, false, false] rfl rfl (any_of HT_.out (by kernel_rfl)) (fun _ _ _ h => h) (Or.inl ⟨by rfl, ?_⟩) ?_ ?_
                rotate_left
                ·intro w'
                 go_simp
                 with_reducible rfl
                rotate_left
                ·simp only [Act.put, List.setIfInBounds_toArray, List.set_cons_zero, List.set_cons_succ, i64_w, i32_w]
                 rfl
                refine pure_ (i := 5) (N := some 153) (v := ?_) (a' := ?_) #[true, true, true, false, true, true, false, false, false] rfl rfl (any_of HT_.out (by kernel_rfl)) (fun _ _ _ h => h) (Or.inl ⟨by rfl, ?_⟩) ?_ ?_
                rotate_left
                ·intro w'
                 go_simp
                 with_reducible rfl
                rotate_left
                ·simp only [Act.put, List.setIfInBounds_toArray, List.set_cons_zero, List.set_cons_succ, i64_w, i32_w]
                 rfl
                refine pure_ (i := 6) (N := some 154) (v := ?_) (a' := ?_) #[true, true, true, false, true, true, true, false, false] rfl rfl (any_of HT_.out (by kernel_rfl)) (fun _ _ _ h => h) (Or.inl ⟨by rfl, ?_⟩) ?_ ?_
                rotate_left
                ·intro w'
                 go_simp
                 with_reducible rfl
                rotate_left
                ·simp only [Act.put, List.setIfInBounds_toArray, List.set_cons_zero, List.set_cons_succ, i64_w, i32_w]
                 rfl
                refine take_ (i := 3) (N := some 151) (v := ?_) (a' := ?_) #[true, true, true, true, true, true, true, false, false] rfl rfl (take_ofW HT_.out HW_.out (by kernel_rfl)) (fun _ _ _ h => h) (Or.inl ⟨by rfl, ?_⟩) hHeld ?_ ?_
                rotate_left
                ·rintro w' ⟨s0, s1, s2, s3, s4, s5, s6, s7⟩
                 go_simp
                 with_reducible rfl
                rotate_left
                ·simp only [Act.put, List.setIfInBounds_toArray, List.set_cons_zero, List.set_cons_succ, i64_w, i32_w]
                 rfl
                refine take_ (i := 7) (N := some 155) (v := ?_) (a' := ?_) #[true, true, true, true, true, true, true, true, false] rfl rfl (take_ofW HT_.out HW_.out (by kernel_rfl)) (fun _ _ _ h => h) (Or.inl ⟨by rfl, ?_⟩) hHeld ?_ ?_
                rotate_left
                ·rintro w' ⟨s0, s1, s2, s3, s4, s5, s6, s7⟩
                 go_simp
                 with_reducible rfl
                rotate_left
                ·simp only [Act.put, List.setIfInBounds_toArray, List.set_cons_zero, List.set_cons_succ, i64_w, i32_w]
                 rfl
                refine pure_ (i := 8) (N := some 156) (v := ?_) (a' := ?_) #[true, true, true, true, true, true, true, true, true] rfl rfl (any_of HT_.out (by kernel_rfl)) (fun _ _ _ h => h) (Or.inl ⟨by rfl, ?_⟩) ?_ ?_
                rotate_left
                ·intro w'
                 go_simp
                 with_reducible rfl
                rotate_left
                ·simp only [Act.put, List.setIfInBounds_toArray, List.set_cons_zero, List.set_cons_succ, i64_w, i32_w]
                 rfl
                refine done_ (done_of HT_.out (by kernel_rfl)) ?_
                try go_wp2
                go_roundg k3
                case measure => have := HK1.out; have := HJ44.out; have := HK3.out; omega
                case rel => exact ⟨(wrap64 (x12_3 + 1)), (by first | rfl | (simp; done) | (simp [*]; done)), H', ⟨by have := HK1.out; have := HJ44.out; have := HK3.out; omega⟩, ⟨by (with_reducible repeat (first | apply Kd.R_alloc | apply Kd.R_drewN | apply Kd.R_drew)); exact HO_6.out⟩, ⟨by (with_reducible repeat (first | apply Kd.R_alloc | apply Kd.R_drewN | apply Kd.R_drew)); exact HO_10.out⟩, ⟨by repeat (first | (with_reducible first | exact HB.out | apply below_alloc | apply pw_below_drewN | apply below_drew1) | exact HB.out)⟩⟩
              ·rw [if_neg c58] at H
               exact absurd H (by simp)
             ·rw [if_neg c57] at H
              exact absurd H (by simp)
            ·rw [if_neg c56] at H
             have c56b0 : decide (x12_3 < (x6_1.length : Int)) = false := decide_eq_false c56
             clear c56
             obtain rfl := Option.some.inj H
             obtain ⟨Ao66, co66, eo66⟩ := Kd.R_slice HO_6.out
             subst eo66
             go_wp2
             go_ret
             exact ⟨by first | rfl | (simp [errW_none, errW_some] <;> rfl) | (simp [*, errW_none, errW_some] <;> rfl), by repeat (first | (with_reducible first | exact HB.out | apply below_alloc | apply pw_below_drewN | apply below_drew1) | exact HB.out)⟩
 ·replace c4 := Bool.eq_false_iff.mpr c4
  subst c4
  have H1 : (some false) = some r := by rw [if_neg (show ¬ (false = true) by decide)] at H; exact H
  clear H
  have H := H1
  clear H1
  obtain rfl := Option.some.inj H
  go_enter Try.func5, Try.ntmps5
  go_wp2_with (first | ((with_reducible refine gate_callee (f := 7) rfl ?_); refine goesL_ (some 13) rfl rfl Try.func7 (by kernel_rfl) rfl #[] rfl (by (try simp only [List.map_toArray, List.map_cons, List.map_nil]); first | done | rfl | (simp only [List.length_drop, List.length_take]; rfl)) ?_; (with_reducible refine (antipodelaw16_begun.calls k  false _ ?side1 A3.out).mono ?_); (case side1 => exact Sh.below hsh (by repeat (first | (with_reducible first | exact HB.out | apply below_alloc | apply pw_below_drewN | apply below_drew1) | exact HB.out))); rintro e w67 ⟨rfl, hb⟩; refine ⟨_, rfl, ?_⟩; have n0_ := Aside0.mk (below_step (by repeat (first | (with_reducible first | exact HB.out | apply below_alloc | apply pw_below_drewN | apply below_drew1) | exact HB.out)) hb); clear HB; have HB := n0_; clear n0_; (try clear hb); (try clear hb2); (try clear hk); (try clear hi)))
  go_ret
  exact ⟨by first | rfl | (simp [errW_none, errW_some] <;> rfl) | (simp [*, errW_none, errW_some] <;> rfl), by repeat (first | (with_reducible first | exact HB.out | apply below_alloc | apply pw_below_drewN | apply below_drew1) | exact HB.out)⟩

end Go.Proofs.Ytpgcjlndojbmjaa.PL
