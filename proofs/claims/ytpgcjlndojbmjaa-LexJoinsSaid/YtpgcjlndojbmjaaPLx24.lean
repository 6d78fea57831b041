-- Written by drv.py (this session's program over the kit's print).
import Derived.Test.YtpgcjlndojbmjaaPLx0
import Derived.Test.YtpgcjlndojbmjaaPLx1
import Derived.Test.YtpgcjlndojbmjaaPLx8
import Derived.Test.YtpgcjlndojbmjaaPLx10
namespace Go.Proofs.Ytpgcjlndojbmjaa.PL
open Go.RowKit Go.Proofs.YtpgcjlndojbmjaaW.PrintWords Go.Proofs.YtpgcjlndojbmjaaW.PrintLast Go.Proofs.YtpgcjlndojbmjaaW.PrintMore
attribute [local go_sem] max2_int min2_int max_two min_two max_three min_three max_four min_four   -- for this text's walks alone
attribute [local go_sem ↓] isSome_setCell
set_option linter.unusedVariables false
set_option linter.unusedSimpArgs false

attribute [local go_sem high] eqA28
/-! ### antipodelaw16_LexJoins: function 6 -/
mutual
def antipodelaw16_LexJoins.j0 : Nat → ByteArray → ByteArray → Bool → Option (Bool)
 | 0, _, _, _ => none
 | k + 1, x0, x1, x22 => if x22 = true then (some true) else ((lex_Lex.f k x0).bind fun bt269 => ((lex_Lex.f k x1).bind fun bt273 => (if bt269.2 = 0 then (antipodelaw16_LexJoins.j1 k x0 x1 bt269.1 bt273.1 (bt273.2 != 0)) else (antipodelaw16_LexJoins.j1 k x0 x1 bt269.1 bt273.1 true))))
def antipodelaw16_LexJoins.j1 : Nat → ByteArray → ByteArray → List (S28) → List (S28) → Bool → Option (Bool)
 | 0, _, _, _, _, _ => none
 | k + 1, x0, x1, x5, x7, x38 => if x38 = true then (some true) else (if x0.size + 1 ≤ 9223372036854775807 then (if (x0 ++ (⟨#[10]⟩ : ByteArray)).size + x1.size ≤ 9223372036854775807 then ((lex_Lex.f k ((x0 ++ (⟨#[10]⟩ : ByteArray)) ++ x1)).bind fun bt277 => (if bt277.2 = 0 then (antipodelaw16_LexJoins.j2 k x0 x5 x7 bt277.1 ((bt277.1.length : Int) != (wrap64 ((wrap64 ((x5.length : Int) + (x7.length : Int))) - 1)))) else (antipodelaw16_LexJoins.j2 k x0 x5 x7 bt277.1 true))) else (none)) else (none))
def antipodelaw16_LexJoins.j2 : Nat → ByteArray → List (S28) → List (S28) → List (S28) → Bool → Option (Bool)
 | 0, _, _, _, _, _ => none
 | k + 1, x0, x5, x7, x9, x59 => if x59 = true then (some false) else (antipodelaw16_LexJoins.l0 k x0 x5 x7 x9 0)
def antipodelaw16_LexJoins.l0 : Nat → ByteArray → List (S28) → List (S28) → List (S28) → Int → Option (Bool)
 | 0, _, _, _, _, _ => none
 | k + 1, x0, x5, x7, x9, x11 => if x11 < (x9.length : Int) then (if x11 < (wrap64 ((x5.length : Int) - 1)) then (if 0 ≤ x11 then (if x11 < (x5.length : Int) then (antipodelaw16_LexJoins.j4 k x0 x5 x7 x9 x11 ((rd_T28 x5 x11).f0) ((rd_T28 x5 x11).f1) ((rd_T28 x5 x11).f2) ((rd_T28 x5 x11).f3)) else (none)) else (none)) else (if 0 ≤ (wrap64 ((wrap64 (x11 - (x5.length : Int))) + 1)) then (if (wrap64 ((wrap64 (x11 - (x5.length : Int))) + 1)) < (x7.length : Int) then (antipodelaw16_LexJoins.j4 k x0 x5 x7 x9 x11 ((rd_T28 x7 (wrap64 ((wrap64 (x11 - (x5.length : Int))) + 1))).f0) (wrap64 ((wrap64 (((rd_T28 x7 (wrap64 ((wrap64 (x11 - (x5.length : Int))) + 1))).f1) + (x0.size : Int))) + 1)) ((rd_T28 x7 (wrap64 ((wrap64 (x11 - (x5.length : Int))) + 1))).f2) ((rd_T28 x7 (wrap64 ((wrap64 (x11 - (x5.length : Int))) + 1))).f3)) else (none)) else (none))) else (some true)
def antipodelaw16_LexJoins.j4 : Nat → ByteArray → List (S28) → List (S28) → List (S28) → Int → Int → Int → ByteArray → Int → Option (Bool)
 | 0, _, _, _, _, _, _, _, _, _ => none
 | k + 1, x0, x5, x7, x9, x11, x282000, x282001, x282002, x282003 => if 0 ≤ x11 then (if x11 < (x9.length : Int) then (if (!(((rd_T28 x9 x11).f0) == x282000) || (!(((rd_T28 x9 x11).f1) == x282001) || (!((((rd_T28 x9 x11).f2).toList) == x282002.toList) || (!(((rd_T28 x9 x11).f3) == x282003))))) = true then (some false) else (antipodelaw16_LexJoins.l0 k x0 x5 x7 x9 (wrap64 (x11 + 1)))) else (none)) else (none)
end
def antipodelaw16_LexJoins.f (k : Nat) (a0 : ByteArray) (a1 : ByteArray) : Option (Bool) := (antipodelaw16_begun.f k).bind fun t268 => (if t268 = true then (if (a0.size : Int) > 900 then (antipodelaw16_LexJoins.j0 k a0 a1 true) else (antipodelaw16_LexJoins.j0 k a0 a1 (decide ((a1.size : Int) > 900)))) else (some false))
theorem antipodelaw16_LexJoins.mono_l : ∀ k, (∀ y0 y1 y2, LeO (antipodelaw16_LexJoins.j0 k y0 y1 y2) (antipodelaw16_LexJoins.j0 (k + 1) y0 y1 y2)) ∧ (∀ y0 y1 y2 y3 y4, LeO (antipodelaw16_LexJoins.j1 k y0 y1 y2 y3 y4) (antipodelaw16_LexJoins.j1 (k + 1) y0 y1 y2 y3 y4)) ∧ (∀ y0 y1 y2 y3 y4, LeO (antipodelaw16_LexJoins.j2 k y0 y1 y2 y3 y4) (antipodelaw16_LexJoins.j2 (k + 1) y0 y1 y2 y3 y4)) ∧ (∀ y0 y1 y2 y3 y4, LeO (antipodelaw16_LexJoins.l0 k y0 y1 y2 y3 y4) (antipodelaw16_LexJoins.l0 (k + 1) y0 y1 y2 y3 y4)) ∧ (∀ y0 y1 y2 y3 y4 y5 y6 y7 y8, LeO (antipodelaw16_LexJoins.j4 k y0 y1 y2 y3 y4 y5 y6 y7 y8) (antipodelaw16_LexJoins.j4 (k + 1) y0 y1 y2 y3 y4 y5 y6 y7 y8))
 | 0 => ⟨fun _ _ _ r h => by simp [antipodelaw16_LexJoins.j0] at h, fun _ _ _ _ _ r h => by simp [antipodelaw16_LexJoins.j1] at h, fun _ _ _ _ _ r h => by simp [antipodelaw16_LexJoins.j2] at h, fun _ _ _ _ _ r h => by simp [antipodelaw16_LexJoins.l0] at h, fun _ _ _ _ _ _ _ _ _ r h => by simp [antipodelaw16_LexJoins.j4] at h⟩
 | k + 1 => by
  obtain ⟨ih0, ih1, ih2, ih3, ih4⟩ := antipodelaw16_LexJoins.mono_l k
  refine ⟨?_, ?_, ?_, ?_, ?_⟩
  ·intro y0 y1 y2
   unfold antipodelaw16_LexJoins.j0
   repeat' first
   | (with_reducible exact ih0 _ _ _)
   | (with_reducible exact ih1 _ _ _ _ _)
   | (with_reducible exact ih2 _ _ _ _ _)
   | (with_reducible exact ih3 _ _ _ _ _)
   | (with_reducible exact ih4 _ _ _ _ _ _ _ _ _)
   | (with_reducible exact antipodelaw16_begun.mono _)
   | (with_reducible exact lex_Lex.mono _ _)
   | (with_reducible exact LeO.refl _)
   | (with_reducible exact LeO.none _)
   | (with_reducible refine LeO.ite ?_ ?_)
   | (with_reducible refine LeO.bind ?_ (fun _ => ?_))
   | exact ih0 _ _ _
   | exact ih1 _ _ _ _ _
   | exact ih2 _ _ _ _ _
   | exact ih3 _ _ _ _ _
   | exact ih4 _ _ _ _ _ _ _ _ _
   | exact antipodelaw16_begun.mono _
   | exact lex_Lex.mono _ _
   | exact LeO.none _
   | refine LeO.ite ?_ ?_
   | refine LeO.bind ?_ (fun _ => ?_)
  ·intro y0 y1 y2 y3 y4
   unfold antipodelaw16_LexJoins.j1
   repeat' first
   | (with_reducible exact ih0 _ _ _)
   | (with_reducible exact ih1 _ _ _ _ _)
   | (with_reducible exact ih2 _ _ _ _ _)
   | (with_reducible exact ih3 _ _ _ _ _)
   | (with_reducible exact ih4 _ _ _ _ _ _ _ _ _)
   | (with_reducible exact antipodelaw16_begun.mono _)
   | (with_reducible exact lex_Lex.mono _ _)
   | (with_reducible exact LeO.refl _)
   | (with_reducible exact LeO.none _)
   | (with_reducible refine LeO.ite ?_ ?_)
   | (with_reducible refine LeO.bind ?_ (fun _ => ?_))
   | exact ih0 _ _ _
   | exact ih1 _ _ _ _ _
   | exact ih2 _ _ _ _ _
   | exact ih3 _ _ _ _ _
   | exact ih4 _ _ _ _ _ _ _ _ _
   | exact antipodelaw16_begun.mono _
   | exact lex_Lex.mono _ _
   | exact LeO.none _
   | refine LeO.ite ?_ ?_
   | refine LeO.bind ?_ (fun _ => ?_)
  ·intro y0 y1 y2 y3 y4
   unfold antipodelaw16_LexJoins.j2
   repeat' first
   | (with_reducible exact ih0 _ _ _)
   | (with_reducible exact ih1 _ _ _ _ _)
   | (with_reducible exact ih2 _ _ _ _ _)
   | (with_reducible exact ih3 _ _ _ _ _)
   | (with_reducible exact ih4 _ _ _ _ _ _ _ _ _)
   | (with_reducible exact antipodelaw16_begun.mono _)
   | (with_reducible exact lex_Lex.mono _ _)
   | (with_reducible exact LeO.refl _)
   | (with_reducible exact LeO.none _)
   | (with_reducible refine LeO.ite ?_ ?_)
   | (with_reducible refine LeO.bind ?_ (fun _ => ?_))
   | exact ih0 _ _ _
   | exact ih1 _ _ _ _ _
   | exact ih2 _ _ _ _ _
   | exact ih3 _ _ _ _ _
   | exact ih4 _ _ _ _ _ _ _ _ _
   | exact antipodelaw16_begun.mono _
   | exact lex_Lex.mono _ _
   | exact LeO.none _
   | refine LeO.ite ?_ ?_
   | refine LeO.bind ?_ (fun _ => ?_)
  ·intro y0 y1 y2 y3 y4
   unfold antipodelaw16_LexJoins.l0
   repeat' first
   | (with_reducible exact ih0 _ _ _)
   | (with_reducible exact ih1 _ _ _ _ _)
   | (with_reducible exact ih2 _ _ _ _ _)
   | (with_reducible exact ih3 _ _ _ _ _)
   | (with_reducible exact ih4 _ _ _ _ _ _ _ _ _)
   | (with_reducible exact antipodelaw16_begun.mono _)
   | (with_reducible exact lex_Lex.mono _ _)
   | (with_reducible exact LeO.refl _)
   | (with_reducible exact LeO.none _)
   | (with_reducible refine LeO.ite ?_ ?_)
   | (with_reducible refine LeO.bind ?_ (fun _ => ?_))
   | exact ih0 _ _ _
   | exact ih1 _ _ _ _ _
   | exact ih2 _ _ _ _ _
   | exact ih3 _ _ _ _ _
   | exact ih4 _ _ _ _ _ _ _ _ _
   | exact antipodelaw16_begun.mono _
   | exact lex_Lex.mono _ _
   | exact LeO.none _
   | refine LeO.ite ?_ ?_
   | refine LeO.bind ?_ (fun _ => ?_)
  ·intro y0 y1 y2 y3 y4 y5 y6 y7 y8
   unfold antipodelaw16_LexJoins.j4
   repeat' first
   | (with_reducible exact ih0 _ _ _)
   | (with_reducible exact ih1 _ _ _ _ _)
   | (with_reducible exact ih2 _ _ _ _ _)
   | (with_reducible exact ih3 _ _ _ _ _)
   | (with_reducible exact ih4 _ _ _ _ _ _ _ _ _)
   | (with_reducible exact antipodelaw16_begun.mono _)
   | (with_reducible exact lex_Lex.mono _ _)
   | (with_reducible exact LeO.refl _)
   | (with_reducible exact LeO.none _)
   | (with_reducible refine LeO.ite ?_ ?_)
   | (with_reducible refine LeO.bind ?_ (fun _ => ?_))
   | exact ih0 _ _ _
   | exact ih1 _ _ _ _ _
   | exact ih2 _ _ _ _ _
   | exact ih3 _ _ _ _ _
   | exact ih4 _ _ _ _ _ _ _ _ _
   | exact antipodelaw16_begun.mono _
   | exact lex_Lex.mono _ _
   | exact LeO.none _
   | refine LeO.ite ?_ ?_
   | refine LeO.bind ?_ (fun _ => ?_)
theorem antipodelaw16_LexJoins.mono : ∀ a0 a1 k, LeO (antipodelaw16_LexJoins.f k a0 a1) (antipodelaw16_LexJoins.f (k + 1) a0 a1) := by
 intro a0 a1 k
 obtain ⟨ih0, ih1, ih2, ih3, ih4⟩ := antipodelaw16_LexJoins.mono_l k
 unfold antipodelaw16_LexJoins.f
 repeat' first
   | (with_reducible exact ih0 _ _ _)
   | (with_reducible exact ih1 _ _ _ _ _)
   | (with_reducible exact ih2 _ _ _ _ _)
   | (with_reducible exact ih3 _ _ _ _ _)
   | (with_reducible exact ih4 _ _ _ _ _ _ _ _ _)
   | (with_reducible exact antipodelaw16_begun.mono _)
   | (with_reducible exact lex_Lex.mono _ _)
   | (with_reducible exact LeO.refl _)
   | (with_reducible exact LeO.none _)
   | (with_reducible refine LeO.ite ?_ ?_)
   | (with_reducible refine LeO.bind ?_ (fun _ => ?_))
   | exact ih0 _ _ _
   | exact ih1 _ _ _ _ _
   | exact ih2 _ _ _ _ _
   | exact ih3 _ _ _ _ _
   | exact ih4 _ _ _ _ _ _ _ _ _
   | exact antipodelaw16_begun.mono _
   | exact lex_Lex.mono _ _
   | exact LeO.none _
   | refine LeO.ite ?_ ?_
   | refine LeO.bind ?_ (fun _ => ?_)
set_option maxHeartbeats 8000000 in
set_option maxRecDepth 100000 in
theorem antipodelaw16_LexJoins.calls (k : Nat) (a0 : ByteArray) (a1 : ByteArray) (r : Bool) (w : World) (hsh : Sh w) (h : antipodelaw16_LexJoins.f k a0 a1 = some r) :
  Calls Try.prog 6 #[.string a0, .string a1] w fun e w' => e = .returned (.bool r) ∧ Below w.heap.size w w' := by
 have hu28 := Try.underlying28
 have HB := Aside0.mk (Below.refl w.heap.size w)
 have H : ((antipodelaw16_begun.f k).bind fun t268 => (if t268 = true then (if (a0.size : Int) > 900 then (antipodelaw16_LexJoins.j0 k a0 a1 true) else (antipodelaw16_LexJoins.j0 k a0 a1 (decide ((a1.size : Int) > 900)))) else (some false))) = some r := h
 clear h
 replace H := Option.bind_eq_some_iff.mp H
 obtain ⟨t268, A30, H⟩ := H
 replace H : (if t268 = true then (if (a0.size : Int) > 900 then (antipodelaw16_LexJoins.j0 k a0 a1 true) else (antipodelaw16_LexJoins.j0 k a0 a1 (decide ((a1.size : Int) > 900)))) else (some false)) = some r := H
 have A3 := Aside0.mk A30
 clear A30
 by_cases c4 : t268 = true
 ·subst c4
  have H1 : (if (a0.size : Int) > 900 then (antipodelaw16_LexJoins.j0 k a0 a1 true) else (antipodelaw16_LexJoins.j0 k a0 a1 (decide ((a1.size : Int) > 900)))) = some r := by rw [if_pos rfl] at H; exact H
  clear H
  have H := H1
  clear H1
  have HC5 := Aside0.mk H
  clear H
  go_enter Try.func6, Try.ntmps6
  go_upto_region 3 with (first | (go_at_call 7; (with_reducible refine (antipodelaw16_begun.calls k  true _ ?side1 A3.out).mono ?_); (case side1 => exact Sh.below hsh (by repeat (first | (with_reducible first | exact HB.out | apply below_alloc | apply pw_below_drewN | apply below_drew1) | exact HB.out))); rintro e w6 ⟨rfl, hb⟩; have n0_ := Aside0.mk (below_step (by repeat (first | (with_reducible first | exact HB.out | apply below_alloc | apply pw_below_drewN | apply below_drew1) | exact HB.out)) hb); clear HB; have HB := n0_; clear n0_; (try clear hb); (try clear hb2); (try clear hk); (try clear hi)))
  repeat (go_quiet (first | (go_at_call 7; (with_reducible refine (antipodelaw16_begun.calls k  true _ ?side1 A3.out).mono ?_); (case side1 => exact Sh.below hsh (by repeat (first | (with_reducible first | exact HB.out | apply below_alloc | apply pw_below_drewN | apply below_drew1) | exact HB.out))); rintro e w6 ⟨rfl, hb⟩; have n0_ := Aside0.mk (below_step (by repeat (first | (with_reducible first | exact HB.out | apply below_alloc | apply pw_below_drewN | apply below_drew1) | exact HB.out)) hb); clear HB; have HB := n0_; clear n0_; (try clear hb); (try clear hb2); (try clear hk); (try clear hi))); go_upto_region 3 with (first | (go_at_call 7; (with_reducible refine (antipodelaw16_begun.calls k  true _ ?side1 A3.out).mono ?_); (case side1 => exact Sh.below hsh (by repeat (first | (with_reducible first | exact HB.out | apply below_alloc | apply pw_below_drewN | apply below_drew1) | exact HB.out))); rintro e w6 ⟨rfl, hb⟩; have n0_ := Aside0.mk (below_step (by repeat (first | (with_reducible first | exact HB.out | apply below_alloc | apply pw_below_drewN | apply below_drew1) | exact HB.out)) hb); clear HB; have HB := n0_; clear n0_; (try clear hb); (try clear hb2); (try clear hk); (try clear hi))))
  (try simp only [Act.put, List.setIfInBounds_toArray, List.set_cons_zero, List.set_cons_succ])
  go_cut [22] (fun v22 wc => ∃ (kq : Nat) (x22_4 : Bool), v22 = .bool x22_4 ∧ Aside0 (antipodelaw16_LexJoins.j0 kq a0 a1 x22_4 = some r) ∧ Aside0 (kq ≤ k) ∧ Aside0 (Below w.heap.size w wc))
  case first =>
   have H := HC5.out
   clear HC5
   by_cases c7 : (a0.size : Int) > 900
   ·rw [if_pos c7] at H
    have c7b0 : decide (900 < (a0.size : Int)) = true := decide_eq_true c7
    have c7b1 : decide (900 < a0.size) = true := decide_eq_true (by omega)
    clear c7
    (first | rw [c7b0] | (simp only [i64_w, i32_w]; rw [c7b0]) | skip)
    have H' := Aside0.mk H
    clear H
    go_wp2
    repeat (go_quiet (fail); try go_wp2)
    go_meet
    case rel => exact ⟨_, (true), (by first | rfl | (simp; done) | (simp [*]; done)), H', ⟨by first | omega | exact Nat.le_refl _⟩, ⟨by repeat (first | (with_reducible first | exact HB.out | apply below_alloc | apply pw_below_drewN | apply below_drew1) | exact HB.out)⟩⟩
   ·rw [if_neg c7] at H
    have c7b0 : decide (900 < (a0.size : Int)) = false := decide_eq_false c7
    have c7b1 : decide (900 < a0.size) = false := decide_eq_false (by omega)
    clear c7
    (first | rw [c7b0] | (simp only [i64_w, i32_w]; rw [c7b0]) | skip)
    have H' := Aside0.mk H
    clear H
    go_wp2
    repeat (go_quiet (fail); try go_wp2)
    go_meet
    case rel => exact ⟨_, (decide ((a1.size : Int) > 900)), (by first | rfl | (simp; done) | (simp [*]; done)), H', ⟨by first | omega | exact Nat.le_refl _⟩, ⟨by repeat (first | (with_reducible first | exact HB.out | apply below_alloc | apply pw_below_drewN | apply below_drew1) | exact HB.out)⟩⟩
  case rest =>
   clear HC5
   try clear p2
   try clear c4
   try clear c6
   try clear c7
   try clear c7b0
   try clear c7b1
   obtain ⟨kq, x22_4, rfl, HA, HJ4, HB⟩ := hcut
   cases kq with
   | zero => exact absurd HA.out (by simp [antipodelaw16_LexJoins.j0])
   | succ kj4 =>
    have H := HA.out
    clear HA
    simp only [antipodelaw16_LexJoins.j0] at H
    by_cases c8 : x22_4 = true
    ·subst c8
     have H1 : (some true) = some r := by rw [if_pos rfl] at H; exact H
     clear H
     have H := H1
     clear H1
     obtain rfl := Option.some.inj H
     go_wp2
     repeat (go_quiet (fail); try go_wp2)
     go_ret
     exact ⟨by first | rfl | (simp [errW_none, errW_some] <;> rfl) | (simp [*, errW_none, errW_some] <;> rfl), by repeat (first | (with_reducible first | exact HB.out | apply below_alloc | apply pw_below_drewN | apply below_drew1) | exact HB.out)⟩
    ·replace c8 := Bool.eq_false_iff.mpr c8
     subst c8
     have H1 : ((lex_Lex.f kj4 a0).bind fun bt269 => ((lex_Lex.f kj4 a1).bind fun bt273 => (if bt269.2 = 0 then (antipodelaw16_LexJoins.j1 kj4 a0 a1 bt269.1 bt273.1 (bt273.2 != 0)) else (antipodelaw16_LexJoins.j1 kj4 a0 a1 bt269.1 bt273.1 true)))) = some r := by rw [if_neg (show ¬ (false = true) by decide)] at H; exact H
     clear H
     have H := H1
     clear H1
     replace H := Option.bind_eq_some_iff.mp H
     obtain ⟨⟨t269, t270⟩, A90, H⟩ := H
     replace H : ((lex_Lex.f kj4 a1).bind fun bt273 => (if t270 = 0 then (antipodelaw16_LexJoins.j1 kj4 a0 a1 t269 bt273.1 (bt273.2 != 0)) else (antipodelaw16_LexJoins.j1 kj4 a0 a1 t269 bt273.1 true))) = some r := H
     have A9 := Aside0.mk A90
     clear A90
     replace H := Option.bind_eq_some_iff.mp H
     obtain ⟨⟨t273, t274⟩, A100, H⟩ := H
     replace H : (if t270 = 0 then (antipodelaw16_LexJoins.j1 kj4 a0 a1 t269 t273 (t274 != 0)) else (antipodelaw16_LexJoins.j1 kj4 a0 a1 t269 t273 true)) = some r := H
     have A10 := Aside0.mk A100
     clear A100
     have HC11 := Aside0.mk H
     clear H
     go_upto_region 7 with (first | (go_at_call 8; (with_reducible refine (lex_Lex.calls kj4 a0 t269 t270 _ A9.out).mono ?_); rintro e w12 ⟨v271, rfl, ho0, hb⟩; have n0_ := Aside0.mk (Kd.R_lower ho0 (below_size (by repeat (first | (with_reducible first | exact HB.out | apply below_alloc | apply pw_below_drewN | apply below_drew1) | exact HB.out)))); have n1_ := Aside0.mk (below_step (by repeat (first | (with_reducible first | exact HB.out | apply below_alloc | apply pw_below_drewN | apply below_drew1) | exact HB.out)) hb); clear HB; have HO272 := n0_; have HB := n1_; clear n0_ n1_; (try clear hb); (try clear hb2); (try clear hk); (try clear hi); (try clear ho0)) | (go_at_call 8; (with_reducible refine (lex_Lex.calls kj4 a1 t273 t274 _ A10.out).mono ?_); rintro e w13 ⟨v275, rfl, ho0, hb⟩; have n0_ := Aside0.mk (Kd.R_elder' (by (with_reducible repeat (first | apply Kd.R_alloc | apply Kd.R_drewN | apply Kd.R_drew)); exact HO272.out) (Kd.R_base ho0) hb); have n1_ := Aside0.mk (Kd.R_lower (Kd.R_new' ho0 (Kd.R_lt (by (with_reducible repeat (first | apply Kd.R_alloc | apply Kd.R_drewN | apply Kd.R_drew)); exact HO272.out))) (below_size (by repeat (first | (with_reducible first | exact HB.out | apply below_alloc | apply pw_below_drewN | apply below_drew1) | exact HB.out)))); have n2_ := Aside0.mk (below_step (by repeat (first | (with_reducible first | exact HB.out | apply below_alloc | apply pw_below_drewN | apply below_drew1) | exact HB.out)) hb); clear HO272; clear HB; have HO272 := n0_; have HO276 := n1_; have HB := n2_; clear n0_ n1_ n2_; (try clear hb); (try clear hb2); (try clear hk); (try clear hi); (try clear ho0)))
     repeat (go_quiet (first | (go_at_call 8; (with_reducible refine (lex_Lex.calls kj4 a0 t269 t270 _ A9.out).mono ?_); rintro e w12 ⟨v271, rfl, ho0, hb⟩; have n0_ := Aside0.mk (Kd.R_lower ho0 (below_size (by repeat (first | (with_reducible first | exact HB.out | apply below_alloc | apply pw_below_drewN | apply below_drew1) | exact HB.out)))); have n1_ := Aside0.mk (below_step (by repeat (first | (with_reducible first | exact HB.out | apply below_alloc | apply pw_below_drewN | apply below_drew1) | exact HB.out)) hb); clear HB; have HO272 := n0_; have HB := n1_; clear n0_ n1_; (try clear hb); (try clear hb2); (try clear hk); (try clear hi); (try clear ho0)) | (go_at_call 8; (with_reducible refine (lex_Lex.calls kj4 a1 t273 t274 _ A10.out).mono ?_); rintro e w13 ⟨v275, rfl, ho0, hb⟩; have n0_ := Aside0.mk (Kd.R_elder' (by (with_reducible repeat (first | apply Kd.R_alloc | apply Kd.R_drewN | apply Kd.R_drew)); exact HO272.out) (Kd.R_base ho0) hb); have n1_ := Aside0.mk (Kd.R_lower (Kd.R_new' ho0 (Kd.R_lt (by (with_reducible repeat (first | apply Kd.R_alloc | apply Kd.R_drewN | apply Kd.R_drew)); exact HO272.out))) (below_size (by repeat (first | (with_reducible first | exact HB.out | apply below_alloc | apply pw_below_drewN | apply below_drew1) | exact HB.out)))); have n2_ := Aside0.mk (below_step (by repeat (first | (with_reducible first | exact HB.out | apply below_alloc | apply pw_below_drewN | apply below_drew1) | exact HB.out)) hb); clear HO272; clear HB; have HO272 := n0_; have HO276 := n1_; have HB := n2_; clear n0_ n1_ n2_; (try clear hb); (try clear hb2); (try clear hk); (try clear hi); (try clear ho0))); go_upto_region 7 with (first | (go_at_call 8; (with_reducible refine (lex_Lex.calls kj4 a0 t269 t270 _ A9.out).mono ?_); rintro e w12 ⟨v271, rfl, ho0, hb⟩; have n0_ := Aside0.mk (Kd.R_lower ho0 (below_size (by repeat (first | (with_reducible first | exact HB.out | apply below_alloc | apply pw_below_drewN | apply below_drew1) | exact HB.out)))); have n1_ := Aside0.mk (below_step (by repeat (first | (with_reducible first | exact HB.out | apply below_alloc | apply pw_below_drewN | apply below_drew1) | exact HB.out)) hb); clear HB; have HO272 := n0_; have HB := n1_; clear n0_ n1_; (try clear hb); (try clear hb2); (try clear hk); (try clear hi); (try clear ho0)) | (go_at_call 8; (with_reducible refine (lex_Lex.calls kj4 a1 t273 t274 _ A10.out).mono ?_); rintro e w13 ⟨v275, rfl, ho0, hb⟩; have n0_ := Aside0.mk (Kd.R_elder' (by (with_reducible repeat (first | apply Kd.R_alloc | apply Kd.R_drewN | apply Kd.R_drew)); exact HO272.out) (Kd.R_base ho0) hb); have n1_ := Aside0.mk (Kd.R_lower (Kd.R_new' ho0 (Kd.R_lt (by (with_reducible repeat (first | apply Kd.R_alloc | apply Kd.R_drewN | apply Kd.R_drew)); exact HO272.out))) (below_size (by repeat (first | (with_reducible first | exact HB.out | apply below_alloc | apply pw_below_drewN | apply below_drew1) | exact HB.out)))); have n2_ := Aside0.mk (below_step (by repeat (first | (with_reducible first | exact HB.out | apply below_alloc | apply pw_below_drewN | apply below_drew1) | exact HB.out)) hb); clear HO272; clear HB; have HO272 := n0_; have HO276 := n1_; have HB := n2_; clear n0_ n1_ n2_; (try clear hb); (try clear hb2); (try clear hk); (try clear hi); (try clear ho0))))
     (try simp only [Act.put, List.setIfInBounds_toArray, List.set_cons_zero, List.set_cons_succ])
     go_cut [38] (fun v38 wc => ∃ (kq : Nat) (x38_10 : Bool), v38 = .bool x38_10 ∧ Aside0 (antipodelaw16_LexJoins.j1 kq a0 a1 t269 t273 x38_10 = some r) ∧ Aside0 (kq ≤ kj4) ∧ Aside0 (Kd.R k28 28 wc w.heap.size (fun k_ => some k_ ≠ (v275 : Value).ownBlock) v271 t269) ∧ Aside0 (Kd.R k28 28 wc w.heap.size (fun k_ => some k_ ≠ (v271 : Value).ownBlock) v275 t273) ∧ Aside0 (Below w.heap.size w wc))
     case first =>
      have H := HC11.out
      clear HC11
      by_cases c14 : t270 = 0
      ·rw [if_pos c14] at H
       have c14b0 : (t270 == 0) = true := beq_iff_eq.mpr c14
       have c14b1 : (t270 != 0) = false := bne_eq_false_iff_eq.mpr c14
       clear c14
       (first | rw [c14b0] | (simp only [i64_w, i32_w]; rw [c14b0]) | skip)
       have H' := Aside0.mk H
       clear H
       go_wp2
       repeat (go_quiet (fail); try go_wp2)
       go_meet
       case rel => exact ⟨_, ((t274 != 0)), (by first | rfl | (simp; done) | (simp [*]; done)), H', ⟨by have := HJ4.out; first | omega | exact Nat.le_refl _⟩, ⟨by (with_reducible repeat (first | apply Kd.R_alloc | apply Kd.R_drewN | apply Kd.R_drew)); exact Kd.R_mono HO272.out (fun _ hk => hk.2)⟩, ⟨by (with_reducible repeat (first | apply Kd.R_alloc | apply Kd.R_drewN | apply Kd.R_drew)); exact Kd.R_mono HO276.out (fun _ hk => hk.2)⟩, ⟨by repeat (first | (with_reducible first | exact HB.out | apply below_alloc | apply pw_below_drewN | apply below_drew1) | exact HB.out)⟩⟩
      ·rw [if_neg c14] at H
       have c14b0 : (t270 == 0) = false := beq_eq_false_iff_ne.mpr c14
       have c14b1 : (t270 != 0) = true := bne_iff_ne.mpr c14
       (first | rw [c14b0] | (simp only [i64_w, i32_w]; rw [c14b0]) | skip)
       have H' := Aside0.mk H
       clear H
       go_wp2
       repeat (go_quiet (fail); try go_wp2)
       go_meet
       case rel => exact ⟨_, (true), (by first | rfl | (simp; done) | (simp [*]; done)), H', ⟨by have := HJ4.out; first | omega | exact Nat.le_refl _⟩, ⟨by (with_reducible repeat (first | apply Kd.R_alloc | apply Kd.R_drewN | apply Kd.R_drew)); exact Kd.R_mono HO272.out (fun _ hk => hk.2)⟩, ⟨by (with_reducible repeat (first | apply Kd.R_alloc | apply Kd.R_drewN | apply Kd.R_drew)); exact Kd.R_mono HO276.out (fun _ hk => hk.2)⟩, ⟨by repeat (first | (with_reducible first | exact HB.out | apply below_alloc | apply pw_below_drewN | apply below_drew1) | exact HB.out)⟩⟩
     case rest =>
      clear HC11
      try clear c1
      try clear p2
      try clear c4
      try clear c6
      try clear c7
      try clear c7b0
      try clear c7b1
      try clear c8
      try clear c14
      try clear c14b0
      try clear c14b1
      try clear p2
      obtain ⟨kq, x38_10, rfl, HA, HJ10, HO_5, HO_7, HB⟩ := hcut
      cases kq with
      | zero => exact absurd HA.out (by simp [antipodelaw16_LexJoins.j1])
      | succ kj10 =>
       have H := HA.out
       clear HA
       simp only [antipodelaw16_LexJoins.j1] at H
       by_cases c15 : x38_10 = true
       ·subst c15
        have H1 : (some true) = some r := by rw [if_pos rfl] at H; exact H
        clear H
        have H := H1
        clear H1
        obtain rfl := Option.some.inj H
        go_wp2
        repeat (go_quiet (fail); try go_wp2)
        go_ret
        exact ⟨by first | rfl | (simp [errW_none, errW_some] <;> rfl) | (simp [*, errW_none, errW_some] <;> rfl), by repeat (first | (with_reducible first | exact HB.out | apply below_alloc | apply pw_below_drewN | apply below_drew1) | exact HB.out)⟩
       ·replace c15 := Bool.eq_false_iff.mpr c15
        subst c15
        have H1 : (if a0.size + 1 ≤ 9223372036854775807 then (if (a0 ++ (⟨#[10]⟩ : ByteArray)).size + a1.size ≤ 9223372036854775807 then ((lex_Lex.f kj10 ((a0 ++ (⟨#[10]⟩ : ByteArray)) ++ a1)).bind fun bt277 => (if bt277.2 = 0 then (antipodelaw16_LexJoins.j2 kj10 a0 t269 t273 bt277.1 ((bt277.1.length : Int) != (wrap64 ((wrap64 ((t269.length : Int) + (t273.length : Int))) - 1)))) else (antipodelaw16_LexJoins.j2 kj10 a0 t269 t273 bt277.1 true))) else (none)) else (none)) = some r := by rw [if_neg (show ¬ (false = true) by decide)] at H; exact H
        clear H
        have H := H1
        clear H1
        by_cases c16 : a0.size + 1 ≤ 9223372036854775807
        ·rw [if_pos c16] at H
         have c16b0 := eq_true c16
         have c16b1 : decide (a0.size + 1 ≤ 9223372036854775807) = true := decide_eq_true c16
         try have c16b2 : (9223372036854775807 < a0.size + 1) = False := eq_false (Nat.not_lt.2 c16)
         by_cases c17 : (a0 ++ (⟨#[10]⟩ : ByteArray)).size + a1.size ≤ 9223372036854775807
         ·rw [if_pos c17] at H
          have c17b0 := eq_true c17
          have c17b1 : decide ((a0 ++ (⟨#[10]⟩ : ByteArray)).size + a1.size ≤ 9223372036854775807) = true := decide_eq_true c17
          try have c17b2 : (9223372036854775807 < (a0 ++ (⟨#[10]⟩ : ByteArray)).size + a1.size) = False := eq_false (Nat.not_lt.2 c17)
          replace H := Option.bind_eq_some_iff.mp H
          obtain ⟨⟨t277, t278⟩, A180, H⟩ := H
          replace H : (if t278 = 0 then (antipodelaw16_LexJoins.j2 kj10 a0 t269 t273 t277 ((t277.length : Int) != (wrap64 ((wrap64 ((t269.length : Int) + (t273.length : Int))) - 1)))) else (antipodelaw16_LexJoins.j2 kj10 a0 t269 t273 t277 true)) = some r := H
          have A18 := Aside0.mk A180
          clear A180
          have HC19 := Aside0.mk H
          clear H
          go_upto_region 10 with (first | (go_at_call 8; (with_reducible refine (lex_Lex.calls kj10 ((a0 ++ (⟨#[10]⟩ : ByteArray)) ++ a1) t277 t278 _ A18.out).mono ?_); rintro e w20 ⟨v279, rfl, ho0, hb⟩; have n0_ := Aside0.mk (Kd.R_elder' (by (with_reducible repeat (first | apply Kd.R_alloc | apply Kd.R_drewN | apply Kd.R_drew)); exact HO_5.out) (Kd.R_base ho0) hb); have n1_ := Aside0.mk (Kd.R_elder' (by (with_reducible repeat (first | apply Kd.R_alloc | apply Kd.R_drewN | apply Kd.R_drew)); exact HO_7.out) (Kd.R_base ho0) hb); have n2_ := Aside0.mk (Kd.R_lower (Kd.R_new' (Kd.R_new' ho0 (Kd.R_lt (by (with_reducible repeat (first | apply Kd.R_alloc | apply Kd.R_drewN | apply Kd.R_drew)); exact HO_5.out))) (Kd.R_lt (by (with_reducible repeat (first | apply Kd.R_alloc | apply Kd.R_drewN | apply Kd.R_drew)); exact HO_7.out))) (below_size (by repeat (first | (with_reducible first | exact HB.out | apply below_alloc | apply pw_below_drewN | apply below_drew1) | exact HB.out)))); have n3_ := Aside0.mk (below_step (by repeat (first | (with_reducible first | exact HB.out | apply below_alloc | apply pw_below_drewN | apply below_drew1) | exact HB.out)) hb); clear HO_5; clear HO_7; clear HB; have HO_5 := n0_; have HO_7 := n1_; have HO280 := n2_; have HB := n3_; clear n0_ n1_ n2_ n3_; (try clear hb); (try clear hb2); (try clear hk); (try clear hi); (try clear ho0)))
          repeat (go_quiet (first | (go_at_call 8; (with_reducible refine (lex_Lex.calls kj10 ((a0 ++ (⟨#[10]⟩ : ByteArray)) ++ a1) t277 t278 _ A18.out).mono ?_); rintro e w20 ⟨v279, rfl, ho0, hb⟩; have n0_ := Aside0.mk (Kd.R_elder' (by (with_reducible repeat (first | apply Kd.R_alloc | apply Kd.R_drewN | apply Kd.R_drew)); exact HO_5.out) (Kd.R_base ho0) hb); have n1_ := Aside0.mk (Kd.R_elder' (by (with_reducible repeat (first | apply Kd.R_alloc | apply Kd.R_drewN | apply Kd.R_drew)); exact HO_7.out) (Kd.R_base ho0) hb); have n2_ := Aside0.mk (Kd.R_lower (Kd.R_new' (Kd.R_new' ho0 (Kd.R_lt (by (with_reducible repeat (first | apply Kd.R_alloc | apply Kd.R_drewN | apply Kd.R_drew)); exact HO_5.out))) (Kd.R_lt (by (with_reducible repeat (first | apply Kd.R_alloc | apply Kd.R_drewN | apply Kd.R_drew)); exact HO_7.out))) (below_size (by repeat (first | (with_reducible first | exact HB.out | apply below_alloc | apply pw_below_drewN | apply below_drew1) | exact HB.out)))); have n3_ := Aside0.mk (below_step (by repeat (first | (with_reducible first | exact HB.out | apply below_alloc | apply pw_below_drewN | apply below_drew1) | exact HB.out)) hb); clear HO_5; clear HO_7; clear HB; have HO_5 := n0_; have HO_7 := n1_; have HO280 := n2_; have HB := n3_; clear n0_ n1_ n2_ n3_; (try clear hb); (try clear hb2); (try clear hk); (try clear hi); (try clear ho0))); go_upto_region 10 with (first | (go_at_call 8; (with_reducible refine (lex_Lex.calls kj10 ((a0 ++ (⟨#[10]⟩ : ByteArray)) ++ a1) t277 t278 _ A18.out).mono ?_); rintro e w20 ⟨v279, rfl, ho0, hb⟩; have n0_ := Aside0.mk (Kd.R_elder' (by (with_reducible repeat (first | apply Kd.R_alloc | apply Kd.R_drewN | apply Kd.R_drew)); exact HO_5.out) (Kd.R_base ho0) hb); have n1_ := Aside0.mk (Kd.R_elder' (by (with_reducible repeat (first | apply Kd.R_alloc | apply Kd.R_drewN | apply Kd.R_drew)); exact HO_7.out) (Kd.R_base ho0) hb); have n2_ := Aside0.mk (Kd.R_lower (Kd.R_new' (Kd.R_new' ho0 (Kd.R_lt (by (with_reducible repeat (first | apply Kd.R_alloc | apply Kd.R_drewN | apply Kd.R_drew)); exact HO_5.out))) (Kd.R_lt (by (with_reducible repeat (first | apply Kd.R_alloc | apply Kd.R_drewN | apply Kd.R_drew)); exact HO_7.out))) (below_size (by repeat (first | (with_reducible first | exact HB.out | apply below_alloc | apply pw_below_drewN | apply below_drew1) | exact HB.out)))); have n3_ := Aside0.mk (below_step (by repeat (first | (with_reducible first | exact HB.out | apply below_alloc | apply pw_below_drewN | apply below_drew1) | exact HB.out)) hb); clear HO_5; clear HO_7; clear HB; have HO_5 := n0_; have HO_7 := n1_; have HO280 := n2_; have HB := n3_; clear n0_ n1_ n2_ n3_; (try clear hb); (try clear hb2); (try clear hk); (try clear hi); (try clear ho0))))
          (try simp only [Act.put, List.setIfInBounds_toArray, List.set_cons_zero, List.set_cons_succ])
          go_cut [59] (fun v59 wc => ∃ (kq : Nat) (x59_18 : Bool), v59 = .bool x59_18 ∧ Aside0 (antipodelaw16_LexJoins.j2 kq a0 t269 t273 t277 x59_18 = some r) ∧ Aside0 (kq ≤ kj10) ∧ Aside0 (Kd.R k28 28 wc w.heap.size (fun k_ => some k_ ≠ (v275 : Value).ownBlock ∧ some k_ ≠ (v279 : Value).ownBlock) v271 t269) ∧ Aside0 (Kd.R k28 28 wc w.heap.size (fun k_ => some k_ ≠ (v271 : Value).ownBlock ∧ some k_ ≠ (v279 : Value).ownBlock) v275 t273) ∧ Aside0 (Kd.R k28 28 wc w.heap.size (fun k_ => some k_ ≠ (v271 : Value).ownBlock ∧ some k_ ≠ (v275 : Value).ownBlock) v279 t277) ∧ Aside0 (Below w.heap.size w wc))
          case first =>
           have H := HC19.out
           clear HC19
           by_cases c21 : t278 = 0
           ·rw [if_pos c21] at H
            have c21b0 : (t278 == 0) = true := beq_iff_eq.mpr c21
            have c21b1 : (t278 != 0) = false := bne_eq_false_iff_eq.mpr c21
            clear c21
            (first | rw [c21b0] | (simp only [i64_w, i32_w]; rw [c21b0]) | skip)
            have H' := Aside0.mk H
            clear H
            obtain ⟨Ao22, co22, eo22⟩ := Kd.R_slice HO280.out
            subst eo22
            obtain ⟨Ao23, co23, eo23⟩ := Kd.R_slice HO_5.out
            subst eo23
            obtain ⟨Ao24, co24, eo24⟩ := Kd.R_slice HO_7.out
            subst eo24
            go_wp2
            repeat (go_quiet (fail); try go_wp2)
            go_meet
            case rel => exact ⟨_, (((t277.length : Int) != (wrap64 ((wrap64 ((t269.length : Int) + (t273.length : Int))) - 1)))), (by first | rfl | (simp; done) | (simp [*]; done)), H', ⟨by have := HJ4.out; have := HJ10.out; first | omega | exact Nat.le_refl _⟩, ⟨by (with_reducible repeat (first | apply Kd.R_alloc | apply Kd.R_drewN | apply Kd.R_drew)); exact HO_5.out⟩, ⟨by (with_reducible repeat (first | apply Kd.R_alloc | apply Kd.R_drewN | apply Kd.R_drew)); exact HO_7.out⟩, ⟨by (with_reducible repeat (first | apply Kd.R_alloc | apply Kd.R_drewN | apply Kd.R_drew)); exact Kd.R_mono HO280.out (fun _ hk => ⟨hk.1.2, hk.2⟩)⟩, ⟨by repeat (first | (with_reducible first | exact HB.out | apply below_alloc | apply pw_below_drewN | apply below_drew1) | exact HB.out)⟩⟩
           ·rw [if_neg c21] at H
            have c21b0 : (t278 == 0) = false := beq_eq_false_iff_ne.mpr c21
            have c21b1 : (t278 != 0) = true := bne_iff_ne.mpr c21
            (first | rw [c21b0] | (simp only [i64_w, i32_w]; rw [c21b0]) | skip)
            have H' := Aside0.mk H
            clear H
            go_wp2
            repeat (go_quiet (fail); try go_wp2)
            go_meet
            case rel => exact ⟨_, (true), (by first | rfl | (simp; done) | (simp [*]; done)), H', ⟨by have := HJ4.out; have := HJ10.out; first | omega | exact Nat.le_refl _⟩, ⟨by (with_reducible repeat (first | apply Kd.R_alloc | apply Kd.R_drewN | apply Kd.R_drew)); exact HO_5.out⟩, ⟨by (with_reducible repeat (first | apply Kd.R_alloc | apply Kd.R_drewN | apply Kd.R_drew)); exact HO_7.out⟩, ⟨by (with_reducible repeat (first | apply Kd.R_alloc | apply Kd.R_drewN | apply Kd.R_drew)); exact Kd.R_mono HO280.out (fun _ hk => ⟨hk.1.2, hk.2⟩)⟩, ⟨by repeat (first | (with_reducible first | exact HB.out | apply below_alloc | apply pw_below_drewN | apply below_drew1) | exact HB.out)⟩⟩
          case rest =>
           clear HC19
           try clear c1
           try clear c2
           try clear p2
           try clear c4
           try clear c6
           try clear p6
           try clear c7
           try clear c7b0
           try clear c7b1
           try clear c8
           try clear c14
           try clear c14b0
           try clear c14b1
           try clear c15
           try clear c16
           try clear c16b0
           try clear c16b1
           try clear c16b2
           try clear c17
           try clear c17b0
           try clear c17b1
           try clear c17b2
           try clear c21
           try clear c21b0
           try clear c21b1
           try clear p2
           obtain ⟨kq, x59_18, rfl, HA, HJ18, HO_5, HO_7, HO_9, HB⟩ := hcut
           cases kq with
           | zero => exact absurd HA.out (by simp [antipodelaw16_LexJoins.j2])
           | succ kj18 =>
            have H := HA.out
            clear HA
            simp only [antipodelaw16_LexJoins.j2] at H
            by_cases c25 : x59_18 = true
            ·subst c25
             have H1 : (some false) = some r := by rw [if_pos rfl] at H; exact H
             clear H
             have H := H1
             clear H1
             obtain rfl := Option.some.inj H
             go_wp2
             repeat (go_quiet (fail); try go_wp2)
             go_ret
             exact ⟨by first | rfl | (simp [errW_none, errW_some] <;> rfl) | (simp [*, errW_none, errW_some] <;> rfl), by repeat (first | (with_reducible first | exact HB.out | apply below_alloc | apply pw_below_drewN | apply below_drew1) | exact HB.out)⟩
            ·replace c25 := Bool.eq_false_iff.mpr c25
             subst c25
             have H1 : (antipodelaw16_LexJoins.l0 kj18 a0 t269 t273 t277 0) = some r := by rw [if_neg (show ¬ (false = true) by decide)] at H; exact H
             clear H
             have H := H1
             clear H1
             have H' := Aside0.mk H
             clear H
             go_wp2
             repeat (go_quiet (fail); try go_wp2)
             go_loopg [11] kj18 (fun kq v11 w' => ∃ (x11_4 : Int), v11 = .int .i64 x11_4 ∧ Aside0 (antipodelaw16_LexJoins.l0 kq a0 t269 t273 t277 x11_4 = some r) ∧ Aside0 (kq ≤ kj18) ∧ Aside0 (Kd.R k28 28 w' w.heap.size (fun k_ => some k_ ≠ (v275 : Value).ownBlock ∧ some k_ ≠ (v279 : Value).ownBlock) v271 t269) ∧ Aside0 (Kd.R k28 28 w' w.heap.size (fun k_ => some k_ ≠ (v271 : Value).ownBlock ∧ some k_ ≠ (v279 : Value).ownBlock) v275 t273) ∧ Aside0 (Kd.R k28 28 w' w.heap.size (fun k_ => some k_ ≠ (v271 : Value).ownBlock ∧ some k_ ≠ (v275 : Value).ownBlock) v279 t277) ∧ Aside0 (Below w.heap.size w w'))
             case atStart => exact ⟨(0), (by first | rfl | (simp; done) | (simp [*]; done)), H', ⟨Nat.le_refl _⟩, ⟨by (with_reducible repeat (first | apply Kd.R_alloc | apply Kd.R_drewN | apply Kd.R_drew)); exact HO_5.out⟩, ⟨by (with_reducible repeat (first | apply Kd.R_alloc | apply Kd.R_drewN | apply Kd.R_drew)); exact HO_7.out⟩, ⟨by (with_reducible repeat (first | apply Kd.R_alloc | apply Kd.R_drewN | apply Kd.R_drew)); exact HO_9.out⟩, ⟨by repeat (first | (with_reducible first | exact HB.out | apply below_alloc | apply pw_below_drewN | apply below_drew1) | exact HB.out)⟩⟩
             case round =>
              clear H'
              try clear c1
              try clear c2
              try clear p2
              try clear c4
              try clear c6
              try clear p6
              try clear c7
              try clear c7b0
              try clear c7b1
              try clear c8
              try clear c14
              try clear c14b0
              try clear c14b1
              try clear c15
              try clear c16
              try clear c16b0
              try clear c16b1
              try clear c16b2
              try clear c17
              try clear c17b0
              try clear c17b1
              try clear c17b2
              try clear c21
              try clear c21b0
              try clear c21b1
              try clear c25
              try clear p2
              try clear p6
              obtain ⟨x11_4, rfl, HA, HK4, HO_5, HO_7, HO_9, HB⟩ := hrel
              cases gk with
              | zero => exact absurd HA.out (by simp [antipodelaw16_LexJoins.l0])
              | succ k4 =>
               have H := HA.out
               clear HA
               simp only [antipodelaw16_LexJoins.l0] at H
               by_cases c26 : x11_4 < (t277.length : Int)
               ·rw [if_pos c26] at H
                have c26b0 : decide (x11_4 < (t277.length : Int)) = true := decide_eq_true c26
                clear c26
                have HC27 := Aside0.mk H
                clear H
                obtain ⟨Ao28, co28, eo28⟩ := Kd.R_slice HO_9.out
                subst eo28
                go_upto_if 71 with (first | ((with_reducible refine gate_dst (N := 12) rfl ?_); (try (refine gate_guard (by rfl) ?_; dsimp only)); refine box_event ?hg (N := 12) ?hd (cs := #[.int .i64 0, .int .i64 0, .string (⟨#[]⟩ : ByteArray), .int .i64 0]) (t := 28) ?hr ?_; (case hd => rfl); (case hg => rfl); (case hr => first | (go_simp; done) | (go_simp; rfl)); intro gb281 hg w29 hbox hb; have n0_ := Aside0.mk (Kd.R_below (Kd.R_elderB (by (with_reducible repeat (first | apply Kd.R_alloc | apply Kd.R_drewN | apply Kd.R_drew)); exact HO_5.out) gb281 (Nat.le_of_eq hg.symm)) hb); have n1_ := Aside0.mk (Kd.R_below (Kd.R_elderB (by (with_reducible repeat (first | apply Kd.R_alloc | apply Kd.R_drewN | apply Kd.R_drew)); exact HO_7.out) gb281 (Nat.le_of_eq hg.symm)) hb); have n2_ := Aside0.mk (Kd.R_below (Kd.R_elderB (by (with_reducible repeat (first | apply Kd.R_alloc | apply Kd.R_drewN | apply Kd.R_drew)); exact HO_9.out) gb281 (Nat.le_of_eq hg.symm)) hb); have n3_ := Aside0.mk (below_step (by repeat (first | (with_reducible first | exact HB.out | apply below_alloc | apply pw_below_drewN | apply below_drew1) | exact HB.out)) hb); have n4_ := Aside0.mk (hbox); have n5_ := Aside0.mk ((by rw [hg]; exact (below_size (by repeat (first | (with_reducible first | exact HB.out | apply below_alloc | apply pw_below_drewN | apply below_drew1) | exact HB.out))) : w.heap.size ≤ gb281)); have n6_ := Aside0.mk ((by rw [hg]; exact (below_size (by repeat (first | (with_reducible first | exact HB.out | apply below_alloc | apply pw_below_drewN | apply below_drew1) | exact HB.out))) : w.heap.size ≤ gb281)); clear HO_5; clear HO_7; clear HO_9; clear HB; have HO_5 := n0_; have HO_7 := n1_; have HO_9 := n2_; have HB := n3_; have BK281 := n4_; have GW281 := n5_; have GE281 := n6_; clear n0_ n1_ n2_ n3_ n4_ n5_ n6_; clear hb hbox hg; have hcz30_0 : w29.cell? ⟨gb281, 0, none⟩ = some (.int .i64 0) := (blk_cell BK281.out 0).trans rfl; have hcz30_1 : w29.cell? ⟨gb281, 1, none⟩ = some (.int .i64 0) := (blk_cell BK281.out 1).trans rfl; have hcz30_2 : w29.cell? ⟨gb281, 2, none⟩ = some (.string (⟨#[]⟩ : ByteArray)) := (blk_cell BK281.out 2).trans rfl; have hcz30_3 : w29.cell? ⟨gb281, 3, none⟩ = some (.int .i64 0) := (blk_cell BK281.out 3).trans rfl; have hfz30_0 := blk_frozen BK281.out 0; have hfz30_1 := blk_frozen BK281.out 1; have hfz30_2 := blk_frozen BK281.out 2; have hfz30_3 := blk_frozen BK281.out 3; obtain ⟨Ao31, co31, eo31⟩ := Kd.R_slice HO_5.out; subst eo31))
                repeat (go_quiet (first | ((with_reducible refine gate_dst (N := 12) rfl ?_); (try (refine gate_guard (by rfl) ?_; dsimp only)); refine box_event ?hg (N := 12) ?hd (cs := #[.int .i64 0, .int .i64 0, .string (⟨#[]⟩ : ByteArray), .int .i64 0]) (t := 28) ?hr ?_; (case hd => rfl); (case hg => rfl); (case hr => first | (go_simp; done) | (go_simp; rfl)); intro gb281 hg w29 hbox hb; have n0_ := Aside0.mk (Kd.R_below (Kd.R_elderB (by (with_reducible repeat (first | apply Kd.R_alloc | apply Kd.R_drewN | apply Kd.R_drew)); exact HO_5.out) gb281 (Nat.le_of_eq hg.symm)) hb); have n1_ := Aside0.mk (Kd.R_below (Kd.R_elderB (by (with_reducible repeat (first | apply Kd.R_alloc | apply Kd.R_drewN | apply Kd.R_drew)); exact HO_7.out) gb281 (Nat.le_of_eq hg.symm)) hb); have n2_ := Aside0.mk (Kd.R_below (Kd.R_elderB (by (with_reducible repeat (first | apply Kd.R_alloc | apply Kd.R_drewN | apply Kd.R_drew)); exact HO_9.out) gb281 (Nat.le_of_eq hg.symm)) hb); have n3_ := Aside0.mk (below_step (by repeat (first | (with_reducible first | exact HB.out | apply below_alloc | apply pw_below_drewN | apply below_drew1) | exact HB.out)) hb); have n4_ := Aside0.mk (hbox); have n5_ := Aside0.mk ((by rw [hg]; exact (below_size (by repeat (first | (with_reducible first | exact HB.out | apply below_alloc | apply pw_below_drewN | apply below_drew1) | exact HB.out))) : w.heap.size ≤ gb281)); have n6_ := Aside0.mk ((by rw [hg]; exact (below_size (by repeat (first | (with_reducible first | exact HB.out | apply below_alloc | apply pw_below_drewN | apply below_drew1) | exact HB.out))) : w.heap.size ≤ gb281)); clear HO_5; clear HO_7; clear HO_9; clear HB; have HO_5 := n0_; have HO_7 := n1_; have HO_9 := n2_; have HB := n3_; have BK281 := n4_; have GW281 := n5_; have GE281 := n6_; clear n0_ n1_ n2_ n3_ n4_ n5_ n6_; clear hb hbox hg; have hcz30_0 : w29.cell? ⟨gb281, 0, none⟩ = some (.int .i64 0) := (blk_cell BK281.out 0).trans rfl; have hcz30_1 : w29.cell? ⟨gb281, 1, none⟩ = some (.int .i64 0) := (blk_cell BK281.out 1).trans rfl; have hcz30_2 : w29.cell? ⟨gb281, 2, none⟩ = some (.string (⟨#[]⟩ : ByteArray)) := (blk_cell BK281.out 2).trans rfl; have hcz30_3 : w29.cell? ⟨gb281, 3, none⟩ = some (.int .i64 0) := (blk_cell BK281.out 3).trans rfl; have hfz30_0 := blk_frozen BK281.out 0; have hfz30_1 := blk_frozen BK281.out 1; have hfz30_2 := blk_frozen BK281.out 2; have hfz30_3 := blk_frozen BK281.out 3; obtain ⟨Ao31, co31, eo31⟩ := Kd.R_slice HO_5.out; subst eo31)); go_upto_if 71 with (first | ((with_reducible refine gate_dst (N := 12) rfl ?_); (try (refine gate_guard (by rfl) ?_; dsimp only)); refine box_event ?hg (N := 12) ?hd (cs := #[.int .i64 0, .int .i64 0, .string (⟨#[]⟩ : ByteArray), .int .i64 0]) (t := 28) ?hr ?_; (case hd => rfl); (case hg => rfl); (case hr => first | (go_simp; done) | (go_simp; rfl)); intro gb281 hg w29 hbox hb; have n0_ := Aside0.mk (Kd.R_below (Kd.R_elderB (by (with_reducible repeat (first | apply Kd.R_alloc | apply Kd.R_drewN | apply Kd.R_drew)); exact HO_5.out) gb281 (Nat.le_of_eq hg.symm)) hb); have n1_ := Aside0.mk (Kd.R_below (Kd.R_elderB (by (with_reducible repeat (first | apply Kd.R_alloc | apply Kd.R_drewN | apply Kd.R_drew)); exact HO_7.out) gb281 (Nat.le_of_eq hg.symm)) hb); have n2_ := Aside0.mk (Kd.R_below (Kd.R_elderB (by (with_reducible repeat (first | apply Kd.R_alloc | apply Kd.R_drewN | apply Kd.R_drew)); exact HO_9.out) gb281 (Nat.le_of_eq hg.symm)) hb); have n3_ := Aside0.mk (below_step (by repeat (first | (with_reducible first | exact HB.out | apply below_alloc | apply pw_below_drewN | apply below_drew1) | exact HB.out)) hb); have n4_ := Aside0.mk (hbox); have n5_ := Aside0.mk ((by rw [hg]; exact (below_size (by repeat (first | (with_reducible first | exact HB.out | apply below_alloc | apply pw_below_drewN | apply below_drew1) | exact HB.out))) : w.heap.size ≤ gb281)); have n6_ := Aside0.mk ((by rw [hg]; exact (below_size (by repeat (first | (with_reducible first | exact HB.out | apply below_alloc | apply pw_below_drewN | apply below_drew1) | exact HB.out))) : w.heap.size ≤ gb281)); clear HO_5; clear HO_7; clear HO_9; clear HB; have HO_5 := n0_; have HO_7 := n1_; have HO_9 := n2_; have HB := n3_; have BK281 := n4_; have GW281 := n5_; have GE281 := n6_; clear n0_ n1_ n2_ n3_ n4_ n5_ n6_; clear hb hbox hg; have hcz30_0 : w29.cell? ⟨gb281, 0, none⟩ = some (.int .i64 0) := (blk_cell BK281.out 0).trans rfl; have hcz30_1 : w29.cell? ⟨gb281, 1, none⟩ = some (.int .i64 0) := (blk_cell BK281.out 1).trans rfl; have hcz30_2 : w29.cell? ⟨gb281, 2, none⟩ = some (.string (⟨#[]⟩ : ByteArray)) := (blk_cell BK281.out 2).trans rfl; have hcz30_3 : w29.cell? ⟨gb281, 3, none⟩ = some (.int .i64 0) := (blk_cell BK281.out 3).trans rfl; have hfz30_0 := blk_frozen BK281.out 0; have hfz30_1 := blk_frozen BK281.out 1; have hfz30_2 := blk_frozen BK281.out 2; have hfz30_3 := blk_frozen BK281.out 3; obtain ⟨Ao31, co31, eo31⟩ := Kd.R_slice HO_5.out; subst eo31)))
                (try simp only [Act.put, List.setIfInBounds_toArray, List.set_cons_zero, List.set_cons_succ])
                go_cut [] (fun wc => ∃ (kq : Nat) (x282000_26 : Int) (x282001_26 : Int) (x282002_26 : ByteArray) (x282003_26 : Int), Aside0 (antipodelaw16_LexJoins.j4 kq a0 t269 t273 t277 x11_4 x282000_26 x282001_26 x282002_26 x282003_26 = some r) ∧ Aside0 (kq ≤ k4) ∧ Aside0 (Kd.R k28 28 wc w.heap.size (fun k_ => some k_ ≠ (v275 : Value).ownBlock ∧ some k_ ≠ ((.slice Ao28 t277.length co28) : Value).ownBlock ∧ k_ ≠ gb281) (.slice Ao31 t269.length co31) t269) ∧ Aside0 (Kd.R k28 28 wc w.heap.size (fun k_ => some k_ ≠ ((.slice Ao31 t269.length co31) : Value).ownBlock ∧ some k_ ≠ ((.slice Ao28 t277.length co28) : Value).ownBlock ∧ k_ ≠ gb281) v275 t273) ∧ Aside0 (Kd.R k28 28 wc w.heap.size (fun k_ => some k_ ≠ ((.slice Ao31 t269.length co31) : Value).ownBlock ∧ some k_ ≠ (v275 : Value).ownBlock ∧ k_ ≠ gb281) (.slice Ao28 t277.length co28) t277) ∧ Aside0 (wc.heap[gb281]? = some (.cells #[.int .i64 x282000_26, .int .i64 x282001_26, .string x282002_26, .int .i64 x282003_26] 28 (0, 0))) ∧ Aside0 (Below w.heap.size w wc))
                case first =>
                 have H := HC27.out
                 clear HC27
                 by_cases c32 : x11_4 < (wrap64 ((t269.length : Int) - 1))
                 ·rw [if_pos c32] at H
                  have c32b0 : decide (x11_4 < (wrap64 ((t269.length : Int) - 1))) = true := decide_eq_true c32
                  clear c32
                  (first | rw [c32b0] | (simp only [i64_w, i32_w]; rw [c32b0]) | skip)
                  by_cases c33 : 0 ≤ x11_4
                  ·rw [if_pos c33] at H
                   have c33b0 : decide (0 ≤ x11_4) = true := decide_eq_true c33
                   clear c33
                   by_cases c34 : x11_4 < (t269.length : Int)
                   ·rw [if_pos c34] at H
                    have c34b0 : decide (x11_4 < (t269.length : Int)) = true := decide_eq_true c34
                    clear c34
                    have H' := Aside0.mk H
                    clear H
                    have p282 : 0 ≤ (x11_4 : Int) := of_decide_eq_true (by assumption)
                    have q282 : x11_4 < (t269.length : Int) := of_decide_eq_true (by assumption)
                    obtain ⟨ad282, e282, hx282_0, hx282_1, hx282_2, hx282_3⟩ := at_T28 (Kd.R_reads' HO_5.out).2.2 x11_4 p282 q282
                    cases e282
                    have hn282_0 : ad282.block ≠ gb281 := (by first | exact Kd.own_blk (Kd.R_ne HO_5.out BK281.out (by decide)) | exact Kd.own_blk (Kd.R_away HO_5.out (fun _ hk => hk.2)))
                    have hn282_1 : ad282.block ≠ gb281 := (by first | exact Kd.own_blk (Kd.R_ne HO_5.out BK281.out (by decide)) | exact Kd.own_blk (Kd.R_away HO_5.out (fun _ hk => hk.2)))
                    have hn282_2 : ad282.block ≠ gb281 := (by first | exact Kd.own_blk (Kd.R_ne HO_5.out BK281.out (by decide)) | exact Kd.own_blk (Kd.R_away HO_5.out (fun _ hk => hk.2)))
                    have hn282_3 : ad282.block ≠ gb281 := (by first | exact Kd.own_blk (Kd.R_ne HO_5.out BK281.out (by decide)) | exact Kd.own_blk (Kd.R_away HO_5.out (fun _ hk => hk.2)))
                    replace hx282_0 := (cell_far (p := ⟨gb281, 0, none⟩) (by first | exact hn282_0 | exact abn hn282_0) (.int .i64 0)).trans hx282_0
                    replace hx282_1 := (cell_far (p := ⟨gb281, 0, none⟩) (by first | exact hn282_0 | exact abn hn282_0) (.int .i64 0)).trans hx282_1
                    replace hx282_2 := (cell_far (p := ⟨gb281, 0, none⟩) (by first | exact hn282_0 | exact abn hn282_0) (.int .i64 0)).trans hx282_2
                    replace hx282_3 := (cell_far (p := ⟨gb281, 0, none⟩) (by first | exact hn282_0 | exact abn hn282_0) (.int .i64 0)).trans hx282_3
                    replace hx282_0 := (cell_far (p := ⟨gb281, 1, none⟩) (by first | exact hn282_1 | exact abn hn282_1) (.int .i64 0)).trans hx282_0
                    replace hx282_1 := (cell_far (p := ⟨gb281, 1, none⟩) (by first | exact hn282_1 | exact abn hn282_1) (.int .i64 0)).trans hx282_1
                    replace hx282_2 := (cell_far (p := ⟨gb281, 1, none⟩) (by first | exact hn282_1 | exact abn hn282_1) (.int .i64 0)).trans hx282_2
                    replace hx282_3 := (cell_far (p := ⟨gb281, 1, none⟩) (by first | exact hn282_1 | exact abn hn282_1) (.int .i64 0)).trans hx282_3
                    replace hx282_0 := (cell_far (p := ⟨gb281, 2, none⟩) (by first | exact hn282_2 | exact abn hn282_2) (.string (⟨#[]⟩ : ByteArray))).trans hx282_0
                    replace hx282_1 := (cell_far (p := ⟨gb281, 2, none⟩) (by first | exact hn282_2 | exact abn hn282_2) (.string (⟨#[]⟩ : ByteArray))).trans hx282_1
                    replace hx282_2 := (cell_far (p := ⟨gb281, 2, none⟩) (by first | exact hn282_2 | exact abn hn282_2) (.string (⟨#[]⟩ : ByteArray))).trans hx282_2
                    replace hx282_3 := (cell_far (p := ⟨gb281, 2, none⟩) (by first | exact hn282_2 | exact abn hn282_2) (.string (⟨#[]⟩ : ByteArray))).trans hx282_3
                    replace hx282_0 := (cell_far (p := ⟨gb281, 3, none⟩) (by first | exact hn282_3 | exact abn hn282_3) (.int .i64 0)).trans hx282_0
                    replace hx282_1 := (cell_far (p := ⟨gb281, 3, none⟩) (by first | exact hn282_3 | exact abn hn282_3) (.int .i64 0)).trans hx282_1
                    replace hx282_2 := (cell_far (p := ⟨gb281, 3, none⟩) (by first | exact hn282_3 | exact abn hn282_3) (.int .i64 0)).trans hx282_2
                    replace hx282_3 := (cell_far (p := ⟨gb281, 3, none⟩) (by first | exact hn282_3 | exact abn hn282_3) (.int .i64 0)).trans hx282_3
                    (try have hy282_0 := fun (n_ : Nat) => (show ((((((w29.drewN n_).setCell ⟨gb281, 0, none⟩ (.int .i64 0)).setCell ⟨gb281, 1, none⟩ (.int .i64 0)).setCell ⟨gb281, 2, none⟩ (.string (⟨#[]⟩ : ByteArray))).setCell ⟨gb281, 3, none⟩ (.int .i64 0))).cell? _ = some _ from hx282_0))
                    (try have hy282_1 := fun (n_ : Nat) => (show ((((((w29.drewN n_).setCell ⟨gb281, 0, none⟩ (.int .i64 0)).setCell ⟨gb281, 1, none⟩ (.int .i64 0)).setCell ⟨gb281, 2, none⟩ (.string (⟨#[]⟩ : ByteArray))).setCell ⟨gb281, 3, none⟩ (.int .i64 0))).cell? _ = some _ from hx282_1))
                    (try have hy282_2 := fun (n_ : Nat) => (show ((((((w29.drewN n_).setCell ⟨gb281, 0, none⟩ (.int .i64 0)).setCell ⟨gb281, 1, none⟩ (.int .i64 0)).setCell ⟨gb281, 2, none⟩ (.string (⟨#[]⟩ : ByteArray))).setCell ⟨gb281, 3, none⟩ (.int .i64 0))).cell? _ = some _ from hx282_2))
                    (try have hy282_3 := fun (n_ : Nat) => (show ((((((w29.drewN n_).setCell ⟨gb281, 0, none⟩ (.int .i64 0)).setCell ⟨gb281, 1, none⟩ (.int .i64 0)).setCell ⟨gb281, 2, none⟩ (.string (⟨#[]⟩ : ByteArray))).setCell ⟨gb281, 3, none⟩ (.int .i64 0))).cell? _ = some _ from hx282_3))
                    clear hn282_0
                    clear hn282_1
                    clear hn282_2
                    clear hn282_3
                    replace p282 := eq_true p282
                    replace q282 := eq_true q282
                    have hcz35_0 : w29.cell? ⟨gb281, 0, none⟩ = some (.int .i64 0) := (blk_cell BK281.out 0).trans rfl
                    have hcz35_1 : w29.cell? ⟨gb281, 1, none⟩ = some (.int .i64 0) := (blk_cell BK281.out 1).trans rfl
                    have hcz35_2 : w29.cell? ⟨gb281, 2, none⟩ = some (.string (⟨#[]⟩ : ByteArray)) := (blk_cell BK281.out 2).trans rfl
                    have hcz35_3 : w29.cell? ⟨gb281, 3, none⟩ = some (.int .i64 0) := (blk_cell BK281.out 3).trans rfl
                    have hfz35_0 := blk_frozen BK281.out 0
                    have hfz35_1 := blk_frozen BK281.out 1
                    have hfz35_2 := blk_frozen BK281.out 2
                    have hfz35_3 := blk_frozen BK281.out 3
                    go_wp2
                    repeat (go_quiet (fail); try go_wp2)
                    go_meet
                    case rel => exact ⟨_, ((rd_T28 t269 x11_4).f0), ((rd_T28 t269 x11_4).f1), ((rd_T28 t269 x11_4).f2), ((rd_T28 t269 x11_4).f3), H', ⟨by have := HJ4.out; have := HJ10.out; have := HJ18.out; have := HK4.out; first | omega | exact Nat.le_refl _⟩, ⟨by (with_reducible repeat (first | apply Kd.R_alloc | apply Kd.R_drewN | apply Kd.R_drew)); exact Kd.R_mono (Kd.R_far (p := ⟨gb281, 3, none⟩) (Kd.R_far (p := ⟨gb281, 2, none⟩) (Kd.R_far (p := ⟨gb281, 1, none⟩) (Kd.R_far (p := ⟨gb281, 0, none⟩) (Kd.R_far (p := ⟨gb281, 3, none⟩) (Kd.R_far (p := ⟨gb281, 2, none⟩) (Kd.R_far (p := ⟨gb281, 1, none⟩) (Kd.R_far (p := ⟨gb281, 0, none⟩) (Kd.R_mono HO_5.out (fun k_ hk => (⟨hk, hk.2⟩ : _ ∧ k_ ≠ gb281))) (fun _ hk => hk.2) (.int .i64 0)) (fun _ hk => hk.2) (.int .i64 0)) (fun _ hk => hk.2) (.string (⟨#[]⟩ : ByteArray))) (fun _ hk => hk.2) (.int .i64 0)) (fun _ hk => hk.2) (.int .i64 ((rd_T28 t269 x11_4).f0))) (fun _ hk => hk.2) (.int .i64 ((rd_T28 t269 x11_4).f1))) (fun _ hk => hk.2) (.string ((rd_T28 t269 x11_4).f2))) (fun _ hk => hk.2) (.int .i64 ((rd_T28 t269 x11_4).f3))) (fun _ hk => ⟨hk.1.1.1, ⟨hk.1.1.2, hk.1.2⟩⟩)⟩, ⟨by (with_reducible repeat (first | apply Kd.R_alloc | apply Kd.R_drewN | apply Kd.R_drew)); exact Kd.R_mono (Kd.R_far (p := ⟨gb281, 3, none⟩) (Kd.R_far (p := ⟨gb281, 2, none⟩) (Kd.R_far (p := ⟨gb281, 1, none⟩) (Kd.R_far (p := ⟨gb281, 0, none⟩) (Kd.R_far (p := ⟨gb281, 3, none⟩) (Kd.R_far (p := ⟨gb281, 2, none⟩) (Kd.R_far (p := ⟨gb281, 1, none⟩) (Kd.R_far (p := ⟨gb281, 0, none⟩) (Kd.R_mono HO_7.out (fun k_ hk => (⟨hk, hk.2⟩ : _ ∧ k_ ≠ gb281))) (fun _ hk => hk.2) (.int .i64 0)) (fun _ hk => hk.2) (.int .i64 0)) (fun _ hk => hk.2) (.string (⟨#[]⟩ : ByteArray))) (fun _ hk => hk.2) (.int .i64 0)) (fun _ hk => hk.2) (.int .i64 ((rd_T28 t269 x11_4).f0))) (fun _ hk => hk.2) (.int .i64 ((rd_T28 t269 x11_4).f1))) (fun _ hk => hk.2) (.string ((rd_T28 t269 x11_4).f2))) (fun _ hk => hk.2) (.int .i64 ((rd_T28 t269 x11_4).f3))) (fun _ hk => ⟨hk.1.1.1, ⟨hk.1.1.2, hk.1.2⟩⟩)⟩, ⟨by (with_reducible repeat (first | apply Kd.R_alloc | apply Kd.R_drewN | apply Kd.R_drew)); exact Kd.R_mono (Kd.R_far (p := ⟨gb281, 3, none⟩) (Kd.R_far (p := ⟨gb281, 2, none⟩) (Kd.R_far (p := ⟨gb281, 1, none⟩) (Kd.R_far (p := ⟨gb281, 0, none⟩) (Kd.R_far (p := ⟨gb281, 3, none⟩) (Kd.R_far (p := ⟨gb281, 2, none⟩) (Kd.R_far (p := ⟨gb281, 1, none⟩) (Kd.R_far (p := ⟨gb281, 0, none⟩) (Kd.R_mono HO_9.out (fun k_ hk => (⟨hk, hk.2⟩ : _ ∧ k_ ≠ gb281))) (fun _ hk => hk.2) (.int .i64 0)) (fun _ hk => hk.2) (.int .i64 0)) (fun _ hk => hk.2) (.string (⟨#[]⟩ : ByteArray))) (fun _ hk => hk.2) (.int .i64 0)) (fun _ hk => hk.2) (.int .i64 ((rd_T28 t269 x11_4).f0))) (fun _ hk => hk.2) (.int .i64 ((rd_T28 t269 x11_4).f1))) (fun _ hk => hk.2) (.string ((rd_T28 t269 x11_4).f2))) (fun _ hk => hk.2) (.int .i64 ((rd_T28 t269 x11_4).f3))) (fun _ hk => ⟨hk.1.1.1, ⟨hk.1.1.2, hk.1.2⟩⟩)⟩, ⟨by (with_reducible repeat (first | refine blk_drewN ?_ _ | refine blk_drew ?_ | refine blk_alloc ?_ _)); refine blk_put (cs := #[.int .i64 ((rd_T28 t269 x11_4).f0), .int .i64 ((rd_T28 t269 x11_4).f1), .string ((rd_T28 t269 x11_4).f2), .int .i64 0]) ?_ 3 _ rfl; (with_reducible repeat (first | refine blk_drewN ?_ _ | refine blk_drew ?_ | refine blk_alloc ?_ _)); refine blk_put (cs := #[.int .i64 ((rd_T28 t269 x11_4).f0), .int .i64 ((rd_T28 t269 x11_4).f1), .string (⟨#[]⟩ : ByteArray), .int .i64 0]) ?_ 2 _ rfl; (with_reducible repeat (first | refine blk_drewN ?_ _ | refine blk_drew ?_ | refine blk_alloc ?_ _)); refine blk_put (cs := #[.int .i64 ((rd_T28 t269 x11_4).f0), .int .i64 0, .string (⟨#[]⟩ : ByteArray), .int .i64 0]) ?_ 1 _ rfl; (with_reducible repeat (first | refine blk_drewN ?_ _ | refine blk_drew ?_ | refine blk_alloc ?_ _)); refine blk_put (cs := #[.int .i64 0, .int .i64 0, .string (⟨#[]⟩ : ByteArray), .int .i64 0]) ?_ 0 _ rfl; (with_reducible repeat (first | refine blk_drewN ?_ _ | refine blk_drew ?_ | refine blk_alloc ?_ _)); refine blk_put (cs := #[.int .i64 0, .int .i64 0, .string (⟨#[]⟩ : ByteArray), .int .i64 0]) ?_ 3 _ rfl; (with_reducible repeat (first | refine blk_drewN ?_ _ | refine blk_drew ?_ | refine blk_alloc ?_ _)); refine blk_put (cs := #[.int .i64 0, .int .i64 0, .string (⟨#[]⟩ : ByteArray), .int .i64 0]) ?_ 2 _ rfl; (with_reducible repeat (first | refine blk_drewN ?_ _ | refine blk_drew ?_ | refine blk_alloc ?_ _)); refine blk_put (cs := #[.int .i64 0, .int .i64 0, .string (⟨#[]⟩ : ByteArray), .int .i64 0]) ?_ 1 _ rfl; (with_reducible repeat (first | refine blk_drewN ?_ _ | refine blk_drew ?_ | refine blk_alloc ?_ _)); refine blk_put (cs := #[.int .i64 0, .int .i64 0, .string (⟨#[]⟩ : ByteArray), .int .i64 0]) ?_ 0 _ rfl; (with_reducible repeat (first | refine blk_drewN ?_ _ | refine blk_drew ?_ | refine blk_alloc ?_ _)); exact BK281.out⟩, ⟨by repeat (first | (with_reducible first | exact HB.out | apply below_alloc | apply pw_below_drewN | apply below_drew1 | refine below_set ?_ GE281.out) | exact HB.out)⟩⟩
                   ·rw [if_neg c34] at H
                    exact absurd H (by simp)
                  ·rw [if_neg c33] at H
                   exact absurd H (by simp)
                 ·rw [if_neg c32] at H
                  have c32b0 : decide (x11_4 < (wrap64 ((t269.length : Int) - 1))) = false := decide_eq_false c32
                  clear c32
                  (first | rw [c32b0] | (simp only [i64_w, i32_w]; rw [c32b0]) | skip)
                  obtain ⟨ji36, hji36⟩ : ∃ j_ : Int, (wrap64 ((wrap64 (x11_4 - (t269.length : Int))) + 1)) = j_ := ⟨_, rfl⟩
                  replace H : (if 0 ≤ (ji36) then (if (ji36) < (t273.length : Int) then (antipodelaw16_LexJoins.j4 k4 a0 t269 t273 t277 x11_4 ((rd_T28 t273 (ji36)).f0) (wrap64 ((wrap64 (((rd_T28 t273 (ji36)).f1) + (a0.size : Int))) + 1)) ((rd_T28 t273 (ji36)).f2) ((rd_T28 t273 (ji36)).f3)) else (none)) else (none)) = some r := by first | (rw [hji36] at H; exact H) | (simp only [hji36] at H ⊢; exact H)
                  have hji36w : (IntKind.i64.wrap ((wrap64 (x11_4 - (t269.length : Int))) + 1)) = ji36 := (i64_w _).trans hji36
                  by_cases c37 : 0 ≤ (ji36)
                  ·rw [if_pos c37] at H
                   have c37b0 : decide (0 ≤ (ji36)) = true := decide_eq_true c37
                   clear c37
                   by_cases c38 : (ji36) < (t273.length : Int)
                   ·rw [if_pos c38] at H
                    have c38b0 : decide ((ji36) < (t273.length : Int)) = true := decide_eq_true c38
                    clear c38
                    have H' := Aside0.mk H
                    clear H
                    obtain ⟨Ao39, co39, eo39⟩ := Kd.R_slice HO_7.out
                    subst eo39
                    have p283 : 0 ≤ ((ji36) : Int) := of_decide_eq_true (by assumption)
                    have q283 : (ji36) < (t273.length : Int) := of_decide_eq_true (by assumption)
                    obtain ⟨ad283, e283, hx283_0, hx283_1, hx283_2, hx283_3⟩ := at_T28 (Kd.R_reads' HO_7.out).2.2 (ji36) p283 q283
                    cases e283
                    have hn283_0 : ad283.block ≠ gb281 := (by first | exact Kd.own_blk (Kd.R_ne HO_7.out BK281.out (by decide)) | exact Kd.own_blk (Kd.R_away HO_7.out (fun _ hk => hk.2)))
                    have hn283_1 : ad283.block ≠ gb281 := (by first | exact Kd.own_blk (Kd.R_ne HO_7.out BK281.out (by decide)) | exact Kd.own_blk (Kd.R_away HO_7.out (fun _ hk => hk.2)))
                    have hn283_2 : ad283.block ≠ gb281 := (by first | exact Kd.own_blk (Kd.R_ne HO_7.out BK281.out (by decide)) | exact Kd.own_blk (Kd.R_away HO_7.out (fun _ hk => hk.2)))
                    have hn283_3 : ad283.block ≠ gb281 := (by first | exact Kd.own_blk (Kd.R_ne HO_7.out BK281.out (by decide)) | exact Kd.own_blk (Kd.R_away HO_7.out (fun _ hk => hk.2)))
                    replace hx283_0 := (cell_far (p := ⟨gb281, 0, none⟩) (by first | exact hn283_0 | exact abn hn283_0) (.int .i64 0)).trans hx283_0
                    replace hx283_1 := (cell_far (p := ⟨gb281, 0, none⟩) (by first | exact hn283_0 | exact abn hn283_0) (.int .i64 0)).trans hx283_1
                    replace hx283_2 := (cell_far (p := ⟨gb281, 0, none⟩) (by first | exact hn283_0 | exact abn hn283_0) (.int .i64 0)).trans hx283_2
                    replace hx283_3 := (cell_far (p := ⟨gb281, 0, none⟩) (by first | exact hn283_0 | exact abn hn283_0) (.int .i64 0)).trans hx283_3
                    replace hx283_0 := (cell_far (p := ⟨gb281, 1, none⟩) (by first | exact hn283_1 | exact abn hn283_1) (.int .i64 0)).trans hx283_0
                    replace hx283_1 := (cell_far (p := ⟨gb281, 1, none⟩) (by first | exact hn283_1 | exact abn hn283_1) (.int .i64 0)).trans hx283_1
                    replace hx283_2 := (cell_far (p := ⟨gb281, 1, none⟩) (by first | exact hn283_1 | exact abn hn283_1) (.int .i64 0)).trans hx283_2
                    replace hx283_3 := (cell_far (p := ⟨gb281, 1, none⟩) (by first | exact hn283_1 | exact abn hn283_1) (.int .i64 0)).trans hx283_3
                    replace hx283_0 := (cell_far (p := ⟨gb281, 2, none⟩) (by first | exact hn283_2 | exact abn hn283_2) (.string (⟨#[]⟩ : ByteArray))).trans hx283_0
                    replace hx283_1 := (cell_far (p := ⟨gb281, 2, none⟩) (by first | exact hn283_2 | exact abn hn283_2) (.string (⟨#[]⟩ : ByteArray))).trans hx283_1
                    replace hx283_2 := (cell_far (p := ⟨gb281, 2, none⟩) (by first | exact hn283_2 | exact abn hn283_2) (.string (⟨#[]⟩ : ByteArray))).trans hx283_2
                    replace hx283_3 := (cell_far (p := ⟨gb281, 2, none⟩) (by first | exact hn283_2 | exact abn hn283_2) (.string (⟨#[]⟩ : ByteArray))).trans hx283_3
                    replace hx283_0 := (cell_far (p := ⟨gb281, 3, none⟩) (by first | exact hn283_3 | exact abn hn283_3) (.int .i64 0)).trans hx283_0
                    replace hx283_1 := (cell_far (p := ⟨gb281, 3, none⟩) (by first | exact hn283_3 | exact abn hn283_3) (.int .i64 0)).trans hx283_1
                    replace hx283_2 := (cell_far (p := ⟨gb281, 3, none⟩) (by first | exact hn283_3 | exact abn hn283_3) (.int .i64 0)).trans hx283_2
                    replace hx283_3 := (cell_far (p := ⟨gb281, 3, none⟩) (by first | exact hn283_3 | exact abn hn283_3) (.int .i64 0)).trans hx283_3
                    (try have hy283_0 := fun (n_ : Nat) => (show ((((((w29.drewN n_).setCell ⟨gb281, 0, none⟩ (.int .i64 0)).setCell ⟨gb281, 1, none⟩ (.int .i64 0)).setCell ⟨gb281, 2, none⟩ (.string (⟨#[]⟩ : ByteArray))).setCell ⟨gb281, 3, none⟩ (.int .i64 0))).cell? _ = some _ from hx283_0))
                    (try have hy283_1 := fun (n_ : Nat) => (show ((((((w29.drewN n_).setCell ⟨gb281, 0, none⟩ (.int .i64 0)).setCell ⟨gb281, 1, none⟩ (.int .i64 0)).setCell ⟨gb281, 2, none⟩ (.string (⟨#[]⟩ : ByteArray))).setCell ⟨gb281, 3, none⟩ (.int .i64 0))).cell? _ = some _ from hx283_1))
                    (try have hy283_2 := fun (n_ : Nat) => (show ((((((w29.drewN n_).setCell ⟨gb281, 0, none⟩ (.int .i64 0)).setCell ⟨gb281, 1, none⟩ (.int .i64 0)).setCell ⟨gb281, 2, none⟩ (.string (⟨#[]⟩ : ByteArray))).setCell ⟨gb281, 3, none⟩ (.int .i64 0))).cell? _ = some _ from hx283_2))
                    (try have hy283_3 := fun (n_ : Nat) => (show ((((((w29.drewN n_).setCell ⟨gb281, 0, none⟩ (.int .i64 0)).setCell ⟨gb281, 1, none⟩ (.int .i64 0)).setCell ⟨gb281, 2, none⟩ (.string (⟨#[]⟩ : ByteArray))).setCell ⟨gb281, 3, none⟩ (.int .i64 0))).cell? _ = some _ from hx283_3))
                    clear hn283_0
                    clear hn283_1
                    clear hn283_2
                    clear hn283_3
                    replace p283 := eq_true p283
                    replace q283 := eq_true q283
                    have hcz40_0 : w29.cell? ⟨gb281, 0, none⟩ = some (.int .i64 0) := (blk_cell BK281.out 0).trans rfl
                    have hcz40_1 : w29.cell? ⟨gb281, 1, none⟩ = some (.int .i64 0) := (blk_cell BK281.out 1).trans rfl
                    have hcz40_2 : w29.cell? ⟨gb281, 2, none⟩ = some (.string (⟨#[]⟩ : ByteArray)) := (blk_cell BK281.out 2).trans rfl
                    have hcz40_3 : w29.cell? ⟨gb281, 3, none⟩ = some (.int .i64 0) := (blk_cell BK281.out 3).trans rfl
                    have hfz40_0 := blk_frozen BK281.out 0
                    have hfz40_1 := blk_frozen BK281.out 1
                    have hfz40_2 := blk_frozen BK281.out 2
                    have hfz40_3 := blk_frozen BK281.out 3
                    go_wp2
                    repeat (go_quiet (fail); try go_wp2)
                    go_meet
                    case rel => exact ⟨_, ((rd_T28 t273 (ji36)).f0), (wrap64 ((wrap64 (((rd_T28 t273 (ji36)).f1) + (a0.size : Int))) + 1)), ((rd_T28 t273 (ji36)).f2), ((rd_T28 t273 (ji36)).f3), (by first | exact H' | (refine ⟨?_⟩; (try rw [hji36]); exact H'.out)), ⟨by have := HJ4.out; have := HJ10.out; have := HJ18.out; have := HK4.out; first | omega | exact Nat.le_refl _⟩, ⟨by (with_reducible repeat (first | apply Kd.R_alloc | apply Kd.R_drewN | apply Kd.R_drew)); exact Kd.R_mono (Kd.R_far (p := ⟨gb281, 1, none⟩) (Kd.R_far (p := ⟨gb281, 3, none⟩) (Kd.R_far (p := ⟨gb281, 2, none⟩) (Kd.R_far (p := ⟨gb281, 1, none⟩) (Kd.R_far (p := ⟨gb281, 0, none⟩) (Kd.R_far (p := ⟨gb281, 3, none⟩) (Kd.R_far (p := ⟨gb281, 2, none⟩) (Kd.R_far (p := ⟨gb281, 1, none⟩) (Kd.R_far (p := ⟨gb281, 0, none⟩) (Kd.R_mono HO_5.out (fun k_ hk => (⟨hk, hk.2⟩ : _ ∧ k_ ≠ gb281))) (fun _ hk => hk.2) (.int .i64 0)) (fun _ hk => hk.2) (.int .i64 0)) (fun _ hk => hk.2) (.string (⟨#[]⟩ : ByteArray))) (fun _ hk => hk.2) (.int .i64 0)) (fun _ hk => hk.2) (.int .i64 ((rd_T28 t273 (ji36)).f0))) (fun _ hk => hk.2) (.int .i64 ((rd_T28 t273 (ji36)).f1))) (fun _ hk => hk.2) (.string ((rd_T28 t273 (ji36)).f2))) (fun _ hk => hk.2) (.int .i64 ((rd_T28 t273 (ji36)).f3))) (fun _ hk => hk.2) (.int .i64 (wrap64 ((wrap64 (((rd_T28 t273 (ji36)).f1) + (a0.size : Int))) + 1)))) (fun _ hk => ⟨hk.1.1.1, ⟨hk.1.1.2, hk.1.2⟩⟩)⟩, ⟨by (with_reducible repeat (first | apply Kd.R_alloc | apply Kd.R_drewN | apply Kd.R_drew)); exact Kd.R_mono (Kd.R_far (p := ⟨gb281, 1, none⟩) (Kd.R_far (p := ⟨gb281, 3, none⟩) (Kd.R_far (p := ⟨gb281, 2, none⟩) (Kd.R_far (p := ⟨gb281, 1, none⟩) (Kd.R_far (p := ⟨gb281, 0, none⟩) (Kd.R_far (p := ⟨gb281, 3, none⟩) (Kd.R_far (p := ⟨gb281, 2, none⟩) (Kd.R_far (p := ⟨gb281, 1, none⟩) (Kd.R_far (p := ⟨gb281, 0, none⟩) (Kd.R_mono HO_7.out (fun k_ hk => (⟨hk, hk.2⟩ : _ ∧ k_ ≠ gb281))) (fun _ hk => hk.2) (.int .i64 0)) (fun _ hk => hk.2) (.int .i64 0)) (fun _ hk => hk.2) (.string (⟨#[]⟩ : ByteArray))) (fun _ hk => hk.2) (.int .i64 0)) (fun _ hk => hk.2) (.int .i64 ((rd_T28 t273 (ji36)).f0))) (fun _ hk => hk.2) (.int .i64 ((rd_T28 t273 (ji36)).f1))) (fun _ hk => hk.2) (.string ((rd_T28 t273 (ji36)).f2))) (fun _ hk => hk.2) (.int .i64 ((rd_T28 t273 (ji36)).f3))) (fun _ hk => hk.2) (.int .i64 (wrap64 ((wrap64 (((rd_T28 t273 (ji36)).f1) + (a0.size : Int))) + 1)))) (fun _ hk => ⟨hk.1.1.1, ⟨hk.1.1.2, hk.1.2⟩⟩)⟩, ⟨by (with_reducible repeat (first | apply Kd.R_alloc | apply Kd.R_drewN | apply Kd.R_drew)); exact Kd.R_mono (Kd.R_far (p := ⟨gb281, 1, none⟩) (Kd.R_far (p := ⟨gb281, 3, none⟩) (Kd.R_far (p := ⟨gb281, 2, none⟩) (Kd.R_far (p := ⟨gb281, 1, none⟩) (Kd.R_far (p := ⟨gb281, 0, none⟩) (Kd.R_far (p := ⟨gb281, 3, none⟩) (Kd.R_far (p := ⟨gb281, 2, none⟩) (Kd.R_far (p := ⟨gb281, 1, none⟩) (Kd.R_far (p := ⟨gb281, 0, none⟩) (Kd.R_mono HO_9.out (fun k_ hk => (⟨hk, hk.2⟩ : _ ∧ k_ ≠ gb281))) (fun _ hk => hk.2) (.int .i64 0)) (fun _ hk => hk.2) (.int .i64 0)) (fun _ hk => hk.2) (.string (⟨#[]⟩ : ByteArray))) (fun _ hk => hk.2) (.int .i64 0)) (fun _ hk => hk.2) (.int .i64 ((rd_T28 t273 (ji36)).f0))) (fun _ hk => hk.2) (.int .i64 ((rd_T28 t273 (ji36)).f1))) (fun _ hk => hk.2) (.string ((rd_T28 t273 (ji36)).f2))) (fun _ hk => hk.2) (.int .i64 ((rd_T28 t273 (ji36)).f3))) (fun _ hk => hk.2) (.int .i64 (wrap64 ((wrap64 (((rd_T28 t273 (ji36)).f1) + (a0.size : Int))) + 1)))) (fun _ hk => ⟨hk.1.1.1, ⟨hk.1.1.2, hk.1.2⟩⟩)⟩, ⟨by (with_reducible repeat (first | refine blk_drewN ?_ _ | refine blk_drew ?_ | refine blk_alloc ?_ _)); refine blk_put (cs := #[.int .i64 ((rd_T28 t273 (ji36)).f0), .int .i64 ((rd_T28 t273 (ji36)).f1), .string ((rd_T28 t273 (ji36)).f2), .int .i64 ((rd_T28 t273 (ji36)).f3)]) ?_ 1 _ rfl; (with_reducible repeat (first | refine blk_drewN ?_ _ | refine blk_drew ?_ | refine blk_alloc ?_ _)); refine blk_put (cs := #[.int .i64 ((rd_T28 t273 (ji36)).f0), .int .i64 ((rd_T28 t273 (ji36)).f1), .string ((rd_T28 t273 (ji36)).f2), .int .i64 0]) ?_ 3 _ rfl; (with_reducible repeat (first | refine blk_drewN ?_ _ | refine blk_drew ?_ | refine blk_alloc ?_ _)); refine blk_put (cs := #[.int .i64 ((rd_T28 t273 (ji36)).f0), .int .i64 ((rd_T28 t273 (ji36)).f1), .string (⟨#[]⟩ : ByteArray), .int .i64 0]) ?_ 2 _ rfl; (with_reducible repeat (first | refine blk_drewN ?_ _ | refine blk_drew ?_ | refine blk_alloc ?_ _)); refine blk_put (cs := #[.int .i64 ((rd_T28 t273 (ji36)).f0), .int .i64 0, .string (⟨#[]⟩ : ByteArray), .int .i64 0]) ?_ 1 _ rfl; (with_reducible repeat (first | refine blk_drewN ?_ _ | refine blk_drew ?_ | refine blk_alloc ?_ _)); refine blk_put (cs := #[.int .i64 0, .int .i64 0, .string (⟨#[]⟩ : ByteArray), .int .i64 0]) ?_ 0 _ rfl; (with_reducible repeat (first | refine blk_drewN ?_ _ | refine blk_drew ?_ | refine blk_alloc ?_ _)); refine blk_put (cs := #[.int .i64 0, .int .i64 0, .string (⟨#[]⟩ : ByteArray), .int .i64 0]) ?_ 3 _ rfl; (with_reducible repeat (first | refine blk_drewN ?_ _ | refine blk_drew ?_ | refine blk_alloc ?_ _)); refine blk_put (cs := #[.int .i64 0, .int .i64 0, .string (⟨#[]⟩ : ByteArray), .int .i64 0]) ?_ 2 _ rfl; (with_reducible repeat (first | refine blk_drewN ?_ _ | refine blk_drew ?_ | refine blk_alloc ?_ _)); refine blk_put (cs := #[.int .i64 0, .int .i64 0, .string (⟨#[]⟩ : ByteArray), .int .i64 0]) ?_ 1 _ rfl; (with_reducible repeat (first | refine blk_drewN ?_ _ | refine blk_drew ?_ | refine blk_alloc ?_ _)); refine blk_put (cs := #[.int .i64 0, .int .i64 0, .string (⟨#[]⟩ : ByteArray), .int .i64 0]) ?_ 0 _ rfl; (with_reducible repeat (first | refine blk_drewN ?_ _ | refine blk_drew ?_ | refine blk_alloc ?_ _)); exact BK281.out⟩, ⟨by repeat (first | (with_reducible first | exact HB.out | apply below_alloc | apply pw_below_drewN | apply below_drew1 | refine below_set ?_ GE281.out) | exact HB.out)⟩⟩
                   ·rw [if_neg c38] at H
                    exact absurd H (by simp)
                  ·rw [if_neg c37] at H
                   exact absurd H (by simp)
                case rest =>
                 clear HC27
                 try clear c1
                 try clear c2
                 try clear p2
                 try clear q2
                 try clear hx2
                 try clear c3
                 try clear c4
                 try clear c6
                 try clear p6
                 try clear c7
                 try clear c7b0
                 try clear c7b1
                 try clear c8
                 try clear c14
                 try clear c14b0
                 try clear c14b1
                 try clear c15
                 try clear c16
                 try clear c16b0
                 try clear c16b1
                 try clear c16b2
                 try clear c17
                 try clear c17b0
                 try clear c17b1
                 try clear c17b2
                 try clear c21
                 try clear c21b0
                 try clear c21b1
                 try clear c25
                 try clear c26
                 try clear c26b0
                 try clear p28
                 try clear q28
                 try clear hx28
                 try clear c32
                 try clear c32b0
                 try clear c33
                 try clear c33b0
                 try clear c34
                 try clear c34b0
                 try clear c37
                 try clear c37b0
                 try clear c38
                 try clear c38b0
                 try clear hcz30_0
                 try clear hcz30_1
                 try clear hcz30_2
                 try clear hcz30_3
                 try clear hcz35_0
                 try clear hcz35_1
                 try clear hcz35_2
                 try clear hcz35_3
                 try clear hcz40_0
                 try clear hcz40_1
                 try clear hcz40_2
                 try clear hcz40_3
                 try clear hfz30_0
                 try clear hfz30_1
                 try clear hfz30_2
                 try clear hfz30_3
                 try clear hfz35_0
                 try clear hfz35_1
                 try clear hfz35_2
                 try clear hfz35_3
                 try clear hfz40_0
                 try clear hfz40_1
                 try clear hfz40_2
                 try clear hfz40_3
                 try clear hx282_0
                 try clear hx282_1
                 try clear hx282_2
                 try clear hx282_3
                 try clear hx283_0
                 try clear hx283_1
                 try clear hx283_2
                 try clear hx283_3
                 try clear p2
                 try clear p282
                 try clear p283
                 try clear p6
                 try clear q282
                 try clear q283
                 obtain ⟨kq, x282000_26, x282001_26, x282002_26, x282003_26, HA, HJ26, HO_5, HO_7, HO_9, BK281, HB⟩ := hcut
                 cases kq with
                 | zero => exact absurd HA.out (by simp [antipodelaw16_LexJoins.j4])
                 | succ kj26 =>
                  have H := HA.out
                  clear HA
                  simp only [antipodelaw16_LexJoins.j4] at H
                  by_cases c41 : 0 ≤ x11_4
                  ·rw [if_pos c41] at H
                   have c41b0 : decide (0 ≤ x11_4) = true := decide_eq_true c41
                   clear c41
                   by_cases c42 : x11_4 < (t277.length : Int)
                   ·rw [if_pos c42] at H
                    have c42b0 : decide (x11_4 < (t277.length : Int)) = true := decide_eq_true c42
                    clear c42
                    by_cases c43 : (!(((rd_T28 t277 x11_4).f0) == x282000_26) || (!(((rd_T28 t277 x11_4).f1) == x282001_26) || (!((((rd_T28 t277 x11_4).f2).toList) == x282002_26.toList) || (!(((rd_T28 t277 x11_4).f3) == x282003_26))))) = true
                    ·rw [if_pos c43] at H
                     have c43b0 : (!(((rd_T28 t277 x11_4).f0) == x282000_26) || (!(((rd_T28 t277 x11_4).f1) == x282001_26) || (!((((rd_T28 t277 x11_4).f2).toList) == x282002_26.toList) || (!(((rd_T28 t277 x11_4).f3) == x282003_26))))) = true := c43
                     clear c43
                     obtain rfl := Option.some.inj H
                     have p284 : 0 ≤ (x11_4 : Int) := of_decide_eq_true (by assumption)
                     have q284 : x11_4 < (t277.length : Int) := of_decide_eq_true (by assumption)
                     obtain ⟨ad284, e284, hx284_0, hx284_1, hx284_2, hx284_3⟩ := at_T28 (Kd.R_reads' HO_9.out).2.2 x11_4 p284 q284
                     cases e284
                     replace p284 := eq_true p284
                     replace q284 := eq_true q284
                     have hcz44_0 : wc.cell? ⟨gb281, 0, none⟩ = some (.int .i64 x282000_26) := (blk_cell BK281.out 0).trans rfl
                     have hcz44_1 : wc.cell? ⟨gb281, 1, none⟩ = some (.int .i64 x282001_26) := (blk_cell BK281.out 1).trans rfl
                     have hcz44_2 : wc.cell? ⟨gb281, 2, none⟩ = some (.string x282002_26) := (blk_cell BK281.out 2).trans rfl
                     have hcz44_3 : wc.cell? ⟨gb281, 3, none⟩ = some (.int .i64 x282003_26) := (blk_cell BK281.out 3).trans rfl
                     have hfz44_0 := blk_frozen BK281.out 0
                     have hfz44_1 := blk_frozen BK281.out 1
                     have hfz44_2 := blk_frozen BK281.out 2
                     have hfz44_3 := blk_frozen BK281.out 3
                     go_wp2
                     repeat (go_quiet (fail); try go_wp2)
                     go_ret
                     exact ⟨by first | rfl | (simp [errW_none, errW_some] <;> rfl) | (simp [*, errW_none, errW_some] <;> rfl), by repeat (first | (with_reducible first | exact HB.out | apply below_alloc | apply pw_below_drewN | apply below_drew1 | refine below_set ?_ GE281.out) | exact HB.out)⟩
                    ·rw [if_neg c43] at H
                     have c43b0 : (!(((rd_T28 t277 x11_4).f0) == x282000_26) || (!(((rd_T28 t277 x11_4).f1) == x282001_26) || (!((((rd_T28 t277 x11_4).f2).toList) == x282002_26.toList) || (!(((rd_T28 t277 x11_4).f3) == x282003_26))))) = false := by simpa using c43
                     clear c43
                     have H' := Aside0.mk H
                     clear H
                     have p284 : 0 ≤ (x11_4 : Int) := of_decide_eq_true (by assumption)
                     have q284 : x11_4 < (t277.length : Int) := of_decide_eq_true (by assumption)
                     obtain ⟨ad284, e284, hx284_0, hx284_1, hx284_2, hx284_3⟩ := at_T28 (Kd.R_reads' HO_9.out).2.2 x11_4 p284 q284
                     cases e284
                     replace p284 := eq_true p284
                     replace q284 := eq_true q284
                     have hcz45_0 : wc.cell? ⟨gb281, 0, none⟩ = some (.int .i64 x282000_26) := (blk_cell BK281.out 0).trans rfl
                     have hcz45_1 : wc.cell? ⟨gb281, 1, none⟩ = some (.int .i64 x282001_26) := (blk_cell BK281.out 1).trans rfl
                     have hcz45_2 : wc.cell? ⟨gb281, 2, none⟩ = some (.string x282002_26) := (blk_cell BK281.out 2).trans rfl
                     have hcz45_3 : wc.cell? ⟨gb281, 3, none⟩ = some (.int .i64 x282003_26) := (blk_cell BK281.out 3).trans rfl
                     have hfz45_0 := blk_frozen BK281.out 0
                     have hfz45_1 := blk_frozen BK281.out 1
                     have hfz45_2 := blk_frozen BK281.out 2
                     have hfz45_3 := blk_frozen BK281.out 3
                     go_wp2
                     repeat (go_quiet (fail); try go_wp2)
                     go_roundg kj26
                     case measure => have := HJ4.out; have := HJ10.out; have := HJ18.out; have := HK4.out; have := HJ26.out; omega
                     case rel => exact ⟨(wrap64 (x11_4 + 1)), (by first | rfl | (simp; done) | (simp [*]; done)), H', ⟨by have := HJ4.out; have := HJ10.out; have := HJ18.out; have := HK4.out; have := HJ26.out; omega⟩, ⟨by (with_reducible repeat (first | apply Kd.R_alloc | apply Kd.R_drewN | apply Kd.R_drew)); exact Kd.R_mono HO_5.out (fun _ hk => ⟨hk.1, hk.2.1⟩)⟩, ⟨by (with_reducible repeat (first | apply Kd.R_alloc | apply Kd.R_drewN | apply Kd.R_drew)); exact Kd.R_mono HO_7.out (fun _ hk => ⟨hk.1, hk.2.1⟩)⟩, ⟨by (with_reducible repeat (first | apply Kd.R_alloc | apply Kd.R_drewN | apply Kd.R_drew)); exact Kd.R_mono HO_9.out (fun _ hk => ⟨hk.1, hk.2.1⟩)⟩, ⟨by repeat (first | (with_reducible first | exact HB.out | apply below_alloc | apply pw_below_drewN | apply below_drew1 | refine below_set ?_ GE281.out) | exact HB.out)⟩⟩
                   ·rw [if_neg c42] at H
                    exact absurd H (by simp)
                  ·rw [if_neg c41] at H
                   exact absurd H (by simp)
               ·rw [if_neg c26] at H
                have c26b0 : decide (x11_4 < (t277.length : Int)) = false := decide_eq_false c26
                clear c26
                obtain rfl := Option.some.inj H
                obtain ⟨Ao46, co46, eo46⟩ := Kd.R_slice HO_9.out
                subst eo46
                go_wp2
                repeat (go_quiet (fail); try go_wp2)
                go_ret
                exact ⟨by first | rfl | (simp [errW_none, errW_some] <;> rfl) | (simp [*, errW_none, errW_some] <;> rfl), by repeat (first | (with_reducible first | exact HB.out | apply below_alloc | apply pw_below_drewN | apply below_drew1) | exact HB.out)⟩
         ·rw [if_neg c17] at H
          exact absurd H (by simp)
        ·rw [if_neg c16] at H
         exact absurd H (by simp)
 ·replace c4 := Bool.eq_false_iff.mpr c4
  subst c4
  have H1 : (some false) = some r := by rw [if_neg (show ¬ (false = true) by decide)] at H; exact H
  clear H
  have H := H1
  clear H1
  obtain rfl := Option.some.inj H
  go_enter Try.func6, Try.ntmps6
  go_wp2_with (first | (go_at_call 7; (with_reducible refine (antipodelaw16_begun.calls k  false _ ?side1 A3.out).mono ?_); (case side1 => exact Sh.below hsh (by repeat (first | (with_reducible first | exact HB.out | apply below_alloc | apply pw_below_drewN | apply below_drew1) | exact HB.out))); rintro e w47 ⟨rfl, hb⟩; have n0_ := Aside0.mk (below_step (by repeat (first | (with_reducible first | exact HB.out | apply below_alloc | apply pw_below_drewN | apply below_drew1) | exact HB.out)) hb); clear HB; have HB := n0_; clear n0_; (try clear hb); (try clear hb2); (try clear hk); (try clear hi)))
  repeat (go_quiet (first | (go_at_call 7; (with_reducible refine (antipodelaw16_begun.calls k  false _ ?side1 A3.out).mono ?_); (case side1 => exact Sh.below hsh (by repeat (first | (with_reducible first | exact HB.out | apply below_alloc | apply pw_below_drewN | apply below_drew1) | exact HB.out))); rintro e w47 ⟨rfl, hb⟩; have n0_ := Aside0.mk (below_step (by repeat (first | (with_reducible first | exact HB.out | apply below_alloc | apply pw_below_drewN | apply below_drew1) | exact HB.out)) hb); clear HB; have HB := n0_; clear n0_; (try clear hb); (try clear hb2); (try clear hk); (try clear hi))); try go_wp2_with (first | (go_at_call 7; (with_reducible refine (antipodelaw16_begun.calls k  false _ ?side1 A3.out).mono ?_); (case side1 => exact Sh.below hsh (by repeat (first | (with_reducible first | exact HB.out | apply below_alloc | apply pw_below_drewN | apply below_drew1) | exact HB.out))); rintro e w47 ⟨rfl, hb⟩; have n0_ := Aside0.mk (below_step (by repeat (first | (with_reducible first | exact HB.out | apply below_alloc | apply pw_below_drewN | apply below_drew1) | exact HB.out)) hb); clear HB; have HB := n0_; clear n0_; (try clear hb); (try clear hb2); (try clear hk); (try clear hi))))
  go_ret
  exact ⟨by first | rfl | (simp [errW_none, errW_some] <;> rfl) | (simp [*, errW_none, errW_some] <;> rfl), by repeat (first | (with_reducible first | exact HB.out | apply below_alloc | apply pw_below_drewN | apply below_drew1) | exact HB.out)⟩

/-- THE ONE PURE STATEMENT of antipodelaw16_LexJoins: yours. -/
def antipodelaw16_LexJoins.Pure : Prop := ∀ (a0 : ByteArray) (a1 : ByteArray), a0.size ≤ 140737488351232 → a1.size ≤ 140737488351232 → ∃ k, antipodelaw16_LexJoins.f k a0 a1 = some true
theorem antipodelaw16_LexJoins.walk (P : antipodelaw16_LexJoins.Pure) (a0 : ByteArray) (a1 : ByteArray) (w : World) (w0 : a0.size ≤ 140737488351232) (w1 : a1.size ≤ 140737488351232) (hsh : Sh w) :
  Calls Try.prog 6 #[.string a0, .string a1] w fun e w' => e = .returned (.bool true) ∧ Below w.heap.size w w' := by
 obtain ⟨k, h⟩ := P a0 a1 w0 w1
 refine (antipodelaw16_LexJoins.calls k a0 a1 true w hsh h).mono ?_
 rintro e w' ⟨rfl, hd⟩
 exact ⟨rfl, hd⟩

end Go.Proofs.Ytpgcjlndojbmjaa.PL
