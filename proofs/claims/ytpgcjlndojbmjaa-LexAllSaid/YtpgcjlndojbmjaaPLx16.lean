-- Written by drv.py (this session's program over the kit's print).
import Derived.Test.YtpgcjlndojbmjaaPLx0
import Derived.Test.YtpgcjlndojbmjaaPLx1
import Derived.Test.YtpgcjlndojbmjaaPLx8
import Derived.Test.YtpgcjlndojbmjaaPLx10
import Derived.Test.YtpgcjlndojbmjaaPLx15
namespace Go.Proofs.Ytpgcjlndojbmjaa.PL
open Go.RowKit Go.Proofs.YtpgcjlndojbmjaaW.PrintWords Go.Proofs.YtpgcjlndojbmjaaW.PrintLast Go.Proofs.YtpgcjlndojbmjaaW.PrintMore
attribute [local go_sem] max2_int min2_int max_two min_two max_three min_three max_four min_four   -- for this text's walks alone
attribute [local go_sem ↓] isSome_setCell
set_option linter.unusedVariables false
set_option linter.unusedSimpArgs false

attribute [local go_sem high] eqA28
/-! ### antipodelaw16_LexAll: function 3 -/
mutual
def antipodelaw16_LexAll.l0 : Nat → ByteArray → Int → Option (Bool)
 | 0, _, _ => none
 | k + 1, x0, x3 => if x3 < 2 then ((lex_Lex.f k x0).bind fun bt212 => ((antipoderef16_Lex.f k x0).bind fun bt216 => (if bt212.2 = bt216.2 then (antipodelaw16_LexAll.j1 k x0 x3 bt212.1 bt216.1 ((bt212.1.length : Int) != (bt216.1.length : Int))) else (antipodelaw16_LexAll.j1 k x0 x3 bt212.1 bt216.1 true)))) else (some true)
def antipodelaw16_LexAll.j1 : Nat → ByteArray → Int → List (S28) → List (S28) → Bool → Option (Bool)
 | 0, _, _, _, _, _ => none
 | k + 1, x0, x3, x4, x6, x37 => if x37 = true then (some false) else (antipodelaw16_LexAll.l1 k x0 x3 x4 x6 0)
def antipodelaw16_LexAll.l1 : Nat → ByteArray → Int → List (S28) → List (S28) → Int → Option (Bool)
 | 0, _, _, _, _, _ => none
 | k + 1, x0, x3, x4, x6, x8 => if x8 < (x6.length : Int) then (if 0 ≤ x8 then (if x8 < (x4.length : Int) then (if (!(((rd_T28 x4 x8).f0) == ((rd_T28 x6 x8).f0)) || (!(((rd_T28 x4 x8).f1) == ((rd_T28 x6 x8).f1)) || (!((((rd_T28 x4 x8).f2).toList) == (((rd_T28 x6 x8).f2).toList)) || (!(((rd_T28 x4 x8).f3) == ((rd_T28 x6 x8).f3)))))) = true then (some false) else (antipodelaw16_LexAll.l1 k x0 x3 (x4.set (x8 : Int).toNat (⟨0, 0, (⟨#[]⟩ : ByteArray), 0⟩ : S28)) x6 (wrap64 (x8 + 1)))) else (none)) else (none)) else (antipodelaw16_LexAll.l0 k x0 (wrap64 (x3 + 1)))
end
def antipodelaw16_LexAll.f (k : Nat) (a0 : ByteArray) : Option (Bool) := (antipodelaw16_begun.f k).bind fun t211 => (if t211 = true then (if (a0.size : Int) > 2100 then (some true) else (antipodelaw16_LexAll.l0 k a0 0)) else (some false))
theorem antipodelaw16_LexAll.mono_l : ∀ k, (∀ y0 y1, LeO (antipodelaw16_LexAll.l0 k y0 y1) (antipodelaw16_LexAll.l0 (k + 1) y0 y1)) ∧ (∀ y0 y1 y2 y3 y4, LeO (antipodelaw16_LexAll.j1 k y0 y1 y2 y3 y4) (antipodelaw16_LexAll.j1 (k + 1) y0 y1 y2 y3 y4)) ∧ (∀ y0 y1 y2 y3 y4, LeO (antipodelaw16_LexAll.l1 k y0 y1 y2 y3 y4) (antipodelaw16_LexAll.l1 (k + 1) y0 y1 y2 y3 y4))
 | 0 => ⟨fun _ _ r h => by simp [antipodelaw16_LexAll.l0] at h, fun _ _ _ _ _ r h => by simp [antipodelaw16_LexAll.j1] at h, fun _ _ _ _ _ r h => by simp [antipodelaw16_LexAll.l1] at h⟩
 | k + 1 => by
  obtain ⟨ih0, ih1, ih2⟩ := antipodelaw16_LexAll.mono_l k
  refine ⟨?_, ?_, ?_⟩
  ·intro y0 y1
   unfold antipodelaw16_LexAll.l0
   repeat' first
   | (with_reducible exact ih0 _ _)
   | (with_reducible exact ih1 _ _ _ _ _)
   | (with_reducible exact ih2 _ _ _ _ _)
   | (with_reducible exact antipodelaw16_begun.mono _)
   | (with_reducible exact antipoderef16_Lex.mono _ _)
   | (with_reducible exact lex_Lex.mono _ _)
   | (with_reducible exact LeO.refl _)
   | (with_reducible exact LeO.none _)
   | (with_reducible refine LeO.ite ?_ ?_)
   | (with_reducible refine LeO.bind ?_ (fun _ => ?_))
   | exact ih0 _ _
   | exact ih1 _ _ _ _ _
   | exact ih2 _ _ _ _ _
   | exact antipodelaw16_begun.mono _
   | exact antipoderef16_Lex.mono _ _
   | exact lex_Lex.mono _ _
   | exact LeO.none _
   | refine LeO.ite ?_ ?_
   | refine LeO.bind ?_ (fun _ => ?_)
  ·intro y0 y1 y2 y3 y4
   unfold antipodelaw16_LexAll.j1
   repeat' first
   | (with_reducible exact ih0 _ _)
   | (with_reducible exact ih1 _ _ _ _ _)
   | (with_reducible exact ih2 _ _ _ _ _)
   | (with_reducible exact antipodelaw16_begun.mono _)
   | (with_reducible exact antipoderef16_Lex.mono _ _)
   | (with_reducible exact lex_Lex.mono _ _)
   | (with_reducible exact LeO.refl _)
   | (with_reducible exact LeO.none _)
   | (with_reducible refine LeO.ite ?_ ?_)
   | (with_reducible refine LeO.bind ?_ (fun _ => ?_))
   | exact ih0 _ _
   | exact ih1 _ _ _ _ _
   | exact ih2 _ _ _ _ _
   | exact antipodelaw16_begun.mono _
   | exact antipoderef16_Lex.mono _ _
   | exact lex_Lex.mono _ _
   | exact LeO.none _
   | refine LeO.ite ?_ ?_
   | refine LeO.bind ?_ (fun _ => ?_)
  ·intro y0 y1 y2 y3 y4
   unfold antipodelaw16_LexAll.l1
   repeat' first
   | (with_reducible exact ih0 _ _)
   | (with_reducible exact ih1 _ _ _ _ _)
   | (with_reducible exact ih2 _ _ _ _ _)
   | (with_reducible exact antipodelaw16_begun.mono _)
   | (with_reducible exact antipoderef16_Lex.mono _ _)
   | (with_reducible exact lex_Lex.mono _ _)
   | (with_reducible exact LeO.refl _)
   | (with_reducible exact LeO.none _)
   | (with_reducible refine LeO.ite ?_ ?_)
   | (with_reducible refine LeO.bind ?_ (fun _ => ?_))
   | exact ih0 _ _
   | exact ih1 _ _ _ _ _
   | exact ih2 _ _ _ _ _
   | exact antipodelaw16_begun.mono _
   | exact antipoderef16_Lex.mono _ _
   | exact lex_Lex.mono _ _
   | exact LeO.none _
   | refine LeO.ite ?_ ?_
   | refine LeO.bind ?_ (fun _ => ?_)
theorem antipodelaw16_LexAll.mono : ∀ a0 k, LeO (antipodelaw16_LexAll.f k a0) (antipodelaw16_LexAll.f (k + 1) a0) := by
 intro a0 k
 obtain ⟨ih0, ih1, ih2⟩ := antipodelaw16_LexAll.mono_l k
 unfold antipodelaw16_LexAll.f
 repeat' first
   | (with_reducible exact ih0 _ _)
   | (with_reducible exact ih1 _ _ _ _ _)
   | (with_reducible exact ih2 _ _ _ _ _)
   | (with_reducible exact antipodelaw16_begun.mono _)
   | (with_reducible exact antipoderef16_Lex.mono _ _)
   | (with_reducible exact lex_Lex.mono _ _)
   | (with_reducible exact LeO.refl _)
   | (with_reducible exact LeO.none _)
   | (with_reducible refine LeO.ite ?_ ?_)
   | (with_reducible refine LeO.bind ?_ (fun _ => ?_))
   | exact ih0 _ _
   | exact ih1 _ _ _ _ _
   | exact ih2 _ _ _ _ _
   | exact antipodelaw16_begun.mono _
   | exact antipoderef16_Lex.mono _ _
   | exact lex_Lex.mono _ _
   | exact LeO.none _
   | refine LeO.ite ?_ ?_
   | refine LeO.bind ?_ (fun _ => ?_)
set_option maxHeartbeats 8000000 in
set_option maxRecDepth 100000 in
theorem antipodelaw16_LexAll.calls (k : Nat) (a0 : ByteArray) (r : Bool) (w : World) (hsh : Sh w) (h : antipodelaw16_LexAll.f k a0 = some r) :
  Calls Try.prog 3 #[.string a0] w fun e w' => e = .returned (.bool r) ∧ Below w.heap.size w w' := by
 have hu28 := Try.underlying28
 have HB := Aside0.mk (Below.refl w.heap.size w)
 have H : ((antipodelaw16_begun.f k).bind fun t211 => (if t211 = true then (if (a0.size : Int) > 2100 then (some true) else (antipodelaw16_LexAll.l0 k a0 0)) else (some false))) = some r := h
 clear h
 replace H := Option.bind_eq_some_iff.mp H
 obtain ⟨t211, A20, H⟩ := H
 replace H : (if t211 = true then (if (a0.size : Int) > 2100 then (some true) else (antipodelaw16_LexAll.l0 k a0 0)) else (some false)) = some r := H
 have A2 := Aside0.mk A20
 clear A20
 by_cases c3 : t211 = true
 ·subst c3
  have H1 : (if (a0.size : Int) > 2100 then (some true) else (antipodelaw16_LexAll.l0 k a0 0)) = some r := by rw [if_pos rfl] at H; exact H
  clear H
  have H := H1
  clear H1
  by_cases c4 : (a0.size : Int) > 2100
  ·rw [if_pos c4] at H
   have c4b0 : decide (2100 < (a0.size : Int)) = true := decide_eq_true c4
   have c4b1 : decide (2100 < a0.size) = true := decide_eq_true (by omega)
   clear c4
   obtain rfl := Option.some.inj H
   go_enter Try.func3, Try.ntmps3
   go_wp2_with (first | (go_at_call 7; (with_reducible refine (antipodelaw16_begun.calls k  true _ ?side1 A2.out).mono ?_); (case side1 => exact Sh.below hsh (by repeat (first | (with_reducible first | exact HB.out | apply below_alloc | apply pw_below_drewN | apply below_drew1) | exact HB.out))); rintro e w5 ⟨rfl, hb⟩; have n0_ := Aside0.mk (below_step (by repeat (first | (with_reducible first | exact HB.out | apply below_alloc | apply pw_below_drewN | apply below_drew1) | exact HB.out)) hb); clear HB; have HB := n0_; clear n0_; (try clear hb); (try clear hb2); (try clear hk); (try clear hi)))
   repeat (go_quiet (first | (go_at_call 7; (with_reducible refine (antipodelaw16_begun.calls k  true _ ?side1 A2.out).mono ?_); (case side1 => exact Sh.below hsh (by repeat (first | (with_reducible first | exact HB.out | apply below_alloc | apply pw_below_drewN | apply below_drew1) | exact HB.out))); rintro e w5 ⟨rfl, hb⟩; have n0_ := Aside0.mk (below_step (by repeat (first | (with_reducible first | exact HB.out | apply below_alloc | apply pw_below_drewN | apply below_drew1) | exact HB.out)) hb); clear HB; have HB := n0_; clear n0_; (try clear hb); (try clear hb2); (try clear hk); (try clear hi))); try go_wp2_with (first | (go_at_call 7; (with_reducible refine (antipodelaw16_begun.calls k  true _ ?side1 A2.out).mono ?_); (case side1 => exact Sh.below hsh (by repeat (first | (with_reducible first | exact HB.out | apply below_alloc | apply pw_below_drewN | apply below_drew1) | exact HB.out))); rintro e w5 ⟨rfl, hb⟩; have n0_ := Aside0.mk (below_step (by repeat (first | (with_reducible first | exact HB.out | apply below_alloc | apply pw_below_drewN | apply below_drew1) | exact HB.out)) hb); clear HB; have HB := n0_; clear n0_; (try clear hb); (try clear hb2); (try clear hk); (try clear hi))))
   go_ret
   exact ⟨by first | rfl | (simp [errW_none, errW_some] <;> rfl) | (simp [*, errW_none, errW_some] <;> rfl), by repeat (first | (with_reducible first | exact HB.out | apply below_alloc | apply pw_below_drewN | apply below_drew1) | exact HB.out)⟩
  ·rw [if_neg c4] at H
   have c4b0 : decide (2100 < (a0.size : Int)) = false := decide_eq_false c4
   have c4b1 : decide (2100 < a0.size) = false := decide_eq_false (by omega)
   clear c4
   have H' := Aside0.mk H
   clear H
   go_enter Try.func3, Try.ntmps3
   go_wp2_with (first | (go_at_call 7; (with_reducible refine (antipodelaw16_begun.calls k  true _ ?side1 A2.out).mono ?_); (case side1 => exact Sh.below hsh (by repeat (first | (with_reducible first | exact HB.out | apply below_alloc | apply pw_below_drewN | apply below_drew1) | exact HB.out))); rintro e w6 ⟨rfl, hb⟩; have n0_ := Aside0.mk (below_step (by repeat (first | (with_reducible first | exact HB.out | apply below_alloc | apply pw_below_drewN | apply below_drew1) | exact HB.out)) hb); clear HB; have HB := n0_; clear n0_; (try clear hb); (try clear hb2); (try clear hk); (try clear hi)))
   repeat (go_quiet (first | (go_at_call 7; (with_reducible refine (antipodelaw16_begun.calls k  true _ ?side1 A2.out).mono ?_); (case side1 => exact Sh.below hsh (by repeat (first | (with_reducible first | exact HB.out | apply below_alloc | apply pw_below_drewN | apply below_drew1) | exact HB.out))); rintro e w6 ⟨rfl, hb⟩; have n0_ := Aside0.mk (below_step (by repeat (first | (with_reducible first | exact HB.out | apply below_alloc | apply pw_below_drewN | apply below_drew1) | exact HB.out)) hb); clear HB; have HB := n0_; clear n0_; (try clear hb); (try clear hb2); (try clear hk); (try clear hi))); try go_wp2_with (first | (go_at_call 7; (with_reducible refine (antipodelaw16_begun.calls k  true _ ?side1 A2.out).mono ?_); (case side1 => exact Sh.below hsh (by repeat (first | (with_reducible first | exact HB.out | apply below_alloc | apply pw_below_drewN | apply below_drew1) | exact HB.out))); rintro e w6 ⟨rfl, hb⟩; have n0_ := Aside0.mk (below_step (by repeat (first | (with_reducible first | exact HB.out | apply below_alloc | apply pw_below_drewN | apply below_drew1) | exact HB.out)) hb); clear HB; have HB := n0_; clear n0_; (try clear hb); (try clear hb2); (try clear hk); (try clear hi))))
   go_loopg [3] k (fun kq v3 w' => ∃ (x3_1 : Int), v3 = .int .i64 x3_1 ∧ Aside0 (antipodelaw16_LexAll.l0 kq a0 x3_1 = some r) ∧ Aside0 (kq ≤ k) ∧ Aside0 (Below w.heap.size w w'))
   case atStart => exact ⟨(0), (by first | rfl | (simp; done) | (simp [*]; done)), H', ⟨Nat.le_refl _⟩, ⟨by repeat (first | (with_reducible first | exact HB.out | apply below_alloc | apply pw_below_drewN | apply below_drew1) | exact HB.out)⟩⟩
   case round =>
    clear H'
    try clear p2
    try clear c3
    try clear c4
    try clear c4b0
    try clear c4b1
    obtain ⟨x3_1, rfl, HA, HK1, HB⟩ := hrel
    cases gk with
    | zero => exact absurd HA.out (by simp [antipodelaw16_LexAll.l0])
    | succ k1 =>
     have H := HA.out
     clear HA
     simp only [antipodelaw16_LexAll.l0] at H
     by_cases c7 : x3_1 < 2
     ·rw [if_pos c7] at H
      have c7b0 : decide (x3_1 < 2) = true := decide_eq_true c7
      clear c7
      replace H := Option.bind_eq_some_iff.mp H
      obtain ⟨⟨t212, t213⟩, A80, H⟩ := H
      replace H : ((antipoderef16_Lex.f k1 a0).bind fun bt216 => (if t213 = bt216.2 then (antipodelaw16_LexAll.j1 k1 a0 x3_1 t212 bt216.1 ((t212.length : Int) != (bt216.1.length : Int))) else (antipodelaw16_LexAll.j1 k1 a0 x3_1 t212 bt216.1 true))) = some r := H
      have A8 := Aside0.mk A80
      clear A80
      replace H := Option.bind_eq_some_iff.mp H
      obtain ⟨⟨t216, t217⟩, A90, H⟩ := H
      replace H : (if t213 = t217 then (antipodelaw16_LexAll.j1 k1 a0 x3_1 t212 t216 ((t212.length : Int) != (t216.length : Int))) else (antipodelaw16_LexAll.j1 k1 a0 x3_1 t212 t216 true)) = some r := H
      have A9 := Aside0.mk A90
      clear A90
      have HC10 := Aside0.mk H
      clear H
      go_upto_region 10 with (first | (go_at_call 8; (with_reducible refine (lex_Lex.calls k1 a0 t212 t213 _ A8.out).mono ?_); rintro e w11 ⟨v214, rfl, ho0, hb⟩; have n0_ := Aside0.mk (Kd.R_lower ho0 (below_size (by repeat (first | (with_reducible first | exact HB.out | apply below_alloc | apply pw_below_drewN | apply below_drew1) | exact HB.out)))); have n1_ := Aside0.mk (below_step (by repeat (first | (with_reducible first | exact HB.out | apply below_alloc | apply pw_below_drewN | apply below_drew1) | exact HB.out)) hb); clear HB; have HO215 := n0_; have HB := n1_; clear n0_ n1_; (try clear hb); (try clear hb2); (try clear hk); (try clear hi); (try clear ho0)) | (go_at_call 9; (with_reducible refine (antipoderef16_Lex.calls k1 a0 t216 t217 _ A9.out).mono ?_); rintro e w12 ⟨v218, rfl, ho0, hb⟩; have n0_ := Aside0.mk (Kd.R_elder' (by (with_reducible repeat (first | apply Kd.R_alloc | apply Kd.R_drewN | apply Kd.R_drew)); exact HO215.out) (Kd.R_base ho0) hb); have n1_ := Aside0.mk (Kd.R_lower (Kd.R_new' ho0 (Kd.R_lt (by (with_reducible repeat (first | apply Kd.R_alloc | apply Kd.R_drewN | apply Kd.R_drew)); exact HO215.out))) (below_size (by repeat (first | (with_reducible first | exact HB.out | apply below_alloc | apply pw_below_drewN | apply below_drew1) | exact HB.out)))); have n2_ := Aside0.mk (below_step (by repeat (first | (with_reducible first | exact HB.out | apply below_alloc | apply pw_below_drewN | apply below_drew1) | exact HB.out)) hb); clear HO215; clear HB; have HO215 := n0_; have HO219 := n1_; have HB := n2_; clear n0_ n1_ n2_; (try clear hb); (try clear hb2); (try clear hk); (try clear hi); (try clear ho0)))
      repeat (go_quiet (first | (go_at_call 8; (with_reducible refine (lex_Lex.calls k1 a0 t212 t213 _ A8.out).mono ?_); rintro e w11 ⟨v214, rfl, ho0, hb⟩; have n0_ := Aside0.mk (Kd.R_lower ho0 (below_size (by repeat (first | (with_reducible first | exact HB.out | apply below_alloc | apply pw_below_drewN | apply below_drew1) | exact HB.out)))); have n1_ := Aside0.mk (below_step (by repeat (first | (with_reducible first | exact HB.out | apply below_alloc | apply pw_below_drewN | apply below_drew1) | exact HB.out)) hb); clear HB; have HO215 := n0_; have HB := n1_; clear n0_ n1_; (try clear hb); (try clear hb2); (try clear hk); (try clear hi); (try clear ho0)) | (go_at_call 9; (with_reducible refine (antipoderef16_Lex.calls k1 a0 t216 t217 _ A9.out).mono ?_); rintro e w12 ⟨v218, rfl, ho0, hb⟩; have n0_ := Aside0.mk (Kd.R_elder' (by (with_reducible repeat (first | apply Kd.R_alloc | apply Kd.R_drewN | apply Kd.R_drew)); exact HO215.out) (Kd.R_base ho0) hb); have n1_ := Aside0.mk (Kd.R_lower (Kd.R_new' ho0 (Kd.R_lt (by (with_reducible repeat (first | apply Kd.R_alloc | apply Kd.R_drewN | apply Kd.R_drew)); exact HO215.out))) (below_size (by repeat (first | (with_reducible first | exact HB.out | apply below_alloc | apply pw_below_drewN | apply below_drew1) | exact HB.out)))); have n2_ := Aside0.mk (below_step (by repeat (first | (with_reducible first | exact HB.out | apply below_alloc | apply pw_below_drewN | apply below_drew1) | exact HB.out)) hb); clear HO215; clear HB; have HO215 := n0_; have HO219 := n1_; have HB := n2_; clear n0_ n1_ n2_; (try clear hb); (try clear hb2); (try clear hk); (try clear hi); (try clear ho0))); go_upto_region 10 with (first | (go_at_call 8; (with_reducible refine (lex_Lex.calls k1 a0 t212 t213 _ A8.out).mono ?_); rintro e w11 ⟨v214, rfl, ho0, hb⟩; have n0_ := Aside0.mk (Kd.R_lower ho0 (below_size (by repeat (first | (with_reducible first | exact HB.out | apply below_alloc | apply pw_below_drewN | apply below_drew1) | exact HB.out)))); have n1_ := Aside0.mk (below_step (by repeat (first | (with_reducible first | exact HB.out | apply below_alloc | apply pw_below_drewN | apply below_drew1) | exact HB.out)) hb); clear HB; have HO215 := n0_; have HB := n1_; clear n0_ n1_; (try clear hb); (try clear hb2); (try clear hk); (try clear hi); (try clear ho0)) | (go_at_call 9; (with_reducible refine (antipoderef16_Lex.calls k1 a0 t216 t217 _ A9.out).mono ?_); rintro e w12 ⟨v218, rfl, ho0, hb⟩; have n0_ := Aside0.mk (Kd.R_elder' (by (with_reducible repeat (first | apply Kd.R_alloc | apply Kd.R_drewN | apply Kd.R_drew)); exact HO215.out) (Kd.R_base ho0) hb); have n1_ := Aside0.mk (Kd.R_lower (Kd.R_new' ho0 (Kd.R_lt (by (with_reducible repeat (first | apply Kd.R_alloc | apply Kd.R_drewN | apply Kd.R_drew)); exact HO215.out))) (below_size (by repeat (first | (with_reducible first | exact HB.out | apply below_alloc | apply pw_below_drewN | apply below_drew1) | exact HB.out)))); have n2_ := Aside0.mk (below_step (by repeat (first | (with_reducible first | exact HB.out | apply below_alloc | apply pw_below_drewN | apply below_drew1) | exact HB.out)) hb); clear HO215; clear HB; have HO215 := n0_; have HO219 := n1_; have HB := n2_; clear n0_ n1_ n2_; (try clear hb); (try clear hb2); (try clear hk); (try clear hi); (try clear ho0))))
      (try simp only [Act.put, List.setIfInBounds_toArray, List.set_cons_zero, List.set_cons_succ])
      go_cut [37] (fun v37 wc => ∃ (kq : Nat) (x37_9 : Bool), v37 = .bool x37_9 ∧ Aside0 (antipodelaw16_LexAll.j1 kq a0 x3_1 t212 t216 x37_9 = some r) ∧ Aside0 (kq ≤ k1) ∧ Aside0 (Kd.R k28 28 wc w.heap.size (fun k_ => some k_ ≠ (v218 : Value).ownBlock) v214 t212) ∧ Aside0 (Kd.R k28 28 wc w.heap.size (fun k_ => some k_ ≠ (v214 : Value).ownBlock) v218 t216) ∧ Aside0 (Below w.heap.size w wc))
      case first =>
       have H := HC10.out
       clear HC10
       by_cases c13 : t213 = t217
       ·rw [if_pos c13] at H
        have c13b0 : (t213 == t217) = true := beq_iff_eq.mpr c13
        have c13b1 : (t213 != t217) = false := bne_eq_false_iff_eq.mpr c13
        clear c13
        (first | rw [c13b0] | (simp only [i64_w, i32_w]; rw [c13b0]) | skip)
        have H' := Aside0.mk H
        clear H
        obtain ⟨Ao14, co14, eo14⟩ := Kd.R_slice HO215.out
        subst eo14
        obtain ⟨Ao15, co15, eo15⟩ := Kd.R_slice HO219.out
        subst eo15
        go_wp2
        repeat (go_quiet (fail); try go_wp2)
        go_meet
        case rel => exact ⟨_, (((t212.length : Int) != (t216.length : Int))), (by first | rfl | (simp; done) | (simp [*]; done)), H', ⟨by have := HK1.out; first | omega | exact Nat.le_refl _⟩, ⟨by (with_reducible repeat (first | apply Kd.R_alloc | apply Kd.R_drewN | apply Kd.R_drew)); exact Kd.R_mono HO215.out (fun _ hk => hk.2)⟩, ⟨by (with_reducible repeat (first | apply Kd.R_alloc | apply Kd.R_drewN | apply Kd.R_drew)); exact Kd.R_mono HO219.out (fun _ hk => hk.2)⟩, ⟨by repeat (first | (with_reducible first | exact HB.out | apply below_alloc | apply pw_below_drewN | apply below_drew1) | exact HB.out)⟩⟩
       ·rw [if_neg c13] at H
        have c13b0 : (t213 == t217) = false := beq_eq_false_iff_ne.mpr c13
        have c13b1 : (t213 != t217) = true := bne_iff_ne.mpr c13
        (first | rw [c13b0] | (simp only [i64_w, i32_w]; rw [c13b0]) | skip)
        have H' := Aside0.mk H
        clear H
        go_wp2
        repeat (go_quiet (fail); try go_wp2)
        go_meet
        case rel => exact ⟨_, (true), (by first | rfl | (simp; done) | (simp [*]; done)), H', ⟨by have := HK1.out; first | omega | exact Nat.le_refl _⟩, ⟨by (with_reducible repeat (first | apply Kd.R_alloc | apply Kd.R_drewN | apply Kd.R_drew)); exact Kd.R_mono HO215.out (fun _ hk => hk.2)⟩, ⟨by (with_reducible repeat (first | apply Kd.R_alloc | apply Kd.R_drewN | apply Kd.R_drew)); exact Kd.R_mono HO219.out (fun _ hk => hk.2)⟩, ⟨by repeat (first | (with_reducible first | exact HB.out | apply below_alloc | apply pw_below_drewN | apply below_drew1) | exact HB.out)⟩⟩
      case rest =>
       clear HC10
       try clear c1
       try clear p2
       try clear c3
       try clear c4
       try clear c4b0
       try clear c4b1
       try clear c7
       try clear c7b0
       try clear c13
       try clear c13b0
       try clear c13b1
       try clear p2
       obtain ⟨kq, x37_9, rfl, HA, HJ9, HO_4, HO_6, HB⟩ := hcut
       cases kq with
       | zero => exact absurd HA.out (by simp [antipodelaw16_LexAll.j1])
       | succ kj9 =>
        have H := HA.out
        clear HA
        simp only [antipodelaw16_LexAll.j1] at H
        by_cases c16 : x37_9 = true
        ·subst c16
         have H1 : (some false) = some r := by rw [if_pos rfl] at H; exact H
         clear H
         have H := H1
         clear H1
         obtain rfl := Option.some.inj H
         go_wp2
         repeat (go_quiet (fail); try go_wp2)
         go_ret
         exact ⟨by first | rfl | (simp [errW_none, errW_some] <;> rfl) | (simp [*, errW_none, errW_some] <;> rfl), by repeat (first | (with_reducible first | exact HB.out | apply below_alloc | apply pw_below_drewN | apply below_drew1) | exact HB.out)⟩
        ·replace c16 := Bool.eq_false_iff.mpr c16
         subst c16
         have H1 : (antipodelaw16_LexAll.l1 kj9 a0 x3_1 t212 t216 0) = some r := by rw [if_neg (show ¬ (false = true) by decide)] at H; exact H
         clear H
         have H := H1
         clear H1
         have H' := Aside0.mk H
         clear H
         go_wp2
         repeat (go_quiet (fail); try go_wp2)
         go_loopg [8] kj9 (fun kq v8 w' => ∃ (x4_3 : List (S28)) (x8_3 : Int), v8 = .int .i64 x8_3 ∧ Aside0 (antipodelaw16_LexAll.l1 kq a0 x3_1 x4_3 t216 x8_3 = some r) ∧ Aside0 (kq ≤ kj9) ∧ Aside0 (Kd.R k28 28 w' w.heap.size (fun k_ => some k_ ≠ (v218 : Value).ownBlock) v214 x4_3) ∧ Aside0 (Kd.R k28 28 w' w.heap.size (fun k_ => some k_ ≠ (v214 : Value).ownBlock) v218 t216) ∧ Aside0 (Below w.heap.size w w'))
         case atStart => exact ⟨(t212), (0), (by first | rfl | (simp; done) | (simp [*]; done)), H', ⟨Nat.le_refl _⟩, ⟨by (with_reducible repeat (first | apply Kd.R_alloc | apply Kd.R_drewN | apply Kd.R_drew)); exact HO_4.out⟩, ⟨by (with_reducible repeat (first | apply Kd.R_alloc | apply Kd.R_drewN | apply Kd.R_drew)); exact HO_6.out⟩, ⟨by repeat (first | (with_reducible first | exact HB.out | apply below_alloc | apply pw_below_drewN | apply below_drew1) | exact HB.out)⟩⟩
         case round =>
          clear H'
          try clear c1
          try clear p2
          try clear c3
          try clear c4
          try clear c4b0
          try clear c4b1
          try clear c7
          try clear c7b0
          try clear c13
          try clear c13b0
          try clear c13b1
          try clear c16
          try clear p2
          obtain ⟨x4_3, x8_3, rfl, HA, HK3, HO_4, HO_6, HB⟩ := hrel
          cases gk with
          | zero => exact absurd HA.out (by simp [antipodelaw16_LexAll.l1])
          | succ k3 =>
           have H := HA.out
           clear HA
           simp only [antipodelaw16_LexAll.l1] at H
           by_cases c17 : x8_3 < (t216.length : Int)
           ·rw [if_pos c17] at H
            have c17b0 : decide (x8_3 < (t216.length : Int)) = true := decide_eq_true c17
            clear c17
            by_cases c18 : 0 ≤ x8_3
            ·rw [if_pos c18] at H
             have c18b0 : decide (0 ≤ x8_3) = true := decide_eq_true c18
             clear c18
             by_cases c19 : x8_3 < (x4_3.length : Int)
             ·rw [if_pos c19] at H
              have c19b0 : decide (x8_3 < (x4_3.length : Int)) = true := decide_eq_true c19
              clear c19
              by_cases c20 : (!(((rd_T28 x4_3 x8_3).f0) == ((rd_T28 t216 x8_3).f0)) || (!(((rd_T28 x4_3 x8_3).f1) == ((rd_T28 t216 x8_3).f1)) || (!((((rd_T28 x4_3 x8_3).f2).toList) == (((rd_T28 t216 x8_3).f2).toList)) || (!(((rd_T28 x4_3 x8_3).f3) == ((rd_T28 t216 x8_3).f3)))))) = true
              ·rw [if_pos c20] at H
               have c20b0 : (!(((rd_T28 x4_3 x8_3).f0) == ((rd_T28 t216 x8_3).f0)) || (!(((rd_T28 x4_3 x8_3).f1) == ((rd_T28 t216 x8_3).f1)) || (!((((rd_T28 x4_3 x8_3).f2).toList) == (((rd_T28 t216 x8_3).f2).toList)) || (!(((rd_T28 x4_3 x8_3).f3) == ((rd_T28 t216 x8_3).f3)))))) = true := c20
               clear c20
               obtain rfl := Option.some.inj H
               obtain ⟨Ao21, co21, eo21⟩ := Kd.R_slice HO_6.out
               subst eo21
               obtain ⟨Ao22, co22, eo22⟩ := Kd.R_slice HO_4.out
               subst eo22
               have p220 : 0 ≤ (x8_3 : Int) := of_decide_eq_true (by assumption)
               have q220 : x8_3 < (x4_3.length : Int) := of_decide_eq_true (by assumption)
               obtain ⟨ad220, e220, hx220_0, hx220_1, hx220_2, hx220_3⟩ := at_T28 (Kd.R_reads' HO_4.out).2.2 x8_3 p220 q220
               cases e220
               replace p220 := eq_true p220
               replace q220 := eq_true q220
               have p221 : 0 ≤ (x8_3 : Int) := of_decide_eq_true (by assumption)
               have q221 : x8_3 < (t216.length : Int) := of_decide_eq_true (by assumption)
               obtain ⟨ad221, e221, hx221_0, hx221_1, hx221_2, hx221_3⟩ := at_T28 (Kd.R_reads' HO_6.out).2.2 x8_3 p221 q221
               cases e221
               replace p221 := eq_true p221
               replace q221 := eq_true q221
               go_wp2
               repeat (go_quiet (fail); try go_wp2)
               go_ret
               exact ⟨by first | rfl | (simp [errW_none, errW_some] <;> rfl) | (simp [*, errW_none, errW_some] <;> rfl), by repeat (first | (with_reducible first | exact HB.out | apply below_alloc | apply pw_below_drewN | apply below_drew1) | exact HB.out)⟩
              ·rw [if_neg c20] at H
               have c20b0 : (!(((rd_T28 x4_3 x8_3).f0) == ((rd_T28 t216 x8_3).f0)) || (!(((rd_T28 x4_3 x8_3).f1) == ((rd_T28 t216 x8_3).f1)) || (!((((rd_T28 x4_3 x8_3).f2).toList) == (((rd_T28 t216 x8_3).f2).toList)) || (!(((rd_T28 x4_3 x8_3).f3) == ((rd_T28 t216 x8_3).f3)))))) = false := by simpa using c20
               clear c20
               obtain ⟨y222, hy222⟩ : ∃ y_ : List (S28), y_ = (x4_3.set (x8_3 : Int).toNat (⟨0, 0, (⟨#[]⟩ : ByteArray), 0⟩ : S28)) := ⟨_, rfl⟩
               replace H : (antipodelaw16_LexAll.l1 k3 a0 x3_1 y222 t216 (wrap64 (x8_3 + 1))) = some r := by first | (rw [hy222]; with_reducible exact H) | (have H2_ := (Option.bind_some _ _).symm.trans H; rw [hy222]; with_reducible exact H2_) | (have H2_ := (Option.bind_some _ _).symm.trans H; with_reducible exact H2_) | with_reducible exact H | (rw [hy222]; exact H) | exact H
               have Ny222 := Aside0.mk hy222
               clear hy222
               have H' := Aside0.mk H
               clear H
               obtain ⟨Ao24, co24, eo24⟩ := Kd.R_slice HO_6.out
               subst eo24
               obtain ⟨Ao25, co25, eo25⟩ := Kd.R_slice HO_4.out
               subst eo25
               have p220 : 0 ≤ (x8_3 : Int) := of_decide_eq_true (by assumption)
               have q220 : x8_3 < (x4_3.length : Int) := of_decide_eq_true (by assumption)
               obtain ⟨ad220, e220, hx220_0, hx220_1, hx220_2, hx220_3⟩ := at_T28 (Kd.R_reads' HO_4.out).2.2 x8_3 p220 q220
               cases e220
               replace p220 := eq_true p220
               replace q220 := eq_true q220
               have p221 : 0 ≤ (x8_3 : Int) := of_decide_eq_true (by assumption)
               have q221 : x8_3 < (t216.length : Int) := of_decide_eq_true (by assumption)
               obtain ⟨ad221, e221, hx221_0, hx221_1, hx221_2, hx221_3⟩ := at_T28 (Kd.R_reads' HO_6.out).2.2 x8_3 p221 q221
               cases e221
               replace p221 := eq_true p221
               replace q221 := eq_true q221
               have p23 : 0 ≤ (x8_3 : Int) := of_decide_eq_true (by assumption)
               have q23 : (x8_3 : Int) < ((x4_3.length : Int) : Int) := of_decide_eq_true (by assumption)
               obtain ⟨go23, co23, eo23, gb23, gl23, cl23, HG23⟩ := Kd.R_form HO_4.out (by omega)
               (first | cases eo23 | (injection eo23 with ea_ en_ ec_; (first | subst ea_ | (injection ea_ with ea_; subst ea_)); subst ec_; clear en_))
               have GB23 := Aside0.mk gb23
               have GG23 := Aside0.mk HG23
               clear gb23 gl23 HG23
               (first | simp only [add_plain] at hx220_0 | skip)
               (first | simp only [add_plain] at hx220_1 | skip)
               (first | simp only [add_plain] at hx220_2 | skip)
               (first | simp only [add_plain] at hx220_3 | skip)
               obtain ⟨ce23, hcl23, hM23, hcc23, hfr23⟩ := Kd.R_elem HO_4.out z28 (x8_3 : Int) p23 q23
               obtain rfl := k28_openM hM23
               have hx23_0 : wr.cell? ⟨go23, (x8_3 : Int).toNat * 4, none⟩ = some (.int .i64 ((rd_T28 x4_3 x8_3).f0)) := hcc23 0 _ rfl
               have hx23_1 : wr.cell? ⟨go23, (x8_3 : Int).toNat * 4 + 1, none⟩ = some (.int .i64 ((rd_T28 x4_3 x8_3).f1)) := hcc23 1 _ rfl
               have hx23_2 : wr.cell? ⟨go23, (x8_3 : Int).toNat * 4 + 2, none⟩ = some (.string ((rd_T28 x4_3 x8_3).f2)) := hcc23 2 _ rfl
               have hx23_3 : wr.cell? ⟨go23, (x8_3 : Int).toNat * 4 + 3, none⟩ = some (.int .i64 ((rd_T28 x4_3 x8_3).f3)) := hcc23 3 _ rfl
               have hf23_0 : wr.frozen? ⟨go23, (x8_3 : Int).toNat * 4, none⟩ = false := hfr23 0
               have hf23_1 : wr.frozen? ⟨go23, (x8_3 : Int).toNat * 4 + 1, none⟩ = false := hfr23 1
               have hf23_2 : wr.frozen? ⟨go23, (x8_3 : Int).toNat * 4 + 2, none⟩ = false := hfr23 2
               have hf23_3 : wr.frozen? ⟨go23, (x8_3 : Int).toNat * 4 + 3, none⟩ = false := hfr23 3
               clear hcl23 hcc23 hfr23 hM23
               replace p23 := eq_true p23
               replace q23 := eq_true q23
               have HX26 := Aside0.mk (show Kd.R k28 28 wr w.heap.size (fun k_ => some k_ ≠ (.slice (some ad221) t216.length co24 : Value).ownBlock) (.slice (some ⟨go23, 0, none⟩) x4_3.length co25) x4_3 from (by (with_reducible repeat (first | apply Kd.R_alloc | apply Kd.R_drewN | apply Kd.R_drew)); exact HO_4.out))
               obtain ⟨ce26, hcl26, hM26, hcc26, hfr26⟩ := Kd.R_elem HX26.out z28 (x8_3 : Int) (of_decide_eq_true (by assumption)) (by have h_ : (x8_3 : Int) < ((x4_3.length : Int) : Int) := of_decide_eq_true (by assumption); first | exact h_ | (have e_ := (Kd.R_reads' HO_4.out).1; omega) | simpa using h_)
               obtain rfl := k28_openM hM26
               have HP26 := Kd.R_seg HX26.out (x8_3 : Int) (of_decide_eq_true (by assumption)) (by have h_ : (x8_3 : Int) < ((x4_3.length : Int) : Int) := of_decide_eq_true (by assumption); first | exact h_ | (have e_ := (Kd.R_reads' HO_4.out).1; omega) | simpa using h_) (seg := [.int .i64 0, .int .i64 0, .string (⟨#[]⟩ : ByteArray), .int .i64 0]) (j := 0) hcl26 hcc26 (show 4 ≤ 4 from by decide) (x' := (⟨0, 0, (⟨#[]⟩ : ByteArray), 0⟩ : S28)) (k28_mkM _ _ _ (⟨0, 0, (⟨#[]⟩ : ByteArray), 0⟩ : S28) ) (fun _ hk => hk)
               have hx26_0 := hcc26 0 _ rfl
               (try simp only [show (k28).sz = 4 from rfl, Nat.mul_one, Nat.add_zero] at hx26_0)
               have hf26_0 := hfr26 0
               (try simp only [show (k28).sz = 4 from rfl, Nat.mul_one, Nat.add_zero] at hf26_0)
               have hx26_1 := hcc26 1 _ rfl
               (try simp only [show (k28).sz = 4 from rfl, Nat.mul_one, Nat.add_zero] at hx26_1)
               have hf26_1 := hfr26 1
               (try simp only [show (k28).sz = 4 from rfl, Nat.mul_one, Nat.add_zero] at hf26_1)
               have hx26_2 := hcc26 2 _ rfl
               (try simp only [show (k28).sz = 4 from rfl, Nat.mul_one, Nat.add_zero] at hx26_2)
               have hf26_2 := hfr26 2
               (try simp only [show (k28).sz = 4 from rfl, Nat.mul_one, Nat.add_zero] at hf26_2)
               have hx26_3 := hcc26 3 _ rfl
               (try simp only [show (k28).sz = 4 from rfl, Nat.mul_one, Nat.add_zero] at hx26_3)
               have hf26_3 := hfr26 3
               (try simp only [show (k28).sz = 4 from rfl, Nat.mul_one, Nat.add_zero] at hf26_3)
               clear hcl26 hcc26 hfr26 hM26
               go_wp2_with (first | ((with_reducible refine gate_store (t := 28) (p := 56) rfl ?_); (try (rw [drewN_self wr]; generalize hq_ : World.drewN wr _ = wr; have n0_ := Aside0.mk (Kd.R_at hq_ HO_4.out); have n1_ := Aside0.mk (Kd.R_at hq_ HO_6.out); have n2_ := Aside0.mk (below_at hq_ HB.out); clear hq_ HO_4 HO_6 HB; have HO_4 := n0_; have HO_6 := n1_; have HB := n2_; clear n0_ n1_ n2_; (try (have HX26 := Aside0.mk (show Kd.R k28 28 wr w.heap.size (fun k_ => some k_ ≠ (.slice (some ad221) t216.length co24 : Value).ownBlock) (.slice (some ⟨go23, 0, none⟩) x4_3.length co25) x4_3 from (by (with_reducible repeat (first | apply Kd.R_alloc | apply Kd.R_drewN | apply Kd.R_drew)); exact HO_4.out)))); (try (obtain ⟨ce26, hcl26, hM26, hcc26, hfr26⟩ := Kd.R_elem HX26.out z28 (x8_3 : Int) (of_decide_eq_true (by assumption)) (by have h_ : (x8_3 : Int) < ((x4_3.length : Int) : Int) := of_decide_eq_true (by assumption); first | exact h_ | (have e_ := (Kd.R_reads' HO_4.out).1; omega) | simpa using h_))); (try (obtain rfl := k28_openM hM26)); (try (have HP26 := Kd.R_seg HX26.out (x8_3 : Int) (of_decide_eq_true (by assumption)) (by have h_ : (x8_3 : Int) < ((x4_3.length : Int) : Int) := of_decide_eq_true (by assumption); first | exact h_ | (have e_ := (Kd.R_reads' HO_4.out).1; omega) | simpa using h_) (seg := [.int .i64 0, .int .i64 0, .string (⟨#[]⟩ : ByteArray), .int .i64 0]) (j := 0) hcl26 hcc26 (show 4 ≤ 4 from by decide) (x' := (⟨0, 0, (⟨#[]⟩ : ByteArray), 0⟩ : S28)) (k28_mkM _ _ _ (⟨0, 0, (⟨#[]⟩ : ByteArray), 0⟩ : S28) ) (fun _ hk => hk))); (try (have hx26_0 := hcc26 0 _ rfl)); (try (try simp only [show (k28).sz = 4 from rfl, Nat.mul_one, Nat.add_zero] at hx26_0)); (try (have hf26_0 := hfr26 0)); (try (try simp only [show (k28).sz = 4 from rfl, Nat.mul_one, Nat.add_zero] at hf26_0)); (try (have hx26_1 := hcc26 1 _ rfl)); (try (try simp only [show (k28).sz = 4 from rfl, Nat.mul_one, Nat.add_zero] at hx26_1)); (try (have hf26_1 := hfr26 1)); (try (try simp only [show (k28).sz = 4 from rfl, Nat.mul_one, Nat.add_zero] at hf26_1)); (try (have hx26_2 := hcc26 2 _ rfl)); (try (try simp only [show (k28).sz = 4 from rfl, Nat.mul_one, Nat.add_zero] at hx26_2)); (try (have hf26_2 := hfr26 2)); (try (try simp only [show (k28).sz = 4 from rfl, Nat.mul_one, Nat.add_zero] at hf26_2)); (try (have hx26_3 := hcc26 3 _ rfl)); (try (try simp only [show (k28).sz = 4 from rfl, Nat.mul_one, Nat.add_zero] at hx26_3)); (try (have hf26_3 := hfr26 3)); (try (try simp only [show (k28).sz = 4 from rfl, Nat.mul_one, Nat.add_zero] at hf26_3)); (try (clear hcl26 hcc26 hfr26 hM26)))); refine store_event (t := 28) (p := 56) (v := ?vo_w27) (w1 := ((((wr.setCell ⟨go23, (x8_3 : Int).toNat * 4, none⟩ (.int .i64 0)).setCell ⟨go23, (x8_3 : Int).toNat * 4 + 1, none⟩ (.int .i64 0)).setCell ⟨go23, (x8_3 : Int).toNat * 4 + 2, none⟩ (.string (⟨#[]⟩ : ByteArray))).setCell ⟨go23, (x8_3 : Int).toNat * 4 + 3, none⟩ (.int .i64 0))) ?hg ?ho ?hn ?hr ?_; (case ho => rfl); (case hg => rfl); (case hn => rfl); (case hr => first | (go_simp; done) | (go_simp; rfl)); intro w27 hw; have hg : wr.grownBy w27 (some go23) := (by rw [hw]; exact HP26.2); have hp_ : Kd.R k28 28 w27 w.heap.size (fun k_ => some k_ ≠ (.slice (some ad221) t216.length co24 : Value).ownBlock) (.slice (some ⟨go23, 0, none⟩) x4_3.length co25) y222 := (by rw [hw, Ny222.out]; exact HP26.1); clear HP26; have n0_ := Aside0.mk (hp_); have n1_ := Aside0.mk (Kd.R_after (v := (.slice (some ⟨go23, 0, none⟩) x4_3.length co25)) (v1 := (.slice (some ⟨go23, 0, none⟩) x4_3.length co25)) (ok := (fun _ => True)) (by (with_reducible repeat (first | apply Kd.R_alloc | apply Kd.R_drewN | apply Kd.R_drew)); exact Kd.R_mono HO_6.out (fun _ hk => ⟨trivial, hk⟩)) hg (.inl rfl)); have n2_ := Aside0.mk ((by rw [hw]; exact below_set (below_set (below_set (below_set (HB.out) GB23.out) GB23.out) GB23.out) GB23.out : Below w.heap.size w w27)); clear HO_4; clear HO_6; clear HB; have HO_4 := n0_; have HO_6 := n1_; have HB := n2_; clear n0_ n1_ n2_; clear hg hw hp_))
               repeat (go_quiet (first | ((with_reducible refine gate_store (t := 28) (p := 56) rfl ?_); (try (rw [drewN_self wr]; generalize hq_ : World.drewN wr _ = wr; have n0_ := Aside0.mk (Kd.R_at hq_ HO_4.out); have n1_ := Aside0.mk (Kd.R_at hq_ HO_6.out); have n2_ := Aside0.mk (below_at hq_ HB.out); clear hq_ HO_4 HO_6 HB; have HO_4 := n0_; have HO_6 := n1_; have HB := n2_; clear n0_ n1_ n2_; (try (have HX26 := Aside0.mk (show Kd.R k28 28 wr w.heap.size (fun k_ => some k_ ≠ (.slice (some ad221) t216.length co24 : Value).ownBlock) (.slice (some ⟨go23, 0, none⟩) x4_3.length co25) x4_3 from (by (with_reducible repeat (first | apply Kd.R_alloc | apply Kd.R_drewN | apply Kd.R_drew)); exact HO_4.out)))); (try (obtain ⟨ce26, hcl26, hM26, hcc26, hfr26⟩ := Kd.R_elem HX26.out z28 (x8_3 : Int) (of_decide_eq_true (by assumption)) (by have h_ : (x8_3 : Int) < ((x4_3.length : Int) : Int) := of_decide_eq_true (by assumption); first | exact h_ | (have e_ := (Kd.R_reads' HO_4.out).1; omega) | simpa using h_))); (try (obtain rfl := k28_openM hM26)); (try (have HP26 := Kd.R_seg HX26.out (x8_3 : Int) (of_decide_eq_true (by assumption)) (by have h_ : (x8_3 : Int) < ((x4_3.length : Int) : Int) := of_decide_eq_true (by assumption); first | exact h_ | (have e_ := (Kd.R_reads' HO_4.out).1; omega) | simpa using h_) (seg := [.int .i64 0, .int .i64 0, .string (⟨#[]⟩ : ByteArray), .int .i64 0]) (j := 0) hcl26 hcc26 (show 4 ≤ 4 from by decide) (x' := (⟨0, 0, (⟨#[]⟩ : ByteArray), 0⟩ : S28)) (k28_mkM _ _ _ (⟨0, 0, (⟨#[]⟩ : ByteArray), 0⟩ : S28) ) (fun _ hk => hk))); (try (have hx26_0 := hcc26 0 _ rfl)); (try (try simp only [show (k28).sz = 4 from rfl, Nat.mul_one, Nat.add_zero] at hx26_0)); (try (have hf26_0 := hfr26 0)); (try (try simp only [show (k28).sz = 4 from rfl, Nat.mul_one, Nat.add_zero] at hf26_0)); (try (have hx26_1 := hcc26 1 _ rfl)); (try (try simp only [show (k28).sz = 4 from rfl, Nat.mul_one, Nat.add_zero] at hx26_1)); (try (have hf26_1 := hfr26 1)); (try (try simp only [show (k28).sz = 4 from rfl, Nat.mul_one, Nat.add_zero] at hf26_1)); (try (have hx26_2 := hcc26 2 _ rfl)); (try (try simp only [show (k28).sz = 4 from rfl, Nat.mul_one, Nat.add_zero] at hx26_2)); (try (have hf26_2 := hfr26 2)); (try (try simp only [show (k28).sz = 4 from rfl, Nat.mul_one, Nat.add_zero] at hf26_2)); (try (have hx26_3 := hcc26 3 _ rfl)); (try (try simp only [show (k28).sz = 4 from rfl, Nat.mul_one, Nat.add_zero] at hx26_3)); (try (have hf26_3 := hfr26 3)); (try (try simp only [show (k28).sz = 4 from rfl, Nat.mul_one, Nat.add_zero] at hf26_3)); (try (clear hcl26 hcc26 hfr26 hM26)))); refine store_event (t := 28) (p := 56) (v := ?vo_w27) (w1 := ((((wr.setCell ⟨go23, (x8_3 : Int).toNat * 4, none⟩ (.int .i64 0)).setCell ⟨go23, (x8_3 : Int).toNat * 4 + 1, none⟩ (.int .i64 0)).setCell ⟨go23, (x8_3 : Int).toNat * 4 + 2, none⟩ (.string (⟨#[]⟩ : ByteArray))).setCell ⟨go23, (x8_3 : Int).toNat * 4 + 3, none⟩ (.int .i64 0))) ?hg ?ho ?hn ?hr ?_; (case ho => rfl); (case hg => rfl); (case hn => rfl); (case hr => first | (go_simp; done) | (go_simp; rfl)); intro w27 hw; have hg : wr.grownBy w27 (some go23) := (by rw [hw]; exact HP26.2); have hp_ : Kd.R k28 28 w27 w.heap.size (fun k_ => some k_ ≠ (.slice (some ad221) t216.length co24 : Value).ownBlock) (.slice (some ⟨go23, 0, none⟩) x4_3.length co25) y222 := (by rw [hw, Ny222.out]; exact HP26.1); clear HP26; have n0_ := Aside0.mk (hp_); have n1_ := Aside0.mk (Kd.R_after (v := (.slice (some ⟨go23, 0, none⟩) x4_3.length co25)) (v1 := (.slice (some ⟨go23, 0, none⟩) x4_3.length co25)) (ok := (fun _ => True)) (by (with_reducible repeat (first | apply Kd.R_alloc | apply Kd.R_drewN | apply Kd.R_drew)); exact Kd.R_mono HO_6.out (fun _ hk => ⟨trivial, hk⟩)) hg (.inl rfl)); have n2_ := Aside0.mk ((by rw [hw]; exact below_set (below_set (below_set (below_set (HB.out) GB23.out) GB23.out) GB23.out) GB23.out : Below w.heap.size w w27)); clear HO_4; clear HO_6; clear HB; have HO_4 := n0_; have HO_6 := n1_; have HB := n2_; clear n0_ n1_ n2_; clear hg hw hp_)); try go_wp2_with (first | ((with_reducible refine gate_store (t := 28) (p := 56) rfl ?_); (try (rw [drewN_self wr]; generalize hq_ : World.drewN wr _ = wr; have n0_ := Aside0.mk (Kd.R_at hq_ HO_4.out); have n1_ := Aside0.mk (Kd.R_at hq_ HO_6.out); have n2_ := Aside0.mk (below_at hq_ HB.out); clear hq_ HO_4 HO_6 HB; have HO_4 := n0_; have HO_6 := n1_; have HB := n2_; clear n0_ n1_ n2_; (try (have HX26 := Aside0.mk (show Kd.R k28 28 wr w.heap.size (fun k_ => some k_ ≠ (.slice (some ad221) t216.length co24 : Value).ownBlock) (.slice (some ⟨go23, 0, none⟩) x4_3.length co25) x4_3 from (by (with_reducible repeat (first | apply Kd.R_alloc | apply Kd.R_drewN | apply Kd.R_drew)); exact HO_4.out)))); (try (obtain ⟨ce26, hcl26, hM26, hcc26, hfr26⟩ := Kd.R_elem HX26.out z28 (x8_3 : Int) (of_decide_eq_true (by assumption)) (by have h_ : (x8_3 : Int) < ((x4_3.length : Int) : Int) := of_decide_eq_true (by assumption); first | exact h_ | (have e_ := (Kd.R_reads' HO_4.out).1; omega) | simpa using h_))); (try (obtain rfl := k28_openM hM26)); (try (have HP26 := Kd.R_seg HX26.out (x8_3 : Int) (of_decide_eq_true (by assumption)) (by have h_ : (x8_3 : Int) < ((x4_3.length : Int) : Int) := of_decide_eq_true (by assumption); first | exact h_ | (have e_ := (Kd.R_reads' HO_4.out).1; omega) | simpa using h_) (seg := [.int .i64 0, .int .i64 0, .string (⟨#[]⟩ : ByteArray), .int .i64 0]) (j := 0) hcl26 hcc26 (show 4 ≤ 4 from by decide) (x' := (⟨0, 0, (⟨#[]⟩ : ByteArray), 0⟩ : S28)) (k28_mkM _ _ _ (⟨0, 0, (⟨#[]⟩ : ByteArray), 0⟩ : S28) ) (fun _ hk => hk))); (try (have hx26_0 := hcc26 0 _ rfl)); (try (try simp only [show (k28).sz = 4 from rfl, Nat.mul_one, Nat.add_zero] at hx26_0)); (try (have hf26_0 := hfr26 0)); (try (try simp only [show (k28).sz = 4 from rfl, Nat.mul_one, Nat.add_zero] at hf26_0)); (try (have hx26_1 := hcc26 1 _ rfl)); (try (try simp only [show (k28).sz = 4 from rfl, Nat.mul_one, Nat.add_zero] at hx26_1)); (try (have hf26_1 := hfr26 1)); (try (try simp only [show (k28).sz = 4 from rfl, Nat.mul_one, Nat.add_zero] at hf26_1)); (try (have hx26_2 := hcc26 2 _ rfl)); (try (try simp only [show (k28).sz = 4 from rfl, Nat.mul_one, Nat.add_zero] at hx26_2)); (try (have hf26_2 := hfr26 2)); (try (try simp only [show (k28).sz = 4 from rfl, Nat.mul_one, Nat.add_zero] at hf26_2)); (try (have hx26_3 := hcc26 3 _ rfl)); (try (try simp only [show (k28).sz = 4 from rfl, Nat.mul_one, Nat.add_zero] at hx26_3)); (try (have hf26_3 := hfr26 3)); (try (try simp only [show (k28).sz = 4 from rfl, Nat.mul_one, Nat.add_zero] at hf26_3)); (try (clear hcl26 hcc26 hfr26 hM26)))); refine store_event (t := 28) (p := 56) (v := ?vo_w27) (w1 := ((((wr.setCell ⟨go23, (x8_3 : Int).toNat * 4, none⟩ (.int .i64 0)).setCell ⟨go23, (x8_3 : Int).toNat * 4 + 1, none⟩ (.int .i64 0)).setCell ⟨go23, (x8_3 : Int).toNat * 4 + 2, none⟩ (.string (⟨#[]⟩ : ByteArray))).setCell ⟨go23, (x8_3 : Int).toNat * 4 + 3, none⟩ (.int .i64 0))) ?hg ?ho ?hn ?hr ?_; (case ho => rfl); (case hg => rfl); (case hn => rfl); (case hr => first | (go_simp; done) | (go_simp; rfl)); intro w27 hw; have hg : wr.grownBy w27 (some go23) := (by rw [hw]; exact HP26.2); have hp_ : Kd.R k28 28 w27 w.heap.size (fun k_ => some k_ ≠ (.slice (some ad221) t216.length co24 : Value).ownBlock) (.slice (some ⟨go23, 0, none⟩) x4_3.length co25) y222 := (by rw [hw, Ny222.out]; exact HP26.1); clear HP26; have n0_ := Aside0.mk (hp_); have n1_ := Aside0.mk (Kd.R_after (v := (.slice (some ⟨go23, 0, none⟩) x4_3.length co25)) (v1 := (.slice (some ⟨go23, 0, none⟩) x4_3.length co25)) (ok := (fun _ => True)) (by (with_reducible repeat (first | apply Kd.R_alloc | apply Kd.R_drewN | apply Kd.R_drew)); exact Kd.R_mono HO_6.out (fun _ hk => ⟨trivial, hk⟩)) hg (.inl rfl)); have n2_ := Aside0.mk ((by rw [hw]; exact below_set (below_set (below_set (below_set (HB.out) GB23.out) GB23.out) GB23.out) GB23.out : Below w.heap.size w w27)); clear HO_4; clear HO_6; clear HB; have HO_4 := n0_; have HO_6 := n1_; have HB := n2_; clear n0_ n1_ n2_; clear hg hw hp_)))
               go_roundg k3
               case measure => have := HK1.out; have := HJ9.out; have := HK3.out; omega
               case rel => exact ⟨(y222), (wrap64 (x8_3 + 1)), (by first | rfl | (simp; done) | (simp [*]; done)), H', ⟨by have := HK1.out; have := HJ9.out; have := HK3.out; omega⟩, ⟨by (with_reducible repeat (first | apply Kd.R_alloc | apply Kd.R_drewN | apply Kd.R_drew)); exact HO_4.out⟩, ⟨by (with_reducible repeat (first | apply Kd.R_alloc | apply Kd.R_drewN | apply Kd.R_drew)); exact Kd.R_mono HO_6.out (fun _ hk => hk.2)⟩, ⟨by repeat (first | (with_reducible first | exact HB.out | apply below_alloc | apply pw_below_drewN | apply below_drew1) | exact HB.out)⟩⟩
             ·rw [if_neg c19] at H
              exact absurd H (by simp)
            ·rw [if_neg c18] at H
             exact absurd H (by simp)
           ·rw [if_neg c17] at H
            have c17b0 : decide (x8_3 < (t216.length : Int)) = false := decide_eq_false c17
            clear c17
            have H' := Aside0.mk H
            clear H
            obtain ⟨Ao28, co28, eo28⟩ := Kd.R_slice HO_6.out
            subst eo28
            go_wp2
            repeat (go_quiet (fail); try go_wp2)
            go_roundg k3
            case measure => have := HK1.out; have := HJ9.out; have := HK3.out; omega
            case rel => exact ⟨(wrap64 (x3_1 + 1)), (by first | rfl | (simp; done) | (simp [*]; done)), H', ⟨by have := HK1.out; have := HJ9.out; have := HK3.out; omega⟩, ⟨by repeat (first | (with_reducible first | exact HB.out | apply below_alloc | apply pw_below_drewN | apply below_drew1) | exact HB.out)⟩⟩
     ·rw [if_neg c7] at H
      have c7b0 : decide (x3_1 < 2) = false := decide_eq_false c7
      clear c7
      obtain rfl := Option.some.inj H
      go_wp2
      repeat (go_quiet (fail); try go_wp2)
      go_ret
      exact ⟨by first | rfl | (simp [errW_none, errW_some] <;> rfl) | (simp [*, errW_none, errW_some] <;> rfl), by repeat (first | (with_reducible first | exact HB.out | apply below_alloc | apply pw_below_drewN | apply below_drew1) | exact HB.out)⟩
 ·replace c3 := Bool.eq_false_iff.mpr c3
  subst c3
  have H1 : (some false) = some r := by rw [if_neg (show ¬ (false = true) by decide)] at H; exact H
  clear H
  have H := H1
  clear H1
  obtain rfl := Option.some.inj H
  go_enter Try.func3, Try.ntmps3
  go_wp2_with (first | (go_at_call 7; (with_reducible refine (antipodelaw16_begun.calls k  false _ ?side1 A2.out).mono ?_); (case side1 => exact Sh.below hsh (by repeat (first | (with_reducible first | exact HB.out | apply below_alloc | apply pw_below_drewN | apply below_drew1) | exact HB.out))); rintro e w29 ⟨rfl, hb⟩; have n0_ := Aside0.mk (below_step (by repeat (first | (with_reducible first | exact HB.out | apply below_alloc | apply pw_below_drewN | apply below_drew1) | exact HB.out)) hb); clear HB; have HB := n0_; clear n0_; (try clear hb); (try clear hb2); (try clear hk); (try clear hi)))
  repeat (go_quiet (first | (go_at_call 7; (with_reducible refine (antipodelaw16_begun.calls k  false _ ?side1 A2.out).mono ?_); (case side1 => exact Sh.below hsh (by repeat (first | (with_reducible first | exact HB.out | apply below_alloc | apply pw_below_drewN | apply below_drew1) | exact HB.out))); rintro e w29 ⟨rfl, hb⟩; have n0_ := Aside0.mk (below_step (by repeat (first | (with_reducible first | exact HB.out | apply below_alloc | apply pw_below_drewN | apply below_drew1) | exact HB.out)) hb); clear HB; have HB := n0_; clear n0_; (try clear hb); (try clear hb2); (try clear hk); (try clear hi))); try go_wp2_with (first | (go_at_call 7; (with_reducible refine (antipodelaw16_begun.calls k  false _ ?side1 A2.out).mono ?_); (case side1 => exact Sh.below hsh (by repeat (first | (with_reducible first | exact HB.out | apply below_alloc | apply pw_below_drewN | apply below_drew1) | exact HB.out))); rintro e w29 ⟨rfl, hb⟩; have n0_ := Aside0.mk (below_step (by repeat (first | (with_reducible first | exact HB.out | apply below_alloc | apply pw_below_drewN | apply below_drew1) | exact HB.out)) hb); clear HB; have HB := n0_; clear n0_; (try clear hb); (try clear hb2); (try clear hk); (try clear hi))))
  go_ret
  exact ⟨by first | rfl | (simp [errW_none, errW_some] <;> rfl) | (simp [*, errW_none, errW_some] <;> rfl), by repeat (first | (with_reducible first | exact HB.out | apply below_alloc | apply pw_below_drewN | apply below_drew1) | exact HB.out)⟩

/-- THE ONE PURE STATEMENT of antipodelaw16_LexAll: yours. -/
def antipodelaw16_LexAll.Pure : Prop := ∀ (a0 : ByteArray), a0.size ≤ 140737488351232 → ∃ k, antipodelaw16_LexAll.f k a0 = some true
theorem antipodelaw16_LexAll.walk (P : antipodelaw16_LexAll.Pure) (a0 : ByteArray) (w : World) (w0 : a0.size ≤ 140737488351232) (hsh : Sh w) :
  Calls Try.prog 3 #[.string a0] w fun e w' => e = .returned (.bool true) ∧ Below w.heap.size w w' := by
 obtain ⟨k, h⟩ := P a0 w0
 refine (antipodelaw16_LexAll.calls k a0 true w hsh h).mono ?_
 rintro e w' ⟨rfl, hd⟩
 exact ⟨rfl, hd⟩

end Go.Proofs.Ytpgcjlndojbmjaa.PL
