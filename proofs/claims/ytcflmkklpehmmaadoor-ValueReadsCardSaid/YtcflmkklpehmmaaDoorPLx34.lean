-- Written by drv.py (this session's program over the kit's print).
import Derived.Test.YtcflmkklpehmmaaDoorPLx0
namespace Go.Proofs.YtcflmkklpehmmaaDoor.PL
open Go.RowKit Go.Proofs.YtcflmkklpehmmaaDoorW.PrintWords Go.Proofs.YtcflmkklpehmmaaDoorW.PrintLast Go.Proofs.YtcflmkklpehmmaaDoorW.PrintMore
attribute [local go_sem] max2_int min2_int max_two min_two max_three min_three max_four min_four   -- for this text's walks alone
attribute [local go_sem ↓] isSome_setCell
set_option linter.unusedVariables false
set_option linter.unusedSimpArgs false

/-! ### antipoderef1_TakeVar: function 55 -/
mutual
def antipoderef1_TakeVar.l0 : Nat → List Int → Int → Int → Int → Option (Int × Int × Int)
 | 0, _, _, _, _ => none
 | k + 1, x0, x5, x6, x7 => if x7 < 10 then (if x7 ≥ (x0.length : Int) then (some (0, 0, 2)) else (if x7 = 9 then (if 0 ≤ x7 then (if x7 < (x0.length : Int) then (antipoderef1_TakeVar.j1 k x0 x5 x6 x7 (decide ((rd x0 x7) > 1))) else (none)) else (none)) else (antipoderef1_TakeVar.j1 k x0 x5 x6 x7 false))) else (some (0, 0, 5))
def antipoderef1_TakeVar.j1 : Nat → List Int → Int → Int → Int → Bool → Option (Int × Int × Int)
 | 0, _, _, _, _, _ => none
 | k + 1, x0, x5, x6, x7, x24 => if x24 = true then (some (0, 0, 5)) else (if 0 ≤ x7 then (if x7 < (x0.length : Int) then (if (rd x0 x7) < 128 then (if (rd x0 x7) = 0 then (if x7 > 0 then (some (0, 0, 9)) else (some (IntKind.u64.wrap (x5 + (IntKind.u64.wrap ((IntKind.u64.wrap (Int.tmod (rd x0 x7) 128)) * x6))), wrap64 (x7 + 1), 0))) else (some (IntKind.u64.wrap (x5 + (IntKind.u64.wrap ((IntKind.u64.wrap (Int.tmod (rd x0 x7) 128)) * x6))), wrap64 (x7 + 1), 0))) else (antipoderef1_TakeVar.l0 k x0 (IntKind.u64.wrap (x5 + (IntKind.u64.wrap ((IntKind.u64.wrap (Int.tmod (rd x0 x7) 128)) * x6)))) (IntKind.u64.wrap (x6 * 128)) (wrap64 (x7 + 1)))) else (none)) else (none))
end
def antipoderef1_TakeVar.f (k : Nat) (l0 : List Int) : Option (Int × Int × Int) := antipoderef1_TakeVar.l0 k l0 0 1 0
theorem antipoderef1_TakeVar.mono_l : ∀ k, (∀ y0 y1 y2 y3, LeO (antipoderef1_TakeVar.l0 k y0 y1 y2 y3) (antipoderef1_TakeVar.l0 (k + 1) y0 y1 y2 y3)) ∧ (∀ y0 y1 y2 y3 y4, LeO (antipoderef1_TakeVar.j1 k y0 y1 y2 y3 y4) (antipoderef1_TakeVar.j1 (k + 1) y0 y1 y2 y3 y4))
 | 0 => ⟨fun _ _ _ _ r h => by simp [antipoderef1_TakeVar.l0] at h, fun _ _ _ _ _ r h => by simp [antipoderef1_TakeVar.j1] at h⟩
 | k + 1 => by
  obtain ⟨ih0, ih1⟩ := antipoderef1_TakeVar.mono_l k
  refine ⟨?_, ?_⟩
  ·intro y0 y1 y2 y3
   unfold antipoderef1_TakeVar.l0
   repeat' first
   | (with_reducible exact ih0 _ _ _ _)
   | (with_reducible exact ih1 _ _ _ _ _)
   | (with_reducible exact LeO.refl _)
   | (with_reducible exact LeO.none _)
   | (with_reducible refine LeO.ite ?_ ?_)
   | (with_reducible refine LeO.bind ?_ (fun _ => ?_))
   | exact ih0 _ _ _ _
   | exact ih1 _ _ _ _ _
   | exact LeO.none _
   | refine LeO.ite ?_ ?_
   | refine LeO.bind ?_ (fun _ => ?_)
  ·intro y0 y1 y2 y3 y4
   unfold antipoderef1_TakeVar.j1
   repeat' first
   | (with_reducible exact ih0 _ _ _ _)
   | (with_reducible exact ih1 _ _ _ _ _)
   | (with_reducible exact LeO.refl _)
   | (with_reducible exact LeO.none _)
   | (with_reducible refine LeO.ite ?_ ?_)
   | (with_reducible refine LeO.bind ?_ (fun _ => ?_))
   | exact ih0 _ _ _ _
   | exact ih1 _ _ _ _ _
   | exact LeO.none _
   | refine LeO.ite ?_ ?_
   | refine LeO.bind ?_ (fun _ => ?_)
theorem antipoderef1_TakeVar.mono : ∀ a0 k, LeO (antipoderef1_TakeVar.f k a0) (antipoderef1_TakeVar.f (k + 1) a0) := by
 intro a0 k
 obtain ⟨ih0, ih1⟩ := antipoderef1_TakeVar.mono_l k
 unfold antipoderef1_TakeVar.f
 repeat' first
   | (with_reducible exact ih0 _ _ _ _)
   | (with_reducible exact ih1 _ _ _ _ _)
   | (with_reducible exact LeO.refl _)
   | (with_reducible exact LeO.none _)
   | (with_reducible refine LeO.ite ?_ ?_)
   | (with_reducible refine LeO.bind ?_ (fun _ => ?_))
   | exact ih0 _ _ _ _
   | exact ih1 _ _ _ _ _
   | exact LeO.none _
   | refine LeO.ite ?_ ?_
   | refine LeO.bind ?_ (fun _ => ?_)
set_option maxHeartbeats 8000000 in
set_option maxRecDepth 100000 in
theorem antipoderef1_TakeVar.calls (k : Nat) (A0 : Option Addr) (c0 : Nat) (l0 : List Int) (r1 : Int) (r2 : Int) (r3 : Int) (w : World) (hr0 : Kd.C (Kd.int .u8) w A0 l0.length l0) (hc0 : l0.length ≤ c0) (h : antipoderef1_TakeVar.f k l0 = some (r1, r2, r3)) :
  Calls Tryd.prog 55 #[.slice A0 l0.length c0] w fun e w' => e = .returned (.tuple #[.int .u64 r1, .int .i64 r2, .int .i64 r3]) ∧ Drawn0 w w' := by
 have HR0 := Aside0.mk hr0
 have HC0 := Aside0.mk hc0
 clear hr0 hc0
 have H : (antipoderef1_TakeVar.l0 k l0 0 1 0) = some (r1, r2, r3) := h
 clear h
 have H' := Aside0.mk H
 clear H
 go_enter Tryd.func55, Tryd.ntmps55
 go_wp2
 go_loopg [5, 6, 7] k (fun kq v5 v6 v7 w' => ∃ (x5_1 : Int) (x6_1 : Int) (x7_1 : Int), v5 = .int .u64 x5_1 ∧ v6 = .int .u64 x6_1 ∧ v7 = .int .i64 x7_1 ∧ Aside0 (antipoderef1_TakeVar.l0 kq l0 x5_1 x6_1 x7_1 = some (r1, r2, r3)) ∧ Aside0 (kq ≤ k) ∧ Drawn0 w w')
 case atStart => exact ⟨(0), (1), (0), (by first | rfl | (simp; done) | (simp [*]; done)), (by first | rfl | (simp; done) | (simp [*]; done)), (by first | rfl | (simp; done) | (simp [*]; done)), H', ⟨Nat.le_refl _⟩, by repeat (first | exact Drawn0.refl _ | apply Drawn0.step)⟩
 case round =>
  clear H'
  obtain ⟨x5_1, x6_1, x7_1, rfl, rfl, rfl, HA, HK1, ⟨m1, rfl⟩⟩ := hrel
  cases gk with
  | zero => exact absurd HA.out (by simp [antipoderef1_TakeVar.l0])
  | succ k1 =>
   have H := HA.out
   clear HA
   simp only [antipoderef1_TakeVar.l0] at H
   by_cases c2 : x7_1 < 10
   ·rw [if_pos c2] at H
    have c2b0 : decide (x7_1 < 10) = true := decide_eq_true c2
    clear c2
    by_cases c3 : x7_1 ≥ (l0.length : Int)
    ·rw [if_pos c3] at H
     have c3b0 : decide ((l0.length : Int) ≤ x7_1) = true := decide_eq_true c3
     clear c3
     simp only [Option.some.injEq, Prod.mk.injEq] at H
     obtain ⟨rfl, rfl, rfl⟩ := H
     go_wp2
     go_ret3
     exact ⟨by first | rfl | (simp; done) | (simp [*]; done), by repeat (first | exact Drawn0.refl _ | apply Drawn0.step)⟩
    ·rw [if_neg c3] at H
     have c3b0 : decide ((l0.length : Int) ≤ x7_1) = false := decide_eq_false c3
     clear c3
     have HC4 := Aside0.mk H
     clear H
     go_upto_region 7 with (fail)
     go_cut [24] (fun v24 wc => ∃ (kq : Nat) (x24_3 : Bool), v24 = .bool x24_3 ∧ Aside0 (antipoderef1_TakeVar.j1 kq l0 x5_1 x6_1 x7_1 x24_3 = some (r1, r2, r3)) ∧ Aside0 (kq ≤ k1) ∧ Drawn0 w wc)
     case first =>
      have H := HC4.out
      clear HC4
      by_cases c5 : x7_1 = 9
      ·rw [if_pos c5] at H
       have c5b0 : (x7_1 == 9) = true := beq_iff_eq.mpr c5
       have c5b1 : (x7_1 != 9) = false := bne_eq_false_iff_eq.mpr c5
       clear c5
       (first | rw [c5b0] | (simp only [i64_w, i32_w]; rw [c5b0]) | skip)
       by_cases c6 : 0 ≤ x7_1
       ·rw [if_pos c6] at H
        have c6b0 : decide (0 ≤ x7_1) = true := decide_eq_true c6
        clear c6
        by_cases c7 : x7_1 < (l0.length : Int)
        ·rw [if_pos c7] at H
         have c7b0 : decide (x7_1 < (l0.length : Int)) = true := decide_eq_true c7
         clear c7
         have H' := Aside0.mk H
         clear H
         have p413 : 0 ≤ (x7_1 : Int) := of_decide_eq_true (by assumption)
         have q413 : x7_1 < (l0.length : Int) := of_decide_eq_true (by assumption)
         obtain ⟨ad413, e413, hx413_0⟩ := Kd.at_int HR0.out x7_1 p413 q413
         cases e413
         replace p413 := eq_true p413
         replace q413 := eq_true q413
         go_wp2
         go_meet
         case rel => exact ⟨_, (decide ((rd l0 x7_1) > 1)), (by first | rfl | (simp; done) | (simp [*]; done)), H', ⟨by have := HK1.out; first | omega | exact Nat.le_refl _⟩, by repeat (first | exact Drawn0.refl _ | apply Drawn0.step)⟩
        ·rw [if_neg c7] at H
         exact absurd H (by simp)
       ·rw [if_neg c6] at H
        exact absurd H (by simp)
      ·rw [if_neg c5] at H
       have c5b0 : (x7_1 == 9) = false := beq_eq_false_iff_ne.mpr c5
       have c5b1 : (x7_1 != 9) = true := bne_iff_ne.mpr c5
       (first | rw [c5b0] | (simp only [i64_w, i32_w]; rw [c5b0]) | skip)
       have H' := Aside0.mk H
       clear H
       go_wp2
       go_meet
       case rel => exact ⟨_, (false), (by first | rfl | (simp; done) | (simp [*]; done)), H', ⟨by have := HK1.out; first | omega | exact Nat.le_refl _⟩, by repeat (first | exact Drawn0.refl _ | apply Drawn0.step)⟩
     case rest =>
      clear HC4
      try clear c2
      try clear c2b0
      try clear p2
      try clear c3
      try clear c3b0
      try clear p4
      try clear q4
      try clear hx4
      try clear c5
      try clear c5b0
      try clear c5b1
      try clear c6
      try clear c6b0
      try clear c7
      try clear c7b0
      try clear hx413_0
      try clear p413
      try clear q413
      obtain ⟨kq, x24_3, rfl, HA, HJ3, ⟨mc3, rfl⟩⟩ := hcut
      cases kq with
      | zero => exact absurd HA.out (by simp [antipoderef1_TakeVar.j1])
      | succ kj3 =>
       have H := HA.out
       clear HA
       simp only [antipoderef1_TakeVar.j1] at H
       by_cases c8 : x24_3 = true
       ·subst c8
        have H1 : (some (0, 0, 5)) = some (r1, r2, r3) := by rw [if_pos rfl] at H; exact H
        clear H
        have H := H1
        clear H1
        simp only [Option.some.injEq, Prod.mk.injEq] at H
        obtain ⟨rfl, rfl, rfl⟩ := H
        go_wp2
        go_ret3
        exact ⟨by first | rfl | (simp; done) | (simp [*]; done), by repeat (first | exact Drawn0.refl _ | apply Drawn0.step)⟩
       ·replace c8 := Bool.eq_false_iff.mpr c8
        subst c8
        have H1 : (if 0 ≤ x7_1 then (if x7_1 < (l0.length : Int) then (if (rd l0 x7_1) < 128 then (if (rd l0 x7_1) = 0 then (if x7_1 > 0 then (some (0, 0, 9)) else (some (IntKind.u64.wrap (x5_1 + (IntKind.u64.wrap ((IntKind.u64.wrap (Int.tmod (rd l0 x7_1) 128)) * x6_1))), wrap64 (x7_1 + 1), 0))) else (some (IntKind.u64.wrap (x5_1 + (IntKind.u64.wrap ((IntKind.u64.wrap (Int.tmod (rd l0 x7_1) 128)) * x6_1))), wrap64 (x7_1 + 1), 0))) else (antipoderef1_TakeVar.l0 kj3 l0 (IntKind.u64.wrap (x5_1 + (IntKind.u64.wrap ((IntKind.u64.wrap (Int.tmod (rd l0 x7_1) 128)) * x6_1)))) (IntKind.u64.wrap (x6_1 * 128)) (wrap64 (x7_1 + 1)))) else (none)) else (none)) = some (r1, r2, r3) := by rw [if_neg (show ¬ (false = true) by decide)] at H; exact H
        clear H
        have H := H1
        clear H1
        by_cases c9 : 0 ≤ x7_1
        ·rw [if_pos c9] at H
         have c9b0 : decide (0 ≤ x7_1) = true := decide_eq_true c9
         clear c9
         by_cases c10 : x7_1 < (l0.length : Int)
         ·rw [if_pos c10] at H
          have c10b0 : decide (x7_1 < (l0.length : Int)) = true := decide_eq_true c10
          clear c10
          by_cases c11 : (rd l0 x7_1) < 128
          ·rw [if_pos c11] at H
           have c11b0 : decide ((rd l0 x7_1) < 128) = true := decide_eq_true c11
           clear c11
           by_cases c12 : (rd l0 x7_1) = 0
           ·rw [if_pos c12] at H
            have c12b0 : ((rd l0 x7_1) == 0) = true := beq_iff_eq.mpr c12
            have c12b1 : ((rd l0 x7_1) != 0) = false := bne_eq_false_iff_eq.mpr c12
            clear c12
            by_cases c13 : x7_1 > 0
            ·rw [if_pos c13] at H
             have c13b0 : decide (0 < x7_1) = true := decide_eq_true c13
             clear c13
             simp only [Option.some.injEq, Prod.mk.injEq] at H
             obtain ⟨rfl, rfl, rfl⟩ := H
             have p414 : 0 ≤ (x7_1 : Int) := of_decide_eq_true (by assumption)
             have q414 : x7_1 < (l0.length : Int) := of_decide_eq_true (by assumption)
             obtain ⟨ad414, e414, hx414_0⟩ := Kd.at_int HR0.out x7_1 p414 q414
             cases e414
             replace p414 := eq_true p414
             replace q414 := eq_true q414
             have p415 : 0 ≤ (x7_1 : Int) := of_decide_eq_true (by assumption)
             have q415 : x7_1 < (l0.length : Int) := of_decide_eq_true (by assumption)
             obtain ⟨ad415, e415, hx415_0⟩ := Kd.at_int HR0.out x7_1 p415 q415
             obtain rfl : ad414 = ad415 := (by injection e415)
             replace p415 := eq_true p415
             replace q415 := eq_true q415
             have p416 : 0 ≤ (x7_1 : Int) := of_decide_eq_true (by assumption)
             have q416 : x7_1 < (l0.length : Int) := of_decide_eq_true (by assumption)
             obtain ⟨ad416, e416, hx416_0⟩ := Kd.at_int HR0.out x7_1 p416 q416
             obtain rfl : ad414 = ad416 := (by injection e416)
             replace p416 := eq_true p416
             replace q416 := eq_true q416
             go_wp2
             go_ret3
             exact ⟨by first | rfl | (simp; done) | (simp [*]; done), by repeat (first | exact Drawn0.refl _ | apply Drawn0.step)⟩
            ·rw [if_neg c13] at H
             have c13b0 : decide (0 < x7_1) = false := decide_eq_false c13
             clear c13
             simp only [Option.some.injEq, Prod.mk.injEq] at H
             obtain ⟨rfl, rfl, rfl⟩ := H
             have p414 : 0 ≤ (x7_1 : Int) := of_decide_eq_true (by assumption)
             have q414 : x7_1 < (l0.length : Int) := of_decide_eq_true (by assumption)
             obtain ⟨ad414, e414, hx414_0⟩ := Kd.at_int HR0.out x7_1 p414 q414
             cases e414
             replace p414 := eq_true p414
             replace q414 := eq_true q414
             have p415 : 0 ≤ (x7_1 : Int) := of_decide_eq_true (by assumption)
             have q415 : x7_1 < (l0.length : Int) := of_decide_eq_true (by assumption)
             obtain ⟨ad415, e415, hx415_0⟩ := Kd.at_int HR0.out x7_1 p415 q415
             obtain rfl : ad414 = ad415 := (by injection e415)
             replace p415 := eq_true p415
             replace q415 := eq_true q415
             have p416 : 0 ≤ (x7_1 : Int) := of_decide_eq_true (by assumption)
             have q416 : x7_1 < (l0.length : Int) := of_decide_eq_true (by assumption)
             obtain ⟨ad416, e416, hx416_0⟩ := Kd.at_int HR0.out x7_1 p416 q416
             obtain rfl : ad414 = ad416 := (by injection e416)
             replace p416 := eq_true p416
             replace q416 := eq_true q416
             go_wp2
             go_ret3
             exact ⟨by first | rfl | (simp; done) | (simp [*]; done), by repeat (first | exact Drawn0.refl _ | apply Drawn0.step)⟩
           ·rw [if_neg c12] at H
            have c12b0 : ((rd l0 x7_1) == 0) = false := beq_eq_false_iff_ne.mpr c12
            have c12b1 : ((rd l0 x7_1) != 0) = true := bne_iff_ne.mpr c12
            simp only [Option.some.injEq, Prod.mk.injEq] at H
            obtain ⟨rfl, rfl, rfl⟩ := H
            have p414 : 0 ≤ (x7_1 : Int) := of_decide_eq_true (by assumption)
            have q414 : x7_1 < (l0.length : Int) := of_decide_eq_true (by assumption)
            obtain ⟨ad414, e414, hx414_0⟩ := Kd.at_int HR0.out x7_1 p414 q414
            cases e414
            replace p414 := eq_true p414
            replace q414 := eq_true q414
            have p415 : 0 ≤ (x7_1 : Int) := of_decide_eq_true (by assumption)
            have q415 : x7_1 < (l0.length : Int) := of_decide_eq_true (by assumption)
            obtain ⟨ad415, e415, hx415_0⟩ := Kd.at_int HR0.out x7_1 p415 q415
            obtain rfl : ad414 = ad415 := (by injection e415)
            replace p415 := eq_true p415
            replace q415 := eq_true q415
            have p416 : 0 ≤ (x7_1 : Int) := of_decide_eq_true (by assumption)
            have q416 : x7_1 < (l0.length : Int) := of_decide_eq_true (by assumption)
            obtain ⟨ad416, e416, hx416_0⟩ := Kd.at_int HR0.out x7_1 p416 q416
            obtain rfl : ad414 = ad416 := (by injection e416)
            replace p416 := eq_true p416
            replace q416 := eq_true q416
            go_wp2
            go_ret3
            exact ⟨by first | rfl | (simp; done) | (simp [*]; done), by repeat (first | exact Drawn0.refl _ | apply Drawn0.step)⟩
          ·rw [if_neg c11] at H
           have c11b0 : decide ((rd l0 x7_1) < 128) = false := decide_eq_false c11
           clear c11
           have H' := Aside0.mk H
           clear H
           have p414 : 0 ≤ (x7_1 : Int) := of_decide_eq_true (by assumption)
           have q414 : x7_1 < (l0.length : Int) := of_decide_eq_true (by assumption)
           obtain ⟨ad414, e414, hx414_0⟩ := Kd.at_int HR0.out x7_1 p414 q414
           cases e414
           replace p414 := eq_true p414
           replace q414 := eq_true q414
           have p415 : 0 ≤ (x7_1 : Int) := of_decide_eq_true (by assumption)
           have q415 : x7_1 < (l0.length : Int) := of_decide_eq_true (by assumption)
           obtain ⟨ad415, e415, hx415_0⟩ := Kd.at_int HR0.out x7_1 p415 q415
           obtain rfl : ad414 = ad415 := (by injection e415)
           replace p415 := eq_true p415
           replace q415 := eq_true q415
           go_wp2
           go_roundg kj3
           case measure => have := HK1.out; have := HJ3.out; omega
           case rel => exact ⟨(IntKind.u64.wrap (x5_1 + (IntKind.u64.wrap ((IntKind.u64.wrap (Int.tmod (rd l0 x7_1) 128)) * x6_1)))), (IntKind.u64.wrap (x6_1 * 128)), (wrap64 (x7_1 + 1)), (by first | rfl | (simp; done) | (simp [*]; done)), (by first | rfl | (simp; done) | (simp [*]; done)), (by first | rfl | (simp; done) | (simp [*]; done)), H', ⟨by have := HK1.out; have := HJ3.out; omega⟩, by repeat (first | exact Drawn0.refl _ | apply Drawn0.step)⟩
         ·rw [if_neg c10] at H
          exact absurd H (by simp)
        ·rw [if_neg c9] at H
         exact absurd H (by simp)
   ·rw [if_neg c2] at H
    have c2b0 : decide (x7_1 < 10) = false := decide_eq_false c2
    clear c2
    simp only [Option.some.injEq, Prod.mk.injEq] at H
    obtain ⟨rfl, rfl, rfl⟩ := H
    go_wp2
    go_ret3
    exact ⟨by first | rfl | (simp; done) | (simp [*]; done), by repeat (first | exact Drawn0.refl _ | apply Drawn0.step)⟩

end Go.Proofs.YtcflmkklpehmmaaDoor.PL
