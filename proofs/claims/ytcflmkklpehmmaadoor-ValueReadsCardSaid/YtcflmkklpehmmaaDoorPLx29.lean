-- Written by drv.py (this session's program over the kit's print).
import Derived.Test.YtcflmkklpehmmaaDoorPLx0
namespace Go.Proofs.YtcflmkklpehmmaaDoor.PL
open Go.RowKit Go.Proofs.YtcflmkklpehmmaaDoorW.PrintWords Go.Proofs.YtcflmkklpehmmaaDoorW.PrintLast Go.Proofs.YtcflmkklpehmmaaDoorW.PrintMore
attribute [local go_sem] max2_int min2_int max_two min_two max_three min_three max_four min_four   -- for this text's walks alone
attribute [local go_sem ↓] isSome_setCell
set_option linter.unusedVariables false
set_option linter.unusedSimpArgs false

/-! ### antipoderef7_takeText: function 51 -/
mutual
def antipoderef7_takeText.l0 : Nat → List Int → List Int → Int → Option (Int × Int × ByteArray × Int × Int)
 | 0, _, _, _ => none
 | k + 1, x0, x5, x6 => if x6 < (x0.length : Int) then (if 0 ≤ x6 then (if (rd x0 x6) = 0 then (if (wrap64 (x6 + 1)) = (x0.length : Int) then (some (0, 0, (⟨#[]⟩ : ByteArray), 0, 2)) else (if 0 ≤ (wrap64 (x6 + 1)) then (if (wrap64 (x6 + 1)) < (x0.length : Int) then (if (rd x0 (wrap64 (x6 + 1))) = 1 then (some (3, 0, strOfNums x5, wrap64 (x6 + 2), 0)) else (if (rd x0 (wrap64 (x6 + 1))) = 255 then (antipoderef7_takeText.j1 k x0 x5 x6) else (some (0, 0, (⟨#[]⟩ : ByteArray), 0, 9)))) else (none)) else (none))) else (antipoderef7_takeText.j1 k x0 x5 x6)) else (none)) else (some (0, 0, (⟨#[]⟩ : ByteArray), 0, 2))
def antipoderef7_takeText.j1 : Nat → List Int → List Int → Int → Option (Int × Int × ByteArray × Int × Int)
 | 0, _, _, _ => none
 | k + 1, x0, x5, x6 => if (x5.length : Int) = 64 then (some (0, 0, (⟨#[]⟩ : ByteArray), 0, 3)) else (if 0 ≤ x6 then (if x6 < (x0.length : Int) then (if x5.length < 140737488355328 then ((some (x5 ++ [rd x0 x6] : List Int)).bind fun y371 => (if (rd x0 x6) = 0 then (antipoderef7_takeText.l0 k x0 y371 (wrap64 ((wrap64 (x6 + 1)) + 1))) else (antipoderef7_takeText.l0 k x0 y371 (wrap64 (x6 + 1))))) else (none)) else (none)) else (none))
end
def antipoderef7_takeText.f (k : Nat) (l0 : List Int) : Option (Int × Int × ByteArray × Int × Int) := antipoderef7_takeText.l0 k l0 ([] : List Int) 1
theorem antipoderef7_takeText.mono_l : ∀ k, (∀ y0 y1 y2, LeO (antipoderef7_takeText.l0 k y0 y1 y2) (antipoderef7_takeText.l0 (k + 1) y0 y1 y2)) ∧ (∀ y0 y1 y2, LeO (antipoderef7_takeText.j1 k y0 y1 y2) (antipoderef7_takeText.j1 (k + 1) y0 y1 y2))
 | 0 => ⟨fun _ _ _ r h => by simp [antipoderef7_takeText.l0] at h, fun _ _ _ r h => by simp [antipoderef7_takeText.j1] at h⟩
 | k + 1 => by
  obtain ⟨ih0, ih1⟩ := antipoderef7_takeText.mono_l k
  refine ⟨?_, ?_⟩
  ·intro y0 y1 y2
   unfold antipoderef7_takeText.l0
   repeat' first
   | (with_reducible exact ih0 _ _ _)
   | (with_reducible exact ih1 _ _ _)
   | (with_reducible exact LeO.refl _)
   | (with_reducible exact LeO.none _)
   | (with_reducible refine LeO.ite ?_ ?_)
   | (with_reducible refine LeO.bind ?_ (fun _ => ?_))
   | exact ih0 _ _ _
   | exact ih1 _ _ _
   | exact LeO.none _
   | refine LeO.ite ?_ ?_
   | refine LeO.bind ?_ (fun _ => ?_)
  ·intro y0 y1 y2
   unfold antipoderef7_takeText.j1
   repeat' first
   | (with_reducible exact ih0 _ _ _)
   | (with_reducible exact ih1 _ _ _)
   | (with_reducible exact LeO.refl _)
   | (with_reducible exact LeO.none _)
   | (with_reducible refine LeO.ite ?_ ?_)
   | (with_reducible refine LeO.bind ?_ (fun _ => ?_))
   | exact ih0 _ _ _
   | exact ih1 _ _ _
   | exact LeO.none _
   | refine LeO.ite ?_ ?_
   | refine LeO.bind ?_ (fun _ => ?_)
theorem antipoderef7_takeText.mono : ∀ a0 k, LeO (antipoderef7_takeText.f k a0) (antipoderef7_takeText.f (k + 1) a0) := by
 intro a0 k
 obtain ⟨ih0, ih1⟩ := antipoderef7_takeText.mono_l k
 unfold antipoderef7_takeText.f
 repeat' first
   | (with_reducible exact ih0 _ _ _)
   | (with_reducible exact ih1 _ _ _)
   | (with_reducible exact LeO.refl _)
   | (with_reducible exact LeO.none _)
   | (with_reducible refine LeO.ite ?_ ?_)
   | (with_reducible refine LeO.bind ?_ (fun _ => ?_))
   | exact ih0 _ _ _
   | exact ih1 _ _ _
   | exact LeO.none _
   | refine LeO.ite ?_ ?_
   | refine LeO.bind ?_ (fun _ => ?_)
set_option maxHeartbeats 8000000 in
set_option maxRecDepth 100000 in
theorem antipoderef7_takeText.calls (k : Nat) (A0 : Option Addr) (c0 : Nat) (l0 : List Int) (r1 : Int) (r2 : Int) (r3 : ByteArray) (r4 : Int) (r5 : Int) (w : World) (hr0 : Kd.C (Kd.int .u8) w A0 l0.length l0) (hc0 : l0.length ≤ c0) (h : antipoderef7_takeText.f k l0 = some (r1, r2, r3, r4, r5)) :
  Calls Tryd.prog 51 #[.slice A0 l0.length c0] w fun e w' => e = .returned (.tuple #[.agg #[.int .i64 r1, .int .i64 r2, .string r3], .int .i64 r4, .int .i64 r5]) ∧ Below w.heap.size w w' := by
 have hu24 := Tryd.underlying24
 have HR0 := Aside0.mk hr0
 have HC0 := Aside0.mk hc0
 clear hr0 hc0
 have HB := Aside0.mk (Below.refl w.heap.size w)
 have H : (antipoderef7_takeText.l0 k l0 ([] : List Int) 1) = some (r1, r2, r3, r4, r5) := h
 clear h
 have H' := Aside0.mk H
 clear H
 go_enter Tryd.func51, Tryd.ntmps51
 go_wp2_with (first | ((with_reducible refine gate_dst (N := 2) rfl ?_); refine box_event ?hg (N := 2) ?hd (cs := #[.int .i64 0, .int .i64 0, .string (⟨#[]⟩ : ByteArray)]) (t := 24) ?hr ?_; (case hd => rfl); (case hg => rfl); (case hr => first | (go_simp; done) | (go_simp; rfl)); intro gb366 hg w2 hbox hb; have n0_ := Aside0.mk (below_step (by repeat (first | (with_reducible first | exact HB.out | apply below_alloc | apply pw_below_drewN | apply below_drew1) | exact HB.out)) hb); have n1_ := Aside0.mk (hbox); have n2_ := Aside0.mk ((by rw [hg]; exact (below_size (by repeat (first | (with_reducible first | exact HB.out | apply below_alloc | apply pw_below_drewN | apply below_drew1) | exact HB.out))) : w.heap.size ≤ gb366)); have n3_ := Aside0.mk ((by rw [hg]; exact (below_size (by repeat (first | (with_reducible first | exact HB.out | apply below_alloc | apply pw_below_drewN | apply below_drew1) | exact HB.out))) : w.heap.size ≤ gb366)); clear HB; have HB := n0_; have BK366 := n1_; have GW366 := n2_; have GE366 := n3_; clear n0_ n1_ n2_ n3_; clear hb hbox hg))
 go_loopg [5, 6] k (fun kq v5 v6 w' => ∃ (x5_1 : List Int) (x6_1 : Int) (x367000_1 : Int) (x367001_1 : Int) (x367002_1 : ByteArray), v6 = .int .i64 x6_1 ∧ Aside0 (antipoderef7_takeText.l0 kq l0 x5_1 x6_1 = some (r1, r2, r3, r4, r5)) ∧ Aside0 (kq ≤ k) ∧ Aside0 (Kd.R (Kd.int .u8) 5 w' w.heap.size (fun _ => True) v5 x5_1) ∧ Aside0 (w'.heap[gb366]? = some (.cells #[.int .i64 x367000_1, .int .i64 x367001_1, .string x367002_1] 24 (0, 0))) ∧ Aside0 (Below w.heap.size w w'))
 case atStart => exact ⟨(([] : List Int)), (1), (0), (0), ((⟨#[]⟩ : ByteArray)), (by first | rfl | (simp; done) | (simp [*]; done)), H', ⟨Nat.le_refl _⟩, ⟨by first | exact Kd.R_nil _ _ _ _ _ | exact Kd.N_nil _ _ _ _ _ | exact Kd.V_nil _ _ _ _ _ | exact Kd.Q_nil _ _ _ _ _ | exact Kd.S_nil _ _ _ _ _⟩, ⟨by (with_reducible repeat (first | refine blk_drewN ?_ _ | refine blk_drew ?_ | refine blk_alloc ?_ _)); exact BK366.out⟩, ⟨by repeat (first | (with_reducible first | exact HB.out | apply below_alloc | apply pw_below_drewN | apply below_drew1 | refine below_set ?_ GE366.out) | exact HB.out)⟩⟩
 case round =>
  clear H'
  try clear p2
  obtain ⟨x5_1, x6_1, x367000_1, x367001_1, x367002_1, rfl, HA, HK1, HO_5, BK366, HB⟩ := hrel
  cases gk with
  | zero => exact absurd HA.out (by simp [antipoderef7_takeText.l0])
  | succ k1 =>
   have H := HA.out
   clear HA
   simp only [antipoderef7_takeText.l0] at H
   by_cases c3 : x6_1 < (l0.length : Int)
   ·rw [if_pos c3] at H
    have c3b0 : decide (x6_1 < (l0.length : Int)) = true := decide_eq_true c3
    clear c3
    by_cases c4 : 0 ≤ x6_1
    ·rw [if_pos c4] at H
     have c4b0 : decide (0 ≤ x6_1) = true := decide_eq_true c4
     clear c4
     have HC5 := Aside0.mk H
     clear H
     have p367 : 0 ≤ (x6_1 : Int) := of_decide_eq_true (by assumption)
     have q367 : x6_1 < (l0.length : Int) := of_decide_eq_true (by assumption)
     obtain ⟨ad367, e367, hx367_0⟩ := Kd.at_int HR0.out x6_1 p367 q367
     cases e367
     replace hx367_0 := (HB.out.cell (World.block_lt_of_cell? w _ hx367_0)).trans hx367_0
     replace p367 := eq_true p367
     replace q367 := eq_true q367
     go_upto_if 17 with (fail)
     go_cut [] (fun wc => ∃ (kq : Nat) (x367000_4 : Int) (x367001_4 : Int) (x367002_4 : ByteArray), Aside0 (antipoderef7_takeText.j1 kq l0 x5_1 x6_1 = some (r1, r2, r3, r4, r5)) ∧ Aside0 (kq ≤ k1) ∧ Aside0 (Kd.R (Kd.int .u8) 5 wc w.heap.size (fun _ => True) u5 x5_1) ∧ Aside0 (wc.heap[gb366]? = some (.cells #[.int .i64 x367000_4, .int .i64 x367001_4, .string x367002_4] 24 (0, 0))) ∧ Aside0 (Below w.heap.size w wc))
     case first =>
      have H := HC5.out
      clear HC5
      by_cases c6 : (rd l0 x6_1) = 0
      ·rw [if_pos c6] at H
       have c6b0 : ((rd l0 x6_1) == 0) = true := beq_iff_eq.mpr c6
       have c6b1 : ((rd l0 x6_1) != 0) = false := bne_eq_false_iff_eq.mpr c6
       clear c6
       (first | rw [c6b0] | (simp only [i64_w, i32_w]; rw [c6b0]) | skip)
       by_cases c7 : (wrap64 (x6_1 + 1)) = (l0.length : Int)
       ·rw [if_pos c7] at H
        have c7b0 : ((wrap64 (x6_1 + 1)) == (l0.length : Int)) = true := beq_iff_eq.mpr c7
        have c7b1 : ((wrap64 (x6_1 + 1)) != (l0.length : Int)) = false := bne_eq_false_iff_eq.mpr c7
        clear c7
        simp only [Option.some.injEq, Prod.mk.injEq] at H
        obtain ⟨rfl, rfl, rfl, rfl, rfl⟩ := H
        have hcz8_0 : wr.cell? ⟨gb366, 0, none⟩ = some (.int .i64 x367000_1) := (blk_cell BK366.out 0).trans rfl
        have hcz8_1 : wr.cell? ⟨gb366, 1, none⟩ = some (.int .i64 x367001_1) := (blk_cell BK366.out 1).trans rfl
        have hcz8_2 : wr.cell? ⟨gb366, 2, none⟩ = some (.string x367002_1) := (blk_cell BK366.out 2).trans rfl
        have hfz8_0 := blk_frozen BK366.out 0
        have hfz8_1 := blk_frozen BK366.out 1
        have hfz8_2 := blk_frozen BK366.out 2
        go_wp2
        refine bodyPost_ret (results_ctt rfl _ _ gb366 24 #[.int .i64 0, .int .i64 0, .string (⟨#[]⟩ : ByteArray)] (0, 0) _ rfl (by (with_reducible repeat (first | refine blk_drewN ?_ _ | refine blk_drew ?_ | refine blk_alloc ?_ _)); refine blk_put (cs := #[.int .i64 0, .int .i64 0, .string x367002_1]) ?_ 2 _ rfl; (with_reducible repeat (first | refine blk_drewN ?_ _ | refine blk_drew ?_ | refine blk_alloc ?_ _)); refine blk_put (cs := #[.int .i64 0, .int .i64 x367001_1, .string x367002_1]) ?_ 1 _ rfl; (with_reducible repeat (first | refine blk_drewN ?_ _ | refine blk_drew ?_ | refine blk_alloc ?_ _)); refine blk_put (cs := #[.int .i64 x367000_1, .int .i64 x367001_1, .string x367002_1]) ?_ 0 _ rfl; (with_reducible repeat (first | refine blk_drewN ?_ _ | refine blk_drew ?_ | refine blk_alloc ?_ _)); exact BK366.out) Tryd.underlying24 rfl (by kernel_rfl)) rfl ?_
        exact ⟨by first | rfl | (simp [errW_none, errW_some] <;> rfl) | (simp [*, errW_none, errW_some] <;> rfl), by repeat (first | (with_reducible first | exact HB.out | apply below_alloc | apply pw_below_drewN | apply below_drew1 | refine below_set ?_ GE366.out) | exact HB.out)⟩
       ·rw [if_neg c7] at H
        have c7b0 : ((wrap64 (x6_1 + 1)) == (l0.length : Int)) = false := beq_eq_false_iff_ne.mpr c7
        have c7b1 : ((wrap64 (x6_1 + 1)) != (l0.length : Int)) = true := bne_iff_ne.mpr c7
        obtain ⟨ji9, hji9⟩ : ∃ j_ : Int, (wrap64 (x6_1 + 1)) = j_ := ⟨_, rfl⟩
        replace H : (if 0 ≤ (ji9) then (if (ji9) < (l0.length : Int) then (if (rd l0 (ji9)) = 1 then (some (3, 0, strOfNums x5_1, wrap64 (x6_1 + 2), 0)) else (if (rd l0 (ji9)) = 255 then (antipoderef7_takeText.j1 k1 l0 x5_1 x6_1) else (some (0, 0, (⟨#[]⟩ : ByteArray), 0, 9)))) else (none)) else (none)) = some (r1, r2, r3, r4, r5) := by first | (rw [hji9] at H; exact H) | (simp only [hji9] at H ⊢; exact H)
        (try rw [hji9] at c7b0)
        (try rw [hji9] at c7b1)
        have hji9w : (IntKind.i64.wrap (x6_1 + 1)) = ji9 := (i64_w _).trans hji9
        by_cases c10 : 0 ≤ (ji9)
        ·rw [if_pos c10] at H
         have c10b0 : decide (0 ≤ (ji9)) = true := decide_eq_true c10
         clear c10
         by_cases c11 : (ji9) < (l0.length : Int)
         ·rw [if_pos c11] at H
          have c11b0 : decide ((ji9) < (l0.length : Int)) = true := decide_eq_true c11
          clear c11
          by_cases c12 : (rd l0 (ji9)) = 1
          ·rw [if_pos c12] at H
           have c12b0 : ((rd l0 (ji9)) == 1) = true := beq_iff_eq.mpr c12
           have c12b1 : ((rd l0 (ji9)) != 1) = false := bne_eq_false_iff_eq.mpr c12
           clear c12
           simp only [Option.some.injEq, Prod.mk.injEq] at H
           obtain ⟨rfl, rfl, rfl, rfl, rfl⟩ := H
           have p368 : 0 ≤ ((ji9) : Int) := of_decide_eq_true (by assumption)
           have q368 : (ji9) < (l0.length : Int) := of_decide_eq_true (by assumption)
           obtain ⟨ad368, e368, hx368_0⟩ := Kd.at_int HR0.out (ji9) p368 q368
           obtain rfl : ad367 = ad368 := (by injection e368)
           replace hx368_0 := (HB.out.cell (World.block_lt_of_cell? w _ hx368_0)).trans hx368_0
           replace p368 := eq_true p368
           replace q368 := eq_true q368
           have hcv13 := own_string (P := Tryd.prog) Tryd.underlying22 Tryd.underlying5 Tryd.underlying9 (Kd.own_of_R HO_5.out)
           have hcz14_0 : wr.cell? ⟨gb366, 0, none⟩ = some (.int .i64 x367000_1) := (blk_cell BK366.out 0).trans rfl
           have hcz14_1 : wr.cell? ⟨gb366, 1, none⟩ = some (.int .i64 x367001_1) := (blk_cell BK366.out 1).trans rfl
           have hcz14_2 : wr.cell? ⟨gb366, 2, none⟩ = some (.string x367002_1) := (blk_cell BK366.out 2).trans rfl
           have hfz14_0 := blk_frozen BK366.out 0
           have hfz14_1 := blk_frozen BK366.out 1
           have hfz14_2 := blk_frozen BK366.out 2
           go_wp2
           refine bodyPost_ret (results_ctt rfl _ _ gb366 24 #[.int .i64 3, .int .i64 0, .string (strOfNums x5_1)] (0, 0) _ rfl (by (with_reducible repeat (first | refine blk_drewN ?_ _ | refine blk_drew ?_ | refine blk_alloc ?_ _)); refine blk_put (cs := #[.int .i64 3, .int .i64 0, .string x367002_1]) ?_ 2 _ rfl; (with_reducible repeat (first | refine blk_drewN ?_ _ | refine blk_drew ?_ | refine blk_alloc ?_ _)); refine blk_put (cs := #[.int .i64 3, .int .i64 x367001_1, .string x367002_1]) ?_ 1 _ rfl; (with_reducible repeat (first | refine blk_drewN ?_ _ | refine blk_drew ?_ | refine blk_alloc ?_ _)); refine blk_put (cs := #[.int .i64 x367000_1, .int .i64 x367001_1, .string x367002_1]) ?_ 0 _ rfl; (with_reducible repeat (first | refine blk_drewN ?_ _ | refine blk_drew ?_ | refine blk_alloc ?_ _)); exact BK366.out) Tryd.underlying24 rfl (by kernel_rfl)) rfl ?_
           exact ⟨by first | rfl | (simp [errW_none, errW_some] <;> rfl) | (simp only [← hji9]; first | rfl | (simp [errW_none, errW_some] <;> rfl)) | (simp [*, errW_none, errW_some] <;> rfl), by repeat (first | (with_reducible first | exact HB.out | apply below_alloc | apply pw_below_drewN | apply below_drew1 | refine below_set ?_ GE366.out) | exact HB.out)⟩
          ·rw [if_neg c12] at H
           have c12b0 : ((rd l0 (ji9)) == 1) = false := beq_eq_false_iff_ne.mpr c12
           have c12b1 : ((rd l0 (ji9)) != 1) = true := bne_iff_ne.mpr c12
           by_cases c15 : (rd l0 (ji9)) = 255
           ·rw [if_pos c15] at H
            have c15b0 : ((rd l0 (ji9)) == 255) = true := beq_iff_eq.mpr c15
            have c15b1 : ((rd l0 (ji9)) != 255) = false := bne_eq_false_iff_eq.mpr c15
            clear c15
            have H' := Aside0.mk H
            clear H
            have p368 : 0 ≤ ((ji9) : Int) := of_decide_eq_true (by assumption)
            have q368 : (ji9) < (l0.length : Int) := of_decide_eq_true (by assumption)
            obtain ⟨ad368, e368, hx368_0⟩ := Kd.at_int HR0.out (ji9) p368 q368
            obtain rfl : ad367 = ad368 := (by injection e368)
            replace hx368_0 := (HB.out.cell (World.block_lt_of_cell? w _ hx368_0)).trans hx368_0
            replace p368 := eq_true p368
            replace q368 := eq_true q368
            have p369 : 0 ≤ ((ji9) : Int) := of_decide_eq_true (by assumption)
            have q369 : (ji9) < (l0.length : Int) := of_decide_eq_true (by assumption)
            obtain ⟨ad369, e369, hx369_0⟩ := Kd.at_int HR0.out (ji9) p369 q369
            obtain rfl : ad367 = ad369 := (by injection e369)
            replace hx369_0 := (HB.out.cell (World.block_lt_of_cell? w _ hx369_0)).trans hx369_0
            replace p369 := eq_true p369
            replace q369 := eq_true q369
            go_wp2
            go_meet
            case rel => exact ⟨_, (x367000_1), (x367001_1), (x367002_1), H', ⟨by have := HK1.out; first | omega | exact Nat.le_refl _⟩, ⟨by (with_reducible repeat (first | apply Kd.R_alloc | apply Kd.R_drewN | apply Kd.R_drew)); exact HO_5.out⟩, ⟨by (with_reducible repeat (first | refine blk_drewN ?_ _ | refine blk_drew ?_ | refine blk_alloc ?_ _)); exact BK366.out⟩, ⟨by repeat (first | (with_reducible first | exact HB.out | apply below_alloc | apply pw_below_drewN | apply below_drew1 | refine below_set ?_ GE366.out) | exact HB.out)⟩⟩
           ·rw [if_neg c15] at H
            have c15b0 : ((rd l0 (ji9)) == 255) = false := beq_eq_false_iff_ne.mpr c15
            have c15b1 : ((rd l0 (ji9)) != 255) = true := bne_iff_ne.mpr c15
            simp only [Option.some.injEq, Prod.mk.injEq] at H
            obtain ⟨rfl, rfl, rfl, rfl, rfl⟩ := H
            have p368 : 0 ≤ ((ji9) : Int) := of_decide_eq_true (by assumption)
            have q368 : (ji9) < (l0.length : Int) := of_decide_eq_true (by assumption)
            obtain ⟨ad368, e368, hx368_0⟩ := Kd.at_int HR0.out (ji9) p368 q368
            obtain rfl : ad367 = ad368 := (by injection e368)
            replace hx368_0 := (HB.out.cell (World.block_lt_of_cell? w _ hx368_0)).trans hx368_0
            replace p368 := eq_true p368
            replace q368 := eq_true q368
            have p369 : 0 ≤ ((ji9) : Int) := of_decide_eq_true (by assumption)
            have q369 : (ji9) < (l0.length : Int) := of_decide_eq_true (by assumption)
            obtain ⟨ad369, e369, hx369_0⟩ := Kd.at_int HR0.out (ji9) p369 q369
            obtain rfl : ad367 = ad369 := (by injection e369)
            replace hx369_0 := (HB.out.cell (World.block_lt_of_cell? w _ hx369_0)).trans hx369_0
            replace p369 := eq_true p369
            replace q369 := eq_true q369
            have hcz16_0 : wr.cell? ⟨gb366, 0, none⟩ = some (.int .i64 x367000_1) := (blk_cell BK366.out 0).trans rfl
            have hcz16_1 : wr.cell? ⟨gb366, 1, none⟩ = some (.int .i64 x367001_1) := (blk_cell BK366.out 1).trans rfl
            have hcz16_2 : wr.cell? ⟨gb366, 2, none⟩ = some (.string x367002_1) := (blk_cell BK366.out 2).trans rfl
            have hfz16_0 := blk_frozen BK366.out 0
            have hfz16_1 := blk_frozen BK366.out 1
            have hfz16_2 := blk_frozen BK366.out 2
            go_wp2
            refine bodyPost_ret (results_ctt rfl _ _ gb366 24 #[.int .i64 0, .int .i64 0, .string (⟨#[]⟩ : ByteArray)] (0, 0) _ rfl (by (with_reducible repeat (first | refine blk_drewN ?_ _ | refine blk_drew ?_ | refine blk_alloc ?_ _)); refine blk_put (cs := #[.int .i64 0, .int .i64 0, .string x367002_1]) ?_ 2 _ rfl; (with_reducible repeat (first | refine blk_drewN ?_ _ | refine blk_drew ?_ | refine blk_alloc ?_ _)); refine blk_put (cs := #[.int .i64 0, .int .i64 x367001_1, .string x367002_1]) ?_ 1 _ rfl; (with_reducible repeat (first | refine blk_drewN ?_ _ | refine blk_drew ?_ | refine blk_alloc ?_ _)); refine blk_put (cs := #[.int .i64 x367000_1, .int .i64 x367001_1, .string x367002_1]) ?_ 0 _ rfl; (with_reducible repeat (first | refine blk_drewN ?_ _ | refine blk_drew ?_ | refine blk_alloc ?_ _)); exact BK366.out) Tryd.underlying24 rfl (by kernel_rfl)) rfl ?_
            exact ⟨by first | rfl | (simp [errW_none, errW_some] <;> rfl) | (simp only [← hji9]; first | rfl | (simp [errW_none, errW_some] <;> rfl)) | (simp [*, errW_none, errW_some] <;> rfl), by repeat (first | (with_reducible first | exact HB.out | apply below_alloc | apply pw_below_drewN | apply below_drew1 | refine below_set ?_ GE366.out) | exact HB.out)⟩
         ·rw [if_neg c11] at H
          exact absurd H (by simp)
        ·rw [if_neg c10] at H
         exact absurd H (by simp)
      ·rw [if_neg c6] at H
       have c6b0 : ((rd l0 x6_1) == 0) = false := beq_eq_false_iff_ne.mpr c6
       have c6b1 : ((rd l0 x6_1) != 0) = true := bne_iff_ne.mpr c6
       (first | rw [c6b0] | (simp only [i64_w, i32_w]; rw [c6b0]) | skip)
       have H' := Aside0.mk H
       clear H
       go_wp2
       go_meet
       case rel => exact ⟨_, (x367000_1), (x367001_1), (x367002_1), H', ⟨by have := HK1.out; first | omega | exact Nat.le_refl _⟩, ⟨by (with_reducible repeat (first | apply Kd.R_alloc | apply Kd.R_drewN | apply Kd.R_drew)); exact HO_5.out⟩, ⟨by (with_reducible repeat (first | refine blk_drewN ?_ _ | refine blk_drew ?_ | refine blk_alloc ?_ _)); exact BK366.out⟩, ⟨by repeat (first | (with_reducible first | exact HB.out | apply below_alloc | apply pw_below_drewN | apply below_drew1 | refine below_set ?_ GE366.out) | exact HB.out)⟩⟩
     case rest =>
      clear HC5
      try clear c1
      try clear hcv1
      try clear p2
      try clear c3
      try clear c3b0
      try clear p3
      try clear q3
      try clear hx3
      try clear c4
      try clear c4b0
      try clear c5
      try clear c6
      try clear c6b0
      try clear c6b1
      try clear p6
      try clear c7
      try clear c7b0
      try clear c7b1
      try clear c10
      try clear c10b0
      try clear c11
      try clear c11b0
      try clear c12
      try clear c12b0
      try clear c12b1
      try clear hcv13
      try clear c15
      try clear c15b0
      try clear c15b1
      try clear hcz14_0
      try clear hcz14_1
      try clear hcz14_2
      try clear hcz16_0
      try clear hcz16_1
      try clear hcz16_2
      try clear hcz8_0
      try clear hcz8_1
      try clear hcz8_2
      try clear hfz14_0
      try clear hfz14_1
      try clear hfz14_2
      try clear hfz16_0
      try clear hfz16_1
      try clear hfz16_2
      try clear hfz8_0
      try clear hfz8_1
      try clear hfz8_2
      try clear hx367_0
      try clear hx368_0
      try clear hx369_0
      try clear p2
      try clear p367
      try clear p368
      try clear p369
      try clear q367
      try clear q368
      try clear q369
      obtain ⟨kq, x367000_4, x367001_4, x367002_4, HA, HJ4, HO_5, BK366, HB⟩ := hcut
      cases kq with
      | zero => exact absurd HA.out (by simp [antipoderef7_takeText.j1])
      | succ kj4 =>
       have H := HA.out
       clear HA
       simp only [antipoderef7_takeText.j1] at H
       by_cases c17 : (x5_1.length : Int) = 64
       ·rw [if_pos c17] at H
        have c17b0 : ((x5_1.length : Int) == 64) = true := beq_iff_eq.mpr c17
        have c17b1 : ((x5_1.length : Int) != 64) = false := bne_eq_false_iff_eq.mpr c17
        clear c17
        simp only [Option.some.injEq, Prod.mk.injEq] at H
        obtain ⟨rfl, rfl, rfl, rfl, rfl⟩ := H
        obtain ⟨Ao18, co18, eo18⟩ := Kd.R_slice HO_5.out
        subst eo18
        have hcz19_0 : wc.cell? ⟨gb366, 0, none⟩ = some (.int .i64 x367000_4) := (blk_cell BK366.out 0).trans rfl
        have hcz19_1 : wc.cell? ⟨gb366, 1, none⟩ = some (.int .i64 x367001_4) := (blk_cell BK366.out 1).trans rfl
        have hcz19_2 : wc.cell? ⟨gb366, 2, none⟩ = some (.string x367002_4) := (blk_cell BK366.out 2).trans rfl
        have hfz19_0 := blk_frozen BK366.out 0
        have hfz19_1 := blk_frozen BK366.out 1
        have hfz19_2 := blk_frozen BK366.out 2
        go_wp2
        refine bodyPost_ret (results_ctt rfl _ _ gb366 24 #[.int .i64 0, .int .i64 0, .string (⟨#[]⟩ : ByteArray)] (0, 0) _ rfl (by (with_reducible repeat (first | refine blk_drewN ?_ _ | refine blk_drew ?_ | refine blk_alloc ?_ _)); refine blk_put (cs := #[.int .i64 0, .int .i64 0, .string x367002_4]) ?_ 2 _ rfl; (with_reducible repeat (first | refine blk_drewN ?_ _ | refine blk_drew ?_ | refine blk_alloc ?_ _)); refine blk_put (cs := #[.int .i64 0, .int .i64 x367001_4, .string x367002_4]) ?_ 1 _ rfl; (with_reducible repeat (first | refine blk_drewN ?_ _ | refine blk_drew ?_ | refine blk_alloc ?_ _)); refine blk_put (cs := #[.int .i64 x367000_4, .int .i64 x367001_4, .string x367002_4]) ?_ 0 _ rfl; (with_reducible repeat (first | refine blk_drewN ?_ _ | refine blk_drew ?_ | refine blk_alloc ?_ _)); exact BK366.out) Tryd.underlying24 rfl (by kernel_rfl)) rfl ?_
        exact ⟨by first | rfl | (simp [errW_none, errW_some] <;> rfl) | (simp [*, errW_none, errW_some] <;> rfl), by repeat (first | (with_reducible first | exact HB.out | apply below_alloc | apply pw_below_drewN | apply below_drew1 | refine below_set ?_ GE366.out) | exact HB.out)⟩
       ·rw [if_neg c17] at H
        have c17b0 : ((x5_1.length : Int) == 64) = false := beq_eq_false_iff_ne.mpr c17
        have c17b1 : ((x5_1.length : Int) != 64) = true := bne_iff_ne.mpr c17
        by_cases c20 : 0 ≤ x6_1
        ·rw [if_pos c20] at H
         have c20b0 : decide (0 ≤ x6_1) = true := decide_eq_true c20
         clear c20
         by_cases c21 : x6_1 < (l0.length : Int)
         ·rw [if_pos c21] at H
          have c21b0 : decide (x6_1 < (l0.length : Int)) = true := decide_eq_true c21
          clear c21
          by_cases c22 : x5_1.length < 140737488355328
          ·rw [if_pos c22] at H
           have LMc22 := Aside0.mk c22
           clear c22
           obtain ⟨y371, hy371⟩ : ∃ y_ : List Int, y_ = (x5_1 ++ [rd l0 x6_1]) := ⟨_, rfl⟩
           replace H : (if (rd l0 x6_1) = 0 then (antipoderef7_takeText.l0 kj4 l0 y371 (wrap64 ((wrap64 (x6_1 + 1)) + 1))) else (antipoderef7_takeText.l0 kj4 l0 y371 (wrap64 (x6_1 + 1)))) = some (r1, r2, r3, r4, r5) := by first | (rw [hy371]; with_reducible exact H) | (have H2_ := (Option.bind_some _ _).symm.trans H; rw [hy371]; with_reducible exact H2_) | (have H2_ := (Option.bind_some _ _).symm.trans H; with_reducible exact H2_) | with_reducible exact H | (rw [hy371]; exact H) | exact H
           have Ny371 := Aside0.mk hy371
           clear hy371
           by_cases c23 : (rd l0 x6_1) = 0
           ·rw [if_pos c23] at H
            have c23b0 : ((rd l0 x6_1) == 0) = true := beq_iff_eq.mpr c23
            have c23b1 : ((rd l0 x6_1) != 0) = false := bne_eq_false_iff_eq.mpr c23
            clear c23
            have H' := Aside0.mk H
            clear H
            obtain ⟨Ao24, co24, eo24⟩ := Kd.R_slice HO_5.out
            subst eo24
            have p370 : 0 ≤ (x6_1 : Int) := of_decide_eq_true (by assumption)
            have q370 : x6_1 < (l0.length : Int) := of_decide_eq_true (by assumption)
            obtain ⟨ad370, e370, hx370_0⟩ := Kd.at_int HR0.out x6_1 p370 q370
            obtain rfl : ad367 = ad370 := (by injection e370)
            replace hx370_0 := (HB.out.cell (World.block_lt_of_cell? w _ hx370_0)).trans hx370_0
            replace p370 := eq_true p370
            replace q370 := eq_true q370
            go_wp2_with (first | ((with_reducible refine gate_builtin (b := .append) (xs := #[.tmp 46, .tmp 51]) rfl ?_); at_builtin; refine Kd.R_append (Kd.int .u8) (w0 := w) w.heap.size rfl (.tmp 46) (.tmp 51) 22 5 (.int .u8 0) 1 rfl Tryd.underlying22 info5 rfl (by decide) (by omega) (.slice Ao24 x5_1.length co24) x5_1 (rd l0 x6_1) [.int .u8 (rd l0 x6_1)] (fun _ => True) (fun _ => False) rfl rfl ?aP (fun _ hk => hk.elim) ?aF ?aO ?aB ?aS ?aL ?_; (case aP => exact rfl); (case aB => exact (by repeat (first | (with_reducible first | exact HB.out | apply below_alloc | apply pw_below_drewN | apply below_drew1 | refine below_set ?_ GE366.out) | exact HB.out))); (case aF => exact (fun _ _ => trivial)); (case aO => exact (by (with_reducible repeat (first | apply Kd.R_alloc | apply Kd.R_drewN | apply Kd.R_drew)); exact HO_5.out)); (case aS => exact (below_size (by repeat (first | (with_reducible first | exact HB.out | apply below_alloc | apply pw_below_drewN | apply below_drew1 | refine below_set ?_ GE366.out) | exact HB.out)))); (case aL => have := LMc22.out; omega); intro v372 w25 ho hb hg hat; rw [← Ny371.out] at ho; have n0_ := Aside0.mk (blk_grown (g := gb366) (o := .cells #[.int .i64 x367000_4, .int .i64 x367001_4, .string x367002_4] 24 (0, 0)) (by (with_reducible repeat (first | refine blk_drewN ?_ _ | refine blk_drew ?_ | refine blk_alloc ?_ _)); exact BK366.out) hg (Kd.R_ne HO_5.out BK366.out (by decide))); have n1_ := Aside0.mk (hb); have n2_ := Aside0.mk (ho); clear BK366; clear HB; clear HO_5; have BK366 := n0_; have HB := n1_; have HO373 := n2_; clear n0_ n1_ n2_; clear ho hb hg hat; have p374 : 0 ≤ (x6_1 : Int) := of_decide_eq_true (by assumption); have q374 : x6_1 < (l0.length : Int) := of_decide_eq_true (by assumption); obtain ⟨ad374, e374, hx374_0⟩ := Kd.at_int HR0.out x6_1 p374 q374; obtain rfl : ad367 = ad374 := (by injection e374); replace hx374_0 := (HB.out.cell (World.block_lt_of_cell? w _ hx374_0)).trans hx374_0; replace p374 := eq_true p374; replace q374 := eq_true q374))
            go_roundg kj4
            case measure => have := HK1.out; have := HJ4.out; omega
            case rel => exact ⟨(y371), (wrap64 ((wrap64 (x6_1 + 1)) + 1)), (x367000_4), (x367001_4), (x367002_4), (by first | rfl | (simp; done) | (simp [*]; done)), H', ⟨by have := HK1.out; have := HJ4.out; omega⟩, ⟨by (with_reducible repeat (first | apply Kd.R_alloc | apply Kd.R_drewN | apply Kd.R_drew)); exact HO373.out⟩, ⟨by (with_reducible repeat (first | refine blk_drewN ?_ _ | refine blk_drew ?_ | refine blk_alloc ?_ _)); exact BK366.out⟩, ⟨by repeat (first | (with_reducible first | exact HB.out | apply below_alloc | apply pw_below_drewN | apply below_drew1 | refine below_set ?_ GE366.out) | exact HB.out)⟩⟩
           ·rw [if_neg c23] at H
            have c23b0 : ((rd l0 x6_1) == 0) = false := beq_eq_false_iff_ne.mpr c23
            have c23b1 : ((rd l0 x6_1) != 0) = true := bne_iff_ne.mpr c23
            have H' := Aside0.mk H
            clear H
            obtain ⟨Ao26, co26, eo26⟩ := Kd.R_slice HO_5.out
            subst eo26
            have p370 : 0 ≤ (x6_1 : Int) := of_decide_eq_true (by assumption)
            have q370 : x6_1 < (l0.length : Int) := of_decide_eq_true (by assumption)
            obtain ⟨ad370, e370, hx370_0⟩ := Kd.at_int HR0.out x6_1 p370 q370
            obtain rfl : ad367 = ad370 := (by injection e370)
            replace hx370_0 := (HB.out.cell (World.block_lt_of_cell? w _ hx370_0)).trans hx370_0
            replace p370 := eq_true p370
            replace q370 := eq_true q370
            go_wp2_with (first | ((with_reducible refine gate_builtin (b := .append) (xs := #[.tmp 46, .tmp 51]) rfl ?_); at_builtin; refine Kd.R_append (Kd.int .u8) (w0 := w) w.heap.size rfl (.tmp 46) (.tmp 51) 22 5 (.int .u8 0) 1 rfl Tryd.underlying22 info5 rfl (by decide) (by omega) (.slice Ao26 x5_1.length co26) x5_1 (rd l0 x6_1) [.int .u8 (rd l0 x6_1)] (fun _ => True) (fun _ => False) rfl rfl ?aP (fun _ hk => hk.elim) ?aF ?aO ?aB ?aS ?aL ?_; (case aP => exact rfl); (case aB => exact (by repeat (first | (with_reducible first | exact HB.out | apply below_alloc | apply pw_below_drewN | apply below_drew1 | refine below_set ?_ GE366.out) | exact HB.out))); (case aF => exact (fun _ _ => trivial)); (case aO => exact (by (with_reducible repeat (first | apply Kd.R_alloc | apply Kd.R_drewN | apply Kd.R_drew)); exact HO_5.out)); (case aS => exact (below_size (by repeat (first | (with_reducible first | exact HB.out | apply below_alloc | apply pw_below_drewN | apply below_drew1 | refine below_set ?_ GE366.out) | exact HB.out)))); (case aL => have := LMc22.out; omega); intro v372 w27 ho hb hg hat; rw [← Ny371.out] at ho; have n0_ := Aside0.mk (blk_grown (g := gb366) (o := .cells #[.int .i64 x367000_4, .int .i64 x367001_4, .string x367002_4] 24 (0, 0)) (by (with_reducible repeat (first | refine blk_drewN ?_ _ | refine blk_drew ?_ | refine blk_alloc ?_ _)); exact BK366.out) hg (Kd.R_ne HO_5.out BK366.out (by decide))); have n1_ := Aside0.mk (hb); have n2_ := Aside0.mk (ho); clear BK366; clear HB; clear HO_5; have BK366 := n0_; have HB := n1_; have HO373 := n2_; clear n0_ n1_ n2_; clear ho hb hg hat; have p374 : 0 ≤ (x6_1 : Int) := of_decide_eq_true (by assumption); have q374 : x6_1 < (l0.length : Int) := of_decide_eq_true (by assumption); obtain ⟨ad374, e374, hx374_0⟩ := Kd.at_int HR0.out x6_1 p374 q374; obtain rfl : ad367 = ad374 := (by injection e374); replace hx374_0 := (HB.out.cell (World.block_lt_of_cell? w _ hx374_0)).trans hx374_0; replace p374 := eq_true p374; replace q374 := eq_true q374))
            go_roundg kj4
            case measure => have := HK1.out; have := HJ4.out; omega
            case rel => exact ⟨(y371), (wrap64 (x6_1 + 1)), (x367000_4), (x367001_4), (x367002_4), (by first | rfl | (simp; done) | (simp [*]; done)), H', ⟨by have := HK1.out; have := HJ4.out; omega⟩, ⟨by (with_reducible repeat (first | apply Kd.R_alloc | apply Kd.R_drewN | apply Kd.R_drew)); exact HO373.out⟩, ⟨by (with_reducible repeat (first | refine blk_drewN ?_ _ | refine blk_drew ?_ | refine blk_alloc ?_ _)); exact BK366.out⟩, ⟨by repeat (first | (with_reducible first | exact HB.out | apply below_alloc | apply pw_below_drewN | apply below_drew1 | refine below_set ?_ GE366.out) | exact HB.out)⟩⟩
          ·rw [if_neg c22] at H
           exact absurd H (by simp)
         ·rw [if_neg c21] at H
          exact absurd H (by simp)
        ·rw [if_neg c20] at H
         exact absurd H (by simp)
    ·rw [if_neg c4] at H
     exact absurd H (by simp)
   ·rw [if_neg c3] at H
    have c3b0 : decide (x6_1 < (l0.length : Int)) = false := decide_eq_false c3
    clear c3
    simp only [Option.some.injEq, Prod.mk.injEq] at H
    obtain ⟨rfl, rfl, rfl, rfl, rfl⟩ := H
    have hcz28_0 : wr.cell? ⟨gb366, 0, none⟩ = some (.int .i64 x367000_1) := (blk_cell BK366.out 0).trans rfl
    have hcz28_1 : wr.cell? ⟨gb366, 1, none⟩ = some (.int .i64 x367001_1) := (blk_cell BK366.out 1).trans rfl
    have hcz28_2 : wr.cell? ⟨gb366, 2, none⟩ = some (.string x367002_1) := (blk_cell BK366.out 2).trans rfl
    have hfz28_0 := blk_frozen BK366.out 0
    have hfz28_1 := blk_frozen BK366.out 1
    have hfz28_2 := blk_frozen BK366.out 2
    go_wp2
    refine bodyPost_ret (results_ctt rfl _ _ gb366 24 #[.int .i64 0, .int .i64 0, .string (⟨#[]⟩ : ByteArray)] (0, 0) _ rfl (by (with_reducible repeat (first | refine blk_drewN ?_ _ | refine blk_drew ?_ | refine blk_alloc ?_ _)); refine blk_put (cs := #[.int .i64 0, .int .i64 0, .string x367002_1]) ?_ 2 _ rfl; (with_reducible repeat (first | refine blk_drewN ?_ _ | refine blk_drew ?_ | refine blk_alloc ?_ _)); refine blk_put (cs := #[.int .i64 0, .int .i64 x367001_1, .string x367002_1]) ?_ 1 _ rfl; (with_reducible repeat (first | refine blk_drewN ?_ _ | refine blk_drew ?_ | refine blk_alloc ?_ _)); refine blk_put (cs := #[.int .i64 x367000_1, .int .i64 x367001_1, .string x367002_1]) ?_ 0 _ rfl; (with_reducible repeat (first | refine blk_drewN ?_ _ | refine blk_drew ?_ | refine blk_alloc ?_ _)); exact BK366.out) Tryd.underlying24 rfl (by kernel_rfl)) rfl ?_
    exact ⟨by first | rfl | (simp [errW_none, errW_some] <;> rfl) | (simp [*, errW_none, errW_some] <;> rfl), by repeat (first | (with_reducible first | exact HB.out | apply below_alloc | apply pw_below_drewN | apply below_drew1 | refine below_set ?_ GE366.out) | exact HB.out)⟩

end Go.Proofs.YtcflmkklpehmmaaDoor.PL
