-- Written by drv.py (this session's program over the kit's print).
import Derived.Test.YtpgcjlndojbmjaaPLx0
namespace Go.Proofs.Ytpgcjlndojbmjaa.PL
open Go.RowKit Go.Proofs.YtpgcjlndojbmjaaW.PrintWords Go.Proofs.YtpgcjlndojbmjaaW.PrintLast Go.Proofs.YtpgcjlndojbmjaaW.PrintMore
attribute [local go_sem] max2_int min2_int max_two min_two max_three min_three max_four min_four   -- for this text's walks alone
attribute [local go_sem ↓] isSome_setCell
set_option linter.unusedVariables false
set_option linter.unusedSimpArgs false

/-! ### antipoderef16_text: function 32 -/
mutual
def antipoderef16_text.l0 : Nat → ByteArray → ByteArray → Int → Option (Int × Int × ByteArray × Int × Int × Int)
 | 0, _, _, _ => none
 | k + 1, x0, x7, x8 => if x8 < (x0.size : Int) then (if 0 ≤ x8 then (if (bt x0 x8) = 39 then (if (wrap64 (x8 + 1)) = (x0.size : Int) then (antipoderef16_text.j1 k x0 x7 x8 true) else (if 0 ≤ (wrap64 (x8 + 1)) then (if (wrap64 (x8 + 1)) < (x0.size : Int) then (antipoderef16_text.j1 k x0 x7 x8 ((bt x0 (wrap64 (x8 + 1))) != 39)) else (none)) else (none))) else (if x8 ≤ (wrap64 (x8 + 1)) then (if (wrap64 (x8 + 1)) ≤ (x0.size : Int) then (if x7.size + (x0.extract (x8 : Int).toNat ((wrap64 (x8 + 1)) : Int).toNat).size ≤ 9223372036854775807 then (antipoderef16_text.l0 k x0 (x7 ++ (x0.extract (x8 : Int).toNat ((wrap64 (x8 + 1)) : Int).toNat)) (wrap64 (x8 + 1))) else (none)) else (none)) else (none))) else (none)) else (some (0, 0, (⟨#[]⟩ : ByteArray), 0, 0, 13))
def antipoderef16_text.j1 : Nat → ByteArray → ByteArray → Int → Bool → Option (Int × Int × ByteArray × Int × Int × Int)
 | 0, _, _, _, _ => none
 | k + 1, x0, x7, x8, x32 => if x32 = true then (if (x7.size : Int) > 64 then (some (0, 0, (⟨#[]⟩ : ByteArray), 0, 0, 3)) else (some (3, 0, x7, 0, wrap64 (x8 + 1), 0))) else (if 0 ≤ (wrap64 (x8 + 1)) then (if (wrap64 (x8 + 1)) ≤ (wrap64 ((wrap64 (x8 + 1)) + 1)) then (if (wrap64 ((wrap64 (x8 + 1)) + 1)) ≤ (x0.size : Int) then (if x7.size + (x0.extract ((wrap64 (x8 + 1)) : Int).toNat ((wrap64 ((wrap64 (x8 + 1)) + 1)) : Int).toNat).size ≤ 9223372036854775807 then (antipoderef16_text.l0 k x0 (x7 ++ (x0.extract ((wrap64 (x8 + 1)) : Int).toNat ((wrap64 ((wrap64 (x8 + 1)) + 1)) : Int).toNat)) (wrap64 ((wrap64 (x8 + 1)) + 1))) else (none)) else (none)) else (none)) else (none))
end
def antipoderef16_text.f (k : Nat) (a0 : ByteArray) (a1 : Int) : Option (Int × Int × ByteArray × Int × Int × Int) := antipoderef16_text.l0 k a0 (⟨#[]⟩ : ByteArray) (wrap64 (a1 + 1))
theorem antipoderef16_text.mono_l : ∀ k, (∀ y0 y1 y2, LeO (antipoderef16_text.l0 k y0 y1 y2) (antipoderef16_text.l0 (k + 1) y0 y1 y2)) ∧ (∀ y0 y1 y2 y3, LeO (antipoderef16_text.j1 k y0 y1 y2 y3) (antipoderef16_text.j1 (k + 1) y0 y1 y2 y3))
 | 0 => ⟨fun _ _ _ r h => by simp [antipoderef16_text.l0] at h, fun _ _ _ _ r h => by simp [antipoderef16_text.j1] at h⟩
 | k + 1 => by
  obtain ⟨ih0, ih1⟩ := antipoderef16_text.mono_l k
  refine ⟨?_, ?_⟩
  ·intro y0 y1 y2
   unfold antipoderef16_text.l0
   repeat' first
   | (with_reducible exact ih0 _ _ _)
   | (with_reducible exact ih1 _ _ _ _)
   | (with_reducible exact LeO.refl _)
   | (with_reducible exact LeO.none _)
   | (with_reducible refine LeO.ite ?_ ?_)
   | (with_reducible refine LeO.bind ?_ (fun _ => ?_))
   | exact ih0 _ _ _
   | exact ih1 _ _ _ _
   | exact LeO.none _
   | refine LeO.ite ?_ ?_
   | refine LeO.bind ?_ (fun _ => ?_)
  ·intro y0 y1 y2 y3
   unfold antipoderef16_text.j1
   repeat' first
   | (with_reducible exact ih0 _ _ _)
   | (with_reducible exact ih1 _ _ _ _)
   | (with_reducible exact LeO.refl _)
   | (with_reducible exact LeO.none _)
   | (with_reducible refine LeO.ite ?_ ?_)
   | (with_reducible refine LeO.bind ?_ (fun _ => ?_))
   | exact ih0 _ _ _
   | exact ih1 _ _ _ _
   | exact LeO.none _
   | refine LeO.ite ?_ ?_
   | refine LeO.bind ?_ (fun _ => ?_)
theorem antipoderef16_text.mono : ∀ a0 a1 k, LeO (antipoderef16_text.f k a0 a1) (antipoderef16_text.f (k + 1) a0 a1) := by
 intro a0 a1 k
 obtain ⟨ih0, ih1⟩ := antipoderef16_text.mono_l k
 unfold antipoderef16_text.f
 repeat' first
   | (with_reducible exact ih0 _ _ _)
   | (with_reducible exact ih1 _ _ _ _)
   | (with_reducible exact LeO.refl _)
   | (with_reducible exact LeO.none _)
   | (with_reducible refine LeO.ite ?_ ?_)
   | (with_reducible refine LeO.bind ?_ (fun _ => ?_))
   | exact ih0 _ _ _
   | exact ih1 _ _ _ _
   | exact LeO.none _
   | refine LeO.ite ?_ ?_
   | refine LeO.bind ?_ (fun _ => ?_)
set_option maxHeartbeats 8000000 in
set_option maxRecDepth 100000 in
theorem antipoderef16_text.calls (k : Nat) (a0 : ByteArray) (a1 : Int) (r1 : Int) (r2 : Int) (r3 : ByteArray) (r4 : Int) (r5 : Int) (r6 : Int) (w : World) (h : antipoderef16_text.f k a0 a1 = some (r1, r2, r3, r4, r5, r6)) :
  Calls Try.prog 32 #[.string a0, .int .i64 a1] w fun e w' => e = .returned (.tuple #[.agg #[.int .i64 r1, .int .i64 r2, .string r3, .int .i64 r4], .int .i64 r5, .int .i64 r6]) ∧ Below w.heap.size w w' := by
 have hu28 := Try.underlying28
 have HB := Aside0.mk (Below.refl w.heap.size w)
 have H : (antipoderef16_text.l0 k a0 (⟨#[]⟩ : ByteArray) (wrap64 (a1 + 1))) = some (r1, r2, r3, r4, r5, r6) := h
 clear h
 have H' := Aside0.mk H
 clear H
 go_enter Try.func32, Try.ntmps32
 go_wp2_with (first | ((with_reducible refine gate_dst (N := 4) rfl ?_); refine box_event ?hg (N := 4) ?hd (cs := #[.int .i64 0, .int .i64 0, .string (⟨#[]⟩ : ByteArray), .int .i64 0]) (t := 28) ?hr ?_; (case hd => rfl); (case hg => rfl); (case hr => first | (go_simp; done) | (go_simp; rfl)); intro gb171 hg w3 hbox hb; have n0_ := Aside0.mk (below_step (by repeat (first | (with_reducible first | exact HB.out | apply below_alloc | apply pw_below_drewN | apply below_drew1) | exact HB.out)) hb); have n1_ := Aside0.mk (hbox); have n2_ := Aside0.mk ((by rw [hg]; exact (below_size (by repeat (first | (with_reducible first | exact HB.out | apply below_alloc | apply pw_below_drewN | apply below_drew1) | exact HB.out))) : w.heap.size ≤ gb171)); have n3_ := Aside0.mk ((by rw [hg]; exact (below_size (by repeat (first | (with_reducible first | exact HB.out | apply below_alloc | apply pw_below_drewN | apply below_drew1) | exact HB.out))) : w.heap.size ≤ gb171)); clear HB; have HB := n0_; have BK171 := n1_; have GW171 := n2_; have GE171 := n3_; clear n0_ n1_ n2_ n3_; clear hb hbox hg))
 go_loopg [7, 8] k (fun kq v7 v8 w' => ∃ (x7_1 : ByteArray) (x8_1 : Int) (x172000_1 : Int) (x172001_1 : Int) (x172002_1 : ByteArray) (x172003_1 : Int), v7 = .string x7_1 ∧ v8 = .int .i64 x8_1 ∧ Aside0 (antipoderef16_text.l0 kq a0 x7_1 x8_1 = some (r1, r2, r3, r4, r5, r6)) ∧ Aside0 (kq ≤ k) ∧ Aside0 (w'.heap[gb171]? = some (.cells #[.int .i64 x172000_1, .int .i64 x172001_1, .string x172002_1, .int .i64 x172003_1] 28 (0, 0))) ∧ Aside0 (Below w.heap.size w w'))
 case atStart => exact ⟨((⟨#[]⟩ : ByteArray)), (wrap64 (a1 + 1)), (0), (0), ((⟨#[]⟩ : ByteArray)), (0), (by first | rfl | (simp; done) | (simp [*]; done)), (by first | rfl | (simp; done) | (simp [*]; done)), H', ⟨Nat.le_refl _⟩, ⟨by (with_reducible repeat (first | refine blk_drewN ?_ _ | refine blk_drew ?_ | refine blk_alloc ?_ _)); exact BK171.out⟩, ⟨by repeat (first | (with_reducible first | exact HB.out | apply below_alloc | apply pw_below_drewN | apply below_drew1 | refine below_set ?_ GE171.out) | exact HB.out)⟩⟩
 case round =>
  clear H'
  try clear p2
  try clear c3
  obtain ⟨x7_1, x8_1, x172000_1, x172001_1, x172002_1, x172003_1, rfl, rfl, HA, HK1, BK171, HB⟩ := hrel
  cases gk with
  | zero => exact absurd HA.out (by simp [antipoderef16_text.l0])
  | succ k1 =>
   have H := HA.out
   clear HA
   simp only [antipoderef16_text.l0] at H
   by_cases c4 : x8_1 < (a0.size : Int)
   ·rw [if_pos c4] at H
    have c4b0 : decide (x8_1 < (a0.size : Int)) = true := decide_eq_true c4
    clear c4
    by_cases c5 : 0 ≤ x8_1
    ·rw [if_pos c5] at H
     have c5b0 : decide (0 ≤ x8_1) = true := decide_eq_true c5
     clear c5
     by_cases c7 : (bt a0 x8_1) = 39
     ·rw [if_pos c7] at H
      have c7b0 : ((bt a0 x8_1) == 39) = true := beq_iff_eq.mpr c7
      have c7b1 : ((bt a0 x8_1) != 39) = false := bne_eq_false_iff_eq.mpr c7
      clear c7
      have HC8 := Aside0.mk H
      clear H
      have p6 : 0 ≤ (x8_1 : Int) := of_decide_eq_true (by assumption)
      have q6 : x8_1 < (a0.size : Int) := of_decide_eq_true (by assumption)
      have hx6 := bt_at a0 x8_1
      replace p6 := eq_true p6
      replace q6 := eq_true q6
      go_upto_region 6 with (fail)
      go_cut [32] (fun v32 wc => ∃ (kq : Nat) (x32_7 : Bool), v32 = .bool x32_7 ∧ Aside0 (antipoderef16_text.j1 kq a0 x7_1 x8_1 x32_7 = some (r1, r2, r3, r4, r5, r6)) ∧ Aside0 (kq ≤ k1) ∧ Aside0 (wc.heap[gb171]? = some (.cells #[.int .i64 x172000_1, .int .i64 x172001_1, .string x172002_1, .int .i64 x172003_1] 28 (0, 0))) ∧ Aside0 (Below w.heap.size w wc))
      case first =>
       have H := HC8.out
       clear HC8
       by_cases c9 : (wrap64 (x8_1 + 1)) = (a0.size : Int)
       ·rw [if_pos c9] at H
        have c9b0 : ((wrap64 (x8_1 + 1)) == (a0.size : Int)) = true := beq_iff_eq.mpr c9
        have c9b1 : ((wrap64 (x8_1 + 1)) != (a0.size : Int)) = false := bne_eq_false_iff_eq.mpr c9
        clear c9
        (first | rw [c9b0] | (simp only [i64_w, i32_w]; rw [c9b0]) | skip)
        have H' := Aside0.mk H
        clear H
        go_wp2
        go_meet
        case rel => exact ⟨_, (true), (by first | rfl | (simp; done) | (simp [*]; done)), H', ⟨by have := HK1.out; first | omega | exact Nat.le_refl _⟩, ⟨by (with_reducible repeat (first | refine blk_drewN ?_ _ | refine blk_drew ?_ | refine blk_alloc ?_ _)); exact BK171.out⟩, ⟨by repeat (first | (with_reducible first | exact HB.out | apply below_alloc | apply pw_below_drewN | apply below_drew1 | refine below_set ?_ GE171.out) | exact HB.out)⟩⟩
       ·rw [if_neg c9] at H
        have c9b0 : ((wrap64 (x8_1 + 1)) == (a0.size : Int)) = false := beq_eq_false_iff_ne.mpr c9
        have c9b1 : ((wrap64 (x8_1 + 1)) != (a0.size : Int)) = true := bne_iff_ne.mpr c9
        (first | rw [c9b0] | (simp only [i64_w, i32_w]; rw [c9b0]) | skip)
        obtain ⟨ji10, hji10⟩ : ∃ j_ : Int, (wrap64 (x8_1 + 1)) = j_ := ⟨_, rfl⟩
        replace H : (if 0 ≤ (ji10) then (if (ji10) < (a0.size : Int) then (antipoderef16_text.j1 k1 a0 x7_1 x8_1 ((bt a0 (ji10)) != 39)) else (none)) else (none)) = some (r1, r2, r3, r4, r5, r6) := by first | (rw [hji10] at H; exact H) | (simp only [hji10] at H ⊢; exact H)
        (try rw [hji10] at c9b0)
        (try rw [hji10] at c9b1)
        have hji10w : (IntKind.i64.wrap (x8_1 + 1)) = ji10 := (i64_w _).trans hji10
        by_cases c11 : 0 ≤ (ji10)
        ·rw [if_pos c11] at H
         have c11b0 : decide (0 ≤ (ji10)) = true := decide_eq_true c11
         clear c11
         by_cases c12 : (ji10) < (a0.size : Int)
         ·rw [if_pos c12] at H
          have c12b0 : decide ((ji10) < (a0.size : Int)) = true := decide_eq_true c12
          clear c12
          have H' := Aside0.mk H
          clear H
          have p13 : 0 ≤ ((ji10) : Int) := of_decide_eq_true (by assumption)
          have q13 : (ji10) < (a0.size : Int) := of_decide_eq_true (by assumption)
          have hx13 := bt_at a0 (ji10)
          replace p13 := eq_true p13
          replace q13 := eq_true q13
          go_wp2
          go_meet
          case rel => exact ⟨_, (((bt a0 (ji10)) != 39)), (by first | rfl | (simp; done) | (simp only [← hji10] <;> (first | rfl | simp)) | (simp [*]; done)), (by first | exact H' | (refine ⟨?_⟩; (try rw [hji10]); exact H'.out)), ⟨by have := HK1.out; first | omega | exact Nat.le_refl _⟩, ⟨by (with_reducible repeat (first | refine blk_drewN ?_ _ | refine blk_drew ?_ | refine blk_alloc ?_ _)); exact BK171.out⟩, ⟨by repeat (first | (with_reducible first | exact HB.out | apply below_alloc | apply pw_below_drewN | apply below_drew1 | refine below_set ?_ GE171.out) | exact HB.out)⟩⟩
         ·rw [if_neg c12] at H
          exact absurd H (by simp)
        ·rw [if_neg c11] at H
         exact absurd H (by simp)
      case rest =>
       clear HC8
       try clear c1
       try clear p1
       try clear q1
       try clear hx1
       try clear p2
       try clear c3
       try clear c4
       try clear c4b0
       try clear c5
       try clear c5b0
       try clear p6
       try clear q6
       try clear hx6
       try clear c7
       try clear c7b0
       try clear c7b1
       try clear c9
       try clear c9b0
       try clear c9b1
       try clear c11
       try clear c11b0
       try clear c12
       try clear c12b0
       try clear p13
       try clear q13
       try clear hx13
       try clear p13
       try clear p2
       try clear p6
       try clear q13
       try clear q6
       obtain ⟨kq, x32_7, rfl, HA, HJ7, BK171, HB⟩ := hcut
       cases kq with
       | zero => exact absurd HA.out (by simp [antipoderef16_text.j1])
       | succ kj7 =>
        have H := HA.out
        clear HA
        simp only [antipoderef16_text.j1] at H
        by_cases c14 : x32_7 = true
        ·subst c14
         have H1 : (if (x7_1.size : Int) > 64 then (some (0, 0, (⟨#[]⟩ : ByteArray), 0, 0, 3)) else (some (3, 0, x7_1, 0, wrap64 (x8_1 + 1), 0))) = some (r1, r2, r3, r4, r5, r6) := by rw [if_pos rfl] at H; exact H
         clear H
         have H := H1
         clear H1
         by_cases c15 : (x7_1.size : Int) > 64
         ·rw [if_pos c15] at H
          have c15b0 : decide (64 < (x7_1.size : Int)) = true := decide_eq_true c15
          have c15b1 : decide (64 < x7_1.size) = true := decide_eq_true (by omega)
          clear c15
          simp only [Option.some.injEq, Prod.mk.injEq] at H
          obtain ⟨rfl, rfl, rfl, rfl, rfl, rfl⟩ := H
          have hcz16_0 : wc.cell? ⟨gb171, 0, none⟩ = some (.int .i64 x172000_1) := (blk_cell BK171.out 0).trans rfl
          have hcz16_1 : wc.cell? ⟨gb171, 1, none⟩ = some (.int .i64 x172001_1) := (blk_cell BK171.out 1).trans rfl
          have hcz16_2 : wc.cell? ⟨gb171, 2, none⟩ = some (.string x172002_1) := (blk_cell BK171.out 2).trans rfl
          have hcz16_3 : wc.cell? ⟨gb171, 3, none⟩ = some (.int .i64 x172003_1) := (blk_cell BK171.out 3).trans rfl
          have hfz16_0 := blk_frozen BK171.out 0
          have hfz16_1 := blk_frozen BK171.out 1
          have hfz16_2 := blk_frozen BK171.out 2
          have hfz16_3 := blk_frozen BK171.out 3
          go_wp2
          refine bodyPost_ret (results_ctt rfl _ _ gb171 28 #[.int .i64 0, .int .i64 0, .string (⟨#[]⟩ : ByteArray), .int .i64 0] (0, 0) _ rfl (by (with_reducible repeat (first | refine blk_drewN ?_ _ | refine blk_drew ?_ | refine blk_alloc ?_ _)); refine blk_put (cs := #[.int .i64 0, .int .i64 0, .string (⟨#[]⟩ : ByteArray), .int .i64 x172003_1]) ?_ 3 _ rfl; (with_reducible repeat (first | refine blk_drewN ?_ _ | refine blk_drew ?_ | refine blk_alloc ?_ _)); refine blk_put (cs := #[.int .i64 0, .int .i64 0, .string x172002_1, .int .i64 x172003_1]) ?_ 2 _ rfl; (with_reducible repeat (first | refine blk_drewN ?_ _ | refine blk_drew ?_ | refine blk_alloc ?_ _)); refine blk_put (cs := #[.int .i64 0, .int .i64 x172001_1, .string x172002_1, .int .i64 x172003_1]) ?_ 1 _ rfl; (with_reducible repeat (first | refine blk_drewN ?_ _ | refine blk_drew ?_ | refine blk_alloc ?_ _)); refine blk_put (cs := #[.int .i64 x172000_1, .int .i64 x172001_1, .string x172002_1, .int .i64 x172003_1]) ?_ 0 _ rfl; (with_reducible repeat (first | refine blk_drewN ?_ _ | refine blk_drew ?_ | refine blk_alloc ?_ _)); exact BK171.out) Try.underlying28 rfl (by kernel_rfl)) rfl ?_
          exact ⟨by first | rfl | (simp [errW_none, errW_some] <;> rfl) | (simp [*, errW_none, errW_some] <;> rfl), by repeat (first | (with_reducible first | exact HB.out | apply below_alloc | apply pw_below_drewN | apply below_drew1 | refine below_set ?_ GE171.out) | exact HB.out)⟩
         ·rw [if_neg c15] at H
          have c15b0 : decide (64 < (x7_1.size : Int)) = false := decide_eq_false c15
          have c15b1 : decide (64 < x7_1.size) = false := decide_eq_false (by omega)
          clear c15
          simp only [Option.some.injEq, Prod.mk.injEq] at H
          obtain ⟨rfl, rfl, rfl, rfl, rfl, rfl⟩ := H
          have hcz17_0 : wc.cell? ⟨gb171, 0, none⟩ = some (.int .i64 x172000_1) := (blk_cell BK171.out 0).trans rfl
          have hcz17_1 : wc.cell? ⟨gb171, 1, none⟩ = some (.int .i64 x172001_1) := (blk_cell BK171.out 1).trans rfl
          have hcz17_2 : wc.cell? ⟨gb171, 2, none⟩ = some (.string x172002_1) := (blk_cell BK171.out 2).trans rfl
          have hcz17_3 : wc.cell? ⟨gb171, 3, none⟩ = some (.int .i64 x172003_1) := (blk_cell BK171.out 3).trans rfl
          have hfz17_0 := blk_frozen BK171.out 0
          have hfz17_1 := blk_frozen BK171.out 1
          have hfz17_2 := blk_frozen BK171.out 2
          have hfz17_3 := blk_frozen BK171.out 3
          go_wp2
          refine bodyPost_ret (results_ctt rfl _ _ gb171 28 #[.int .i64 3, .int .i64 0, .string x7_1, .int .i64 0] (0, 0) _ rfl (by (with_reducible repeat (first | refine blk_drewN ?_ _ | refine blk_drew ?_ | refine blk_alloc ?_ _)); refine blk_put (cs := #[.int .i64 3, .int .i64 0, .string x7_1, .int .i64 x172003_1]) ?_ 3 _ rfl; (with_reducible repeat (first | refine blk_drewN ?_ _ | refine blk_drew ?_ | refine blk_alloc ?_ _)); refine blk_put (cs := #[.int .i64 3, .int .i64 0, .string x172002_1, .int .i64 x172003_1]) ?_ 2 _ rfl; (with_reducible repeat (first | refine blk_drewN ?_ _ | refine blk_drew ?_ | refine blk_alloc ?_ _)); refine blk_put (cs := #[.int .i64 3, .int .i64 x172001_1, .string x172002_1, .int .i64 x172003_1]) ?_ 1 _ rfl; (with_reducible repeat (first | refine blk_drewN ?_ _ | refine blk_drew ?_ | refine blk_alloc ?_ _)); refine blk_put (cs := #[.int .i64 x172000_1, .int .i64 x172001_1, .string x172002_1, .int .i64 x172003_1]) ?_ 0 _ rfl; (with_reducible repeat (first | refine blk_drewN ?_ _ | refine blk_drew ?_ | refine blk_alloc ?_ _)); exact BK171.out) Try.underlying28 rfl (by kernel_rfl)) rfl ?_
          exact ⟨by first | rfl | (simp [errW_none, errW_some] <;> rfl) | (simp [*, errW_none, errW_some] <;> rfl), by repeat (first | (with_reducible first | exact HB.out | apply below_alloc | apply pw_below_drewN | apply below_drew1 | refine below_set ?_ GE171.out) | exact HB.out)⟩
        ·replace c14 := Bool.eq_false_iff.mpr c14
         subst c14
         have H1 : (if 0 ≤ (wrap64 (x8_1 + 1)) then (if (wrap64 (x8_1 + 1)) ≤ (wrap64 ((wrap64 (x8_1 + 1)) + 1)) then (if (wrap64 ((wrap64 (x8_1 + 1)) + 1)) ≤ (a0.size : Int) then (if x7_1.size + (a0.extract ((wrap64 (x8_1 + 1)) : Int).toNat ((wrap64 ((wrap64 (x8_1 + 1)) + 1)) : Int).toNat).size ≤ 9223372036854775807 then (antipoderef16_text.l0 kj7 a0 (x7_1 ++ (a0.extract ((wrap64 (x8_1 + 1)) : Int).toNat ((wrap64 ((wrap64 (x8_1 + 1)) + 1)) : Int).toNat)) (wrap64 ((wrap64 (x8_1 + 1)) + 1))) else (none)) else (none)) else (none)) else (none)) = some (r1, r2, r3, r4, r5, r6) := by rw [if_neg (show ¬ (false = true) by decide)] at H; exact H
         clear H
         have H := H1
         clear H1
         obtain ⟨ji18, hji18⟩ : ∃ j_ : Int, (wrap64 (x8_1 + 1)) = j_ := ⟨_, rfl⟩
         replace H : (if 0 ≤ (ji18) then (if (ji18) ≤ (wrap64 ((ji18) + 1)) then (if (wrap64 ((ji18) + 1)) ≤ (a0.size : Int) then (if x7_1.size + (a0.extract ((ji18) : Int).toNat ((wrap64 ((ji18) + 1)) : Int).toNat).size ≤ 9223372036854775807 then (antipoderef16_text.l0 kj7 a0 (x7_1 ++ (a0.extract ((ji18) : Int).toNat ((wrap64 ((ji18) + 1)) : Int).toNat)) (wrap64 ((ji18) + 1))) else (none)) else (none)) else (none)) else (none)) = some (r1, r2, r3, r4, r5, r6) := by first | (rw [hji18] at H; exact H) | (simp only [hji18] at H ⊢; exact H)
         have hji18w : (IntKind.i64.wrap (x8_1 + 1)) = ji18 := (i64_w _).trans hji18
         by_cases c19 : 0 ≤ (ji18)
         ·rw [if_pos c19] at H
          have c19b0 := eq_true c19
          have c19b1 : decide (0 ≤ (ji18)) = true := decide_eq_true c19
          clear c19
          by_cases c20 : (ji18) ≤ (wrap64 ((ji18) + 1))
          ·rw [if_pos c20] at H
           have c20b0 := eq_true c20
           have c20b1 : decide ((ji18) ≤ (wrap64 ((ji18) + 1))) = true := decide_eq_true c20
           by_cases c21 : (wrap64 ((ji18) + 1)) ≤ (a0.size : Int)
           ·rw [if_pos c21] at H
            have c21b0 := eq_true c21
            have c21b1 : decide ((wrap64 ((ji18) + 1)) ≤ (a0.size : Int)) = true := decide_eq_true c21
            by_cases c22 : x7_1.size + (a0.extract ((ji18) : Int).toNat ((wrap64 ((ji18) + 1)) : Int).toNat).size ≤ 9223372036854775807
            ·rw [if_pos c22] at H
             have c22b0 := eq_true c22
             have c22b1 : decide (x7_1.size + (a0.extract ((ji18) : Int).toNat ((wrap64 ((ji18) + 1)) : Int).toNat).size ≤ 9223372036854775807) = true := decide_eq_true c22
             try have c22b2 : (9223372036854775807 < x7_1.size + (a0.extract ((ji18) : Int).toNat ((wrap64 ((ji18) + 1)) : Int).toNat).size) = False := eq_false (Nat.not_lt.2 c22)
             have H' := Aside0.mk H
             clear H
             go_wp2
             go_roundg kj7
             case measure => have := HK1.out; have := HJ7.out; omega
             case rel => exact ⟨(x7_1 ++ (a0.extract ((ji18) : Int).toNat ((wrap64 ((ji18) + 1)) : Int).toNat)), (wrap64 ((ji18) + 1)), (x172000_1), (x172001_1), (x172002_1), (x172003_1), (by first | rfl | (simp; done) | (simp only [← hji18] <;> (first | rfl | simp)) | (simp [*]; done)), (by first | rfl | (simp; done) | (simp only [← hji18] <;> (first | rfl | simp)) | (simp [*]; done)), (by first | exact H' | (refine ⟨?_⟩; (try rw [hji18]); exact H'.out)), ⟨by have := HK1.out; have := HJ7.out; omega⟩, ⟨by (with_reducible repeat (first | refine blk_drewN ?_ _ | refine blk_drew ?_ | refine blk_alloc ?_ _)); exact BK171.out⟩, ⟨by repeat (first | (with_reducible first | exact HB.out | apply below_alloc | apply pw_below_drewN | apply below_drew1 | refine below_set ?_ GE171.out) | exact HB.out)⟩⟩
            ·rw [if_neg c22] at H
             exact absurd H (by simp)
           ·rw [if_neg c21] at H
            exact absurd H (by simp)
          ·rw [if_neg c20] at H
           exact absurd H (by simp)
         ·rw [if_neg c19] at H
          exact absurd H (by simp)
     ·rw [if_neg c7] at H
      have c7b0 : ((bt a0 x8_1) == 39) = false := beq_eq_false_iff_ne.mpr c7
      have c7b1 : ((bt a0 x8_1) != 39) = true := bne_iff_ne.mpr c7
      have c23b0 := eq_true (of_decide_eq_true (by assumption) : 0 ≤ x8_1)
      by_cases c24 : x8_1 ≤ (wrap64 (x8_1 + 1))
      ·rw [if_pos c24] at H
       have c24b0 := eq_true c24
       have c24b1 : decide (x8_1 ≤ (wrap64 (x8_1 + 1))) = true := decide_eq_true c24
       by_cases c25 : (wrap64 (x8_1 + 1)) ≤ (a0.size : Int)
       ·rw [if_pos c25] at H
        have c25b0 := eq_true c25
        have c25b1 : decide ((wrap64 (x8_1 + 1)) ≤ (a0.size : Int)) = true := decide_eq_true c25
        by_cases c26 : x7_1.size + (a0.extract (x8_1 : Int).toNat ((wrap64 (x8_1 + 1)) : Int).toNat).size ≤ 9223372036854775807
        ·rw [if_pos c26] at H
         have c26b0 := eq_true c26
         have c26b1 : decide (x7_1.size + (a0.extract (x8_1 : Int).toNat ((wrap64 (x8_1 + 1)) : Int).toNat).size ≤ 9223372036854775807) = true := decide_eq_true c26
         try have c26b2 : (9223372036854775807 < x7_1.size + (a0.extract (x8_1 : Int).toNat ((wrap64 (x8_1 + 1)) : Int).toNat).size) = False := eq_false (Nat.not_lt.2 c26)
         have H' := Aside0.mk H
         clear H
         have p6 : 0 ≤ (x8_1 : Int) := of_decide_eq_true (by assumption)
         have q6 : x8_1 < (a0.size : Int) := of_decide_eq_true (by assumption)
         have hx6 := bt_at a0 x8_1
         replace p6 := eq_true p6
         replace q6 := eq_true q6
         go_wp2
         go_roundg k1
         case measure => have := HK1.out; omega
         case rel => exact ⟨(x7_1 ++ (a0.extract (x8_1 : Int).toNat ((wrap64 (x8_1 + 1)) : Int).toNat)), (wrap64 (x8_1 + 1)), (x172000_1), (x172001_1), (x172002_1), (x172003_1), (by first | rfl | (simp; done) | (simp [*]; done)), (by first | rfl | (simp; done) | (simp [*]; done)), H', ⟨by have := HK1.out; omega⟩, ⟨by (with_reducible repeat (first | refine blk_drewN ?_ _ | refine blk_drew ?_ | refine blk_alloc ?_ _)); exact BK171.out⟩, ⟨by repeat (first | (with_reducible first | exact HB.out | apply below_alloc | apply pw_below_drewN | apply below_drew1 | refine below_set ?_ GE171.out) | exact HB.out)⟩⟩
        ·rw [if_neg c26] at H
         exact absurd H (by simp)
       ·rw [if_neg c25] at H
        exact absurd H (by simp)
      ·rw [if_neg c24] at H
       exact absurd H (by simp)
    ·rw [if_neg c5] at H
     exact absurd H (by simp)
   ·rw [if_neg c4] at H
    have c4b0 : decide (x8_1 < (a0.size : Int)) = false := decide_eq_false c4
    clear c4
    simp only [Option.some.injEq, Prod.mk.injEq] at H
    obtain ⟨rfl, rfl, rfl, rfl, rfl, rfl⟩ := H
    have hcz27_0 : wr.cell? ⟨gb171, 0, none⟩ = some (.int .i64 x172000_1) := (blk_cell BK171.out 0).trans rfl
    have hcz27_1 : wr.cell? ⟨gb171, 1, none⟩ = some (.int .i64 x172001_1) := (blk_cell BK171.out 1).trans rfl
    have hcz27_2 : wr.cell? ⟨gb171, 2, none⟩ = some (.string x172002_1) := (blk_cell BK171.out 2).trans rfl
    have hcz27_3 : wr.cell? ⟨gb171, 3, none⟩ = some (.int .i64 x172003_1) := (blk_cell BK171.out 3).trans rfl
    have hfz27_0 := blk_frozen BK171.out 0
    have hfz27_1 := blk_frozen BK171.out 1
    have hfz27_2 := blk_frozen BK171.out 2
    have hfz27_3 := blk_frozen BK171.out 3
    go_wp2
    refine bodyPost_ret (results_ctt rfl _ _ gb171 28 #[.int .i64 0, .int .i64 0, .string (⟨#[]⟩ : ByteArray), .int .i64 0] (0, 0) _ rfl (by (with_reducible repeat (first | refine blk_drewN ?_ _ | refine blk_drew ?_ | refine blk_alloc ?_ _)); refine blk_put (cs := #[.int .i64 0, .int .i64 0, .string (⟨#[]⟩ : ByteArray), .int .i64 x172003_1]) ?_ 3 _ rfl; (with_reducible repeat (first | refine blk_drewN ?_ _ | refine blk_drew ?_ | refine blk_alloc ?_ _)); refine blk_put (cs := #[.int .i64 0, .int .i64 0, .string x172002_1, .int .i64 x172003_1]) ?_ 2 _ rfl; (with_reducible repeat (first | refine blk_drewN ?_ _ | refine blk_drew ?_ | refine blk_alloc ?_ _)); refine blk_put (cs := #[.int .i64 0, .int .i64 x172001_1, .string x172002_1, .int .i64 x172003_1]) ?_ 1 _ rfl; (with_reducible repeat (first | refine blk_drewN ?_ _ | refine blk_drew ?_ | refine blk_alloc ?_ _)); refine blk_put (cs := #[.int .i64 x172000_1, .int .i64 x172001_1, .string x172002_1, .int .i64 x172003_1]) ?_ 0 _ rfl; (with_reducible repeat (first | refine blk_drewN ?_ _ | refine blk_drew ?_ | refine blk_alloc ?_ _)); exact BK171.out) Try.underlying28 rfl (by kernel_rfl)) rfl ?_
    exact ⟨by first | rfl | (simp [errW_none, errW_some] <;> rfl) | (simp [*, errW_none, errW_some] <;> rfl), by repeat (first | (with_reducible first | exact HB.out | apply below_alloc | apply pw_below_drewN | apply below_drew1 | refine below_set ?_ GE171.out) | exact HB.out)⟩

end Go.Proofs.Ytpgcjlndojbmjaa.PL
