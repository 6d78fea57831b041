-- Written by drv.py (this session's program over the kit's print).
import Derived.Test.YtcflmkklpehmmaaDoorPLx0
import Derived.Test.YtcflmkklpehmmaaDoorPLx34
namespace Go.Proofs.YtcflmkklpehmmaaDoor.PL
open Go.RowKit Go.Proofs.YtcflmkklpehmmaaDoorW.PrintWords Go.Proofs.YtcflmkklpehmmaaDoorW.PrintLast Go.Proofs.YtcflmkklpehmmaaDoorW.PrintMore
attribute [local go_sem] max2_int min2_int max_two min_two max_three min_three max_four min_four   -- for this text's walks alone
attribute [local go_sem ↓] isSome_setCell
set_option linter.unusedVariables false
set_option linter.unusedSimpArgs false

/-! ### antipoderef1_Zag: function 56 -/
def antipoderef1_Zag.f (a0 : Int) : Option (Int) := if (Int.tmod a0 2) = 0 then (some (wrap64 (IntKind.u64.wrap (Int.tdiv a0 2)))) else (some (wrap64 ((wrap64 (-(wrap64 (IntKind.u64.wrap (Int.tdiv a0 2))))) - 1)))
set_option maxHeartbeats 8000000 in
set_option maxRecDepth 100000 in
theorem antipoderef1_Zag.calls (a0 : Int) (r : Int) (w : World) (h : antipoderef1_Zag.f a0 = some r) :
  Calls Tryd.prog 56 #[.int .u64 a0] w fun e w' => e = .returned (.int .i64 r) ∧ Drawn0 w w' := by
 have H : (if (Int.tmod a0 2) = 0 then (some (wrap64 (IntKind.u64.wrap (Int.tdiv a0 2)))) else (some (wrap64 ((wrap64 (-(wrap64 (IntKind.u64.wrap (Int.tdiv a0 2))))) - 1)))) = some r := h
 clear h
 by_cases c2 : (Int.tmod a0 2) = 0
 ·rw [if_pos c2] at H
  have c2b0 : ((Int.tmod a0 2) == 0) = true := beq_iff_eq.mpr c2
  have c2b1 : ((Int.tmod a0 2) != 0) = false := bne_eq_false_iff_eq.mpr c2
  clear c2
  obtain rfl := Option.some.inj H
  go_enter Tryd.func56, Tryd.ntmps56
  go_wp2
  go_ret
  exact ⟨by first | rfl | (simp; done) | (simp [*]; done), by repeat (first | exact Drawn0.refl _ | apply Drawn0.step)⟩
 ·rw [if_neg c2] at H
  have c2b0 : ((Int.tmod a0 2) == 0) = false := beq_eq_false_iff_ne.mpr c2
  have c2b1 : ((Int.tmod a0 2) != 0) = true := bne_iff_ne.mpr c2
  obtain rfl := Option.some.inj H
  go_enter Tryd.func56, Tryd.ntmps56
  go_wp2
  go_ret
  exact ⟨by first | rfl | (simp; done) | (simp [*]; done), by repeat (first | exact Drawn0.refl _ | apply Drawn0.step)⟩

/-! ### antipoderef1_TakeText: function 57 -/
def antipoderef1_TakeText.f (k : Nat) (l0 : List Int) : Option (List Int × Int × Int) := (antipoderef1_TakeVar.f k l0).bind fun bt417 => (if bt417.2.2 = 0 then (if bt417.1 > 1048576 then (some (([] : List Int), 0, 3)) else (if (wrap64 ((l0.length : Int) - bt417.2.1)) < (wrap64 (bt417.1)) then (some (([] : List Int), 0, 2)) else ((some (([] : List Int) : List Int)).bind fun y420 => (if 0 ≤ bt417.2.1 then (if bt417.2.1 ≤ (wrap64 (bt417.2.1 + (wrap64 (bt417.1)))) then (if (wrap64 (bt417.2.1 + (wrap64 (bt417.1)))) ≤ (l0.length : Int) then (if y420.length + ((l0.take ((wrap64 (bt417.2.1 + (wrap64 (bt417.1)))) : Int).toNat).drop (bt417.2.1 : Int).toNat).length < 140737488355328 then (some ((y420 ++ ((l0.take ((wrap64 (bt417.2.1 + (wrap64 (bt417.1)))) : Int).toNat).drop (bt417.2.1 : Int).toNat)), wrap64 (bt417.2.1 + (wrap64 (bt417.1))), 0)) else (none)) else (none)) else (none)) else (none))))) else (some (([] : List Int), 0, bt417.2.2)))
theorem antipoderef1_TakeText.mono : ∀ a0 k, LeO (antipoderef1_TakeText.f k a0) (antipoderef1_TakeText.f (k + 1) a0) := by
 intro a0 k
 unfold antipoderef1_TakeText.f
 repeat' first
   | (with_reducible exact antipoderef1_TakeVar.mono _ _)
   | (with_reducible exact LeO.refl _)
   | (with_reducible exact LeO.none _)
   | (with_reducible refine LeO.ite ?_ ?_)
   | (with_reducible refine LeO.bind ?_ (fun _ => ?_))
   | exact antipoderef1_TakeVar.mono _ _
   | exact LeO.none _
   | refine LeO.ite ?_ ?_
   | refine LeO.bind ?_ (fun _ => ?_)
set_option maxHeartbeats 8000000 in
set_option maxRecDepth 100000 in
theorem antipoderef1_TakeText.calls (k : Nat) (A0 : Option Addr) (c0 : Nat) (l0 : List Int) (r1 : List Int) (r2 : Int) (r3 : Int) (w : World) (hr0 : Kd.C (Kd.int .u8) w A0 l0.length l0) (hc0 : l0.length ≤ c0) (h : antipoderef1_TakeText.f k l0 = some (r1, r2, r3)) :
  Calls Tryd.prog 57 #[.slice A0 l0.length c0] w fun e w' => ∃ v0_ : Value, e = .returned (.tuple #[v0_, .int .i64 r2, .int .i64 r3]) ∧ Kd.R (Kd.int .u8) 5 w' w.heap.size (fun _ => True) v0_ r1 ∧ Below w.heap.size w w' := by
 have HR0 := Aside0.mk hr0
 have HC0 := Aside0.mk hc0
 clear hr0 hc0
 have HB := Aside0.mk (Below.refl w.heap.size w)
 have H : ((antipoderef1_TakeVar.f k l0).bind fun bt417 => (if bt417.2.2 = 0 then (if bt417.1 > 1048576 then (some (([] : List Int), 0, 3)) else (if (wrap64 ((l0.length : Int) - bt417.2.1)) < (wrap64 (bt417.1)) then (some (([] : List Int), 0, 2)) else ((some (([] : List Int) : List Int)).bind fun y420 => (if 0 ≤ bt417.2.1 then (if bt417.2.1 ≤ (wrap64 (bt417.2.1 + (wrap64 (bt417.1)))) then (if (wrap64 (bt417.2.1 + (wrap64 (bt417.1)))) ≤ (l0.length : Int) then (if y420.length + ((l0.take ((wrap64 (bt417.2.1 + (wrap64 (bt417.1)))) : Int).toNat).drop (bt417.2.1 : Int).toNat).length < 140737488355328 then (some ((y420 ++ ((l0.take ((wrap64 (bt417.2.1 + (wrap64 (bt417.1)))) : Int).toNat).drop (bt417.2.1 : Int).toNat)), wrap64 (bt417.2.1 + (wrap64 (bt417.1))), 0)) else (none)) else (none)) else (none)) else (none))))) else (some (([] : List Int), 0, bt417.2.2)))) = some (r1, r2, r3) := h
 clear h
 replace H := Option.bind_eq_some_iff.mp H
 obtain ⟨⟨t417, t418, t419⟩, A20, H⟩ := H
 replace H : (if t419 = 0 then (if t417 > 1048576 then (some (([] : List Int), 0, 3)) else (if (wrap64 ((l0.length : Int) - t418)) < (wrap64 (t417)) then (some (([] : List Int), 0, 2)) else ((some (([] : List Int) : List Int)).bind fun y420 => (if 0 ≤ t418 then (if t418 ≤ (wrap64 (t418 + (wrap64 (t417)))) then (if (wrap64 (t418 + (wrap64 (t417)))) ≤ (l0.length : Int) then (if y420.length + ((l0.take ((wrap64 (t418 + (wrap64 (t417)))) : Int).toNat).drop (t418 : Int).toNat).length < 140737488355328 then (some ((y420 ++ ((l0.take ((wrap64 (t418 + (wrap64 (t417)))) : Int).toNat).drop (t418 : Int).toNat)), wrap64 (t418 + (wrap64 (t417))), 0)) else (none)) else (none)) else (none)) else (none))))) else (some (([] : List Int), 0, t419))) = some (r1, r2, r3) := H
 have A2 := Aside0.mk A20
 clear A20
 by_cases c3 : t419 = 0
 ·rw [if_pos c3] at H
  have c3b0 : (t419 == 0) = true := beq_iff_eq.mpr c3
  have c3b1 : (t419 != 0) = false := bne_eq_false_iff_eq.mpr c3
  clear c3
  by_cases c4 : t417 > 1048576
  ·rw [if_pos c4] at H
   have c4b0 : decide (1048576 < t417) = true := decide_eq_true c4
   clear c4
   simp only [Option.some.injEq, Prod.mk.injEq] at H
   obtain ⟨rfl, rfl, rfl⟩ := H
   go_enter Tryd.func57, Tryd.ntmps57
   go_wp2_with (first | ((with_reducible refine gate_callee (f := 55) rfl ?_); refine goesL_ (some 10) rfl rfl Tryd.func55 (by kernel_rfl) rfl #[.slice A0 l0.length c0] rfl (by (try simp only [List.map_toArray, List.map_cons, List.map_nil]); first | done | rfl | (simp only [List.length_drop, List.length_take]; rfl)) ?_; (with_reducible refine (antipoderef1_TakeVar.calls k _ _ l0 t417 t418 t419 _ ?side1 ?side2 A2.out).mono ?_); (case side1 => repeat (first | exact HR0.out | (with_reducible refine Kd.C_alloc ?_ _) | (with_reducible refine Kd.C_drewN ?_ _) | (with_reducible refine Kd.C_drew ?_))); (case side2 => exact HC0.out); rintro e w' ⟨rfl, ⟨nd, rfl⟩⟩; refine ⟨_, rfl, ?_⟩))
   go_ret3
   exact ⟨_, by first | rfl | (simp [errW_none, errW_some] <;> rfl) | (simp [*, errW_none, errW_some] <;> rfl), by first | exact Kd.R_nil _ _ _ _ _ | exact Kd.N_nil _ _ _ _ _ | exact Kd.V_nil _ _ _ _ _ | exact Kd.Q_nil _ _ _ _ _ | exact Kd.S_nil _ _ _ _ _, by repeat (first | (with_reducible first | exact HB.out | apply below_alloc | apply pw_below_drewN | apply below_drew1) | exact HB.out)⟩
  ·rw [if_neg c4] at H
   have c4b0 : decide (1048576 < t417) = false := decide_eq_false c4
   clear c4
   by_cases c5 : (wrap64 ((l0.length : Int) - t418)) < (wrap64 (t417))
   ·rw [if_pos c5] at H
    have c5b0 : decide ((wrap64 ((l0.length : Int) - t418)) < (wrap64 (t417))) = true := decide_eq_true c5
    clear c5
    simp only [Option.some.injEq, Prod.mk.injEq] at H
    obtain ⟨rfl, rfl, rfl⟩ := H
    go_enter Tryd.func57, Tryd.ntmps57
    go_wp2_with (first | ((with_reducible refine gate_callee (f := 55) rfl ?_); refine goesL_ (some 10) rfl rfl Tryd.func55 (by kernel_rfl) rfl #[.slice A0 l0.length c0] rfl (by (try simp only [List.map_toArray, List.map_cons, List.map_nil]); first | done | rfl | (simp only [List.length_drop, List.length_take]; rfl)) ?_; (with_reducible refine (antipoderef1_TakeVar.calls k _ _ l0 t417 t418 t419 _ ?side1 ?side2 A2.out).mono ?_); (case side1 => repeat (first | exact HR0.out | (with_reducible refine Kd.C_alloc ?_ _) | (with_reducible refine Kd.C_drewN ?_ _) | (with_reducible refine Kd.C_drew ?_))); (case side2 => exact HC0.out); rintro e w' ⟨rfl, ⟨nd, rfl⟩⟩; refine ⟨_, rfl, ?_⟩))
    go_ret3
    exact ⟨_, by first | rfl | (simp [errW_none, errW_some] <;> rfl) | (simp [*, errW_none, errW_some] <;> rfl), by first | exact Kd.R_nil _ _ _ _ _ | exact Kd.N_nil _ _ _ _ _ | exact Kd.V_nil _ _ _ _ _ | exact Kd.Q_nil _ _ _ _ _ | exact Kd.S_nil _ _ _ _ _, by repeat (first | (with_reducible first | exact HB.out | apply below_alloc | apply pw_below_drewN | apply below_drew1) | exact HB.out)⟩
   ·rw [if_neg c5] at H
    have c5b0 : decide ((wrap64 ((l0.length : Int) - t418)) < (wrap64 (t417))) = false := decide_eq_false c5
    clear c5
    obtain ⟨y420, hy420⟩ : ∃ y_ : List Int, y_ = (([] : List Int)) := ⟨_, rfl⟩
    replace H : (if 0 ≤ t418 then (if t418 ≤ (wrap64 (t418 + (wrap64 (t417)))) then (if (wrap64 (t418 + (wrap64 (t417)))) ≤ (l0.length : Int) then (if y420.length + ((l0.take ((wrap64 (t418 + (wrap64 (t417)))) : Int).toNat).drop (t418 : Int).toNat).length < 140737488355328 then (some ((y420 ++ ((l0.take ((wrap64 (t418 + (wrap64 (t417)))) : Int).toNat).drop (t418 : Int).toNat)), wrap64 (t418 + (wrap64 (t417))), 0)) else (none)) else (none)) else (none)) else (none)) = some (r1, r2, r3) := by first | (rw [hy420]; with_reducible exact H) | (have H2_ := (Option.bind_some _ _).symm.trans H; rw [hy420]; with_reducible exact H2_) | (have H2_ := (Option.bind_some _ _).symm.trans H; with_reducible exact H2_) | with_reducible exact H | (rw [hy420]; exact H) | exact H
    have Ny420 := Aside0.mk hy420
    clear hy420
    by_cases c6 : 0 ≤ t418
    ·rw [if_pos c6] at H
     have c6b0 := eq_true c6
     have c6b1 : decide (0 ≤ t418) = true := decide_eq_true c6
     clear c6
     by_cases c7 : t418 ≤ (wrap64 (t418 + (wrap64 (t417))))
     ·rw [if_pos c7] at H
      have c7b0 := eq_true c7
      have c7b1 : decide (t418 ≤ (wrap64 (t418 + (wrap64 (t417))))) = true := decide_eq_true c7
      by_cases c8 : (wrap64 (t418 + (wrap64 (t417)))) ≤ (l0.length : Int)
      ·rw [if_pos c8] at H
       have c8b0 := eq_true c8
       have c8b1 : decide ((wrap64 (t418 + (wrap64 (t417)))) ≤ (l0.length : Int)) = true := decide_eq_true c8
       by_cases c9 : y420.length + ((l0.take ((wrap64 (t418 + (wrap64 (t417)))) : Int).toNat).drop (t418 : Int).toNat).length < 140737488355328
       ·rw [if_pos c9] at H
        have LMc9 := Aside0.mk c9
        clear c9
        obtain ⟨y424, hy424⟩ : ∃ y_ : List Int, y_ = (y420 ++ ((l0.take ((wrap64 (t418 + (wrap64 (t417)))) : Int).toNat).drop (t418 : Int).toNat)) := ⟨_, rfl⟩
        replace H : (some (y424, wrap64 (t418 + (wrap64 (t417))), 0)) = some (r1, r2, r3) := by first | (rw [hy424]; with_reducible exact H) | (have H2_ := (Option.bind_some _ _).symm.trans H; rw [hy424]; with_reducible exact H2_) | (have H2_ := (Option.bind_some _ _).symm.trans H; with_reducible exact H2_) | with_reducible exact H | (rw [hy424]; exact H) | exact H
        have Ny424 := Aside0.mk hy424
        clear hy424
        simp only [Option.some.injEq, Prod.mk.injEq] at H
        obtain ⟨rfl, rfl, rfl⟩ := H
        go_enter Tryd.func57, Tryd.ntmps57
        go_wp2_with (first | ((with_reducible refine gate_callee (f := 55) rfl ?_); refine goesL_ (some 10) rfl rfl Tryd.func55 (by kernel_rfl) rfl #[.slice A0 l0.length c0] rfl (by (try simp only [List.map_toArray, List.map_cons, List.map_nil]); first | done | rfl | (simp only [List.length_drop, List.length_take]; rfl)) ?_; (with_reducible refine (antipoderef1_TakeVar.calls k _ _ l0 t417 t418 t419 _ ?side1 ?side2 A2.out).mono ?_); (case side1 => repeat (first | exact HR0.out | (with_reducible refine Kd.C_alloc ?_ _) | (with_reducible refine Kd.C_drewN ?_ _) | (with_reducible refine Kd.C_drew ?_))); (case side2 => exact HC0.out); rintro e w' ⟨rfl, ⟨nd, rfl⟩⟩; refine ⟨_, rfl, ?_⟩) | ((with_reducible refine gate_dst (N := 26) rfl ?_); refine Kd.R_lit (Kd.int .u8) _ 5 ?hg (N := 26) ?hd (xs := ([] : List Int)) (inner := []) (ok := fun _ => True) (okp := fun _ => True) ?hr ?hp (fun _ hk => hk) trivial (Below.refl _ _) (Nat.le_refl _) (by simp) ?_; (case hd => rfl); (case hg => rfl); (case hr => first | (go_simp; done) | (go_simp; rfl)); (case hp => exact (Reps.none _ _)); intro v421 w10 ho11 hb hg_ hnew_; clear hg_ hnew_; (first | rw [← Ny420.out] at ho11 | (simp only [Int.reduceToNat] at ho11; rw [← Ny420.out] at ho11)); have n0_ := Aside0.mk (Kd.R_lower ho11 (below_size (by repeat (first | (with_reducible first | exact HB.out | apply below_alloc | apply pw_below_drewN | apply below_drew1) | exact HB.out)))); have n1_ := Aside0.mk (below_step (by repeat (first | (with_reducible first | exact HB.out | apply below_alloc | apply pw_below_drewN | apply below_drew1) | exact HB.out)) hb); clear HB; have HO422 := n0_; have HB := n1_; clear n0_ n1_; clear hb ho11; obtain ⟨i012, hi012, _, hsz12, _⟩ := info_parts info5; obtain ⟨A12, hcut12, hA12, hC12⟩ := print_mid_of (P := Tryd.prog) (Value.int .u8) 0 22 5 .i64 .i64 Tryd.underlying22 hi012 hsz12 A0 c0 l0 t418 (wrap64 (t418 + (wrap64 (t417)))) (of_decide_eq_true (by assumption)) (by first | omega | exact of_decide_eq_true (by assumption)) (of_decide_eq_true (by assumption)) HC0.out; have HR423 := Aside0.mk (Kd.C_of_reads (h1 := fun _ => rfl) (hA12 _ (Kd.reads_of_C HR0.out))); have HC423 := Aside0.mk hC12; clear hA12 hC12 hi012 hsz12) | ((with_reducible refine gate_builtin (b := .append) (xs := #[.tmp 26, .tmp 33]) rfl ?_); at_builtin; refine Kd.R_append_rows (Kd.int .u8) (w0 := w) w.heap.size rfl (.tmp 26) (.tmp 33) 22 5 (.int .u8 0) 1 rfl Tryd.underlying22 info5 rfl (by decide) (by omega) v421 y420 ((l0.take ((wrap64 (t418 + (wrap64 (t417)))) : Int).toNat).drop (t418 : Int).toNat) _ _ _ (fun _ => True) (fun _ => False) rfl rfl ?aO ?aR (fun _ _ h => h) (fun _ h => h.elim) ?aF ?aB ?aS ?aL ?_; (case aR => first | (rw [← show ((l0.take ((wrap64 (t418 + (wrap64 (t417)))) : Int).toNat).drop (t418 : Int).toNat).length = ((wrap64 (t418 + (wrap64 (t417)))).toNat - t418.toNat) from (by rw [List.length_drop, List.length_take]; have h_ : ((wrap64 (t418 + (wrap64 (t417)))) : Int) ≤ (l0.length : Int) := of_decide_eq_true (by assumption); omega)]; repeat (first | exact (Kd.C_below HR423.out HB.out) | (with_reducible refine Kd.C_alloc ?_ _) | (with_reducible refine Kd.C_drewN ?_ _) | (with_reducible refine Kd.C_drew ?_))) | (repeat (first | exact (Kd.C_below HR423.out HB.out) | (with_reducible refine Kd.C_alloc ?_ _) | (with_reducible refine Kd.C_drewN ?_ _) | (with_reducible refine Kd.C_drew ?_)))); (case aB => exact (by repeat (first | (with_reducible first | exact HB.out | apply below_alloc | apply pw_below_drewN | apply below_drew1) | exact HB.out))); (case aF => exact (fun _ _ => trivial)); (case aO => exact (by (with_reducible repeat (first | apply Kd.R_alloc | apply Kd.R_drewN | apply Kd.R_drew)); exact HO422.out)); (case aS => exact (below_size (by repeat (first | (with_reducible first | exact HB.out | apply below_alloc | apply pw_below_drewN | apply below_drew1) | exact HB.out)))); (case aL => have := LMc9.out; have hlx_ := (show ((l0.take ((wrap64 (t418 + (wrap64 (t417)))) : Int).toNat).drop (t418 : Int).toNat).length = ((wrap64 (t418 + (wrap64 (t417)))).toNat - t418.toNat) from (by rw [List.length_drop, List.length_take]; have h_ : ((wrap64 (t418 + (wrap64 (t417)))) : Int) ≤ (l0.length : Int) := of_decide_eq_true (by assumption); omega)); omega); intro v425 w13 ho hb hg hat; rw [← Ny424.out] at ho; have n0_ := Aside0.mk (hb); have n1_ := Aside0.mk (ho); clear HB; clear HO422; have HB := n0_; have HO426 := n1_; clear n0_ n1_; clear ho hb hg hat))
        go_ret3
        exact ⟨_, by first | rfl | (simp [errW_none, errW_some] <;> rfl) | (simp [*, errW_none, errW_some] <;> rfl), by (with_reducible repeat (first | apply Kd.R_alloc | apply Kd.R_drewN | apply Kd.R_drew)); exact HO426.out, by repeat (first | (with_reducible first | exact HB.out | apply below_alloc | apply pw_below_drewN | apply below_drew1) | exact HB.out)⟩
       ·rw [if_neg c9] at H
        exact absurd H (by simp)
      ·rw [if_neg c8] at H
       exact absurd H (by simp)
     ·rw [if_neg c7] at H
      exact absurd H (by simp)
    ·rw [if_neg c6] at H
     exact absurd H (by simp)
 ·rw [if_neg c3] at H
  have c3b0 : (t419 == 0) = false := beq_eq_false_iff_ne.mpr c3
  have c3b1 : (t419 != 0) = true := bne_iff_ne.mpr c3
  simp only [Option.some.injEq, Prod.mk.injEq] at H
  obtain ⟨rfl, rfl, rfl⟩ := H
  go_enter Tryd.func57, Tryd.ntmps57
  go_wp2_with (first | ((with_reducible refine gate_callee (f := 55) rfl ?_); refine goesL_ (some 10) rfl rfl Tryd.func55 (by kernel_rfl) rfl #[.slice A0 l0.length c0] rfl (by (try simp only [List.map_toArray, List.map_cons, List.map_nil]); first | done | rfl | (simp only [List.length_drop, List.length_take]; rfl)) ?_; (with_reducible refine (antipoderef1_TakeVar.calls k _ _ l0 t417 t418 t419 _ ?side1 ?side2 A2.out).mono ?_); (case side1 => repeat (first | exact HR0.out | (with_reducible refine Kd.C_alloc ?_ _) | (with_reducible refine Kd.C_drewN ?_ _) | (with_reducible refine Kd.C_drew ?_))); (case side2 => exact HC0.out); rintro e w' ⟨rfl, ⟨nd, rfl⟩⟩; refine ⟨_, rfl, ?_⟩))
  go_ret3
  exact ⟨_, by first | rfl | (simp [errW_none, errW_some] <;> rfl) | (simp [*, errW_none, errW_some] <;> rfl), by first | exact Kd.R_nil _ _ _ _ _ | exact Kd.N_nil _ _ _ _ _ | exact Kd.V_nil _ _ _ _ _ | exact Kd.Q_nil _ _ _ _ _ | exact Kd.S_nil _ _ _ _ _, by repeat (first | (with_reducible first | exact HB.out | apply below_alloc | apply pw_below_drewN | apply below_drew1) | exact HB.out)⟩

end Go.Proofs.YtcflmkklpehmmaaDoor.PL
