/- What part 5 of the texts under treeDeep_holds proves: contracts of functions of this seat, and plain facts about what they compute. Conditions: those that each theorem names. -/
import Derived.Test.YtlpnlfahlcingaaGreatDoorTD4
import Derived.RegionTactic
section
namespace Go.Proofs.YtlpnlfahlcingaaGreatDoor.PL
open Go.RowKit Go.Proofs.YtlpnlfahlcingaaGreatDoorW.PrintWords Go.Proofs.YtlpnlfahlcingaaGreatDoorW.PrintLast Go.Proofs.YtlpnlfahlcingaaGreatDoorW.PrintMore
attribute [local go_sem] max2_int min2_int max_two min_two max_three min_three max_four min_four
attribute [local go_sem ↓] isSome_setCell
set_option linter.unusedVariables false
set_option linter.unusedSimpArgs false
def lex_Lex.l0 : Nat → ByteArray → List (S75) → Int → Option ((List (S75)) × Int)
 | 0, _, _, _ => none
 | k + 1, x0, x4, x5 => if x5 < (x0.size : Int) then (if 0 ≤ x5 then (if x5 ≤ (x0.size : Int) then ((lex_token.f k (x0.extract (x5 : Int).toNat x0.size)).bind fun bt142 => (if bt142.2.2.2.2.2 = 0 then (if bt142.1 = 0 then (lex_Lex.l0 k x0 x4 (wrap64 (x5 + bt142.2.2.2.2.1))) else (if x4.length < 3518437208883 then (lex_Lex.l0 k x0 (x4 ++ [(⟨bt142.1, x5, bt142.2.2.1, bt142.2.2.2.1⟩ : S75)]) (wrap64 (x5 + bt142.2.2.2.2.1))) else (none))) else (some (([] : List (S75)), bt142.2.2.2.2.2)))) else (none)) else (none)) else (if x4.length < 3518437208883 then (some ((x4 ++ [(⟨0, (x0.size : Int), (⟨#[]⟩ : ByteArray), 0⟩ : S75)]), 0)) else (none))
def lex_Lex.f (k : Nat) (a0 : ByteArray) : Option ((List (S75)) × Int) := if (a0.size : Int) > 2000 then (some (([] : List (S75)), 3)) else (lex_Lex.l0 k a0 ([] : List (S75)) 0)
theorem lex_Lex.mono_l : ∀ k, (∀ y0 y1 y2, LeO (lex_Lex.l0 k y0 y1 y2) (lex_Lex.l0 (k + 1) y0 y1 y2))
 | 0 => fun _ _ _ r h => by simp [lex_Lex.l0] at h
 | k + 1 => by
  have ih0 := lex_Lex.mono_l k
  ·intro y0 y1 y2
   unfold lex_Lex.l0
   repeat' first
   | (with_reducible exact ih0 _ _ _)
   | (with_reducible exact lex_token.mono _ _)
   | (with_reducible exact LeO.refl _)
   | (with_reducible exact LeO.none _)
   | (with_reducible refine LeO.ite ?_ ?_)
   | (with_reducible refine LeO.bind ?_ (fun _ => ?_))
   | exact ih0 _ _ _
   | exact lex_token.mono _ _
   | exact LeO.none _
   | refine LeO.ite ?_ ?_
   | refine LeO.bind ?_ (fun _ => ?_)
theorem lex_Lex.mono : ∀ a0 k, LeO (lex_Lex.f k a0) (lex_Lex.f (k + 1) a0) := by
 intro a0 k
 have ih0 := lex_Lex.mono_l k
 unfold lex_Lex.f
 repeat' first
   | (with_reducible exact ih0 _ _ _)
   | (with_reducible exact lex_token.mono _ _)
   | (with_reducible exact LeO.refl _)
   | (with_reducible exact LeO.none _)
   | (with_reducible refine LeO.ite ?_ ?_)
   | (with_reducible refine LeO.bind ?_ (fun _ => ?_))
   | exact ih0 _ _ _
   | exact lex_token.mono _ _
   | exact LeO.none _
   | refine LeO.ite ?_ ?_
   | refine LeO.bind ?_ (fun _ => ?_)
set_option maxHeartbeats 8000000 in
set_option maxRecDepth 100000 in
theorem lex_Lex.calls (k : Nat) (a0 : ByteArray) (r1 : List (S75)) (r2 : Int) (w : World) (h : lex_Lex.f k a0 = some (r1, r2)) :
  Calls Tryz.prog 22 #[.string a0] w fun e w' => ∃ v0_ : Value, e = .returned (.tuple #[v0_, .int .i64 r2]) ∧ Kd.R k75 75 w' w.heap.size (fun _ => True) v0_ r1 ∧ Below w.heap.size w w' := by
 have hu75 := Tryz.underlying75
 have HB := Aside0.mk (Below.refl w.heap.size w)
 have H : (if (a0.size : Int) > 2000 then (some (([] : List (S75)), 3)) else (lex_Lex.l0 k a0 ([] : List (S75)) 0)) = some (r1, r2) := h
 clear h
 by_cases c2 : (a0.size : Int) > 2000
 ·rw [if_pos c2] at H
  have c2b0 : decide (2000 < (a0.size : Int)) = true := decide_eq_true c2
  have c2b1 : decide (2000 < a0.size) = true := decide_eq_true (by omega)
  clear c2
  simp only [Option.some.injEq, Prod.mk.injEq] at H
  obtain ⟨rfl, rfl⟩ := H
  go_enter Tryz.func22, Tryz.ntmps22
  go_wp2
  go_ret2
  exact ⟨_, er, by first | exact Kd.R_nil _ _ _ _ _ | exact Kd.N_nil _ _ _ _ _ | exact Kd.V_nil _ _ _ _ _ | exact Kd.Q_nil _ _ _ _ _ | exact Kd.S_nil _ _ _ _ _, bl⟩
 ·rw [if_neg c2] at H
  have c2b0 : decide (2000 < (a0.size : Int)) = false := decide_eq_false c2
  have c2b1 : decide (2000 < a0.size) = false := decide_eq_false (by omega)
  clear c2
  have H' := Aside0.mk H
  clear H
  go_enter Tryz.func22, Tryz.ntmps22
  go_wp2
  go_loopg [4, 5] k (fun kq v4 v5 w' => ∃ (x4_1 : List (S75)) (x5_1 : Int), v5 = .int .i64 x5_1 ∧ Aside0 (lex_Lex.l0 kq a0 x4_1 x5_1 = some (r1, r2)) ∧ Aside0 (kq ≤ k) ∧ Aside0 (Kd.R k75 75 w' w.heap.size (fun _ => True) v4 x4_1) ∧ Aside0 (Below w.heap.size w w'))
  case atStart => exact ⟨(([] : List (S75))), (0), rs, H', ⟨Nat.le_refl _⟩, ⟨by first | exact Kd.R_nil _ _ _ _ _ | exact Kd.N_nil _ _ _ _ _ | exact Kd.V_nil _ _ _ _ _ | exact Kd.Q_nil _ _ _ _ _ | exact Kd.S_nil _ _ _ _ _⟩, ⟨bl⟩⟩
  case round =>
   clear H'
   try clear c2
   try clear c2b0
   try clear c2b1
   obtain ⟨x4_1, x5_1, rfl, HA, HK1, HO_4, HB⟩ := hrel
   cases gk with
   | zero => exact absurd HA.out (by simp [lex_Lex.l0])
   | succ k1 =>
    have H := HA.out
    clear HA
    simp only [lex_Lex.l0] at H
    by_cases c3 : x5_1 < (a0.size : Int)
    ·rw [if_pos c3] at H
     have c3b0 : decide (x5_1 < (a0.size : Int)) = true := decide_eq_true c3
     clear c3
     by_cases c4 : 0 ≤ x5_1
     ·rw [if_pos c4] at H
      have c4b0 := eq_true c4
      have c4b1 : decide (0 ≤ x5_1) = true := decide_eq_true c4
      clear c4
      by_cases c5 : x5_1 ≤ (a0.size : Int)
      ·rw [if_pos c5] at H
       have c5b0 := eq_true c5
       have c5b1 : decide (x5_1 ≤ (a0.size : Int)) = true := decide_eq_true c5
       clear c5
       obtain ⟨⟨t142, t143, t144, t145, t146, t147⟩, A60, H⟩ := bind_out H
       have A6 := Aside0.mk A60
       clear A60
       by_cases c7 : t147 = 0
       ·rw [if_pos c7] at H
        have c7b0 : (t147 == 0) = true := beq_iff_eq.mpr c7
        have c7b1 : (t147 != 0) = false := bne_eq_false_iff_eq.mpr c7
        clear c7
        by_cases c8 : t142 = 0
        ·rw [if_pos c8] at H
         have c8b0 : (t142 == 0) = true := beq_iff_eq.mpr c8
         have c8b1 : (t142 != 0) = false := bne_eq_false_iff_eq.mpr c8
         clear c8
         have H' := Aside0.mk H
         clear H
         go_wp2_with (first | ((with_reducible refine gate_callee (f := 35) rfl ?_); refine goesL_ (some 20) rfl rfl Tryz.func35 (by kernel_rfl) rfl #[.string (a0.extract (x5_1 : Int).toNat a0.size)] rfl mp ?_; (with_reducible refine (lex_token.calls k1 (a0.extract (x5_1 : Int).toNat a0.size) t142 t143 t144 t145 t146 t147 _ A6.out).mono ?_); rintro e w9 ⟨rfl, hb⟩; refine ⟨_, rfl, ?_⟩; replace HO_4 := Aside0.mk (Kd.R_below (by (with_reducible repeat (first | apply Kd.R_alloc | apply Kd.R_drewN | apply Kd.R_drew)); exact HO_4.out) hb); replace HB := Aside0.mk (below_step bl hb); (try clear hb); (try clear hk)) | ((with_reducible refine gate_dst (N := 6) rfl ?_); refine box_event ?hg (N := 6) ?hd (cs := #[.int .i64 0, .int .i64 0, .string (⟨#[]⟩ : ByteArray), .int .i64 0]) (t := 75) ?hr ?_; (case hd => rfl); (case hg => rfl); (case hr => first | (go_simp; done) | (go_simp; rfl)); intro gb148 hg w10 hbox hb; have BK148 := Aside0.mk (hbox); have GW148 := Aside0.mk (gsz hg bl : w.heap.size ≤ gb148); have GE148 := Aside0.mk (gsz hg bl : w.heap.size ≤ gb148); replace HO_4 := Aside0.mk (Kd.R_below (Kd.R_elderB (by (with_reducible repeat (first | apply Kd.R_alloc | apply Kd.R_drewN | apply Kd.R_drew)); exact HO_4.out) gb148 (Nat.le_of_eq hg.symm)) hb); replace HB := Aside0.mk (below_step bl hb); clear hb hbox hg; obtain ⟨hcz11_0, hcz11_1, hcz11_2, hcz11_3⟩ := cells4 BK148.out; obtain ⟨hfz11_0, hfz11_1, hfz11_2, hfz11_3⟩ := froz4 BK148.out))
         go_roundg k1
         case measure => have := HK1.out; omega
         case rel => exact ⟨(x4_1), (wrap64 (x5_1 + t146)), rs, H', ⟨by have := HK1.out; omega⟩, ⟨by (with_reducible repeat (first | apply Kd.R_alloc | apply Kd.R_drewN | apply Kd.R_drew)); exact Kd.R_mono (Kd.R_far (p := ⟨gb148, 3, none⟩) (Kd.R_far (p := ⟨gb148, 2, none⟩) (Kd.R_far (p := ⟨gb148, 1, none⟩) (Kd.R_far (p := ⟨gb148, 0, none⟩) (Kd.R_mono HO_4.out (fun k_ hk => (⟨hk, hk.2⟩ : _ ∧ k_ ≠ gb148))) (fun _ hk => hk.2) (.int .i64 t142)) (fun _ hk => hk.2) (.int .i64 t143)) (fun _ hk => hk.2) (.string t144)) (fun _ hk => hk.2) (.int .i64 t145)) (fun _ hk => trivial)⟩, ⟨bl⟩⟩
        ·rw [if_neg c8] at H
         have c8b0 : (t142 == 0) = false := beq_eq_false_iff_ne.mpr c8
         have c8b1 : (t142 != 0) = true := bne_iff_ne.mpr c8
         by_cases c12 : x4_1.length < 3518437208883
         ·rw [if_pos c12] at H
          have LMc12 := Aside0.mk c12
          clear c12
          obtain ⟨y149, hy149⟩ : ∃ y_ : List (S75), y_ = (x4_1 ++ [(⟨t142, x5_1, t144, t145⟩ : S75)]) := ⟨_, rfl⟩
          replace H : (lex_Lex.l0 k1 a0 y149 (wrap64 (x5_1 + t146))) = some (r1, r2) := by first | (rw [hy149]; with_reducible exact H) | (have H2_ := (Option.bind_some _ _).symm.trans H; rw [hy149]; with_reducible exact H2_) | (have H2_ := (Option.bind_some _ _).symm.trans H; with_reducible exact H2_) | with_reducible exact H | (rw [hy149]; exact H) | exact H
          have Ny149 := Aside0.mk hy149
          clear hy149
          have H' := Aside0.mk H
          clear H
          go_wp2_with (first | ((with_reducible refine gate_callee (f := 35) rfl ?_); refine goesL_ (some 20) rfl rfl Tryz.func35 (by kernel_rfl) rfl #[.string (a0.extract (x5_1 : Int).toNat a0.size)] rfl mp ?_; (with_reducible refine (lex_token.calls k1 (a0.extract (x5_1 : Int).toNat a0.size) t142 t143 t144 t145 t146 t147 _ A6.out).mono ?_); rintro e w13 ⟨rfl, hb⟩; refine ⟨_, rfl, ?_⟩; replace HO_4 := Aside0.mk (Kd.R_below (by (with_reducible repeat (first | apply Kd.R_alloc | apply Kd.R_drewN | apply Kd.R_drew)); exact HO_4.out) hb); replace HB := Aside0.mk (below_step bl hb); (try clear hb); (try clear hk)) | ((with_reducible refine gate_dst (N := 6) rfl ?_); refine box_event ?hg (N := 6) ?hd (cs := #[.int .i64 0, .int .i64 0, .string (⟨#[]⟩ : ByteArray), .int .i64 0]) (t := 75) ?hr ?_; (case hd => rfl); (case hg => rfl); (case hr => first | (go_simp; done) | (go_simp; rfl)); intro gb148 hg w14 hbox hb; have BK148 := Aside0.mk (hbox); have GW148 := Aside0.mk (gsz hg bl : w.heap.size ≤ gb148); have GE148 := Aside0.mk (gsz hg bl : w.heap.size ≤ gb148); replace HO_4 := Aside0.mk (Kd.R_below (Kd.R_elderB (by (with_reducible repeat (first | apply Kd.R_alloc | apply Kd.R_drewN | apply Kd.R_drew)); exact HO_4.out) gb148 (Nat.le_of_eq hg.symm)) hb); replace HB := Aside0.mk (below_step bl hb); clear hb hbox hg; obtain ⟨hcz15_0, hcz15_1, hcz15_2, hcz15_3⟩ := cells4 BK148.out; obtain ⟨hfz15_0, hfz15_1, hfz15_2, hfz15_3⟩ := froz4 BK148.out) | ((with_reducible refine gate_builtin (b := .append) (xs := #[.tmp 32, .tmp 34]) rfl ?_); at_builtin; refine Kd.R_append k75 (w0 := w) w.heap.size rfl (.tmp 32) (.tmp 34) 53 75 (.agg #[(.int .i64 0), (.int .i64 0), (.string ⟨#[]⟩), (.int .i64 0)]) 40 rfl Tryz.underlying53 info75 rfl (by decide) (by omega) u4 x4_1 (⟨t142, x5_1, t144, t145⟩ : S75) [.int .i64 t142, .int .i64 x5_1, .string t144, .int .i64 t145] (fun k_ => k_ ≠ gb148) (fun _ => False) rfl (by first | (go_simp; done) | (go_simp; rfl)) ?aP (fun _ hk => hk.elim) ?aF ?aO ?aB ?aS ?aL ?_; (case aP => exact k75_mkM _ _ _ (⟨t142, x5_1, t144, t145⟩ : S75)); (case aB => exact bl); (case aF => exact (fun k_ hk => Kd.freshB (g := gb148) (o := .cells #[.int .i64 t142, .int .i64 x5_1, .string t144, .int .i64 t145] 75 (0, 0)) (by (with_reducible repeat (first | refine blk_drewN ?_ _ | refine blk_drew ?_ | refine blk_alloc ?_ _)); refine blk_put (cs := #[.int .i64 t142, .int .i64 t143, .string t144, .int .i64 t145]) ?_ 1 _ rfl; (with_reducible repeat (first | refine blk_drewN ?_ _ | refine blk_drew ?_ | refine blk_alloc ?_ _)); refine blk_put (cs := #[.int .i64 t142, .int .i64 t143, .string t144, .int .i64 0]) ?_ 3 _ rfl; (with_reducible repeat (first | refine blk_drewN ?_ _ | refine blk_drew ?_ | refine blk_alloc ?_ _)); refine blk_put (cs := #[.int .i64 t142, .int .i64 t143, .string (⟨#[]⟩ : ByteArray), .int .i64 0]) ?_ 2 _ rfl; (with_reducible repeat (first | refine blk_drewN ?_ _ | refine blk_drew ?_ | refine blk_alloc ?_ _)); refine blk_put (cs := #[.int .i64 t142, .int .i64 0, .string (⟨#[]⟩ : ByteArray), .int .i64 0]) ?_ 1 _ rfl; (with_reducible repeat (first | refine blk_drewN ?_ _ | refine blk_drew ?_ | refine blk_alloc ?_ _)); refine blk_put (cs := #[.int .i64 0, .int .i64 0, .string (⟨#[]⟩ : ByteArray), .int .i64 0]) ?_ 0 _ rfl; (with_reducible repeat (first | refine blk_drewN ?_ _ | refine blk_drew ?_ | refine blk_alloc ?_ _)); exact BK148.out) k_ hk)); (case aO => exact (by (with_reducible repeat (first | apply Kd.R_alloc | apply Kd.R_drewN | apply Kd.R_drew)); exact Kd.R_mono (Kd.R_far (p := ⟨gb148, 1, none⟩) (Kd.R_far (p := ⟨gb148, 3, none⟩) (Kd.R_far (p := ⟨gb148, 2, none⟩) (Kd.R_far (p := ⟨gb148, 1, none⟩) (Kd.R_far (p := ⟨gb148, 0, none⟩) (Kd.R_mono HO_4.out (fun k_ hk => (⟨hk, hk.2⟩ : _ ∧ k_ ≠ gb148))) (fun _ hk => hk.2) (.int .i64 t142)) (fun _ hk => hk.2) (.int .i64 t143)) (fun _ hk => hk.2) (.string t144)) (fun _ hk => hk.2) (.int .i64 t145)) (fun _ hk => hk.2) (.int .i64 x5_1)) (fun _ hk => hk.1.2))); (case aS => exact (below_size bl)); (case aL => have := LMc12.out; omega); intro v150 w16 ho hb hg hat; rw [← Ny149.out] at ho; have HO151 := Aside0.mk (ho); replace BK148 := Aside0.mk (blk_grown (g := gb148) (o := .cells #[.int .i64 t142, .int .i64 x5_1, .string t144, .int .i64 t145] 75 (0, 0)) (by (with_reducible repeat (first | refine blk_drewN ?_ _ | refine blk_drew ?_ | refine blk_alloc ?_ _)); refine blk_put (cs := #[.int .i64 t142, .int .i64 t143, .string t144, .int .i64 t145]) ?_ 1 _ rfl; (with_reducible repeat (first | refine blk_drewN ?_ _ | refine blk_drew ?_ | refine blk_alloc ?_ _)); refine blk_put (cs := #[.int .i64 t142, .int .i64 t143, .string t144, .int .i64 0]) ?_ 3 _ rfl; (with_reducible repeat (first | refine blk_drewN ?_ _ | refine blk_drew ?_ | refine blk_alloc ?_ _)); refine blk_put (cs := #[.int .i64 t142, .int .i64 t143, .string (⟨#[]⟩ : ByteArray), .int .i64 0]) ?_ 2 _ rfl; (with_reducible repeat (first | refine blk_drewN ?_ _ | refine blk_drew ?_ | refine blk_alloc ?_ _)); refine blk_put (cs := #[.int .i64 t142, .int .i64 0, .string (⟨#[]⟩ : ByteArray), .int .i64 0]) ?_ 1 _ rfl; (with_reducible repeat (first | refine blk_drewN ?_ _ | refine blk_drew ?_ | refine blk_alloc ?_ _)); refine blk_put (cs := #[.int .i64 0, .int .i64 0, .string (⟨#[]⟩ : ByteArray), .int .i64 0]) ?_ 0 _ rfl; (with_reducible repeat (first | refine blk_drewN ?_ _ | refine blk_drew ?_ | refine blk_alloc ?_ _)); exact BK148.out) hg (Kd.R_away HO_4.out (fun _ hk => hk.2))); replace HB := Aside0.mk (hb); clear ho hb hg hat))
          go_roundg k1
          case measure => have := HK1.out; omega
          case rel => exact ⟨(y149), (wrap64 (x5_1 + t146)), rs, H', ⟨by have := HK1.out; omega⟩, ⟨by (with_reducible repeat (first | apply Kd.R_alloc | apply Kd.R_drewN | apply Kd.R_drew)); exact Kd.R_mono HO151.out (fun _ hk => trivial)⟩, ⟨bl⟩⟩
         ·rw [if_neg c12] at H
          exact absurd H (by simp)
       ·rw [if_neg c7] at H
        have c7b0 : (t147 == 0) = false := beq_eq_false_iff_ne.mpr c7
        have c7b1 : (t147 != 0) = true := bne_iff_ne.mpr c7
        simp only [Option.some.injEq, Prod.mk.injEq] at H
        obtain ⟨rfl, rfl⟩ := H
        go_wp2_with (first | ((with_reducible refine gate_callee (f := 35) rfl ?_); refine goesL_ (some 20) rfl rfl Tryz.func35 (by kernel_rfl) rfl #[.string (a0.extract (x5_1 : Int).toNat a0.size)] rfl mp ?_; (with_reducible refine (lex_token.calls k1 (a0.extract (x5_1 : Int).toNat a0.size) t142 t143 t144 t145 t146 t147 _ A6.out).mono ?_); rintro e w17 ⟨rfl, hb⟩; refine ⟨_, rfl, ?_⟩; replace HO_4 := Aside0.mk (Kd.R_below (by (with_reducible repeat (first | apply Kd.R_alloc | apply Kd.R_drewN | apply Kd.R_drew)); exact HO_4.out) hb); replace HB := Aside0.mk (below_step bl hb); (try clear hb); (try clear hk)) | ((with_reducible refine gate_dst (N := 6) rfl ?_); refine box_event ?hg (N := 6) ?hd (cs := #[.int .i64 0, .int .i64 0, .string (⟨#[]⟩ : ByteArray), .int .i64 0]) (t := 75) ?hr ?_; (case hd => rfl); (case hg => rfl); (case hr => first | (go_simp; done) | (go_simp; rfl)); intro gb148 hg w18 hbox hb; have BK148 := Aside0.mk (hbox); have GW148 := Aside0.mk (gsz hg bl : w.heap.size ≤ gb148); have GE148 := Aside0.mk (gsz hg bl : w.heap.size ≤ gb148); replace HO_4 := Aside0.mk (Kd.R_below (Kd.R_elderB (by (with_reducible repeat (first | apply Kd.R_alloc | apply Kd.R_drewN | apply Kd.R_drew)); exact HO_4.out) gb148 (Nat.le_of_eq hg.symm)) hb); replace HB := Aside0.mk (below_step bl hb); clear hb hbox hg; obtain ⟨hcz19_0, hcz19_1, hcz19_2, hcz19_3⟩ := cells4 BK148.out; obtain ⟨hfz19_0, hfz19_1, hfz19_2, hfz19_3⟩ := froz4 BK148.out))
        go_ret2
        exact ⟨_, er, by first | exact Kd.R_nil _ _ _ _ _ | exact Kd.N_nil _ _ _ _ _ | exact Kd.V_nil _ _ _ _ _ | exact Kd.Q_nil _ _ _ _ _ | exact Kd.S_nil _ _ _ _ _, bl⟩
      ·rw [if_neg c5] at H
       exact absurd H (by simp)
     ·rw [if_neg c4] at H
      exact absurd H (by simp)
    ·rw [if_neg c3] at H
     have c3b0 : decide (x5_1 < (a0.size : Int)) = false := decide_eq_false c3
     clear c3
     by_cases c20 : x4_1.length < 3518437208883
     ·rw [if_pos c20] at H
      have LMc20 := Aside0.mk c20
      clear c20
      obtain ⟨y139, hy139⟩ : ∃ y_ : List (S75), y_ = (x4_1 ++ [(⟨0, (a0.size : Int), (⟨#[]⟩ : ByteArray), 0⟩ : S75)]) := ⟨_, rfl⟩
      replace H : (some (y139, 0)) = some (r1, r2) := by first | (rw [hy139]; with_reducible exact H) | (have H2_ := (Option.bind_some _ _).symm.trans H; rw [hy139]; with_reducible exact H2_) | (have H2_ := (Option.bind_some _ _).symm.trans H; with_reducible exact H2_) | with_reducible exact H | (rw [hy139]; exact H) | exact H
      have Ny139 := Aside0.mk hy139
      clear hy139
      simp only [Option.some.injEq, Prod.mk.injEq] at H
      obtain ⟨rfl, rfl⟩ := H
      go_wp2_with (first | ((with_reducible refine gate_builtin (b := .append) (xs := #[.tmp 39, .tmp 43]) rfl ?_); at_builtin; refine Kd.R_append k75 (w0 := w) w.heap.size rfl (.tmp 39) (.tmp 43) 53 75 (.agg #[(.int .i64 0), (.int .i64 0), (.string ⟨#[]⟩), (.int .i64 0)]) 40 rfl Tryz.underlying53 info75 rfl (by decide) (by omega) u4 x4_1 (⟨0, (a0.size : Int), (⟨#[]⟩ : ByteArray), 0⟩ : S75) [.int .i64 0, .int .i64 (a0.size : Int), .string (⟨#[]⟩ : ByteArray), .int .i64 0] (fun _ => True) (fun _ => False) rfl rfl ?aP (fun _ hk => hk.elim) ?aF ?aO ?aB ?aS ?aL ?_; (case aP => exact k75_mkM _ _ _ (⟨0, (a0.size : Int), (⟨#[]⟩ : ByteArray), 0⟩ : S75)); (case aB => exact bl); (case aF => exact (fun _ _ => trivial)); (case aO => exact (by (with_reducible repeat (first | apply Kd.R_alloc | apply Kd.R_drewN | apply Kd.R_drew)); exact HO_4.out)); (case aS => exact (below_size bl)); (case aL => have := LMc20.out; omega); intro v140 w21 ho hb hg hat; rw [← Ny139.out] at ho; have HO141 := Aside0.mk (ho); replace HB := Aside0.mk (hb); clear ho hb hg hat))
      go_ret2
      exact ⟨_, er, by (with_reducible repeat (first | apply Kd.R_alloc | apply Kd.R_drewN | apply Kd.R_drew)); exact HO141.out, bl⟩
     ·rw [if_neg c20] at H
      exact absurd H (by simp)
end Go.Proofs.YtlpnlfahlcingaaGreatDoor.PL
end
section
namespace Go.Proofs.YtlpnlfahlcingaaGreatDoor.PL
open Go.RowKit Go.Proofs.YtlpnlfahlcingaaGreatDoorW.PrintWords Go.Proofs.YtlpnlfahlcingaaGreatDoorW.PrintLast Go.Proofs.YtlpnlfahlcingaaGreatDoorW.PrintMore
set_option linter.unusedVariables false
set_option linter.unusedSimpArgs false
attribute [local go_sem] World.cell?_alloc_some
attribute [local go_sem ↓] isSome_setCell
def teB (T : List Tok) : Bool := match T.getLast? with | none => true | some t => !(t.f0 == 1 || (t.f0 == 2 || (t.f0 == 3 || t.f0 == 4)))
theorem te_of {T : List Tok} (h : teB T = true) : TE T := by
  intro k hk hkd
  refine Nat.lt_of_not_le fun hle => ?_
  have hl : T.getLast? = some (tokAt T k) := by
    rw [List.getLast?_eq_getElem?, show T.length - 1 = k by omega]
    unfold tokAt
    rw [List.getElem?_eq_getElem hk, List.getD_eq_getElem?_getD, List.getElem?_eq_getElem hk]
    rfl
  unfold teB at h
  rw [hl] at h
  simp at h
  omega
def okT (T : List Tok) : Bool := decide (0 < T.length) && (teB T && T.all fun t => (lex_Word.f 20 t.f2).isSome)
theorem tw_of {T : List Tok} (h : (T.all fun t => (lex_Word.f 20 t.f2).isSome) = true) : TW T := by
  intro k hk
  have := List.all_eq_true.1 h (tokAt T k) (by unfold tokAt; rw [List.getD_eq_getElem?_getD, List.getElem?_eq_getElem hk]; exact List.getElem_mem hk)
  exact Option.isSome_iff_exists.1 this
def parseT (T : List Tok) : Option (LotV × Int × Int) :=
  if okT T = true then
    match lotR T 3000 3000 0 0 with
    | none => none
    | some (.ok l _) => some (l, 0, 0)
    | some (.bad p x) => some (⟨0, 0, []⟩, p, x)
  else none
def parseF (nl : Nat) (s : ByteArray) : Option (LotV × Int × Int) :=
  match lex_Lex.f nl s with
  | none => none
  | some (T, e) => if e = 0 then parseT T else some (⟨0, 0, []⟩, 0, e)
theorem results_10 (tmps : Array Value) (w : World) (g2 g3 g4 : Nat) (cs : Array Value) (i3 i4 : Int) (hcs : cs.size = 3)
    (h2 : tmps.getD 2 undef = .pointer (some ⟨g2, 0, none⟩)) (h3 : tmps.getD 3 undef = .pointer (some ⟨g3, 0, none⟩)) (h4 : tmps.getD 4 undef = .pointer (some ⟨g4, 0, none⟩))
    (b2 : w.heap[g2]? = some (.cells cs 25 (0, 0))) (b3 : w.heap[g3]? = some (.cells #[.int .i64 i3] 3 (0, 0))) (b4 : w.heap[g4]? = some (.cells #[.int .i64 i4] 26 (0, 0))) :
    (results Tryz.f10 tmps).run Tryz.prog w = .ok (.tuple #[.agg cs, .int .i64 i3, .int .i64 i4]) w := by
  have h2' : tmps[2]?.getD undef = .pointer (some ⟨g2, 0, none⟩) := by simpa using h2
  have h3' : tmps[3]?.getD undef = .pointer (some ⟨g3, 0, none⟩) := by simpa using h3
  have h4' : tmps[4]?.getD undef = .pointer (some ⟨g4, 0, none⟩) := by simpa using h4
  have c3 := (blk_cell b3 0).trans rfl
  have c4 := (blk_cell b4 0).trans rfl
  simp at c3 c4
  obtain ⟨a0, a1, a2, rfl⟩ : ∃ a0 a1 a2, cs = #[a0, a1, a2] := by
    obtain ⟨l⟩ := cs
    match l, hcs with
    | [a, b, c], _ => exact ⟨a, b, c, rfl⟩
  have q0 := (blk_cell b2 0).trans rfl
  have q1 := (blk_cell b2 1).trans rfl
  have q2 := (blk_cell b2 2).trans rfl
  simp at q0 q1 q2
  simp [results, Tryz.results10, h2', h3', h4', asAddr, go_sem, c3, c4, q0, q1, q2]
theorem PS.start {w6 : World} {T : List Tok} {A5 : Option Addr} {c5 base : Nat} (hR : Kd.R k75 75 w6 base (fun _ => True) (.slice A5 T.length c5) T) (h0 : 0 < T.length) (hsh : Sh w6) (h2 : 2 ≤ base) :
    ∃ gt, A5 = some ⟨gt, 0, none⟩ ∧ base ≤ gt ∧ gt < w6.heap.size ∧ PS (w6.alloc (.cells #[.slice A5 T.length c5, .int .i64 0] 60 (0, 0))) w6.heap.size gt T c5 0 0 := by
  obtain ⟨inner, ho⟩ := Kd.R_own hR
  obtain ⟨A, c, he, hle, hC⟩ := Kd.R_reads hR
  injection he with e1 e2 e3
  subst e1 e3
  rcases ho.2 with ⟨_, hn⟩ | ⟨g, cap, cur, he, hg, hh, hn, hm, hsz, htk⟩
  · omega
  · injection he with e1 e2 e3
    subst e1 e3
    have hlt := blk_lt hh
    have hT : ToksAt w6 g T := by
      refine ⟨cur, hh, fun i t ht => ?_⟩
      have hi := (List.getElem?_eq_some_iff.1 ht).1
      obtain ⟨ad, ha, h0, h1, h2, h3⟩ := at_T75 hC (i : Int) (by omega) (by omega)
      injection ha with ha
      subst ha
      have hrd : rd_T75 T (i : Int) = t := by
        unfold rd_T75
        rw [Int.toNat_natCast, List.getD_eq_getElem?_getD, ht]
        rfl
      rw [hrd] at h0 h1 h2 h3
      have ea : ((⟨g, 0, none⟩ : Addr).add (i * 4)) = ⟨g, i * 4, none⟩ := by unfold Addr.add; split <;> simp_all
      rw [Int.toNat_natCast, ea, Nat.mul_comm] at h0 h1 h2 h3
      dsimp only at h0 h1 h2 h3
      rw [blk_cell hh] at h0 h1 h2 h3
      exact ⟨h0, h1, h2, h3⟩
    refine ⟨g, rfl, hg, hlt, ⟨blk_new _ _, hT.stay (Below.stay (below_alloc (Below.refl _ _) _) w6.heap.size) (by omega), by omega, hle, Nat.zero_le _, h0, by omega, by omega, by omega, hsh.below (below_alloc (Below.refl _ _) _)⟩⟩
theorem PostL.or {w w' : World} {gp gt : Nat} {r : Rd LotV} {e : Ending} (h : PostL w gp gt r e w') :
    (∃ p x, r = .bad p x ∧ e = .panicked [{ v := failV p x, recovered := false }] ∧ Stay gp w w') ∨
    (∃ l k A c, r = .ok l k ∧ e = .returned (.agg #[.int .i64 l.md, .int .i64 l.n, .slice A l.st.length c]) ∧ RA k44 w' (Fr w) (.slice A l.st.length c) l.st ∧ Stay gp w w') := by
  cases r with
  | bad p x => exact .inl ⟨p, x, rfl, h.1, h.2⟩
  | ok l k =>
    obtain ⟨v, he, h1, h2⟩ := h
    obtain ⟨A, c, rfl, hl, hC⟩ := h1
    exact .inr ⟨l, k, A, c, rfl, he, ⟨A, c, rfl, hl, hC⟩, h2⟩
theorem below_stay {w w7 w8 : World} {gp : Nat} (h : Below w.heap.size w w7) (hs : Stay gp w7 w8) (hg : w.heap.size ≤ gp) : Below w.heap.size w w8 :=
  ⟨hs.os.trans h.os, hs.tape.trans h.tape, hs.output.trans h.output, Nat.le_trans h.size hs.size, fun k hk => (hs.block k (Nat.lt_of_lt_of_le hk h.size) (by omega)).trans (h.block k hk)⟩
theorem below_stay3 {w w7 w8 : World} {g2 g3 g4 : Nat} (h : Below w.heap.size w w7) (hs : Stay3 g2 g3 g4 w7 w8) (h2 : w.heap.size ≤ g2) (h3 : w.heap.size ≤ g3) (h4 : w.heap.size ≤ g4) : Below w.heap.size w w8 :=
  ⟨hs.os.trans h.os, hs.tape.trans h.tape, hs.output.trans h.output, Nat.le_trans h.size hs.size, fun k hk => (hs.block k (Nat.lt_of_lt_of_le hk h.size) (by omega) (by omega) (by omega)).trans (h.block k hk)⟩
def PostP (w : World) (r : LotV × Int × Int) (e : Ending) (w' : World) : Prop :=
  ∃ v, e = .returned (.tuple #[.agg (lC r.1.md r.1.n v), .int .i64 r.2.1, .int .i64 r.2.2]) ∧ RA k44 w' (Fr w) v r.1.st ∧ Below w.heap.size w w'
set_option maxHeartbeats 16000000 in
set_option maxRecDepth 100000 in
theorem parse_calls {w : World} (hsh : Sh w) (nl : Nat) (s : ByteArray) (r : LotV × Int × Int) (hr : parseF nl s = some r) : Calls Tryz.prog 10 #[.string s] w (PostP w r) := by
  unfold parseF at hr
  cases hl : lex_Lex.f nl s with
  | none => rw [hl] at hr; cases hr
  | some te =>
  obtain ⟨T, er⟩ := te
  rw [hl] at hr
  have HL := Aside0.mk hl
  have HM := Aside0.mk hr
  have HS := Aside0.mk hsh
  clear hl hr hsh
  have hmf : ∀ (fn : Fn) (first cap : Array Value) (w : World), (Instr.makeFunc fn first cap).run Tryz.prog w = .ok (.func fn first cap) w := fun _ _ _ _ => rfl
  go_enter_defers Tryz.func10, Tryz.ntmps10
  go_upto_region 1 with (fail)
  have e1 : (w.alloc (.cells zl3 25 (0, 0))).heap.size = w.heap.size + 1 := size_alloc1 _ _
  have e2 : ((w.alloc (.cells zl3 25 (0, 0))).alloc (.cells #[.int .i64 0] 3 (0, 0))).heap.size = w.heap.size + 1 + 1 := size_alloc2 _ _ _
  have q2 := blk_alloc (blk_alloc (blk_new w (.cells zl3 25 (0, 0))) (.cells #[.int .i64 0] 3 (0, 0))) (.cells #[.int .i64 0] 26 (0, 0))
  have q3 := blk_alloc (blk_new (w.alloc (.cells zl3 25 (0, 0))) (.cells #[.int .i64 0] 3 (0, 0))) (.cells #[.int .i64 0] 26 (0, 0))
  have q4 := blk_new ((w.alloc (.cells zl3 25 (0, 0))).alloc (.cells #[.int .i64 0] 3 (0, 0))) (.cells #[.int .i64 0] 26 (0, 0))
  rw [e1] at q3
  rw [e2] at q4
  obtain ⟨g2, hg2⟩ : ∃ g, w.heap.size = g := ⟨_, rfl⟩
  obtain ⟨g3, hg3⟩ : ∃ g, g2 + 1 = g := ⟨_, rfl⟩
  obtain ⟨g4, hg4⟩ : ∃ g, g3 + 1 = g := ⟨_, rfl⟩
  rw [hg2] at q2
  rw [hg2, hg3] at q3
  rw [hg2, hg3, hg4] at q4
  rw [hg2, hg3, hg4]
  have NG := Aside0.mk (show g2 ≠ g3 ∧ g2 ≠ g4 ∧ g3 ≠ g4 ∧ w.heap.size ≤ g2 ∧ w.heap.size ≤ g3 ∧ w.heap.size ≤ g4 ∧ 2 ≤ w.heap.size by have := HS.out.two; omega)
  clear hg2 hg3 hg4 e1 e2
  have Q := Aside0.mk (And.intro q2 (And.intro q3 q4))
  clear q2 q3 q4
  refine at_world (fun w1 => Aside0 (Below w.heap.size w w1 ∧ w1.heap[g2]? = some (.cells zl3 25 (0, 0)) ∧ w1.heap[g3]? = some (.cells #[.int .i64 0] 3 (0, 0)) ∧ w1.heap[g4]? = some (.cells #[.int .i64 0] 26 (0, 0)))) ⟨below_alloc (below_alloc (below_alloc (Below.refl _ _) _) _) _, Q.out.1, Q.out.2.1, Q.out.2.2⟩ (fun w1 H1 => ?_)
  clear Q
  go_upto_region 2 with (go_at_call 22; refine (lex_Lex.calls nl s T er w1 HL.out).mono ?_; rintro e w5 ⟨v0, rfl, hR, hb⟩; obtain ⟨A5, c5, rfl⟩ := Kd.R_slice hR; have H5 := Aside0.mk (And.intro hR hb); have b4 := blk_below H1.out.2.2.2 hb; have D4 := (blk_cell b4 0).trans rfl; have E4 := blk_frozen b4 0; simp at D4; clear hR hb b4)
  refine at_world (fun w6 => Aside0 (Below w.heap.size w w6 ∧ w6.heap[g2]? = some (.cells zl3 25 (0, 0)) ∧ w6.heap[g3]? = some (.cells #[.int .i64 0] 3 (0, 0)) ∧ w6.heap[g4]? = some (.cells #[.int .i64 er] 26 (0, 0)) ∧ Kd.R k75 75 w6 w1.heap.size (fun _ => True) (.slice A5 T.length c5) T ∧ w1.heap.size ≤ w6.heap.size))
    ⟨below_set (below_step H1.out.1 H5.out.2) NG.out.2.2.2.2.2.1, blk_far (blk_below H1.out.2.1 H5.out.2) NG.out.2.1 _, blk_far (blk_below H1.out.2.2.1 H5.out.2) NG.out.2.2.1 _, blk_put (blk_below H1.out.2.2.2 H5.out.2) 0 _ (by simp),
      Kd.R_mono (Kd.R_step (Kd.R_bound H5.out.1) (fun k hk _ => Below.heap_setCell _ _ _ k (by have := blk_lt H1.out.2.2.2; have := hk.2.1; dsimp only; omega))) (fun _ _ => trivial), by have := H5.out.2.size; simpa [World.setCell] using this⟩ (fun w6 H6 => ?_)
  clear D4 E4 H5
  have L1 := Aside0.mk (blk_lt H1.out.2.2.2)
  have n23 := NG.out.1
  have n24 := NG.out.2.1
  have n34 := NG.out.2.2.1
  have n32 := n23.symm
  have n42 := n24.symm
  have n43 := n34.symm
  have a20 := (blk_cell H6.out.2.1 0).trans rfl
  have a21 := (blk_cell H6.out.2.1 1).trans rfl
  have a22 := (blk_cell H6.out.2.1 2).trans rfl
  have f20 := blk_frozen H6.out.2.1 0
  have f21 := blk_frozen H6.out.2.1 1
  have f22 := blk_frozen H6.out.2.1 2
  have a30 := (blk_cell H6.out.2.2.1 0).trans rfl
  have f30 := blk_frozen H6.out.2.2.1 0
  have a40 := (blk_cell H6.out.2.2.2.1 0).trans rfl
  have f40 := blk_frozen H6.out.2.2.2.1 0
  simp [zl3] at a20 a21 a22 a30 a40
  by_cases hz : er = 0
  · subst hz
    have hm := HM.out
    rw [if_pos rfl] at hm
    unfold parseT at hm
    by_cases hok : okT T = true
    case neg => rw [if_neg hok] at hm; cases hm
    rw [if_pos hok] at hm
    unfold okT at hok
    simp only [Bool.and_eq_true] at hok
    obtain ⟨hk0, hk1, hk2⟩ := hok
    have h0 : 0 < T.length := of_decide_eq_true hk0
    cases hq : lotR T 3000 3000 0 0 with
    | none => rw [hq] at hm; cases hm
    | some r1 =>
    rw [hq] at hm
    have HM2 := Aside0.mk hm
    have HQ := Aside0.mk hq
    have HE := Aside0.mk (And.intro (te_of hk1) (tw_of hk2))
    have hR6 := H6.out.2.2.2.2.1
    obtain ⟨gt, rfl, hbg, hgt, hps⟩ := PS.start hR6 h0 (HS.out.below H6.out.1) (by have := NG.out; have := H1.out.1.size; omega)
    clear hm hq hk0 hk1 hk2 hR6
    go_upto_region 6 with (fail)
    obtain ⟨gp, hgp⟩ : ∃ g, w6.heap.size = g := ⟨_, rfl⟩
    have NP := Aside0.mk (show g2 ≠ gp ∧ g3 ≠ gp ∧ g4 ≠ gp ∧ w.heap.size ≤ gp by have := blk_lt H6.out.2.1; have := blk_lt H6.out.2.2.1; have := blk_lt H6.out.2.2.2.1; have := H6.out.1.size; omega)
    rw [hgp] at hps ⊢
    have HP := Aside0.mk hps
    clear hps hgp h0 hbg hgt
    refine at_world (fun w7 => Aside0 (PS w7 gp gt T c5 0 0 ∧ Below w.heap.size w w7 ∧ w7.heap[g2]? = some (.cells zl3 25 (0, 0)) ∧ w7.heap[g3]? = some (.cells #[.int .i64 0] 3 (0, 0)) ∧ w7.heap[g4]? = some (.cells #[.int .i64 0] 26 (0, 0)))) ⟨HP.out, below_alloc H6.out.1 _, blk_alloc H6.out.2.1 _, blk_alloc H6.out.2.2.1 _, blk_alloc H6.out.2.2.2.1 _⟩ (fun w7 H7 => ?_)
    clear a20 a21 a22 f20 f21 f22 a30 f30 a40 f40 HP H6
    go_wp2_with (go_at_call 24; refine (lot_calls HE.out.1 HE.out.2 H7.out.1 (by omega) 3000 3000 (by omega) r1 HQ.out).mono ?_; intro e w8 hp; rcases PostL.or hp with ⟨p, x, hr1, rfl, hst⟩ | ⟨l, k8, A8, c8, hr1, rfl, hra, hst⟩; (have hm := HM2.out; rw [hr1] at hm; obtain rfl := Option.some.inj hm; refine leaves_cons (f := 23) (args := #[.pointer (some ⟨g2, 0, none⟩), .pointer (some ⟨g3, 0, none⟩), .pointer (some ⟨g4, 0, none⟩)]) (by simp) (by simp [go_sem]) ?_; refine (catch_calls p x (hst.cells H7.out.2.2.1 NP.out.1) rfl (hst.cells H7.out.2.2.2.1 NP.out.2.1) (hst.cells H7.out.2.2.2.2 NP.out.2.2.1)).mono ?_; rintro e u' w9 ⟨rfl, rfl, hS, c2, c3, c4⟩; exact ⟨_, results_10 _ _ g2 g3 g4 zl3 p x rfl rfl rfl rfl c2 c3 c4, .slice none 0 0, rfl, RA.nil _ _ _, below_stay3 (below_stay H7.out.2.1 hst NP.out.2.2.2) hS NG.out.2.2.2.1 NG.out.2.2.2.2.1 NG.out.2.2.2.2.2.1⟩); have b2 := hst.cells H7.out.2.2.1 NP.out.1; have b3 := hst.cells H7.out.2.2.2.1 NP.out.2.1; have b4 := hst.cells H7.out.2.2.2.2 NP.out.2.2.1; have a20 := (blk_cell b2 0).trans rfl; have a21 := (blk_cell b2 1).trans rfl; have a22 := (blk_cell b2 2).trans rfl; have f20 := blk_frozen b2 0; have f21 := blk_frozen b2 1; have f22 := blk_frozen b2 2; have a30 := (blk_cell b3 0).trans rfl; have f30 := blk_frozen b3 0; have a40 := (blk_cell b4 0).trans rfl; have f40 := blk_frozen b4 0; simp [zl3] at a20 a21 a22 a30 a40; have H8 := Aside0.mk (And.intro hr1 (And.intro hra (And.intro hst (And.intro b2 (And.intro b3 b4))))); clear hr1 hra hst hp b2 b3 b4)
    have hm := HM2.out
    rw [H8.out.1] at hm
    obtain rfl := Option.some.inj hm
    refine leaves_cons (f := 23) (args := #[.pointer (some ⟨g2, 0, none⟩), .pointer (some ⟨g3, 0, none⟩), .pointer (some ⟨g4, 0, none⟩)]) (by simp) (by simp [go_sem]) ?_
    refine (catch_idle _ _ _).mono ?_
    rintro e u' w9 ⟨rfl, rfl, rfl⟩
    have N := NG.out
    refine ⟨_, results_10 _ _ g2 g3 g4 (lC l.md l.n (.slice A8 l.st.length c8)) 0 0 rfl rfl rfl rfl (blk_far (blk_far (blk_put (blk_set (blk_set H8.out.2.2.2.1 0 _) 1 _) 2 _ (by simp [zl3, lC])) n23 _) n24 _) (blk_far (blk_put (blk_far (blk_far (blk_far H8.out.2.2.2.2.1 n32 _) n32 _) n32 _) 0 _ (by simp)) n34 _) (blk_put (blk_far (blk_far (blk_far (blk_far H8.out.2.2.2.2.2 n42 _) n42 _) n42 _) n43 _) 0 _ (by simp)), .slice A8 l.st.length c8, rfl, ?_, below_set (below_set (below_set (below_set (below_set (below_stay H7.out.2.1 H8.out.2.2.1 NP.out.2.2.2) N.2.2.2.1) N.2.2.2.1) N.2.2.2.1) N.2.2.2.2.1) N.2.2.2.2.2.1⟩
    have l2 := blk_lt H7.out.2.2.1
    have l3 := blk_lt H7.out.2.2.2.1
    have l4 := blk_lt H7.out.2.2.2.2
    exact H8.out.2.1.of (fun q _ h => by have := H7.out.2.1.size; unfold Fr at h ⊢; omega) (by simp [World.setCell]) fun q hq _ => by
      unfold Fr at hq
      rw [Below.heap_setCell _ _ _ q (by dsimp only; omega), Below.heap_setCell _ _ _ q (by dsimp only; omega), Below.heap_setCell _ _ _ q (by dsimp only; omega), Below.heap_setCell _ _ _ q (by dsimp only; omega), Below.heap_setCell _ _ _ q (by dsimp only; omega)]
  · have hm := HM.out
    rw [if_neg hz] at hm
    obtain rfl := Option.some.inj hm
    have hzb : (er != 0) = true := by simp [hz]
    clear hm hz
    go_upto_region 3 with (fail)
    go_region
    go_wp2
    refine ⟨_, results_10 _ _ g2 g3 g4 zl3 0 er rfl rfl rfl rfl (blk_drew (blk_far (blk_far (blk_put (blk_set (blk_set H6.out.2.1 0 _) 1 _) 2 _ (by simp [zl3])) n23 _) n24 _)) (blk_drew (blk_far (blk_put (blk_far (blk_far (blk_far H6.out.2.2.1 n32 _) n32 _) n32 _) 0 _ (by simp)) n34 _)) (blk_drew (blk_put (blk_far (blk_far (blk_far (blk_far H6.out.2.2.2.1 n42 _) n42 _) n42 _) n43 _) 0 _ (by simp))), .slice none 0 0, rfl, RA.nil _ _ _, ?_⟩
    have N := NG.out
    exact below_drew1 (below_set (below_set (below_set (below_set (below_set H6.out.1 N.2.2.2.1) N.2.2.2.1) N.2.2.2.1) N.2.2.2.2.1) N.2.2.2.2.2.1)
end Go.Proofs.YtlpnlfahlcingaaGreatDoor.PL
end
section
namespace Go.Proofs.YtlpnlfahlcingaaGreatDoor.PL
open Go.RowKit Go.Proofs.YtlpnlfahlcingaaGreatDoorW.PrintWords Go.Proofs.YtlpnlfahlcingaaGreatDoorW.PrintLast Go.Proofs.YtlpnlfahlcingaaGreatDoorW.PrintMore
attribute [local go_sem] max2_int min2_int max_two min_two max_three min_three max_four min_four
attribute [local go_sem ↓] isSome_setCell
set_option linter.unusedVariables false
set_option linter.unusedSimpArgs false
theorem eqA31 (d : Nat) (w : World) (x0 y0 : Int) (x1 y1 : Int) (x2 y2 : ByteArray) :
    (Op.equalIn (d + 2) 31 (.agg #[.int .i64 x0, .int .i64 x1, .string x2]) (.agg #[.int .i64 y0, .int .i64 y1, .string y2])).run Tryz.prog w = .ok (x0 == y0 && (x1 == y1 && (x2.toList == y2.toList))) w := by
  refine eqA_of Tryz.underlying31 (by kernel_rfl) ?_
  refine eqf_cons (by rfl) (by go_simp; rfl) (by go_simp; rfl) (by go_simp) ?_
  refine eqf_cons (by rfl) (by go_simp; rfl) (by go_simp; rfl) (by go_simp) ?_
  exact eqf_last (by rfl) (by go_simp; rfl) (by go_simp; rfl) (by go_simp)
end Go.Proofs.YtlpnlfahlcingaaGreatDoor.PL
end
section
namespace Go.Proofs.YtlpnlfahlcingaaGreatDoor.PL
open Go.RowKit Go.Proofs.YtlpnlfahlcingaaGreatDoorW.PrintWords Go.Proofs.YtlpnlfahlcingaaGreatDoorW.PrintLast Go.Proofs.YtlpnlfahlcingaaGreatDoorW.PrintMore
attribute [local go_sem] max2_int min2_int max_two min_two max_three min_three max_four min_four
attribute [local go_sem ↓] isSome_setCell
set_option linter.unusedVariables false
set_option linter.unusedSimpArgs false
def value_May.f (a0_0 : Int) (a0_1 : Int) (a0_2 : ByteArray) : Option (Bool) := if a0_0 = 0 then (if a0_1 = 0 then (some (a0_2.toList == ([] : List UInt8))) else (some false)) else (if a0_0 = 1 then (if a0_1 = 0 then (some (a0_2.toList == ([] : List UInt8))) else (if a0_1 = 1 then (some (a0_2.toList == ([] : List UInt8))) else (some false))) else (if a0_0 = 2 then (some (a0_2.toList == ([] : List UInt8))) else (if a0_0 = 3 then (if a0_1 = 0 then (some (decide ((a0_2.size : Int) ≤ 64))) else (some false)) else (some false))))
set_option maxHeartbeats 8000000 in
set_option maxRecDepth 100000 in
theorem value_May.calls (a0_0 : Int) (a0_1 : Int) (a0_2 : ByteArray) (r : Bool) (w : World) (h : value_May.f a0_0 a0_1 a0_2 = some r) :
  Calls Tryz.prog 100 #[.agg #[.int .i64 a0_0, .int .i64 a0_1, .string a0_2]] w fun e w' => e = .returned (.bool r) ∧ Below w.heap.size w w' := by
 have hu31 := Tryz.underlying31
 have HB := Aside0.mk (Below.refl w.heap.size w)
 have H : (if a0_0 = 0 then (if a0_1 = 0 then (some (a0_2.toList == ([] : List UInt8))) else (some false)) else (if a0_0 = 1 then (if a0_1 = 0 then (some (a0_2.toList == ([] : List UInt8))) else (if a0_1 = 1 then (some (a0_2.toList == ([] : List UInt8))) else (some false))) else (if a0_0 = 2 then (some (a0_2.toList == ([] : List UInt8))) else (if a0_0 = 3 then (if a0_1 = 0 then (some (decide ((a0_2.size : Int) ≤ 64))) else (some false)) else (some false))))) = some r := h
 clear h
 by_cases c2 : a0_0 = 0
 ·rw [if_pos c2] at H
  have c2b0 : (a0_0 == 0) = true := beq_iff_eq.mpr c2
  have c2b1 : (a0_0 != 0) = false := bne_eq_false_iff_eq.mpr c2
  clear c2
  by_cases c3 : a0_1 = 0
  ·rw [if_pos c3] at H
   have c3b0 : (a0_1 == 0) = true := beq_iff_eq.mpr c3
   have c3b1 : (a0_1 != 0) = false := bne_eq_false_iff_eq.mpr c3
   clear c3
   obtain rfl := Option.some.inj H
   go_enter Tryz.func100, Tryz.ntmps100
   go_wp2_with (first | ((with_reducible refine gate_dst (N := 1) rfl ?_); (try (refine gate_guard (by rfl) ?_; dsimp only)); refine box_ev (N := 1) (cs := #[.int .i64 a0_0, .int .i64 a0_1, .string a0_2]) (t := 31) ?_; intro gb196 hg w4 hbox hb; have BK196 := Aside0.mk (hbox); have GW196 := Aside0.mk (gsz hg bl : w.heap.size ≤ gb196); have GE196 := Aside0.mk (gsz hg bl : w.heap.size ≤ gb196); replace HB := Aside0.mk (below_step bl hb); clear hb hbox hg; obtain ⟨hcz5_0, hcz5_1, hcz5_2⟩ := cells3 BK196.out; obtain ⟨hfz5_0, hfz5_1, hfz5_2⟩ := froz3 BK196.out))
   go_ret
   exact ⟨er, bl⟩
  ·rw [if_neg c3] at H
   have c3b0 : (a0_1 == 0) = false := beq_eq_false_iff_ne.mpr c3
   have c3b1 : (a0_1 != 0) = true := bne_iff_ne.mpr c3
   obtain rfl := Option.some.inj H
   go_enter Tryz.func100, Tryz.ntmps100
   go_wp2_with (first | ((with_reducible refine gate_dst (N := 1) rfl ?_); (try (refine gate_guard (by rfl) ?_; dsimp only)); refine box_ev (N := 1) (cs := #[.int .i64 a0_0, .int .i64 a0_1, .string a0_2]) (t := 31) ?_; intro gb196 hg w6 hbox hb; have BK196 := Aside0.mk (hbox); have GW196 := Aside0.mk (gsz hg bl : w.heap.size ≤ gb196); have GE196 := Aside0.mk (gsz hg bl : w.heap.size ≤ gb196); replace HB := Aside0.mk (below_step bl hb); clear hb hbox hg; obtain ⟨hcz7_0, hcz7_1, hcz7_2⟩ := cells3 BK196.out; obtain ⟨hfz7_0, hfz7_1, hfz7_2⟩ := froz3 BK196.out))
   go_ret
   exact ⟨er, bl⟩
 ·rw [if_neg c2] at H
  have c2b0 : (a0_0 == 0) = false := beq_eq_false_iff_ne.mpr c2
  have c2b1 : (a0_0 != 0) = true := bne_iff_ne.mpr c2
  by_cases c8 : a0_0 = 1
  ·rw [if_pos c8] at H
   have c8b0 : (a0_0 == 1) = true := beq_iff_eq.mpr c8
   have c8b1 : (a0_0 != 1) = false := bne_eq_false_iff_eq.mpr c8
   clear c8
   by_cases c9 : a0_1 = 0
   ·rw [if_pos c9] at H
    have c9b0 : (a0_1 == 0) = true := beq_iff_eq.mpr c9
    have c9b1 : (a0_1 != 0) = false := bne_eq_false_iff_eq.mpr c9
    clear c9
    obtain rfl := Option.some.inj H
    go_enter Tryz.func100, Tryz.ntmps100
    go_wp2_with (first | ((with_reducible refine gate_dst (N := 1) rfl ?_); (try (refine gate_guard (by rfl) ?_; dsimp only)); refine box_ev (N := 1) (cs := #[.int .i64 a0_0, .int .i64 a0_1, .string a0_2]) (t := 31) ?_; intro gb196 hg w10 hbox hb; have BK196 := Aside0.mk (hbox); have GW196 := Aside0.mk (gsz hg bl : w.heap.size ≤ gb196); have GE196 := Aside0.mk (gsz hg bl : w.heap.size ≤ gb196); replace HB := Aside0.mk (below_step bl hb); clear hb hbox hg; obtain ⟨hcz11_0, hcz11_1, hcz11_2⟩ := cells3 BK196.out; obtain ⟨hfz11_0, hfz11_1, hfz11_2⟩ := froz3 BK196.out))
    go_ret
    exact ⟨er, bl⟩
   ·rw [if_neg c9] at H
    have c9b0 : (a0_1 == 0) = false := beq_eq_false_iff_ne.mpr c9
    have c9b1 : (a0_1 != 0) = true := bne_iff_ne.mpr c9
    by_cases c12 : a0_1 = 1
    ·rw [if_pos c12] at H
     have c12b0 : (a0_1 == 1) = true := beq_iff_eq.mpr c12
     have c12b1 : (a0_1 != 1) = false := bne_eq_false_iff_eq.mpr c12
     clear c12
     obtain rfl := Option.some.inj H
     go_enter Tryz.func100, Tryz.ntmps100
     go_wp2_with (first | ((with_reducible refine gate_dst (N := 1) rfl ?_); (try (refine gate_guard (by rfl) ?_; dsimp only)); refine box_ev (N := 1) (cs := #[.int .i64 a0_0, .int .i64 a0_1, .string a0_2]) (t := 31) ?_; intro gb196 hg w13 hbox hb; have BK196 := Aside0.mk (hbox); have GW196 := Aside0.mk (gsz hg bl : w.heap.size ≤ gb196); have GE196 := Aside0.mk (gsz hg bl : w.heap.size ≤ gb196); replace HB := Aside0.mk (below_step bl hb); clear hb hbox hg; obtain ⟨hcz14_0, hcz14_1, hcz14_2⟩ := cells3 BK196.out; obtain ⟨hfz14_0, hfz14_1, hfz14_2⟩ := froz3 BK196.out))
     go_ret
     exact ⟨er, bl⟩
    ·rw [if_neg c12] at H
     have c12b0 : (a0_1 == 1) = false := beq_eq_false_iff_ne.mpr c12
     have c12b1 : (a0_1 != 1) = true := bne_iff_ne.mpr c12
     obtain rfl := Option.some.inj H
     go_enter Tryz.func100, Tryz.ntmps100
     go_wp2_with (first | ((with_reducible refine gate_dst (N := 1) rfl ?_); (try (refine gate_guard (by rfl) ?_; dsimp only)); refine box_ev (N := 1) (cs := #[.int .i64 a0_0, .int .i64 a0_1, .string a0_2]) (t := 31) ?_; intro gb196 hg w15 hbox hb; have BK196 := Aside0.mk (hbox); have GW196 := Aside0.mk (gsz hg bl : w.heap.size ≤ gb196); have GE196 := Aside0.mk (gsz hg bl : w.heap.size ≤ gb196); replace HB := Aside0.mk (below_step bl hb); clear hb hbox hg; obtain ⟨hcz16_0, hcz16_1, hcz16_2⟩ := cells3 BK196.out; obtain ⟨hfz16_0, hfz16_1, hfz16_2⟩ := froz3 BK196.out))
     go_ret
     exact ⟨er, bl⟩
  ·rw [if_neg c8] at H
   have c8b0 : (a0_0 == 1) = false := beq_eq_false_iff_ne.mpr c8
   have c8b1 : (a0_0 != 1) = true := bne_iff_ne.mpr c8
   by_cases c17 : a0_0 = 2
   ·rw [if_pos c17] at H
    have c17b0 : (a0_0 == 2) = true := beq_iff_eq.mpr c17
    have c17b1 : (a0_0 != 2) = false := bne_eq_false_iff_eq.mpr c17
    clear c17
    obtain rfl := Option.some.inj H
    go_enter Tryz.func100, Tryz.ntmps100
    go_wp2_with (first | ((with_reducible refine gate_dst (N := 1) rfl ?_); (try (refine gate_guard (by rfl) ?_; dsimp only)); refine box_ev (N := 1) (cs := #[.int .i64 a0_0, .int .i64 a0_1, .string a0_2]) (t := 31) ?_; intro gb196 hg w18 hbox hb; have BK196 := Aside0.mk (hbox); have GW196 := Aside0.mk (gsz hg bl : w.heap.size ≤ gb196); have GE196 := Aside0.mk (gsz hg bl : w.heap.size ≤ gb196); replace HB := Aside0.mk (below_step bl hb); clear hb hbox hg; obtain ⟨hcz19_0, hcz19_1, hcz19_2⟩ := cells3 BK196.out; obtain ⟨hfz19_0, hfz19_1, hfz19_2⟩ := froz3 BK196.out))
    go_ret
    exact ⟨er, bl⟩
   ·rw [if_neg c17] at H
    have c17b0 : (a0_0 == 2) = false := beq_eq_false_iff_ne.mpr c17
    have c17b1 : (a0_0 != 2) = true := bne_iff_ne.mpr c17
    by_cases c20 : a0_0 = 3
    ·rw [if_pos c20] at H
     have c20b0 : (a0_0 == 3) = true := beq_iff_eq.mpr c20
     have c20b1 : (a0_0 != 3) = false := bne_eq_false_iff_eq.mpr c20
     clear c20
     by_cases c21 : a0_1 = 0
     ·rw [if_pos c21] at H
      have c21b0 : (a0_1 == 0) = true := beq_iff_eq.mpr c21
      have c21b1 : (a0_1 != 0) = false := bne_eq_false_iff_eq.mpr c21
      clear c21
      obtain rfl := Option.some.inj H
      go_enter Tryz.func100, Tryz.ntmps100
      go_wp2_with (first | ((with_reducible refine gate_dst (N := 1) rfl ?_); (try (refine gate_guard (by rfl) ?_; dsimp only)); refine box_ev (N := 1) (cs := #[.int .i64 a0_0, .int .i64 a0_1, .string a0_2]) (t := 31) ?_; intro gb196 hg w22 hbox hb; have BK196 := Aside0.mk (hbox); have GW196 := Aside0.mk (gsz hg bl : w.heap.size ≤ gb196); have GE196 := Aside0.mk (gsz hg bl : w.heap.size ≤ gb196); replace HB := Aside0.mk (below_step bl hb); clear hb hbox hg; obtain ⟨hcz23_0, hcz23_1, hcz23_2⟩ := cells3 BK196.out; obtain ⟨hfz23_0, hfz23_1, hfz23_2⟩ := froz3 BK196.out))
      go_ret
      exact ⟨er, bl⟩
     ·rw [if_neg c21] at H
      have c21b0 : (a0_1 == 0) = false := beq_eq_false_iff_ne.mpr c21
      have c21b1 : (a0_1 != 0) = true := bne_iff_ne.mpr c21
      obtain rfl := Option.some.inj H
      go_enter Tryz.func100, Tryz.ntmps100
      go_wp2_with (first | ((with_reducible refine gate_dst (N := 1) rfl ?_); (try (refine gate_guard (by rfl) ?_; dsimp only)); refine box_ev (N := 1) (cs := #[.int .i64 a0_0, .int .i64 a0_1, .string a0_2]) (t := 31) ?_; intro gb196 hg w24 hbox hb; have BK196 := Aside0.mk (hbox); have GW196 := Aside0.mk (gsz hg bl : w.heap.size ≤ gb196); have GE196 := Aside0.mk (gsz hg bl : w.heap.size ≤ gb196); replace HB := Aside0.mk (below_step bl hb); clear hb hbox hg; obtain ⟨hcz25_0, hcz25_1, hcz25_2⟩ := cells3 BK196.out; obtain ⟨hfz25_0, hfz25_1, hfz25_2⟩ := froz3 BK196.out))
      go_ret
      exact ⟨er, bl⟩
    ·rw [if_neg c20] at H
     have c20b0 : (a0_0 == 3) = false := beq_eq_false_iff_ne.mpr c20
     have c20b1 : (a0_0 != 3) = true := bne_iff_ne.mpr c20
     obtain rfl := Option.some.inj H
     go_enter Tryz.func100, Tryz.ntmps100
     go_wp2_with (first | ((with_reducible refine gate_dst (N := 1) rfl ?_); (try (refine gate_guard (by rfl) ?_; dsimp only)); refine box_ev (N := 1) (cs := #[.int .i64 a0_0, .int .i64 a0_1, .string a0_2]) (t := 31) ?_; intro gb196 hg w26 hbox hb; have BK196 := Aside0.mk (hbox); have GW196 := Aside0.mk (gsz hg bl : w.heap.size ≤ gb196); have GE196 := Aside0.mk (gsz hg bl : w.heap.size ≤ gb196); replace HB := Aside0.mk (below_step bl hb); clear hb hbox hg; obtain ⟨hcz27_0, hcz27_1, hcz27_2⟩ := cells3 BK196.out; obtain ⟨hfz27_0, hfz27_1, hfz27_2⟩ := froz3 BK196.out))
     go_ret
     exact ⟨er, bl⟩
end Go.Proofs.YtlpnlfahlcingaaGreatDoor.PL
end
section
namespace Go.Proofs.YtlpnlfahlcingaaGreatDoor.PL
open Go.RowKit Go.Proofs.YtlpnlfahlcingaaGreatDoorW.PrintWords Go.Proofs.YtlpnlfahlcingaaGreatDoorW.PrintLast Go.Proofs.YtlpnlfahlcingaaGreatDoorW.PrintMore
attribute [local go_sem] max2_int min2_int max_two min_two max_three min_three max_four min_four
attribute [local go_sem ↓] isSome_setCell
set_option linter.unusedVariables false
set_option linter.unusedSimpArgs false
def tree_args.j0 : Nat → ByteArray → Bool → Option (Int)
 | 0, _, _ => none
 | k + 1, x3, x4 => if x4 = true then (some 1) else (if x3.toList = ([79, 82] : List UInt8) then (some 2) else (if x3.toList = ([65, 78, 68] : List UInt8) then (some 2) else (if x3.toList = ([61] : List UInt8) then (some 2) else (if x3.toList = ([60, 62] : List UInt8) then (some 2) else (if x3.toList = ([60] : List UInt8) then (some 2) else (if x3.toList = ([60, 61] : List UInt8) then (some 2) else (if x3.toList = ([62] : List UInt8) then (some 2) else (if x3.toList = ([62, 61] : List UInt8) then (some 2) else (if x3.toList = ([43] : List UInt8) then (some 2) else (if x3.toList = ([45] : List UInt8) then (some 2) else (if x3.toList = ([42] : List UInt8) then (some 2) else (if x3.toList = ([47] : List UInt8) then (some 2) else (if x3.toList = ([37] : List UInt8) then (some 2) else (some (-1)))))))))))))))
def tree_args.f (k : Nat) (a0 : ByteArray) : Option (Int) := if a0.toList = ([78, 79, 84] : List UInt8) then (tree_args.j0 k a0 (a0.toList == ([78, 79, 84] : List UInt8))) else (if a0.toList = ([73, 83, 78, 85, 76, 76] : List UInt8) then (tree_args.j0 k a0 (a0.toList == ([73, 83, 78, 85, 76, 76] : List UInt8))) else (if a0.toList = ([78, 79, 84, 78, 85, 76, 76] : List UInt8) then (tree_args.j0 k a0 (a0.toList == ([78, 79, 84, 78, 85, 76, 76] : List UInt8))) else (tree_args.j0 k a0 (a0.toList == ([78, 69, 71] : List UInt8)))))
theorem tree_args.mono_l : ∀ k, (∀ y0 y1, LeO (tree_args.j0 k y0 y1) (tree_args.j0 (k + 1) y0 y1))
 | 0 => fun _ _ r h => by simp [tree_args.j0] at h
 | k + 1 => by
  have ih0 := tree_args.mono_l k
  ·intro y0 y1
   unfold tree_args.j0
   repeat' first
   | (with_reducible exact ih0 _ _)
   | (with_reducible exact LeO.refl _)
   | (with_reducible exact LeO.none _)
   | (with_reducible refine LeO.ite ?_ ?_)
   | (with_reducible refine LeO.bind ?_ (fun _ => ?_))
   | exact ih0 _ _
   | exact LeO.none _
   | refine LeO.ite ?_ ?_
   | refine LeO.bind ?_ (fun _ => ?_)
theorem tree_args.mono : ∀ a0 k, LeO (tree_args.f k a0) (tree_args.f (k + 1) a0) := by
 intro a0 k
 have ih0 := tree_args.mono_l k
 unfold tree_args.f
 repeat' first
   | (with_reducible exact ih0 _ _)
   | (with_reducible exact LeO.refl _)
   | (with_reducible exact LeO.none _)
   | (with_reducible refine LeO.ite ?_ ?_)
   | (with_reducible refine LeO.bind ?_ (fun _ => ?_))
   | exact ih0 _ _
   | exact LeO.none _
   | refine LeO.ite ?_ ?_
   | refine LeO.bind ?_ (fun _ => ?_)
set_option maxHeartbeats 8000000 in
set_option maxRecDepth 100000 in
theorem tree_args.calls (k : Nat) (a0 : ByteArray) (r : Int) (w : World) (h : tree_args.f k a0 = some r) :
  Calls Tryz.prog 101 #[.string a0] w fun e w' => e = .returned (.int .i64 r) ∧ Drawn0 w w' := by
 have H : (if a0.toList = ([78, 79, 84] : List UInt8) then (tree_args.j0 k a0 (a0.toList == ([78, 79, 84] : List UInt8))) else (if a0.toList = ([73, 83, 78, 85, 76, 76] : List UInt8) then (tree_args.j0 k a0 (a0.toList == ([73, 83, 78, 85, 76, 76] : List UInt8))) else (if a0.toList = ([78, 79, 84, 78, 85, 76, 76] : List UInt8) then (tree_args.j0 k a0 (a0.toList == ([78, 79, 84, 78, 85, 76, 76] : List UInt8))) else (tree_args.j0 k a0 (a0.toList == ([78, 69, 71] : List UInt8)))))) = some r := h
 clear h
 have HC2 := Aside0.mk H
 clear H
 go_enter Tryz.func101, Tryz.ntmps101
 go_upto_if 4 with (fail)
 go_cut [4] (fun v4 wc => ∃ (kq : Nat) (x4_1 : Bool), v4 = .bool x4_1 ∧ Aside0 (tree_args.j0 kq a0 x4_1 = some r) ∧ Aside0 (kq ≤ k) ∧ Drawn0 w wc)
 case first =>
  have H := HC2.out
  clear HC2
  by_cases c3 : a0.toList = ([78, 79, 84] : List UInt8)
  ·rw [if_pos c3] at H
   have c3b0 : (a0.toList == ([78, 79, 84] : List UInt8)) = true := beq_iff_eq.mpr c3
   have c3b1 : (a0.toList != ([78, 79, 84] : List UInt8)) = false := bne_eq_false_iff_eq.mpr c3
   clear c3
   (first | rw [c3b0] | (simp only [i64_w, i32_w]; rw [c3b0]) | skip)
   have H' := Aside0.mk H
   clear H
   go_wp2
   go_meet
   case rel => exact ⟨_, ((a0.toList == ([78, 79, 84] : List UInt8))), rs, H', ⟨lk⟩, by repeat (first | exact Drawn0.refl _ | apply Drawn0.step)⟩
  ·rw [if_neg c3] at H
   have c3b0 : (a0.toList == ([78, 79, 84] : List UInt8)) = false := beq_eq_false_iff_ne.mpr c3
   have c3b1 : (a0.toList != ([78, 79, 84] : List UInt8)) = true := bne_iff_ne.mpr c3
   (first | rw [c3b0] | (simp only [i64_w, i32_w]; rw [c3b0]) | skip)
   by_cases c4 : a0.toList = ([73, 83, 78, 85, 76, 76] : List UInt8)
   ·rw [if_pos c4] at H
    have c4b0 : (a0.toList == ([73, 83, 78, 85, 76, 76] : List UInt8)) = true := beq_iff_eq.mpr c4
    have c4b1 : (a0.toList != ([73, 83, 78, 85, 76, 76] : List UInt8)) = false := bne_eq_false_iff_eq.mpr c4
    clear c4
    have H' := Aside0.mk H
    clear H
    go_wp2
    go_meet
    case rel => exact ⟨_, ((a0.toList == ([73, 83, 78, 85, 76, 76] : List UInt8))), rs, H', ⟨lk⟩, by repeat (first | exact Drawn0.refl _ | apply Drawn0.step)⟩
   ·rw [if_neg c4] at H
    have c4b0 : (a0.toList == ([73, 83, 78, 85, 76, 76] : List UInt8)) = false := beq_eq_false_iff_ne.mpr c4
    have c4b1 : (a0.toList != ([73, 83, 78, 85, 76, 76] : List UInt8)) = true := bne_iff_ne.mpr c4
    by_cases c5 : a0.toList = ([78, 79, 84, 78, 85, 76, 76] : List UInt8)
    ·rw [if_pos c5] at H
     have c5b0 : (a0.toList == ([78, 79, 84, 78, 85, 76, 76] : List UInt8)) = true := beq_iff_eq.mpr c5
     have c5b1 : (a0.toList != ([78, 79, 84, 78, 85, 76, 76] : List UInt8)) = false := bne_eq_false_iff_eq.mpr c5
     clear c5
     have H' := Aside0.mk H
     clear H
     go_wp2
     go_meet
     case rel => exact ⟨_, ((a0.toList == ([78, 79, 84, 78, 85, 76, 76] : List UInt8))), rs, H', ⟨lk⟩, by repeat (first | exact Drawn0.refl _ | apply Drawn0.step)⟩
    ·rw [if_neg c5] at H
     have c5b0 : (a0.toList == ([78, 79, 84, 78, 85, 76, 76] : List UInt8)) = false := beq_eq_false_iff_ne.mpr c5
     have c5b1 : (a0.toList != ([78, 79, 84, 78, 85, 76, 76] : List UInt8)) = true := bne_iff_ne.mpr c5
     have H' := Aside0.mk H
     clear H
     go_wp2
     go_meet
     case rel => exact ⟨_, ((a0.toList == ([78, 69, 71] : List UInt8))), rs, H', ⟨lk⟩, by repeat (first | exact Drawn0.refl _ | apply Drawn0.step)⟩
 case rest =>
  clear HC2
  obtain ⟨kq, x4_1, rfl, HA, HJ1, ⟨mc1, rfl⟩⟩ := hcut
  cases kq with
  | zero => exact absurd HA.out (by simp [tree_args.j0])
  | succ kj1 =>
   have H := HA.out
   clear HA
   simp only [tree_args.j0] at H
   by_cases c6 : x4_1 = true
   ·subst c6
    rw [if_pos rfl] at H
    obtain rfl := Option.some.inj H
    go_wp2
    go_ret
    exact ⟨by first | rfl | (simp; done) | (simp [*]; done), by repeat (first | exact Drawn0.refl _ | apply Drawn0.step)⟩
   ·replace c6 := Bool.eq_false_iff.mpr c6
    subst c6
    rw [if_neg (show ¬ (false = true) by decide)] at H
    by_cases c7 : a0.toList = ([79, 82] : List UInt8)
    ·rw [if_pos c7] at H
     have c7b0 : (a0.toList == ([79, 82] : List UInt8)) = true := beq_iff_eq.mpr c7
     have c7b1 : (a0.toList != ([79, 82] : List UInt8)) = false := bne_eq_false_iff_eq.mpr c7
     clear c7
     obtain rfl := Option.some.inj H
     go_wp2
     go_ret
     exact ⟨by first | rfl | (simp; done) | (simp [*]; done), by repeat (first | exact Drawn0.refl _ | apply Drawn0.step)⟩
    ·rw [if_neg c7] at H
     have c7b0 : (a0.toList == ([79, 82] : List UInt8)) = false := beq_eq_false_iff_ne.mpr c7
     have c7b1 : (a0.toList != ([79, 82] : List UInt8)) = true := bne_iff_ne.mpr c7
     by_cases c8 : a0.toList = ([65, 78, 68] : List UInt8)
     ·rw [if_pos c8] at H
      have c8b0 : (a0.toList == ([65, 78, 68] : List UInt8)) = true := beq_iff_eq.mpr c8
      have c8b1 : (a0.toList != ([65, 78, 68] : List UInt8)) = false := bne_eq_false_iff_eq.mpr c8
      clear c8
      obtain rfl := Option.some.inj H
      go_wp2
      go_ret
      exact ⟨by first | rfl | (simp; done) | (simp [*]; done), by repeat (first | exact Drawn0.refl _ | apply Drawn0.step)⟩
     ·rw [if_neg c8] at H
      have c8b0 : (a0.toList == ([65, 78, 68] : List UInt8)) = false := beq_eq_false_iff_ne.mpr c8
      have c8b1 : (a0.toList != ([65, 78, 68] : List UInt8)) = true := bne_iff_ne.mpr c8
      by_cases c9 : a0.toList = ([61] : List UInt8)
      ·rw [if_pos c9] at H
       have c9b0 : (a0.toList == ([61] : List UInt8)) = true := beq_iff_eq.mpr c9
       have c9b1 : (a0.toList != ([61] : List UInt8)) = false := bne_eq_false_iff_eq.mpr c9
       clear c9
       obtain rfl := Option.some.inj H
       go_wp2
       go_ret
       exact ⟨by first | rfl | (simp; done) | (simp [*]; done), by repeat (first | exact Drawn0.refl _ | apply Drawn0.step)⟩
      ·rw [if_neg c9] at H
       have c9b0 : (a0.toList == ([61] : List UInt8)) = false := beq_eq_false_iff_ne.mpr c9
       have c9b1 : (a0.toList != ([61] : List UInt8)) = true := bne_iff_ne.mpr c9
       by_cases c10 : a0.toList = ([60, 62] : List UInt8)
       ·rw [if_pos c10] at H
        have c10b0 : (a0.toList == ([60, 62] : List UInt8)) = true := beq_iff_eq.mpr c10
        have c10b1 : (a0.toList != ([60, 62] : List UInt8)) = false := bne_eq_false_iff_eq.mpr c10
        clear c10
        obtain rfl := Option.some.inj H
        go_wp2
        go_ret
        exact ⟨by first | rfl | (simp; done) | (simp [*]; done), by repeat (first | exact Drawn0.refl _ | apply Drawn0.step)⟩
       ·rw [if_neg c10] at H
        have c10b0 : (a0.toList == ([60, 62] : List UInt8)) = false := beq_eq_false_iff_ne.mpr c10
        have c10b1 : (a0.toList != ([60, 62] : List UInt8)) = true := bne_iff_ne.mpr c10
        by_cases c11 : a0.toList = ([60] : List UInt8)
        ·rw [if_pos c11] at H
         have c11b0 : (a0.toList == ([60] : List UInt8)) = true := beq_iff_eq.mpr c11
         have c11b1 : (a0.toList != ([60] : List UInt8)) = false := bne_eq_false_iff_eq.mpr c11
         clear c11
         obtain rfl := Option.some.inj H
         go_wp2
         go_ret
         exact ⟨by first | rfl | (simp; done) | (simp [*]; done), by repeat (first | exact Drawn0.refl _ | apply Drawn0.step)⟩
        ·rw [if_neg c11] at H
         have c11b0 : (a0.toList == ([60] : List UInt8)) = false := beq_eq_false_iff_ne.mpr c11
         have c11b1 : (a0.toList != ([60] : List UInt8)) = true := bne_iff_ne.mpr c11
         by_cases c12 : a0.toList = ([60, 61] : List UInt8)
         ·rw [if_pos c12] at H
          have c12b0 : (a0.toList == ([60, 61] : List UInt8)) = true := beq_iff_eq.mpr c12
          have c12b1 : (a0.toList != ([60, 61] : List UInt8)) = false := bne_eq_false_iff_eq.mpr c12
          clear c12
          obtain rfl := Option.some.inj H
          go_wp2
          go_ret
          exact ⟨by first | rfl | (simp; done) | (simp [*]; done), by repeat (first | exact Drawn0.refl _ | apply Drawn0.step)⟩
         ·rw [if_neg c12] at H
          have c12b0 : (a0.toList == ([60, 61] : List UInt8)) = false := beq_eq_false_iff_ne.mpr c12
          have c12b1 : (a0.toList != ([60, 61] : List UInt8)) = true := bne_iff_ne.mpr c12
          by_cases c13 : a0.toList = ([62] : List UInt8)
          ·rw [if_pos c13] at H
           have c13b0 : (a0.toList == ([62] : List UInt8)) = true := beq_iff_eq.mpr c13
           have c13b1 : (a0.toList != ([62] : List UInt8)) = false := bne_eq_false_iff_eq.mpr c13
           clear c13
           obtain rfl := Option.some.inj H
           go_wp2
           go_ret
           exact ⟨by first | rfl | (simp; done) | (simp [*]; done), by repeat (first | exact Drawn0.refl _ | apply Drawn0.step)⟩
          ·rw [if_neg c13] at H
           have c13b0 : (a0.toList == ([62] : List UInt8)) = false := beq_eq_false_iff_ne.mpr c13
           have c13b1 : (a0.toList != ([62] : List UInt8)) = true := bne_iff_ne.mpr c13
           by_cases c14 : a0.toList = ([62, 61] : List UInt8)
           ·rw [if_pos c14] at H
            have c14b0 : (a0.toList == ([62, 61] : List UInt8)) = true := beq_iff_eq.mpr c14
            have c14b1 : (a0.toList != ([62, 61] : List UInt8)) = false := bne_eq_false_iff_eq.mpr c14
            clear c14
            obtain rfl := Option.some.inj H
            go_wp2
            go_ret
            exact ⟨by first | rfl | (simp; done) | (simp [*]; done), by repeat (first | exact Drawn0.refl _ | apply Drawn0.step)⟩
           ·rw [if_neg c14] at H
            have c14b0 : (a0.toList == ([62, 61] : List UInt8)) = false := beq_eq_false_iff_ne.mpr c14
            have c14b1 : (a0.toList != ([62, 61] : List UInt8)) = true := bne_iff_ne.mpr c14
            by_cases c15 : a0.toList = ([43] : List UInt8)
            ·rw [if_pos c15] at H
             have c15b0 : (a0.toList == ([43] : List UInt8)) = true := beq_iff_eq.mpr c15
             have c15b1 : (a0.toList != ([43] : List UInt8)) = false := bne_eq_false_iff_eq.mpr c15
             clear c15
             obtain rfl := Option.some.inj H
             go_wp2
             go_ret
             exact ⟨by first | rfl | (simp; done) | (simp [*]; done), by repeat (first | exact Drawn0.refl _ | apply Drawn0.step)⟩
            ·rw [if_neg c15] at H
             have c15b0 : (a0.toList == ([43] : List UInt8)) = false := beq_eq_false_iff_ne.mpr c15
             have c15b1 : (a0.toList != ([43] : List UInt8)) = true := bne_iff_ne.mpr c15
             by_cases c16 : a0.toList = ([45] : List UInt8)
             ·rw [if_pos c16] at H
              have c16b0 : (a0.toList == ([45] : List UInt8)) = true := beq_iff_eq.mpr c16
              have c16b1 : (a0.toList != ([45] : List UInt8)) = false := bne_eq_false_iff_eq.mpr c16
              clear c16
              obtain rfl := Option.some.inj H
              go_wp2
              go_ret
              exact ⟨by first | rfl | (simp; done) | (simp [*]; done), by repeat (first | exact Drawn0.refl _ | apply Drawn0.step)⟩
             ·rw [if_neg c16] at H
              have c16b0 : (a0.toList == ([45] : List UInt8)) = false := beq_eq_false_iff_ne.mpr c16
              have c16b1 : (a0.toList != ([45] : List UInt8)) = true := bne_iff_ne.mpr c16
              by_cases c17 : a0.toList = ([42] : List UInt8)
              ·rw [if_pos c17] at H
               have c17b0 : (a0.toList == ([42] : List UInt8)) = true := beq_iff_eq.mpr c17
               have c17b1 : (a0.toList != ([42] : List UInt8)) = false := bne_eq_false_iff_eq.mpr c17
               clear c17
               obtain rfl := Option.some.inj H
               go_wp2
               go_ret
               exact ⟨by first | rfl | (simp; done) | (simp [*]; done), by repeat (first | exact Drawn0.refl _ | apply Drawn0.step)⟩
              ·rw [if_neg c17] at H
               have c17b0 : (a0.toList == ([42] : List UInt8)) = false := beq_eq_false_iff_ne.mpr c17
               have c17b1 : (a0.toList != ([42] : List UInt8)) = true := bne_iff_ne.mpr c17
               by_cases c18 : a0.toList = ([47] : List UInt8)
               ·rw [if_pos c18] at H
                have c18b0 : (a0.toList == ([47] : List UInt8)) = true := beq_iff_eq.mpr c18
                have c18b1 : (a0.toList != ([47] : List UInt8)) = false := bne_eq_false_iff_eq.mpr c18
                clear c18
                obtain rfl := Option.some.inj H
                go_wp2
                go_ret
                exact ⟨by first | rfl | (simp; done) | (simp [*]; done), by repeat (first | exact Drawn0.refl _ | apply Drawn0.step)⟩
               ·rw [if_neg c18] at H
                have c18b0 : (a0.toList == ([47] : List UInt8)) = false := beq_eq_false_iff_ne.mpr c18
                have c18b1 : (a0.toList != ([47] : List UInt8)) = true := bne_iff_ne.mpr c18
                by_cases c19 : a0.toList = ([37] : List UInt8)
                ·rw [if_pos c19] at H
                 have c19b0 : (a0.toList == ([37] : List UInt8)) = true := beq_iff_eq.mpr c19
                 have c19b1 : (a0.toList != ([37] : List UInt8)) = false := bne_eq_false_iff_eq.mpr c19
                 clear c19
                 obtain rfl := Option.some.inj H
                 go_wp2
                 go_ret
                 exact ⟨by first | rfl | (simp; done) | (simp [*]; done), by repeat (first | exact Drawn0.refl _ | apply Drawn0.step)⟩
                ·rw [if_neg c19] at H
                 have c19b0 : (a0.toList == ([37] : List UInt8)) = false := beq_eq_false_iff_ne.mpr c19
                 have c19b1 : (a0.toList != ([37] : List UInt8)) = true := bne_iff_ne.mpr c19
                 obtain rfl := Option.some.inj H
                 go_wp2
                 go_ret
                 exact ⟨by first | rfl | (simp; done) | (simp [*]; done), by repeat (first | exact Drawn0.refl _ | apply Drawn0.step)⟩
end Go.Proofs.YtlpnlfahlcingaaGreatDoor.PL
end
section
namespace Go.Proofs.YtlpnlfahlcingaaGreatDoor.PL
open Go.RowKit Go.Proofs.YtlpnlfahlcingaaGreatDoorW.PrintWords Go.Proofs.YtlpnlfahlcingaaGreatDoorW.PrintLast Go.Proofs.YtlpnlfahlcingaaGreatDoorW.PrintMore
attribute [local go_sem] max2_int min2_int max_two min_two max_three min_three max_four min_four
attribute [local go_sem ↓] isSome_setCell
set_option linter.unusedVariables false
set_option linter.unusedSimpArgs false
attribute [local go_sem high] eqA31
mutual
def tree_mayExpr.l0 : Nat → Int → List (S34) → Int → Int → Option (Bool)
 | 0, _, _, _, _ => none
 | k + 1, x1, x73, x74, x75 => if x75 < x74 then (if 0 ≤ x75 then (if x75 < (x73.length : Int) then ((tree_mayExpr.f k ((rd_T34 x73 x75).f0) ((rd_T34 x73 x75).f1) ((rd_T34 x73 x75).f2.f0) ((rd_T34 x73 x75).f2.f1) ((rd_T34 x73 x75).f2.f2) ((rd_T34 x73 x75).f3) (wrap64 (x1 - 1))).bind fun t203 => (if t203 = true then (tree_mayExpr.l0 k x1 x73 x74 (wrap64 (x75 + 1))) else (some false))) else (none)) else (none)) else (some true)
def tree_mayExpr.f : Nat → Int → ByteArray → Int → Int → ByteArray → List (S34) → Int → Option (Bool)
 | 0, _, _, _, _, _, _, _ => none
 | k + 1, a0_0, a0_1, a0_2, a0_3, a0_4, l0_5, a1 => if a1 = 0 then (some false) else (if a0_0 = 1 then (if a0_1.toList = ([] : List UInt8) then (if (l0_5.length : Int) = 0 then ((value_May.f a0_2 a0_3 a0_4).bind fun t198 => (if t198 = true then (some (decide (a0_3 ≥ 0))) else (some false))) else (some false)) else (some false)) else (if a0_0 = 2 then (if (a0_2 == 0 && (a0_3 == 0 && (a0_4.toList == ([] : List UInt8)))) = true then (if (l0_5.length : Int) = 0 then ((lex_Word.f k a0_1).bind fun t199 => (some t199)) else (some false)) else (some false)) else (if a0_0 = 3 then (if (!(a0_2 == 0) || (!(a0_3 == 0) || (!(a0_4.toList == ([] : List UInt8))))) = true then (some false) else ((tree_args.f k a0_1).bind fun t200 => (if (l0_5.length : Int) = t200 then (tree_mayExpr.l0 k a1 l0_5 (l0_5.length : Int) 0) else (some false)))) else (some false))))
end
theorem tree_mayExpr.mono_l : ∀ k, (∀ y0 y1 y2 y3 y4 y5 y6, LeO (tree_mayExpr.f k y0 y1 y2 y3 y4 y5 y6) (tree_mayExpr.f (k + 1) y0 y1 y2 y3 y4 y5 y6)) ∧ (∀ y0 y1 y2 y3, LeO (tree_mayExpr.l0 k y0 y1 y2 y3) (tree_mayExpr.l0 (k + 1) y0 y1 y2 y3))
 | 0 => ⟨fun _ _ _ _ _ _ _ r h => by simp [tree_mayExpr.f] at h, fun _ _ _ _ r h => by simp [tree_mayExpr.l0] at h⟩
 | k + 1 => by
  obtain ⟨ih0, ih1⟩ := tree_mayExpr.mono_l k
  refine ⟨?_, ?_⟩
  ·intro y0 y1 y2 y3 y4 y5 y6
   unfold tree_mayExpr.f
   repeat' first
   | (with_reducible exact ih0 _ _ _ _ _ _ _)
   | (with_reducible exact ih1 _ _ _ _)
   | (with_reducible exact lex_Word.mono _ _)
   | (with_reducible exact tree_args.mono _ _)
   | (with_reducible exact LeO.refl _)
   | (with_reducible exact LeO.none _)
   | (with_reducible refine LeO.ite ?_ ?_)
   | (with_reducible refine LeO.bind ?_ (fun _ => ?_))
   | exact ih0 _ _ _ _ _ _ _
   | exact ih1 _ _ _ _
   | exact lex_Word.mono _ _
   | exact tree_args.mono _ _
   | exact LeO.none _
   | refine LeO.ite ?_ ?_
   | refine LeO.bind ?_ (fun _ => ?_)
  ·intro y0 y1 y2 y3
   unfold tree_mayExpr.l0
   repeat' first
   | (with_reducible exact ih0 _ _ _ _ _ _ _)
   | (with_reducible exact ih1 _ _ _ _)
   | (with_reducible exact lex_Word.mono _ _)
   | (with_reducible exact tree_args.mono _ _)
   | (with_reducible exact LeO.refl _)
   | (with_reducible exact LeO.none _)
   | (with_reducible refine LeO.ite ?_ ?_)
   | (with_reducible refine LeO.bind ?_ (fun _ => ?_))
   | exact ih0 _ _ _ _ _ _ _
   | exact ih1 _ _ _ _
   | exact lex_Word.mono _ _
   | exact tree_args.mono _ _
   | exact LeO.none _
   | refine LeO.ite ?_ ?_
   | refine LeO.bind ?_ (fun _ => ?_)
theorem tree_mayExpr.mono : ∀ a0 a1 a2 a3 a4 a5 a6 k, LeO (tree_mayExpr.f k a0 a1 a2 a3 a4 a5 a6) (tree_mayExpr.f (k + 1) a0 a1 a2 a3 a4 a5 a6) := by
 intro a0 a1 a2 a3 a4 a5 a6 k
 obtain ⟨ih0, ih1⟩ := tree_mayExpr.mono_l k
 exact ih0 a0 a1 a2 a3 a4 a5 a6
set_option maxHeartbeats 8000000 in
set_option maxRecDepth 100000 in
theorem tree_mayExpr.calls (k : Nat) : ∀ (a0_0 : Int) (a0_1 : ByteArray) (a0_2 : Int) (a0_3 : Int) (a0_4 : ByteArray) (A0_5 : Option Addr) (c0_5 : Nat) (l0_5 : List (S34)) (a1 : Int) (r : Bool) (w : World) (hr0_5 : Kd.C k34 w A0_5 l0_5.length l0_5) (hc0_5 : l0_5.length ≤ c0_5) (hsh : Sh w) (h : tree_mayExpr.f k a0_0 a0_1 a0_2 a0_3 a0_4 l0_5 a1 = some r),
  Calls Tryz.prog 58 #[.agg #[.int .i64 a0_0, .string a0_1, .int .i64 a0_2, .int .i64 a0_3, .string a0_4, .slice A0_5 l0_5.length c0_5], .int .i64 a1] w fun e w' => e = .returned (.bool r) ∧ Below w.heap.size w w' := by
 induction k using Nat.strongRecOn with
 | _ k ih =>
 intro a0_0 a0_1 a0_2 a0_3 a0_4 A0_5 c0_5 l0_5 a1 r w hr0_5 hc0_5 hsh h
 cases k with
 | zero => exact absurd h (by simp [tree_mayExpr.f])
 | succ k =>
 simp only [tree_mayExpr.f] at h
 have hu34 := Tryz.underlying34
 have hu31 := Tryz.underlying31
 have HR0_5 := Aside0.mk hr0_5
 have HC0_5 := Aside0.mk hc0_5
 clear hr0_5 hc0_5
 have HB := Aside0.mk (Below.refl w.heap.size w)
 have H : (if a1 = 0 then (some false) else (if a0_0 = 1 then (if a0_1.toList = ([] : List UInt8) then (if (l0_5.length : Int) = 0 then ((value_May.f a0_2 a0_3 a0_4).bind fun t198 => (if t198 = true then (some (decide (a0_3 ≥ 0))) else (some false))) else (some false)) else (some false)) else (if a0_0 = 2 then (if (a0_2 == 0 && (a0_3 == 0 && (a0_4.toList == ([] : List UInt8)))) = true then (if (l0_5.length : Int) = 0 then ((lex_Word.f k a0_1).bind fun t199 => (some t199)) else (some false)) else (some false)) else (if a0_0 = 3 then (if (!(a0_2 == 0) || (!(a0_3 == 0) || (!(a0_4.toList == ([] : List UInt8))))) = true then (some false) else ((tree_args.f k a0_1).bind fun t200 => (if (l0_5.length : Int) = t200 then (tree_mayExpr.l0 k a1 l0_5 (l0_5.length : Int) 0) else (some false)))) else (some false))))) = some r := h
 clear h
 by_cases c3 : a1 = 0
 ·rw [if_pos c3] at H
  have c3b0 : (a1 == 0) = true := beq_iff_eq.mpr c3
  have c3b1 : (a1 != 0) = false := bne_eq_false_iff_eq.mpr c3
  clear c3
  obtain rfl := Option.some.inj H
  go_enter Tryz.func58, Tryz.ntmps58
  go_wp2_with (first | ((with_reducible refine gate_dst (N := 2) rfl ?_); (try (refine gate_guard (by rfl) ?_; dsimp only)); refine box_ev (N := 2) (cs := #[.int .i64 a0_0, .string a0_1, .int .i64 a0_2, .int .i64 a0_3, .string a0_4, .slice A0_5 l0_5.length c0_5]) (t := 34) ?_; intro gb197 hg w4 hbox hb; have BK197 := Aside0.mk (hbox); have GW197 := Aside0.mk (gsz hg bl : w.heap.size ≤ gb197); have GE197 := Aside0.mk (gsz hg bl : w.heap.size ≤ gb197); replace HB := Aside0.mk (below_step bl hb); clear hb hbox hg))
  repeat (go_quiet (first | ((with_reducible refine gate_dst (N := 2) rfl ?_); (try (refine gate_guard (by rfl) ?_; dsimp only)); refine box_ev (N := 2) (cs := #[.int .i64 a0_0, .string a0_1, .int .i64 a0_2, .int .i64 a0_3, .string a0_4, .slice A0_5 l0_5.length c0_5]) (t := 34) ?_; intro gb197 hg w4 hbox hb; have BK197 := Aside0.mk (hbox); have GW197 := Aside0.mk (gsz hg bl : w.heap.size ≤ gb197); have GE197 := Aside0.mk (gsz hg bl : w.heap.size ≤ gb197); replace HB := Aside0.mk (below_step bl hb); clear hb hbox hg)); try go_wp2_with (first | ((with_reducible refine gate_dst (N := 2) rfl ?_); (try (refine gate_guard (by rfl) ?_; dsimp only)); refine box_ev (N := 2) (cs := #[.int .i64 a0_0, .string a0_1, .int .i64 a0_2, .int .i64 a0_3, .string a0_4, .slice A0_5 l0_5.length c0_5]) (t := 34) ?_; intro gb197 hg w4 hbox hb; have BK197 := Aside0.mk (hbox); have GW197 := Aside0.mk (gsz hg bl : w.heap.size ≤ gb197); have GE197 := Aside0.mk (gsz hg bl : w.heap.size ≤ gb197); replace HB := Aside0.mk (below_step bl hb); clear hb hbox hg)))
  go_ret
  exact ⟨er, bl⟩
 ·rw [if_neg c3] at H
  have c3b0 : (a1 == 0) = false := beq_eq_false_iff_ne.mpr c3
  have c3b1 : (a1 != 0) = true := bne_iff_ne.mpr c3
  by_cases c5 : a0_0 = 1
  ·rw [if_pos c5] at H
   have c5b0 : (a0_0 == 1) = true := beq_iff_eq.mpr c5
   have c5b1 : (a0_0 != 1) = false := bne_eq_false_iff_eq.mpr c5
   clear c5
   by_cases c6 : a0_1.toList = ([] : List UInt8)
   ·rw [if_pos c6] at H
    have c6b0 : (a0_1.toList == ([] : List UInt8)) = true := beq_iff_eq.mpr c6
    have c6b1 : (a0_1.toList != ([] : List UInt8)) = false := bne_eq_false_iff_eq.mpr c6
    clear c6
    by_cases c7 : (l0_5.length : Int) = 0
    ·rw [if_pos c7] at H
     have c7b0 : ((l0_5.length : Int) == 0) = true := beq_iff_eq.mpr c7
     have c7b1 : ((l0_5.length : Int) != 0) = false := bne_eq_false_iff_eq.mpr c7
     clear c7
     obtain ⟨t198, A80, H⟩ := bind_out H
     have A8 := Aside0.mk A80
     clear A80
     by_cases c9 : t198 = true
     ·subst c9
      rw [if_pos rfl] at H
      obtain rfl := Option.some.inj H
      go_enter Tryz.func58, Tryz.ntmps58
      go_wp2_with (first | ((with_reducible refine gate_dst (N := 2) rfl ?_); (try (refine gate_guard (by rfl) ?_; dsimp only)); refine box_ev (N := 2) (cs := #[.int .i64 a0_0, .string a0_1, .int .i64 a0_2, .int .i64 a0_3, .string a0_4, .slice A0_5 l0_5.length c0_5]) (t := 34) ?_; intro gb197 hg w10 hbox hb; have BK197 := Aside0.mk (hbox); have GW197 := Aside0.mk (gsz hg bl : w.heap.size ≤ gb197); have GE197 := Aside0.mk (gsz hg bl : w.heap.size ≤ gb197); replace HB := Aside0.mk (below_step bl hb); clear hb hbox hg; obtain ⟨hcz11_0, hcz11_1, hcz11_2, hcz11_3, hcz11_4, hcz11_5⟩ := cells6 BK197.out; obtain ⟨hfz11_0, hfz11_1, hfz11_2, hfz11_3, hfz11_4, hfz11_5⟩ := froz6 BK197.out) | (go_at_call 100; (with_reducible refine (value_May.calls a0_2 a0_3 a0_4 true _ A8.out).mono ?_); rintro e w12 ⟨rfl, hb⟩; replace BK197 := Aside0.mk (blk_below (g := gb197) (o := .cells #[.int .i64 a0_0, .string a0_1, .int .i64 a0_2, .int .i64 a0_3, .string a0_4, .slice A0_5 l0_5.length c0_5] 34 (0, 0)) bk hb); replace HB := Aside0.mk (below_step bl hb); (try clear hb); obtain ⟨hcz13_0, hcz13_1, hcz13_2, hcz13_3, hcz13_4, hcz13_5⟩ := cells6 BK197.out; obtain ⟨hfz13_0, hfz13_1, hfz13_2, hfz13_3, hfz13_4, hfz13_5⟩ := froz6 BK197.out))
      repeat (go_quiet (first | ((with_reducible refine gate_dst (N := 2) rfl ?_); (try (refine gate_guard (by rfl) ?_; dsimp only)); refine box_ev (N := 2) (cs := #[.int .i64 a0_0, .string a0_1, .int .i64 a0_2, .int .i64 a0_3, .string a0_4, .slice A0_5 l0_5.length c0_5]) (t := 34) ?_; intro gb197 hg w10 hbox hb; have BK197 := Aside0.mk (hbox); have GW197 := Aside0.mk (gsz hg bl : w.heap.size ≤ gb197); have GE197 := Aside0.mk (gsz hg bl : w.heap.size ≤ gb197); replace HB := Aside0.mk (below_step bl hb); clear hb hbox hg; obtain ⟨hcz11_0, hcz11_1, hcz11_2, hcz11_3, hcz11_4, hcz11_5⟩ := cells6 BK197.out; obtain ⟨hfz11_0, hfz11_1, hfz11_2, hfz11_3, hfz11_4, hfz11_5⟩ := froz6 BK197.out) | (go_at_call 100; (with_reducible refine (value_May.calls a0_2 a0_3 a0_4 true _ A8.out).mono ?_); rintro e w12 ⟨rfl, hb⟩; replace BK197 := Aside0.mk (blk_below (g := gb197) (o := .cells #[.int .i64 a0_0, .string a0_1, .int .i64 a0_2, .int .i64 a0_3, .string a0_4, .slice A0_5 l0_5.length c0_5] 34 (0, 0)) bk hb); replace HB := Aside0.mk (below_step bl hb); (try clear hb); obtain ⟨hcz13_0, hcz13_1, hcz13_2, hcz13_3, hcz13_4, hcz13_5⟩ := cells6 BK197.out; obtain ⟨hfz13_0, hfz13_1, hfz13_2, hfz13_3, hfz13_4, hfz13_5⟩ := froz6 BK197.out)); try go_wp2_with (first | ((with_reducible refine gate_dst (N := 2) rfl ?_); (try (refine gate_guard (by rfl) ?_; dsimp only)); refine box_ev (N := 2) (cs := #[.int .i64 a0_0, .string a0_1, .int .i64 a0_2, .int .i64 a0_3, .string a0_4, .slice A0_5 l0_5.length c0_5]) (t := 34) ?_; intro gb197 hg w10 hbox hb; have BK197 := Aside0.mk (hbox); have GW197 := Aside0.mk (gsz hg bl : w.heap.size ≤ gb197); have GE197 := Aside0.mk (gsz hg bl : w.heap.size ≤ gb197); replace HB := Aside0.mk (below_step bl hb); clear hb hbox hg; obtain ⟨hcz11_0, hcz11_1, hcz11_2, hcz11_3, hcz11_4, hcz11_5⟩ := cells6 BK197.out; obtain ⟨hfz11_0, hfz11_1, hfz11_2, hfz11_3, hfz11_4, hfz11_5⟩ := froz6 BK197.out) | (go_at_call 100; (with_reducible refine (value_May.calls a0_2 a0_3 a0_4 true _ A8.out).mono ?_); rintro e w12 ⟨rfl, hb⟩; replace BK197 := Aside0.mk (blk_below (g := gb197) (o := .cells #[.int .i64 a0_0, .string a0_1, .int .i64 a0_2, .int .i64 a0_3, .string a0_4, .slice A0_5 l0_5.length c0_5] 34 (0, 0)) bk hb); replace HB := Aside0.mk (below_step bl hb); (try clear hb); obtain ⟨hcz13_0, hcz13_1, hcz13_2, hcz13_3, hcz13_4, hcz13_5⟩ := cells6 BK197.out; obtain ⟨hfz13_0, hfz13_1, hfz13_2, hfz13_3, hfz13_4, hfz13_5⟩ := froz6 BK197.out)))
      go_ret
      exact ⟨er, bl⟩
     ·replace c9 := Bool.eq_false_iff.mpr c9
      subst c9
      rw [if_neg (show ¬ (false = true) by decide)] at H
      obtain rfl := Option.some.inj H
      go_enter Tryz.func58, Tryz.ntmps58
      go_wp2_with (first | ((with_reducible refine gate_dst (N := 2) rfl ?_); (try (refine gate_guard (by rfl) ?_; dsimp only)); refine box_ev (N := 2) (cs := #[.int .i64 a0_0, .string a0_1, .int .i64 a0_2, .int .i64 a0_3, .string a0_4, .slice A0_5 l0_5.length c0_5]) (t := 34) ?_; intro gb197 hg w14 hbox hb; have BK197 := Aside0.mk (hbox); have GW197 := Aside0.mk (gsz hg bl : w.heap.size ≤ gb197); have GE197 := Aside0.mk (gsz hg bl : w.heap.size ≤ gb197); replace HB := Aside0.mk (below_step bl hb); clear hb hbox hg; obtain ⟨hcz15_0, hcz15_1, hcz15_2, hcz15_3, hcz15_4, hcz15_5⟩ := cells6 BK197.out; obtain ⟨hfz15_0, hfz15_1, hfz15_2, hfz15_3, hfz15_4, hfz15_5⟩ := froz6 BK197.out) | (go_at_call 100; (with_reducible refine (value_May.calls a0_2 a0_3 a0_4 false _ A8.out).mono ?_); rintro e w16 ⟨rfl, hb⟩; replace BK197 := Aside0.mk (blk_below (g := gb197) (o := .cells #[.int .i64 a0_0, .string a0_1, .int .i64 a0_2, .int .i64 a0_3, .string a0_4, .slice A0_5 l0_5.length c0_5] 34 (0, 0)) bk hb); replace HB := Aside0.mk (below_step bl hb); (try clear hb)))
      repeat (go_quiet (first | ((with_reducible refine gate_dst (N := 2) rfl ?_); (try (refine gate_guard (by rfl) ?_; dsimp only)); refine box_ev (N := 2) (cs := #[.int .i64 a0_0, .string a0_1, .int .i64 a0_2, .int .i64 a0_3, .string a0_4, .slice A0_5 l0_5.length c0_5]) (t := 34) ?_; intro gb197 hg w14 hbox hb; have BK197 := Aside0.mk (hbox); have GW197 := Aside0.mk (gsz hg bl : w.heap.size ≤ gb197); have GE197 := Aside0.mk (gsz hg bl : w.heap.size ≤ gb197); replace HB := Aside0.mk (below_step bl hb); clear hb hbox hg; obtain ⟨hcz15_0, hcz15_1, hcz15_2, hcz15_3, hcz15_4, hcz15_5⟩ := cells6 BK197.out; obtain ⟨hfz15_0, hfz15_1, hfz15_2, hfz15_3, hfz15_4, hfz15_5⟩ := froz6 BK197.out) | (go_at_call 100; (with_reducible refine (value_May.calls a0_2 a0_3 a0_4 false _ A8.out).mono ?_); rintro e w16 ⟨rfl, hb⟩; replace BK197 := Aside0.mk (blk_below (g := gb197) (o := .cells #[.int .i64 a0_0, .string a0_1, .int .i64 a0_2, .int .i64 a0_3, .string a0_4, .slice A0_5 l0_5.length c0_5] 34 (0, 0)) bk hb); replace HB := Aside0.mk (below_step bl hb); (try clear hb))); try go_wp2_with (first | ((with_reducible refine gate_dst (N := 2) rfl ?_); (try (refine gate_guard (by rfl) ?_; dsimp only)); refine box_ev (N := 2) (cs := #[.int .i64 a0_0, .string a0_1, .int .i64 a0_2, .int .i64 a0_3, .string a0_4, .slice A0_5 l0_5.length c0_5]) (t := 34) ?_; intro gb197 hg w14 hbox hb; have BK197 := Aside0.mk (hbox); have GW197 := Aside0.mk (gsz hg bl : w.heap.size ≤ gb197); have GE197 := Aside0.mk (gsz hg bl : w.heap.size ≤ gb197); replace HB := Aside0.mk (below_step bl hb); clear hb hbox hg; obtain ⟨hcz15_0, hcz15_1, hcz15_2, hcz15_3, hcz15_4, hcz15_5⟩ := cells6 BK197.out; obtain ⟨hfz15_0, hfz15_1, hfz15_2, hfz15_3, hfz15_4, hfz15_5⟩ := froz6 BK197.out) | (go_at_call 100; (with_reducible refine (value_May.calls a0_2 a0_3 a0_4 false _ A8.out).mono ?_); rintro e w16 ⟨rfl, hb⟩; replace BK197 := Aside0.mk (blk_below (g := gb197) (o := .cells #[.int .i64 a0_0, .string a0_1, .int .i64 a0_2, .int .i64 a0_3, .string a0_4, .slice A0_5 l0_5.length c0_5] 34 (0, 0)) bk hb); replace HB := Aside0.mk (below_step bl hb); (try clear hb))))
      go_ret
      exact ⟨er, bl⟩
    ·rw [if_neg c7] at H
     have c7b0 : ((l0_5.length : Int) == 0) = false := beq_eq_false_iff_ne.mpr c7
     have c7b1 : ((l0_5.length : Int) != 0) = true := bne_iff_ne.mpr c7
     have c7b2 : ¬ (l0_5 = []) := fun h_ => c7 (by rw [h_]; rfl)
     obtain rfl := Option.some.inj H
     go_enter Tryz.func58, Tryz.ntmps58
     go_wp2_with (first | ((with_reducible refine gate_dst (N := 2) rfl ?_); (try (refine gate_guard (by rfl) ?_; dsimp only)); refine box_ev (N := 2) (cs := #[.int .i64 a0_0, .string a0_1, .int .i64 a0_2, .int .i64 a0_3, .string a0_4, .slice A0_5 l0_5.length c0_5]) (t := 34) ?_; intro gb197 hg w17 hbox hb; have BK197 := Aside0.mk (hbox); have GW197 := Aside0.mk (gsz hg bl : w.heap.size ≤ gb197); have GE197 := Aside0.mk (gsz hg bl : w.heap.size ≤ gb197); replace HB := Aside0.mk (below_step bl hb); clear hb hbox hg; obtain ⟨hcz18_0, hcz18_1, hcz18_2, hcz18_3, hcz18_4, hcz18_5⟩ := cells6 BK197.out; obtain ⟨hfz18_0, hfz18_1, hfz18_2, hfz18_3, hfz18_4, hfz18_5⟩ := froz6 BK197.out))
     repeat (go_quiet (first | ((with_reducible refine gate_dst (N := 2) rfl ?_); (try (refine gate_guard (by rfl) ?_; dsimp only)); refine box_ev (N := 2) (cs := #[.int .i64 a0_0, .string a0_1, .int .i64 a0_2, .int .i64 a0_3, .string a0_4, .slice A0_5 l0_5.length c0_5]) (t := 34) ?_; intro gb197 hg w17 hbox hb; have BK197 := Aside0.mk (hbox); have GW197 := Aside0.mk (gsz hg bl : w.heap.size ≤ gb197); have GE197 := Aside0.mk (gsz hg bl : w.heap.size ≤ gb197); replace HB := Aside0.mk (below_step bl hb); clear hb hbox hg; obtain ⟨hcz18_0, hcz18_1, hcz18_2, hcz18_3, hcz18_4, hcz18_5⟩ := cells6 BK197.out; obtain ⟨hfz18_0, hfz18_1, hfz18_2, hfz18_3, hfz18_4, hfz18_5⟩ := froz6 BK197.out)); try go_wp2_with (first | ((with_reducible refine gate_dst (N := 2) rfl ?_); (try (refine gate_guard (by rfl) ?_; dsimp only)); refine box_ev (N := 2) (cs := #[.int .i64 a0_0, .string a0_1, .int .i64 a0_2, .int .i64 a0_3, .string a0_4, .slice A0_5 l0_5.length c0_5]) (t := 34) ?_; intro gb197 hg w17 hbox hb; have BK197 := Aside0.mk (hbox); have GW197 := Aside0.mk (gsz hg bl : w.heap.size ≤ gb197); have GE197 := Aside0.mk (gsz hg bl : w.heap.size ≤ gb197); replace HB := Aside0.mk (below_step bl hb); clear hb hbox hg; obtain ⟨hcz18_0, hcz18_1, hcz18_2, hcz18_3, hcz18_4, hcz18_5⟩ := cells6 BK197.out; obtain ⟨hfz18_0, hfz18_1, hfz18_2, hfz18_3, hfz18_4, hfz18_5⟩ := froz6 BK197.out)))
     go_ret
     exact ⟨er, bl⟩
   ·rw [if_neg c6] at H
    have c6b0 : (a0_1.toList == ([] : List UInt8)) = false := beq_eq_false_iff_ne.mpr c6
    have c6b1 : (a0_1.toList != ([] : List UInt8)) = true := bne_iff_ne.mpr c6
    obtain rfl := Option.some.inj H
    go_enter Tryz.func58, Tryz.ntmps58
    go_wp2_with (first | ((with_reducible refine gate_dst (N := 2) rfl ?_); (try (refine gate_guard (by rfl) ?_; dsimp only)); refine box_ev (N := 2) (cs := #[.int .i64 a0_0, .string a0_1, .int .i64 a0_2, .int .i64 a0_3, .string a0_4, .slice A0_5 l0_5.length c0_5]) (t := 34) ?_; intro gb197 hg w19 hbox hb; have BK197 := Aside0.mk (hbox); have GW197 := Aside0.mk (gsz hg bl : w.heap.size ≤ gb197); have GE197 := Aside0.mk (gsz hg bl : w.heap.size ≤ gb197); replace HB := Aside0.mk (below_step bl hb); clear hb hbox hg; obtain ⟨hcz20_0, hcz20_1, hcz20_2, hcz20_3, hcz20_4, hcz20_5⟩ := cells6 BK197.out; obtain ⟨hfz20_0, hfz20_1, hfz20_2, hfz20_3, hfz20_4, hfz20_5⟩ := froz6 BK197.out))
    repeat (go_quiet (first | ((with_reducible refine gate_dst (N := 2) rfl ?_); (try (refine gate_guard (by rfl) ?_; dsimp only)); refine box_ev (N := 2) (cs := #[.int .i64 a0_0, .string a0_1, .int .i64 a0_2, .int .i64 a0_3, .string a0_4, .slice A0_5 l0_5.length c0_5]) (t := 34) ?_; intro gb197 hg w19 hbox hb; have BK197 := Aside0.mk (hbox); have GW197 := Aside0.mk (gsz hg bl : w.heap.size ≤ gb197); have GE197 := Aside0.mk (gsz hg bl : w.heap.size ≤ gb197); replace HB := Aside0.mk (below_step bl hb); clear hb hbox hg; obtain ⟨hcz20_0, hcz20_1, hcz20_2, hcz20_3, hcz20_4, hcz20_5⟩ := cells6 BK197.out; obtain ⟨hfz20_0, hfz20_1, hfz20_2, hfz20_3, hfz20_4, hfz20_5⟩ := froz6 BK197.out)); try go_wp2_with (first | ((with_reducible refine gate_dst (N := 2) rfl ?_); (try (refine gate_guard (by rfl) ?_; dsimp only)); refine box_ev (N := 2) (cs := #[.int .i64 a0_0, .string a0_1, .int .i64 a0_2, .int .i64 a0_3, .string a0_4, .slice A0_5 l0_5.length c0_5]) (t := 34) ?_; intro gb197 hg w19 hbox hb; have BK197 := Aside0.mk (hbox); have GW197 := Aside0.mk (gsz hg bl : w.heap.size ≤ gb197); have GE197 := Aside0.mk (gsz hg bl : w.heap.size ≤ gb197); replace HB := Aside0.mk (below_step bl hb); clear hb hbox hg; obtain ⟨hcz20_0, hcz20_1, hcz20_2, hcz20_3, hcz20_4, hcz20_5⟩ := cells6 BK197.out; obtain ⟨hfz20_0, hfz20_1, hfz20_2, hfz20_3, hfz20_4, hfz20_5⟩ := froz6 BK197.out)))
    go_ret
    exact ⟨er, bl⟩
  ·rw [if_neg c5] at H
   have c5b0 : (a0_0 == 1) = false := beq_eq_false_iff_ne.mpr c5
   have c5b1 : (a0_0 != 1) = true := bne_iff_ne.mpr c5
   by_cases c21 : a0_0 = 2
   ·rw [if_pos c21] at H
    have c21b0 : (a0_0 == 2) = true := beq_iff_eq.mpr c21
    have c21b1 : (a0_0 != 2) = false := bne_eq_false_iff_eq.mpr c21
    clear c21
    by_cases c22 : (a0_2 == 0 && (a0_3 == 0 && (a0_4.toList == ([] : List UInt8)))) = true
    ·rw [if_pos c22] at H
     have c22b0 : (a0_2 == 0 && (a0_3 == 0 && (a0_4.toList == ([] : List UInt8)))) = true := c22
     have c22e : (a0_2 == 0 && (a0_3 == 0 && a0_4.toList.isEmpty)) = true := by have h_ := c22b0; rwa [show (a0_4.toList == ([] : List UInt8)) = a0_4.toList.isEmpty from by cases a0_4.toList <;> rfl] at h_
     (try (have c22b1 : decide (a0_2 = 0 && (a0_3 == 0 && (a0_4.toList == ([] : List UInt8)))) = true := by simpa using c22))
     (try (have c22b2 : (a0_2 == 0 && (a0_3 == 0 && (a0_4.toList == ([] : List UInt8)))) = true := by simpa using c22))
     clear c22
     by_cases c23 : (l0_5.length : Int) = 0
     ·rw [if_pos c23] at H
      have c23b0 : ((l0_5.length : Int) == 0) = true := beq_iff_eq.mpr c23
      have c23b1 : ((l0_5.length : Int) != 0) = false := bne_eq_false_iff_eq.mpr c23
      clear c23
      obtain ⟨t199, A240, H⟩ := bind_out H
      have A24 := Aside0.mk A240
      clear A240
      obtain rfl := Option.some.inj H
      go_enter Tryz.func58, Tryz.ntmps58
      go_wp2_with (first | ((with_reducible refine gate_dst (N := 2) rfl ?_); (try (refine gate_guard (by rfl) ?_; dsimp only)); refine box_ev (N := 2) (cs := #[.int .i64 a0_0, .string a0_1, .int .i64 a0_2, .int .i64 a0_3, .string a0_4, .slice A0_5 l0_5.length c0_5]) (t := 34) ?_; intro gb197 hg w25 hbox hb; have BK197 := Aside0.mk (hbox); have GW197 := Aside0.mk (gsz hg bl : w.heap.size ≤ gb197); have GE197 := Aside0.mk (gsz hg bl : w.heap.size ≤ gb197); replace HB := Aside0.mk (below_step bl hb); clear hb hbox hg; obtain ⟨hcz26_0, hcz26_1, hcz26_2, hcz26_3, hcz26_4, hcz26_5⟩ := cells6 BK197.out; obtain ⟨hfz26_0, hfz26_1, hfz26_2, hfz26_3, hfz26_4, hfz26_5⟩ := froz6 BK197.out) | (go_at_call 57; (with_reducible refine (lex_Word.calls k a0_1 t199 _ ?side1 A24.out).mono ?_); (case side1 => exact Sh.below hsh bl); rintro e w27 ⟨rfl, hb⟩; replace BK197 := Aside0.mk (blk_below (g := gb197) (o := .cells #[.int .i64 a0_0, .string a0_1, .int .i64 a0_2, .int .i64 a0_3, .string a0_4, .slice A0_5 l0_5.length c0_5] 34 (0, 0)) bk hb); replace HB := Aside0.mk (below_step bl hb); (try clear hb)))
      repeat (go_quiet (first | ((with_reducible refine gate_dst (N := 2) rfl ?_); (try (refine gate_guard (by rfl) ?_; dsimp only)); refine box_ev (N := 2) (cs := #[.int .i64 a0_0, .string a0_1, .int .i64 a0_2, .int .i64 a0_3, .string a0_4, .slice A0_5 l0_5.length c0_5]) (t := 34) ?_; intro gb197 hg w25 hbox hb; have BK197 := Aside0.mk (hbox); have GW197 := Aside0.mk (gsz hg bl : w.heap.size ≤ gb197); have GE197 := Aside0.mk (gsz hg bl : w.heap.size ≤ gb197); replace HB := Aside0.mk (below_step bl hb); clear hb hbox hg; obtain ⟨hcz26_0, hcz26_1, hcz26_2, hcz26_3, hcz26_4, hcz26_5⟩ := cells6 BK197.out; obtain ⟨hfz26_0, hfz26_1, hfz26_2, hfz26_3, hfz26_4, hfz26_5⟩ := froz6 BK197.out) | (go_at_call 57; (with_reducible refine (lex_Word.calls k a0_1 t199 _ ?side1 A24.out).mono ?_); (case side1 => exact Sh.below hsh bl); rintro e w27 ⟨rfl, hb⟩; replace BK197 := Aside0.mk (blk_below (g := gb197) (o := .cells #[.int .i64 a0_0, .string a0_1, .int .i64 a0_2, .int .i64 a0_3, .string a0_4, .slice A0_5 l0_5.length c0_5] 34 (0, 0)) bk hb); replace HB := Aside0.mk (below_step bl hb); (try clear hb))); try go_wp2_with (first | ((with_reducible refine gate_dst (N := 2) rfl ?_); (try (refine gate_guard (by rfl) ?_; dsimp only)); refine box_ev (N := 2) (cs := #[.int .i64 a0_0, .string a0_1, .int .i64 a0_2, .int .i64 a0_3, .string a0_4, .slice A0_5 l0_5.length c0_5]) (t := 34) ?_; intro gb197 hg w25 hbox hb; have BK197 := Aside0.mk (hbox); have GW197 := Aside0.mk (gsz hg bl : w.heap.size ≤ gb197); have GE197 := Aside0.mk (gsz hg bl : w.heap.size ≤ gb197); replace HB := Aside0.mk (below_step bl hb); clear hb hbox hg; obtain ⟨hcz26_0, hcz26_1, hcz26_2, hcz26_3, hcz26_4, hcz26_5⟩ := cells6 BK197.out; obtain ⟨hfz26_0, hfz26_1, hfz26_2, hfz26_3, hfz26_4, hfz26_5⟩ := froz6 BK197.out) | (go_at_call 57; (with_reducible refine (lex_Word.calls k a0_1 t199 _ ?side1 A24.out).mono ?_); (case side1 => exact Sh.below hsh bl); rintro e w27 ⟨rfl, hb⟩; replace BK197 := Aside0.mk (blk_below (g := gb197) (o := .cells #[.int .i64 a0_0, .string a0_1, .int .i64 a0_2, .int .i64 a0_3, .string a0_4, .slice A0_5 l0_5.length c0_5] 34 (0, 0)) bk hb); replace HB := Aside0.mk (below_step bl hb); (try clear hb))))
      go_ret
      exact ⟨er, bl⟩
     ·rw [if_neg c23] at H
      have c23b0 : ((l0_5.length : Int) == 0) = false := beq_eq_false_iff_ne.mpr c23
      have c23b1 : ((l0_5.length : Int) != 0) = true := bne_iff_ne.mpr c23
      have c23b2 : ¬ (l0_5 = []) := fun h_ => c23 (by rw [h_]; rfl)
      obtain rfl := Option.some.inj H
      go_enter Tryz.func58, Tryz.ntmps58
      go_wp2_with (first | ((with_reducible refine gate_dst (N := 2) rfl ?_); (try (refine gate_guard (by rfl) ?_; dsimp only)); refine box_ev (N := 2) (cs := #[.int .i64 a0_0, .string a0_1, .int .i64 a0_2, .int .i64 a0_3, .string a0_4, .slice A0_5 l0_5.length c0_5]) (t := 34) ?_; intro gb197 hg w28 hbox hb; have BK197 := Aside0.mk (hbox); have GW197 := Aside0.mk (gsz hg bl : w.heap.size ≤ gb197); have GE197 := Aside0.mk (gsz hg bl : w.heap.size ≤ gb197); replace HB := Aside0.mk (below_step bl hb); clear hb hbox hg; obtain ⟨hcz29_0, hcz29_1, hcz29_2, hcz29_3, hcz29_4, hcz29_5⟩ := cells6 BK197.out; obtain ⟨hfz29_0, hfz29_1, hfz29_2, hfz29_3, hfz29_4, hfz29_5⟩ := froz6 BK197.out))
      repeat (go_quiet (first | ((with_reducible refine gate_dst (N := 2) rfl ?_); (try (refine gate_guard (by rfl) ?_; dsimp only)); refine box_ev (N := 2) (cs := #[.int .i64 a0_0, .string a0_1, .int .i64 a0_2, .int .i64 a0_3, .string a0_4, .slice A0_5 l0_5.length c0_5]) (t := 34) ?_; intro gb197 hg w28 hbox hb; have BK197 := Aside0.mk (hbox); have GW197 := Aside0.mk (gsz hg bl : w.heap.size ≤ gb197); have GE197 := Aside0.mk (gsz hg bl : w.heap.size ≤ gb197); replace HB := Aside0.mk (below_step bl hb); clear hb hbox hg; obtain ⟨hcz29_0, hcz29_1, hcz29_2, hcz29_3, hcz29_4, hcz29_5⟩ := cells6 BK197.out; obtain ⟨hfz29_0, hfz29_1, hfz29_2, hfz29_3, hfz29_4, hfz29_5⟩ := froz6 BK197.out)); try go_wp2_with (first | ((with_reducible refine gate_dst (N := 2) rfl ?_); (try (refine gate_guard (by rfl) ?_; dsimp only)); refine box_ev (N := 2) (cs := #[.int .i64 a0_0, .string a0_1, .int .i64 a0_2, .int .i64 a0_3, .string a0_4, .slice A0_5 l0_5.length c0_5]) (t := 34) ?_; intro gb197 hg w28 hbox hb; have BK197 := Aside0.mk (hbox); have GW197 := Aside0.mk (gsz hg bl : w.heap.size ≤ gb197); have GE197 := Aside0.mk (gsz hg bl : w.heap.size ≤ gb197); replace HB := Aside0.mk (below_step bl hb); clear hb hbox hg; obtain ⟨hcz29_0, hcz29_1, hcz29_2, hcz29_3, hcz29_4, hcz29_5⟩ := cells6 BK197.out; obtain ⟨hfz29_0, hfz29_1, hfz29_2, hfz29_3, hfz29_4, hfz29_5⟩ := froz6 BK197.out)))
      go_ret
      exact ⟨er, bl⟩
    ·rw [if_neg c22] at H
     have c22b0 : (a0_2 == 0 && (a0_3 == 0 && (a0_4.toList == ([] : List UInt8)))) = false := by simpa using c22
     have c22e : (a0_2 == 0 && (a0_3 == 0 && a0_4.toList.isEmpty)) = false := by have h_ := c22b0; rwa [show (a0_4.toList == ([] : List UInt8)) = a0_4.toList.isEmpty from by cases a0_4.toList <;> rfl] at h_
     (try (have c22b1 : decide (a0_2 = 0 && (a0_3 == 0 && (a0_4.toList == ([] : List UInt8)))) = false := by simpa using c22))
     (try (have c22b2 : (a0_2 == 0 && (a0_3 == 0 && (a0_4.toList == ([] : List UInt8)))) = false := by simpa using c22))
     (try (have c22b3 : ¬ (a0_2 = 0 && (a0_3 == 0 && (a0_4.toList == ([] : List UInt8)))) := by simpa using c22))
     clear c22
     obtain rfl := Option.some.inj H
     go_enter Tryz.func58, Tryz.ntmps58
     go_wp2_with (first | ((with_reducible refine gate_dst (N := 2) rfl ?_); (try (refine gate_guard (by rfl) ?_; dsimp only)); refine box_ev (N := 2) (cs := #[.int .i64 a0_0, .string a0_1, .int .i64 a0_2, .int .i64 a0_3, .string a0_4, .slice A0_5 l0_5.length c0_5]) (t := 34) ?_; intro gb197 hg w30 hbox hb; have BK197 := Aside0.mk (hbox); have GW197 := Aside0.mk (gsz hg bl : w.heap.size ≤ gb197); have GE197 := Aside0.mk (gsz hg bl : w.heap.size ≤ gb197); replace HB := Aside0.mk (below_step bl hb); clear hb hbox hg; obtain ⟨hcz31_0, hcz31_1, hcz31_2, hcz31_3, hcz31_4, hcz31_5⟩ := cells6 BK197.out; obtain ⟨hfz31_0, hfz31_1, hfz31_2, hfz31_3, hfz31_4, hfz31_5⟩ := froz6 BK197.out))
     repeat (go_quiet (first | ((with_reducible refine gate_dst (N := 2) rfl ?_); (try (refine gate_guard (by rfl) ?_; dsimp only)); refine box_ev (N := 2) (cs := #[.int .i64 a0_0, .string a0_1, .int .i64 a0_2, .int .i64 a0_3, .string a0_4, .slice A0_5 l0_5.length c0_5]) (t := 34) ?_; intro gb197 hg w30 hbox hb; have BK197 := Aside0.mk (hbox); have GW197 := Aside0.mk (gsz hg bl : w.heap.size ≤ gb197); have GE197 := Aside0.mk (gsz hg bl : w.heap.size ≤ gb197); replace HB := Aside0.mk (below_step bl hb); clear hb hbox hg; obtain ⟨hcz31_0, hcz31_1, hcz31_2, hcz31_3, hcz31_4, hcz31_5⟩ := cells6 BK197.out; obtain ⟨hfz31_0, hfz31_1, hfz31_2, hfz31_3, hfz31_4, hfz31_5⟩ := froz6 BK197.out)); try go_wp2_with (first | ((with_reducible refine gate_dst (N := 2) rfl ?_); (try (refine gate_guard (by rfl) ?_; dsimp only)); refine box_ev (N := 2) (cs := #[.int .i64 a0_0, .string a0_1, .int .i64 a0_2, .int .i64 a0_3, .string a0_4, .slice A0_5 l0_5.length c0_5]) (t := 34) ?_; intro gb197 hg w30 hbox hb; have BK197 := Aside0.mk (hbox); have GW197 := Aside0.mk (gsz hg bl : w.heap.size ≤ gb197); have GE197 := Aside0.mk (gsz hg bl : w.heap.size ≤ gb197); replace HB := Aside0.mk (below_step bl hb); clear hb hbox hg; obtain ⟨hcz31_0, hcz31_1, hcz31_2, hcz31_3, hcz31_4, hcz31_5⟩ := cells6 BK197.out; obtain ⟨hfz31_0, hfz31_1, hfz31_2, hfz31_3, hfz31_4, hfz31_5⟩ := froz6 BK197.out)))
     go_ret
     exact ⟨er, bl⟩
   ·rw [if_neg c21] at H
    have c21b0 : (a0_0 == 2) = false := beq_eq_false_iff_ne.mpr c21
    have c21b1 : (a0_0 != 2) = true := bne_iff_ne.mpr c21
    by_cases c32 : a0_0 = 3
    ·rw [if_pos c32] at H
     have c32b0 : (a0_0 == 3) = true := beq_iff_eq.mpr c32
     have c32b1 : (a0_0 != 3) = false := bne_eq_false_iff_eq.mpr c32
     clear c32
     by_cases c33 : (!(a0_2 == 0) || (!(a0_3 == 0) || (!(a0_4.toList == ([] : List UInt8))))) = true
     ·rw [if_pos c33] at H
      have c33b0 : (!(a0_2 == 0) || (!(a0_3 == 0) || (!(a0_4.toList == ([] : List UInt8))))) = true := c33
      have c33e : ((a0_2 == 0) && ((a0_3 == 0) && a0_4.toList.isEmpty)) = false := by have h_ := c33b0; rw [show (a0_4.toList == ([] : List UInt8)) = a0_4.toList.isEmpty from by cases a0_4.toList <;> rfl] at h_; cases hA : (a0_2 == 0) <;> cases hB : (a0_3 == 0) <;> cases hC : a0_4.toList.isEmpty <;> simp_all
      clear c33
      obtain rfl := Option.some.inj H
      go_enter Tryz.func58, Tryz.ntmps58
      go_wp2_with (first | ((with_reducible refine gate_dst (N := 2) rfl ?_); (try (refine gate_guard (by rfl) ?_; dsimp only)); refine box_ev (N := 2) (cs := #[.int .i64 a0_0, .string a0_1, .int .i64 a0_2, .int .i64 a0_3, .string a0_4, .slice A0_5 l0_5.length c0_5]) (t := 34) ?_; intro gb197 hg w34 hbox hb; have BK197 := Aside0.mk (hbox); have GW197 := Aside0.mk (gsz hg bl : w.heap.size ≤ gb197); have GE197 := Aside0.mk (gsz hg bl : w.heap.size ≤ gb197); replace HB := Aside0.mk (below_step bl hb); clear hb hbox hg; obtain ⟨hcz35_0, hcz35_1, hcz35_2, hcz35_3, hcz35_4, hcz35_5⟩ := cells6 BK197.out; obtain ⟨hfz35_0, hfz35_1, hfz35_2, hfz35_3, hfz35_4, hfz35_5⟩ := froz6 BK197.out))
      repeat (go_quiet (first | ((with_reducible refine gate_dst (N := 2) rfl ?_); (try (refine gate_guard (by rfl) ?_; dsimp only)); refine box_ev (N := 2) (cs := #[.int .i64 a0_0, .string a0_1, .int .i64 a0_2, .int .i64 a0_3, .string a0_4, .slice A0_5 l0_5.length c0_5]) (t := 34) ?_; intro gb197 hg w34 hbox hb; have BK197 := Aside0.mk (hbox); have GW197 := Aside0.mk (gsz hg bl : w.heap.size ≤ gb197); have GE197 := Aside0.mk (gsz hg bl : w.heap.size ≤ gb197); replace HB := Aside0.mk (below_step bl hb); clear hb hbox hg; obtain ⟨hcz35_0, hcz35_1, hcz35_2, hcz35_3, hcz35_4, hcz35_5⟩ := cells6 BK197.out; obtain ⟨hfz35_0, hfz35_1, hfz35_2, hfz35_3, hfz35_4, hfz35_5⟩ := froz6 BK197.out)); try go_wp2_with (first | ((with_reducible refine gate_dst (N := 2) rfl ?_); (try (refine gate_guard (by rfl) ?_; dsimp only)); refine box_ev (N := 2) (cs := #[.int .i64 a0_0, .string a0_1, .int .i64 a0_2, .int .i64 a0_3, .string a0_4, .slice A0_5 l0_5.length c0_5]) (t := 34) ?_; intro gb197 hg w34 hbox hb; have BK197 := Aside0.mk (hbox); have GW197 := Aside0.mk (gsz hg bl : w.heap.size ≤ gb197); have GE197 := Aside0.mk (gsz hg bl : w.heap.size ≤ gb197); replace HB := Aside0.mk (below_step bl hb); clear hb hbox hg; obtain ⟨hcz35_0, hcz35_1, hcz35_2, hcz35_3, hcz35_4, hcz35_5⟩ := cells6 BK197.out; obtain ⟨hfz35_0, hfz35_1, hfz35_2, hfz35_3, hfz35_4, hfz35_5⟩ := froz6 BK197.out)))
      go_ret
      exact ⟨er, bl⟩
     ·rw [if_neg c33] at H
      have c33b0 : (!(a0_2 == 0) || (!(a0_3 == 0) || (!(a0_4.toList == ([] : List UInt8))))) = false := by simpa using c33
      have c33e : ((a0_2 == 0) && ((a0_3 == 0) && a0_4.toList.isEmpty)) = true := by have h_ := c33b0; rw [show (a0_4.toList == ([] : List UInt8)) = a0_4.toList.isEmpty from by cases a0_4.toList <;> rfl] at h_; cases hA : (a0_2 == 0) <;> cases hB : (a0_3 == 0) <;> cases hC : a0_4.toList.isEmpty <;> simp_all
      clear c33
      obtain ⟨t200, A360, H⟩ := bind_out H
      have A36 := Aside0.mk A360
      clear A360
      by_cases c37 : (l0_5.length : Int) = t200
      ·rw [if_pos c37] at H
       have c37b0 : ((l0_5.length : Int) == t200) = true := beq_iff_eq.mpr c37
       have c37b1 : ((l0_5.length : Int) != t200) = false := bne_eq_false_iff_eq.mpr c37
       clear c37
       have H' := Aside0.mk H
       clear H
       go_enter Tryz.func58, Tryz.ntmps58
       go_wp2_with (first | ((with_reducible refine gate_dst (N := 2) rfl ?_); (try (refine gate_guard (by rfl) ?_; dsimp only)); refine box_ev (N := 2) (cs := #[.int .i64 a0_0, .string a0_1, .int .i64 a0_2, .int .i64 a0_3, .string a0_4, .slice A0_5 l0_5.length c0_5]) (t := 34) ?_; intro gb197 hg w38 hbox hb; have BK197 := Aside0.mk (hbox); have GW197 := Aside0.mk (gsz hg bl : w.heap.size ≤ gb197); have GE197 := Aside0.mk (gsz hg bl : w.heap.size ≤ gb197); replace HB := Aside0.mk (below_step bl hb); clear hb hbox hg; obtain ⟨hcz39_0, hcz39_1, hcz39_2, hcz39_3, hcz39_4, hcz39_5⟩ := cells6 BK197.out; obtain ⟨hfz39_0, hfz39_1, hfz39_2, hfz39_3, hfz39_4, hfz39_5⟩ := froz6 BK197.out) | (go_at_call 101; (with_reducible refine (tree_args.calls k a0_1 t200 _ A36.out).mono ?_); rintro e w' ⟨rfl, ⟨nd, rfl⟩⟩; (try first | exact ⟨rfl, _, World.drewN_drewN _ _ _⟩ | exact ⟨rfl, _, Eq.trans (World.drewN_drewN _ _ _) (congrArg (World.drewN _) (Nat.add_assoc _ _ _))⟩)))
       repeat (go_quiet (first | ((with_reducible refine gate_dst (N := 2) rfl ?_); (try (refine gate_guard (by rfl) ?_; dsimp only)); refine box_ev (N := 2) (cs := #[.int .i64 a0_0, .string a0_1, .int .i64 a0_2, .int .i64 a0_3, .string a0_4, .slice A0_5 l0_5.length c0_5]) (t := 34) ?_; intro gb197 hg w38 hbox hb; have BK197 := Aside0.mk (hbox); have GW197 := Aside0.mk (gsz hg bl : w.heap.size ≤ gb197); have GE197 := Aside0.mk (gsz hg bl : w.heap.size ≤ gb197); replace HB := Aside0.mk (below_step bl hb); clear hb hbox hg; obtain ⟨hcz39_0, hcz39_1, hcz39_2, hcz39_3, hcz39_4, hcz39_5⟩ := cells6 BK197.out; obtain ⟨hfz39_0, hfz39_1, hfz39_2, hfz39_3, hfz39_4, hfz39_5⟩ := froz6 BK197.out) | (go_at_call 101; (with_reducible refine (tree_args.calls k a0_1 t200 _ A36.out).mono ?_); rintro e w' ⟨rfl, ⟨nd, rfl⟩⟩; (try first | exact ⟨rfl, _, World.drewN_drewN _ _ _⟩ | exact ⟨rfl, _, Eq.trans (World.drewN_drewN _ _ _) (congrArg (World.drewN _) (Nat.add_assoc _ _ _))⟩))); try go_wp2_with (first | ((with_reducible refine gate_dst (N := 2) rfl ?_); (try (refine gate_guard (by rfl) ?_; dsimp only)); refine box_ev (N := 2) (cs := #[.int .i64 a0_0, .string a0_1, .int .i64 a0_2, .int .i64 a0_3, .string a0_4, .slice A0_5 l0_5.length c0_5]) (t := 34) ?_; intro gb197 hg w38 hbox hb; have BK197 := Aside0.mk (hbox); have GW197 := Aside0.mk (gsz hg bl : w.heap.size ≤ gb197); have GE197 := Aside0.mk (gsz hg bl : w.heap.size ≤ gb197); replace HB := Aside0.mk (below_step bl hb); clear hb hbox hg; obtain ⟨hcz39_0, hcz39_1, hcz39_2, hcz39_3, hcz39_4, hcz39_5⟩ := cells6 BK197.out; obtain ⟨hfz39_0, hfz39_1, hfz39_2, hfz39_3, hfz39_4, hfz39_5⟩ := froz6 BK197.out) | (go_at_call 101; (with_reducible refine (tree_args.calls k a0_1 t200 _ A36.out).mono ?_); rintro e w' ⟨rfl, ⟨nd, rfl⟩⟩; (try first | exact ⟨rfl, _, World.drewN_drewN _ _ _⟩ | exact ⟨rfl, _, Eq.trans (World.drewN_drewN _ _ _) (congrArg (World.drewN _) (Nat.add_assoc _ _ _))⟩))))
       go_loopg [75] k (fun kq v75 w' => ∃ (x75_1 : Int), v75 = .int .i64 x75_1 ∧ Aside0 (tree_mayExpr.l0 kq a1 l0_5 (l0_5.length : Int) x75_1 = some r) ∧ Aside0 (kq ≤ k) ∧ Aside0 (w'.heap[gb197]? = some (.cells #[.int .i64 a0_0, .string a0_1, .int .i64 a0_2, .int .i64 a0_3, .string a0_4, (.slice A0_5 l0_5.length c0_5)] 34 (0, 0))) ∧ Aside0 (Below w.heap.size w w'))
       case atStart => exact ⟨(0), rs, H', ⟨Nat.le_refl _⟩, ⟨bk⟩, ⟨bl⟩⟩
       case round =>
        clear H'
        try clear c3
        try clear c3b0
        try clear c3b1
        try clear c5
        try clear c5b0
        try clear c5b1
        try clear c21
        try clear c21b0
        try clear c21b1
        try clear c32
        try clear c32b0
        try clear c32b1
        try clear c33
        try clear c33b0
        try clear c37
        try clear c37b0
        try clear c37b1
        try clear hcz39_0 hcz39_1 hcz39_2 hcz39_3 hcz39_4 hcz39_5 hfz39_0 hfz39_1 hfz39_2 hfz39_3 hfz39_4 hfz39_5
        obtain ⟨x75_1, rfl, HA, HK1, BK197, HB⟩ := hrel
        cases gk with
        | zero => exact absurd HA.out (by simp [tree_mayExpr.l0])
        | succ k1 =>
         have H := HA.out
         clear HA
         simp only [tree_mayExpr.l0] at H
         by_cases c40 : x75_1 < (l0_5.length : Int)
         ·rw [if_pos c40] at H
          have c40b0 : decide (x75_1 < (l0_5.length : Int)) = true := decide_eq_true c40
          clear c40
          by_cases c41 : 0 ≤ x75_1
          ·rw [if_pos c41] at H
           have c41b0 : decide (0 ≤ x75_1) = true := decide_eq_true c41
           clear c41
           by_cases c42 : x75_1 < (l0_5.length : Int)
           ·rw [if_pos c42] at H
            have c42b0 : decide (x75_1 < (l0_5.length : Int)) = true := decide_eq_true c42
            clear c42
            obtain ⟨t203, A430, H⟩ := bind_out H
            have A43 := Aside0.mk A430
            clear A430
            by_cases c44 : t203 = true
            ·subst c44
             rw [if_pos rfl] at H
             have H' := Aside0.mk H
             clear H
             have p201 : 0 ≤ (x75_1 : Int) := of_decide_eq_true (by assumption)
             have q201 : x75_1 < (l0_5.length : Int) := of_decide_eq_true (by assumption)
             obtain ⟨ad201, A201_5, c201_5, e201, hx201_0, hx201_1, hx201_2, hx201_3, hx201_4, hx201_5, hl201_5, hi201_5⟩ := at_T34 HR0_5.out x75_1 p201 q201
             cases e201
             replace hx201_0 := lx HB hx201_0
             replace hx201_1 := lx HB hx201_1
             replace hx201_2 := lx HB hx201_2
             replace hx201_3 := lx HB hx201_3
             replace hx201_4 := lx HB hx201_4
             replace hx201_5 := lx HB hx201_5
             have HR201_5 := Aside0.mk hi201_5
             have HC201_5 := Aside0.mk hl201_5
             clear hi201_5 hl201_5
             replace p201 := eq_true p201
             replace q201 := eq_true q201
             go_wp2_with (first | ((with_reducible refine gate_dst (N := 6) rfl ?_); (try (refine gate_guard (by rfl) ?_; dsimp only)); refine box_event ?hg (N := 6) ?hd (cs := #[.int .i64 0, .string (⟨#[]⟩ : ByteArray), .int .i64 0, .int .i64 0, .string (⟨#[]⟩ : ByteArray), .slice none 0 0]) (t := 34) ?hr ?_; (case hd => rfl); (case hg => rfl); (case hr => first | (go_simp; done) | (go_simp; rfl)); intro gb202 hg w45 hbox hb; have BK202 := Aside0.mk (hbox); have GW202 := Aside0.mk (gsz hg bl : w.heap.size ≤ gb202); have GE202 := Aside0.mk (gsz hg bl : w.heap.size ≤ gb202); have NB197_202 := Aside0.mk ((by rw [hg]; exact Nat.ne_of_lt (blk_lt (g := gb197) (o := .cells #[.int .i64 a0_0, .string a0_1, .int .i64 a0_2, .int .i64 a0_3, .string a0_4, .slice (some ad201) l0_5.length c0_5] 34 (0, 0)) bk) : gb197 ≠ gb202)); have NB202_197 := Aside0.mk ((by rw [hg]; exact Nat.ne_of_gt (blk_lt (g := gb197) (o := .cells #[.int .i64 a0_0, .string a0_1, .int .i64 a0_2, .int .i64 a0_3, .string a0_4, .slice (some ad201) l0_5.length c0_5] 34 (0, 0)) bk) : gb202 ≠ gb197)); replace BK197 := Aside0.mk (blk_below (g := gb197) (o := .cells #[.int .i64 a0_0, .string a0_1, .int .i64 a0_2, .int .i64 a0_3, .string a0_4, .slice (some ad201) l0_5.length c0_5] 34 (0, 0)) bk hb); replace HB := Aside0.mk (below_step bl hb); clear hb hbox hg; have hnb46 := NB202_197.out; have hnc46 := NB197_202.out; obtain ⟨hcz47_0, hcz47_1, hcz47_2, hcz47_3, hcz47_4, hcz47_5⟩ := cells6 BK202.out; obtain ⟨hfz47_0, hfz47_1, hfz47_2, hfz47_3, hfz47_4, hfz47_5⟩ := froz6 BK202.out) | (go_at_call 58; (with_reducible refine (ih k1 (by have := HK1.out; omega) ((rd_T34 l0_5 x75_1).f0) ((rd_T34 l0_5 x75_1).f1) ((rd_T34 l0_5 x75_1).f2.f0) ((rd_T34 l0_5 x75_1).f2.f1) ((rd_T34 l0_5 x75_1).f2.f2) _ _ ((rd_T34 l0_5 x75_1).f3) (wrap64 (a1 - 1)) true _ ?side1 ?side2 ?side3 A43.out).mono ?_); (case side1 => exact Kd.C_below HR201_5.out bl); (case side2 => exact HC201_5.out); (case side3 => exact Sh.below hsh bl); rintro e w48 ⟨rfl, hb⟩; replace BK197 := Aside0.mk (blk_below (g := gb197) (o := .cells #[.int .i64 a0_0, .string a0_1, .int .i64 a0_2, .int .i64 a0_3, .string a0_4, .slice (some ad201) l0_5.length c0_5] 34 (0, 0)) bf6 hb); replace BK202 := Aside0.mk (blk_below (g := gb202) (o := .cells #[.int .i64 ((rd_T34 l0_5 x75_1).f0), .string ((rd_T34 l0_5 x75_1).f1), .int .i64 ((rd_T34 l0_5 x75_1).f2.f0), .int .i64 ((rd_T34 l0_5 x75_1).f2.f1), .string ((rd_T34 l0_5 x75_1).f2.f2), .slice A201_5 ((rd_T34 l0_5 x75_1).f3).length c201_5] 34 (0, 0)) bp6 hb); replace HB := Aside0.mk (below_step bl hb); (try clear hb)))
             repeat (go_quiet (first | ((with_reducible refine gate_dst (N := 6) rfl ?_); (try (refine gate_guard (by rfl) ?_; dsimp only)); refine box_event ?hg (N := 6) ?hd (cs := #[.int .i64 0, .string (⟨#[]⟩ : ByteArray), .int .i64 0, .int .i64 0, .string (⟨#[]⟩ : ByteArray), .slice none 0 0]) (t := 34) ?hr ?_; (case hd => rfl); (case hg => rfl); (case hr => first | (go_simp; done) | (go_simp; rfl)); intro gb202 hg w45 hbox hb; have BK202 := Aside0.mk (hbox); have GW202 := Aside0.mk (gsz hg bl : w.heap.size ≤ gb202); have GE202 := Aside0.mk (gsz hg bl : w.heap.size ≤ gb202); have NB197_202 := Aside0.mk ((by rw [hg]; exact Nat.ne_of_lt (blk_lt (g := gb197) (o := .cells #[.int .i64 a0_0, .string a0_1, .int .i64 a0_2, .int .i64 a0_3, .string a0_4, .slice (some ad201) l0_5.length c0_5] 34 (0, 0)) bk) : gb197 ≠ gb202)); have NB202_197 := Aside0.mk ((by rw [hg]; exact Nat.ne_of_gt (blk_lt (g := gb197) (o := .cells #[.int .i64 a0_0, .string a0_1, .int .i64 a0_2, .int .i64 a0_3, .string a0_4, .slice (some ad201) l0_5.length c0_5] 34 (0, 0)) bk) : gb202 ≠ gb197)); replace BK197 := Aside0.mk (blk_below (g := gb197) (o := .cells #[.int .i64 a0_0, .string a0_1, .int .i64 a0_2, .int .i64 a0_3, .string a0_4, .slice (some ad201) l0_5.length c0_5] 34 (0, 0)) bk hb); replace HB := Aside0.mk (below_step bl hb); clear hb hbox hg; have hnb46 := NB202_197.out; have hnc46 := NB197_202.out; obtain ⟨hcz47_0, hcz47_1, hcz47_2, hcz47_3, hcz47_4, hcz47_5⟩ := cells6 BK202.out; obtain ⟨hfz47_0, hfz47_1, hfz47_2, hfz47_3, hfz47_4, hfz47_5⟩ := froz6 BK202.out) | (go_at_call 58; (with_reducible refine (ih k1 (by have := HK1.out; omega) ((rd_T34 l0_5 x75_1).f0) ((rd_T34 l0_5 x75_1).f1) ((rd_T34 l0_5 x75_1).f2.f0) ((rd_T34 l0_5 x75_1).f2.f1) ((rd_T34 l0_5 x75_1).f2.f2) _ _ ((rd_T34 l0_5 x75_1).f3) (wrap64 (a1 - 1)) true _ ?side1 ?side2 ?side3 A43.out).mono ?_); (case side1 => exact Kd.C_below HR201_5.out bl); (case side2 => exact HC201_5.out); (case side3 => exact Sh.below hsh bl); rintro e w48 ⟨rfl, hb⟩; replace BK197 := Aside0.mk (blk_below (g := gb197) (o := .cells #[.int .i64 a0_0, .string a0_1, .int .i64 a0_2, .int .i64 a0_3, .string a0_4, .slice (some ad201) l0_5.length c0_5] 34 (0, 0)) bf6 hb); replace BK202 := Aside0.mk (blk_below (g := gb202) (o := .cells #[.int .i64 ((rd_T34 l0_5 x75_1).f0), .string ((rd_T34 l0_5 x75_1).f1), .int .i64 ((rd_T34 l0_5 x75_1).f2.f0), .int .i64 ((rd_T34 l0_5 x75_1).f2.f1), .string ((rd_T34 l0_5 x75_1).f2.f2), .slice A201_5 ((rd_T34 l0_5 x75_1).f3).length c201_5] 34 (0, 0)) bp6 hb); replace HB := Aside0.mk (below_step bl hb); (try clear hb))); try go_wp2_with (first | ((with_reducible refine gate_dst (N := 6) rfl ?_); (try (refine gate_guard (by rfl) ?_; dsimp only)); refine box_event ?hg (N := 6) ?hd (cs := #[.int .i64 0, .string (⟨#[]⟩ : ByteArray), .int .i64 0, .int .i64 0, .string (⟨#[]⟩ : ByteArray), .slice none 0 0]) (t := 34) ?hr ?_; (case hd => rfl); (case hg => rfl); (case hr => first | (go_simp; done) | (go_simp; rfl)); intro gb202 hg w45 hbox hb; have BK202 := Aside0.mk (hbox); have GW202 := Aside0.mk (gsz hg bl : w.heap.size ≤ gb202); have GE202 := Aside0.mk (gsz hg bl : w.heap.size ≤ gb202); have NB197_202 := Aside0.mk ((by rw [hg]; exact Nat.ne_of_lt (blk_lt (g := gb197) (o := .cells #[.int .i64 a0_0, .string a0_1, .int .i64 a0_2, .int .i64 a0_3, .string a0_4, .slice (some ad201) l0_5.length c0_5] 34 (0, 0)) bk) : gb197 ≠ gb202)); have NB202_197 := Aside0.mk ((by rw [hg]; exact Nat.ne_of_gt (blk_lt (g := gb197) (o := .cells #[.int .i64 a0_0, .string a0_1, .int .i64 a0_2, .int .i64 a0_3, .string a0_4, .slice (some ad201) l0_5.length c0_5] 34 (0, 0)) bk) : gb202 ≠ gb197)); replace BK197 := Aside0.mk (blk_below (g := gb197) (o := .cells #[.int .i64 a0_0, .string a0_1, .int .i64 a0_2, .int .i64 a0_3, .string a0_4, .slice (some ad201) l0_5.length c0_5] 34 (0, 0)) bk hb); replace HB := Aside0.mk (below_step bl hb); clear hb hbox hg; have hnb46 := NB202_197.out; have hnc46 := NB197_202.out; obtain ⟨hcz47_0, hcz47_1, hcz47_2, hcz47_3, hcz47_4, hcz47_5⟩ := cells6 BK202.out; obtain ⟨hfz47_0, hfz47_1, hfz47_2, hfz47_3, hfz47_4, hfz47_5⟩ := froz6 BK202.out) | (go_at_call 58; (with_reducible refine (ih k1 (by have := HK1.out; omega) ((rd_T34 l0_5 x75_1).f0) ((rd_T34 l0_5 x75_1).f1) ((rd_T34 l0_5 x75_1).f2.f0) ((rd_T34 l0_5 x75_1).f2.f1) ((rd_T34 l0_5 x75_1).f2.f2) _ _ ((rd_T34 l0_5 x75_1).f3) (wrap64 (a1 - 1)) true _ ?side1 ?side2 ?side3 A43.out).mono ?_); (case side1 => exact Kd.C_below HR201_5.out bl); (case side2 => exact HC201_5.out); (case side3 => exact Sh.below hsh bl); rintro e w48 ⟨rfl, hb⟩; replace BK197 := Aside0.mk (blk_below (g := gb197) (o := .cells #[.int .i64 a0_0, .string a0_1, .int .i64 a0_2, .int .i64 a0_3, .string a0_4, .slice (some ad201) l0_5.length c0_5] 34 (0, 0)) bf6 hb); replace BK202 := Aside0.mk (blk_below (g := gb202) (o := .cells #[.int .i64 ((rd_T34 l0_5 x75_1).f0), .string ((rd_T34 l0_5 x75_1).f1), .int .i64 ((rd_T34 l0_5 x75_1).f2.f0), .int .i64 ((rd_T34 l0_5 x75_1).f2.f1), .string ((rd_T34 l0_5 x75_1).f2.f2), .slice A201_5 ((rd_T34 l0_5 x75_1).f3).length c201_5] 34 (0, 0)) bp6 hb); replace HB := Aside0.mk (below_step bl hb); (try clear hb))))
             go_roundg k1
             case measure => have := HK1.out; omega
             case rel => exact ⟨(wrap64 (x75_1 + 1)), rs, H', ⟨by have := HK1.out; omega⟩, ⟨bk⟩, ⟨bl⟩⟩
            ·replace c44 := Bool.eq_false_iff.mpr c44
             subst c44
             rw [if_neg (show ¬ (false = true) by decide)] at H
             obtain rfl := Option.some.inj H
             have p201 : 0 ≤ (x75_1 : Int) := of_decide_eq_true (by assumption)
             have q201 : x75_1 < (l0_5.length : Int) := of_decide_eq_true (by assumption)
             obtain ⟨ad201, A201_5, c201_5, e201, hx201_0, hx201_1, hx201_2, hx201_3, hx201_4, hx201_5, hl201_5, hi201_5⟩ := at_T34 HR0_5.out x75_1 p201 q201
             cases e201
             replace hx201_0 := lx HB hx201_0
             replace hx201_1 := lx HB hx201_1
             replace hx201_2 := lx HB hx201_2
             replace hx201_3 := lx HB hx201_3
             replace hx201_4 := lx HB hx201_4
             replace hx201_5 := lx HB hx201_5
             have HR201_5 := Aside0.mk hi201_5
             have HC201_5 := Aside0.mk hl201_5
             clear hi201_5 hl201_5
             replace p201 := eq_true p201
             replace q201 := eq_true q201
             go_wp2_with (first | ((with_reducible refine gate_dst (N := 6) rfl ?_); (try (refine gate_guard (by rfl) ?_; dsimp only)); refine box_event ?hg (N := 6) ?hd (cs := #[.int .i64 0, .string (⟨#[]⟩ : ByteArray), .int .i64 0, .int .i64 0, .string (⟨#[]⟩ : ByteArray), .slice none 0 0]) (t := 34) ?hr ?_; (case hd => rfl); (case hg => rfl); (case hr => first | (go_simp; done) | (go_simp; rfl)); intro gb202 hg w49 hbox hb; have BK202 := Aside0.mk (hbox); have GW202 := Aside0.mk (gsz hg bl : w.heap.size ≤ gb202); have GE202 := Aside0.mk (gsz hg bl : w.heap.size ≤ gb202); have NB197_202 := Aside0.mk ((by rw [hg]; exact Nat.ne_of_lt (blk_lt (g := gb197) (o := .cells #[.int .i64 a0_0, .string a0_1, .int .i64 a0_2, .int .i64 a0_3, .string a0_4, .slice (some ad201) l0_5.length c0_5] 34 (0, 0)) bk) : gb197 ≠ gb202)); have NB202_197 := Aside0.mk ((by rw [hg]; exact Nat.ne_of_gt (blk_lt (g := gb197) (o := .cells #[.int .i64 a0_0, .string a0_1, .int .i64 a0_2, .int .i64 a0_3, .string a0_4, .slice (some ad201) l0_5.length c0_5] 34 (0, 0)) bk) : gb202 ≠ gb197)); replace BK197 := Aside0.mk (blk_below (g := gb197) (o := .cells #[.int .i64 a0_0, .string a0_1, .int .i64 a0_2, .int .i64 a0_3, .string a0_4, .slice (some ad201) l0_5.length c0_5] 34 (0, 0)) bk hb); replace HB := Aside0.mk (below_step bl hb); clear hb hbox hg; have hnb50 := NB202_197.out; have hnc50 := NB197_202.out; obtain ⟨hcz51_0, hcz51_1, hcz51_2, hcz51_3, hcz51_4, hcz51_5⟩ := cells6 BK202.out; obtain ⟨hfz51_0, hfz51_1, hfz51_2, hfz51_3, hfz51_4, hfz51_5⟩ := froz6 BK202.out) | (go_at_call 58; (with_reducible refine (ih k1 (by have := HK1.out; omega) ((rd_T34 l0_5 x75_1).f0) ((rd_T34 l0_5 x75_1).f1) ((rd_T34 l0_5 x75_1).f2.f0) ((rd_T34 l0_5 x75_1).f2.f1) ((rd_T34 l0_5 x75_1).f2.f2) _ _ ((rd_T34 l0_5 x75_1).f3) (wrap64 (a1 - 1)) false _ ?side1 ?side2 ?side3 A43.out).mono ?_); (case side1 => exact Kd.C_below HR201_5.out bl); (case side2 => exact HC201_5.out); (case side3 => exact Sh.below hsh bl); rintro e w52 ⟨rfl, hb⟩; replace BK197 := Aside0.mk (blk_below (g := gb197) (o := .cells #[.int .i64 a0_0, .string a0_1, .int .i64 a0_2, .int .i64 a0_3, .string a0_4, .slice (some ad201) l0_5.length c0_5] 34 (0, 0)) bf6 hb); replace BK202 := Aside0.mk (blk_below (g := gb202) (o := .cells #[.int .i64 ((rd_T34 l0_5 x75_1).f0), .string ((rd_T34 l0_5 x75_1).f1), .int .i64 ((rd_T34 l0_5 x75_1).f2.f0), .int .i64 ((rd_T34 l0_5 x75_1).f2.f1), .string ((rd_T34 l0_5 x75_1).f2.f2), .slice A201_5 ((rd_T34 l0_5 x75_1).f3).length c201_5] 34 (0, 0)) bp6 hb); replace HB := Aside0.mk (below_step bl hb); (try clear hb)))
             repeat (go_quiet (first | ((with_reducible refine gate_dst (N := 6) rfl ?_); (try (refine gate_guard (by rfl) ?_; dsimp only)); refine box_event ?hg (N := 6) ?hd (cs := #[.int .i64 0, .string (⟨#[]⟩ : ByteArray), .int .i64 0, .int .i64 0, .string (⟨#[]⟩ : ByteArray), .slice none 0 0]) (t := 34) ?hr ?_; (case hd => rfl); (case hg => rfl); (case hr => first | (go_simp; done) | (go_simp; rfl)); intro gb202 hg w49 hbox hb; have BK202 := Aside0.mk (hbox); have GW202 := Aside0.mk (gsz hg bl : w.heap.size ≤ gb202); have GE202 := Aside0.mk (gsz hg bl : w.heap.size ≤ gb202); have NB197_202 := Aside0.mk ((by rw [hg]; exact Nat.ne_of_lt (blk_lt (g := gb197) (o := .cells #[.int .i64 a0_0, .string a0_1, .int .i64 a0_2, .int .i64 a0_3, .string a0_4, .slice (some ad201) l0_5.length c0_5] 34 (0, 0)) bk) : gb197 ≠ gb202)); have NB202_197 := Aside0.mk ((by rw [hg]; exact Nat.ne_of_gt (blk_lt (g := gb197) (o := .cells #[.int .i64 a0_0, .string a0_1, .int .i64 a0_2, .int .i64 a0_3, .string a0_4, .slice (some ad201) l0_5.length c0_5] 34 (0, 0)) bk) : gb202 ≠ gb197)); replace BK197 := Aside0.mk (blk_below (g := gb197) (o := .cells #[.int .i64 a0_0, .string a0_1, .int .i64 a0_2, .int .i64 a0_3, .string a0_4, .slice (some ad201) l0_5.length c0_5] 34 (0, 0)) bk hb); replace HB := Aside0.mk (below_step bl hb); clear hb hbox hg; have hnb50 := NB202_197.out; have hnc50 := NB197_202.out; obtain ⟨hcz51_0, hcz51_1, hcz51_2, hcz51_3, hcz51_4, hcz51_5⟩ := cells6 BK202.out; obtain ⟨hfz51_0, hfz51_1, hfz51_2, hfz51_3, hfz51_4, hfz51_5⟩ := froz6 BK202.out) | (go_at_call 58; (with_reducible refine (ih k1 (by have := HK1.out; omega) ((rd_T34 l0_5 x75_1).f0) ((rd_T34 l0_5 x75_1).f1) ((rd_T34 l0_5 x75_1).f2.f0) ((rd_T34 l0_5 x75_1).f2.f1) ((rd_T34 l0_5 x75_1).f2.f2) _ _ ((rd_T34 l0_5 x75_1).f3) (wrap64 (a1 - 1)) false _ ?side1 ?side2 ?side3 A43.out).mono ?_); (case side1 => exact Kd.C_below HR201_5.out bl); (case side2 => exact HC201_5.out); (case side3 => exact Sh.below hsh bl); rintro e w52 ⟨rfl, hb⟩; replace BK197 := Aside0.mk (blk_below (g := gb197) (o := .cells #[.int .i64 a0_0, .string a0_1, .int .i64 a0_2, .int .i64 a0_3, .string a0_4, .slice (some ad201) l0_5.length c0_5] 34 (0, 0)) bf6 hb); replace BK202 := Aside0.mk (blk_below (g := gb202) (o := .cells #[.int .i64 ((rd_T34 l0_5 x75_1).f0), .string ((rd_T34 l0_5 x75_1).f1), .int .i64 ((rd_T34 l0_5 x75_1).f2.f0), .int .i64 ((rd_T34 l0_5 x75_1).f2.f1), .string ((rd_T34 l0_5 x75_1).f2.f2), .slice A201_5 ((rd_T34 l0_5 x75_1).f3).length c201_5] 34 (0, 0)) bp6 hb); replace HB := Aside0.mk (below_step bl hb); (try clear hb))); try go_wp2_with (first | ((with_reducible refine gate_dst (N := 6) rfl ?_); (try (refine gate_guard (by rfl) ?_; dsimp only)); refine box_event ?hg (N := 6) ?hd (cs := #[.int .i64 0, .string (⟨#[]⟩ : ByteArray), .int .i64 0, .int .i64 0, .string (⟨#[]⟩ : ByteArray), .slice none 0 0]) (t := 34) ?hr ?_; (case hd => rfl); (case hg => rfl); (case hr => first | (go_simp; done) | (go_simp; rfl)); intro gb202 hg w49 hbox hb; have BK202 := Aside0.mk (hbox); have GW202 := Aside0.mk (gsz hg bl : w.heap.size ≤ gb202); have GE202 := Aside0.mk (gsz hg bl : w.heap.size ≤ gb202); have NB197_202 := Aside0.mk ((by rw [hg]; exact Nat.ne_of_lt (blk_lt (g := gb197) (o := .cells #[.int .i64 a0_0, .string a0_1, .int .i64 a0_2, .int .i64 a0_3, .string a0_4, .slice (some ad201) l0_5.length c0_5] 34 (0, 0)) bk) : gb197 ≠ gb202)); have NB202_197 := Aside0.mk ((by rw [hg]; exact Nat.ne_of_gt (blk_lt (g := gb197) (o := .cells #[.int .i64 a0_0, .string a0_1, .int .i64 a0_2, .int .i64 a0_3, .string a0_4, .slice (some ad201) l0_5.length c0_5] 34 (0, 0)) bk) : gb202 ≠ gb197)); replace BK197 := Aside0.mk (blk_below (g := gb197) (o := .cells #[.int .i64 a0_0, .string a0_1, .int .i64 a0_2, .int .i64 a0_3, .string a0_4, .slice (some ad201) l0_5.length c0_5] 34 (0, 0)) bk hb); replace HB := Aside0.mk (below_step bl hb); clear hb hbox hg; have hnb50 := NB202_197.out; have hnc50 := NB197_202.out; obtain ⟨hcz51_0, hcz51_1, hcz51_2, hcz51_3, hcz51_4, hcz51_5⟩ := cells6 BK202.out; obtain ⟨hfz51_0, hfz51_1, hfz51_2, hfz51_3, hfz51_4, hfz51_5⟩ := froz6 BK202.out) | (go_at_call 58; (with_reducible refine (ih k1 (by have := HK1.out; omega) ((rd_T34 l0_5 x75_1).f0) ((rd_T34 l0_5 x75_1).f1) ((rd_T34 l0_5 x75_1).f2.f0) ((rd_T34 l0_5 x75_1).f2.f1) ((rd_T34 l0_5 x75_1).f2.f2) _ _ ((rd_T34 l0_5 x75_1).f3) (wrap64 (a1 - 1)) false _ ?side1 ?side2 ?side3 A43.out).mono ?_); (case side1 => exact Kd.C_below HR201_5.out bl); (case side2 => exact HC201_5.out); (case side3 => exact Sh.below hsh bl); rintro e w52 ⟨rfl, hb⟩; replace BK197 := Aside0.mk (blk_below (g := gb197) (o := .cells #[.int .i64 a0_0, .string a0_1, .int .i64 a0_2, .int .i64 a0_3, .string a0_4, .slice (some ad201) l0_5.length c0_5] 34 (0, 0)) bf6 hb); replace BK202 := Aside0.mk (blk_below (g := gb202) (o := .cells #[.int .i64 ((rd_T34 l0_5 x75_1).f0), .string ((rd_T34 l0_5 x75_1).f1), .int .i64 ((rd_T34 l0_5 x75_1).f2.f0), .int .i64 ((rd_T34 l0_5 x75_1).f2.f1), .string ((rd_T34 l0_5 x75_1).f2.f2), .slice A201_5 ((rd_T34 l0_5 x75_1).f3).length c201_5] 34 (0, 0)) bp6 hb); replace HB := Aside0.mk (below_step bl hb); (try clear hb))))
             go_ret
             exact ⟨er, bl⟩
           ·rw [if_neg c42] at H
            exact absurd H (by simp)
          ·rw [if_neg c41] at H
           exact absurd H (by simp)
         ·rw [if_neg c40] at H
          have c40b0 : decide (x75_1 < (l0_5.length : Int)) = false := decide_eq_false c40
          clear c40
          obtain rfl := Option.some.inj H
          go_wp2
          repeat (go_quiet (fail); try go_wp2)
          go_ret
          exact ⟨er, bl⟩
      ·rw [if_neg c37] at H
       have c37b0 : ((l0_5.length : Int) == t200) = false := beq_eq_false_iff_ne.mpr c37
       have c37b1 : ((l0_5.length : Int) != t200) = true := bne_iff_ne.mpr c37
       obtain rfl := Option.some.inj H
       go_enter Tryz.func58, Tryz.ntmps58
       go_wp2_with (first | ((with_reducible refine gate_dst (N := 2) rfl ?_); (try (refine gate_guard (by rfl) ?_; dsimp only)); refine box_ev (N := 2) (cs := #[.int .i64 a0_0, .string a0_1, .int .i64 a0_2, .int .i64 a0_3, .string a0_4, .slice A0_5 l0_5.length c0_5]) (t := 34) ?_; intro gb197 hg w53 hbox hb; have BK197 := Aside0.mk (hbox); have GW197 := Aside0.mk (gsz hg bl : w.heap.size ≤ gb197); have GE197 := Aside0.mk (gsz hg bl : w.heap.size ≤ gb197); replace HB := Aside0.mk (below_step bl hb); clear hb hbox hg; obtain ⟨hcz54_0, hcz54_1, hcz54_2, hcz54_3, hcz54_4, hcz54_5⟩ := cells6 BK197.out; obtain ⟨hfz54_0, hfz54_1, hfz54_2, hfz54_3, hfz54_4, hfz54_5⟩ := froz6 BK197.out) | (go_at_call 101; (with_reducible refine (tree_args.calls k a0_1 t200 _ A36.out).mono ?_); rintro e w' ⟨rfl, ⟨nd, rfl⟩⟩; (try first | exact ⟨rfl, _, World.drewN_drewN _ _ _⟩ | exact ⟨rfl, _, Eq.trans (World.drewN_drewN _ _ _) (congrArg (World.drewN _) (Nat.add_assoc _ _ _))⟩)))
       repeat (go_quiet (first | ((with_reducible refine gate_dst (N := 2) rfl ?_); (try (refine gate_guard (by rfl) ?_; dsimp only)); refine box_ev (N := 2) (cs := #[.int .i64 a0_0, .string a0_1, .int .i64 a0_2, .int .i64 a0_3, .string a0_4, .slice A0_5 l0_5.length c0_5]) (t := 34) ?_; intro gb197 hg w53 hbox hb; have BK197 := Aside0.mk (hbox); have GW197 := Aside0.mk (gsz hg bl : w.heap.size ≤ gb197); have GE197 := Aside0.mk (gsz hg bl : w.heap.size ≤ gb197); replace HB := Aside0.mk (below_step bl hb); clear hb hbox hg; obtain ⟨hcz54_0, hcz54_1, hcz54_2, hcz54_3, hcz54_4, hcz54_5⟩ := cells6 BK197.out; obtain ⟨hfz54_0, hfz54_1, hfz54_2, hfz54_3, hfz54_4, hfz54_5⟩ := froz6 BK197.out) | (go_at_call 101; (with_reducible refine (tree_args.calls k a0_1 t200 _ A36.out).mono ?_); rintro e w' ⟨rfl, ⟨nd, rfl⟩⟩; (try first | exact ⟨rfl, _, World.drewN_drewN _ _ _⟩ | exact ⟨rfl, _, Eq.trans (World.drewN_drewN _ _ _) (congrArg (World.drewN _) (Nat.add_assoc _ _ _))⟩))); try go_wp2_with (first | ((with_reducible refine gate_dst (N := 2) rfl ?_); (try (refine gate_guard (by rfl) ?_; dsimp only)); refine box_ev (N := 2) (cs := #[.int .i64 a0_0, .string a0_1, .int .i64 a0_2, .int .i64 a0_3, .string a0_4, .slice A0_5 l0_5.length c0_5]) (t := 34) ?_; intro gb197 hg w53 hbox hb; have BK197 := Aside0.mk (hbox); have GW197 := Aside0.mk (gsz hg bl : w.heap.size ≤ gb197); have GE197 := Aside0.mk (gsz hg bl : w.heap.size ≤ gb197); replace HB := Aside0.mk (below_step bl hb); clear hb hbox hg; obtain ⟨hcz54_0, hcz54_1, hcz54_2, hcz54_3, hcz54_4, hcz54_5⟩ := cells6 BK197.out; obtain ⟨hfz54_0, hfz54_1, hfz54_2, hfz54_3, hfz54_4, hfz54_5⟩ := froz6 BK197.out) | (go_at_call 101; (with_reducible refine (tree_args.calls k a0_1 t200 _ A36.out).mono ?_); rintro e w' ⟨rfl, ⟨nd, rfl⟩⟩; (try first | exact ⟨rfl, _, World.drewN_drewN _ _ _⟩ | exact ⟨rfl, _, Eq.trans (World.drewN_drewN _ _ _) (congrArg (World.drewN _) (Nat.add_assoc _ _ _))⟩))))
       go_ret
       exact ⟨er, bl⟩
    ·rw [if_neg c32] at H
     have c32b0 : (a0_0 == 3) = false := beq_eq_false_iff_ne.mpr c32
     have c32b1 : (a0_0 != 3) = true := bne_iff_ne.mpr c32
     obtain rfl := Option.some.inj H
     go_enter Tryz.func58, Tryz.ntmps58
     go_wp2_with (first | ((with_reducible refine gate_dst (N := 2) rfl ?_); (try (refine gate_guard (by rfl) ?_; dsimp only)); refine box_ev (N := 2) (cs := #[.int .i64 a0_0, .string a0_1, .int .i64 a0_2, .int .i64 a0_3, .string a0_4, .slice A0_5 l0_5.length c0_5]) (t := 34) ?_; intro gb197 hg w55 hbox hb; have BK197 := Aside0.mk (hbox); have GW197 := Aside0.mk (gsz hg bl : w.heap.size ≤ gb197); have GE197 := Aside0.mk (gsz hg bl : w.heap.size ≤ gb197); replace HB := Aside0.mk (below_step bl hb); clear hb hbox hg; obtain ⟨hcz56_0, hcz56_1, hcz56_2, hcz56_3, hcz56_4, hcz56_5⟩ := cells6 BK197.out; obtain ⟨hfz56_0, hfz56_1, hfz56_2, hfz56_3, hfz56_4, hfz56_5⟩ := froz6 BK197.out))
     repeat (go_quiet (first | ((with_reducible refine gate_dst (N := 2) rfl ?_); (try (refine gate_guard (by rfl) ?_; dsimp only)); refine box_ev (N := 2) (cs := #[.int .i64 a0_0, .string a0_1, .int .i64 a0_2, .int .i64 a0_3, .string a0_4, .slice A0_5 l0_5.length c0_5]) (t := 34) ?_; intro gb197 hg w55 hbox hb; have BK197 := Aside0.mk (hbox); have GW197 := Aside0.mk (gsz hg bl : w.heap.size ≤ gb197); have GE197 := Aside0.mk (gsz hg bl : w.heap.size ≤ gb197); replace HB := Aside0.mk (below_step bl hb); clear hb hbox hg; obtain ⟨hcz56_0, hcz56_1, hcz56_2, hcz56_3, hcz56_4, hcz56_5⟩ := cells6 BK197.out; obtain ⟨hfz56_0, hfz56_1, hfz56_2, hfz56_3, hfz56_4, hfz56_5⟩ := froz6 BK197.out)); try go_wp2_with (first | ((with_reducible refine gate_dst (N := 2) rfl ?_); (try (refine gate_guard (by rfl) ?_; dsimp only)); refine box_ev (N := 2) (cs := #[.int .i64 a0_0, .string a0_1, .int .i64 a0_2, .int .i64 a0_3, .string a0_4, .slice A0_5 l0_5.length c0_5]) (t := 34) ?_; intro gb197 hg w55 hbox hb; have BK197 := Aside0.mk (hbox); have GW197 := Aside0.mk (gsz hg bl : w.heap.size ≤ gb197); have GE197 := Aside0.mk (gsz hg bl : w.heap.size ≤ gb197); replace HB := Aside0.mk (below_step bl hb); clear hb hbox hg; obtain ⟨hcz56_0, hcz56_1, hcz56_2, hcz56_3, hcz56_4, hcz56_5⟩ := cells6 BK197.out; obtain ⟨hfz56_0, hfz56_1, hfz56_2, hfz56_3, hfz56_4, hfz56_5⟩ := froz6 BK197.out)))
     go_ret
     exact ⟨er, bl⟩
end Go.Proofs.YtlpnlfahlcingaaGreatDoor.PL
end
section
namespace Go.Proofs.YtlpnlfahlcingaaGreatDoor.PL
open Go.RowKit Go.Proofs.YtlpnlfahlcingaaGreatDoorW.PrintWords Go.Proofs.YtlpnlfahlcingaaGreatDoorW.PrintLast Go.Proofs.YtlpnlfahlcingaaGreatDoorW.PrintMore
attribute [local go_sem] max2_int min2_int max_two min_two max_three min_three max_four min_four
attribute [local go_sem ↓] isSome_setCell
set_option linter.unusedVariables false
set_option linter.unusedSimpArgs false
section
attribute [local go_sem] World.cell?_alloc_some
attribute [local go_sem ↓] isSome_setCell
mutual
def sameE : S34 → S34 → Bool
  | ⟨k, s, v, l⟩, b => k == b.f0 && (s.toList == b.f1.toList && ((v.f0 == b.f2.f0 && (v.f1 == b.f2.f1 && v.f2.toList == b.f2.f2.toList)) && sameL l b.f3))
def sameL : List S34 → List S34 → Bool
  | [], [] => true
  | a :: r, b :: q => sameE a b && sameL r q
  | [], _ :: _ => false
  | _ :: _, [] => false
end
theorem sameL_len : ∀ (l m : List S34), l.length ≠ m.length → sameL l m = false
  | [], [], h => absurd rfl h
  | [], _ :: _, _ => by simp [sameL]
  | _ :: _, [], _ => by simp [sameL]
  | a :: r, b :: q, h => by
    have := sameL_len r q (by simpa using h)
    simp [sameL, this]
def SameAt (a : S34) : Prop := ∀ (b : S34) (A0 A1 : Option Addr) (c0 c1 : Nat) (w : World), Kd.C k34 w A0 a.f3.length a.f3 → a.f3.length ≤ c0 → Kd.C k34 w A1 b.f3.length b.f3 → b.f3.length ≤ c1 →
  Calls Tryz.prog 68 #[.agg #[.int .i64 a.f0, .string a.f1, .int .i64 a.f2.f0, .int .i64 a.f2.f1, .string a.f2.f2, .slice A0 a.f3.length c0], .agg #[.int .i64 b.f0, .string b.f1, .int .i64 b.f2.f0, .int .i64 b.f2.f1, .string b.f2.f2, .slice A1 b.f3.length c1]] w fun e w' => e = .returned (.bool (sameE a b)) ∧ Below w.heap.size w w'
set_option maxHeartbeats 8000000 in
set_option maxRecDepth 100000 in
theorem equal_calls (l m : List S34) (hel : ∀ a, a ∈ l → SameAt a) (A0 A1 : Option Addr) (c0 c1 : Nat) (w : World) (hr0 : Kd.C k34 w A0 l.length l) (hc0 : l.length ≤ c0) (hr1 : Kd.C k34 w A1 m.length m) (hc1 : m.length ≤ c1) :
    Calls Tryz.prog 70 #[.slice A0 l.length c0, .slice A1 m.length c1, .func (.func 68) #[] #[]] w fun e w' => e = .returned (.bool (sameL l m)) ∧ Below w.heap.size w w' := by
  have hbd : l.length ≤ 9223372036854775807 := hr0.2.1
  have HR0 := Aside0.mk hr0
  have HC0 := Aside0.mk hc0
  have HR1 := Aside0.mk hr1
  have HC1 := Aside0.mk hc1
  have HEL := Aside0.mk hel
  clear hr0 hc0 hr1 hc1 hel
  by_cases hlm : l.length = m.length
  · have hlb : ((l.length : Int) != (m.length : Int)) = false := by simp [hlm]
    have HLM := Aside0.mk hlm
    clear hlm
    obtain ⟨r, hr⟩ : ∃ r, sameL l m = r := ⟨_, rfl⟩
    rw [hr]
    have HRR := Aside0.mk hr
    clear hr
    go_enter Tryz.func70, Tryz.ntmps70
    go_wp2
    go_loopw [17] (fun i wr => ∃ j : Nat, i = .int .i64 j ∧ j ≤ l.length ∧ Aside0 (Below w.heap.size w wr ∧ sameL (l.drop j) (m.drop j) = r)) (fun i _ => l.length - (intOf i).toNat)
    case atStart => exact ⟨0, rfl, Nat.zero_le _, ⟨Below.refl _ _, HRR.out⟩⟩
    case round =>
    obtain ⟨j, rfl, hj, HJ⟩ := hrel
    by_cases hlt : j < l.length
    · have hd : decide ((j : Int) < (l.length : Int)) = true := decide_eq_true (by omega)
      have hd2 : decide (j < l.length) = true := decide_eq_true hlt
      have hlt1 : j < m.length := by have := HLM.out; omega
      have hd3 : decide ((j : Int) < (m.length : Int)) = true := decide_eq_true (by omega)
      obtain ⟨ad, A5, c5, ea, x0, x1, x2, x3, x4, x5, hl5, hi5⟩ := at_T34 HR0.out (j : Int) (by omega) (by omega)
      obtain ⟨bd, B5, e5, eb, y0, y1, y2, y3, y4, y5, hm5, hn5⟩ := at_T34 HR1.out (j : Int) (by omega) (by omega)
      cases ea
      cases eb
      replace x0 := (HJ.out.1.cell (World.block_lt_of_cell? w _ x0)).trans x0
      replace x1 := (HJ.out.1.cell (World.block_lt_of_cell? w _ x1)).trans x1
      replace x2 := (HJ.out.1.cell (World.block_lt_of_cell? w _ x2)).trans x2
      replace x3 := (HJ.out.1.cell (World.block_lt_of_cell? w _ x3)).trans x3
      replace x4 := (HJ.out.1.cell (World.block_lt_of_cell? w _ x4)).trans x4
      replace x5 := (HJ.out.1.cell (World.block_lt_of_cell? w _ x5)).trans x5
      replace y0 := (HJ.out.1.cell (World.block_lt_of_cell? w _ y0)).trans y0
      replace y1 := (HJ.out.1.cell (World.block_lt_of_cell? w _ y1)).trans y1
      replace y2 := (HJ.out.1.cell (World.block_lt_of_cell? w _ y2)).trans y2
      replace y3 := (HJ.out.1.cell (World.block_lt_of_cell? w _ y3)).trans y3
      replace y4 := (HJ.out.1.cell (World.block_lt_of_cell? w _ y4)).trans y4
      replace y5 := (HJ.out.1.cell (World.block_lt_of_cell? w _ y5)).trans y5
      obtain ⟨a, ha⟩ : ∃ a, rd_T34 l (j : Int) = a := ⟨_, rfl⟩
      obtain ⟨b, hb⟩ : ∃ b, rd_T34 m (j : Int) = b := ⟨_, rfl⟩
      have ha' : l[j] = a := by rw [← ha]; unfold rd_T34; rw [Int.toNat_natCast, List.getD_eq_getElem?_getD, List.getElem?_eq_getElem hlt]; rfl
      have hb' : m[j] = b := by rw [← hb]; unfold rd_T34; rw [Int.toNat_natCast, List.getD_eq_getElem?_getD, List.getElem?_eq_getElem hlt1]; rfl
      rw [ha] at x0 x1 x2 x3 x4 x5 hl5 hi5
      rw [hb] at y0 y1 y2 y3 y4 y5 hm5 hn5
      simp only [Int.toNat_natCast] at x0 x1 x2 x3 x4 x5 y0 y1 y2 y3 y4 y5
      have Hm := HJ.out.2
      rw [List.drop_eq_getElem_cons hlt, List.drop_eq_getElem_cons hlt1, ha', hb', sameL] at Hm
      have HA := Aside0.mk (HEL.out a (by rw [← ha']; exact List.getElem_mem hlt))
      have HI := Aside0.mk (And.intro hl5 (And.intro hi5 (And.intro hm5 hn5)))
      obtain ⟨s, hs⟩ : ∃ s, sameE a b = s := ⟨_, rfl⟩
      rw [hs] at Hm
      have HM := Aside0.mk Hm
      have HS := Aside0.mk hs
      have pw : wrap64 ((j : Int) + 1) = (j : Int) + 1 := by unfold wrap64; omega
      have p1 : ((0 : Int) ≤ (j : Int)) := by omega
      have p2 : ((j : Int) < (l.length : Int)) := by omega
      have p3 : ((j : Int) < (m.length : Int)) := by omega
      clear Hm hs ha hb ha' hb' hl5 hi5 hm5 hn5
      have hbw : Below w.heap.size w ((wr.alloc (.cells #[.int .i64 a.f0, .string a.f1, .int .i64 a.f2.f0, .int .i64 a.f2.f1, .string a.f2.f2, .slice A5 a.f3.length c5] 34 (0, 0))).alloc (.cells #[.int .i64 b.f0, .string b.f1, .int .i64 b.f2.f0, .int .i64 b.f2.f1, .string b.f2.f2, .slice B5 b.f3.length e5] 34 (0, 0))) := below_alloc (below_alloc HJ.out.1 _) _
      have HBW := Aside0.mk hbw
      clear hbw
      cases s with
      | true =>
        go_wp2_with (go_at_call 68; refine (HA.out b A5 B5 c5 e5 _ (Kd.C_below HI.out.2.1 HBW.out) HI.out.1 (Kd.C_below HI.out.2.2.2 HBW.out) HI.out.2.2.1).mono ?_; rw [HS.out]; rintro e w3 ⟨rfl, hb3⟩; have H3 := Aside0.mk (below_step HBW.out hb3); clear hb3)
        go_roundw
        case rel => exact ⟨j + 1, by go_num, by omega, ⟨H3.out, by simpa using HM.out⟩⟩
        case measure => simp [intOf]; omega
      | false =>
        obtain rfl : false = r := by simpa using HM.out
        go_wp2_with (go_at_call 68; refine (HA.out b A5 B5 c5 e5 _ (Kd.C_below HI.out.2.1 HBW.out) HI.out.1 (Kd.C_below HI.out.2.2.2 HBW.out) HI.out.2.2.1).mono ?_; rw [HS.out]; rintro e w3 ⟨rfl, hb3⟩; have H3 := Aside0.mk (below_step HBW.out hb3); clear hb3)
        go_ret
        exact ⟨rfl, H3.out⟩
    · have hd : decide ((j : Int) < (l.length : Int)) = false := decide_eq_false (by omega)
      have hd2 : decide (j < l.length) = false := decide_eq_false hlt
      have Hm := HJ.out.2
      rw [List.drop_eq_nil_of_le (by omega), List.drop_eq_nil_of_le (by have := HLM.out; omega), sameL] at Hm
      subst Hm
      go_wp2
      go_ret
      exact ⟨rfl, HJ.out.1⟩
  · have hlb : ((l.length : Int) != (m.length : Int)) = true := by simp; omega
    rw [sameL_len l m hlm]
    clear hlm
    go_enter Tryz.func70, Tryz.ntmps70
    go_wp2
    go_ret
    exact ⟨rfl, Below.refl _ _⟩
theorem size_alloc1' (w : World) (o : Obj) : (w.alloc o).heap.size = w.heap.size + 1 := by first | simp | rfl
theorem at_world' {P : Program} {c : Code} {Q : Exit → Act → World → Prop} {a : Act} {W : World} (F : World → Prop) (hF : F W) (h : ∀ w1, F w1 → c.wp P Q a w1) : c.wp P Q a W := h W hF
set_option maxHeartbeats 8000000 in
set_option maxRecDepth 100000 in
theorem same_step (a : S34) (hel : ∀ x, x ∈ a.f3 → SameAt x) : SameAt a := by
  intro b A0 A1 c0 c1 w hr0 hc0 hr1 hc1
  have HQ := Aside0.mk (fun (w1 : World) (hb : Below w.heap.size w w1) => equal_calls a.f3 b.f3 hel A0 A1 c0 c1 w1 (Kd.C_below hr0 hb) hc0 (Kd.C_below hr1 hb) hc1)
  clear hr0 hc0 hr1 hc1 hel
  obtain ⟨ak, at_, av, al⟩ := a
  obtain ⟨b1, h1⟩ : ∃ x, (ak == b.f0) = x := ⟨_, rfl⟩
  obtain ⟨b2, h2⟩ : ∃ x, (at_.toList == b.f1.toList) = x := ⟨_, rfl⟩
  obtain ⟨b3, h3⟩ : ∃ x, (av.f0 == b.f2.f0 && (av.f1 == b.f2.f1 && av.f2.toList == b.f2.f2.toList)) = x := ⟨_, rfl⟩
  obtain ⟨b4, h4⟩ : ∃ x, sameL al b.f3 = x := ⟨_, rfl⟩
  rw [sameE, h1, h2, h3, h4]
  dsimp only at HQ ⊢
  rw [h4] at HQ
  clear h4
  go_enter Tryz.func68, Tryz.ntmps68
  go_upto_region 1 with (fail)
  have e1 : (w.alloc (.cells #[Value.int .i64 ak, Value.string at_, Value.int .i64 av.f0, Value.int .i64 av.f1, Value.string av.f2, Value.slice A0 al.length c0] 34 (0, 0))).heap.size = w.heap.size + 1 := size_alloc1' _ _
  have B2 := blk_alloc (blk_new w (.cells #[Value.int .i64 ak, Value.string at_, Value.int .i64 av.f0, Value.int .i64 av.f1, Value.string av.f2, Value.slice A0 al.length c0] 34 (0, 0))) (.cells #[Value.int .i64 b.f0, Value.string b.f1, Value.int .i64 b.f2.f0, Value.int .i64 b.f2.f1, Value.string b.f2.f2, Value.slice A1 b.f3.length c1] 34 (0, 0))
  have B3 := blk_new (w.alloc (.cells #[Value.int .i64 ak, Value.string at_, Value.int .i64 av.f0, Value.int .i64 av.f1, Value.string av.f2, Value.slice A0 al.length c0] 34 (0, 0))) (.cells #[Value.int .i64 b.f0, Value.string b.f1, Value.int .i64 b.f2.f0, Value.int .i64 b.f2.f1, Value.string b.f2.f2, Value.slice A1 b.f3.length c1] 34 (0, 0))
  rw [e1] at B3
  obtain ⟨g2, hg2⟩ : ∃ g, w.heap.size = g := ⟨_, rfl⟩
  obtain ⟨g3, hg3⟩ : ∃ g, g2 + 1 = g := ⟨_, rfl⟩
  rw [hg2] at B2
  rw [hg2, hg3] at B3
  rw [hg2, hg3]
  have Q := Aside0.mk (And.intro B2 B3)
  clear B2 B3 e1 hg2 hg3
  refine at_world' (fun w3 => Aside0 (w3.heap[g2]? = some (.cells #[Value.int .i64 ak, Value.string at_, Value.int .i64 av.f0, Value.int .i64 av.f1, Value.string av.f2, Value.slice A0 al.length c0] 34 (0, 0)) ∧ w3.heap[g3]? = some (.cells #[Value.int .i64 b.f0, Value.string b.f1, Value.int .i64 b.f2.f0, Value.int .i64 b.f2.f1, Value.string b.f2.f2, Value.slice A1 b.f3.length c1] 34 (0, 0)) ∧ Below w.heap.size w w3)) ⟨Q.out.1, Q.out.2, below_alloc (below_alloc (Below.refl _ _) _) _⟩ (fun w3 H3 => ?_)
  clear Q
  have x0 := (blk_cell H3.out.1 0).trans rfl
  have x1 := (blk_cell H3.out.1 1).trans rfl
  have x2 := (blk_cell H3.out.1 2).trans rfl
  have x3 := (blk_cell H3.out.1 3).trans rfl
  have x4 := (blk_cell H3.out.1 4).trans rfl
  have x5 := (blk_cell H3.out.1 5).trans rfl
  have y0 := (blk_cell H3.out.2.1 0).trans rfl
  have y1 := (blk_cell H3.out.2.1 1).trans rfl
  have y2 := (blk_cell H3.out.2.1 2).trans rfl
  have y3 := (blk_cell H3.out.2.1 3).trans rfl
  have y4 := (blk_cell H3.out.2.1 4).trans rfl
  have y5 := (blk_cell H3.out.2.1 5).trans rfl
  simp at x0 x1 x2 x3 x4 x5 y0 y1 y2 y3 y4 y5
  cases b1 with
  | false =>
    go_wp2
    go_ret
    exact ⟨rfl, H3.out.2.2⟩
  | true =>
    cases b2 with
    | false =>
      go_wp2
      go_ret
      exact ⟨rfl, H3.out.2.2⟩
    | true =>
      cases b3 with
      | false =>
        go_wp2
        all_goals (first | (go_ret; exact ⟨rfl, H3.out.2.2⟩) | (exfalso; have h9 : (av.f0 == b.f2.f0 && (av.f1 == b.f2.f1 && av.f2.toList == b.f2.f2.toList)) = true := (by simp only [Bool.and_eq_true, beq_iff_eq] <;> exact ⟨by assumption, by assumption, by assumption⟩); exact absurd (h3.symm.trans h9) (by decide)))
      | true =>
        simp only [Bool.and_eq_true] at h3
        obtain ⟨h5, h6, h7⟩ := h3
        go_wp2_with (go_at_call 70; refine (HQ.out w3 H3.out.2.2).mono ?_; rintro e w4 ⟨rfl, hb4⟩; have H4 := Aside0.mk (below_step H3.out.2.2 hb4); clear hb4)
        go_ret
        exact ⟨rfl, H4.out⟩
theorem size_lt (a x : S34) (h : x ∈ a.f3) : SizeOf.sizeOf x < SizeOf.sizeOf a := by
  have := List.sizeOf_lt_of_mem h
  obtain ⟨k, s, v, l⟩ := a
  simp at this ⊢
  omega
theorem same_all : ∀ (n : Nat) (a : S34), SizeOf.sizeOf a ≤ n → SameAt a
  | 0, a, h => by
    obtain ⟨k, s, v, l⟩ := a
    simp at h
  | n + 1, a, h => same_step a fun x hx => same_all n x (by have := size_lt a x hx; omega)
theorem same_calls (a : S34) : SameAt a := same_all (SizeOf.sizeOf a) a (Nat.le_refl _)
end
def tree_sameExpr.f (a0_0 : Int) (a0_1 : ByteArray) (a0_2 : Int) (a0_3 : Int) (a0_4 : ByteArray) (l0_5 : List (S34)) (a1_0 : Int) (a1_1 : ByteArray) (a1_2 : Int) (a1_3 : Int) (a1_4 : ByteArray) (l1_5 : List (S34)) : Option Bool := some (sameE ⟨a0_0, a0_1, ⟨a0_2, a0_3, a0_4⟩, l0_5⟩ ⟨a1_0, a1_1, ⟨a1_2, a1_3, a1_4⟩, l1_5⟩)
theorem tree_sameExpr.calls (a0_0 : Int) (a0_1 : ByteArray) (a0_2 : Int) (a0_3 : Int) (a0_4 : ByteArray) (A0_5 : Option Addr) (c0_5 : Nat) (l0_5 : List (S34)) (a1_0 : Int) (a1_1 : ByteArray) (a1_2 : Int) (a1_3 : Int) (a1_4 : ByteArray) (A1_5 : Option Addr) (c1_5 : Nat) (l1_5 : List (S34)) (r : Bool) (w : World) (hr0_5 : Kd.C k34 w A0_5 l0_5.length l0_5) (hc0_5 : l0_5.length ≤ c0_5) (hr1_5 : Kd.C k34 w A1_5 l1_5.length l1_5) (hc1_5 : l1_5.length ≤ c1_5) (h : tree_sameExpr.f a0_0 a0_1 a0_2 a0_3 a0_4 l0_5 a1_0 a1_1 a1_2 a1_3 a1_4 l1_5 = some r) :
    Calls Tryz.prog 68 #[.agg #[.int .i64 a0_0, .string a0_1, .int .i64 a0_2, .int .i64 a0_3, .string a0_4, .slice A0_5 l0_5.length c0_5], .agg #[.int .i64 a1_0, .string a1_1, .int .i64 a1_2, .int .i64 a1_3, .string a1_4, .slice A1_5 l1_5.length c1_5]] w fun e w' => e = .returned (.bool r) ∧ Below w.heap.size w w' := by
  obtain rfl := Option.some.inj h
  exact same_calls ⟨a0_0, a0_1, ⟨a0_2, a0_3, a0_4⟩, l0_5⟩ ⟨a1_0, a1_1, ⟨a1_2, a1_3, a1_4⟩, l1_5⟩ A0_5 A1_5 c0_5 c1_5 w hr0_5 hc0_5 hr1_5 hc1_5
def tree_blank.f (a0_0 : Int) (a0_1 : ByteArray) (a0_2 : Int) (a0_3 : Int) (a0_4 : ByteArray) (l0_5 : List (S34)) : Option (Bool) := (tree_sameExpr.f a0_0 a0_1 a0_2 a0_3 a0_4 l0_5 0 (⟨#[]⟩ : ByteArray) 0 0 (⟨#[]⟩ : ByteArray) ([] : List (S34))).bind fun t205 => (some t205)
set_option maxHeartbeats 8000000 in
set_option maxRecDepth 100000 in
theorem tree_blank.calls (a0_0 : Int) (a0_1 : ByteArray) (a0_2 : Int) (a0_3 : Int) (a0_4 : ByteArray) (A0_5 : Option Addr) (c0_5 : Nat) (l0_5 : List (S34)) (r : Bool) (w : World) (hr0_5 : Kd.C k34 w A0_5 l0_5.length l0_5) (hc0_5 : l0_5.length ≤ c0_5) (h : tree_blank.f a0_0 a0_1 a0_2 a0_3 a0_4 l0_5 = some r) :
  Calls Tryz.prog 59 #[.agg #[.int .i64 a0_0, .string a0_1, .int .i64 a0_2, .int .i64 a0_3, .string a0_4, .slice A0_5 l0_5.length c0_5]] w fun e w' => e = .returned (.bool r) ∧ Below w.heap.size w w' := by
 have hu34 := Tryz.underlying34
 have HR0_5 := Aside0.mk hr0_5
 have HC0_5 := Aside0.mk hc0_5
 clear hr0_5 hc0_5
 have HB := Aside0.mk (Below.refl w.heap.size w)
 have H : ((tree_sameExpr.f a0_0 a0_1 a0_2 a0_3 a0_4 l0_5 0 (⟨#[]⟩ : ByteArray) 0 0 (⟨#[]⟩ : ByteArray) ([] : List (S34))).bind fun t205 => (some t205)) = some r := h
 clear h
 obtain ⟨t205, A20, H⟩ := bind_out H
 have A2 := Aside0.mk A20
 clear A20
 obtain rfl := Option.some.inj H
 go_enter Tryz.func59, Tryz.ntmps59
 go_wp2_with (first | ((with_reducible refine gate_dst (N := 1) rfl ?_); refine box_ev (N := 1) (cs := #[.int .i64 a0_0, .string a0_1, .int .i64 a0_2, .int .i64 a0_3, .string a0_4, .slice A0_5 l0_5.length c0_5]) (t := 34) ?_; intro gb204 hg w3 hbox hb; have BK204 := Aside0.mk (hbox); have GW204 := Aside0.mk (gsz hg bl : w.heap.size ≤ gb204); have GE204 := Aside0.mk (gsz hg bl : w.heap.size ≤ gb204); replace HB := Aside0.mk (below_step bl hb); clear hb hbox hg; obtain ⟨hcz4_0, hcz4_1, hcz4_2, hcz4_3, hcz4_4, hcz4_5⟩ := cells6 BK204.out; obtain ⟨hfz4_0, hfz4_1, hfz4_2, hfz4_3, hfz4_4, hfz4_5⟩ := froz6 BK204.out) | ((with_reducible refine gate_callee (f := 68) rfl ?_); refine goesL_ (some 5) rfl rfl Tryz.func68 (by kernel_rfl) rfl #[.agg #[.int .i64 a0_0, .string a0_1, .int .i64 a0_2, .int .i64 a0_3, .string a0_4, .slice A0_5 l0_5.length c0_5], .agg #[.int .i64 0, .string (⟨#[]⟩ : ByteArray), .int .i64 0, .int .i64 0, .string (⟨#[]⟩ : ByteArray), .slice none 0 0]] rfl mp ?_; (refine (tree_sameExpr.calls a0_0 a0_1 a0_2 a0_3 a0_4 _ _ l0_5 0 (⟨#[]⟩ : ByteArray) 0 0 (⟨#[]⟩ : ByteArray) _ _ ([] : List (S34)) t205 _ ?side1 ?side2 ?side3 ?side4 A2.out).mono ?_); (case side1 => exact kc HR0_5.out); (case side2 => exact HC0_5.out); (case side3 => exact Kd.C_nil _ _); (case side4 => exact Nat.le_refl _); rintro e w5 ⟨rfl, hb⟩; refine ⟨_, rfl, ?_⟩; replace BK204 := Aside0.mk (blk_below (g := gb204) (o := .cells #[.int .i64 a0_0, .string a0_1, .int .i64 a0_2, .int .i64 a0_3, .string a0_4, .slice A0_5 l0_5.length c0_5] 34 (0, 0)) bk hb); replace HB := Aside0.mk (below_step bl hb); (try clear hb)))
 go_ret
 exact ⟨er, bl⟩
end Go.Proofs.YtlpnlfahlcingaaGreatDoor.PL
end
