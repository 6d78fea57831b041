/- treeDeep_holds proves the card of its law: the law's function answers true at every input that the card speaks of. Conditions: those that the card itself names, no other. -/
import Derived.Test.YtlpnlfahlcingaaGreatDoorTD8
import Derived.Test.YtlpnlfahlcingaaGreatDoorCards
import Derived.Test.YtlpnlfahlcingaaGreatDoorTie
import Derived.WalkKit
import Derived.ProofKit
import Derived.OpenShut
import Derived.ShutString
import Derived.Below
import Derived.SizedLaws
import Derived.HandedShaped
import Derived.LaidMore
import Derived.Lay
import Derived.SevenTiedAt
import Derived.Shelf.Vars
import Derived.Lib.SmallJoins
import Derived.ChangeSlices
section
namespace Go.Proofs.YtlpnlfahlcingaaGreatDoor.PL
open Go.RowKit Go.Proofs.YtlpnlfahlcingaaGreatDoorW.PrintWords Go.Proofs.YtlpnlfahlcingaaGreatDoorW.PrintLast Go.Proofs.YtlpnlfahlcingaaGreatDoorW.PrintMore
attribute [local go_sem] max2_int min2_int max_two min_two max_three min_three max_four min_four
attribute [local go_sem ↓] isSome_setCell
set_option linter.unusedVariables false
set_option linter.unusedSimpArgs false
def tree_Print.l0 : Nat → List ByteArray → List (S44) → Int → Int → Int → Int → List (S44) → Option (ByteArray × Int)
 | 0, _, _, _, _, _, _, _ => none
 | k + 1, x4, x13, x14, x15, x297000, x297001, x297002 => if x15 < x14 then (if 0 ≤ x15 then (if x15 < (x13.length : Int) then ((tree_stmt.f k ((rd_T44 x13 x15).f0) ((rd_T44 x13 x15).f1) ((rd_T44 x13 x15).f2) ((rd_T44 x13 x15).f3) ((rd_T44 x13 x15).f4) ((rd_T44 x13 x15).f5) ((rd_T44 x13 x15).f6.f0) ((rd_T44 x13 x15).f6.f1) ((rd_T44 x13 x15).f6.f2.f0) ((rd_T44 x13 x15).f6.f2.f1) ((rd_T44 x13 x15).f6.f2.f2) ((rd_T44 x13 x15).f6.f3) ((rd_T44 x13 x15).f7) ((rd_T44 x13 x15).f8) ((rd_T44 x13 x15).f9)).bind fun t300 => (if x4.length < 8796093022208 then (tree_Print.l0 k (x4 ++ [t300]) x13 x14 (wrap64 (x15 + 1)) x297000 x297001 x297002) else (none))) else (none)) else (none)) else ((strings_Join.f x4 (⟨#[59, 32]⟩ : ByteArray)).bind fun t304 => ((strconv_FormatInt.f x297001 10).bind fun t305 => (if x297000 = 1 then (if 19 + t305.size ≤ 9223372036854775807 then (if t304.size + ((⟨#[32, 65, 83, 32, 79, 70, 32, 83, 89, 83, 84, 69, 77, 32, 84, 73, 77, 69, 32]⟩ : ByteArray) ++ t305).size ≤ 9223372036854775807 then (if ((t304 ++ ((⟨#[32, 65, 83, 32, 79, 70, 32, 83, 89, 83, 84, 69, 77, 32, 84, 73, 77, 69, 32]⟩ : ByteArray) ++ t305)).size : Int) > 2000 then (some ((⟨#[]⟩ : ByteArray), 9)) else (some (t304 ++ ((⟨#[32, 65, 83, 32, 79, 70, 32, 83, 89, 83, 84, 69, 77, 32, 84, 73, 77, 69, 32]⟩ : ByteArray) ++ t305), 0))) else (none)) else (none)) else (if x297000 = 2 then (if 25 + t305.size ≤ 9223372036854775807 then (if t304.size + ((⟨#[32, 65, 83, 32, 79, 70, 32, 83, 89, 83, 84, 69, 77, 32, 84, 73, 77, 69, 32, 66, 79, 85, 78, 68, 32]⟩ : ByteArray) ++ t305).size ≤ 9223372036854775807 then (if ((t304 ++ ((⟨#[32, 65, 83, 32, 79, 70, 32, 83, 89, 83, 84, 69, 77, 32, 84, 73, 77, 69, 32, 66, 79, 85, 78, 68, 32]⟩ : ByteArray) ++ t305)).size : Int) > 2000 then (some ((⟨#[]⟩ : ByteArray), 9)) else (some (t304 ++ ((⟨#[32, 65, 83, 32, 79, 70, 32, 83, 89, 83, 84, 69, 77, 32, 84, 73, 77, 69, 32, 66, 79, 85, 78, 68, 32]⟩ : ByteArray) ++ t305), 0))) else (none)) else (none)) else (if (t304.size : Int) > 2000 then (some ((⟨#[]⟩ : ByteArray), 9)) else (some (t304, 0)))))))
def tree_Print.f (k : Nat) (a0_0 : Int) (a0_1 : Int) (l0_2 : List (S44)) : Option (ByteArray × Int) := (tree_May.f k a0_0 a0_1 l0_2).bind fun t297 => (if t297 = true then (tree_Print.l0 k ([] : List ByteArray) l0_2 (l0_2.length : Int) 0 a0_0 a0_1 l0_2) else (some ((⟨#[]⟩ : ByteArray), 9)))
theorem tree_Print.mono_l : ∀ k, (∀ y0 y1 y2 y3 y4 y5 y6, LeO (tree_Print.l0 k y0 y1 y2 y3 y4 y5 y6) (tree_Print.l0 (k + 1) y0 y1 y2 y3 y4 y5 y6))
 | 0 => fun _ _ _ _ _ _ _ r h => by simp [tree_Print.l0] at h
 | k + 1 => by
  have ih0 := tree_Print.mono_l k
  ·intro y0 y1 y2 y3 y4 y5 y6
   unfold tree_Print.l0
   repeat' first
   | (with_reducible exact ih0 _ _ _ _ _ _ _)
   | (with_reducible exact tree_May.mono _ _ _ _)
   | (with_reducible exact tree_stmt.mono _ _ _ _ _ _ _ _ _ _ _ _ _ _ _ _)
   | (with_reducible exact LeO.refl _)
   | (with_reducible exact LeO.none _)
   | (with_reducible refine LeO.ite ?_ ?_)
   | (with_reducible refine LeO.bind ?_ (fun _ => ?_))
   | exact ih0 _ _ _ _ _ _ _
   | exact tree_May.mono _ _ _ _
   | exact tree_stmt.mono _ _ _ _ _ _ _ _ _ _ _ _ _ _ _ _
   | exact LeO.none _
   | refine LeO.ite ?_ ?_
   | refine LeO.bind ?_ (fun _ => ?_)
theorem tree_Print.mono : ∀ a0 a1 a2 k, LeO (tree_Print.f k a0 a1 a2) (tree_Print.f (k + 1) a0 a1 a2) := by
 intro a0 a1 a2 k
 have ih0 := tree_Print.mono_l k
 unfold tree_Print.f
 repeat' first
   | (with_reducible exact ih0 _ _ _ _ _ _ _)
   | (with_reducible exact tree_May.mono _ _ _ _)
   | (with_reducible exact tree_stmt.mono _ _ _ _ _ _ _ _ _ _ _ _ _ _ _ _)
   | (with_reducible exact LeO.refl _)
   | (with_reducible exact LeO.none _)
   | (with_reducible refine LeO.ite ?_ ?_)
   | (with_reducible refine LeO.bind ?_ (fun _ => ?_))
   | exact ih0 _ _ _ _ _ _ _
   | exact tree_May.mono _ _ _ _
   | exact tree_stmt.mono _ _ _ _ _ _ _ _ _ _ _ _ _ _ _ _
   | exact LeO.none _
   | refine LeO.ite ?_ ?_
   | refine LeO.bind ?_ (fun _ => ?_)
set_option maxHeartbeats 8000000 in
set_option maxRecDepth 100000 in
theorem tree_Print.calls (k : Nat) (a0_0 : Int) (a0_1 : Int) (A0_2 : Option Addr) (c0_2 : Nat) (l0_2 : List (S44)) (r1 : ByteArray) (r2 : Int) (w : World) (hr0_2 : Kd.C k44 w A0_2 l0_2.length l0_2) (hc0_2 : l0_2.length ≤ c0_2) (hsh : Sh w) (h : tree_Print.f k a0_0 a0_1 l0_2 = some (r1, r2)) :
  Calls Tryz.prog 16 #[.agg #[.int .i64 a0_0, .int .i64 a0_1, .slice A0_2 l0_2.length c0_2]] w fun e w' => e = .returned (.tuple #[.string r1, .int .i64 r2]) ∧ Below w.heap.size w w' := by
 have hu25 := Tryz.underlying25
 have hu44 := Tryz.underlying44
 have HR0_2 := Aside0.mk hr0_2
 have HC0_2 := Aside0.mk hc0_2
 clear hr0_2 hc0_2
 have HB := Aside0.mk (Below.refl w.heap.size w)
 have H : ((tree_May.f k a0_0 a0_1 l0_2).bind fun t297 => (if t297 = true then (tree_Print.l0 k ([] : List ByteArray) l0_2 (l0_2.length : Int) 0 a0_0 a0_1 l0_2) else (some ((⟨#[]⟩ : ByteArray), 9)))) = some (r1, r2) := h
 clear h
 obtain ⟨t297, A20, H⟩ := bind_out H
 have A2 := Aside0.mk A20
 clear A20
 by_cases c3 : t297 = true
 ·subst c3
  have H1 : (tree_Print.l0 k ([] : List ByteArray) l0_2 (l0_2.length : Int) 0 a0_0 a0_1 l0_2) = some (r1, r2) := by rw [if_pos rfl] at H; exact H
  clear H
  have H := H1
  clear H1
  have H' := Aside0.mk H
  clear H
  go_enter Tryz.func16, Tryz.ntmps16
  go_wp2_with (first | ((with_reducible refine gate_dst (N := 1) rfl ?_); refine box_ev (N := 1) (cs := #[.int .i64 a0_0, .int .i64 a0_1, .slice A0_2 l0_2.length c0_2]) (t := 25) ?_; intro gb296 hg w4 hbox hb; have BK296 := Aside0.mk (hbox); have GW296 := Aside0.mk (gsz hg bl : w.heap.size ≤ gb296); have GE296 := Aside0.mk (gsz hg bl : w.heap.size ≤ gb296); replace HB := Aside0.mk (below_step bl hb); clear hb hbox hg; obtain ⟨hcz5_0, hcz5_1, hcz5_2⟩ := cells3 BK296.out; obtain ⟨hfz5_0, hfz5_1, hfz5_2⟩ := froz3 BK296.out) | ((with_reducible refine gate_callee (f := 18) rfl ?_); refine goesL_ (some 10) rfl rfl Tryz.func18 (by kernel_rfl) rfl #[.agg #[.int .i64 a0_0, .int .i64 a0_1, .slice A0_2 l0_2.length c0_2]] rfl mp ?_; (with_reducible refine (tree_May.calls k a0_0 a0_1 _ _ l0_2 true _ ?side1 ?side2 ?side3 A2.out).mono ?_); (case side1 => exact kc HR0_2.out); (case side2 => exact HC0_2.out); (case side3 => exact Sh.below hsh bl); rintro e w6 ⟨rfl, hb⟩; refine ⟨_, rfl, ?_⟩; replace BK296 := Aside0.mk (blk_below (g := gb296) (o := .cells #[.int .i64 a0_0, .int .i64 a0_1, .slice A0_2 l0_2.length c0_2] 25 (0, 0)) bk hb); replace HB := Aside0.mk (below_step bl hb); (try clear hb); (try clear hk); obtain ⟨hcz7_0, hcz7_1, hcz7_2⟩ := cells3 BK296.out; obtain ⟨hfz7_0, hfz7_1, hfz7_2⟩ := froz3 BK296.out))
  go_loopg [4, 15] k (fun kq v4 v15 w' => ∃ (x4_1 : List ByteArray) (x15_1 : Int), v15 = .int .i64 x15_1 ∧ Aside0 (tree_Print.l0 kq x4_1 l0_2 (l0_2.length : Int) x15_1 a0_0 a0_1 l0_2 = some (r1, r2)) ∧ Aside0 (kq ≤ k) ∧ Aside0 (Kd.R Kd.string 9 w' w.heap.size (fun _ => True) v4 x4_1) ∧ Aside0 (w'.heap[gb296]? = some (.cells #[.int .i64 a0_0, .int .i64 a0_1, (.slice A0_2 l0_2.length c0_2)] 25 (0, 0))) ∧ Aside0 (Below w.heap.size w w'))
  case atStart => exact ⟨(([] : List ByteArray)), (0), rs, H', ⟨Nat.le_refl _⟩, ⟨by first | exact Kd.R_nil _ _ _ _ _ | exact Kd.N_nil _ _ _ _ _ | exact Kd.V_nil _ _ _ _ _ | exact Kd.Q_nil _ _ _ _ _ | exact Kd.S_nil _ _ _ _ _⟩, ⟨bk⟩, ⟨bl⟩⟩
  case round =>
   clear H'
   try clear c3
   try clear hcz5_0 hcz5_1 hcz5_2 hcz7_0 hcz7_1 hcz7_2 hfz5_0 hfz5_1 hfz5_2 hfz7_0 hfz7_1 hfz7_2
   obtain ⟨x4_1, x15_1, rfl, HA, HK1, HO_4, BK296, HB⟩ := hrel
   cases gk with
   | zero => exact absurd HA.out (by simp [tree_Print.l0])
   | succ k1 =>
    have H := HA.out
    clear HA
    simp only [tree_Print.l0] at H
    by_cases c8 : x15_1 < (l0_2.length : Int)
    ·rw [if_pos c8] at H
     have c8b0 : decide (x15_1 < (l0_2.length : Int)) = true := decide_eq_true c8
     clear c8
     by_cases c9 : 0 ≤ x15_1
     ·rw [if_pos c9] at H
      have c9b0 : decide (0 ≤ x15_1) = true := decide_eq_true c9
      clear c9
      by_cases c10 : x15_1 < (l0_2.length : Int)
      ·rw [if_pos c10] at H
       have c10b0 : decide (x15_1 < (l0_2.length : Int)) = true := decide_eq_true c10
       clear c10
       obtain ⟨t300, A110, H⟩ := bind_out H
       have A11 := Aside0.mk A110
       clear A110
       by_cases c12 : x4_1.length < 8796093022208
       ·rw [if_pos c12] at H
        have LMc12 := Aside0.mk c12
        clear c12
        obtain ⟨y301, hy301⟩ : ∃ y_ : List ByteArray, y_ = (x4_1 ++ [t300]) := ⟨_, rfl⟩
        replace H : (tree_Print.l0 k1 y301 l0_2 (l0_2.length : Int) (wrap64 (x15_1 + 1)) a0_0 a0_1 l0_2) = some (r1, r2) := by first | (rw [hy301]; with_reducible exact H) | (have H2_ := (Option.bind_some _ _).symm.trans H; rw [hy301]; with_reducible exact H2_) | (have H2_ := (Option.bind_some _ _).symm.trans H; with_reducible exact H2_) | with_reducible exact H | (rw [hy301]; exact H) | exact H
        have Ny301 := Aside0.mk hy301
        clear hy301
        have H' := Aside0.mk H
        clear H
        have p298 : 0 ≤ (x15_1 : Int) := of_decide_eq_true (by assumption)
        have q298 : x15_1 < (l0_2.length : Int) := of_decide_eq_true (by assumption)
        obtain ⟨ad298, A298_2, c298_2, A298_3, c298_3, A298_4, c298_4, A298_11, c298_11, e298, hx298_0, hx298_1, hx298_2, hx298_3, hx298_4, hx298_5, hx298_6, hx298_7, hx298_8, hx298_9, hx298_10, hx298_11, hx298_12, hx298_13, hx298_14, hl298_2, hi298_2, hl298_3, hi298_3, hl298_4, hi298_4, hl298_11, hi298_11⟩ := at_T44 HR0_2.out x15_1 p298 q298
        cases e298
        replace hx298_0 := lx HB hx298_0
        replace hx298_1 := lx HB hx298_1
        replace hx298_2 := lx HB hx298_2
        replace hx298_3 := lx HB hx298_3
        replace hx298_4 := lx HB hx298_4
        replace hx298_5 := lx HB hx298_5
        replace hx298_6 := lx HB hx298_6
        replace hx298_7 := lx HB hx298_7
        replace hx298_8 := lx HB hx298_8
        replace hx298_9 := lx HB hx298_9
        replace hx298_10 := lx HB hx298_10
        replace hx298_11 := lx HB hx298_11
        replace hx298_12 := lx HB hx298_12
        replace hx298_13 := lx HB hx298_13
        replace hx298_14 := lx HB hx298_14
        have HR298_2 := Aside0.mk hi298_2
        have HC298_2 := Aside0.mk hl298_2
        clear hi298_2 hl298_2
        have HR298_3 := Aside0.mk hi298_3
        have HC298_3 := Aside0.mk hl298_3
        clear hi298_3 hl298_3
        have HR298_4 := Aside0.mk hi298_4
        have HC298_4 := Aside0.mk hl298_4
        clear hi298_4 hl298_4
        have HR298_11 := Aside0.mk hi298_11
        have HC298_11 := Aside0.mk hl298_11
        clear hi298_11 hl298_11
        replace p298 := eq_true p298
        replace q298 := eq_true q298
        go_wp2_with (first | ((with_reducible refine gate_dst (N := 6) rfl ?_); refine box_event ?hg (N := 6) ?hd (cs := #[.int .i64 0, .string (⟨#[]⟩ : ByteArray), .slice none 0 0, .slice none 0 0, .slice none 0 0, .bool false, .int .i64 0, .string (⟨#[]⟩ : ByteArray), .int .i64 0, .int .i64 0, .string (⟨#[]⟩ : ByteArray), .slice none 0 0, .string (⟨#[]⟩ : ByteArray), .bool false, .int .i64 0]) (t := 44) ?hr ?_; (case hd => rfl); (case hg => rfl); (case hr => first | (go_simp; done) | (go_simp; rfl)); intro gb299 hg w13 hbox hb; have BK299 := Aside0.mk (hbox); have GW299 := Aside0.mk (gsz hg bl : w.heap.size ≤ gb299); have GE299 := Aside0.mk (gsz hg bl : w.heap.size ≤ gb299); have NB296_299 := Aside0.mk ((by rw [hg]; exact Nat.ne_of_lt (blk_lt (g := gb296) (o := .cells #[.int .i64 a0_0, .int .i64 a0_1, .slice (some ad298) l0_2.length c0_2] 25 (0, 0)) bk) : gb296 ≠ gb299)); have NB299_296 := Aside0.mk ((by rw [hg]; exact Nat.ne_of_gt (blk_lt (g := gb296) (o := .cells #[.int .i64 a0_0, .int .i64 a0_1, .slice (some ad298) l0_2.length c0_2] 25 (0, 0)) bk) : gb299 ≠ gb296)); replace HO_4 := Aside0.mk (Kd.R_below (by (with_reducible repeat (first | apply Kd.R_alloc | apply Kd.R_drewN | apply Kd.R_drew)); exact HO_4.out) hb); replace BK296 := Aside0.mk (blk_below (g := gb296) (o := .cells #[.int .i64 a0_0, .int .i64 a0_1, .slice (some ad298) l0_2.length c0_2] 25 (0, 0)) bk hb); replace HB := Aside0.mk (below_step bl hb); clear hb hbox hg; have hnb14 := NB299_296.out; have hnc14 := NB296_299.out; obtain ⟨hcz15_0, hcz15_1, hcz15_2, hcz15_3, hcz15_4, hcz15_5, hcz15_6, hcz15_7, hcz15_8, hcz15_9, hcz15_10, hcz15_11, hcz15_12, hcz15_13, hcz15_14⟩ := cells15 BK299.out; obtain ⟨hfz15_0, hfz15_1, hfz15_2, hfz15_3, hfz15_4, hfz15_5, hfz15_6, hfz15_7, hfz15_8, hfz15_9, hfz15_10, hfz15_11, hfz15_12, hfz15_13, hfz15_14⟩ := froz15 BK299.out) | ((with_reducible refine gate_callee (f := 25) rfl ?_); refine goesL_ (some 21) rfl rfl Tryz.func25 (by kernel_rfl) rfl #[.agg #[.int .i64 ((rd_T44 l0_2 x15_1).f0), .string ((rd_T44 l0_2 x15_1).f1), .slice A298_2 ((rd_T44 l0_2 x15_1).f2).length c298_2, .slice A298_3 ((rd_T44 l0_2 x15_1).f3).length c298_3, .slice A298_4 ((rd_T44 l0_2 x15_1).f4).length c298_4, .bool ((rd_T44 l0_2 x15_1).f5), .int .i64 ((rd_T44 l0_2 x15_1).f6.f0), .string ((rd_T44 l0_2 x15_1).f6.f1), .int .i64 ((rd_T44 l0_2 x15_1).f6.f2.f0), .int .i64 ((rd_T44 l0_2 x15_1).f6.f2.f1), .string ((rd_T44 l0_2 x15_1).f6.f2.f2), .slice A298_11 ((rd_T44 l0_2 x15_1).f6.f3).length c298_11, .string ((rd_T44 l0_2 x15_1).f7), .bool ((rd_T44 l0_2 x15_1).f8), .int .i64 ((rd_T44 l0_2 x15_1).f9)]] rfl mp ?_; (with_reducible refine (tree_stmt.calls k1 ((rd_T44 l0_2 x15_1).f0) ((rd_T44 l0_2 x15_1).f1) _ _ ((rd_T44 l0_2 x15_1).f2) _ _ ((rd_T44 l0_2 x15_1).f3) _ _ ((rd_T44 l0_2 x15_1).f4) ((rd_T44 l0_2 x15_1).f5) ((rd_T44 l0_2 x15_1).f6.f0) ((rd_T44 l0_2 x15_1).f6.f1) ((rd_T44 l0_2 x15_1).f6.f2.f0) ((rd_T44 l0_2 x15_1).f6.f2.f1) ((rd_T44 l0_2 x15_1).f6.f2.f2) _ _ ((rd_T44 l0_2 x15_1).f6.f3) ((rd_T44 l0_2 x15_1).f7) ((rd_T44 l0_2 x15_1).f8) ((rd_T44 l0_2 x15_1).f9) t300 _ ?side1 ?side2 ?side3 ?side4 ?side5 ?side6 ?side7 ?side8 ?side9 A11.out).mono ?_); (case side1 => exact Kd.C_below HR298_2.out bl); (case side2 => exact HC298_2.out); (case side3 => exact Kd.C_below HR298_3.out bl); (case side4 => exact HC298_3.out); (case side5 => exact Kd.C_below HR298_4.out bl); (case side6 => exact HC298_4.out); (case side7 => exact Kd.C_below HR298_11.out bl); (case side8 => exact HC298_11.out); (case side9 => exact Sh.below hsh bl); rintro e w16 ⟨rfl, hb⟩; refine ⟨_, rfl, ?_⟩; replace HO_4 := Aside0.mk (Kd.R_below (by (with_reducible repeat (first | apply Kd.R_alloc | apply Kd.R_drewN | apply Kd.R_drew)); exact (Kd.R_mono (Kd.R_far (p := ⟨gb299, 14, none⟩) (Kd.R_far (p := ⟨gb299, 13, none⟩) (Kd.R_far (p := ⟨gb299, 12, none⟩) (Kd.R_far (p := ⟨gb299, 11, none⟩) (Kd.R_far (p := ⟨gb299, 10, none⟩) (Kd.R_far (p := ⟨gb299, 9, none⟩) (Kd.R_far (p := ⟨gb299, 8, none⟩) (Kd.R_far (p := ⟨gb299, 7, none⟩) (Kd.R_far (p := ⟨gb299, 6, none⟩) (Kd.R_far (p := ⟨gb299, 5, none⟩) (Kd.R_far (p := ⟨gb299, 4, none⟩) (Kd.R_far (p := ⟨gb299, 3, none⟩) (Kd.R_far (p := ⟨gb299, 2, none⟩) (Kd.R_far (p := ⟨gb299, 1, none⟩) (Kd.R_far (p := ⟨gb299, 0, none⟩) (Kd.R_types HO_4.out BK299.out (by decide)) (fun _ hk => hk.2) (.int .i64 ((rd_T44 l0_2 x15_1).f0))) (fun _ hk => hk.2) (.string ((rd_T44 l0_2 x15_1).f1))) (fun _ hk => hk.2) (.slice A298_2 ((rd_T44 l0_2 x15_1).f2).length c298_2)) (fun _ hk => hk.2) (.slice A298_3 ((rd_T44 l0_2 x15_1).f3).length c298_3)) (fun _ hk => hk.2) (.slice A298_4 ((rd_T44 l0_2 x15_1).f4).length c298_4)) (fun _ hk => hk.2) (.bool ((rd_T44 l0_2 x15_1).f5))) (fun _ hk => hk.2) (.int .i64 ((rd_T44 l0_2 x15_1).f6.f0))) (fun _ hk => hk.2) (.string ((rd_T44 l0_2 x15_1).f6.f1))) (fun _ hk => hk.2) (.int .i64 ((rd_T44 l0_2 x15_1).f6.f2.f0))) (fun _ hk => hk.2) (.int .i64 ((rd_T44 l0_2 x15_1).f6.f2.f1))) (fun _ hk => hk.2) (.string ((rd_T44 l0_2 x15_1).f6.f2.f2))) (fun _ hk => hk.2) (.slice A298_11 ((rd_T44 l0_2 x15_1).f6.f3).length c298_11)) (fun _ hk => hk.2) (.string ((rd_T44 l0_2 x15_1).f7))) (fun _ hk => hk.2) (.bool ((rd_T44 l0_2 x15_1).f8))) (fun _ hk => hk.2) (.int .i64 ((rd_T44 l0_2 x15_1).f9))) (fun _ h_ => h_.1))) hb); replace BK296 := Aside0.mk (blk_below (g := gb296) (o := .cells #[.int .i64 a0_0, .int .i64 a0_1, .slice (some ad298) l0_2.length c0_2] 25 (0, 0)) bf15 hb); replace BK299 := Aside0.mk (blk_below (g := gb299) (o := .cells #[.int .i64 ((rd_T44 l0_2 x15_1).f0), .string ((rd_T44 l0_2 x15_1).f1), .slice A298_2 ((rd_T44 l0_2 x15_1).f2).length c298_2, .slice A298_3 ((rd_T44 l0_2 x15_1).f3).length c298_3, .slice A298_4 ((rd_T44 l0_2 x15_1).f4).length c298_4, .bool ((rd_T44 l0_2 x15_1).f5), .int .i64 ((rd_T44 l0_2 x15_1).f6.f0), .string ((rd_T44 l0_2 x15_1).f6.f1), .int .i64 ((rd_T44 l0_2 x15_1).f6.f2.f0), .int .i64 ((rd_T44 l0_2 x15_1).f6.f2.f1), .string ((rd_T44 l0_2 x15_1).f6.f2.f2), .slice A298_11 ((rd_T44 l0_2 x15_1).f6.f3).length c298_11, .string ((rd_T44 l0_2 x15_1).f7), .bool ((rd_T44 l0_2 x15_1).f8), .int .i64 ((rd_T44 l0_2 x15_1).f9)] 44 (0, 0)) bp15 hb); replace HB := Aside0.mk (below_step bl hb); (try clear hb); (try clear hk)) | ((with_reducible refine gate_builtin (b := .append) (xs := #[.tmp 19, .tmp 22]) rfl ?_); at_builtin; refine Kd.R_append Kd.string (w0 := w) w.heap.size rfl (.tmp 19) (.tmp 22) 66 9 (.string ⟨#[]⟩) 16 rfl Tryz.underlying66 info9 rfl (by decide) (by omega) u4 x4_1 t300 [.string t300] (fun _ => True) (fun _ => False) rfl rfl ?aP (fun _ hk => hk.elim) ?aF ?aO ?aB ?aS ?aL ?_; (case aP => exact rfl); (case aB => exact bl); (case aF => exact (fun _ _ => trivial)); (case aO => exact (by (with_reducible repeat (first | apply Kd.R_alloc | apply Kd.R_drewN | apply Kd.R_drew)); exact HO_4.out)); (case aS => exact (below_size bl)); (case aL => have := LMc12.out; omega); intro v302 w17 ho hb hg hat; rw [← Ny301.out] at ho; have HO303 := Aside0.mk (ho); replace BK296 := Aside0.mk (blk_grown (g := gb296) (o := .cells #[.int .i64 a0_0, .int .i64 a0_1, .slice (some ad298) l0_2.length c0_2] 25 (0, 0)) bk hg (Kd.R_ne HO_4.out BK296.out (by decide))); replace BK299 := Aside0.mk (blk_grown (g := gb299) (o := .cells #[.int .i64 ((rd_T44 l0_2 x15_1).f0), .string ((rd_T44 l0_2 x15_1).f1), .slice A298_2 ((rd_T44 l0_2 x15_1).f2).length c298_2, .slice A298_3 ((rd_T44 l0_2 x15_1).f3).length c298_3, .slice A298_4 ((rd_T44 l0_2 x15_1).f4).length c298_4, .bool ((rd_T44 l0_2 x15_1).f5), .int .i64 ((rd_T44 l0_2 x15_1).f6.f0), .string ((rd_T44 l0_2 x15_1).f6.f1), .int .i64 ((rd_T44 l0_2 x15_1).f6.f2.f0), .int .i64 ((rd_T44 l0_2 x15_1).f6.f2.f1), .string ((rd_T44 l0_2 x15_1).f6.f2.f2), .slice A298_11 ((rd_T44 l0_2 x15_1).f6.f3).length c298_11, .string ((rd_T44 l0_2 x15_1).f7), .bool ((rd_T44 l0_2 x15_1).f8), .int .i64 ((rd_T44 l0_2 x15_1).f9)] 44 (0, 0)) bk hg (Kd.R_ne HO_4.out BK299.out (by decide))); replace HB := Aside0.mk (hb); clear ho hb hg hat))
        go_roundg k1
        case measure => have := HK1.out; omega
        case rel => exact ⟨(y301), (wrap64 (x15_1 + 1)), rs, H', ⟨by have := HK1.out; omega⟩, ⟨by (with_reducible repeat (first | apply Kd.R_alloc | apply Kd.R_drewN | apply Kd.R_drew)); exact HO303.out⟩, ⟨bk⟩, ⟨bl⟩⟩
       ·rw [if_neg c12] at H
        exact absurd H (by simp)
      ·rw [if_neg c10] at H
       exact absurd H (by simp)
     ·rw [if_neg c9] at H
      exact absurd H (by simp)
    ·rw [if_neg c8] at H
     have c8b0 : decide (x15_1 < (l0_2.length : Int)) = false := decide_eq_false c8
     clear c8
     obtain ⟨t304, A180, H⟩ := bind_out H
     have A18 := Aside0.mk A180
     clear A180
     obtain ⟨t305, A190, H⟩ := bind_out H
     have A19 := Aside0.mk A190
     clear A190
     by_cases c20 : a0_0 = 1
     ·rw [if_pos c20] at H
      have c20b0 : (a0_0 == 1) = true := beq_iff_eq.mpr c20
      have c20b1 : (a0_0 != 1) = false := bne_eq_false_iff_eq.mpr c20
      clear c20
      by_cases c21 : 19 + t305.size ≤ 9223372036854775807
      ·rw [if_pos c21] at H
       have c21b0 := eq_true c21
       have c21b1 : decide (19 + t305.size ≤ 9223372036854775807) = true := decide_eq_true c21
       try have c21b2 : (9223372036854775807 < 19 + t305.size) = False := eq_false (Nat.not_lt.2 c21)
       by_cases c22 : t304.size + ((⟨#[32, 65, 83, 32, 79, 70, 32, 83, 89, 83, 84, 69, 77, 32, 84, 73, 77, 69, 32]⟩ : ByteArray) ++ t305).size ≤ 9223372036854775807
       ·rw [if_pos c22] at H
        have c22z : t304.size + (19 + t305.size) ≤ 9223372036854775807 := by have h_ := c22; simp only [ByteArray.size_append] at h_; exact h_
        have c22y := eq_true c22z
        have c22x : decide (t304.size + (19 + t305.size) ≤ 9223372036854775807) = true := decide_eq_true c22z
        have c22w : (9223372036854775807 < t304.size + (19 + t305.size)) = False := eq_false (by omega)
        have c22b0 := eq_true c22
        have c22b1 : decide (t304.size + ((⟨#[32, 65, 83, 32, 79, 70, 32, 83, 89, 83, 84, 69, 77, 32, 84, 73, 77, 69, 32]⟩ : ByteArray) ++ t305).size ≤ 9223372036854775807) = true := decide_eq_true c22
        try have c22b2 : (9223372036854775807 < t304.size + ((⟨#[32, 65, 83, 32, 79, 70, 32, 83, 89, 83, 84, 69, 77, 32, 84, 73, 77, 69, 32]⟩ : ByteArray) ++ t305).size) = False := eq_false (Nat.not_lt.2 c22)
        by_cases c23 : ((t304 ++ ((⟨#[32, 65, 83, 32, 79, 70, 32, 83, 89, 83, 84, 69, 77, 32, 84, 73, 77, 69, 32]⟩ : ByteArray) ++ t305)).size : Int) > 2000
        ·rw [if_pos c23] at H
         have c23b0 : decide (2000 < ((t304 ++ ((⟨#[32, 65, 83, 32, 79, 70, 32, 83, 89, 83, 84, 69, 77, 32, 84, 73, 77, 69, 32]⟩ : ByteArray) ++ t305)).size : Int)) = true := decide_eq_true c23
         have c23e : decide (2000 < (t304.size : Int) + (19 + (t305.size : Int))) = true := by have h_ := c23b0; simp only [ByteArray.size_append, Int.natCast_add] at h_; exact h_
         have c23b1 : decide (2000 < (t304 ++ ((⟨#[32, 65, 83, 32, 79, 70, 32, 83, 89, 83, 84, 69, 77, 32, 84, 73, 77, 69, 32]⟩ : ByteArray) ++ t305)).size) = true := decide_eq_true (by omega)
         clear c23
         simp only [Option.some.injEq, Prod.mk.injEq] at H
         obtain ⟨rfl, rfl⟩ := H
         obtain ⟨Ao24, co24, eo24⟩ := Kd.R_slice HO_4.out
         subst eo24
         go_wp2_with (first | ((with_reducible refine gate_callee (f := 26) rfl ?_); refine goesL_ (some 26) rfl rfl Tryz.func26 (by kernel_rfl) rfl #[.slice Ao24 x4_1.length co24, .string (⟨#[59, 32]⟩ : ByteArray)] rfl mp ?_; (with_reducible refine (strings_Join.calls _ _ x4_1 (⟨#[59, 32]⟩ : ByteArray) t304 _ HO_4.out ?side2 A18.out).mono ?_); (case side2 => exact (Kd.R_reads' HO_4.out).2.1); rintro e w25 ⟨rfl, hb⟩; refine ⟨_, rfl, ?_⟩; replace HO_4 := Aside0.mk (Kd.R_below (by (with_reducible repeat (first | apply Kd.R_alloc | apply Kd.R_drewN | apply Kd.R_drew)); exact HO_4.out) hb); replace BK296 := Aside0.mk (blk_below (g := gb296) (o := .cells #[.int .i64 a0_0, .int .i64 a0_1, .slice A0_2 l0_2.length c0_2] 25 (0, 0)) bk hb); replace HB := Aside0.mk (below_step bl hb); (try clear hb); (try clear hk); obtain ⟨hcz26_0, hcz26_1, hcz26_2⟩ := cells3 BK296.out; obtain ⟨hfz26_0, hfz26_1, hfz26_2⟩ := froz3 BK296.out) | ((with_reducible refine gate_callee (f := 27) rfl ?_); refine goesL_ (some 29) rfl rfl Tryz.func27 (by kernel_rfl) rfl #[.int .i64 a0_1, .int .i64 10] rfl mp ?_; (with_reducible refine (strconv_FormatInt.calls a0_1 10 t305 _ ?side1 A19.out).mono ?_); (case side1 => exact Sh.below hsh bl); rintro e w27 ⟨rfl, hb⟩; refine ⟨_, rfl, ?_⟩; replace HO_4 := Aside0.mk (Kd.R_below (by (with_reducible repeat (first | apply Kd.R_alloc | apply Kd.R_drewN | apply Kd.R_drew)); exact HO_4.out) hb); replace BK296 := Aside0.mk (blk_below (g := gb296) (o := .cells #[.int .i64 a0_0, .int .i64 a0_1, .slice A0_2 l0_2.length c0_2] 25 (0, 0)) bk hb); replace HB := Aside0.mk (below_step bl hb); (try clear hb); (try clear hk); obtain ⟨hcz28_0, hcz28_1, hcz28_2⟩ := cells3 BK296.out; obtain ⟨hfz28_0, hfz28_1, hfz28_2⟩ := froz3 BK296.out))
         go_ret2
         exact ⟨er, bl⟩
        ·rw [if_neg c23] at H
         have c23b0 : decide (2000 < ((t304 ++ ((⟨#[32, 65, 83, 32, 79, 70, 32, 83, 89, 83, 84, 69, 77, 32, 84, 73, 77, 69, 32]⟩ : ByteArray) ++ t305)).size : Int)) = false := decide_eq_false c23
         have c23e : decide (2000 < (t304.size : Int) + (19 + (t305.size : Int))) = false := by have h_ := c23b0; simp only [ByteArray.size_append, Int.natCast_add] at h_; exact h_
         have c23b1 : decide (2000 < (t304 ++ ((⟨#[32, 65, 83, 32, 79, 70, 32, 83, 89, 83, 84, 69, 77, 32, 84, 73, 77, 69, 32]⟩ : ByteArray) ++ t305)).size) = false := decide_eq_false (by omega)
         clear c23
         simp only [Option.some.injEq, Prod.mk.injEq] at H
         obtain ⟨rfl, rfl⟩ := H
         obtain ⟨Ao29, co29, eo29⟩ := Kd.R_slice HO_4.out
         subst eo29
         go_wp2_with (first | ((with_reducible refine gate_callee (f := 26) rfl ?_); refine goesL_ (some 26) rfl rfl Tryz.func26 (by kernel_rfl) rfl #[.slice Ao29 x4_1.length co29, .string (⟨#[59, 32]⟩ : ByteArray)] rfl mp ?_; (with_reducible refine (strings_Join.calls _ _ x4_1 (⟨#[59, 32]⟩ : ByteArray) t304 _ HO_4.out ?side2 A18.out).mono ?_); (case side2 => exact (Kd.R_reads' HO_4.out).2.1); rintro e w30 ⟨rfl, hb⟩; refine ⟨_, rfl, ?_⟩; replace HO_4 := Aside0.mk (Kd.R_below (by (with_reducible repeat (first | apply Kd.R_alloc | apply Kd.R_drewN | apply Kd.R_drew)); exact HO_4.out) hb); replace BK296 := Aside0.mk (blk_below (g := gb296) (o := .cells #[.int .i64 a0_0, .int .i64 a0_1, .slice A0_2 l0_2.length c0_2] 25 (0, 0)) bk hb); replace HB := Aside0.mk (below_step bl hb); (try clear hb); (try clear hk); obtain ⟨hcz31_0, hcz31_1, hcz31_2⟩ := cells3 BK296.out; obtain ⟨hfz31_0, hfz31_1, hfz31_2⟩ := froz3 BK296.out) | ((with_reducible refine gate_callee (f := 27) rfl ?_); refine goesL_ (some 29) rfl rfl Tryz.func27 (by kernel_rfl) rfl #[.int .i64 a0_1, .int .i64 10] rfl mp ?_; (with_reducible refine (strconv_FormatInt.calls a0_1 10 t305 _ ?side1 A19.out).mono ?_); (case side1 => exact Sh.below hsh bl); rintro e w32 ⟨rfl, hb⟩; refine ⟨_, rfl, ?_⟩; replace HO_4 := Aside0.mk (Kd.R_below (by (with_reducible repeat (first | apply Kd.R_alloc | apply Kd.R_drewN | apply Kd.R_drew)); exact HO_4.out) hb); replace BK296 := Aside0.mk (blk_below (g := gb296) (o := .cells #[.int .i64 a0_0, .int .i64 a0_1, .slice A0_2 l0_2.length c0_2] 25 (0, 0)) bk hb); replace HB := Aside0.mk (below_step bl hb); (try clear hb); (try clear hk); obtain ⟨hcz33_0, hcz33_1, hcz33_2⟩ := cells3 BK296.out; obtain ⟨hfz33_0, hfz33_1, hfz33_2⟩ := froz3 BK296.out))
         go_ret2
         exact ⟨er, bl⟩
       ·rw [if_neg c22] at H
        exact absurd H (by simp)
      ·rw [if_neg c21] at H
       exact absurd H (by simp)
     ·rw [if_neg c20] at H
      have c20b0 : (a0_0 == 1) = false := beq_eq_false_iff_ne.mpr c20
      have c20b1 : (a0_0 != 1) = true := bne_iff_ne.mpr c20
      by_cases c34 : a0_0 = 2
      ·rw [if_pos c34] at H
       have c34b0 : (a0_0 == 2) = true := beq_iff_eq.mpr c34
       have c34b1 : (a0_0 != 2) = false := bne_eq_false_iff_eq.mpr c34
       clear c34
       by_cases c35 : 25 + t305.size ≤ 9223372036854775807
       ·rw [if_pos c35] at H
        have c35b0 := eq_true c35
        have c35b1 : decide (25 + t305.size ≤ 9223372036854775807) = true := decide_eq_true c35
        try have c35b2 : (9223372036854775807 < 25 + t305.size) = False := eq_false (Nat.not_lt.2 c35)
        by_cases c36 : t304.size + ((⟨#[32, 65, 83, 32, 79, 70, 32, 83, 89, 83, 84, 69, 77, 32, 84, 73, 77, 69, 32, 66, 79, 85, 78, 68, 32]⟩ : ByteArray) ++ t305).size ≤ 9223372036854775807
        ·rw [if_pos c36] at H
         have c36z : t304.size + (25 + t305.size) ≤ 9223372036854775807 := by have h_ := c36; simp only [ByteArray.size_append] at h_; exact h_
         have c36y := eq_true c36z
         have c36x : decide (t304.size + (25 + t305.size) ≤ 9223372036854775807) = true := decide_eq_true c36z
         have c36w : (9223372036854775807 < t304.size + (25 + t305.size)) = False := eq_false (by omega)
         have c36b0 := eq_true c36
         have c36b1 : decide (t304.size + ((⟨#[32, 65, 83, 32, 79, 70, 32, 83, 89, 83, 84, 69, 77, 32, 84, 73, 77, 69, 32, 66, 79, 85, 78, 68, 32]⟩ : ByteArray) ++ t305).size ≤ 9223372036854775807) = true := decide_eq_true c36
         try have c36b2 : (9223372036854775807 < t304.size + ((⟨#[32, 65, 83, 32, 79, 70, 32, 83, 89, 83, 84, 69, 77, 32, 84, 73, 77, 69, 32, 66, 79, 85, 78, 68, 32]⟩ : ByteArray) ++ t305).size) = False := eq_false (Nat.not_lt.2 c36)
         by_cases c37 : ((t304 ++ ((⟨#[32, 65, 83, 32, 79, 70, 32, 83, 89, 83, 84, 69, 77, 32, 84, 73, 77, 69, 32, 66, 79, 85, 78, 68, 32]⟩ : ByteArray) ++ t305)).size : Int) > 2000
         ·rw [if_pos c37] at H
          have c37b0 : decide (2000 < ((t304 ++ ((⟨#[32, 65, 83, 32, 79, 70, 32, 83, 89, 83, 84, 69, 77, 32, 84, 73, 77, 69, 32, 66, 79, 85, 78, 68, 32]⟩ : ByteArray) ++ t305)).size : Int)) = true := decide_eq_true c37
          have c37e : decide (2000 < (t304.size : Int) + (25 + (t305.size : Int))) = true := by have h_ := c37b0; simp only [ByteArray.size_append, Int.natCast_add] at h_; exact h_
          have c37b1 : decide (2000 < (t304 ++ ((⟨#[32, 65, 83, 32, 79, 70, 32, 83, 89, 83, 84, 69, 77, 32, 84, 73, 77, 69, 32, 66, 79, 85, 78, 68, 32]⟩ : ByteArray) ++ t305)).size) = true := decide_eq_true (by omega)
          clear c37
          simp only [Option.some.injEq, Prod.mk.injEq] at H
          obtain ⟨rfl, rfl⟩ := H
          obtain ⟨Ao38, co38, eo38⟩ := Kd.R_slice HO_4.out
          subst eo38
          go_wp2_with (first | ((with_reducible refine gate_callee (f := 26) rfl ?_); refine goesL_ (some 26) rfl rfl Tryz.func26 (by kernel_rfl) rfl #[.slice Ao38 x4_1.length co38, .string (⟨#[59, 32]⟩ : ByteArray)] rfl mp ?_; (with_reducible refine (strings_Join.calls _ _ x4_1 (⟨#[59, 32]⟩ : ByteArray) t304 _ HO_4.out ?side2 A18.out).mono ?_); (case side2 => exact (Kd.R_reads' HO_4.out).2.1); rintro e w39 ⟨rfl, hb⟩; refine ⟨_, rfl, ?_⟩; replace HO_4 := Aside0.mk (Kd.R_below (by (with_reducible repeat (first | apply Kd.R_alloc | apply Kd.R_drewN | apply Kd.R_drew)); exact HO_4.out) hb); replace BK296 := Aside0.mk (blk_below (g := gb296) (o := .cells #[.int .i64 a0_0, .int .i64 a0_1, .slice A0_2 l0_2.length c0_2] 25 (0, 0)) bk hb); replace HB := Aside0.mk (below_step bl hb); (try clear hb); (try clear hk); obtain ⟨hcz40_0, hcz40_1, hcz40_2⟩ := cells3 BK296.out; obtain ⟨hfz40_0, hfz40_1, hfz40_2⟩ := froz3 BK296.out) | ((with_reducible refine gate_callee (f := 27) rfl ?_); refine goesL_ (some 29) rfl rfl Tryz.func27 (by kernel_rfl) rfl #[.int .i64 a0_1, .int .i64 10] rfl mp ?_; (with_reducible refine (strconv_FormatInt.calls a0_1 10 t305 _ ?side1 A19.out).mono ?_); (case side1 => exact Sh.below hsh bl); rintro e w41 ⟨rfl, hb⟩; refine ⟨_, rfl, ?_⟩; replace HO_4 := Aside0.mk (Kd.R_below (by (with_reducible repeat (first | apply Kd.R_alloc | apply Kd.R_drewN | apply Kd.R_drew)); exact HO_4.out) hb); replace BK296 := Aside0.mk (blk_below (g := gb296) (o := .cells #[.int .i64 a0_0, .int .i64 a0_1, .slice A0_2 l0_2.length c0_2] 25 (0, 0)) bk hb); replace HB := Aside0.mk (below_step bl hb); (try clear hb); (try clear hk); obtain ⟨hcz42_0, hcz42_1, hcz42_2⟩ := cells3 BK296.out; obtain ⟨hfz42_0, hfz42_1, hfz42_2⟩ := froz3 BK296.out))
          go_ret2
          exact ⟨er, bl⟩
         ·rw [if_neg c37] at H
          have c37b0 : decide (2000 < ((t304 ++ ((⟨#[32, 65, 83, 32, 79, 70, 32, 83, 89, 83, 84, 69, 77, 32, 84, 73, 77, 69, 32, 66, 79, 85, 78, 68, 32]⟩ : ByteArray) ++ t305)).size : Int)) = false := decide_eq_false c37
          have c37e : decide (2000 < (t304.size : Int) + (25 + (t305.size : Int))) = false := by have h_ := c37b0; simp only [ByteArray.size_append, Int.natCast_add] at h_; exact h_
          have c37b1 : decide (2000 < (t304 ++ ((⟨#[32, 65, 83, 32, 79, 70, 32, 83, 89, 83, 84, 69, 77, 32, 84, 73, 77, 69, 32, 66, 79, 85, 78, 68, 32]⟩ : ByteArray) ++ t305)).size) = false := decide_eq_false (by omega)
          clear c37
          simp only [Option.some.injEq, Prod.mk.injEq] at H
          obtain ⟨rfl, rfl⟩ := H
          obtain ⟨Ao43, co43, eo43⟩ := Kd.R_slice HO_4.out
          subst eo43
          go_wp2_with (first | ((with_reducible refine gate_callee (f := 26) rfl ?_); refine goesL_ (some 26) rfl rfl Tryz.func26 (by kernel_rfl) rfl #[.slice Ao43 x4_1.length co43, .string (⟨#[59, 32]⟩ : ByteArray)] rfl mp ?_; (with_reducible refine (strings_Join.calls _ _ x4_1 (⟨#[59, 32]⟩ : ByteArray) t304 _ HO_4.out ?side2 A18.out).mono ?_); (case side2 => exact (Kd.R_reads' HO_4.out).2.1); rintro e w44 ⟨rfl, hb⟩; refine ⟨_, rfl, ?_⟩; replace HO_4 := Aside0.mk (Kd.R_below (by (with_reducible repeat (first | apply Kd.R_alloc | apply Kd.R_drewN | apply Kd.R_drew)); exact HO_4.out) hb); replace BK296 := Aside0.mk (blk_below (g := gb296) (o := .cells #[.int .i64 a0_0, .int .i64 a0_1, .slice A0_2 l0_2.length c0_2] 25 (0, 0)) bk hb); replace HB := Aside0.mk (below_step bl hb); (try clear hb); (try clear hk); obtain ⟨hcz45_0, hcz45_1, hcz45_2⟩ := cells3 BK296.out; obtain ⟨hfz45_0, hfz45_1, hfz45_2⟩ := froz3 BK296.out) | ((with_reducible refine gate_callee (f := 27) rfl ?_); refine goesL_ (some 29) rfl rfl Tryz.func27 (by kernel_rfl) rfl #[.int .i64 a0_1, .int .i64 10] rfl mp ?_; (with_reducible refine (strconv_FormatInt.calls a0_1 10 t305 _ ?side1 A19.out).mono ?_); (case side1 => exact Sh.below hsh bl); rintro e w46 ⟨rfl, hb⟩; refine ⟨_, rfl, ?_⟩; replace HO_4 := Aside0.mk (Kd.R_below (by (with_reducible repeat (first | apply Kd.R_alloc | apply Kd.R_drewN | apply Kd.R_drew)); exact HO_4.out) hb); replace BK296 := Aside0.mk (blk_below (g := gb296) (o := .cells #[.int .i64 a0_0, .int .i64 a0_1, .slice A0_2 l0_2.length c0_2] 25 (0, 0)) bk hb); replace HB := Aside0.mk (below_step bl hb); (try clear hb); (try clear hk); obtain ⟨hcz47_0, hcz47_1, hcz47_2⟩ := cells3 BK296.out; obtain ⟨hfz47_0, hfz47_1, hfz47_2⟩ := froz3 BK296.out))
          go_ret2
          exact ⟨er, bl⟩
        ·rw [if_neg c36] at H
         exact absurd H (by simp)
       ·rw [if_neg c35] at H
        exact absurd H (by simp)
      ·rw [if_neg c34] at H
       have c34b0 : (a0_0 == 2) = false := beq_eq_false_iff_ne.mpr c34
       have c34b1 : (a0_0 != 2) = true := bne_iff_ne.mpr c34
       by_cases c48 : (t304.size : Int) > 2000
       ·rw [if_pos c48] at H
        have c48b0 : decide (2000 < (t304.size : Int)) = true := decide_eq_true c48
        have c48b1 : decide (2000 < t304.size) = true := decide_eq_true (by omega)
        clear c48
        simp only [Option.some.injEq, Prod.mk.injEq] at H
        obtain ⟨rfl, rfl⟩ := H
        obtain ⟨Ao49, co49, eo49⟩ := Kd.R_slice HO_4.out
        subst eo49
        go_wp2_with (first | ((with_reducible refine gate_callee (f := 26) rfl ?_); refine goesL_ (some 26) rfl rfl Tryz.func26 (by kernel_rfl) rfl #[.slice Ao49 x4_1.length co49, .string (⟨#[59, 32]⟩ : ByteArray)] rfl mp ?_; (with_reducible refine (strings_Join.calls _ _ x4_1 (⟨#[59, 32]⟩ : ByteArray) t304 _ HO_4.out ?side2 A18.out).mono ?_); (case side2 => exact (Kd.R_reads' HO_4.out).2.1); rintro e w50 ⟨rfl, hb⟩; refine ⟨_, rfl, ?_⟩; replace HO_4 := Aside0.mk (Kd.R_below (by (with_reducible repeat (first | apply Kd.R_alloc | apply Kd.R_drewN | apply Kd.R_drew)); exact HO_4.out) hb); replace BK296 := Aside0.mk (blk_below (g := gb296) (o := .cells #[.int .i64 a0_0, .int .i64 a0_1, .slice A0_2 l0_2.length c0_2] 25 (0, 0)) bk hb); replace HB := Aside0.mk (below_step bl hb); (try clear hb); (try clear hk); obtain ⟨hcz51_0, hcz51_1, hcz51_2⟩ := cells3 BK296.out; obtain ⟨hfz51_0, hfz51_1, hfz51_2⟩ := froz3 BK296.out) | ((with_reducible refine gate_callee (f := 27) rfl ?_); refine goesL_ (some 29) rfl rfl Tryz.func27 (by kernel_rfl) rfl #[.int .i64 a0_1, .int .i64 10] rfl mp ?_; (with_reducible refine (strconv_FormatInt.calls a0_1 10 t305 _ ?side1 A19.out).mono ?_); (case side1 => exact Sh.below hsh bl); rintro e w52 ⟨rfl, hb⟩; refine ⟨_, rfl, ?_⟩; replace HO_4 := Aside0.mk (Kd.R_below (by (with_reducible repeat (first | apply Kd.R_alloc | apply Kd.R_drewN | apply Kd.R_drew)); exact HO_4.out) hb); replace BK296 := Aside0.mk (blk_below (g := gb296) (o := .cells #[.int .i64 a0_0, .int .i64 a0_1, .slice A0_2 l0_2.length c0_2] 25 (0, 0)) bk hb); replace HB := Aside0.mk (below_step bl hb); (try clear hb); (try clear hk); obtain ⟨hcz53_0, hcz53_1, hcz53_2⟩ := cells3 BK296.out; obtain ⟨hfz53_0, hfz53_1, hfz53_2⟩ := froz3 BK296.out))
        go_ret2
        exact ⟨er, bl⟩
       ·rw [if_neg c48] at H
        have c48b0 : decide (2000 < (t304.size : Int)) = false := decide_eq_false c48
        have c48b1 : decide (2000 < t304.size) = false := decide_eq_false (by omega)
        clear c48
        simp only [Option.some.injEq, Prod.mk.injEq] at H
        obtain ⟨rfl, rfl⟩ := H
        obtain ⟨Ao54, co54, eo54⟩ := Kd.R_slice HO_4.out
        subst eo54
        go_wp2_with (first | ((with_reducible refine gate_callee (f := 26) rfl ?_); refine goesL_ (some 26) rfl rfl Tryz.func26 (by kernel_rfl) rfl #[.slice Ao54 x4_1.length co54, .string (⟨#[59, 32]⟩ : ByteArray)] rfl mp ?_; (with_reducible refine (strings_Join.calls _ _ x4_1 (⟨#[59, 32]⟩ : ByteArray) t304 _ HO_4.out ?side2 A18.out).mono ?_); (case side2 => exact (Kd.R_reads' HO_4.out).2.1); rintro e w55 ⟨rfl, hb⟩; refine ⟨_, rfl, ?_⟩; replace HO_4 := Aside0.mk (Kd.R_below (by (with_reducible repeat (first | apply Kd.R_alloc | apply Kd.R_drewN | apply Kd.R_drew)); exact HO_4.out) hb); replace BK296 := Aside0.mk (blk_below (g := gb296) (o := .cells #[.int .i64 a0_0, .int .i64 a0_1, .slice A0_2 l0_2.length c0_2] 25 (0, 0)) bk hb); replace HB := Aside0.mk (below_step bl hb); (try clear hb); (try clear hk); obtain ⟨hcz56_0, hcz56_1, hcz56_2⟩ := cells3 BK296.out; obtain ⟨hfz56_0, hfz56_1, hfz56_2⟩ := froz3 BK296.out) | ((with_reducible refine gate_callee (f := 27) rfl ?_); refine goesL_ (some 29) rfl rfl Tryz.func27 (by kernel_rfl) rfl #[.int .i64 a0_1, .int .i64 10] rfl mp ?_; (with_reducible refine (strconv_FormatInt.calls a0_1 10 t305 _ ?side1 A19.out).mono ?_); (case side1 => exact Sh.below hsh bl); rintro e w57 ⟨rfl, hb⟩; refine ⟨_, rfl, ?_⟩; replace HO_4 := Aside0.mk (Kd.R_below (by (with_reducible repeat (first | apply Kd.R_alloc | apply Kd.R_drewN | apply Kd.R_drew)); exact HO_4.out) hb); replace BK296 := Aside0.mk (blk_below (g := gb296) (o := .cells #[.int .i64 a0_0, .int .i64 a0_1, .slice A0_2 l0_2.length c0_2] 25 (0, 0)) bk hb); replace HB := Aside0.mk (below_step bl hb); (try clear hb); (try clear hk); obtain ⟨hcz58_0, hcz58_1, hcz58_2⟩ := cells3 BK296.out; obtain ⟨hfz58_0, hfz58_1, hfz58_2⟩ := froz3 BK296.out))
        go_ret2
        exact ⟨er, bl⟩
 ·replace c3 := Bool.eq_false_iff.mpr c3
  subst c3
  have H1 : (some ((⟨#[]⟩ : ByteArray), 9)) = some (r1, r2) := by rw [if_neg (show ¬ (false = true) by decide)] at H; exact H
  clear H
  have H := H1
  clear H1
  simp only [Option.some.injEq, Prod.mk.injEq] at H
  obtain ⟨rfl, rfl⟩ := H
  go_enter Tryz.func16, Tryz.ntmps16
  go_wp2_with (first | ((with_reducible refine gate_dst (N := 1) rfl ?_); refine box_ev (N := 1) (cs := #[.int .i64 a0_0, .int .i64 a0_1, .slice A0_2 l0_2.length c0_2]) (t := 25) ?_; intro gb296 hg w59 hbox hb; have BK296 := Aside0.mk (hbox); have GW296 := Aside0.mk (gsz hg bl : w.heap.size ≤ gb296); have GE296 := Aside0.mk (gsz hg bl : w.heap.size ≤ gb296); replace HB := Aside0.mk (below_step bl hb); clear hb hbox hg; obtain ⟨hcz60_0, hcz60_1, hcz60_2⟩ := cells3 BK296.out; obtain ⟨hfz60_0, hfz60_1, hfz60_2⟩ := froz3 BK296.out) | ((with_reducible refine gate_callee (f := 18) rfl ?_); refine goesL_ (some 10) rfl rfl Tryz.func18 (by kernel_rfl) rfl #[.agg #[.int .i64 a0_0, .int .i64 a0_1, .slice A0_2 l0_2.length c0_2]] rfl mp ?_; (with_reducible refine (tree_May.calls k a0_0 a0_1 _ _ l0_2 false _ ?side1 ?side2 ?side3 A2.out).mono ?_); (case side1 => exact kc HR0_2.out); (case side2 => exact HC0_2.out); (case side3 => exact Sh.below hsh bl); rintro e w61 ⟨rfl, hb⟩; refine ⟨_, rfl, ?_⟩; replace BK296 := Aside0.mk (blk_below (g := gb296) (o := .cells #[.int .i64 a0_0, .int .i64 a0_1, .slice A0_2 l0_2.length c0_2] 25 (0, 0)) bk hb); replace HB := Aside0.mk (below_step bl hb); (try clear hb); (try clear hk)))
  go_ret2
  exact ⟨er, bl⟩
end Go.Proofs.YtlpnlfahlcingaaGreatDoor.PL
end
section
namespace Go.Proofs.YtlpnlfahlcingaaGreatDoor.PL
open Go.RowKit Go.Proofs.YtlpnlfahlcingaaGreatDoorW.PrintWords Go.Proofs.YtlpnlfahlcingaaGreatDoorW.PrintLast Go.Proofs.YtlpnlfahlcingaaGreatDoorW.PrintMore
set_option linter.unusedVariables false
set_option linter.unusedSimpArgs false
attribute [local go_sem] World.cell?_alloc_some
attribute [local go_sem ↓] isSome_setCell
def selT : ByteArray := (⟨#[115, 101, 108, 101, 99, 116, 32, 42, 32, 102, 114, 111, 109, 32, 116, 32, 119, 104, 101, 114, 101, 32, 107, 32, 61, 32, 53]⟩ : ByteArray)
def selL : List S44 := match parseF 3000 selT with | some (l, _, _) => l.st | none => []
theorem sel_parse : parseF 3000 selT = some (⟨0, 0, selL⟩, 0, 0) := by kernel_rfl
theorem sel_print : tree_Print.f 100 0 0 selL = some ((⟨#[83, 69, 76, 69, 67, 84, 32, 42, 32, 70, 82, 79, 77, 32, 84, 32, 87, 72, 69, 82, 69, 32, 40, 75, 32, 61, 32, 53, 41]⟩ : ByteArray), 0) := by kernel_rfl
theorem sel_may : tree_May.f 100 0 0 selL = some true := by kernel_rfl
theorem bad_parse : parseF 3000 (⟨#[83, 69, 76, 69, 67, 84, 32, 70, 82, 79, 77, 32, 116]⟩ : ByteArray) = some (⟨0, 0, []⟩, 7, 13) := by kernel_rfl
theorem PostP.or {w w' : World} {r : LotV × Int × Int} {e : Ending} (h : PostP w r e w') :
    ∃ A c, e = .returned (.tuple #[.agg #[.int .i64 r.1.md, .int .i64 r.1.n, .slice A r.1.st.length c], .int .i64 r.2.1, .int .i64 r.2.2]) ∧ r.1.st.length ≤ c ∧ (∀ W, Below w'.heap.size w' W → k44.C W A r.1.st.length r.1.st) ∧ Below w.heap.size w w' := by
  obtain ⟨v, he, hra, hb⟩ := h
  obtain ⟨A, c, rfl, hl, hC⟩ := hra
  exact ⟨A, c, he, hl, fun W hW => hC W fun k _ hk => hW.block k hk, hb⟩
set_option maxHeartbeats 8000000 in
set_option maxRecDepth 100000 in
theorem begun_calls {w : World} (hsh : Sh w) : Calls Tryz.prog 9 #[] w fun e w' => e = .returned (.bool true) ∧ Below w.heap.size w w' := by
  have HS := Aside0.mk hsh
  clear hsh
  go_enter Tryz.func9, Tryz.ntmps9
  go_upto_region 2 with (go_at_call 10; refine (parse_calls HS.out 3000 selT _ sel_parse).mono ?_; intro e w1 hp; obtain ⟨A, c, rfl, hl, hC, hb⟩ := PostP.or hp; dsimp only at hl hC; have H1 := Aside0.mk (And.intro hl (And.intro hC hb)); clear hl hC hb hp)
  obtain ⟨g1, hg1⟩ : ∃ g, w1.heap.size = g := ⟨_, rfl⟩
  have B1 := Aside0.mk (fun O : Obj => hg1 ▸ blk_new w1 O)
  rw [hg1]
  clear hg1
  refine at_world (fun w2 => Aside0 (Below w1.heap.size w1 w2 ∧ w2.heap[g1]? = some (.cells #[.int .i64 0, .int .i64 0, .slice A selL.length c] 25 (0, 0)))) ⟨below_alloc (Below.refl _ _) _, B1.out _⟩ (fun w2 H2 => ?_)
  clear B1
  have x0 := (blk_cell H2.out.2 0).trans rfl
  have x1 := (blk_cell H2.out.2 1).trans rfl
  have x2 := (blk_cell H2.out.2 2).trans rfl
  simp at x0 x1 x2
  have HB2 := Aside0.mk (below_step H1.out.2.2 H2.out.1)
  go_upto_region 3 with (go_at_call 16; refine (tree_Print.calls 100 0 0 A c selL (⟨#[83, 69, 76, 69, 67, 84, 32, 42, 32, 70, 82, 79, 77, 32, 84, 32, 87, 72, 69, 82, 69, 32, 40, 75, 32, 61, 32, 53, 41]⟩ : ByteArray) 0 w2 (H1.out.2.1 w2 H2.out.1) H1.out.1 (HS.out.below HB2.out) sel_print).mono ?_; rintro e w3 ⟨rfl, hb⟩; have H3 := Aside0.mk (And.intro (H2.out.1.trans (hb.mono (below_size H2.out.1))) (And.intro (blk_below H2.out.2 hb) (below_step HB2.out hb))); clear hb)
  clear x0 x1 x2
  go_upto_region 4 with (go_at_call 10; refine (parse_calls (HS.out.below H3.out.2.2) 3000 (⟨#[83, 69, 76, 69, 67, 84, 32, 70, 82, 79, 77, 32, 116]⟩ : ByteArray) _ bad_parse).mono ?_; intro e w4 hp; obtain ⟨A4, c4, rfl, hl4, hC4, hb4⟩ := PostP.or hp; dsimp only at hl4 hC4; have H4 := Aside0.mk (And.intro (H3.out.1.trans (hb4.mono (below_size H3.out.1))) (And.intro (blk_below H3.out.2.1 hb4) (below_step H3.out.2.2 hb4))); clear hl4 hC4 hb4 hp)
  refine at_world (fun w5 => Aside0 (Below w1.heap.size w1 w5 ∧ w5.heap[g1]? = some (.cells #[.int .i64 0, .int .i64 0, .slice A selL.length c] 25 (0, 0)) ∧ Below w.heap.size w w5)) ⟨below_alloc H4.out.1 _, blk_alloc H4.out.2.1 _, below_alloc H4.out.2.2 _⟩ (fun w5 H5 => ?_)
  have x0 := (blk_cell H5.out.2.1 0).trans rfl
  have x1 := (blk_cell H5.out.2.1 1).trans rfl
  have x2 := (blk_cell H5.out.2.1 2).trans rfl
  simp at x0 x1 x2
  go_wp2_with (go_at_call 18; refine (tree_May.calls 100 0 0 A c selL true w5 (H1.out.2.1 w5 H5.out.1) H1.out.1 (HS.out.below H5.out.2.2) sel_may).mono ?_; rintro e w6 ⟨rfl, hb⟩; have H6 := Aside0.mk (below_step H5.out.2.2 hb); clear hb)
  go_ret
  exact ⟨rfl, H6.out⟩
end Go.Proofs.YtlpnlfahlcingaaGreatDoor.PL
end
section
namespace Go.Proofs.YtlpnlfahlcingaaGreatDoor.Pure
set_option linter.unusedVariables false
def letU (c : UInt8) : Bool := (65 ≤ c.toNat && c.toNat ≤ 90) || (97 ≤ c.toNat && c.toNat ≤ 122) || c.toNat == 95
def digU (c : UInt8) : Bool := 48 ≤ c.toNat && c.toNat ≤ 57
def worU (c : UInt8) : Bool := letU c || digU c
def blaU (c : UInt8) : Bool := c.toNat == 9 || c.toNat == 10 || c.toNat == 13 || c.toNat == 32
def uppU (c : UInt8) : UInt8 := if 97 ≤ c.toNat ∧ c.toNat ≤ 122 then c - 32 else c
def numS : Int → List UInt8 → Option Int
  | v, [] => some v
  | v, c :: t => if v > (9223372036854775807 - ((c.toNat : Int) - 48)) / 10 then none else numS (10 * v + ((c.toNat : Int) - 48)) t
def texS : List UInt8 → Nat → List UInt8 → Option (List UInt8 × Nat)
  | _, _, [] => none
  | acc, n, [c] => if c.toNat = 39 then some (acc, n + 1) else none
  | acc, n, c :: d :: t => if c.toNat = 39 then (if d.toNat = 39 then texS (acc ++ [d]) (n + 2) t else some (acc, n + 1)) else texS (acc ++ [c]) (n + 1) (d :: t)
inductive TR where
  | bad (e : Int)
  | ok (k : Int) (s : List UInt8) (v : Int) (n : Nat)
def isSign (c : UInt8) : Bool := c.toNat == 40 || c.toNat == 41 || c.toNat == 44 || c.toNat == 59 || c.toNat == 42 || c.toNat == 61 || c.toNat == 43 || c.toNat == 45 || c.toNat == 47 || c.toNat == 37
def sigS (c : UInt8) (t : List UInt8) : TR :=
  if c.toNat = 60 then (match t with
    | d :: _ => if d.toNat = 62 then .ok 4 [c, d] 0 2 else if d.toNat = 61 then .ok 4 [c, d] 0 2 else .ok 4 [c] 0 1
    | [] => .ok 4 [c] 0 1)
  else if c.toNat = 62 then (match t with
    | d :: _ => if d.toNat = 61 then .ok 4 [c, d] 0 2 else .ok 4 [c] 0 1
    | [] => .ok 4 [c] 0 1)
  else if isSign c then .ok 4 [c] 0 1 else .bad 13
def headLet : List UInt8 → Bool
  | [] => false
  | d :: _ => letU d
def tokS : List UInt8 → TR
  | [] => .bad 13
  | c :: t =>
    if letU c then .ok 1 (((c :: t).takeWhile worU).map uppU) 0 ((c :: t).takeWhile worU).length
    else if digU c then (match numS 0 ((c :: t).takeWhile digU) with
      | none => .bad 5
      | some v => if headLet ((c :: t).dropWhile digU) then .bad 13 else .ok 2 [] v ((c :: t).takeWhile digU).length)
    else if c.toNat = 39 then (match texS [] 1 t with
      | none => .bad 13
      | some (s, n) => if s.length > 64 then .bad 3 else .ok 3 s 0 n)
    else sigS c t
structure Tk where
  k : Int
  p : Int
  s : List UInt8
  v : Int
def lexS : Nat → Nat → List UInt8 → List Tk → List Tk × Int
  | 0, p, _, acc => (acc ++ [⟨0, p, [], 0⟩], 0)
  | _ + 1, p, [], acc => (acc ++ [⟨0, p, [], 0⟩], 0)
  | f + 1, p, c :: t, acc => if blaU c then lexS f (p + 1) t acc else match tokS (c :: t) with
    | .bad e => ([], e)
    | .ok k s v n => lexS f (p + n) ((c :: t).drop n) (acc ++ [⟨k, p, s, v⟩])
theorem texS_n : ∀ (l acc : List UInt8) (n : Nat) {s : List UInt8} {m : Nat}, texS acc n l = some (s, m) → n + 1 ≤ m ∧ m ≤ n + l.length ∧ s.length ≤ acc.length + l.length := by
  intro l
  induction h : l.length using Nat.strongRecOn generalizing l with
  | _ N ih =>
  intro acc n s m hs
  match l, h with
  | [], h => simp [texS] at hs
  | [c], h =>
    unfold texS at hs
    split at hs
    · simp only [Option.some.injEq, Prod.mk.injEq] at hs
      obtain ⟨rfl, rfl⟩ := hs
      simp at h; omega
    · cases hs
  | c :: d :: t, h =>
    simp only [List.length_cons] at h
    unfold texS at hs
    split at hs
    · split at hs
      · have := ih t.length (by omega) t rfl _ _ hs
        simp only [List.length_append, List.length_cons, List.length_nil] at this; omega
      · simp only [Option.some.injEq, Prod.mk.injEq] at hs
        obtain ⟨rfl, rfl⟩ := hs
        omega
    · have := ih (t.length + 1) (by omega) (d :: t) (by simp) _ _ hs
      simp only [List.length_append, List.length_cons, List.length_nil] at this; omega
theorem tokS_cons (c : UInt8) (t : List UInt8) : tokS (c :: t) =
    if letU c then .ok 1 (((c :: t).takeWhile worU).map uppU) 0 ((c :: t).takeWhile worU).length
    else if digU c then (match numS 0 ((c :: t).takeWhile digU) with
      | none => .bad 5
      | some v => if headLet ((c :: t).dropWhile digU) then .bad 13 else .ok 2 [] v ((c :: t).takeWhile digU).length)
    else if c.toNat = 39 then (match texS [] 1 t with
      | none => .bad 13
      | some (s, n) => if s.length > 64 then .bad 3 else .ok 3 s 0 n)
    else sigS c t := rfl
theorem sigS_n (c : UInt8) (t : List UInt8) {k : Int} {s : List UInt8} {v : Int} {n : Nat} (h : sigS c t = .ok k s v n) : 1 ≤ n ∧ n ≤ (c :: t).length ∧ k ≠ 0 := by
  unfold sigS at h
  cases t with
  | nil =>
    simp only [List.length_cons, List.length_nil] at *
    repeat' (split at h)
    all_goals (first | (cases h; done) | (cases h; exact ⟨by omega, by omega, by decide⟩))
  | cons d t =>
    simp only [List.length_cons] at *
    repeat' (split at h)
    all_goals (first | (cases h; done) | (cases h; exact ⟨by omega, by omega, by decide⟩))
theorem tokS_n (l : List UInt8) {k : Int} {s : List UInt8} {v : Int} {n : Nat} (h : tokS l = .ok k s v n) : 1 ≤ n ∧ n ≤ l.length ∧ k ≠ 0 := by
  cases l with
  | nil => simp [tokS] at h
  | cons c t =>
    have hw : ∀ p : UInt8 → Bool, ((c :: t).takeWhile p).length ≤ (c :: t).length := fun p => (List.takeWhile_sublist p).length_le
    rw [tokS_cons] at h
    by_cases h1 : letU c = true
    · rw [if_pos h1] at h
      cases h
      refine ⟨?_, hw _, by decide⟩
      rw [List.takeWhile_cons, if_pos (by simp [worU, h1])]
      simp
    · rw [if_neg h1] at h
      by_cases h2 : digU c = true
      · rw [if_pos h2] at h
        cases hv : numS 0 ((c :: t).takeWhile digU) with
        | none => rw [hv] at h; cases h
        | some x =>
          rw [hv] at h
          simp only at h
          by_cases h3 : headLet ((c :: t).dropWhile digU) = true
          · rw [if_pos h3] at h; cases h
          · rw [if_neg h3] at h
            cases h
            refine ⟨?_, hw _, by decide⟩
            rw [List.takeWhile_cons, if_pos h2]
            simp
      · rw [if_neg h2] at h
        by_cases h3 : c.toNat = 39
        · rw [if_pos h3] at h
          cases hv : texS [] 1 t with
          | none => rw [hv] at h; cases h
          | some x =>
            obtain ⟨x, m⟩ := x
            rw [hv] at h
            simp only at h
            by_cases h4 : x.length > 64
            · rw [if_pos h4] at h; cases h
            · rw [if_neg h4] at h
              cases h
              have := texS_n _ _ _ hv
              simp only [List.length_cons]
              exact ⟨by omega, by omega, by decide⟩
        · rw [if_neg h3] at h
          exact sigS_n c t h
end Go.Proofs.YtlpnlfahlcingaaGreatDoor.Pure
end
section
namespace Go.Proofs.YtlpnlfahlcingaaGreatDoor.Pure
open Go.RowKit Go.Proofs.YtlpnlfahlcingaaGreatDoor.PL Go.Proofs.YtlpnlfahlcingaaGreatDoorW.PrintWords Go.Proofs.YtlpnlfahlcingaaGreatDoorW.PrintLast Go.Proofs.YtlpnlfahlcingaaGreatDoorW.PrintMore
set_option linter.unusedVariables false
set_option linter.unusedSimpArgs false
def bs (s : ByteArray) : List UInt8 := s.data.toList
def ofL (l : List UInt8) : ByteArray := ⟨l.toArray⟩
theorem bs_len (s : ByteArray) : (bs s).length = s.size := data_length s
theorem bs_ofL (l : List UInt8) : bs (ofL l) = l := by simp [bs, ofL]
theorem ofL_bs (s : ByteArray) : ofL (bs s) = s := by simp [bs, ofL]
theorem bs_inj {s t : ByteArray} (h : bs s = bs t) : s = t := by rw [← ofL_bs s, h, ofL_bs]
theorem bs_extract (s : ByteArray) (a b : Nat) : bs (s.extract a b) = ((bs s).drop a).take (b - a) := by
  simp only [bs, ByteArray.data_extract, Array.toList_extract, List.extract_eq_take_drop]
theorem bs_tail (s : ByteArray) (a : Nat) : bs (s.extract a s.size) = (bs s).drop a := by
  rw [bs_extract, List.take_of_length_le]
  simp [bs_len]
theorem bs_append (s t : ByteArray) : bs (s ++ t) = bs s ++ bs t := by simp [bs, ByteArray.data_append]
theorem drop_cons {s : ByteArray} {i : Nat} {c : UInt8} {t : List UInt8} (h : (bs s).drop i = c :: t) : i < s.size ∧ bt s (i : Int) = (c.toNat : Int) ∧ (bs s).drop (i + 1) = t := by
  have hl : i < (bs s).length := by
    rcases Nat.lt_or_ge i (bs s).length with h' | h'
    · exact h'
    · rw [List.drop_of_length_le h'] at h; cases h
  have hs : i < s.size := by rwa [bs_len] at hl
  rw [List.drop_eq_getElem_cons hl] at h
  injection h with h1 h2
  refine ⟨hs, ?_, h2⟩
  subst h1
  simp only [bt, Int.toNat_natCast, hs, dite_true]
  rfl
theorem drop_nil {s : ByteArray} {i : Nat} (h : (bs s).drop i = []) : s.size ≤ i := by
  have := List.drop_eq_nil_iff.1 h
  rwa [bs_len] at this
theorem wr {x : Int} (h0 : -9223372036854775808 ≤ x) (h1 : x ≤ 9223372036854775807) : wrap64 x = x := by
  unfold wrap64; omega
theorem tw_all (p : UInt8 → Bool) : ∀ (l : List UInt8) (c : UInt8), c ∈ l.takeWhile p → p c = true := by
  intro l
  induction l with
  | nil => intro c h; cases h
  | cons a t ih =>
    intro c h
    rw [List.takeWhile_cons] at h
    by_cases hp : p a = true
    · rw [if_pos hp] at h
      rcases List.mem_cons.1 h with rfl | h
      · exact hp
      · exact ih c h
    · rw [if_neg hp] at h; cases h
theorem dw_drop (p : UInt8 → Bool) : ∀ (l : List UInt8), l.dropWhile p = l.drop (l.takeWhile p).length := by
  intro l
  induction l with
  | nil => rfl
  | cons a t ih =>
    rw [List.takeWhile_cons, List.dropWhile_cons]
    by_cases hp : p a = true
    · rw [if_pos hp, if_pos hp, ih]; rfl
    · rw [if_neg hp, if_neg hp]; rfl
theorem evs {α : Type} (r : α) : Ev (fun _ => some r) r := ⟨0, fun _ _ => rfl⟩
theorem ev_of_eq {α : Type} {g f : Nat → Option α} {r : α} (h : ∀ k, g k = f k) (e : Ev f r) : Ev g r := by
  obtain ⟨K, hK⟩ := e
  exact ⟨K, fun k hk => (h k).trans (hK k hk)⟩
theorem letter_f (c : UInt8) : lex_letter.f (c.toNat : Int) = some (letU c) := by
  have k0 : ∀ n : Nat, n < 256 → lex_letter.f (n : Int) = some (letU (UInt8.ofNat n)) := by decide +kernel
  have h := k0 c.toNat c.toNat_lt
  rwa [UInt8.ofNat_toNat] at h
theorem digit_f (c : UInt8) : lex_digit.f (c.toNat : Int) = some (digU c) := by
  have k0 : ∀ n : Nat, n < 256 → lex_digit.f (n : Int) = some (digU (UInt8.ofNat n)) := by decide +kernel
  have h := k0 c.toNat c.toNat_lt
  rwa [UInt8.ofNat_toNat] at h
theorem wordy_f (c : UInt8) : lex_wordy.f (c.toNat : Int) = some (worU c) := by
  unfold lex_wordy.f
  rw [letter_f, digit_f]
  simp only [Option.bind_some, worU]
  cases letU c <;> simp
theorem run_word (x : ByteArray) (hx : x.size ≤ 140737488351232) : ∀ (l : List UInt8) (i : Nat), (bs x).drop i = l →
    Ev (fun n => lex_run_of_wordy.l0 n x (i : Int)) ((i + (l.takeWhile worU).length : Nat) : Int) := by
  intro l
  induction l with
  | nil =>
    intro i h
    have h1 := drop_nil h
    refine Ev.step (f := fun _ => some (i : Int)) (fun k => ?_) (evs _)
    show lex_run_of_wordy.l0 (k + 1) x i = _
    simp only [lex_run_of_wordy.l0]
    rw [if_neg (by omega)]
  | cons c t ih =>
    intro i h
    obtain ⟨h1, h2, h3⟩ := drop_cons h
    rw [List.takeWhile_cons]
    by_cases hw : worU c = true
    · rw [if_pos hw, List.length_cons]
      refine Ev.step (f := fun n => lex_run_of_wordy.l0 n x ((i + 1 : Nat) : Int)) (fun k => ?_) (by rw [show i + ((t.takeWhile worU).length + 1) = (i + 1) + (t.takeWhile worU).length by omega]; exact ih (i + 1) h3)
      show lex_run_of_wordy.l0 (k + 1) x i = lex_run_of_wordy.l0 k x ((i + 1 : Nat) : Int)
      simp only [lex_run_of_wordy.l0]
      rw [if_pos (by omega), if_pos (by omega), h2, wordy_f, hw, wr (by omega) (by omega)]
      rfl
    · rw [if_neg hw]
      refine Ev.step (f := fun _ => some (i : Int)) (fun k => ?_) (evs _)
      show lex_run_of_wordy.l0 (k + 1) x i = _
      simp only [lex_run_of_wordy.l0]
      rw [if_pos (by omega), if_pos (by omega), h2, wordy_f, Bool.eq_false_iff.2 hw]
      rfl
theorem run_digit (x : ByteArray) (hx : x.size ≤ 140737488351232) : ∀ (l : List UInt8) (i : Nat), (bs x).drop i = l →
    Ev (fun n => lex_run_of_digit.l0 n x (i : Int)) ((i + (l.takeWhile digU).length : Nat) : Int) := by
  intro l
  induction l with
  | nil =>
    intro i h
    have h1 := drop_nil h
    refine Ev.step (f := fun _ => some (i : Int)) (fun k => ?_) (evs _)
    show lex_run_of_digit.l0 (k + 1) x i = _
    simp only [lex_run_of_digit.l0]
    rw [if_neg (by omega)]
  | cons c t ih =>
    intro i h
    obtain ⟨h1, h2, h3⟩ := drop_cons h
    rw [List.takeWhile_cons]
    by_cases hw : digU c = true
    · rw [if_pos hw, List.length_cons]
      refine Ev.step (f := fun n => lex_run_of_digit.l0 n x ((i + 1 : Nat) : Int)) (fun k => ?_) (by rw [show i + ((t.takeWhile digU).length + 1) = (i + 1) + (t.takeWhile digU).length by omega]; exact ih (i + 1) h3)
      show lex_run_of_digit.l0 (k + 1) x i = lex_run_of_digit.l0 k x ((i + 1 : Nat) : Int)
      simp only [lex_run_of_digit.l0]
      rw [if_pos (by omega), if_pos (by omega), h2, digit_f, hw, wr (by omega) (by omega)]
      rfl
    · rw [if_neg hw]
      refine Ev.step (f := fun _ => some (i : Int)) (fun k => ?_) (evs _)
      show lex_run_of_digit.l0 (k + 1) x i = _
      simp only [lex_run_of_digit.l0]
      rw [if_pos (by omega), if_pos (by omega), h2, digit_f, Bool.eq_false_iff.2 hw]
      rfl
theorem run_word_f (x : ByteArray) (hx : x.size ≤ 140737488351232) : Ev (fun n => lex_run_of_wordy.f n x) (((bs x).takeWhile worU).length : Int) := by
  have h := run_word x hx (bs x) 0 rfl
  rw [Nat.zero_add] at h
  exact h
theorem run_digit_f (x : ByteArray) (hx : x.size ≤ 140737488351232) : Ev (fun n => lex_run_of_digit.f n x) (((bs x).takeWhile digU).length : Int) := by
  have h := run_digit x hx (bs x) 0 rfl
  rw [Nat.zero_add] at h
  exact h
theorem upper_f (x : ByteArray) (hx : x.size ≤ 140737488351232) : lex_upper.f x = some (ofL ((bs x).map uppU)) := by
  unfold lex_upper.f
  rw [if_pos (by omega)]
  congr 1
  apply bs_inj
  rw [bs_ofL]
  simp only [bs, Array.toList_map]
  rfl
def enc : TR → Int × Int × ByteArray × Int × Int × Int
  | .bad e => (0, 0, ⟨#[]⟩, 0, 0, e)
  | .ok k s v n => (k, 0, ofL s, v, (n : Int), 0)
theorem dig_range {c : UInt8} (h : digU c = true) : 48 ≤ (c.toNat : Int) ∧ (c.toNat : Int) ≤ 57 := by
  simp [digU] at h; omega
theorem number_f (x : ByteArray) (hx : x.size ≤ 140737488351232) : Ev (fun n => lex_number.f n x)
    (enc (match numS 0 ((bs x).takeWhile digU) with
      | none => TR.bad 5
      | some v => if headLet ((bs x).dropWhile digU) then TR.bad 13 else TR.ok 2 [] v ((bs x).takeWhile digU).length)) := by
  unfold lex_number.f
  refine Ev.bind (f := fun n t => lex_number.l0 n x t 0 t 0) (run_digit_f x hx) ?_
  generalize hN : ((bs x).takeWhile digU).length = N
  have hle : N ≤ x.size := by rw [← bs_len, ← hN]; exact (List.takeWhile_sublist _).length_le
  -- behind the digits
  have htail : (bs x).dropWhile digU = (bs x).drop N := by rw [← hN, dw_drop]
  have key : ∀ (l : List UInt8) (i : Nat) (v : Int), (bs x).drop i = l ++ (bs x).drop N → i + l.length = N → (∀ c ∈ l, digU c = true) → 0 ≤ v → v ≤ 9223372036854775807 →
      Ev (fun n => lex_number.l0 n x (N : Int) v (N : Int) (i : Int)) (enc (match numS v l with
      | none => TR.bad 5
      | some v => if headLet ((bs x).drop N) then TR.bad 13 else TR.ok 2 [] v N)) := by
    intro l
    induction l with
    | nil =>
      intro i v h hi _ h0 h1
      simp only [List.length_nil, Nat.add_zero] at hi
      subst hi
      simp only [numS]
      cases ht : (bs x).drop i with
      | nil =>
        have := drop_nil ht
        refine Ev.step (f := fun _ => some _) (fun k => ?_) (evs _)
        show lex_number.l0 (k + 1) x i v i i = _
        simp only [lex_number.l0]
        rw [if_neg (by omega), if_neg (by omega)]
        rfl
      | cons c t =>
        obtain ⟨g1, g2, g3⟩ := drop_cons ht
        refine Ev.step (f := fun _ => some _) (fun k => ?_) (evs _)
        show lex_number.l0 (k + 1) x i v i i = _
        simp only [lex_number.l0]
        rw [if_neg (by omega), if_pos (by omega), if_pos (by omega), g2, letter_f]
        simp only [Option.bind_some]
        by_cases hl : letU c = true
        · rw [if_pos hl, if_pos (show headLet (c :: t) = true from hl)]; rfl
        · rw [if_neg hl, if_neg (show ¬ headLet (c :: t) = true from hl)]; rfl
    | cons c t ih =>
      intro i v h hi hd h0 h1
      obtain ⟨g1, g2, g3⟩ := drop_cons (show (bs x).drop i = c :: (t ++ (bs x).drop N) from h)
      have hr := dig_range (hd c (by simp))
      simp only [List.length_cons] at hi
      have hm : ((c.toNat : Int) - 48) % 256 = (c.toNat : Int) - 48 := by omega
      simp only [numS]
      by_cases hv : v > (9223372036854775807 - ((c.toNat : Int) - 48)) / 10
      · rw [if_pos hv]
        refine Ev.step (f := fun _ => some _) (fun k => ?_) (evs _)
        show lex_number.l0 (k + 1) x N v N i = _
        simp only [lex_number.l0]
        rw [if_pos (by omega), if_pos (by omega), if_pos (by omega), g2, hm, if_pos hv]
        rfl
      · rw [if_neg hv]
        refine Ev.step (f := fun n => lex_number.l0 n x (N : Int) (10 * v + ((c.toNat : Int) - 48)) (N : Int) ((i + 1 : Nat) : Int)) (fun k => ?_) (ih (i + 1) _ g3 (by omega) (fun d hd' => hd d (by simp [hd'])) (by omega) (by omega))
        show lex_number.l0 (k + 1) x N v N i = lex_number.l0 k x (N : Int) (10 * v + ((c.toNat : Int) - 48)) (N : Int) ((i + 1 : Nat) : Int)
        simp only [lex_number.l0]
        rw [if_pos (by omega), if_pos (by omega), if_pos (by omega), g2, hm, if_neg hv, wr (x := 10 * v) (by omega) (by omega), wr (by omega) (by omega), wr (by omega) (by omega)]
        rfl
  have hall : ∀ c ∈ (bs x).takeWhile digU, digU c = true := tw_all _ _
  have := key ((bs x).takeWhile digU) 0 0 (by rw [← htail, List.drop_zero, List.takeWhile_append_dropWhile]) (by omega) hall (by omega) (by omega)
  rw [htail]
  exact this
theorem snoc_map (acc : List UInt8) (c : UInt8) : (acc.map fun b : UInt8 => (b.toNat : Int)) ++ [(c.toNat : Int)] = (acc ++ [c]).map fun b : UInt8 => (b.toNat : Int) := by simp
theorem strOf (acc : List UInt8) : strOfNums (acc.map fun b : UInt8 => (b.toNat : Int)) = ofL acc := by
  apply bs_inj
  rw [bs_ofL]
  simp only [bs, strOfNums, List.map_map]
  rw [List.map_congr_left (g := id) (fun c _ => by simp), List.map_id]
def encT : Option (List UInt8 × Nat) → TR
  | none => .bad 13
  | some (s, n) => if s.length > 64 then .bad 3 else .ok 3 s 0 n
theorem text_l (x : ByteArray) (hx : x.size ≤ 140737488351232) : ∀ (m : Nat) (l : List UInt8) (i : Nat) (acc : List UInt8), l.length = m → (bs x).drop i = l → acc.length ≤ i →
    Ev (fun n => lex_text.l0 n x (acc.map fun b : UInt8 => (b.toNat : Int)) (i : Int)) (enc (encT (texS acc i l))) := by
  intro m
  induction m using Nat.strongRecOn with
  | _ m ih =>
  intro l i acc hm h ha
  match l, hm, h with
  | [], hm, h =>
    have := drop_nil h
    refine Ev.step (f := fun _ => some _) (fun k => ?_) (evs _)
    show lex_text.l0 (k + 1) x _ i = _
    simp only [lex_text.l0, texS]
    rw [if_neg (by omega)]
    rfl
  | [c], hm, h =>
    obtain ⟨g1, g2, g3⟩ := drop_cons h
    have g4 := drop_nil g3
    by_cases hc : c.toNat = 39
    · simp only [texS]
      rw [if_pos hc]
      refine Ev.step (f := fun n => lex_text.j1 n x (acc.map fun b : UInt8 => (b.toNat : Int)) ((i + 1 : Nat) : Int) true) (fun k => ?_) (Ev.step (f := fun _ => some _) (fun k => ?_) (evs _))
      · show lex_text.l0 (k + 1) x _ i = _
        simp only [lex_text.l0]
        rw [if_pos (by omega), if_pos (by omega), g2, if_pos (by omega), wr (by omega) (by omega), if_pos (by omega)]
        rfl
      · show lex_text.j1 (k + 1) x _ _ true = _
        simp only [lex_text.j1, if_true, List.length_map, encT]
        by_cases h64 : acc.length > 64
        · rw [if_pos (by omega), if_pos h64]; rfl
        · rw [if_neg (by omega), if_neg h64, strOf]; rfl
    · simp only [texS]
      rw [if_neg hc]
      refine Ev.step (f := fun n => lex_text.l0 n x ((acc ++ [c]).map fun b : UInt8 => (b.toNat : Int)) ((i + 1 : Nat) : Int)) (fun k => ?_) ?_
      · show lex_text.l0 (k + 1) x _ i = _
        simp only [lex_text.l0]
        rw [if_pos (by omega), if_pos (by omega), g2, if_neg (by omega), if_pos (by rw [List.length_map]; omega), snoc_map, wr (by omega) (by omega)]
        rfl
      · have := ih 0 (by simp at hm; omega) [] (i + 1) (acc ++ [c]) rfl g3 (by simp; omega)
        simpa only [texS] using this
  | c :: d :: t, hm, h =>
    obtain ⟨g1, g2, g3⟩ := drop_cons h
    obtain ⟨e1, e2, e3⟩ := drop_cons g3
    simp only [List.length_cons] at hm
    by_cases hc : c.toNat = 39
    · by_cases hd : d.toNat = 39
      · simp only [texS]
        rw [if_pos hc, if_pos hd]
        refine Ev.step (f := fun n => lex_text.j1 n x (acc.map fun b : UInt8 => (b.toNat : Int)) ((i + 1 : Nat) : Int) false) (fun k => ?_) (Ev.step (f := fun n => lex_text.l0 n x ((acc ++ [d]).map fun b : UInt8 => (b.toNat : Int)) ((i + 2 : Nat) : Int)) (fun k => ?_) (ih t.length (by omega) t (i + 2) (acc ++ [d]) rfl e3 (by simp; omega)))
        · show lex_text.l0 (k + 1) x _ i = _
          simp only [lex_text.l0]
          rw [if_pos (by omega), if_pos (by omega), g2, if_pos (by omega), wr (by omega) (by omega), if_neg (by omega), if_pos (by omega), if_pos (by omega), show ((i : Int) + 1) = ((i + 1 : Nat) : Int) by omega, e2, hd]
          rfl
        · show lex_text.j1 (k + 1) x _ ((i + 1 : Nat) : Int) false = _
          simp only [lex_text.j1, Bool.false_eq_true, if_false]
          rw [if_pos (by omega), if_pos (by omega), if_pos (by rw [List.length_map]; omega), e2, snoc_map, wr (by omega) (by omega)]
          rfl
      · simp only [texS]
        rw [if_pos hc, if_neg hd]
        refine Ev.step (f := fun n => lex_text.j1 n x (acc.map fun b : UInt8 => (b.toNat : Int)) ((i + 1 : Nat) : Int) true) (fun k => ?_) (Ev.step (f := fun _ => some _) (fun k => ?_) (evs _))
        · show lex_text.l0 (k + 1) x _ i = _
          simp only [lex_text.l0]
          rw [if_pos (by omega), if_pos (by omega), g2, if_pos (by omega), wr (by omega) (by omega), if_neg (by omega), if_pos (by omega), if_pos (by omega), show ((i : Int) + 1) = ((i + 1 : Nat) : Int) by omega, e2, bne_iff_ne.2 (by omega)]
        · show lex_text.j1 (k + 1) x _ _ true = _
          simp only [lex_text.j1, if_true, List.length_map, encT]
          by_cases h64 : acc.length > 64
          · rw [if_pos (by omega), if_pos h64]; rfl
          · rw [if_neg (by omega), if_neg h64, strOf]; rfl
    · simp only [texS]
      rw [if_neg hc]
      refine Ev.step (f := fun n => lex_text.l0 n x ((acc ++ [c]).map fun b : UInt8 => (b.toNat : Int)) ((i + 1 : Nat) : Int)) (fun k => ?_) (ih (t.length + 1) (by omega) (d :: t) (i + 1) (acc ++ [c]) (by simp) g3 (by simp; omega))
      show lex_text.l0 (k + 1) x _ i = _
      simp only [lex_text.l0]
      rw [if_pos (by omega), if_pos (by omega), g2, if_neg (by omega), if_pos (by rw [List.length_map]; omega), snoc_map, wr (by omega) (by omega)]
      rfl
theorem text_f (x : ByteArray) (hx : x.size ≤ 140737488351232) (c : UInt8) (t : List UInt8) (h : bs x = c :: t) : Ev (fun n => lex_text.f n x) (enc (encT (texS [] 1 t))) :=
  text_l x hx t.length t 1 [] rfl (by rw [h]; rfl) (by simp)
theorem ext1 {x : ByteArray} {c : UInt8} {t : List UInt8} (h : bs x = c :: t) : x.extract 0 1 = ofL [c] := by
  apply bs_inj; rw [bs_extract, bs_ofL, h]; rfl
theorem ext2 {x : ByteArray} {c d : UInt8} {t : List UInt8} (h : bs x = c :: d :: t) : x.extract 0 2 = ofL [c, d] := by
  apply bs_inj; rw [bs_extract, bs_ofL, h]; rfl
theorem sign_f (x : ByteArray) (hx : x.size ≤ 140737488351232) (c : UInt8) (t : List UInt8) (h : bs x = c :: t) : Ev (fun n => lex_sign.f n x) (enc (sigS c t)) := by
  have hsz : (x.size : Int) = t.length + 1 := by rw [← bs_len, h]; simp
  have h0 := (drop_cons (s := x) (i := 0) (show (bs x).drop 0 = c :: t from h)).2.1
  simp only [Int.natCast_zero] at h0
  have hb : bt x 0 = (c.toNat : Int) := h0
  unfold lex_sign.f
  refine ev_of_eq (f := fun n => _) (fun k => by rw [if_pos (by omega), hb]) ?_
  by_cases c60 : c.toNat = 60
  · refine ev_of_eq (f := fun n => _) (fun k => by rw [if_pos (show (c.toNat : Int) = 60 by omega)]) ?_
    unfold sigS
    rw [if_pos c60]
    cases t with
    | nil =>
      simp only [List.length_nil] at hsz
      refine ev_of_eq (f := fun n => lex_sign.j0 n x 1 false) (fun k => by rw [if_neg (by omega)]) (Ev.step (f := fun _ => some _) (fun k => ?_) (evs _))
      show lex_sign.j0 (k + 1) x 1 false = _
      simp only [lex_sign.j0, Bool.false_eq_true, if_false]
      rw [if_neg (by omega), if_pos (by omega), if_pos (by omega)]
      show some (4, 0, x.extract 0 1, 0, 1, 0) = _
      rw [ext1 h]; rfl
    | cons d t =>
      simp only [List.length_cons] at hsz
      have h1 := (drop_cons (s := x) (i := 1) (show (bs x).drop 1 = d :: t by rw [h]; rfl)).2.1
      have hb1 : bt x 1 = (d.toNat : Int) := h1
      simp only
      refine ev_of_eq (f := fun n => lex_sign.j0 n x 1 (bt x 1 == 62)) (fun k => by rw [if_pos (by omega), if_pos (by omega)]) (Ev.step (f := fun _ => some _) (fun k => ?_) (evs _))
      show lex_sign.j0 (k + 1) x 1 (bt x 1 == 62) = _
      rw [hb1]
      by_cases d62 : d.toNat = 62
      · rw [if_pos d62, beq_iff_eq.2 (show (d.toNat : Int) = 62 by omega)]
        simp only [lex_sign.j0, if_true]
        rw [if_pos (by omega), if_pos (by omega), ext2 h]; rfl
      · rw [if_neg d62, beq_eq_false_iff_ne.2 (show (d.toNat : Int) ≠ 62 by omega)]
        simp only [lex_sign.j0, Bool.false_eq_true, if_false]
        rw [if_pos (by omega), if_pos (by omega), hb1]
        by_cases d61 : d.toNat = 61
        · rw [if_pos d61, if_pos (by omega), if_pos (by omega), if_pos (by omega), ext2 h]; rfl
        · rw [if_neg d61, if_neg (by omega), if_pos (by omega), if_pos (by omega)]
          show some (4, 0, x.extract 0 1, 0, 1, 0) = _
          rw [ext1 h]; rfl
  · refine ev_of_eq (f := fun n => _) (fun k => by rw [if_neg (show ¬ (c.toNat : Int) = 60 by omega)]) ?_
    unfold sigS
    rw [if_neg c60]
    refine ev_of_eq (f := fun _ => some _) (fun k => ?_) (evs _)
    by_cases c62 : c.toNat = 62
    · rw [if_pos c62, if_pos (show (c.toNat : Int) = 62 by omega)]
      cases t with
      | nil =>
        simp only [List.length_nil] at hsz
        rw [if_neg (by omega), if_pos (by omega), if_pos (by omega), ext1 h]; rfl
      | cons d t =>
        simp only [List.length_cons] at hsz
        have hb1 : bt x 1 = (d.toNat : Int) := (drop_cons (s := x) (i := 1) (show (bs x).drop 1 = d :: t by rw [h]; rfl)).2.1
        simp only
        rw [if_pos (by omega), if_pos (by omega), hb1]
        by_cases d61 : d.toNat = 61
        · rw [if_pos d61, if_pos (by omega), if_pos (by omega), if_pos (by omega), ext2 h]; rfl
        · rw [if_neg d61, if_neg (by omega), if_pos (by omega), if_pos (by omega), ext1 h]; rfl
    · rw [if_neg c62, if_neg (show ¬ (c.toNat : Int) = 62 by omega)]
      have hone : (if 0 ≤ 1 then (if 1 ≤ (x.size : Int) then (some ((4 : Int), (0 : Int), x.extract 0 1, (0 : Int), (1 : Int), (0 : Int))) else none) else none) = some (enc (TR.ok 4 [c] 0 1)) := by
        rw [if_pos (by omega), if_pos (by omega), ext1 h]; rfl
      rw [hone]
      have hq : ∀ q : Nat, ((c.toNat : Int) = (q : Int)) ↔ c.toNat = q := fun q => by omega
      by_cases hs : isSign c = true
      · rw [if_pos hs]
        simp only [isSign, Bool.or_eq_true, beq_iff_eq] at hs
        rcases hs with ((((((((h1 | h1) | h1) | h1) | h1) | h1) | h1) | h1) | h1) | h1 <;> simp [h1]
      · rw [if_neg hs]
        simp only [isSign, Bool.or_eq_true, beq_iff_eq, not_or] at hs
        obtain ⟨⟨⟨⟨⟨⟨⟨⟨⟨n1, n2⟩, n3⟩, n4⟩, n5⟩, n6⟩, n7⟩, n8⟩, n9⟩, n10⟩ := hs
        rw [if_neg (by omega), if_neg (by omega), if_neg (by omega), if_neg (by omega), if_neg (by omega), if_neg (by omega), if_neg (by omega), if_neg (by omega), if_neg (by omega), if_neg (by omega)]
        rfl
def encB : List UInt8 → Int × Int × ByteArray × Int × Int × Int
  | [] => (0, 0, ⟨#[]⟩, 0, 0, 0)
  | c :: t => if blaU c then (0, 0, ⟨#[]⟩, 0, 1, 0) else enc (tokS (c :: t))
theorem encB_cons (c : UInt8) (t : List UInt8) : encB (c :: t) = if blaU c then (0, 0, ⟨#[]⟩, 0, 1, 0) else enc (tokS (c :: t)) := rfl
theorem token_f (x : ByteArray) (hx : x.size ≤ 140737488351232) (c : UInt8) (t : List UInt8) (h : bs x = c :: t) : Ev (fun n => lex_token.f n x) (encB (c :: t)) := by
  have hsz : (x.size : Int) = t.length + 1 := by rw [← bs_len, h]; simp
  have hb : bt x 0 = (c.toNat : Int) := (drop_cons (s := x) (i := 0) (show (bs x).drop 0 = c :: t from h)).2.1
  have hj : Ev (fun n => lex_token.j0 n x (bt x 0) (blaU c)) (encB (c :: t)) := by
    rw [hb]
    rw [encB_cons]
    by_cases hbl : blaU c = true
    · rw [if_pos hbl, hbl]
      refine Ev.step (f := fun _ => some _) (fun k => ?_) (evs _)
      show lex_token.j0 (k + 1) x _ true = _
      simp only [lex_token.j0, if_true]
    · rw [if_neg hbl, Bool.eq_false_iff.2 hbl]
      refine Ev.step (f := fun k => _) (fun k => by show lex_token.j0 (k + 1) x _ false = _; simp only [lex_token.j0, Bool.false_eq_true, if_false]; rw [letter_f, digit_f, Option.bind_some, Option.bind_some]) ?_
      rw [tokS_cons, ← h]
      by_cases h1 : letU c = true
      · refine ev_of_eq (f := fun k => _) (fun k => by rw [if_pos h1]) ?_
        rw [if_pos h1]
        refine Ev.bind (f := fun n t118 => if 0 ≤ t118 then (if t118 ≤ (x.size : Int) then ((lex_upper.f (x.extract 0 (t118 : Int).toNat)).bind fun t119 => (some (1, 0, t119, 0, t118, 0))) else none) else none) (run_word_f x hx) ?_
        have hle : ((bs x).takeWhile worU).length ≤ (bs x).length := (List.takeWhile_sublist _).length_le
        rw [bs_len] at hle
        refine ev_of_eq (f := fun _ => some _) (fun k => ?_) (evs _)
        rw [if_pos (by omega), if_pos (by omega), upper_f _ (by rw [ByteArray.size_extract]; omega)]
        simp only [Option.bind_some, enc, Int.toNat_natCast]
        have e : bs (x.extract 0 ((bs x).takeWhile worU).length) = (bs x).takeWhile worU := by
          rw [bs_extract, List.drop_zero, Nat.sub_zero]
          exact (List.prefix_iff_eq_take.1 (List.takeWhile_prefix worU)).symm
        rw [e]
      · refine ev_of_eq (f := fun k => _) (fun k => by rw [if_neg h1]) ?_
        rw [if_neg h1]
        by_cases h2 : digU c = true
        · refine ev_of_eq (f := fun k => (lex_number.f k x).bind fun bt121 => (some (bt121.1, bt121.2.1, bt121.2.2.1, bt121.2.2.2.1, bt121.2.2.2.2.1, bt121.2.2.2.2.2))) (fun k => by rw [if_pos h2]) ?_
          rw [if_pos h2]
          exact Ev.bind (number_f x hx) (evs _)
        · refine ev_of_eq (f := fun k => _) (fun k => by rw [if_neg h2]) ?_
          rw [if_neg h2]
          by_cases h3 : c.toNat = 39
          · refine ev_of_eq (f := fun k => (lex_text.f k x).bind fun bt121 => (some (bt121.1, bt121.2.1, bt121.2.2.1, bt121.2.2.2.1, bt121.2.2.2.2.1, bt121.2.2.2.2.2))) (fun k => by rw [if_pos (by omega)]) ?_
            rw [if_pos h3]
            exact Ev.bind (text_f x hx c t h) (evs _)
          · refine ev_of_eq (f := fun k => (lex_sign.f k x).bind fun bt121 => (some (bt121.1, bt121.2.1, bt121.2.2.1, bt121.2.2.2.1, bt121.2.2.2.2.1, bt121.2.2.2.2.2))) (fun k => by rw [if_neg (by omega)]) ?_
            rw [if_neg h3]
            exact Ev.bind (sign_f x hx c t h) (evs _)
  refine ev_of_eq (fun k => ?_) hj
  unfold lex_token.f
  rw [if_pos (by omega), hb]
  by_cases b1 : c.toNat = 9
  · rw [if_pos (by omega), show blaU c = true by simp [blaU, b1]]
  · rw [if_neg (by omega)]
    by_cases b2 : c.toNat = 10
    · rw [if_pos (by omega), show blaU c = true by simp [blaU, b2]]
    · rw [if_neg (by omega)]
      by_cases b3 : c.toNat = 13
      · rw [if_pos (by omega), show blaU c = true by simp [blaU, b3]]
      · rw [if_neg (by omega)]
        congr 1
        by_cases b4 : c.toNat = 32
        · rw [show blaU c = true by simp [blaU, b4], beq_iff_eq]; omega
        · rw [show blaU c = false by simp [blaU, b1, b2, b3, b4], beq_eq_false_iff_ne]; omega
end Go.Proofs.YtlpnlfahlcingaaGreatDoor.Pure
end
section
namespace Go.Proofs.YtlpnlfahlcingaaGreatDoor.Pure
open Go.RowKit Go.Proofs.YtlpnlfahlcingaaGreatDoor.PL Go.Proofs.YtlpnlfahlcingaaGreatDoorW.PrintWords Go.Proofs.YtlpnlfahlcingaaGreatDoorW.PrintLast Go.Proofs.YtlpnlfahlcingaaGreatDoorW.PrintMore
set_option linter.unusedVariables false
set_option linter.unusedSimpArgs false
theorem sigS_bad (c : UInt8) (t : List UInt8) {e : Int} (h : sigS c t = .bad e) : e = 13 := by
  unfold sigS at h
  cases t with
  | nil => simp only at h; repeat' (split at h)
           all_goals (first | (cases h; rfl) | cases h)
  | cons d t => simp only at h; repeat' (split at h)
                all_goals (first | (cases h; rfl) | cases h)
theorem tokS_bad (l : List UInt8) {e : Int} (h : tokS l = .bad e) : e ≠ 0 := by
  cases l with
  | nil => simp [tokS] at h; omega
  | cons c t =>
    rw [tokS_cons] at h
    by_cases h1 : letU c = true
    · rw [if_pos h1] at h; cases h
    · rw [if_neg h1] at h
      by_cases h2 : digU c = true
      · rw [if_pos h2] at h
        cases hv : numS 0 ((c :: t).takeWhile digU) with
        | none => rw [hv] at h; cases h; decide
        | some x =>
          rw [hv] at h
          simp only at h
          by_cases h3 : headLet ((c :: t).dropWhile digU) = true
          · rw [if_pos h3] at h; cases h; decide
          · rw [if_neg h3] at h; cases h
      · rw [if_neg h2] at h
        by_cases h3 : c.toNat = 39
        · rw [if_pos h3] at h
          cases hv : texS [] 1 t with
          | none => rw [hv] at h; cases h; decide
          | some x =>
            obtain ⟨x, m⟩ := x
            rw [hv] at h
            simp only at h
            by_cases h4 : x.length > 64
            · rw [if_pos h4] at h; cases h; decide
            · rw [if_neg h4] at h; cases h
        · rw [if_neg h3] at h
          rw [sigS_bad c t h]; decide
def toS (t : Tk) : S75 := ⟨t.k, t.p, ofL t.s, t.v⟩
def res (r : List Tk × Int) : List S75 × Int := (r.1.map toS, r.2)
theorem lexS_end (f p : Nat) (acc : List Tk) : lexS (f + 1) p [] acc = (acc ++ [⟨0, p, [], 0⟩], 0) := rfl
theorem lexS_cons (f p : Nat) (c : UInt8) (t : List UInt8) (acc : List Tk) : lexS (f + 1) p (c :: t) acc = if blaU c then lexS f (p + 1) t acc else match tokS (c :: t) with
    | .bad e => ([], e)
    | .ok k s v n => lexS f (p + n) ((c :: t).drop n) (acc ++ [⟨k, p, s, v⟩]) := rfl
theorem toS_snoc (acc : List Tk) (k p : Int) (s : List UInt8) (v : Int) : acc.map toS ++ [(⟨k, p, ofL s, v⟩ : S75)] = (acc ++ [(⟨k, p, s, v⟩ : Tk)]).map toS := by simp [toS]
theorem Lex_l (x : ByteArray) (hx : x.size ≤ 2000) : ∀ (f : Nat) (l : List UInt8) (p : Nat) (acc : List Tk), l.length < f → (bs x).drop p = l → acc.length ≤ p → p ≤ x.size →
    Ev (fun n => lex_Lex.l0 n x (acc.map toS) (p : Int)) (res (lexS f p l acc)) := by
  intro f
  induction f with
  | zero => intro l p acc h; omega
  | succ f ih =>
    intro l p acc hf h ha hp
    cases l with
    | nil =>
      have h1 := drop_nil h
      refine Ev.step (f := fun _ => some _) (fun k => ?_) (evs _)
      show lex_Lex.l0 (k + 1) x _ p = _
      simp only [lex_Lex.l0]
      rw [if_neg (by omega), if_pos (by rw [List.length_map]; omega), lexS_end]
      have e : (x.size : Int) = (p : Int) := by omega
      rw [e]
      simp [res, toS, ofL]
    | cons c t =>
      obtain ⟨g1, g2, g3⟩ := drop_cons h
      have hb : bs (x.extract p x.size) = c :: t := by rw [bs_tail, h]
      refine Ev.step (f := fun n => (lex_token.f n (x.extract p x.size)).bind fun bt142 => (if bt142.2.2.2.2.2 = 0 then (if bt142.1 = 0 then (lex_Lex.l0 n x (acc.map toS) (wrap64 (p + bt142.2.2.2.2.1))) else (if (acc.map toS).length < 3518437208883 then (lex_Lex.l0 n x ((acc.map toS) ++ [(⟨bt142.1, p, bt142.2.2.1, bt142.2.2.2.1⟩ : S75)]) (wrap64 (p + bt142.2.2.2.2.1))) else (none))) else (some (([] : List (S75)), bt142.2.2.2.2.2)))) (fun k => ?_) ?_
      · show lex_Lex.l0 (k + 1) x _ p = _
        simp only [lex_Lex.l0]
        rw [if_pos (by omega), if_pos (by omega), if_pos (by omega)]
        rfl
      refine Ev.bind (token_f _ (by rw [ByteArray.size_extract]; omega) c t hb) ?_
      rw [encB_cons, lexS_cons]
      by_cases hbl : blaU c = true
      · rw [if_pos hbl, if_pos hbl]
        refine ev_of_eq (fun k => ?_) (ih t (p + 1) acc (by simp at hf; omega) g3 (by omega) (by omega))
        simp only [if_true]
        rw [wr (by omega) (by omega)]
        rfl
      · rw [if_neg hbl, if_neg hbl]
        cases ht : tokS (c :: t) with
        | bad e =>
          have := tokS_bad _ ht
          refine ev_of_eq (f := fun _ => some _) (fun k => ?_) (evs _)
          rw [if_neg (show ¬ (enc (TR.bad e)).2.2.2.2.2 = 0 from this)]
          rfl
        | ok k s v n =>
          obtain ⟨n1, n2, n3⟩ := tokS_n _ ht
          have hl : (c :: t).length = x.size - p := by rw [← h, List.length_drop, bs_len]
          refine ev_of_eq (fun k' => ?_) (ih ((c :: t).drop n) (p + n) (acc ++ [⟨k, p, s, v⟩]) (by rw [List.length_drop]; omega) (by rw [← h, List.drop_drop]) (by simp; omega) (by omega))
          rw [if_pos (show (enc (TR.ok k s v n)).2.2.2.2.2 = 0 from rfl), if_neg (show ¬ (enc (TR.ok k s v n)).1 = 0 from n3), if_pos (by rw [List.length_map]; omega)]
          show lex_Lex.l0 k' x (acc.map toS ++ [(⟨k, p, ofL s, v⟩ : S75)]) (wrap64 (p + n)) = _
          rw [toS_snoc, wr (by omega) (by omega)]
          rfl
def lexT (l : List UInt8) : List Tk × Int := if l.length > 2000 then ([], 3) else lexS (l.length + 1) 0 l []
theorem Lex_f (x : ByteArray) : Ev (fun n => lex_Lex.f n x) (res (lexT (bs x))) := by
  unfold lex_Lex.f lexT
  rw [bs_len]
  by_cases h : x.size > 2000
  · rw [if_pos h]
    refine ev_of_eq (f := fun _ => some _) (fun k => ?_) (evs _)
    rw [if_pos (by omega)]
    rfl
  · rw [if_neg h]
    refine ev_of_eq (f := fun n => lex_Lex.l0 n x ([] : List S75) 0) (fun k => ?_) ?_
    · rw [if_neg (by omega)]
    · exact Lex_l x (by omega) (x.size + 1) (bs x) 0 [] (by rw [bs_len]; omega) rfl (by simp) (by omega)
end Go.Proofs.YtlpnlfahlcingaaGreatDoor.Pure
end
section
namespace Go.Proofs.YtlpnlfahlcingaaGreatDoor.PL
open Go.RowKit Go.Proofs.YtlpnlfahlcingaaGreatDoorW.PrintWords Go.Proofs.YtlpnlfahlcingaaGreatDoorW.PrintLast Go.Proofs.YtlpnlfahlcingaaGreatDoorW.PrintMore
set_option linter.unusedVariables false
set_option linter.unusedSimpArgs false
attribute [local go_sem] World.cell?_alloc_some
attribute [local go_sem ↓] isSome_setCell
open Go.Proofs.YtlpnlfahlcingaaGreatDoor.Pure (bs bs_append lexT res Lex_f)
def parseL (l : List UInt8) : Option (LotV × Int × Int) := if (res (lexT l)).2 = 0 then parseT (res (lexT l)).1 else some (⟨0, 0, []⟩, 0, (res (lexT l)).2)
theorem parseL_F (s : ByteArray) : ∃ n, parseF n s = parseL (bs s) := by
  obtain ⟨n, hn⟩ := (Lex_f s).rounds
  refine ⟨n, ?_⟩
  unfold parseF parseL
  rw [hn]
def repL (x : List UInt8) : Nat → List UInt8
  | 0 => []
  | j + 1 => repL x j ++ x
def repB (x : ByteArray) : Nat → ByteArray
  | 0 => ⟨#[]⟩
  | j + 1 => repB x j ++ x
theorem repB_bs (x : ByteArray) : ∀ j, bs (repB x j) = repL (bs x) j
  | 0 => rfl
  | j + 1 => by rw [repB, bs_append, repB_bs x j]; rfl
theorem repB_size (x : ByteArray) : ∀ j, (repB x j).size = j * x.size
  | 0 => by rw [Nat.zero_mul]; rfl
  | j + 1 => by rw [repB, ByteArray.size_append, repB_size x j, Nat.add_mul, Nat.one_mul]
def askB (l : List UInt8) (m most : Nat) : Bool :=
  match parseL l with
  | none => false
  | some (l, _, e) => (e == 0 && Nat.ble m most) || (e == 3 && (!Nat.ble m most && l.st.isEmpty))
theorem askB_or {s : ByteArray} {m most : Nat} (h : askB (bs s) m most = true) : ∃ n l p e, parseF n s = some (l, p, e) ∧ ((e = 0 ∧ m ≤ most) ∨ (e = 3 ∧ most < m ∧ l.st = [])) := by
  obtain ⟨n, hn⟩ := parseL_F s
  unfold askB at h
  cases hp : parseL (bs s) with
  | none => rw [hp] at h; cases h
  | some x =>
    obtain ⟨l, p, e⟩ := x
    rw [hp] at h
    simp at h
    exact ⟨n, l, p, e, hn.trans hp, by rcases h with ⟨h1, h2⟩ | ⟨h1, h2, h3⟩; exact .inl ⟨h1, Nat.le_of_ble_eq_true (by simpa using h2)⟩; exact .inr ⟨h1, Nat.lt_of_not_le (fun hle => by rw [Nat.ble_eq_true_of_le hle] at h2; cases h2), h3⟩⟩
def deepT0 (m : Nat) : List UInt8 := ((([83, 69, 76, 69, 67, 84, 32, 49] : List UInt8) ++ repL ([32, 43, 32, 49] : List UInt8) m) ++ ([32, 70, 82, 79, 77, 32, 84] : List UInt8))
def deepB0 (m : Nat) : ByteArray := (((⟨#[83, 69, 76, 69, 67, 84, 32, 49]⟩ : ByteArray) ++ repB (⟨#[32, 43, 32, 49]⟩ : ByteArray) m) ++ (⟨#[32, 70, 82, 79, 77, 32, 84]⟩ : ByteArray))
theorem deep_bs0 (m : Nat) : bs (deepB0 m) = deepT0 m := by simp only [deepB0, deepT0, bs_append, repB_bs]; rfl
def deepT1 (m : Nat) : List UInt8 := ((([83, 69, 76, 69, 67, 84, 32] : List UInt8) ++ repL ([78, 79, 84, 32] : List UInt8) m) ++ ([84, 82, 85, 69, 32, 70, 82, 79, 77, 32, 84] : List UInt8))
def deepB1 (m : Nat) : ByteArray := (((⟨#[83, 69, 76, 69, 67, 84, 32]⟩ : ByteArray) ++ repB (⟨#[78, 79, 84, 32]⟩ : ByteArray) m) ++ (⟨#[84, 82, 85, 69, 32, 70, 82, 79, 77, 32, 84]⟩ : ByteArray))
theorem deep_bs1 (m : Nat) : bs (deepB1 m) = deepT1 m := by simp only [deepB1, deepT1, bs_append, repB_bs]; rfl
def deepT2 (m : Nat) : List UInt8 := ((([83, 69, 76, 69, 67, 84, 32, 65] : List UInt8) ++ repL ([44, 32, 65] : List UInt8) m) ++ ([32, 70, 82, 79, 77, 32, 84] : List UInt8))
def deepB2 (m : Nat) : ByteArray := (((⟨#[83, 69, 76, 69, 67, 84, 32, 65]⟩ : ByteArray) ++ repB (⟨#[44, 32, 65]⟩ : ByteArray) m) ++ (⟨#[32, 70, 82, 79, 77, 32, 84]⟩ : ByteArray))
theorem deep_bs2 (m : Nat) : bs (deepB2 m) = deepT2 m := by simp only [deepB2, deepT2, bs_append, repB_bs]; rfl
def deepT3 (m : Nat) : List UInt8 := (([73, 78, 83, 69, 82, 84, 32, 73, 78, 84, 79, 32, 84, 32, 86, 65, 76, 85, 69, 83, 32, 40, 49, 41] : List UInt8) ++ repL ([44, 32, 40, 49, 41] : List UInt8) m)
def deepB3 (m : Nat) : ByteArray := ((⟨#[73, 78, 83, 69, 82, 84, 32, 73, 78, 84, 79, 32, 84, 32, 86, 65, 76, 85, 69, 83, 32, 40, 49, 41]⟩ : ByteArray) ++ repB (⟨#[44, 32, 40, 49, 41]⟩ : ByteArray) m)
theorem deep_bs3 (m : Nat) : bs (deepB3 m) = deepT3 m := by simp only [deepB3, deepT3, bs_append, repB_bs]; rfl
def deepT4 (m : Nat) : List UInt8 := (([68, 69, 76, 69, 84, 69, 32, 70, 82, 79, 77, 32, 84] : List UInt8) ++ repL ([59, 32, 68, 69, 76, 69, 84, 69, 32, 70, 82, 79, 77, 32, 84] : List UInt8) m)
def deepB4 (m : Nat) : ByteArray := ((⟨#[68, 69, 76, 69, 84, 69, 32, 70, 82, 79, 77, 32, 84]⟩ : ByteArray) ++ repB (⟨#[59, 32, 68, 69, 76, 69, 84, 69, 32, 70, 82, 79, 77, 32, 84]⟩ : ByteArray) m)
theorem deep_bs4 (m : Nat) : bs (deepB4 m) = deepT4 m := by simp only [deepB4, deepT4, bs_append, repB_bs]; rfl
end Go.Proofs.YtlpnlfahlcingaaGreatDoor.PL
end
section
namespace Go.Proofs.YtlpnlfahlcingaaGreatDoor.PL
open Go.RowKit Go.Proofs.YtlpnlfahlcingaaGreatDoorW.PrintWords Go.Proofs.YtlpnlfahlcingaaGreatDoorW.PrintLast Go.Proofs.YtlpnlfahlcingaaGreatDoorW.PrintMore
set_option linter.unusedVariables false
set_option linter.unusedSimpArgs false
attribute [local go_sem] World.cell?_alloc_some
attribute [local go_sem ↓] isSome_setCell
set_option maxHeartbeats 0 in
theorem deep_all0 : (List.range 24).all (fun m => askB (deepT0 m) m 15) = true := by decide +kernel
theorem deep0 (m : Nat) (h : m < 24) : ∃ n l p e, parseF n (deepB0 m) = some (l, p, e) ∧ ((e = 0 ∧ m ≤ 15) ∨ (e = 3 ∧ 15 < m ∧ l.st = [])) := askB_or (by rw [deep_bs0]; exact List.all_eq_true.1 deep_all0 m (List.mem_range.2 h))
set_option maxHeartbeats 0 in
theorem deep_all1 : (List.range 24).all (fun m => askB (deepT1 m) m 15) = true := by decide +kernel
theorem deep1 (m : Nat) (h : m < 24) : ∃ n l p e, parseF n (deepB1 m) = some (l, p, e) ∧ ((e = 0 ∧ m ≤ 15) ∨ (e = 3 ∧ 15 < m ∧ l.st = [])) := askB_or (by rw [deep_bs1]; exact List.all_eq_true.1 deep_all1 m (List.mem_range.2 h))
set_option maxHeartbeats 0 in
theorem deep_all2 : (List.range 24).all (fun m => askB (deepT2 m) m 5) = true := by decide +kernel
theorem deep2 (m : Nat) (h : m < 24) : ∃ n l p e, parseF n (deepB2 m) = some (l, p, e) ∧ ((e = 0 ∧ m ≤ 5) ∨ (e = 3 ∧ 5 < m ∧ l.st = [])) := askB_or (by rw [deep_bs2]; exact List.all_eq_true.1 deep_all2 m (List.mem_range.2 h))
set_option maxHeartbeats 0 in
theorem deep_all3 : (List.range 24).all (fun m => askB (deepT3 m) m 15) = true := by decide +kernel
theorem deep3 (m : Nat) (h : m < 24) : ∃ n l p e, parseF n (deepB3 m) = some (l, p, e) ∧ ((e = 0 ∧ m ≤ 15) ∨ (e = 3 ∧ 15 < m ∧ l.st = [])) := askB_or (by rw [deep_bs3]; exact List.all_eq_true.1 deep_all3 m (List.mem_range.2 h))
set_option maxHeartbeats 0 in
theorem deep_all4 : (List.range 24).all (fun m => askB (deepT4 m) m 7) = true := by decide +kernel
theorem deep4 (m : Nat) (h : m < 24) : ∃ n l p e, parseF n (deepB4 m) = some (l, p, e) ∧ ((e = 0 ∧ m ≤ 7) ∨ (e = 3 ∧ 7 < m ∧ l.st = [])) := askB_or (by rw [deep_bs4]; exact List.all_eq_true.1 deep_all4 m (List.mem_range.2 h))
end Go.Proofs.YtlpnlfahlcingaaGreatDoor.PL
end
section
namespace Go.Proofs.YtlpnlfahlcingaaGreatDoor.PL
open Go.RowKit Go.Proofs.YtlpnlfahlcingaaGreatDoorW.PrintWords Go.Proofs.YtlpnlfahlcingaaGreatDoorW.PrintLast Go.Proofs.YtlpnlfahlcingaaGreatDoorW.PrintMore
set_option linter.unusedVariables false
set_option linter.unusedSimpArgs false
attribute [local go_sem] World.cell?_alloc_some
attribute [local go_sem ↓] isSome_setCell
theorem small_mod (a : Int) (d : Nat) (h0 : 0 < d) (h1 : d ≤ 100) : ∃ m : Nat, (wrap64 (a.tmod d + d)).tmod d = (m : Int) ∧ m < d := by
  have x0 := Int.lt_tmod_of_pos a (show (0 : Int) < d by omega)
  have x1 := Int.tmod_lt_of_pos a (show (0 : Int) < d by omega)
  have hw : wrap64 (a.tmod d + d) = a.tmod d + d := by unfold wrap64; omega
  rw [hw, Int.tmod_eq_emod_of_nonneg (by omega)]
  have y0 := Int.emod_nonneg (a.tmod d + d) (show (d : Int) ≠ 0 by omega)
  have y1 := Int.emod_lt_of_pos (a.tmod d + d) (show (0 : Int) < d by omega)
  exact ⟨((a.tmod d + d) % d).toNat, by omega, by omega⟩
set_option maxHeartbeats 8000000 in
set_option maxRecDepth 100000 in
theorem treeDeep_calls0 (a b : Int) (hk : (wrap64 (b.tmod 5 + 5)).tmod 5 = 0) {w : World} (hsh : Sh w) :
    Calls Tryz.prog 3 #[.int .i64 a, .int .i64 b] w fun e w' => e = .returned (.bool true) ∧ Below w.heap.size w w' := by
  have HS := Aside0.mk hsh
  clear hsh
  obtain ⟨m, hm, hm24⟩ := small_mod a 24 (by decide) (by decide)
  go_enter Tryz.func3, Tryz.ntmps3
  go_upto_block 0 with (go_at_call 9; refine (begun_calls HS.out).mono ?_; rintro e w1 ⟨rfl, hb⟩; have H1 := Aside0.mk hb; clear hb)
  have HS1 := Aside0.mk (HS.out.below H1.out)
  have hm' : (wrap64 (a.tmod 24 + 24)).tmod 24 = (m : Int) := hm
  rw [hm']
  clear hm hm' hk
  go_wp2_with (fail)
  go_loopg [5, 7] 24 (fun kq v5 v7 w' => ∃ j : Nat, v5 = .string (repB (⟨#[32, 43, 32, 49]⟩ : ByteArray) j) ∧ v7 = .int .i64 (j : Int) ∧ Aside0 (j ≤ m ∧ j + kq = 24 ∧ w' = w1))
  case atStart => exact ⟨0, rfl, rfl, ⟨Nat.zero_le _, rfl, rfl⟩⟩
  case round =>
  obtain ⟨j, rfl, rfl, HJ⟩ := hrel
  obtain ⟨hjm, hkq, hw⟩ := HJ.out
  subst hw
  clear HJ
  by_cases hlt : j < m
  · have hd : decide ((j : Int) < (m : Int)) = true := decide_eq_true (by omega)
    have hd2 : decide (j < m) = true := decide_eq_true hlt
    have c1z : (repB (⟨#[32, 43, 32, 49]⟩ : ByteArray) j).size + 4 ≤ 9223372036854775807 := by rw [repB_size]; have := Nat.mul_le_mul_right ((⟨#[32, 43, 32, 49]⟩ : ByteArray)).size (show j ≤ 24 by omega); have e1 : ((⟨#[32, 43, 32, 49]⟩ : ByteArray)).size = 4 := rfl; omega
    have c1a := eq_true c1z
    have c1b : decide ((repB (⟨#[32, 43, 32, 49]⟩ : ByteArray) j).size + 4 ≤ 9223372036854775807) = true := decide_eq_true c1z
    have c1c : (9223372036854775807 < (repB (⟨#[32, 43, 32, 49]⟩ : ByteArray) j).size + 4) = False := eq_false (Nat.not_lt.2 c1z)
    cases gk with
    | zero => omega
    | succ kq =>
    go_wp2
    go_roundg kq
    case measure => omega
    case rel => exact ⟨j + 1, rfl, by go_num, ⟨by omega, by omega, rfl⟩⟩
  · have hd : decide ((j : Int) < (m : Int)) = false := decide_eq_false (by omega)
    have hd2 : decide (j < m) = false := decide_eq_false hlt
    obtain rfl : j = m := by omega
    have c2z : 8 + (repB (⟨#[32, 43, 32, 49]⟩ : ByteArray) j).size ≤ 9223372036854775807 := by rw [repB_size]; have := Nat.mul_le_mul_right ((⟨#[32, 43, 32, 49]⟩ : ByteArray)).size (show j ≤ 24 by omega); have e1 : ((⟨#[32, 43, 32, 49]⟩ : ByteArray)).size = 4 := rfl; omega
    have c2a := eq_true c2z
    have c2b : decide (8 + (repB (⟨#[32, 43, 32, 49]⟩ : ByteArray) j).size ≤ 9223372036854775807) = true := decide_eq_true c2z
    have c2c : (9223372036854775807 < 8 + (repB (⟨#[32, 43, 32, 49]⟩ : ByteArray) j).size) = False := eq_false (Nat.not_lt.2 c2z)
    have c3z : 8 + (repB (⟨#[32, 43, 32, 49]⟩ : ByteArray) j).size + 7 ≤ 9223372036854775807 := by rw [repB_size]; have := Nat.mul_le_mul_right ((⟨#[32, 43, 32, 49]⟩ : ByteArray)).size (show j ≤ 24 by omega); have e1 : ((⟨#[32, 43, 32, 49]⟩ : ByteArray)).size = 4 := rfl; omega
    have c3a := eq_true c3z
    have c3b : decide (8 + (repB (⟨#[32, 43, 32, 49]⟩ : ByteArray) j).size + 7 ≤ 9223372036854775807) = true := decide_eq_true c3z
    have c3c : (9223372036854775807 < 8 + (repB (⟨#[32, 43, 32, 49]⟩ : ByteArray) j).size + 7) = False := eq_false (Nat.not_lt.2 c3z)
    obtain ⟨n, l, p, e, hp, he⟩ := deep0 j hm24
    have HP := Aside0.mk hp
    clear hp
    rcases he with ⟨rfl, hmm⟩ | ⟨rfl, hmm, hst⟩
    · have q1 : decide ((j : Int) ≤ 15) = true := decide_eq_true (by omega)
      have q2 : decide (j ≤ 15) = true := decide_eq_true hmm
      clear hmm
      go_upto_region 37 with (go_at_call 10; refine (parse_calls HS1.out n (deepB0 j) _ HP.out).mono ?_; intro e w2 hp; obtain ⟨A, c, rfl, hl, hC, hb⟩ := PostP.or hp; dsimp only at hl; have H2 := Aside0.mk (below_alloc (below_step H1.out hb) (.cells #[.int .i64 l.md, .int .i64 l.n, .slice A l.st.length c] 25 (0, 0))); clear hl hC hb hp)
      go_wp2
      go_ret
      exact ⟨rfl, H2.out⟩
    · have q1 : decide ((j : Int) ≤ 15) = false := decide_eq_false (by omega)
      have q2 : decide (j ≤ 15) = false := decide_eq_false (by omega)
      clear hmm
      go_upto_region 37 with (go_at_call 10; refine (parse_calls HS1.out n (deepB0 j) _ HP.out).mono ?_; intro e w2 hp; obtain ⟨A, c, rfl, hl, hC, hb⟩ := PostP.or hp; dsimp only at hl; rw [hst]; have H2 := Aside0.mk (below_alloc (below_step H1.out hb) (.cells #[.int .i64 l.md, .int .i64 l.n, .slice A 0 c] 25 (0, 0))); clear hl hC hb hp)
      go_wp2
      go_ret
      exact ⟨rfl, H2.out⟩
set_option maxHeartbeats 8000000 in
set_option maxRecDepth 100000 in
theorem treeDeep_calls1 (a b : Int) (hk : (wrap64 (b.tmod 5 + 5)).tmod 5 = 1) {w : World} (hsh : Sh w) :
    Calls Tryz.prog 3 #[.int .i64 a, .int .i64 b] w fun e w' => e = .returned (.bool true) ∧ Below w.heap.size w w' := by
  have HS := Aside0.mk hsh
  clear hsh
  obtain ⟨m, hm, hm24⟩ := small_mod a 24 (by decide) (by decide)
  go_enter Tryz.func3, Tryz.ntmps3
  go_upto_block 0 with (go_at_call 9; refine (begun_calls HS.out).mono ?_; rintro e w1 ⟨rfl, hb⟩; have H1 := Aside0.mk hb; clear hb)
  have HS1 := Aside0.mk (HS.out.below H1.out)
  have hm' : (wrap64 (a.tmod 24 + 24)).tmod 24 = (m : Int) := hm
  rw [hm']
  clear hm hm' hk
  go_wp2_with (fail)
  go_loopg [5, 8] 24 (fun kq v5 v8 w' => ∃ j : Nat, v5 = .string (repB (⟨#[78, 79, 84, 32]⟩ : ByteArray) j) ∧ v8 = .int .i64 (j : Int) ∧ Aside0 (j ≤ m ∧ j + kq = 24 ∧ w' = w1))
  case atStart => exact ⟨0, rfl, rfl, ⟨Nat.zero_le _, rfl, rfl⟩⟩
  case round =>
  obtain ⟨j, rfl, rfl, HJ⟩ := hrel
  obtain ⟨hjm, hkq, hw⟩ := HJ.out
  subst hw
  clear HJ
  by_cases hlt : j < m
  · have hd : decide ((j : Int) < (m : Int)) = true := decide_eq_true (by omega)
    have hd2 : decide (j < m) = true := decide_eq_true hlt
    have c1z : (repB (⟨#[78, 79, 84, 32]⟩ : ByteArray) j).size + 4 ≤ 9223372036854775807 := by rw [repB_size]; have := Nat.mul_le_mul_right ((⟨#[78, 79, 84, 32]⟩ : ByteArray)).size (show j ≤ 24 by omega); have e1 : ((⟨#[78, 79, 84, 32]⟩ : ByteArray)).size = 4 := rfl; omega
    have c1a := eq_true c1z
    have c1b : decide ((repB (⟨#[78, 79, 84, 32]⟩ : ByteArray) j).size + 4 ≤ 9223372036854775807) = true := decide_eq_true c1z
    have c1c : (9223372036854775807 < (repB (⟨#[78, 79, 84, 32]⟩ : ByteArray) j).size + 4) = False := eq_false (Nat.not_lt.2 c1z)
    cases gk with
    | zero => omega
    | succ kq =>
    go_wp2
    go_roundg kq
    case measure => omega
    case rel => exact ⟨j + 1, rfl, by go_num, ⟨by omega, by omega, rfl⟩⟩
  · have hd : decide ((j : Int) < (m : Int)) = false := decide_eq_false (by omega)
    have hd2 : decide (j < m) = false := decide_eq_false hlt
    obtain rfl : j = m := by omega
    have c2z : 7 + (repB (⟨#[78, 79, 84, 32]⟩ : ByteArray) j).size ≤ 9223372036854775807 := by rw [repB_size]; have := Nat.mul_le_mul_right ((⟨#[78, 79, 84, 32]⟩ : ByteArray)).size (show j ≤ 24 by omega); have e1 : ((⟨#[78, 79, 84, 32]⟩ : ByteArray)).size = 4 := rfl; omega
    have c2a := eq_true c2z
    have c2b : decide (7 + (repB (⟨#[78, 79, 84, 32]⟩ : ByteArray) j).size ≤ 9223372036854775807) = true := decide_eq_true c2z
    have c2c : (9223372036854775807 < 7 + (repB (⟨#[78, 79, 84, 32]⟩ : ByteArray) j).size) = False := eq_false (Nat.not_lt.2 c2z)
    have c3z : 7 + (repB (⟨#[78, 79, 84, 32]⟩ : ByteArray) j).size + 11 ≤ 9223372036854775807 := by rw [repB_size]; have := Nat.mul_le_mul_right ((⟨#[78, 79, 84, 32]⟩ : ByteArray)).size (show j ≤ 24 by omega); have e1 : ((⟨#[78, 79, 84, 32]⟩ : ByteArray)).size = 4 := rfl; omega
    have c3a := eq_true c3z
    have c3b : decide (7 + (repB (⟨#[78, 79, 84, 32]⟩ : ByteArray) j).size + 11 ≤ 9223372036854775807) = true := decide_eq_true c3z
    have c3c : (9223372036854775807 < 7 + (repB (⟨#[78, 79, 84, 32]⟩ : ByteArray) j).size + 11) = False := eq_false (Nat.not_lt.2 c3z)
    obtain ⟨n, l, p, e, hp, he⟩ := deep1 j hm24
    have HP := Aside0.mk hp
    clear hp
    rcases he with ⟨rfl, hmm⟩ | ⟨rfl, hmm, hst⟩
    · have q1 : decide ((j : Int) ≤ 15) = true := decide_eq_true (by omega)
      have q2 : decide (j ≤ 15) = true := decide_eq_true hmm
      clear hmm
      go_upto_region 37 with (go_at_call 10; refine (parse_calls HS1.out n (deepB1 j) _ HP.out).mono ?_; intro e w2 hp; obtain ⟨A, c, rfl, hl, hC, hb⟩ := PostP.or hp; dsimp only at hl; have H2 := Aside0.mk (below_alloc (below_step H1.out hb) (.cells #[.int .i64 l.md, .int .i64 l.n, .slice A l.st.length c] 25 (0, 0))); clear hl hC hb hp)
      go_wp2
      go_ret
      exact ⟨rfl, H2.out⟩
    · have q1 : decide ((j : Int) ≤ 15) = false := decide_eq_false (by omega)
      have q2 : decide (j ≤ 15) = false := decide_eq_false (by omega)
      clear hmm
      go_upto_region 37 with (go_at_call 10; refine (parse_calls HS1.out n (deepB1 j) _ HP.out).mono ?_; intro e w2 hp; obtain ⟨A, c, rfl, hl, hC, hb⟩ := PostP.or hp; dsimp only at hl; rw [hst]; have H2 := Aside0.mk (below_alloc (below_step H1.out hb) (.cells #[.int .i64 l.md, .int .i64 l.n, .slice A 0 c] 25 (0, 0))); clear hl hC hb hp)
      go_wp2
      go_ret
      exact ⟨rfl, H2.out⟩
set_option maxHeartbeats 8000000 in
set_option maxRecDepth 100000 in
theorem treeDeep_calls2 (a b : Int) (hk : (wrap64 (b.tmod 5 + 5)).tmod 5 = 2) {w : World} (hsh : Sh w) :
    Calls Tryz.prog 3 #[.int .i64 a, .int .i64 b] w fun e w' => e = .returned (.bool true) ∧ Below w.heap.size w w' := by
  have HS := Aside0.mk hsh
  clear hsh
  obtain ⟨m, hm, hm24⟩ := small_mod a 24 (by decide) (by decide)
  go_enter Tryz.func3, Tryz.ntmps3
  go_upto_block 0 with (go_at_call 9; refine (begun_calls HS.out).mono ?_; rintro e w1 ⟨rfl, hb⟩; have H1 := Aside0.mk hb; clear hb)
  have HS1 := Aside0.mk (HS.out.below H1.out)
  have hm' : (wrap64 (a.tmod 24 + 24)).tmod 24 = (m : Int) := hm
  rw [hm']
  clear hm hm' hk
  go_wp2_with (fail)
  go_loopg [5, 9] 24 (fun kq v5 v9 w' => ∃ j : Nat, v5 = .string (repB (⟨#[44, 32, 65]⟩ : ByteArray) j) ∧ v9 = .int .i64 (j : Int) ∧ Aside0 (j ≤ m ∧ j + kq = 24 ∧ w' = w1))
  case atStart => exact ⟨0, rfl, rfl, ⟨Nat.zero_le _, rfl, rfl⟩⟩
  case round =>
  obtain ⟨j, rfl, rfl, HJ⟩ := hrel
  obtain ⟨hjm, hkq, hw⟩ := HJ.out
  subst hw
  clear HJ
  by_cases hlt : j < m
  · have hd : decide ((j : Int) < (m : Int)) = true := decide_eq_true (by omega)
    have hd2 : decide (j < m) = true := decide_eq_true hlt
    have c1z : (repB (⟨#[44, 32, 65]⟩ : ByteArray) j).size + 3 ≤ 9223372036854775807 := by rw [repB_size]; have := Nat.mul_le_mul_right ((⟨#[44, 32, 65]⟩ : ByteArray)).size (show j ≤ 24 by omega); have e1 : ((⟨#[44, 32, 65]⟩ : ByteArray)).size = 3 := rfl; omega
    have c1a := eq_true c1z
    have c1b : decide ((repB (⟨#[44, 32, 65]⟩ : ByteArray) j).size + 3 ≤ 9223372036854775807) = true := decide_eq_true c1z
    have c1c : (9223372036854775807 < (repB (⟨#[44, 32, 65]⟩ : ByteArray) j).size + 3) = False := eq_false (Nat.not_lt.2 c1z)
    cases gk with
    | zero => omega
    | succ kq =>
    go_wp2
    go_roundg kq
    case measure => omega
    case rel => exact ⟨j + 1, rfl, by go_num, ⟨by omega, by omega, rfl⟩⟩
  · have hd : decide ((j : Int) < (m : Int)) = false := decide_eq_false (by omega)
    have hd2 : decide (j < m) = false := decide_eq_false hlt
    obtain rfl : j = m := by omega
    have c2z : 8 + (repB (⟨#[44, 32, 65]⟩ : ByteArray) j).size ≤ 9223372036854775807 := by rw [repB_size]; have := Nat.mul_le_mul_right ((⟨#[44, 32, 65]⟩ : ByteArray)).size (show j ≤ 24 by omega); have e1 : ((⟨#[44, 32, 65]⟩ : ByteArray)).size = 3 := rfl; omega
    have c2a := eq_true c2z
    have c2b : decide (8 + (repB (⟨#[44, 32, 65]⟩ : ByteArray) j).size ≤ 9223372036854775807) = true := decide_eq_true c2z
    have c2c : (9223372036854775807 < 8 + (repB (⟨#[44, 32, 65]⟩ : ByteArray) j).size) = False := eq_false (Nat.not_lt.2 c2z)
    have c3z : 8 + (repB (⟨#[44, 32, 65]⟩ : ByteArray) j).size + 7 ≤ 9223372036854775807 := by rw [repB_size]; have := Nat.mul_le_mul_right ((⟨#[44, 32, 65]⟩ : ByteArray)).size (show j ≤ 24 by omega); have e1 : ((⟨#[44, 32, 65]⟩ : ByteArray)).size = 3 := rfl; omega
    have c3a := eq_true c3z
    have c3b : decide (8 + (repB (⟨#[44, 32, 65]⟩ : ByteArray) j).size + 7 ≤ 9223372036854775807) = true := decide_eq_true c3z
    have c3c : (9223372036854775807 < 8 + (repB (⟨#[44, 32, 65]⟩ : ByteArray) j).size + 7) = False := eq_false (Nat.not_lt.2 c3z)
    obtain ⟨n, l, p, e, hp, he⟩ := deep2 j hm24
    have HP := Aside0.mk hp
    clear hp
    rcases he with ⟨rfl, hmm⟩ | ⟨rfl, hmm, hst⟩
    · have q1 : decide ((j : Int) ≤ 5) = true := decide_eq_true (by omega)
      have q2 : decide (j ≤ 5) = true := decide_eq_true hmm
      clear hmm
      go_upto_region 37 with (go_at_call 10; refine (parse_calls HS1.out n (deepB2 j) _ HP.out).mono ?_; intro e w2 hp; obtain ⟨A, c, rfl, hl, hC, hb⟩ := PostP.or hp; dsimp only at hl; have H2 := Aside0.mk (below_alloc (below_step H1.out hb) (.cells #[.int .i64 l.md, .int .i64 l.n, .slice A l.st.length c] 25 (0, 0))); clear hl hC hb hp)
      go_wp2
      go_ret
      exact ⟨rfl, H2.out⟩
    · have q1 : decide ((j : Int) ≤ 5) = false := decide_eq_false (by omega)
      have q2 : decide (j ≤ 5) = false := decide_eq_false (by omega)
      clear hmm
      go_upto_region 37 with (go_at_call 10; refine (parse_calls HS1.out n (deepB2 j) _ HP.out).mono ?_; intro e w2 hp; obtain ⟨A, c, rfl, hl, hC, hb⟩ := PostP.or hp; dsimp only at hl; rw [hst]; have H2 := Aside0.mk (below_alloc (below_step H1.out hb) (.cells #[.int .i64 l.md, .int .i64 l.n, .slice A 0 c] 25 (0, 0))); clear hl hC hb hp)
      go_wp2
      go_ret
      exact ⟨rfl, H2.out⟩
set_option maxHeartbeats 8000000 in
set_option maxRecDepth 100000 in
theorem treeDeep_calls3 (a b : Int) (hk : (wrap64 (b.tmod 5 + 5)).tmod 5 = 3) {w : World} (hsh : Sh w) :
    Calls Tryz.prog 3 #[.int .i64 a, .int .i64 b] w fun e w' => e = .returned (.bool true) ∧ Below w.heap.size w w' := by
  have HS := Aside0.mk hsh
  clear hsh
  obtain ⟨m, hm, hm24⟩ := small_mod a 24 (by decide) (by decide)
  go_enter Tryz.func3, Tryz.ntmps3
  go_upto_block 0 with (go_at_call 9; refine (begun_calls HS.out).mono ?_; rintro e w1 ⟨rfl, hb⟩; have H1 := Aside0.mk hb; clear hb)
  have HS1 := Aside0.mk (HS.out.below H1.out)
  have hm' : (wrap64 (a.tmod 24 + 24)).tmod 24 = (m : Int) := hm
  rw [hm']
  clear hm hm' hk
  go_wp2_with (fail)
  go_loopg [5, 10] 24 (fun kq v5 v10 w' => ∃ j : Nat, v5 = .string (repB (⟨#[44, 32, 40, 49, 41]⟩ : ByteArray) j) ∧ v10 = .int .i64 (j : Int) ∧ Aside0 (j ≤ m ∧ j + kq = 24 ∧ w' = w1))
  case atStart => exact ⟨0, rfl, rfl, ⟨Nat.zero_le _, rfl, rfl⟩⟩
  case round =>
  obtain ⟨j, rfl, rfl, HJ⟩ := hrel
  obtain ⟨hjm, hkq, hw⟩ := HJ.out
  subst hw
  clear HJ
  by_cases hlt : j < m
  · have hd : decide ((j : Int) < (m : Int)) = true := decide_eq_true (by omega)
    have hd2 : decide (j < m) = true := decide_eq_true hlt
    have c1z : (repB (⟨#[44, 32, 40, 49, 41]⟩ : ByteArray) j).size + 5 ≤ 9223372036854775807 := by rw [repB_size]; have := Nat.mul_le_mul_right ((⟨#[44, 32, 40, 49, 41]⟩ : ByteArray)).size (show j ≤ 24 by omega); have e1 : ((⟨#[44, 32, 40, 49, 41]⟩ : ByteArray)).size = 5 := rfl; omega
    have c1a := eq_true c1z
    have c1b : decide ((repB (⟨#[44, 32, 40, 49, 41]⟩ : ByteArray) j).size + 5 ≤ 9223372036854775807) = true := decide_eq_true c1z
    have c1c : (9223372036854775807 < (repB (⟨#[44, 32, 40, 49, 41]⟩ : ByteArray) j).size + 5) = False := eq_false (Nat.not_lt.2 c1z)
    cases gk with
    | zero => omega
    | succ kq =>
    go_wp2
    go_roundg kq
    case measure => omega
    case rel => exact ⟨j + 1, rfl, by go_num, ⟨by omega, by omega, rfl⟩⟩
  · have hd : decide ((j : Int) < (m : Int)) = false := decide_eq_false (by omega)
    have hd2 : decide (j < m) = false := decide_eq_false hlt
    obtain rfl : j = m := by omega
    have c2z : 24 + (repB (⟨#[44, 32, 40, 49, 41]⟩ : ByteArray) j).size ≤ 9223372036854775807 := by rw [repB_size]; have := Nat.mul_le_mul_right ((⟨#[44, 32, 40, 49, 41]⟩ : ByteArray)).size (show j ≤ 24 by omega); have e1 : ((⟨#[44, 32, 40, 49, 41]⟩ : ByteArray)).size = 5 := rfl; omega
    have c2a := eq_true c2z
    have c2b : decide (24 + (repB (⟨#[44, 32, 40, 49, 41]⟩ : ByteArray) j).size ≤ 9223372036854775807) = true := decide_eq_true c2z
    have c2c : (9223372036854775807 < 24 + (repB (⟨#[44, 32, 40, 49, 41]⟩ : ByteArray) j).size) = False := eq_false (Nat.not_lt.2 c2z)
    
    obtain ⟨n, l, p, e, hp, he⟩ := deep3 j hm24
    have HP := Aside0.mk hp
    clear hp
    rcases he with ⟨rfl, hmm⟩ | ⟨rfl, hmm, hst⟩
    · have q1 : decide ((j : Int) ≤ 15) = true := decide_eq_true (by omega)
      have q2 : decide (j ≤ 15) = true := decide_eq_true hmm
      clear hmm
      go_upto_region 37 with (go_at_call 10; refine (parse_calls HS1.out n (deepB3 j) _ HP.out).mono ?_; intro e w2 hp; obtain ⟨A, c, rfl, hl, hC, hb⟩ := PostP.or hp; dsimp only at hl; have H2 := Aside0.mk (below_alloc (below_step H1.out hb) (.cells #[.int .i64 l.md, .int .i64 l.n, .slice A l.st.length c] 25 (0, 0))); clear hl hC hb hp)
      go_wp2
      go_ret
      exact ⟨rfl, H2.out⟩
    · have q1 : decide ((j : Int) ≤ 15) = false := decide_eq_false (by omega)
      have q2 : decide (j ≤ 15) = false := decide_eq_false (by omega)
      clear hmm
      go_upto_region 37 with (go_at_call 10; refine (parse_calls HS1.out n (deepB3 j) _ HP.out).mono ?_; intro e w2 hp; obtain ⟨A, c, rfl, hl, hC, hb⟩ := PostP.or hp; dsimp only at hl; rw [hst]; have H2 := Aside0.mk (below_alloc (below_step H1.out hb) (.cells #[.int .i64 l.md, .int .i64 l.n, .slice A 0 c] 25 (0, 0))); clear hl hC hb hp)
      go_wp2
      go_ret
      exact ⟨rfl, H2.out⟩
set_option maxHeartbeats 8000000 in
set_option maxRecDepth 100000 in
theorem treeDeep_calls4 (a b : Int) (hk : (wrap64 (b.tmod 5 + 5)).tmod 5 = 4) {w : World} (hsh : Sh w) :
    Calls Tryz.prog 3 #[.int .i64 a, .int .i64 b] w fun e w' => e = .returned (.bool true) ∧ Below w.heap.size w w' := by
  have HS := Aside0.mk hsh
  clear hsh
  obtain ⟨m, hm, hm24⟩ := small_mod a 24 (by decide) (by decide)
  go_enter Tryz.func3, Tryz.ntmps3
  go_upto_block 0 with (go_at_call 9; refine (begun_calls HS.out).mono ?_; rintro e w1 ⟨rfl, hb⟩; have H1 := Aside0.mk hb; clear hb)
  have HS1 := Aside0.mk (HS.out.below H1.out)
  have hm' : (wrap64 (a.tmod 24 + 24)).tmod 24 = (m : Int) := hm
  rw [hm']
  clear hm hm' hk
  go_wp2_with (fail)
  go_loopg [5, 11] 24 (fun kq v5 v11 w' => ∃ j : Nat, v5 = .string (repB (⟨#[59, 32, 68, 69, 76, 69, 84, 69, 32, 70, 82, 79, 77, 32, 84]⟩ : ByteArray) j) ∧ v11 = .int .i64 (j : Int) ∧ Aside0 (j ≤ m ∧ j + kq = 24 ∧ w' = w1))
  case atStart => exact ⟨0, rfl, rfl, ⟨Nat.zero_le _, rfl, rfl⟩⟩
  case round =>
  obtain ⟨j, rfl, rfl, HJ⟩ := hrel
  obtain ⟨hjm, hkq, hw⟩ := HJ.out
  subst hw
  clear HJ
  by_cases hlt : j < m
  · have hd : decide ((j : Int) < (m : Int)) = true := decide_eq_true (by omega)
    have hd2 : decide (j < m) = true := decide_eq_true hlt
    have c1z : (repB (⟨#[59, 32, 68, 69, 76, 69, 84, 69, 32, 70, 82, 79, 77, 32, 84]⟩ : ByteArray) j).size + 15 ≤ 9223372036854775807 := by rw [repB_size]; have := Nat.mul_le_mul_right ((⟨#[59, 32, 68, 69, 76, 69, 84, 69, 32, 70, 82, 79, 77, 32, 84]⟩ : ByteArray)).size (show j ≤ 24 by omega); have e1 : ((⟨#[59, 32, 68, 69, 76, 69, 84, 69, 32, 70, 82, 79, 77, 32, 84]⟩ : ByteArray)).size = 15 := rfl; omega
    have c1a := eq_true c1z
    have c1b : decide ((repB (⟨#[59, 32, 68, 69, 76, 69, 84, 69, 32, 70, 82, 79, 77, 32, 84]⟩ : ByteArray) j).size + 15 ≤ 9223372036854775807) = true := decide_eq_true c1z
    have c1c : (9223372036854775807 < (repB (⟨#[59, 32, 68, 69, 76, 69, 84, 69, 32, 70, 82, 79, 77, 32, 84]⟩ : ByteArray) j).size + 15) = False := eq_false (Nat.not_lt.2 c1z)
    cases gk with
    | zero => omega
    | succ kq =>
    go_wp2
    go_roundg kq
    case measure => omega
    case rel => exact ⟨j + 1, rfl, by go_num, ⟨by omega, by omega, rfl⟩⟩
  · have hd : decide ((j : Int) < (m : Int)) = false := decide_eq_false (by omega)
    have hd2 : decide (j < m) = false := decide_eq_false hlt
    obtain rfl : j = m := by omega
    have c2z : 13 + (repB (⟨#[59, 32, 68, 69, 76, 69, 84, 69, 32, 70, 82, 79, 77, 32, 84]⟩ : ByteArray) j).size ≤ 9223372036854775807 := by rw [repB_size]; have := Nat.mul_le_mul_right ((⟨#[59, 32, 68, 69, 76, 69, 84, 69, 32, 70, 82, 79, 77, 32, 84]⟩ : ByteArray)).size (show j ≤ 24 by omega); have e1 : ((⟨#[59, 32, 68, 69, 76, 69, 84, 69, 32, 70, 82, 79, 77, 32, 84]⟩ : ByteArray)).size = 15 := rfl; omega
    have c2a := eq_true c2z
    have c2b : decide (13 + (repB (⟨#[59, 32, 68, 69, 76, 69, 84, 69, 32, 70, 82, 79, 77, 32, 84]⟩ : ByteArray) j).size ≤ 9223372036854775807) = true := decide_eq_true c2z
    have c2c : (9223372036854775807 < 13 + (repB (⟨#[59, 32, 68, 69, 76, 69, 84, 69, 32, 70, 82, 79, 77, 32, 84]⟩ : ByteArray) j).size) = False := eq_false (Nat.not_lt.2 c2z)
    
    obtain ⟨n, l, p, e, hp, he⟩ := deep4 j hm24
    have HP := Aside0.mk hp
    clear hp
    rcases he with ⟨rfl, hmm⟩ | ⟨rfl, hmm, hst⟩
    · have q1 : decide ((j : Int) ≤ 7) = true := decide_eq_true (by omega)
      have q2 : decide (j ≤ 7) = true := decide_eq_true hmm
      clear hmm
      go_upto_region 37 with (go_at_call 10; refine (parse_calls HS1.out n (deepB4 j) _ HP.out).mono ?_; intro e w2 hp; obtain ⟨A, c, rfl, hl, hC, hb⟩ := PostP.or hp; dsimp only at hl; have H2 := Aside0.mk (below_alloc (below_step H1.out hb) (.cells #[.int .i64 l.md, .int .i64 l.n, .slice A l.st.length c] 25 (0, 0))); clear hl hC hb hp)
      go_wp2
      go_ret
      exact ⟨rfl, H2.out⟩
    · have q1 : decide ((j : Int) ≤ 7) = false := decide_eq_false (by omega)
      have q2 : decide (j ≤ 7) = false := decide_eq_false (by omega)
      clear hmm
      go_upto_region 37 with (go_at_call 10; refine (parse_calls HS1.out n (deepB4 j) _ HP.out).mono ?_; intro e w2 hp; obtain ⟨A, c, rfl, hl, hC, hb⟩ := PostP.or hp; dsimp only at hl; rw [hst]; have H2 := Aside0.mk (below_alloc (below_step H1.out hb) (.cells #[.int .i64 l.md, .int .i64 l.n, .slice A 0 c] 25 (0, 0))); clear hl hC hb hp)
      go_wp2
      go_ret
      exact ⟨rfl, H2.out⟩
theorem treeDeep_calls (a b : Int) (ha0 : -9223372036854775808 ≤ a) (ha1 : a ≤ 9223372036854775807) (hb0 : -9223372036854775808 ≤ b) (hb1 : b ≤ 9223372036854775807) {w : World} (hsh : Sh w) :
    Calls Tryz.prog 3 #[.int .i64 a, .int .i64 b] w fun e w' => e = .returned (.bool true) ∧ Below w.heap.size w w' := by
  obtain ⟨k, hk, h5⟩ := small_mod b 5 (by decide) (by decide)
  match k, h5, hk with
  | 0, _, hk => exact treeDeep_calls0 a b hk hsh
  | 1, _, hk => exact treeDeep_calls1 a b hk hsh
  | 2, _, hk => exact treeDeep_calls2 a b hk hsh
  | 3, _, hk => exact treeDeep_calls3 a b hk hsh
  | 4, _, hk => exact treeDeep_calls4 a b hk hsh
end Go.Proofs.YtlpnlfahlcingaaGreatDoor.PL
end
section
namespace Go.Proofs.YtlpnlfahlcingaaGreatDoor.treeDeep
open Go.ChangeShapes Go.WideShapes Go.ChangeAt Go.RowKit Go.Joins Go.Deep
open Go.Proofs.YtlpnlfahlcingaaGreatDoor.PL Go.Proofs.YtlpnlfahlcingaaGreatDoorW.PrintWords Go.Proofs.YtlpnlfahlcingaaGreatDoorW.PrintLast
set_option linter.unusedVariables false
theorem own : ownKnob Tryz.prog.godebug = none := by kernel_rfl
theorem laidOut : laidOutB Tryz.prog = true := by kernel_rfl
theorem i64_b {n : Int} (h : (Lit.int .i64 n).wf = true) : -9223372036854775808 ≤ n ∧ n ≤ 9223372036854775807 := by
  simp [Lit.wf, IntKind.min, IntKind.max, IntKind.signed, IntKind.bits] at h
  omega
set_option maxRecDepth 100000 in
theorem opened {H : Type} {enc : TypeId × Value → H} {W : World} {base : Nat} {v : Value} {d : DataW H} {p : List MemPlace} (hv : Value.okWide Tryz.prog W .any base 3 v) (h : DataW.Trod enc Tryz.prog W 0 (fun _ => true) true 3 v d p) :
    ∃ n : Int, v = .int .i64 n ∧ -9223372036854775808 ≤ n ∧ n ≤ 9223372036854775807 := by
  obtain ⟨n, rfl, _, _, w0⟩ := open_int Tryz.underlying3 hv h
  exact ⟨n, rfl, (i64_b w0).1, (i64_b w0).2⟩
set_option maxRecDepth 100000 in
theorem contract {H : Type} {enc : TypeId × Value → H} (W : World) (base : Nat) (args : Array Value) (ds gs : List (DataW H)) (before : List MemPlace)
    (hval : ∀ (j : Nat) t v, Tryz.f3.params[j]? = some t → args[j]? = some v → Value.okWide Tryz.prog W .any base t v)
    (hW : DataW.Whole enc Tryz.prog Tryz.f3.params.toList Rows.treeDeepSpec.vars false W args.toList ds gs before) (hsh : Sh W) :
    Calls Tryz.prog 3 args W fun e W' => ∃ v, e = .returned v ∧ Rows.treeDeepSpec.post enc Tryz.prog Tryz.f3 false true false false W args v W' := by
  have hW' := hW
  obtain ⟨p, q, hA0, hV, rfl, hfz, hnd⟩ := hW
  have hA : DataW.TrodAll enc Tryz.prog W 0 (fun _ => true) true Tryz.f3.params.toList args.toList ds p := hA0
  rw [Tryz.params3] at hA hval
  obtain ⟨v0, vs0, d0, ds0, p0, q0, hargs, rfl, rfl, h0, r0⟩ := trodAll_cons hA
  obtain ⟨v1, vs1, d1, ds1, p1, q1, rfl, rfl, rfl, h1, r1⟩ := trodAll_cons r0
  obtain ⟨rfl, rfl, rfl⟩ := trodAll_nil r1
  obtain rfl : args = #[v0, v1] := by cases args; simp_all
  obtain ⟨rfl, rfl⟩ := trodVars_none hV
  have lt0 : ∀ x ∈ p0, x.block < W.heap.size := by obtain ⟨m, hm⟩ := h0; exact DataW.trod_lt m _ _ _ hm
  have lt1 : ∀ x ∈ p1, x.block < W.heap.size := by obtain ⟨m, hm⟩ := h1; exact DataW.trod_lt m _ _ _ hm
  obtain ⟨a, rfl, aw0, aw1⟩ := opened (hval 0 3 v0 rfl rfl) h0
  obtain ⟨b, rfl, bw0, bw1⟩ := opened (hval 1 3 v1 rfl rfl) h1
  refine (PL.treeDeep_calls a b aw0 aw1 bw0 bw1 hsh).mono fun e W' ⟨he, bel⟩ => ?_
  subst he
  exact ⟨_, rfl, _, _, _, [], _, [], hW', trodAll_mk1 (shut_bool Tryz.underlying4 _), (trodAll_cons_mk (Below.trod laidOut (by kernel_rfl) (of_decide_eq_true (by kernel_rfl)) h0 bel lt0) (trodAll_cons_mk (Below.trod laidOut (by kernel_rfl) (of_decide_eq_true (by kernel_rfl)) h1 bel lt1) trodAll_mk0)), rfl, bel.frame _, fun h => by cases h⟩
set_option maxRecDepth 100000 in
theorem lifted (os : Os) (started : os.Started) (H : Type) (enc : TypeId × Value → H) :
    ReturnsInHanded {} Tryz.checked os 3 .any (fun w args => (Rows.treeDeepSpec.pre enc Tryz.prog Tryz.f3 Rows.treeDeepRow.domain false w args ∧ laidMetH Tryz.prog Rows.treeDeepRow.laid w) ∧ sizedMet enc Tryz.prog Tryz.f3 (OpenSpec.ofChange Rows.treeDeepSpec) false w args)
      (Rows.treeDeepSpec.post enc Tryz.prog Tryz.f3 false true false false) := by
  refine returnsInHanded_of_calls (C := Tryz.checked) own started (by kernel_rfl)
    (ChangeSpec.witness_shaped (enc := enc) (C := Tryz.checked) (os := os) (X := fun w _ => laidMetH Tryz.prog Rows.treeDeepRow.laid w) false (World.laidAll Tryz.prog os Rows.treeDeepRow.laid) #[.int .i64 0, .int .i64 0] 8 (World.laidAll_os _ _ _)
      (World.shaped_of_ZipB (by kernel_rfl) (by kernel_rfl)) (by kernel_rfl) (by kernel_rfl) (by kernel_rfl)
      (by rw [MakeChecks.laidMetH_plain _ _ _ (by kernel_rfl)]; exact laidMet_laidAll _ (by kernel_rfl) (by kernel_rfl))) ?_
  intro w tape i _ hsh _ hok hpre hholds
  obtain ⟨_, _, _, fn', hfn', _, _, _, _, hval⟩ := hok
  obtain rfl : fn' = Tryz.f3 := Option.some.inj (hfn'.symm.trans Tryz.func3)
  obtain ⟨⟨⟨ds, gs, before, hw, hc⟩, hx⟩, hz⟩ := hpre
  have hw' := DataW.Whole.of_heap (w' := w.forCall tape i) (by rfl) hw
  have hL : laidMetH Tryz.prog Rows.treeDeepRow.laid (w.forCall tape i) := hx.of_heap (by rfl)
  refine (contract (w.forCall tape i) w.heap.size i.args ds gs before hval hw' ⟨Tryz.laysM155.s1_3 _ hsh, laid_tab hL⟩).mono fun e W' ⟨v, he, hp⟩ => ?_
  subst he
  exact ChangeSpec.post_blind hp
theorem over : Rows.treeDeepRow.holds Tryz.pinned (OpenSpec.ofChange Rows.treeDeepSpec) :=
  OpenClaim.holds_of_wide 3 Tryz.f3 rfl rfl rfl rfl rfl rfl rfl ⟨rfl, rfl, rfl, rfl, rfl⟩ rfl rfl rfl rfl rfl (by kernel_rfl) Tryz.func3 (by kernel_rfl)
    (of_decide_eq_true (by kernel_rfl)) (by unfold Func.isWrapper; first | (rw [if_pos (by decide +kernel)]; kernel_rfl) | (rw [if_neg (by decide +kernel)]; exact ⟨rfl, rfl⟩))
    (fun os started H enc _ => lifted os started H enc)
theorem card : Rows.TreeDeepCardSaid :=
  Claim7.holds_tied_plain_at .later [] [.data, .data, .data, .data, .pinned] true (true, "84e35d89f4691aa7f81c81ce9ea2b916925eae0f67f106c5568d083c08629b46") true over (fun _ h => by cases h) (by kernel_rfl) (fun _ h => by cases h) treeDeep_row_tie rfl ⟨rfl, rfl⟩ (by kernel_rfl) rfl
    (fun f fn hf hfn => by
      obtain rfl : f = 3 := Option.some.inj ((show Tryz.prog.funcNamed "antipode/antipodelaw17.TreeDeep" = some 3 by kernel_rfl).symm.trans hf) |>.symm
      obtain rfl : fn = Tryz.f3 := (Option.some.inj (Tryz.func3.symm.trans hfn)).symm
      exact ⟨by kernel_rfl, fun j t ht => by
        rw [Tryz.params3] at ht
        have hm : t ∈ [3, 3] := by simpa using Array.mem_of_getElem? ht
        have hall : ([3, 3].all fun u => !Tryz.prog.wantsStandIn u) = true := by kernel_rfl
        exact (show Tryz.prog.wantsStandIn t = false by simpa using List.all_eq_true.1 hall t hm)⟩)
    (by kernel_rfl)
#print axioms card
end Go.Proofs.YtlpnlfahlcingaaGreatDoor.treeDeep
namespace Go.Proofs.YtlpnlfahlcingaaGreatDoor
theorem treeDeep_holds : Rows.TreeDeepCardSaid := treeDeep.card
end Go.Proofs.YtlpnlfahlcingaaGreatDoor
end
