/- What part 7 of the texts under treeDeep_holds proves: contracts of functions of this seat, and plain facts about what they compute. Conditions: those that each theorem names. -/
import Derived.Test.YtlpnlfahlcingaaGreatDoorTD6
section
namespace Go.Proofs.YtlpnlfahlcingaaGreatDoor.PL
open Go.RowKit Go.Proofs.YtlpnlfahlcingaaGreatDoorW.PrintWords Go.Proofs.YtlpnlfahlcingaaGreatDoorW.PrintLast Go.Proofs.YtlpnlfahlcingaaGreatDoorW.PrintMore
attribute [local go_sem] max2_int min2_int max_two min_two max_three min_three max_four min_four
attribute [local go_sem ↓] isSome_setCell
set_option linter.unusedVariables false
set_option linter.unusedSimpArgs false
mutual
def tree_May.j0 : Nat → Bool → Int → Int → List (S44) → Option (Bool)
 | 0, _, _, _, _ => none
 | k + 1, x39, x235000, x235001, x235002 => if x39 = true then (some false) else (tree_May.l0 k x235002 (x235002.length : Int) 0)
def tree_May.l0 : Nat → List (S44) → Int → Int → Option (Bool)
 | 0, _, _, _ => none
 | k + 1, x41, x42, x43 => if x43 < x42 then (if 0 ≤ x43 then (if x43 < (x41.length : Int) then ((tree_mayStmt.f k ((rd_T44 x41 x43).f0) ((rd_T44 x41 x43).f1) ((rd_T44 x41 x43).f2) ((rd_T44 x41 x43).f3) ((rd_T44 x41 x43).f4) ((rd_T44 x41 x43).f5) ((rd_T44 x41 x43).f6.f0) ((rd_T44 x41 x43).f6.f1) ((rd_T44 x41 x43).f6.f2.f0) ((rd_T44 x41 x43).f6.f2.f1) ((rd_T44 x41 x43).f6.f2.f2) ((rd_T44 x41 x43).f6.f3) ((rd_T44 x41 x43).f7) ((rd_T44 x41 x43).f8) ((rd_T44 x41 x43).f9)).bind fun t237 => (if t237 = true then (tree_May.l0 k x41 x42 (wrap64 (x43 + 1))) else (some false))) else (none)) else (none)) else (some true)
end
def tree_May.f (k : Nat) (a0_0 : Int) (a0_1 : Int) (l0_2 : List (S44)) : Option (Bool) := if a0_0 < 0 then (tree_May.j0 k true a0_0 a0_1 l0_2) else (if a0_0 > 2 then (tree_May.j0 k true a0_0 a0_1 l0_2) else (if a0_1 < 0 then (tree_May.j0 k true a0_0 a0_1 l0_2) else (if a0_0 = 0 then (if a0_1 = 0 then (if (l0_2.length : Int) = 0 then (tree_May.j0 k true a0_0 a0_1 l0_2) else (tree_May.j0 k (decide ((l0_2.length : Int) > 8)) a0_0 a0_1 l0_2)) else (tree_May.j0 k true a0_0 a0_1 l0_2)) else (if (l0_2.length : Int) = 0 then (tree_May.j0 k true a0_0 a0_1 l0_2) else (tree_May.j0 k (decide ((l0_2.length : Int) > 8)) a0_0 a0_1 l0_2)))))
theorem tree_May.mono_l : ∀ k, (∀ y0 y1 y2 y3, LeO (tree_May.j0 k y0 y1 y2 y3) (tree_May.j0 (k + 1) y0 y1 y2 y3)) ∧ (∀ y0 y1 y2, LeO (tree_May.l0 k y0 y1 y2) (tree_May.l0 (k + 1) y0 y1 y2))
 | 0 => ⟨fun _ _ _ _ r h => by simp [tree_May.j0] at h, fun _ _ _ r h => by simp [tree_May.l0] at h⟩
 | k + 1 => by
  obtain ⟨ih0, ih1⟩ := tree_May.mono_l k
  refine ⟨?_, ?_⟩
  ·intro y0 y1 y2 y3
   unfold tree_May.j0
   repeat' first
   | (with_reducible exact ih0 _ _ _ _)
   | (with_reducible exact ih1 _ _ _)
   | (with_reducible exact tree_mayStmt.mono _ _ _ _ _ _ _ _ _ _ _ _ _ _ _ _)
   | (with_reducible exact LeO.refl _)
   | (with_reducible exact LeO.none _)
   | (with_reducible refine LeO.ite ?_ ?_)
   | (with_reducible refine LeO.bind ?_ (fun _ => ?_))
   | exact ih0 _ _ _ _
   | exact ih1 _ _ _
   | exact tree_mayStmt.mono _ _ _ _ _ _ _ _ _ _ _ _ _ _ _ _
   | exact LeO.none _
   | refine LeO.ite ?_ ?_
   | refine LeO.bind ?_ (fun _ => ?_)
  ·intro y0 y1 y2
   unfold tree_May.l0
   repeat' first
   | (with_reducible exact ih0 _ _ _ _)
   | (with_reducible exact ih1 _ _ _)
   | (with_reducible exact tree_mayStmt.mono _ _ _ _ _ _ _ _ _ _ _ _ _ _ _ _)
   | (with_reducible exact LeO.refl _)
   | (with_reducible exact LeO.none _)
   | (with_reducible refine LeO.ite ?_ ?_)
   | (with_reducible refine LeO.bind ?_ (fun _ => ?_))
   | exact ih0 _ _ _ _
   | exact ih1 _ _ _
   | exact tree_mayStmt.mono _ _ _ _ _ _ _ _ _ _ _ _ _ _ _ _
   | exact LeO.none _
   | refine LeO.ite ?_ ?_
   | refine LeO.bind ?_ (fun _ => ?_)
theorem tree_May.mono : ∀ a0 a1 a2 k, LeO (tree_May.f k a0 a1 a2) (tree_May.f (k + 1) a0 a1 a2) := by
 intro a0 a1 a2 k
 obtain ⟨ih0, ih1⟩ := tree_May.mono_l k
 unfold tree_May.f
 repeat' first
   | (with_reducible exact ih0 _ _ _ _)
   | (with_reducible exact ih1 _ _ _)
   | (with_reducible exact tree_mayStmt.mono _ _ _ _ _ _ _ _ _ _ _ _ _ _ _ _)
   | (with_reducible exact LeO.refl _)
   | (with_reducible exact LeO.none _)
   | (with_reducible refine LeO.ite ?_ ?_)
   | (with_reducible refine LeO.bind ?_ (fun _ => ?_))
   | exact ih0 _ _ _ _
   | exact ih1 _ _ _
   | exact tree_mayStmt.mono _ _ _ _ _ _ _ _ _ _ _ _ _ _ _ _
   | exact LeO.none _
   | refine LeO.ite ?_ ?_
   | refine LeO.bind ?_ (fun _ => ?_)
set_option maxHeartbeats 8000000 in
set_option maxRecDepth 100000 in
theorem tree_May.calls (k : Nat) (a0_0 : Int) (a0_1 : Int) (A0_2 : Option Addr) (c0_2 : Nat) (l0_2 : List (S44)) (r : Bool) (w : World) (hr0_2 : Kd.C k44 w A0_2 l0_2.length l0_2) (hc0_2 : l0_2.length ≤ c0_2) (hsh : Sh w) (h : tree_May.f k a0_0 a0_1 l0_2 = some r) :
  Calls Tryz.prog 18 #[.agg #[.int .i64 a0_0, .int .i64 a0_1, .slice A0_2 l0_2.length c0_2]] w fun e w' => e = .returned (.bool r) ∧ Below w.heap.size w w' := by
 have hu25 := Tryz.underlying25
 have hu44 := Tryz.underlying44
 have HR0_2 := Aside0.mk hr0_2
 have HC0_2 := Aside0.mk hc0_2
 clear hr0_2 hc0_2
 have HB := Aside0.mk (Below.refl w.heap.size w)
 have H : (if a0_0 < 0 then (tree_May.j0 k true a0_0 a0_1 l0_2) else (if a0_0 > 2 then (tree_May.j0 k true a0_0 a0_1 l0_2) else (if a0_1 < 0 then (tree_May.j0 k true a0_0 a0_1 l0_2) else (if a0_0 = 0 then (if a0_1 = 0 then (if (l0_2.length : Int) = 0 then (tree_May.j0 k true a0_0 a0_1 l0_2) else (tree_May.j0 k (decide ((l0_2.length : Int) > 8)) a0_0 a0_1 l0_2)) else (tree_May.j0 k true a0_0 a0_1 l0_2)) else (if (l0_2.length : Int) = 0 then (tree_May.j0 k true a0_0 a0_1 l0_2) else (tree_May.j0 k (decide ((l0_2.length : Int) > 8)) a0_0 a0_1 l0_2)))))) = some r := h
 clear h
 have HC2 := Aside0.mk H
 clear H
 go_enter Tryz.func18, Tryz.ntmps18
 go_upto_region 1 with (first | ((with_reducible refine gate_dst (N := 1) rfl ?_); (try (refine gate_guard (by rfl) ?_; dsimp only)); refine box_ev (N := 1) (cs := #[.int .i64 a0_0, .int .i64 a0_1, .slice A0_2 l0_2.length c0_2]) (t := 25) ?_; intro gb234 hg w3 hbox hb; have BK234 := Aside0.mk (hbox); have GW234 := Aside0.mk (gsz hg bl : w.heap.size ≤ gb234); have GE234 := Aside0.mk (gsz hg bl : w.heap.size ≤ gb234); replace HB := Aside0.mk (below_step bl hb); clear hb hbox hg))
 (try simp only [Act.put, List.setIfInBounds_toArray, List.set_cons_zero, List.set_cons_succ])
 go_cut [39] (fun v39 wc => ∃ (kq : Nat) (x39_1 : Bool), v39 = .bool x39_1 ∧ Aside0 (tree_May.j0 kq x39_1 a0_0 a0_1 l0_2 = some r) ∧ Aside0 (kq ≤ k) ∧ Aside0 (wc.heap[gb234]? = some (.cells #[.int .i64 a0_0, .int .i64 a0_1, (.slice A0_2 l0_2.length c0_2)] 25 (0, 0))) ∧ Aside0 (Below w.heap.size w wc))
 case first =>
  have H := HC2.out
  clear HC2
  by_cases c4 : a0_0 < 0
  ·rw [if_pos c4] at H
   have c4b0 : decide (a0_0 < 0) = true := decide_eq_true c4
   clear c4
   (first | rw [c4b0] | (simp only [i64_w, i32_w]; rw [c4b0]) | skip)
   have H' := Aside0.mk H
   clear H
   obtain ⟨hcz5_0, hcz5_1, hcz5_2⟩ := cells3 BK234.out
   obtain ⟨hfz5_0, hfz5_1, hfz5_2⟩ := froz3 BK234.out
   go_wp2
   go_meet
   case rel => exact ⟨_, (true), rs, H', ⟨lk⟩, ⟨bk⟩, ⟨bl⟩⟩
  ·rw [if_neg c4] at H
   have c4b0 : decide (a0_0 < 0) = false := decide_eq_false c4
   clear c4
   (first | rw [c4b0] | (simp only [i64_w, i32_w]; rw [c4b0]) | skip)
   by_cases c6 : a0_0 > 2
   ·rw [if_pos c6] at H
    have c6b0 : decide (2 < a0_0) = true := decide_eq_true c6
    clear c6
    have H' := Aside0.mk H
    clear H
    obtain ⟨hcz7_0, hcz7_1, hcz7_2⟩ := cells3 BK234.out
    obtain ⟨hfz7_0, hfz7_1, hfz7_2⟩ := froz3 BK234.out
    go_wp2
    go_meet
    case rel => exact ⟨_, (true), rs, H', ⟨lk⟩, ⟨bk⟩, ⟨bl⟩⟩
   ·rw [if_neg c6] at H
    have c6b0 : decide (2 < a0_0) = false := decide_eq_false c6
    clear c6
    by_cases c8 : a0_1 < 0
    ·rw [if_pos c8] at H
     have c8b0 : decide (a0_1 < 0) = true := decide_eq_true c8
     clear c8
     have H' := Aside0.mk H
     clear H
     obtain ⟨hcz9_0, hcz9_1, hcz9_2⟩ := cells3 BK234.out
     obtain ⟨hfz9_0, hfz9_1, hfz9_2⟩ := froz3 BK234.out
     go_wp2
     go_meet
     case rel => exact ⟨_, (true), rs, H', ⟨lk⟩, ⟨bk⟩, ⟨bl⟩⟩
    ·rw [if_neg c8] at H
     have c8b0 : decide (a0_1 < 0) = false := decide_eq_false c8
     clear c8
     by_cases c10 : a0_0 = 0
     ·rw [if_pos c10] at H
      have c10b0 : (a0_0 == 0) = true := beq_iff_eq.mpr c10
      have c10b1 : (a0_0 != 0) = false := bne_eq_false_iff_eq.mpr c10
      clear c10
      by_cases c11 : a0_1 = 0
      ·rw [if_pos c11] at H
       have c11b0 : (a0_1 == 0) = true := beq_iff_eq.mpr c11
       have c11b1 : (a0_1 != 0) = false := bne_eq_false_iff_eq.mpr c11
       clear c11
       by_cases c12 : (l0_2.length : Int) = 0
       ·rw [if_pos c12] at H
        have c12b0 : ((l0_2.length : Int) == 0) = true := beq_iff_eq.mpr c12
        have c12b1 : ((l0_2.length : Int) != 0) = false := bne_eq_false_iff_eq.mpr c12
        clear c12
        have H' := Aside0.mk H
        clear H
        obtain ⟨hcz13_0, hcz13_1, hcz13_2⟩ := cells3 BK234.out
        obtain ⟨hfz13_0, hfz13_1, hfz13_2⟩ := froz3 BK234.out
        go_wp2
        go_meet
        case rel => exact ⟨_, (true), rs, H', ⟨lk⟩, ⟨bk⟩, ⟨bl⟩⟩
       ·rw [if_neg c12] at H
        have c12b0 : ((l0_2.length : Int) == 0) = false := beq_eq_false_iff_ne.mpr c12
        have c12b1 : ((l0_2.length : Int) != 0) = true := bne_iff_ne.mpr c12
        have c12b2 : ¬ (l0_2 = []) := fun h_ => c12 (by rw [h_]; rfl)
        have H' := Aside0.mk H
        clear H
        obtain ⟨hcz14_0, hcz14_1, hcz14_2⟩ := cells3 BK234.out
        obtain ⟨hfz14_0, hfz14_1, hfz14_2⟩ := froz3 BK234.out
        go_wp2
        go_meet
        case rel => exact ⟨_, (decide ((l0_2.length : Int) > 8)), rs, H', ⟨lk⟩, ⟨bk⟩, ⟨bl⟩⟩
      ·rw [if_neg c11] at H
       have c11b0 : (a0_1 == 0) = false := beq_eq_false_iff_ne.mpr c11
       have c11b1 : (a0_1 != 0) = true := bne_iff_ne.mpr c11
       have H' := Aside0.mk H
       clear H
       obtain ⟨hcz15_0, hcz15_1, hcz15_2⟩ := cells3 BK234.out
       obtain ⟨hfz15_0, hfz15_1, hfz15_2⟩ := froz3 BK234.out
       go_wp2
       go_meet
       case rel => exact ⟨_, (true), rs, H', ⟨lk⟩, ⟨bk⟩, ⟨bl⟩⟩
     ·rw [if_neg c10] at H
      have c10b0 : (a0_0 == 0) = false := beq_eq_false_iff_ne.mpr c10
      have c10b1 : (a0_0 != 0) = true := bne_iff_ne.mpr c10
      by_cases c16 : (l0_2.length : Int) = 0
      ·rw [if_pos c16] at H
       have c16b0 : ((l0_2.length : Int) == 0) = true := beq_iff_eq.mpr c16
       have c16b1 : ((l0_2.length : Int) != 0) = false := bne_eq_false_iff_eq.mpr c16
       clear c16
       have H' := Aside0.mk H
       clear H
       obtain ⟨hcz17_0, hcz17_1, hcz17_2⟩ := cells3 BK234.out
       obtain ⟨hfz17_0, hfz17_1, hfz17_2⟩ := froz3 BK234.out
       go_wp2
       go_meet
       case rel => exact ⟨_, (true), rs, H', ⟨lk⟩, ⟨bk⟩, ⟨bl⟩⟩
      ·rw [if_neg c16] at H
       have c16b0 : ((l0_2.length : Int) == 0) = false := beq_eq_false_iff_ne.mpr c16
       have c16b1 : ((l0_2.length : Int) != 0) = true := bne_iff_ne.mpr c16
       have c16b2 : ¬ (l0_2 = []) := fun h_ => c16 (by rw [h_]; rfl)
       have H' := Aside0.mk H
       clear H
       obtain ⟨hcz18_0, hcz18_1, hcz18_2⟩ := cells3 BK234.out
       obtain ⟨hfz18_0, hfz18_1, hfz18_2⟩ := froz3 BK234.out
       go_wp2
       go_meet
       case rel => exact ⟨_, (decide ((l0_2.length : Int) > 8)), rs, H', ⟨lk⟩, ⟨bk⟩, ⟨bl⟩⟩
 case rest =>
  clear HC2
  obtain ⟨kq, x39_1, rfl, HA, HJ1, BK234, HB⟩ := hcut
  cases kq with
  | zero => exact absurd HA.out (by simp [tree_May.j0])
  | succ kj1 =>
   have H := HA.out
   clear HA
   simp only [tree_May.j0] at H
   by_cases c19 : x39_1 = true
   ·subst c19
    rw [if_pos rfl] at H
    obtain rfl := Option.some.inj H
    go_wp2
    go_ret
    exact ⟨er, bl⟩
   ·replace c19 := Bool.eq_false_iff.mpr c19
    subst c19
    rw [if_neg (show ¬ (false = true) by decide)] at H
    have H' := Aside0.mk H
    clear H
    obtain ⟨hcz20_0, hcz20_1, hcz20_2⟩ := cells3 BK234.out
    obtain ⟨hfz20_0, hfz20_1, hfz20_2⟩ := froz3 BK234.out
    go_wp2
    go_loopg [43] kj1 (fun kq v43 w' => ∃ (x43_2 : Int), v43 = .int .i64 x43_2 ∧ Aside0 (tree_May.l0 kq l0_2 (l0_2.length : Int) x43_2 = some r) ∧ Aside0 (kq ≤ kj1) ∧ Aside0 (w'.heap[gb234]? = some (.cells #[.int .i64 a0_0, .int .i64 a0_1, (.slice A0_2 l0_2.length c0_2)] 25 (0, 0))) ∧ Aside0 (Below w.heap.size w w'))
    case atStart => exact ⟨(0), rs, H', ⟨Nat.le_refl _⟩, ⟨bk⟩, ⟨bl⟩⟩
    case round =>
     clear H'
     try clear c19
     try clear hcz20_0 hcz20_1 hcz20_2 hfz20_0 hfz20_1 hfz20_2
     obtain ⟨x43_2, rfl, HA, HK2, BK234, HB⟩ := hrel
     cases gk with
     | zero => exact absurd HA.out (by simp [tree_May.l0])
     | succ k2 =>
      have H := HA.out
      clear HA
      simp only [tree_May.l0] at H
      by_cases c21 : x43_2 < (l0_2.length : Int)
      ·rw [if_pos c21] at H
       have c21b0 : decide (x43_2 < (l0_2.length : Int)) = true := decide_eq_true c21
       clear c21
       by_cases c22 : 0 ≤ x43_2
       ·rw [if_pos c22] at H
        have c22b0 : decide (0 ≤ x43_2) = true := decide_eq_true c22
        clear c22
        by_cases c23 : x43_2 < (l0_2.length : Int)
        ·rw [if_pos c23] at H
         have c23b0 : decide (x43_2 < (l0_2.length : Int)) = true := decide_eq_true c23
         clear c23
         obtain ⟨t237, A240, H⟩ := bind_out H
         have A24 := Aside0.mk A240
         clear A240
         by_cases c25 : t237 = true
         ·subst c25
          rw [if_pos rfl] at H
          have H' := Aside0.mk H
          clear H
          have p235 : 0 ≤ (x43_2 : Int) := of_decide_eq_true (by assumption)
          have q235 : x43_2 < (l0_2.length : Int) := of_decide_eq_true (by assumption)
          obtain ⟨ad235, A235_2, c235_2, A235_3, c235_3, A235_4, c235_4, A235_11, c235_11, e235, hx235_0, hx235_1, hx235_2, hx235_3, hx235_4, hx235_5, hx235_6, hx235_7, hx235_8, hx235_9, hx235_10, hx235_11, hx235_12, hx235_13, hx235_14, hl235_2, hi235_2, hl235_3, hi235_3, hl235_4, hi235_4, hl235_11, hi235_11⟩ := at_T44 HR0_2.out x43_2 p235 q235
          cases e235
          replace hx235_0 := lx HB hx235_0
          replace hx235_1 := lx HB hx235_1
          replace hx235_2 := lx HB hx235_2
          replace hx235_3 := lx HB hx235_3
          replace hx235_4 := lx HB hx235_4
          replace hx235_5 := lx HB hx235_5
          replace hx235_6 := lx HB hx235_6
          replace hx235_7 := lx HB hx235_7
          replace hx235_8 := lx HB hx235_8
          replace hx235_9 := lx HB hx235_9
          replace hx235_10 := lx HB hx235_10
          replace hx235_11 := lx HB hx235_11
          replace hx235_12 := lx HB hx235_12
          replace hx235_13 := lx HB hx235_13
          replace hx235_14 := lx HB hx235_14
          have HR235_2 := Aside0.mk hi235_2
          have HC235_2 := Aside0.mk hl235_2
          clear hi235_2 hl235_2
          have HR235_3 := Aside0.mk hi235_3
          have HC235_3 := Aside0.mk hl235_3
          clear hi235_3 hl235_3
          have HR235_4 := Aside0.mk hi235_4
          have HC235_4 := Aside0.mk hl235_4
          clear hi235_4 hl235_4
          have HR235_11 := Aside0.mk hi235_11
          have HC235_11 := Aside0.mk hl235_11
          clear hi235_11 hl235_11
          replace p235 := eq_true p235
          replace q235 := eq_true q235
          go_wp2_with (first | ((with_reducible refine gate_dst (N := 4) rfl ?_); (try (refine gate_guard (by rfl) ?_; dsimp only)); refine box_event ?hg (N := 4) ?hd (cs := #[.int .i64 0, .string (⟨#[]⟩ : ByteArray), .slice none 0 0, .slice none 0 0, .slice none 0 0, .bool false, .int .i64 0, .string (⟨#[]⟩ : ByteArray), .int .i64 0, .int .i64 0, .string (⟨#[]⟩ : ByteArray), .slice none 0 0, .string (⟨#[]⟩ : ByteArray), .bool false, .int .i64 0]) (t := 44) ?hr ?_; (case hd => rfl); (case hg => rfl); (case hr => first | (go_simp; done) | (go_simp; rfl)); intro gb236 hg w26 hbox hb; have BK236 := Aside0.mk (hbox); have GW236 := Aside0.mk (gsz hg bl : w.heap.size ≤ gb236); have GE236 := Aside0.mk (gsz hg bl : w.heap.size ≤ gb236); have NB234_236 := Aside0.mk ((by rw [hg]; exact Nat.ne_of_lt (blk_lt (g := gb234) (o := .cells #[.int .i64 a0_0, .int .i64 a0_1, .slice (some ad235) l0_2.length c0_2] 25 (0, 0)) bk) : gb234 ≠ gb236)); have NB236_234 := Aside0.mk ((by rw [hg]; exact Nat.ne_of_gt (blk_lt (g := gb234) (o := .cells #[.int .i64 a0_0, .int .i64 a0_1, .slice (some ad235) l0_2.length c0_2] 25 (0, 0)) bk) : gb236 ≠ gb234)); replace BK234 := Aside0.mk (blk_below (g := gb234) (o := .cells #[.int .i64 a0_0, .int .i64 a0_1, .slice (some ad235) l0_2.length c0_2] 25 (0, 0)) bk hb); replace HB := Aside0.mk (below_step bl hb); clear hb hbox hg; have hnb27 := NB236_234.out; have hnc27 := NB234_236.out; obtain ⟨hcz28_0, hcz28_1, hcz28_2, hcz28_3, hcz28_4, hcz28_5, hcz28_6, hcz28_7, hcz28_8, hcz28_9, hcz28_10, hcz28_11, hcz28_12, hcz28_13, hcz28_14⟩ := cells15 BK236.out; obtain ⟨hfz28_0, hfz28_1, hfz28_2, hfz28_3, hfz28_4, hfz28_5, hfz28_6, hfz28_7, hfz28_8, hfz28_9, hfz28_10, hfz28_11, hfz28_12, hfz28_13, hfz28_14⟩ := froz15 BK236.out) | ((with_reducible refine gate_callee (f := 30) rfl ?_); refine goesL_ (some 48) rfl rfl Tryz.func30 (by kernel_rfl) rfl #[.agg #[.int .i64 ((rd_T44 l0_2 x43_2).f0), .string ((rd_T44 l0_2 x43_2).f1), .slice A235_2 ((rd_T44 l0_2 x43_2).f2).length c235_2, .slice A235_3 ((rd_T44 l0_2 x43_2).f3).length c235_3, .slice A235_4 ((rd_T44 l0_2 x43_2).f4).length c235_4, .bool ((rd_T44 l0_2 x43_2).f5), .int .i64 ((rd_T44 l0_2 x43_2).f6.f0), .string ((rd_T44 l0_2 x43_2).f6.f1), .int .i64 ((rd_T44 l0_2 x43_2).f6.f2.f0), .int .i64 ((rd_T44 l0_2 x43_2).f6.f2.f1), .string ((rd_T44 l0_2 x43_2).f6.f2.f2), .slice A235_11 ((rd_T44 l0_2 x43_2).f6.f3).length c235_11, .string ((rd_T44 l0_2 x43_2).f7), .bool ((rd_T44 l0_2 x43_2).f8), .int .i64 ((rd_T44 l0_2 x43_2).f9)]] rfl mp ?_; (with_reducible refine (tree_mayStmt.calls k2 ((rd_T44 l0_2 x43_2).f0) ((rd_T44 l0_2 x43_2).f1) _ _ ((rd_T44 l0_2 x43_2).f2) _ _ ((rd_T44 l0_2 x43_2).f3) _ _ ((rd_T44 l0_2 x43_2).f4) ((rd_T44 l0_2 x43_2).f5) ((rd_T44 l0_2 x43_2).f6.f0) ((rd_T44 l0_2 x43_2).f6.f1) ((rd_T44 l0_2 x43_2).f6.f2.f0) ((rd_T44 l0_2 x43_2).f6.f2.f1) ((rd_T44 l0_2 x43_2).f6.f2.f2) _ _ ((rd_T44 l0_2 x43_2).f6.f3) ((rd_T44 l0_2 x43_2).f7) ((rd_T44 l0_2 x43_2).f8) ((rd_T44 l0_2 x43_2).f9) true _ ?side1 ?side2 ?side3 ?side4 ?side5 ?side6 ?side7 ?side8 ?side9 A24.out).mono ?_); (case side1 => exact Kd.C_below HR235_2.out bl); (case side2 => exact HC235_2.out); (case side3 => exact Kd.C_below HR235_3.out bl); (case side4 => exact HC235_3.out); (case side5 => exact Kd.C_below HR235_4.out bl); (case side6 => exact HC235_4.out); (case side7 => exact Kd.C_below HR235_11.out bl); (case side8 => exact HC235_11.out); (case side9 => exact Sh.below hsh bl); rintro e w29 ⟨rfl, hb⟩; refine ⟨_, rfl, ?_⟩; replace BK234 := Aside0.mk (blk_below (g := gb234) (o := .cells #[.int .i64 a0_0, .int .i64 a0_1, .slice (some ad235) l0_2.length c0_2] 25 (0, 0)) bf15 hb); replace BK236 := Aside0.mk (blk_below (g := gb236) (o := .cells #[.int .i64 ((rd_T44 l0_2 x43_2).f0), .string ((rd_T44 l0_2 x43_2).f1), .slice A235_2 ((rd_T44 l0_2 x43_2).f2).length c235_2, .slice A235_3 ((rd_T44 l0_2 x43_2).f3).length c235_3, .slice A235_4 ((rd_T44 l0_2 x43_2).f4).length c235_4, .bool ((rd_T44 l0_2 x43_2).f5), .int .i64 ((rd_T44 l0_2 x43_2).f6.f0), .string ((rd_T44 l0_2 x43_2).f6.f1), .int .i64 ((rd_T44 l0_2 x43_2).f6.f2.f0), .int .i64 ((rd_T44 l0_2 x43_2).f6.f2.f1), .string ((rd_T44 l0_2 x43_2).f6.f2.f2), .slice A235_11 ((rd_T44 l0_2 x43_2).f6.f3).length c235_11, .string ((rd_T44 l0_2 x43_2).f7), .bool ((rd_T44 l0_2 x43_2).f8), .int .i64 ((rd_T44 l0_2 x43_2).f9)] 44 (0, 0)) bp15 hb); replace HB := Aside0.mk (below_step bl hb); (try clear hb)))
          go_roundg k2
          case measure => have := HJ1.out; have := HK2.out; omega
          case rel => exact ⟨(wrap64 (x43_2 + 1)), rs, H', ⟨by have := HJ1.out; have := HK2.out; omega⟩, ⟨bk⟩, ⟨bl⟩⟩
         ·replace c25 := Bool.eq_false_iff.mpr c25
          subst c25
          rw [if_neg (show ¬ (false = true) by decide)] at H
          obtain rfl := Option.some.inj H
          have p235 : 0 ≤ (x43_2 : Int) := of_decide_eq_true (by assumption)
          have q235 : x43_2 < (l0_2.length : Int) := of_decide_eq_true (by assumption)
          obtain ⟨ad235, A235_2, c235_2, A235_3, c235_3, A235_4, c235_4, A235_11, c235_11, e235, hx235_0, hx235_1, hx235_2, hx235_3, hx235_4, hx235_5, hx235_6, hx235_7, hx235_8, hx235_9, hx235_10, hx235_11, hx235_12, hx235_13, hx235_14, hl235_2, hi235_2, hl235_3, hi235_3, hl235_4, hi235_4, hl235_11, hi235_11⟩ := at_T44 HR0_2.out x43_2 p235 q235
          cases e235
          replace hx235_0 := lx HB hx235_0
          replace hx235_1 := lx HB hx235_1
          replace hx235_2 := lx HB hx235_2
          replace hx235_3 := lx HB hx235_3
          replace hx235_4 := lx HB hx235_4
          replace hx235_5 := lx HB hx235_5
          replace hx235_6 := lx HB hx235_6
          replace hx235_7 := lx HB hx235_7
          replace hx235_8 := lx HB hx235_8
          replace hx235_9 := lx HB hx235_9
          replace hx235_10 := lx HB hx235_10
          replace hx235_11 := lx HB hx235_11
          replace hx235_12 := lx HB hx235_12
          replace hx235_13 := lx HB hx235_13
          replace hx235_14 := lx HB hx235_14
          have HR235_2 := Aside0.mk hi235_2
          have HC235_2 := Aside0.mk hl235_2
          clear hi235_2 hl235_2
          have HR235_3 := Aside0.mk hi235_3
          have HC235_3 := Aside0.mk hl235_3
          clear hi235_3 hl235_3
          have HR235_4 := Aside0.mk hi235_4
          have HC235_4 := Aside0.mk hl235_4
          clear hi235_4 hl235_4
          have HR235_11 := Aside0.mk hi235_11
          have HC235_11 := Aside0.mk hl235_11
          clear hi235_11 hl235_11
          replace p235 := eq_true p235
          replace q235 := eq_true q235
          go_wp2_with (first | ((with_reducible refine gate_dst (N := 4) rfl ?_); (try (refine gate_guard (by rfl) ?_; dsimp only)); refine box_event ?hg (N := 4) ?hd (cs := #[.int .i64 0, .string (⟨#[]⟩ : ByteArray), .slice none 0 0, .slice none 0 0, .slice none 0 0, .bool false, .int .i64 0, .string (⟨#[]⟩ : ByteArray), .int .i64 0, .int .i64 0, .string (⟨#[]⟩ : ByteArray), .slice none 0 0, .string (⟨#[]⟩ : ByteArray), .bool false, .int .i64 0]) (t := 44) ?hr ?_; (case hd => rfl); (case hg => rfl); (case hr => first | (go_simp; done) | (go_simp; rfl)); intro gb236 hg w30 hbox hb; have BK236 := Aside0.mk (hbox); have GW236 := Aside0.mk (gsz hg bl : w.heap.size ≤ gb236); have GE236 := Aside0.mk (gsz hg bl : w.heap.size ≤ gb236); have NB234_236 := Aside0.mk ((by rw [hg]; exact Nat.ne_of_lt (blk_lt (g := gb234) (o := .cells #[.int .i64 a0_0, .int .i64 a0_1, .slice (some ad235) l0_2.length c0_2] 25 (0, 0)) bk) : gb234 ≠ gb236)); have NB236_234 := Aside0.mk ((by rw [hg]; exact Nat.ne_of_gt (blk_lt (g := gb234) (o := .cells #[.int .i64 a0_0, .int .i64 a0_1, .slice (some ad235) l0_2.length c0_2] 25 (0, 0)) bk) : gb236 ≠ gb234)); replace BK234 := Aside0.mk (blk_below (g := gb234) (o := .cells #[.int .i64 a0_0, .int .i64 a0_1, .slice (some ad235) l0_2.length c0_2] 25 (0, 0)) bk hb); replace HB := Aside0.mk (below_step bl hb); clear hb hbox hg; have hnb31 := NB236_234.out; have hnc31 := NB234_236.out; obtain ⟨hcz32_0, hcz32_1, hcz32_2, hcz32_3, hcz32_4, hcz32_5, hcz32_6, hcz32_7, hcz32_8, hcz32_9, hcz32_10, hcz32_11, hcz32_12, hcz32_13, hcz32_14⟩ := cells15 BK236.out; obtain ⟨hfz32_0, hfz32_1, hfz32_2, hfz32_3, hfz32_4, hfz32_5, hfz32_6, hfz32_7, hfz32_8, hfz32_9, hfz32_10, hfz32_11, hfz32_12, hfz32_13, hfz32_14⟩ := froz15 BK236.out) | ((with_reducible refine gate_callee (f := 30) rfl ?_); refine goesL_ (some 48) rfl rfl Tryz.func30 (by kernel_rfl) rfl #[.agg #[.int .i64 ((rd_T44 l0_2 x43_2).f0), .string ((rd_T44 l0_2 x43_2).f1), .slice A235_2 ((rd_T44 l0_2 x43_2).f2).length c235_2, .slice A235_3 ((rd_T44 l0_2 x43_2).f3).length c235_3, .slice A235_4 ((rd_T44 l0_2 x43_2).f4).length c235_4, .bool ((rd_T44 l0_2 x43_2).f5), .int .i64 ((rd_T44 l0_2 x43_2).f6.f0), .string ((rd_T44 l0_2 x43_2).f6.f1), .int .i64 ((rd_T44 l0_2 x43_2).f6.f2.f0), .int .i64 ((rd_T44 l0_2 x43_2).f6.f2.f1), .string ((rd_T44 l0_2 x43_2).f6.f2.f2), .slice A235_11 ((rd_T44 l0_2 x43_2).f6.f3).length c235_11, .string ((rd_T44 l0_2 x43_2).f7), .bool ((rd_T44 l0_2 x43_2).f8), .int .i64 ((rd_T44 l0_2 x43_2).f9)]] rfl mp ?_; (with_reducible refine (tree_mayStmt.calls k2 ((rd_T44 l0_2 x43_2).f0) ((rd_T44 l0_2 x43_2).f1) _ _ ((rd_T44 l0_2 x43_2).f2) _ _ ((rd_T44 l0_2 x43_2).f3) _ _ ((rd_T44 l0_2 x43_2).f4) ((rd_T44 l0_2 x43_2).f5) ((rd_T44 l0_2 x43_2).f6.f0) ((rd_T44 l0_2 x43_2).f6.f1) ((rd_T44 l0_2 x43_2).f6.f2.f0) ((rd_T44 l0_2 x43_2).f6.f2.f1) ((rd_T44 l0_2 x43_2).f6.f2.f2) _ _ ((rd_T44 l0_2 x43_2).f6.f3) ((rd_T44 l0_2 x43_2).f7) ((rd_T44 l0_2 x43_2).f8) ((rd_T44 l0_2 x43_2).f9) false _ ?side1 ?side2 ?side3 ?side4 ?side5 ?side6 ?side7 ?side8 ?side9 A24.out).mono ?_); (case side1 => exact Kd.C_below HR235_2.out bl); (case side2 => exact HC235_2.out); (case side3 => exact Kd.C_below HR235_3.out bl); (case side4 => exact HC235_3.out); (case side5 => exact Kd.C_below HR235_4.out bl); (case side6 => exact HC235_4.out); (case side7 => exact Kd.C_below HR235_11.out bl); (case side8 => exact HC235_11.out); (case side9 => exact Sh.below hsh bl); rintro e w33 ⟨rfl, hb⟩; refine ⟨_, rfl, ?_⟩; replace BK234 := Aside0.mk (blk_below (g := gb234) (o := .cells #[.int .i64 a0_0, .int .i64 a0_1, .slice (some ad235) l0_2.length c0_2] 25 (0, 0)) bf15 hb); replace BK236 := Aside0.mk (blk_below (g := gb236) (o := .cells #[.int .i64 ((rd_T44 l0_2 x43_2).f0), .string ((rd_T44 l0_2 x43_2).f1), .slice A235_2 ((rd_T44 l0_2 x43_2).f2).length c235_2, .slice A235_3 ((rd_T44 l0_2 x43_2).f3).length c235_3, .slice A235_4 ((rd_T44 l0_2 x43_2).f4).length c235_4, .bool ((rd_T44 l0_2 x43_2).f5), .int .i64 ((rd_T44 l0_2 x43_2).f6.f0), .string ((rd_T44 l0_2 x43_2).f6.f1), .int .i64 ((rd_T44 l0_2 x43_2).f6.f2.f0), .int .i64 ((rd_T44 l0_2 x43_2).f6.f2.f1), .string ((rd_T44 l0_2 x43_2).f6.f2.f2), .slice A235_11 ((rd_T44 l0_2 x43_2).f6.f3).length c235_11, .string ((rd_T44 l0_2 x43_2).f7), .bool ((rd_T44 l0_2 x43_2).f8), .int .i64 ((rd_T44 l0_2 x43_2).f9)] 44 (0, 0)) bp15 hb); replace HB := Aside0.mk (below_step bl hb); (try clear hb)))
          go_ret
          exact ⟨er, bl⟩
        ·rw [if_neg c23] at H
         exact absurd H (by simp)
       ·rw [if_neg c22] at H
        exact absurd H (by simp)
      ·rw [if_neg c21] at H
       have c21b0 : decide (x43_2 < (l0_2.length : Int)) = false := decide_eq_false c21
       clear c21
       obtain rfl := Option.some.inj H
       go_wp2
       go_ret
       exact ⟨er, bl⟩
end Go.Proofs.YtlpnlfahlcingaaGreatDoor.PL
end
section
namespace Go.Proofs.YtlpnlfahlcingaaGreatDoor.PL
open Go.RowKit Go.Proofs.YtlpnlfahlcingaaGreatDoorW.PrintWords Go.Proofs.YtlpnlfahlcingaaGreatDoorW.PrintLast Go.Proofs.YtlpnlfahlcingaaGreatDoorW.PrintMore
attribute [local go_sem] max2_int min2_int max_two min_two max_three min_three max_four min_four
attribute [local go_sem ↓] isSome_setCell
set_option linter.unusedVariables false
set_option linter.unusedSimpArgs false
def strconv_FormatInt.f (a0 a1 : Int) : Option ByteArray := if a1 = 10 then (if -9223372036854775808 ≤ a0 ∧ a0 ≤ 9223372036854775807 then some ⟨(Lib.itoa a0).toArray⟩ else none) else none
set_option maxHeartbeats 8000000 in
set_option maxRecDepth 100000 in
theorem strconv_FormatInt.calls (a0 a1 : Int) (r : ByteArray) (w : World) (hsh : Sh w) (h : strconv_FormatInt.f a0 a1 = some r) :
    Calls Tryz.prog 27 #[.int .i64 a0, .int .i64 a1] w fun e w' => e = .returned (.string r) ∧ Below w.heap.size w w' := by
  unfold strconv_FormatInt.f at h
  by_cases c : a1 = 10
  · rw [if_pos c] at h
    subst c
    by_cases c2 : -9223372036854775808 ≤ a0 ∧ a0 ≤ 9223372036854775807
    · rw [if_pos c2] at h
      obtain rfl := Option.some.inj h
      have HS := Aside0.mk hsh.2
      have HC := Aside0.mk c2
      clear hsh c2
      go_enter Tryz.func27, Tryz.ntmps27
      go_wp2_with (first | ((with_reducible refine gate_callee (f := 53) rfl ?_); refine goesL_ (some 7) rfl rfl Tryz.func53 (by kernel_rfl) rfl #[.int .i64 a0, .int .i64 10] rfl (by (try simp only [List.map_toArray, List.map_cons, List.map_nil]); first | done | rfl) ?_; (refine (Tryz.internal_strconv_FormatInt_10 a0 HC.out.1 HC.out.2 _ HS.out).mono ?_); rintro e w3 ⟨rfl, k, os, rfl⟩; refine ⟨_, rfl, ?_⟩))
      go_ret
      exact ⟨rfl, Lib.below_grow _ _ (Nat.le_refl _) _ _⟩
    · rw [if_neg c2] at h
      cases h
  · rw [if_neg c] at h
    cases h
def joinL (l0 : List ByteArray) (a1 : ByteArray) : List UInt8 := Lib.join (l0.map (·.data.toList)) a1.data.toList
def strings_Join.f (l0 : List ByteArray) (a1 : ByteArray) : Option ByteArray := if l0.length ≤ 140737488355328 ∧ (joinL l0 a1).length ≤ 140737488355328 then some ⟨(joinL l0 a1).toArray⟩ else none
theorem strings_Join.calls {d_ : Nat} {base : Nat} {ok : Nat → Prop} (A0 : Option Addr) (c0 : Nat) (l0 : List ByteArray) (a1 : ByteArray) (r : ByteArray) (w : World) (hr0 : Kd.R Kd.string d_ w base ok (.slice A0 l0.length c0) l0) (hc0 : l0.length ≤ c0) (h : strings_Join.f l0 a1 = some r) :
    Calls Tryz.prog 26 #[.slice A0 l0.length c0, .string a1] w fun e w' => e = .returned (.string r) ∧ Below w.heap.size w w' := by
  unfold strings_Join.f at h
  by_cases c : l0.length ≤ 140737488355328 ∧ (joinL l0 a1).length ≤ 140737488355328
  · rw [if_pos c] at h
    obtain rfl := Option.some.inj h
    have ho := Kd.own_of_R (enc := Value.string) (h1 := fun _ => rfl) hr0
    rcases ho.2 with ⟨he, hz⟩ | ⟨g, cap, cur, he, hg, hb, hn, hm, hs, hx⟩
    · injection he with e1 e2 e3
      subst e1
      have hl : l0 = [] := List.eq_nil_of_length_eq_zero hz
      subst hl
      refine (Tryz.strings_Join_none none c0 a1 w).mono ?_
      rintro e w' ⟨rfl, rfl⟩
      exact ⟨rfl, Below.refl _ _⟩
    · injection he with e1 e2 e3
      subst e1 e3
      refine Tryz.strings_Join g 0 c0 l0 a1 w (fun j x hj => ?_) (blk_lt hb) c.1 hc0 c.2
      have hj' := (List.getElem?_eq_some_iff.1 hj).1
      have hk := blk_cell hb (0 + j)
      rw [hk]
      have h2 : (cur.toList.take (l0.length * 1))[j]? = some (.string x) := by
        rw [hx]
        simp [encs, hj]
      rw [List.getElem?_take_of_lt (by omega)] at h2
      simpa using h2
  · rw [if_neg c] at h
    cases h
def strings_ReplaceAll.f (a0 a1 a2 : ByteArray) : Option ByteArray := if a0.size < 4294967281 ∧ 1 ≤ a1.size ∧ a0.size + Lib.countB a0 a1 * a2.size ≤ 140737488355328 then some ⟨(Lib.replaceAll a0.data.toList a1.data.toList a2.data.toList).toArray⟩ else none
theorem strings_ReplaceAll.calls (a0 a1 a2 : ByteArray) (r : ByteArray) (w : World) (hsh : Sh w) (h : strings_ReplaceAll.f a0 a1 a2 = some r) :
    Calls Tryz.prog 115 #[.string a0, .string a1, .string a2] w fun e w' => e = .returned (.string r) ∧ Below w.heap.size w w' := by
  obtain ⟨⟨m, hm⟩, _⟩ := hsh
  unfold strings_ReplaceAll.f at h
  by_cases c : a0.size < 4294967281 ∧ 1 ≤ a1.size ∧ a0.size + Lib.countB a0 a1 * a2.size ≤ 140737488355328
  · rw [if_pos c] at h
    obtain rfl := Option.some.inj h
    exact Tryz.strings_ReplaceAll a0 a1 a2 m w c.1 hm c.2.1 c.2.2
  · rw [if_neg c] at h
    cases h
def value_Show.f (a0_0 : Int) (a0_1 : Int) (a0_2 : ByteArray) : Option (ByteArray) := (value_May.f a0_0 a0_1 a0_2).bind fun t239 => (if t239 = true then (if a0_0 = 1 then (if a0_1 = 1 then (some (⟨#[84, 82, 85, 69]⟩ : ByteArray)) else (some (⟨#[70, 65, 76, 83, 69]⟩ : ByteArray))) else (if a0_0 = 2 then ((strconv_FormatInt.f a0_1 10).bind fun t240 => (some t240)) else (if a0_0 = 3 then ((strings_ReplaceAll.f a0_2 (⟨#[39]⟩ : ByteArray) (⟨#[39, 39]⟩ : ByteArray)).bind fun t241 => (if 1 + t241.size ≤ 9223372036854775807 then (if ((⟨#[39]⟩ : ByteArray) ++ t241).size + 1 ≤ 9223372036854775807 then (some (((⟨#[39]⟩ : ByteArray) ++ t241) ++ (⟨#[39]⟩ : ByteArray))) else (none)) else (none))) else (some (⟨#[78, 85, 76, 76]⟩ : ByteArray))))) else (some (⟨#[]⟩ : ByteArray)))
set_option maxHeartbeats 8000000 in
set_option maxRecDepth 100000 in
theorem value_Show.calls (a0_0 : Int) (a0_1 : Int) (a0_2 : ByteArray) (r : ByteArray) (w : World) (hsh : Sh w) (h : value_Show.f a0_0 a0_1 a0_2 = some r) :
  Calls Tryz.prog 91 #[.agg #[.int .i64 a0_0, .int .i64 a0_1, .string a0_2]] w fun e w' => e = .returned (.string r) ∧ Below w.heap.size w w' := by
 have hu31 := Tryz.underlying31
 have HB := Aside0.mk (Below.refl w.heap.size w)
 have H : ((value_May.f a0_0 a0_1 a0_2).bind fun t239 => (if t239 = true then (if a0_0 = 1 then (if a0_1 = 1 then (some (⟨#[84, 82, 85, 69]⟩ : ByteArray)) else (some (⟨#[70, 65, 76, 83, 69]⟩ : ByteArray))) else (if a0_0 = 2 then ((strconv_FormatInt.f a0_1 10).bind fun t240 => (some t240)) else (if a0_0 = 3 then ((strings_ReplaceAll.f a0_2 (⟨#[39]⟩ : ByteArray) (⟨#[39, 39]⟩ : ByteArray)).bind fun t241 => (if 1 + t241.size ≤ 9223372036854775807 then (if ((⟨#[39]⟩ : ByteArray) ++ t241).size + 1 ≤ 9223372036854775807 then (some (((⟨#[39]⟩ : ByteArray) ++ t241) ++ (⟨#[39]⟩ : ByteArray))) else (none)) else (none))) else (some (⟨#[78, 85, 76, 76]⟩ : ByteArray))))) else (some (⟨#[]⟩ : ByteArray)))) = some r := h
 clear h
 obtain ⟨t239, A20, H⟩ := bind_out H
 have A2 := Aside0.mk A20
 clear A20
 by_cases c3 : t239 = true
 ·subst c3
  rw [if_pos rfl] at H
  by_cases c4 : a0_0 = 1
  ·rw [if_pos c4] at H
   have c4b0 : (a0_0 == 1) = true := beq_iff_eq.mpr c4
   have c4b1 : (a0_0 != 1) = false := bne_eq_false_iff_eq.mpr c4
   clear c4
   by_cases c5 : a0_1 = 1
   ·rw [if_pos c5] at H
    have c5b0 : (a0_1 == 1) = true := beq_iff_eq.mpr c5
    have c5b1 : (a0_1 != 1) = false := bne_eq_false_iff_eq.mpr c5
    clear c5
    obtain rfl := Option.some.inj H
    go_enter Tryz.func91, Tryz.ntmps91
    go_wp2_with (first | ((with_reducible refine gate_dst (N := 1) rfl ?_); refine box_ev (N := 1) (cs := #[.int .i64 a0_0, .int .i64 a0_1, .string a0_2]) (t := 31) ?_; intro gb238 hg w6 hbox hb; have BK238 := Aside0.mk (hbox); have GW238 := Aside0.mk (gsz hg bl : w.heap.size ≤ gb238); have GE238 := Aside0.mk (gsz hg bl : w.heap.size ≤ gb238); replace HB := Aside0.mk (below_step bl hb); clear hb hbox hg; obtain ⟨hcz7_0, hcz7_1, hcz7_2⟩ := cells3 BK238.out; obtain ⟨hfz7_0, hfz7_1, hfz7_2⟩ := froz3 BK238.out) | ((with_reducible refine gate_callee (f := 100) rfl ?_); refine goesL_ (some 4) rfl rfl Tryz.func100 (by kernel_rfl) rfl #[.agg #[.int .i64 a0_0, .int .i64 a0_1, .string a0_2]] rfl mp ?_; (with_reducible refine (value_May.calls a0_0 a0_1 a0_2 true _ A2.out).mono ?_); rintro e w8 ⟨rfl, hb⟩; refine ⟨_, rfl, ?_⟩; replace BK238 := Aside0.mk (blk_below (g := gb238) (o := .cells #[.int .i64 a0_0, .int .i64 a0_1, .string a0_2] 31 (0, 0)) bk hb); replace HB := Aside0.mk (below_step bl hb); (try clear hb); (try clear hk); obtain ⟨hcz9_0, hcz9_1, hcz9_2⟩ := cells3 BK238.out; obtain ⟨hfz9_0, hfz9_1, hfz9_2⟩ := froz3 BK238.out))
    go_ret
    exact ⟨er, bl⟩
   ·rw [if_neg c5] at H
    have c5b0 : (a0_1 == 1) = false := beq_eq_false_iff_ne.mpr c5
    have c5b1 : (a0_1 != 1) = true := bne_iff_ne.mpr c5
    obtain rfl := Option.some.inj H
    go_enter Tryz.func91, Tryz.ntmps91
    go_wp2_with (first | ((with_reducible refine gate_dst (N := 1) rfl ?_); refine box_ev (N := 1) (cs := #[.int .i64 a0_0, .int .i64 a0_1, .string a0_2]) (t := 31) ?_; intro gb238 hg w10 hbox hb; have BK238 := Aside0.mk (hbox); have GW238 := Aside0.mk (gsz hg bl : w.heap.size ≤ gb238); have GE238 := Aside0.mk (gsz hg bl : w.heap.size ≤ gb238); replace HB := Aside0.mk (below_step bl hb); clear hb hbox hg; obtain ⟨hcz11_0, hcz11_1, hcz11_2⟩ := cells3 BK238.out; obtain ⟨hfz11_0, hfz11_1, hfz11_2⟩ := froz3 BK238.out) | ((with_reducible refine gate_callee (f := 100) rfl ?_); refine goesL_ (some 4) rfl rfl Tryz.func100 (by kernel_rfl) rfl #[.agg #[.int .i64 a0_0, .int .i64 a0_1, .string a0_2]] rfl mp ?_; (with_reducible refine (value_May.calls a0_0 a0_1 a0_2 true _ A2.out).mono ?_); rintro e w12 ⟨rfl, hb⟩; refine ⟨_, rfl, ?_⟩; replace BK238 := Aside0.mk (blk_below (g := gb238) (o := .cells #[.int .i64 a0_0, .int .i64 a0_1, .string a0_2] 31 (0, 0)) bk hb); replace HB := Aside0.mk (below_step bl hb); (try clear hb); (try clear hk); obtain ⟨hcz13_0, hcz13_1, hcz13_2⟩ := cells3 BK238.out; obtain ⟨hfz13_0, hfz13_1, hfz13_2⟩ := froz3 BK238.out))
    go_ret
    exact ⟨er, bl⟩
  ·rw [if_neg c4] at H
   have c4b0 : (a0_0 == 1) = false := beq_eq_false_iff_ne.mpr c4
   have c4b1 : (a0_0 != 1) = true := bne_iff_ne.mpr c4
   by_cases c14 : a0_0 = 2
   ·rw [if_pos c14] at H
    have c14b0 : (a0_0 == 2) = true := beq_iff_eq.mpr c14
    have c14b1 : (a0_0 != 2) = false := bne_eq_false_iff_eq.mpr c14
    clear c14
    obtain ⟨t240, A150, H⟩ := bind_out H
    have A15 := Aside0.mk A150
    clear A150
    obtain rfl := Option.some.inj H
    go_enter Tryz.func91, Tryz.ntmps91
    go_wp2_with (first | ((with_reducible refine gate_dst (N := 1) rfl ?_); refine box_ev (N := 1) (cs := #[.int .i64 a0_0, .int .i64 a0_1, .string a0_2]) (t := 31) ?_; intro gb238 hg w16 hbox hb; have BK238 := Aside0.mk (hbox); have GW238 := Aside0.mk (gsz hg bl : w.heap.size ≤ gb238); have GE238 := Aside0.mk (gsz hg bl : w.heap.size ≤ gb238); replace HB := Aside0.mk (below_step bl hb); clear hb hbox hg; obtain ⟨hcz17_0, hcz17_1, hcz17_2⟩ := cells3 BK238.out; obtain ⟨hfz17_0, hfz17_1, hfz17_2⟩ := froz3 BK238.out) | ((with_reducible refine gate_callee (f := 100) rfl ?_); refine goesL_ (some 4) rfl rfl Tryz.func100 (by kernel_rfl) rfl #[.agg #[.int .i64 a0_0, .int .i64 a0_1, .string a0_2]] rfl mp ?_; (with_reducible refine (value_May.calls a0_0 a0_1 a0_2 true _ A2.out).mono ?_); rintro e w18 ⟨rfl, hb⟩; refine ⟨_, rfl, ?_⟩; replace BK238 := Aside0.mk (blk_below (g := gb238) (o := .cells #[.int .i64 a0_0, .int .i64 a0_1, .string a0_2] 31 (0, 0)) bk hb); replace HB := Aside0.mk (below_step bl hb); (try clear hb); (try clear hk); obtain ⟨hcz19_0, hcz19_1, hcz19_2⟩ := cells3 BK238.out; obtain ⟨hfz19_0, hfz19_1, hfz19_2⟩ := froz3 BK238.out) | ((with_reducible refine gate_callee (f := 27) rfl ?_); refine goesL_ (some 17) rfl rfl Tryz.func27 (by kernel_rfl) rfl #[.int .i64 a0_1, .int .i64 10] rfl mp ?_; (with_reducible refine (strconv_FormatInt.calls a0_1 10 t240 _ ?side1 A15.out).mono ?_); (case side1 => exact Sh.below hsh bl); rintro e w20 ⟨rfl, hb⟩; refine ⟨_, rfl, ?_⟩; replace BK238 := Aside0.mk (blk_below (g := gb238) (o := .cells #[.int .i64 a0_0, .int .i64 a0_1, .string a0_2] 31 (0, 0)) bk hb); replace HB := Aside0.mk (below_step bl hb); (try clear hb); (try clear hk)))
    go_ret
    exact ⟨er, bl⟩
   ·rw [if_neg c14] at H
    have c14b0 : (a0_0 == 2) = false := beq_eq_false_iff_ne.mpr c14
    have c14b1 : (a0_0 != 2) = true := bne_iff_ne.mpr c14
    by_cases c21 : a0_0 = 3
    ·rw [if_pos c21] at H
     have c21b0 : (a0_0 == 3) = true := beq_iff_eq.mpr c21
     have c21b1 : (a0_0 != 3) = false := bne_eq_false_iff_eq.mpr c21
     clear c21
     obtain ⟨t241, A220, H⟩ := bind_out H
     have A22 := Aside0.mk A220
     clear A220
     by_cases c23 : 1 + t241.size ≤ 9223372036854775807
     ·rw [if_pos c23] at H
      have c23b0 := eq_true c23
      have c23b1 : decide (1 + t241.size ≤ 9223372036854775807) = true := decide_eq_true c23
      try have c23b2 : (9223372036854775807 < 1 + t241.size) = False := eq_false (Nat.not_lt.2 c23)
      by_cases c24 : ((⟨#[39]⟩ : ByteArray) ++ t241).size + 1 ≤ 9223372036854775807
      ·rw [if_pos c24] at H
       have c24z : (1 + t241.size) + 1 ≤ 9223372036854775807 := by have h_ := c24; simp only [ByteArray.size_append] at h_; exact h_
       have c24y := eq_true c24z
       have c24x : decide ((1 + t241.size) + 1 ≤ 9223372036854775807) = true := decide_eq_true c24z
       have c24w : (9223372036854775807 < (1 + t241.size) + 1) = False := eq_false (by omega)
       have c24b0 := eq_true c24
       have c24b1 : decide (((⟨#[39]⟩ : ByteArray) ++ t241).size + 1 ≤ 9223372036854775807) = true := decide_eq_true c24
       try have c24b2 : (9223372036854775807 < ((⟨#[39]⟩ : ByteArray) ++ t241).size + 1) = False := eq_false (Nat.not_lt.2 c24)
       obtain rfl := Option.some.inj H
       go_enter Tryz.func91, Tryz.ntmps91
       go_wp2_with (first | ((with_reducible refine gate_dst (N := 1) rfl ?_); refine box_ev (N := 1) (cs := #[.int .i64 a0_0, .int .i64 a0_1, .string a0_2]) (t := 31) ?_; intro gb238 hg w25 hbox hb; have BK238 := Aside0.mk (hbox); have GW238 := Aside0.mk (gsz hg bl : w.heap.size ≤ gb238); have GE238 := Aside0.mk (gsz hg bl : w.heap.size ≤ gb238); replace HB := Aside0.mk (below_step bl hb); clear hb hbox hg; obtain ⟨hcz26_0, hcz26_1, hcz26_2⟩ := cells3 BK238.out; obtain ⟨hfz26_0, hfz26_1, hfz26_2⟩ := froz3 BK238.out) | ((with_reducible refine gate_callee (f := 100) rfl ?_); refine goesL_ (some 4) rfl rfl Tryz.func100 (by kernel_rfl) rfl #[.agg #[.int .i64 a0_0, .int .i64 a0_1, .string a0_2]] rfl mp ?_; (with_reducible refine (value_May.calls a0_0 a0_1 a0_2 true _ A2.out).mono ?_); rintro e w27 ⟨rfl, hb⟩; refine ⟨_, rfl, ?_⟩; replace BK238 := Aside0.mk (blk_below (g := gb238) (o := .cells #[.int .i64 a0_0, .int .i64 a0_1, .string a0_2] 31 (0, 0)) bk hb); replace HB := Aside0.mk (below_step bl hb); (try clear hb); (try clear hk); obtain ⟨hcz28_0, hcz28_1, hcz28_2⟩ := cells3 BK238.out; obtain ⟨hfz28_0, hfz28_1, hfz28_2⟩ := froz3 BK238.out) | ((with_reducible refine gate_callee (f := 115) rfl ?_); refine goesL_ (some 22) rfl rfl Tryz.func115 (by kernel_rfl) rfl #[.string a0_2, .string (⟨#[39]⟩ : ByteArray), .string (⟨#[39, 39]⟩ : ByteArray)] rfl mp ?_; (with_reducible refine (strings_ReplaceAll.calls a0_2 (⟨#[39]⟩ : ByteArray) (⟨#[39, 39]⟩ : ByteArray) t241 _ ?side1 A22.out).mono ?_); (case side1 => exact Sh.below hsh bl); rintro e w29 ⟨rfl, hb⟩; refine ⟨_, rfl, ?_⟩; replace BK238 := Aside0.mk (blk_below (g := gb238) (o := .cells #[.int .i64 a0_0, .int .i64 a0_1, .string a0_2] 31 (0, 0)) bk hb); replace HB := Aside0.mk (below_step bl hb); (try clear hb); (try clear hk)))
       go_ret
       exact ⟨er, bl⟩
      ·rw [if_neg c24] at H
       exact absurd H (by simp)
     ·rw [if_neg c23] at H
      exact absurd H (by simp)
    ·rw [if_neg c21] at H
     have c21b0 : (a0_0 == 3) = false := beq_eq_false_iff_ne.mpr c21
     have c21b1 : (a0_0 != 3) = true := bne_iff_ne.mpr c21
     obtain rfl := Option.some.inj H
     go_enter Tryz.func91, Tryz.ntmps91
     go_wp2_with (first | ((with_reducible refine gate_dst (N := 1) rfl ?_); refine box_ev (N := 1) (cs := #[.int .i64 a0_0, .int .i64 a0_1, .string a0_2]) (t := 31) ?_; intro gb238 hg w30 hbox hb; have BK238 := Aside0.mk (hbox); have GW238 := Aside0.mk (gsz hg bl : w.heap.size ≤ gb238); have GE238 := Aside0.mk (gsz hg bl : w.heap.size ≤ gb238); replace HB := Aside0.mk (below_step bl hb); clear hb hbox hg; obtain ⟨hcz31_0, hcz31_1, hcz31_2⟩ := cells3 BK238.out; obtain ⟨hfz31_0, hfz31_1, hfz31_2⟩ := froz3 BK238.out) | ((with_reducible refine gate_callee (f := 100) rfl ?_); refine goesL_ (some 4) rfl rfl Tryz.func100 (by kernel_rfl) rfl #[.agg #[.int .i64 a0_0, .int .i64 a0_1, .string a0_2]] rfl mp ?_; (with_reducible refine (value_May.calls a0_0 a0_1 a0_2 true _ A2.out).mono ?_); rintro e w32 ⟨rfl, hb⟩; refine ⟨_, rfl, ?_⟩; replace BK238 := Aside0.mk (blk_below (g := gb238) (o := .cells #[.int .i64 a0_0, .int .i64 a0_1, .string a0_2] 31 (0, 0)) bk hb); replace HB := Aside0.mk (below_step bl hb); (try clear hb); (try clear hk); obtain ⟨hcz33_0, hcz33_1, hcz33_2⟩ := cells3 BK238.out; obtain ⟨hfz33_0, hfz33_1, hfz33_2⟩ := froz3 BK238.out))
     go_ret
     exact ⟨er, bl⟩
 ·replace c3 := Bool.eq_false_iff.mpr c3
  subst c3
  rw [if_neg (show ¬ (false = true) by decide)] at H
  obtain rfl := Option.some.inj H
  go_enter Tryz.func91, Tryz.ntmps91
  go_wp2_with (first | ((with_reducible refine gate_dst (N := 1) rfl ?_); refine box_ev (N := 1) (cs := #[.int .i64 a0_0, .int .i64 a0_1, .string a0_2]) (t := 31) ?_; intro gb238 hg w34 hbox hb; have BK238 := Aside0.mk (hbox); have GW238 := Aside0.mk (gsz hg bl : w.heap.size ≤ gb238); have GE238 := Aside0.mk (gsz hg bl : w.heap.size ≤ gb238); replace HB := Aside0.mk (below_step bl hb); clear hb hbox hg; obtain ⟨hcz35_0, hcz35_1, hcz35_2⟩ := cells3 BK238.out; obtain ⟨hfz35_0, hfz35_1, hfz35_2⟩ := froz3 BK238.out) | ((with_reducible refine gate_callee (f := 100) rfl ?_); refine goesL_ (some 4) rfl rfl Tryz.func100 (by kernel_rfl) rfl #[.agg #[.int .i64 a0_0, .int .i64 a0_1, .string a0_2]] rfl mp ?_; (with_reducible refine (value_May.calls a0_0 a0_1 a0_2 false _ A2.out).mono ?_); rintro e w36 ⟨rfl, hb⟩; refine ⟨_, rfl, ?_⟩; replace BK238 := Aside0.mk (blk_below (g := gb238) (o := .cells #[.int .i64 a0_0, .int .i64 a0_1, .string a0_2] 31 (0, 0)) bk hb); replace HB := Aside0.mk (below_step bl hb); (try clear hb); (try clear hk)))
  go_ret
  exact ⟨er, bl⟩
end Go.Proofs.YtlpnlfahlcingaaGreatDoor.PL
end
section
namespace Go.Proofs.YtlpnlfahlcingaaGreatDoor.PL
open Go.RowKit Go.Proofs.YtlpnlfahlcingaaGreatDoorW.PrintWords Go.Proofs.YtlpnlfahlcingaaGreatDoorW.PrintLast Go.Proofs.YtlpnlfahlcingaaGreatDoorW.PrintMore
attribute [local go_sem] max2_int min2_int max_two min_two max_three min_three max_four min_four
attribute [local go_sem ↓] isSome_setCell
set_option linter.unusedVariables false
set_option linter.unusedSimpArgs false
def tree_text.f : Nat → Int → ByteArray → Int → Int → ByteArray → List (S34) → Option (ByteArray)
 | 0, _, _, _, _, _, _ => none
 | k + 1, a0_0, a0_1, a0_2, a0_3, a0_4, l0_5 => if a0_0 = 1 then ((value_Show.f a0_2 a0_3 a0_4).bind fun t243 => (some t243)) else (if a0_0 = 2 then (some a0_1) else (if a0_1.toList = ([73, 83, 78, 85, 76, 76] : List UInt8) then (if 0 < (l0_5.length : Int) then ((tree_text.f k ((rd_T34 l0_5 0).f0) ((rd_T34 l0_5 0).f1) ((rd_T34 l0_5 0).f2.f0) ((rd_T34 l0_5 0).f2.f1) ((rd_T34 l0_5 0).f2.f2) ((rd_T34 l0_5 0).f3)).bind fun t245 => (if 1 + t245.size ≤ 9223372036854775807 then (if ((⟨#[40]⟩ : ByteArray) ++ t245).size + 9 ≤ 9223372036854775807 then (some (((⟨#[40]⟩ : ByteArray) ++ t245) ++ (⟨#[32, 73, 83, 32, 78, 85, 76, 76, 41]⟩ : ByteArray))) else (none)) else (none))) else (none)) else (if a0_1.toList = ([78, 79, 84, 78, 85, 76, 76] : List UInt8) then (if 0 < (l0_5.length : Int) then ((tree_text.f k ((rd_T34 l0_5 0).f0) ((rd_T34 l0_5 0).f1) ((rd_T34 l0_5 0).f2.f0) ((rd_T34 l0_5 0).f2.f1) ((rd_T34 l0_5 0).f2.f2) ((rd_T34 l0_5 0).f3)).bind fun t247 => (if 1 + t247.size ≤ 9223372036854775807 then (if ((⟨#[40]⟩ : ByteArray) ++ t247).size + 13 ≤ 9223372036854775807 then (some (((⟨#[40]⟩ : ByteArray) ++ t247) ++ (⟨#[32, 73, 83, 32, 78, 79, 84, 32, 78, 85, 76, 76, 41]⟩ : ByteArray))) else (none)) else (none))) else (none)) else (if a0_1.toList = ([78, 79, 84] : List UInt8) then (if 0 < (l0_5.length : Int) then ((tree_text.f k ((rd_T34 l0_5 0).f0) ((rd_T34 l0_5 0).f1) ((rd_T34 l0_5 0).f2.f0) ((rd_T34 l0_5 0).f2.f1) ((rd_T34 l0_5 0).f2.f2) ((rd_T34 l0_5 0).f3)).bind fun t249 => (if 5 + t249.size ≤ 9223372036854775807 then (if ((⟨#[40, 78, 79, 84, 32]⟩ : ByteArray) ++ t249).size + 1 ≤ 9223372036854775807 then (some (((⟨#[40, 78, 79, 84, 32]⟩ : ByteArray) ++ t249) ++ (⟨#[41]⟩ : ByteArray))) else (none)) else (none))) else (none)) else (if a0_1.toList = ([78, 69, 71] : List UInt8) then (if 0 < (l0_5.length : Int) then ((tree_text.f k ((rd_T34 l0_5 0).f0) ((rd_T34 l0_5 0).f1) ((rd_T34 l0_5 0).f2.f0) ((rd_T34 l0_5 0).f2.f1) ((rd_T34 l0_5 0).f2.f2) ((rd_T34 l0_5 0).f3)).bind fun t251 => (if 3 + t251.size ≤ 9223372036854775807 then (if ((⟨#[40, 45, 32]⟩ : ByteArray) ++ t251).size + 1 ≤ 9223372036854775807 then (some (((⟨#[40, 45, 32]⟩ : ByteArray) ++ t251) ++ (⟨#[41]⟩ : ByteArray))) else (none)) else (none))) else (none)) else (if 0 < (l0_5.length : Int) then ((tree_text.f k ((rd_T34 l0_5 0).f0) ((rd_T34 l0_5 0).f1) ((rd_T34 l0_5 0).f2.f0) ((rd_T34 l0_5 0).f2.f1) ((rd_T34 l0_5 0).f2.f2) ((rd_T34 l0_5 0).f3)).bind fun t253 => (if 1 + t253.size ≤ 9223372036854775807 then (if ((⟨#[40]⟩ : ByteArray) ++ t253).size + 1 ≤ 9223372036854775807 then (if (((⟨#[40]⟩ : ByteArray) ++ t253) ++ (⟨#[32]⟩ : ByteArray)).size + a0_1.size ≤ 9223372036854775807 then (if ((((⟨#[40]⟩ : ByteArray) ++ t253) ++ (⟨#[32]⟩ : ByteArray)) ++ a0_1).size + 1 ≤ 9223372036854775807 then (if 1 < (l0_5.length : Int) then ((tree_text.f k ((rd_T34 l0_5 1).f0) ((rd_T34 l0_5 1).f1) ((rd_T34 l0_5 1).f2.f0) ((rd_T34 l0_5 1).f2.f1) ((rd_T34 l0_5 1).f2.f2) ((rd_T34 l0_5 1).f3)).bind fun t255 => (if (((((⟨#[40]⟩ : ByteArray) ++ t253) ++ (⟨#[32]⟩ : ByteArray)) ++ a0_1) ++ (⟨#[32]⟩ : ByteArray)).size + t255.size ≤ 9223372036854775807 then (if ((((((⟨#[40]⟩ : ByteArray) ++ t253) ++ (⟨#[32]⟩ : ByteArray)) ++ a0_1) ++ (⟨#[32]⟩ : ByteArray)) ++ t255).size + 1 ≤ 9223372036854775807 then (some (((((((⟨#[40]⟩ : ByteArray) ++ t253) ++ (⟨#[32]⟩ : ByteArray)) ++ a0_1) ++ (⟨#[32]⟩ : ByteArray)) ++ t255) ++ (⟨#[41]⟩ : ByteArray))) else (none)) else (none))) else (none)) else (none)) else (none)) else (none)) else (none))) else (none)))))))
theorem tree_text.mono_l : ∀ k, (∀ y0 y1 y2 y3 y4 y5, LeO (tree_text.f k y0 y1 y2 y3 y4 y5) (tree_text.f (k + 1) y0 y1 y2 y3 y4 y5))
 | 0 => fun _ _ _ _ _ _ r h => by simp [tree_text.f] at h
 | k + 1 => by
  have ih0 := tree_text.mono_l k
  ·intro y0 y1 y2 y3 y4 y5
   unfold tree_text.f
   repeat' first
   | (with_reducible exact ih0 _ _ _ _ _ _)
   | (with_reducible exact LeO.refl _)
   | (with_reducible exact LeO.none _)
   | (with_reducible refine LeO.ite ?_ ?_)
   | (with_reducible refine LeO.bind ?_ (fun _ => ?_))
   | exact ih0 _ _ _ _ _ _
   | exact LeO.none _
   | refine LeO.ite ?_ ?_
   | refine LeO.bind ?_ (fun _ => ?_)
theorem tree_text.mono : ∀ a0 a1 a2 a3 a4 a5 k, LeO (tree_text.f k a0 a1 a2 a3 a4 a5) (tree_text.f (k + 1) a0 a1 a2 a3 a4 a5) := by
 intro a0 a1 a2 a3 a4 a5 k
 have ih0 := tree_text.mono_l k
 exact ih0 a0 a1 a2 a3 a4 a5
def tree_text.T13 : Bool × List (List Nat × List Nat) := (true, [([], []), ([0], [0]), ([1], [1]), ([2], [2]), ([3], [3]), ([4], [4]), ([5], [5]), ([], []), ([7], [7]), ([6, 8], [6, 8]), ([9], [9]), ([], []), ([11], [11]), ([12], [12]), ([13], [13]), ([14, 4], [14]), ([10, 15], [10, 15]), ([16], [16]), ([17, 15, 0, 1, 2, 3, 4, 5, 6, 7, 8, 9, 10, 11, 12, 13, 14, 15, 16, 17], [17])])
def tree_text.B13 : List Nat := [0, 1, 3, 7, 15, 31, 63, 0, 128, 511, 1023, 0, 2048, 6144, 14336, 30751, 65535, 131071, 262143]
theorem tree_text.tab13 : rtab .any (opsOf Tryz.f47 13) = tree_text.T13 := by kernel_rfl
theorem tree_text.bits13 : waitsOk tree_text.T13.2 tree_text.B13 = true := by kernel_rfl
set_option maxHeartbeats 8000000 in
set_option maxRecDepth 100000 in
theorem tree_text.calls (k : Nat) : ∀ (a0_0 : Int) (a0_1 : ByteArray) (a0_2 : Int) (a0_3 : Int) (a0_4 : ByteArray) (A0_5 : Option Addr) (c0_5 : Nat) (l0_5 : List (S34)) (r : ByteArray) (w : World) (hr0_5 : Kd.C k34 w A0_5 l0_5.length l0_5) (hc0_5 : l0_5.length ≤ c0_5) (hsh : Sh w) (h : tree_text.f k a0_0 a0_1 a0_2 a0_3 a0_4 l0_5 = some r),
  Calls Tryz.prog 47 #[.agg #[.int .i64 a0_0, .string a0_1, .int .i64 a0_2, .int .i64 a0_3, .string a0_4, .slice A0_5 l0_5.length c0_5]] w fun e w' => e = .returned (.string r) ∧ Below w.heap.size w w' := by
 induction k using Nat.strongRecOn with
 | _ k ih =>
 intro a0_0 a0_1 a0_2 a0_3 a0_4 A0_5 c0_5 l0_5 r w hr0_5 hc0_5 hsh h
 cases k with
 | zero => exact absurd h (by simp [tree_text.f])
 | succ k =>
 simp only [tree_text.f] at h
 have hu34 := Tryz.underlying34
 have hu31 := Tryz.underlying31
 have HR0_5 := Aside0.mk hr0_5
 have HC0_5 := Aside0.mk hc0_5
 clear hr0_5 hc0_5
 have HB := Aside0.mk (Below.refl w.heap.size w)
 have H : (if a0_0 = 1 then ((value_Show.f a0_2 a0_3 a0_4).bind fun t243 => (some t243)) else (if a0_0 = 2 then (some a0_1) else (if a0_1.toList = ([73, 83, 78, 85, 76, 76] : List UInt8) then (if 0 < (l0_5.length : Int) then ((tree_text.f k ((rd_T34 l0_5 0).f0) ((rd_T34 l0_5 0).f1) ((rd_T34 l0_5 0).f2.f0) ((rd_T34 l0_5 0).f2.f1) ((rd_T34 l0_5 0).f2.f2) ((rd_T34 l0_5 0).f3)).bind fun t245 => (if 1 + t245.size ≤ 9223372036854775807 then (if ((⟨#[40]⟩ : ByteArray) ++ t245).size + 9 ≤ 9223372036854775807 then (some (((⟨#[40]⟩ : ByteArray) ++ t245) ++ (⟨#[32, 73, 83, 32, 78, 85, 76, 76, 41]⟩ : ByteArray))) else (none)) else (none))) else (none)) else (if a0_1.toList = ([78, 79, 84, 78, 85, 76, 76] : List UInt8) then (if 0 < (l0_5.length : Int) then ((tree_text.f k ((rd_T34 l0_5 0).f0) ((rd_T34 l0_5 0).f1) ((rd_T34 l0_5 0).f2.f0) ((rd_T34 l0_5 0).f2.f1) ((rd_T34 l0_5 0).f2.f2) ((rd_T34 l0_5 0).f3)).bind fun t247 => (if 1 + t247.size ≤ 9223372036854775807 then (if ((⟨#[40]⟩ : ByteArray) ++ t247).size + 13 ≤ 9223372036854775807 then (some (((⟨#[40]⟩ : ByteArray) ++ t247) ++ (⟨#[32, 73, 83, 32, 78, 79, 84, 32, 78, 85, 76, 76, 41]⟩ : ByteArray))) else (none)) else (none))) else (none)) else (if a0_1.toList = ([78, 79, 84] : List UInt8) then (if 0 < (l0_5.length : Int) then ((tree_text.f k ((rd_T34 l0_5 0).f0) ((rd_T34 l0_5 0).f1) ((rd_T34 l0_5 0).f2.f0) ((rd_T34 l0_5 0).f2.f1) ((rd_T34 l0_5 0).f2.f2) ((rd_T34 l0_5 0).f3)).bind fun t249 => (if 5 + t249.size ≤ 9223372036854775807 then (if ((⟨#[40, 78, 79, 84, 32]⟩ : ByteArray) ++ t249).size + 1 ≤ 9223372036854775807 then (some (((⟨#[40, 78, 79, 84, 32]⟩ : ByteArray) ++ t249) ++ (⟨#[41]⟩ : ByteArray))) else (none)) else (none))) else (none)) else (if a0_1.toList = ([78, 69, 71] : List UInt8) then (if 0 < (l0_5.length : Int) then ((tree_text.f k ((rd_T34 l0_5 0).f0) ((rd_T34 l0_5 0).f1) ((rd_T34 l0_5 0).f2.f0) ((rd_T34 l0_5 0).f2.f1) ((rd_T34 l0_5 0).f2.f2) ((rd_T34 l0_5 0).f3)).bind fun t251 => (if 3 + t251.size ≤ 9223372036854775807 then (if ((⟨#[40, 45, 32]⟩ : ByteArray) ++ t251).size + 1 ≤ 9223372036854775807 then (some (((⟨#[40, 45, 32]⟩ : ByteArray) ++ t251) ++ (⟨#[41]⟩ : ByteArray))) else (none)) else (none))) else (none)) else (if 0 < (l0_5.length : Int) then ((tree_text.f k ((rd_T34 l0_5 0).f0) ((rd_T34 l0_5 0).f1) ((rd_T34 l0_5 0).f2.f0) ((rd_T34 l0_5 0).f2.f1) ((rd_T34 l0_5 0).f2.f2) ((rd_T34 l0_5 0).f3)).bind fun t253 => (if 1 + t253.size ≤ 9223372036854775807 then (if ((⟨#[40]⟩ : ByteArray) ++ t253).size + 1 ≤ 9223372036854775807 then (if (((⟨#[40]⟩ : ByteArray) ++ t253) ++ (⟨#[32]⟩ : ByteArray)).size + a0_1.size ≤ 9223372036854775807 then (if ((((⟨#[40]⟩ : ByteArray) ++ t253) ++ (⟨#[32]⟩ : ByteArray)) ++ a0_1).size + 1 ≤ 9223372036854775807 then (if 1 < (l0_5.length : Int) then ((tree_text.f k ((rd_T34 l0_5 1).f0) ((rd_T34 l0_5 1).f1) ((rd_T34 l0_5 1).f2.f0) ((rd_T34 l0_5 1).f2.f1) ((rd_T34 l0_5 1).f2.f2) ((rd_T34 l0_5 1).f3)).bind fun t255 => (if (((((⟨#[40]⟩ : ByteArray) ++ t253) ++ (⟨#[32]⟩ : ByteArray)) ++ a0_1) ++ (⟨#[32]⟩ : ByteArray)).size + t255.size ≤ 9223372036854775807 then (if ((((((⟨#[40]⟩ : ByteArray) ++ t253) ++ (⟨#[32]⟩ : ByteArray)) ++ a0_1) ++ (⟨#[32]⟩ : ByteArray)) ++ t255).size + 1 ≤ 9223372036854775807 then (some (((((((⟨#[40]⟩ : ByteArray) ++ t253) ++ (⟨#[32]⟩ : ByteArray)) ++ a0_1) ++ (⟨#[32]⟩ : ByteArray)) ++ t255) ++ (⟨#[41]⟩ : ByteArray))) else (none)) else (none))) else (none)) else (none)) else (none)) else (none)) else (none))) else (none)))))))) = some r := h
 clear h
 by_cases c2 : a0_0 = 1
 ·rw [if_pos c2] at H
  have c2b0 : (a0_0 == 1) = true := beq_iff_eq.mpr c2
  have c2b1 : (a0_0 != 1) = false := bne_eq_false_iff_eq.mpr c2
  clear c2
  obtain ⟨t243, A30, H⟩ := bind_out H
  have A3 := Aside0.mk A30
  clear A30
  obtain rfl := Option.some.inj H
  go_enter Tryz.func47, Tryz.ntmps47
  go_wp2_with (first | ((with_reducible refine gate_dst (N := 1) rfl ?_); refine box_ev (N := 1) (cs := #[.int .i64 a0_0, .string a0_1, .int .i64 a0_2, .int .i64 a0_3, .string a0_4, .slice A0_5 l0_5.length c0_5]) (t := 34) ?_; intro gb242 hg w4 hbox hb; have BK242 := Aside0.mk (hbox); have GW242 := Aside0.mk (gsz hg bl : w.heap.size ≤ gb242); have GE242 := Aside0.mk (gsz hg bl : w.heap.size ≤ gb242); replace HB := Aside0.mk (below_step bl hb); clear hb hbox hg; obtain ⟨hcz5_0, hcz5_1, hcz5_2, hcz5_3, hcz5_4, hcz5_5⟩ := cells6 BK242.out; obtain ⟨hfz5_0, hfz5_1, hfz5_2, hfz5_3, hfz5_4, hfz5_5⟩ := froz6 BK242.out) | ((with_reducible refine gate_callee (f := 91) rfl ?_); refine goesL_ (some 9) rfl rfl Tryz.func91 (by kernel_rfl) rfl #[.agg #[.int .i64 a0_2, .int .i64 a0_3, .string a0_4]] rfl mp ?_; (with_reducible refine (value_Show.calls a0_2 a0_3 a0_4 t243 _ ?side1 A3.out).mono ?_); (case side1 => exact Sh.below hsh bl); rintro e w6 ⟨rfl, hb⟩; refine ⟨_, rfl, ?_⟩; replace BK242 := Aside0.mk (blk_below (g := gb242) (o := .cells #[.int .i64 a0_0, .string a0_1, .int .i64 a0_2, .int .i64 a0_3, .string a0_4, .slice A0_5 l0_5.length c0_5] 34 (0, 0)) bk hb); replace HB := Aside0.mk (below_step bl hb); (try clear hb)))
  go_ret
  exact ⟨er, bl⟩
 ·rw [if_neg c2] at H
  have c2b0 : (a0_0 == 1) = false := beq_eq_false_iff_ne.mpr c2
  have c2b1 : (a0_0 != 1) = true := bne_iff_ne.mpr c2
  by_cases c7 : a0_0 = 2
  ·rw [if_pos c7] at H
   have c7b0 : (a0_0 == 2) = true := beq_iff_eq.mpr c7
   have c7b1 : (a0_0 != 2) = false := bne_eq_false_iff_eq.mpr c7
   clear c7
   obtain rfl := Option.some.inj H
   go_enter Tryz.func47, Tryz.ntmps47
   go_wp2_with (first | ((with_reducible refine gate_dst (N := 1) rfl ?_); refine box_ev (N := 1) (cs := #[.int .i64 a0_0, .string a0_1, .int .i64 a0_2, .int .i64 a0_3, .string a0_4, .slice A0_5 l0_5.length c0_5]) (t := 34) ?_; intro gb242 hg w8 hbox hb; have BK242 := Aside0.mk (hbox); have GW242 := Aside0.mk (gsz hg bl : w.heap.size ≤ gb242); have GE242 := Aside0.mk (gsz hg bl : w.heap.size ≤ gb242); replace HB := Aside0.mk (below_step bl hb); clear hb hbox hg; obtain ⟨hcz9_0, hcz9_1, hcz9_2, hcz9_3, hcz9_4, hcz9_5⟩ := cells6 BK242.out; obtain ⟨hfz9_0, hfz9_1, hfz9_2, hfz9_3, hfz9_4, hfz9_5⟩ := froz6 BK242.out))
   go_ret
   exact ⟨er, bl⟩
  ·rw [if_neg c7] at H
   have c7b0 : (a0_0 == 2) = false := beq_eq_false_iff_ne.mpr c7
   have c7b1 : (a0_0 != 2) = true := bne_iff_ne.mpr c7
   by_cases c10 : a0_1.toList = ([73, 83, 78, 85, 76, 76] : List UInt8)
   ·rw [if_pos c10] at H
    have c10b0 : (a0_1.toList == ([73, 83, 78, 85, 76, 76] : List UInt8)) = true := beq_iff_eq.mpr c10
    have c10b1 : (a0_1.toList != ([73, 83, 78, 85, 76, 76] : List UInt8)) = false := bne_eq_false_iff_eq.mpr c10
    clear c10
    by_cases c11 : 0 < (l0_5.length : Int)
    ·rw [if_pos c11] at H
     have c11b0 : decide (0 < (l0_5.length : Int)) = true := decide_eq_true c11
     have c11b1 : decide (0 < l0_5.length) = true := decide_eq_true (by omega)
     clear c11
     obtain ⟨t245, A120, H⟩ := bind_out H
     have A12 := Aside0.mk A120
     clear A120
     by_cases c13 : 1 + t245.size ≤ 9223372036854775807
     ·rw [if_pos c13] at H
      have c13b0 := eq_true c13
      have c13b1 : decide (1 + t245.size ≤ 9223372036854775807) = true := decide_eq_true c13
      try have c13b2 : (9223372036854775807 < 1 + t245.size) = False := eq_false (Nat.not_lt.2 c13)
      by_cases c14 : ((⟨#[40]⟩ : ByteArray) ++ t245).size + 9 ≤ 9223372036854775807
      ·rw [if_pos c14] at H
       have c14z : (1 + t245.size) + 9 ≤ 9223372036854775807 := by have h_ := c14; simp only [ByteArray.size_append] at h_; exact h_
       have c14y := eq_true c14z
       have c14x : decide ((1 + t245.size) + 9 ≤ 9223372036854775807) = true := decide_eq_true c14z
       have c14w : (9223372036854775807 < (1 + t245.size) + 9) = False := eq_false (by omega)
       have c14b0 := eq_true c14
       have c14b1 : decide (((⟨#[40]⟩ : ByteArray) ++ t245).size + 9 ≤ 9223372036854775807) = true := decide_eq_true c14
       try have c14b2 : (9223372036854775807 < ((⟨#[40]⟩ : ByteArray) ++ t245).size + 9) = False := eq_false (Nat.not_lt.2 c14)
       obtain rfl := Option.some.inj H
       go_enter Tryz.func47, Tryz.ntmps47
       go_wp2_with (first | ((with_reducible refine gate_dst (N := 1) rfl ?_); refine box_ev (N := 1) (cs := #[.int .i64 a0_0, .string a0_1, .int .i64 a0_2, .int .i64 a0_3, .string a0_4, .slice A0_5 l0_5.length c0_5]) (t := 34) ?_; intro gb242 hg w15 hbox hb; have BK242 := Aside0.mk (hbox); have GW242 := Aside0.mk (gsz hg bl : w.heap.size ≤ gb242); have GE242 := Aside0.mk (gsz hg bl : w.heap.size ≤ gb242); replace HB := Aside0.mk (below_step bl hb); clear hb hbox hg; obtain ⟨hcz16_0, hcz16_1, hcz16_2, hcz16_3, hcz16_4, hcz16_5⟩ := cells6 BK242.out; obtain ⟨hfz16_0, hfz16_1, hfz16_2, hfz16_3, hfz16_4, hfz16_5⟩ := froz6 BK242.out; have p244 : 0 ≤ (0 : Int) := (by omega); have q244 : 0 < (l0_5.length : Int) := of_decide_eq_true (by assumption); obtain ⟨ad244, A244_5, c244_5, e244, hx244_0, hx244_1, hx244_2, hx244_3, hx244_4, hx244_5, hl244_5, hi244_5⟩ := at_T34 HR0_5.out 0 p244 q244; cases e244; have qi244 : (0 < l0_5.length) = True := eq_true (by omega); (try rw [show ((0 : Int)).toNat = 0 from rfl] at hx244_0); (try rw [show 0 * 6 = 0 from rfl] at hx244_0); (try rw [Addr.add_zero'] at hx244_0); (try rw [show ((0 : Int)).toNat = 0 from rfl] at hx244_1); (try rw [show 0 * 6 = 0 from rfl] at hx244_1); (try rw [Addr.add_zero'] at hx244_1); (try rw [show ((0 : Int)).toNat = 0 from rfl] at hx244_2); (try rw [show 0 * 6 = 0 from rfl] at hx244_2); (try rw [Addr.add_zero'] at hx244_2); (try rw [show ((0 : Int)).toNat = 0 from rfl] at hx244_3); (try rw [show 0 * 6 = 0 from rfl] at hx244_3); (try rw [Addr.add_zero'] at hx244_3); (try rw [show ((0 : Int)).toNat = 0 from rfl] at hx244_4); (try rw [show 0 * 6 = 0 from rfl] at hx244_4); (try rw [Addr.add_zero'] at hx244_4); (try rw [show ((0 : Int)).toNat = 0 from rfl] at hx244_5); (try rw [show 0 * 6 = 0 from rfl] at hx244_5); (try rw [Addr.add_zero'] at hx244_5); replace hx244_0 := lx HB hx244_0; replace hx244_1 := lx HB hx244_1; replace hx244_2 := lx HB hx244_2; replace hx244_3 := lx HB hx244_3; replace hx244_4 := lx HB hx244_4; replace hx244_5 := lx HB hx244_5; have HR244_5 := Aside0.mk hi244_5; have HC244_5 := Aside0.mk hl244_5; clear hi244_5 hl244_5; replace p244 := eq_true p244; replace q244 := eq_true q244) | ((with_reducible refine gate_callee (f := 47) rfl ?_); refine goesL_ (some 24) rfl rfl Tryz.func47 (by kernel_rfl) rfl #[.agg #[.int .i64 ((rd_T34 l0_5 0).f0), .string ((rd_T34 l0_5 0).f1), .int .i64 ((rd_T34 l0_5 0).f2.f0), .int .i64 ((rd_T34 l0_5 0).f2.f1), .string ((rd_T34 l0_5 0).f2.f2), .slice A244_5 ((rd_T34 l0_5 0).f3).length c244_5]] rfl mp ?_; (with_reducible refine (ih k (by omega) ((rd_T34 l0_5 0).f0) ((rd_T34 l0_5 0).f1) ((rd_T34 l0_5 0).f2.f0) ((rd_T34 l0_5 0).f2.f1) ((rd_T34 l0_5 0).f2.f2) _ _ ((rd_T34 l0_5 0).f3) t245 _ ?side1 ?side2 ?side3 A12.out).mono ?_); (case side1 => exact kc HR244_5.out); (case side2 => exact HC244_5.out); (case side3 => exact Sh.below hsh bl); rintro e w17 ⟨rfl, hb⟩; refine ⟨_, rfl, ?_⟩; replace BK242 := Aside0.mk (blk_below (g := gb242) (o := .cells #[.int .i64 a0_0, .string a0_1, .int .i64 a0_2, .int .i64 a0_3, .string a0_4, .slice (some ad244) l0_5.length c0_5] 34 (0, 0)) bk hb); replace HB := Aside0.mk (below_step bl hb); (try clear hb)))
       go_ret
       exact ⟨er, bl⟩
      ·rw [if_neg c14] at H
       exact absurd H (by simp)
     ·rw [if_neg c13] at H
      exact absurd H (by simp)
    ·rw [if_neg c11] at H
     exact absurd H (by simp)
   ·rw [if_neg c10] at H
    have c10b0 : (a0_1.toList == ([73, 83, 78, 85, 76, 76] : List UInt8)) = false := beq_eq_false_iff_ne.mpr c10
    have c10b1 : (a0_1.toList != ([73, 83, 78, 85, 76, 76] : List UInt8)) = true := bne_iff_ne.mpr c10
    by_cases c18 : a0_1.toList = ([78, 79, 84, 78, 85, 76, 76] : List UInt8)
    ·rw [if_pos c18] at H
     have c18b0 : (a0_1.toList == ([78, 79, 84, 78, 85, 76, 76] : List UInt8)) = true := beq_iff_eq.mpr c18
     have c18b1 : (a0_1.toList != ([78, 79, 84, 78, 85, 76, 76] : List UInt8)) = false := bne_eq_false_iff_eq.mpr c18
     clear c18
     by_cases c19 : 0 < (l0_5.length : Int)
     ·rw [if_pos c19] at H
      have c19b0 : decide (0 < (l0_5.length : Int)) = true := decide_eq_true c19
      have c19b1 : decide (0 < l0_5.length) = true := decide_eq_true (by omega)
      clear c19
      obtain ⟨t247, A200, H⟩ := bind_out H
      have A20 := Aside0.mk A200
      clear A200
      by_cases c21 : 1 + t247.size ≤ 9223372036854775807
      ·rw [if_pos c21] at H
       have c21b0 := eq_true c21
       have c21b1 : decide (1 + t247.size ≤ 9223372036854775807) = true := decide_eq_true c21
       try have c21b2 : (9223372036854775807 < 1 + t247.size) = False := eq_false (Nat.not_lt.2 c21)
       by_cases c22 : ((⟨#[40]⟩ : ByteArray) ++ t247).size + 13 ≤ 9223372036854775807
       ·rw [if_pos c22] at H
        have c22z : (1 + t247.size) + 13 ≤ 9223372036854775807 := by have h_ := c22; simp only [ByteArray.size_append] at h_; exact h_
        have c22y := eq_true c22z
        have c22x : decide ((1 + t247.size) + 13 ≤ 9223372036854775807) = true := decide_eq_true c22z
        have c22w : (9223372036854775807 < (1 + t247.size) + 13) = False := eq_false (by omega)
        have c22b0 := eq_true c22
        have c22b1 : decide (((⟨#[40]⟩ : ByteArray) ++ t247).size + 13 ≤ 9223372036854775807) = true := decide_eq_true c22
        try have c22b2 : (9223372036854775807 < ((⟨#[40]⟩ : ByteArray) ++ t247).size + 13) = False := eq_false (Nat.not_lt.2 c22)
        obtain rfl := Option.some.inj H
        go_enter Tryz.func47, Tryz.ntmps47
        go_wp2_with (first | ((with_reducible refine gate_dst (N := 1) rfl ?_); refine box_ev (N := 1) (cs := #[.int .i64 a0_0, .string a0_1, .int .i64 a0_2, .int .i64 a0_3, .string a0_4, .slice A0_5 l0_5.length c0_5]) (t := 34) ?_; intro gb242 hg w23 hbox hb; have BK242 := Aside0.mk (hbox); have GW242 := Aside0.mk (gsz hg bl : w.heap.size ≤ gb242); have GE242 := Aside0.mk (gsz hg bl : w.heap.size ≤ gb242); replace HB := Aside0.mk (below_step bl hb); clear hb hbox hg; obtain ⟨hcz24_0, hcz24_1, hcz24_2, hcz24_3, hcz24_4, hcz24_5⟩ := cells6 BK242.out; obtain ⟨hfz24_0, hfz24_1, hfz24_2, hfz24_3, hfz24_4, hfz24_5⟩ := froz6 BK242.out; have p246 : 0 ≤ (0 : Int) := (by omega); have q246 : 0 < (l0_5.length : Int) := of_decide_eq_true (by assumption); obtain ⟨ad246, A246_5, c246_5, e246, hx246_0, hx246_1, hx246_2, hx246_3, hx246_4, hx246_5, hl246_5, hi246_5⟩ := at_T34 HR0_5.out 0 p246 q246; cases e246; have qi246 : (0 < l0_5.length) = True := eq_true (by omega); (try rw [show ((0 : Int)).toNat = 0 from rfl] at hx246_0); (try rw [show 0 * 6 = 0 from rfl] at hx246_0); (try rw [Addr.add_zero'] at hx246_0); (try rw [show ((0 : Int)).toNat = 0 from rfl] at hx246_1); (try rw [show 0 * 6 = 0 from rfl] at hx246_1); (try rw [Addr.add_zero'] at hx246_1); (try rw [show ((0 : Int)).toNat = 0 from rfl] at hx246_2); (try rw [show 0 * 6 = 0 from rfl] at hx246_2); (try rw [Addr.add_zero'] at hx246_2); (try rw [show ((0 : Int)).toNat = 0 from rfl] at hx246_3); (try rw [show 0 * 6 = 0 from rfl] at hx246_3); (try rw [Addr.add_zero'] at hx246_3); (try rw [show ((0 : Int)).toNat = 0 from rfl] at hx246_4); (try rw [show 0 * 6 = 0 from rfl] at hx246_4); (try rw [Addr.add_zero'] at hx246_4); (try rw [show ((0 : Int)).toNat = 0 from rfl] at hx246_5); (try rw [show 0 * 6 = 0 from rfl] at hx246_5); (try rw [Addr.add_zero'] at hx246_5); replace hx246_0 := lx HB hx246_0; replace hx246_1 := lx HB hx246_1; replace hx246_2 := lx HB hx246_2; replace hx246_3 := lx HB hx246_3; replace hx246_4 := lx HB hx246_4; replace hx246_5 := lx HB hx246_5; have HR246_5 := Aside0.mk hi246_5; have HC246_5 := Aside0.mk hl246_5; clear hi246_5 hl246_5; replace p246 := eq_true p246; replace q246 := eq_true q246) | ((with_reducible refine gate_callee (f := 47) rfl ?_); refine goesL_ (some 35) rfl rfl Tryz.func47 (by kernel_rfl) rfl #[.agg #[.int .i64 ((rd_T34 l0_5 0).f0), .string ((rd_T34 l0_5 0).f1), .int .i64 ((rd_T34 l0_5 0).f2.f0), .int .i64 ((rd_T34 l0_5 0).f2.f1), .string ((rd_T34 l0_5 0).f2.f2), .slice A246_5 ((rd_T34 l0_5 0).f3).length c246_5]] rfl mp ?_; (with_reducible refine (ih k (by omega) ((rd_T34 l0_5 0).f0) ((rd_T34 l0_5 0).f1) ((rd_T34 l0_5 0).f2.f0) ((rd_T34 l0_5 0).f2.f1) ((rd_T34 l0_5 0).f2.f2) _ _ ((rd_T34 l0_5 0).f3) t247 _ ?side1 ?side2 ?side3 A20.out).mono ?_); (case side1 => exact kc HR246_5.out); (case side2 => exact HC246_5.out); (case side3 => exact Sh.below hsh bl); rintro e w25 ⟨rfl, hb⟩; refine ⟨_, rfl, ?_⟩; replace BK242 := Aside0.mk (blk_below (g := gb242) (o := .cells #[.int .i64 a0_0, .string a0_1, .int .i64 a0_2, .int .i64 a0_3, .string a0_4, .slice (some ad246) l0_5.length c0_5] 34 (0, 0)) bk hb); replace HB := Aside0.mk (below_step bl hb); (try clear hb)))
        go_ret
        exact ⟨er, bl⟩
       ·rw [if_neg c22] at H
        exact absurd H (by simp)
      ·rw [if_neg c21] at H
       exact absurd H (by simp)
     ·rw [if_neg c19] at H
      exact absurd H (by simp)
    ·rw [if_neg c18] at H
     have c18b0 : (a0_1.toList == ([78, 79, 84, 78, 85, 76, 76] : List UInt8)) = false := beq_eq_false_iff_ne.mpr c18
     have c18b1 : (a0_1.toList != ([78, 79, 84, 78, 85, 76, 76] : List UInt8)) = true := bne_iff_ne.mpr c18
     by_cases c26 : a0_1.toList = ([78, 79, 84] : List UInt8)
     ·rw [if_pos c26] at H
      have c26b0 : (a0_1.toList == ([78, 79, 84] : List UInt8)) = true := beq_iff_eq.mpr c26
      have c26b1 : (a0_1.toList != ([78, 79, 84] : List UInt8)) = false := bne_eq_false_iff_eq.mpr c26
      clear c26
      by_cases c27 : 0 < (l0_5.length : Int)
      ·rw [if_pos c27] at H
       have c27b0 : decide (0 < (l0_5.length : Int)) = true := decide_eq_true c27
       have c27b1 : decide (0 < l0_5.length) = true := decide_eq_true (by omega)
       clear c27
       obtain ⟨t249, A280, H⟩ := bind_out H
       have A28 := Aside0.mk A280
       clear A280
       by_cases c29 : 5 + t249.size ≤ 9223372036854775807
       ·rw [if_pos c29] at H
        have c29b0 := eq_true c29
        have c29b1 : decide (5 + t249.size ≤ 9223372036854775807) = true := decide_eq_true c29
        try have c29b2 : (9223372036854775807 < 5 + t249.size) = False := eq_false (Nat.not_lt.2 c29)
        by_cases c30 : ((⟨#[40, 78, 79, 84, 32]⟩ : ByteArray) ++ t249).size + 1 ≤ 9223372036854775807
        ·rw [if_pos c30] at H
         have c30z : (5 + t249.size) + 1 ≤ 9223372036854775807 := by have h_ := c30; simp only [ByteArray.size_append] at h_; exact h_
         have c30y := eq_true c30z
         have c30x : decide ((5 + t249.size) + 1 ≤ 9223372036854775807) = true := decide_eq_true c30z
         have c30w : (9223372036854775807 < (5 + t249.size) + 1) = False := eq_false (by omega)
         have c30b0 := eq_true c30
         have c30b1 : decide (((⟨#[40, 78, 79, 84, 32]⟩ : ByteArray) ++ t249).size + 1 ≤ 9223372036854775807) = true := decide_eq_true c30
         try have c30b2 : (9223372036854775807 < ((⟨#[40, 78, 79, 84, 32]⟩ : ByteArray) ++ t249).size + 1) = False := eq_false (Nat.not_lt.2 c30)
         obtain rfl := Option.some.inj H
         go_enter Tryz.func47, Tryz.ntmps47
         go_wp2_with (first | ((with_reducible refine gate_dst (N := 1) rfl ?_); refine box_ev (N := 1) (cs := #[.int .i64 a0_0, .string a0_1, .int .i64 a0_2, .int .i64 a0_3, .string a0_4, .slice A0_5 l0_5.length c0_5]) (t := 34) ?_; intro gb242 hg w31 hbox hb; have BK242 := Aside0.mk (hbox); have GW242 := Aside0.mk (gsz hg bl : w.heap.size ≤ gb242); have GE242 := Aside0.mk (gsz hg bl : w.heap.size ≤ gb242); replace HB := Aside0.mk (below_step bl hb); clear hb hbox hg; obtain ⟨hcz32_0, hcz32_1, hcz32_2, hcz32_3, hcz32_4, hcz32_5⟩ := cells6 BK242.out; obtain ⟨hfz32_0, hfz32_1, hfz32_2, hfz32_3, hfz32_4, hfz32_5⟩ := froz6 BK242.out; have p248 : 0 ≤ (0 : Int) := (by omega); have q248 : 0 < (l0_5.length : Int) := of_decide_eq_true (by assumption); obtain ⟨ad248, A248_5, c248_5, e248, hx248_0, hx248_1, hx248_2, hx248_3, hx248_4, hx248_5, hl248_5, hi248_5⟩ := at_T34 HR0_5.out 0 p248 q248; cases e248; have qi248 : (0 < l0_5.length) = True := eq_true (by omega); (try rw [show ((0 : Int)).toNat = 0 from rfl] at hx248_0); (try rw [show 0 * 6 = 0 from rfl] at hx248_0); (try rw [Addr.add_zero'] at hx248_0); (try rw [show ((0 : Int)).toNat = 0 from rfl] at hx248_1); (try rw [show 0 * 6 = 0 from rfl] at hx248_1); (try rw [Addr.add_zero'] at hx248_1); (try rw [show ((0 : Int)).toNat = 0 from rfl] at hx248_2); (try rw [show 0 * 6 = 0 from rfl] at hx248_2); (try rw [Addr.add_zero'] at hx248_2); (try rw [show ((0 : Int)).toNat = 0 from rfl] at hx248_3); (try rw [show 0 * 6 = 0 from rfl] at hx248_3); (try rw [Addr.add_zero'] at hx248_3); (try rw [show ((0 : Int)).toNat = 0 from rfl] at hx248_4); (try rw [show 0 * 6 = 0 from rfl] at hx248_4); (try rw [Addr.add_zero'] at hx248_4); (try rw [show ((0 : Int)).toNat = 0 from rfl] at hx248_5); (try rw [show 0 * 6 = 0 from rfl] at hx248_5); (try rw [Addr.add_zero'] at hx248_5); replace hx248_0 := lx HB hx248_0; replace hx248_1 := lx HB hx248_1; replace hx248_2 := lx HB hx248_2; replace hx248_3 := lx HB hx248_3; replace hx248_4 := lx HB hx248_4; replace hx248_5 := lx HB hx248_5; have HR248_5 := Aside0.mk hi248_5; have HC248_5 := Aside0.mk hl248_5; clear hi248_5 hl248_5; replace p248 := eq_true p248; replace q248 := eq_true q248) | ((with_reducible refine gate_callee (f := 47) rfl ?_); refine goesL_ (some 46) rfl rfl Tryz.func47 (by kernel_rfl) rfl #[.agg #[.int .i64 ((rd_T34 l0_5 0).f0), .string ((rd_T34 l0_5 0).f1), .int .i64 ((rd_T34 l0_5 0).f2.f0), .int .i64 ((rd_T34 l0_5 0).f2.f1), .string ((rd_T34 l0_5 0).f2.f2), .slice A248_5 ((rd_T34 l0_5 0).f3).length c248_5]] rfl mp ?_; (with_reducible refine (ih k (by omega) ((rd_T34 l0_5 0).f0) ((rd_T34 l0_5 0).f1) ((rd_T34 l0_5 0).f2.f0) ((rd_T34 l0_5 0).f2.f1) ((rd_T34 l0_5 0).f2.f2) _ _ ((rd_T34 l0_5 0).f3) t249 _ ?side1 ?side2 ?side3 A28.out).mono ?_); (case side1 => exact kc HR248_5.out); (case side2 => exact HC248_5.out); (case side3 => exact Sh.below hsh bl); rintro e w33 ⟨rfl, hb⟩; refine ⟨_, rfl, ?_⟩; replace BK242 := Aside0.mk (blk_below (g := gb242) (o := .cells #[.int .i64 a0_0, .string a0_1, .int .i64 a0_2, .int .i64 a0_3, .string a0_4, .slice (some ad248) l0_5.length c0_5] 34 (0, 0)) bk hb); replace HB := Aside0.mk (below_step bl hb); (try clear hb)))
         go_ret
         exact ⟨er, bl⟩
        ·rw [if_neg c30] at H
         exact absurd H (by simp)
       ·rw [if_neg c29] at H
        exact absurd H (by simp)
      ·rw [if_neg c27] at H
       exact absurd H (by simp)
     ·rw [if_neg c26] at H
      have c26b0 : (a0_1.toList == ([78, 79, 84] : List UInt8)) = false := beq_eq_false_iff_ne.mpr c26
      have c26b1 : (a0_1.toList != ([78, 79, 84] : List UInt8)) = true := bne_iff_ne.mpr c26
      by_cases c34 : a0_1.toList = ([78, 69, 71] : List UInt8)
      ·rw [if_pos c34] at H
       have c34b0 : (a0_1.toList == ([78, 69, 71] : List UInt8)) = true := beq_iff_eq.mpr c34
       have c34b1 : (a0_1.toList != ([78, 69, 71] : List UInt8)) = false := bne_eq_false_iff_eq.mpr c34
       clear c34
       by_cases c35 : 0 < (l0_5.length : Int)
       ·rw [if_pos c35] at H
        have c35b0 : decide (0 < (l0_5.length : Int)) = true := decide_eq_true c35
        have c35b1 : decide (0 < l0_5.length) = true := decide_eq_true (by omega)
        clear c35
        obtain ⟨t251, A360, H⟩ := bind_out H
        have A36 := Aside0.mk A360
        clear A360
        by_cases c37 : 3 + t251.size ≤ 9223372036854775807
        ·rw [if_pos c37] at H
         have c37b0 := eq_true c37
         have c37b1 : decide (3 + t251.size ≤ 9223372036854775807) = true := decide_eq_true c37
         try have c37b2 : (9223372036854775807 < 3 + t251.size) = False := eq_false (Nat.not_lt.2 c37)
         by_cases c38 : ((⟨#[40, 45, 32]⟩ : ByteArray) ++ t251).size + 1 ≤ 9223372036854775807
         ·rw [if_pos c38] at H
          have c38z : (3 + t251.size) + 1 ≤ 9223372036854775807 := by have h_ := c38; simp only [ByteArray.size_append] at h_; exact h_
          have c38y := eq_true c38z
          have c38x : decide ((3 + t251.size) + 1 ≤ 9223372036854775807) = true := decide_eq_true c38z
          have c38w : (9223372036854775807 < (3 + t251.size) + 1) = False := eq_false (by omega)
          have c38b0 := eq_true c38
          have c38b1 : decide (((⟨#[40, 45, 32]⟩ : ByteArray) ++ t251).size + 1 ≤ 9223372036854775807) = true := decide_eq_true c38
          try have c38b2 : (9223372036854775807 < ((⟨#[40, 45, 32]⟩ : ByteArray) ++ t251).size + 1) = False := eq_false (Nat.not_lt.2 c38)
          obtain rfl := Option.some.inj H
          go_enter Tryz.func47, Tryz.ntmps47
          go_wp2_with (first | ((with_reducible refine gate_dst (N := 1) rfl ?_); refine box_ev (N := 1) (cs := #[.int .i64 a0_0, .string a0_1, .int .i64 a0_2, .int .i64 a0_3, .string a0_4, .slice A0_5 l0_5.length c0_5]) (t := 34) ?_; intro gb242 hg w39 hbox hb; have BK242 := Aside0.mk (hbox); have GW242 := Aside0.mk (gsz hg bl : w.heap.size ≤ gb242); have GE242 := Aside0.mk (gsz hg bl : w.heap.size ≤ gb242); replace HB := Aside0.mk (below_step bl hb); clear hb hbox hg; obtain ⟨hcz40_0, hcz40_1, hcz40_2, hcz40_3, hcz40_4, hcz40_5⟩ := cells6 BK242.out; obtain ⟨hfz40_0, hfz40_1, hfz40_2, hfz40_3, hfz40_4, hfz40_5⟩ := froz6 BK242.out; have p250 : 0 ≤ (0 : Int) := (by omega); have q250 : 0 < (l0_5.length : Int) := of_decide_eq_true (by assumption); obtain ⟨ad250, A250_5, c250_5, e250, hx250_0, hx250_1, hx250_2, hx250_3, hx250_4, hx250_5, hl250_5, hi250_5⟩ := at_T34 HR0_5.out 0 p250 q250; cases e250; have qi250 : (0 < l0_5.length) = True := eq_true (by omega); (try rw [show ((0 : Int)).toNat = 0 from rfl] at hx250_0); (try rw [show 0 * 6 = 0 from rfl] at hx250_0); (try rw [Addr.add_zero'] at hx250_0); (try rw [show ((0 : Int)).toNat = 0 from rfl] at hx250_1); (try rw [show 0 * 6 = 0 from rfl] at hx250_1); (try rw [Addr.add_zero'] at hx250_1); (try rw [show ((0 : Int)).toNat = 0 from rfl] at hx250_2); (try rw [show 0 * 6 = 0 from rfl] at hx250_2); (try rw [Addr.add_zero'] at hx250_2); (try rw [show ((0 : Int)).toNat = 0 from rfl] at hx250_3); (try rw [show 0 * 6 = 0 from rfl] at hx250_3); (try rw [Addr.add_zero'] at hx250_3); (try rw [show ((0 : Int)).toNat = 0 from rfl] at hx250_4); (try rw [show 0 * 6 = 0 from rfl] at hx250_4); (try rw [Addr.add_zero'] at hx250_4); (try rw [show ((0 : Int)).toNat = 0 from rfl] at hx250_5); (try rw [show 0 * 6 = 0 from rfl] at hx250_5); (try rw [Addr.add_zero'] at hx250_5); replace hx250_0 := lx HB hx250_0; replace hx250_1 := lx HB hx250_1; replace hx250_2 := lx HB hx250_2; replace hx250_3 := lx HB hx250_3; replace hx250_4 := lx HB hx250_4; replace hx250_5 := lx HB hx250_5; have HR250_5 := Aside0.mk hi250_5; have HC250_5 := Aside0.mk hl250_5; clear hi250_5 hl250_5; replace p250 := eq_true p250; replace q250 := eq_true q250) | ((with_reducible refine gate_callee (f := 47) rfl ?_); refine goesL_ (some 57) rfl rfl Tryz.func47 (by kernel_rfl) rfl #[.agg #[.int .i64 ((rd_T34 l0_5 0).f0), .string ((rd_T34 l0_5 0).f1), .int .i64 ((rd_T34 l0_5 0).f2.f0), .int .i64 ((rd_T34 l0_5 0).f2.f1), .string ((rd_T34 l0_5 0).f2.f2), .slice A250_5 ((rd_T34 l0_5 0).f3).length c250_5]] rfl mp ?_; (with_reducible refine (ih k (by omega) ((rd_T34 l0_5 0).f0) ((rd_T34 l0_5 0).f1) ((rd_T34 l0_5 0).f2.f0) ((rd_T34 l0_5 0).f2.f1) ((rd_T34 l0_5 0).f2.f2) _ _ ((rd_T34 l0_5 0).f3) t251 _ ?side1 ?side2 ?side3 A36.out).mono ?_); (case side1 => exact kc HR250_5.out); (case side2 => exact HC250_5.out); (case side3 => exact Sh.below hsh bl); rintro e w41 ⟨rfl, hb⟩; refine ⟨_, rfl, ?_⟩; replace BK242 := Aside0.mk (blk_below (g := gb242) (o := .cells #[.int .i64 a0_0, .string a0_1, .int .i64 a0_2, .int .i64 a0_3, .string a0_4, .slice (some ad250) l0_5.length c0_5] 34 (0, 0)) bk hb); replace HB := Aside0.mk (below_step bl hb); (try clear hb)))
          go_ret
          exact ⟨er, bl⟩
         ·rw [if_neg c38] at H
          exact absurd H (by simp)
        ·rw [if_neg c37] at H
         exact absurd H (by simp)
       ·rw [if_neg c35] at H
        exact absurd H (by simp)
      ·rw [if_neg c34] at H
       have c34b0 : (a0_1.toList == ([78, 69, 71] : List UInt8)) = false := beq_eq_false_iff_ne.mpr c34
       have c34b1 : (a0_1.toList != ([78, 69, 71] : List UInt8)) = true := bne_iff_ne.mpr c34
       by_cases c42 : 0 < (l0_5.length : Int)
       ·rw [if_pos c42] at H
        have c42b0 : decide (0 < (l0_5.length : Int)) = true := decide_eq_true c42
        have c42b1 : decide (0 < l0_5.length) = true := decide_eq_true (by omega)
        clear c42
        obtain ⟨t253, A430, H⟩ := bind_out H
        have A43 := Aside0.mk A430
        clear A430
        by_cases c44 : 1 + t253.size ≤ 9223372036854775807
        ·rw [if_pos c44] at H
         have c44b0 := eq_true c44
         have c44b1 : decide (1 + t253.size ≤ 9223372036854775807) = true := decide_eq_true c44
         try have c44b2 : (9223372036854775807 < 1 + t253.size) = False := eq_false (Nat.not_lt.2 c44)
         by_cases c45 : ((⟨#[40]⟩ : ByteArray) ++ t253).size + 1 ≤ 9223372036854775807
         ·rw [if_pos c45] at H
          have c45z : (1 + t253.size) + 1 ≤ 9223372036854775807 := by have h_ := c45; simp only [ByteArray.size_append] at h_; exact h_
          have c45y := eq_true c45z
          have c45x : decide ((1 + t253.size) + 1 ≤ 9223372036854775807) = true := decide_eq_true c45z
          have c45w : (9223372036854775807 < (1 + t253.size) + 1) = False := eq_false (by omega)
          have c45b0 := eq_true c45
          have c45b1 : decide (((⟨#[40]⟩ : ByteArray) ++ t253).size + 1 ≤ 9223372036854775807) = true := decide_eq_true c45
          try have c45b2 : (9223372036854775807 < ((⟨#[40]⟩ : ByteArray) ++ t253).size + 1) = False := eq_false (Nat.not_lt.2 c45)
          by_cases c46 : (((⟨#[40]⟩ : ByteArray) ++ t253) ++ (⟨#[32]⟩ : ByteArray)).size + a0_1.size ≤ 9223372036854775807
          ·rw [if_pos c46] at H
           have c46z : ((1 + t253.size) + 1) + a0_1.size ≤ 9223372036854775807 := by have h_ := c46; simp only [ByteArray.size_append] at h_; exact h_
           have c46y := eq_true c46z
           have c46x : decide (((1 + t253.size) + 1) + a0_1.size ≤ 9223372036854775807) = true := decide_eq_true c46z
           have c46w : (9223372036854775807 < ((1 + t253.size) + 1) + a0_1.size) = False := eq_false (by omega)
           have c46b0 := eq_true c46
           have c46b1 : decide ((((⟨#[40]⟩ : ByteArray) ++ t253) ++ (⟨#[32]⟩ : ByteArray)).size + a0_1.size ≤ 9223372036854775807) = true := decide_eq_true c46
           try have c46b2 : (9223372036854775807 < (((⟨#[40]⟩ : ByteArray) ++ t253) ++ (⟨#[32]⟩ : ByteArray)).size + a0_1.size) = False := eq_false (Nat.not_lt.2 c46)
           by_cases c47 : ((((⟨#[40]⟩ : ByteArray) ++ t253) ++ (⟨#[32]⟩ : ByteArray)) ++ a0_1).size + 1 ≤ 9223372036854775807
           ·rw [if_pos c47] at H
            have c47z : (((1 + t253.size) + 1) + a0_1.size) + 1 ≤ 9223372036854775807 := by have h_ := c47; simp only [ByteArray.size_append] at h_; exact h_
            have c47y := eq_true c47z
            have c47x : decide ((((1 + t253.size) + 1) + a0_1.size) + 1 ≤ 9223372036854775807) = true := decide_eq_true c47z
            have c47w : (9223372036854775807 < (((1 + t253.size) + 1) + a0_1.size) + 1) = False := eq_false (by omega)
            have c47b0 := eq_true c47
            have c47b1 : decide (((((⟨#[40]⟩ : ByteArray) ++ t253) ++ (⟨#[32]⟩ : ByteArray)) ++ a0_1).size + 1 ≤ 9223372036854775807) = true := decide_eq_true c47
            try have c47b2 : (9223372036854775807 < ((((⟨#[40]⟩ : ByteArray) ++ t253) ++ (⟨#[32]⟩ : ByteArray)) ++ a0_1).size + 1) = False := eq_false (Nat.not_lt.2 c47)
            by_cases c48 : 1 < (l0_5.length : Int)
            ·rw [if_pos c48] at H
             have c48b0 : decide (1 < (l0_5.length : Int)) = true := decide_eq_true c48
             have c48b1 : decide (1 < l0_5.length) = true := decide_eq_true (by omega)
             clear c48
             obtain ⟨t255, A490, H⟩ := bind_out H
             have A49 := Aside0.mk A490
             clear A490
             by_cases c50 : (((((⟨#[40]⟩ : ByteArray) ++ t253) ++ (⟨#[32]⟩ : ByteArray)) ++ a0_1) ++ (⟨#[32]⟩ : ByteArray)).size + t255.size ≤ 9223372036854775807
             ·rw [if_pos c50] at H
              have c50z : ((((1 + t253.size) + 1) + a0_1.size) + 1) + t255.size ≤ 9223372036854775807 := by have h_ := c50; simp only [ByteArray.size_append] at h_; exact h_
              have c50y := eq_true c50z
              have c50x : decide (((((1 + t253.size) + 1) + a0_1.size) + 1) + t255.size ≤ 9223372036854775807) = true := decide_eq_true c50z
              have c50w : (9223372036854775807 < ((((1 + t253.size) + 1) + a0_1.size) + 1) + t255.size) = False := eq_false (by omega)
              have c50b0 := eq_true c50
              have c50b1 : decide ((((((⟨#[40]⟩ : ByteArray) ++ t253) ++ (⟨#[32]⟩ : ByteArray)) ++ a0_1) ++ (⟨#[32]⟩ : ByteArray)).size + t255.size ≤ 9223372036854775807) = true := decide_eq_true c50
              try have c50b2 : (9223372036854775807 < (((((⟨#[40]⟩ : ByteArray) ++ t253) ++ (⟨#[32]⟩ : ByteArray)) ++ a0_1) ++ (⟨#[32]⟩ : ByteArray)).size + t255.size) = False := eq_false (Nat.not_lt.2 c50)
              by_cases c51 : ((((((⟨#[40]⟩ : ByteArray) ++ t253) ++ (⟨#[32]⟩ : ByteArray)) ++ a0_1) ++ (⟨#[32]⟩ : ByteArray)) ++ t255).size + 1 ≤ 9223372036854775807
              ·rw [if_pos c51] at H
               have c51z : (((((1 + t253.size) + 1) + a0_1.size) + 1) + t255.size) + 1 ≤ 9223372036854775807 := by have h_ := c51; simp only [ByteArray.size_append] at h_; exact h_
               have c51y := eq_true c51z
               have c51x : decide ((((((1 + t253.size) + 1) + a0_1.size) + 1) + t255.size) + 1 ≤ 9223372036854775807) = true := decide_eq_true c51z
               have c51w : (9223372036854775807 < (((((1 + t253.size) + 1) + a0_1.size) + 1) + t255.size) + 1) = False := eq_false (by omega)
               have c51b0 := eq_true c51
               have c51b1 : decide (((((((⟨#[40]⟩ : ByteArray) ++ t253) ++ (⟨#[32]⟩ : ByteArray)) ++ a0_1) ++ (⟨#[32]⟩ : ByteArray)) ++ t255).size + 1 ≤ 9223372036854775807) = true := decide_eq_true c51
               try have c51b2 : (9223372036854775807 < ((((((⟨#[40]⟩ : ByteArray) ++ t253) ++ (⟨#[32]⟩ : ByteArray)) ++ a0_1) ++ (⟨#[32]⟩ : ByteArray)) ++ t255).size + 1) = False := eq_false (Nat.not_lt.2 c51)
               obtain rfl := Option.some.inj H
               go_enter Tryz.func47, Tryz.ntmps47
               try go_wp2_with (first | ((with_reducible refine gate_dst (N := 1) rfl ?_); refine box_ev (N := 1) (cs := #[.int .i64 a0_0, .string a0_1, .int .i64 a0_2, .int .i64 a0_3, .string a0_4, .slice A0_5 l0_5.length c0_5]) (t := 34) ?_; intro gb242 hg w52 hbox hb; have BK242 := Aside0.mk (hbox); have GW242 := Aside0.mk (gsz hg bl : w.heap.size ≤ gb242); have GE242 := Aside0.mk (gsz hg bl : w.heap.size ≤ gb242); replace HB := Aside0.mk (below_step bl hb); clear hb hbox hg; obtain ⟨hcz53_0, hcz53_1, hcz53_2, hcz53_3, hcz53_4, hcz53_5⟩ := cells6 BK242.out; obtain ⟨hfz53_0, hfz53_1, hfz53_2, hfz53_3, hfz53_4, hfz53_5⟩ := froz6 BK242.out))
               have n0_ := Aside0.mk (blk_drew BK242.out)
               have n1_ := Aside0.mk (below_drew1 HB.out)
               clear BK242
               clear HB
               have BK242 := n0_
               have HB := n1_
               clear n0_ n1_
               have p252 : 0 ≤ (0 : Int) := (by omega)
               have q252 : 0 < (l0_5.length : Int) := of_decide_eq_true (by assumption)
               obtain ⟨ad252, A252_5, c252_5, e252, hx252_0, hx252_1, hx252_2, hx252_3, hx252_4, hx252_5, hl252_5, hi252_5⟩ := at_T34 HR0_5.out 0 p252 q252
               have hw252_5 := hx252_5
               (try rw [show ((0 : Int)).toNat = 0 from rfl] at hw252_5)
               (try rw [show 0 * 6 = 0 from rfl] at hw252_5)
               (try rw [Addr.add_zero'] at hw252_5)
               have hw252_4 := hx252_4
               (try rw [show ((0 : Int)).toNat = 0 from rfl] at hw252_4)
               (try rw [show 0 * 6 = 0 from rfl] at hw252_4)
               (try rw [Addr.add_zero'] at hw252_4)
               have hw252_3 := hx252_3
               (try rw [show ((0 : Int)).toNat = 0 from rfl] at hw252_3)
               (try rw [show 0 * 6 = 0 from rfl] at hw252_3)
               (try rw [Addr.add_zero'] at hw252_3)
               have hw252_2 := hx252_2
               (try rw [show ((0 : Int)).toNat = 0 from rfl] at hw252_2)
               (try rw [show 0 * 6 = 0 from rfl] at hw252_2)
               (try rw [Addr.add_zero'] at hw252_2)
               have hw252_1 := hx252_1
               (try rw [show ((0 : Int)).toNat = 0 from rfl] at hw252_1)
               (try rw [show 0 * 6 = 0 from rfl] at hw252_1)
               (try rw [Addr.add_zero'] at hw252_1)
               have hw252_0 := hx252_0
               (try rw [show ((0 : Int)).toNat = 0 from rfl] at hw252_0)
               (try rw [show 0 * 6 = 0 from rfl] at hw252_0)
               (try rw [Addr.add_zero'] at hw252_0)
               cases e252
               have qi252 : (0 < l0_5.length) = True := eq_true (by omega)
               (try rw [show ((0 : Int)).toNat = 0 from rfl] at hx252_0)
               (try rw [show 0 * 6 = 0 from rfl] at hx252_0)
               (try rw [Addr.add_zero'] at hx252_0)
               (try rw [show ((0 : Int)).toNat = 0 from rfl] at hx252_1)
               (try rw [show 0 * 6 = 0 from rfl] at hx252_1)
               (try rw [Addr.add_zero'] at hx252_1)
               (try rw [show ((0 : Int)).toNat = 0 from rfl] at hx252_2)
               (try rw [show 0 * 6 = 0 from rfl] at hx252_2)
               (try rw [Addr.add_zero'] at hx252_2)
               (try rw [show ((0 : Int)).toNat = 0 from rfl] at hx252_3)
               (try rw [show 0 * 6 = 0 from rfl] at hx252_3)
               (try rw [Addr.add_zero'] at hx252_3)
               (try rw [show ((0 : Int)).toNat = 0 from rfl] at hx252_4)
               (try rw [show 0 * 6 = 0 from rfl] at hx252_4)
               (try rw [Addr.add_zero'] at hx252_4)
               (try rw [show ((0 : Int)).toNat = 0 from rfl] at hx252_5)
               (try rw [show 0 * 6 = 0 from rfl] at hx252_5)
               (try rw [Addr.add_zero'] at hx252_5)
               replace hx252_0 := lx HB hx252_0
               replace hx252_1 := lx HB hx252_1
               replace hx252_2 := lx HB hx252_2
               replace hx252_3 := lx HB hx252_3
               replace hx252_4 := lx HB hx252_4
               replace hx252_5 := lx HB hx252_5
               have HR252_5 := Aside0.mk hi252_5
               have HC252_5 := Aside0.mk hl252_5
               clear hi252_5 hl252_5
               replace p252 := eq_true p252
               replace q252 := eq_true q252
               have p254 : 0 ≤ (1 : Int) := (by omega)
               have q254 : 1 < (l0_5.length : Int) := of_decide_eq_true (by assumption)
               obtain ⟨ad254, A254_5, c254_5, e254, hx254_0, hx254_1, hx254_2, hx254_3, hx254_4, hx254_5, hl254_5, hi254_5⟩ := at_T34 HR0_5.out 1 p254 q254
               have hw254_5 := hx254_5
               (try rw [show ((1 : Int)).toNat = 1 from rfl] at hw254_5)
               (try rw [show 1 * 6 = 6 from rfl] at hw254_5)
               (try simp only [Nat.reduceMul, Nat.reduceEqDiff, Go.Addr.add, ↓reduceIte] at hw254_5)
               have hw254_4 := hx254_4
               (try rw [show ((1 : Int)).toNat = 1 from rfl] at hw254_4)
               (try rw [show 1 * 6 = 6 from rfl] at hw254_4)
               (try simp only [Nat.reduceMul, Nat.reduceEqDiff, Go.Addr.add, ↓reduceIte] at hw254_4)
               have hw254_3 := hx254_3
               (try rw [show ((1 : Int)).toNat = 1 from rfl] at hw254_3)
               (try rw [show 1 * 6 = 6 from rfl] at hw254_3)
               (try simp only [Nat.reduceMul, Nat.reduceEqDiff, Go.Addr.add, ↓reduceIte] at hw254_3)
               have hw254_2 := hx254_2
               (try rw [show ((1 : Int)).toNat = 1 from rfl] at hw254_2)
               (try rw [show 1 * 6 = 6 from rfl] at hw254_2)
               (try simp only [Nat.reduceMul, Nat.reduceEqDiff, Go.Addr.add, ↓reduceIte] at hw254_2)
               have hw254_1 := hx254_1
               (try rw [show ((1 : Int)).toNat = 1 from rfl] at hw254_1)
               (try rw [show 1 * 6 = 6 from rfl] at hw254_1)
               (try simp only [Nat.reduceMul, Nat.reduceEqDiff, Go.Addr.add, ↓reduceIte] at hw254_1)
               have hw254_0 := hx254_0
               (try rw [show ((1 : Int)).toNat = 1 from rfl] at hw254_0)
               (try rw [show 1 * 6 = 6 from rfl] at hw254_0)
               (try simp only [Nat.reduceMul, Nat.reduceEqDiff, Go.Addr.add, ↓reduceIte] at hw254_0)
               obtain rfl : ad252 = ad254 := (by injection e254)
               (try simp only [show (1 : Int).toNat = 1 from rfl, Nat.reduceMul, Nat.reduceEqDiff, Go.Addr.add, ↓reduceIte] at hx254_0)
               (try simp only [show (1 : Int).toNat = 1 from rfl, Nat.reduceMul, Nat.reduceEqDiff, Go.Addr.add, ↓reduceIte] at hx254_1)
               (try simp only [show (1 : Int).toNat = 1 from rfl, Nat.reduceMul, Nat.reduceEqDiff, Go.Addr.add, ↓reduceIte] at hx254_2)
               (try simp only [show (1 : Int).toNat = 1 from rfl, Nat.reduceMul, Nat.reduceEqDiff, Go.Addr.add, ↓reduceIte] at hx254_3)
               (try simp only [show (1 : Int).toNat = 1 from rfl, Nat.reduceMul, Nat.reduceEqDiff, Go.Addr.add, ↓reduceIte] at hx254_4)
               (try simp only [show (1 : Int).toNat = 1 from rfl, Nat.reduceMul, Nat.reduceEqDiff, Go.Addr.add, ↓reduceIte] at hx254_5)
               have qi254 : (1 < l0_5.length) = True := eq_true (by omega)
               (try rw [show ((1 : Int)).toNat = 1 from rfl] at hx254_0)
               (try rw [show 1 * 6 = 6 from rfl] at hx254_0)
               (try rw [show ((1 : Int)).toNat = 1 from rfl] at hx254_1)
               (try rw [show 1 * 6 = 6 from rfl] at hx254_1)
               (try rw [show ((1 : Int)).toNat = 1 from rfl] at hx254_2)
               (try rw [show 1 * 6 = 6 from rfl] at hx254_2)
               (try rw [show ((1 : Int)).toNat = 1 from rfl] at hx254_3)
               (try rw [show 1 * 6 = 6 from rfl] at hx254_3)
               (try rw [show ((1 : Int)).toNat = 1 from rfl] at hx254_4)
               (try rw [show 1 * 6 = 6 from rfl] at hx254_4)
               (try rw [show ((1 : Int)).toNat = 1 from rfl] at hx254_5)
               (try rw [show 1 * 6 = 6 from rfl] at hx254_5)
               replace hx254_0 := lx HB hx254_0
               replace hx254_1 := lx HB hx254_1
               replace hx254_2 := lx HB hx254_2
               replace hx254_3 := lx HB hx254_3
               replace hx254_4 := lx HB hx254_4
               replace hx254_5 := lx HB hx254_5
               have HR254_5 := Aside0.mk hi254_5
               have HC254_5 := Aside0.mk hl254_5
               clear hi254_5 hl254_5
               replace p254 := eq_true p254
               replace q254 := eq_true q254
               refine start_ (n := 19) (S := fun w' => w'.cell? ⟨gb242, 0, none⟩ = some (.int .i64 a0_0) ∧ w'.cell? ⟨gb242, 1, none⟩ = some (.string a0_1) ∧ w'.cell? ⟨gb242, 2, none⟩ = some (.int .i64 a0_2) ∧ w'.cell? ⟨gb242, 3, none⟩ = some (.int .i64 a0_3) ∧ w'.cell? ⟨gb242, 4, none⟩ = some (.string a0_4) ∧ w'.cell? ⟨gb242, 5, none⟩ = some (.slice (some ad252) l0_5.length c0_5) ∧ w'.cell? ad252 = some (.int .i64 ((rd_T34 l0_5 0).f0)) ∧ w'.cell? ⟨ad252.block, ad252.off + 1, none⟩ = some (.string ((rd_T34 l0_5 0).f1)) ∧ w'.cell? ⟨ad252.block, ad252.off + 2, none⟩ = some (.int .i64 ((rd_T34 l0_5 0).f2.f0)) ∧ w'.cell? ⟨ad252.block, ad252.off + 3, none⟩ = some (.int .i64 ((rd_T34 l0_5 0).f2.f1)) ∧ w'.cell? ⟨ad252.block, ad252.off + 4, none⟩ = some (.string ((rd_T34 l0_5 0).f2.f2)) ∧ w'.cell? ⟨ad252.block, ad252.off + 5, none⟩ = some (.slice A252_5 ((rd_T34 l0_5 0).f3).length c252_5) ∧ w'.cell? ⟨ad252.block, ad252.off + 6, none⟩ = some (.int .i64 ((rd_T34 l0_5 1).f0)) ∧ w'.cell? ⟨ad252.block, ad252.off + 6 + 1, none⟩ = some (.string ((rd_T34 l0_5 1).f1)) ∧ w'.cell? ⟨ad252.block, ad252.off + 6 + 2, none⟩ = some (.int .i64 ((rd_T34 l0_5 1).f2.f0)) ∧ w'.cell? ⟨ad252.block, ad252.off + 6 + 3, none⟩ = some (.int .i64 ((rd_T34 l0_5 1).f2.f1)) ∧ w'.cell? ⟨ad252.block, ad252.off + 6 + 4, none⟩ = some (.string ((rd_T34 l0_5 1).f2.f2)) ∧ w'.cell? ⟨ad252.block, ad252.off + 6 + 5, none⟩ = some (.slice A254_5 ((rd_T34 l0_5 1).f3).length c254_5)) (ds := []) #[false, false, false, false, false, false, false, false, false, false, false, false, false, false, false, false, false, false, false] (by kernel_rfl) rfl rfl ⟨(blk_cell BK242.out 0).trans rfl, (blk_cell BK242.out 1).trans rfl, (blk_cell BK242.out 2).trans rfl, (blk_cell BK242.out 3).trans rfl, (blk_cell BK242.out 4).trans rfl, (blk_cell BK242.out 5).trans rfl, ((HB.out.cell (World.block_lt_of_cell? w _ hw252_0)).trans hw252_0), ((HB.out.cell (World.block_lt_of_cell? w _ hw252_1)).trans hw252_1), ((HB.out.cell (World.block_lt_of_cell? w _ hw252_2)).trans hw252_2), ((HB.out.cell (World.block_lt_of_cell? w _ hw252_3)).trans hw252_3), ((HB.out.cell (World.block_lt_of_cell? w _ hw252_4)).trans hw252_4), ((HB.out.cell (World.block_lt_of_cell? w _ hw252_5)).trans hw252_5), ((HB.out.cell (World.block_lt_of_cell? w _ hw254_0)).trans hw254_0), ((HB.out.cell (World.block_lt_of_cell? w _ hw254_1)).trans hw254_1), ((HB.out.cell (World.block_lt_of_cell? w _ hw254_2)).trans hw254_2), ((HB.out.cell (World.block_lt_of_cell? w _ hw254_3)).trans hw254_3), ((HB.out.cell (World.block_lt_of_cell? w _ hw254_4)).trans hw254_4), ((HB.out.cell (World.block_lt_of_cell? w _ hw254_5)).trans hw254_5)⟩ (fun hHeld => ?_); refine with_tabW tree_text.tab13 tree_text.bits13 (fun HT_ HW_ => ?_)
               generalize w52.drew = w54 at BK242 HB HR252_5 HR254_5 hx252_0 hx252_1 hx252_2 hx252_3 hx252_4 hx252_5 hx254_0 hx254_1 hx254_2 hx254_3 hx254_4 hx254_5 hHeld ⊢
               refine pure_ (i := 0) (N := some 60) (v := ?_) (a' := ?_) #[true, false, false, false, false, false, false, false, false, false, false, false, false, false, false, false, false, false, false] rfl rfl (any_of HT_.out (by kernel_rfl)) (fun _ _ _ h => h) (Or.inl ⟨by rfl, ?_⟩) ?_ ?_
               rotate_left
               ·intro w'
                go_simp
                with_reducible rfl
               rotate_left
               ·simp only [Act.put, List.setIfInBounds_toArray, List.set_cons_zero, List.set_cons_succ, i64_w, i32_w]
                rfl
               refine pure_ (i := 7) (N := some 67) (v := ?_) (a' := ?_) #[true, false, false, false, false, false, false, true, false, false, false, false, false, false, false, false, false, false, false] rfl rfl (any_of HT_.out (by kernel_rfl)) (fun _ _ _ h => h) (Or.inl ⟨by rfl, ?_⟩) ?_ ?_
               rotate_left
               ·intro w'
                go_simp
                with_reducible rfl
               rotate_left
               ·simp only [Act.put, List.setIfInBounds_toArray, List.set_cons_zero, List.set_cons_succ, i64_w, i32_w]
                rfl
               refine pure_ (i := 11) (N := some 71) (v := ?_) (a' := ?_) #[true, false, false, false, false, false, false, true, false, false, false, true, false, false, false, false, false, false, false] rfl rfl (any_of HT_.out (by kernel_rfl)) (fun _ _ _ h => h) (Or.inl ⟨by rfl, ?_⟩) ?_ ?_
               rotate_left
               ·intro w'
                go_simp
                with_reducible rfl
               rotate_left
               ·simp only [Act.put, List.setIfInBounds_toArray, List.set_cons_zero, List.set_cons_succ, i64_w, i32_w]
                rfl
               refine take_ (i := 1) (N := some 61) (v := ?_) (a' := ?_) #[true, true, false, false, false, false, false, true, false, false, false, true, false, false, false, false, false, false, false] rfl rfl (take_ofW HT_.out HW_.out (by kernel_rfl)) (fun _ _ _ h => h) (Or.inl ⟨by rfl, ?_⟩) hHeld ?_ ?_
               rotate_left
               ·rintro w' ⟨s0, s1, s2, s3, s4, s5, s6, s7, s8, s9, s10, s11, s12, s13, s14, s15, s16, s17⟩
                go_simp
                with_reducible rfl
               rotate_left
               ·simp only [Act.put, List.setIfInBounds_toArray, List.set_cons_zero, List.set_cons_succ, i64_w, i32_w]
                rfl
               refine pure_ (i := 2) (N := some 62) (v := ?_) (a' := ?_) #[true, true, true, false, false, false, false, true, false, false, false, true, false, false, false, false, false, false, false] rfl rfl (any_of HT_.out (by kernel_rfl)) (fun _ _ _ h => h) (Or.inl ⟨by rfl, ?_⟩) ?_ ?_
               rotate_left
               ·intro w'
                go_simp
                with_reducible rfl
               rotate_left
               ·simp only [Act.put, List.setIfInBounds_toArray, List.set_cons_zero, List.set_cons_succ, i64_w, i32_w]
                rfl
               refine take_ (i := 3) (N := some 63) (v := ?_) (a' := ?_) #[true, true, true, true, false, false, false, true, false, false, false, true, false, false, false, false, false, false, false] rfl rfl (take_ofW HT_.out HW_.out (by kernel_rfl)) (fun _ _ _ h => h) (Or.inl ⟨by rfl, ?_⟩) hHeld ?_ ?_
               rotate_left
               ·rintro w' ⟨s0, s1, s2, s3, s4, s5, s6, s7, s8, s9, s10, s11, s12, s13, s14, s15, s16, s17⟩
                go_simp
                with_reducible rfl
               rotate_left
               ·simp only [Act.put, List.setIfInBounds_toArray, List.set_cons_zero, List.set_cons_succ, i64_w, i32_w]
                rfl
               refine take_ (i := 8) (N := some 68) (v := ?_) (a' := ?_) #[true, true, true, true, false, false, false, true, true, false, false, true, false, false, false, false, false, false, false] rfl rfl (take_ofW HT_.out HW_.out (by kernel_rfl)) (fun _ _ _ h => h) (Or.inl ⟨by rfl, ?_⟩) hHeld ?_ ?_
               rotate_left
               ·rintro w' ⟨s0, s1, s2, s3, s4, s5, s6, s7, s8, s9, s10, s11, s12, s13, s14, s15, s16, s17⟩
                go_simp
                with_reducible rfl
               rotate_left
               ·simp only [Act.put, List.setIfInBounds_toArray, List.set_cons_zero, List.set_cons_succ, i64_w, i32_w]
                rfl
               refine take_ (i := 12) (N := some 72) (v := ?_) (a' := ?_) #[true, true, true, true, false, false, false, true, true, false, false, true, true, false, false, false, false, false, false] rfl rfl (take_ofW HT_.out HW_.out (by kernel_rfl)) (fun _ _ _ h => h) (Or.inl ⟨by rfl, ?_⟩) hHeld ?_ ?_
               rotate_left
               ·rintro w' ⟨s0, s1, s2, s3, s4, s5, s6, s7, s8, s9, s10, s11, s12, s13, s14, s15, s16, s17⟩
                go_simp
                with_reducible rfl
               rotate_left
               ·simp only [Act.put, List.setIfInBounds_toArray, List.set_cons_zero, List.set_cons_succ, i64_w, i32_w]
                rfl
               refine pure_ (i := 13) (N := some 73) (v := ?_) (a' := ?_) #[true, true, true, true, false, false, false, true, true, false, false, true, true, true, false, false, false, false, false] rfl rfl (any_of HT_.out (by kernel_rfl)) (fun _ _ _ h => h) (Or.inl ⟨by rfl, ?_⟩) ?_ ?_
               rotate_left
               ·intro w'
                go_simp
                with_reducible rfl
               rotate_left
               ·simp only [Act.put, List.setIfInBounds_toArray, List.set_cons_zero, List.set_cons_succ, i64_w, i32_w]
                rfl
               refine take_ (i := 14) (N := some 74) (v := ?_) (a' := ?_) #[true, true, true, true, false, false, false, true, true, false, false, true, true, true, true, false, false, false, false] rfl rfl (take_ofW HT_.out HW_.out (by kernel_rfl)) (fun _ _ _ h => h) (Or.inl ⟨by rfl, ?_⟩) hHeld ?_ ?_
               rotate_left
               ·rintro w' ⟨s0, s1, s2, s3, s4, s5, s6, s7, s8, s9, s10, s11, s12, s13, s14, s15, s16, s17⟩
                go_simp
                with_reducible rfl
               rotate_left
               ·simp only [Act.put, List.setIfInBounds_toArray, List.set_cons_zero, List.set_cons_succ, i64_w, i32_w]
                rfl
               refine one_ (i := 4) (N := some 64) #[true, true, true, true, true, false, false, true, true, false, false, true, true, true, true, false, false, false, false] rfl rfl (one_of HT_.out (by kernel_rfl)) (by decide) (fun K hK => ?_)
               refine goes_ Tryz.func47 (by kernel_rfl) rfl #[.agg #[.int .i64 ((rd_T34 l0_5 0).f0), .string ((rd_T34 l0_5 0).f1), .int .i64 ((rd_T34 l0_5 0).f2.f0), .int .i64 ((rd_T34 l0_5 0).f2.f1), .string ((rd_T34 l0_5 0).f2.f2), .slice A252_5 ((rd_T34 l0_5 0).f3).length c252_5]] (by rfl) rfl rfl mp ?_
               with_reducible refine (ih k (by omega) ((rd_T34 l0_5 0).f0) ((rd_T34 l0_5 0).f1) ((rd_T34 l0_5 0).f2.f0) ((rd_T34 l0_5 0).f2.f1) ((rd_T34 l0_5 0).f2.f2) _ _ ((rd_T34 l0_5 0).f3) t253 _ ?side1 ?side2 ?side3 A43.out).mono ?_
               (case side1 => exact kc HR252_5.out)
               (case side2 => exact HC252_5.out)
               (case side3 => exact Sh.below hsh bl)
               rintro e w55 ⟨rfl, hb⟩
               refine ⟨_, rfl, ?_⟩
               have n0_ := Aside0.mk (blk_below (g := gb242) (o := .cells #[.int .i64 a0_0, .string a0_1, .int .i64 a0_2, .int .i64 a0_3, .string a0_4, .slice (some ad252) l0_5.length c0_5] 34 (0, 0)) bk hb)
               have n1_ := Aside0.mk (below_step bl hb)
               clear BK242
               clear HB
               have BK242 := n0_
               have HB := n1_
               clear n0_ n1_
               (try clear hb)
               (try clear hb2)
               (try clear hk)
               (try clear hi)
               refine hK.out _ _ ⟨(blk_cell BK242.out 0).trans rfl, (blk_cell BK242.out 1).trans rfl, (blk_cell BK242.out 2).trans rfl, (blk_cell BK242.out 3).trans rfl, (blk_cell BK242.out 4).trans rfl, (blk_cell BK242.out 5).trans rfl, ((HB.out.cell (World.block_lt_of_cell? w _ hw252_0)).trans hw252_0), ((HB.out.cell (World.block_lt_of_cell? w _ hw252_1)).trans hw252_1), ((HB.out.cell (World.block_lt_of_cell? w _ hw252_2)).trans hw252_2), ((HB.out.cell (World.block_lt_of_cell? w _ hw252_3)).trans hw252_3), ((HB.out.cell (World.block_lt_of_cell? w _ hw252_4)).trans hw252_4), ((HB.out.cell (World.block_lt_of_cell? w _ hw252_5)).trans hw252_5), ((HB.out.cell (World.block_lt_of_cell? w _ hw254_0)).trans hw254_0), ((HB.out.cell (World.block_lt_of_cell? w _ hw254_1)).trans hw254_1), ((HB.out.cell (World.block_lt_of_cell? w _ hw254_2)).trans hw254_2), ((HB.out.cell (World.block_lt_of_cell? w _ hw254_3)).trans hw254_3), ((HB.out.cell (World.block_lt_of_cell? w _ hw254_4)).trans hw254_4), ((HB.out.cell (World.block_lt_of_cell? w _ hw254_5)).trans hw254_5)⟩ (fun hHeld => ?_)
               clear hK K
               refine norm_ (a' := ?_) ?_ ?_
               rotate_left
               ·show Act.put _ (some 64) _ = _
                simp only [Act.put, List.setIfInBounds_toArray, List.set_cons_zero, List.set_cons_succ, i64_w, i32_w]
                rfl
               refine pure_ (i := 5) (N := some 65) (v := ?_) (a' := ?_) #[true, true, true, true, true, true, false, true, true, false, false, true, true, true, true, false, false, false, false] rfl rfl (any_of HT_.out (by kernel_rfl)) (fun _ _ _ h => h) (Or.inl ⟨by rfl, ?_⟩) ?_ ?_
               rotate_left
               ·intro w'
                go_simp
                with_reducible rfl
               rotate_left
               ·simp only [Act.put, List.setIfInBounds_toArray, List.set_cons_zero, List.set_cons_succ, i64_w, i32_w]
                rfl
               refine pure_ (i := 6) (N := some 66) (v := ?_) (a' := ?_) #[true, true, true, true, true, true, true, true, true, false, false, true, true, true, true, false, false, false, false] rfl rfl (any_of HT_.out (by kernel_rfl)) (fun _ _ _ h => h) (Or.inl ⟨by rfl, ?_⟩) ?_ ?_
               rotate_left
               ·intro w'
                go_simp
                with_reducible rfl
               rotate_left
               ·simp only [Act.put, List.setIfInBounds_toArray, List.set_cons_zero, List.set_cons_succ, i64_w, i32_w]
                rfl
               refine pure_ (i := 9) (N := some 69) (v := ?_) (a' := ?_) #[true, true, true, true, true, true, true, true, true, true, false, true, true, true, true, false, false, false, false] rfl rfl (any_of HT_.out (by kernel_rfl)) (fun _ _ _ h => h) (Or.inl ⟨by rfl, ?_⟩) ?_ ?_
               rotate_left
               ·intro w'
                go_simp
                with_reducible rfl
               rotate_left
               ·simp only [Act.put, List.setIfInBounds_toArray, List.set_cons_zero, List.set_cons_succ, i64_w, i32_w]
                rfl
               refine pure_ (i := 10) (N := some 70) (v := ?_) (a' := ?_) #[true, true, true, true, true, true, true, true, true, true, true, true, true, true, true, false, false, false, false] rfl rfl (any_of HT_.out (by kernel_rfl)) (fun _ _ _ h => h) (Or.inl ⟨by rfl, ?_⟩) ?_ ?_
               rotate_left
               ·intro w'
                go_simp
                with_reducible rfl
               rotate_left
               ·simp only [Act.put, List.setIfInBounds_toArray, List.set_cons_zero, List.set_cons_succ, i64_w, i32_w]
                rfl
               refine one_ (i := 15) (N := some 75) #[true, true, true, true, true, true, true, true, true, true, true, true, true, true, true, true, false, false, false] rfl rfl (one_of HT_.out (by kernel_rfl)) (by decide) (fun K hK => ?_)
               refine goes_ Tryz.func47 (by kernel_rfl) rfl #[.agg #[.int .i64 ((rd_T34 l0_5 1).f0), .string ((rd_T34 l0_5 1).f1), .int .i64 ((rd_T34 l0_5 1).f2.f0), .int .i64 ((rd_T34 l0_5 1).f2.f1), .string ((rd_T34 l0_5 1).f2.f2), .slice A254_5 ((rd_T34 l0_5 1).f3).length c254_5]] (by rfl) rfl rfl mp ?_
               with_reducible refine (ih k (by omega) ((rd_T34 l0_5 1).f0) ((rd_T34 l0_5 1).f1) ((rd_T34 l0_5 1).f2.f0) ((rd_T34 l0_5 1).f2.f1) ((rd_T34 l0_5 1).f2.f2) _ _ ((rd_T34 l0_5 1).f3) t255 _ ?side1 ?side2 ?side3 A49.out).mono ?_
               (case side1 => exact kc HR254_5.out)
               (case side2 => exact HC254_5.out)
               (case side3 => exact Sh.below hsh bl)
               rintro e w56 ⟨rfl, hb⟩
               refine ⟨_, rfl, ?_⟩
               have n0_ := Aside0.mk (blk_below (g := gb242) (o := .cells #[.int .i64 a0_0, .string a0_1, .int .i64 a0_2, .int .i64 a0_3, .string a0_4, .slice (some ad252) l0_5.length c0_5] 34 (0, 0)) bk hb)
               have n1_ := Aside0.mk (below_step bl hb)
               clear BK242
               clear HB
               have BK242 := n0_
               have HB := n1_
               clear n0_ n1_
               (try clear hb)
               (try clear hb2)
               (try clear hk)
               (try clear hi)
               refine hK.out _ _ ⟨(blk_cell BK242.out 0).trans rfl, (blk_cell BK242.out 1).trans rfl, (blk_cell BK242.out 2).trans rfl, (blk_cell BK242.out 3).trans rfl, (blk_cell BK242.out 4).trans rfl, (blk_cell BK242.out 5).trans rfl, ((HB.out.cell (World.block_lt_of_cell? w _ hw252_0)).trans hw252_0), ((HB.out.cell (World.block_lt_of_cell? w _ hw252_1)).trans hw252_1), ((HB.out.cell (World.block_lt_of_cell? w _ hw252_2)).trans hw252_2), ((HB.out.cell (World.block_lt_of_cell? w _ hw252_3)).trans hw252_3), ((HB.out.cell (World.block_lt_of_cell? w _ hw252_4)).trans hw252_4), ((HB.out.cell (World.block_lt_of_cell? w _ hw252_5)).trans hw252_5), ((HB.out.cell (World.block_lt_of_cell? w _ hw254_0)).trans hw254_0), ((HB.out.cell (World.block_lt_of_cell? w _ hw254_1)).trans hw254_1), ((HB.out.cell (World.block_lt_of_cell? w _ hw254_2)).trans hw254_2), ((HB.out.cell (World.block_lt_of_cell? w _ hw254_3)).trans hw254_3), ((HB.out.cell (World.block_lt_of_cell? w _ hw254_4)).trans hw254_4), ((HB.out.cell (World.block_lt_of_cell? w _ hw254_5)).trans hw254_5)⟩ (fun hHeld => ?_)
               clear hK K
               refine norm_ (a' := ?_) ?_ ?_
               rotate_left
               ·show Act.put _ (some 75) _ = _
                simp only [Act.put, List.setIfInBounds_toArray, List.set_cons_zero, List.set_cons_succ, i64_w, i32_w]
                rfl
               refine pure_ (i := 16) (N := some 76) (v := ?_) (a' := ?_) #[true, true, true, true, true, true, true, true, true, true, true, true, true, true, true, true, true, false, false] rfl rfl (any_of HT_.out (by kernel_rfl)) (fun _ _ _ h => h) (Or.inl ⟨by rfl, ?_⟩) ?_ ?_
               rotate_left
               ·intro w'
                go_simp
                with_reducible rfl
               rotate_left
               ·simp only [Act.put, List.setIfInBounds_toArray, List.set_cons_zero, List.set_cons_succ, i64_w, i32_w]
                rfl
               refine pure_ (i := 17) (N := some 77) (v := ?_) (a' := ?_) #[true, true, true, true, true, true, true, true, true, true, true, true, true, true, true, true, true, true, false] rfl rfl (any_of HT_.out (by kernel_rfl)) (fun _ _ _ h => h) (Or.inl ⟨by rfl, ?_⟩) ?_ ?_
               rotate_left
               ·intro w'
                go_simp
                with_reducible rfl
               rotate_left
               ·simp only [Act.put, List.setIfInBounds_toArray, List.set_cons_zero, List.set_cons_succ, i64_w, i32_w]
                rfl
               refine pure_ (i := 18) (N := some 2) (v := ?_) (a' := ?_) #[true, true, true, true, true, true, true, true, true, true, true, true, true, true, true, true, true, true, true] rfl rfl (any_of HT_.out (by kernel_rfl)) (fun _ _ _ h => h) (Or.inl ⟨by rfl, ?_⟩) ?_ ?_
               rotate_left
               ·intro w'
                go_simp
                with_reducible rfl
               rotate_left
               ·simp only [Act.put, List.setIfInBounds_toArray, List.set_cons_zero, List.set_cons_succ, i64_w, i32_w]
                rfl
               refine done_ (done_of HT_.out (by kernel_rfl)) ?_
               try go_wp2
               go_ret
               exact ⟨er, bl⟩
              ·rw [if_neg c51] at H
               exact absurd H (by simp)
             ·rw [if_neg c50] at H
              exact absurd H (by simp)
            ·rw [if_neg c48] at H
             exact absurd H (by simp)
           ·rw [if_neg c47] at H
            exact absurd H (by simp)
          ·rw [if_neg c46] at H
           exact absurd H (by simp)
         ·rw [if_neg c45] at H
          exact absurd H (by simp)
        ·rw [if_neg c44] at H
         exact absurd H (by simp)
       ·rw [if_neg c42] at H
        exact absurd H (by simp)
end Go.Proofs.YtlpnlfahlcingaaGreatDoor.PL
end
section
namespace Go.Proofs.YtlpnlfahlcingaaGreatDoor.PL
open Go.RowKit Go.Proofs.YtlpnlfahlcingaaGreatDoorW.PrintWords Go.Proofs.YtlpnlfahlcingaaGreatDoorW.PrintLast Go.Proofs.YtlpnlfahlcingaaGreatDoorW.PrintMore
attribute [local go_sem] max2_int min2_int max_two min_two max_three min_three max_four min_four
attribute [local go_sem ↓] isSome_setCell
set_option linter.unusedVariables false
set_option linter.unusedSimpArgs false
def tree_item.f (k : Nat) (a0_0 : Int) (a0_1 : Int) (a0_2 : ByteArray) (a0_3 : Int) (a0_4 : Int) (a0_5 : ByteArray) (l0_6 : List (S34)) : Option (ByteArray) := if a0_0 = 1 then (some (⟨#[42]⟩ : ByteArray)) else (if a0_0 = 3 then (some (⟨#[67, 79, 85, 78, 84, 32, 40, 42, 41]⟩ : ByteArray)) else (if a0_0 = 4 then ((tree_text.f k a0_1 a0_2 a0_3 a0_4 a0_5 l0_6).bind fun t257 => (if 5 + t257.size ≤ 9223372036854775807 then (if ((⟨#[83, 85, 77, 32, 40]⟩ : ByteArray) ++ t257).size + 1 ≤ 9223372036854775807 then (some (((⟨#[83, 85, 77, 32, 40]⟩ : ByteArray) ++ t257) ++ (⟨#[41]⟩ : ByteArray))) else (none)) else (none))) else ((tree_text.f k a0_1 a0_2 a0_3 a0_4 a0_5 l0_6).bind fun t258 => (some t258))))
theorem tree_item.mono : ∀ a0 a1 a2 a3 a4 a5 a6 k, LeO (tree_item.f k a0 a1 a2 a3 a4 a5 a6) (tree_item.f (k + 1) a0 a1 a2 a3 a4 a5 a6) := by
 intro a0 a1 a2 a3 a4 a5 a6 k
 unfold tree_item.f
 repeat' first
   | (with_reducible exact tree_text.mono _ _ _ _ _ _ _)
   | (with_reducible exact LeO.refl _)
   | (with_reducible exact LeO.none _)
   | (with_reducible refine LeO.ite ?_ ?_)
   | (with_reducible refine LeO.bind ?_ (fun _ => ?_))
   | exact tree_text.mono _ _ _ _ _ _ _
   | exact LeO.none _
   | refine LeO.ite ?_ ?_
   | refine LeO.bind ?_ (fun _ => ?_)
set_option maxHeartbeats 8000000 in
set_option maxRecDepth 100000 in
theorem tree_item.calls (k : Nat) (a0_0 : Int) (a0_1 : Int) (a0_2 : ByteArray) (a0_3 : Int) (a0_4 : Int) (a0_5 : ByteArray) (A0_6 : Option Addr) (c0_6 : Nat) (l0_6 : List (S34)) (r : ByteArray) (w : World) (hr0_6 : Kd.C k34 w A0_6 l0_6.length l0_6) (hc0_6 : l0_6.length ≤ c0_6) (hsh : Sh w) (h : tree_item.f k a0_0 a0_1 a0_2 a0_3 a0_4 a0_5 l0_6 = some r) :
  Calls Tryz.prog 43 #[.agg #[.int .i64 a0_0, .int .i64 a0_1, .string a0_2, .int .i64 a0_3, .int .i64 a0_4, .string a0_5, .slice A0_6 l0_6.length c0_6]] w fun e w' => e = .returned (.string r) ∧ Below w.heap.size w w' := by
 have hu63 := Tryz.underlying63
 have hu34 := Tryz.underlying34
 have HR0_6 := Aside0.mk hr0_6
 have HC0_6 := Aside0.mk hc0_6
 clear hr0_6 hc0_6
 have HB := Aside0.mk (Below.refl w.heap.size w)
 have H : (if a0_0 = 1 then (some (⟨#[42]⟩ : ByteArray)) else (if a0_0 = 3 then (some (⟨#[67, 79, 85, 78, 84, 32, 40, 42, 41]⟩ : ByteArray)) else (if a0_0 = 4 then ((tree_text.f k a0_1 a0_2 a0_3 a0_4 a0_5 l0_6).bind fun t257 => (if 5 + t257.size ≤ 9223372036854775807 then (if ((⟨#[83, 85, 77, 32, 40]⟩ : ByteArray) ++ t257).size + 1 ≤ 9223372036854775807 then (some (((⟨#[83, 85, 77, 32, 40]⟩ : ByteArray) ++ t257) ++ (⟨#[41]⟩ : ByteArray))) else (none)) else (none))) else ((tree_text.f k a0_1 a0_2 a0_3 a0_4 a0_5 l0_6).bind fun t258 => (some t258))))) = some r := h
 clear h
 by_cases c2 : a0_0 = 1
 ·rw [if_pos c2] at H
  have c2b0 : (a0_0 == 1) = true := beq_iff_eq.mpr c2
  have c2b1 : (a0_0 != 1) = false := bne_eq_false_iff_eq.mpr c2
  clear c2
  obtain rfl := Option.some.inj H
  go_enter Tryz.func43, Tryz.ntmps43
  go_wp2_with (first | ((with_reducible refine gate_dst (N := 1) rfl ?_); refine box_ev (N := 1) (cs := #[.int .i64 a0_0, .int .i64 a0_1, .string a0_2, .int .i64 a0_3, .int .i64 a0_4, .string a0_5, .slice A0_6 l0_6.length c0_6]) (t := 63) ?_; intro gb256 hg w3 hbox hb; have BK256 := Aside0.mk (hbox); have GW256 := Aside0.mk (gsz hg bl : w.heap.size ≤ gb256); have GE256 := Aside0.mk (gsz hg bl : w.heap.size ≤ gb256); replace HB := Aside0.mk (below_step bl hb); clear hb hbox hg; obtain ⟨hcz4_0, hcz4_1, hcz4_2, hcz4_3, hcz4_4, hcz4_5, hcz4_6⟩ := cells7 BK256.out; obtain ⟨hfz4_0, hfz4_1, hfz4_2, hfz4_3, hfz4_4, hfz4_5, hfz4_6⟩ := froz7 BK256.out))
  go_ret
  exact ⟨er, bl⟩
 ·rw [if_neg c2] at H
  have c2b0 : (a0_0 == 1) = false := beq_eq_false_iff_ne.mpr c2
  have c2b1 : (a0_0 != 1) = true := bne_iff_ne.mpr c2
  by_cases c5 : a0_0 = 3
  ·rw [if_pos c5] at H
   have c5b0 : (a0_0 == 3) = true := beq_iff_eq.mpr c5
   have c5b1 : (a0_0 != 3) = false := bne_eq_false_iff_eq.mpr c5
   clear c5
   obtain rfl := Option.some.inj H
   go_enter Tryz.func43, Tryz.ntmps43
   go_wp2_with (first | ((with_reducible refine gate_dst (N := 1) rfl ?_); refine box_ev (N := 1) (cs := #[.int .i64 a0_0, .int .i64 a0_1, .string a0_2, .int .i64 a0_3, .int .i64 a0_4, .string a0_5, .slice A0_6 l0_6.length c0_6]) (t := 63) ?_; intro gb256 hg w6 hbox hb; have BK256 := Aside0.mk (hbox); have GW256 := Aside0.mk (gsz hg bl : w.heap.size ≤ gb256); have GE256 := Aside0.mk (gsz hg bl : w.heap.size ≤ gb256); replace HB := Aside0.mk (below_step bl hb); clear hb hbox hg; obtain ⟨hcz7_0, hcz7_1, hcz7_2, hcz7_3, hcz7_4, hcz7_5, hcz7_6⟩ := cells7 BK256.out; obtain ⟨hfz7_0, hfz7_1, hfz7_2, hfz7_3, hfz7_4, hfz7_5, hfz7_6⟩ := froz7 BK256.out))
   go_ret
   exact ⟨er, bl⟩
  ·rw [if_neg c5] at H
   have c5b0 : (a0_0 == 3) = false := beq_eq_false_iff_ne.mpr c5
   have c5b1 : (a0_0 != 3) = true := bne_iff_ne.mpr c5
   by_cases c8 : a0_0 = 4
   ·rw [if_pos c8] at H
    have c8b0 : (a0_0 == 4) = true := beq_iff_eq.mpr c8
    have c8b1 : (a0_0 != 4) = false := bne_eq_false_iff_eq.mpr c8
    clear c8
    obtain ⟨t257, A90, H⟩ := bind_out H
    have A9 := Aside0.mk A90
    clear A90
    by_cases c10 : 5 + t257.size ≤ 9223372036854775807
    ·rw [if_pos c10] at H
     have c10b0 := eq_true c10
     have c10b1 : decide (5 + t257.size ≤ 9223372036854775807) = true := decide_eq_true c10
     try have c10b2 : (9223372036854775807 < 5 + t257.size) = False := eq_false (Nat.not_lt.2 c10)
     by_cases c11 : ((⟨#[83, 85, 77, 32, 40]⟩ : ByteArray) ++ t257).size + 1 ≤ 9223372036854775807
     ·rw [if_pos c11] at H
      have c11z : (5 + t257.size) + 1 ≤ 9223372036854775807 := by have h_ := c11; simp only [ByteArray.size_append] at h_; exact h_
      have c11y := eq_true c11z
      have c11x : decide ((5 + t257.size) + 1 ≤ 9223372036854775807) = true := decide_eq_true c11z
      have c11w : (9223372036854775807 < (5 + t257.size) + 1) = False := eq_false (by omega)
      have c11b0 := eq_true c11
      have c11b1 : decide (((⟨#[83, 85, 77, 32, 40]⟩ : ByteArray) ++ t257).size + 1 ≤ 9223372036854775807) = true := decide_eq_true c11
      try have c11b2 : (9223372036854775807 < ((⟨#[83, 85, 77, 32, 40]⟩ : ByteArray) ++ t257).size + 1) = False := eq_false (Nat.not_lt.2 c11)
      obtain rfl := Option.some.inj H
      go_enter Tryz.func43, Tryz.ntmps43
      go_wp2_with (first | ((with_reducible refine gate_dst (N := 1) rfl ?_); refine box_ev (N := 1) (cs := #[.int .i64 a0_0, .int .i64 a0_1, .string a0_2, .int .i64 a0_3, .int .i64 a0_4, .string a0_5, .slice A0_6 l0_6.length c0_6]) (t := 63) ?_; intro gb256 hg w12 hbox hb; have BK256 := Aside0.mk (hbox); have GW256 := Aside0.mk (gsz hg bl : w.heap.size ≤ gb256); have GE256 := Aside0.mk (gsz hg bl : w.heap.size ≤ gb256); replace HB := Aside0.mk (below_step bl hb); clear hb hbox hg; obtain ⟨hcz13_0, hcz13_1, hcz13_2, hcz13_3, hcz13_4, hcz13_5, hcz13_6⟩ := cells7 BK256.out; obtain ⟨hfz13_0, hfz13_1, hfz13_2, hfz13_3, hfz13_4, hfz13_5, hfz13_6⟩ := froz7 BK256.out) | ((with_reducible refine gate_callee (f := 47) rfl ?_); refine goesL_ (some 13) rfl rfl Tryz.func47 (by kernel_rfl) rfl #[.agg #[.int .i64 a0_1, .string a0_2, .int .i64 a0_3, .int .i64 a0_4, .string a0_5, .slice A0_6 l0_6.length c0_6]] rfl mp ?_; (with_reducible refine (tree_text.calls k a0_1 a0_2 a0_3 a0_4 a0_5 _ _ l0_6 t257 _ ?side1 ?side2 ?side3 A9.out).mono ?_); (case side1 => exact kc HR0_6.out); (case side2 => exact HC0_6.out); (case side3 => exact Sh.below hsh bl); rintro e w14 ⟨rfl, hb⟩; refine ⟨_, rfl, ?_⟩; replace BK256 := Aside0.mk (blk_below (g := gb256) (o := .cells #[.int .i64 a0_0, .int .i64 a0_1, .string a0_2, .int .i64 a0_3, .int .i64 a0_4, .string a0_5, .slice A0_6 l0_6.length c0_6] 63 (0, 0)) bk hb); replace HB := Aside0.mk (below_step bl hb); (try clear hb); (try clear hk)))
      go_ret
      exact ⟨er, bl⟩
     ·rw [if_neg c11] at H
      exact absurd H (by simp)
    ·rw [if_neg c10] at H
     exact absurd H (by simp)
   ·rw [if_neg c8] at H
    have c8b0 : (a0_0 == 4) = false := beq_eq_false_iff_ne.mpr c8
    have c8b1 : (a0_0 != 4) = true := bne_iff_ne.mpr c8
    obtain ⟨t258, A150, H⟩ := bind_out H
    have A15 := Aside0.mk A150
    clear A150
    obtain rfl := Option.some.inj H
    go_enter Tryz.func43, Tryz.ntmps43
    go_wp2_with (first | ((with_reducible refine gate_dst (N := 1) rfl ?_); refine box_ev (N := 1) (cs := #[.int .i64 a0_0, .int .i64 a0_1, .string a0_2, .int .i64 a0_3, .int .i64 a0_4, .string a0_5, .slice A0_6 l0_6.length c0_6]) (t := 63) ?_; intro gb256 hg w16 hbox hb; have BK256 := Aside0.mk (hbox); have GW256 := Aside0.mk (gsz hg bl : w.heap.size ≤ gb256); have GE256 := Aside0.mk (gsz hg bl : w.heap.size ≤ gb256); replace HB := Aside0.mk (below_step bl hb); clear hb hbox hg; obtain ⟨hcz17_0, hcz17_1, hcz17_2, hcz17_3, hcz17_4, hcz17_5, hcz17_6⟩ := cells7 BK256.out; obtain ⟨hfz17_0, hfz17_1, hfz17_2, hfz17_3, hfz17_4, hfz17_5, hfz17_6⟩ := froz7 BK256.out) | ((with_reducible refine gate_callee (f := 47) rfl ?_); refine goesL_ (some 18) rfl rfl Tryz.func47 (by kernel_rfl) rfl #[.agg #[.int .i64 a0_1, .string a0_2, .int .i64 a0_3, .int .i64 a0_4, .string a0_5, .slice A0_6 l0_6.length c0_6]] rfl mp ?_; (with_reducible refine (tree_text.calls k a0_1 a0_2 a0_3 a0_4 a0_5 _ _ l0_6 t258 _ ?side1 ?side2 ?side3 A15.out).mono ?_); (case side1 => exact kc HR0_6.out); (case side2 => exact HC0_6.out); (case side3 => exact Sh.below hsh bl); rintro e w18 ⟨rfl, hb⟩; refine ⟨_, rfl, ?_⟩; replace BK256 := Aside0.mk (blk_below (g := gb256) (o := .cells #[.int .i64 a0_0, .int .i64 a0_1, .string a0_2, .int .i64 a0_3, .int .i64 a0_4, .string a0_5, .slice A0_6 l0_6.length c0_6] 63 (0, 0)) bk hb); replace HB := Aside0.mk (below_step bl hb); (try clear hb); (try clear hk)))
    go_ret
    exact ⟨er, bl⟩
def api_Item__of_item.l0 : Nat → List ByteArray → List (S63) → Int → Int → Option (ByteArray)
 | 0, _, _, _, _ => none
 | k + 1, x5, x8, x9, x10 => if x10 < x9 then (if 0 ≤ x10 then (if x10 < (x8.length : Int) then ((tree_item.f k ((rd_T63 x8 x10).f0) ((rd_T63 x8 x10).f1.f0) ((rd_T63 x8 x10).f1.f1) ((rd_T63 x8 x10).f1.f2.f0) ((rd_T63 x8 x10).f1.f2.f1) ((rd_T63 x8 x10).f1.f2.f2) ((rd_T63 x8 x10).f1.f3)).bind fun t261 => (if x5.length < 8796093022208 then (api_Item__of_item.l0 k (x5 ++ [t261]) x8 x9 (wrap64 (x10 + 1))) else (none))) else (none)) else (none)) else ((strings_Join.f x5 (⟨#[44, 32]⟩ : ByteArray)).bind fun t265 => (some t265))
def api_Item__of_item.f (k : Nat) (l0 : List (S63))  : Option (ByteArray) := api_Item__of_item.l0 k ([] : List ByteArray) l0 (l0.length : Int) 0
theorem api_Item__of_item.mono_l : ∀ k, (∀ y0 y1 y2 y3, LeO (api_Item__of_item.l0 k y0 y1 y2 y3) (api_Item__of_item.l0 (k + 1) y0 y1 y2 y3))
 | 0 => fun _ _ _ _ r h => by simp [api_Item__of_item.l0] at h
 | k + 1 => by
  have ih0 := api_Item__of_item.mono_l k
  ·intro y0 y1 y2 y3
   unfold api_Item__of_item.l0
   repeat' first
   | (with_reducible exact ih0 _ _ _ _)
   | (with_reducible exact tree_item.mono _ _ _ _ _ _ _ _)
   | (with_reducible exact LeO.refl _)
   | (with_reducible exact LeO.none _)
   | (with_reducible refine LeO.ite ?_ ?_)
   | (with_reducible refine LeO.bind ?_ (fun _ => ?_))
   | exact ih0 _ _ _ _
   | exact tree_item.mono _ _ _ _ _ _ _ _
   | exact LeO.none _
   | refine LeO.ite ?_ ?_
   | refine LeO.bind ?_ (fun _ => ?_)
theorem api_Item__of_item.mono : ∀ a0 k, LeO (api_Item__of_item.f k a0) (api_Item__of_item.f (k + 1) a0) := by
 intro a0 k
 have ih0 := api_Item__of_item.mono_l k
 unfold api_Item__of_item.f
 repeat' first
   | (with_reducible exact ih0 _ _ _ _)
   | (with_reducible exact tree_item.mono _ _ _ _ _ _ _ _)
   | (with_reducible exact LeO.refl _)
   | (with_reducible exact LeO.none _)
   | (with_reducible refine LeO.ite ?_ ?_)
   | (with_reducible refine LeO.bind ?_ (fun _ => ?_))
   | exact ih0 _ _ _ _
   | exact tree_item.mono _ _ _ _ _ _ _ _
   | exact LeO.none _
   | refine LeO.ite ?_ ?_
   | refine LeO.bind ?_ (fun _ => ?_)
set_option maxHeartbeats 8000000 in
set_option maxRecDepth 100000 in
theorem api_Item__of_item.calls (k : Nat) (A0 : Option Addr) (c0 : Nat) (l0 : List (S63))  (r : ByteArray) (w : World) (hr0 : Kd.C k63 w A0 l0.length l0) (hc0 : l0.length ≤ c0) (hsh : Sh w) (h : api_Item__of_item.f k l0 = some r) :
  Calls Tryz.prog 42 #[.slice A0 l0.length c0, .func (.func 43) #[] #[]] w fun e w' => e = .returned (.string r) ∧ Below w.heap.size w w' := by
 have hu63 := Tryz.underlying63
 have HR0 := Aside0.mk hr0
 have HC0 := Aside0.mk hc0
 clear hr0 hc0
 have HB := Aside0.mk (Below.refl w.heap.size w)
 have H : (api_Item__of_item.l0 k ([] : List ByteArray) l0 (l0.length : Int) 0) = some r := h
 clear h
 have H' := Aside0.mk H
 clear H
 go_enter Tryz.func42, Tryz.ntmps42
 go_wp2
 go_loopg [5, 10] k (fun kq v5 v10 w' => ∃ (x5_1 : List ByteArray) (x10_1 : Int), v10 = .int .i64 x10_1 ∧ Aside0 (api_Item__of_item.l0 kq x5_1 l0 (l0.length : Int) x10_1 = some r) ∧ Aside0 (kq ≤ k) ∧ Aside0 (Kd.R Kd.string 9 w' w.heap.size (fun _ => True) v5 x5_1) ∧ Aside0 (Below w.heap.size w w'))
 case atStart => exact ⟨(([] : List ByteArray)), (0), rs, H', ⟨Nat.le_refl _⟩, ⟨by first | exact Kd.R_nil _ _ _ _ _ | exact Kd.N_nil _ _ _ _ _ | exact Kd.V_nil _ _ _ _ _ | exact Kd.Q_nil _ _ _ _ _ | exact Kd.S_nil _ _ _ _ _⟩, ⟨bl⟩⟩
 case round =>
  clear H'
  obtain ⟨x5_1, x10_1, rfl, HA, HK1, HO_5, HB⟩ := hrel
  cases gk with
  | zero => exact absurd HA.out (by simp [api_Item__of_item.l0])
  | succ k1 =>
   have H := HA.out
   clear HA
   simp only [api_Item__of_item.l0] at H
   by_cases c3 : x10_1 < (l0.length : Int)
   ·rw [if_pos c3] at H
    have c3b0 : decide (x10_1 < (l0.length : Int)) = true := decide_eq_true c3
    clear c3
    by_cases c4 : 0 ≤ x10_1
    ·rw [if_pos c4] at H
     have c4b0 : decide (0 ≤ x10_1) = true := decide_eq_true c4
     clear c4
     by_cases c5 : x10_1 < (l0.length : Int)
     ·rw [if_pos c5] at H
      have c5b0 : decide (x10_1 < (l0.length : Int)) = true := decide_eq_true c5
      clear c5
      obtain ⟨t261, A60, H⟩ := bind_out H
      have A6 := Aside0.mk A60
      clear A60
      by_cases c7 : x5_1.length < 8796093022208
      ·rw [if_pos c7] at H
       have LMc7 := Aside0.mk c7
       clear c7
       obtain ⟨y262, hy262⟩ : ∃ y_ : List ByteArray, y_ = (x5_1 ++ [t261]) := ⟨_, rfl⟩
       replace H : (api_Item__of_item.l0 k1 y262 l0 (l0.length : Int) (wrap64 (x10_1 + 1))) = some r := by first | (rw [hy262]; with_reducible exact H) | (have H2_ := (Option.bind_some _ _).symm.trans H; rw [hy262]; with_reducible exact H2_) | (have H2_ := (Option.bind_some _ _).symm.trans H; with_reducible exact H2_) | with_reducible exact H | (rw [hy262]; exact H) | exact H
       have Ny262 := Aside0.mk hy262
       clear hy262
       have H' := Aside0.mk H
       clear H
       have p259 : 0 ≤ (x10_1 : Int) := of_decide_eq_true (by assumption)
       have q259 : x10_1 < (l0.length : Int) := of_decide_eq_true (by assumption)
       obtain ⟨ad259, A259_6, c259_6, e259, hx259_0, hx259_1, hx259_2, hx259_3, hx259_4, hx259_5, hx259_6, hl259_6, hi259_6⟩ := at_T63 HR0.out x10_1 p259 q259
       cases e259
       replace hx259_0 := lx HB hx259_0
       replace hx259_1 := lx HB hx259_1
       replace hx259_2 := lx HB hx259_2
       replace hx259_3 := lx HB hx259_3
       replace hx259_4 := lx HB hx259_4
       replace hx259_5 := lx HB hx259_5
       replace hx259_6 := lx HB hx259_6
       have HR259_6 := Aside0.mk hi259_6
       have HC259_6 := Aside0.mk hl259_6
       clear hi259_6 hl259_6
       replace p259 := eq_true p259
       replace q259 := eq_true q259
       go_wp2_with (first | ((with_reducible refine gate_dst (N := 7) rfl ?_); refine box_event ?hg (N := 7) ?hd (cs := #[.int .i64 0, .int .i64 0, .string (⟨#[]⟩ : ByteArray), .int .i64 0, .int .i64 0, .string (⟨#[]⟩ : ByteArray), .slice none 0 0]) (t := 63) ?hr ?_; (case hd => rfl); (case hg => rfl); (case hr => first | (go_simp; done) | (go_simp; rfl)); intro gb260 hg w8 hbox hb; have BK260 := Aside0.mk (hbox); have GW260 := Aside0.mk (gsz hg bl : w.heap.size ≤ gb260); have GE260 := Aside0.mk (gsz hg bl : w.heap.size ≤ gb260); replace HO_5 := Aside0.mk (Kd.R_below (by (with_reducible repeat (first | apply Kd.R_alloc | apply Kd.R_drewN | apply Kd.R_drew)); exact HO_5.out) hb); replace HB := Aside0.mk (below_step bl hb); clear hb hbox hg; obtain ⟨hcz9_0, hcz9_1, hcz9_2, hcz9_3, hcz9_4, hcz9_5, hcz9_6⟩ := cells7 BK260.out; obtain ⟨hfz9_0, hfz9_1, hfz9_2, hfz9_3, hfz9_4, hfz9_5, hfz9_6⟩ := froz7 BK260.out) | (go_at_call 43; (with_reducible refine (tree_item.calls k1 ((rd_T63 l0 x10_1).f0) ((rd_T63 l0 x10_1).f1.f0) ((rd_T63 l0 x10_1).f1.f1) ((rd_T63 l0 x10_1).f1.f2.f0) ((rd_T63 l0 x10_1).f1.f2.f1) ((rd_T63 l0 x10_1).f1.f2.f2) _ _ ((rd_T63 l0 x10_1).f1.f3) t261 _ ?side1 ?side2 ?side3 A6.out).mono ?_); (case side1 => exact Kd.C_below HR259_6.out bl); (case side2 => exact HC259_6.out); (case side3 => exact Sh.below hsh bl); rintro e w10 ⟨rfl, hb⟩; replace HO_5 := Aside0.mk (Kd.R_below (by (with_reducible repeat (first | apply Kd.R_alloc | apply Kd.R_drewN | apply Kd.R_drew)); exact (Kd.R_mono (Kd.R_far (p := ⟨gb260, 6, none⟩) (Kd.R_far (p := ⟨gb260, 5, none⟩) (Kd.R_far (p := ⟨gb260, 4, none⟩) (Kd.R_far (p := ⟨gb260, 3, none⟩) (Kd.R_far (p := ⟨gb260, 2, none⟩) (Kd.R_far (p := ⟨gb260, 1, none⟩) (Kd.R_far (p := ⟨gb260, 0, none⟩) (Kd.R_types HO_5.out BK260.out (by decide)) (fun _ hk => hk.2) (.int .i64 ((rd_T63 l0 x10_1).f0))) (fun _ hk => hk.2) (.int .i64 ((rd_T63 l0 x10_1).f1.f0))) (fun _ hk => hk.2) (.string ((rd_T63 l0 x10_1).f1.f1))) (fun _ hk => hk.2) (.int .i64 ((rd_T63 l0 x10_1).f1.f2.f0))) (fun _ hk => hk.2) (.int .i64 ((rd_T63 l0 x10_1).f1.f2.f1))) (fun _ hk => hk.2) (.string ((rd_T63 l0 x10_1).f1.f2.f2))) (fun _ hk => hk.2) (.slice A259_6 ((rd_T63 l0 x10_1).f1.f3).length c259_6)) (fun _ h_ => h_.1))) hb); replace BK260 := Aside0.mk (blk_below (g := gb260) (o := .cells #[.int .i64 ((rd_T63 l0 x10_1).f0), .int .i64 ((rd_T63 l0 x10_1).f1.f0), .string ((rd_T63 l0 x10_1).f1.f1), .int .i64 ((rd_T63 l0 x10_1).f1.f2.f0), .int .i64 ((rd_T63 l0 x10_1).f1.f2.f1), .string ((rd_T63 l0 x10_1).f1.f2.f2), .slice A259_6 ((rd_T63 l0 x10_1).f1.f3).length c259_6] 63 (0, 0)) bp7 hb); replace HB := Aside0.mk (below_step bl hb); (try clear hb); (try clear hk)) | ((with_reducible refine gate_builtin (b := .append) (xs := #[.tmp 14, .tmp 18]) rfl ?_); at_builtin; refine Kd.R_append Kd.string (w0 := w) w.heap.size rfl (.tmp 14) (.tmp 18) 66 9 (.string ⟨#[]⟩) 16 rfl Tryz.underlying66 info9 rfl (by decide) (by omega) u5 x5_1 t261 [.string t261] (fun _ => True) (fun _ => False) rfl rfl ?aP (fun _ hk => hk.elim) ?aF ?aO ?aB ?aS ?aL ?_; (case aP => exact rfl); (case aB => exact bl); (case aF => exact (fun _ _ => trivial)); (case aO => exact (by (with_reducible repeat (first | apply Kd.R_alloc | apply Kd.R_drewN | apply Kd.R_drew)); exact HO_5.out)); (case aS => exact (below_size bl)); (case aL => have := LMc7.out; omega); intro v263 w11 ho hb hg hat; rw [← Ny262.out] at ho; have HO264 := Aside0.mk (ho); replace BK260 := Aside0.mk (blk_grown (g := gb260) (o := .cells #[.int .i64 ((rd_T63 l0 x10_1).f0), .int .i64 ((rd_T63 l0 x10_1).f1.f0), .string ((rd_T63 l0 x10_1).f1.f1), .int .i64 ((rd_T63 l0 x10_1).f1.f2.f0), .int .i64 ((rd_T63 l0 x10_1).f1.f2.f1), .string ((rd_T63 l0 x10_1).f1.f2.f2), .slice A259_6 ((rd_T63 l0 x10_1).f1.f3).length c259_6] 63 (0, 0)) bk hg (Kd.R_ne HO_5.out BK260.out (by decide))); replace HB := Aside0.mk (hb); clear ho hb hg hat))
       go_roundg k1
       case measure => have := HK1.out; omega
       case rel => exact ⟨(y262), (wrap64 (x10_1 + 1)), rs, H', ⟨by have := HK1.out; omega⟩, ⟨by (with_reducible repeat (first | apply Kd.R_alloc | apply Kd.R_drewN | apply Kd.R_drew)); exact HO264.out⟩, ⟨bl⟩⟩
      ·rw [if_neg c7] at H
       exact absurd H (by simp)
     ·rw [if_neg c5] at H
      exact absurd H (by simp)
    ·rw [if_neg c4] at H
     exact absurd H (by simp)
   ·rw [if_neg c3] at H
    have c3b0 : decide (x10_1 < (l0.length : Int)) = false := decide_eq_false c3
    clear c3
    obtain ⟨t265, A120, H⟩ := bind_out H
    have A12 := Aside0.mk A120
    clear A120
    obtain rfl := Option.some.inj H
    obtain ⟨Ao13, co13, eo13⟩ := Kd.R_slice HO_5.out
    subst eo13
    go_wp2_with (first | ((with_reducible refine gate_callee (f := 26) rfl ?_); refine goesL_ (some 22) rfl rfl Tryz.func26 (by kernel_rfl) rfl #[.slice Ao13 x5_1.length co13, .string (⟨#[44, 32]⟩ : ByteArray)] rfl mp ?_; (with_reducible refine (strings_Join.calls _ _ x5_1 (⟨#[44, 32]⟩ : ByteArray) t265 _ HO_5.out ?side2 A12.out).mono ?_); (case side2 => exact (Kd.R_reads' HO_5.out).2.1); rintro e w14 ⟨rfl, hb⟩; refine ⟨_, rfl, ?_⟩; replace HO_5 := Aside0.mk (Kd.R_below (by (with_reducible repeat (first | apply Kd.R_alloc | apply Kd.R_drewN | apply Kd.R_drew)); exact HO_5.out) hb); replace HB := Aside0.mk (below_step bl hb); (try clear hb); (try clear hk)))
    go_ret
    exact ⟨er, bl⟩
end Go.Proofs.YtlpnlfahlcingaaGreatDoor.PL
end
