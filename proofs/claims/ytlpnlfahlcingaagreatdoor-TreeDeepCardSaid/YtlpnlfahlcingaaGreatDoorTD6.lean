/- What part 6 of the texts under treeDeep_holds proves: contracts of functions of this seat, and plain facts about what they compute. Conditions: those that each theorem names. -/
import Derived.Test.YtlpnlfahlcingaaGreatDoorTD5
section
namespace Go.Proofs.YtlpnlfahlcingaaGreatDoor.PL
open Go.RowKit Go.Proofs.YtlpnlfahlcingaaGreatDoorW.PrintWords Go.Proofs.YtlpnlfahlcingaaGreatDoorW.PrintLast Go.Proofs.YtlpnlfahlcingaaGreatDoorW.PrintMore
attribute [local go_sem] max2_int min2_int max_two min_two max_three min_three max_four min_four
attribute [local go_sem ↓] isSome_setCell
set_option linter.unusedVariables false
set_option linter.unusedSimpArgs false
mutual
def tree_mayItems.l0 : Nat → List (S63) → List (S63) → Int → Int → Option (Bool)
 | 0, _, _, _, _ => none
 | k + 1, x0, x5, x6, x7 => if x7 < x6 then (if 0 ≤ x7 then (if x7 < (x5.length : Int) then (if ((rd_T63 x5 x7).f0) = 1 then (if (x0.length : Int) > 1 then (some false) else ((tree_blank.f ((rd_T63 x5 x7).f1.f0) ((rd_T63 x5 x7).f1.f1) ((rd_T63 x5 x7).f1.f2.f0) ((rd_T63 x5 x7).f1.f2.f1) ((rd_T63 x5 x7).f1.f2.f2) ((rd_T63 x5 x7).f1.f3)).bind fun t208 => (if t208 = true then (tree_mayItems.l0 k x0 x5 x6 (wrap64 (x7 + 1))) else (some false)))) else (if ((rd_T63 x5 x7).f0) = 3 then ((tree_blank.f ((rd_T63 x5 x7).f1.f0) ((rd_T63 x5 x7).f1.f1) ((rd_T63 x5 x7).f1.f2.f0) ((rd_T63 x5 x7).f1.f2.f1) ((rd_T63 x5 x7).f1.f2.f2) ((rd_T63 x5 x7).f1.f3)).bind fun t209 => (if t209 = true then (tree_mayItems.l0 k x0 x5 x6 (wrap64 (x7 + 1))) else (some false))) else (if ((rd_T63 x5 x7).f0) = 2 then (tree_mayItems.j1 k x0 x5 x6 x7 (((rd_T63 x5 x7).f0) == 2) ((rd_T63 x5 x7).f0) ((rd_T63 x5 x7).f1.f0) ((rd_T63 x5 x7).f1.f1) ((rd_T63 x5 x7).f1.f2.f0) ((rd_T63 x5 x7).f1.f2.f1) ((rd_T63 x5 x7).f1.f2.f2) ((rd_T63 x5 x7).f1.f3)) else (tree_mayItems.j1 k x0 x5 x6 x7 (((rd_T63 x5 x7).f0) == 4) ((rd_T63 x5 x7).f0) ((rd_T63 x5 x7).f1.f0) ((rd_T63 x5 x7).f1.f1) ((rd_T63 x5 x7).f1.f2.f0) ((rd_T63 x5 x7).f1.f2.f1) ((rd_T63 x5 x7).f1.f2.f2) ((rd_T63 x5 x7).f1.f3))))) else (none)) else (none)) else (if (x0.length : Int) ≥ 1 then (some (decide ((x0.length : Int) ≤ 6))) else (some false))
def tree_mayItems.j1 : Nat → List (S63) → List (S63) → Int → Int → Bool → Int → Int → ByteArray → Int → Int → ByteArray → List (S34) → Option (Bool)
 | 0, _, _, _, _, _, _, _, _, _, _, _, _ => none
 | k + 1, x0, x5, x6, x7, x30, x208000, x208001, x208002, x208003, x208004, x208005, x208006 => if x30 = true then ((tree_mayExpr.f k x208001 x208002 x208003 x208004 x208005 x208006 16).bind fun t210 => (if t210 = true then (tree_mayItems.l0 k x0 x5 x6 (wrap64 (x7 + 1))) else (some false))) else (some false)
end
def tree_mayItems.f (k : Nat) (l0 : List (S63)) : Option (Bool) := tree_mayItems.l0 k l0 l0 (l0.length : Int) 0
theorem tree_mayItems.mono_l : ∀ k, (∀ y0 y1 y2 y3, LeO (tree_mayItems.l0 k y0 y1 y2 y3) (tree_mayItems.l0 (k + 1) y0 y1 y2 y3)) ∧ (∀ y0 y1 y2 y3 y4 y5 y6 y7 y8 y9 y10 y11, LeO (tree_mayItems.j1 k y0 y1 y2 y3 y4 y5 y6 y7 y8 y9 y10 y11) (tree_mayItems.j1 (k + 1) y0 y1 y2 y3 y4 y5 y6 y7 y8 y9 y10 y11))
 | 0 => ⟨fun _ _ _ _ r h => by simp [tree_mayItems.l0] at h, fun _ _ _ _ _ _ _ _ _ _ _ _ r h => by simp [tree_mayItems.j1] at h⟩
 | k + 1 => by
  obtain ⟨ih0, ih1⟩ := tree_mayItems.mono_l k
  refine ⟨?_, ?_⟩
  ·intro y0 y1 y2 y3
   unfold tree_mayItems.l0
   repeat' first
   | (with_reducible exact ih0 _ _ _ _)
   | (with_reducible exact ih1 _ _ _ _ _ _ _ _ _ _ _ _)
   | (with_reducible exact tree_mayExpr.mono _ _ _ _ _ _ _ _)
   | (with_reducible exact LeO.refl _)
   | (with_reducible exact LeO.none _)
   | (with_reducible refine LeO.ite ?_ ?_)
   | (with_reducible refine LeO.bind ?_ (fun _ => ?_))
   | exact ih0 _ _ _ _
   | exact ih1 _ _ _ _ _ _ _ _ _ _ _ _
   | exact tree_mayExpr.mono _ _ _ _ _ _ _ _
   | exact LeO.none _
   | refine LeO.ite ?_ ?_
   | refine LeO.bind ?_ (fun _ => ?_)
  ·intro y0 y1 y2 y3 y4 y5 y6 y7 y8 y9 y10 y11
   unfold tree_mayItems.j1
   repeat' first
   | (with_reducible exact ih0 _ _ _ _)
   | (with_reducible exact ih1 _ _ _ _ _ _ _ _ _ _ _ _)
   | (with_reducible exact tree_mayExpr.mono _ _ _ _ _ _ _ _)
   | (with_reducible exact LeO.refl _)
   | (with_reducible exact LeO.none _)
   | (with_reducible refine LeO.ite ?_ ?_)
   | (with_reducible refine LeO.bind ?_ (fun _ => ?_))
   | exact ih0 _ _ _ _
   | exact ih1 _ _ _ _ _ _ _ _ _ _ _ _
   | exact tree_mayExpr.mono _ _ _ _ _ _ _ _
   | exact LeO.none _
   | refine LeO.ite ?_ ?_
   | refine LeO.bind ?_ (fun _ => ?_)
theorem tree_mayItems.mono : ∀ a0 k, LeO (tree_mayItems.f k a0) (tree_mayItems.f (k + 1) a0) := by
 intro a0 k
 obtain ⟨ih0, ih1⟩ := tree_mayItems.mono_l k
 unfold tree_mayItems.f
 repeat' first
   | (with_reducible exact ih0 _ _ _ _)
   | (with_reducible exact ih1 _ _ _ _ _ _ _ _ _ _ _ _)
   | (with_reducible exact tree_mayExpr.mono _ _ _ _ _ _ _ _)
   | (with_reducible exact LeO.refl _)
   | (with_reducible exact LeO.none _)
   | (with_reducible refine LeO.ite ?_ ?_)
   | (with_reducible refine LeO.bind ?_ (fun _ => ?_))
   | exact ih0 _ _ _ _
   | exact ih1 _ _ _ _ _ _ _ _ _ _ _ _
   | exact tree_mayExpr.mono _ _ _ _ _ _ _ _
   | exact LeO.none _
   | refine LeO.ite ?_ ?_
   | refine LeO.bind ?_ (fun _ => ?_)
set_option maxHeartbeats 8000000 in
set_option maxRecDepth 100000 in
theorem tree_mayItems.calls (k : Nat) (A0 : Option Addr) (c0 : Nat) (l0 : List (S63)) (r : Bool) (w : World) (hr0 : Kd.C k63 w A0 l0.length l0) (hc0 : l0.length ≤ c0) (hsh : Sh w) (h : tree_mayItems.f k l0 = some r) :
  Calls Tryz.prog 60 #[.slice A0 l0.length c0] w fun e w' => e = .returned (.bool r) ∧ Below w.heap.size w w' := by
 have hu63 := Tryz.underlying63
 have hu34 := Tryz.underlying34
 have HR0 := Aside0.mk hr0
 have HC0 := Aside0.mk hc0
 clear hr0 hc0
 have HB := Aside0.mk (Below.refl w.heap.size w)
 have H : (tree_mayItems.l0 k l0 l0 (l0.length : Int) 0) = some r := h
 clear h
 have H' := Aside0.mk H
 clear H
 go_enter Tryz.func60, Tryz.ntmps60
 go_wp2
 go_loopg [7] k (fun kq v7 w' => ∃ (x7_1 : Int), v7 = .int .i64 x7_1 ∧ Aside0 (tree_mayItems.l0 kq l0 l0 (l0.length : Int) x7_1 = some r) ∧ Aside0 (kq ≤ k) ∧ Aside0 (Below w.heap.size w w'))
 case atStart => exact ⟨(0), rs, H', ⟨Nat.le_refl _⟩, ⟨bl⟩⟩
 case round =>
  clear H'
  obtain ⟨x7_1, rfl, HA, HK1, HB⟩ := hrel
  cases gk with
  | zero => exact absurd HA.out (by simp [tree_mayItems.l0])
  | succ k1 =>
   have H := HA.out
   clear HA
   simp only [tree_mayItems.l0] at H
   by_cases c2 : x7_1 < (l0.length : Int)
   ·rw [if_pos c2] at H
    have c2b0 : decide (x7_1 < (l0.length : Int)) = true := decide_eq_true c2
    clear c2
    by_cases c3 : 0 ≤ x7_1
    ·rw [if_pos c3] at H
     have c3b0 : decide (0 ≤ x7_1) = true := decide_eq_true c3
     clear c3
     by_cases c4 : x7_1 < (l0.length : Int)
     ·rw [if_pos c4] at H
      have c4b0 : decide (x7_1 < (l0.length : Int)) = true := decide_eq_true c4
      clear c4
      by_cases c5 : ((rd_T63 l0 x7_1).f0) = 1
      ·rw [if_pos c5] at H
       have c5b0 : (((rd_T63 l0 x7_1).f0) == 1) = true := beq_iff_eq.mpr c5
       have c5b1 : (((rd_T63 l0 x7_1).f0) != 1) = false := bne_eq_false_iff_eq.mpr c5
       clear c5
       by_cases c6 : (l0.length : Int) > 1
       ·rw [if_pos c6] at H
        have c6b0 : decide (1 < (l0.length : Int)) = true := decide_eq_true c6
        have c6b1 : decide (1 < l0.length) = true := decide_eq_true (by omega)
        clear c6
        obtain rfl := Option.some.inj H
        have p206 : 0 ≤ (x7_1 : Int) := of_decide_eq_true (by assumption)
        have q206 : x7_1 < (l0.length : Int) := of_decide_eq_true (by assumption)
        obtain ⟨ad206, A206_6, c206_6, e206, hx206_0, hx206_1, hx206_2, hx206_3, hx206_4, hx206_5, hx206_6, hl206_6, hi206_6⟩ := at_T63 HR0.out x7_1 p206 q206
        cases e206
        replace hx206_0 := lx HB hx206_0
        replace hx206_1 := lx HB hx206_1
        replace hx206_2 := lx HB hx206_2
        replace hx206_3 := lx HB hx206_3
        replace hx206_4 := lx HB hx206_4
        replace hx206_5 := lx HB hx206_5
        replace hx206_6 := lx HB hx206_6
        have HR206_6 := Aside0.mk hi206_6
        have HC206_6 := Aside0.mk hl206_6
        clear hi206_6 hl206_6
        replace p206 := eq_true p206
        replace q206 := eq_true q206
        go_wp2_with (first | ((with_reducible refine gate_dst (N := 4) rfl ?_); (try (refine gate_guard (by rfl) ?_; dsimp only)); refine box_event ?hg (N := 4) ?hd (cs := #[.int .i64 0, .int .i64 0, .string (⟨#[]⟩ : ByteArray), .int .i64 0, .int .i64 0, .string (⟨#[]⟩ : ByteArray), .slice none 0 0]) (t := 63) ?hr ?_; (case hd => rfl); (case hg => rfl); (case hr => first | (go_simp; done) | (go_simp; rfl)); intro gb207 hg w7 hbox hb; have BK207 := Aside0.mk (hbox); have GW207 := Aside0.mk (gsz hg bl : w.heap.size ≤ gb207); have GE207 := Aside0.mk (gsz hg bl : w.heap.size ≤ gb207); replace HB := Aside0.mk (below_step bl hb); clear hb hbox hg; obtain ⟨hcz8_0, hcz8_1, hcz8_2, hcz8_3, hcz8_4, hcz8_5, hcz8_6⟩ := cells7 BK207.out; obtain ⟨hfz8_0, hfz8_1, hfz8_2, hfz8_3, hfz8_4, hfz8_5, hfz8_6⟩ := froz7 BK207.out))
        go_ret
        exact ⟨er, bl⟩
       ·rw [if_neg c6] at H
        have c6b0 : decide (1 < (l0.length : Int)) = false := decide_eq_false c6
        have c6b1 : decide (1 < l0.length) = false := decide_eq_false (by omega)
        clear c6
        obtain ⟨t208, A90, H⟩ := bind_out H
        have A9 := Aside0.mk A90
        clear A90
        by_cases c10 : t208 = true
        ·subst c10
         rw [if_pos rfl] at H
         have H' := Aside0.mk H
         clear H
         have p206 : 0 ≤ (x7_1 : Int) := of_decide_eq_true (by assumption)
         have q206 : x7_1 < (l0.length : Int) := of_decide_eq_true (by assumption)
         obtain ⟨ad206, A206_6, c206_6, e206, hx206_0, hx206_1, hx206_2, hx206_3, hx206_4, hx206_5, hx206_6, hl206_6, hi206_6⟩ := at_T63 HR0.out x7_1 p206 q206
         cases e206
         replace hx206_0 := lx HB hx206_0
         replace hx206_1 := lx HB hx206_1
         replace hx206_2 := lx HB hx206_2
         replace hx206_3 := lx HB hx206_3
         replace hx206_4 := lx HB hx206_4
         replace hx206_5 := lx HB hx206_5
         replace hx206_6 := lx HB hx206_6
         have HR206_6 := Aside0.mk hi206_6
         have HC206_6 := Aside0.mk hl206_6
         clear hi206_6 hl206_6
         replace p206 := eq_true p206
         replace q206 := eq_true q206
         go_wp2_with (first | ((with_reducible refine gate_dst (N := 4) rfl ?_); (try (refine gate_guard (by rfl) ?_; dsimp only)); refine box_event ?hg (N := 4) ?hd (cs := #[.int .i64 0, .int .i64 0, .string (⟨#[]⟩ : ByteArray), .int .i64 0, .int .i64 0, .string (⟨#[]⟩ : ByteArray), .slice none 0 0]) (t := 63) ?hr ?_; (case hd => rfl); (case hg => rfl); (case hr => first | (go_simp; done) | (go_simp; rfl)); intro gb207 hg w11 hbox hb; have BK207 := Aside0.mk (hbox); have GW207 := Aside0.mk (gsz hg bl : w.heap.size ≤ gb207); have GE207 := Aside0.mk (gsz hg bl : w.heap.size ≤ gb207); replace HB := Aside0.mk (below_step bl hb); clear hb hbox hg; obtain ⟨hcz12_0, hcz12_1, hcz12_2, hcz12_3, hcz12_4, hcz12_5, hcz12_6⟩ := cells7 BK207.out; obtain ⟨hfz12_0, hfz12_1, hfz12_2, hfz12_3, hfz12_4, hfz12_5, hfz12_6⟩ := froz7 BK207.out) | (go_at_call 59; (with_reducible refine (tree_blank.calls ((rd_T63 l0 x7_1).f1.f0) ((rd_T63 l0 x7_1).f1.f1) ((rd_T63 l0 x7_1).f1.f2.f0) ((rd_T63 l0 x7_1).f1.f2.f1) ((rd_T63 l0 x7_1).f1.f2.f2) _ _ ((rd_T63 l0 x7_1).f1.f3) true _ ?side1 ?side2 A9.out).mono ?_); (case side1 => exact Kd.C_below HR206_6.out bl); (case side2 => exact HC206_6.out); rintro e w13 ⟨rfl, hb⟩; replace BK207 := Aside0.mk (blk_below (g := gb207) (o := .cells #[.int .i64 ((rd_T63 l0 x7_1).f0), .int .i64 ((rd_T63 l0 x7_1).f1.f0), .string ((rd_T63 l0 x7_1).f1.f1), .int .i64 ((rd_T63 l0 x7_1).f1.f2.f0), .int .i64 ((rd_T63 l0 x7_1).f1.f2.f1), .string ((rd_T63 l0 x7_1).f1.f2.f2), .slice A206_6 ((rd_T63 l0 x7_1).f1.f3).length c206_6] 63 (0, 0)) bp7 hb); replace HB := Aside0.mk (below_step bl hb); (try clear hb)))
         go_roundg k1
         case measure => have := HK1.out; omega
         case rel => exact ⟨(wrap64 (x7_1 + 1)), rs, H', ⟨by have := HK1.out; omega⟩, ⟨bl⟩⟩
        ·replace c10 := Bool.eq_false_iff.mpr c10
         subst c10
         rw [if_neg (show ¬ (false = true) by decide)] at H
         obtain rfl := Option.some.inj H
         have p206 : 0 ≤ (x7_1 : Int) := of_decide_eq_true (by assumption)
         have q206 : x7_1 < (l0.length : Int) := of_decide_eq_true (by assumption)
         obtain ⟨ad206, A206_6, c206_6, e206, hx206_0, hx206_1, hx206_2, hx206_3, hx206_4, hx206_5, hx206_6, hl206_6, hi206_6⟩ := at_T63 HR0.out x7_1 p206 q206
         cases e206
         replace hx206_0 := lx HB hx206_0
         replace hx206_1 := lx HB hx206_1
         replace hx206_2 := lx HB hx206_2
         replace hx206_3 := lx HB hx206_3
         replace hx206_4 := lx HB hx206_4
         replace hx206_5 := lx HB hx206_5
         replace hx206_6 := lx HB hx206_6
         have HR206_6 := Aside0.mk hi206_6
         have HC206_6 := Aside0.mk hl206_6
         clear hi206_6 hl206_6
         replace p206 := eq_true p206
         replace q206 := eq_true q206
         go_wp2_with (first | ((with_reducible refine gate_dst (N := 4) rfl ?_); (try (refine gate_guard (by rfl) ?_; dsimp only)); refine box_event ?hg (N := 4) ?hd (cs := #[.int .i64 0, .int .i64 0, .string (⟨#[]⟩ : ByteArray), .int .i64 0, .int .i64 0, .string (⟨#[]⟩ : ByteArray), .slice none 0 0]) (t := 63) ?hr ?_; (case hd => rfl); (case hg => rfl); (case hr => first | (go_simp; done) | (go_simp; rfl)); intro gb207 hg w14 hbox hb; have BK207 := Aside0.mk (hbox); have GW207 := Aside0.mk (gsz hg bl : w.heap.size ≤ gb207); have GE207 := Aside0.mk (gsz hg bl : w.heap.size ≤ gb207); replace HB := Aside0.mk (below_step bl hb); clear hb hbox hg; obtain ⟨hcz15_0, hcz15_1, hcz15_2, hcz15_3, hcz15_4, hcz15_5, hcz15_6⟩ := cells7 BK207.out; obtain ⟨hfz15_0, hfz15_1, hfz15_2, hfz15_3, hfz15_4, hfz15_5, hfz15_6⟩ := froz7 BK207.out) | (go_at_call 59; (with_reducible refine (tree_blank.calls ((rd_T63 l0 x7_1).f1.f0) ((rd_T63 l0 x7_1).f1.f1) ((rd_T63 l0 x7_1).f1.f2.f0) ((rd_T63 l0 x7_1).f1.f2.f1) ((rd_T63 l0 x7_1).f1.f2.f2) _ _ ((rd_T63 l0 x7_1).f1.f3) false _ ?side1 ?side2 A9.out).mono ?_); (case side1 => exact Kd.C_below HR206_6.out bl); (case side2 => exact HC206_6.out); rintro e w16 ⟨rfl, hb⟩; replace BK207 := Aside0.mk (blk_below (g := gb207) (o := .cells #[.int .i64 ((rd_T63 l0 x7_1).f0), .int .i64 ((rd_T63 l0 x7_1).f1.f0), .string ((rd_T63 l0 x7_1).f1.f1), .int .i64 ((rd_T63 l0 x7_1).f1.f2.f0), .int .i64 ((rd_T63 l0 x7_1).f1.f2.f1), .string ((rd_T63 l0 x7_1).f1.f2.f2), .slice A206_6 ((rd_T63 l0 x7_1).f1.f3).length c206_6] 63 (0, 0)) bp7 hb); replace HB := Aside0.mk (below_step bl hb); (try clear hb)))
         go_ret
         exact ⟨er, bl⟩
      ·rw [if_neg c5] at H
       have c5b0 : (((rd_T63 l0 x7_1).f0) == 1) = false := beq_eq_false_iff_ne.mpr c5
       have c5b1 : (((rd_T63 l0 x7_1).f0) != 1) = true := bne_iff_ne.mpr c5
       by_cases c17 : ((rd_T63 l0 x7_1).f0) = 3
       ·rw [if_pos c17] at H
        have c17b0 : (((rd_T63 l0 x7_1).f0) == 3) = true := beq_iff_eq.mpr c17
        have c17b1 : (((rd_T63 l0 x7_1).f0) != 3) = false := bne_eq_false_iff_eq.mpr c17
        clear c17
        obtain ⟨t209, A180, H⟩ := bind_out H
        have A18 := Aside0.mk A180
        clear A180
        by_cases c19 : t209 = true
        ·subst c19
         rw [if_pos rfl] at H
         have H' := Aside0.mk H
         clear H
         have p206 : 0 ≤ (x7_1 : Int) := of_decide_eq_true (by assumption)
         have q206 : x7_1 < (l0.length : Int) := of_decide_eq_true (by assumption)
         obtain ⟨ad206, A206_6, c206_6, e206, hx206_0, hx206_1, hx206_2, hx206_3, hx206_4, hx206_5, hx206_6, hl206_6, hi206_6⟩ := at_T63 HR0.out x7_1 p206 q206
         cases e206
         replace hx206_0 := lx HB hx206_0
         replace hx206_1 := lx HB hx206_1
         replace hx206_2 := lx HB hx206_2
         replace hx206_3 := lx HB hx206_3
         replace hx206_4 := lx HB hx206_4
         replace hx206_5 := lx HB hx206_5
         replace hx206_6 := lx HB hx206_6
         have HR206_6 := Aside0.mk hi206_6
         have HC206_6 := Aside0.mk hl206_6
         clear hi206_6 hl206_6
         replace p206 := eq_true p206
         replace q206 := eq_true q206
         go_wp2_with (first | ((with_reducible refine gate_dst (N := 4) rfl ?_); (try (refine gate_guard (by rfl) ?_; dsimp only)); refine box_event ?hg (N := 4) ?hd (cs := #[.int .i64 0, .int .i64 0, .string (⟨#[]⟩ : ByteArray), .int .i64 0, .int .i64 0, .string (⟨#[]⟩ : ByteArray), .slice none 0 0]) (t := 63) ?hr ?_; (case hd => rfl); (case hg => rfl); (case hr => first | (go_simp; done) | (go_simp; rfl)); intro gb207 hg w20 hbox hb; have BK207 := Aside0.mk (hbox); have GW207 := Aside0.mk (gsz hg bl : w.heap.size ≤ gb207); have GE207 := Aside0.mk (gsz hg bl : w.heap.size ≤ gb207); replace HB := Aside0.mk (below_step bl hb); clear hb hbox hg; obtain ⟨hcz21_0, hcz21_1, hcz21_2, hcz21_3, hcz21_4, hcz21_5, hcz21_6⟩ := cells7 BK207.out; obtain ⟨hfz21_0, hfz21_1, hfz21_2, hfz21_3, hfz21_4, hfz21_5, hfz21_6⟩ := froz7 BK207.out) | ((with_reducible refine gate_callee (f := 59) rfl ?_); refine goesL_ (some 28) rfl rfl Tryz.func59 (by kernel_rfl) rfl #[.agg #[.int .i64 ((rd_T63 l0 x7_1).f1.f0), .string ((rd_T63 l0 x7_1).f1.f1), .int .i64 ((rd_T63 l0 x7_1).f1.f2.f0), .int .i64 ((rd_T63 l0 x7_1).f1.f2.f1), .string ((rd_T63 l0 x7_1).f1.f2.f2), .slice A206_6 ((rd_T63 l0 x7_1).f1.f3).length c206_6]] rfl mp ?_; (with_reducible refine (tree_blank.calls ((rd_T63 l0 x7_1).f1.f0) ((rd_T63 l0 x7_1).f1.f1) ((rd_T63 l0 x7_1).f1.f2.f0) ((rd_T63 l0 x7_1).f1.f2.f1) ((rd_T63 l0 x7_1).f1.f2.f2) _ _ ((rd_T63 l0 x7_1).f1.f3) true _ ?side1 ?side2 A18.out).mono ?_); (case side1 => exact Kd.C_below HR206_6.out bl); (case side2 => exact HC206_6.out); rintro e w22 ⟨rfl, hb⟩; refine ⟨_, rfl, ?_⟩; replace BK207 := Aside0.mk (blk_below (g := gb207) (o := .cells #[.int .i64 ((rd_T63 l0 x7_1).f0), .int .i64 ((rd_T63 l0 x7_1).f1.f0), .string ((rd_T63 l0 x7_1).f1.f1), .int .i64 ((rd_T63 l0 x7_1).f1.f2.f0), .int .i64 ((rd_T63 l0 x7_1).f1.f2.f1), .string ((rd_T63 l0 x7_1).f1.f2.f2), .slice A206_6 ((rd_T63 l0 x7_1).f1.f3).length c206_6] 63 (0, 0)) bp7 hb); replace HB := Aside0.mk (below_step bl hb); (try clear hb)))
         go_roundg k1
         case measure => have := HK1.out; omega
         case rel => exact ⟨(wrap64 (x7_1 + 1)), rs, H', ⟨by have := HK1.out; omega⟩, ⟨bl⟩⟩
        ·replace c19 := Bool.eq_false_iff.mpr c19
         subst c19
         rw [if_neg (show ¬ (false = true) by decide)] at H
         obtain rfl := Option.some.inj H
         have p206 : 0 ≤ (x7_1 : Int) := of_decide_eq_true (by assumption)
         have q206 : x7_1 < (l0.length : Int) := of_decide_eq_true (by assumption)
         obtain ⟨ad206, A206_6, c206_6, e206, hx206_0, hx206_1, hx206_2, hx206_3, hx206_4, hx206_5, hx206_6, hl206_6, hi206_6⟩ := at_T63 HR0.out x7_1 p206 q206
         cases e206
         replace hx206_0 := lx HB hx206_0
         replace hx206_1 := lx HB hx206_1
         replace hx206_2 := lx HB hx206_2
         replace hx206_3 := lx HB hx206_3
         replace hx206_4 := lx HB hx206_4
         replace hx206_5 := lx HB hx206_5
         replace hx206_6 := lx HB hx206_6
         have HR206_6 := Aside0.mk hi206_6
         have HC206_6 := Aside0.mk hl206_6
         clear hi206_6 hl206_6
         replace p206 := eq_true p206
         replace q206 := eq_true q206
         go_wp2_with (first | ((with_reducible refine gate_dst (N := 4) rfl ?_); (try (refine gate_guard (by rfl) ?_; dsimp only)); refine box_event ?hg (N := 4) ?hd (cs := #[.int .i64 0, .int .i64 0, .string (⟨#[]⟩ : ByteArray), .int .i64 0, .int .i64 0, .string (⟨#[]⟩ : ByteArray), .slice none 0 0]) (t := 63) ?hr ?_; (case hd => rfl); (case hg => rfl); (case hr => first | (go_simp; done) | (go_simp; rfl)); intro gb207 hg w23 hbox hb; have BK207 := Aside0.mk (hbox); have GW207 := Aside0.mk (gsz hg bl : w.heap.size ≤ gb207); have GE207 := Aside0.mk (gsz hg bl : w.heap.size ≤ gb207); replace HB := Aside0.mk (below_step bl hb); clear hb hbox hg; obtain ⟨hcz24_0, hcz24_1, hcz24_2, hcz24_3, hcz24_4, hcz24_5, hcz24_6⟩ := cells7 BK207.out; obtain ⟨hfz24_0, hfz24_1, hfz24_2, hfz24_3, hfz24_4, hfz24_5, hfz24_6⟩ := froz7 BK207.out) | ((with_reducible refine gate_callee (f := 59) rfl ?_); refine goesL_ (some 28) rfl rfl Tryz.func59 (by kernel_rfl) rfl #[.agg #[.int .i64 ((rd_T63 l0 x7_1).f1.f0), .string ((rd_T63 l0 x7_1).f1.f1), .int .i64 ((rd_T63 l0 x7_1).f1.f2.f0), .int .i64 ((rd_T63 l0 x7_1).f1.f2.f1), .string ((rd_T63 l0 x7_1).f1.f2.f2), .slice A206_6 ((rd_T63 l0 x7_1).f1.f3).length c206_6]] rfl mp ?_; (with_reducible refine (tree_blank.calls ((rd_T63 l0 x7_1).f1.f0) ((rd_T63 l0 x7_1).f1.f1) ((rd_T63 l0 x7_1).f1.f2.f0) ((rd_T63 l0 x7_1).f1.f2.f1) ((rd_T63 l0 x7_1).f1.f2.f2) _ _ ((rd_T63 l0 x7_1).f1.f3) false _ ?side1 ?side2 A18.out).mono ?_); (case side1 => exact Kd.C_below HR206_6.out bl); (case side2 => exact HC206_6.out); rintro e w25 ⟨rfl, hb⟩; refine ⟨_, rfl, ?_⟩; replace BK207 := Aside0.mk (blk_below (g := gb207) (o := .cells #[.int .i64 ((rd_T63 l0 x7_1).f0), .int .i64 ((rd_T63 l0 x7_1).f1.f0), .string ((rd_T63 l0 x7_1).f1.f1), .int .i64 ((rd_T63 l0 x7_1).f1.f2.f0), .int .i64 ((rd_T63 l0 x7_1).f1.f2.f1), .string ((rd_T63 l0 x7_1).f1.f2.f2), .slice A206_6 ((rd_T63 l0 x7_1).f1.f3).length c206_6] 63 (0, 0)) bp7 hb); replace HB := Aside0.mk (below_step bl hb); (try clear hb)))
         go_ret
         exact ⟨er, bl⟩
       ·rw [if_neg c17] at H
        have c17b0 : (((rd_T63 l0 x7_1).f0) == 3) = false := beq_eq_false_iff_ne.mpr c17
        have c17b1 : (((rd_T63 l0 x7_1).f0) != 3) = true := bne_iff_ne.mpr c17
        have HC26 := Aside0.mk H
        clear H
        have p206 : 0 ≤ (x7_1 : Int) := of_decide_eq_true (by assumption)
        have q206 : x7_1 < (l0.length : Int) := of_decide_eq_true (by assumption)
        obtain ⟨ad206, A206_6, c206_6, e206, hx206_0, hx206_1, hx206_2, hx206_3, hx206_4, hx206_5, hx206_6, hl206_6, hi206_6⟩ := at_T63 HR0.out x7_1 p206 q206
        cases e206
        replace hx206_0 := lx HB hx206_0
        replace hx206_1 := lx HB hx206_1
        replace hx206_2 := lx HB hx206_2
        replace hx206_3 := lx HB hx206_3
        replace hx206_4 := lx HB hx206_4
        replace hx206_5 := lx HB hx206_5
        replace hx206_6 := lx HB hx206_6
        have HR206_6 := Aside0.mk hi206_6
        have HC206_6 := Aside0.mk hl206_6
        clear hi206_6 hl206_6
        replace p206 := eq_true p206
        replace q206 := eq_true q206
        go_upto_if 30 with (first | ((with_reducible refine gate_dst (N := 4) rfl ?_); (try (refine gate_guard (by rfl) ?_; dsimp only)); refine box_event ?hg (N := 4) ?hd (cs := #[.int .i64 0, .int .i64 0, .string (⟨#[]⟩ : ByteArray), .int .i64 0, .int .i64 0, .string (⟨#[]⟩ : ByteArray), .slice none 0 0]) (t := 63) ?hr ?_; (case hd => rfl); (case hg => rfl); (case hr => first | (go_simp; done) | (go_simp; rfl)); intro gb207 hg w27 hbox hb; have BK207 := Aside0.mk (hbox); have GW207 := Aside0.mk (gsz hg bl : w.heap.size ≤ gb207); have GE207 := Aside0.mk (gsz hg bl : w.heap.size ≤ gb207); replace HB := Aside0.mk (below_step bl hb); clear hb hbox hg; obtain ⟨hcz28_0, hcz28_1, hcz28_2, hcz28_3, hcz28_4, hcz28_5, hcz28_6⟩ := cells7 BK207.out; obtain ⟨hfz28_0, hfz28_1, hfz28_2, hfz28_3, hfz28_4, hfz28_5, hfz28_6⟩ := froz7 BK207.out))
        (try simp only [Act.put, List.setIfInBounds_toArray, List.set_cons_zero, List.set_cons_succ])
        go_cut [30] (fun v30 wc => ∃ (kq : Nat) (x30_25 : Bool), v30 = .bool x30_25 ∧ Aside0 (tree_mayItems.j1 kq l0 l0 (l0.length : Int) x7_1 x30_25 ((rd_T63 l0 x7_1).f0) ((rd_T63 l0 x7_1).f1.f0) ((rd_T63 l0 x7_1).f1.f1) ((rd_T63 l0 x7_1).f1.f2.f0) ((rd_T63 l0 x7_1).f1.f2.f1) ((rd_T63 l0 x7_1).f1.f2.f2) ((rd_T63 l0 x7_1).f1.f3) = some r) ∧ Aside0 (kq ≤ k1) ∧ Aside0 (wc.heap[gb207]? = some (.cells #[.int .i64 ((rd_T63 l0 x7_1).f0), .int .i64 ((rd_T63 l0 x7_1).f1.f0), .string ((rd_T63 l0 x7_1).f1.f1), .int .i64 ((rd_T63 l0 x7_1).f1.f2.f0), .int .i64 ((rd_T63 l0 x7_1).f1.f2.f1), .string ((rd_T63 l0 x7_1).f1.f2.f2), (.slice A206_6 ((rd_T63 l0 x7_1).f1.f3).length c206_6)] 63 (0, 0))) ∧ Aside0 (Below w.heap.size w wc))
        case first =>
         have H := HC26.out
         clear HC26
         by_cases c29 : ((rd_T63 l0 x7_1).f0) = 2
         ·rw [if_pos c29] at H
          have c29b0 : (((rd_T63 l0 x7_1).f0) == 2) = true := beq_iff_eq.mpr c29
          have c29b1 : (((rd_T63 l0 x7_1).f0) != 2) = false := bne_eq_false_iff_eq.mpr c29
          clear c29
          (first | rw [c29b0] | (simp only [i64_w, i32_w]; rw [c29b0]) | skip)
          have H' := Aside0.mk H
          clear H
          go_wp2
          go_meet
          case rel => exact ⟨_, ((((rd_T63 l0 x7_1).f0) == 2)), rs, H', ⟨by have := HK1.out; first | omega | exact Nat.le_refl _⟩, ⟨bp7⟩, ⟨bl⟩⟩
         ·rw [if_neg c29] at H
          have c29b0 : (((rd_T63 l0 x7_1).f0) == 2) = false := beq_eq_false_iff_ne.mpr c29
          have c29b1 : (((rd_T63 l0 x7_1).f0) != 2) = true := bne_iff_ne.mpr c29
          (first | rw [c29b0] | (simp only [i64_w, i32_w]; rw [c29b0]) | skip)
          have H' := Aside0.mk H
          clear H
          go_wp2
          go_meet
          case rel => exact ⟨_, ((((rd_T63 l0 x7_1).f0) == 4)), rs, H', ⟨by have := HK1.out; first | omega | exact Nat.le_refl _⟩, ⟨bp7⟩, ⟨bl⟩⟩
        case rest =>
         clear HC26
         try clear c2
         try clear c2b0
         try clear c3
         try clear c3b0
         try clear c4
         try clear c4b0
         try clear c5
         try clear c5b0
         try clear c5b1
         try clear c17
         try clear c17b0
         try clear c17b1
         try clear hcz28_0 hcz28_1 hcz28_2 hcz28_3 hcz28_4 hcz28_5 hcz28_6 hfz28_0 hfz28_1 hfz28_2 hfz28_3 hfz28_4 hfz28_5 hfz28_6
         try clear hx206_0
         try clear hx206_1
         try clear hx206_2
         try clear hx206_3
         try clear hx206_4
         try clear hx206_5
         try clear hx206_6
         try clear p206
         try clear q206
         obtain ⟨kq, x30_25, rfl, HA, HJ25, BK207, HB⟩ := hcut
         cases kq with
         | zero => exact absurd HA.out (by simp [tree_mayItems.j1])
         | succ kj25 =>
          have H := HA.out
          clear HA
          simp only [tree_mayItems.j1] at H
          by_cases c30 : x30_25 = true
          ·subst c30
           rw [if_pos rfl] at H
           obtain ⟨t210, A310, H⟩ := bind_out H
           have A31 := Aside0.mk A310
           clear A310
           by_cases c32 : t210 = true
           ·subst c32
            rw [if_pos rfl] at H
            have H' := Aside0.mk H
            clear H
            have hcz33_0 : wc.cell? ⟨gb207, 0, none⟩ = some (.int .i64 ((rd_T63 l0 x7_1).f0)) := (blk_cell BK207.out 0).trans rfl
            have hcz33_1 : wc.cell? ⟨gb207, 1, none⟩ = some (.int .i64 ((rd_T63 l0 x7_1).f1.f0)) := (blk_cell BK207.out 1).trans rfl
            have hcz33_2 : wc.cell? ⟨gb207, 2, none⟩ = some (.string ((rd_T63 l0 x7_1).f1.f1)) := (blk_cell BK207.out 2).trans rfl
            have hcz33_3 : wc.cell? ⟨gb207, 3, none⟩ = some (.int .i64 ((rd_T63 l0 x7_1).f1.f2.f0)) := (blk_cell BK207.out 3).trans rfl
            have hcz33_4 : wc.cell? ⟨gb207, 4, none⟩ = some (.int .i64 ((rd_T63 l0 x7_1).f1.f2.f1)) := (blk_cell BK207.out 4).trans rfl
            have hcz33_5 : wc.cell? ⟨gb207, 5, none⟩ = some (.string ((rd_T63 l0 x7_1).f1.f2.f2)) := (blk_cell BK207.out 5).trans rfl
            have hcz33_6 : wc.cell? ⟨gb207, 6, none⟩ = some (.slice A206_6 ((rd_T63 l0 x7_1).f1.f3).length c206_6) := (blk_cell BK207.out 6).trans rfl
            have hfz33_0 := blk_frozen BK207.out 0
            have hfz33_1 := blk_frozen BK207.out 1
            have hfz33_2 := blk_frozen BK207.out 2
            have hfz33_3 := blk_frozen BK207.out 3
            have hfz33_4 := blk_frozen BK207.out 4
            have hfz33_5 := blk_frozen BK207.out 5
            have hfz33_6 := blk_frozen BK207.out 6
            go_wp2_with (first | ((with_reducible refine gate_callee (f := 58) rfl ?_); refine goesL_ (some 35) rfl rfl Tryz.func58 (by kernel_rfl) rfl #[.agg #[.int .i64 ((rd_T63 l0 x7_1).f1.f0), .string ((rd_T63 l0 x7_1).f1.f1), .int .i64 ((rd_T63 l0 x7_1).f1.f2.f0), .int .i64 ((rd_T63 l0 x7_1).f1.f2.f1), .string ((rd_T63 l0 x7_1).f1.f2.f2), .slice A206_6 ((rd_T63 l0 x7_1).f1.f3).length c206_6], .int .i64 16] rfl mp ?_; (with_reducible refine (tree_mayExpr.calls kj25 ((rd_T63 l0 x7_1).f1.f0) ((rd_T63 l0 x7_1).f1.f1) ((rd_T63 l0 x7_1).f1.f2.f0) ((rd_T63 l0 x7_1).f1.f2.f1) ((rd_T63 l0 x7_1).f1.f2.f2) _ _ ((rd_T63 l0 x7_1).f1.f3) 16 true _ ?side1 ?side2 ?side3 A31.out).mono ?_); (case side1 => exact kc HR206_6.out); (case side2 => exact HC206_6.out); (case side3 => exact Sh.below hsh bl); rintro e w34 ⟨rfl, hb⟩; refine ⟨_, rfl, ?_⟩; replace BK207 := Aside0.mk (blk_below (g := gb207) (o := .cells #[.int .i64 ((rd_T63 l0 x7_1).f0), .int .i64 ((rd_T63 l0 x7_1).f1.f0), .string ((rd_T63 l0 x7_1).f1.f1), .int .i64 ((rd_T63 l0 x7_1).f1.f2.f0), .int .i64 ((rd_T63 l0 x7_1).f1.f2.f1), .string ((rd_T63 l0 x7_1).f1.f2.f2), .slice A206_6 ((rd_T63 l0 x7_1).f1.f3).length c206_6] 63 (0, 0)) bk hb); replace HB := Aside0.mk (below_step bl hb); (try clear hb)))
            go_roundg kj25
            case measure => have := HK1.out; have := HJ25.out; omega
            case rel => exact ⟨(wrap64 (x7_1 + 1)), rs, H', ⟨by have := HK1.out; have := HJ25.out; omega⟩, ⟨bl⟩⟩
           ·replace c32 := Bool.eq_false_iff.mpr c32
            subst c32
            rw [if_neg (show ¬ (false = true) by decide)] at H
            obtain rfl := Option.some.inj H
            have hcz35_0 : wc.cell? ⟨gb207, 0, none⟩ = some (.int .i64 ((rd_T63 l0 x7_1).f0)) := (blk_cell BK207.out 0).trans rfl
            have hcz35_1 : wc.cell? ⟨gb207, 1, none⟩ = some (.int .i64 ((rd_T63 l0 x7_1).f1.f0)) := (blk_cell BK207.out 1).trans rfl
            have hcz35_2 : wc.cell? ⟨gb207, 2, none⟩ = some (.string ((rd_T63 l0 x7_1).f1.f1)) := (blk_cell BK207.out 2).trans rfl
            have hcz35_3 : wc.cell? ⟨gb207, 3, none⟩ = some (.int .i64 ((rd_T63 l0 x7_1).f1.f2.f0)) := (blk_cell BK207.out 3).trans rfl
            have hcz35_4 : wc.cell? ⟨gb207, 4, none⟩ = some (.int .i64 ((rd_T63 l0 x7_1).f1.f2.f1)) := (blk_cell BK207.out 4).trans rfl
            have hcz35_5 : wc.cell? ⟨gb207, 5, none⟩ = some (.string ((rd_T63 l0 x7_1).f1.f2.f2)) := (blk_cell BK207.out 5).trans rfl
            have hcz35_6 : wc.cell? ⟨gb207, 6, none⟩ = some (.slice A206_6 ((rd_T63 l0 x7_1).f1.f3).length c206_6) := (blk_cell BK207.out 6).trans rfl
            have hfz35_0 := blk_frozen BK207.out 0
            have hfz35_1 := blk_frozen BK207.out 1
            have hfz35_2 := blk_frozen BK207.out 2
            have hfz35_3 := blk_frozen BK207.out 3
            have hfz35_4 := blk_frozen BK207.out 4
            have hfz35_5 := blk_frozen BK207.out 5
            have hfz35_6 := blk_frozen BK207.out 6
            go_wp2_with (first | ((with_reducible refine gate_callee (f := 58) rfl ?_); refine goesL_ (some 35) rfl rfl Tryz.func58 (by kernel_rfl) rfl #[.agg #[.int .i64 ((rd_T63 l0 x7_1).f1.f0), .string ((rd_T63 l0 x7_1).f1.f1), .int .i64 ((rd_T63 l0 x7_1).f1.f2.f0), .int .i64 ((rd_T63 l0 x7_1).f1.f2.f1), .string ((rd_T63 l0 x7_1).f1.f2.f2), .slice A206_6 ((rd_T63 l0 x7_1).f1.f3).length c206_6], .int .i64 16] rfl mp ?_; (with_reducible refine (tree_mayExpr.calls kj25 ((rd_T63 l0 x7_1).f1.f0) ((rd_T63 l0 x7_1).f1.f1) ((rd_T63 l0 x7_1).f1.f2.f0) ((rd_T63 l0 x7_1).f1.f2.f1) ((rd_T63 l0 x7_1).f1.f2.f2) _ _ ((rd_T63 l0 x7_1).f1.f3) 16 false _ ?side1 ?side2 ?side3 A31.out).mono ?_); (case side1 => exact kc HR206_6.out); (case side2 => exact HC206_6.out); (case side3 => exact Sh.below hsh bl); rintro e w36 ⟨rfl, hb⟩; refine ⟨_, rfl, ?_⟩; replace BK207 := Aside0.mk (blk_below (g := gb207) (o := .cells #[.int .i64 ((rd_T63 l0 x7_1).f0), .int .i64 ((rd_T63 l0 x7_1).f1.f0), .string ((rd_T63 l0 x7_1).f1.f1), .int .i64 ((rd_T63 l0 x7_1).f1.f2.f0), .int .i64 ((rd_T63 l0 x7_1).f1.f2.f1), .string ((rd_T63 l0 x7_1).f1.f2.f2), .slice A206_6 ((rd_T63 l0 x7_1).f1.f3).length c206_6] 63 (0, 0)) bk hb); replace HB := Aside0.mk (below_step bl hb); (try clear hb)))
            go_ret
            exact ⟨er, bl⟩
          ·replace c30 := Bool.eq_false_iff.mpr c30
           subst c30
           rw [if_neg (show ¬ (false = true) by decide)] at H
           obtain rfl := Option.some.inj H
           go_wp2
           go_ret
           exact ⟨er, bl⟩
     ·rw [if_neg c4] at H
      exact absurd H (by simp)
    ·rw [if_neg c3] at H
     exact absurd H (by simp)
   ·rw [if_neg c2] at H
    have c2b0 : decide (x7_1 < (l0.length : Int)) = false := decide_eq_false c2
    clear c2
    by_cases c37 : (l0.length : Int) ≥ 1
    ·rw [if_pos c37] at H
     have c37b0 : decide (1 ≤ (l0.length : Int)) = true := decide_eq_true c37
     have c37b1 : decide (1 ≤ l0.length) = true := decide_eq_true (by omega)
     clear c37
     obtain rfl := Option.some.inj H
     go_wp2
     go_ret
     exact ⟨er, bl⟩
    ·rw [if_neg c37] at H
     have c37b0 : decide (1 ≤ (l0.length : Int)) = false := decide_eq_false c37
     have c37b1 : decide (1 ≤ l0.length) = false := decide_eq_false (by omega)
     clear c37
     obtain rfl := Option.some.inj H
     go_wp2
     go_ret
     exact ⟨er, bl⟩
end Go.Proofs.YtlpnlfahlcingaaGreatDoor.PL
end
section
namespace Go.Proofs.YtlpnlfahlcingaaGreatDoor.PL
open Go.RowKit Go.Proofs.YtlpnlfahlcingaaGreatDoorW.PrintWords Go.Proofs.YtlpnlfahlcingaaGreatDoorW.PrintLast Go.Proofs.YtlpnlfahlcingaaGreatDoorW.PrintMore
attribute [local go_sem] max2_int min2_int max_two min_two max_three min_three max_four min_four
attribute [local go_sem ↓] isSome_setCell
set_option linter.unusedVariables false
set_option linter.unusedSimpArgs false
def tree_mayRows_1.f (k : Nat) (a0_0 : Int) (a0_1 : ByteArray) (a0_2 : Int) (a0_3 : Int) (a0_4 : ByteArray) (l0_5 : List (S34)) : Option (Bool) := (tree_mayExpr.f k a0_0 a0_1 a0_2 a0_3 a0_4 l0_5 16).bind fun t212 => (some (!t212))
theorem tree_mayRows_1.mono : ∀ a0 a1 a2 a3 a4 a5 k, LeO (tree_mayRows_1.f k a0 a1 a2 a3 a4 a5) (tree_mayRows_1.f (k + 1) a0 a1 a2 a3 a4 a5) := by
 intro a0 a1 a2 a3 a4 a5 k
 unfold tree_mayRows_1.f
 repeat' first
   | (with_reducible exact tree_mayExpr.mono _ _ _ _ _ _ _ _)
   | (with_reducible exact LeO.refl _)
   | (with_reducible exact LeO.none _)
   | (with_reducible refine LeO.ite ?_ ?_)
   | (with_reducible refine LeO.bind ?_ (fun _ => ?_))
   | exact tree_mayExpr.mono _ _ _ _ _ _ _ _
   | exact LeO.none _
   | refine LeO.ite ?_ ?_
   | refine LeO.bind ?_ (fun _ => ?_)
set_option maxHeartbeats 8000000 in
set_option maxRecDepth 100000 in
theorem tree_mayRows_1.calls (k : Nat) (a0_0 : Int) (a0_1 : ByteArray) (a0_2 : Int) (a0_3 : Int) (a0_4 : ByteArray) (A0_5 : Option Addr) (c0_5 : Nat) (l0_5 : List (S34)) (r : Bool) (w : World) (hr0_5 : Kd.C k34 w A0_5 l0_5.length l0_5) (hc0_5 : l0_5.length ≤ c0_5) (hsh : Sh w) (h : tree_mayRows_1.f k a0_0 a0_1 a0_2 a0_3 a0_4 l0_5 = some r) :
  Calls Tryz.prog 103 #[.agg #[.int .i64 a0_0, .string a0_1, .int .i64 a0_2, .int .i64 a0_3, .string a0_4, .slice A0_5 l0_5.length c0_5]] w fun e w' => e = .returned (.bool r) ∧ Below w.heap.size w w' := by
 have hu34 := Tryz.underlying34
 have HR0_5 := Aside0.mk hr0_5
 have HC0_5 := Aside0.mk hc0_5
 clear hr0_5 hc0_5
 have HB := Aside0.mk (Below.refl w.heap.size w)
 have H : ((tree_mayExpr.f k a0_0 a0_1 a0_2 a0_3 a0_4 l0_5 16).bind fun t212 => (some (!t212))) = some r := h
 clear h
 obtain ⟨t212, A20, H⟩ := bind_out H
 have A2 := Aside0.mk A20
 clear A20
 obtain rfl := Option.some.inj H
 go_enter Tryz.func103, Tryz.ntmps103
 go_wp2_with (first | ((with_reducible refine gate_dst (N := 1) rfl ?_); refine box_ev (N := 1) (cs := #[.int .i64 a0_0, .string a0_1, .int .i64 a0_2, .int .i64 a0_3, .string a0_4, .slice A0_5 l0_5.length c0_5]) (t := 34) ?_; intro gb211 hg w3 hbox hb; have BK211 := Aside0.mk (hbox); have GW211 := Aside0.mk (gsz hg bl : w.heap.size ≤ gb211); have GE211 := Aside0.mk (gsz hg bl : w.heap.size ≤ gb211); replace HB := Aside0.mk (below_step bl hb); clear hb hbox hg; obtain ⟨hcz4_0, hcz4_1, hcz4_2, hcz4_3, hcz4_4, hcz4_5⟩ := cells6 BK211.out; obtain ⟨hfz4_0, hfz4_1, hfz4_2, hfz4_3, hfz4_4, hfz4_5⟩ := froz6 BK211.out) | ((with_reducible refine gate_callee (f := 58) rfl ?_); refine goesL_ (some 4) rfl rfl Tryz.func58 (by kernel_rfl) rfl #[.agg #[.int .i64 a0_0, .string a0_1, .int .i64 a0_2, .int .i64 a0_3, .string a0_4, .slice A0_5 l0_5.length c0_5], .int .i64 16] rfl mp ?_; (with_reducible refine (tree_mayExpr.calls k a0_0 a0_1 a0_2 a0_3 a0_4 _ _ l0_5 16 t212 _ ?side1 ?side2 ?side3 A2.out).mono ?_); (case side1 => exact kc HR0_5.out); (case side2 => exact HC0_5.out); (case side3 => exact Sh.below hsh bl); rintro e w5 ⟨rfl, hb⟩; refine ⟨_, rfl, ?_⟩; replace BK211 := Aside0.mk (blk_below (g := gb211) (o := .cells #[.int .i64 a0_0, .string a0_1, .int .i64 a0_2, .int .i64 a0_3, .string a0_4, .slice A0_5 l0_5.length c0_5] 34 (0, 0)) bk hb); replace HB := Aside0.mk (below_step bl hb); (try clear hb)))
 go_ret
 exact ⟨er, bl⟩
def api_Expr__of_mayRows_1_125.l0 : Nat → List (S34) → Int → Int → Option (Int)
 | 0, _, _, _ => none
 | k + 1, x0, x7, x8 => if x8 < x7 then (if 0 ≤ x8 then (if x8 < (x0.length : Int) then ((tree_mayRows_1.f k ((rd_T34 x0 x8).f0) ((rd_T34 x0 x8).f1) ((rd_T34 x0 x8).f2.f0) ((rd_T34 x0 x8).f2.f1) ((rd_T34 x0 x8).f2.f2) ((rd_T34 x0 x8).f3)).bind fun t214 => (if t214 = true then (some x8) else (api_Expr__of_mayRows_1_125.l0 k x0 x7 (wrap64 (x8 + 1))))) else (none)) else (none)) else (some (-1))
def api_Expr__of_mayRows_1_125.f (k : Nat) (l0 : List (S34))  : Option (Int) := api_Expr__of_mayRows_1_125.l0 k l0 (l0.length : Int) 0
theorem api_Expr__of_mayRows_1_125.mono_l : ∀ k, (∀ y0 y1 y2, LeO (api_Expr__of_mayRows_1_125.l0 k y0 y1 y2) (api_Expr__of_mayRows_1_125.l0 (k + 1) y0 y1 y2))
 | 0 => fun _ _ _ r h => by simp [api_Expr__of_mayRows_1_125.l0] at h
 | k + 1 => by
  have ih0 := api_Expr__of_mayRows_1_125.mono_l k
  ·intro y0 y1 y2
   unfold api_Expr__of_mayRows_1_125.l0
   repeat' first
   | (with_reducible exact ih0 _ _ _)
   | (with_reducible exact tree_mayRows_1.mono _ _ _ _ _ _ _)
   | (with_reducible exact LeO.refl _)
   | (with_reducible exact LeO.none _)
   | (with_reducible refine LeO.ite ?_ ?_)
   | (with_reducible refine LeO.bind ?_ (fun _ => ?_))
   | exact ih0 _ _ _
   | exact tree_mayRows_1.mono _ _ _ _ _ _ _
   | exact LeO.none _
   | refine LeO.ite ?_ ?_
   | refine LeO.bind ?_ (fun _ => ?_)
theorem api_Expr__of_mayRows_1_125.mono : ∀ a0 k, LeO (api_Expr__of_mayRows_1_125.f k a0) (api_Expr__of_mayRows_1_125.f (k + 1) a0) := by
 intro a0 k
 have ih0 := api_Expr__of_mayRows_1_125.mono_l k
 unfold api_Expr__of_mayRows_1_125.f
 repeat' first
   | (with_reducible exact ih0 _ _ _)
   | (with_reducible exact tree_mayRows_1.mono _ _ _ _ _ _ _)
   | (with_reducible exact LeO.refl _)
   | (with_reducible exact LeO.none _)
   | (with_reducible refine LeO.ite ?_ ?_)
   | (with_reducible refine LeO.bind ?_ (fun _ => ?_))
   | exact ih0 _ _ _
   | exact tree_mayRows_1.mono _ _ _ _ _ _ _
   | exact LeO.none _
   | refine LeO.ite ?_ ?_
   | refine LeO.bind ?_ (fun _ => ?_)
set_option maxHeartbeats 8000000 in
set_option maxRecDepth 100000 in
theorem api_Expr__of_mayRows_1_125.calls (k : Nat) (A0 : Option Addr) (c0 : Nat) (l0 : List (S34))  (r : Int) (w : World) (hr0 : Kd.C k34 w A0 l0.length l0) (hc0 : l0.length ≤ c0) (hsh : Sh w) (h : api_Expr__of_mayRows_1_125.f k l0 = some r) :
  Calls Tryz.prog 125 #[.slice A0 l0.length c0, .func (.func 103) #[] #[]] w fun e w' => e = .returned (.int .i64 r) ∧ Below w.heap.size w w' := by
 have hu34 := Tryz.underlying34
 have HR0 := Aside0.mk hr0
 have HC0 := Aside0.mk hc0
 clear hr0 hc0
 have HB := Aside0.mk (Below.refl w.heap.size w)
 have H : (api_Expr__of_mayRows_1_125.l0 k l0 (l0.length : Int) 0) = some r := h
 clear h
 have H' := Aside0.mk H
 clear H
 go_enter Tryz.func125, Tryz.ntmps125
 go_wp2
 go_loopg [8] k (fun kq v8 w' => ∃ (x8_1 : Int), v8 = .int .i64 x8_1 ∧ Aside0 (api_Expr__of_mayRows_1_125.l0 kq l0 (l0.length : Int) x8_1 = some r) ∧ Aside0 (kq ≤ k) ∧ Aside0 (Below w.heap.size w w'))
 case atStart => exact ⟨(0), rs, H', ⟨Nat.le_refl _⟩, ⟨bl⟩⟩
 case round =>
  clear H'
  obtain ⟨x8_1, rfl, HA, HK1, HB⟩ := hrel
  cases gk with
  | zero => exact absurd HA.out (by simp [api_Expr__of_mayRows_1_125.l0])
  | succ k1 =>
   have H := HA.out
   clear HA
   simp only [api_Expr__of_mayRows_1_125.l0] at H
   by_cases c3 : x8_1 < (l0.length : Int)
   ·rw [if_pos c3] at H
    have c3b0 : decide (x8_1 < (l0.length : Int)) = true := decide_eq_true c3
    clear c3
    by_cases c4 : 0 ≤ x8_1
    ·rw [if_pos c4] at H
     have c4b0 : decide (0 ≤ x8_1) = true := decide_eq_true c4
     clear c4
     by_cases c5 : x8_1 < (l0.length : Int)
     ·rw [if_pos c5] at H
      have c5b0 : decide (x8_1 < (l0.length : Int)) = true := decide_eq_true c5
      clear c5
      obtain ⟨t214, A60, H⟩ := bind_out H
      have A6 := Aside0.mk A60
      clear A60
      by_cases c7 : t214 = true
      ·subst c7
       rw [if_pos rfl] at H
       obtain rfl := Option.some.inj H
       have p213 : 0 ≤ (x8_1 : Int) := of_decide_eq_true (by assumption)
       have q213 : x8_1 < (l0.length : Int) := of_decide_eq_true (by assumption)
       obtain ⟨ad213, A213_5, c213_5, e213, hx213_0, hx213_1, hx213_2, hx213_3, hx213_4, hx213_5, hl213_5, hi213_5⟩ := at_T34 HR0.out x8_1 p213 q213
       cases e213
       replace hx213_0 := lx HB hx213_0
       replace hx213_1 := lx HB hx213_1
       replace hx213_2 := lx HB hx213_2
       replace hx213_3 := lx HB hx213_3
       replace hx213_4 := lx HB hx213_4
       replace hx213_5 := lx HB hx213_5
       have HR213_5 := Aside0.mk hi213_5
       have HC213_5 := Aside0.mk hl213_5
       clear hi213_5 hl213_5
       replace p213 := eq_true p213
       replace q213 := eq_true q213
       go_wp2_with (first | (go_at_call 103; (with_reducible refine (tree_mayRows_1.calls k1 ((rd_T34 l0 x8_1).f0) ((rd_T34 l0 x8_1).f1) ((rd_T34 l0 x8_1).f2.f0) ((rd_T34 l0 x8_1).f2.f1) ((rd_T34 l0 x8_1).f2.f2) _ _ ((rd_T34 l0 x8_1).f3) true _ ?side1 ?side2 ?side3 A6.out).mono ?_); (case side1 => exact kc HR213_5.out); (case side2 => exact HC213_5.out); (case side3 => exact Sh.below hsh bl); rintro e w8 ⟨rfl, hb⟩; replace HB := Aside0.mk (below_step bl hb); (try clear hb)))
       go_ret
       exact ⟨er, bl⟩
      ·replace c7 := Bool.eq_false_iff.mpr c7
       subst c7
       rw [if_neg (show ¬ (false = true) by decide)] at H
       have H' := Aside0.mk H
       clear H
       have p213 : 0 ≤ (x8_1 : Int) := of_decide_eq_true (by assumption)
       have q213 : x8_1 < (l0.length : Int) := of_decide_eq_true (by assumption)
       obtain ⟨ad213, A213_5, c213_5, e213, hx213_0, hx213_1, hx213_2, hx213_3, hx213_4, hx213_5, hl213_5, hi213_5⟩ := at_T34 HR0.out x8_1 p213 q213
       cases e213
       replace hx213_0 := lx HB hx213_0
       replace hx213_1 := lx HB hx213_1
       replace hx213_2 := lx HB hx213_2
       replace hx213_3 := lx HB hx213_3
       replace hx213_4 := lx HB hx213_4
       replace hx213_5 := lx HB hx213_5
       have HR213_5 := Aside0.mk hi213_5
       have HC213_5 := Aside0.mk hl213_5
       clear hi213_5 hl213_5
       replace p213 := eq_true p213
       replace q213 := eq_true q213
       go_wp2_with (first | (go_at_call 103; (with_reducible refine (tree_mayRows_1.calls k1 ((rd_T34 l0 x8_1).f0) ((rd_T34 l0 x8_1).f1) ((rd_T34 l0 x8_1).f2.f0) ((rd_T34 l0 x8_1).f2.f1) ((rd_T34 l0 x8_1).f2.f2) _ _ ((rd_T34 l0 x8_1).f3) false _ ?side1 ?side2 ?side3 A6.out).mono ?_); (case side1 => exact kc HR213_5.out); (case side2 => exact HC213_5.out); (case side3 => exact Sh.below hsh bl); rintro e w9 ⟨rfl, hb⟩; replace HB := Aside0.mk (below_step bl hb); (try clear hb)))
       go_roundg k1
       case measure => have := HK1.out; omega
       case rel => exact ⟨(wrap64 (x8_1 + 1)), rs, H', ⟨by have := HK1.out; omega⟩, ⟨bl⟩⟩
     ·rw [if_neg c5] at H
      exact absurd H (by simp)
    ·rw [if_neg c4] at H
     exact absurd H (by simp)
   ·rw [if_neg c3] at H
    have c3b0 : decide (x8_1 < (l0.length : Int)) = false := decide_eq_false c3
    clear c3
    obtain rfl := Option.some.inj H
    go_wp2
    go_ret
    exact ⟨er, bl⟩
def api_Expr__of_mayRows_1_102.f (k : Nat) (l0 : List (S34))  : Option (Bool) := (api_Expr__of_mayRows_1_125.f k l0).bind fun t215 => (some (decide (t215 ≥ 0)))
theorem api_Expr__of_mayRows_1_102.mono : ∀ a0 k, LeO (api_Expr__of_mayRows_1_102.f k a0) (api_Expr__of_mayRows_1_102.f (k + 1) a0) := by
 intro a0 k
 unfold api_Expr__of_mayRows_1_102.f
 repeat' first
   | (with_reducible exact api_Expr__of_mayRows_1_125.mono _ _)
   | (with_reducible exact LeO.refl _)
   | (with_reducible exact LeO.none _)
   | (with_reducible refine LeO.ite ?_ ?_)
   | (with_reducible refine LeO.bind ?_ (fun _ => ?_))
   | exact api_Expr__of_mayRows_1_125.mono _ _
   | exact LeO.none _
   | refine LeO.ite ?_ ?_
   | refine LeO.bind ?_ (fun _ => ?_)
set_option maxHeartbeats 8000000 in
set_option maxRecDepth 100000 in
theorem api_Expr__of_mayRows_1_102.calls (k : Nat) (A0 : Option Addr) (c0 : Nat) (l0 : List (S34))  (r : Bool) (w : World) (hr0 : Kd.C k34 w A0 l0.length l0) (hc0 : l0.length ≤ c0) (hsh : Sh w) (h : api_Expr__of_mayRows_1_102.f k l0 = some r) :
  Calls Tryz.prog 102 #[.slice A0 l0.length c0, .func (.func 103) #[] #[]] w fun e w' => e = .returned (.bool r) ∧ Below w.heap.size w w' := by
 have HR0 := Aside0.mk hr0
 have HC0 := Aside0.mk hc0
 clear hr0 hc0
 have HB := Aside0.mk (Below.refl w.heap.size w)
 have H : ((api_Expr__of_mayRows_1_125.f k l0).bind fun t215 => (some (decide (t215 ≥ 0)))) = some r := h
 clear h
 obtain ⟨t215, A30, H⟩ := bind_out H
 have A3 := Aside0.mk A30
 clear A30
 obtain rfl := Option.some.inj H
 go_enter Tryz.func102, Tryz.ntmps102
 go_wp2_with (first | ((with_reducible refine gate_callee (f := 125) rfl ?_); refine goesL_ (some 7) rfl rfl Tryz.func125 (by kernel_rfl) rfl #[.slice A0 l0.length c0, .func (.func 103) #[] #[]] rfl mp ?_; (with_reducible refine (api_Expr__of_mayRows_1_125.calls k _ _ l0 t215 _ ?side1 ?side2 ?side3 A3.out).mono ?_); (case side1 => repeat (first | exact HR0.out | (with_reducible refine Kd.C_alloc ?_ _) | (with_reducible refine Kd.C_drewN ?_ _) | (with_reducible refine Kd.C_drew ?_))); (case side2 => exact HC0.out); (case side3 => exact Sh.below hsh bl); rintro e w4 ⟨rfl, hb⟩; refine ⟨_, rfl, ?_⟩; replace HB := Aside0.mk (below_step bl hb); (try clear hb)))
 go_ret
 exact ⟨er, bl⟩
end Go.Proofs.YtlpnlfahlcingaaGreatDoor.PL
end
section
namespace Go.Proofs.YtlpnlfahlcingaaGreatDoor.PL
open Go.RowKit Go.Proofs.YtlpnlfahlcingaaGreatDoorW.PrintWords Go.Proofs.YtlpnlfahlcingaaGreatDoorW.PrintLast Go.Proofs.YtlpnlfahlcingaaGreatDoorW.PrintMore
attribute [local go_sem] max2_int min2_int max_two min_two max_three min_three max_four min_four
attribute [local go_sem ↓] isSome_setCell
set_option linter.unusedVariables false
set_option linter.unusedSimpArgs false
def tree_mayRows.l0 : Nat → List (List (S34)) → List (List (S34)) → Int → Int → Option (Bool)
 | 0, _, _, _, _ => none
 | k + 1, x0, x5, x6, x7 => if x7 < x6 then (if 0 ≤ x7 then (if x7 < (x5.length : Int) then (if ((rd_L8 x5 x7).length : Int) = 0 then (some false) else (if ((rd_L8 x5 x7).length : Int) > 6 then (some false) else ((api_Expr__of_mayRows_1_102.f k (rd_L8 x5 x7)).bind fun t217 => (if t217 = true then (some false) else (tree_mayRows.l0 k x0 x5 x6 (wrap64 (x7 + 1))))))) else (none)) else (none)) else (if (x0.length : Int) ≥ 1 then (some (decide ((x0.length : Int) ≤ 16))) else (some false))
def tree_mayRows.f (k : Nat) (l0 : List (List (S34))) : Option (Bool) := tree_mayRows.l0 k l0 l0 (l0.length : Int) 0
theorem tree_mayRows.mono_l : ∀ k, (∀ y0 y1 y2 y3, LeO (tree_mayRows.l0 k y0 y1 y2 y3) (tree_mayRows.l0 (k + 1) y0 y1 y2 y3))
 | 0 => fun _ _ _ _ r h => by simp [tree_mayRows.l0] at h
 | k + 1 => by
  have ih0 := tree_mayRows.mono_l k
  ·intro y0 y1 y2 y3
   unfold tree_mayRows.l0
   repeat' first
   | (with_reducible exact ih0 _ _ _ _)
   | (with_reducible exact api_Expr__of_mayRows_1_102.mono _ _)
   | (with_reducible exact LeO.refl _)
   | (with_reducible exact LeO.none _)
   | (with_reducible refine LeO.ite ?_ ?_)
   | (with_reducible refine LeO.bind ?_ (fun _ => ?_))
   | exact ih0 _ _ _ _
   | exact api_Expr__of_mayRows_1_102.mono _ _
   | exact LeO.none _
   | refine LeO.ite ?_ ?_
   | refine LeO.bind ?_ (fun _ => ?_)
theorem tree_mayRows.mono : ∀ a0 k, LeO (tree_mayRows.f k a0) (tree_mayRows.f (k + 1) a0) := by
 intro a0 k
 have ih0 := tree_mayRows.mono_l k
 unfold tree_mayRows.f
 repeat' first
   | (with_reducible exact ih0 _ _ _ _)
   | (with_reducible exact api_Expr__of_mayRows_1_102.mono _ _)
   | (with_reducible exact LeO.refl _)
   | (with_reducible exact LeO.none _)
   | (with_reducible refine LeO.ite ?_ ?_)
   | (with_reducible refine LeO.bind ?_ (fun _ => ?_))
   | exact ih0 _ _ _ _
   | exact api_Expr__of_mayRows_1_102.mono _ _
   | exact LeO.none _
   | refine LeO.ite ?_ ?_
   | refine LeO.bind ?_ (fun _ => ?_)
set_option maxHeartbeats 8000000 in
set_option maxRecDepth 100000 in
theorem tree_mayRows.calls (k : Nat) (A0 : Option Addr) (c0 : Nat) (l0 : List (List (S34))) (r : Bool) (w : World) (hr0 : Kd.C (Kd.slice 34 k34) w A0 l0.length l0) (hc0 : l0.length ≤ c0) (hsh : Sh w) (h : tree_mayRows.f k l0 = some r) :
  Calls Tryz.prog 61 #[.slice A0 l0.length c0] w fun e w' => e = .returned (.bool r) ∧ Below w.heap.size w w' := by
 have HR0 := Aside0.mk hr0
 have HC0 := Aside0.mk hc0
 clear hr0 hc0
 have HB := Aside0.mk (Below.refl w.heap.size w)
 have H : (tree_mayRows.l0 k l0 l0 (l0.length : Int) 0) = some r := h
 clear h
 have H' := Aside0.mk H
 clear H
 go_enter Tryz.func61, Tryz.ntmps61
 go_wp2
 go_loopg [7] k (fun kq v7 w' => ∃ (x7_1 : Int), v7 = .int .i64 x7_1 ∧ Aside0 (tree_mayRows.l0 kq l0 l0 (l0.length : Int) x7_1 = some r) ∧ Aside0 (kq ≤ k) ∧ Aside0 (Below w.heap.size w w'))
 case atStart => exact ⟨(0), rs, H', ⟨Nat.le_refl _⟩, ⟨bl⟩⟩
 case round =>
  clear H'
  obtain ⟨x7_1, rfl, HA, HK1, HB⟩ := hrel
  cases gk with
  | zero => exact absurd HA.out (by simp [tree_mayRows.l0])
  | succ k1 =>
   have H := HA.out
   clear HA
   simp only [tree_mayRows.l0] at H
   by_cases c2 : x7_1 < (l0.length : Int)
   ·rw [if_pos c2] at H
    have c2b0 : decide (x7_1 < (l0.length : Int)) = true := decide_eq_true c2
    clear c2
    by_cases c3 : 0 ≤ x7_1
    ·rw [if_pos c3] at H
     have c3b0 : decide (0 ≤ x7_1) = true := decide_eq_true c3
     clear c3
     by_cases c4 : x7_1 < (l0.length : Int)
     ·rw [if_pos c4] at H
      have c4b0 : decide (x7_1 < (l0.length : Int)) = true := decide_eq_true c4
      clear c4
      by_cases c5 : ((rd_L8 l0 x7_1).length : Int) = 0
      ·rw [if_pos c5] at H
       have c5b0 : (((rd_L8 l0 x7_1).length : Int) == 0) = true := beq_iff_eq.mpr c5
       have c5b1 : (((rd_L8 l0 x7_1).length : Int) != 0) = false := bne_eq_false_iff_eq.mpr c5
       clear c5
       obtain rfl := Option.some.inj H
       have p216 : 0 ≤ (x7_1 : Int) := of_decide_eq_true (by assumption)
       have q216 : x7_1 < (l0.length : Int) := of_decide_eq_true (by assumption)
       obtain ⟨ad216, A216_0, c216_0, e216, hx216_0, hl216_0, hi216_0⟩ := at_L8 HR0.out x7_1 p216 q216
       cases e216
       replace hx216_0 := lx HB hx216_0
       have HR216_0 := Aside0.mk hi216_0
       have HC216_0 := Aside0.mk hl216_0
       clear hi216_0 hl216_0
       replace p216 := eq_true p216
       replace q216 := eq_true q216
       go_wp2
       go_ret
       exact ⟨er, bl⟩
      ·rw [if_neg c5] at H
       have c5b0 : (((rd_L8 l0 x7_1).length : Int) == 0) = false := beq_eq_false_iff_ne.mpr c5
       have c5b1 : (((rd_L8 l0 x7_1).length : Int) != 0) = true := bne_iff_ne.mpr c5
       have c5b2 : ¬ ((rd_L8 l0 x7_1) = []) := fun h_ => c5 (by rw [h_]; rfl)
       by_cases c6 : ((rd_L8 l0 x7_1).length : Int) > 6
       ·rw [if_pos c6] at H
        have c6b0 : decide (6 < ((rd_L8 l0 x7_1).length : Int)) = true := decide_eq_true c6
        have c6b1 : decide (6 < (rd_L8 l0 x7_1).length) = true := decide_eq_true (by omega)
        clear c6
        obtain rfl := Option.some.inj H
        have p216 : 0 ≤ (x7_1 : Int) := of_decide_eq_true (by assumption)
        have q216 : x7_1 < (l0.length : Int) := of_decide_eq_true (by assumption)
        obtain ⟨ad216, A216_0, c216_0, e216, hx216_0, hl216_0, hi216_0⟩ := at_L8 HR0.out x7_1 p216 q216
        cases e216
        replace hx216_0 := lx HB hx216_0
        have HR216_0 := Aside0.mk hi216_0
        have HC216_0 := Aside0.mk hl216_0
        clear hi216_0 hl216_0
        replace p216 := eq_true p216
        replace q216 := eq_true q216
        go_wp2
        go_ret
        exact ⟨er, bl⟩
       ·rw [if_neg c6] at H
        have c6b0 : decide (6 < ((rd_L8 l0 x7_1).length : Int)) = false := decide_eq_false c6
        have c6b1 : decide (6 < (rd_L8 l0 x7_1).length) = false := decide_eq_false (by omega)
        clear c6
        obtain ⟨t217, A70, H⟩ := bind_out H
        have A7 := Aside0.mk A70
        clear A70
        by_cases c8 : t217 = true
        ·subst c8
         rw [if_pos rfl] at H
         obtain rfl := Option.some.inj H
         have p216 : 0 ≤ (x7_1 : Int) := of_decide_eq_true (by assumption)
         have q216 : x7_1 < (l0.length : Int) := of_decide_eq_true (by assumption)
         obtain ⟨ad216, A216_0, c216_0, e216, hx216_0, hl216_0, hi216_0⟩ := at_L8 HR0.out x7_1 p216 q216
         cases e216
         replace hx216_0 := lx HB hx216_0
         have HR216_0 := Aside0.mk hi216_0
         have HC216_0 := Aside0.mk hl216_0
         clear hi216_0 hl216_0
         replace p216 := eq_true p216
         replace q216 := eq_true q216
         go_wp2_with (first | (go_at_call 102; (with_reducible refine (api_Expr__of_mayRows_1_102.calls k1 _ _ (rd_L8 l0 x7_1) true _ ?side1 ?side2 ?side3 A7.out).mono ?_); (case side1 => exact kc HR216_0.out); (case side2 => exact HC216_0.out); (case side3 => exact Sh.below hsh bl); rintro e w9 ⟨rfl, hb⟩; replace HB := Aside0.mk (below_step bl hb); (try clear hb)))
         go_ret
         exact ⟨er, bl⟩
        ·replace c8 := Bool.eq_false_iff.mpr c8
         subst c8
         rw [if_neg (show ¬ (false = true) by decide)] at H
         have H' := Aside0.mk H
         clear H
         have p216 : 0 ≤ (x7_1 : Int) := of_decide_eq_true (by assumption)
         have q216 : x7_1 < (l0.length : Int) := of_decide_eq_true (by assumption)
         obtain ⟨ad216, A216_0, c216_0, e216, hx216_0, hl216_0, hi216_0⟩ := at_L8 HR0.out x7_1 p216 q216
         cases e216
         replace hx216_0 := lx HB hx216_0
         have HR216_0 := Aside0.mk hi216_0
         have HC216_0 := Aside0.mk hl216_0
         clear hi216_0 hl216_0
         replace p216 := eq_true p216
         replace q216 := eq_true q216
         go_wp2_with (first | (go_at_call 102; (with_reducible refine (api_Expr__of_mayRows_1_102.calls k1 _ _ (rd_L8 l0 x7_1) false _ ?side1 ?side2 ?side3 A7.out).mono ?_); (case side1 => exact kc HR216_0.out); (case side2 => exact HC216_0.out); (case side3 => exact Sh.below hsh bl); rintro e w10 ⟨rfl, hb⟩; replace HB := Aside0.mk (below_step bl hb); (try clear hb)))
         go_roundg k1
         case measure => have := HK1.out; omega
         case rel => exact ⟨(wrap64 (x7_1 + 1)), rs, H', ⟨by have := HK1.out; omega⟩, ⟨bl⟩⟩
     ·rw [if_neg c4] at H
      exact absurd H (by simp)
    ·rw [if_neg c3] at H
     exact absurd H (by simp)
   ·rw [if_neg c2] at H
    have c2b0 : decide (x7_1 < (l0.length : Int)) = false := decide_eq_false c2
    clear c2
    by_cases c11 : (l0.length : Int) ≥ 1
    ·rw [if_pos c11] at H
     have c11b0 : decide (1 ≤ (l0.length : Int)) = true := decide_eq_true c11
     have c11b1 : decide (1 ≤ l0.length) = true := decide_eq_true (by omega)
     clear c11
     obtain rfl := Option.some.inj H
     go_wp2
     go_ret
     exact ⟨er, bl⟩
    ·rw [if_neg c11] at H
     have c11b0 : decide (1 ≤ (l0.length : Int)) = false := decide_eq_false c11
     have c11b1 : decide (1 ≤ l0.length) = false := decide_eq_false (by omega)
     clear c11
     obtain rfl := Option.some.inj H
     go_wp2
     go_ret
     exact ⟨er, bl⟩
end Go.Proofs.YtlpnlfahlcingaaGreatDoor.PL
end
section
namespace Go.Proofs.YtlpnlfahlcingaaGreatDoor.PL
open Go.RowKit Go.Proofs.YtlpnlfahlcingaaGreatDoorW.PrintWords Go.Proofs.YtlpnlfahlcingaaGreatDoorW.PrintLast Go.Proofs.YtlpnlfahlcingaaGreatDoorW.PrintMore
attribute [local go_sem] max2_int min2_int max_two min_two max_three min_three max_four min_four
attribute [local go_sem ↓] isSome_setCell
set_option linter.unusedVariables false
set_option linter.unusedSimpArgs false
def tree_maySets_1.f (k : Nat) (a0_0 : ByteArray) (a0_1 : Int) (a0_2 : ByteArray) (a0_3 : Int) (a0_4 : Int) (a0_5 : ByteArray) (l0_6 : List (S34)) : Option (Bool) := (lex_Word.f k a0_0).bind fun t219 => (if t219 = true then ((tree_mayExpr.f k a0_1 a0_2 a0_3 a0_4 a0_5 l0_6 16).bind fun t220 => (some (!t220))) else (some true))
theorem tree_maySets_1.mono : ∀ a0 a1 a2 a3 a4 a5 a6 k, LeO (tree_maySets_1.f k a0 a1 a2 a3 a4 a5 a6) (tree_maySets_1.f (k + 1) a0 a1 a2 a3 a4 a5 a6) := by
 intro a0 a1 a2 a3 a4 a5 a6 k
 unfold tree_maySets_1.f
 repeat' first
   | (with_reducible exact lex_Word.mono _ _)
   | (with_reducible exact tree_mayExpr.mono _ _ _ _ _ _ _ _)
   | (with_reducible exact LeO.refl _)
   | (with_reducible exact LeO.none _)
   | (with_reducible refine LeO.ite ?_ ?_)
   | (with_reducible refine LeO.bind ?_ (fun _ => ?_))
   | exact lex_Word.mono _ _
   | exact tree_mayExpr.mono _ _ _ _ _ _ _ _
   | exact LeO.none _
   | refine LeO.ite ?_ ?_
   | refine LeO.bind ?_ (fun _ => ?_)
set_option maxHeartbeats 8000000 in
set_option maxRecDepth 100000 in
theorem tree_maySets_1.calls (k : Nat) (a0_0 : ByteArray) (a0_1 : Int) (a0_2 : ByteArray) (a0_3 : Int) (a0_4 : Int) (a0_5 : ByteArray) (A0_6 : Option Addr) (c0_6 : Nat) (l0_6 : List (S34)) (r : Bool) (w : World) (hr0_6 : Kd.C k34 w A0_6 l0_6.length l0_6) (hc0_6 : l0_6.length ≤ c0_6) (hsh : Sh w) (h : tree_maySets_1.f k a0_0 a0_1 a0_2 a0_3 a0_4 a0_5 l0_6 = some r) :
  Calls Tryz.prog 104 #[.agg #[.string a0_0, .int .i64 a0_1, .string a0_2, .int .i64 a0_3, .int .i64 a0_4, .string a0_5, .slice A0_6 l0_6.length c0_6]] w fun e w' => e = .returned (.bool r) ∧ Below w.heap.size w w' := by
 have hu65 := Tryz.underlying65
 have hu34 := Tryz.underlying34
 have HR0_6 := Aside0.mk hr0_6
 have HC0_6 := Aside0.mk hc0_6
 clear hr0_6 hc0_6
 have HB := Aside0.mk (Below.refl w.heap.size w)
 have H : ((lex_Word.f k a0_0).bind fun t219 => (if t219 = true then ((tree_mayExpr.f k a0_1 a0_2 a0_3 a0_4 a0_5 l0_6 16).bind fun t220 => (some (!t220))) else (some true))) = some r := h
 clear h
 obtain ⟨t219, A20, H⟩ := bind_out H
 have A2 := Aside0.mk A20
 clear A20
 by_cases c3 : t219 = true
 ·subst c3
  rw [if_pos rfl] at H
  obtain ⟨t220, A40, H⟩ := bind_out H
  have A4 := Aside0.mk A40
  clear A40
  obtain rfl := Option.some.inj H
  go_enter Tryz.func104, Tryz.ntmps104
  go_wp2_with (first | ((with_reducible refine gate_dst (N := 1) rfl ?_); refine box_ev (N := 1) (cs := #[.string a0_0, .int .i64 a0_1, .string a0_2, .int .i64 a0_3, .int .i64 a0_4, .string a0_5, .slice A0_6 l0_6.length c0_6]) (t := 65) ?_; intro gb218 hg w5 hbox hb; have BK218 := Aside0.mk (hbox); have GW218 := Aside0.mk (gsz hg bl : w.heap.size ≤ gb218); have GE218 := Aside0.mk (gsz hg bl : w.heap.size ≤ gb218); replace HB := Aside0.mk (below_step bl hb); clear hb hbox hg; obtain ⟨hcz6_0, hcz6_1, hcz6_2, hcz6_3, hcz6_4, hcz6_5, hcz6_6⟩ := cells7 BK218.out; obtain ⟨hfz6_0, hfz6_1, hfz6_2, hfz6_3, hfz6_4, hfz6_5, hfz6_6⟩ := froz7 BK218.out) | ((with_reducible refine gate_callee (f := 57) rfl ?_); refine goesL_ (some 5) rfl rfl Tryz.func57 (by kernel_rfl) rfl #[.string a0_0] rfl mp ?_; (with_reducible refine (lex_Word.calls k a0_0 true _ ?side1 A2.out).mono ?_); (case side1 => exact Sh.below hsh bl); rintro e w7 ⟨rfl, hb⟩; refine ⟨_, rfl, ?_⟩; replace BK218 := Aside0.mk (blk_below (g := gb218) (o := .cells #[.string a0_0, .int .i64 a0_1, .string a0_2, .int .i64 a0_3, .int .i64 a0_4, .string a0_5, .slice A0_6 l0_6.length c0_6] 65 (0, 0)) bk hb); replace HB := Aside0.mk (below_step bl hb); (try clear hb); obtain ⟨hcz8_0, hcz8_1, hcz8_2, hcz8_3, hcz8_4, hcz8_5, hcz8_6⟩ := cells7 BK218.out; obtain ⟨hfz8_0, hfz8_1, hfz8_2, hfz8_3, hfz8_4, hfz8_5, hfz8_6⟩ := froz7 BK218.out) | (go_at_call 58; (with_reducible refine (tree_mayExpr.calls k a0_1 a0_2 a0_3 a0_4 a0_5 _ _ l0_6 16 t220 _ ?side1 ?side2 ?side3 A4.out).mono ?_); (case side1 => exact kc HR0_6.out); (case side2 => exact HC0_6.out); (case side3 => exact Sh.below hsh bl); rintro e w9 ⟨rfl, hb⟩; replace BK218 := Aside0.mk (blk_below (g := gb218) (o := .cells #[.string a0_0, .int .i64 a0_1, .string a0_2, .int .i64 a0_3, .int .i64 a0_4, .string a0_5, .slice A0_6 l0_6.length c0_6] 65 (0, 0)) bk hb); replace HB := Aside0.mk (below_step bl hb); (try clear hb)))
  go_ret
  exact ⟨er, bl⟩
 ·replace c3 := Bool.eq_false_iff.mpr c3
  subst c3
  rw [if_neg (show ¬ (false = true) by decide)] at H
  obtain rfl := Option.some.inj H
  go_enter Tryz.func104, Tryz.ntmps104
  go_wp2_with (first | ((with_reducible refine gate_dst (N := 1) rfl ?_); refine box_ev (N := 1) (cs := #[.string a0_0, .int .i64 a0_1, .string a0_2, .int .i64 a0_3, .int .i64 a0_4, .string a0_5, .slice A0_6 l0_6.length c0_6]) (t := 65) ?_; intro gb218 hg w10 hbox hb; have BK218 := Aside0.mk (hbox); have GW218 := Aside0.mk (gsz hg bl : w.heap.size ≤ gb218); have GE218 := Aside0.mk (gsz hg bl : w.heap.size ≤ gb218); replace HB := Aside0.mk (below_step bl hb); clear hb hbox hg; obtain ⟨hcz11_0, hcz11_1, hcz11_2, hcz11_3, hcz11_4, hcz11_5, hcz11_6⟩ := cells7 BK218.out; obtain ⟨hfz11_0, hfz11_1, hfz11_2, hfz11_3, hfz11_4, hfz11_5, hfz11_6⟩ := froz7 BK218.out) | ((with_reducible refine gate_callee (f := 57) rfl ?_); refine goesL_ (some 5) rfl rfl Tryz.func57 (by kernel_rfl) rfl #[.string a0_0] rfl mp ?_; (with_reducible refine (lex_Word.calls k a0_0 false _ ?side1 A2.out).mono ?_); (case side1 => exact Sh.below hsh bl); rintro e w12 ⟨rfl, hb⟩; refine ⟨_, rfl, ?_⟩; replace BK218 := Aside0.mk (blk_below (g := gb218) (o := .cells #[.string a0_0, .int .i64 a0_1, .string a0_2, .int .i64 a0_3, .int .i64 a0_4, .string a0_5, .slice A0_6 l0_6.length c0_6] 65 (0, 0)) bk hb); replace HB := Aside0.mk (below_step bl hb); (try clear hb)))
  go_ret
  exact ⟨er, bl⟩
def api_Assign__of_maySets_1_126.l0 : Nat → List (S65) → Int → Int → Option (Int)
 | 0, _, _, _ => none
 | k + 1, x0, x7, x8 => if x8 < x7 then (if 0 ≤ x8 then (if x8 < (x0.length : Int) then ((tree_maySets_1.f k ((rd_T65 x0 x8).f0) ((rd_T65 x0 x8).f1.f0) ((rd_T65 x0 x8).f1.f1) ((rd_T65 x0 x8).f1.f2.f0) ((rd_T65 x0 x8).f1.f2.f1) ((rd_T65 x0 x8).f1.f2.f2) ((rd_T65 x0 x8).f1.f3)).bind fun t222 => (if t222 = true then (some x8) else (api_Assign__of_maySets_1_126.l0 k x0 x7 (wrap64 (x8 + 1))))) else (none)) else (none)) else (some (-1))
def api_Assign__of_maySets_1_126.f (k : Nat) (l0 : List (S65))  : Option (Int) := api_Assign__of_maySets_1_126.l0 k l0 (l0.length : Int) 0
theorem api_Assign__of_maySets_1_126.mono_l : ∀ k, (∀ y0 y1 y2, LeO (api_Assign__of_maySets_1_126.l0 k y0 y1 y2) (api_Assign__of_maySets_1_126.l0 (k + 1) y0 y1 y2))
 | 0 => fun _ _ _ r h => by simp [api_Assign__of_maySets_1_126.l0] at h
 | k + 1 => by
  have ih0 := api_Assign__of_maySets_1_126.mono_l k
  ·intro y0 y1 y2
   unfold api_Assign__of_maySets_1_126.l0
   repeat' first
   | (with_reducible exact ih0 _ _ _)
   | (with_reducible exact tree_maySets_1.mono _ _ _ _ _ _ _ _)
   | (with_reducible exact LeO.refl _)
   | (with_reducible exact LeO.none _)
   | (with_reducible refine LeO.ite ?_ ?_)
   | (with_reducible refine LeO.bind ?_ (fun _ => ?_))
   | exact ih0 _ _ _
   | exact tree_maySets_1.mono _ _ _ _ _ _ _ _
   | exact LeO.none _
   | refine LeO.ite ?_ ?_
   | refine LeO.bind ?_ (fun _ => ?_)
theorem api_Assign__of_maySets_1_126.mono : ∀ a0 k, LeO (api_Assign__of_maySets_1_126.f k a0) (api_Assign__of_maySets_1_126.f (k + 1) a0) := by
 intro a0 k
 have ih0 := api_Assign__of_maySets_1_126.mono_l k
 unfold api_Assign__of_maySets_1_126.f
 repeat' first
   | (with_reducible exact ih0 _ _ _)
   | (with_reducible exact tree_maySets_1.mono _ _ _ _ _ _ _ _)
   | (with_reducible exact LeO.refl _)
   | (with_reducible exact LeO.none _)
   | (with_reducible refine LeO.ite ?_ ?_)
   | (with_reducible refine LeO.bind ?_ (fun _ => ?_))
   | exact ih0 _ _ _
   | exact tree_maySets_1.mono _ _ _ _ _ _ _ _
   | exact LeO.none _
   | refine LeO.ite ?_ ?_
   | refine LeO.bind ?_ (fun _ => ?_)
set_option maxHeartbeats 8000000 in
set_option maxRecDepth 100000 in
theorem api_Assign__of_maySets_1_126.calls (k : Nat) (A0 : Option Addr) (c0 : Nat) (l0 : List (S65))  (r : Int) (w : World) (hr0 : Kd.C k65 w A0 l0.length l0) (hc0 : l0.length ≤ c0) (hsh : Sh w) (h : api_Assign__of_maySets_1_126.f k l0 = some r) :
  Calls Tryz.prog 126 #[.slice A0 l0.length c0, .func (.func 104) #[] #[]] w fun e w' => e = .returned (.int .i64 r) ∧ Below w.heap.size w w' := by
 have hu65 := Tryz.underlying65
 have HR0 := Aside0.mk hr0
 have HC0 := Aside0.mk hc0
 clear hr0 hc0
 have HB := Aside0.mk (Below.refl w.heap.size w)
 have H : (api_Assign__of_maySets_1_126.l0 k l0 (l0.length : Int) 0) = some r := h
 clear h
 have H' := Aside0.mk H
 clear H
 go_enter Tryz.func126, Tryz.ntmps126
 go_wp2
 go_loopg [8] k (fun kq v8 w' => ∃ (x8_1 : Int), v8 = .int .i64 x8_1 ∧ Aside0 (api_Assign__of_maySets_1_126.l0 kq l0 (l0.length : Int) x8_1 = some r) ∧ Aside0 (kq ≤ k) ∧ Aside0 (Below w.heap.size w w'))
 case atStart => exact ⟨(0), rs, H', ⟨Nat.le_refl _⟩, ⟨bl⟩⟩
 case round =>
  clear H'
  obtain ⟨x8_1, rfl, HA, HK1, HB⟩ := hrel
  cases gk with
  | zero => exact absurd HA.out (by simp [api_Assign__of_maySets_1_126.l0])
  | succ k1 =>
   have H := HA.out
   clear HA
   simp only [api_Assign__of_maySets_1_126.l0] at H
   by_cases c3 : x8_1 < (l0.length : Int)
   ·rw [if_pos c3] at H
    have c3b0 : decide (x8_1 < (l0.length : Int)) = true := decide_eq_true c3
    clear c3
    by_cases c4 : 0 ≤ x8_1
    ·rw [if_pos c4] at H
     have c4b0 : decide (0 ≤ x8_1) = true := decide_eq_true c4
     clear c4
     by_cases c5 : x8_1 < (l0.length : Int)
     ·rw [if_pos c5] at H
      have c5b0 : decide (x8_1 < (l0.length : Int)) = true := decide_eq_true c5
      clear c5
      obtain ⟨t222, A60, H⟩ := bind_out H
      have A6 := Aside0.mk A60
      clear A60
      by_cases c7 : t222 = true
      ·subst c7
       rw [if_pos rfl] at H
       obtain rfl := Option.some.inj H
       have p221 : 0 ≤ (x8_1 : Int) := of_decide_eq_true (by assumption)
       have q221 : x8_1 < (l0.length : Int) := of_decide_eq_true (by assumption)
       obtain ⟨ad221, A221_6, c221_6, e221, hx221_0, hx221_1, hx221_2, hx221_3, hx221_4, hx221_5, hx221_6, hl221_6, hi221_6⟩ := at_T65 HR0.out x8_1 p221 q221
       cases e221
       replace hx221_0 := lx HB hx221_0
       replace hx221_1 := lx HB hx221_1
       replace hx221_2 := lx HB hx221_2
       replace hx221_3 := lx HB hx221_3
       replace hx221_4 := lx HB hx221_4
       replace hx221_5 := lx HB hx221_5
       replace hx221_6 := lx HB hx221_6
       have HR221_6 := Aside0.mk hi221_6
       have HC221_6 := Aside0.mk hl221_6
       clear hi221_6 hl221_6
       replace p221 := eq_true p221
       replace q221 := eq_true q221
       go_wp2_with (first | (go_at_call 104; (with_reducible refine (tree_maySets_1.calls k1 ((rd_T65 l0 x8_1).f0) ((rd_T65 l0 x8_1).f1.f0) ((rd_T65 l0 x8_1).f1.f1) ((rd_T65 l0 x8_1).f1.f2.f0) ((rd_T65 l0 x8_1).f1.f2.f1) ((rd_T65 l0 x8_1).f1.f2.f2) _ _ ((rd_T65 l0 x8_1).f1.f3) true _ ?side1 ?side2 ?side3 A6.out).mono ?_); (case side1 => exact kc HR221_6.out); (case side2 => exact HC221_6.out); (case side3 => exact Sh.below hsh bl); rintro e w8 ⟨rfl, hb⟩; replace HB := Aside0.mk (below_step bl hb); (try clear hb)))
       go_ret
       exact ⟨er, bl⟩
      ·replace c7 := Bool.eq_false_iff.mpr c7
       subst c7
       rw [if_neg (show ¬ (false = true) by decide)] at H
       have H' := Aside0.mk H
       clear H
       have p221 : 0 ≤ (x8_1 : Int) := of_decide_eq_true (by assumption)
       have q221 : x8_1 < (l0.length : Int) := of_decide_eq_true (by assumption)
       obtain ⟨ad221, A221_6, c221_6, e221, hx221_0, hx221_1, hx221_2, hx221_3, hx221_4, hx221_5, hx221_6, hl221_6, hi221_6⟩ := at_T65 HR0.out x8_1 p221 q221
       cases e221
       replace hx221_0 := lx HB hx221_0
       replace hx221_1 := lx HB hx221_1
       replace hx221_2 := lx HB hx221_2
       replace hx221_3 := lx HB hx221_3
       replace hx221_4 := lx HB hx221_4
       replace hx221_5 := lx HB hx221_5
       replace hx221_6 := lx HB hx221_6
       have HR221_6 := Aside0.mk hi221_6
       have HC221_6 := Aside0.mk hl221_6
       clear hi221_6 hl221_6
       replace p221 := eq_true p221
       replace q221 := eq_true q221
       go_wp2_with (first | (go_at_call 104; (with_reducible refine (tree_maySets_1.calls k1 ((rd_T65 l0 x8_1).f0) ((rd_T65 l0 x8_1).f1.f0) ((rd_T65 l0 x8_1).f1.f1) ((rd_T65 l0 x8_1).f1.f2.f0) ((rd_T65 l0 x8_1).f1.f2.f1) ((rd_T65 l0 x8_1).f1.f2.f2) _ _ ((rd_T65 l0 x8_1).f1.f3) false _ ?side1 ?side2 ?side3 A6.out).mono ?_); (case side1 => exact kc HR221_6.out); (case side2 => exact HC221_6.out); (case side3 => exact Sh.below hsh bl); rintro e w9 ⟨rfl, hb⟩; replace HB := Aside0.mk (below_step bl hb); (try clear hb)))
       go_roundg k1
       case measure => have := HK1.out; omega
       case rel => exact ⟨(wrap64 (x8_1 + 1)), rs, H', ⟨by have := HK1.out; omega⟩, ⟨bl⟩⟩
     ·rw [if_neg c5] at H
      exact absurd H (by simp)
    ·rw [if_neg c4] at H
     exact absurd H (by simp)
   ·rw [if_neg c3] at H
    have c3b0 : decide (x8_1 < (l0.length : Int)) = false := decide_eq_false c3
    clear c3
    obtain rfl := Option.some.inj H
    go_wp2
    go_ret
    exact ⟨er, bl⟩
def api_Assign__of_maySets_1_105.f (k : Nat) (l0 : List (S65))  : Option (Bool) := (api_Assign__of_maySets_1_126.f k l0).bind fun t223 => (some (decide (t223 ≥ 0)))
theorem api_Assign__of_maySets_1_105.mono : ∀ a0 k, LeO (api_Assign__of_maySets_1_105.f k a0) (api_Assign__of_maySets_1_105.f (k + 1) a0) := by
 intro a0 k
 unfold api_Assign__of_maySets_1_105.f
 repeat' first
   | (with_reducible exact api_Assign__of_maySets_1_126.mono _ _)
   | (with_reducible exact LeO.refl _)
   | (with_reducible exact LeO.none _)
   | (with_reducible refine LeO.ite ?_ ?_)
   | (with_reducible refine LeO.bind ?_ (fun _ => ?_))
   | exact api_Assign__of_maySets_1_126.mono _ _
   | exact LeO.none _
   | refine LeO.ite ?_ ?_
   | refine LeO.bind ?_ (fun _ => ?_)
set_option maxHeartbeats 8000000 in
set_option maxRecDepth 100000 in
theorem api_Assign__of_maySets_1_105.calls (k : Nat) (A0 : Option Addr) (c0 : Nat) (l0 : List (S65))  (r : Bool) (w : World) (hr0 : Kd.C k65 w A0 l0.length l0) (hc0 : l0.length ≤ c0) (hsh : Sh w) (h : api_Assign__of_maySets_1_105.f k l0 = some r) :
  Calls Tryz.prog 105 #[.slice A0 l0.length c0, .func (.func 104) #[] #[]] w fun e w' => e = .returned (.bool r) ∧ Below w.heap.size w w' := by
 have HR0 := Aside0.mk hr0
 have HC0 := Aside0.mk hc0
 clear hr0 hc0
 have HB := Aside0.mk (Below.refl w.heap.size w)
 have H : ((api_Assign__of_maySets_1_126.f k l0).bind fun t223 => (some (decide (t223 ≥ 0)))) = some r := h
 clear h
 obtain ⟨t223, A30, H⟩ := bind_out H
 have A3 := Aside0.mk A30
 clear A30
 obtain rfl := Option.some.inj H
 go_enter Tryz.func105, Tryz.ntmps105
 go_wp2_with (first | ((with_reducible refine gate_callee (f := 126) rfl ?_); refine goesL_ (some 7) rfl rfl Tryz.func126 (by kernel_rfl) rfl #[.slice A0 l0.length c0, .func (.func 104) #[] #[]] rfl mp ?_; (with_reducible refine (api_Assign__of_maySets_1_126.calls k _ _ l0 t223 _ ?side1 ?side2 ?side3 A3.out).mono ?_); (case side1 => repeat (first | exact HR0.out | (with_reducible refine Kd.C_alloc ?_ _) | (with_reducible refine Kd.C_drewN ?_ _) | (with_reducible refine Kd.C_drew ?_))); (case side2 => exact HC0.out); (case side3 => exact Sh.below hsh bl); rintro e w4 ⟨rfl, hb⟩; refine ⟨_, rfl, ?_⟩; replace HB := Aside0.mk (below_step bl hb); (try clear hb)))
 go_ret
 exact ⟨er, bl⟩
end Go.Proofs.YtlpnlfahlcingaaGreatDoor.PL
end
section
namespace Go.Proofs.YtlpnlfahlcingaaGreatDoor.PL
open Go.RowKit Go.Proofs.YtlpnlfahlcingaaGreatDoorW.PrintWords Go.Proofs.YtlpnlfahlcingaaGreatDoorW.PrintLast Go.Proofs.YtlpnlfahlcingaaGreatDoorW.PrintMore
attribute [local go_sem] max2_int min2_int max_two min_two max_three min_three max_four min_four
attribute [local go_sem ↓] isSome_setCell
set_option linter.unusedVariables false
set_option linter.unusedSimpArgs false
def tree_maySets.f (k : Nat) (l0 : List (S65)) : Option (Bool) := if (l0.length : Int) ≥ 1 then (if (l0.length : Int) ≤ 6 then ((api_Assign__of_maySets_1_105.f k l0).bind fun t224 => (some (!t224))) else (some false)) else (some false)
theorem tree_maySets.mono : ∀ a0 k, LeO (tree_maySets.f k a0) (tree_maySets.f (k + 1) a0) := by
 intro a0 k
 unfold tree_maySets.f
 repeat' first
   | (with_reducible exact api_Assign__of_maySets_1_105.mono _ _)
   | (with_reducible exact LeO.refl _)
   | (with_reducible exact LeO.none _)
   | (with_reducible refine LeO.ite ?_ ?_)
   | (with_reducible refine LeO.bind ?_ (fun _ => ?_))
   | exact api_Assign__of_maySets_1_105.mono _ _
   | exact LeO.none _
   | refine LeO.ite ?_ ?_
   | refine LeO.bind ?_ (fun _ => ?_)
set_option maxHeartbeats 8000000 in
set_option maxRecDepth 100000 in
theorem tree_maySets.calls (k : Nat) (A0 : Option Addr) (c0 : Nat) (l0 : List (S65)) (r : Bool) (w : World) (hr0 : Kd.C k65 w A0 l0.length l0) (hc0 : l0.length ≤ c0) (hsh : Sh w) (h : tree_maySets.f k l0 = some r) :
  Calls Tryz.prog 62 #[.slice A0 l0.length c0] w fun e w' => e = .returned (.bool r) ∧ Below w.heap.size w w' := by
 have HR0 := Aside0.mk hr0
 have HC0 := Aside0.mk hc0
 clear hr0 hc0
 have HB := Aside0.mk (Below.refl w.heap.size w)
 have H : (if (l0.length : Int) ≥ 1 then (if (l0.length : Int) ≤ 6 then ((api_Assign__of_maySets_1_105.f k l0).bind fun t224 => (some (!t224))) else (some false)) else (some false)) = some r := h
 clear h
 by_cases c2 : (l0.length : Int) ≥ 1
 ·rw [if_pos c2] at H
  have c2b0 : decide (1 ≤ (l0.length : Int)) = true := decide_eq_true c2
  have c2b1 : decide (1 ≤ l0.length) = true := decide_eq_true (by omega)
  clear c2
  by_cases c3 : (l0.length : Int) ≤ 6
  ·rw [if_pos c3] at H
   have c3b0 : decide ((l0.length : Int) ≤ 6) = true := decide_eq_true c3
   have c3b1 : decide (l0.length ≤ 6) = true := decide_eq_true (by omega)
   clear c3
   obtain ⟨t224, A40, H⟩ := bind_out H
   have A4 := Aside0.mk A40
   clear A40
   obtain rfl := Option.some.inj H
   go_enter Tryz.func62, Tryz.ntmps62
   go_wp2_with (first | (go_at_call 105; (with_reducible refine (api_Assign__of_maySets_1_105.calls k _ _ l0 t224 _ ?side1 ?side2 ?side3 A4.out).mono ?_); (case side1 => repeat (first | exact HR0.out | (with_reducible refine Kd.C_alloc ?_ _) | (with_reducible refine Kd.C_drewN ?_ _) | (with_reducible refine Kd.C_drew ?_))); (case side2 => exact HC0.out); (case side3 => exact Sh.below hsh bl); rintro e w5 ⟨rfl, hb⟩; replace HB := Aside0.mk (below_step bl hb); (try clear hb)))
   go_ret
   exact ⟨er, bl⟩
  ·rw [if_neg c3] at H
   have c3b0 : decide ((l0.length : Int) ≤ 6) = false := decide_eq_false c3
   have c3b1 : decide (l0.length ≤ 6) = false := decide_eq_false (by omega)
   clear c3
   obtain rfl := Option.some.inj H
   go_enter Tryz.func62, Tryz.ntmps62
   go_wp2
   go_ret
   exact ⟨er, bl⟩
 ·rw [if_neg c2] at H
  have c2b0 : decide (1 ≤ (l0.length : Int)) = false := decide_eq_false c2
  have c2b1 : decide (1 ≤ l0.length) = false := decide_eq_false (by omega)
  clear c2
  obtain rfl := Option.some.inj H
  go_enter Tryz.func62, Tryz.ntmps62
  go_wp2
  go_ret
  exact ⟨er, bl⟩
end Go.Proofs.YtlpnlfahlcingaaGreatDoor.PL
end
section
namespace Go.Proofs.YtlpnlfahlcingaaGreatDoor.PL
open Go.RowKit Go.Proofs.YtlpnlfahlcingaaGreatDoorW.PrintWords Go.Proofs.YtlpnlfahlcingaaGreatDoorW.PrintLast Go.Proofs.YtlpnlfahlcingaaGreatDoorW.PrintMore
attribute [local go_sem] max2_int min2_int max_two min_two max_three min_three max_four min_four
attribute [local go_sem ↓] isSome_setCell
set_option linter.unusedVariables false
set_option linter.unusedSimpArgs false
mutual
def tree_mayStmt.j0 : Nat → Bool → Int → ByteArray → List (S63) → List (List (S34)) → List (S65) → Bool → Int → ByteArray → Int → Int → ByteArray → List (S34) → ByteArray → Bool → Int → Option (Bool)
 | 0, _, _, _, _, _, _, _, _, _, _, _, _, _, _, _, _ => none
 | k + 1, x28, x226000, x226001, x226002, x226003, x226004, x226005, x226006, x226007, x226008, x226009, x226010, x226011, x226012, x226013, x226014 => if x28 = true then (some false) else (if x226000 = 1 then (if x226000 = 2 then (if x226000 = 3 then (tree_mayStmt.j1 k false x226000 x226001 x226002 x226003 x226004 x226005 x226006 x226007 x226008 x226009 x226010 x226011 x226012 x226013 x226014) else (tree_mayStmt.j1 k (decide ((x226004.length : Int) > 0)) x226000 x226001 x226002 x226003 x226004 x226005 x226006 x226007 x226008 x226009 x226010 x226011 x226012 x226013 x226014)) else (if (x226003.length : Int) > 0 then (tree_mayStmt.j1 k true x226000 x226001 x226002 x226003 x226004 x226005 x226006 x226007 x226008 x226009 x226010 x226011 x226012 x226013 x226014) else (if x226000 = 3 then (tree_mayStmt.j1 k false x226000 x226001 x226002 x226003 x226004 x226005 x226006 x226007 x226008 x226009 x226010 x226011 x226012 x226013 x226014) else (tree_mayStmt.j1 k (decide ((x226004.length : Int) > 0)) x226000 x226001 x226002 x226003 x226004 x226005 x226006 x226007 x226008 x226009 x226010 x226011 x226012 x226013 x226014)))) else (if (x226002.length : Int) > 0 then (tree_mayStmt.j1 k true x226000 x226001 x226002 x226003 x226004 x226005 x226006 x226007 x226008 x226009 x226010 x226011 x226012 x226013 x226014) else (if x226012.toList = ([] : List UInt8) then (if x226013 = true then (tree_mayStmt.j1 k true x226000 x226001 x226002 x226003 x226004 x226005 x226006 x226007 x226008 x226009 x226010 x226011 x226012 x226013 x226014) else (if x226014 = 0 then (if x226000 = 2 then (if x226000 = 3 then (tree_mayStmt.j1 k false x226000 x226001 x226002 x226003 x226004 x226005 x226006 x226007 x226008 x226009 x226010 x226011 x226012 x226013 x226014) else (tree_mayStmt.j1 k (decide ((x226004.length : Int) > 0)) x226000 x226001 x226002 x226003 x226004 x226005 x226006 x226007 x226008 x226009 x226010 x226011 x226012 x226013 x226014)) else (if (x226003.length : Int) > 0 then (tree_mayStmt.j1 k true x226000 x226001 x226002 x226003 x226004 x226005 x226006 x226007 x226008 x226009 x226010 x226011 x226012 x226013 x226014) else (if x226000 = 3 then (tree_mayStmt.j1 k false x226000 x226001 x226002 x226003 x226004 x226005 x226006 x226007 x226008 x226009 x226010 x226011 x226012 x226013 x226014) else (tree_mayStmt.j1 k (decide ((x226004.length : Int) > 0)) x226000 x226001 x226002 x226003 x226004 x226005 x226006 x226007 x226008 x226009 x226010 x226011 x226012 x226013 x226014)))) else (tree_mayStmt.j1 k true x226000 x226001 x226002 x226003 x226004 x226005 x226006 x226007 x226008 x226009 x226010 x226011 x226012 x226013 x226014))) else (tree_mayStmt.j1 k true x226000 x226001 x226002 x226003 x226004 x226005 x226006 x226007 x226008 x226009 x226010 x226011 x226012 x226013 x226014))))
def tree_mayStmt.j1 : Nat → Bool → Int → ByteArray → List (S63) → List (List (S34)) → List (S65) → Bool → Int → ByteArray → Int → Int → ByteArray → List (S34) → ByteArray → Bool → Int → Option (Bool)
 | 0, _, _, _, _, _, _, _, _, _, _, _, _, _, _, _, _ => none
 | k + 1, x75, x226000, x226001, x226002, x226003, x226004, x226005, x226006, x226007, x226008, x226009, x226010, x226011, x226012, x226013, x226014 => if x75 = true then (some false) else (if x226000 = 1 then ((tree_mayItems.f k x226002).bind fun t229 => (if t229 = true then (if x226012.toList = ([] : List UInt8) then (if x226013 = true then ((lex_Word.f k x226012).bind fun t230 => (if t230 = true then (some (decide (x226014 ≥ (-1)))) else (some false))) else (some (decide (x226014 ≥ (-1))))) else ((lex_Word.f k x226012).bind fun t231 => (if t231 = true then (some (decide (x226014 ≥ (-1)))) else (some false)))) else (some false))) else (if x226000 = 2 then ((tree_mayRows.f k x226003).bind fun t232 => (if t232 = true then (some (!x226005)) else (some false))) else (if x226000 = 3 then ((tree_maySets.f k x226004).bind fun t233 => (some t233)) else (some (x226000 == 4)))))
end
def tree_mayStmt.f (k : Nat) (a0_0 : Int) (a0_1 : ByteArray) (l0_2 : List (S63)) (l0_3 : List (List (S34))) (l0_4 : List (S65)) (a0_5 : Bool) (a0_6 : Int) (a0_7 : ByteArray) (a0_8 : Int) (a0_9 : Int) (a0_10 : ByteArray) (l0_11 : List (S34)) (a0_12 : ByteArray) (a0_13 : Bool) (a0_14 : Int) : Option (Bool) := (lex_Word.f k a0_1).bind fun t226 => (if t226 = true then (if a0_5 = true then ((tree_mayExpr.f k a0_6 a0_7 a0_8 a0_9 a0_10 l0_11 16).bind fun t227 => (if t227 = true then (tree_mayStmt.j0 k false a0_0 a0_1 l0_2 l0_3 l0_4 a0_5 a0_6 a0_7 a0_8 a0_9 a0_10 l0_11 a0_12 a0_13 a0_14) else (tree_mayStmt.j0 k true a0_0 a0_1 l0_2 l0_3 l0_4 a0_5 a0_6 a0_7 a0_8 a0_9 a0_10 l0_11 a0_12 a0_13 a0_14))) else ((tree_blank.f a0_6 a0_7 a0_8 a0_9 a0_10 l0_11).bind fun t228 => (tree_mayStmt.j0 k (!t228) a0_0 a0_1 l0_2 l0_3 l0_4 a0_5 a0_6 a0_7 a0_8 a0_9 a0_10 l0_11 a0_12 a0_13 a0_14))) else (tree_mayStmt.j0 k true a0_0 a0_1 l0_2 l0_3 l0_4 a0_5 a0_6 a0_7 a0_8 a0_9 a0_10 l0_11 a0_12 a0_13 a0_14))
theorem tree_mayStmt.mono_l : ∀ k, (∀ y0 y1 y2 y3 y4 y5 y6 y7 y8 y9 y10 y11 y12 y13 y14 y15, LeO (tree_mayStmt.j0 k y0 y1 y2 y3 y4 y5 y6 y7 y8 y9 y10 y11 y12 y13 y14 y15) (tree_mayStmt.j0 (k + 1) y0 y1 y2 y3 y4 y5 y6 y7 y8 y9 y10 y11 y12 y13 y14 y15)) ∧ (∀ y0 y1 y2 y3 y4 y5 y6 y7 y8 y9 y10 y11 y12 y13 y14 y15, LeO (tree_mayStmt.j1 k y0 y1 y2 y3 y4 y5 y6 y7 y8 y9 y10 y11 y12 y13 y14 y15) (tree_mayStmt.j1 (k + 1) y0 y1 y2 y3 y4 y5 y6 y7 y8 y9 y10 y11 y12 y13 y14 y15))
 | 0 => ⟨fun _ _ _ _ _ _ _ _ _ _ _ _ _ _ _ _ r h => by simp [tree_mayStmt.j0] at h, fun _ _ _ _ _ _ _ _ _ _ _ _ _ _ _ _ r h => by simp [tree_mayStmt.j1] at h⟩
 | k + 1 => by
  obtain ⟨ih0, ih1⟩ := tree_mayStmt.mono_l k
  refine ⟨?_, ?_⟩
  ·intro y0 y1 y2 y3 y4 y5 y6 y7 y8 y9 y10 y11 y12 y13 y14 y15
   unfold tree_mayStmt.j0
   repeat' first
   | (with_reducible exact ih0 _ _ _ _ _ _ _ _ _ _ _ _ _ _ _ _)
   | (with_reducible exact ih1 _ _ _ _ _ _ _ _ _ _ _ _ _ _ _ _)
   | (with_reducible exact lex_Word.mono _ _)
   | (with_reducible exact tree_mayExpr.mono _ _ _ _ _ _ _ _)
   | (with_reducible exact tree_mayItems.mono _ _)
   | (with_reducible exact tree_mayRows.mono _ _)
   | (with_reducible exact tree_maySets.mono _ _)
   | (with_reducible exact LeO.refl _)
   | (with_reducible exact LeO.none _)
   | (with_reducible refine LeO.ite ?_ ?_)
   | (with_reducible refine LeO.bind ?_ (fun _ => ?_))
   | exact ih0 _ _ _ _ _ _ _ _ _ _ _ _ _ _ _ _
   | exact ih1 _ _ _ _ _ _ _ _ _ _ _ _ _ _ _ _
   | exact lex_Word.mono _ _
   | exact tree_mayExpr.mono _ _ _ _ _ _ _ _
   | exact tree_mayItems.mono _ _
   | exact tree_mayRows.mono _ _
   | exact tree_maySets.mono _ _
   | exact LeO.none _
   | refine LeO.ite ?_ ?_
   | refine LeO.bind ?_ (fun _ => ?_)
  ·intro y0 y1 y2 y3 y4 y5 y6 y7 y8 y9 y10 y11 y12 y13 y14 y15
   unfold tree_mayStmt.j1
   repeat' first
   | (with_reducible exact ih0 _ _ _ _ _ _ _ _ _ _ _ _ _ _ _ _)
   | (with_reducible exact ih1 _ _ _ _ _ _ _ _ _ _ _ _ _ _ _ _)
   | (with_reducible exact lex_Word.mono _ _)
   | (with_reducible exact tree_mayExpr.mono _ _ _ _ _ _ _ _)
   | (with_reducible exact tree_mayItems.mono _ _)
   | (with_reducible exact tree_mayRows.mono _ _)
   | (with_reducible exact tree_maySets.mono _ _)
   | (with_reducible exact LeO.refl _)
   | (with_reducible exact LeO.none _)
   | (with_reducible refine LeO.ite ?_ ?_)
   | (with_reducible refine LeO.bind ?_ (fun _ => ?_))
   | exact ih0 _ _ _ _ _ _ _ _ _ _ _ _ _ _ _ _
   | exact ih1 _ _ _ _ _ _ _ _ _ _ _ _ _ _ _ _
   | exact lex_Word.mono _ _
   | exact tree_mayExpr.mono _ _ _ _ _ _ _ _
   | exact tree_mayItems.mono _ _
   | exact tree_mayRows.mono _ _
   | exact tree_maySets.mono _ _
   | exact LeO.none _
   | refine LeO.ite ?_ ?_
   | refine LeO.bind ?_ (fun _ => ?_)
theorem tree_mayStmt.mono : ∀ a0 a1 a2 a3 a4 a5 a6 a7 a8 a9 a10 a11 a12 a13 a14 k, LeO (tree_mayStmt.f k a0 a1 a2 a3 a4 a5 a6 a7 a8 a9 a10 a11 a12 a13 a14) (tree_mayStmt.f (k + 1) a0 a1 a2 a3 a4 a5 a6 a7 a8 a9 a10 a11 a12 a13 a14) := by
 intro a0 a1 a2 a3 a4 a5 a6 a7 a8 a9 a10 a11 a12 a13 a14 k
 obtain ⟨ih0, ih1⟩ := tree_mayStmt.mono_l k
 unfold tree_mayStmt.f
 repeat' first
   | (with_reducible exact ih0 _ _ _ _ _ _ _ _ _ _ _ _ _ _ _ _)
   | (with_reducible exact ih1 _ _ _ _ _ _ _ _ _ _ _ _ _ _ _ _)
   | (with_reducible exact lex_Word.mono _ _)
   | (with_reducible exact tree_mayExpr.mono _ _ _ _ _ _ _ _)
   | (with_reducible exact tree_mayItems.mono _ _)
   | (with_reducible exact tree_mayRows.mono _ _)
   | (with_reducible exact tree_maySets.mono _ _)
   | (with_reducible exact LeO.refl _)
   | (with_reducible exact LeO.none _)
   | (with_reducible refine LeO.ite ?_ ?_)
   | (with_reducible refine LeO.bind ?_ (fun _ => ?_))
   | exact ih0 _ _ _ _ _ _ _ _ _ _ _ _ _ _ _ _
   | exact ih1 _ _ _ _ _ _ _ _ _ _ _ _ _ _ _ _
   | exact lex_Word.mono _ _
   | exact tree_mayExpr.mono _ _ _ _ _ _ _ _
   | exact tree_mayItems.mono _ _
   | exact tree_mayRows.mono _ _
   | exact tree_maySets.mono _ _
   | exact LeO.none _
   | refine LeO.ite ?_ ?_
   | refine LeO.bind ?_ (fun _ => ?_)
set_option maxHeartbeats 8000000 in
set_option maxRecDepth 100000 in
theorem tree_mayStmt.calls (k : Nat) (a0_0 : Int) (a0_1 : ByteArray) (A0_2 : Option Addr) (c0_2 : Nat) (l0_2 : List (S63)) (A0_3 : Option Addr) (c0_3 : Nat) (l0_3 : List (List (S34))) (A0_4 : Option Addr) (c0_4 : Nat) (l0_4 : List (S65)) (a0_5 : Bool) (a0_6 : Int) (a0_7 : ByteArray) (a0_8 : Int) (a0_9 : Int) (a0_10 : ByteArray) (A0_11 : Option Addr) (c0_11 : Nat) (l0_11 : List (S34)) (a0_12 : ByteArray) (a0_13 : Bool) (a0_14 : Int) (r : Bool) (w : World) (hr0_2 : Kd.C k63 w A0_2 l0_2.length l0_2) (hc0_2 : l0_2.length ≤ c0_2) (hr0_3 : Kd.C (Kd.slice 34 k34) w A0_3 l0_3.length l0_3) (hc0_3 : l0_3.length ≤ c0_3) (hr0_4 : Kd.C k65 w A0_4 l0_4.length l0_4) (hc0_4 : l0_4.length ≤ c0_4) (hr0_11 : Kd.C k34 w A0_11 l0_11.length l0_11) (hc0_11 : l0_11.length ≤ c0_11) (hsh : Sh w) (h : tree_mayStmt.f k a0_0 a0_1 l0_2 l0_3 l0_4 a0_5 a0_6 a0_7 a0_8 a0_9 a0_10 l0_11 a0_12 a0_13 a0_14 = some r) :
  Calls Tryz.prog 30 #[.agg #[.int .i64 a0_0, .string a0_1, .slice A0_2 l0_2.length c0_2, .slice A0_3 l0_3.length c0_3, .slice A0_4 l0_4.length c0_4, .bool a0_5, .int .i64 a0_6, .string a0_7, .int .i64 a0_8, .int .i64 a0_9, .string a0_10, .slice A0_11 l0_11.length c0_11, .string a0_12, .bool a0_13, .int .i64 a0_14]] w fun e w' => e = .returned (.bool r) ∧ Below w.heap.size w w' := by
 have hu44 := Tryz.underlying44
 have hu34 := Tryz.underlying34
 have HR0_2 := Aside0.mk hr0_2
 have HC0_2 := Aside0.mk hc0_2
 clear hr0_2 hc0_2
 have HR0_3 := Aside0.mk hr0_3
 have HC0_3 := Aside0.mk hc0_3
 clear hr0_3 hc0_3
 have HR0_4 := Aside0.mk hr0_4
 have HC0_4 := Aside0.mk hc0_4
 clear hr0_4 hc0_4
 have HR0_11 := Aside0.mk hr0_11
 have HC0_11 := Aside0.mk hc0_11
 clear hr0_11 hc0_11
 have HB := Aside0.mk (Below.refl w.heap.size w)
 have H : ((lex_Word.f k a0_1).bind fun t226 => (if t226 = true then (if a0_5 = true then ((tree_mayExpr.f k a0_6 a0_7 a0_8 a0_9 a0_10 l0_11 16).bind fun t227 => (if t227 = true then (tree_mayStmt.j0 k false a0_0 a0_1 l0_2 l0_3 l0_4 a0_5 a0_6 a0_7 a0_8 a0_9 a0_10 l0_11 a0_12 a0_13 a0_14) else (tree_mayStmt.j0 k true a0_0 a0_1 l0_2 l0_3 l0_4 a0_5 a0_6 a0_7 a0_8 a0_9 a0_10 l0_11 a0_12 a0_13 a0_14))) else ((tree_blank.f a0_6 a0_7 a0_8 a0_9 a0_10 l0_11).bind fun t228 => (tree_mayStmt.j0 k (!t228) a0_0 a0_1 l0_2 l0_3 l0_4 a0_5 a0_6 a0_7 a0_8 a0_9 a0_10 l0_11 a0_12 a0_13 a0_14))) else (tree_mayStmt.j0 k true a0_0 a0_1 l0_2 l0_3 l0_4 a0_5 a0_6 a0_7 a0_8 a0_9 a0_10 l0_11 a0_12 a0_13 a0_14))) = some r := h
 clear h
 have HC2 := Aside0.mk H
 clear H
 go_enter Tryz.func30, Tryz.ntmps30
 go_upto_region 1 with (first | ((with_reducible refine gate_dst (N := 1) rfl ?_); (try (refine gate_guard (by rfl) ?_; dsimp only)); refine box_ev (N := 1) (cs := #[.int .i64 a0_0, .string a0_1, .slice A0_2 l0_2.length c0_2, .slice A0_3 l0_3.length c0_3, .slice A0_4 l0_4.length c0_4, .bool a0_5, .int .i64 a0_6, .string a0_7, .int .i64 a0_8, .int .i64 a0_9, .string a0_10, .slice A0_11 l0_11.length c0_11, .string a0_12, .bool a0_13, .int .i64 a0_14]) (t := 44) ?_; intro gb225 hg w3 hbox hb; have BK225 := Aside0.mk (hbox); have GW225 := Aside0.mk (gsz hg bl : w.heap.size ≤ gb225); have GE225 := Aside0.mk (gsz hg bl : w.heap.size ≤ gb225); replace HB := Aside0.mk (below_step bl hb); clear hb hbox hg))
 (try simp only [Act.put, List.setIfInBounds_toArray, List.set_cons_zero, List.set_cons_succ])
 go_cut [28] (fun v28 wc => ∃ (kq : Nat) (x28_1 : Bool), v28 = .bool x28_1 ∧ Aside0 (tree_mayStmt.j0 kq x28_1 a0_0 a0_1 l0_2 l0_3 l0_4 a0_5 a0_6 a0_7 a0_8 a0_9 a0_10 l0_11 a0_12 a0_13 a0_14 = some r) ∧ Aside0 (kq ≤ k) ∧ Aside0 (wc.heap[gb225]? = some (.cells #[.int .i64 a0_0, .string a0_1, (.slice A0_2 l0_2.length c0_2), (.slice A0_3 l0_3.length c0_3), (.slice A0_4 l0_4.length c0_4), .bool a0_5, .int .i64 a0_6, .string a0_7, .int .i64 a0_8, .int .i64 a0_9, .string a0_10, (.slice A0_11 l0_11.length c0_11), .string a0_12, .bool a0_13, .int .i64 a0_14] 44 (0, 0))) ∧ Aside0 (Below w.heap.size w wc))
 case first =>
  have H := HC2.out
  clear HC2
  obtain ⟨t226, A40, H⟩ := bind_out H
  have A4 := Aside0.mk A40
  clear A40
  by_cases c5 : t226 = true
  ·subst c5
   rw [if_pos rfl] at H
   by_cases c6 : a0_5 = true
   ·subst c6
    rw [if_pos rfl] at H
    obtain ⟨t227, A70, H⟩ := bind_out H
    have A7 := Aside0.mk A70
    clear A70
    by_cases c8 : t227 = true
    ·subst c8
     rw [if_pos rfl] at H
     have H' := Aside0.mk H
     clear H
     obtain ⟨hcz9_0, hcz9_1, hcz9_2, hcz9_3, hcz9_4, hcz9_5, hcz9_6, hcz9_7, hcz9_8, hcz9_9, hcz9_10, hcz9_11, hcz9_12, hcz9_13, hcz9_14⟩ := cells15 BK225.out
     obtain ⟨hfz9_0, hfz9_1, hfz9_2, hfz9_3, hfz9_4, hfz9_5, hfz9_6, hfz9_7, hfz9_8, hfz9_9, hfz9_10, hfz9_11, hfz9_12, hfz9_13, hfz9_14⟩ := froz15 BK225.out
     go_wp2_with (first | ((with_reducible refine gate_callee (f := 57) rfl ?_); refine goesL_ (some 6) rfl rfl Tryz.func57 (by kernel_rfl) rfl #[.string a0_1] rfl mp ?_; (with_reducible refine (lex_Word.calls k a0_1 true _ ?side1 A4.out).mono ?_); (case side1 => exact Sh.below hsh bl); rintro e w10 ⟨rfl, hb⟩; refine ⟨_, rfl, ?_⟩; replace BK225 := Aside0.mk (blk_below (g := gb225) (o := .cells #[.int .i64 a0_0, .string a0_1, .slice A0_2 l0_2.length c0_2, .slice A0_3 l0_3.length c0_3, .slice A0_4 l0_4.length c0_4, .bool true, .int .i64 a0_6, .string a0_7, .int .i64 a0_8, .int .i64 a0_9, .string a0_10, .slice A0_11 l0_11.length c0_11, .string a0_12, .bool a0_13, .int .i64 a0_14] 44 (0, 0)) bk hb); replace HB := Aside0.mk (below_step bl hb); (try clear hb); obtain ⟨hcz11_0, hcz11_1, hcz11_2, hcz11_3, hcz11_4, hcz11_5, hcz11_6, hcz11_7, hcz11_8, hcz11_9, hcz11_10, hcz11_11, hcz11_12, hcz11_13, hcz11_14⟩ := cells15 BK225.out; obtain ⟨hfz11_0, hfz11_1, hfz11_2, hfz11_3, hfz11_4, hfz11_5, hfz11_6, hfz11_7, hfz11_8, hfz11_9, hfz11_10, hfz11_11, hfz11_12, hfz11_13, hfz11_14⟩ := froz15 BK225.out) | (go_at_call 58; (with_reducible refine (tree_mayExpr.calls k a0_6 a0_7 a0_8 a0_9 a0_10 _ _ l0_11 16 true _ ?side1 ?side2 ?side3 A7.out).mono ?_); (case side1 => exact kc HR0_11.out); (case side2 => exact HC0_11.out); (case side3 => exact Sh.below hsh bl); rintro e w12 ⟨rfl, hb⟩; replace BK225 := Aside0.mk (blk_below (g := gb225) (o := .cells #[.int .i64 a0_0, .string a0_1, .slice A0_2 l0_2.length c0_2, .slice A0_3 l0_3.length c0_3, .slice A0_4 l0_4.length c0_4, .bool true, .int .i64 a0_6, .string a0_7, .int .i64 a0_8, .int .i64 a0_9, .string a0_10, .slice A0_11 l0_11.length c0_11, .string a0_12, .bool a0_13, .int .i64 a0_14] 44 (0, 0)) bk hb); replace HB := Aside0.mk (below_step bl hb); (try clear hb); obtain ⟨hcz13_0, hcz13_1, hcz13_2, hcz13_3, hcz13_4, hcz13_5, hcz13_6, hcz13_7, hcz13_8, hcz13_9, hcz13_10, hcz13_11, hcz13_12, hcz13_13, hcz13_14⟩ := cells15 BK225.out; obtain ⟨hfz13_0, hfz13_1, hfz13_2, hfz13_3, hfz13_4, hfz13_5, hfz13_6, hfz13_7, hfz13_8, hfz13_9, hfz13_10, hfz13_11, hfz13_12, hfz13_13, hfz13_14⟩ := froz15 BK225.out))
     go_meet
     case rel => exact ⟨_, (false), rs, H', ⟨lk⟩, ⟨bk⟩, ⟨bl⟩⟩
    ·replace c8 := Bool.eq_false_iff.mpr c8
     subst c8
     rw [if_neg (show ¬ (false = true) by decide)] at H
     have H' := Aside0.mk H
     clear H
     obtain ⟨hcz14_0, hcz14_1, hcz14_2, hcz14_3, hcz14_4, hcz14_5, hcz14_6, hcz14_7, hcz14_8, hcz14_9, hcz14_10, hcz14_11, hcz14_12, hcz14_13, hcz14_14⟩ := cells15 BK225.out
     obtain ⟨hfz14_0, hfz14_1, hfz14_2, hfz14_3, hfz14_4, hfz14_5, hfz14_6, hfz14_7, hfz14_8, hfz14_9, hfz14_10, hfz14_11, hfz14_12, hfz14_13, hfz14_14⟩ := froz15 BK225.out
     go_wp2_with (first | ((with_reducible refine gate_callee (f := 57) rfl ?_); refine goesL_ (some 6) rfl rfl Tryz.func57 (by kernel_rfl) rfl #[.string a0_1] rfl mp ?_; (with_reducible refine (lex_Word.calls k a0_1 true _ ?side1 A4.out).mono ?_); (case side1 => exact Sh.below hsh bl); rintro e w15 ⟨rfl, hb⟩; refine ⟨_, rfl, ?_⟩; replace BK225 := Aside0.mk (blk_below (g := gb225) (o := .cells #[.int .i64 a0_0, .string a0_1, .slice A0_2 l0_2.length c0_2, .slice A0_3 l0_3.length c0_3, .slice A0_4 l0_4.length c0_4, .bool true, .int .i64 a0_6, .string a0_7, .int .i64 a0_8, .int .i64 a0_9, .string a0_10, .slice A0_11 l0_11.length c0_11, .string a0_12, .bool a0_13, .int .i64 a0_14] 44 (0, 0)) bk hb); replace HB := Aside0.mk (below_step bl hb); (try clear hb); obtain ⟨hcz16_0, hcz16_1, hcz16_2, hcz16_3, hcz16_4, hcz16_5, hcz16_6, hcz16_7, hcz16_8, hcz16_9, hcz16_10, hcz16_11, hcz16_12, hcz16_13, hcz16_14⟩ := cells15 BK225.out; obtain ⟨hfz16_0, hfz16_1, hfz16_2, hfz16_3, hfz16_4, hfz16_5, hfz16_6, hfz16_7, hfz16_8, hfz16_9, hfz16_10, hfz16_11, hfz16_12, hfz16_13, hfz16_14⟩ := froz15 BK225.out) | (go_at_call 58; (with_reducible refine (tree_mayExpr.calls k a0_6 a0_7 a0_8 a0_9 a0_10 _ _ l0_11 16 false _ ?side1 ?side2 ?side3 A7.out).mono ?_); (case side1 => exact kc HR0_11.out); (case side2 => exact HC0_11.out); (case side3 => exact Sh.below hsh bl); rintro e w17 ⟨rfl, hb⟩; replace BK225 := Aside0.mk (blk_below (g := gb225) (o := .cells #[.int .i64 a0_0, .string a0_1, .slice A0_2 l0_2.length c0_2, .slice A0_3 l0_3.length c0_3, .slice A0_4 l0_4.length c0_4, .bool true, .int .i64 a0_6, .string a0_7, .int .i64 a0_8, .int .i64 a0_9, .string a0_10, .slice A0_11 l0_11.length c0_11, .string a0_12, .bool a0_13, .int .i64 a0_14] 44 (0, 0)) bk hb); replace HB := Aside0.mk (below_step bl hb); (try clear hb)))
     go_meet
     case rel => exact ⟨_, (true), rs, H', ⟨lk⟩, ⟨bk⟩, ⟨bl⟩⟩
   ·replace c6 := Bool.eq_false_iff.mpr c6
    subst c6
    rw [if_neg (show ¬ (false = true) by decide)] at H
    obtain ⟨t228, A180, H⟩ := bind_out H
    have A18 := Aside0.mk A180
    clear A180
    have H' := Aside0.mk H
    clear H
    obtain ⟨hcz19_0, hcz19_1, hcz19_2, hcz19_3, hcz19_4, hcz19_5, hcz19_6, hcz19_7, hcz19_8, hcz19_9, hcz19_10, hcz19_11, hcz19_12, hcz19_13, hcz19_14⟩ := cells15 BK225.out
    obtain ⟨hfz19_0, hfz19_1, hfz19_2, hfz19_3, hfz19_4, hfz19_5, hfz19_6, hfz19_7, hfz19_8, hfz19_9, hfz19_10, hfz19_11, hfz19_12, hfz19_13, hfz19_14⟩ := froz15 BK225.out
    go_wp2_with (first | ((with_reducible refine gate_callee (f := 57) rfl ?_); refine goesL_ (some 6) rfl rfl Tryz.func57 (by kernel_rfl) rfl #[.string a0_1] rfl mp ?_; (with_reducible refine (lex_Word.calls k a0_1 true _ ?side1 A4.out).mono ?_); (case side1 => exact Sh.below hsh bl); rintro e w20 ⟨rfl, hb⟩; refine ⟨_, rfl, ?_⟩; replace BK225 := Aside0.mk (blk_below (g := gb225) (o := .cells #[.int .i64 a0_0, .string a0_1, .slice A0_2 l0_2.length c0_2, .slice A0_3 l0_3.length c0_3, .slice A0_4 l0_4.length c0_4, .bool false, .int .i64 a0_6, .string a0_7, .int .i64 a0_8, .int .i64 a0_9, .string a0_10, .slice A0_11 l0_11.length c0_11, .string a0_12, .bool a0_13, .int .i64 a0_14] 44 (0, 0)) bk hb); replace HB := Aside0.mk (below_step bl hb); (try clear hb); obtain ⟨hcz21_0, hcz21_1, hcz21_2, hcz21_3, hcz21_4, hcz21_5, hcz21_6, hcz21_7, hcz21_8, hcz21_9, hcz21_10, hcz21_11, hcz21_12, hcz21_13, hcz21_14⟩ := cells15 BK225.out; obtain ⟨hfz21_0, hfz21_1, hfz21_2, hfz21_3, hfz21_4, hfz21_5, hfz21_6, hfz21_7, hfz21_8, hfz21_9, hfz21_10, hfz21_11, hfz21_12, hfz21_13, hfz21_14⟩ := froz15 BK225.out) | (go_at_call 59; (with_reducible refine (tree_blank.calls a0_6 a0_7 a0_8 a0_9 a0_10 _ _ l0_11 t228 _ ?side1 ?side2 A18.out).mono ?_); (case side1 => exact kc HR0_11.out); (case side2 => exact HC0_11.out); rintro e w22 ⟨rfl, hb⟩; replace BK225 := Aside0.mk (blk_below (g := gb225) (o := .cells #[.int .i64 a0_0, .string a0_1, .slice A0_2 l0_2.length c0_2, .slice A0_3 l0_3.length c0_3, .slice A0_4 l0_4.length c0_4, .bool false, .int .i64 a0_6, .string a0_7, .int .i64 a0_8, .int .i64 a0_9, .string a0_10, .slice A0_11 l0_11.length c0_11, .string a0_12, .bool a0_13, .int .i64 a0_14] 44 (0, 0)) bk hb); replace HB := Aside0.mk (below_step bl hb); (try clear hb)))
    go_meet
    case rel => exact ⟨_, (!t228), rs, H', ⟨lk⟩, ⟨bk⟩, ⟨bl⟩⟩
  ·replace c5 := Bool.eq_false_iff.mpr c5
   subst c5
   rw [if_neg (show ¬ (false = true) by decide)] at H
   have H' := Aside0.mk H
   clear H
   obtain ⟨hcz23_0, hcz23_1, hcz23_2, hcz23_3, hcz23_4, hcz23_5, hcz23_6, hcz23_7, hcz23_8, hcz23_9, hcz23_10, hcz23_11, hcz23_12, hcz23_13, hcz23_14⟩ := cells15 BK225.out
   obtain ⟨hfz23_0, hfz23_1, hfz23_2, hfz23_3, hfz23_4, hfz23_5, hfz23_6, hfz23_7, hfz23_8, hfz23_9, hfz23_10, hfz23_11, hfz23_12, hfz23_13, hfz23_14⟩ := froz15 BK225.out
   go_wp2_with (first | ((with_reducible refine gate_callee (f := 57) rfl ?_); refine goesL_ (some 6) rfl rfl Tryz.func57 (by kernel_rfl) rfl #[.string a0_1] rfl mp ?_; (with_reducible refine (lex_Word.calls k a0_1 false _ ?side1 A4.out).mono ?_); (case side1 => exact Sh.below hsh bl); rintro e w24 ⟨rfl, hb⟩; refine ⟨_, rfl, ?_⟩; replace BK225 := Aside0.mk (blk_below (g := gb225) (o := .cells #[.int .i64 a0_0, .string a0_1, .slice A0_2 l0_2.length c0_2, .slice A0_3 l0_3.length c0_3, .slice A0_4 l0_4.length c0_4, .bool a0_5, .int .i64 a0_6, .string a0_7, .int .i64 a0_8, .int .i64 a0_9, .string a0_10, .slice A0_11 l0_11.length c0_11, .string a0_12, .bool a0_13, .int .i64 a0_14] 44 (0, 0)) bk hb); replace HB := Aside0.mk (below_step bl hb); (try clear hb)))
   go_meet
   case rel => exact ⟨_, (true), rs, H', ⟨lk⟩, ⟨bk⟩, ⟨bl⟩⟩
 case rest =>
  clear HC2
  obtain ⟨kq, x28_1, rfl, HA, HJ1, BK225, HB⟩ := hcut
  cases kq with
  | zero => exact absurd HA.out (by simp [tree_mayStmt.j0])
  | succ kj1 =>
   have H := HA.out
   clear HA
   simp only [tree_mayStmt.j0] at H
   by_cases c25 : x28_1 = true
   ·subst c25
    rw [if_pos rfl] at H
    obtain rfl := Option.some.inj H
    go_wp2
    go_ret
    exact ⟨er, bl⟩
   ·replace c25 := Bool.eq_false_iff.mpr c25
    subst c25
    rw [if_neg (show ¬ (false = true) by decide)] at H
    have HC26 := Aside0.mk H
    clear H
    obtain ⟨hcz27_0, hcz27_1, hcz27_2, hcz27_3, hcz27_4, hcz27_5, hcz27_6, hcz27_7, hcz27_8, hcz27_9, hcz27_10, hcz27_11, hcz27_12, hcz27_13, hcz27_14⟩ := cells15 BK225.out
    obtain ⟨hfz27_0, hfz27_1, hfz27_2, hfz27_3, hfz27_4, hfz27_5, hfz27_6, hfz27_7, hfz27_8, hfz27_9, hfz27_10, hfz27_11, hfz27_12, hfz27_13, hfz27_14⟩ := froz15 BK225.out
    go_upto_region 4 with (fail)
    go_cut [3, 75] (fun v3 v75 wc => ∃ (kq : Nat) (x75_25 : Bool), (v3 = .bool (a0_0 == 1) ∧ v75 = .bool x75_25) ∧ Aside0 (tree_mayStmt.j1 kq x75_25 a0_0 a0_1 l0_2 l0_3 l0_4 a0_5 a0_6 a0_7 a0_8 a0_9 a0_10 l0_11 a0_12 a0_13 a0_14 = some r) ∧ Aside0 (kq ≤ kj1) ∧ Aside0 (wc.heap[gb225]? = some (.cells #[.int .i64 a0_0, .string a0_1, (.slice A0_2 l0_2.length c0_2), (.slice A0_3 l0_3.length c0_3), (.slice A0_4 l0_4.length c0_4), .bool a0_5, .int .i64 a0_6, .string a0_7, .int .i64 a0_8, .int .i64 a0_9, .string a0_10, (.slice A0_11 l0_11.length c0_11), .string a0_12, .bool a0_13, .int .i64 a0_14] 44 (0, 0))) ∧ Aside0 (Below w.heap.size w wc))
    case first =>
     have H := HC26.out
     clear HC26
     by_cases c28 : a0_0 = 1
     ·rw [if_pos c28] at H
      have c28b0 : (a0_0 == 1) = true := beq_iff_eq.mpr c28
      have c28b1 : (a0_0 != 1) = false := bne_eq_false_iff_eq.mpr c28
      clear c28
      (first | rw [c28b0] | (simp only [i64_w, i32_w]; rw [c28b0]) | skip)
      by_cases c29 : a0_0 = 2
      ·rw [if_pos c29] at H
       have c29b0 : (a0_0 == 2) = true := beq_iff_eq.mpr c29
       have c29b1 : (a0_0 != 2) = false := bne_eq_false_iff_eq.mpr c29
       clear c29
       by_cases c30 : a0_0 = 3
       ·rw [if_pos c30] at H
        have c30b0 : (a0_0 == 3) = true := beq_iff_eq.mpr c30
        have c30b1 : (a0_0 != 3) = false := bne_eq_false_iff_eq.mpr c30
        clear c30
        have H' := Aside0.mk H
        clear H
        obtain ⟨hcz31_0, hcz31_1, hcz31_2, hcz31_3, hcz31_4, hcz31_5, hcz31_6, hcz31_7, hcz31_8, hcz31_9, hcz31_10, hcz31_11, hcz31_12, hcz31_13, hcz31_14⟩ := cells15 BK225.out
        obtain ⟨hfz31_0, hfz31_1, hfz31_2, hfz31_3, hfz31_4, hfz31_5, hfz31_6, hfz31_7, hfz31_8, hfz31_9, hfz31_10, hfz31_11, hfz31_12, hfz31_13, hfz31_14⟩ := froz15 BK225.out
        go_wp2
        go_meet
        case rel => exact ⟨_, (false), ⟨rs, rs⟩, H', ⟨by have := HJ1.out; first | omega | exact Nat.le_refl _⟩, ⟨bk⟩, ⟨bl⟩⟩
       ·rw [if_neg c30] at H
        have c30b0 : (a0_0 == 3) = false := beq_eq_false_iff_ne.mpr c30
        have c30b1 : (a0_0 != 3) = true := bne_iff_ne.mpr c30
        have H' := Aside0.mk H
        clear H
        obtain ⟨hcz32_0, hcz32_1, hcz32_2, hcz32_3, hcz32_4, hcz32_5, hcz32_6, hcz32_7, hcz32_8, hcz32_9, hcz32_10, hcz32_11, hcz32_12, hcz32_13, hcz32_14⟩ := cells15 BK225.out
        obtain ⟨hfz32_0, hfz32_1, hfz32_2, hfz32_3, hfz32_4, hfz32_5, hfz32_6, hfz32_7, hfz32_8, hfz32_9, hfz32_10, hfz32_11, hfz32_12, hfz32_13, hfz32_14⟩ := froz15 BK225.out
        go_wp2
        go_meet
        case rel => exact ⟨_, (decide ((l0_4.length : Int) > 0)), ⟨rs, rs⟩, H', ⟨by have := HJ1.out; first | omega | exact Nat.le_refl _⟩, ⟨bk⟩, ⟨bl⟩⟩
      ·rw [if_neg c29] at H
       have c29b0 : (a0_0 == 2) = false := beq_eq_false_iff_ne.mpr c29
       have c29b1 : (a0_0 != 2) = true := bne_iff_ne.mpr c29
       by_cases c33 : (l0_3.length : Int) > 0
       ·rw [if_pos c33] at H
        have c33b0 : decide (0 < (l0_3.length : Int)) = true := decide_eq_true c33
        have c33b1 : decide (0 < l0_3.length) = true := decide_eq_true (by omega)
        clear c33
        have H' := Aside0.mk H
        clear H
        obtain ⟨hcz34_0, hcz34_1, hcz34_2, hcz34_3, hcz34_4, hcz34_5, hcz34_6, hcz34_7, hcz34_8, hcz34_9, hcz34_10, hcz34_11, hcz34_12, hcz34_13, hcz34_14⟩ := cells15 BK225.out
        obtain ⟨hfz34_0, hfz34_1, hfz34_2, hfz34_3, hfz34_4, hfz34_5, hfz34_6, hfz34_7, hfz34_8, hfz34_9, hfz34_10, hfz34_11, hfz34_12, hfz34_13, hfz34_14⟩ := froz15 BK225.out
        go_wp2
        go_meet
        case rel => exact ⟨_, (true), ⟨rs, rs⟩, H', ⟨by have := HJ1.out; first | omega | exact Nat.le_refl _⟩, ⟨bk⟩, ⟨bl⟩⟩
       ·rw [if_neg c33] at H
        have c33b0 : decide (0 < (l0_3.length : Int)) = false := decide_eq_false c33
        have c33b1 : decide (0 < l0_3.length) = false := decide_eq_false (by omega)
        clear c33
        by_cases c35 : a0_0 = 3
        ·rw [if_pos c35] at H
         have c35b0 : (a0_0 == 3) = true := beq_iff_eq.mpr c35
         have c35b1 : (a0_0 != 3) = false := bne_eq_false_iff_eq.mpr c35
         clear c35
         have H' := Aside0.mk H
         clear H
         obtain ⟨hcz36_0, hcz36_1, hcz36_2, hcz36_3, hcz36_4, hcz36_5, hcz36_6, hcz36_7, hcz36_8, hcz36_9, hcz36_10, hcz36_11, hcz36_12, hcz36_13, hcz36_14⟩ := cells15 BK225.out
         obtain ⟨hfz36_0, hfz36_1, hfz36_2, hfz36_3, hfz36_4, hfz36_5, hfz36_6, hfz36_7, hfz36_8, hfz36_9, hfz36_10, hfz36_11, hfz36_12, hfz36_13, hfz36_14⟩ := froz15 BK225.out
         go_wp2
         go_meet
         case rel => exact ⟨_, (false), ⟨rs, rs⟩, H', ⟨by have := HJ1.out; first | omega | exact Nat.le_refl _⟩, ⟨bk⟩, ⟨bl⟩⟩
        ·rw [if_neg c35] at H
         have c35b0 : (a0_0 == 3) = false := beq_eq_false_iff_ne.mpr c35
         have c35b1 : (a0_0 != 3) = true := bne_iff_ne.mpr c35
         have H' := Aside0.mk H
         clear H
         obtain ⟨hcz37_0, hcz37_1, hcz37_2, hcz37_3, hcz37_4, hcz37_5, hcz37_6, hcz37_7, hcz37_8, hcz37_9, hcz37_10, hcz37_11, hcz37_12, hcz37_13, hcz37_14⟩ := cells15 BK225.out
         obtain ⟨hfz37_0, hfz37_1, hfz37_2, hfz37_3, hfz37_4, hfz37_5, hfz37_6, hfz37_7, hfz37_8, hfz37_9, hfz37_10, hfz37_11, hfz37_12, hfz37_13, hfz37_14⟩ := froz15 BK225.out
         go_wp2
         go_meet
         case rel => exact ⟨_, (decide ((l0_4.length : Int) > 0)), ⟨rs, rs⟩, H', ⟨by have := HJ1.out; first | omega | exact Nat.le_refl _⟩, ⟨bk⟩, ⟨bl⟩⟩
     ·rw [if_neg c28] at H
      have c28b0 : (a0_0 == 1) = false := beq_eq_false_iff_ne.mpr c28
      have c28b1 : (a0_0 != 1) = true := bne_iff_ne.mpr c28
      (first | rw [c28b0] | (simp only [i64_w, i32_w]; rw [c28b0]) | skip)
      by_cases c38 : (l0_2.length : Int) > 0
      ·rw [if_pos c38] at H
       have c38b0 : decide (0 < (l0_2.length : Int)) = true := decide_eq_true c38
       have c38b1 : decide (0 < l0_2.length) = true := decide_eq_true (by omega)
       clear c38
       have H' := Aside0.mk H
       clear H
       obtain ⟨hcz39_0, hcz39_1, hcz39_2, hcz39_3, hcz39_4, hcz39_5, hcz39_6, hcz39_7, hcz39_8, hcz39_9, hcz39_10, hcz39_11, hcz39_12, hcz39_13, hcz39_14⟩ := cells15 BK225.out
       obtain ⟨hfz39_0, hfz39_1, hfz39_2, hfz39_3, hfz39_4, hfz39_5, hfz39_6, hfz39_7, hfz39_8, hfz39_9, hfz39_10, hfz39_11, hfz39_12, hfz39_13, hfz39_14⟩ := froz15 BK225.out
       go_wp2
       go_meet
       case rel => exact ⟨_, (true), ⟨rs, rs⟩, H', ⟨by have := HJ1.out; first | omega | exact Nat.le_refl _⟩, ⟨bk⟩, ⟨bl⟩⟩
      ·rw [if_neg c38] at H
       have c38b0 : decide (0 < (l0_2.length : Int)) = false := decide_eq_false c38
       have c38b1 : decide (0 < l0_2.length) = false := decide_eq_false (by omega)
       clear c38
       by_cases c40 : a0_12.toList = ([] : List UInt8)
       ·rw [if_pos c40] at H
        have c40b0 : (a0_12.toList == ([] : List UInt8)) = true := beq_iff_eq.mpr c40
        have c40b1 : (a0_12.toList != ([] : List UInt8)) = false := bne_eq_false_iff_eq.mpr c40
        clear c40
        by_cases c41 : a0_13 = true
        ·subst c41
         rw [if_pos rfl] at H
         have H' := Aside0.mk H
         clear H
         obtain ⟨hcz42_0, hcz42_1, hcz42_2, hcz42_3, hcz42_4, hcz42_5, hcz42_6, hcz42_7, hcz42_8, hcz42_9, hcz42_10, hcz42_11, hcz42_12, hcz42_13, hcz42_14⟩ := cells15 BK225.out
         obtain ⟨hfz42_0, hfz42_1, hfz42_2, hfz42_3, hfz42_4, hfz42_5, hfz42_6, hfz42_7, hfz42_8, hfz42_9, hfz42_10, hfz42_11, hfz42_12, hfz42_13, hfz42_14⟩ := froz15 BK225.out
         go_wp2
         go_meet
         case rel => exact ⟨_, (true), ⟨rs, rs⟩, H', ⟨by have := HJ1.out; first | omega | exact Nat.le_refl _⟩, ⟨bk⟩, ⟨bl⟩⟩
        ·replace c41 := Bool.eq_false_iff.mpr c41
         subst c41
         rw [if_neg (show ¬ (false = true) by decide)] at H
         by_cases c43 : a0_14 = 0
         ·rw [if_pos c43] at H
          have c43b0 : (a0_14 == 0) = true := beq_iff_eq.mpr c43
          have c43b1 : (a0_14 != 0) = false := bne_eq_false_iff_eq.mpr c43
          clear c43
          by_cases c44 : a0_0 = 2
          ·rw [if_pos c44] at H
           have c44b0 : (a0_0 == 2) = true := beq_iff_eq.mpr c44
           have c44b1 : (a0_0 != 2) = false := bne_eq_false_iff_eq.mpr c44
           clear c44
           by_cases c45 : a0_0 = 3
           ·rw [if_pos c45] at H
            have c45b0 : (a0_0 == 3) = true := beq_iff_eq.mpr c45
            have c45b1 : (a0_0 != 3) = false := bne_eq_false_iff_eq.mpr c45
            clear c45
            have H' := Aside0.mk H
            clear H
            obtain ⟨hcz46_0, hcz46_1, hcz46_2, hcz46_3, hcz46_4, hcz46_5, hcz46_6, hcz46_7, hcz46_8, hcz46_9, hcz46_10, hcz46_11, hcz46_12, hcz46_13, hcz46_14⟩ := cells15 BK225.out
            obtain ⟨hfz46_0, hfz46_1, hfz46_2, hfz46_3, hfz46_4, hfz46_5, hfz46_6, hfz46_7, hfz46_8, hfz46_9, hfz46_10, hfz46_11, hfz46_12, hfz46_13, hfz46_14⟩ := froz15 BK225.out
            go_wp2
            go_meet
            case rel => exact ⟨_, (false), ⟨rs, rs⟩, H', ⟨by have := HJ1.out; first | omega | exact Nat.le_refl _⟩, ⟨bk⟩, ⟨bl⟩⟩
           ·rw [if_neg c45] at H
            have c45b0 : (a0_0 == 3) = false := beq_eq_false_iff_ne.mpr c45
            have c45b1 : (a0_0 != 3) = true := bne_iff_ne.mpr c45
            have H' := Aside0.mk H
            clear H
            obtain ⟨hcz47_0, hcz47_1, hcz47_2, hcz47_3, hcz47_4, hcz47_5, hcz47_6, hcz47_7, hcz47_8, hcz47_9, hcz47_10, hcz47_11, hcz47_12, hcz47_13, hcz47_14⟩ := cells15 BK225.out
            obtain ⟨hfz47_0, hfz47_1, hfz47_2, hfz47_3, hfz47_4, hfz47_5, hfz47_6, hfz47_7, hfz47_8, hfz47_9, hfz47_10, hfz47_11, hfz47_12, hfz47_13, hfz47_14⟩ := froz15 BK225.out
            go_wp2
            go_meet
            case rel => exact ⟨_, (decide ((l0_4.length : Int) > 0)), ⟨rs, rs⟩, H', ⟨by have := HJ1.out; first | omega | exact Nat.le_refl _⟩, ⟨bk⟩, ⟨bl⟩⟩
          ·rw [if_neg c44] at H
           have c44b0 : (a0_0 == 2) = false := beq_eq_false_iff_ne.mpr c44
           have c44b1 : (a0_0 != 2) = true := bne_iff_ne.mpr c44
           by_cases c48 : (l0_3.length : Int) > 0
           ·rw [if_pos c48] at H
            have c48b0 : decide (0 < (l0_3.length : Int)) = true := decide_eq_true c48
            have c48b1 : decide (0 < l0_3.length) = true := decide_eq_true (by omega)
            clear c48
            have H' := Aside0.mk H
            clear H
            obtain ⟨hcz49_0, hcz49_1, hcz49_2, hcz49_3, hcz49_4, hcz49_5, hcz49_6, hcz49_7, hcz49_8, hcz49_9, hcz49_10, hcz49_11, hcz49_12, hcz49_13, hcz49_14⟩ := cells15 BK225.out
            obtain ⟨hfz49_0, hfz49_1, hfz49_2, hfz49_3, hfz49_4, hfz49_5, hfz49_6, hfz49_7, hfz49_8, hfz49_9, hfz49_10, hfz49_11, hfz49_12, hfz49_13, hfz49_14⟩ := froz15 BK225.out
            go_wp2
            go_meet
            case rel => exact ⟨_, (true), ⟨rs, rs⟩, H', ⟨by have := HJ1.out; first | omega | exact Nat.le_refl _⟩, ⟨bk⟩, ⟨bl⟩⟩
           ·rw [if_neg c48] at H
            have c48b0 : decide (0 < (l0_3.length : Int)) = false := decide_eq_false c48
            have c48b1 : decide (0 < l0_3.length) = false := decide_eq_false (by omega)
            clear c48
            by_cases c50 : a0_0 = 3
            ·rw [if_pos c50] at H
             have c50b0 : (a0_0 == 3) = true := beq_iff_eq.mpr c50
             have c50b1 : (a0_0 != 3) = false := bne_eq_false_iff_eq.mpr c50
             clear c50
             have H' := Aside0.mk H
             clear H
             obtain ⟨hcz51_0, hcz51_1, hcz51_2, hcz51_3, hcz51_4, hcz51_5, hcz51_6, hcz51_7, hcz51_8, hcz51_9, hcz51_10, hcz51_11, hcz51_12, hcz51_13, hcz51_14⟩ := cells15 BK225.out
             obtain ⟨hfz51_0, hfz51_1, hfz51_2, hfz51_3, hfz51_4, hfz51_5, hfz51_6, hfz51_7, hfz51_8, hfz51_9, hfz51_10, hfz51_11, hfz51_12, hfz51_13, hfz51_14⟩ := froz15 BK225.out
             go_wp2
             go_meet
             case rel => exact ⟨_, (false), ⟨rs, rs⟩, H', ⟨by have := HJ1.out; first | omega | exact Nat.le_refl _⟩, ⟨bk⟩, ⟨bl⟩⟩
            ·rw [if_neg c50] at H
             have c50b0 : (a0_0 == 3) = false := beq_eq_false_iff_ne.mpr c50
             have c50b1 : (a0_0 != 3) = true := bne_iff_ne.mpr c50
             have H' := Aside0.mk H
             clear H
             obtain ⟨hcz52_0, hcz52_1, hcz52_2, hcz52_3, hcz52_4, hcz52_5, hcz52_6, hcz52_7, hcz52_8, hcz52_9, hcz52_10, hcz52_11, hcz52_12, hcz52_13, hcz52_14⟩ := cells15 BK225.out
             obtain ⟨hfz52_0, hfz52_1, hfz52_2, hfz52_3, hfz52_4, hfz52_5, hfz52_6, hfz52_7, hfz52_8, hfz52_9, hfz52_10, hfz52_11, hfz52_12, hfz52_13, hfz52_14⟩ := froz15 BK225.out
             go_wp2
             go_meet
             case rel => exact ⟨_, (decide ((l0_4.length : Int) > 0)), ⟨rs, rs⟩, H', ⟨by have := HJ1.out; first | omega | exact Nat.le_refl _⟩, ⟨bk⟩, ⟨bl⟩⟩
         ·rw [if_neg c43] at H
          have c43b0 : (a0_14 == 0) = false := beq_eq_false_iff_ne.mpr c43
          have c43b1 : (a0_14 != 0) = true := bne_iff_ne.mpr c43
          have H' := Aside0.mk H
          clear H
          obtain ⟨hcz53_0, hcz53_1, hcz53_2, hcz53_3, hcz53_4, hcz53_5, hcz53_6, hcz53_7, hcz53_8, hcz53_9, hcz53_10, hcz53_11, hcz53_12, hcz53_13, hcz53_14⟩ := cells15 BK225.out
          obtain ⟨hfz53_0, hfz53_1, hfz53_2, hfz53_3, hfz53_4, hfz53_5, hfz53_6, hfz53_7, hfz53_8, hfz53_9, hfz53_10, hfz53_11, hfz53_12, hfz53_13, hfz53_14⟩ := froz15 BK225.out
          go_wp2
          go_meet
          case rel => exact ⟨_, (true), ⟨rs, rs⟩, H', ⟨by have := HJ1.out; first | omega | exact Nat.le_refl _⟩, ⟨bk⟩, ⟨bl⟩⟩
       ·rw [if_neg c40] at H
        have c40b0 : (a0_12.toList == ([] : List UInt8)) = false := beq_eq_false_iff_ne.mpr c40
        have c40b1 : (a0_12.toList != ([] : List UInt8)) = true := bne_iff_ne.mpr c40
        have H' := Aside0.mk H
        clear H
        obtain ⟨hcz54_0, hcz54_1, hcz54_2, hcz54_3, hcz54_4, hcz54_5, hcz54_6, hcz54_7, hcz54_8, hcz54_9, hcz54_10, hcz54_11, hcz54_12, hcz54_13, hcz54_14⟩ := cells15 BK225.out
        obtain ⟨hfz54_0, hfz54_1, hfz54_2, hfz54_3, hfz54_4, hfz54_5, hfz54_6, hfz54_7, hfz54_8, hfz54_9, hfz54_10, hfz54_11, hfz54_12, hfz54_13, hfz54_14⟩ := froz15 BK225.out
        go_wp2
        go_meet
        case rel => exact ⟨_, (true), ⟨rs, rs⟩, H', ⟨by have := HJ1.out; first | omega | exact Nat.le_refl _⟩, ⟨bk⟩, ⟨bl⟩⟩
    case rest =>
     clear HC26
     obtain ⟨kq, x75_25, ⟨rfl, rfl⟩, HA, HJ25, BK225, HB⟩ := hcut
     cases kq with
     | zero => exact absurd HA.out (by simp [tree_mayStmt.j1])
     | succ kj25 =>
      have H := HA.out
      clear HA
      simp only [tree_mayStmt.j1] at H
      by_cases c55 : x75_25 = true
      ·subst c55
       rw [if_pos rfl] at H
       obtain rfl := Option.some.inj H
       go_wp2
       go_ret
       exact ⟨er, bl⟩
      ·replace c55 := Bool.eq_false_iff.mpr c55
       subst c55
       rw [if_neg (show ¬ (false = true) by decide)] at H
       by_cases c56 : a0_0 = 1
       ·rw [if_pos c56] at H
        have c56b0 : (a0_0 == 1) = true := beq_iff_eq.mpr c56
        have c56b1 : (a0_0 != 1) = false := bne_eq_false_iff_eq.mpr c56
        clear c56
        obtain ⟨t229, A570, H⟩ := bind_out H
        have A57 := Aside0.mk A570
        clear A570
        by_cases c58 : t229 = true
        ·subst c58
         rw [if_pos rfl] at H
         by_cases c59 : a0_12.toList = ([] : List UInt8)
         ·rw [if_pos c59] at H
          have c59b0 : (a0_12.toList == ([] : List UInt8)) = true := beq_iff_eq.mpr c59
          have c59b1 : (a0_12.toList != ([] : List UInt8)) = false := bne_eq_false_iff_eq.mpr c59
          clear c59
          by_cases c60 : a0_13 = true
          ·subst c60
           rw [if_pos rfl] at H
           obtain ⟨t230, A610, H⟩ := bind_out H
           have A61 := Aside0.mk A610
           clear A610
           by_cases c62 : t230 = true
           ·subst c62
            rw [if_pos rfl] at H
            obtain rfl := Option.some.inj H
            obtain ⟨hcz63_0, hcz63_1, hcz63_2, hcz63_3, hcz63_4, hcz63_5, hcz63_6, hcz63_7, hcz63_8, hcz63_9, hcz63_10, hcz63_11, hcz63_12, hcz63_13, hcz63_14⟩ := cells15 BK225.out
            obtain ⟨hfz63_0, hfz63_1, hfz63_2, hfz63_3, hfz63_4, hfz63_5, hfz63_6, hfz63_7, hfz63_8, hfz63_9, hfz63_10, hfz63_11, hfz63_12, hfz63_13, hfz63_14⟩ := froz15 BK225.out
            go_wp2_with (first | ((with_reducible refine gate_callee (f := 60) rfl ?_); refine goesL_ (some 82) rfl rfl Tryz.func60 (by kernel_rfl) rfl #[.slice A0_2 l0_2.length c0_2] rfl mp ?_; (with_reducible refine (tree_mayItems.calls kj25 _ _ l0_2 true _ ?side1 ?side2 ?side3 A57.out).mono ?_); (case side1 => exact kc HR0_2.out); (case side2 => exact HC0_2.out); (case side3 => exact Sh.below hsh bl); rintro e w64 ⟨rfl, hb⟩; refine ⟨_, rfl, ?_⟩; replace BK225 := Aside0.mk (blk_below (g := gb225) (o := .cells #[.int .i64 a0_0, .string a0_1, .slice A0_2 l0_2.length c0_2, .slice A0_3 l0_3.length c0_3, .slice A0_4 l0_4.length c0_4, .bool a0_5, .int .i64 a0_6, .string a0_7, .int .i64 a0_8, .int .i64 a0_9, .string a0_10, .slice A0_11 l0_11.length c0_11, .string a0_12, .bool true, .int .i64 a0_14] 44 (0, 0)) bk hb); replace HB := Aside0.mk (below_step bl hb); (try clear hb); obtain ⟨hcz65_0, hcz65_1, hcz65_2, hcz65_3, hcz65_4, hcz65_5, hcz65_6, hcz65_7, hcz65_8, hcz65_9, hcz65_10, hcz65_11, hcz65_12, hcz65_13, hcz65_14⟩ := cells15 BK225.out; obtain ⟨hfz65_0, hfz65_1, hfz65_2, hfz65_3, hfz65_4, hfz65_5, hfz65_6, hfz65_7, hfz65_8, hfz65_9, hfz65_10, hfz65_11, hfz65_12, hfz65_13, hfz65_14⟩ := froz15 BK225.out) | (go_at_call 57; (with_reducible refine (lex_Word.calls kj25 a0_12 true _ ?side1 A61.out).mono ?_); (case side1 => exact Sh.below hsh bl); rintro e w66 ⟨rfl, hb⟩; replace BK225 := Aside0.mk (blk_below (g := gb225) (o := .cells #[.int .i64 a0_0, .string a0_1, .slice A0_2 l0_2.length c0_2, .slice A0_3 l0_3.length c0_3, .slice A0_4 l0_4.length c0_4, .bool a0_5, .int .i64 a0_6, .string a0_7, .int .i64 a0_8, .int .i64 a0_9, .string a0_10, .slice A0_11 l0_11.length c0_11, .string a0_12, .bool true, .int .i64 a0_14] 44 (0, 0)) bk hb); replace HB := Aside0.mk (below_step bl hb); (try clear hb); obtain ⟨hcz67_0, hcz67_1, hcz67_2, hcz67_3, hcz67_4, hcz67_5, hcz67_6, hcz67_7, hcz67_8, hcz67_9, hcz67_10, hcz67_11, hcz67_12, hcz67_13, hcz67_14⟩ := cells15 BK225.out; obtain ⟨hfz67_0, hfz67_1, hfz67_2, hfz67_3, hfz67_4, hfz67_5, hfz67_6, hfz67_7, hfz67_8, hfz67_9, hfz67_10, hfz67_11, hfz67_12, hfz67_13, hfz67_14⟩ := froz15 BK225.out))
            go_ret
            exact ⟨er, bl⟩
           ·replace c62 := Bool.eq_false_iff.mpr c62
            subst c62
            rw [if_neg (show ¬ (false = true) by decide)] at H
            obtain rfl := Option.some.inj H
            obtain ⟨hcz68_0, hcz68_1, hcz68_2, hcz68_3, hcz68_4, hcz68_5, hcz68_6, hcz68_7, hcz68_8, hcz68_9, hcz68_10, hcz68_11, hcz68_12, hcz68_13, hcz68_14⟩ := cells15 BK225.out
            obtain ⟨hfz68_0, hfz68_1, hfz68_2, hfz68_3, hfz68_4, hfz68_5, hfz68_6, hfz68_7, hfz68_8, hfz68_9, hfz68_10, hfz68_11, hfz68_12, hfz68_13, hfz68_14⟩ := froz15 BK225.out
            go_wp2_with (first | ((with_reducible refine gate_callee (f := 60) rfl ?_); refine goesL_ (some 82) rfl rfl Tryz.func60 (by kernel_rfl) rfl #[.slice A0_2 l0_2.length c0_2] rfl mp ?_; (with_reducible refine (tree_mayItems.calls kj25 _ _ l0_2 true _ ?side1 ?side2 ?side3 A57.out).mono ?_); (case side1 => exact kc HR0_2.out); (case side2 => exact HC0_2.out); (case side3 => exact Sh.below hsh bl); rintro e w69 ⟨rfl, hb⟩; refine ⟨_, rfl, ?_⟩; replace BK225 := Aside0.mk (blk_below (g := gb225) (o := .cells #[.int .i64 a0_0, .string a0_1, .slice A0_2 l0_2.length c0_2, .slice A0_3 l0_3.length c0_3, .slice A0_4 l0_4.length c0_4, .bool a0_5, .int .i64 a0_6, .string a0_7, .int .i64 a0_8, .int .i64 a0_9, .string a0_10, .slice A0_11 l0_11.length c0_11, .string a0_12, .bool true, .int .i64 a0_14] 44 (0, 0)) bk hb); replace HB := Aside0.mk (below_step bl hb); (try clear hb); obtain ⟨hcz70_0, hcz70_1, hcz70_2, hcz70_3, hcz70_4, hcz70_5, hcz70_6, hcz70_7, hcz70_8, hcz70_9, hcz70_10, hcz70_11, hcz70_12, hcz70_13, hcz70_14⟩ := cells15 BK225.out; obtain ⟨hfz70_0, hfz70_1, hfz70_2, hfz70_3, hfz70_4, hfz70_5, hfz70_6, hfz70_7, hfz70_8, hfz70_9, hfz70_10, hfz70_11, hfz70_12, hfz70_13, hfz70_14⟩ := froz15 BK225.out) | (go_at_call 57; (with_reducible refine (lex_Word.calls kj25 a0_12 false _ ?side1 A61.out).mono ?_); (case side1 => exact Sh.below hsh bl); rintro e w71 ⟨rfl, hb⟩; replace BK225 := Aside0.mk (blk_below (g := gb225) (o := .cells #[.int .i64 a0_0, .string a0_1, .slice A0_2 l0_2.length c0_2, .slice A0_3 l0_3.length c0_3, .slice A0_4 l0_4.length c0_4, .bool a0_5, .int .i64 a0_6, .string a0_7, .int .i64 a0_8, .int .i64 a0_9, .string a0_10, .slice A0_11 l0_11.length c0_11, .string a0_12, .bool true, .int .i64 a0_14] 44 (0, 0)) bk hb); replace HB := Aside0.mk (below_step bl hb); (try clear hb)))
            go_ret
            exact ⟨er, bl⟩
          ·replace c60 := Bool.eq_false_iff.mpr c60
           subst c60
           rw [if_neg (show ¬ (false = true) by decide)] at H
           obtain rfl := Option.some.inj H
           obtain ⟨hcz72_0, hcz72_1, hcz72_2, hcz72_3, hcz72_4, hcz72_5, hcz72_6, hcz72_7, hcz72_8, hcz72_9, hcz72_10, hcz72_11, hcz72_12, hcz72_13, hcz72_14⟩ := cells15 BK225.out
           obtain ⟨hfz72_0, hfz72_1, hfz72_2, hfz72_3, hfz72_4, hfz72_5, hfz72_6, hfz72_7, hfz72_8, hfz72_9, hfz72_10, hfz72_11, hfz72_12, hfz72_13, hfz72_14⟩ := froz15 BK225.out
           go_wp2_with (first | ((with_reducible refine gate_callee (f := 60) rfl ?_); refine goesL_ (some 82) rfl rfl Tryz.func60 (by kernel_rfl) rfl #[.slice A0_2 l0_2.length c0_2] rfl mp ?_; (with_reducible refine (tree_mayItems.calls kj25 _ _ l0_2 true _ ?side1 ?side2 ?side3 A57.out).mono ?_); (case side1 => exact kc HR0_2.out); (case side2 => exact HC0_2.out); (case side3 => exact Sh.below hsh bl); rintro e w73 ⟨rfl, hb⟩; refine ⟨_, rfl, ?_⟩; replace BK225 := Aside0.mk (blk_below (g := gb225) (o := .cells #[.int .i64 a0_0, .string a0_1, .slice A0_2 l0_2.length c0_2, .slice A0_3 l0_3.length c0_3, .slice A0_4 l0_4.length c0_4, .bool a0_5, .int .i64 a0_6, .string a0_7, .int .i64 a0_8, .int .i64 a0_9, .string a0_10, .slice A0_11 l0_11.length c0_11, .string a0_12, .bool false, .int .i64 a0_14] 44 (0, 0)) bk hb); replace HB := Aside0.mk (below_step bl hb); (try clear hb); obtain ⟨hcz74_0, hcz74_1, hcz74_2, hcz74_3, hcz74_4, hcz74_5, hcz74_6, hcz74_7, hcz74_8, hcz74_9, hcz74_10, hcz74_11, hcz74_12, hcz74_13, hcz74_14⟩ := cells15 BK225.out; obtain ⟨hfz74_0, hfz74_1, hfz74_2, hfz74_3, hfz74_4, hfz74_5, hfz74_6, hfz74_7, hfz74_8, hfz74_9, hfz74_10, hfz74_11, hfz74_12, hfz74_13, hfz74_14⟩ := froz15 BK225.out))
           go_ret
           exact ⟨er, bl⟩
         ·rw [if_neg c59] at H
          have c59b0 : (a0_12.toList == ([] : List UInt8)) = false := beq_eq_false_iff_ne.mpr c59
          have c59b1 : (a0_12.toList != ([] : List UInt8)) = true := bne_iff_ne.mpr c59
          obtain ⟨t231, A750, H⟩ := bind_out H
          have A75 := Aside0.mk A750
          clear A750
          by_cases c76 : t231 = true
          ·subst c76
           rw [if_pos rfl] at H
           obtain rfl := Option.some.inj H
           obtain ⟨hcz77_0, hcz77_1, hcz77_2, hcz77_3, hcz77_4, hcz77_5, hcz77_6, hcz77_7, hcz77_8, hcz77_9, hcz77_10, hcz77_11, hcz77_12, hcz77_13, hcz77_14⟩ := cells15 BK225.out
           obtain ⟨hfz77_0, hfz77_1, hfz77_2, hfz77_3, hfz77_4, hfz77_5, hfz77_6, hfz77_7, hfz77_8, hfz77_9, hfz77_10, hfz77_11, hfz77_12, hfz77_13, hfz77_14⟩ := froz15 BK225.out
           go_wp2_with (first | ((with_reducible refine gate_callee (f := 60) rfl ?_); refine goesL_ (some 82) rfl rfl Tryz.func60 (by kernel_rfl) rfl #[.slice A0_2 l0_2.length c0_2] rfl mp ?_; (with_reducible refine (tree_mayItems.calls kj25 _ _ l0_2 true _ ?side1 ?side2 ?side3 A57.out).mono ?_); (case side1 => exact kc HR0_2.out); (case side2 => exact HC0_2.out); (case side3 => exact Sh.below hsh bl); rintro e w78 ⟨rfl, hb⟩; refine ⟨_, rfl, ?_⟩; replace BK225 := Aside0.mk (blk_below (g := gb225) (o := .cells #[.int .i64 a0_0, .string a0_1, .slice A0_2 l0_2.length c0_2, .slice A0_3 l0_3.length c0_3, .slice A0_4 l0_4.length c0_4, .bool a0_5, .int .i64 a0_6, .string a0_7, .int .i64 a0_8, .int .i64 a0_9, .string a0_10, .slice A0_11 l0_11.length c0_11, .string a0_12, .bool a0_13, .int .i64 a0_14] 44 (0, 0)) bk hb); replace HB := Aside0.mk (below_step bl hb); (try clear hb); obtain ⟨hcz79_0, hcz79_1, hcz79_2, hcz79_3, hcz79_4, hcz79_5, hcz79_6, hcz79_7, hcz79_8, hcz79_9, hcz79_10, hcz79_11, hcz79_12, hcz79_13, hcz79_14⟩ := cells15 BK225.out; obtain ⟨hfz79_0, hfz79_1, hfz79_2, hfz79_3, hfz79_4, hfz79_5, hfz79_6, hfz79_7, hfz79_8, hfz79_9, hfz79_10, hfz79_11, hfz79_12, hfz79_13, hfz79_14⟩ := froz15 BK225.out) | (go_at_call 57; (with_reducible refine (lex_Word.calls kj25 a0_12 true _ ?side1 A75.out).mono ?_); (case side1 => exact Sh.below hsh bl); rintro e w80 ⟨rfl, hb⟩; replace BK225 := Aside0.mk (blk_below (g := gb225) (o := .cells #[.int .i64 a0_0, .string a0_1, .slice A0_2 l0_2.length c0_2, .slice A0_3 l0_3.length c0_3, .slice A0_4 l0_4.length c0_4, .bool a0_5, .int .i64 a0_6, .string a0_7, .int .i64 a0_8, .int .i64 a0_9, .string a0_10, .slice A0_11 l0_11.length c0_11, .string a0_12, .bool a0_13, .int .i64 a0_14] 44 (0, 0)) bk hb); replace HB := Aside0.mk (below_step bl hb); (try clear hb); obtain ⟨hcz81_0, hcz81_1, hcz81_2, hcz81_3, hcz81_4, hcz81_5, hcz81_6, hcz81_7, hcz81_8, hcz81_9, hcz81_10, hcz81_11, hcz81_12, hcz81_13, hcz81_14⟩ := cells15 BK225.out; obtain ⟨hfz81_0, hfz81_1, hfz81_2, hfz81_3, hfz81_4, hfz81_5, hfz81_6, hfz81_7, hfz81_8, hfz81_9, hfz81_10, hfz81_11, hfz81_12, hfz81_13, hfz81_14⟩ := froz15 BK225.out))
           go_ret
           exact ⟨er, bl⟩
          ·replace c76 := Bool.eq_false_iff.mpr c76
           subst c76
           rw [if_neg (show ¬ (false = true) by decide)] at H
           obtain rfl := Option.some.inj H
           obtain ⟨hcz82_0, hcz82_1, hcz82_2, hcz82_3, hcz82_4, hcz82_5, hcz82_6, hcz82_7, hcz82_8, hcz82_9, hcz82_10, hcz82_11, hcz82_12, hcz82_13, hcz82_14⟩ := cells15 BK225.out
           obtain ⟨hfz82_0, hfz82_1, hfz82_2, hfz82_3, hfz82_4, hfz82_5, hfz82_6, hfz82_7, hfz82_8, hfz82_9, hfz82_10, hfz82_11, hfz82_12, hfz82_13, hfz82_14⟩ := froz15 BK225.out
           go_wp2_with (first | ((with_reducible refine gate_callee (f := 60) rfl ?_); refine goesL_ (some 82) rfl rfl Tryz.func60 (by kernel_rfl) rfl #[.slice A0_2 l0_2.length c0_2] rfl mp ?_; (with_reducible refine (tree_mayItems.calls kj25 _ _ l0_2 true _ ?side1 ?side2 ?side3 A57.out).mono ?_); (case side1 => exact kc HR0_2.out); (case side2 => exact HC0_2.out); (case side3 => exact Sh.below hsh bl); rintro e w83 ⟨rfl, hb⟩; refine ⟨_, rfl, ?_⟩; replace BK225 := Aside0.mk (blk_below (g := gb225) (o := .cells #[.int .i64 a0_0, .string a0_1, .slice A0_2 l0_2.length c0_2, .slice A0_3 l0_3.length c0_3, .slice A0_4 l0_4.length c0_4, .bool a0_5, .int .i64 a0_6, .string a0_7, .int .i64 a0_8, .int .i64 a0_9, .string a0_10, .slice A0_11 l0_11.length c0_11, .string a0_12, .bool a0_13, .int .i64 a0_14] 44 (0, 0)) bk hb); replace HB := Aside0.mk (below_step bl hb); (try clear hb); obtain ⟨hcz84_0, hcz84_1, hcz84_2, hcz84_3, hcz84_4, hcz84_5, hcz84_6, hcz84_7, hcz84_8, hcz84_9, hcz84_10, hcz84_11, hcz84_12, hcz84_13, hcz84_14⟩ := cells15 BK225.out; obtain ⟨hfz84_0, hfz84_1, hfz84_2, hfz84_3, hfz84_4, hfz84_5, hfz84_6, hfz84_7, hfz84_8, hfz84_9, hfz84_10, hfz84_11, hfz84_12, hfz84_13, hfz84_14⟩ := froz15 BK225.out) | (go_at_call 57; (with_reducible refine (lex_Word.calls kj25 a0_12 false _ ?side1 A75.out).mono ?_); (case side1 => exact Sh.below hsh bl); rintro e w85 ⟨rfl, hb⟩; replace BK225 := Aside0.mk (blk_below (g := gb225) (o := .cells #[.int .i64 a0_0, .string a0_1, .slice A0_2 l0_2.length c0_2, .slice A0_3 l0_3.length c0_3, .slice A0_4 l0_4.length c0_4, .bool a0_5, .int .i64 a0_6, .string a0_7, .int .i64 a0_8, .int .i64 a0_9, .string a0_10, .slice A0_11 l0_11.length c0_11, .string a0_12, .bool a0_13, .int .i64 a0_14] 44 (0, 0)) bk hb); replace HB := Aside0.mk (below_step bl hb); (try clear hb)))
           go_ret
           exact ⟨er, bl⟩
        ·replace c58 := Bool.eq_false_iff.mpr c58
         subst c58
         rw [if_neg (show ¬ (false = true) by decide)] at H
         obtain rfl := Option.some.inj H
         obtain ⟨hcz86_0, hcz86_1, hcz86_2, hcz86_3, hcz86_4, hcz86_5, hcz86_6, hcz86_7, hcz86_8, hcz86_9, hcz86_10, hcz86_11, hcz86_12, hcz86_13, hcz86_14⟩ := cells15 BK225.out
         obtain ⟨hfz86_0, hfz86_1, hfz86_2, hfz86_3, hfz86_4, hfz86_5, hfz86_6, hfz86_7, hfz86_8, hfz86_9, hfz86_10, hfz86_11, hfz86_12, hfz86_13, hfz86_14⟩ := froz15 BK225.out
         go_wp2_with (first | ((with_reducible refine gate_callee (f := 60) rfl ?_); refine goesL_ (some 82) rfl rfl Tryz.func60 (by kernel_rfl) rfl #[.slice A0_2 l0_2.length c0_2] rfl mp ?_; (with_reducible refine (tree_mayItems.calls kj25 _ _ l0_2 false _ ?side1 ?side2 ?side3 A57.out).mono ?_); (case side1 => exact kc HR0_2.out); (case side2 => exact HC0_2.out); (case side3 => exact Sh.below hsh bl); rintro e w87 ⟨rfl, hb⟩; refine ⟨_, rfl, ?_⟩; replace BK225 := Aside0.mk (blk_below (g := gb225) (o := .cells #[.int .i64 a0_0, .string a0_1, .slice A0_2 l0_2.length c0_2, .slice A0_3 l0_3.length c0_3, .slice A0_4 l0_4.length c0_4, .bool a0_5, .int .i64 a0_6, .string a0_7, .int .i64 a0_8, .int .i64 a0_9, .string a0_10, .slice A0_11 l0_11.length c0_11, .string a0_12, .bool a0_13, .int .i64 a0_14] 44 (0, 0)) bk hb); replace HB := Aside0.mk (below_step bl hb); (try clear hb)))
         go_ret
         exact ⟨er, bl⟩
       ·rw [if_neg c56] at H
        have c56b0 : (a0_0 == 1) = false := beq_eq_false_iff_ne.mpr c56
        have c56b1 : (a0_0 != 1) = true := bne_iff_ne.mpr c56
        by_cases c88 : a0_0 = 2
        ·rw [if_pos c88] at H
         have c88b0 : (a0_0 == 2) = true := beq_iff_eq.mpr c88
         have c88b1 : (a0_0 != 2) = false := bne_eq_false_iff_eq.mpr c88
         clear c88
         obtain ⟨t232, A890, H⟩ := bind_out H
         have A89 := Aside0.mk A890
         clear A890
         by_cases c90 : t232 = true
         ·subst c90
          rw [if_pos rfl] at H
          obtain rfl := Option.some.inj H
          obtain ⟨hcz91_0, hcz91_1, hcz91_2, hcz91_3, hcz91_4, hcz91_5, hcz91_6, hcz91_7, hcz91_8, hcz91_9, hcz91_10, hcz91_11, hcz91_12, hcz91_13, hcz91_14⟩ := cells15 BK225.out
          obtain ⟨hfz91_0, hfz91_1, hfz91_2, hfz91_3, hfz91_4, hfz91_5, hfz91_6, hfz91_7, hfz91_8, hfz91_9, hfz91_10, hfz91_11, hfz91_12, hfz91_13, hfz91_14⟩ := froz15 BK225.out
          go_wp2_with (first | ((with_reducible refine gate_callee (f := 61) rfl ?_); refine goesL_ (some 107) rfl rfl Tryz.func61 (by kernel_rfl) rfl #[.slice A0_3 l0_3.length c0_3] rfl mp ?_; (with_reducible refine (tree_mayRows.calls kj25 _ _ l0_3 true _ ?side1 ?side2 ?side3 A89.out).mono ?_); (case side1 => exact kc HR0_3.out); (case side2 => exact HC0_3.out); (case side3 => exact Sh.below hsh bl); rintro e w92 ⟨rfl, hb⟩; refine ⟨_, rfl, ?_⟩; replace BK225 := Aside0.mk (blk_below (g := gb225) (o := .cells #[.int .i64 a0_0, .string a0_1, .slice A0_2 l0_2.length c0_2, .slice A0_3 l0_3.length c0_3, .slice A0_4 l0_4.length c0_4, .bool a0_5, .int .i64 a0_6, .string a0_7, .int .i64 a0_8, .int .i64 a0_9, .string a0_10, .slice A0_11 l0_11.length c0_11, .string a0_12, .bool a0_13, .int .i64 a0_14] 44 (0, 0)) bk hb); replace HB := Aside0.mk (below_step bl hb); (try clear hb); obtain ⟨hcz93_0, hcz93_1, hcz93_2, hcz93_3, hcz93_4, hcz93_5, hcz93_6, hcz93_7, hcz93_8, hcz93_9, hcz93_10, hcz93_11, hcz93_12, hcz93_13, hcz93_14⟩ := cells15 BK225.out; obtain ⟨hfz93_0, hfz93_1, hfz93_2, hfz93_3, hfz93_4, hfz93_5, hfz93_6, hfz93_7, hfz93_8, hfz93_9, hfz93_10, hfz93_11, hfz93_12, hfz93_13, hfz93_14⟩ := froz15 BK225.out))
          go_ret
          exact ⟨er, bl⟩
         ·replace c90 := Bool.eq_false_iff.mpr c90
          subst c90
          rw [if_neg (show ¬ (false = true) by decide)] at H
          obtain rfl := Option.some.inj H
          obtain ⟨hcz94_0, hcz94_1, hcz94_2, hcz94_3, hcz94_4, hcz94_5, hcz94_6, hcz94_7, hcz94_8, hcz94_9, hcz94_10, hcz94_11, hcz94_12, hcz94_13, hcz94_14⟩ := cells15 BK225.out
          obtain ⟨hfz94_0, hfz94_1, hfz94_2, hfz94_3, hfz94_4, hfz94_5, hfz94_6, hfz94_7, hfz94_8, hfz94_9, hfz94_10, hfz94_11, hfz94_12, hfz94_13, hfz94_14⟩ := froz15 BK225.out
          go_wp2_with (first | ((with_reducible refine gate_callee (f := 61) rfl ?_); refine goesL_ (some 107) rfl rfl Tryz.func61 (by kernel_rfl) rfl #[.slice A0_3 l0_3.length c0_3] rfl mp ?_; (with_reducible refine (tree_mayRows.calls kj25 _ _ l0_3 false _ ?side1 ?side2 ?side3 A89.out).mono ?_); (case side1 => exact kc HR0_3.out); (case side2 => exact HC0_3.out); (case side3 => exact Sh.below hsh bl); rintro e w95 ⟨rfl, hb⟩; refine ⟨_, rfl, ?_⟩; replace BK225 := Aside0.mk (blk_below (g := gb225) (o := .cells #[.int .i64 a0_0, .string a0_1, .slice A0_2 l0_2.length c0_2, .slice A0_3 l0_3.length c0_3, .slice A0_4 l0_4.length c0_4, .bool a0_5, .int .i64 a0_6, .string a0_7, .int .i64 a0_8, .int .i64 a0_9, .string a0_10, .slice A0_11 l0_11.length c0_11, .string a0_12, .bool a0_13, .int .i64 a0_14] 44 (0, 0)) bk hb); replace HB := Aside0.mk (below_step bl hb); (try clear hb)))
          go_ret
          exact ⟨er, bl⟩
        ·rw [if_neg c88] at H
         have c88b0 : (a0_0 == 2) = false := beq_eq_false_iff_ne.mpr c88
         have c88b1 : (a0_0 != 2) = true := bne_iff_ne.mpr c88
         by_cases c96 : a0_0 = 3
         ·rw [if_pos c96] at H
          have c96b0 : (a0_0 == 3) = true := beq_iff_eq.mpr c96
          have c96b1 : (a0_0 != 3) = false := bne_eq_false_iff_eq.mpr c96
          clear c96
          obtain ⟨t233, A970, H⟩ := bind_out H
          have A97 := Aside0.mk A970
          clear A970
          obtain rfl := Option.some.inj H
          obtain ⟨hcz98_0, hcz98_1, hcz98_2, hcz98_3, hcz98_4, hcz98_5, hcz98_6, hcz98_7, hcz98_8, hcz98_9, hcz98_10, hcz98_11, hcz98_12, hcz98_13, hcz98_14⟩ := cells15 BK225.out
          obtain ⟨hfz98_0, hfz98_1, hfz98_2, hfz98_3, hfz98_4, hfz98_5, hfz98_6, hfz98_7, hfz98_8, hfz98_9, hfz98_10, hfz98_11, hfz98_12, hfz98_13, hfz98_14⟩ := froz15 BK225.out
          go_wp2_with (first | ((with_reducible refine gate_callee (f := 62) rfl ?_); refine goesL_ (some 117) rfl rfl Tryz.func62 (by kernel_rfl) rfl #[.slice A0_4 l0_4.length c0_4] rfl mp ?_; (with_reducible refine (tree_maySets.calls kj25 _ _ l0_4 t233 _ ?side1 ?side2 ?side3 A97.out).mono ?_); (case side1 => exact kc HR0_4.out); (case side2 => exact HC0_4.out); (case side3 => exact Sh.below hsh bl); rintro e w99 ⟨rfl, hb⟩; refine ⟨_, rfl, ?_⟩; replace BK225 := Aside0.mk (blk_below (g := gb225) (o := .cells #[.int .i64 a0_0, .string a0_1, .slice A0_2 l0_2.length c0_2, .slice A0_3 l0_3.length c0_3, .slice A0_4 l0_4.length c0_4, .bool a0_5, .int .i64 a0_6, .string a0_7, .int .i64 a0_8, .int .i64 a0_9, .string a0_10, .slice A0_11 l0_11.length c0_11, .string a0_12, .bool a0_13, .int .i64 a0_14] 44 (0, 0)) bk hb); replace HB := Aside0.mk (below_step bl hb); (try clear hb)))
          go_ret
          exact ⟨er, bl⟩
         ·rw [if_neg c96] at H
          have c96b0 : (a0_0 == 3) = false := beq_eq_false_iff_ne.mpr c96
          have c96b1 : (a0_0 != 3) = true := bne_iff_ne.mpr c96
          obtain rfl := Option.some.inj H
          obtain ⟨hcz100_0, hcz100_1, hcz100_2, hcz100_3, hcz100_4, hcz100_5, hcz100_6, hcz100_7, hcz100_8, hcz100_9, hcz100_10, hcz100_11, hcz100_12, hcz100_13, hcz100_14⟩ := cells15 BK225.out
          obtain ⟨hfz100_0, hfz100_1, hfz100_2, hfz100_3, hfz100_4, hfz100_5, hfz100_6, hfz100_7, hfz100_8, hfz100_9, hfz100_10, hfz100_11, hfz100_12, hfz100_13, hfz100_14⟩ := froz15 BK225.out
          go_wp2
          go_ret
          exact ⟨er, bl⟩
end Go.Proofs.YtlpnlfahlcingaaGreatDoor.PL
end
