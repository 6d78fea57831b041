/- What part 8 of the texts under treeDeep_holds proves: contracts of functions of this seat, and plain facts about what they compute. Conditions: those that each theorem names. -/
import Derived.Test.YtlpnlfahlcingaaGreatDoorTD7
section
namespace Go.Proofs.YtlpnlfahlcingaaGreatDoor.PL
open Go.RowKit Go.Proofs.YtlpnlfahlcingaaGreatDoorW.PrintWords Go.Proofs.YtlpnlfahlcingaaGreatDoorW.PrintLast Go.Proofs.YtlpnlfahlcingaaGreatDoorW.PrintMore
attribute [local go_sem] max2_int min2_int max_two min_two max_three min_three max_four min_four
attribute [local go_sem ↓] isSome_setCell
set_option linter.unusedVariables false
set_option linter.unusedSimpArgs false
def api_Expr__of_text.l0 : Nat → List ByteArray → List (S34) → Int → Int → Option (ByteArray)
 | 0, _, _, _, _ => none
 | k + 1, x5, x8, x9, x10 => if x10 < x9 then (if 0 ≤ x10 then (if x10 < (x8.length : Int) then ((tree_text.f k ((rd_T34 x8 x10).f0) ((rd_T34 x8 x10).f1) ((rd_T34 x8 x10).f2.f0) ((rd_T34 x8 x10).f2.f1) ((rd_T34 x8 x10).f2.f2) ((rd_T34 x8 x10).f3)).bind fun t268 => (if x5.length < 8796093022208 then (api_Expr__of_text.l0 k (x5 ++ [t268]) x8 x9 (wrap64 (x10 + 1))) else (none))) else (none)) else (none)) else ((strings_Join.f x5 (⟨#[44, 32]⟩ : ByteArray)).bind fun t272 => (some t272))
def api_Expr__of_text.f (k : Nat) (l0 : List (S34))  : Option (ByteArray) := api_Expr__of_text.l0 k ([] : List ByteArray) l0 (l0.length : Int) 0
theorem api_Expr__of_text.mono_l : ∀ k, (∀ y0 y1 y2 y3, LeO (api_Expr__of_text.l0 k y0 y1 y2 y3) (api_Expr__of_text.l0 (k + 1) y0 y1 y2 y3))
 | 0 => fun _ _ _ _ r h => by simp [api_Expr__of_text.l0] at h
 | k + 1 => by
  have ih0 := api_Expr__of_text.mono_l k
  ·intro y0 y1 y2 y3
   unfold api_Expr__of_text.l0
   repeat' first
   | (with_reducible exact ih0 _ _ _ _)
   | (with_reducible exact tree_text.mono _ _ _ _ _ _ _)
   | (with_reducible exact LeO.refl _)
   | (with_reducible exact LeO.none _)
   | (with_reducible refine LeO.ite ?_ ?_)
   | (with_reducible refine LeO.bind ?_ (fun _ => ?_))
   | exact ih0 _ _ _ _
   | exact tree_text.mono _ _ _ _ _ _ _
   | exact LeO.none _
   | refine LeO.ite ?_ ?_
   | refine LeO.bind ?_ (fun _ => ?_)
theorem api_Expr__of_text.mono : ∀ a0 k, LeO (api_Expr__of_text.f k a0) (api_Expr__of_text.f (k + 1) a0) := by
 intro a0 k
 have ih0 := api_Expr__of_text.mono_l k
 unfold api_Expr__of_text.f
 repeat' first
   | (with_reducible exact ih0 _ _ _ _)
   | (with_reducible exact tree_text.mono _ _ _ _ _ _ _)
   | (with_reducible exact LeO.refl _)
   | (with_reducible exact LeO.none _)
   | (with_reducible refine LeO.ite ?_ ?_)
   | (with_reducible refine LeO.bind ?_ (fun _ => ?_))
   | exact ih0 _ _ _ _
   | exact tree_text.mono _ _ _ _ _ _ _
   | exact LeO.none _
   | refine LeO.ite ?_ ?_
   | refine LeO.bind ?_ (fun _ => ?_)
set_option maxHeartbeats 8000000 in
set_option maxRecDepth 100000 in
theorem api_Expr__of_text.calls (k : Nat) (A0 : Option Addr) (c0 : Nat) (l0 : List (S34))  (r : ByteArray) (w : World) (hr0 : Kd.C k34 w A0 l0.length l0) (hc0 : l0.length ≤ c0) (hsh : Sh w) (h : api_Expr__of_text.f k l0 = some r) :
  Calls Tryz.prog 46 #[.slice A0 l0.length c0, .func (.func 47) #[] #[]] w fun e w' => e = .returned (.string r) ∧ Below w.heap.size w w' := by
 have hu34 := Tryz.underlying34
 have HR0 := Aside0.mk hr0
 have HC0 := Aside0.mk hc0
 clear hr0 hc0
 have HB := Aside0.mk (Below.refl w.heap.size w)
 have H : (api_Expr__of_text.l0 k ([] : List ByteArray) l0 (l0.length : Int) 0) = some r := h
 clear h
 have H' := Aside0.mk H
 clear H
 go_enter Tryz.func46, Tryz.ntmps46
 go_wp2
 go_loopg [5, 10] k (fun kq v5 v10 w' => ∃ (x5_1 : List ByteArray) (x10_1 : Int), v10 = .int .i64 x10_1 ∧ Aside0 (api_Expr__of_text.l0 kq x5_1 l0 (l0.length : Int) x10_1 = some r) ∧ Aside0 (kq ≤ k) ∧ Aside0 (Kd.R Kd.string 9 w' w.heap.size (fun _ => True) v5 x5_1) ∧ Aside0 (Below w.heap.size w w'))
 case atStart => exact ⟨(([] : List ByteArray)), (0), rs, H', ⟨Nat.le_refl _⟩, ⟨by first | exact Kd.R_nil _ _ _ _ _ | exact Kd.N_nil _ _ _ _ _ | exact Kd.V_nil _ _ _ _ _ | exact Kd.Q_nil _ _ _ _ _ | exact Kd.S_nil _ _ _ _ _⟩, ⟨bl⟩⟩
 case round =>
  clear H'
  obtain ⟨x5_1, x10_1, rfl, HA, HK1, HO_5, HB⟩ := hrel
  cases gk with
  | zero => exact absurd HA.out (by simp [api_Expr__of_text.l0])
  | succ k1 =>
   have H := HA.out
   clear HA
   simp only [api_Expr__of_text.l0] at H
   by_cases c3 : x10_1 < (l0.length : Int)
   ·rw [if_pos c3] at H
    have c3b0 : decide (x10_1 < (l0.length : Int)) = true := decide_eq_true c3
    clear c3
    by_cases c4 : 0 ≤ x10_1
    ·rw [if_pos c4] at H
     have c4b0 : decide (0 ≤ x10_1) = true := decide_eq_true c4
     clear c4
     by_cases c5 : x10_1 < (l0.length : Int)
     ·rw [if_pos c5] at H
      have c5b0 : decide (x10_1 < (l0.length : Int)) = true := decide_eq_true c5
      clear c5
      obtain ⟨t268, A60, H⟩ := bind_out H
      have A6 := Aside0.mk A60
      clear A60
      by_cases c7 : x5_1.length < 8796093022208
      ·rw [if_pos c7] at H
       have LMc7 := Aside0.mk c7
       clear c7
       obtain ⟨y269, hy269⟩ : ∃ y_ : List ByteArray, y_ = (x5_1 ++ [t268]) := ⟨_, rfl⟩
       replace H : (api_Expr__of_text.l0 k1 y269 l0 (l0.length : Int) (wrap64 (x10_1 + 1))) = some r := by first | (rw [hy269]; with_reducible exact H) | (have H2_ := (Option.bind_some _ _).symm.trans H; rw [hy269]; with_reducible exact H2_) | (have H2_ := (Option.bind_some _ _).symm.trans H; with_reducible exact H2_) | with_reducible exact H | (rw [hy269]; exact H) | exact H
       have Ny269 := Aside0.mk hy269
       clear hy269
       have H' := Aside0.mk H
       clear H
       have p266 : 0 ≤ (x10_1 : Int) := of_decide_eq_true (by assumption)
       have q266 : x10_1 < (l0.length : Int) := of_decide_eq_true (by assumption)
       obtain ⟨ad266, A266_5, c266_5, e266, hx266_0, hx266_1, hx266_2, hx266_3, hx266_4, hx266_5, hl266_5, hi266_5⟩ := at_T34 HR0.out x10_1 p266 q266
       cases e266
       replace hx266_0 := lx HB hx266_0
       replace hx266_1 := lx HB hx266_1
       replace hx266_2 := lx HB hx266_2
       replace hx266_3 := lx HB hx266_3
       replace hx266_4 := lx HB hx266_4
       replace hx266_5 := lx HB hx266_5
       have HR266_5 := Aside0.mk hi266_5
       have HC266_5 := Aside0.mk hl266_5
       clear hi266_5 hl266_5
       replace p266 := eq_true p266
       replace q266 := eq_true q266
       go_wp2_with (first | ((with_reducible refine gate_dst (N := 7) rfl ?_); refine box_event ?hg (N := 7) ?hd (cs := #[.int .i64 0, .string (⟨#[]⟩ : ByteArray), .int .i64 0, .int .i64 0, .string (⟨#[]⟩ : ByteArray), .slice none 0 0]) (t := 34) ?hr ?_; (case hd => rfl); (case hg => rfl); (case hr => first | (go_simp; done) | (go_simp; rfl)); intro gb267 hg w8 hbox hb; have BK267 := Aside0.mk (hbox); have GW267 := Aside0.mk (gsz hg bl : w.heap.size ≤ gb267); have GE267 := Aside0.mk (gsz hg bl : w.heap.size ≤ gb267); replace HO_5 := Aside0.mk (Kd.R_below (by (with_reducible repeat (first | apply Kd.R_alloc | apply Kd.R_drewN | apply Kd.R_drew)); exact HO_5.out) hb); replace HB := Aside0.mk (below_step bl hb); clear hb hbox hg; obtain ⟨hcz9_0, hcz9_1, hcz9_2, hcz9_3, hcz9_4, hcz9_5⟩ := cells6 BK267.out; obtain ⟨hfz9_0, hfz9_1, hfz9_2, hfz9_3, hfz9_4, hfz9_5⟩ := froz6 BK267.out) | (go_at_call 47; (with_reducible refine (tree_text.calls k1 ((rd_T34 l0 x10_1).f0) ((rd_T34 l0 x10_1).f1) ((rd_T34 l0 x10_1).f2.f0) ((rd_T34 l0 x10_1).f2.f1) ((rd_T34 l0 x10_1).f2.f2) _ _ ((rd_T34 l0 x10_1).f3) t268 _ ?side1 ?side2 ?side3 A6.out).mono ?_); (case side1 => exact Kd.C_below HR266_5.out bl); (case side2 => exact HC266_5.out); (case side3 => exact Sh.below hsh bl); rintro e w10 ⟨rfl, hb⟩; replace HO_5 := Aside0.mk (Kd.R_below (by (with_reducible repeat (first | apply Kd.R_alloc | apply Kd.R_drewN | apply Kd.R_drew)); exact (Kd.R_mono (Kd.R_far (p := ⟨gb267, 5, none⟩) (Kd.R_far (p := ⟨gb267, 4, none⟩) (Kd.R_far (p := ⟨gb267, 3, none⟩) (Kd.R_far (p := ⟨gb267, 2, none⟩) (Kd.R_far (p := ⟨gb267, 1, none⟩) (Kd.R_far (p := ⟨gb267, 0, none⟩) (Kd.R_types HO_5.out BK267.out (by decide)) (fun _ hk => hk.2) (.int .i64 ((rd_T34 l0 x10_1).f0))) (fun _ hk => hk.2) (.string ((rd_T34 l0 x10_1).f1))) (fun _ hk => hk.2) (.int .i64 ((rd_T34 l0 x10_1).f2.f0))) (fun _ hk => hk.2) (.int .i64 ((rd_T34 l0 x10_1).f2.f1))) (fun _ hk => hk.2) (.string ((rd_T34 l0 x10_1).f2.f2))) (fun _ hk => hk.2) (.slice A266_5 ((rd_T34 l0 x10_1).f3).length c266_5)) (fun _ h_ => h_.1))) hb); replace BK267 := Aside0.mk (blk_below (g := gb267) (o := .cells #[.int .i64 ((rd_T34 l0 x10_1).f0), .string ((rd_T34 l0 x10_1).f1), .int .i64 ((rd_T34 l0 x10_1).f2.f0), .int .i64 ((rd_T34 l0 x10_1).f2.f1), .string ((rd_T34 l0 x10_1).f2.f2), .slice A266_5 ((rd_T34 l0 x10_1).f3).length c266_5] 34 (0, 0)) bp6 hb); replace HB := Aside0.mk (below_step bl hb); (try clear hb); (try clear hk)) | ((with_reducible refine gate_builtin (b := .append) (xs := #[.tmp 14, .tmp 18]) rfl ?_); at_builtin; refine Kd.R_append Kd.string (w0 := w) w.heap.size rfl (.tmp 14) (.tmp 18) 66 9 (.string ⟨#[]⟩) 16 rfl Tryz.underlying66 info9 rfl (by decide) (by omega) u5 x5_1 t268 [.string t268] (fun _ => True) (fun _ => False) rfl rfl ?aP (fun _ hk => hk.elim) ?aF ?aO ?aB ?aS ?aL ?_; (case aP => exact rfl); (case aB => exact bl); (case aF => exact (fun _ _ => trivial)); (case aO => exact (by (with_reducible repeat (first | apply Kd.R_alloc | apply Kd.R_drewN | apply Kd.R_drew)); exact HO_5.out)); (case aS => exact (below_size bl)); (case aL => have := LMc7.out; omega); intro v270 w11 ho hb hg hat; rw [← Ny269.out] at ho; have HO271 := Aside0.mk (ho); replace BK267 := Aside0.mk (blk_grown (g := gb267) (o := .cells #[.int .i64 ((rd_T34 l0 x10_1).f0), .string ((rd_T34 l0 x10_1).f1), .int .i64 ((rd_T34 l0 x10_1).f2.f0), .int .i64 ((rd_T34 l0 x10_1).f2.f1), .string ((rd_T34 l0 x10_1).f2.f2), .slice A266_5 ((rd_T34 l0 x10_1).f3).length c266_5] 34 (0, 0)) bk hg (Kd.R_ne HO_5.out BK267.out (by decide))); replace HB := Aside0.mk (hb); clear ho hb hg hat))
       go_roundg k1
       case measure => have := HK1.out; omega
       case rel => exact ⟨(y269), (wrap64 (x10_1 + 1)), rs, H', ⟨by have := HK1.out; omega⟩, ⟨by (with_reducible repeat (first | apply Kd.R_alloc | apply Kd.R_drewN | apply Kd.R_drew)); exact HO271.out⟩, ⟨bl⟩⟩
      ·rw [if_neg c7] at H
       exact absurd H (by simp)
     ·rw [if_neg c5] at H
      exact absurd H (by simp)
    ·rw [if_neg c4] at H
     exact absurd H (by simp)
   ·rw [if_neg c3] at H
    have c3b0 : decide (x10_1 < (l0.length : Int)) = false := decide_eq_false c3
    clear c3
    obtain ⟨t272, A120, H⟩ := bind_out H
    have A12 := Aside0.mk A120
    clear A120
    obtain rfl := Option.some.inj H
    obtain ⟨Ao13, co13, eo13⟩ := Kd.R_slice HO_5.out
    subst eo13
    go_wp2_with (first | ((with_reducible refine gate_callee (f := 26) rfl ?_); refine goesL_ (some 22) rfl rfl Tryz.func26 (by kernel_rfl) rfl #[.slice Ao13 x5_1.length co13, .string (⟨#[44, 32]⟩ : ByteArray)] rfl mp ?_; (with_reducible refine (strings_Join.calls _ _ x5_1 (⟨#[44, 32]⟩ : ByteArray) t272 _ HO_5.out ?side2 A12.out).mono ?_); (case side2 => exact (Kd.R_reads' HO_5.out).2.1); rintro e w14 ⟨rfl, hb⟩; refine ⟨_, rfl, ?_⟩; replace HO_5 := Aside0.mk (Kd.R_below (by (with_reducible repeat (first | apply Kd.R_alloc | apply Kd.R_drewN | apply Kd.R_drew)); exact HO_5.out) hb); replace HB := Aside0.mk (below_step bl hb); (try clear hb); (try clear hk)))
    go_ret
    exact ⟨er, bl⟩
def tree_stmt_1.f (k : Nat) (l0 : List (S34)) : Option (ByteArray) := (api_Expr__of_text.f k l0).bind fun t273 => (if 1 + t273.size ≤ 9223372036854775807 then (if ((⟨#[40]⟩ : ByteArray) ++ t273).size + 1 ≤ 9223372036854775807 then (some (((⟨#[40]⟩ : ByteArray) ++ t273) ++ (⟨#[41]⟩ : ByteArray))) else (none)) else (none))
theorem tree_stmt_1.mono : ∀ a0 k, LeO (tree_stmt_1.f k a0) (tree_stmt_1.f (k + 1) a0) := by
 intro a0 k
 unfold tree_stmt_1.f
 repeat' first
   | (with_reducible exact api_Expr__of_text.mono _ _)
   | (with_reducible exact LeO.refl _)
   | (with_reducible exact LeO.none _)
   | (with_reducible refine LeO.ite ?_ ?_)
   | (with_reducible refine LeO.bind ?_ (fun _ => ?_))
   | exact api_Expr__of_text.mono _ _
   | exact LeO.none _
   | refine LeO.ite ?_ ?_
   | refine LeO.bind ?_ (fun _ => ?_)
set_option maxHeartbeats 8000000 in
set_option maxRecDepth 100000 in
theorem tree_stmt_1.calls (k : Nat) (A0 : Option Addr) (c0 : Nat) (l0 : List (S34)) (r : ByteArray) (w : World) (hr0 : Kd.C k34 w A0 l0.length l0) (hc0 : l0.length ≤ c0) (hsh : Sh w) (h : tree_stmt_1.f k l0 = some r) :
  Calls Tryz.prog 45 #[.slice A0 l0.length c0] w fun e w' => e = .returned (.string r) ∧ Below w.heap.size w w' := by
 have HR0 := Aside0.mk hr0
 have HC0 := Aside0.mk hc0
 clear hr0 hc0
 have HB := Aside0.mk (Below.refl w.heap.size w)
 have H : ((api_Expr__of_text.f k l0).bind fun t273 => (if 1 + t273.size ≤ 9223372036854775807 then (if ((⟨#[40]⟩ : ByteArray) ++ t273).size + 1 ≤ 9223372036854775807 then (some (((⟨#[40]⟩ : ByteArray) ++ t273) ++ (⟨#[41]⟩ : ByteArray))) else (none)) else (none))) = some r := h
 clear h
 obtain ⟨t273, A20, H⟩ := bind_out H
 have A2 := Aside0.mk A20
 clear A20
 by_cases c3 : 1 + t273.size ≤ 9223372036854775807
 ·rw [if_pos c3] at H
  have c3b0 := eq_true c3
  have c3b1 : decide (1 + t273.size ≤ 9223372036854775807) = true := decide_eq_true c3
  try have c3b2 : (9223372036854775807 < 1 + t273.size) = False := eq_false (Nat.not_lt.2 c3)
  by_cases c4 : ((⟨#[40]⟩ : ByteArray) ++ t273).size + 1 ≤ 9223372036854775807
  ·rw [if_pos c4] at H
   have c4z : (1 + t273.size) + 1 ≤ 9223372036854775807 := by have h_ := c4; simp only [ByteArray.size_append] at h_; exact h_
   have c4y := eq_true c4z
   have c4x : decide ((1 + t273.size) + 1 ≤ 9223372036854775807) = true := decide_eq_true c4z
   have c4w : (9223372036854775807 < (1 + t273.size) + 1) = False := eq_false (by omega)
   have c4b0 := eq_true c4
   have c4b1 : decide (((⟨#[40]⟩ : ByteArray) ++ t273).size + 1 ≤ 9223372036854775807) = true := decide_eq_true c4
   try have c4b2 : (9223372036854775807 < ((⟨#[40]⟩ : ByteArray) ++ t273).size + 1) = False := eq_false (Nat.not_lt.2 c4)
   obtain rfl := Option.some.inj H
   go_enter Tryz.func45, Tryz.ntmps45
   go_wp2_with (first | ((with_reducible refine gate_callee (f := 46) rfl ?_); refine goesL_ (some 4) rfl rfl Tryz.func46 (by kernel_rfl) rfl #[.slice A0 l0.length c0, .func (.func 47) #[] #[]] rfl mp ?_; (with_reducible refine (api_Expr__of_text.calls k _ _ l0 t273 _ ?side1 ?side2 ?side3 A2.out).mono ?_); (case side1 => repeat (first | exact HR0.out | (with_reducible refine Kd.C_alloc ?_ _) | (with_reducible refine Kd.C_drewN ?_ _) | (with_reducible refine Kd.C_drew ?_))); (case side2 => exact HC0.out); (case side3 => exact Sh.below hsh bl); rintro e w5 ⟨rfl, hb⟩; refine ⟨_, rfl, ?_⟩; replace HB := Aside0.mk (below_step bl hb); (try clear hb); (try clear hk)))
   go_ret
   exact ⟨er, bl⟩
  ·rw [if_neg c4] at H
   exact absurd H (by simp)
 ·rw [if_neg c3] at H
  exact absurd H (by simp)
end Go.Proofs.YtlpnlfahlcingaaGreatDoor.PL
end
section
namespace Go.Proofs.YtlpnlfahlcingaaGreatDoor.PL
open Go.RowKit Go.Proofs.YtlpnlfahlcingaaGreatDoorW.PrintWords Go.Proofs.YtlpnlfahlcingaaGreatDoorW.PrintLast Go.Proofs.YtlpnlfahlcingaaGreatDoorW.PrintMore
attribute [local go_sem] max2_int min2_int max_two min_two max_three min_three max_four min_four
attribute [local go_sem ↓] isSome_setCell
set_option linter.unusedVariables false
set_option linter.unusedSimpArgs false
def api_Expr__of_stmt_1.l0 : Nat → List ByteArray → List (List (S34)) → Int → Int → Option (ByteArray)
 | 0, _, _, _, _ => none
 | k + 1, x5, x8, x9, x10 => if x10 < x9 then (if 0 ≤ x10 then (if x10 < (x8.length : Int) then ((tree_stmt_1.f k (rd_L8 x8 x10)).bind fun t275 => (if x5.length < 8796093022208 then (api_Expr__of_stmt_1.l0 k (x5 ++ [t275]) x8 x9 (wrap64 (x10 + 1))) else (none))) else (none)) else (none)) else ((strings_Join.f x5 (⟨#[44, 32]⟩ : ByteArray)).bind fun t279 => (some t279))
def api_Expr__of_stmt_1.f (k : Nat) (l0 : List (List (S34)))  : Option (ByteArray) := api_Expr__of_stmt_1.l0 k ([] : List ByteArray) l0 (l0.length : Int) 0
theorem api_Expr__of_stmt_1.mono_l : ∀ k, (∀ y0 y1 y2 y3, LeO (api_Expr__of_stmt_1.l0 k y0 y1 y2 y3) (api_Expr__of_stmt_1.l0 (k + 1) y0 y1 y2 y3))
 | 0 => fun _ _ _ _ r h => by simp [api_Expr__of_stmt_1.l0] at h
 | k + 1 => by
  have ih0 := api_Expr__of_stmt_1.mono_l k
  ·intro y0 y1 y2 y3
   unfold api_Expr__of_stmt_1.l0
   repeat' first
   | (with_reducible exact ih0 _ _ _ _)
   | (with_reducible exact tree_stmt_1.mono _ _)
   | (with_reducible exact LeO.refl _)
   | (with_reducible exact LeO.none _)
   | (with_reducible refine LeO.ite ?_ ?_)
   | (with_reducible refine LeO.bind ?_ (fun _ => ?_))
   | exact ih0 _ _ _ _
   | exact tree_stmt_1.mono _ _
   | exact LeO.none _
   | refine LeO.ite ?_ ?_
   | refine LeO.bind ?_ (fun _ => ?_)
theorem api_Expr__of_stmt_1.mono : ∀ a0 k, LeO (api_Expr__of_stmt_1.f k a0) (api_Expr__of_stmt_1.f (k + 1) a0) := by
 intro a0 k
 have ih0 := api_Expr__of_stmt_1.mono_l k
 unfold api_Expr__of_stmt_1.f
 repeat' first
   | (with_reducible exact ih0 _ _ _ _)
   | (with_reducible exact tree_stmt_1.mono _ _)
   | (with_reducible exact LeO.refl _)
   | (with_reducible exact LeO.none _)
   | (with_reducible refine LeO.ite ?_ ?_)
   | (with_reducible refine LeO.bind ?_ (fun _ => ?_))
   | exact ih0 _ _ _ _
   | exact tree_stmt_1.mono _ _
   | exact LeO.none _
   | refine LeO.ite ?_ ?_
   | refine LeO.bind ?_ (fun _ => ?_)
set_option maxHeartbeats 8000000 in
set_option maxRecDepth 100000 in
theorem api_Expr__of_stmt_1.calls (k : Nat) (A0 : Option Addr) (c0 : Nat) (l0 : List (List (S34)))  (r : ByteArray) (w : World) (hr0 : Kd.C (Kd.slice 34 k34) w A0 l0.length l0) (hc0 : l0.length ≤ c0) (hsh : Sh w) (h : api_Expr__of_stmt_1.f k l0 = some r) :
  Calls Tryz.prog 44 #[.slice A0 l0.length c0, .func (.func 45) #[] #[]] w fun e w' => e = .returned (.string r) ∧ Below w.heap.size w w' := by
 have HR0 := Aside0.mk hr0
 have HC0 := Aside0.mk hc0
 clear hr0 hc0
 have HB := Aside0.mk (Below.refl w.heap.size w)
 have H : (api_Expr__of_stmt_1.l0 k ([] : List ByteArray) l0 (l0.length : Int) 0) = some r := h
 clear h
 have H' := Aside0.mk H
 clear H
 go_enter Tryz.func44, Tryz.ntmps44
 go_wp2
 go_loopg [5, 10] k (fun kq v5 v10 w' => ∃ (x5_1 : List ByteArray) (x10_1 : Int), v10 = .int .i64 x10_1 ∧ Aside0 (api_Expr__of_stmt_1.l0 kq x5_1 l0 (l0.length : Int) x10_1 = some r) ∧ Aside0 (kq ≤ k) ∧ Aside0 (Kd.R Kd.string 9 w' w.heap.size (fun _ => True) v5 x5_1) ∧ Aside0 (Below w.heap.size w w'))
 case atStart => exact ⟨(([] : List ByteArray)), (0), rs, H', ⟨Nat.le_refl _⟩, ⟨by first | exact Kd.R_nil _ _ _ _ _ | exact Kd.N_nil _ _ _ _ _ | exact Kd.V_nil _ _ _ _ _ | exact Kd.Q_nil _ _ _ _ _ | exact Kd.S_nil _ _ _ _ _⟩, ⟨bl⟩⟩
 case round =>
  clear H'
  obtain ⟨x5_1, x10_1, rfl, HA, HK1, HO_5, HB⟩ := hrel
  cases gk with
  | zero => exact absurd HA.out (by simp [api_Expr__of_stmt_1.l0])
  | succ k1 =>
   have H := HA.out
   clear HA
   simp only [api_Expr__of_stmt_1.l0] at H
   by_cases c3 : x10_1 < (l0.length : Int)
   ·rw [if_pos c3] at H
    have c3b0 : decide (x10_1 < (l0.length : Int)) = true := decide_eq_true c3
    clear c3
    by_cases c4 : 0 ≤ x10_1
    ·rw [if_pos c4] at H
     have c4b0 : decide (0 ≤ x10_1) = true := decide_eq_true c4
     clear c4
     by_cases c5 : x10_1 < (l0.length : Int)
     ·rw [if_pos c5] at H
      have c5b0 : decide (x10_1 < (l0.length : Int)) = true := decide_eq_true c5
      clear c5
      obtain ⟨t275, A60, H⟩ := bind_out H
      have A6 := Aside0.mk A60
      clear A60
      by_cases c7 : x5_1.length < 8796093022208
      ·rw [if_pos c7] at H
       have LMc7 := Aside0.mk c7
       clear c7
       obtain ⟨y276, hy276⟩ : ∃ y_ : List ByteArray, y_ = (x5_1 ++ [t275]) := ⟨_, rfl⟩
       replace H : (api_Expr__of_stmt_1.l0 k1 y276 l0 (l0.length : Int) (wrap64 (x10_1 + 1))) = some r := by first | (rw [hy276]; with_reducible exact H) | (have H2_ := (Option.bind_some _ _).symm.trans H; rw [hy276]; with_reducible exact H2_) | (have H2_ := (Option.bind_some _ _).symm.trans H; with_reducible exact H2_) | with_reducible exact H | (rw [hy276]; exact H) | exact H
       have Ny276 := Aside0.mk hy276
       clear hy276
       have H' := Aside0.mk H
       clear H
       have p274 : 0 ≤ (x10_1 : Int) := of_decide_eq_true (by assumption)
       have q274 : x10_1 < (l0.length : Int) := of_decide_eq_true (by assumption)
       obtain ⟨ad274, A274_0, c274_0, e274, hx274_0, hl274_0, hi274_0⟩ := at_L8 HR0.out x10_1 p274 q274
       cases e274
       replace hx274_0 := lx HB hx274_0
       have HR274_0 := Aside0.mk hi274_0
       have HC274_0 := Aside0.mk hl274_0
       clear hi274_0 hl274_0
       replace p274 := eq_true p274
       replace q274 := eq_true q274
       go_wp2_with (first | (go_at_call 45; (with_reducible refine (tree_stmt_1.calls k1 _ _ (rd_L8 l0 x10_1) t275 _ ?side1 ?side2 ?side3 A6.out).mono ?_); (case side1 => exact kc HR274_0.out); (case side2 => exact HC274_0.out); (case side3 => exact Sh.below hsh bl); rintro e w8 ⟨rfl, hb⟩; replace HO_5 := Aside0.mk (Kd.R_below (by (with_reducible repeat (first | apply Kd.R_alloc | apply Kd.R_drewN | apply Kd.R_drew)); exact HO_5.out) hb); replace HB := Aside0.mk (below_step bl hb); (try clear hb); (try clear hk)) | ((with_reducible refine gate_builtin (b := .append) (xs := #[.tmp 14, .tmp 18]) rfl ?_); at_builtin; refine Kd.R_append Kd.string (w0 := w) w.heap.size rfl (.tmp 14) (.tmp 18) 66 9 (.string ⟨#[]⟩) 16 rfl Tryz.underlying66 info9 rfl (by decide) (by omega) u5 x5_1 t275 [.string t275] (fun _ => True) (fun _ => False) rfl rfl ?aP (fun _ hk => hk.elim) ?aF ?aO ?aB ?aS ?aL ?_; (case aP => exact rfl); (case aB => exact bl); (case aF => exact (fun _ _ => trivial)); (case aO => exact (by (with_reducible repeat (first | apply Kd.R_alloc | apply Kd.R_drewN | apply Kd.R_drew)); exact HO_5.out)); (case aS => exact (below_size bl)); (case aL => have := LMc7.out; omega); intro v277 w9 ho hb hg hat; rw [← Ny276.out] at ho; have HO278 := Aside0.mk (ho); replace HB := Aside0.mk (hb); clear ho hb hg hat))
       go_roundg k1
       case measure => have := HK1.out; omega
       case rel => exact ⟨(y276), (wrap64 (x10_1 + 1)), rs, H', ⟨by have := HK1.out; omega⟩, ⟨by (with_reducible repeat (first | apply Kd.R_alloc | apply Kd.R_drewN | apply Kd.R_drew)); exact HO278.out⟩, ⟨bl⟩⟩
      ·rw [if_neg c7] at H
       exact absurd H (by simp)
     ·rw [if_neg c5] at H
      exact absurd H (by simp)
    ·rw [if_neg c4] at H
     exact absurd H (by simp)
   ·rw [if_neg c3] at H
    have c3b0 : decide (x10_1 < (l0.length : Int)) = false := decide_eq_false c3
    clear c3
    obtain ⟨t279, A100, H⟩ := bind_out H
    have A10 := Aside0.mk A100
    clear A100
    obtain rfl := Option.some.inj H
    obtain ⟨Ao11, co11, eo11⟩ := Kd.R_slice HO_5.out
    subst eo11
    go_wp2_with (first | ((with_reducible refine gate_callee (f := 26) rfl ?_); refine goesL_ (some 22) rfl rfl Tryz.func26 (by kernel_rfl) rfl #[.slice Ao11 x5_1.length co11, .string (⟨#[44, 32]⟩ : ByteArray)] rfl mp ?_; (with_reducible refine (strings_Join.calls _ _ x5_1 (⟨#[44, 32]⟩ : ByteArray) t279 _ HO_5.out ?side2 A10.out).mono ?_); (case side2 => exact (Kd.R_reads' HO_5.out).2.1); rintro e w12 ⟨rfl, hb⟩; refine ⟨_, rfl, ?_⟩; replace HO_5 := Aside0.mk (Kd.R_below (by (with_reducible repeat (first | apply Kd.R_alloc | apply Kd.R_drewN | apply Kd.R_drew)); exact HO_5.out) hb); replace HB := Aside0.mk (below_step bl hb); (try clear hb); (try clear hk)))
    go_ret
    exact ⟨er, bl⟩
end Go.Proofs.YtlpnlfahlcingaaGreatDoor.PL
end
section
namespace Go.Proofs.YtlpnlfahlcingaaGreatDoor.PL
open Go.RowKit Go.Proofs.YtlpnlfahlcingaaGreatDoorW.PrintWords Go.Proofs.YtlpnlfahlcingaaGreatDoorW.PrintLast Go.Proofs.YtlpnlfahlcingaaGreatDoorW.PrintMore
attribute [local go_sem] max2_int min2_int max_two min_two max_three min_three max_four min_four
attribute [local go_sem ↓] isSome_setCell
set_option linter.unusedVariables false
set_option linter.unusedSimpArgs false
def tree_stmt_2.f (k : Nat) (a0_0 : ByteArray) (a0_1 : Int) (a0_2 : ByteArray) (a0_3 : Int) (a0_4 : Int) (a0_5 : ByteArray) (l0_6 : List (S34)) : Option (ByteArray) := if a0_0.size + 3 ≤ 9223372036854775807 then ((tree_text.f k a0_1 a0_2 a0_3 a0_4 a0_5 l0_6).bind fun t281 => (if (a0_0 ++ (⟨#[32, 61, 32]⟩ : ByteArray)).size + t281.size ≤ 9223372036854775807 then (some ((a0_0 ++ (⟨#[32, 61, 32]⟩ : ByteArray)) ++ t281)) else (none))) else (none)
theorem tree_stmt_2.mono : ∀ a0 a1 a2 a3 a4 a5 a6 k, LeO (tree_stmt_2.f k a0 a1 a2 a3 a4 a5 a6) (tree_stmt_2.f (k + 1) a0 a1 a2 a3 a4 a5 a6) := by
 intro a0 a1 a2 a3 a4 a5 a6 k
 unfold tree_stmt_2.f
 repeat' first
   | (with_reducible exact tree_text.mono _ _ _ _ _ _ _)
   | (with_reducible exact LeO.refl _)
   | (with_reducible exact LeO.none _)
   | (with_reducible refine LeO.ite ?_ ?_)
   | (with_reducible refine LeO.bind ?_ (fun _ => ?_))
   | exact tree_text.mono _ _ _ _ _ _ _
   | exact LeO.none _
   | refine LeO.ite ?_ ?_
   | refine LeO.bind ?_ (fun _ => ?_)
def tree_stmt_2.T1 : Bool × List (List Nat × List Nat) := (true, [([], []), ([0], [0]), ([1], [1]), ([], []), ([3], [3]), ([4], [4]), ([2, 5], [2, 5]), ([6, 5, 0, 1, 2, 3, 4, 5, 6], [6])])
def tree_stmt_2.B1 : List Nat := [0, 1, 3, 0, 8, 24, 63, 127]
theorem tree_stmt_2.tab1 : rtab .any (opsOf Tryz.f49 1) = tree_stmt_2.T1 := by kernel_rfl
theorem tree_stmt_2.bits1 : waitsOk tree_stmt_2.T1.2 tree_stmt_2.B1 = true := by kernel_rfl
set_option maxHeartbeats 8000000 in
set_option maxRecDepth 100000 in
theorem tree_stmt_2.calls (k : Nat) (a0_0 : ByteArray) (a0_1 : Int) (a0_2 : ByteArray) (a0_3 : Int) (a0_4 : Int) (a0_5 : ByteArray) (A0_6 : Option Addr) (c0_6 : Nat) (l0_6 : List (S34)) (r : ByteArray) (w : World) (hr0_6 : Kd.C k34 w A0_6 l0_6.length l0_6) (hc0_6 : l0_6.length ≤ c0_6) (hsh : Sh w) (h : tree_stmt_2.f k a0_0 a0_1 a0_2 a0_3 a0_4 a0_5 l0_6 = some r) :
  Calls Tryz.prog 49 #[.agg #[.string a0_0, .int .i64 a0_1, .string a0_2, .int .i64 a0_3, .int .i64 a0_4, .string a0_5, .slice A0_6 l0_6.length c0_6]] w fun e w' => e = .returned (.string r) ∧ Below w.heap.size w w' := by
 have hu65 := Tryz.underlying65
 have hu34 := Tryz.underlying34
 have HR0_6 := Aside0.mk hr0_6
 have HC0_6 := Aside0.mk hc0_6
 clear hr0_6 hc0_6
 have HB := Aside0.mk (Below.refl w.heap.size w)
 have H : (if a0_0.size + 3 ≤ 9223372036854775807 then ((tree_text.f k a0_1 a0_2 a0_3 a0_4 a0_5 l0_6).bind fun t281 => (if (a0_0 ++ (⟨#[32, 61, 32]⟩ : ByteArray)).size + t281.size ≤ 9223372036854775807 then (some ((a0_0 ++ (⟨#[32, 61, 32]⟩ : ByteArray)) ++ t281)) else (none))) else (none)) = some r := h
 clear h
 by_cases c2 : a0_0.size + 3 ≤ 9223372036854775807
 ·rw [if_pos c2] at H
  have c2b0 := eq_true c2
  have c2b1 : decide (a0_0.size + 3 ≤ 9223372036854775807) = true := decide_eq_true c2
  try have c2b2 : (9223372036854775807 < a0_0.size + 3) = False := eq_false (Nat.not_lt.2 c2)
  obtain ⟨t281, A30, H⟩ := bind_out H
  have A3 := Aside0.mk A30
  clear A30
  by_cases c4 : (a0_0 ++ (⟨#[32, 61, 32]⟩ : ByteArray)).size + t281.size ≤ 9223372036854775807
  ·rw [if_pos c4] at H
   have c4z : (a0_0.size + 3) + t281.size ≤ 9223372036854775807 := by have h_ := c4; simp only [ByteArray.size_append] at h_; exact h_
   have c4y := eq_true c4z
   have c4x : decide ((a0_0.size + 3) + t281.size ≤ 9223372036854775807) = true := decide_eq_true c4z
   have c4w : (9223372036854775807 < (a0_0.size + 3) + t281.size) = False := eq_false (by omega)
   have c4b0 := eq_true c4
   have c4b1 : decide ((a0_0 ++ (⟨#[32, 61, 32]⟩ : ByteArray)).size + t281.size ≤ 9223372036854775807) = true := decide_eq_true c4
   try have c4b2 : (9223372036854775807 < (a0_0 ++ (⟨#[32, 61, 32]⟩ : ByteArray)).size + t281.size) = False := eq_false (Nat.not_lt.2 c4)
   obtain rfl := Option.some.inj H
   go_enter Tryz.func49, Tryz.ntmps49
   try go_wp2_with (first | ((with_reducible refine gate_dst (N := 1) rfl ?_); refine box_ev (N := 1) (cs := #[.string a0_0, .int .i64 a0_1, .string a0_2, .int .i64 a0_3, .int .i64 a0_4, .string a0_5, .slice A0_6 l0_6.length c0_6]) (t := 65) ?_; intro gb280 hg w5 hbox hb; have BK280 := Aside0.mk (hbox); have GW280 := Aside0.mk (gsz hg bl : w.heap.size ≤ gb280); have GE280 := Aside0.mk (gsz hg bl : w.heap.size ≤ gb280); replace HB := Aside0.mk (below_step bl hb); clear hb hbox hg))
   have n0_ := Aside0.mk (blk_drew BK280.out)
   have n1_ := Aside0.mk (below_drew1 HB.out)
   clear BK280
   clear HB
   have BK280 := n0_
   have HB := n1_
   clear n0_ n1_
   refine start_ (n := 8) (S := fun w' => w'.cell? ⟨gb280, 0, none⟩ = some (.string a0_0) ∧ w'.cell? ⟨gb280, 1, none⟩ = some (.int .i64 a0_1) ∧ w'.cell? ⟨gb280, 2, none⟩ = some (.string a0_2) ∧ w'.cell? ⟨gb280, 3, none⟩ = some (.int .i64 a0_3) ∧ w'.cell? ⟨gb280, 4, none⟩ = some (.int .i64 a0_4) ∧ w'.cell? ⟨gb280, 5, none⟩ = some (.string a0_5) ∧ w'.cell? ⟨gb280, 6, none⟩ = some (.slice A0_6 l0_6.length c0_6)) (ds := []) #[false, false, false, false, false, false, false, false] (by kernel_rfl) rfl rfl ⟨(blk_cell BK280.out 0).trans rfl, (blk_cell BK280.out 1).trans rfl, (blk_cell BK280.out 2).trans rfl, (blk_cell BK280.out 3).trans rfl, (blk_cell BK280.out 4).trans rfl, (blk_cell BK280.out 5).trans rfl, (blk_cell BK280.out 6).trans rfl⟩ (fun hHeld => ?_); refine with_tabW tree_stmt_2.tab1 tree_stmt_2.bits1 (fun HT_ HW_ => ?_)
   generalize w5.drew = w6 at BK280 HB hHeld ⊢
   refine pure_ (i := 0) (N := some 3) (v := ?_) (a' := ?_) #[true, false, false, false, false, false, false, false] rfl rfl (any_of HT_.out (by kernel_rfl)) (fun _ _ _ h => h) (Or.inl ⟨by rfl, ?_⟩) ?_ ?_
   rotate_left
   ·intro w'
    go_simp
    with_reducible rfl
   rotate_left
   ·simp only [Act.put, List.setIfInBounds_toArray, List.set_cons_zero, List.set_cons_succ, i64_w, i32_w]
    rfl
   refine pure_ (i := 3) (N := some 6) (v := ?_) (a' := ?_) #[true, false, false, true, false, false, false, false] rfl rfl (any_of HT_.out (by kernel_rfl)) (fun _ _ _ h => h) (Or.inl ⟨by rfl, ?_⟩) ?_ ?_
   rotate_left
   ·intro w'
    go_simp
    with_reducible rfl
   rotate_left
   ·simp only [Act.put, List.setIfInBounds_toArray, List.set_cons_zero, List.set_cons_succ, i64_w, i32_w]
    rfl
   refine take_ (i := 1) (N := some 4) (v := ?_) (a' := ?_) #[true, true, false, true, false, false, false, false] rfl rfl (take_ofW HT_.out HW_.out (by kernel_rfl)) (fun _ _ _ h => h) (Or.inl ⟨by rfl, ?_⟩) hHeld ?_ ?_
   rotate_left
   ·rintro w' ⟨s0, s1, s2, s3, s4, s5, s6⟩
    go_simp
    with_reducible rfl
   rotate_left
   ·simp only [Act.put, List.setIfInBounds_toArray, List.set_cons_zero, List.set_cons_succ, i64_w, i32_w]
    rfl
   refine pure_ (i := 2) (N := some 5) (v := ?_) (a' := ?_) #[true, true, true, true, false, false, false, false] rfl rfl (any_of HT_.out (by kernel_rfl)) (fun _ _ _ h => h) (Or.inl ⟨by rfl, ?_⟩) ?_ ?_
   rotate_left
   ·intro w'
    go_simp
    with_reducible rfl
   rotate_left
   ·simp only [Act.put, List.setIfInBounds_toArray, List.set_cons_zero, List.set_cons_succ, i64_w, i32_w]
    rfl
   refine take_ (i := 4) (N := some 7) (v := ?_) (a' := ?_) #[true, true, true, true, true, false, false, false] rfl rfl (take_ofW HT_.out HW_.out (by kernel_rfl)) (fun _ _ _ h => h) (Or.inl ⟨by rfl, ?_⟩) hHeld ?_ ?_
   rotate_left
   ·rintro w' ⟨s0, s1, s2, s3, s4, s5, s6⟩
    go_simp
    with_reducible rfl
   rotate_left
   ·simp only [Act.put, List.setIfInBounds_toArray, List.set_cons_zero, List.set_cons_succ, i64_w, i32_w]
    rfl
   refine one_ (i := 5) (N := some 8) #[true, true, true, true, true, true, false, false] rfl rfl (one_of HT_.out (by kernel_rfl)) (by decide) (fun K hK => ?_)
   refine goes_ Tryz.func47 (by kernel_rfl) rfl #[.agg #[.int .i64 a0_1, .string a0_2, .int .i64 a0_3, .int .i64 a0_4, .string a0_5, .slice A0_6 l0_6.length c0_6]] (by rfl) rfl rfl mp ?_
   with_reducible refine (tree_text.calls k a0_1 a0_2 a0_3 a0_4 a0_5 _ _ l0_6 t281 _ ?side1 ?side2 ?side3 A3.out).mono ?_
   (case side1 => exact kc HR0_6.out)
   (case side2 => exact HC0_6.out)
   (case side3 => exact Sh.below hsh bl)
   rintro e w7 ⟨rfl, hb⟩
   refine ⟨_, rfl, ?_⟩
   have n0_ := Aside0.mk (blk_below (g := gb280) (o := .cells #[.string a0_0, .int .i64 a0_1, .string a0_2, .int .i64 a0_3, .int .i64 a0_4, .string a0_5, .slice A0_6 l0_6.length c0_6] 65 (0, 0)) bk hb)
   have n1_ := Aside0.mk (below_step bl hb)
   clear BK280
   clear HB
   have BK280 := n0_
   have HB := n1_
   clear n0_ n1_
   (try clear hb)
   (try clear hb2)
   (try clear hk)
   (try clear hi)
   refine hK.out _ _ ⟨(blk_cell BK280.out 0).trans rfl, (blk_cell BK280.out 1).trans rfl, (blk_cell BK280.out 2).trans rfl, (blk_cell BK280.out 3).trans rfl, (blk_cell BK280.out 4).trans rfl, (blk_cell BK280.out 5).trans rfl, (blk_cell BK280.out 6).trans rfl⟩ (fun hHeld => ?_)
   clear hK K
   refine norm_ (a' := ?_) ?_ ?_
   rotate_left
   ·show Act.put _ (some 8) _ = _
    simp only [Act.put, List.setIfInBounds_toArray, List.set_cons_zero, List.set_cons_succ, i64_w, i32_w]
    rfl
   refine pure_ (i := 6) (N := some 9) (v := ?_) (a' := ?_) #[true, true, true, true, true, true, true, false] rfl rfl (any_of HT_.out (by kernel_rfl)) (fun _ _ _ h => h) (Or.inl ⟨by rfl, ?_⟩) ?_ ?_
   rotate_left
   ·intro w'
    go_simp
    with_reducible rfl
   rotate_left
   ·simp only [Act.put, List.setIfInBounds_toArray, List.set_cons_zero, List.set_cons_succ, i64_w, i32_w]
    rfl
   refine pure_ (i := 7) (N := some 2) (v := ?_) (a' := ?_) #[true, true, true, true, true, true, true, true] rfl rfl (any_of HT_.out (by kernel_rfl)) (fun _ _ _ h => h) (Or.inl ⟨by rfl, ?_⟩) ?_ ?_
   rotate_left
   ·intro w'
    go_simp
    with_reducible rfl
   rotate_left
   ·simp only [Act.put, List.setIfInBounds_toArray, List.set_cons_zero, List.set_cons_succ, i64_w, i32_w]
    rfl
   refine done_ (done_of HT_.out (by kernel_rfl)) ?_
   try go_wp2
   go_ret
   exact ⟨er, bl⟩
  ·rw [if_neg c4] at H
   exact absurd H (by simp)
 ·rw [if_neg c2] at H
  exact absurd H (by simp)
end Go.Proofs.YtlpnlfahlcingaaGreatDoor.PL
end
section
namespace Go.Proofs.YtlpnlfahlcingaaGreatDoor.PL
open Go.RowKit Go.Proofs.YtlpnlfahlcingaaGreatDoorW.PrintWords Go.Proofs.YtlpnlfahlcingaaGreatDoorW.PrintLast Go.Proofs.YtlpnlfahlcingaaGreatDoorW.PrintMore
attribute [local go_sem] max2_int min2_int max_two min_two max_three min_three max_four min_four
attribute [local go_sem ↓] isSome_setCell
set_option linter.unusedVariables false
set_option linter.unusedSimpArgs false
def api_Assign__of_stmt_2.l0 : Nat → List ByteArray → List (S65) → Int → Int → Option (ByteArray)
 | 0, _, _, _, _ => none
 | k + 1, x5, x8, x9, x10 => if x10 < x9 then (if 0 ≤ x10 then (if x10 < (x8.length : Int) then ((tree_stmt_2.f k ((rd_T65 x8 x10).f0) ((rd_T65 x8 x10).f1.f0) ((rd_T65 x8 x10).f1.f1) ((rd_T65 x8 x10).f1.f2.f0) ((rd_T65 x8 x10).f1.f2.f1) ((rd_T65 x8 x10).f1.f2.f2) ((rd_T65 x8 x10).f1.f3)).bind fun t284 => (if x5.length < 8796093022208 then (api_Assign__of_stmt_2.l0 k (x5 ++ [t284]) x8 x9 (wrap64 (x10 + 1))) else (none))) else (none)) else (none)) else ((strings_Join.f x5 (⟨#[44, 32]⟩ : ByteArray)).bind fun t288 => (some t288))
def api_Assign__of_stmt_2.f (k : Nat) (l0 : List (S65))  : Option (ByteArray) := api_Assign__of_stmt_2.l0 k ([] : List ByteArray) l0 (l0.length : Int) 0
theorem api_Assign__of_stmt_2.mono_l : ∀ k, (∀ y0 y1 y2 y3, LeO (api_Assign__of_stmt_2.l0 k y0 y1 y2 y3) (api_Assign__of_stmt_2.l0 (k + 1) y0 y1 y2 y3))
 | 0 => fun _ _ _ _ r h => by simp [api_Assign__of_stmt_2.l0] at h
 | k + 1 => by
  have ih0 := api_Assign__of_stmt_2.mono_l k
  ·intro y0 y1 y2 y3
   unfold api_Assign__of_stmt_2.l0
   repeat' first
   | (with_reducible exact ih0 _ _ _ _)
   | (with_reducible exact tree_stmt_2.mono _ _ _ _ _ _ _ _)
   | (with_reducible exact LeO.refl _)
   | (with_reducible exact LeO.none _)
   | (with_reducible refine LeO.ite ?_ ?_)
   | (with_reducible refine LeO.bind ?_ (fun _ => ?_))
   | exact ih0 _ _ _ _
   | exact tree_stmt_2.mono _ _ _ _ _ _ _ _
   | exact LeO.none _
   | refine LeO.ite ?_ ?_
   | refine LeO.bind ?_ (fun _ => ?_)
theorem api_Assign__of_stmt_2.mono : ∀ a0 k, LeO (api_Assign__of_stmt_2.f k a0) (api_Assign__of_stmt_2.f (k + 1) a0) := by
 intro a0 k
 have ih0 := api_Assign__of_stmt_2.mono_l k
 unfold api_Assign__of_stmt_2.f
 repeat' first
   | (with_reducible exact ih0 _ _ _ _)
   | (with_reducible exact tree_stmt_2.mono _ _ _ _ _ _ _ _)
   | (with_reducible exact LeO.refl _)
   | (with_reducible exact LeO.none _)
   | (with_reducible refine LeO.ite ?_ ?_)
   | (with_reducible refine LeO.bind ?_ (fun _ => ?_))
   | exact ih0 _ _ _ _
   | exact tree_stmt_2.mono _ _ _ _ _ _ _ _
   | exact LeO.none _
   | refine LeO.ite ?_ ?_
   | refine LeO.bind ?_ (fun _ => ?_)
set_option maxHeartbeats 8000000 in
set_option maxRecDepth 100000 in
theorem api_Assign__of_stmt_2.calls (k : Nat) (A0 : Option Addr) (c0 : Nat) (l0 : List (S65))  (r : ByteArray) (w : World) (hr0 : Kd.C k65 w A0 l0.length l0) (hc0 : l0.length ≤ c0) (hsh : Sh w) (h : api_Assign__of_stmt_2.f k l0 = some r) :
  Calls Tryz.prog 48 #[.slice A0 l0.length c0, .func (.func 49) #[] #[]] w fun e w' => e = .returned (.string r) ∧ Below w.heap.size w w' := by
 have hu65 := Tryz.underlying65
 have HR0 := Aside0.mk hr0
 have HC0 := Aside0.mk hc0
 clear hr0 hc0
 have HB := Aside0.mk (Below.refl w.heap.size w)
 have H : (api_Assign__of_stmt_2.l0 k ([] : List ByteArray) l0 (l0.length : Int) 0) = some r := h
 clear h
 have H' := Aside0.mk H
 clear H
 go_enter Tryz.func48, Tryz.ntmps48
 go_wp2
 go_loopg [5, 10] k (fun kq v5 v10 w' => ∃ (x5_1 : List ByteArray) (x10_1 : Int), v10 = .int .i64 x10_1 ∧ Aside0 (api_Assign__of_stmt_2.l0 kq x5_1 l0 (l0.length : Int) x10_1 = some r) ∧ Aside0 (kq ≤ k) ∧ Aside0 (Kd.R Kd.string 9 w' w.heap.size (fun _ => True) v5 x5_1) ∧ Aside0 (Below w.heap.size w w'))
 case atStart => exact ⟨(([] : List ByteArray)), (0), rs, H', ⟨Nat.le_refl _⟩, ⟨by first | exact Kd.R_nil _ _ _ _ _ | exact Kd.N_nil _ _ _ _ _ | exact Kd.V_nil _ _ _ _ _ | exact Kd.Q_nil _ _ _ _ _ | exact Kd.S_nil _ _ _ _ _⟩, ⟨bl⟩⟩
 case round =>
  clear H'
  obtain ⟨x5_1, x10_1, rfl, HA, HK1, HO_5, HB⟩ := hrel
  cases gk with
  | zero => exact absurd HA.out (by simp [api_Assign__of_stmt_2.l0])
  | succ k1 =>
   have H := HA.out
   clear HA
   simp only [api_Assign__of_stmt_2.l0] at H
   by_cases c3 : x10_1 < (l0.length : Int)
   ·rw [if_pos c3] at H
    have c3b0 : decide (x10_1 < (l0.length : Int)) = true := decide_eq_true c3
    clear c3
    by_cases c4 : 0 ≤ x10_1
    ·rw [if_pos c4] at H
     have c4b0 : decide (0 ≤ x10_1) = true := decide_eq_true c4
     clear c4
     by_cases c5 : x10_1 < (l0.length : Int)
     ·rw [if_pos c5] at H
      have c5b0 : decide (x10_1 < (l0.length : Int)) = true := decide_eq_true c5
      clear c5
      obtain ⟨t284, A60, H⟩ := bind_out H
      have A6 := Aside0.mk A60
      clear A60
      by_cases c7 : x5_1.length < 8796093022208
      ·rw [if_pos c7] at H
       have LMc7 := Aside0.mk c7
       clear c7
       obtain ⟨y285, hy285⟩ : ∃ y_ : List ByteArray, y_ = (x5_1 ++ [t284]) := ⟨_, rfl⟩
       replace H : (api_Assign__of_stmt_2.l0 k1 y285 l0 (l0.length : Int) (wrap64 (x10_1 + 1))) = some r := by first | (rw [hy285]; with_reducible exact H) | (have H2_ := (Option.bind_some _ _).symm.trans H; rw [hy285]; with_reducible exact H2_) | (have H2_ := (Option.bind_some _ _).symm.trans H; with_reducible exact H2_) | with_reducible exact H | (rw [hy285]; exact H) | exact H
       have Ny285 := Aside0.mk hy285
       clear hy285
       have H' := Aside0.mk H
       clear H
       have p282 : 0 ≤ (x10_1 : Int) := of_decide_eq_true (by assumption)
       have q282 : x10_1 < (l0.length : Int) := of_decide_eq_true (by assumption)
       obtain ⟨ad282, A282_6, c282_6, e282, hx282_0, hx282_1, hx282_2, hx282_3, hx282_4, hx282_5, hx282_6, hl282_6, hi282_6⟩ := at_T65 HR0.out x10_1 p282 q282
       cases e282
       replace hx282_0 := lx HB hx282_0
       replace hx282_1 := lx HB hx282_1
       replace hx282_2 := lx HB hx282_2
       replace hx282_3 := lx HB hx282_3
       replace hx282_4 := lx HB hx282_4
       replace hx282_5 := lx HB hx282_5
       replace hx282_6 := lx HB hx282_6
       have HR282_6 := Aside0.mk hi282_6
       have HC282_6 := Aside0.mk hl282_6
       clear hi282_6 hl282_6
       replace p282 := eq_true p282
       replace q282 := eq_true q282
       go_wp2_with (first | ((with_reducible refine gate_dst (N := 7) rfl ?_); refine box_event ?hg (N := 7) ?hd (cs := #[.string (⟨#[]⟩ : ByteArray), .int .i64 0, .string (⟨#[]⟩ : ByteArray), .int .i64 0, .int .i64 0, .string (⟨#[]⟩ : ByteArray), .slice none 0 0]) (t := 65) ?hr ?_; (case hd => rfl); (case hg => rfl); (case hr => first | (go_simp; done) | (go_simp; rfl)); intro gb283 hg w8 hbox hb; have BK283 := Aside0.mk (hbox); have GW283 := Aside0.mk (gsz hg bl : w.heap.size ≤ gb283); have GE283 := Aside0.mk (gsz hg bl : w.heap.size ≤ gb283); replace HO_5 := Aside0.mk (Kd.R_below (by (with_reducible repeat (first | apply Kd.R_alloc | apply Kd.R_drewN | apply Kd.R_drew)); exact HO_5.out) hb); replace HB := Aside0.mk (below_step bl hb); clear hb hbox hg; obtain ⟨hcz9_0, hcz9_1, hcz9_2, hcz9_3, hcz9_4, hcz9_5, hcz9_6⟩ := cells7 BK283.out; obtain ⟨hfz9_0, hfz9_1, hfz9_2, hfz9_3, hfz9_4, hfz9_5, hfz9_6⟩ := froz7 BK283.out) | (go_at_call 49; (with_reducible refine (tree_stmt_2.calls k1 ((rd_T65 l0 x10_1).f0) ((rd_T65 l0 x10_1).f1.f0) ((rd_T65 l0 x10_1).f1.f1) ((rd_T65 l0 x10_1).f1.f2.f0) ((rd_T65 l0 x10_1).f1.f2.f1) ((rd_T65 l0 x10_1).f1.f2.f2) _ _ ((rd_T65 l0 x10_1).f1.f3) t284 _ ?side1 ?side2 ?side3 A6.out).mono ?_); (case side1 => exact Kd.C_below HR282_6.out bl); (case side2 => exact HC282_6.out); (case side3 => exact Sh.below hsh bl); rintro e w10 ⟨rfl, hb⟩; replace HO_5 := Aside0.mk (Kd.R_below (by (with_reducible repeat (first | apply Kd.R_alloc | apply Kd.R_drewN | apply Kd.R_drew)); exact (Kd.R_mono (Kd.R_far (p := ⟨gb283, 6, none⟩) (Kd.R_far (p := ⟨gb283, 5, none⟩) (Kd.R_far (p := ⟨gb283, 4, none⟩) (Kd.R_far (p := ⟨gb283, 3, none⟩) (Kd.R_far (p := ⟨gb283, 2, none⟩) (Kd.R_far (p := ⟨gb283, 1, none⟩) (Kd.R_far (p := ⟨gb283, 0, none⟩) (Kd.R_types HO_5.out BK283.out (by decide)) (fun _ hk => hk.2) (.string ((rd_T65 l0 x10_1).f0))) (fun _ hk => hk.2) (.int .i64 ((rd_T65 l0 x10_1).f1.f0))) (fun _ hk => hk.2) (.string ((rd_T65 l0 x10_1).f1.f1))) (fun _ hk => hk.2) (.int .i64 ((rd_T65 l0 x10_1).f1.f2.f0))) (fun _ hk => hk.2) (.int .i64 ((rd_T65 l0 x10_1).f1.f2.f1))) (fun _ hk => hk.2) (.string ((rd_T65 l0 x10_1).f1.f2.f2))) (fun _ hk => hk.2) (.slice A282_6 ((rd_T65 l0 x10_1).f1.f3).length c282_6)) (fun _ h_ => h_.1))) hb); replace BK283 := Aside0.mk (blk_below (g := gb283) (o := .cells #[.string ((rd_T65 l0 x10_1).f0), .int .i64 ((rd_T65 l0 x10_1).f1.f0), .string ((rd_T65 l0 x10_1).f1.f1), .int .i64 ((rd_T65 l0 x10_1).f1.f2.f0), .int .i64 ((rd_T65 l0 x10_1).f1.f2.f1), .string ((rd_T65 l0 x10_1).f1.f2.f2), .slice A282_6 ((rd_T65 l0 x10_1).f1.f3).length c282_6] 65 (0, 0)) bp7 hb); replace HB := Aside0.mk (below_step bl hb); (try clear hb); (try clear hk)) | ((with_reducible refine gate_builtin (b := .append) (xs := #[.tmp 14, .tmp 18]) rfl ?_); at_builtin; refine Kd.R_append Kd.string (w0 := w) w.heap.size rfl (.tmp 14) (.tmp 18) 66 9 (.string ⟨#[]⟩) 16 rfl Tryz.underlying66 info9 rfl (by decide) (by omega) u5 x5_1 t284 [.string t284] (fun _ => True) (fun _ => False) rfl rfl ?aP (fun _ hk => hk.elim) ?aF ?aO ?aB ?aS ?aL ?_; (case aP => exact rfl); (case aB => exact bl); (case aF => exact (fun _ _ => trivial)); (case aO => exact (by (with_reducible repeat (first | apply Kd.R_alloc | apply Kd.R_drewN | apply Kd.R_drew)); exact HO_5.out)); (case aS => exact (below_size bl)); (case aL => have := LMc7.out; omega); intro v286 w11 ho hb hg hat; rw [← Ny285.out] at ho; have HO287 := Aside0.mk (ho); replace BK283 := Aside0.mk (blk_grown (g := gb283) (o := .cells #[.string ((rd_T65 l0 x10_1).f0), .int .i64 ((rd_T65 l0 x10_1).f1.f0), .string ((rd_T65 l0 x10_1).f1.f1), .int .i64 ((rd_T65 l0 x10_1).f1.f2.f0), .int .i64 ((rd_T65 l0 x10_1).f1.f2.f1), .string ((rd_T65 l0 x10_1).f1.f2.f2), .slice A282_6 ((rd_T65 l0 x10_1).f1.f3).length c282_6] 65 (0, 0)) bk hg (Kd.R_ne HO_5.out BK283.out (by decide))); replace HB := Aside0.mk (hb); clear ho hb hg hat))
       go_roundg k1
       case measure => have := HK1.out; omega
       case rel => exact ⟨(y285), (wrap64 (x10_1 + 1)), rs, H', ⟨by have := HK1.out; omega⟩, ⟨by (with_reducible repeat (first | apply Kd.R_alloc | apply Kd.R_drewN | apply Kd.R_drew)); exact HO287.out⟩, ⟨bl⟩⟩
      ·rw [if_neg c7] at H
       exact absurd H (by simp)
     ·rw [if_neg c5] at H
      exact absurd H (by simp)
    ·rw [if_neg c4] at H
     exact absurd H (by simp)
   ·rw [if_neg c3] at H
    have c3b0 : decide (x10_1 < (l0.length : Int)) = false := decide_eq_false c3
    clear c3
    obtain ⟨t288, A120, H⟩ := bind_out H
    have A12 := Aside0.mk A120
    clear A120
    obtain rfl := Option.some.inj H
    obtain ⟨Ao13, co13, eo13⟩ := Kd.R_slice HO_5.out
    subst eo13
    go_wp2_with (first | ((with_reducible refine gate_callee (f := 26) rfl ?_); refine goesL_ (some 22) rfl rfl Tryz.func26 (by kernel_rfl) rfl #[.slice Ao13 x5_1.length co13, .string (⟨#[44, 32]⟩ : ByteArray)] rfl mp ?_; (with_reducible refine (strings_Join.calls _ _ x5_1 (⟨#[44, 32]⟩ : ByteArray) t288 _ HO_5.out ?side2 A12.out).mono ?_); (case side2 => exact (Kd.R_reads' HO_5.out).2.1); rintro e w14 ⟨rfl, hb⟩; refine ⟨_, rfl, ?_⟩; replace HO_5 := Aside0.mk (Kd.R_below (by (with_reducible repeat (first | apply Kd.R_alloc | apply Kd.R_drewN | apply Kd.R_drew)); exact HO_5.out) hb); replace HB := Aside0.mk (below_step bl hb); (try clear hb); (try clear hk)))
    go_ret
    exact ⟨er, bl⟩
end Go.Proofs.YtlpnlfahlcingaaGreatDoor.PL
end
section
namespace Go.Proofs.YtlpnlfahlcingaaGreatDoor.PL
open Go.RowKit Go.Proofs.YtlpnlfahlcingaaGreatDoorW.PrintWords Go.Proofs.YtlpnlfahlcingaaGreatDoorW.PrintLast Go.Proofs.YtlpnlfahlcingaaGreatDoorW.PrintMore
attribute [local go_sem] max2_int min2_int max_two min_two max_three min_three max_four min_four
attribute [local go_sem ↓] isSome_setCell
set_option linter.unusedVariables false
set_option linter.unusedSimpArgs false
mutual
def tree_stmt.j0 : Nat → ByteArray → Int → ByteArray → List (S63) → List (List (S34)) → List (S65) → Bool → Int → ByteArray → Int → Int → ByteArray → List (S34) → ByteArray → Bool → Int → Option (ByteArray)
 | 0, _, _, _, _, _, _, _, _, _, _, _, _, _, _, _, _ => none
 | k + 1, x3, x290000, x290001, x290002, x290003, x290004, x290005, x290006, x290007, x290008, x290009, x290010, x290011, x290012, x290013, x290014 => if x290005 = true then ((tree_text.f k x290006 x290007 x290008 x290009 x290010 x290011).bind fun t293 => (if 7 + t293.size ≤ 9223372036854775807 then (if x3.size + ((⟨#[32, 87, 72, 69, 82, 69, 32]⟩ : ByteArray) ++ t293).size ≤ 9223372036854775807 then (tree_stmt.j1 k (x3 ++ ((⟨#[32, 87, 72, 69, 82, 69, 32]⟩ : ByteArray) ++ t293)) x290000 x290001 x290002 x290003 x290004 x290005 x290006 x290007 x290008 x290009 x290010 x290011 x290012 x290013 x290014) else (none)) else (none))) else (tree_stmt.j1 k x3 x290000 x290001 x290002 x290003 x290004 x290005 x290006 x290007 x290008 x290009 x290010 x290011 x290012 x290013 x290014)
def tree_stmt.j1 : Nat → ByteArray → Int → ByteArray → List (S63) → List (List (S34)) → List (S65) → Bool → Int → ByteArray → Int → Int → ByteArray → List (S34) → ByteArray → Bool → Int → Option (ByteArray)
 | 0, _, _, _, _, _, _, _, _, _, _, _, _, _, _, _, _ => none
 | k + 1, x3, x290000, x290001, x290002, x290003, x290004, x290005, x290006, x290007, x290008, x290009, x290010, x290011, x290012, x290013, x290014 => if x290012.toList = ([] : List UInt8) then (tree_stmt.j2 k x3 x290000 x290001 x290002 x290003 x290004 x290005 x290006 x290007 x290008 x290009 x290010 x290011 x290012 x290013 x290014) else (if 10 + x290012.size ≤ 9223372036854775807 then (if x3.size + ((⟨#[32, 79, 82, 68, 69, 82, 32, 66, 89, 32]⟩ : ByteArray) ++ x290012).size ≤ 9223372036854775807 then (tree_stmt.j2 k (x3 ++ ((⟨#[32, 79, 82, 68, 69, 82, 32, 66, 89, 32]⟩ : ByteArray) ++ x290012)) x290000 x290001 x290002 x290003 x290004 x290005 x290006 x290007 x290008 x290009 x290010 x290011 x290012 x290013 x290014) else (none)) else (none))
def tree_stmt.j2 : Nat → ByteArray → Int → ByteArray → List (S63) → List (List (S34)) → List (S65) → Bool → Int → ByteArray → Int → Int → ByteArray → List (S34) → ByteArray → Bool → Int → Option (ByteArray)
 | 0, _, _, _, _, _, _, _, _, _, _, _, _, _, _, _, _ => none
 | k + 1, x3, x290000, x290001, x290002, x290003, x290004, x290005, x290006, x290007, x290008, x290009, x290010, x290011, x290012, x290013, x290014 => if x290013 = true then (if x3.size + 5 ≤ 9223372036854775807 then (if x290000 = 1 then (if x290014 ≥ 0 then ((strconv_FormatInt.f x290014 10).bind fun t294 => (if 7 + t294.size ≤ 9223372036854775807 then (if (x3 ++ (⟨#[32, 68, 69, 83, 67]⟩ : ByteArray)).size + ((⟨#[32, 76, 73, 77, 73, 84, 32]⟩ : ByteArray) ++ t294).size ≤ 9223372036854775807 then (some ((x3 ++ (⟨#[32, 68, 69, 83, 67]⟩ : ByteArray)) ++ ((⟨#[32, 76, 73, 77, 73, 84, 32]⟩ : ByteArray) ++ t294))) else (none)) else (none))) else (some (x3 ++ (⟨#[32, 68, 69, 83, 67]⟩ : ByteArray)))) else (some (x3 ++ (⟨#[32, 68, 69, 83, 67]⟩ : ByteArray)))) else (none)) else (if x290000 = 1 then (if x290014 ≥ 0 then ((strconv_FormatInt.f x290014 10).bind fun t295 => (if 7 + t295.size ≤ 9223372036854775807 then (if x3.size + ((⟨#[32, 76, 73, 77, 73, 84, 32]⟩ : ByteArray) ++ t295).size ≤ 9223372036854775807 then (some (x3 ++ ((⟨#[32, 76, 73, 77, 73, 84, 32]⟩ : ByteArray) ++ t295))) else (none)) else (none))) else (some x3)) else (some x3))
end
def tree_stmt.f (k : Nat) (a0_0 : Int) (a0_1 : ByteArray) (l0_2 : List (S63)) (l0_3 : List (List (S34))) (l0_4 : List (S65)) (a0_5 : Bool) (a0_6 : Int) (a0_7 : ByteArray) (a0_8 : Int) (a0_9 : Int) (a0_10 : ByteArray) (l0_11 : List (S34)) (a0_12 : ByteArray) (a0_13 : Bool) (a0_14 : Int) : Option (ByteArray) := if a0_0 = 1 then ((api_Item__of_item.f k l0_2).bind fun t290 => (if 7 + t290.size ≤ 9223372036854775807 then (if ((⟨#[83, 69, 76, 69, 67, 84, 32]⟩ : ByteArray) ++ t290).size + 6 ≤ 9223372036854775807 then (if (((⟨#[83, 69, 76, 69, 67, 84, 32]⟩ : ByteArray) ++ t290) ++ (⟨#[32, 70, 82, 79, 77, 32]⟩ : ByteArray)).size + a0_1.size ≤ 9223372036854775807 then (tree_stmt.j0 k ((((⟨#[83, 69, 76, 69, 67, 84, 32]⟩ : ByteArray) ++ t290) ++ (⟨#[32, 70, 82, 79, 77, 32]⟩ : ByteArray)) ++ a0_1) a0_0 a0_1 l0_2 l0_3 l0_4 a0_5 a0_6 a0_7 a0_8 a0_9 a0_10 l0_11 a0_12 a0_13 a0_14) else (none)) else (none)) else (none))) else (if a0_0 = 2 then (if 12 + a0_1.size ≤ 9223372036854775807 then (if ((⟨#[73, 78, 83, 69, 82, 84, 32, 73, 78, 84, 79, 32]⟩ : ByteArray) ++ a0_1).size + 8 ≤ 9223372036854775807 then ((api_Expr__of_stmt_1.f k l0_3).bind fun t291 => (if (((⟨#[73, 78, 83, 69, 82, 84, 32, 73, 78, 84, 79, 32]⟩ : ByteArray) ++ a0_1) ++ (⟨#[32, 86, 65, 76, 85, 69, 83, 32]⟩ : ByteArray)).size + t291.size ≤ 9223372036854775807 then (tree_stmt.j0 k ((((⟨#[73, 78, 83, 69, 82, 84, 32, 73, 78, 84, 79, 32]⟩ : ByteArray) ++ a0_1) ++ (⟨#[32, 86, 65, 76, 85, 69, 83, 32]⟩ : ByteArray)) ++ t291) a0_0 a0_1 l0_2 l0_3 l0_4 a0_5 a0_6 a0_7 a0_8 a0_9 a0_10 l0_11 a0_12 a0_13 a0_14) else (none))) else (none)) else (none)) else (if a0_0 = 3 then (if 7 + a0_1.size ≤ 9223372036854775807 then (if ((⟨#[85, 80, 68, 65, 84, 69, 32]⟩ : ByteArray) ++ a0_1).size + 5 ≤ 9223372036854775807 then ((api_Assign__of_stmt_2.f k l0_4).bind fun t292 => (if (((⟨#[85, 80, 68, 65, 84, 69, 32]⟩ : ByteArray) ++ a0_1) ++ (⟨#[32, 83, 69, 84, 32]⟩ : ByteArray)).size + t292.size ≤ 9223372036854775807 then (tree_stmt.j0 k ((((⟨#[85, 80, 68, 65, 84, 69, 32]⟩ : ByteArray) ++ a0_1) ++ (⟨#[32, 83, 69, 84, 32]⟩ : ByteArray)) ++ t292) a0_0 a0_1 l0_2 l0_3 l0_4 a0_5 a0_6 a0_7 a0_8 a0_9 a0_10 l0_11 a0_12 a0_13 a0_14) else (none))) else (none)) else (none)) else (if 12 + a0_1.size ≤ 9223372036854775807 then (tree_stmt.j0 k ((⟨#[68, 69, 76, 69, 84, 69, 32, 70, 82, 79, 77, 32]⟩ : ByteArray) ++ a0_1) a0_0 a0_1 l0_2 l0_3 l0_4 a0_5 a0_6 a0_7 a0_8 a0_9 a0_10 l0_11 a0_12 a0_13 a0_14) else (none))))
theorem tree_stmt.mono_l : ∀ k, (∀ y0 y1 y2 y3 y4 y5 y6 y7 y8 y9 y10 y11 y12 y13 y14 y15, LeO (tree_stmt.j0 k y0 y1 y2 y3 y4 y5 y6 y7 y8 y9 y10 y11 y12 y13 y14 y15) (tree_stmt.j0 (k + 1) y0 y1 y2 y3 y4 y5 y6 y7 y8 y9 y10 y11 y12 y13 y14 y15)) ∧ (∀ y0 y1 y2 y3 y4 y5 y6 y7 y8 y9 y10 y11 y12 y13 y14 y15, LeO (tree_stmt.j1 k y0 y1 y2 y3 y4 y5 y6 y7 y8 y9 y10 y11 y12 y13 y14 y15) (tree_stmt.j1 (k + 1) y0 y1 y2 y3 y4 y5 y6 y7 y8 y9 y10 y11 y12 y13 y14 y15)) ∧ (∀ y0 y1 y2 y3 y4 y5 y6 y7 y8 y9 y10 y11 y12 y13 y14 y15, LeO (tree_stmt.j2 k y0 y1 y2 y3 y4 y5 y6 y7 y8 y9 y10 y11 y12 y13 y14 y15) (tree_stmt.j2 (k + 1) y0 y1 y2 y3 y4 y5 y6 y7 y8 y9 y10 y11 y12 y13 y14 y15))
 | 0 => ⟨fun _ _ _ _ _ _ _ _ _ _ _ _ _ _ _ _ r h => by simp [tree_stmt.j0] at h, fun _ _ _ _ _ _ _ _ _ _ _ _ _ _ _ _ r h => by simp [tree_stmt.j1] at h, fun _ _ _ _ _ _ _ _ _ _ _ _ _ _ _ _ r h => by simp [tree_stmt.j2] at h⟩
 | k + 1 => by
  obtain ⟨ih0, ih1, ih2⟩ := tree_stmt.mono_l k
  refine ⟨?_, ?_, ?_⟩
  ·intro y0 y1 y2 y3 y4 y5 y6 y7 y8 y9 y10 y11 y12 y13 y14 y15
   unfold tree_stmt.j0
   repeat' first
   | (with_reducible exact ih0 _ _ _ _ _ _ _ _ _ _ _ _ _ _ _ _)
   | (with_reducible exact ih1 _ _ _ _ _ _ _ _ _ _ _ _ _ _ _ _)
   | (with_reducible exact ih2 _ _ _ _ _ _ _ _ _ _ _ _ _ _ _ _)
   | (with_reducible exact api_Assign__of_stmt_2.mono _ _)
   | (with_reducible exact api_Expr__of_stmt_1.mono _ _)
   | (with_reducible exact api_Item__of_item.mono _ _)
   | (with_reducible exact tree_text.mono _ _ _ _ _ _ _)
   | (with_reducible exact LeO.refl _)
   | (with_reducible exact LeO.none _)
   | (with_reducible refine LeO.ite ?_ ?_)
   | (with_reducible refine LeO.bind ?_ (fun _ => ?_))
   | exact ih0 _ _ _ _ _ _ _ _ _ _ _ _ _ _ _ _
   | exact ih1 _ _ _ _ _ _ _ _ _ _ _ _ _ _ _ _
   | exact ih2 _ _ _ _ _ _ _ _ _ _ _ _ _ _ _ _
   | exact api_Assign__of_stmt_2.mono _ _
   | exact api_Expr__of_stmt_1.mono _ _
   | exact api_Item__of_item.mono _ _
   | exact tree_text.mono _ _ _ _ _ _ _
   | exact LeO.none _
   | refine LeO.ite ?_ ?_
   | refine LeO.bind ?_ (fun _ => ?_)
  ·intro y0 y1 y2 y3 y4 y5 y6 y7 y8 y9 y10 y11 y12 y13 y14 y15
   unfold tree_stmt.j1
   repeat' first
   | (with_reducible exact ih0 _ _ _ _ _ _ _ _ _ _ _ _ _ _ _ _)
   | (with_reducible exact ih1 _ _ _ _ _ _ _ _ _ _ _ _ _ _ _ _)
   | (with_reducible exact ih2 _ _ _ _ _ _ _ _ _ _ _ _ _ _ _ _)
   | (with_reducible exact api_Assign__of_stmt_2.mono _ _)
   | (with_reducible exact api_Expr__of_stmt_1.mono _ _)
   | (with_reducible exact api_Item__of_item.mono _ _)
   | (with_reducible exact tree_text.mono _ _ _ _ _ _ _)
   | (with_reducible exact LeO.refl _)
   | (with_reducible exact LeO.none _)
   | (with_reducible refine LeO.ite ?_ ?_)
   | (with_reducible refine LeO.bind ?_ (fun _ => ?_))
   | exact ih0 _ _ _ _ _ _ _ _ _ _ _ _ _ _ _ _
   | exact ih1 _ _ _ _ _ _ _ _ _ _ _ _ _ _ _ _
   | exact ih2 _ _ _ _ _ _ _ _ _ _ _ _ _ _ _ _
   | exact api_Assign__of_stmt_2.mono _ _
   | exact api_Expr__of_stmt_1.mono _ _
   | exact api_Item__of_item.mono _ _
   | exact tree_text.mono _ _ _ _ _ _ _
   | exact LeO.none _
   | refine LeO.ite ?_ ?_
   | refine LeO.bind ?_ (fun _ => ?_)
  ·intro y0 y1 y2 y3 y4 y5 y6 y7 y8 y9 y10 y11 y12 y13 y14 y15
   unfold tree_stmt.j2
   repeat' first
   | (with_reducible exact ih0 _ _ _ _ _ _ _ _ _ _ _ _ _ _ _ _)
   | (with_reducible exact ih1 _ _ _ _ _ _ _ _ _ _ _ _ _ _ _ _)
   | (with_reducible exact ih2 _ _ _ _ _ _ _ _ _ _ _ _ _ _ _ _)
   | (with_reducible exact api_Assign__of_stmt_2.mono _ _)
   | (with_reducible exact api_Expr__of_stmt_1.mono _ _)
   | (with_reducible exact api_Item__of_item.mono _ _)
   | (with_reducible exact tree_text.mono _ _ _ _ _ _ _)
   | (with_reducible exact LeO.refl _)
   | (with_reducible exact LeO.none _)
   | (with_reducible refine LeO.ite ?_ ?_)
   | (with_reducible refine LeO.bind ?_ (fun _ => ?_))
   | exact ih0 _ _ _ _ _ _ _ _ _ _ _ _ _ _ _ _
   | exact ih1 _ _ _ _ _ _ _ _ _ _ _ _ _ _ _ _
   | exact ih2 _ _ _ _ _ _ _ _ _ _ _ _ _ _ _ _
   | exact api_Assign__of_stmt_2.mono _ _
   | exact api_Expr__of_stmt_1.mono _ _
   | exact api_Item__of_item.mono _ _
   | exact tree_text.mono _ _ _ _ _ _ _
   | exact LeO.none _
   | refine LeO.ite ?_ ?_
   | refine LeO.bind ?_ (fun _ => ?_)
theorem tree_stmt.mono : ∀ a0 a1 a2 a3 a4 a5 a6 a7 a8 a9 a10 a11 a12 a13 a14 k, LeO (tree_stmt.f k a0 a1 a2 a3 a4 a5 a6 a7 a8 a9 a10 a11 a12 a13 a14) (tree_stmt.f (k + 1) a0 a1 a2 a3 a4 a5 a6 a7 a8 a9 a10 a11 a12 a13 a14) := by
 intro a0 a1 a2 a3 a4 a5 a6 a7 a8 a9 a10 a11 a12 a13 a14 k
 obtain ⟨ih0, ih1, ih2⟩ := tree_stmt.mono_l k
 unfold tree_stmt.f
 repeat' first
   | (with_reducible exact ih0 _ _ _ _ _ _ _ _ _ _ _ _ _ _ _ _)
   | (with_reducible exact ih1 _ _ _ _ _ _ _ _ _ _ _ _ _ _ _ _)
   | (with_reducible exact ih2 _ _ _ _ _ _ _ _ _ _ _ _ _ _ _ _)
   | (with_reducible exact api_Assign__of_stmt_2.mono _ _)
   | (with_reducible exact api_Expr__of_stmt_1.mono _ _)
   | (with_reducible exact api_Item__of_item.mono _ _)
   | (with_reducible exact tree_text.mono _ _ _ _ _ _ _)
   | (with_reducible exact LeO.refl _)
   | (with_reducible exact LeO.none _)
   | (with_reducible refine LeO.ite ?_ ?_)
   | (with_reducible refine LeO.bind ?_ (fun _ => ?_))
   | exact ih0 _ _ _ _ _ _ _ _ _ _ _ _ _ _ _ _
   | exact ih1 _ _ _ _ _ _ _ _ _ _ _ _ _ _ _ _
   | exact ih2 _ _ _ _ _ _ _ _ _ _ _ _ _ _ _ _
   | exact api_Assign__of_stmt_2.mono _ _
   | exact api_Expr__of_stmt_1.mono _ _
   | exact api_Item__of_item.mono _ _
   | exact tree_text.mono _ _ _ _ _ _ _
   | exact LeO.none _
   | refine LeO.ite ?_ ?_
   | refine LeO.bind ?_ (fun _ => ?_)
def tree_stmt.T5 : Bool × List (List Nat × List Nat) := (true, [([], []), ([0], [0]), ([1], [1]), ([2], [2]), ([3], [3]), ([], []), ([5], [5]), ([4, 6], [4, 6]), ([7, 2, 0, 1, 2, 3, 4, 5, 6, 7], [7])])
def tree_stmt.B5 : List Nat := [0, 1, 3, 7, 15, 0, 32, 127, 255]
theorem tree_stmt.tab5 : rtab .any (opsOf Tryz.f25 5) = tree_stmt.T5 := by kernel_rfl
theorem tree_stmt.bits5 : waitsOk tree_stmt.T5.2 tree_stmt.B5 = true := by kernel_rfl
def tree_stmt.T7 : Bool × List (List Nat × List Nat) := (true, [([], []), ([0], [0]), ([1], [1]), ([2], [2]), ([], []), ([4], [4]), ([5], [5]), ([3, 6], [3, 6]), ([7, 6, 0, 1, 2, 3, 4, 5, 6, 7], [7])])
def tree_stmt.B7 : List Nat := [0, 1, 3, 7, 0, 16, 48, 127, 255]
theorem tree_stmt.tab7 : rtab .any (opsOf Tryz.f25 7) = tree_stmt.T7 := by kernel_rfl
theorem tree_stmt.bits7 : waitsOk tree_stmt.T7.2 tree_stmt.B7 = true := by kernel_rfl
def tree_stmt.T9 : Bool × List (List Nat × List Nat) := (true, [([], []), ([0], [0]), ([1], [1]), ([2], [2]), ([], []), ([4], [4]), ([5], [5]), ([3, 6], [3, 6]), ([7, 6, 0, 1, 2, 3, 4, 5, 6, 7], [7])])
def tree_stmt.B9 : List Nat := [0, 1, 3, 7, 0, 16, 48, 127, 255]
theorem tree_stmt.tab9 : rtab .any (opsOf Tryz.f25 9) = tree_stmt.T9 := by kernel_rfl
theorem tree_stmt.bits9 : waitsOk tree_stmt.T9.2 tree_stmt.B9 = true := by kernel_rfl
set_option maxHeartbeats 8000000 in
set_option maxRecDepth 100000 in
theorem tree_stmt.calls (k : Nat) (a0_0 : Int) (a0_1 : ByteArray) (A0_2 : Option Addr) (c0_2 : Nat) (l0_2 : List (S63)) (A0_3 : Option Addr) (c0_3 : Nat) (l0_3 : List (List (S34))) (A0_4 : Option Addr) (c0_4 : Nat) (l0_4 : List (S65)) (a0_5 : Bool) (a0_6 : Int) (a0_7 : ByteArray) (a0_8 : Int) (a0_9 : Int) (a0_10 : ByteArray) (A0_11 : Option Addr) (c0_11 : Nat) (l0_11 : List (S34)) (a0_12 : ByteArray) (a0_13 : Bool) (a0_14 : Int) (r : ByteArray) (w : World) (hr0_2 : Kd.C k63 w A0_2 l0_2.length l0_2) (hc0_2 : l0_2.length ≤ c0_2) (hr0_3 : Kd.C (Kd.slice 34 k34) w A0_3 l0_3.length l0_3) (hc0_3 : l0_3.length ≤ c0_3) (hr0_4 : Kd.C k65 w A0_4 l0_4.length l0_4) (hc0_4 : l0_4.length ≤ c0_4) (hr0_11 : Kd.C k34 w A0_11 l0_11.length l0_11) (hc0_11 : l0_11.length ≤ c0_11) (hsh : Sh w) (h : tree_stmt.f k a0_0 a0_1 l0_2 l0_3 l0_4 a0_5 a0_6 a0_7 a0_8 a0_9 a0_10 l0_11 a0_12 a0_13 a0_14 = some r) :
  Calls Tryz.prog 25 #[.agg #[.int .i64 a0_0, .string a0_1, .slice A0_2 l0_2.length c0_2, .slice A0_3 l0_3.length c0_3, .slice A0_4 l0_4.length c0_4, .bool a0_5, .int .i64 a0_6, .string a0_7, .int .i64 a0_8, .int .i64 a0_9, .string a0_10, .slice A0_11 l0_11.length c0_11, .string a0_12, .bool a0_13, .int .i64 a0_14]] w fun e w' => e = .returned (.string r) ∧ Below w.heap.size w w' := by
 have hu44 := Tryz.underlying44
 have hu34 := Tryz.underlying34
 have HR0_2 := Aside0.mk hr0_2
 have HC0_2 := Aside0.mk hc0_2
 clear hr0_2 hc0_2
 have HR0_3 := Aside0.mk hr0_3
 have HC0_3 := Aside0.mk hc0_3
 clear hr0_3 hc0_3
 have HR0_4 := Aside0.mk hr0_4
 have HC0_4 := Aside0.mk hc0_4
 clear hr0_4 hc0_4
 have HR0_11 := Aside0.mk hr0_11
 have HC0_11 := Aside0.mk hc0_11
 clear hr0_11 hc0_11
 have HB := Aside0.mk (Below.refl w.heap.size w)
 have H : (if a0_0 = 1 then ((api_Item__of_item.f k l0_2).bind fun t290 => (if 7 + t290.size ≤ 9223372036854775807 then (if ((⟨#[83, 69, 76, 69, 67, 84, 32]⟩ : ByteArray) ++ t290).size + 6 ≤ 9223372036854775807 then (if (((⟨#[83, 69, 76, 69, 67, 84, 32]⟩ : ByteArray) ++ t290) ++ (⟨#[32, 70, 82, 79, 77, 32]⟩ : ByteArray)).size + a0_1.size ≤ 9223372036854775807 then (tree_stmt.j0 k ((((⟨#[83, 69, 76, 69, 67, 84, 32]⟩ : ByteArray) ++ t290) ++ (⟨#[32, 70, 82, 79, 77, 32]⟩ : ByteArray)) ++ a0_1) a0_0 a0_1 l0_2 l0_3 l0_4 a0_5 a0_6 a0_7 a0_8 a0_9 a0_10 l0_11 a0_12 a0_13 a0_14) else (none)) else (none)) else (none))) else (if a0_0 = 2 then (if 12 + a0_1.size ≤ 9223372036854775807 then (if ((⟨#[73, 78, 83, 69, 82, 84, 32, 73, 78, 84, 79, 32]⟩ : ByteArray) ++ a0_1).size + 8 ≤ 9223372036854775807 then ((api_Expr__of_stmt_1.f k l0_3).bind fun t291 => (if (((⟨#[73, 78, 83, 69, 82, 84, 32, 73, 78, 84, 79, 32]⟩ : ByteArray) ++ a0_1) ++ (⟨#[32, 86, 65, 76, 85, 69, 83, 32]⟩ : ByteArray)).size + t291.size ≤ 9223372036854775807 then (tree_stmt.j0 k ((((⟨#[73, 78, 83, 69, 82, 84, 32, 73, 78, 84, 79, 32]⟩ : ByteArray) ++ a0_1) ++ (⟨#[32, 86, 65, 76, 85, 69, 83, 32]⟩ : ByteArray)) ++ t291) a0_0 a0_1 l0_2 l0_3 l0_4 a0_5 a0_6 a0_7 a0_8 a0_9 a0_10 l0_11 a0_12 a0_13 a0_14) else (none))) else (none)) else (none)) else (if a0_0 = 3 then (if 7 + a0_1.size ≤ 9223372036854775807 then (if ((⟨#[85, 80, 68, 65, 84, 69, 32]⟩ : ByteArray) ++ a0_1).size + 5 ≤ 9223372036854775807 then ((api_Assign__of_stmt_2.f k l0_4).bind fun t292 => (if (((⟨#[85, 80, 68, 65, 84, 69, 32]⟩ : ByteArray) ++ a0_1) ++ (⟨#[32, 83, 69, 84, 32]⟩ : ByteArray)).size + t292.size ≤ 9223372036854775807 then (tree_stmt.j0 k ((((⟨#[85, 80, 68, 65, 84, 69, 32]⟩ : ByteArray) ++ a0_1) ++ (⟨#[32, 83, 69, 84, 32]⟩ : ByteArray)) ++ t292) a0_0 a0_1 l0_2 l0_3 l0_4 a0_5 a0_6 a0_7 a0_8 a0_9 a0_10 l0_11 a0_12 a0_13 a0_14) else (none))) else (none)) else (none)) else (if 12 + a0_1.size ≤ 9223372036854775807 then (tree_stmt.j0 k ((⟨#[68, 69, 76, 69, 84, 69, 32, 70, 82, 79, 77, 32]⟩ : ByteArray) ++ a0_1) a0_0 a0_1 l0_2 l0_3 l0_4 a0_5 a0_6 a0_7 a0_8 a0_9 a0_10 l0_11 a0_12 a0_13 a0_14) else (none))))) = some r := h
 clear h
 have HC2 := Aside0.mk H
 clear H
 go_enter Tryz.func25, Tryz.ntmps25
 go_upto_block 0 with (first | ((with_reducible refine gate_dst (N := 1) rfl ?_); refine box_ev (N := 1) (cs := #[.int .i64 a0_0, .string a0_1, .slice A0_2 l0_2.length c0_2, .slice A0_3 l0_3.length c0_3, .slice A0_4 l0_4.length c0_4, .bool a0_5, .int .i64 a0_6, .string a0_7, .int .i64 a0_8, .int .i64 a0_9, .string a0_10, .slice A0_11 l0_11.length c0_11, .string a0_12, .bool a0_13, .int .i64 a0_14]) (t := 44) ?_; intro gb289 hg w3 hbox hb; have BK289 := Aside0.mk (hbox); have GW289 := Aside0.mk (gsz hg bl : w.heap.size ≤ gb289); have GE289 := Aside0.mk (gsz hg bl : w.heap.size ≤ gb289); replace HB := Aside0.mk (below_step bl hb); clear hb hbox hg; obtain ⟨hcz4_0, hcz4_1, hcz4_2, hcz4_3, hcz4_4, hcz4_5, hcz4_6, hcz4_7, hcz4_8, hcz4_9, hcz4_10, hcz4_11, hcz4_12, hcz4_13, hcz4_14⟩ := cells15 BK289.out; obtain ⟨hfz4_0, hfz4_1, hfz4_2, hfz4_3, hfz4_4, hfz4_5, hfz4_6, hfz4_7, hfz4_8, hfz4_9, hfz4_10, hfz4_11, hfz4_12, hfz4_13, hfz4_14⟩ := froz15 BK289.out))
 (try simp only [Act.put, List.setIfInBounds_toArray, List.set_cons_zero, List.set_cons_succ])
 go_cut [3] (fun v3 wc => ∃ (kq : Nat) (x3_1 : ByteArray), v3 = .string x3_1 ∧ Aside0 (tree_stmt.j0 kq x3_1 a0_0 a0_1 l0_2 l0_3 l0_4 a0_5 a0_6 a0_7 a0_8 a0_9 a0_10 l0_11 a0_12 a0_13 a0_14 = some r) ∧ Aside0 (kq ≤ k) ∧ Aside0 (wc.heap[gb289]? = some (.cells #[.int .i64 a0_0, .string a0_1, (.slice A0_2 l0_2.length c0_2), (.slice A0_3 l0_3.length c0_3), (.slice A0_4 l0_4.length c0_4), .bool a0_5, .int .i64 a0_6, .string a0_7, .int .i64 a0_8, .int .i64 a0_9, .string a0_10, (.slice A0_11 l0_11.length c0_11), .string a0_12, .bool a0_13, .int .i64 a0_14] 44 (0, 0))) ∧ Aside0 (Below w.heap.size w wc))
 case first =>
  have H := HC2.out
  clear HC2
  by_cases c5 : a0_0 = 1
  ·rw [if_pos c5] at H
   have c5b0 : (a0_0 == 1) = true := beq_iff_eq.mpr c5
   have c5b1 : (a0_0 != 1) = false := bne_eq_false_iff_eq.mpr c5
   clear c5
   (first | rw [c5b0] | (simp only [i64_w, i32_w]; rw [c5b0]) | skip)
   obtain ⟨t290, A60, H⟩ := bind_out H
   have A6 := Aside0.mk A60
   clear A60
   by_cases c7 : 7 + t290.size ≤ 9223372036854775807
   ·rw [if_pos c7] at H
    have c7b0 := eq_true c7
    have c7b1 : decide (7 + t290.size ≤ 9223372036854775807) = true := decide_eq_true c7
    try have c7b2 : (9223372036854775807 < 7 + t290.size) = False := eq_false (Nat.not_lt.2 c7)
    by_cases c8 : ((⟨#[83, 69, 76, 69, 67, 84, 32]⟩ : ByteArray) ++ t290).size + 6 ≤ 9223372036854775807
    ·rw [if_pos c8] at H
     have c8z : (7 + t290.size) + 6 ≤ 9223372036854775807 := by have h_ := c8; simp only [ByteArray.size_append] at h_; exact h_
     have c8y := eq_true c8z
     have c8x : decide ((7 + t290.size) + 6 ≤ 9223372036854775807) = true := decide_eq_true c8z
     have c8w : (9223372036854775807 < (7 + t290.size) + 6) = False := eq_false (by omega)
     have c8b0 := eq_true c8
     have c8b1 : decide (((⟨#[83, 69, 76, 69, 67, 84, 32]⟩ : ByteArray) ++ t290).size + 6 ≤ 9223372036854775807) = true := decide_eq_true c8
     try have c8b2 : (9223372036854775807 < ((⟨#[83, 69, 76, 69, 67, 84, 32]⟩ : ByteArray) ++ t290).size + 6) = False := eq_false (Nat.not_lt.2 c8)
     by_cases c9 : (((⟨#[83, 69, 76, 69, 67, 84, 32]⟩ : ByteArray) ++ t290) ++ (⟨#[32, 70, 82, 79, 77, 32]⟩ : ByteArray)).size + a0_1.size ≤ 9223372036854775807
     ·rw [if_pos c9] at H
      have c9z : ((7 + t290.size) + 6) + a0_1.size ≤ 9223372036854775807 := by have h_ := c9; simp only [ByteArray.size_append] at h_; exact h_
      have c9y := eq_true c9z
      have c9x : decide (((7 + t290.size) + 6) + a0_1.size ≤ 9223372036854775807) = true := decide_eq_true c9z
      have c9w : (9223372036854775807 < ((7 + t290.size) + 6) + a0_1.size) = False := eq_false (by omega)
      have c9b0 := eq_true c9
      have c9b1 : decide ((((⟨#[83, 69, 76, 69, 67, 84, 32]⟩ : ByteArray) ++ t290) ++ (⟨#[32, 70, 82, 79, 77, 32]⟩ : ByteArray)).size + a0_1.size ≤ 9223372036854775807) = true := decide_eq_true c9
      try have c9b2 : (9223372036854775807 < (((⟨#[83, 69, 76, 69, 67, 84, 32]⟩ : ByteArray) ++ t290) ++ (⟨#[32, 70, 82, 79, 77, 32]⟩ : ByteArray)).size + a0_1.size) = False := eq_false (Nat.not_lt.2 c9)
      have H' := Aside0.mk H
      clear H
      try go_wp2
      have n0_ := Aside0.mk (blk_drew BK289.out)
      have n1_ := Aside0.mk (below_drew1 HB.out)
      clear BK289
      clear HB
      have BK289 := n0_
      have HB := n1_
      clear n0_ n1_
      refine start_ (n := 9) (S := fun w' => w'.cell? ⟨gb289, 0, none⟩ = some (.int .i64 a0_0) ∧ w'.cell? ⟨gb289, 1, none⟩ = some (.string a0_1) ∧ w'.cell? ⟨gb289, 2, none⟩ = some (.slice A0_2 l0_2.length c0_2) ∧ w'.cell? ⟨gb289, 3, none⟩ = some (.slice A0_3 l0_3.length c0_3) ∧ w'.cell? ⟨gb289, 4, none⟩ = some (.slice A0_4 l0_4.length c0_4) ∧ w'.cell? ⟨gb289, 5, none⟩ = some (.bool a0_5) ∧ w'.cell? ⟨gb289, 6, none⟩ = some (.int .i64 a0_6) ∧ w'.cell? ⟨gb289, 7, none⟩ = some (.string a0_7) ∧ w'.cell? ⟨gb289, 8, none⟩ = some (.int .i64 a0_8) ∧ w'.cell? ⟨gb289, 9, none⟩ = some (.int .i64 a0_9) ∧ w'.cell? ⟨gb289, 10, none⟩ = some (.string a0_10) ∧ w'.cell? ⟨gb289, 11, none⟩ = some (.slice A0_11 l0_11.length c0_11) ∧ w'.cell? ⟨gb289, 12, none⟩ = some (.string a0_12) ∧ w'.cell? ⟨gb289, 13, none⟩ = some (.bool a0_13) ∧ w'.cell? ⟨gb289, 14, none⟩ = some (.int .i64 a0_14)) (ds := []) #[false, false, false, false, false, false, false, false, false] (by kernel_rfl) rfl rfl ⟨(blk_cell BK289.out 0).trans rfl, (blk_cell BK289.out 1).trans rfl, (blk_cell BK289.out 2).trans rfl, (blk_cell BK289.out 3).trans rfl, (blk_cell BK289.out 4).trans rfl, (blk_cell BK289.out 5).trans rfl, (blk_cell BK289.out 6).trans rfl, (blk_cell BK289.out 7).trans rfl, (blk_cell BK289.out 8).trans rfl, (blk_cell BK289.out 9).trans rfl, (blk_cell BK289.out 10).trans rfl, (blk_cell BK289.out 11).trans rfl, (blk_cell BK289.out 12).trans rfl, (blk_cell BK289.out 13).trans rfl, (blk_cell BK289.out 14).trans rfl⟩ (fun hHeld => ?_); refine with_tabW tree_stmt.tab5 tree_stmt.bits5 (fun HT_ HW_ => ?_)
      generalize w3.drew = w10 at BK289 HB hHeld ⊢
      refine pure_ (i := 0) (N := some 11) (v := ?_) (a' := ?_) #[true, false, false, false, false, false, false, false, false] rfl rfl (any_of HT_.out (by kernel_rfl)) (fun _ _ _ h => h) (Or.inl ⟨by rfl, ?_⟩) ?_ ?_
      rotate_left
      ·intro w'
       go_simp
       with_reducible rfl
      rotate_left
      ·simp only [Act.put, List.setIfInBounds_toArray, List.set_cons_zero, List.set_cons_succ, i64_w, i32_w]
       rfl
      refine pure_ (i := 5) (N := some 16) (v := ?_) (a' := ?_) #[true, false, false, false, false, true, false, false, false] rfl rfl (any_of HT_.out (by kernel_rfl)) (fun _ _ _ h => h) (Or.inl ⟨by rfl, ?_⟩) ?_ ?_
      rotate_left
      ·intro w'
       go_simp
       with_reducible rfl
      rotate_left
      ·simp only [Act.put, List.setIfInBounds_toArray, List.set_cons_zero, List.set_cons_succ, i64_w, i32_w]
       rfl
      refine take_ (i := 1) (N := some 12) (v := ?_) (a' := ?_) #[true, true, false, false, false, true, false, false, false] rfl rfl (take_ofW HT_.out HW_.out (by kernel_rfl)) (fun _ _ _ h => h) (Or.inl ⟨by rfl, ?_⟩) hHeld ?_ ?_
      rotate_left
      ·rintro w' ⟨s0, s1, s2, s3, s4, s5, s6, s7, s8, s9, s10, s11, s12, s13, s14⟩
       go_simp
       with_reducible rfl
      rotate_left
      ·simp only [Act.put, List.setIfInBounds_toArray, List.set_cons_zero, List.set_cons_succ, i64_w, i32_w]
       rfl
      refine take_ (i := 6) (N := some 17) (v := ?_) (a' := ?_) #[true, true, false, false, false, true, true, false, false] rfl rfl (take_ofW HT_.out HW_.out (by kernel_rfl)) (fun _ _ _ h => h) (Or.inl ⟨by rfl, ?_⟩) hHeld ?_ ?_
      rotate_left
      ·rintro w' ⟨s0, s1, s2, s3, s4, s5, s6, s7, s8, s9, s10, s11, s12, s13, s14⟩
       go_simp
       with_reducible rfl
      rotate_left
      ·simp only [Act.put, List.setIfInBounds_toArray, List.set_cons_zero, List.set_cons_succ, i64_w, i32_w]
       rfl
      refine one_ (i := 2) (N := some 13) #[true, true, true, false, false, true, true, false, false] rfl rfl (one_of HT_.out (by kernel_rfl)) (by decide) (fun K hK => ?_)
      refine goes_ Tryz.func42 (by kernel_rfl) rfl #[.slice A0_2 l0_2.length c0_2, .func (.func 43) #[] #[]] (by rfl) rfl rfl mp ?_
      with_reducible refine (api_Item__of_item.calls k _ _ l0_2 t290 _ ?side1 ?side2 ?side3 A6.out).mono ?_
      (case side1 => exact kc HR0_2.out)
      (case side2 => exact HC0_2.out)
      (case side3 => exact Sh.below hsh bl)
      rintro e w11 ⟨rfl, hb⟩
      refine ⟨_, rfl, ?_⟩
      have n0_ := Aside0.mk (blk_below (g := gb289) (o := .cells #[.int .i64 a0_0, .string a0_1, .slice A0_2 l0_2.length c0_2, .slice A0_3 l0_3.length c0_3, .slice A0_4 l0_4.length c0_4, .bool a0_5, .int .i64 a0_6, .string a0_7, .int .i64 a0_8, .int .i64 a0_9, .string a0_10, .slice A0_11 l0_11.length c0_11, .string a0_12, .bool a0_13, .int .i64 a0_14] 44 (0, 0)) bk hb)
      have n1_ := Aside0.mk (below_step bl hb)
      clear BK289
      clear HB
      have BK289 := n0_
      have HB := n1_
      clear n0_ n1_
      (try clear hb)
      (try clear hb2)
      (try clear hk)
      (try clear hi)
      refine hK.out _ _ ⟨(blk_cell BK289.out 0).trans rfl, (blk_cell BK289.out 1).trans rfl, (blk_cell BK289.out 2).trans rfl, (blk_cell BK289.out 3).trans rfl, (blk_cell BK289.out 4).trans rfl, (blk_cell BK289.out 5).trans rfl, (blk_cell BK289.out 6).trans rfl, (blk_cell BK289.out 7).trans rfl, (blk_cell BK289.out 8).trans rfl, (blk_cell BK289.out 9).trans rfl, (blk_cell BK289.out 10).trans rfl, (blk_cell BK289.out 11).trans rfl, (blk_cell BK289.out 12).trans rfl, (blk_cell BK289.out 13).trans rfl, (blk_cell BK289.out 14).trans rfl⟩ (fun hHeld => ?_)
      clear hK K
      refine norm_ (a' := ?_) ?_ ?_
      rotate_left
      ·show Act.put _ (some 13) _ = _
       simp only [Act.put, List.setIfInBounds_toArray, List.set_cons_zero, List.set_cons_succ, i64_w, i32_w]
       rfl
      refine pure_ (i := 3) (N := some 14) (v := ?_) (a' := ?_) #[true, true, true, true, false, true, true, false, false] rfl rfl (any_of HT_.out (by kernel_rfl)) (fun _ _ _ h => h) (Or.inl ⟨by rfl, ?_⟩) ?_ ?_
      rotate_left
      ·intro w'
       go_simp
       with_reducible rfl
      rotate_left
      ·simp only [Act.put, List.setIfInBounds_toArray, List.set_cons_zero, List.set_cons_succ, i64_w, i32_w]
       rfl
      refine pure_ (i := 4) (N := some 15) (v := ?_) (a' := ?_) #[true, true, true, true, true, true, true, false, false] rfl rfl (any_of HT_.out (by kernel_rfl)) (fun _ _ _ h => h) (Or.inl ⟨by rfl, ?_⟩) ?_ ?_
      rotate_left
      ·intro w'
       go_simp
       with_reducible rfl
      rotate_left
      ·simp only [Act.put, List.setIfInBounds_toArray, List.set_cons_zero, List.set_cons_succ, i64_w, i32_w]
       rfl
      refine pure_ (i := 7) (N := some 18) (v := ?_) (a' := ?_) #[true, true, true, true, true, true, true, true, false] rfl rfl (any_of HT_.out (by kernel_rfl)) (fun _ _ _ h => h) (Or.inl ⟨by rfl, ?_⟩) ?_ ?_
      rotate_left
      ·intro w'
       go_simp
       with_reducible rfl
      rotate_left
      ·simp only [Act.put, List.setIfInBounds_toArray, List.set_cons_zero, List.set_cons_succ, i64_w, i32_w]
       rfl
      refine pure_ (i := 8) (N := some 3) (v := ?_) (a' := ?_) #[true, true, true, true, true, true, true, true, true] rfl rfl (any_of HT_.out (by kernel_rfl)) (fun _ _ _ h => h) (Or.inl ⟨by rfl, ?_⟩) ?_ ?_
      rotate_left
      ·intro w'
       go_simp
       with_reducible rfl
      rotate_left
      ·simp only [Act.put, List.setIfInBounds_toArray, List.set_cons_zero, List.set_cons_succ, i64_w, i32_w]
       rfl
      refine done_ (done_of HT_.out (by kernel_rfl)) ?_
      try go_wp2
      go_meet
      case rel => exact ⟨_, ((((⟨#[83, 69, 76, 69, 67, 84, 32]⟩ : ByteArray) ++ t290) ++ (⟨#[32, 70, 82, 79, 77, 32]⟩ : ByteArray)) ++ a0_1), rs, H', ⟨lk⟩, ⟨bk⟩, ⟨bl⟩⟩
     ·rw [if_neg c9] at H
      exact absurd H (by simp)
    ·rw [if_neg c8] at H
     exact absurd H (by simp)
   ·rw [if_neg c7] at H
    exact absurd H (by simp)
  ·rw [if_neg c5] at H
   have c5b0 : (a0_0 == 1) = false := beq_eq_false_iff_ne.mpr c5
   have c5b1 : (a0_0 != 1) = true := bne_iff_ne.mpr c5
   (first | rw [c5b0] | (simp only [i64_w, i32_w]; rw [c5b0]) | skip)
   by_cases c12 : a0_0 = 2
   ·rw [if_pos c12] at H
    have c12b0 : (a0_0 == 2) = true := beq_iff_eq.mpr c12
    have c12b1 : (a0_0 != 2) = false := bne_eq_false_iff_eq.mpr c12
    clear c12
    by_cases c13 : 12 + a0_1.size ≤ 9223372036854775807
    ·rw [if_pos c13] at H
     have c13b0 := eq_true c13
     have c13b1 : decide (12 + a0_1.size ≤ 9223372036854775807) = true := decide_eq_true c13
     try have c13b2 : (9223372036854775807 < 12 + a0_1.size) = False := eq_false (Nat.not_lt.2 c13)
     by_cases c14 : ((⟨#[73, 78, 83, 69, 82, 84, 32, 73, 78, 84, 79, 32]⟩ : ByteArray) ++ a0_1).size + 8 ≤ 9223372036854775807
     ·rw [if_pos c14] at H
      have c14z : (12 + a0_1.size) + 8 ≤ 9223372036854775807 := by have h_ := c14; simp only [ByteArray.size_append] at h_; exact h_
      have c14y := eq_true c14z
      have c14x : decide ((12 + a0_1.size) + 8 ≤ 9223372036854775807) = true := decide_eq_true c14z
      have c14w : (9223372036854775807 < (12 + a0_1.size) + 8) = False := eq_false (by omega)
      have c14b0 := eq_true c14
      have c14b1 : decide (((⟨#[73, 78, 83, 69, 82, 84, 32, 73, 78, 84, 79, 32]⟩ : ByteArray) ++ a0_1).size + 8 ≤ 9223372036854775807) = true := decide_eq_true c14
      try have c14b2 : (9223372036854775807 < ((⟨#[73, 78, 83, 69, 82, 84, 32, 73, 78, 84, 79, 32]⟩ : ByteArray) ++ a0_1).size + 8) = False := eq_false (Nat.not_lt.2 c14)
      obtain ⟨t291, A150, H⟩ := bind_out H
      have A15 := Aside0.mk A150
      clear A150
      by_cases c16 : (((⟨#[73, 78, 83, 69, 82, 84, 32, 73, 78, 84, 79, 32]⟩ : ByteArray) ++ a0_1) ++ (⟨#[32, 86, 65, 76, 85, 69, 83, 32]⟩ : ByteArray)).size + t291.size ≤ 9223372036854775807
      ·rw [if_pos c16] at H
       have c16z : ((12 + a0_1.size) + 8) + t291.size ≤ 9223372036854775807 := by have h_ := c16; simp only [ByteArray.size_append] at h_; exact h_
       have c16y := eq_true c16z
       have c16x : decide (((12 + a0_1.size) + 8) + t291.size ≤ 9223372036854775807) = true := decide_eq_true c16z
       have c16w : (9223372036854775807 < ((12 + a0_1.size) + 8) + t291.size) = False := eq_false (by omega)
       have c16b0 := eq_true c16
       have c16b1 : decide ((((⟨#[73, 78, 83, 69, 82, 84, 32, 73, 78, 84, 79, 32]⟩ : ByteArray) ++ a0_1) ++ (⟨#[32, 86, 65, 76, 85, 69, 83, 32]⟩ : ByteArray)).size + t291.size ≤ 9223372036854775807) = true := decide_eq_true c16
       try have c16b2 : (9223372036854775807 < (((⟨#[73, 78, 83, 69, 82, 84, 32, 73, 78, 84, 79, 32]⟩ : ByteArray) ++ a0_1) ++ (⟨#[32, 86, 65, 76, 85, 69, 83, 32]⟩ : ByteArray)).size + t291.size) = False := eq_false (Nat.not_lt.2 c16)
       have H' := Aside0.mk H
       clear H
       try go_wp2
       have n0_ := Aside0.mk (blk_drew BK289.out)
       have n1_ := Aside0.mk (below_drew1 HB.out)
       clear BK289
       clear HB
       have BK289 := n0_
       have HB := n1_
       clear n0_ n1_
       refine start_ (n := 9) (S := fun w' => w'.cell? ⟨gb289, 0, none⟩ = some (.int .i64 a0_0) ∧ w'.cell? ⟨gb289, 1, none⟩ = some (.string a0_1) ∧ w'.cell? ⟨gb289, 2, none⟩ = some (.slice A0_2 l0_2.length c0_2) ∧ w'.cell? ⟨gb289, 3, none⟩ = some (.slice A0_3 l0_3.length c0_3) ∧ w'.cell? ⟨gb289, 4, none⟩ = some (.slice A0_4 l0_4.length c0_4) ∧ w'.cell? ⟨gb289, 5, none⟩ = some (.bool a0_5) ∧ w'.cell? ⟨gb289, 6, none⟩ = some (.int .i64 a0_6) ∧ w'.cell? ⟨gb289, 7, none⟩ = some (.string a0_7) ∧ w'.cell? ⟨gb289, 8, none⟩ = some (.int .i64 a0_8) ∧ w'.cell? ⟨gb289, 9, none⟩ = some (.int .i64 a0_9) ∧ w'.cell? ⟨gb289, 10, none⟩ = some (.string a0_10) ∧ w'.cell? ⟨gb289, 11, none⟩ = some (.slice A0_11 l0_11.length c0_11) ∧ w'.cell? ⟨gb289, 12, none⟩ = some (.string a0_12) ∧ w'.cell? ⟨gb289, 13, none⟩ = some (.bool a0_13) ∧ w'.cell? ⟨gb289, 14, none⟩ = some (.int .i64 a0_14)) (ds := []) #[false, false, false, false, false, false, false, false, false] (by kernel_rfl) rfl rfl ⟨(blk_cell BK289.out 0).trans rfl, (blk_cell BK289.out 1).trans rfl, (blk_cell BK289.out 2).trans rfl, (blk_cell BK289.out 3).trans rfl, (blk_cell BK289.out 4).trans rfl, (blk_cell BK289.out 5).trans rfl, (blk_cell BK289.out 6).trans rfl, (blk_cell BK289.out 7).trans rfl, (blk_cell BK289.out 8).trans rfl, (blk_cell BK289.out 9).trans rfl, (blk_cell BK289.out 10).trans rfl, (blk_cell BK289.out 11).trans rfl, (blk_cell BK289.out 12).trans rfl, (blk_cell BK289.out 13).trans rfl, (blk_cell BK289.out 14).trans rfl⟩ (fun hHeld => ?_); refine with_tabW tree_stmt.tab7 tree_stmt.bits7 (fun HT_ HW_ => ?_)
       generalize w3.drew = w17 at BK289 HB hHeld ⊢
       refine pure_ (i := 0) (N := some 21) (v := ?_) (a' := ?_) #[true, false, false, false, false, false, false, false, false] rfl rfl (any_of HT_.out (by kernel_rfl)) (fun _ _ _ h => h) (Or.inl ⟨by rfl, ?_⟩) ?_ ?_
       rotate_left
       ·intro w'
        go_simp
        with_reducible rfl
       rotate_left
       ·simp only [Act.put, List.setIfInBounds_toArray, List.set_cons_zero, List.set_cons_succ, i64_w, i32_w]
        rfl
       refine pure_ (i := 4) (N := some 25) (v := ?_) (a' := ?_) #[true, false, false, false, true, false, false, false, false] rfl rfl (any_of HT_.out (by kernel_rfl)) (fun _ _ _ h => h) (Or.inl ⟨by rfl, ?_⟩) ?_ ?_
       rotate_left
       ·intro w'
        go_simp
        with_reducible rfl
       rotate_left
       ·simp only [Act.put, List.setIfInBounds_toArray, List.set_cons_zero, List.set_cons_succ, i64_w, i32_w]
        rfl
       refine take_ (i := 1) (N := some 22) (v := ?_) (a' := ?_) #[true, true, false, false, true, false, false, false, false] rfl rfl (take_ofW HT_.out HW_.out (by kernel_rfl)) (fun _ _ _ h => h) (Or.inl ⟨by rfl, ?_⟩) hHeld ?_ ?_
       rotate_left
       ·rintro w' ⟨s0, s1, s2, s3, s4, s5, s6, s7, s8, s9, s10, s11, s12, s13, s14⟩
        go_simp
        with_reducible rfl
       rotate_left
       ·simp only [Act.put, List.setIfInBounds_toArray, List.set_cons_zero, List.set_cons_succ, i64_w, i32_w]
        rfl
       refine pure_ (i := 2) (N := some 23) (v := ?_) (a' := ?_) #[true, true, true, false, true, false, false, false, false] rfl rfl (any_of HT_.out (by kernel_rfl)) (fun _ _ _ h => h) (Or.inl ⟨by rfl, ?_⟩) ?_ ?_
       rotate_left
       ·intro w'
        go_simp
        with_reducible rfl
       rotate_left
       ·simp only [Act.put, List.setIfInBounds_toArray, List.set_cons_zero, List.set_cons_succ, i64_w, i32_w]
        rfl
       refine pure_ (i := 3) (N := some 24) (v := ?_) (a' := ?_) #[true, true, true, true, true, false, false, false, false] rfl rfl (any_of HT_.out (by kernel_rfl)) (fun _ _ _ h => h) (Or.inl ⟨by rfl, ?_⟩) ?_ ?_
       rotate_left
       ·intro w'
        go_simp
        with_reducible rfl
       rotate_left
       ·simp only [Act.put, List.setIfInBounds_toArray, List.set_cons_zero, List.set_cons_succ, i64_w, i32_w]
        rfl
       refine take_ (i := 5) (N := some 26) (v := ?_) (a' := ?_) #[true, true, true, true, true, true, false, false, false] rfl rfl (take_ofW HT_.out HW_.out (by kernel_rfl)) (fun _ _ _ h => h) (Or.inl ⟨by rfl, ?_⟩) hHeld ?_ ?_
       rotate_left
       ·rintro w' ⟨s0, s1, s2, s3, s4, s5, s6, s7, s8, s9, s10, s11, s12, s13, s14⟩
        go_simp
        with_reducible rfl
       rotate_left
       ·simp only [Act.put, List.setIfInBounds_toArray, List.set_cons_zero, List.set_cons_succ, i64_w, i32_w]
        rfl
       refine one_ (i := 6) (N := some 27) #[true, true, true, true, true, true, true, false, false] rfl rfl (one_of HT_.out (by kernel_rfl)) (by decide) (fun K hK => ?_)
       refine goes_ Tryz.func44 (by kernel_rfl) rfl #[.slice A0_3 l0_3.length c0_3, .func (.func 45) #[] #[]] (by rfl) rfl rfl mp ?_
       with_reducible refine (api_Expr__of_stmt_1.calls k _ _ l0_3 t291 _ ?side1 ?side2 ?side3 A15.out).mono ?_
       (case side1 => exact kc HR0_3.out)
       (case side2 => exact HC0_3.out)
       (case side3 => exact Sh.below hsh bl)
       rintro e w18 ⟨rfl, hb⟩
       refine ⟨_, rfl, ?_⟩
       have n0_ := Aside0.mk (blk_below (g := gb289) (o := .cells #[.int .i64 a0_0, .string a0_1, .slice A0_2 l0_2.length c0_2, .slice A0_3 l0_3.length c0_3, .slice A0_4 l0_4.length c0_4, .bool a0_5, .int .i64 a0_6, .string a0_7, .int .i64 a0_8, .int .i64 a0_9, .string a0_10, .slice A0_11 l0_11.length c0_11, .string a0_12, .bool a0_13, .int .i64 a0_14] 44 (0, 0)) bk hb)
       have n1_ := Aside0.mk (below_step bl hb)
       clear BK289
       clear HB
       have BK289 := n0_
       have HB := n1_
       clear n0_ n1_
       (try clear hb)
       (try clear hb2)
       (try clear hk)
       (try clear hi)
       refine hK.out _ _ ⟨(blk_cell BK289.out 0).trans rfl, (blk_cell BK289.out 1).trans rfl, (blk_cell BK289.out 2).trans rfl, (blk_cell BK289.out 3).trans rfl, (blk_cell BK289.out 4).trans rfl, (blk_cell BK289.out 5).trans rfl, (blk_cell BK289.out 6).trans rfl, (blk_cell BK289.out 7).trans rfl, (blk_cell BK289.out 8).trans rfl, (blk_cell BK289.out 9).trans rfl, (blk_cell BK289.out 10).trans rfl, (blk_cell BK289.out 11).trans rfl, (blk_cell BK289.out 12).trans rfl, (blk_cell BK289.out 13).trans rfl, (blk_cell BK289.out 14).trans rfl⟩ (fun hHeld => ?_)
       clear hK K
       refine norm_ (a' := ?_) ?_ ?_
       rotate_left
       ·show Act.put _ (some 27) _ = _
        simp only [Act.put, List.setIfInBounds_toArray, List.set_cons_zero, List.set_cons_succ, i64_w, i32_w]
        rfl
       refine pure_ (i := 7) (N := some 28) (v := ?_) (a' := ?_) #[true, true, true, true, true, true, true, true, false] rfl rfl (any_of HT_.out (by kernel_rfl)) (fun _ _ _ h => h) (Or.inl ⟨by rfl, ?_⟩) ?_ ?_
       rotate_left
       ·intro w'
        go_simp
        with_reducible rfl
       rotate_left
       ·simp only [Act.put, List.setIfInBounds_toArray, List.set_cons_zero, List.set_cons_succ, i64_w, i32_w]
        rfl
       refine pure_ (i := 8) (N := some 3) (v := ?_) (a' := ?_) #[true, true, true, true, true, true, true, true, true] rfl rfl (any_of HT_.out (by kernel_rfl)) (fun _ _ _ h => h) (Or.inl ⟨by rfl, ?_⟩) ?_ ?_
       rotate_left
       ·intro w'
        go_simp
        with_reducible rfl
       rotate_left
       ·simp only [Act.put, List.setIfInBounds_toArray, List.set_cons_zero, List.set_cons_succ, i64_w, i32_w]
        rfl
       refine done_ (done_of HT_.out (by kernel_rfl)) ?_
       try go_wp2
       go_meet
       case rel => exact ⟨_, ((((⟨#[73, 78, 83, 69, 82, 84, 32, 73, 78, 84, 79, 32]⟩ : ByteArray) ++ a0_1) ++ (⟨#[32, 86, 65, 76, 85, 69, 83, 32]⟩ : ByteArray)) ++ t291), rs, H', ⟨lk⟩, ⟨bk⟩, ⟨bl⟩⟩
      ·rw [if_neg c16] at H
       exact absurd H (by simp)
     ·rw [if_neg c14] at H
      exact absurd H (by simp)
    ·rw [if_neg c13] at H
     exact absurd H (by simp)
   ·rw [if_neg c12] at H
    have c12b0 : (a0_0 == 2) = false := beq_eq_false_iff_ne.mpr c12
    have c12b1 : (a0_0 != 2) = true := bne_iff_ne.mpr c12
    by_cases c19 : a0_0 = 3
    ·rw [if_pos c19] at H
     have c19b0 : (a0_0 == 3) = true := beq_iff_eq.mpr c19
     have c19b1 : (a0_0 != 3) = false := bne_eq_false_iff_eq.mpr c19
     clear c19
     by_cases c20 : 7 + a0_1.size ≤ 9223372036854775807
     ·rw [if_pos c20] at H
      have c20b0 := eq_true c20
      have c20b1 : decide (7 + a0_1.size ≤ 9223372036854775807) = true := decide_eq_true c20
      try have c20b2 : (9223372036854775807 < 7 + a0_1.size) = False := eq_false (Nat.not_lt.2 c20)
      by_cases c21 : ((⟨#[85, 80, 68, 65, 84, 69, 32]⟩ : ByteArray) ++ a0_1).size + 5 ≤ 9223372036854775807
      ·rw [if_pos c21] at H
       have c21z : (7 + a0_1.size) + 5 ≤ 9223372036854775807 := by have h_ := c21; simp only [ByteArray.size_append] at h_; exact h_
       have c21y := eq_true c21z
       have c21x : decide ((7 + a0_1.size) + 5 ≤ 9223372036854775807) = true := decide_eq_true c21z
       have c21w : (9223372036854775807 < (7 + a0_1.size) + 5) = False := eq_false (by omega)
       have c21b0 := eq_true c21
       have c21b1 : decide (((⟨#[85, 80, 68, 65, 84, 69, 32]⟩ : ByteArray) ++ a0_1).size + 5 ≤ 9223372036854775807) = true := decide_eq_true c21
       try have c21b2 : (9223372036854775807 < ((⟨#[85, 80, 68, 65, 84, 69, 32]⟩ : ByteArray) ++ a0_1).size + 5) = False := eq_false (Nat.not_lt.2 c21)
       obtain ⟨t292, A220, H⟩ := bind_out H
       have A22 := Aside0.mk A220
       clear A220
       by_cases c23 : (((⟨#[85, 80, 68, 65, 84, 69, 32]⟩ : ByteArray) ++ a0_1) ++ (⟨#[32, 83, 69, 84, 32]⟩ : ByteArray)).size + t292.size ≤ 9223372036854775807
       ·rw [if_pos c23] at H
        have c23z : ((7 + a0_1.size) + 5) + t292.size ≤ 9223372036854775807 := by have h_ := c23; simp only [ByteArray.size_append] at h_; exact h_
        have c23y := eq_true c23z
        have c23x : decide (((7 + a0_1.size) + 5) + t292.size ≤ 9223372036854775807) = true := decide_eq_true c23z
        have c23w : (9223372036854775807 < ((7 + a0_1.size) + 5) + t292.size) = False := eq_false (by omega)
        have c23b0 := eq_true c23
        have c23b1 : decide ((((⟨#[85, 80, 68, 65, 84, 69, 32]⟩ : ByteArray) ++ a0_1) ++ (⟨#[32, 83, 69, 84, 32]⟩ : ByteArray)).size + t292.size ≤ 9223372036854775807) = true := decide_eq_true c23
        try have c23b2 : (9223372036854775807 < (((⟨#[85, 80, 68, 65, 84, 69, 32]⟩ : ByteArray) ++ a0_1) ++ (⟨#[32, 83, 69, 84, 32]⟩ : ByteArray)).size + t292.size) = False := eq_false (Nat.not_lt.2 c23)
        have H' := Aside0.mk H
        clear H
        try go_wp2
        have n0_ := Aside0.mk (blk_drew BK289.out)
        have n1_ := Aside0.mk (below_drew1 HB.out)
        clear BK289
        clear HB
        have BK289 := n0_
        have HB := n1_
        clear n0_ n1_
        refine start_ (n := 9) (S := fun w' => w'.cell? ⟨gb289, 0, none⟩ = some (.int .i64 a0_0) ∧ w'.cell? ⟨gb289, 1, none⟩ = some (.string a0_1) ∧ w'.cell? ⟨gb289, 2, none⟩ = some (.slice A0_2 l0_2.length c0_2) ∧ w'.cell? ⟨gb289, 3, none⟩ = some (.slice A0_3 l0_3.length c0_3) ∧ w'.cell? ⟨gb289, 4, none⟩ = some (.slice A0_4 l0_4.length c0_4) ∧ w'.cell? ⟨gb289, 5, none⟩ = some (.bool a0_5) ∧ w'.cell? ⟨gb289, 6, none⟩ = some (.int .i64 a0_6) ∧ w'.cell? ⟨gb289, 7, none⟩ = some (.string a0_7) ∧ w'.cell? ⟨gb289, 8, none⟩ = some (.int .i64 a0_8) ∧ w'.cell? ⟨gb289, 9, none⟩ = some (.int .i64 a0_9) ∧ w'.cell? ⟨gb289, 10, none⟩ = some (.string a0_10) ∧ w'.cell? ⟨gb289, 11, none⟩ = some (.slice A0_11 l0_11.length c0_11) ∧ w'.cell? ⟨gb289, 12, none⟩ = some (.string a0_12) ∧ w'.cell? ⟨gb289, 13, none⟩ = some (.bool a0_13) ∧ w'.cell? ⟨gb289, 14, none⟩ = some (.int .i64 a0_14)) (ds := []) #[false, false, false, false, false, false, false, false, false] (by kernel_rfl) rfl rfl ⟨(blk_cell BK289.out 0).trans rfl, (blk_cell BK289.out 1).trans rfl, (blk_cell BK289.out 2).trans rfl, (blk_cell BK289.out 3).trans rfl, (blk_cell BK289.out 4).trans rfl, (blk_cell BK289.out 5).trans rfl, (blk_cell BK289.out 6).trans rfl, (blk_cell BK289.out 7).trans rfl, (blk_cell BK289.out 8).trans rfl, (blk_cell BK289.out 9).trans rfl, (blk_cell BK289.out 10).trans rfl, (blk_cell BK289.out 11).trans rfl, (blk_cell BK289.out 12).trans rfl, (blk_cell BK289.out 13).trans rfl, (blk_cell BK289.out 14).trans rfl⟩ (fun hHeld => ?_); refine with_tabW tree_stmt.tab9 tree_stmt.bits9 (fun HT_ HW_ => ?_)
        generalize w3.drew = w24 at BK289 HB hHeld ⊢
        refine pure_ (i := 0) (N := some 31) (v := ?_) (a' := ?_) #[true, false, false, false, false, false, false, false, false] rfl rfl (any_of HT_.out (by kernel_rfl)) (fun _ _ _ h => h) (Or.inl ⟨by rfl, ?_⟩) ?_ ?_
        rotate_left
        ·intro w'
         go_simp
         with_reducible rfl
        rotate_left
        ·simp only [Act.put, List.setIfInBounds_toArray, List.set_cons_zero, List.set_cons_succ, i64_w, i32_w]
         rfl
        refine pure_ (i := 4) (N := some 35) (v := ?_) (a' := ?_) #[true, false, false, false, true, false, false, false, false] rfl rfl (any_of HT_.out (by kernel_rfl)) (fun _ _ _ h => h) (Or.inl ⟨by rfl, ?_⟩) ?_ ?_
        rotate_left
        ·intro w'
         go_simp
         with_reducible rfl
        rotate_left
        ·simp only [Act.put, List.setIfInBounds_toArray, List.set_cons_zero, List.set_cons_succ, i64_w, i32_w]
         rfl
        refine take_ (i := 1) (N := some 32) (v := ?_) (a' := ?_) #[true, true, false, false, true, false, false, false, false] rfl rfl (take_ofW HT_.out HW_.out (by kernel_rfl)) (fun _ _ _ h => h) (Or.inl ⟨by rfl, ?_⟩) hHeld ?_ ?_
        rotate_left
        ·rintro w' ⟨s0, s1, s2, s3, s4, s5, s6, s7, s8, s9, s10, s11, s12, s13, s14⟩
         go_simp
         with_reducible rfl
        rotate_left
        ·simp only [Act.put, List.setIfInBounds_toArray, List.set_cons_zero, List.set_cons_succ, i64_w, i32_w]
         rfl
        refine pure_ (i := 2) (N := some 33) (v := ?_) (a' := ?_) #[true, true, true, false, true, false, false, false, false] rfl rfl (any_of HT_.out (by kernel_rfl)) (fun _ _ _ h => h) (Or.inl ⟨by rfl, ?_⟩) ?_ ?_
        rotate_left
        ·intro w'
         go_simp
         with_reducible rfl
        rotate_left
        ·simp only [Act.put, List.setIfInBounds_toArray, List.set_cons_zero, List.set_cons_succ, i64_w, i32_w]
         rfl
        refine pure_ (i := 3) (N := some 34) (v := ?_) (a' := ?_) #[true, true, true, true, true, false, false, false, false] rfl rfl (any_of HT_.out (by kernel_rfl)) (fun _ _ _ h => h) (Or.inl ⟨by rfl, ?_⟩) ?_ ?_
        rotate_left
        ·intro w'
         go_simp
         with_reducible rfl
        rotate_left
        ·simp only [Act.put, List.setIfInBounds_toArray, List.set_cons_zero, List.set_cons_succ, i64_w, i32_w]
         rfl
        refine take_ (i := 5) (N := some 36) (v := ?_) (a' := ?_) #[true, true, true, true, true, true, false, false, false] rfl rfl (take_ofW HT_.out HW_.out (by kernel_rfl)) (fun _ _ _ h => h) (Or.inl ⟨by rfl, ?_⟩) hHeld ?_ ?_
        rotate_left
        ·rintro w' ⟨s0, s1, s2, s3, s4, s5, s6, s7, s8, s9, s10, s11, s12, s13, s14⟩
         go_simp
         with_reducible rfl
        rotate_left
        ·simp only [Act.put, List.setIfInBounds_toArray, List.set_cons_zero, List.set_cons_succ, i64_w, i32_w]
         rfl
        refine one_ (i := 6) (N := some 37) #[true, true, true, true, true, true, true, false, false] rfl rfl (one_of HT_.out (by kernel_rfl)) (by decide) (fun K hK => ?_)
        refine goes_ Tryz.func48 (by kernel_rfl) rfl #[.slice A0_4 l0_4.length c0_4, .func (.func 49) #[] #[]] (by rfl) rfl rfl mp ?_
        with_reducible refine (api_Assign__of_stmt_2.calls k _ _ l0_4 t292 _ ?side1 ?side2 ?side3 A22.out).mono ?_
        (case side1 => exact kc HR0_4.out)
        (case side2 => exact HC0_4.out)
        (case side3 => exact Sh.below hsh bl)
        rintro e w25 ⟨rfl, hb⟩
        refine ⟨_, rfl, ?_⟩
        have n0_ := Aside0.mk (blk_below (g := gb289) (o := .cells #[.int .i64 a0_0, .string a0_1, .slice A0_2 l0_2.length c0_2, .slice A0_3 l0_3.length c0_3, .slice A0_4 l0_4.length c0_4, .bool a0_5, .int .i64 a0_6, .string a0_7, .int .i64 a0_8, .int .i64 a0_9, .string a0_10, .slice A0_11 l0_11.length c0_11, .string a0_12, .bool a0_13, .int .i64 a0_14] 44 (0, 0)) bk hb)
        have n1_ := Aside0.mk (below_step bl hb)
        clear BK289
        clear HB
        have BK289 := n0_
        have HB := n1_
        clear n0_ n1_
        (try clear hb)
        (try clear hb2)
        (try clear hk)
        (try clear hi)
        refine hK.out _ _ ⟨(blk_cell BK289.out 0).trans rfl, (blk_cell BK289.out 1).trans rfl, (blk_cell BK289.out 2).trans rfl, (blk_cell BK289.out 3).trans rfl, (blk_cell BK289.out 4).trans rfl, (blk_cell BK289.out 5).trans rfl, (blk_cell BK289.out 6).trans rfl, (blk_cell BK289.out 7).trans rfl, (blk_cell BK289.out 8).trans rfl, (blk_cell BK289.out 9).trans rfl, (blk_cell BK289.out 10).trans rfl, (blk_cell BK289.out 11).trans rfl, (blk_cell BK289.out 12).trans rfl, (blk_cell BK289.out 13).trans rfl, (blk_cell BK289.out 14).trans rfl⟩ (fun hHeld => ?_)
        clear hK K
        refine norm_ (a' := ?_) ?_ ?_
        rotate_left
        ·show Act.put _ (some 37) _ = _
         simp only [Act.put, List.setIfInBounds_toArray, List.set_cons_zero, List.set_cons_succ, i64_w, i32_w]
         rfl
        refine pure_ (i := 7) (N := some 38) (v := ?_) (a' := ?_) #[true, true, true, true, true, true, true, true, false] rfl rfl (any_of HT_.out (by kernel_rfl)) (fun _ _ _ h => h) (Or.inl ⟨by rfl, ?_⟩) ?_ ?_
        rotate_left
        ·intro w'
         go_simp
         with_reducible rfl
        rotate_left
        ·simp only [Act.put, List.setIfInBounds_toArray, List.set_cons_zero, List.set_cons_succ, i64_w, i32_w]
         rfl
        refine pure_ (i := 8) (N := some 3) (v := ?_) (a' := ?_) #[true, true, true, true, true, true, true, true, true] rfl rfl (any_of HT_.out (by kernel_rfl)) (fun _ _ _ h => h) (Or.inl ⟨by rfl, ?_⟩) ?_ ?_
        rotate_left
        ·intro w'
         go_simp
         with_reducible rfl
        rotate_left
        ·simp only [Act.put, List.setIfInBounds_toArray, List.set_cons_zero, List.set_cons_succ, i64_w, i32_w]
         rfl
        refine done_ (done_of HT_.out (by kernel_rfl)) ?_
        try go_wp2
        go_meet
        case rel => exact ⟨_, ((((⟨#[85, 80, 68, 65, 84, 69, 32]⟩ : ByteArray) ++ a0_1) ++ (⟨#[32, 83, 69, 84, 32]⟩ : ByteArray)) ++ t292), rs, H', ⟨lk⟩, ⟨bk⟩, ⟨bl⟩⟩
       ·rw [if_neg c23] at H
        exact absurd H (by simp)
      ·rw [if_neg c21] at H
       exact absurd H (by simp)
     ·rw [if_neg c20] at H
      exact absurd H (by simp)
    ·rw [if_neg c19] at H
     have c19b0 : (a0_0 == 3) = false := beq_eq_false_iff_ne.mpr c19
     have c19b1 : (a0_0 != 3) = true := bne_iff_ne.mpr c19
     by_cases c26 : 12 + a0_1.size ≤ 9223372036854775807
     ·rw [if_pos c26] at H
      have c26b0 := eq_true c26
      have c26b1 : decide (12 + a0_1.size ≤ 9223372036854775807) = true := decide_eq_true c26
      try have c26b2 : (9223372036854775807 < 12 + a0_1.size) = False := eq_false (Nat.not_lt.2 c26)
      have H' := Aside0.mk H
      clear H
      obtain ⟨hcz27_0, hcz27_1, hcz27_2, hcz27_3, hcz27_4, hcz27_5, hcz27_6, hcz27_7, hcz27_8, hcz27_9, hcz27_10, hcz27_11, hcz27_12, hcz27_13, hcz27_14⟩ := cells15 BK289.out
      obtain ⟨hfz27_0, hfz27_1, hfz27_2, hfz27_3, hfz27_4, hfz27_5, hfz27_6, hfz27_7, hfz27_8, hfz27_9, hfz27_10, hfz27_11, hfz27_12, hfz27_13, hfz27_14⟩ := froz15 BK289.out
      go_wp2
      go_meet
      case rel => exact ⟨_, ((⟨#[68, 69, 76, 69, 84, 69, 32, 70, 82, 79, 77, 32]⟩ : ByteArray) ++ a0_1), rs, H', ⟨lk⟩, ⟨bk⟩, ⟨bl⟩⟩
     ·rw [if_neg c26] at H
      exact absurd H (by simp)
 case rest =>
  clear HC2
  try clear hcz4_0 hcz4_1 hcz4_10 hcz4_11 hcz4_12 hcz4_13 hcz4_14 hcz4_2 hcz4_3 hcz4_4 hcz4_5 hcz4_6 hcz4_7 hcz4_8 hcz4_9 hfz4_0 hfz4_1 hfz4_10 hfz4_11 hfz4_12 hfz4_13 hfz4_14 hfz4_2 hfz4_3 hfz4_4 hfz4_5 hfz4_6 hfz4_7 hfz4_8 hfz4_9
  obtain ⟨kq, x3_1, rfl, HA, HJ1, BK289, HB⟩ := hcut
  cases kq with
  | zero => exact absurd HA.out (by simp [tree_stmt.j0])
  | succ kj1 =>
   have H := HA.out
   clear HA
   simp only [tree_stmt.j0] at H
   have HC28 := Aside0.mk H
   clear H
   obtain ⟨hcz29_0, hcz29_1, hcz29_2, hcz29_3, hcz29_4, hcz29_5, hcz29_6, hcz29_7, hcz29_8, hcz29_9, hcz29_10, hcz29_11, hcz29_12, hcz29_13, hcz29_14⟩ := cells15 BK289.out
   obtain ⟨hfz29_0, hfz29_1, hfz29_2, hfz29_3, hfz29_4, hfz29_5, hfz29_6, hfz29_7, hfz29_8, hfz29_9, hfz29_10, hfz29_11, hfz29_12, hfz29_13, hfz29_14⟩ := froz15 BK289.out
   go_upto_if 40 with (fail)
   go_cut [3] (fun v3 wc => ∃ (kq : Nat) (x3_27 : ByteArray), v3 = .string x3_27 ∧ Aside0 (tree_stmt.j1 kq x3_27 a0_0 a0_1 l0_2 l0_3 l0_4 a0_5 a0_6 a0_7 a0_8 a0_9 a0_10 l0_11 a0_12 a0_13 a0_14 = some r) ∧ Aside0 (kq ≤ kj1) ∧ Aside0 (wc.heap[gb289]? = some (.cells #[.int .i64 a0_0, .string a0_1, (.slice A0_2 l0_2.length c0_2), (.slice A0_3 l0_3.length c0_3), (.slice A0_4 l0_4.length c0_4), .bool a0_5, .int .i64 a0_6, .string a0_7, .int .i64 a0_8, .int .i64 a0_9, .string a0_10, (.slice A0_11 l0_11.length c0_11), .string a0_12, .bool a0_13, .int .i64 a0_14] 44 (0, 0))) ∧ Aside0 (Below w.heap.size w wc))
   case first =>
    have H := HC28.out
    clear HC28
    by_cases c30 : a0_5 = true
    ·subst c30
     rw [if_pos rfl] at H
     obtain ⟨t293, A310, H⟩ := bind_out H
     have A31 := Aside0.mk A310
     clear A310
     by_cases c32 : 7 + t293.size ≤ 9223372036854775807
     ·rw [if_pos c32] at H
      have c32b0 := eq_true c32
      have c32b1 : decide (7 + t293.size ≤ 9223372036854775807) = true := decide_eq_true c32
      try have c32b2 : (9223372036854775807 < 7 + t293.size) = False := eq_false (Nat.not_lt.2 c32)
      by_cases c33 : x3_1.size + ((⟨#[32, 87, 72, 69, 82, 69, 32]⟩ : ByteArray) ++ t293).size ≤ 9223372036854775807
      ·rw [if_pos c33] at H
       have c33z : x3_1.size + (7 + t293.size) ≤ 9223372036854775807 := by have h_ := c33; simp only [ByteArray.size_append] at h_; exact h_
       have c33y := eq_true c33z
       have c33x : decide (x3_1.size + (7 + t293.size) ≤ 9223372036854775807) = true := decide_eq_true c33z
       have c33w : (9223372036854775807 < x3_1.size + (7 + t293.size)) = False := eq_false (by omega)
       have c33b0 := eq_true c33
       have c33b1 : decide (x3_1.size + ((⟨#[32, 87, 72, 69, 82, 69, 32]⟩ : ByteArray) ++ t293).size ≤ 9223372036854775807) = true := decide_eq_true c33
       try have c33b2 : (9223372036854775807 < x3_1.size + ((⟨#[32, 87, 72, 69, 82, 69, 32]⟩ : ByteArray) ++ t293).size) = False := eq_false (Nat.not_lt.2 c33)
       have H' := Aside0.mk H
       clear H
       obtain ⟨hcz34_0, hcz34_1, hcz34_2, hcz34_3, hcz34_4, hcz34_5, hcz34_6, hcz34_7, hcz34_8, hcz34_9, hcz34_10, hcz34_11, hcz34_12, hcz34_13, hcz34_14⟩ := cells15 BK289.out
       obtain ⟨hfz34_0, hfz34_1, hfz34_2, hfz34_3, hfz34_4, hfz34_5, hfz34_6, hfz34_7, hfz34_8, hfz34_9, hfz34_10, hfz34_11, hfz34_12, hfz34_13, hfz34_14⟩ := froz15 BK289.out
       go_wp2_with (first | ((with_reducible refine gate_callee (f := 47) rfl ?_); refine goesL_ (some 44) rfl rfl Tryz.func47 (by kernel_rfl) rfl #[.agg #[.int .i64 a0_6, .string a0_7, .int .i64 a0_8, .int .i64 a0_9, .string a0_10, .slice A0_11 l0_11.length c0_11]] rfl mp ?_; (with_reducible refine (tree_text.calls kj1 a0_6 a0_7 a0_8 a0_9 a0_10 _ _ l0_11 t293 _ ?side1 ?side2 ?side3 A31.out).mono ?_); (case side1 => exact kc HR0_11.out); (case side2 => exact HC0_11.out); (case side3 => exact Sh.below hsh bl); rintro e w35 ⟨rfl, hb⟩; refine ⟨_, rfl, ?_⟩; replace BK289 := Aside0.mk (blk_below (g := gb289) (o := .cells #[.int .i64 a0_0, .string a0_1, .slice A0_2 l0_2.length c0_2, .slice A0_3 l0_3.length c0_3, .slice A0_4 l0_4.length c0_4, .bool true, .int .i64 a0_6, .string a0_7, .int .i64 a0_8, .int .i64 a0_9, .string a0_10, .slice A0_11 l0_11.length c0_11, .string a0_12, .bool a0_13, .int .i64 a0_14] 44 (0, 0)) bk hb); replace HB := Aside0.mk (below_step bl hb); (try clear hb)))
       go_meet
       case rel => exact ⟨_, (x3_1 ++ ((⟨#[32, 87, 72, 69, 82, 69, 32]⟩ : ByteArray) ++ t293)), rs, H', ⟨by have := HJ1.out; first | omega | exact Nat.le_refl _⟩, ⟨bk⟩, ⟨bl⟩⟩
      ·rw [if_neg c33] at H
       exact absurd H (by simp)
     ·rw [if_neg c32] at H
      exact absurd H (by simp)
    ·replace c30 := Bool.eq_false_iff.mpr c30
     subst c30
     rw [if_neg (show ¬ (false = true) by decide)] at H
     have H' := Aside0.mk H
     clear H
     go_wp2
     go_meet
     case rel => exact ⟨_, (x3_1), rs, H', ⟨by have := HJ1.out; first | omega | exact Nat.le_refl _⟩, ⟨bk⟩, ⟨bl⟩⟩
   case rest =>
    clear HC28
    try clear hcz29_0 hcz29_1 hcz29_10 hcz29_11 hcz29_12 hcz29_13 hcz29_14 hcz29_2 hcz29_3 hcz29_4 hcz29_5 hcz29_6 hcz29_7 hcz29_8 hcz29_9 hcz4_0 hcz4_1 hcz4_10 hcz4_11 hcz4_12 hcz4_13 hcz4_14 hcz4_2 hcz4_3 hcz4_4 hcz4_5 hcz4_6 hcz4_7 hcz4_8 hcz4_9 hfz29_0 hfz29_1 hfz29_10 hfz29_11 hfz29_12 hfz29_13 hfz29_14 hfz29_2 hfz29_3 hfz29_4 hfz29_5 hfz29_6 hfz29_7 hfz29_8 hfz29_9 hfz4_0 hfz4_1 hfz4_10 hfz4_11 hfz4_12 hfz4_13 hfz4_14 hfz4_2 hfz4_3 hfz4_4 hfz4_5 hfz4_6 hfz4_7 hfz4_8 hfz4_9
    obtain ⟨kq, x3_27, rfl, HA, HJ27, BK289, HB⟩ := hcut
    cases kq with
    | zero => exact absurd HA.out (by simp [tree_stmt.j1])
    | succ kj27 =>
     have H := HA.out
     clear HA
     simp only [tree_stmt.j1] at H
     have HC36 := Aside0.mk H
     clear H
     obtain ⟨hcz37_0, hcz37_1, hcz37_2, hcz37_3, hcz37_4, hcz37_5, hcz37_6, hcz37_7, hcz37_8, hcz37_9, hcz37_10, hcz37_11, hcz37_12, hcz37_13, hcz37_14⟩ := cells15 BK289.out
     obtain ⟨hfz37_0, hfz37_1, hfz37_2, hfz37_3, hfz37_4, hfz37_5, hfz37_6, hfz37_7, hfz37_8, hfz37_9, hfz37_10, hfz37_11, hfz37_12, hfz37_13, hfz37_14⟩ := froz15 BK289.out
     go_upto_if 49 with (fail)
     go_cut [3] (fun v3 wc => ∃ (kq : Nat) (x3_35 : ByteArray), v3 = .string x3_35 ∧ Aside0 (tree_stmt.j2 kq x3_35 a0_0 a0_1 l0_2 l0_3 l0_4 a0_5 a0_6 a0_7 a0_8 a0_9 a0_10 l0_11 a0_12 a0_13 a0_14 = some r) ∧ Aside0 (kq ≤ kj27) ∧ Aside0 (wc.heap[gb289]? = some (.cells #[.int .i64 a0_0, .string a0_1, (.slice A0_2 l0_2.length c0_2), (.slice A0_3 l0_3.length c0_3), (.slice A0_4 l0_4.length c0_4), .bool a0_5, .int .i64 a0_6, .string a0_7, .int .i64 a0_8, .int .i64 a0_9, .string a0_10, (.slice A0_11 l0_11.length c0_11), .string a0_12, .bool a0_13, .int .i64 a0_14] 44 (0, 0))) ∧ Aside0 (Below w.heap.size w wc))
     case first =>
      have H := HC36.out
      clear HC36
      by_cases c38 : a0_12.toList = ([] : List UInt8)
      ·rw [if_pos c38] at H
       have c38b0 : (a0_12.toList == ([] : List UInt8)) = true := beq_iff_eq.mpr c38
       have c38e : a0_12.toList.isEmpty = true := by have h_ := c38b0; rwa [show (a0_12.toList == ([] : List UInt8)) = a0_12.toList.isEmpty from by cases a0_12.toList <;> rfl] at h_
       have c38f : (!a0_12.toList.isEmpty) = false := by rw [c38e]; rfl
       have c38b1 : (a0_12.toList != ([] : List UInt8)) = false := bne_eq_false_iff_eq.mpr c38
       clear c38
       (first | rw [c38b0] | (simp only [i64_w, i32_w]; rw [c38b0]) | skip)
       have H' := Aside0.mk H
       clear H
       go_wp2
       all_goals (try (exfalso; simp only [c38e, Bool.not_true, Bool.not_false, Bool.false_eq_true, Bool.true_eq_false, reduceCtorEq] at *; done))
       go_meet
       case rel => exact ⟨_, (x3_27), rs, H', ⟨by have := HJ1.out; have := HJ27.out; first | omega | exact Nat.le_refl _⟩, ⟨bk⟩, ⟨bl⟩⟩
      ·rw [if_neg c38] at H
       have c38b0 : (a0_12.toList == ([] : List UInt8)) = false := beq_eq_false_iff_ne.mpr c38
       have c38e : a0_12.toList.isEmpty = false := by have h_ := c38b0; rwa [show (a0_12.toList == ([] : List UInt8)) = a0_12.toList.isEmpty from by cases a0_12.toList <;> rfl] at h_
       have c38f : (!a0_12.toList.isEmpty) = true := by rw [c38e]; rfl
       have c38b1 : (a0_12.toList != ([] : List UInt8)) = true := bne_iff_ne.mpr c38
       (first | rw [c38b0] | (simp only [i64_w, i32_w]; rw [c38b0]) | skip)
       by_cases c39 : 10 + a0_12.size ≤ 9223372036854775807
       ·rw [if_pos c39] at H
        have c39b0 := eq_true c39
        have c39b1 : decide (10 + a0_12.size ≤ 9223372036854775807) = true := decide_eq_true c39
        try have c39b2 : (9223372036854775807 < 10 + a0_12.size) = False := eq_false (Nat.not_lt.2 c39)
        by_cases c40 : x3_27.size + ((⟨#[32, 79, 82, 68, 69, 82, 32, 66, 89, 32]⟩ : ByteArray) ++ a0_12).size ≤ 9223372036854775807
        ·rw [if_pos c40] at H
         have c40z : x3_27.size + (10 + a0_12.size) ≤ 9223372036854775807 := by have h_ := c40; simp only [ByteArray.size_append] at h_; exact h_
         have c40y := eq_true c40z
         have c40x : decide (x3_27.size + (10 + a0_12.size) ≤ 9223372036854775807) = true := decide_eq_true c40z
         have c40w : (9223372036854775807 < x3_27.size + (10 + a0_12.size)) = False := eq_false (by omega)
         have c40b0 := eq_true c40
         have c40b1 : decide (x3_27.size + ((⟨#[32, 79, 82, 68, 69, 82, 32, 66, 89, 32]⟩ : ByteArray) ++ a0_12).size ≤ 9223372036854775807) = true := decide_eq_true c40
         try have c40b2 : (9223372036854775807 < x3_27.size + ((⟨#[32, 79, 82, 68, 69, 82, 32, 66, 89, 32]⟩ : ByteArray) ++ a0_12).size) = False := eq_false (Nat.not_lt.2 c40)
         have H' := Aside0.mk H
         clear H
         obtain ⟨hcz41_0, hcz41_1, hcz41_2, hcz41_3, hcz41_4, hcz41_5, hcz41_6, hcz41_7, hcz41_8, hcz41_9, hcz41_10, hcz41_11, hcz41_12, hcz41_13, hcz41_14⟩ := cells15 BK289.out
         obtain ⟨hfz41_0, hfz41_1, hfz41_2, hfz41_3, hfz41_4, hfz41_5, hfz41_6, hfz41_7, hfz41_8, hfz41_9, hfz41_10, hfz41_11, hfz41_12, hfz41_13, hfz41_14⟩ := froz15 BK289.out
         go_wp2
         all_goals (try (exfalso; simp only [c38e, Bool.not_true, Bool.not_false, Bool.false_eq_true, Bool.true_eq_false, reduceCtorEq] at *; done))
         go_meet
         case rel => exact ⟨_, (x3_27 ++ ((⟨#[32, 79, 82, 68, 69, 82, 32, 66, 89, 32]⟩ : ByteArray) ++ a0_12)), rs, H', ⟨by have := HJ1.out; have := HJ27.out; first | omega | exact Nat.le_refl _⟩, ⟨bk⟩, ⟨bl⟩⟩
        ·rw [if_neg c40] at H
         exact absurd H (by simp)
       ·rw [if_neg c39] at H
        exact absurd H (by simp)
     case rest =>
      clear HC36
      try clear hcz29_0 hcz29_1 hcz29_10 hcz29_11 hcz29_12 hcz29_13 hcz29_14 hcz29_2 hcz29_3 hcz29_4 hcz29_5 hcz29_6 hcz29_7 hcz29_8 hcz29_9 hcz37_0 hcz37_1 hcz37_10 hcz37_11 hcz37_12 hcz37_13 hcz37_14 hcz37_2 hcz37_3 hcz37_4 hcz37_5 hcz37_6 hcz37_7 hcz37_8 hcz37_9 hcz4_0 hcz4_1 hcz4_10 hcz4_11 hcz4_12 hcz4_13 hcz4_14 hcz4_2 hcz4_3 hcz4_4 hcz4_5 hcz4_6 hcz4_7 hcz4_8 hcz4_9 hfz29_0 hfz29_1 hfz29_10 hfz29_11 hfz29_12 hfz29_13 hfz29_14 hfz29_2 hfz29_3 hfz29_4 hfz29_5 hfz29_6 hfz29_7 hfz29_8 hfz29_9 hfz37_0 hfz37_1 hfz37_10 hfz37_11 hfz37_12 hfz37_13 hfz37_14 hfz37_2 hfz37_3 hfz37_4 hfz37_5 hfz37_6 hfz37_7 hfz37_8 hfz37_9 hfz4_0 hfz4_1 hfz4_10 hfz4_11 hfz4_12 hfz4_13 hfz4_14 hfz4_2 hfz4_3 hfz4_4 hfz4_5 hfz4_6 hfz4_7 hfz4_8 hfz4_9
      obtain ⟨kq, x3_35, rfl, HA, HJ35, BK289, HB⟩ := hcut
      cases kq with
      | zero => exact absurd HA.out (by simp [tree_stmt.j2])
      | succ kj35 =>
       have H := HA.out
       clear HA
       simp only [tree_stmt.j2] at H
       by_cases c42 : a0_13 = true
       ·subst c42
        rw [if_pos rfl] at H
        by_cases c43 : x3_35.size + 5 ≤ 9223372036854775807
        ·rw [if_pos c43] at H
         have c43b0 := eq_true c43
         have c43b1 : decide (x3_35.size + 5 ≤ 9223372036854775807) = true := decide_eq_true c43
         try have c43b2 : (9223372036854775807 < x3_35.size + 5) = False := eq_false (Nat.not_lt.2 c43)
         by_cases c44 : a0_0 = 1
         ·rw [if_pos c44] at H
          have c44b0 : (a0_0 == 1) = true := beq_iff_eq.mpr c44
          have c44b1 : (a0_0 != 1) = false := bne_eq_false_iff_eq.mpr c44
          clear c44
          by_cases c45 : a0_14 ≥ 0
          ·rw [if_pos c45] at H
           have c45b0 : decide (0 ≤ a0_14) = true := decide_eq_true c45
           clear c45
           obtain ⟨t294, A460, H⟩ := bind_out H
           have A46 := Aside0.mk A460
           clear A460
           by_cases c47 : 7 + t294.size ≤ 9223372036854775807
           ·rw [if_pos c47] at H
            have c47b0 := eq_true c47
            have c47b1 : decide (7 + t294.size ≤ 9223372036854775807) = true := decide_eq_true c47
            try have c47b2 : (9223372036854775807 < 7 + t294.size) = False := eq_false (Nat.not_lt.2 c47)
            by_cases c48 : (x3_35 ++ (⟨#[32, 68, 69, 83, 67]⟩ : ByteArray)).size + ((⟨#[32, 76, 73, 77, 73, 84, 32]⟩ : ByteArray) ++ t294).size ≤ 9223372036854775807
            ·rw [if_pos c48] at H
             have c48z : (x3_35.size + 5) + (7 + t294.size) ≤ 9223372036854775807 := by have h_ := c48; simp only [ByteArray.size_append] at h_; exact h_
             have c48y := eq_true c48z
             have c48x : decide ((x3_35.size + 5) + (7 + t294.size) ≤ 9223372036854775807) = true := decide_eq_true c48z
             have c48w : (9223372036854775807 < (x3_35.size + 5) + (7 + t294.size)) = False := eq_false (by omega)
             have c48b0 := eq_true c48
             have c48b1 : decide ((x3_35 ++ (⟨#[32, 68, 69, 83, 67]⟩ : ByteArray)).size + ((⟨#[32, 76, 73, 77, 73, 84, 32]⟩ : ByteArray) ++ t294).size ≤ 9223372036854775807) = true := decide_eq_true c48
             try have c48b2 : (9223372036854775807 < (x3_35 ++ (⟨#[32, 68, 69, 83, 67]⟩ : ByteArray)).size + ((⟨#[32, 76, 73, 77, 73, 84, 32]⟩ : ByteArray) ++ t294).size) = False := eq_false (Nat.not_lt.2 c48)
             obtain rfl := Option.some.inj H
             obtain ⟨hcz49_0, hcz49_1, hcz49_2, hcz49_3, hcz49_4, hcz49_5, hcz49_6, hcz49_7, hcz49_8, hcz49_9, hcz49_10, hcz49_11, hcz49_12, hcz49_13, hcz49_14⟩ := cells15 BK289.out
             obtain ⟨hfz49_0, hfz49_1, hfz49_2, hfz49_3, hfz49_4, hfz49_5, hfz49_6, hfz49_7, hfz49_8, hfz49_9, hfz49_10, hfz49_11, hfz49_12, hfz49_13, hfz49_14⟩ := froz15 BK289.out
             go_wp2_with (first | ((with_reducible refine gate_callee (f := 27) rfl ?_); refine goesL_ (some 70) rfl rfl Tryz.func27 (by kernel_rfl) rfl #[.int .i64 a0_14, .int .i64 10] rfl mp ?_; (with_reducible refine (strconv_FormatInt.calls a0_14 10 t294 _ ?side1 A46.out).mono ?_); (case side1 => exact Sh.below hsh bl); rintro e w50 ⟨rfl, hb⟩; refine ⟨_, rfl, ?_⟩; replace BK289 := Aside0.mk (blk_below (g := gb289) (o := .cells #[.int .i64 a0_0, .string a0_1, .slice A0_2 l0_2.length c0_2, .slice A0_3 l0_3.length c0_3, .slice A0_4 l0_4.length c0_4, .bool a0_5, .int .i64 a0_6, .string a0_7, .int .i64 a0_8, .int .i64 a0_9, .string a0_10, .slice A0_11 l0_11.length c0_11, .string a0_12, .bool true, .int .i64 a0_14] 44 (0, 0)) bk hb); replace HB := Aside0.mk (below_step bl hb); (try clear hb)))
             go_ret
             exact ⟨er, bl⟩
            ·rw [if_neg c48] at H
             exact absurd H (by simp)
           ·rw [if_neg c47] at H
            exact absurd H (by simp)
          ·rw [if_neg c45] at H
           have c45b0 : decide (0 ≤ a0_14) = false := decide_eq_false c45
           clear c45
           obtain rfl := Option.some.inj H
           obtain ⟨hcz51_0, hcz51_1, hcz51_2, hcz51_3, hcz51_4, hcz51_5, hcz51_6, hcz51_7, hcz51_8, hcz51_9, hcz51_10, hcz51_11, hcz51_12, hcz51_13, hcz51_14⟩ := cells15 BK289.out
           obtain ⟨hfz51_0, hfz51_1, hfz51_2, hfz51_3, hfz51_4, hfz51_5, hfz51_6, hfz51_7, hfz51_8, hfz51_9, hfz51_10, hfz51_11, hfz51_12, hfz51_13, hfz51_14⟩ := froz15 BK289.out
           go_wp2
           go_ret
           exact ⟨er, bl⟩
         ·rw [if_neg c44] at H
          have c44b0 : (a0_0 == 1) = false := beq_eq_false_iff_ne.mpr c44
          have c44b1 : (a0_0 != 1) = true := bne_iff_ne.mpr c44
          obtain rfl := Option.some.inj H
          obtain ⟨hcz52_0, hcz52_1, hcz52_2, hcz52_3, hcz52_4, hcz52_5, hcz52_6, hcz52_7, hcz52_8, hcz52_9, hcz52_10, hcz52_11, hcz52_12, hcz52_13, hcz52_14⟩ := cells15 BK289.out
          obtain ⟨hfz52_0, hfz52_1, hfz52_2, hfz52_3, hfz52_4, hfz52_5, hfz52_6, hfz52_7, hfz52_8, hfz52_9, hfz52_10, hfz52_11, hfz52_12, hfz52_13, hfz52_14⟩ := froz15 BK289.out
          go_wp2
          go_ret
          exact ⟨er, bl⟩
        ·rw [if_neg c43] at H
         exact absurd H (by simp)
       ·replace c42 := Bool.eq_false_iff.mpr c42
        subst c42
        rw [if_neg (show ¬ (false = true) by decide)] at H
        by_cases c53 : a0_0 = 1
        ·rw [if_pos c53] at H
         have c53b0 : (a0_0 == 1) = true := beq_iff_eq.mpr c53
         have c53b1 : (a0_0 != 1) = false := bne_eq_false_iff_eq.mpr c53
         clear c53
         by_cases c54 : a0_14 ≥ 0
         ·rw [if_pos c54] at H
          have c54b0 : decide (0 ≤ a0_14) = true := decide_eq_true c54
          clear c54
          obtain ⟨t295, A550, H⟩ := bind_out H
          have A55 := Aside0.mk A550
          clear A550
          by_cases c56 : 7 + t295.size ≤ 9223372036854775807
          ·rw [if_pos c56] at H
           have c56b0 := eq_true c56
           have c56b1 : decide (7 + t295.size ≤ 9223372036854775807) = true := decide_eq_true c56
           try have c56b2 : (9223372036854775807 < 7 + t295.size) = False := eq_false (Nat.not_lt.2 c56)
           by_cases c57 : x3_35.size + ((⟨#[32, 76, 73, 77, 73, 84, 32]⟩ : ByteArray) ++ t295).size ≤ 9223372036854775807
           ·rw [if_pos c57] at H
            have c57z : x3_35.size + (7 + t295.size) ≤ 9223372036854775807 := by have h_ := c57; simp only [ByteArray.size_append] at h_; exact h_
            have c57y := eq_true c57z
            have c57x : decide (x3_35.size + (7 + t295.size) ≤ 9223372036854775807) = true := decide_eq_true c57z
            have c57w : (9223372036854775807 < x3_35.size + (7 + t295.size)) = False := eq_false (by omega)
            have c57b0 := eq_true c57
            have c57b1 : decide (x3_35.size + ((⟨#[32, 76, 73, 77, 73, 84, 32]⟩ : ByteArray) ++ t295).size ≤ 9223372036854775807) = true := decide_eq_true c57
            try have c57b2 : (9223372036854775807 < x3_35.size + ((⟨#[32, 76, 73, 77, 73, 84, 32]⟩ : ByteArray) ++ t295).size) = False := eq_false (Nat.not_lt.2 c57)
            obtain rfl := Option.some.inj H
            obtain ⟨hcz58_0, hcz58_1, hcz58_2, hcz58_3, hcz58_4, hcz58_5, hcz58_6, hcz58_7, hcz58_8, hcz58_9, hcz58_10, hcz58_11, hcz58_12, hcz58_13, hcz58_14⟩ := cells15 BK289.out
            obtain ⟨hfz58_0, hfz58_1, hfz58_2, hfz58_3, hfz58_4, hfz58_5, hfz58_6, hfz58_7, hfz58_8, hfz58_9, hfz58_10, hfz58_11, hfz58_12, hfz58_13, hfz58_14⟩ := froz15 BK289.out
            go_wp2_with (first | ((with_reducible refine gate_callee (f := 27) rfl ?_); refine goesL_ (some 70) rfl rfl Tryz.func27 (by kernel_rfl) rfl #[.int .i64 a0_14, .int .i64 10] rfl mp ?_; (with_reducible refine (strconv_FormatInt.calls a0_14 10 t295 _ ?side1 A55.out).mono ?_); (case side1 => exact Sh.below hsh bl); rintro e w59 ⟨rfl, hb⟩; refine ⟨_, rfl, ?_⟩; replace BK289 := Aside0.mk (blk_below (g := gb289) (o := .cells #[.int .i64 a0_0, .string a0_1, .slice A0_2 l0_2.length c0_2, .slice A0_3 l0_3.length c0_3, .slice A0_4 l0_4.length c0_4, .bool a0_5, .int .i64 a0_6, .string a0_7, .int .i64 a0_8, .int .i64 a0_9, .string a0_10, .slice A0_11 l0_11.length c0_11, .string a0_12, .bool false, .int .i64 a0_14] 44 (0, 0)) bk hb); replace HB := Aside0.mk (below_step bl hb); (try clear hb)))
            go_ret
            exact ⟨er, bl⟩
           ·rw [if_neg c57] at H
            exact absurd H (by simp)
          ·rw [if_neg c56] at H
           exact absurd H (by simp)
         ·rw [if_neg c54] at H
          have c54b0 : decide (0 ≤ a0_14) = false := decide_eq_false c54
          clear c54
          obtain rfl := Option.some.inj H
          obtain ⟨hcz60_0, hcz60_1, hcz60_2, hcz60_3, hcz60_4, hcz60_5, hcz60_6, hcz60_7, hcz60_8, hcz60_9, hcz60_10, hcz60_11, hcz60_12, hcz60_13, hcz60_14⟩ := cells15 BK289.out
          obtain ⟨hfz60_0, hfz60_1, hfz60_2, hfz60_3, hfz60_4, hfz60_5, hfz60_6, hfz60_7, hfz60_8, hfz60_9, hfz60_10, hfz60_11, hfz60_12, hfz60_13, hfz60_14⟩ := froz15 BK289.out
          go_wp2
          go_ret
          exact ⟨er, bl⟩
        ·rw [if_neg c53] at H
         have c53b0 : (a0_0 == 1) = false := beq_eq_false_iff_ne.mpr c53
         have c53b1 : (a0_0 != 1) = true := bne_iff_ne.mpr c53
         obtain rfl := Option.some.inj H
         obtain ⟨hcz61_0, hcz61_1, hcz61_2, hcz61_3, hcz61_4, hcz61_5, hcz61_6, hcz61_7, hcz61_8, hcz61_9, hcz61_10, hcz61_11, hcz61_12, hcz61_13, hcz61_14⟩ := cells15 BK289.out
         obtain ⟨hfz61_0, hfz61_1, hfz61_2, hfz61_3, hfz61_4, hfz61_5, hfz61_6, hfz61_7, hfz61_8, hfz61_9, hfz61_10, hfz61_11, hfz61_12, hfz61_13, hfz61_14⟩ := froz15 BK289.out
         go_wp2
         go_ret
         exact ⟨er, bl⟩
end Go.Proofs.YtlpnlfahlcingaaGreatDoor.PL
end
