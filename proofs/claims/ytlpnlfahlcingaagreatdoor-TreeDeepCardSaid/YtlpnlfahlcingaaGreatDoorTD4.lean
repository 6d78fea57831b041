/- What part 4 of the texts under treeDeep_holds proves: contracts of functions of this seat, and plain facts about what they compute. Conditions: those that each theorem names. -/
import Derived.Test.YtlpnlfahlcingaaGreatDoorTD3
import Derived.Deep.DeepCutAuto
import Derived.Deep.RegionLaw
import Derived.Defers
import Derived.Recover
section
namespace Go.Proofs.YtlpnlfahlcingaaGreatDoor.PL
open Go.RowKit Go.Proofs.YtlpnlfahlcingaaGreatDoorW.PrintWords Go.Proofs.YtlpnlfahlcingaaGreatDoorW.PrintLast Go.Proofs.YtlpnlfahlcingaaGreatDoorW.PrintMore
set_option linter.unusedVariables false
set_option linter.unusedSimpArgs false
attribute [local go_sem] World.cell?_alloc_some
attribute [local go_sem ↓] isSome_setCell
structure LotV where
  md : Int
  n : Int
  st : List S44
def stL : List ByteArray := [(⟨#[83, 69, 76, 69, 67, 84]⟩ : ByteArray), (⟨#[73, 78, 83, 69, 82, 84]⟩ : ByteArray), (⟨#[85, 80, 68, 65, 84, 69]⟩ : ByteArray), (⟨#[68, 69, 76, 69, 84, 69]⟩ : ByteArray)]
def lotL (T : List Tok) (n m : Nat) (o : Int) : Nat → List S44 → Nat → Option (Rd (List S44))
  | 0, _, _ => none
  | j + 1, l, k =>
    if isB (tokAt T k) (⟨#[59]⟩ : ByteArray) = true then
      if beginsB T (k + 1) stL = true then
        if l.length = 8 then some (.bad (tokAt T (k + 1)).f1 3)
        else andR (stmtR T n m (k + 1) o) fun e k1 => lotL T n m o j (l ++ [e]) k1
      else some (.ok l (k + 1))
    else some (.ok l k)
def timeR (T : List Tok) (k : Nat) : Option (Rd (Int × Int)) :=
  if isB (tokAt T k) (⟨#[66, 79, 85, 78, 68]⟩ : ByteArray) = true then andR (some (intR T (k + 1))) fun n k2 => some (.ok (2, n) k2)
  else andR (some (intR T k)) fun n k2 => some (.ok (1, n) k2)
def asR (T : List Tok) (k : Nat) : Option (Rd (Int × Int)) :=
  if isB (tokAt T k) (⟨#[65, 83]⟩ : ByteArray) = true then andR (some (mustR T [(⟨#[79, 70]⟩ : ByteArray), (⟨#[83, 89, 83, 84, 69, 77]⟩ : ByteArray), (⟨#[84, 73, 77, 69]⟩ : ByteArray)] (k + 1))) fun _ k1 => timeR T k1
  else some (.ok (0, 0) k)
def endR (T : List Tok) (l : List S44) (a : Int × Int) (k : Nat) : Option (Rd LotV) :=
  if (tokAt T k).f0 = 0 then some (.ok ⟨a.1, a.2, l⟩ k) else some (.bad (tokAt T k).f1 13)
def lotB (T : List Tok) (l : List S44) (k : Nat) : Option (Rd LotV) := andR (asR T k) fun a k3 => endR T l a k3
def lotA (T : List Tok) (n m : Nat) (o : Int) (s : S44) (k : Nat) : Option (Rd LotV) := andR (lotL T n m o m [s] k) fun l k2 => lotB T l k2
def lotR (T : List Tok) (n m k : Nat) (o : Int) : Option (Rd LotV) := andR (stmtR T n m k o) fun s k1 => lotA T n m o s k1
def zl3 : Array Value := #[.int .i64 0, .int .i64 0, .slice none 0 0]
def lC (md n : Int) (v : Value) : Array Value := #[.int .i64 md, .int .i64 n, v]
def PostL (w : World) (gp gt : Nat) (r : Rd LotV) (e : Ending) (w' : World) : Prop :=
  match r with
  | .ok l k => ∃ v, e = .returned (.agg (lC l.md l.n v)) ∧ RA k44 w' (Fr w) v l.st ∧ Stay gp w w'
  | .bad p x => e = .panicked [{ v := failV p x, recovered := false }] ∧ Stay gp w w'
theorem Ga.X {α : Type} {d : Kd α} {e base gs : Nat} {w : World} {v : Value} {l : List (List Value × α)} (h : Ga d e base (fun _ => False) w v l) (hX : w.heap.size ≤ gs) : Ga d e base (· = gs) w v l :=
  ⟨h.own, fun k hk he => by have := own_lt h.own k hk; have : k = gs := he; omega, fun p hp => (h.el p hp).wide fun k hk hS => ⟨hS.1, hS.2.1, fun he => by have : k = gs := he; omega⟩⟩
theorem PostS.or' {w w' : World} {gp gt : Nat} {T : List Tok} {C : Nat} {o : Int} {r : Rd S44} {e : Ending} (h : PostS w gp gt T C o r e w') :
    (∃ p x, r = .bad p x ∧ e = .panicked [{ v := failV p x, recovered := false }] ∧ Stay gp w w') ∨
    (∃ (x : SV) (s : S44) (k : Nat), r = .ok s k ∧ e = .returned (.agg #[.int .i64 x.kd, .string x.tb, x.vi, x.vr, x.vs, .bool x.fl, .int .i64 x.e.f0, .string x.e.f1, .int .i64 x.e.f2.f0, .int .i64 x.e.f2.f1, .string x.e.f2.f2, .slice x.A x.e.f3.length x.c, .string x.od, .bool x.dn, .int .i64 x.lm]) ∧ KA k44 w' (Fr w) x.cells.toList s ∧ PS w' gp gt T C k o ∧ Stay gp w w') := PostS.or h
structure LoI (w1 : World) (gp gt : Nat) (T : List Tok) (C : Nat) (o : Int) (base gs : Nat) (md n : Int) (v : Value) (l : List S44) (k : Nat) (wc : World) : Prop where
  ps : PS wc gp gt T C k o
  st : StayB gp base w1 wc
  bs : wc.heap[gs]? = some (.cells (lC md n v) 25 (0, 0))
  ra : RA k44 wc (fun q => base ≤ q ∧ q ≠ gs) v l
section
variable {w1 wc w2 : World} {gp gt : Nat} {T : List Tok} {C : Nat} {o : Int} {base gs : Nat} {md n md' n' : Int} {v : Value} {l : List S44} {k k2 : Nat}
theorem LoI.stay (h : LoI w1 gp gt T C o base gs md n v l k wc) (hs : Stay gp wc w2) (hp : PS w2 gp gt T C k2 o) (hg : gp < base) (hb : base ≤ gs) (hl : base ≤ w1.heap.size) : LoI w1 gp gt T C o base gs md n v l k2 w2 :=
  ⟨hp, h.st.stay hs hl, hs.cells h.bs (by omega), h.ra.of (fun _ _ h => h) hs.size fun q hq h1 => hs.block q h1 (by have := hq.1; omega)⟩
theorem LoI.put (h : LoI w1 gp gt T C o base gs md n v l k wc) (hg : gp < base) (ht : gt < base) (hb : base ≤ gs) (i : Nat) (u : Value) (hc : (lC md n v).setIfInBounds i u = lC md' n' v) : LoI w1 gp gt T C o base gs md' n' v l k (wc.setCell ⟨gs, i, none⟩ u) :=
  ⟨h.ps.put_far (by omega) (by omega) (by have := h.ps.gp2; omega) i u, h.st.put hb i u, blk_put h.bs i u hc, h.ra.of (fun _ _ h => h) (by simp [World.setCell]) fun q hq _ => Below.heap_setCell wc ⟨gs, i, none⟩ u q hq.2⟩
end
set_option maxHeartbeats 16000000 in
set_option maxRecDepth 100000 in
theorem lot_calls {w : World} {gp gt : Nat} {T : List Tok} {C k : Nat} {o : Int} (hE : TE T) (hW : TW T) (h : PS w gp gt T C k o) (ho : o ≤ 200) (n m : Nat) (hm6 : m ≤ 900000) (r : Rd LotV) (hr : lotR T n m k o = some r) :
    Calls Tryz.prog 24 #[.pointer (some ⟨gp, 0, none⟩)] w (PostL w gp gt r) := by
  have HC := Aside0.mk (fun (w1 : World) (k1 : Nat) (r1 : Rd S44) (h1 : PS w1 gp gt T C k1 o) (h2 : stmtR T n m k1 o = some r1) => stmt_calls hE hW h1 ho n m hm6 r1 h2)
  have HE := Aside0.mk (And.intro hE hW)
  have H := Aside0.mk h
  have HM6 := Aside0.mk hm6
  have HM := Aside0.mk hr
  unfold lotR at HM
  clear hE hW h ho hm6 hr
  go_enter Tryz.func24, Tryz.ntmps24
  go_upto_region 1 with (fail)
  obtain ⟨g2, hg2⟩ : ∃ g, w.heap.size = g := ⟨_, rfl⟩
  have B2 := Aside0.mk (fun O : Obj => hg2 ▸ blk_new w O)
  rw [hg2]
  have N2a := Aside0.mk (show g2 ≠ gp ∧ g2 ≠ gt ∧ w.heap.size ≤ g2 ∧ 2 ≤ g2 ∧ gp < g2 ∧ gt < g2 by have := H.out.gt_lt; have := blk_lt H.out.box; have := H.out.gp2; omega)
  clear hg2
  refine at_world (fun w1 => Aside0 (PS w1 gp gt T C k o ∧ Stay gp w w1 ∧ w1.heap[g2]? = some (.cells zl3 25 (0, 0)))) ⟨H.out.step (below_alloc (Below.refl _ _) _), (Stay.refl gp w).step (below_alloc (Below.refl _ _) _), B2.out _⟩ (fun w1 H1 => ?_)
  obtain ⟨base, hbase⟩ : ∃ g, w1.heap.size = g := ⟨_, rfl⟩
  have N2 := Aside0.mk (show gp < base ∧ gt < base ∧ g2 < base ∧ 2 ≤ base ∧ w1.heap.size = base ∧ base ≤ w1.heap.size ∧ w.heap.size ≤ base by have := blk_lt H1.out.2.2; have := N2a.out; omega)
  clear hbase
  obtain ⟨r1, hq⟩ := andR_some HM.out
  have HQ := Aside0.mk hq
  clear hq
  go_upto_block 0 with (go_at_call 36; refine (HC.out w1 _ _ H1.out.1 HQ.out).mono ?_; intro e w5 hp; rcases PostS.or' hp with ⟨p, z, hr1, rfl, hst⟩ | ⟨x, s, k5, hr1, rfl, hka, hps, hst⟩; (have hm := HM.out; rw [HQ.out, hr1] at hm; obtain rfl := andR_bad hm; exact ⟨rfl, rfl, H1.out.2.1.trans hst⟩); have H5 := Aside0.mk (And.intro hr1 (And.intro hka (And.intro hps (hst.low (Nat.le_of_eq N2.out.2.2.2.2.1.symm))))); have HZ := Aside0.mk hst.size; clear hr1 hka hps hst hp)
  have hm := HM.out
  rw [HQ.out, H5.out.1] at hm
  have HM2 := Aside0.mk (andR_ok hm)
  unfold lotA at HM2
  clear hm HM HQ
  have hsz : (w5.alloc (.cells x.cells 44 (0, 0))).heap.size = w5.heap.size + 1 := size_alloc1 _ _
  obtain ⟨gs, hgs⟩ : ∃ g, w5.heap.size + 1 = g := ⟨_, rfl⟩
  have hle5 : base ≤ w5.heap.size := by have := HZ.out; have := N2.out; omega
  have N3 := Aside0.mk (show gp < gs ∧ gt < gs ∧ g2 < gs ∧ base ≤ gs ∧ 2 ≤ gs ∧ base ≤ w5.heap.size by have := N2.out; omega)
  have BG := Aside0.mk (fun O : Obj => (show ((w5.alloc (.cells x.cells 44 (0, 0))).alloc O).heap[gs]? = some O by have := blk_new (w5.alloc (.cells x.cells 44 (0, 0))) O; rwa [hsz, hgs] at this))
  have GA := Aside0.mk (((Ga.one (w := w5) (d := k44) (e := 44) (base := base) (X := fun _ => False) (cs := x.cells.toList) (x := s) hle5 rfl (fun _ _ h => h) (H5.out.2.1.wide fun q _ h => ⟨by unfold Fr at h; have := N2.out; omega, fun h => h⟩)).X (gs := gs) (by rw [hsz]; omega)).below (below_alloc (Below.refl _ _) (.cells (lC 0 0 (.slice (some ⟨w5.heap.size, 0, none⟩) 1 1)) 25 (0, 0))))
  rw [hgs]
  clear hgs hsz hle5
  refine at_world (fun w6 => Aside0 (PS w6 gp gt T C k5 o ∧ StayB gp base w1 w6 ∧ w6.heap[gs]? = some (.cells (lC 0 0 (.slice (some ⟨w5.heap.size, 0, none⟩) 1 1)) 25 (0, 0)) ∧ Ga k44 44 base (· = gs) w6 (.slice (some ⟨w5.heap.size, 0, none⟩) 1 1) [(x.cells.toList, s)]))
    ⟨(H5.out.2.2.1.step (below_alloc (Below.refl _ _) _)).step (below_alloc (Below.refl _ _) _), (H5.out.2.2.2.step (below_alloc (Below.refl _ _) _) N2.out.2.2.2.2.2.1).step (below_alloc (Below.refl _ _) _) N2.out.2.2.2.2.2.1, BG.out _, GA.out⟩ (fun w6 H6 => ?_)
  obtain ⟨v0, hv0⟩ : ∃ v, Value.slice (some ⟨w5.heap.size, 0, none⟩) 1 1 = v := ⟨_, rfl⟩
  rw [hv0] at H6
  clear hv0 GA BG HZ H5
  go_wp2_with (fail)
  go_loopg [14] m (fun kq vq w' => ∃ (l : List (List Value × S44)) (kk : Nat) (v : Value), Aside0 (PS w' gp gt T C kk o ∧ StayB gp base w1 w' ∧ w'.heap[gs]? = some (.cells (lC 0 0 v) 25 (0, 0)) ∧ Ga k44 44 base (· = gs) w' v l ∧ l.length + kq ≤ m + 1 ∧ andR (lotL T n m o kq (l.map (·.2)) kk) (fun l k2 => lotB T l k2) = some r))
  case atStart => exact ⟨[(x.cells.toList, s)], k5, v0, ⟨H6.out.1, H6.out.2.1, H6.out.2.2.1, H6.out.2.2.2, by simp; omega, HM2.out⟩⟩
  case round =>
  obtain ⟨l, kk, v, HJ⟩ := hrel
  clear H6 HM2
  have hr := HJ.out.2.2.2.2.2
  have hln := HJ.out.2.2.2.2.1
  cases gk with
  | zero => obtain ⟨_, h⟩ := andR_some hr; cases h
  | succ kq =>
  obtain ⟨Av, cv, rfl⟩ := own_slice' HJ.out.2.2.2.1.own
  obtain ⟨bs, hbs⟩ : ∃ b, isB (tokAt T kk) (⟨#[59]⟩ : ByteArray) = b := ⟨_, rfl⟩
  obtain ⟨bg, hbg⟩ : ∃ b, beginsB T (kk + 1) stL = b := ⟨_, rfl⟩
  unfold lotL at hr
  rw [hbs, hbg, List.length_map] at hr
  have HM := Aside0.mk hr
  have HS := Aside0.mk (And.intro hbs (fun h : bs = true => HE.out.1 kk HJ.out.1.at_ (by have := isB_kind (hbs.trans h); omega)))
  have HG := Aside0.mk hbg
  clear hr hbs hbg
  go_upto_region 2 with (fail)
  go_cut [14] (fun vq wc => vq = .bool (bs && bg) ∧ Aside0 (PS wc gp gt T C (if bs = true then kk + 1 else kk) o ∧ StayB gp base w1 wc ∧ wc.heap[gs]? = some (.cells (lC 0 0 (.slice Av l.length cv)) 25 (0, 0)) ∧ Ga k44 44 base (· = gs) wc (.slice Av l.length cv) l))
  case first =>
    cases bs with
    | true =>
      go_wp2_with (first | (go_at_call 37; refine (take_yes HJ.out.1 _ HS.out.1 (HS.out.2 rfl)).mono ?_; rintro e w11 ⟨rfl, hps, hst⟩; have H11 := Aside0.mk (And.intro hps (And.intro (HJ.out.2.1.stay hst N2.out.2.2.2.2.2.1) (And.intro (hst.cells HJ.out.2.2.1 (Nat.ne_of_gt N3.out.1)) (HJ.out.2.2.2.1.stay hst N2.out.1)))); clear hps hst) | (go_at_call 38; refine (begins_calls (H11.out.1.step (below_alloc (Below.refl _ _) _)) stL w11.heap.size (strs_of (blk_new _ _)) (by decide)).mono ?_; rw [HG.out]; rintro e w12 ⟨rfl, he⟩; replace he := he.symm; subst he))
      go_meet
      case rel => exact ⟨by simp, ⟨H11.out.1.step (below_alloc (Below.refl _ _) _), H11.out.2.1.step (below_alloc (Below.refl _ _) _) N2.out.2.2.2.2.2.1, blk_alloc H11.out.2.2.1 _, H11.out.2.2.2.below (below_alloc (Below.refl _ _) _)⟩⟩
    | false =>
      go_wp2_with (go_at_call 37; refine (take_no HJ.out.1 _ HS.out.1).mono ?_; rintro e w11 ⟨rfl, he⟩; replace he := he.symm; subst he)
      go_meet
      case rel => exact ⟨by simp, ⟨HJ.out.1, HJ.out.2.1, HJ.out.2.2.1, HJ.out.2.2.2.1⟩⟩
  case rest =>
  obtain ⟨rfl, H13⟩ := hcut
  clear HJ HS HG
  by_cases hb : (bs && bg) = true
  · rw [hb]
    have hb2 : bs = true ∧ bg = true := by simpa using hb
    have hm := HM.out
    rw [if_pos hb2.1, if_pos hb2.2] at hm
    have H14 : Aside0 (PS wc gp gt T C (kk + 1) o ∧ StayB gp base w1 wc ∧ wc.heap[gs]? = some (.cells (lC 0 0 (.slice Av l.length cv)) 25 (0, 0)) ∧ Ga k44 44 base (· = gs) wc (.slice Av l.length cv) l) := ⟨by have := H13.out; rw [if_pos hb2.1] at this; exact this⟩
    have HM3 := Aside0.mk hm
    clear hm H13 HM hb hb2
    have C2 := (blk_cell H14.out.2.2.1 2).trans rfl
    simp [lC] at C2
    by_cases hl6 : l.length = 8
    · have hm := HM3.out
      rw [if_pos hl6] at hm
      obtain rfl := andR_bad hm
      have e6 : ((l.length : Int) == 8) = true := by rw [hl6]; rfl
      clear hm hl6
      go_wp2_with (go_at_call 39; refine (wrong_calls H14.out.1 3).mono ?_; rintro e w8 ⟨rfl, rfl⟩; exact ⟨rfl, rfl, H14.out.2.1.whole H1.out.2.1 N2.out.2.2.2.2.2.2⟩)
    · have hm := HM3.out
      rw [if_neg hl6] at hm
      have e6 : ((l.length : Int) == 8) = false := by simp; omega
      clear hl6
      obtain ⟨r1, hq1⟩ := andR_some hm
      obtain ⟨r0, hq0⟩ := andR_some hq1
      rw [hq0] at hm
      have HM := Aside0.mk hm
      have HQ0 := Aside0.mk hq0
      clear hm hq0 hq1 HM3
      go_upto_region 5 with (fail)
      have L7 := blk_lt H14.out.2.2.1
      have hlw : base ≤ wc.heap.size := by have := N3.out; omega
      go_region_law (first | (go_simp; go_at_call 36; refine (HC.out _ _ _ (H14.out.1.step (below_drew (Below.refl _ _))) HQ0.out).mono ?_; intro e w9 hp; rcases PostS.or' hp with ⟨p, z, hr1, rfl, hs⟩ | ⟨x, s, k3, hr1, rfl, hka, hps, hst⟩; (subst hr1; obtain rfl := Option.some.inj (show some (Rd.bad p z) = some r from HM.out); exact ⟨rfl, rfl, ((H14.out.2.1.step (below_drew (Below.refl _ _)) N2.out.2.2.2.2.2.1).stay hs N2.out.2.2.2.2.2.1).whole H1.out.2.1 N2.out.2.2.2.2.2.2⟩); subst hr1; have b9 := hst.cells (blk_drew H14.out.2.2.1) (Nat.ne_of_gt N3.out.1); have C4 := (blk_cell b9 2).trans rfl; simp [lC] at C4; have hst2 := (Below.stay (below_drew (Below.refl _ wc)) gp).trans hst; obtain ⟨⟨A1, c1, e1⟩, ⟨A2, c2, e2⟩, ⟨A3, c3, e3⟩⟩ := SV.slices hka; have HX := Aside0.mk (And.intro e1 (And.intro e2 e3)); have H10 := Aside0.mk (And.intro hka (And.intro hps (And.intro hst2 (And.intro b9 (H14.out.2.2.2.stay hst2 N2.out.1))))); have hbw9 : base ≤ w9.heap.size := Nat.le_trans hlw hst2.size; clear hka hps hst hst2 b9 hp e1 e2 e3) | ((refine step_append_cells (w0 := w9) (W := w9) base (by rfl) (.tmp 22) (.tmp 25) 23 44 (.agg #[.int .i64 0, .string ⟨#[]⟩, .slice none 0 0, .slice none 0 0, .slice none 0 0, .bool false, .int .i64 0, .string ⟨#[]⟩, .int .i64 0, .int .i64 0, .string ⟨#[]⟩, .slice none 0 0, .string ⟨#[]⟩, .bool false, .int .i64 0]) 15 216 (by rfl) Tryz.underlying23 (by kernel_rfl) (by rfl) (by omega) (by omega) (.slice Av l.length cv) l.length _ x.cells.toList (by rfl) (by rfl) (by rfl) (by simp [SV.cells, Value.oneCell', HX.out.1, HX.out.2.1, HX.out.2.2]) H10.out.2.2.2.2.own (Below.refl _ _) hbw9 (by have := HM6.out; omega) ?_; intro v1 w10 hown hbe hgr hob; obtain ⟨A1, n1, q1, rfl⟩ := own_slice hown; have b10 := blk_grown H10.out.2.2.2.1 hgr (own_ne H10.out.2.2.2.2.own H10.out.2.2.2.1 (by decide)); have F4 := blk_frozen b10 2; have D4 := (blk_cell b10 2).trans rfl; simp [lC] at D4; have H11 := Aside0.mk (And.intro b10 (And.intro hown (And.intro hgr hob))); clear b10 hown hgr hob hbe C4)))
      all_goals
        go_wp2
        have hgr := H11.out.2.2.1
        have hG10 := H10.out.2.2.2.2
        have hown9 := fun q (hq : (Value.slice Av l.length cv).ownBlock = some q) => own_base hG10.own q hq
        have hps9 : PS w10 gp gt T C k3 o := H10.out.2.1.grown hgr fun q hq => ⟨by have := hown9 q hq; have := N2.out; omega, fun e => by
          obtain ⟨cur, hb, _⟩ := H10.out.2.1.toks
          exact own_ne hG10.own hb (by decide) (by rw [hq, e]), by have := hown9 q hq; have := N2.out; omega⟩
        have hown8 := H14.out.2.2.2.own
        have hka9 : KA k44 w9 (fun k => base ≤ k ∧ some k ≠ (Value.slice Av l.length cv).ownBlock ∧ ¬ (k = gs)) x.cells.toList s :=
          H10.out.1.wide fun q hq hS => by
            have hS' : wc.heap.size ≤ q := hS
            exact ⟨by omega, fun e => by have := own_lt hown8 q e.symm; omega, fun e => by omega⟩
        have hga := Ga.app hG10 hka9 H11.out.2.1 hgr H11.out.2.2.2 (fun q hq e => by have := blk_lt H10.out.2.2.2.1; omega)
        go_roundg kq
        case measure => omega
        case rel => exact ⟨_, k3, .slice A1 n1 q1, ⟨hps9.put_far (by have := N3.out; omega) (by have := N3.out; omega) N3.out.2.2.2.2.1 2 _, ((H14.out.2.1.stay H10.out.2.2.1 N2.out.2.2.2.2.2.1).grown hgr hown9 hbw9).put N3.out.2.2.2.1 2 _, blk_put H11.out.1 2 _ (by simp [lC]), hga.put rfl 2 _, by simp; omega, by rw [List.map_append]; exact HM.out⟩⟩
  · have hb' : (bs && bg) = false := by simpa using hb
    rw [hb']
    have hll : l.length ≤ 1000000 := by have := HM6.out; omega
    have hm : lotB T (l.map (·.2)) (if bs = true then kk + 1 else kk) = some r := by
      have hm := HM.out
      cases bs with
      | false => exact hm
      | true => cases bg with
        | false => exact hm
        | true => exact absurd rfl hb
    obtain ⟨k7, hk7⟩ : ∃ k7, (if bs = true then kk + 1 else kk) = k7 := ⟨_, rfl⟩
    rw [hk7] at hm H13
    have HM3 := Aside0.mk hm
    unfold lotB asR at HM3
    have H14 : Aside0 (LoI w1 gp gt T C o base gs 0 0 (.slice Av l.length cv) (l.map (·.2)) k7 wc) := ⟨H13.out.1, H13.out.2.1, H13.out.2.2.1, H13.out.2.2.2.ra hll⟩
    obtain ⟨b, hba⟩ : ∃ b, isB (tokAt T k7) (⟨#[65, 83]⟩ : ByteArray) = b := ⟨_, rfl⟩
    have HB := Aside0.mk hba
    obtain ⟨wd, hwd⟩ : ∃ x, wc = x := ⟨_, rfl⟩
    rw [hwd] at H14 ⊢
    clear hm H13 HM hb hb' hk7 hba hwd
    go_upto_if 29 with (go_at_call 37; refine (take_any HE.out.1 H14.out.ps _).mono ?_; rw [HB.out]; rintro e w15 ⟨rfl, hps, hst⟩; have H15 := Aside0.mk (H14.out.stay hst hps N2.out.1 N3.out.2.2.2.1 N2.out.2.2.2.2.2.1); clear hps hst)
    go_cut [3] (fun v3 wc => v3 = .pointer (some ⟨gs, 0, none⟩) ∧ ∃ (a : Int × Int) (kk : Nat), Aside0 (LoI w1 gp gt T C o base gs a.1 a.2 (.slice Av l.length cv) (l.map (·.2)) kk wc ∧ endR T (l.map (·.2)) a kk = some r))
    case first =>
      cases b with
      | true =>
        have hm := HM3.out
        rw [if_pos HB.out] at hm
        have HM4 := Aside0.mk hm
        have H16 : Aside0 (LoI w1 gp gt T C o base gs 0 0 (.slice Av l.length cv) (l.map (·.2)) (k7 + 1) w15) := ⟨H15.out⟩
        clear hm HM3
        go_upto_region 8 with (go_at_call 40; refine (must_calls HE.out.1 (H16.out.ps.step (below_alloc (Below.refl _ _) _)) [(⟨#[79, 70]⟩ : ByteArray), (⟨#[83, 89, 83, 84, 69, 77]⟩ : ByteArray), (⟨#[84, 73, 77, 69]⟩ : ByteArray)] w15.heap.size (strs_of (blk_new _ _)) (Nat.ne_of_gt (blk_lt H16.out.ps.box)) (by simp) (by simp)).mono ?_; intro e w16 hp; rcases PostV.or hp with ⟨p, z, hr1, rfl, hst⟩ | ⟨_, k6, hr1, rfl, hps, hst⟩; (have hm := HM4.out; rw [hr1] at hm; obtain rfl := Option.some.inj (show some (Rd.bad p z) = some r from hm); exact ⟨rfl, rfl, ((H16.out.st.step (below_alloc (Below.refl _ _) _) N2.out.2.2.2.2.2.1).stay hst N2.out.2.2.2.2.2.1).whole H1.out.2.1 N2.out.2.2.2.2.2.2⟩); have H17 := Aside0.mk (And.intro hr1 (H16.out.stay ((Below.stay (below_alloc (Below.refl _ _) _) gp).trans hst) hps N2.out.1 N3.out.2.2.2.1 N2.out.2.2.2.2.2.1)); clear hr1 hps hst hp)
        have hm := HM4.out
        rw [H17.out.1] at hm
        replace hm : andR (timeR T k6) (fun a k3 => endR T (l.map (·.2)) a k3) = some r := hm
        have HM5 := Aside0.mk hm
        clear hm HM4
        have D0 := (blk_cell H17.out.2.bs 0).trans rfl
        have E0 := blk_frozen H17.out.2.bs 0
        simp [lC] at D0
        go_upto_region 9 with (fail)
        refine at_world (fun w17 => Aside0 (LoI w1 gp gt T C o base gs 1 0 (.slice Av l.length cv) (l.map (·.2)) k6 w17)) ⟨H17.out.2.put N2.out.1 N2.out.2.1 N3.out.2.2.2.1 0 _ (by simp [lC])⟩ (fun w17 H18 => ?_)
        clear D0 E0 H17 H16 H15
        obtain ⟨bd, hbd⟩ : ∃ b, isB (tokAt T k6) (⟨#[66, 79, 85, 78, 68]⟩ : ByteArray) = b := ⟨_, rfl⟩
        have HBD := Aside0.mk hbd
        clear hbd
        have hm := HM5.out
        unfold timeR at hm
        rw [HBD.out] at hm
        have HM6b := Aside0.mk hm
        clear hm HM5
        cases bd with
        | true =>
          have HM7 : Aside0 (andR (andR (some (intR T (k6 + 1))) fun n k2 => some (Rd.ok ((2 : Int), n) k2)) (fun a k3 => endR T (l.map (·.2)) a k3) = some r) := ⟨HM6b.out⟩
          clear HM6b
          go_upto_region 11 with (go_at_call 37; refine (take_any HE.out.1 H18.out.ps _).mono ?_; rw [HBD.out]; rintro e w18 ⟨rfl, hps, hst⟩; have H19 := Aside0.mk (H18.out.stay hst hps N2.out.1 N3.out.2.2.2.1 N2.out.2.2.2.2.2.1); have D0 := (blk_cell H19.out.bs 0).trans rfl; have E0 := blk_frozen H19.out.bs 0; simp [lC] at D0; clear hps hst)
          refine at_world (fun w19 => Aside0 (LoI w1 gp gt T C o base gs 2 0 (.slice Av l.length cv) (l.map (·.2)) (k6 + 1) w19)) ⟨H19.out.put N2.out.1 N2.out.2.1 N3.out.2.2.2.1 0 _ (by simp [lC])⟩ (fun w19 H20 => ?_)
          clear D0 E0 H19 H18
          go_wp2_with (go_at_call 41; refine (int_calls HE.out.1 H20.out.ps).mono ?_; intro e w20 hp; rcases PostV.or hp with ⟨p, z, hr1, rfl, hst⟩ | ⟨nn, k8, hr1, rfl, hps, hst⟩; (have hm := HM7.out; rw [hr1] at hm; obtain rfl := Option.some.inj (show some (Rd.bad p z) = some r from hm); exact ⟨rfl, rfl, (H20.out.st.stay hst N2.out.2.2.2.2.2.1).whole H1.out.2.1 N2.out.2.2.2.2.2.2⟩); have H21 := Aside0.mk (And.intro hr1 (H20.out.stay hst hps N2.out.1 N3.out.2.2.2.1 N2.out.2.2.2.2.2.1)); have D1 := (blk_cell H21.out.2.bs 1).trans rfl; have E1 := blk_frozen H21.out.2.bs 1; simp [lC] at D1; clear hr1 hps hst hp)
          go_meet
          case rel => exact ⟨rfl, (2, nn), k8, ⟨H21.out.2.put N2.out.1 N2.out.2.1 N3.out.2.2.2.1 1 _ (by simp [lC]), by have hm := HM7.out; rw [H21.out.1] at hm; exact hm⟩⟩
        | false =>
          have HM7 : Aside0 (andR (andR (some (intR T k6)) fun n k2 => some (Rd.ok ((1 : Int), n) k2)) (fun a k3 => endR T (l.map (·.2)) a k3) = some r) := ⟨by have h := HM6b.out; rw [if_neg (by simp)] at h; exact h⟩
          clear HM6b
          go_upto_region 11 with (go_at_call 37; refine (take_any HE.out.1 H18.out.ps _).mono ?_; rw [HBD.out]; rintro e w18 ⟨rfl, hps, hst⟩; have H19 := Aside0.mk (H18.out.stay hst hps N2.out.1 N3.out.2.2.2.1 N2.out.2.2.2.2.2.1); clear hps hst)
          have H20 : Aside0 (LoI w1 gp gt T C o base gs 1 0 (.slice Av l.length cv) (l.map (·.2)) k6 w18) := ⟨H19.out⟩
          clear H19 H18
          go_wp2_with (go_at_call 41; refine (int_calls HE.out.1 H20.out.ps).mono ?_; intro e w20 hp; rcases PostV.or hp with ⟨p, z, hr1, rfl, hst⟩ | ⟨nn, k8, hr1, rfl, hps, hst⟩; (have hm := HM7.out; rw [hr1] at hm; obtain rfl := Option.some.inj (show some (Rd.bad p z) = some r from hm); exact ⟨rfl, rfl, (H20.out.st.stay hst N2.out.2.2.2.2.2.1).whole H1.out.2.1 N2.out.2.2.2.2.2.2⟩); have H21 := Aside0.mk (And.intro hr1 (H20.out.stay hst hps N2.out.1 N3.out.2.2.2.1 N2.out.2.2.2.2.2.1)); have D1 := (blk_cell H21.out.2.bs 1).trans rfl; have E1 := blk_frozen H21.out.2.bs 1; simp [lC] at D1; clear hr1 hps hst hp)
          go_meet
          case rel => exact ⟨rfl, (1, nn), k8, ⟨H21.out.2.put N2.out.1 N2.out.2.1 N3.out.2.2.2.1 1 _ (by simp [lC]), by have hm := HM7.out; rw [H21.out.1] at hm; exact hm⟩⟩
      | false =>
        have hm := HM3.out
        rw [if_neg (by rw [HB.out]; simp)] at hm
        have HM4 := Aside0.mk (andR_ok hm)
        have H16 : Aside0 (LoI w1 gp gt T C o base gs 0 0 (.slice Av l.length cv) (l.map (·.2)) k7 w15) := ⟨H15.out⟩
        clear hm
        go_wp2
        go_meet
        case rel => exact ⟨rfl, (0, 0), k7, ⟨H16.out, HM4.out⟩⟩
    case rest =>
    obtain ⟨rfl, a, k8, H16⟩ := hcut
    clear H14 HM3 HB
    obtain ⟨t, ht, t0, t1, t2, t3⟩ := H16.out.1.ps.tok
    have Ht := Aside0.mk (tokAt_of ht)
    have c0 := H16.out.1.ps.c0
    have hl : 0 < T.length - k8 := by have := H16.out.1.ps.at_; omega
    have hm := H16.out.2
    unfold endR at hm
    rw [Ht.out] at hm
    have HM4 := Aside0.mk hm
    clear ht hm
    by_cases hz : t.f0 = 0
    · have hm := HM4.out
      rw [if_pos hz] at hm
      obtain rfl := Option.some.inj hm
      have hzb : (t.f0 != 0) = false := by simp [hz]
      clear hm hz
      have q := fun i => blk_cell H16.out.1.bs i
      have q0 := (q 0).trans rfl
      have q1 := (q 1).trans rfl
      have q2 := (q 2).trans rfl
      clear q
      simp [lC] at q0 q1 q2
      go_wp2_with (with_reducible refine gate_store (t := 25) (p := 2) rfl ?_; refine Hold.out ?_)
      refine ⟨?_⟩
      have hb2 := H16.out.1.st.cells H1.out.2.2 N2.out.2.2.1 N2a.out.1
      refine wpList_store_row rfl 25 _ _ rfl g2 (lC a.1 a.2 (.slice Av l.length cv)) rfl rfl 25 zl3 hb2 (by kernel_rfl) rfl (by simp [lC, Value.oneCell']) ?_
      go_wp2
      refine bodyPost_ret (results_c rfl _ _ g2 25 _ (0,0) _ rfl (setRow_heap _ _ _ _ _ _ hb2) Tryz.underlying25 rfl (by kernel_rfl)) rfl ?_
      exact ⟨_, rfl, H16.out.1.ra.of (fun q _ h => by have := h.1; have := N2.out; unfold Fr; omega) (by simp) (fun q h1 _ => setRow_other _ _ _ _ (by have := h1.1; have := N2.out; omega)), (H16.out.1.st.whole H1.out.2.1 N2.out.2.2.2.2.2.2).row N2a.out.2.2.1 _⟩
    · have hm := HM4.out
      rw [if_neg hz] at hm
      obtain rfl := Option.some.inj hm
      have hzb : (t.f0 != 0) = true := by simp [hz]
      clear hm hz
      go_wp2_with (go_at_call 39; refine (wrong_calls H16.out.1.ps 13).mono ?_; rintro e w8 ⟨rfl, rfl⟩; exact ⟨rfl, by rw [Ht.out], H16.out.1.st.whole H1.out.2.1 N2.out.2.2.2.2.2.2⟩)
end Go.Proofs.YtlpnlfahlcingaaGreatDoor.PL
end
section
namespace Go.Proofs.YtlpnlfahlcingaaGreatDoor.PL
open Go.RowKit Go.Proofs.YtlpnlfahlcingaaGreatDoorW.PrintWords Go.Proofs.YtlpnlfahlcingaaGreatDoorW.PrintLast Go.Proofs.YtlpnlfahlcingaaGreatDoorW.PrintMore
set_option linter.unusedVariables false
set_option linter.unusedSimpArgs false
attribute [local go_sem] World.cell?_alloc_some
attribute [local go_sem ↓] isSome_setCell
structure Stay3 (g2 g3 g4 : Nat) (w w' : World) : Prop where
  os : w'.os = w.os
  tape : w'.tape = w.tape
  output : w'.output = w.output
  size : w.heap.size ≤ w'.heap.size
  block : ∀ k, k < w.heap.size → k ≠ g2 → k ≠ g3 → k ≠ g4 → w'.heap[k]? = w.heap[k]?
theorem Stay3.put {g2 g3 g4 g : Nat} {a b : World} (h : Stay3 g2 g3 g4 a b) (hg : g = g2 ∨ g = g3 ∨ g = g4) (i : Nat) (u : Value) : Stay3 g2 g3 g4 a (b.setCell ⟨g, i, none⟩ u) :=
  ⟨h.os, h.tape, h.output, by rw [show (b.setCell ⟨g, i, none⟩ u).heap.size = b.heap.size by simp [World.setCell]]; exact h.size, fun k hk h1 h2 h3 => (Below.heap_setCell b ⟨g, i, none⟩ u k (by dsimp only; omega)).trans (h.block k hk h1 h2 h3)⟩
theorem Stay3.step {g2 g3 g4 : Nat} {a b c : World} (h : Stay3 g2 g3 g4 a b) (k : Below b.heap.size b c) : Stay3 g2 g3 g4 a c :=
  ⟨k.os.trans h.os, k.tape.trans h.tape, k.output.trans h.output, Nat.le_trans h.size k.size, fun i hi h1 h2 h3 => (k.block i (Nat.lt_of_lt_of_le hi h.size)).trans (h.block i hi h1 h2 h3)⟩
set_option maxHeartbeats 8000000 in
set_option maxRecDepth 100000 in
theorem catch_idle {w : World} (a0 a1 a2 : Value) :
    CallsD Tryz.prog 23 #[a0, a1, a2] .returning w fun e u' w' => e = .returned (.tuple #[]) ∧ u' = .returning ∧ w' = w := by
  refine callsD_of_wpS Tryz.func23 rfl fun c₀ cs hu => ?_
  apply wpS_seq
  apply wpS_region
  simp [wpOpsS, go_sem, recoverD, hu, Tryz.ntmps23, Exit.thenS]
  apply wpS_seq
  apply wpS_region
  simp [wpOpsS, go_sem, Exit.thenS]
  refine wpS_cond (t := false) (by simp [Act.eval, Array.replicate]) ?_
  simp only [Bool.false_eq_true, if_false]
  refine wpS_of_wp (wp_skip ?_)
  cases c₀
  simp_all [bodyPostS, results, Tryz.results23]
set_option maxHeartbeats 8000000 in
set_option maxRecDepth 100000 in
theorem catch_calls {w : World} {g2 g3 g4 : Nat} {c2 : Array Value} {i3 i4 : Int} (p x : Int) (h2 : w.heap[g2]? = some (.cells c2 25 (0, 0))) (hc : c2.size = 3) (h3 : w.heap[g3]? = some (.cells #[.int .i64 i3] 3 (0, 0))) (h4 : w.heap[g4]? = some (.cells #[.int .i64 i4] 26 (0, 0))) :
    CallsD Tryz.prog 23 #[.pointer (some ⟨g2, 0, none⟩), .pointer (some ⟨g3, 0, none⟩), .pointer (some ⟨g4, 0, none⟩)] (.panicking [{ v := failV p x, recovered := false }]) w fun e u' w' =>
      e = .returned (.tuple #[]) ∧ u' = .panicking [{ v := failV p x, recovered := true }] ∧ Stay3 g2 g3 g4 w w' ∧ w'.heap[g2]? = some (.cells zl3 25 (0, 0)) ∧ w'.heap[g3]? = some (.cells #[.int .i64 p] 3 (0, 0)) ∧ w'.heap[g4]? = some (.cells #[.int .i64 x] 26 (0, 0)) := by
  refine callsD_of_wpS Tryz.func23 rfl fun c₀ cs hu => ?_
  apply wpS_seq
  apply wpS_region
  simp [wpOpsS, go_sem, recoverD, hu, Tryz.ntmps23, Exit.thenS, failV]
  apply wpS_seq
  apply wpS_region
  simp [wpOpsS, go_sem, Exit.thenS]
  refine wpS_cond (t := true) (by simp [Act.eval, Array.replicate]) ?_
  simp only [if_true]
  refine wpS_of_wp ?_
  change Code.wp _ _ _ { tmps := #[.pointer (some ⟨g2, 0, none⟩), .pointer (some ⟨g3, 0, none⟩), .pointer (some ⟨g4, 0, none⟩), Value.iface 57 (Value.agg #[Value.int IntKind.i64 p, Value.int IntKind.i64 x]), undef, Value.iface 57 (Value.agg #[Value.int IntKind.i64 p, Value.int IntKind.i64 x]), Value.iface 57 (Value.agg #[Value.int IntKind.i64 p, Value.int IntKind.i64 x]), .bool true, undef, undef, undef, undef, undef, undef, undef], defers := [] } w
  obtain ⟨a0, a1, a2, rfl⟩ : ∃ a0 a1 a2, c2 = #[a0, a1, a2] := by
    obtain ⟨l⟩ := c2
    match l, hc with
    | [a, b, c], _ => exact ⟨a, b, c, rfl⟩
  have l2 := blk_lt h2
  have l3 := blk_lt h3
  have l4 := blk_lt h4
  have n23 := blk_ne h2 h3 (by decide)
  have n24 := blk_ne h2 h4 (by decide)
  have n34 := blk_ne h3 h4 (by decide)
  have H := Aside0.mk (And.intro h2 (And.intro h3 h4))
  have a20 := (blk_cell h2 0).trans rfl
  have a21 := (blk_cell h2 1).trans rfl
  have a22 := (blk_cell h2 2).trans rfl
  have f20 := blk_frozen h2 0
  have f21 := blk_frozen h2 1
  have f22 := blk_frozen h2 2
  have a30 := (blk_cell h3 0).trans rfl
  have f30 := blk_frozen h3 0
  have a40 := (blk_cell h4 0).trans rfl
  have f40 := blk_frozen h4 0
  simp at a20 a21 a22 a30 a40
  clear h2 h3 h4
  have hta : ∀ W : World, (Instr.typeAssert (Value.iface 57 (Value.agg #[Value.int IntKind.i64 p, Value.int IntKind.i64 x])) 20 57 false).run Tryz.prog W = .ok (Value.agg #[Value.int IntKind.i64 p, Value.int IntKind.i64 x]) W := fun W => by kernel_rfl
  go_upto_region 3 with (fail)
  obtain ⟨g5, hg5⟩ : ∃ g, w.heap.size = g := ⟨_, rfl⟩
  have N5 := Aside0.mk (show g5 ≠ g2 ∧ g5 ≠ g3 ∧ g5 ≠ g4 ∧ w.heap.size ≤ g5 by omega)
  have hb5 : (w.alloc (.cells #[Value.int .i64 p, Value.int .i64 x] 57 (0, 0))).heap[g5]? = some (.cells #[Value.int .i64 p, Value.int .i64 x] 57 (0, 0)) := hg5 ▸ blk_new w _
  have a50 := (blk_cell hb5 0).trans rfl
  have a51 := (blk_cell hb5 1).trans rfl
  simp at a50 a51
  rw [hg5]
  have HW := Aside0.mk (show (∀ k, k < w.heap.size → (w.alloc (.cells #[Value.int .i64 p, Value.int .i64 x] 57 (0, 0))).heap[k]? = w.heap[k]?) ∧ Stay3 g2 g3 g4 w (w.alloc (.cells #[Value.int .i64 p, Value.int .i64 x] 57 (0, 0))) by
    have hb := below_alloc (Below.refl w.heap.size w) (.cells #[Value.int .i64 p, Value.int .i64 x] 57 (0, 0))
    exact ⟨fun k hk => hb.block k hk, hb.os, hb.tape, hb.output, hb.size, fun k hk _ _ _ => hb.block k hk⟩)
  clear hg5 hb5
  obtain ⟨w5, hw5⟩ : ∃ w5, w.alloc (.cells #[Value.int .i64 p, Value.int .i64 x] 57 (0, 0)) = w5 := ⟨_, rfl⟩
  rw [hw5] at a50 a51 HW ⊢
  have b2 := (HW.out.1 g2 l2).trans H.out.1
  have b3 := (HW.out.1 g3 l3).trans H.out.2.1
  have b4 := (HW.out.1 g4 l4).trans H.out.2.2
  clear a20 a21 a22 f20 f21 f22 a30 f30 a40 f40 hw5
  have a20 := (blk_cell b2 0).trans rfl
  have a21 := (blk_cell b2 1).trans rfl
  have a22 := (blk_cell b2 2).trans rfl
  have f20 := blk_frozen b2 0
  have f21 := blk_frozen b2 1
  have f22 := blk_frozen b2 2
  have a30 := (blk_cell b3 0).trans rfl
  have f30 := blk_frozen b3 0
  have a40 := (blk_cell b4 0).trans rfl
  have f40 := blk_frozen b4 0
  simp at a20 a21 a22 a30 a40
  have HB := Aside0.mk (And.intro b2 (And.intro b3 b4))
  clear b2 b3 b4
  have n32 := n23.symm
  have n42 := n24.symm
  have n43 := n34.symm
  have n52 := N5.out.1
  have n53 := N5.out.2.1
  have n54 := N5.out.2.2.1
  have n25 := n52.symm
  have n35 := n53.symm
  have n45 := n54.symm
  go_region
  go_wp2
  have hS := ((((((HW.out.2.put (.inl rfl) 0 (.int .i64 0)).put (.inl rfl) 1 (.int .i64 0)).put (.inl rfl) 2 (.slice none 0 0)).put (.inr (.inl rfl)) 0 (.int .i64 p)).put (.inr (.inr rfl)) 0 (.int .i64 x)).step (below_drew (Below.refl _ _)))
  simp only [bodyPostS]
  refine ⟨trivial, _, rfl, _, results_0 rfl _ _, rfl, rfl, hS, blk_drew ?_, blk_drew ?_, blk_drew ?_⟩
  · exact blk_far (blk_far (blk_put (blk_set (blk_set HB.out.1 0 _) 1 _) 2 _ (by simp [zl3])) n23 _) n24 _
  · exact blk_far (blk_put (blk_far (blk_far (blk_far HB.out.2.1 n32 _) n32 _) n32 _) 0 _ (by simp)) n34 _
  · exact blk_put (blk_far (blk_far (blk_far (blk_far HB.out.2.2 n42 _) n42 _) n42 _) n43 _) 0 _ (by simp)
end Go.Proofs.YtlpnlfahlcingaaGreatDoor.PL
end
section
namespace Go.Proofs.YtlpnlfahlcingaaGreatDoor.PL
open Go.RowKit Go.Proofs.YtlpnlfahlcingaaGreatDoorW.PrintWords Go.Proofs.YtlpnlfahlcingaaGreatDoorW.PrintLast Go.Proofs.YtlpnlfahlcingaaGreatDoorW.PrintMore
attribute [local go_sem] max2_int min2_int max_two min_two max_three min_three max_four min_four
attribute [local go_sem ↓] isSome_setCell
set_option linter.unusedVariables false
set_option linter.unusedSimpArgs false
def lex_number.l0 : Nat → ByteArray → Int → Int → Int → Int → Option (Int × Int × ByteArray × Int × Int × Int)
 | 0, _, _, _, _, _ => none
 | k + 1, x0, x5, x6, x11, x12 => if x12 < x11 then (if 0 ≤ x12 then (if x12 < (x0.size : Int) then (if x6 > ((9223372036854775807 - (((bt x0 x12) - 48) % 256)) / 10) then (some (0, 0, (⟨#[]⟩ : ByteArray), 0, 0, 5)) else (lex_number.l0 k x0 x5 (wrap64 ((wrap64 (10 * x6)) + (((bt x0 x12) - 48) % 256))) x11 (wrap64 (x12 + 1)))) else (none)) else (none)) else (if x5 < (x0.size : Int) then (if 0 ≤ x5 then ((lex_letter.f (bt x0 x5)).bind fun t107 => (if t107 = true then (some (0, 0, (⟨#[]⟩ : ByteArray), 0, 0, 13)) else (some (2, 0, (⟨#[]⟩ : ByteArray), x6, x5, 0)))) else (none)) else (some (2, 0, (⟨#[]⟩ : ByteArray), x6, x5, 0)))
def lex_number.f (k : Nat) (a0 : ByteArray) : Option (Int × Int × ByteArray × Int × Int × Int) := (lex_run_of_digit.f k a0).bind fun t106 => (lex_number.l0 k a0 t106 0 t106 0)
theorem lex_number.mono_l : ∀ k, (∀ y0 y1 y2 y3 y4, LeO (lex_number.l0 k y0 y1 y2 y3 y4) (lex_number.l0 (k + 1) y0 y1 y2 y3 y4))
 | 0 => fun _ _ _ _ _ r h => by simp [lex_number.l0] at h
 | k + 1 => by
  have ih0 := lex_number.mono_l k
  ·intro y0 y1 y2 y3 y4
   unfold lex_number.l0
   repeat' first
   | (with_reducible exact ih0 _ _ _ _ _)
   | (with_reducible exact lex_run_of_digit.mono _ _)
   | (with_reducible exact LeO.refl _)
   | (with_reducible exact LeO.none _)
   | (with_reducible refine LeO.ite ?_ ?_)
   | (with_reducible refine LeO.bind ?_ (fun _ => ?_))
   | exact ih0 _ _ _ _ _
   | exact lex_run_of_digit.mono _ _
   | exact LeO.none _
   | refine LeO.ite ?_ ?_
   | refine LeO.bind ?_ (fun _ => ?_)
theorem lex_number.mono : ∀ a0 k, LeO (lex_number.f k a0) (lex_number.f (k + 1) a0) := by
 intro a0 k
 have ih0 := lex_number.mono_l k
 unfold lex_number.f
 repeat' first
   | (with_reducible exact ih0 _ _ _ _ _)
   | (with_reducible exact lex_run_of_digit.mono _ _)
   | (with_reducible exact LeO.refl _)
   | (with_reducible exact LeO.none _)
   | (with_reducible refine LeO.ite ?_ ?_)
   | (with_reducible refine LeO.bind ?_ (fun _ => ?_))
   | exact ih0 _ _ _ _ _
   | exact lex_run_of_digit.mono _ _
   | exact LeO.none _
   | refine LeO.ite ?_ ?_
   | refine LeO.bind ?_ (fun _ => ?_)
set_option maxHeartbeats 8000000 in
set_option maxRecDepth 100000 in
theorem lex_number.calls (k : Nat) (a0 : ByteArray) (r1 : Int) (r2 : Int) (r3 : ByteArray) (r4 : Int) (r5 : Int) (r6 : Int) (w : World) (h : lex_number.f k a0 = some (r1, r2, r3, r4, r5, r6)) :
  Calls Tryz.prog 80 #[.string a0] w fun e w' => e = .returned (.tuple #[.agg #[.int .i64 r1, .int .i64 r2, .string r3, .int .i64 r4], .int .i64 r5, .int .i64 r6]) ∧ Below w.heap.size w w' := by
 have hu75 := Tryz.underlying75
 have HB := Aside0.mk (Below.refl w.heap.size w)
 have H : ((lex_run_of_digit.f k a0).bind fun t106 => (lex_number.l0 k a0 t106 0 t106 0)) = some (r1, r2, r3, r4, r5, r6) := h
 clear h
 obtain ⟨t106, A20, H⟩ := bind_out H
 have A2 := Aside0.mk A20
 clear A20
 have H' := Aside0.mk H
 clear H
 go_enter Tryz.func80, Tryz.ntmps80
 go_wp2_with (first | ((with_reducible refine gate_dst (N := 2) rfl ?_); refine box_event ?hg (N := 2) ?hd (cs := #[.int .i64 0, .int .i64 0, .string (⟨#[]⟩ : ByteArray), .int .i64 0]) (t := 75) ?hr ?_; (case hd => rfl); (case hg => rfl); (case hr => first | (go_simp; done) | (go_simp; rfl)); intro gb105 hg w3 hbox hb; have BK105 := Aside0.mk (hbox); have GW105 := Aside0.mk (gsz hg bl : w.heap.size ≤ gb105); have GE105 := Aside0.mk (gsz hg bl : w.heap.size ≤ gb105); replace HB := Aside0.mk (below_step bl hb); clear hb hbox hg) | ((with_reducible refine gate_callee (f := 76) rfl ?_); refine goesL_ (some 10) rfl rfl Tryz.func76 (by kernel_rfl) rfl #[.string a0, .func (.func 79) #[] #[]] rfl mp ?_; (with_reducible refine (lex_run_of_digit.calls k a0 t106 _ A2.out).mono ?_); rintro e w' ⟨rfl, ⟨nd, rfl⟩⟩; refine ⟨_, rfl, ?_⟩))
 go_loopg [6, 12] k (fun kq v6 v12 w' => ∃ (x6_1 : Int) (x12_1 : Int) (x106000_1 : Int) (x106001_1 : Int) (x106002_1 : ByteArray) (x106003_1 : Int), v6 = .int .i64 x6_1 ∧ v12 = .int .i64 x12_1 ∧ Aside0 (lex_number.l0 kq a0 t106 x6_1 t106 x12_1 = some (r1, r2, r3, r4, r5, r6)) ∧ Aside0 (kq ≤ k) ∧ Aside0 (w'.heap[gb105]? = some (.cells #[.int .i64 x106000_1, .int .i64 x106001_1, .string x106002_1, .int .i64 x106003_1] 75 (0, 0))) ∧ Aside0 (Below w.heap.size w w'))
 case atStart => exact ⟨(0), (0), (0), (0), ((⟨#[]⟩ : ByteArray)), (0), rs, rs, H', ⟨Nat.le_refl _⟩, ⟨bk⟩, ⟨bl⟩⟩
 case round =>
  clear H'
  obtain ⟨x6_1, x12_1, x106000_1, x106001_1, x106002_1, x106003_1, rfl, rfl, HA, HK1, BK105, HB⟩ := hrel
  cases gk with
  | zero => exact absurd HA.out (by simp [lex_number.l0])
  | succ k1 =>
   have H := HA.out
   clear HA
   simp only [lex_number.l0] at H
   by_cases c4 : x12_1 < t106
   ·rw [if_pos c4] at H
    have c4b0 : decide (x12_1 < t106) = true := decide_eq_true c4
    clear c4
    by_cases c5 : 0 ≤ x12_1
    ·rw [if_pos c5] at H
     have c5b0 : decide (0 ≤ x12_1) = true := decide_eq_true c5
     clear c5
     by_cases c6 : x12_1 < (a0.size : Int)
     ·rw [if_pos c6] at H
      have c6b0 : decide (x12_1 < (a0.size : Int)) = true := decide_eq_true c6
      clear c6
      by_cases c8 : x6_1 > ((9223372036854775807 - (((bt a0 x12_1) - 48) % 256)) / 10)
      ·rw [if_pos c8] at H
       have c8b0 : decide (((9223372036854775807 - (((bt a0 x12_1) - 48) % 256)) / 10) < x6_1) = true := decide_eq_true c8
       clear c8
       simp only [Option.some.injEq, Prod.mk.injEq] at H
       obtain ⟨rfl, rfl, rfl, rfl, rfl, rfl⟩ := H
       have p7 : 0 ≤ (x12_1 : Int) := of_decide_eq_true (by assumption)
       have q7 : x12_1 < (a0.size : Int) := of_decide_eq_true (by assumption)
       have hx7 := bt_at a0 x12_1
       replace p7 := eq_true p7
       replace q7 := eq_true q7
       obtain ⟨hcz9_0, hcz9_1, hcz9_2, hcz9_3⟩ := cells4 BK105.out
       obtain ⟨hfz9_0, hfz9_1, hfz9_2, hfz9_3⟩ := froz4 BK105.out
       go_wp2
       refine bodyPost_ret (results_ctt rfl _ _ gb105 75 #[.int .i64 0, .int .i64 0, .string (⟨#[]⟩ : ByteArray), .int .i64 0] (0, 0) _ rfl bp4 Tryz.underlying75 rfl (by kernel_rfl)) rfl ?_
       exact ⟨er, bl⟩
      ·rw [if_neg c8] at H
       have c8b0 : decide (((9223372036854775807 - (((bt a0 x12_1) - 48) % 256)) / 10) < x6_1) = false := decide_eq_false c8
       clear c8
       have H' := Aside0.mk H
       clear H
       have p7 : 0 ≤ (x12_1 : Int) := of_decide_eq_true (by assumption)
       have q7 : x12_1 < (a0.size : Int) := of_decide_eq_true (by assumption)
       have hx7 := bt_at a0 x12_1
       replace p7 := eq_true p7
       replace q7 := eq_true q7
       go_wp2
       go_roundg k1
       case measure => have := HK1.out; omega
       case rel => exact ⟨(wrap64 ((wrap64 (10 * x6_1)) + (((bt a0 x12_1) - 48) % 256))), (wrap64 (x12_1 + 1)), (x106000_1), (x106001_1), (x106002_1), (x106003_1), rs, rs, H', ⟨by have := HK1.out; omega⟩, ⟨bk⟩, ⟨bl⟩⟩
     ·rw [if_neg c6] at H
      exact absurd H (by simp)
    ·rw [if_neg c5] at H
     exact absurd H (by simp)
   ·rw [if_neg c4] at H
    have c4b0 : decide (x12_1 < t106) = false := decide_eq_false c4
    clear c4
    by_cases c10 : t106 < (a0.size : Int)
    ·rw [if_pos c10] at H
     have c10b0 : decide (t106 < (a0.size : Int)) = true := decide_eq_true c10
     clear c10
     by_cases c11 : 0 ≤ t106
     ·rw [if_pos c11] at H
      have c11b0 : decide (0 ≤ t106) = true := decide_eq_true c11
      clear c11
      obtain ⟨t107, A130, H⟩ := bind_out H
      have A13 := Aside0.mk A130
      clear A130
      by_cases c14 : t107 = true
      ·subst c14
       have H1 : (some (0, 0, (⟨#[]⟩ : ByteArray), 0, 0, 13)) = some (r1, r2, r3, r4, r5, r6) := by rw [if_pos rfl] at H; exact H
       clear H
       have H := H1
       clear H1
       simp only [Option.some.injEq, Prod.mk.injEq] at H
       obtain ⟨rfl, rfl, rfl, rfl, rfl, rfl⟩ := H
       have p12 : 0 ≤ (t106 : Int) := of_decide_eq_true (by assumption)
       have q12 : t106 < (a0.size : Int) := of_decide_eq_true (by assumption)
       have hx12 := bt_at a0 t106
       replace p12 := eq_true p12
       replace q12 := eq_true q12
       go_wp2_with (first | (go_at_call 75; (with_reducible refine (lex_letter.calls (bt a0 t106) true _ A13.out).mono ?_); rintro e w' ⟨rfl, ⟨nd, rfl⟩⟩; (try (rw [drewN_self wr]; generalize hq_ : World.drewN wr _ = wr; have n0_ : Aside0 (wr.heap[gb105]? = some (.cells #[.int .i64 x106000_1, .int .i64 x106001_1, .string x106002_1, .int .i64 x106003_1] 75 (0, 0))) := ⟨by rw [← hq_]; exact bk⟩; have n1_ : Aside0 (Below w.heap.size w wr) := ⟨by rw [← hq_]; exact bl⟩; clear BK105 HB hq_; have BK105 := n0_; have HB := n1_; clear n0_ n1_)); obtain ⟨hcz15_0, hcz15_1, hcz15_2, hcz15_3⟩ := cells4 BK105.out; obtain ⟨hfz15_0, hfz15_1, hfz15_2, hfz15_3⟩ := froz4 BK105.out))
       refine bodyPost_ret (results_ctt rfl _ _ gb105 75 #[.int .i64 0, .int .i64 0, .string (⟨#[]⟩ : ByteArray), .int .i64 0] (0, 0) _ rfl bp4 Tryz.underlying75 rfl (by kernel_rfl)) rfl ?_
       exact ⟨er, bl⟩
      ·replace c14 := Bool.eq_false_iff.mpr c14
       subst c14
       have H1 : (some (2, 0, (⟨#[]⟩ : ByteArray), x6_1, t106, 0)) = some (r1, r2, r3, r4, r5, r6) := by rw [if_neg (show ¬ (false = true) by decide)] at H; exact H
       clear H
       have H := H1
       clear H1
       simp only [Option.some.injEq, Prod.mk.injEq] at H
       obtain ⟨rfl, rfl, rfl, rfl, rfl, rfl⟩ := H
       have p12 : 0 ≤ (t106 : Int) := of_decide_eq_true (by assumption)
       have q12 : t106 < (a0.size : Int) := of_decide_eq_true (by assumption)
       have hx12 := bt_at a0 t106
       replace p12 := eq_true p12
       replace q12 := eq_true q12
       go_wp2_with (first | (go_at_call 75; (with_reducible refine (lex_letter.calls (bt a0 t106) false _ A13.out).mono ?_); rintro e w' ⟨rfl, ⟨nd, rfl⟩⟩; (try (rw [drewN_self wr]; generalize hq_ : World.drewN wr _ = wr; have n0_ : Aside0 (wr.heap[gb105]? = some (.cells #[.int .i64 x106000_1, .int .i64 x106001_1, .string x106002_1, .int .i64 x106003_1] 75 (0, 0))) := ⟨by rw [← hq_]; exact bk⟩; have n1_ : Aside0 (Below w.heap.size w wr) := ⟨by rw [← hq_]; exact bl⟩; clear BK105 HB hq_; have BK105 := n0_; have HB := n1_; clear n0_ n1_)); obtain ⟨hcz16_0, hcz16_1, hcz16_2, hcz16_3⟩ := cells4 BK105.out; obtain ⟨hfz16_0, hfz16_1, hfz16_2, hfz16_3⟩ := froz4 BK105.out))
       refine bodyPost_ret (results_ctt rfl _ _ gb105 75 #[.int .i64 2, .int .i64 0, .string (⟨#[]⟩ : ByteArray), .int .i64 x6_1] (0, 0) _ rfl bp4 Tryz.underlying75 rfl (by kernel_rfl)) rfl ?_
       exact ⟨er, bl⟩
     ·rw [if_neg c11] at H
      exact absurd H (by simp)
    ·rw [if_neg c10] at H
     have c10b0 : decide (t106 < (a0.size : Int)) = false := decide_eq_false c10
     clear c10
     simp only [Option.some.injEq, Prod.mk.injEq] at H
     obtain ⟨rfl, rfl, rfl, rfl, rfl, rfl⟩ := H
     obtain ⟨hcz17_0, hcz17_1, hcz17_2, hcz17_3⟩ := cells4 BK105.out
     obtain ⟨hfz17_0, hfz17_1, hfz17_2, hfz17_3⟩ := froz4 BK105.out
     go_wp2
     refine bodyPost_ret (results_ctt rfl _ _ gb105 75 #[.int .i64 2, .int .i64 0, .string (⟨#[]⟩ : ByteArray), .int .i64 x6_1] (0, 0) _ rfl bp4 Tryz.underlying75 rfl (by kernel_rfl)) rfl ?_
     exact ⟨er, bl⟩
end Go.Proofs.YtlpnlfahlcingaaGreatDoor.PL
end
section
namespace Go.Proofs.YtlpnlfahlcingaaGreatDoor.PL
open Go.RowKit Go.Proofs.YtlpnlfahlcingaaGreatDoorW.PrintWords Go.Proofs.YtlpnlfahlcingaaGreatDoorW.PrintLast Go.Proofs.YtlpnlfahlcingaaGreatDoorW.PrintMore
attribute [local go_sem] max2_int min2_int max_two min_two max_three min_three max_four min_four
attribute [local go_sem ↓] isSome_setCell
set_option linter.unusedVariables false
set_option linter.unusedSimpArgs false
mutual
def lex_text.l0 : Nat → ByteArray → List Int → Int → Option (Int × Int × ByteArray × Int × Int × Int)
 | 0, _, _, _ => none
 | k + 1, x0, x5, x6 => if x6 < (x0.size : Int) then (if 0 ≤ x6 then (if (bt x0 x6) = 39 then (if (wrap64 (x6 + 1)) = (x0.size : Int) then (lex_text.j1 k x0 x5 (wrap64 (x6 + 1)) true) else (if 0 ≤ (wrap64 (x6 + 1)) then (if (wrap64 (x6 + 1)) < (x0.size : Int) then (lex_text.j1 k x0 x5 (wrap64 (x6 + 1)) ((bt x0 (wrap64 (x6 + 1))) != 39)) else (none)) else (none))) else (if x5.length < 140737488355328 then (lex_text.l0 k x0 (x5 ++ [bt x0 x6]) (wrap64 (x6 + 1))) else (none))) else (none)) else (some (0, 0, (⟨#[]⟩ : ByteArray), 0, 0, 13))
def lex_text.j1 : Nat → ByteArray → List Int → Int → Bool → Option (Int × Int × ByteArray × Int × Int × Int)
 | 0, _, _, _, _ => none
 | k + 1, x0, x5, x6, x28 => if x28 = true then (if (x5.length : Int) > 64 then (some (0, 0, (⟨#[]⟩ : ByteArray), 0, 0, 3)) else (some (3, 0, strOfNums x5, 0, x6, 0))) else (if 0 ≤ x6 then (if x6 < (x0.size : Int) then (if x5.length < 140737488355328 then (lex_text.l0 k x0 (x5 ++ [bt x0 x6]) (wrap64 (x6 + 1))) else (none)) else (none)) else (none))
end
def lex_text.f (k : Nat) (a0 : ByteArray) : Option (Int × Int × ByteArray × Int × Int × Int) := lex_text.l0 k a0 ([] : List Int) 1
theorem lex_text.mono_l : ∀ k, (∀ y0 y1 y2, LeO (lex_text.l0 k y0 y1 y2) (lex_text.l0 (k + 1) y0 y1 y2)) ∧ (∀ y0 y1 y2 y3, LeO (lex_text.j1 k y0 y1 y2 y3) (lex_text.j1 (k + 1) y0 y1 y2 y3))
 | 0 => ⟨fun _ _ _ r h => by simp [lex_text.l0] at h, fun _ _ _ _ r h => by simp [lex_text.j1] at h⟩
 | k + 1 => by
  obtain ⟨ih0, ih1⟩ := lex_text.mono_l k
  refine ⟨?_, ?_⟩
  ·intro y0 y1 y2
   unfold lex_text.l0
   repeat' first
   | (with_reducible exact ih0 _ _ _)
   | (with_reducible exact ih1 _ _ _ _)
   | (with_reducible exact LeO.refl _)
   | (with_reducible exact LeO.none _)
   | (with_reducible refine LeO.ite ?_ ?_)
   | (with_reducible refine LeO.bind ?_ (fun _ => ?_))
   | exact ih0 _ _ _
   | exact ih1 _ _ _ _
   | exact LeO.none _
   | refine LeO.ite ?_ ?_
   | refine LeO.bind ?_ (fun _ => ?_)
  ·intro y0 y1 y2 y3
   unfold lex_text.j1
   repeat' first
   | (with_reducible exact ih0 _ _ _)
   | (with_reducible exact ih1 _ _ _ _)
   | (with_reducible exact LeO.refl _)
   | (with_reducible exact LeO.none _)
   | (with_reducible refine LeO.ite ?_ ?_)
   | (with_reducible refine LeO.bind ?_ (fun _ => ?_))
   | exact ih0 _ _ _
   | exact ih1 _ _ _ _
   | exact LeO.none _
   | refine LeO.ite ?_ ?_
   | refine LeO.bind ?_ (fun _ => ?_)
theorem lex_text.mono : ∀ a0 k, LeO (lex_text.f k a0) (lex_text.f (k + 1) a0) := by
 intro a0 k
 obtain ⟨ih0, ih1⟩ := lex_text.mono_l k
 unfold lex_text.f
 repeat' first
   | (with_reducible exact ih0 _ _ _)
   | (with_reducible exact ih1 _ _ _ _)
   | (with_reducible exact LeO.refl _)
   | (with_reducible exact LeO.none _)
   | (with_reducible refine LeO.ite ?_ ?_)
   | (with_reducible refine LeO.bind ?_ (fun _ => ?_))
   | exact ih0 _ _ _
   | exact ih1 _ _ _ _
   | exact LeO.none _
   | refine LeO.ite ?_ ?_
   | refine LeO.bind ?_ (fun _ => ?_)
set_option maxHeartbeats 8000000 in
set_option maxRecDepth 100000 in
theorem lex_text.calls (k : Nat) (a0 : ByteArray) (r1 : Int) (r2 : Int) (r3 : ByteArray) (r4 : Int) (r5 : Int) (r6 : Int) (w : World) (h : lex_text.f k a0 = some (r1, r2, r3, r4, r5, r6)) :
  Calls Tryz.prog 81 #[.string a0] w fun e w' => e = .returned (.tuple #[.agg #[.int .i64 r1, .int .i64 r2, .string r3, .int .i64 r4], .int .i64 r5, .int .i64 r6]) ∧ Below w.heap.size w w' := by
 have hu75 := Tryz.underlying75
 have HB := Aside0.mk (Below.refl w.heap.size w)
 have H : (lex_text.l0 k a0 ([] : List Int) 1) = some (r1, r2, r3, r4, r5, r6) := h
 clear h
 have H' := Aside0.mk H
 clear H
 go_enter Tryz.func81, Tryz.ntmps81
 go_wp2_with (first | ((with_reducible refine gate_dst (N := 2) rfl ?_); refine box_event ?hg (N := 2) ?hd (cs := #[.int .i64 0, .int .i64 0, .string (⟨#[]⟩ : ByteArray), .int .i64 0]) (t := 75) ?hr ?_; (case hd => rfl); (case hg => rfl); (case hr => first | (go_simp; done) | (go_simp; rfl)); intro gb108 hg w2 hbox hb; have BK108 := Aside0.mk (hbox); have GW108 := Aside0.mk (gsz hg bl : w.heap.size ≤ gb108); have GE108 := Aside0.mk (gsz hg bl : w.heap.size ≤ gb108); replace HB := Aside0.mk (below_step bl hb); clear hb hbox hg))
 go_loopg [5, 6] k (fun kq v5 v6 w' => ∃ (x5_1 : List Int) (x6_1 : Int) (x109000_1 : Int) (x109001_1 : Int) (x109002_1 : ByteArray) (x109003_1 : Int), v6 = .int .i64 x6_1 ∧ Aside0 (lex_text.l0 kq a0 x5_1 x6_1 = some (r1, r2, r3, r4, r5, r6)) ∧ Aside0 (kq ≤ k) ∧ Aside0 (Kd.R (Kd.int .u8) 5 w' w.heap.size (fun _ => True) v5 x5_1) ∧ Aside0 (w'.heap[gb108]? = some (.cells #[.int .i64 x109000_1, .int .i64 x109001_1, .string x109002_1, .int .i64 x109003_1] 75 (0, 0))) ∧ Aside0 (Below w.heap.size w w'))
 case atStart => exact ⟨(([] : List Int)), (1), (0), (0), ((⟨#[]⟩ : ByteArray)), (0), rs, H', ⟨Nat.le_refl _⟩, ⟨by first | exact Kd.R_nil _ _ _ _ _ | exact Kd.N_nil _ _ _ _ _ | exact Kd.V_nil _ _ _ _ _ | exact Kd.Q_nil _ _ _ _ _ | exact Kd.S_nil _ _ _ _ _⟩, ⟨bk⟩, ⟨bl⟩⟩
 case round =>
  clear H'
  obtain ⟨x5_1, x6_1, x109000_1, x109001_1, x109002_1, x109003_1, rfl, HA, HK1, HO_5, BK108, HB⟩ := hrel
  cases gk with
  | zero => exact absurd HA.out (by simp [lex_text.l0])
  | succ k1 =>
   have H := HA.out
   clear HA
   simp only [lex_text.l0] at H
   by_cases c3 : x6_1 < (a0.size : Int)
   ·rw [if_pos c3] at H
    have c3b0 : decide (x6_1 < (a0.size : Int)) = true := decide_eq_true c3
    clear c3
    by_cases c4 : 0 ≤ x6_1
    ·rw [if_pos c4] at H
     have c4b0 : decide (0 ≤ x6_1) = true := decide_eq_true c4
     clear c4
     by_cases c6 : (bt a0 x6_1) = 39
     ·rw [if_pos c6] at H
      have c6b0 : ((bt a0 x6_1) == 39) = true := beq_iff_eq.mpr c6
      have c6b1 : ((bt a0 x6_1) != 39) = false := bne_eq_false_iff_eq.mpr c6
      clear c6
      have HC7 := Aside0.mk H
      clear H
      have p5 : 0 ≤ (x6_1 : Int) := of_decide_eq_true (by assumption)
      have q5 : x6_1 < (a0.size : Int) := of_decide_eq_true (by assumption)
      have hx5 := bt_at a0 x6_1
      replace p5 := eq_true p5
      replace q5 := eq_true q5
      go_upto_region 7 with (fail)
      go_cut [28] (fun v28 wc => ∃ (kq : Nat) (x28_6 : Bool), v28 = .bool x28_6 ∧ Aside0 (lex_text.j1 kq a0 x5_1 (wrap64 (x6_1 + 1)) x28_6 = some (r1, r2, r3, r4, r5, r6)) ∧ Aside0 (kq ≤ k1) ∧ Aside0 (Kd.R (Kd.int .u8) 5 wc w.heap.size (fun _ => True) u5 x5_1) ∧ Aside0 (wc.heap[gb108]? = some (.cells #[.int .i64 x109000_1, .int .i64 x109001_1, .string x109002_1, .int .i64 x109003_1] 75 (0, 0))) ∧ Aside0 (Below w.heap.size w wc))
      case first =>
       have H := HC7.out
       clear HC7
       by_cases c8 : (wrap64 (x6_1 + 1)) = (a0.size : Int)
       ·rw [if_pos c8] at H
        have c8b0 : ((wrap64 (x6_1 + 1)) == (a0.size : Int)) = true := beq_iff_eq.mpr c8
        have c8b1 : ((wrap64 (x6_1 + 1)) != (a0.size : Int)) = false := bne_eq_false_iff_eq.mpr c8
        clear c8
        (first | rw [c8b0] | (simp only [i64_w, i32_w]; rw [c8b0]) | skip)
        have H' := Aside0.mk H
        clear H
        go_wp2
        go_meet
        case rel => exact ⟨_, (true), rs, H', ⟨by have := HK1.out; first | omega | exact Nat.le_refl _⟩, ⟨by (with_reducible repeat (first | apply Kd.R_alloc | apply Kd.R_drewN | apply Kd.R_drew)); exact HO_5.out⟩, ⟨bk⟩, ⟨bl⟩⟩
       ·rw [if_neg c8] at H
        have c8b0 : ((wrap64 (x6_1 + 1)) == (a0.size : Int)) = false := beq_eq_false_iff_ne.mpr c8
        have c8b1 : ((wrap64 (x6_1 + 1)) != (a0.size : Int)) = true := bne_iff_ne.mpr c8
        (first | rw [c8b0] | (simp only [i64_w, i32_w]; rw [c8b0]) | skip)
        obtain ⟨ji9, hji9⟩ : ∃ j_ : Int, (wrap64 (x6_1 + 1)) = j_ := ⟨_, rfl⟩
        replace H : (if 0 ≤ (ji9) then (if (ji9) < (a0.size : Int) then (lex_text.j1 k1 a0 x5_1 ji9 ((bt a0 (ji9)) != 39)) else (none)) else (none)) = some (r1, r2, r3, r4, r5, r6) := by first | (rw [hji9] at H; exact H) | (simp only [hji9] at H ⊢; exact H)
        (try rw [hji9] at c8b0)
        (try rw [hji9] at c8b1)
        have hji9w : (IntKind.i64.wrap (x6_1 + 1)) = ji9 := (i64_w _).trans hji9
        by_cases c10 : 0 ≤ (ji9)
        ·rw [if_pos c10] at H
         have c10b0 : decide (0 ≤ (ji9)) = true := decide_eq_true c10
         clear c10
         by_cases c11 : (ji9) < (a0.size : Int)
         ·rw [if_pos c11] at H
          have c11b0 : decide ((ji9) < (a0.size : Int)) = true := decide_eq_true c11
          clear c11
          have H' := Aside0.mk H
          clear H
          have p12 : 0 ≤ ((ji9) : Int) := of_decide_eq_true (by assumption)
          have q12 : (ji9) < (a0.size : Int) := of_decide_eq_true (by assumption)
          have hx12 := bt_at a0 (ji9)
          replace p12 := eq_true p12
          replace q12 := eq_true q12
          go_wp2
          go_meet
          case rel => exact ⟨_, (((bt a0 (ji9)) != 39)), (by first | rfl | (simp; done) | (simp only [← hji9] <;> (first | rfl | simp)) | (simp [*]; done)), (by first | exact H' | (refine ⟨?_⟩; (try rw [hji9]); exact H'.out)), ⟨by have := HK1.out; first | omega | exact Nat.le_refl _⟩, ⟨by (with_reducible repeat (first | apply Kd.R_alloc | apply Kd.R_drewN | apply Kd.R_drew)); exact HO_5.out⟩, ⟨bk⟩, ⟨bl⟩⟩
         ·rw [if_neg c11] at H
          exact absurd H (by simp)
        ·rw [if_neg c10] at H
         exact absurd H (by simp)
      case rest =>
       clear HC7
       try clear c3
       try clear c3b0
       try clear c4
       try clear c4b0
       try clear p5
       try clear q5
       try clear hx5
       try clear c6
       try clear c6b0
       try clear c6b1
       try clear p5
       try clear q5
       obtain ⟨kq, x28_6, rfl, HA, HJ6, HO_5, BK108, HB⟩ := hcut
       cases kq with
       | zero => exact absurd HA.out (by simp [lex_text.j1])
       | succ kj6 =>
        have H := HA.out
        clear HA
        simp only [lex_text.j1] at H
        by_cases c13 : x28_6 = true
        ·subst c13
         have H1 : (if (x5_1.length : Int) > 64 then (some (0, 0, (⟨#[]⟩ : ByteArray), 0, 0, 3)) else (some (3, 0, strOfNums x5_1, 0, (wrap64 (x6_1 + 1)), 0))) = some (r1, r2, r3, r4, r5, r6) := by rw [if_pos rfl] at H; exact H
         clear H
         have H := H1
         clear H1
         by_cases c14 : (x5_1.length : Int) > 64
         ·rw [if_pos c14] at H
          have c14b0 : decide (64 < (x5_1.length : Int)) = true := decide_eq_true c14
          have c14b1 : decide (64 < x5_1.length) = true := decide_eq_true (by omega)
          clear c14
          simp only [Option.some.injEq, Prod.mk.injEq] at H
          obtain ⟨rfl, rfl, rfl, rfl, rfl, rfl⟩ := H
          obtain ⟨Ao15, co15, eo15⟩ := Kd.R_slice HO_5.out
          subst eo15
          obtain ⟨hcz16_0, hcz16_1, hcz16_2, hcz16_3⟩ := cells4 BK108.out
          obtain ⟨hfz16_0, hfz16_1, hfz16_2, hfz16_3⟩ := froz4 BK108.out
          go_wp2
          refine bodyPost_ret (results_ctt rfl _ _ gb108 75 #[.int .i64 0, .int .i64 0, .string (⟨#[]⟩ : ByteArray), .int .i64 0] (0, 0) _ rfl bp4 Tryz.underlying75 rfl (by kernel_rfl)) rfl ?_
          exact ⟨er, bl⟩
         ·rw [if_neg c14] at H
          have c14b0 : decide (64 < (x5_1.length : Int)) = false := decide_eq_false c14
          have c14b1 : decide (64 < x5_1.length) = false := decide_eq_false (by omega)
          clear c14
          simp only [Option.some.injEq, Prod.mk.injEq] at H
          obtain ⟨rfl, rfl, rfl, rfl, rfl, rfl⟩ := H
          obtain ⟨Ao17, co17, eo17⟩ := Kd.R_slice HO_5.out
          subst eo17
          have hcv18 := own_string (P := Tryz.prog) Tryz.underlying51 Tryz.underlying5 Tryz.underlying9 (Kd.own_of_R HO_5.out)
          obtain ⟨hcz19_0, hcz19_1, hcz19_2, hcz19_3⟩ := cells4 BK108.out
          obtain ⟨hfz19_0, hfz19_1, hfz19_2, hfz19_3⟩ := froz4 BK108.out
          go_wp2
          refine bodyPost_ret (results_ctt rfl _ _ gb108 75 #[.int .i64 3, .int .i64 0, .string (strOfNums x5_1), .int .i64 0] (0, 0) _ rfl bp4 Tryz.underlying75 rfl (by kernel_rfl)) rfl ?_
          exact ⟨er, bl⟩
        ·replace c13 := Bool.eq_false_iff.mpr c13
         subst c13
         have H1 : (if 0 ≤ (wrap64 (x6_1 + 1)) then (if (wrap64 (x6_1 + 1)) < (a0.size : Int) then (if x5_1.length < 140737488355328 then (lex_text.l0 kj6 a0 (x5_1 ++ [bt a0 (wrap64 (x6_1 + 1))]) (wrap64 ((wrap64 (x6_1 + 1)) + 1))) else (none)) else (none)) else (none)) = some (r1, r2, r3, r4, r5, r6) := by rw [if_neg (show ¬ (false = true) by decide)] at H; exact H
         clear H
         have H := H1
         clear H1
         obtain ⟨ji20, hji20⟩ : ∃ j_ : Int, (wrap64 (x6_1 + 1)) = j_ := ⟨_, rfl⟩
         replace H : (if 0 ≤ (ji20) then (if (ji20) < (a0.size : Int) then (if x5_1.length < 140737488355328 then (lex_text.l0 kj6 a0 (x5_1 ++ [bt a0 (ji20)]) (wrap64 ((ji20) + 1))) else (none)) else (none)) else (none)) = some (r1, r2, r3, r4, r5, r6) := by first | (rw [hji20] at H; exact H) | (simp only [hji20] at H ⊢; exact H)
         have hji20w : (IntKind.i64.wrap (x6_1 + 1)) = ji20 := (i64_w _).trans hji20
         by_cases c21 : 0 ≤ (ji20)
         ·rw [if_pos c21] at H
          have c21b0 : decide (0 ≤ (ji20)) = true := decide_eq_true c21
          clear c21
          by_cases c22 : (ji20) < (a0.size : Int)
          ·rw [if_pos c22] at H
           have c22b0 : decide ((ji20) < (a0.size : Int)) = true := decide_eq_true c22
           clear c22
           by_cases c24 : x5_1.length < 140737488355328
           ·rw [if_pos c24] at H
            have LMc24 := Aside0.mk c24
            clear c24
            obtain ⟨y109, hy109⟩ : ∃ y_ : List Int, y_ = (x5_1 ++ [bt a0 (ji20)]) := ⟨_, rfl⟩
            replace H : (lex_text.l0 kj6 a0 y109 (wrap64 ((ji20) + 1))) = some (r1, r2, r3, r4, r5, r6) := by first | (rw [hy109]; with_reducible exact H) | (have H2_ := (Option.bind_some _ _).symm.trans H; rw [hy109]; with_reducible exact H2_) | (have H2_ := (Option.bind_some _ _).symm.trans H; with_reducible exact H2_) | with_reducible exact H | (rw [hy109]; exact H) | exact H
            have Ny109 := Aside0.mk hy109
            clear hy109
            have H' := Aside0.mk H
            clear H
            have p23 : 0 ≤ ((ji20) : Int) := of_decide_eq_true (by assumption)
            have q23 : (ji20) < (a0.size : Int) := of_decide_eq_true (by assumption)
            have hx23 := bt_at a0 (ji20)
            replace p23 := eq_true p23
            replace q23 := eq_true q23
            go_wp2_with (first | ((with_reducible refine gate_builtin (b := .append) (xs := #[.tmp 37, .tmp 41]) rfl ?_); at_builtin; refine Kd.R_append (Kd.int .u8) (w0 := w) w.heap.size rfl (.tmp 37) (.tmp 41) 51 5 (.int .u8 0) 1 rfl Tryz.underlying51 info5 rfl (by decide) (by omega) u5 x5_1 (bt a0 (ji20)) [.int .u8 (bt a0 (ji20))] (fun _ => True) (fun _ => False) rfl rfl ?aP (fun _ hk => hk.elim) ?aF ?aO ?aB ?aS ?aL ?_; (case aP => exact rfl); (case aB => exact bl); (case aF => exact (fun _ _ => trivial)); (case aO => exact (by (with_reducible repeat (first | apply Kd.R_alloc | apply Kd.R_drewN | apply Kd.R_drew)); exact HO_5.out)); (case aS => exact (below_size bl)); (case aL => have := LMc24.out; omega); intro v110 w25 ho hb hg hat; rw [← Ny109.out] at ho; have HO111 := Aside0.mk (ho); replace BK108 := Aside0.mk (blk_grown (g := gb108) (o := .cells #[.int .i64 x109000_1, .int .i64 x109001_1, .string x109002_1, .int .i64 x109003_1] 75 (0, 0)) bk hg (Kd.R_ne HO_5.out BK108.out (by decide))); replace HB := Aside0.mk (hb); clear ho hb hg hat))
            go_roundg kj6
            case measure => have := HK1.out; have := HJ6.out; omega
            case rel => exact ⟨(y109), (wrap64 ((ji20) + 1)), (x109000_1), (x109001_1), (x109002_1), (x109003_1), (by first | rfl | (simp; done) | (simp only [← hji20] <;> (first | rfl | simp)) | (simp [*]; done)), (by first | exact H' | (refine ⟨?_⟩; (try rw [hji20]); exact H'.out)), ⟨by have := HK1.out; have := HJ6.out; omega⟩, ⟨by (with_reducible repeat (first | apply Kd.R_alloc | apply Kd.R_drewN | apply Kd.R_drew)); exact HO111.out⟩, ⟨bk⟩, ⟨bl⟩⟩
           ·rw [if_neg c24] at H
            exact absurd H (by simp)
          ·rw [if_neg c22] at H
           exact absurd H (by simp)
         ·rw [if_neg c21] at H
          exact absurd H (by simp)
     ·rw [if_neg c6] at H
      have c6b0 : ((bt a0 x6_1) == 39) = false := beq_eq_false_iff_ne.mpr c6
      have c6b1 : ((bt a0 x6_1) != 39) = true := bne_iff_ne.mpr c6
      by_cases c27 : x5_1.length < 140737488355328
      ·rw [if_pos c27] at H
       have LMc27 := Aside0.mk c27
       clear c27
       obtain ⟨y112, hy112⟩ : ∃ y_ : List Int, y_ = (x5_1 ++ [bt a0 x6_1]) := ⟨_, rfl⟩
       replace H : (lex_text.l0 k1 a0 y112 (wrap64 (x6_1 + 1))) = some (r1, r2, r3, r4, r5, r6) := by first | (rw [hy112]; with_reducible exact H) | (have H2_ := (Option.bind_some _ _).symm.trans H; rw [hy112]; with_reducible exact H2_) | (have H2_ := (Option.bind_some _ _).symm.trans H; with_reducible exact H2_) | with_reducible exact H | (rw [hy112]; exact H) | exact H
       have Ny112 := Aside0.mk hy112
       clear hy112
       have H' := Aside0.mk H
       clear H
       have p5 : 0 ≤ (x6_1 : Int) := of_decide_eq_true (by assumption)
       have q5 : x6_1 < (a0.size : Int) := of_decide_eq_true (by assumption)
       have hx5 := bt_at a0 x6_1
       replace p5 := eq_true p5
       replace q5 := eq_true q5
       have p26 : 0 ≤ (x6_1 : Int) := of_decide_eq_true (by assumption)
       have q26 : x6_1 < (a0.size : Int) := of_decide_eq_true (by assumption)
       have hx26 := bt_at a0 x6_1
       replace p26 := eq_true p26
       replace q26 := eq_true q26
       go_wp2_with (first | ((with_reducible refine gate_builtin (b := .append) (xs := #[.tmp 37, .tmp 41]) rfl ?_); at_builtin; refine Kd.R_append (Kd.int .u8) (w0 := w) w.heap.size rfl (.tmp 37) (.tmp 41) 51 5 (.int .u8 0) 1 rfl Tryz.underlying51 info5 rfl (by decide) (by omega) u5 x5_1 (bt a0 x6_1) [.int .u8 (bt a0 x6_1)] (fun _ => True) (fun _ => False) rfl rfl ?aP (fun _ hk => hk.elim) ?aF ?aO ?aB ?aS ?aL ?_; (case aP => exact rfl); (case aB => exact bl); (case aF => exact (fun _ _ => trivial)); (case aO => exact (by (with_reducible repeat (first | apply Kd.R_alloc | apply Kd.R_drewN | apply Kd.R_drew)); exact HO_5.out)); (case aS => exact (below_size bl)); (case aL => have := LMc27.out; omega); intro v113 w28 ho hb hg hat; rw [← Ny112.out] at ho; have HO114 := Aside0.mk (ho); replace BK108 := Aside0.mk (blk_grown (g := gb108) (o := .cells #[.int .i64 x109000_1, .int .i64 x109001_1, .string x109002_1, .int .i64 x109003_1] 75 (0, 0)) bk hg (Kd.R_ne HO_5.out BK108.out (by decide))); replace HB := Aside0.mk (hb); clear ho hb hg hat))
       go_roundg k1
       case measure => have := HK1.out; omega
       case rel => exact ⟨(y112), (wrap64 (x6_1 + 1)), (x109000_1), (x109001_1), (x109002_1), (x109003_1), rs, H', ⟨by have := HK1.out; omega⟩, ⟨by (with_reducible repeat (first | apply Kd.R_alloc | apply Kd.R_drewN | apply Kd.R_drew)); exact HO114.out⟩, ⟨bk⟩, ⟨bl⟩⟩
      ·rw [if_neg c27] at H
       exact absurd H (by simp)
    ·rw [if_neg c4] at H
     exact absurd H (by simp)
   ·rw [if_neg c3] at H
    have c3b0 : decide (x6_1 < (a0.size : Int)) = false := decide_eq_false c3
    clear c3
    simp only [Option.some.injEq, Prod.mk.injEq] at H
    obtain ⟨rfl, rfl, rfl, rfl, rfl, rfl⟩ := H
    obtain ⟨hcz29_0, hcz29_1, hcz29_2, hcz29_3⟩ := cells4 BK108.out
    obtain ⟨hfz29_0, hfz29_1, hfz29_2, hfz29_3⟩ := froz4 BK108.out
    go_wp2
    refine bodyPost_ret (results_ctt rfl _ _ gb108 75 #[.int .i64 0, .int .i64 0, .string (⟨#[]⟩ : ByteArray), .int .i64 0] (0, 0) _ rfl bp4 Tryz.underlying75 rfl (by kernel_rfl)) rfl ?_
    exact ⟨er, bl⟩
end Go.Proofs.YtlpnlfahlcingaaGreatDoor.PL
end
section
namespace Go.Proofs.YtlpnlfahlcingaaGreatDoor.PL
open Go.RowKit Go.Proofs.YtlpnlfahlcingaaGreatDoorW.PrintWords Go.Proofs.YtlpnlfahlcingaaGreatDoorW.PrintLast Go.Proofs.YtlpnlfahlcingaaGreatDoorW.PrintMore
attribute [local go_sem] max2_int min2_int max_two min_two max_three min_three max_four min_four
attribute [local go_sem ↓] isSome_setCell
set_option linter.unusedVariables false
set_option linter.unusedSimpArgs false
def lex_sign.j0 : Nat → ByteArray → Int → Bool → Option (Int × Int × ByteArray × Int × Int × Int)
 | 0, _, _, _ => none
 | k + 1, x0, x5, x30 => if x30 = true then (if 0 ≤ 2 then (if 2 ≤ (x0.size : Int) then (some (4, 0, x0.extract 0 2, 0, 2, 0)) else (none)) else (none)) else (if (x0.size : Int) > 1 then (if 1 < (x0.size : Int) then (if (bt x0 1) = 61 then (if 0 ≤ 2 then (if 2 ≤ (x0.size : Int) then (some (4, 0, x0.extract 0 2, 0, 2, 0)) else (none)) else (none)) else (if 0 ≤ x5 then (if x5 ≤ (x0.size : Int) then (some (4, 0, x0.extract 0 (x5 : Int).toNat, 0, x5, 0)) else (none)) else (none))) else (none)) else (if 0 ≤ x5 then (if x5 ≤ (x0.size : Int) then (some (4, 0, x0.extract 0 (x5 : Int).toNat, 0, x5, 0)) else (none)) else (none)))
def lex_sign.f (k : Nat) (a0 : ByteArray) : Option (Int × Int × ByteArray × Int × Int × Int) := if 0 < (a0.size : Int) then (if (bt a0 0) = 60 then (if (a0.size : Int) > 1 then (if 1 < (a0.size : Int) then (lex_sign.j0 k a0 1 ((bt a0 1) == 62)) else (none)) else (lex_sign.j0 k a0 1 false)) else (if (bt a0 0) = 62 then (if (a0.size : Int) > 1 then (if 1 < (a0.size : Int) then (if (bt a0 1) = 61 then (if 0 ≤ 2 then (if 2 ≤ (a0.size : Int) then (some (4, 0, a0.extract 0 2, 0, 2, 0)) else (none)) else (none)) else (if 0 ≤ 1 then (if 1 ≤ (a0.size : Int) then (some (4, 0, a0.extract 0 1, 0, 1, 0)) else (none)) else (none))) else (none)) else (if 0 ≤ 1 then (if 1 ≤ (a0.size : Int) then (some (4, 0, a0.extract 0 1, 0, 1, 0)) else (none)) else (none))) else (if (bt a0 0) = 40 then (if 0 ≤ 1 then (if 1 ≤ (a0.size : Int) then (some (4, 0, a0.extract 0 1, 0, 1, 0)) else (none)) else (none)) else (if (bt a0 0) = 41 then (if 0 ≤ 1 then (if 1 ≤ (a0.size : Int) then (some (4, 0, a0.extract 0 1, 0, 1, 0)) else (none)) else (none)) else (if (bt a0 0) = 44 then (if 0 ≤ 1 then (if 1 ≤ (a0.size : Int) then (some (4, 0, a0.extract 0 1, 0, 1, 0)) else (none)) else (none)) else (if (bt a0 0) = 59 then (if 0 ≤ 1 then (if 1 ≤ (a0.size : Int) then (some (4, 0, a0.extract 0 1, 0, 1, 0)) else (none)) else (none)) else (if (bt a0 0) = 42 then (if 0 ≤ 1 then (if 1 ≤ (a0.size : Int) then (some (4, 0, a0.extract 0 1, 0, 1, 0)) else (none)) else (none)) else (if (bt a0 0) = 61 then (if 0 ≤ 1 then (if 1 ≤ (a0.size : Int) then (some (4, 0, a0.extract 0 1, 0, 1, 0)) else (none)) else (none)) else (if (bt a0 0) = 43 then (if 0 ≤ 1 then (if 1 ≤ (a0.size : Int) then (some (4, 0, a0.extract 0 1, 0, 1, 0)) else (none)) else (none)) else (if (bt a0 0) = 45 then (if 0 ≤ 1 then (if 1 ≤ (a0.size : Int) then (some (4, 0, a0.extract 0 1, 0, 1, 0)) else (none)) else (none)) else (if (bt a0 0) = 47 then (if 0 ≤ 1 then (if 1 ≤ (a0.size : Int) then (some (4, 0, a0.extract 0 1, 0, 1, 0)) else (none)) else (none)) else (if (bt a0 0) = 37 then (if 0 ≤ 1 then (if 1 ≤ (a0.size : Int) then (some (4, 0, a0.extract 0 1, 0, 1, 0)) else (none)) else (none)) else (some (0, 0, (⟨#[]⟩ : ByteArray), 0, 0, 13)))))))))))))) else (none)
theorem lex_sign.mono_l : ∀ k, (∀ y0 y1 y2, LeO (lex_sign.j0 k y0 y1 y2) (lex_sign.j0 (k + 1) y0 y1 y2))
 | 0 => fun _ _ _ r h => by simp [lex_sign.j0] at h
 | k + 1 => by
  have ih0 := lex_sign.mono_l k
  ·intro y0 y1 y2
   unfold lex_sign.j0
   repeat' first
   | (with_reducible exact ih0 _ _ _)
   | (with_reducible exact LeO.refl _)
   | (with_reducible exact LeO.none _)
   | (with_reducible refine LeO.ite ?_ ?_)
   | (with_reducible refine LeO.bind ?_ (fun _ => ?_))
   | exact ih0 _ _ _
   | exact LeO.none _
   | refine LeO.ite ?_ ?_
   | refine LeO.bind ?_ (fun _ => ?_)
theorem lex_sign.mono : ∀ a0 k, LeO (lex_sign.f k a0) (lex_sign.f (k + 1) a0) := by
 intro a0 k
 have ih0 := lex_sign.mono_l k
 unfold lex_sign.f
 repeat' first
   | (with_reducible exact ih0 _ _ _)
   | (with_reducible exact LeO.refl _)
   | (with_reducible exact LeO.none _)
   | (with_reducible refine LeO.ite ?_ ?_)
   | (with_reducible refine LeO.bind ?_ (fun _ => ?_))
   | exact ih0 _ _ _
   | exact LeO.none _
   | refine LeO.ite ?_ ?_
   | refine LeO.bind ?_ (fun _ => ?_)
set_option maxHeartbeats 8000000 in
set_option maxRecDepth 100000 in
theorem lex_sign.calls (k : Nat) (a0 : ByteArray) (r1 : Int) (r2 : Int) (r3 : ByteArray) (r4 : Int) (r5 : Int) (r6 : Int) (w : World) (h : lex_sign.f k a0 = some (r1, r2, r3, r4, r5, r6)) :
  Calls Tryz.prog 82 #[.string a0] w fun e w' => e = .returned (.tuple #[.agg #[.int .i64 r1, .int .i64 r2, .string r3, .int .i64 r4], .int .i64 r5, .int .i64 r6]) ∧ Below w.heap.size w w' := by
 have hu75 := Tryz.underlying75
 have HB := Aside0.mk (Below.refl w.heap.size w)
 have H : (if 0 < (a0.size : Int) then (if (bt a0 0) = 60 then (if (a0.size : Int) > 1 then (if 1 < (a0.size : Int) then (lex_sign.j0 k a0 1 ((bt a0 1) == 62)) else (none)) else (lex_sign.j0 k a0 1 false)) else (if (bt a0 0) = 62 then (if (a0.size : Int) > 1 then (if 1 < (a0.size : Int) then (if (bt a0 1) = 61 then (if 0 ≤ 2 then (if 2 ≤ (a0.size : Int) then (some (4, 0, a0.extract 0 2, 0, 2, 0)) else (none)) else (none)) else (if 0 ≤ 1 then (if 1 ≤ (a0.size : Int) then (some (4, 0, a0.extract 0 1, 0, 1, 0)) else (none)) else (none))) else (none)) else (if 0 ≤ 1 then (if 1 ≤ (a0.size : Int) then (some (4, 0, a0.extract 0 1, 0, 1, 0)) else (none)) else (none))) else (if (bt a0 0) = 40 then (if 0 ≤ 1 then (if 1 ≤ (a0.size : Int) then (some (4, 0, a0.extract 0 1, 0, 1, 0)) else (none)) else (none)) else (if (bt a0 0) = 41 then (if 0 ≤ 1 then (if 1 ≤ (a0.size : Int) then (some (4, 0, a0.extract 0 1, 0, 1, 0)) else (none)) else (none)) else (if (bt a0 0) = 44 then (if 0 ≤ 1 then (if 1 ≤ (a0.size : Int) then (some (4, 0, a0.extract 0 1, 0, 1, 0)) else (none)) else (none)) else (if (bt a0 0) = 59 then (if 0 ≤ 1 then (if 1 ≤ (a0.size : Int) then (some (4, 0, a0.extract 0 1, 0, 1, 0)) else (none)) else (none)) else (if (bt a0 0) = 42 then (if 0 ≤ 1 then (if 1 ≤ (a0.size : Int) then (some (4, 0, a0.extract 0 1, 0, 1, 0)) else (none)) else (none)) else (if (bt a0 0) = 61 then (if 0 ≤ 1 then (if 1 ≤ (a0.size : Int) then (some (4, 0, a0.extract 0 1, 0, 1, 0)) else (none)) else (none)) else (if (bt a0 0) = 43 then (if 0 ≤ 1 then (if 1 ≤ (a0.size : Int) then (some (4, 0, a0.extract 0 1, 0, 1, 0)) else (none)) else (none)) else (if (bt a0 0) = 45 then (if 0 ≤ 1 then (if 1 ≤ (a0.size : Int) then (some (4, 0, a0.extract 0 1, 0, 1, 0)) else (none)) else (none)) else (if (bt a0 0) = 47 then (if 0 ≤ 1 then (if 1 ≤ (a0.size : Int) then (some (4, 0, a0.extract 0 1, 0, 1, 0)) else (none)) else (none)) else (if (bt a0 0) = 37 then (if 0 ≤ 1 then (if 1 ≤ (a0.size : Int) then (some (4, 0, a0.extract 0 1, 0, 1, 0)) else (none)) else (none)) else (some (0, 0, (⟨#[]⟩ : ByteArray), 0, 0, 13)))))))))))))) else (none)) = some (r1, r2, r3, r4, r5, r6) := h
 clear h
 by_cases c2 : 0 < (a0.size : Int)
 ·rw [if_pos c2] at H
  have c2b0 : decide (0 < (a0.size : Int)) = true := decide_eq_true c2
  have c2b1 : decide (0 < a0.size) = true := decide_eq_true (by omega)
  clear c2
  by_cases c4 : (bt a0 0) = 60
  ·rw [if_pos c4] at H
   have c4b0 : ((bt a0 0) == 60) = true := beq_iff_eq.mpr c4
   have c4b1 : ((bt a0 0) != 60) = false := bne_eq_false_iff_eq.mpr c4
   clear c4
   have HC5 := Aside0.mk H
   clear H
   go_enter Tryz.func82, Tryz.ntmps82
   go_upto_region 15 with (first | ((with_reducible refine gate_dst (N := 2) rfl ?_); refine box_event ?hg (N := 2) ?hd (cs := #[.int .i64 0, .int .i64 0, .string (⟨#[]⟩ : ByteArray), .int .i64 0]) (t := 75) ?hr ?_; (case hd => rfl); (case hg => rfl); (case hr => first | (go_simp; done) | (go_simp; rfl)); intro gb115 hg w6 hbox hb; have BK115 := Aside0.mk (hbox); have GW115 := Aside0.mk (gsz hg bl : w.heap.size ≤ gb115); have GE115 := Aside0.mk (gsz hg bl : w.heap.size ≤ gb115); replace HB := Aside0.mk (below_step bl hb); clear hb hbox hg; have p3 : 0 ≤ (0 : Int) := (by omega); have q3 : 0 < a0.size := (by have : (0 : Int) < (a0.size : Int) := of_decide_eq_true (by assumption); omega); have hx3 : ∀ h : 0 < a0.size, ((a0[0]'h).toNat : Int) = bt a0 0 := bt_at a0 0; clear p3; have qi3 : (0 < (a0.size : Int)) = True := eq_true (of_decide_eq_true (by assumption)); replace q3 := eq_true q3))
   (try simp only [Act.put, List.setIfInBounds_toArray, List.set_cons_zero, List.set_cons_succ])
   go_cut [30] (fun v30 wc => ∃ (kq : Nat) (x30_4 : Bool), v30 = .bool x30_4 ∧ Aside0 (lex_sign.j0 kq a0 1 x30_4 = some (r1, r2, r3, r4, r5, r6)) ∧ Aside0 (kq ≤ k) ∧ Aside0 (wc.heap[gb115]? = some (.cells #[.int .i64 0, .int .i64 0, .string (⟨#[]⟩ : ByteArray), .int .i64 0] 75 (0, 0))) ∧ Aside0 (Below w.heap.size w wc))
   case first =>
    have H := HC5.out
    clear HC5
    by_cases c7 : (a0.size : Int) > 1
    ·rw [if_pos c7] at H
     have c7b0 : decide (1 < (a0.size : Int)) = true := decide_eq_true c7
     have c7b1 : decide (1 < a0.size) = true := decide_eq_true (by omega)
     clear c7
     (first | rw [c7b0] | (simp only [i64_w, i32_w]; rw [c7b0]) | skip)
     by_cases c8 : 1 < (a0.size : Int)
     ·rw [if_pos c8] at H
      have c8b0 : decide (1 < (a0.size : Int)) = true := decide_eq_true c8
      have c8b1 : decide (1 < a0.size) = true := decide_eq_true (by omega)
      clear c8
      have H' := Aside0.mk H
      clear H
      have p9 : 0 ≤ (1 : Int) := (by omega)
      have q9 : 1 < a0.size := (by have : (1 : Int) < (a0.size : Int) := of_decide_eq_true (by assumption); omega)
      have hx9 : ∀ h : 1 < a0.size, ((a0[1]'h).toNat : Int) = bt a0 1 := bt_at a0 1
      clear p9
      have qi9 : (1 < (a0.size : Int)) = True := eq_true (of_decide_eq_true (by assumption))
      replace q9 := eq_true q9
      go_wp2
      go_meet
      case rel => exact ⟨_, (((bt a0 1) == 62)), rs, H', ⟨lk⟩, ⟨bk⟩, ⟨bl⟩⟩
     ·rw [if_neg c8] at H
      exact absurd H (by simp)
    ·rw [if_neg c7] at H
     have c7b0 : decide (1 < (a0.size : Int)) = false := decide_eq_false c7
     have c7b1 : decide (1 < a0.size) = false := decide_eq_false (by omega)
     clear c7
     (first | rw [c7b0] | (simp only [i64_w, i32_w]; rw [c7b0]) | skip)
     have H' := Aside0.mk H
     clear H
     go_wp2
     go_meet
     case rel => exact ⟨_, (false), rs, H', ⟨lk⟩, ⟨bk⟩, ⟨bl⟩⟩
   case rest =>
    clear HC5
    try clear c2
    try clear c2b0
    try clear c2b1
    try clear p3
    try clear q3
    try clear hx3
    try clear qi3
    try clear c4
    try clear c4b0
    try clear c4b1
    try clear p3
    try clear q3
    obtain ⟨kq, x30_4, rfl, HA, HJ4, BK115, HB⟩ := hcut
    cases kq with
    | zero => exact absurd HA.out (by simp [lex_sign.j0])
    | succ kj4 =>
     have H := HA.out
     clear HA
     simp only [lex_sign.j0] at H
     by_cases c10 : x30_4 = true
     ·subst c10
      have H1 : (if 0 ≤ 2 then (if 2 ≤ (a0.size : Int) then (some (4, 0, a0.extract 0 2, 0, 2, 0)) else (none)) else (none)) = some (r1, r2, r3, r4, r5, r6) := by rw [if_pos rfl] at H; exact H
      clear H
      have H := H1
      clear H1
      by_cases c11 : 0 ≤ 2
      ·rw [if_pos c11] at H
       have c11b0 := eq_true c11
       have c11b1 : decide (0 ≤ 2) = true := decide_eq_true c11
       clear c11
       by_cases c12 : 2 ≤ (a0.size : Int)
       ·rw [if_pos c12] at H
        have c12b0 := eq_true c12
        have c12b1 : decide (2 ≤ (a0.size : Int)) = true := decide_eq_true c12
        clear c12
        simp only [Option.some.injEq, Prod.mk.injEq] at H
        obtain ⟨rfl, rfl, rfl, rfl, rfl, rfl⟩ := H
        obtain ⟨hcz13_0, hcz13_1, hcz13_2, hcz13_3⟩ := cells4 BK115.out
        obtain ⟨hfz13_0, hfz13_1, hfz13_2, hfz13_3⟩ := froz4 BK115.out
        go_wp2
        refine bodyPost_ret (results_ctt rfl _ _ gb115 75 #[.int .i64 4, .int .i64 0, .string (a0.extract 0 2), .int .i64 0] (0, 0) _ rfl bp4 Tryz.underlying75 rfl (by kernel_rfl)) rfl ?_
        exact ⟨er, bl⟩
       ·rw [if_neg c12] at H
        exact absurd H (by simp)
      ·rw [if_neg c11] at H
       exact absurd H (by simp)
     ·replace c10 := Bool.eq_false_iff.mpr c10
      subst c10
      have H1 : (if (a0.size : Int) > 1 then (if 1 < (a0.size : Int) then (if (bt a0 1) = 61 then (if 0 ≤ 2 then (if 2 ≤ (a0.size : Int) then (some (4, 0, a0.extract 0 2, 0, 2, 0)) else (none)) else (none)) else (if 0 ≤ 1 then (if 1 ≤ (a0.size : Int) then (some (4, 0, a0.extract 0 (1 : Int).toNat, 0, 1, 0)) else (none)) else (none))) else (none)) else (if 0 ≤ 1 then (if 1 ≤ (a0.size : Int) then (some (4, 0, a0.extract 0 (1 : Int).toNat, 0, 1, 0)) else (none)) else (none))) = some (r1, r2, r3, r4, r5, r6) := by rw [if_neg (show ¬ (false = true) by decide)] at H; exact H
      clear H
      have H := H1
      clear H1
      by_cases c14 : (a0.size : Int) > 1
      ·rw [if_pos c14] at H
       have c14b0 : decide (1 < (a0.size : Int)) = true := decide_eq_true c14
       have c14b1 : decide (1 < a0.size) = true := decide_eq_true (by omega)
       clear c14
       by_cases c15 : 1 < (a0.size : Int)
       ·rw [if_pos c15] at H
        have c15b0 : decide (1 < (a0.size : Int)) = true := decide_eq_true c15
        have c15b1 : decide (1 < a0.size) = true := decide_eq_true (by omega)
        clear c15
        by_cases c17 : (bt a0 1) = 61
        ·rw [if_pos c17] at H
         have c17b0 : ((bt a0 1) == 61) = true := beq_iff_eq.mpr c17
         have c17b1 : ((bt a0 1) != 61) = false := bne_eq_false_iff_eq.mpr c17
         clear c17
         by_cases c18 : 0 ≤ 2
         ·rw [if_pos c18] at H
          have c18b0 := eq_true c18
          have c18b1 : decide (0 ≤ 2) = true := decide_eq_true c18
          clear c18
          by_cases c19 : 2 ≤ (a0.size : Int)
          ·rw [if_pos c19] at H
           have c19b0 := eq_true c19
           have c19b1 : decide (2 ≤ (a0.size : Int)) = true := decide_eq_true c19
           clear c19
           simp only [Option.some.injEq, Prod.mk.injEq] at H
           obtain ⟨rfl, rfl, rfl, rfl, rfl, rfl⟩ := H
           have p16 : 0 ≤ (1 : Int) := (by omega)
           have q16 : 1 < a0.size := (by have : (1 : Int) < (a0.size : Int) := of_decide_eq_true (by assumption); omega)
           have hx16 : ∀ h : 1 < a0.size, ((a0[1]'h).toNat : Int) = bt a0 1 := bt_at a0 1
           clear p16
           have qi16 : (1 < (a0.size : Int)) = True := eq_true (of_decide_eq_true (by assumption))
           replace q16 := eq_true q16
           obtain ⟨hcz20_0, hcz20_1, hcz20_2, hcz20_3⟩ := cells4 BK115.out
           obtain ⟨hfz20_0, hfz20_1, hfz20_2, hfz20_3⟩ := froz4 BK115.out
           go_wp2
           refine bodyPost_ret (results_ctt rfl _ _ gb115 75 #[.int .i64 4, .int .i64 0, .string (a0.extract 0 2), .int .i64 0] (0, 0) _ rfl bp4 Tryz.underlying75 rfl (by kernel_rfl)) rfl ?_
           exact ⟨er, bl⟩
          ·rw [if_neg c19] at H
           exact absurd H (by simp)
         ·rw [if_neg c18] at H
          exact absurd H (by simp)
        ·rw [if_neg c17] at H
         have c17b0 : ((bt a0 1) == 61) = false := beq_eq_false_iff_ne.mpr c17
         have c17b1 : ((bt a0 1) != 61) = true := bne_iff_ne.mpr c17
         by_cases c21 : 0 ≤ 1
         ·rw [if_pos c21] at H
          have c21b0 := eq_true c21
          have c21b1 : decide (0 ≤ 1) = true := decide_eq_true c21
          clear c21
          by_cases c22 : 1 ≤ (a0.size : Int)
          ·rw [if_pos c22] at H
           have c22b0 := eq_true c22
           have c22b1 : decide (1 ≤ (a0.size : Int)) = true := decide_eq_true c22
           clear c22
           simp only [Option.some.injEq, Prod.mk.injEq] at H
           obtain ⟨rfl, rfl, rfl, rfl, rfl, rfl⟩ := H
           have p16 : 0 ≤ (1 : Int) := (by omega)
           have q16 : 1 < a0.size := (by have : (1 : Int) < (a0.size : Int) := of_decide_eq_true (by assumption); omega)
           have hx16 : ∀ h : 1 < a0.size, ((a0[1]'h).toNat : Int) = bt a0 1 := bt_at a0 1
           clear p16
           have qi16 : (1 < (a0.size : Int)) = True := eq_true (of_decide_eq_true (by assumption))
           replace q16 := eq_true q16
           obtain ⟨hcz23_0, hcz23_1, hcz23_2, hcz23_3⟩ := cells4 BK115.out
           obtain ⟨hfz23_0, hfz23_1, hfz23_2, hfz23_3⟩ := froz4 BK115.out
           go_wp2
           refine bodyPost_ret (results_ctt rfl _ _ gb115 75 #[.int .i64 4, .int .i64 0, .string (a0.extract 0 (1 : Int).toNat), .int .i64 0] (0, 0) _ rfl bp4 Tryz.underlying75 rfl (by kernel_rfl)) rfl ?_
           exact ⟨er, bl⟩
          ·rw [if_neg c22] at H
           exact absurd H (by simp)
         ·rw [if_neg c21] at H
          exact absurd H (by simp)
       ·rw [if_neg c15] at H
        exact absurd H (by simp)
      ·rw [if_neg c14] at H
       have c14b0 : decide (1 < (a0.size : Int)) = false := decide_eq_false c14
       have c14b1 : decide (1 < a0.size) = false := decide_eq_false (by omega)
       clear c14
       by_cases c24 : 0 ≤ 1
       ·rw [if_pos c24] at H
        have c24b0 := eq_true c24
        have c24b1 : decide (0 ≤ 1) = true := decide_eq_true c24
        clear c24
        by_cases c25 : 1 ≤ (a0.size : Int)
        ·rw [if_pos c25] at H
         have c25b0 := eq_true c25
         have c25b1 : decide (1 ≤ (a0.size : Int)) = true := decide_eq_true c25
         clear c25
         simp only [Option.some.injEq, Prod.mk.injEq] at H
         obtain ⟨rfl, rfl, rfl, rfl, rfl, rfl⟩ := H
         obtain ⟨hcz26_0, hcz26_1, hcz26_2, hcz26_3⟩ := cells4 BK115.out
         obtain ⟨hfz26_0, hfz26_1, hfz26_2, hfz26_3⟩ := froz4 BK115.out
         go_wp2
         refine bodyPost_ret (results_ctt rfl _ _ gb115 75 #[.int .i64 4, .int .i64 0, .string (a0.extract 0 (1 : Int).toNat), .int .i64 0] (0, 0) _ rfl bp4 Tryz.underlying75 rfl (by kernel_rfl)) rfl ?_
         exact ⟨er, bl⟩
        ·rw [if_neg c25] at H
         exact absurd H (by simp)
       ·rw [if_neg c24] at H
        exact absurd H (by simp)
  ·rw [if_neg c4] at H
   have c4b0 : ((bt a0 0) == 60) = false := beq_eq_false_iff_ne.mpr c4
   have c4b1 : ((bt a0 0) != 60) = true := bne_iff_ne.mpr c4
   by_cases c27 : (bt a0 0) = 62
   ·rw [if_pos c27] at H
    have c27b0 : ((bt a0 0) == 62) = true := beq_iff_eq.mpr c27
    have c27b1 : ((bt a0 0) != 62) = false := bne_eq_false_iff_eq.mpr c27
    clear c27
    by_cases c28 : (a0.size : Int) > 1
    ·rw [if_pos c28] at H
     have c28b0 : decide (1 < (a0.size : Int)) = true := decide_eq_true c28
     have c28b1 : decide (1 < a0.size) = true := decide_eq_true (by omega)
     clear c28
     by_cases c29 : 1 < (a0.size : Int)
     ·rw [if_pos c29] at H
      have c29b0 : decide (1 < (a0.size : Int)) = true := decide_eq_true c29
      have c29b1 : decide (1 < a0.size) = true := decide_eq_true (by omega)
      clear c29
      by_cases c31 : (bt a0 1) = 61
      ·rw [if_pos c31] at H
       have c31b0 : ((bt a0 1) == 61) = true := beq_iff_eq.mpr c31
       have c31b1 : ((bt a0 1) != 61) = false := bne_eq_false_iff_eq.mpr c31
       clear c31
       by_cases c32 : 0 ≤ 2
       ·rw [if_pos c32] at H
        have c32b0 := eq_true c32
        have c32b1 : decide (0 ≤ 2) = true := decide_eq_true c32
        clear c32
        by_cases c33 : 2 ≤ (a0.size : Int)
        ·rw [if_pos c33] at H
         have c33b0 := eq_true c33
         have c33b1 : decide (2 ≤ (a0.size : Int)) = true := decide_eq_true c33
         clear c33
         simp only [Option.some.injEq, Prod.mk.injEq] at H
         obtain ⟨rfl, rfl, rfl, rfl, rfl, rfl⟩ := H
         go_enter Tryz.func82, Tryz.ntmps82
         go_wp2_with (first | ((with_reducible refine gate_dst (N := 2) rfl ?_); refine box_event ?hg (N := 2) ?hd (cs := #[.int .i64 0, .int .i64 0, .string (⟨#[]⟩ : ByteArray), .int .i64 0]) (t := 75) ?hr ?_; (case hd => rfl); (case hg => rfl); (case hr => first | (go_simp; done) | (go_simp; rfl)); intro gb115 hg w34 hbox hb; have BK115 := Aside0.mk (hbox); have GW115 := Aside0.mk (gsz hg bl : w.heap.size ≤ gb115); have GE115 := Aside0.mk (gsz hg bl : w.heap.size ≤ gb115); replace HB := Aside0.mk (below_step bl hb); clear hb hbox hg; have p3 : 0 ≤ (0 : Int) := (by omega); have q3 : 0 < a0.size := (by have : (0 : Int) < (a0.size : Int) := of_decide_eq_true (by assumption); omega); have hx3 : ∀ h : 0 < a0.size, ((a0[0]'h).toNat : Int) = bt a0 0 := bt_at a0 0; clear p3; have qi3 : (0 < (a0.size : Int)) = True := eq_true (of_decide_eq_true (by assumption)); replace q3 := eq_true q3; have p30 : 0 ≤ (1 : Int) := (by omega); have q30 : 1 < a0.size := (by have : (1 : Int) < (a0.size : Int) := of_decide_eq_true (by assumption); omega); have hx30 : ∀ h : 1 < a0.size, ((a0[1]'h).toNat : Int) = bt a0 1 := bt_at a0 1; clear p30; have qi30 : (1 < (a0.size : Int)) = True := eq_true (of_decide_eq_true (by assumption)); replace q30 := eq_true q30; obtain ⟨hcz35_0, hcz35_1, hcz35_2, hcz35_3⟩ := cells4 BK115.out; obtain ⟨hfz35_0, hfz35_1, hfz35_2, hfz35_3⟩ := froz4 BK115.out))
         refine bodyPost_ret (results_ctt rfl _ _ gb115 75 #[.int .i64 4, .int .i64 0, .string (a0.extract 0 2), .int .i64 0] (0, 0) _ rfl bp4 Tryz.underlying75 rfl (by kernel_rfl)) rfl ?_
         exact ⟨er, bl⟩
        ·rw [if_neg c33] at H
         exact absurd H (by simp)
       ·rw [if_neg c32] at H
        exact absurd H (by simp)
      ·rw [if_neg c31] at H
       have c31b0 : ((bt a0 1) == 61) = false := beq_eq_false_iff_ne.mpr c31
       have c31b1 : ((bt a0 1) != 61) = true := bne_iff_ne.mpr c31
       by_cases c36 : 0 ≤ 1
       ·rw [if_pos c36] at H
        have c36b0 := eq_true c36
        have c36b1 : decide (0 ≤ 1) = true := decide_eq_true c36
        clear c36
        by_cases c37 : 1 ≤ (a0.size : Int)
        ·rw [if_pos c37] at H
         have c37b0 := eq_true c37
         have c37b1 : decide (1 ≤ (a0.size : Int)) = true := decide_eq_true c37
         clear c37
         simp only [Option.some.injEq, Prod.mk.injEq] at H
         obtain ⟨rfl, rfl, rfl, rfl, rfl, rfl⟩ := H
         go_enter Tryz.func82, Tryz.ntmps82
         go_wp2_with (first | ((with_reducible refine gate_dst (N := 2) rfl ?_); refine box_event ?hg (N := 2) ?hd (cs := #[.int .i64 0, .int .i64 0, .string (⟨#[]⟩ : ByteArray), .int .i64 0]) (t := 75) ?hr ?_; (case hd => rfl); (case hg => rfl); (case hr => first | (go_simp; done) | (go_simp; rfl)); intro gb115 hg w38 hbox hb; have BK115 := Aside0.mk (hbox); have GW115 := Aside0.mk (gsz hg bl : w.heap.size ≤ gb115); have GE115 := Aside0.mk (gsz hg bl : w.heap.size ≤ gb115); replace HB := Aside0.mk (below_step bl hb); clear hb hbox hg; have p3 : 0 ≤ (0 : Int) := (by omega); have q3 : 0 < a0.size := (by have : (0 : Int) < (a0.size : Int) := of_decide_eq_true (by assumption); omega); have hx3 : ∀ h : 0 < a0.size, ((a0[0]'h).toNat : Int) = bt a0 0 := bt_at a0 0; clear p3; have qi3 : (0 < (a0.size : Int)) = True := eq_true (of_decide_eq_true (by assumption)); replace q3 := eq_true q3; have p30 : 0 ≤ (1 : Int) := (by omega); have q30 : 1 < a0.size := (by have : (1 : Int) < (a0.size : Int) := of_decide_eq_true (by assumption); omega); have hx30 : ∀ h : 1 < a0.size, ((a0[1]'h).toNat : Int) = bt a0 1 := bt_at a0 1; clear p30; have qi30 : (1 < (a0.size : Int)) = True := eq_true (of_decide_eq_true (by assumption)); replace q30 := eq_true q30; obtain ⟨hcz39_0, hcz39_1, hcz39_2, hcz39_3⟩ := cells4 BK115.out; obtain ⟨hfz39_0, hfz39_1, hfz39_2, hfz39_3⟩ := froz4 BK115.out))
         refine bodyPost_ret (results_ctt rfl _ _ gb115 75 #[.int .i64 4, .int .i64 0, .string (a0.extract 0 1), .int .i64 0] (0, 0) _ rfl bp4 Tryz.underlying75 rfl (by kernel_rfl)) rfl ?_
         exact ⟨er, bl⟩
        ·rw [if_neg c37] at H
         exact absurd H (by simp)
       ·rw [if_neg c36] at H
        exact absurd H (by simp)
     ·rw [if_neg c29] at H
      exact absurd H (by simp)
    ·rw [if_neg c28] at H
     have c28b0 : decide (1 < (a0.size : Int)) = false := decide_eq_false c28
     have c28b1 : decide (1 < a0.size) = false := decide_eq_false (by omega)
     clear c28
     by_cases c40 : 0 ≤ 1
     ·rw [if_pos c40] at H
      have c40b0 := eq_true c40
      have c40b1 : decide (0 ≤ 1) = true := decide_eq_true c40
      clear c40
      by_cases c41 : 1 ≤ (a0.size : Int)
      ·rw [if_pos c41] at H
       have c41b0 := eq_true c41
       have c41b1 : decide (1 ≤ (a0.size : Int)) = true := decide_eq_true c41
       clear c41
       simp only [Option.some.injEq, Prod.mk.injEq] at H
       obtain ⟨rfl, rfl, rfl, rfl, rfl, rfl⟩ := H
       go_enter Tryz.func82, Tryz.ntmps82
       go_wp2_with (first | ((with_reducible refine gate_dst (N := 2) rfl ?_); refine box_event ?hg (N := 2) ?hd (cs := #[.int .i64 0, .int .i64 0, .string (⟨#[]⟩ : ByteArray), .int .i64 0]) (t := 75) ?hr ?_; (case hd => rfl); (case hg => rfl); (case hr => first | (go_simp; done) | (go_simp; rfl)); intro gb115 hg w42 hbox hb; have BK115 := Aside0.mk (hbox); have GW115 := Aside0.mk (gsz hg bl : w.heap.size ≤ gb115); have GE115 := Aside0.mk (gsz hg bl : w.heap.size ≤ gb115); replace HB := Aside0.mk (below_step bl hb); clear hb hbox hg; have p3 : 0 ≤ (0 : Int) := (by omega); have q3 : 0 < a0.size := (by have : (0 : Int) < (a0.size : Int) := of_decide_eq_true (by assumption); omega); have hx3 : ∀ h : 0 < a0.size, ((a0[0]'h).toNat : Int) = bt a0 0 := bt_at a0 0; clear p3; have qi3 : (0 < (a0.size : Int)) = True := eq_true (of_decide_eq_true (by assumption)); replace q3 := eq_true q3; obtain ⟨hcz43_0, hcz43_1, hcz43_2, hcz43_3⟩ := cells4 BK115.out; obtain ⟨hfz43_0, hfz43_1, hfz43_2, hfz43_3⟩ := froz4 BK115.out))
       refine bodyPost_ret (results_ctt rfl _ _ gb115 75 #[.int .i64 4, .int .i64 0, .string (a0.extract 0 1), .int .i64 0] (0, 0) _ rfl bp4 Tryz.underlying75 rfl (by kernel_rfl)) rfl ?_
       exact ⟨er, bl⟩
      ·rw [if_neg c41] at H
       exact absurd H (by simp)
     ·rw [if_neg c40] at H
      exact absurd H (by simp)
   ·rw [if_neg c27] at H
    have c27b0 : ((bt a0 0) == 62) = false := beq_eq_false_iff_ne.mpr c27
    have c27b1 : ((bt a0 0) != 62) = true := bne_iff_ne.mpr c27
    by_cases c44 : (bt a0 0) = 40
    ·rw [if_pos c44] at H
     have c44b0 : ((bt a0 0) == 40) = true := beq_iff_eq.mpr c44
     have c44b1 : ((bt a0 0) != 40) = false := bne_eq_false_iff_eq.mpr c44
     clear c44
     by_cases c45 : 0 ≤ 1
     ·rw [if_pos c45] at H
      have c45b0 := eq_true c45
      have c45b1 : decide (0 ≤ 1) = true := decide_eq_true c45
      clear c45
      by_cases c46 : 1 ≤ (a0.size : Int)
      ·rw [if_pos c46] at H
       have c46b0 := eq_true c46
       have c46b1 : decide (1 ≤ (a0.size : Int)) = true := decide_eq_true c46
       clear c46
       simp only [Option.some.injEq, Prod.mk.injEq] at H
       obtain ⟨rfl, rfl, rfl, rfl, rfl, rfl⟩ := H
       go_enter Tryz.func82, Tryz.ntmps82
       go_wp2_with (first | ((with_reducible refine gate_dst (N := 2) rfl ?_); refine box_event ?hg (N := 2) ?hd (cs := #[.int .i64 0, .int .i64 0, .string (⟨#[]⟩ : ByteArray), .int .i64 0]) (t := 75) ?hr ?_; (case hd => rfl); (case hg => rfl); (case hr => first | (go_simp; done) | (go_simp; rfl)); intro gb115 hg w47 hbox hb; have BK115 := Aside0.mk (hbox); have GW115 := Aside0.mk (gsz hg bl : w.heap.size ≤ gb115); have GE115 := Aside0.mk (gsz hg bl : w.heap.size ≤ gb115); replace HB := Aside0.mk (below_step bl hb); clear hb hbox hg; have p3 : 0 ≤ (0 : Int) := (by omega); have q3 : 0 < a0.size := (by have : (0 : Int) < (a0.size : Int) := of_decide_eq_true (by assumption); omega); have hx3 : ∀ h : 0 < a0.size, ((a0[0]'h).toNat : Int) = bt a0 0 := bt_at a0 0; clear p3; have qi3 : (0 < (a0.size : Int)) = True := eq_true (of_decide_eq_true (by assumption)); replace q3 := eq_true q3; obtain ⟨hcz48_0, hcz48_1, hcz48_2, hcz48_3⟩ := cells4 BK115.out; obtain ⟨hfz48_0, hfz48_1, hfz48_2, hfz48_3⟩ := froz4 BK115.out))
       refine bodyPost_ret (results_ctt rfl _ _ gb115 75 #[.int .i64 4, .int .i64 0, .string (a0.extract 0 1), .int .i64 0] (0, 0) _ rfl bp4 Tryz.underlying75 rfl (by kernel_rfl)) rfl ?_
       exact ⟨er, bl⟩
      ·rw [if_neg c46] at H
       exact absurd H (by simp)
     ·rw [if_neg c45] at H
      exact absurd H (by simp)
    ·rw [if_neg c44] at H
     have c44b0 : ((bt a0 0) == 40) = false := beq_eq_false_iff_ne.mpr c44
     have c44b1 : ((bt a0 0) != 40) = true := bne_iff_ne.mpr c44
     by_cases c49 : (bt a0 0) = 41
     ·rw [if_pos c49] at H
      have c49b0 : ((bt a0 0) == 41) = true := beq_iff_eq.mpr c49
      have c49b1 : ((bt a0 0) != 41) = false := bne_eq_false_iff_eq.mpr c49
      clear c49
      by_cases c50 : 0 ≤ 1
      ·rw [if_pos c50] at H
       have c50b0 := eq_true c50
       have c50b1 : decide (0 ≤ 1) = true := decide_eq_true c50
       clear c50
       by_cases c51 : 1 ≤ (a0.size : Int)
       ·rw [if_pos c51] at H
        have c51b0 := eq_true c51
        have c51b1 : decide (1 ≤ (a0.size : Int)) = true := decide_eq_true c51
        clear c51
        simp only [Option.some.injEq, Prod.mk.injEq] at H
        obtain ⟨rfl, rfl, rfl, rfl, rfl, rfl⟩ := H
        go_enter Tryz.func82, Tryz.ntmps82
        go_wp2_with (first | ((with_reducible refine gate_dst (N := 2) rfl ?_); refine box_event ?hg (N := 2) ?hd (cs := #[.int .i64 0, .int .i64 0, .string (⟨#[]⟩ : ByteArray), .int .i64 0]) (t := 75) ?hr ?_; (case hd => rfl); (case hg => rfl); (case hr => first | (go_simp; done) | (go_simp; rfl)); intro gb115 hg w52 hbox hb; have BK115 := Aside0.mk (hbox); have GW115 := Aside0.mk (gsz hg bl : w.heap.size ≤ gb115); have GE115 := Aside0.mk (gsz hg bl : w.heap.size ≤ gb115); replace HB := Aside0.mk (below_step bl hb); clear hb hbox hg; have p3 : 0 ≤ (0 : Int) := (by omega); have q3 : 0 < a0.size := (by have : (0 : Int) < (a0.size : Int) := of_decide_eq_true (by assumption); omega); have hx3 : ∀ h : 0 < a0.size, ((a0[0]'h).toNat : Int) = bt a0 0 := bt_at a0 0; clear p3; have qi3 : (0 < (a0.size : Int)) = True := eq_true (of_decide_eq_true (by assumption)); replace q3 := eq_true q3; obtain ⟨hcz53_0, hcz53_1, hcz53_2, hcz53_3⟩ := cells4 BK115.out; obtain ⟨hfz53_0, hfz53_1, hfz53_2, hfz53_3⟩ := froz4 BK115.out))
        refine bodyPost_ret (results_ctt rfl _ _ gb115 75 #[.int .i64 4, .int .i64 0, .string (a0.extract 0 1), .int .i64 0] (0, 0) _ rfl bp4 Tryz.underlying75 rfl (by kernel_rfl)) rfl ?_
        exact ⟨er, bl⟩
       ·rw [if_neg c51] at H
        exact absurd H (by simp)
      ·rw [if_neg c50] at H
       exact absurd H (by simp)
     ·rw [if_neg c49] at H
      have c49b0 : ((bt a0 0) == 41) = false := beq_eq_false_iff_ne.mpr c49
      have c49b1 : ((bt a0 0) != 41) = true := bne_iff_ne.mpr c49
      by_cases c54 : (bt a0 0) = 44
      ·rw [if_pos c54] at H
       have c54b0 : ((bt a0 0) == 44) = true := beq_iff_eq.mpr c54
       have c54b1 : ((bt a0 0) != 44) = false := bne_eq_false_iff_eq.mpr c54
       clear c54
       by_cases c55 : 0 ≤ 1
       ·rw [if_pos c55] at H
        have c55b0 := eq_true c55
        have c55b1 : decide (0 ≤ 1) = true := decide_eq_true c55
        clear c55
        by_cases c56 : 1 ≤ (a0.size : Int)
        ·rw [if_pos c56] at H
         have c56b0 := eq_true c56
         have c56b1 : decide (1 ≤ (a0.size : Int)) = true := decide_eq_true c56
         clear c56
         simp only [Option.some.injEq, Prod.mk.injEq] at H
         obtain ⟨rfl, rfl, rfl, rfl, rfl, rfl⟩ := H
         go_enter Tryz.func82, Tryz.ntmps82
         go_wp2_with (first | ((with_reducible refine gate_dst (N := 2) rfl ?_); refine box_event ?hg (N := 2) ?hd (cs := #[.int .i64 0, .int .i64 0, .string (⟨#[]⟩ : ByteArray), .int .i64 0]) (t := 75) ?hr ?_; (case hd => rfl); (case hg => rfl); (case hr => first | (go_simp; done) | (go_simp; rfl)); intro gb115 hg w57 hbox hb; have BK115 := Aside0.mk (hbox); have GW115 := Aside0.mk (gsz hg bl : w.heap.size ≤ gb115); have GE115 := Aside0.mk (gsz hg bl : w.heap.size ≤ gb115); replace HB := Aside0.mk (below_step bl hb); clear hb hbox hg; have p3 : 0 ≤ (0 : Int) := (by omega); have q3 : 0 < a0.size := (by have : (0 : Int) < (a0.size : Int) := of_decide_eq_true (by assumption); omega); have hx3 : ∀ h : 0 < a0.size, ((a0[0]'h).toNat : Int) = bt a0 0 := bt_at a0 0; clear p3; have qi3 : (0 < (a0.size : Int)) = True := eq_true (of_decide_eq_true (by assumption)); replace q3 := eq_true q3; obtain ⟨hcz58_0, hcz58_1, hcz58_2, hcz58_3⟩ := cells4 BK115.out; obtain ⟨hfz58_0, hfz58_1, hfz58_2, hfz58_3⟩ := froz4 BK115.out))
         refine bodyPost_ret (results_ctt rfl _ _ gb115 75 #[.int .i64 4, .int .i64 0, .string (a0.extract 0 1), .int .i64 0] (0, 0) _ rfl bp4 Tryz.underlying75 rfl (by kernel_rfl)) rfl ?_
         exact ⟨er, bl⟩
        ·rw [if_neg c56] at H
         exact absurd H (by simp)
       ·rw [if_neg c55] at H
        exact absurd H (by simp)
      ·rw [if_neg c54] at H
       have c54b0 : ((bt a0 0) == 44) = false := beq_eq_false_iff_ne.mpr c54
       have c54b1 : ((bt a0 0) != 44) = true := bne_iff_ne.mpr c54
       by_cases c59 : (bt a0 0) = 59
       ·rw [if_pos c59] at H
        have c59b0 : ((bt a0 0) == 59) = true := beq_iff_eq.mpr c59
        have c59b1 : ((bt a0 0) != 59) = false := bne_eq_false_iff_eq.mpr c59
        clear c59
        by_cases c60 : 0 ≤ 1
        ·rw [if_pos c60] at H
         have c60b0 := eq_true c60
         have c60b1 : decide (0 ≤ 1) = true := decide_eq_true c60
         clear c60
         by_cases c61 : 1 ≤ (a0.size : Int)
         ·rw [if_pos c61] at H
          have c61b0 := eq_true c61
          have c61b1 : decide (1 ≤ (a0.size : Int)) = true := decide_eq_true c61
          clear c61
          simp only [Option.some.injEq, Prod.mk.injEq] at H
          obtain ⟨rfl, rfl, rfl, rfl, rfl, rfl⟩ := H
          go_enter Tryz.func82, Tryz.ntmps82
          go_wp2_with (first | ((with_reducible refine gate_dst (N := 2) rfl ?_); refine box_event ?hg (N := 2) ?hd (cs := #[.int .i64 0, .int .i64 0, .string (⟨#[]⟩ : ByteArray), .int .i64 0]) (t := 75) ?hr ?_; (case hd => rfl); (case hg => rfl); (case hr => first | (go_simp; done) | (go_simp; rfl)); intro gb115 hg w62 hbox hb; have BK115 := Aside0.mk (hbox); have GW115 := Aside0.mk (gsz hg bl : w.heap.size ≤ gb115); have GE115 := Aside0.mk (gsz hg bl : w.heap.size ≤ gb115); replace HB := Aside0.mk (below_step bl hb); clear hb hbox hg; have p3 : 0 ≤ (0 : Int) := (by omega); have q3 : 0 < a0.size := (by have : (0 : Int) < (a0.size : Int) := of_decide_eq_true (by assumption); omega); have hx3 : ∀ h : 0 < a0.size, ((a0[0]'h).toNat : Int) = bt a0 0 := bt_at a0 0; clear p3; have qi3 : (0 < (a0.size : Int)) = True := eq_true (of_decide_eq_true (by assumption)); replace q3 := eq_true q3; obtain ⟨hcz63_0, hcz63_1, hcz63_2, hcz63_3⟩ := cells4 BK115.out; obtain ⟨hfz63_0, hfz63_1, hfz63_2, hfz63_3⟩ := froz4 BK115.out))
          refine bodyPost_ret (results_ctt rfl _ _ gb115 75 #[.int .i64 4, .int .i64 0, .string (a0.extract 0 1), .int .i64 0] (0, 0) _ rfl bp4 Tryz.underlying75 rfl (by kernel_rfl)) rfl ?_
          exact ⟨er, bl⟩
         ·rw [if_neg c61] at H
          exact absurd H (by simp)
        ·rw [if_neg c60] at H
         exact absurd H (by simp)
       ·rw [if_neg c59] at H
        have c59b0 : ((bt a0 0) == 59) = false := beq_eq_false_iff_ne.mpr c59
        have c59b1 : ((bt a0 0) != 59) = true := bne_iff_ne.mpr c59
        by_cases c64 : (bt a0 0) = 42
        ·rw [if_pos c64] at H
         have c64b0 : ((bt a0 0) == 42) = true := beq_iff_eq.mpr c64
         have c64b1 : ((bt a0 0) != 42) = false := bne_eq_false_iff_eq.mpr c64
         clear c64
         by_cases c65 : 0 ≤ 1
         ·rw [if_pos c65] at H
          have c65b0 := eq_true c65
          have c65b1 : decide (0 ≤ 1) = true := decide_eq_true c65
          clear c65
          by_cases c66 : 1 ≤ (a0.size : Int)
          ·rw [if_pos c66] at H
           have c66b0 := eq_true c66
           have c66b1 : decide (1 ≤ (a0.size : Int)) = true := decide_eq_true c66
           clear c66
           simp only [Option.some.injEq, Prod.mk.injEq] at H
           obtain ⟨rfl, rfl, rfl, rfl, rfl, rfl⟩ := H
           go_enter Tryz.func82, Tryz.ntmps82
           go_wp2_with (first | ((with_reducible refine gate_dst (N := 2) rfl ?_); refine box_event ?hg (N := 2) ?hd (cs := #[.int .i64 0, .int .i64 0, .string (⟨#[]⟩ : ByteArray), .int .i64 0]) (t := 75) ?hr ?_; (case hd => rfl); (case hg => rfl); (case hr => first | (go_simp; done) | (go_simp; rfl)); intro gb115 hg w67 hbox hb; have BK115 := Aside0.mk (hbox); have GW115 := Aside0.mk (gsz hg bl : w.heap.size ≤ gb115); have GE115 := Aside0.mk (gsz hg bl : w.heap.size ≤ gb115); replace HB := Aside0.mk (below_step bl hb); clear hb hbox hg; have p3 : 0 ≤ (0 : Int) := (by omega); have q3 : 0 < a0.size := (by have : (0 : Int) < (a0.size : Int) := of_decide_eq_true (by assumption); omega); have hx3 : ∀ h : 0 < a0.size, ((a0[0]'h).toNat : Int) = bt a0 0 := bt_at a0 0; clear p3; have qi3 : (0 < (a0.size : Int)) = True := eq_true (of_decide_eq_true (by assumption)); replace q3 := eq_true q3; obtain ⟨hcz68_0, hcz68_1, hcz68_2, hcz68_3⟩ := cells4 BK115.out; obtain ⟨hfz68_0, hfz68_1, hfz68_2, hfz68_3⟩ := froz4 BK115.out))
           refine bodyPost_ret (results_ctt rfl _ _ gb115 75 #[.int .i64 4, .int .i64 0, .string (a0.extract 0 1), .int .i64 0] (0, 0) _ rfl bp4 Tryz.underlying75 rfl (by kernel_rfl)) rfl ?_
           exact ⟨er, bl⟩
          ·rw [if_neg c66] at H
           exact absurd H (by simp)
         ·rw [if_neg c65] at H
          exact absurd H (by simp)
        ·rw [if_neg c64] at H
         have c64b0 : ((bt a0 0) == 42) = false := beq_eq_false_iff_ne.mpr c64
         have c64b1 : ((bt a0 0) != 42) = true := bne_iff_ne.mpr c64
         by_cases c69 : (bt a0 0) = 61
         ·rw [if_pos c69] at H
          have c69b0 : ((bt a0 0) == 61) = true := beq_iff_eq.mpr c69
          have c69b1 : ((bt a0 0) != 61) = false := bne_eq_false_iff_eq.mpr c69
          clear c69
          by_cases c70 : 0 ≤ 1
          ·rw [if_pos c70] at H
           have c70b0 := eq_true c70
           have c70b1 : decide (0 ≤ 1) = true := decide_eq_true c70
           clear c70
           by_cases c71 : 1 ≤ (a0.size : Int)
           ·rw [if_pos c71] at H
            have c71b0 := eq_true c71
            have c71b1 : decide (1 ≤ (a0.size : Int)) = true := decide_eq_true c71
            clear c71
            simp only [Option.some.injEq, Prod.mk.injEq] at H
            obtain ⟨rfl, rfl, rfl, rfl, rfl, rfl⟩ := H
            go_enter Tryz.func82, Tryz.ntmps82
            go_wp2_with (first | ((with_reducible refine gate_dst (N := 2) rfl ?_); refine box_event ?hg (N := 2) ?hd (cs := #[.int .i64 0, .int .i64 0, .string (⟨#[]⟩ : ByteArray), .int .i64 0]) (t := 75) ?hr ?_; (case hd => rfl); (case hg => rfl); (case hr => first | (go_simp; done) | (go_simp; rfl)); intro gb115 hg w72 hbox hb; have BK115 := Aside0.mk (hbox); have GW115 := Aside0.mk (gsz hg bl : w.heap.size ≤ gb115); have GE115 := Aside0.mk (gsz hg bl : w.heap.size ≤ gb115); replace HB := Aside0.mk (below_step bl hb); clear hb hbox hg; have p3 : 0 ≤ (0 : Int) := (by omega); have q3 : 0 < a0.size := (by have : (0 : Int) < (a0.size : Int) := of_decide_eq_true (by assumption); omega); have hx3 : ∀ h : 0 < a0.size, ((a0[0]'h).toNat : Int) = bt a0 0 := bt_at a0 0; clear p3; have qi3 : (0 < (a0.size : Int)) = True := eq_true (of_decide_eq_true (by assumption)); replace q3 := eq_true q3; obtain ⟨hcz73_0, hcz73_1, hcz73_2, hcz73_3⟩ := cells4 BK115.out; obtain ⟨hfz73_0, hfz73_1, hfz73_2, hfz73_3⟩ := froz4 BK115.out))
            refine bodyPost_ret (results_ctt rfl _ _ gb115 75 #[.int .i64 4, .int .i64 0, .string (a0.extract 0 1), .int .i64 0] (0, 0) _ rfl bp4 Tryz.underlying75 rfl (by kernel_rfl)) rfl ?_
            exact ⟨er, bl⟩
           ·rw [if_neg c71] at H
            exact absurd H (by simp)
          ·rw [if_neg c70] at H
           exact absurd H (by simp)
         ·rw [if_neg c69] at H
          have c69b0 : ((bt a0 0) == 61) = false := beq_eq_false_iff_ne.mpr c69
          have c69b1 : ((bt a0 0) != 61) = true := bne_iff_ne.mpr c69
          by_cases c74 : (bt a0 0) = 43
          ·rw [if_pos c74] at H
           have c74b0 : ((bt a0 0) == 43) = true := beq_iff_eq.mpr c74
           have c74b1 : ((bt a0 0) != 43) = false := bne_eq_false_iff_eq.mpr c74
           clear c74
           by_cases c75 : 0 ≤ 1
           ·rw [if_pos c75] at H
            have c75b0 := eq_true c75
            have c75b1 : decide (0 ≤ 1) = true := decide_eq_true c75
            clear c75
            by_cases c76 : 1 ≤ (a0.size : Int)
            ·rw [if_pos c76] at H
             have c76b0 := eq_true c76
             have c76b1 : decide (1 ≤ (a0.size : Int)) = true := decide_eq_true c76
             clear c76
             simp only [Option.some.injEq, Prod.mk.injEq] at H
             obtain ⟨rfl, rfl, rfl, rfl, rfl, rfl⟩ := H
             go_enter Tryz.func82, Tryz.ntmps82
             go_wp2_with (first | ((with_reducible refine gate_dst (N := 2) rfl ?_); refine box_event ?hg (N := 2) ?hd (cs := #[.int .i64 0, .int .i64 0, .string (⟨#[]⟩ : ByteArray), .int .i64 0]) (t := 75) ?hr ?_; (case hd => rfl); (case hg => rfl); (case hr => first | (go_simp; done) | (go_simp; rfl)); intro gb115 hg w77 hbox hb; have BK115 := Aside0.mk (hbox); have GW115 := Aside0.mk (gsz hg bl : w.heap.size ≤ gb115); have GE115 := Aside0.mk (gsz hg bl : w.heap.size ≤ gb115); replace HB := Aside0.mk (below_step bl hb); clear hb hbox hg; have p3 : 0 ≤ (0 : Int) := (by omega); have q3 : 0 < a0.size := (by have : (0 : Int) < (a0.size : Int) := of_decide_eq_true (by assumption); omega); have hx3 : ∀ h : 0 < a0.size, ((a0[0]'h).toNat : Int) = bt a0 0 := bt_at a0 0; clear p3; have qi3 : (0 < (a0.size : Int)) = True := eq_true (of_decide_eq_true (by assumption)); replace q3 := eq_true q3; obtain ⟨hcz78_0, hcz78_1, hcz78_2, hcz78_3⟩ := cells4 BK115.out; obtain ⟨hfz78_0, hfz78_1, hfz78_2, hfz78_3⟩ := froz4 BK115.out))
             refine bodyPost_ret (results_ctt rfl _ _ gb115 75 #[.int .i64 4, .int .i64 0, .string (a0.extract 0 1), .int .i64 0] (0, 0) _ rfl bp4 Tryz.underlying75 rfl (by kernel_rfl)) rfl ?_
             exact ⟨er, bl⟩
            ·rw [if_neg c76] at H
             exact absurd H (by simp)
           ·rw [if_neg c75] at H
            exact absurd H (by simp)
          ·rw [if_neg c74] at H
           have c74b0 : ((bt a0 0) == 43) = false := beq_eq_false_iff_ne.mpr c74
           have c74b1 : ((bt a0 0) != 43) = true := bne_iff_ne.mpr c74
           by_cases c79 : (bt a0 0) = 45
           ·rw [if_pos c79] at H
            have c79b0 : ((bt a0 0) == 45) = true := beq_iff_eq.mpr c79
            have c79b1 : ((bt a0 0) != 45) = false := bne_eq_false_iff_eq.mpr c79
            clear c79
            by_cases c80 : 0 ≤ 1
            ·rw [if_pos c80] at H
             have c80b0 := eq_true c80
             have c80b1 : decide (0 ≤ 1) = true := decide_eq_true c80
             clear c80
             by_cases c81 : 1 ≤ (a0.size : Int)
             ·rw [if_pos c81] at H
              have c81b0 := eq_true c81
              have c81b1 : decide (1 ≤ (a0.size : Int)) = true := decide_eq_true c81
              clear c81
              simp only [Option.some.injEq, Prod.mk.injEq] at H
              obtain ⟨rfl, rfl, rfl, rfl, rfl, rfl⟩ := H
              go_enter Tryz.func82, Tryz.ntmps82
              go_wp2_with (first | ((with_reducible refine gate_dst (N := 2) rfl ?_); refine box_event ?hg (N := 2) ?hd (cs := #[.int .i64 0, .int .i64 0, .string (⟨#[]⟩ : ByteArray), .int .i64 0]) (t := 75) ?hr ?_; (case hd => rfl); (case hg => rfl); (case hr => first | (go_simp; done) | (go_simp; rfl)); intro gb115 hg w82 hbox hb; have BK115 := Aside0.mk (hbox); have GW115 := Aside0.mk (gsz hg bl : w.heap.size ≤ gb115); have GE115 := Aside0.mk (gsz hg bl : w.heap.size ≤ gb115); replace HB := Aside0.mk (below_step bl hb); clear hb hbox hg; have p3 : 0 ≤ (0 : Int) := (by omega); have q3 : 0 < a0.size := (by have : (0 : Int) < (a0.size : Int) := of_decide_eq_true (by assumption); omega); have hx3 : ∀ h : 0 < a0.size, ((a0[0]'h).toNat : Int) = bt a0 0 := bt_at a0 0; clear p3; have qi3 : (0 < (a0.size : Int)) = True := eq_true (of_decide_eq_true (by assumption)); replace q3 := eq_true q3; obtain ⟨hcz83_0, hcz83_1, hcz83_2, hcz83_3⟩ := cells4 BK115.out; obtain ⟨hfz83_0, hfz83_1, hfz83_2, hfz83_3⟩ := froz4 BK115.out))
              refine bodyPost_ret (results_ctt rfl _ _ gb115 75 #[.int .i64 4, .int .i64 0, .string (a0.extract 0 1), .int .i64 0] (0, 0) _ rfl bp4 Tryz.underlying75 rfl (by kernel_rfl)) rfl ?_
              exact ⟨er, bl⟩
             ·rw [if_neg c81] at H
              exact absurd H (by simp)
            ·rw [if_neg c80] at H
             exact absurd H (by simp)
           ·rw [if_neg c79] at H
            have c79b0 : ((bt a0 0) == 45) = false := beq_eq_false_iff_ne.mpr c79
            have c79b1 : ((bt a0 0) != 45) = true := bne_iff_ne.mpr c79
            by_cases c84 : (bt a0 0) = 47
            ·rw [if_pos c84] at H
             have c84b0 : ((bt a0 0) == 47) = true := beq_iff_eq.mpr c84
             have c84b1 : ((bt a0 0) != 47) = false := bne_eq_false_iff_eq.mpr c84
             clear c84
             by_cases c85 : 0 ≤ 1
             ·rw [if_pos c85] at H
              have c85b0 := eq_true c85
              have c85b1 : decide (0 ≤ 1) = true := decide_eq_true c85
              clear c85
              by_cases c86 : 1 ≤ (a0.size : Int)
              ·rw [if_pos c86] at H
               have c86b0 := eq_true c86
               have c86b1 : decide (1 ≤ (a0.size : Int)) = true := decide_eq_true c86
               clear c86
               simp only [Option.some.injEq, Prod.mk.injEq] at H
               obtain ⟨rfl, rfl, rfl, rfl, rfl, rfl⟩ := H
               go_enter Tryz.func82, Tryz.ntmps82
               go_wp2_with (first | ((with_reducible refine gate_dst (N := 2) rfl ?_); refine box_event ?hg (N := 2) ?hd (cs := #[.int .i64 0, .int .i64 0, .string (⟨#[]⟩ : ByteArray), .int .i64 0]) (t := 75) ?hr ?_; (case hd => rfl); (case hg => rfl); (case hr => first | (go_simp; done) | (go_simp; rfl)); intro gb115 hg w87 hbox hb; have BK115 := Aside0.mk (hbox); have GW115 := Aside0.mk (gsz hg bl : w.heap.size ≤ gb115); have GE115 := Aside0.mk (gsz hg bl : w.heap.size ≤ gb115); replace HB := Aside0.mk (below_step bl hb); clear hb hbox hg; have p3 : 0 ≤ (0 : Int) := (by omega); have q3 : 0 < a0.size := (by have : (0 : Int) < (a0.size : Int) := of_decide_eq_true (by assumption); omega); have hx3 : ∀ h : 0 < a0.size, ((a0[0]'h).toNat : Int) = bt a0 0 := bt_at a0 0; clear p3; have qi3 : (0 < (a0.size : Int)) = True := eq_true (of_decide_eq_true (by assumption)); replace q3 := eq_true q3; obtain ⟨hcz88_0, hcz88_1, hcz88_2, hcz88_3⟩ := cells4 BK115.out; obtain ⟨hfz88_0, hfz88_1, hfz88_2, hfz88_3⟩ := froz4 BK115.out))
               refine bodyPost_ret (results_ctt rfl _ _ gb115 75 #[.int .i64 4, .int .i64 0, .string (a0.extract 0 1), .int .i64 0] (0, 0) _ rfl bp4 Tryz.underlying75 rfl (by kernel_rfl)) rfl ?_
               exact ⟨er, bl⟩
              ·rw [if_neg c86] at H
               exact absurd H (by simp)
             ·rw [if_neg c85] at H
              exact absurd H (by simp)
            ·rw [if_neg c84] at H
             have c84b0 : ((bt a0 0) == 47) = false := beq_eq_false_iff_ne.mpr c84
             have c84b1 : ((bt a0 0) != 47) = true := bne_iff_ne.mpr c84
             by_cases c89 : (bt a0 0) = 37
             ·rw [if_pos c89] at H
              have c89b0 : ((bt a0 0) == 37) = true := beq_iff_eq.mpr c89
              have c89b1 : ((bt a0 0) != 37) = false := bne_eq_false_iff_eq.mpr c89
              clear c89
              by_cases c90 : 0 ≤ 1
              ·rw [if_pos c90] at H
               have c90b0 := eq_true c90
               have c90b1 : decide (0 ≤ 1) = true := decide_eq_true c90
               clear c90
               by_cases c91 : 1 ≤ (a0.size : Int)
               ·rw [if_pos c91] at H
                have c91b0 := eq_true c91
                have c91b1 : decide (1 ≤ (a0.size : Int)) = true := decide_eq_true c91
                clear c91
                simp only [Option.some.injEq, Prod.mk.injEq] at H
                obtain ⟨rfl, rfl, rfl, rfl, rfl, rfl⟩ := H
                go_enter Tryz.func82, Tryz.ntmps82
                go_wp2_with (first | ((with_reducible refine gate_dst (N := 2) rfl ?_); refine box_event ?hg (N := 2) ?hd (cs := #[.int .i64 0, .int .i64 0, .string (⟨#[]⟩ : ByteArray), .int .i64 0]) (t := 75) ?hr ?_; (case hd => rfl); (case hg => rfl); (case hr => first | (go_simp; done) | (go_simp; rfl)); intro gb115 hg w92 hbox hb; have BK115 := Aside0.mk (hbox); have GW115 := Aside0.mk (gsz hg bl : w.heap.size ≤ gb115); have GE115 := Aside0.mk (gsz hg bl : w.heap.size ≤ gb115); replace HB := Aside0.mk (below_step bl hb); clear hb hbox hg; have p3 : 0 ≤ (0 : Int) := (by omega); have q3 : 0 < a0.size := (by have : (0 : Int) < (a0.size : Int) := of_decide_eq_true (by assumption); omega); have hx3 : ∀ h : 0 < a0.size, ((a0[0]'h).toNat : Int) = bt a0 0 := bt_at a0 0; clear p3; have qi3 : (0 < (a0.size : Int)) = True := eq_true (of_decide_eq_true (by assumption)); replace q3 := eq_true q3; obtain ⟨hcz93_0, hcz93_1, hcz93_2, hcz93_3⟩ := cells4 BK115.out; obtain ⟨hfz93_0, hfz93_1, hfz93_2, hfz93_3⟩ := froz4 BK115.out))
                refine bodyPost_ret (results_ctt rfl _ _ gb115 75 #[.int .i64 4, .int .i64 0, .string (a0.extract 0 1), .int .i64 0] (0, 0) _ rfl bp4 Tryz.underlying75 rfl (by kernel_rfl)) rfl ?_
                exact ⟨er, bl⟩
               ·rw [if_neg c91] at H
                exact absurd H (by simp)
              ·rw [if_neg c90] at H
               exact absurd H (by simp)
             ·rw [if_neg c89] at H
              have c89b0 : ((bt a0 0) == 37) = false := beq_eq_false_iff_ne.mpr c89
              have c89b1 : ((bt a0 0) != 37) = true := bne_iff_ne.mpr c89
              simp only [Option.some.injEq, Prod.mk.injEq] at H
              obtain ⟨rfl, rfl, rfl, rfl, rfl, rfl⟩ := H
              go_enter Tryz.func82, Tryz.ntmps82
              go_wp2_with (first | ((with_reducible refine gate_dst (N := 2) rfl ?_); refine box_event ?hg (N := 2) ?hd (cs := #[.int .i64 0, .int .i64 0, .string (⟨#[]⟩ : ByteArray), .int .i64 0]) (t := 75) ?hr ?_; (case hd => rfl); (case hg => rfl); (case hr => first | (go_simp; done) | (go_simp; rfl)); intro gb115 hg w94 hbox hb; have BK115 := Aside0.mk (hbox); have GW115 := Aside0.mk (gsz hg bl : w.heap.size ≤ gb115); have GE115 := Aside0.mk (gsz hg bl : w.heap.size ≤ gb115); replace HB := Aside0.mk (below_step bl hb); clear hb hbox hg; have p3 : 0 ≤ (0 : Int) := (by omega); have q3 : 0 < a0.size := (by have : (0 : Int) < (a0.size : Int) := of_decide_eq_true (by assumption); omega); have hx3 : ∀ h : 0 < a0.size, ((a0[0]'h).toNat : Int) = bt a0 0 := bt_at a0 0; clear p3; have qi3 : (0 < (a0.size : Int)) = True := eq_true (of_decide_eq_true (by assumption)); replace q3 := eq_true q3; obtain ⟨hcz95_0, hcz95_1, hcz95_2, hcz95_3⟩ := cells4 BK115.out; obtain ⟨hfz95_0, hfz95_1, hfz95_2, hfz95_3⟩ := froz4 BK115.out))
              refine bodyPost_ret (results_ctt rfl _ _ gb115 75 #[.int .i64 0, .int .i64 0, .string (⟨#[]⟩ : ByteArray), .int .i64 0] (0, 0) _ rfl bp4 Tryz.underlying75 rfl (by kernel_rfl)) rfl ?_
              exact ⟨er, bl⟩
 ·rw [if_neg c2] at H
  exact absurd H (by simp)
end Go.Proofs.YtlpnlfahlcingaaGreatDoor.PL
end
section
namespace Go.Proofs.YtlpnlfahlcingaaGreatDoor.PL
open Go.RowKit Go.Proofs.YtlpnlfahlcingaaGreatDoorW.PrintWords Go.Proofs.YtlpnlfahlcingaaGreatDoorW.PrintLast Go.Proofs.YtlpnlfahlcingaaGreatDoorW.PrintMore
attribute [local go_sem] max2_int min2_int max_two min_two max_three min_three max_four min_four
attribute [local go_sem ↓] isSome_setCell
set_option linter.unusedVariables false
set_option linter.unusedSimpArgs false
def lex_token.j0 : Nat → ByteArray → Int → Bool → Option (Int × Int × ByteArray × Int × Int × Int)
 | 0, _, _, _ => none
 | k + 1, x0, x5, x14 => if x14 = true then (some (0, 0, (⟨#[]⟩ : ByteArray), 0, 1, 0)) else ((lex_letter.f x5).bind fun t117 => (if t117 = true then ((lex_run_of_wordy.f k x0).bind fun t118 => (if 0 ≤ t118 then (if t118 ≤ (x0.size : Int) then ((lex_upper.f (x0.extract 0 (t118 : Int).toNat)).bind fun t119 => (some (1, 0, t119, 0, t118, 0))) else (none)) else (none))) else ((lex_digit.f x5).bind fun t120 => (if t120 = true then ((lex_number.f k x0).bind fun bt121 => (some (bt121.1, bt121.2.1, bt121.2.2.1, bt121.2.2.2.1, bt121.2.2.2.2.1, bt121.2.2.2.2.2))) else (if x5 = 39 then ((lex_text.f k x0).bind fun bt127 => (some (bt127.1, bt127.2.1, bt127.2.2.1, bt127.2.2.2.1, bt127.2.2.2.2.1, bt127.2.2.2.2.2))) else ((lex_sign.f k x0).bind fun bt133 => (some (bt133.1, bt133.2.1, bt133.2.2.1, bt133.2.2.2.1, bt133.2.2.2.2.1, bt133.2.2.2.2.2))))))))
def lex_token.f (k : Nat) (a0 : ByteArray) : Option (Int × Int × ByteArray × Int × Int × Int) := if 0 < (a0.size : Int) then (if (bt a0 0) = 9 then (lex_token.j0 k a0 (bt a0 0) true) else (if (bt a0 0) = 10 then (lex_token.j0 k a0 (bt a0 0) true) else (if (bt a0 0) = 13 then (lex_token.j0 k a0 (bt a0 0) true) else (lex_token.j0 k a0 (bt a0 0) ((bt a0 0) == 32))))) else (none)
theorem lex_token.mono_l : ∀ k, (∀ y0 y1 y2, LeO (lex_token.j0 k y0 y1 y2) (lex_token.j0 (k + 1) y0 y1 y2))
 | 0 => fun _ _ _ r h => by simp [lex_token.j0] at h
 | k + 1 => by
  have ih0 := lex_token.mono_l k
  ·intro y0 y1 y2
   unfold lex_token.j0
   repeat' first
   | (with_reducible exact ih0 _ _ _)
   | (with_reducible exact lex_number.mono _ _)
   | (with_reducible exact lex_run_of_wordy.mono _ _)
   | (with_reducible exact lex_sign.mono _ _)
   | (with_reducible exact lex_text.mono _ _)
   | (with_reducible exact LeO.refl _)
   | (with_reducible exact LeO.none _)
   | (with_reducible refine LeO.ite ?_ ?_)
   | (with_reducible refine LeO.bind ?_ (fun _ => ?_))
   | exact ih0 _ _ _
   | exact lex_number.mono _ _
   | exact lex_run_of_wordy.mono _ _
   | exact lex_sign.mono _ _
   | exact lex_text.mono _ _
   | exact LeO.none _
   | refine LeO.ite ?_ ?_
   | refine LeO.bind ?_ (fun _ => ?_)
theorem lex_token.mono : ∀ a0 k, LeO (lex_token.f k a0) (lex_token.f (k + 1) a0) := by
 intro a0 k
 have ih0 := lex_token.mono_l k
 unfold lex_token.f
 repeat' first
   | (with_reducible exact ih0 _ _ _)
   | (with_reducible exact lex_number.mono _ _)
   | (with_reducible exact lex_run_of_wordy.mono _ _)
   | (with_reducible exact lex_sign.mono _ _)
   | (with_reducible exact lex_text.mono _ _)
   | (with_reducible exact LeO.refl _)
   | (with_reducible exact LeO.none _)
   | (with_reducible refine LeO.ite ?_ ?_)
   | (with_reducible refine LeO.bind ?_ (fun _ => ?_))
   | exact ih0 _ _ _
   | exact lex_number.mono _ _
   | exact lex_run_of_wordy.mono _ _
   | exact lex_sign.mono _ _
   | exact lex_text.mono _ _
   | exact LeO.none _
   | refine LeO.ite ?_ ?_
   | refine LeO.bind ?_ (fun _ => ?_)
set_option maxHeartbeats 8000000 in
set_option maxRecDepth 100000 in
theorem lex_token.calls (k : Nat) (a0 : ByteArray) (r1 : Int) (r2 : Int) (r3 : ByteArray) (r4 : Int) (r5 : Int) (r6 : Int) (w : World) (h : lex_token.f k a0 = some (r1, r2, r3, r4, r5, r6)) :
  Calls Tryz.prog 35 #[.string a0] w fun e w' => e = .returned (.tuple #[.agg #[.int .i64 r1, .int .i64 r2, .string r3, .int .i64 r4], .int .i64 r5, .int .i64 r6]) ∧ Below w.heap.size w w' := by
 have hu75 := Tryz.underlying75
 have HB := Aside0.mk (Below.refl w.heap.size w)
 have H : (if 0 < (a0.size : Int) then (if (bt a0 0) = 9 then (lex_token.j0 k a0 (bt a0 0) true) else (if (bt a0 0) = 10 then (lex_token.j0 k a0 (bt a0 0) true) else (if (bt a0 0) = 13 then (lex_token.j0 k a0 (bt a0 0) true) else (lex_token.j0 k a0 (bt a0 0) ((bt a0 0) == 32))))) else (none)) = some (r1, r2, r3, r4, r5, r6) := h
 clear h
 by_cases c2 : 0 < (a0.size : Int)
 ·rw [if_pos c2] at H
  have c2b0 : decide (0 < (a0.size : Int)) = true := decide_eq_true c2
  have c2b1 : decide (0 < a0.size) = true := decide_eq_true (by omega)
  clear c2
  have HC4 := Aside0.mk H
  clear H
  go_enter Tryz.func35, Tryz.ntmps35
  go_upto_region 3 with (first | ((with_reducible refine gate_dst (N := 2) rfl ?_); refine box_event ?hg (N := 2) ?hd (cs := #[.int .i64 0, .int .i64 0, .string (⟨#[]⟩ : ByteArray), .int .i64 0]) (t := 75) ?hr ?_; (case hd => rfl); (case hg => rfl); (case hr => first | (go_simp; done) | (go_simp; rfl)); intro gb116 hg w5 hbox hb; have BK116 := Aside0.mk (hbox); have GW116 := Aside0.mk (gsz hg bl : w.heap.size ≤ gb116); have GE116 := Aside0.mk (gsz hg bl : w.heap.size ≤ gb116); replace HB := Aside0.mk (below_step bl hb); clear hb hbox hg; have p3 : 0 ≤ (0 : Int) := (by omega); have q3 : 0 < a0.size := (by have : (0 : Int) < (a0.size : Int) := of_decide_eq_true (by assumption); omega); have hx3 : ∀ h : 0 < a0.size, ((a0[0]'h).toNat : Int) = bt a0 0 := bt_at a0 0; clear p3; have qi3 : (0 < (a0.size : Int)) = True := eq_true (of_decide_eq_true (by assumption)); replace q3 := eq_true q3))
  (try simp only [Act.put, List.setIfInBounds_toArray, List.set_cons_zero, List.set_cons_succ])
  go_cut [14] (fun v14 wc => ∃ (kq : Nat) (x14_3 : Bool), v14 = .bool x14_3 ∧ Aside0 (lex_token.j0 kq a0 (bt a0 0) x14_3 = some (r1, r2, r3, r4, r5, r6)) ∧ Aside0 (kq ≤ k) ∧ Aside0 (wc.heap[gb116]? = some (.cells #[.int .i64 0, .int .i64 0, .string (⟨#[]⟩ : ByteArray), .int .i64 0] 75 (0, 0))) ∧ Aside0 (Below w.heap.size w wc))
  case first =>
   have H := HC4.out
   clear HC4
   by_cases c6 : (bt a0 0) = 9
   ·rw [if_pos c6] at H
    have c6b0 : ((bt a0 0) == 9) = true := beq_iff_eq.mpr c6
    have c6b1 : ((bt a0 0) != 9) = false := bne_eq_false_iff_eq.mpr c6
    clear c6
    (first | rw [c6b0] | (simp only [i64_w, i32_w]; rw [c6b0]) | skip)
    have H' := Aside0.mk H
    clear H
    go_wp2
    go_meet
    case rel => exact ⟨_, (true), rs, H', ⟨lk⟩, ⟨bk⟩, ⟨bl⟩⟩
   ·rw [if_neg c6] at H
    have c6b0 : ((bt a0 0) == 9) = false := beq_eq_false_iff_ne.mpr c6
    have c6b1 : ((bt a0 0) != 9) = true := bne_iff_ne.mpr c6
    (first | rw [c6b0] | (simp only [i64_w, i32_w]; rw [c6b0]) | skip)
    by_cases c7 : (bt a0 0) = 10
    ·rw [if_pos c7] at H
     have c7b0 : ((bt a0 0) == 10) = true := beq_iff_eq.mpr c7
     have c7b1 : ((bt a0 0) != 10) = false := bne_eq_false_iff_eq.mpr c7
     clear c7
     have H' := Aside0.mk H
     clear H
     go_wp2
     go_meet
     case rel => exact ⟨_, (true), rs, H', ⟨lk⟩, ⟨bk⟩, ⟨bl⟩⟩
    ·rw [if_neg c7] at H
     have c7b0 : ((bt a0 0) == 10) = false := beq_eq_false_iff_ne.mpr c7
     have c7b1 : ((bt a0 0) != 10) = true := bne_iff_ne.mpr c7
     by_cases c8 : (bt a0 0) = 13
     ·rw [if_pos c8] at H
      have c8b0 : ((bt a0 0) == 13) = true := beq_iff_eq.mpr c8
      have c8b1 : ((bt a0 0) != 13) = false := bne_eq_false_iff_eq.mpr c8
      clear c8
      have H' := Aside0.mk H
      clear H
      go_wp2
      go_meet
      case rel => exact ⟨_, (true), rs, H', ⟨lk⟩, ⟨bk⟩, ⟨bl⟩⟩
     ·rw [if_neg c8] at H
      have c8b0 : ((bt a0 0) == 13) = false := beq_eq_false_iff_ne.mpr c8
      have c8b1 : ((bt a0 0) != 13) = true := bne_iff_ne.mpr c8
      have H' := Aside0.mk H
      clear H
      go_wp2
      go_meet
      case rel => exact ⟨_, (((bt a0 0) == 32)), rs, H', ⟨lk⟩, ⟨bk⟩, ⟨bl⟩⟩
  case rest =>
   clear HC4
   try clear c2
   try clear c2b0
   try clear c2b1
   try clear p3
   try clear q3
   try clear hx3
   try clear qi3
   try clear p3
   try clear q3
   obtain ⟨kq, x14_3, rfl, HA, HJ3, BK116, HB⟩ := hcut
   cases kq with
   | zero => exact absurd HA.out (by simp [lex_token.j0])
   | succ kj3 =>
    have H := HA.out
    clear HA
    simp only [lex_token.j0] at H
    by_cases c9 : x14_3 = true
    ·subst c9
     have H1 : (some (0, 0, (⟨#[]⟩ : ByteArray), 0, 1, 0)) = some (r1, r2, r3, r4, r5, r6) := by rw [if_pos rfl] at H; exact H
     clear H
     have H := H1
     clear H1
     simp only [Option.some.injEq, Prod.mk.injEq] at H
     obtain ⟨rfl, rfl, rfl, rfl, rfl, rfl⟩ := H
     obtain ⟨hcz10_0, hcz10_1, hcz10_2, hcz10_3⟩ := cells4 BK116.out
     obtain ⟨hfz10_0, hfz10_1, hfz10_2, hfz10_3⟩ := froz4 BK116.out
     go_wp2
     refine bodyPost_ret (results_ctt rfl _ _ gb116 75 #[.int .i64 0, .int .i64 0, .string (⟨#[]⟩ : ByteArray), .int .i64 0] (0, 0) _ rfl bp4 Tryz.underlying75 rfl (by kernel_rfl)) rfl ?_
     exact ⟨er, bl⟩
    ·replace c9 := Bool.eq_false_iff.mpr c9
     subst c9
     have H1 : ((lex_letter.f (bt a0 0)).bind fun t117 => (if t117 = true then ((lex_run_of_wordy.f kj3 a0).bind fun t118 => (if 0 ≤ t118 then (if t118 ≤ (a0.size : Int) then ((lex_upper.f (a0.extract 0 (t118 : Int).toNat)).bind fun t119 => (some (1, 0, t119, 0, t118, 0))) else (none)) else (none))) else ((lex_digit.f (bt a0 0)).bind fun t120 => (if t120 = true then ((lex_number.f kj3 a0).bind fun bt121 => (some (bt121.1, bt121.2.1, bt121.2.2.1, bt121.2.2.2.1, bt121.2.2.2.2.1, bt121.2.2.2.2.2))) else (if (bt a0 0) = 39 then ((lex_text.f kj3 a0).bind fun bt127 => (some (bt127.1, bt127.2.1, bt127.2.2.1, bt127.2.2.2.1, bt127.2.2.2.2.1, bt127.2.2.2.2.2))) else ((lex_sign.f kj3 a0).bind fun bt133 => (some (bt133.1, bt133.2.1, bt133.2.2.1, bt133.2.2.2.1, bt133.2.2.2.2.1, bt133.2.2.2.2.2)))))))) = some (r1, r2, r3, r4, r5, r6) := by rw [if_neg (show ¬ (false = true) by decide)] at H; exact H
     clear H
     have H := H1
     clear H1
     obtain ⟨t117, A110, H⟩ := bind_out H
     have A11 := Aside0.mk A110
     clear A110
     by_cases c12 : t117 = true
     ·subst c12
      have H1 : ((lex_run_of_wordy.f kj3 a0).bind fun t118 => (if 0 ≤ t118 then (if t118 ≤ (a0.size : Int) then ((lex_upper.f (a0.extract 0 (t118 : Int).toNat)).bind fun t119 => (some (1, 0, t119, 0, t118, 0))) else (none)) else (none))) = some (r1, r2, r3, r4, r5, r6) := by rw [if_pos rfl] at H; exact H
      clear H
      have H := H1
      clear H1
      obtain ⟨t118, A130, H⟩ := bind_out H
      have A13 := Aside0.mk A130
      clear A130
      by_cases c14 : 0 ≤ t118
      ·rw [if_pos c14] at H
       have c14b0 := eq_true c14
       have c14b1 : decide (0 ≤ t118) = true := decide_eq_true c14
       clear c14
       by_cases c15 : t118 ≤ (a0.size : Int)
       ·rw [if_pos c15] at H
        have c15b0 := eq_true c15
        have c15b1 : decide (t118 ≤ (a0.size : Int)) = true := decide_eq_true c15
        clear c15
        obtain ⟨t119, A160, H⟩ := bind_out H
        have A16 := Aside0.mk A160
        clear A160
        simp only [Option.some.injEq, Prod.mk.injEq] at H
        obtain ⟨rfl, rfl, rfl, rfl, rfl, rfl⟩ := H
        go_wp2_with (first | ((with_reducible refine gate_callee (f := 75) rfl ?_); refine goesL_ (some 32) rfl rfl Tryz.func75 (by kernel_rfl) rfl #[.int .u8 (bt a0 0)] rfl mp ?_; (with_reducible refine (lex_letter.calls (bt a0 0) true _ A11.out).mono ?_); rintro e w' ⟨rfl, ⟨nd, rfl⟩⟩; refine ⟨_, rfl, ?_⟩; (try (rw [drewN_self wc]; generalize hq_ : World.drewN wc _ = wc; have n0_ : Aside0 (wc.heap[gb116]? = some (.cells #[.int .i64 0, .int .i64 0, .string (⟨#[]⟩ : ByteArray), .int .i64 0] 75 (0, 0))) := ⟨by rw [← hq_]; exact bk⟩; have n1_ : Aside0 (Below w.heap.size w wc) := ⟨by rw [← hq_]; exact bl⟩; clear BK116 HB hq_; have BK116 := n0_; have HB := n1_; clear n0_ n1_))) | ((with_reducible refine gate_callee (f := 76) rfl ?_); refine goesL_ (some 34) rfl rfl Tryz.func76 (by kernel_rfl) rfl #[.string a0, .func (.func 77) #[] #[]] rfl mp ?_; (with_reducible refine (lex_run_of_wordy.calls kj3 a0 t118 _ A13.out).mono ?_); rintro e w' ⟨rfl, ⟨nd, rfl⟩⟩; refine ⟨_, rfl, ?_⟩; (try (rw [drewN_self wc]; generalize hq_ : World.drewN wc _ = wc; have n0_ : Aside0 (wc.heap[gb116]? = some (.cells #[.int .i64 0, .int .i64 0, .string (⟨#[]⟩ : ByteArray), .int .i64 0] 75 (0, 0))) := ⟨by rw [← hq_]; exact bk⟩; have n1_ : Aside0 (Below w.heap.size w wc) := ⟨by rw [← hq_]; exact bl⟩; clear BK116 HB hq_; have BK116 := n0_; have HB := n1_; clear n0_ n1_))) | ((with_reducible refine gate_callee (f := 78) rfl ?_); refine goesL_ (some 38) rfl rfl Tryz.func78 (by kernel_rfl) rfl #[.string (a0.extract 0 (t118 : Int).toNat)] rfl mp ?_; (with_reducible refine (lex_upper.calls (a0.extract 0 (t118 : Int).toNat) t119 _ A16.out).mono ?_); rintro e w17 ⟨rfl, hb⟩; refine ⟨_, rfl, ?_⟩; replace BK116 := Aside0.mk (blk_below (g := gb116) (o := .cells #[.int .i64 0, .int .i64 0, .string (⟨#[]⟩ : ByteArray), .int .i64 0] 75 (0, 0)) bk hb); replace HB := Aside0.mk (below_step bl hb); (try clear hb); obtain ⟨hcz18_0, hcz18_1, hcz18_2, hcz18_3⟩ := cells4 BK116.out; obtain ⟨hfz18_0, hfz18_1, hfz18_2, hfz18_3⟩ := froz4 BK116.out))
        refine bodyPost_ret (results_ctt rfl _ _ gb116 75 #[.int .i64 1, .int .i64 0, .string t119, .int .i64 0] (0, 0) _ rfl bp4 Tryz.underlying75 rfl (by kernel_rfl)) rfl ?_
        exact ⟨er, bl⟩
       ·rw [if_neg c15] at H
        exact absurd H (by simp)
      ·rw [if_neg c14] at H
       exact absurd H (by simp)
     ·replace c12 := Bool.eq_false_iff.mpr c12
      subst c12
      have H1 : ((lex_digit.f (bt a0 0)).bind fun t120 => (if t120 = true then ((lex_number.f kj3 a0).bind fun bt121 => (some (bt121.1, bt121.2.1, bt121.2.2.1, bt121.2.2.2.1, bt121.2.2.2.2.1, bt121.2.2.2.2.2))) else (if (bt a0 0) = 39 then ((lex_text.f kj3 a0).bind fun bt127 => (some (bt127.1, bt127.2.1, bt127.2.2.1, bt127.2.2.2.1, bt127.2.2.2.2.1, bt127.2.2.2.2.2))) else ((lex_sign.f kj3 a0).bind fun bt133 => (some (bt133.1, bt133.2.1, bt133.2.2.1, bt133.2.2.2.1, bt133.2.2.2.2.1, bt133.2.2.2.2.2)))))) = some (r1, r2, r3, r4, r5, r6) := by rw [if_neg (show ¬ (false = true) by decide)] at H; exact H
      clear H
      have H := H1
      clear H1
      obtain ⟨t120, A190, H⟩ := bind_out H
      have A19 := Aside0.mk A190
      clear A190
      by_cases c20 : t120 = true
      ·subst c20
       have H1 : ((lex_number.f kj3 a0).bind fun bt121 => (some (bt121.1, bt121.2.1, bt121.2.2.1, bt121.2.2.2.1, bt121.2.2.2.2.1, bt121.2.2.2.2.2))) = some (r1, r2, r3, r4, r5, r6) := by rw [if_pos rfl] at H; exact H
       clear H
       have H := H1
       clear H1
       obtain ⟨⟨t121, t122, t123, t124, t125, t126⟩, A210, H⟩ := bind_out H
       have A21 := Aside0.mk A210
       clear A210
       simp only [Option.some.injEq, Prod.mk.injEq] at H
       obtain ⟨rfl, rfl, rfl, rfl, rfl, rfl⟩ := H
       go_wp2_with (first | ((with_reducible refine gate_callee (f := 75) rfl ?_); refine goesL_ (some 32) rfl rfl Tryz.func75 (by kernel_rfl) rfl #[.int .u8 (bt a0 0)] rfl mp ?_; (with_reducible refine (lex_letter.calls (bt a0 0) false _ A11.out).mono ?_); rintro e w' ⟨rfl, ⟨nd, rfl⟩⟩; refine ⟨_, rfl, ?_⟩; (try (rw [drewN_self wc]; generalize hq_ : World.drewN wc _ = wc; have n0_ : Aside0 (wc.heap[gb116]? = some (.cells #[.int .i64 0, .int .i64 0, .string (⟨#[]⟩ : ByteArray), .int .i64 0] 75 (0, 0))) := ⟨by rw [← hq_]; exact bk⟩; have n1_ : Aside0 (Below w.heap.size w wc) := ⟨by rw [← hq_]; exact bl⟩; clear BK116 HB hq_; have BK116 := n0_; have HB := n1_; clear n0_ n1_))) | ((with_reducible refine gate_callee (f := 79) rfl ?_); refine goesL_ (some 43) rfl rfl Tryz.func79 (by kernel_rfl) rfl #[.int .u8 (bt a0 0)] rfl mp ?_; (with_reducible refine (lex_digit.calls (bt a0 0) true _ A19.out).mono ?_); rintro e w' ⟨rfl, ⟨nd, rfl⟩⟩; refine ⟨_, rfl, ?_⟩; (try (rw [drewN_self wc]; generalize hq_ : World.drewN wc _ = wc; have n0_ : Aside0 (wc.heap[gb116]? = some (.cells #[.int .i64 0, .int .i64 0, .string (⟨#[]⟩ : ByteArray), .int .i64 0] 75 (0, 0))) := ⟨by rw [← hq_]; exact bk⟩; have n1_ : Aside0 (Below w.heap.size w wc) := ⟨by rw [← hq_]; exact bl⟩; clear BK116 HB hq_; have BK116 := n0_; have HB := n1_; clear n0_ n1_))) | ((with_reducible refine gate_callee (f := 80) rfl ?_); refine goesL_ (some 45) rfl rfl Tryz.func80 (by kernel_rfl) rfl #[.string a0] rfl mp ?_; (with_reducible refine (lex_number.calls kj3 a0 t121 t122 t123 t124 t125 t126 _ A21.out).mono ?_); rintro e w22 ⟨rfl, hb⟩; refine ⟨_, rfl, ?_⟩; replace BK116 := Aside0.mk (blk_below (g := gb116) (o := .cells #[.int .i64 0, .int .i64 0, .string (⟨#[]⟩ : ByteArray), .int .i64 0] 75 (0, 0)) bk hb); replace HB := Aside0.mk (below_step bl hb); (try clear hb); obtain ⟨hcz23_0, hcz23_1, hcz23_2, hcz23_3⟩ := cells4 BK116.out; obtain ⟨hfz23_0, hfz23_1, hfz23_2, hfz23_3⟩ := froz4 BK116.out))
       refine bodyPost_ret (results_ctt rfl _ _ gb116 75 #[.int .i64 t121, .int .i64 t122, .string t123, .int .i64 t124] (0, 0) _ rfl bp4 Tryz.underlying75 rfl (by kernel_rfl)) rfl ?_
       exact ⟨er, bl⟩
      ·replace c20 := Bool.eq_false_iff.mpr c20
       subst c20
       have H1 : (if (bt a0 0) = 39 then ((lex_text.f kj3 a0).bind fun bt127 => (some (bt127.1, bt127.2.1, bt127.2.2.1, bt127.2.2.2.1, bt127.2.2.2.2.1, bt127.2.2.2.2.2))) else ((lex_sign.f kj3 a0).bind fun bt133 => (some (bt133.1, bt133.2.1, bt133.2.2.1, bt133.2.2.2.1, bt133.2.2.2.2.1, bt133.2.2.2.2.2)))) = some (r1, r2, r3, r4, r5, r6) := by rw [if_neg (show ¬ (false = true) by decide)] at H; exact H
       clear H
       have H := H1
       clear H1
       by_cases c24 : (bt a0 0) = 39
       ·rw [if_pos c24] at H
        have c24b0 : ((bt a0 0) == 39) = true := beq_iff_eq.mpr c24
        have c24b1 : ((bt a0 0) != 39) = false := bne_eq_false_iff_eq.mpr c24
        clear c24
        obtain ⟨⟨t127, t128, t129, t130, t131, t132⟩, A250, H⟩ := bind_out H
        have A25 := Aside0.mk A250
        clear A250
        simp only [Option.some.injEq, Prod.mk.injEq] at H
        obtain ⟨rfl, rfl, rfl, rfl, rfl, rfl⟩ := H
        go_wp2_with (first | ((with_reducible refine gate_callee (f := 75) rfl ?_); refine goesL_ (some 32) rfl rfl Tryz.func75 (by kernel_rfl) rfl #[.int .u8 (bt a0 0)] rfl mp ?_; (with_reducible refine (lex_letter.calls (bt a0 0) false _ A11.out).mono ?_); rintro e w' ⟨rfl, ⟨nd, rfl⟩⟩; refine ⟨_, rfl, ?_⟩; (try (rw [drewN_self wc]; generalize hq_ : World.drewN wc _ = wc; have n0_ : Aside0 (wc.heap[gb116]? = some (.cells #[.int .i64 0, .int .i64 0, .string (⟨#[]⟩ : ByteArray), .int .i64 0] 75 (0, 0))) := ⟨by rw [← hq_]; exact bk⟩; have n1_ : Aside0 (Below w.heap.size w wc) := ⟨by rw [← hq_]; exact bl⟩; clear BK116 HB hq_; have BK116 := n0_; have HB := n1_; clear n0_ n1_))) | ((with_reducible refine gate_callee (f := 79) rfl ?_); refine goesL_ (some 43) rfl rfl Tryz.func79 (by kernel_rfl) rfl #[.int .u8 (bt a0 0)] rfl mp ?_; (with_reducible refine (lex_digit.calls (bt a0 0) false _ A19.out).mono ?_); rintro e w' ⟨rfl, ⟨nd, rfl⟩⟩; refine ⟨_, rfl, ?_⟩; (try (rw [drewN_self wc]; generalize hq_ : World.drewN wc _ = wc; have n0_ : Aside0 (wc.heap[gb116]? = some (.cells #[.int .i64 0, .int .i64 0, .string (⟨#[]⟩ : ByteArray), .int .i64 0] 75 (0, 0))) := ⟨by rw [← hq_]; exact bk⟩; have n1_ : Aside0 (Below w.heap.size w wc) := ⟨by rw [← hq_]; exact bl⟩; clear BK116 HB hq_; have BK116 := n0_; have HB := n1_; clear n0_ n1_))) | ((with_reducible refine gate_callee (f := 81) rfl ?_); refine goesL_ (some 53) rfl rfl Tryz.func81 (by kernel_rfl) rfl #[.string a0] rfl mp ?_; (with_reducible refine (lex_text.calls kj3 a0 t127 t128 t129 t130 t131 t132 _ A25.out).mono ?_); rintro e w26 ⟨rfl, hb⟩; refine ⟨_, rfl, ?_⟩; replace BK116 := Aside0.mk (blk_below (g := gb116) (o := .cells #[.int .i64 0, .int .i64 0, .string (⟨#[]⟩ : ByteArray), .int .i64 0] 75 (0, 0)) bk hb); replace HB := Aside0.mk (below_step bl hb); (try clear hb); obtain ⟨hcz27_0, hcz27_1, hcz27_2, hcz27_3⟩ := cells4 BK116.out; obtain ⟨hfz27_0, hfz27_1, hfz27_2, hfz27_3⟩ := froz4 BK116.out))
        refine bodyPost_ret (results_ctt rfl _ _ gb116 75 #[.int .i64 t127, .int .i64 t128, .string t129, .int .i64 t130] (0, 0) _ rfl bp4 Tryz.underlying75 rfl (by kernel_rfl)) rfl ?_
        exact ⟨er, bl⟩
       ·rw [if_neg c24] at H
        have c24b0 : ((bt a0 0) == 39) = false := beq_eq_false_iff_ne.mpr c24
        have c24b1 : ((bt a0 0) != 39) = true := bne_iff_ne.mpr c24
        obtain ⟨⟨t133, t134, t135, t136, t137, t138⟩, A280, H⟩ := bind_out H
        have A28 := Aside0.mk A280
        clear A280
        simp only [Option.some.injEq, Prod.mk.injEq] at H
        obtain ⟨rfl, rfl, rfl, rfl, rfl, rfl⟩ := H
        go_wp2_with (first | ((with_reducible refine gate_callee (f := 75) rfl ?_); refine goesL_ (some 32) rfl rfl Tryz.func75 (by kernel_rfl) rfl #[.int .u8 (bt a0 0)] rfl mp ?_; (with_reducible refine (lex_letter.calls (bt a0 0) false _ A11.out).mono ?_); rintro e w' ⟨rfl, ⟨nd, rfl⟩⟩; refine ⟨_, rfl, ?_⟩; (try (rw [drewN_self wc]; generalize hq_ : World.drewN wc _ = wc; have n0_ : Aside0 (wc.heap[gb116]? = some (.cells #[.int .i64 0, .int .i64 0, .string (⟨#[]⟩ : ByteArray), .int .i64 0] 75 (0, 0))) := ⟨by rw [← hq_]; exact bk⟩; have n1_ : Aside0 (Below w.heap.size w wc) := ⟨by rw [← hq_]; exact bl⟩; clear BK116 HB hq_; have BK116 := n0_; have HB := n1_; clear n0_ n1_))) | ((with_reducible refine gate_callee (f := 79) rfl ?_); refine goesL_ (some 43) rfl rfl Tryz.func79 (by kernel_rfl) rfl #[.int .u8 (bt a0 0)] rfl mp ?_; (with_reducible refine (lex_digit.calls (bt a0 0) false _ A19.out).mono ?_); rintro e w' ⟨rfl, ⟨nd, rfl⟩⟩; refine ⟨_, rfl, ?_⟩; (try (rw [drewN_self wc]; generalize hq_ : World.drewN wc _ = wc; have n0_ : Aside0 (wc.heap[gb116]? = some (.cells #[.int .i64 0, .int .i64 0, .string (⟨#[]⟩ : ByteArray), .int .i64 0] 75 (0, 0))) := ⟨by rw [← hq_]; exact bk⟩; have n1_ : Aside0 (Below w.heap.size w wc) := ⟨by rw [← hq_]; exact bl⟩; clear BK116 HB hq_; have BK116 := n0_; have HB := n1_; clear n0_ n1_))) | ((with_reducible refine gate_callee (f := 82) rfl ?_); refine goesL_ (some 10) rfl rfl Tryz.func82 (by kernel_rfl) rfl #[.string a0] rfl mp ?_; (with_reducible refine (lex_sign.calls kj3 a0 t133 t134 t135 t136 t137 t138 _ A28.out).mono ?_); rintro e w29 ⟨rfl, hb⟩; refine ⟨_, rfl, ?_⟩; replace BK116 := Aside0.mk (blk_below (g := gb116) (o := .cells #[.int .i64 0, .int .i64 0, .string (⟨#[]⟩ : ByteArray), .int .i64 0] 75 (0, 0)) bk hb); replace HB := Aside0.mk (below_step bl hb); (try clear hb); obtain ⟨hcz30_0, hcz30_1, hcz30_2, hcz30_3⟩ := cells4 BK116.out; obtain ⟨hfz30_0, hfz30_1, hfz30_2, hfz30_3⟩ := froz4 BK116.out))
        refine bodyPost_ret (results_ctt rfl _ _ gb116 75 #[.int .i64 t133, .int .i64 t134, .string t135, .int .i64 t136] (0, 0) _ rfl bp4 Tryz.underlying75 rfl (by kernel_rfl)) rfl ?_
        exact ⟨er, bl⟩
 ·rw [if_neg c2] at H
  exact absurd H (by simp)
end Go.Proofs.YtlpnlfahlcingaaGreatDoor.PL
end
