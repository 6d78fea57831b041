/- What part 3 of the texts under treeDeep_holds proves: contracts of functions of this seat, and plain facts about what they compute. Conditions: those that each theorem names. -/
import Derived.Test.YtlpnlfahlcingaaGreatDoorTD2
import Derived.Deep.RegionLaw
import Derived.Deep.RegionHeld3
import Derived.Deep.DeepCutAuto
section
namespace Go.Proofs.YtlpnlfahlcingaaGreatDoor.PL
open Go.RowKit Go.Proofs.YtlpnlfahlcingaaGreatDoorW.PrintWords Go.Proofs.YtlpnlfahlcingaaGreatDoorW.PrintLast Go.Proofs.YtlpnlfahlcingaaGreatDoorW.PrintMore
set_option linter.unusedVariables false
set_option linter.unusedSimpArgs false
attribute [local go_sem] World.cell?_alloc_some
attribute [local go_sem ↓] isSome_setCell
def eC (A : Option Addr) (c : Nat) (y : S34) : List Value := [.int .i64 y.f0, .string y.f1, .int .i64 y.f2.f0, .int .i64 y.f2.f1, .string y.f2.f2, .slice A y.f3.length c]
theorem EA.ka {w : World} {S : Nat → Prop} {A : Option Addr} {c : Nat} {y : S34} (h : EA w S (.slice A y.f3.length c) y.f3) : KA k34 w S (eC A c y) y := by
  obtain ⟨A', c', he, hc, hC⟩ := h
  injection he with h1 h2 h3
  subst h1 h3
  exact fun W2 hW => k34_mk W2 y hc (hC W2 hW)
theorem RA.ka {w : World} {S : Nat → Prop} {v : Value} {xs : List S34} (h : RA k34 w S v xs) : KA (Kd.slice 34 k34) w S [v] xs := by
  obtain ⟨A, c, rfl, hc, hC⟩ := h
  exact fun W2 hW => ⟨A, c, rfl, hc, hC W2 hW⟩
def rowL (T : List Tok) (n : Nat) (o : Int) : Nat → List S34 → Nat → Option (Rd (List S34))
  | 0, _, _ => none
  | m + 1, l, k =>
    if isB (tokAt T k) (⟨#[44]⟩ : ByteArray) = true then
      if leadsB T (k + 1) = true ∧ l.length = 6 then some (.bad (tokAt T (k + 1)).f1 3)
      else
        match exprR T n (k + 1) o with
        | none => none
        | some (.bad p x) => some (.bad p x)
        | some (.ok e k1) => rowL T n o m (l ++ [e]) k1
    else
      match mustR T [(⟨#[41]⟩ : ByteArray)] k with
      | .bad p x => some (.bad p x)
      | .ok _ k1 => some (.ok l k1)
def rowR (T : List Tok) (n m k : Nat) (o : Int) : Option (Rd (List S34)) :=
  match mustR T [(⟨#[40]⟩ : ByteArray)] k with
  | .bad p x => some (.bad p x)
  | .ok _ k1 =>
    match exprR T n k1 o with
    | none => none
    | some (.bad p x) => some (.bad p x)
    | some (.ok e k2) => rowL T n o m [e] k2
structure StayB (g base : Nat) (w w' : World) : Prop where
  os : w'.os = w.os
  tape : w'.tape = w.tape
  output : w'.output = w.output
  size : w.heap.size ≤ w'.heap.size
  block : ∀ k, k < base → k ≠ g → w'.heap[k]? = w.heap[k]?
section
variable {g base : Nat} {a b c : World}
theorem Stay.low (h : Stay g a b) (hb : base ≤ a.heap.size) : StayB g base a b := ⟨h.os, h.tape, h.output, h.size, fun k hk h1 => h.block k (by omega) h1⟩
theorem StayB.trans (h : StayB g base a b) (k : StayB g base b c) : StayB g base a c :=
  ⟨k.os.trans h.os, k.tape.trans h.tape, k.output.trans h.output, Nat.le_trans h.size k.size, fun i hi h1 => (k.block i hi h1).trans (h.block i hi h1)⟩
theorem StayB.put (h : StayB g base a b) {s : Nat} (hs : base ≤ s) (i : Nat) (u : Value) : StayB g base a (b.setCell ⟨s, i, none⟩ u) :=
  ⟨h.os, h.tape, h.output, by rw [show (b.setCell ⟨s, i, none⟩ u).heap.size = b.heap.size by simp [World.setCell]]; exact h.size, fun k hk h1 => (Below.heap_setCell b ⟨s, i, none⟩ u k (by dsimp only; omega)).trans (h.block k hk h1)⟩
theorem StayB.grown (h : StayB g base a b) {row : Option Nat} (k : b.grownBy c row) (hr : ∀ x, row = some x → base ≤ x) (hb : base ≤ b.heap.size) : StayB g base a c :=
  ⟨k.os.trans h.os, k.tape.trans h.tape, k.output.trans h.output, Nat.le_trans h.size k.size, fun i hi h1 => (k.block i (by omega) (fun e => by have := hr i e.symm; omega)).trans (h.block i hi h1)⟩
end
theorem PS.grown {w w1 : World} {gp gt : Nat} {T : List Tok} {C k : Nat} {o : Int} (h : PS w gp gt T C k o) {row : Option Nat} (hg : w.grownBy w1 row) (hr : ∀ x, row = some x → x ≠ gp ∧ x ≠ gt ∧ 2 ≤ x) : PS w1 gp gt T C k o := by
  obtain ⟨cur, hb, hc⟩ := h.toks
  have h2 := h.sh.two
  exact ⟨blk_grown h.box hg (fun e => (hr gp e.symm).1 rfl), ⟨cur, blk_grown hb hg (fun e => (hr gt e.symm).2.1 rfl), hc⟩, h.ne, h.len, h.room, h.at_, h.lo, h.hi, h.gp2,
    h.sh.of (hg.block 0 (by omega) (fun e => by have := (hr 0 e.symm).2.2; omega)) (hg.block 1 (by omega) (fun e => by have := (hr 1 e.symm).2.2; omega))⟩
theorem own_slice' {w : World} {base e size n : Nat} {v : Value} {xs : List Value} (h : w.ownsRow base e size v n xs) : ∃ A c, v = .slice A n c := by
  rcases h.2 with ⟨h1, rfl⟩ | ⟨g, cap, cur, h1, _⟩
  · exact ⟨none, 0, h1⟩
  · exact ⟨some ⟨g, 0, none⟩, cap, h1⟩
def PostRow (w : World) (gp gt : Nat) (T : List Tok) (C : Nat) (o : Int) (gs base : Nat) (x : SV) (rows : List (List Value × List S34)) (r : Rd (List S34)) (e : Ending) (w' : World) : Prop :=
  StayB gp base w w' ∧ match r with
  | .ok l k => e = .returned (.tuple #[]) ∧ PS w' gp gt T C k o ∧ ∃ v cs, w'.heap[gs]? = some (.cells { x with vr := v }.cells 44 (0, 0)) ∧ Ga (Kd.slice 34 k34) 32 base (· = gs) w' v (rows ++ [(cs, l)])
  | .bad p z => e = .panicked [{ v := failV p z, recovered := false }]
set_option maxHeartbeats 8000000 in
set_option maxRecDepth 100000 in
theorem row_calls {w : World} {gp gt : Nat} {T : List Tok} {C k : Nat} {o : Int} (hE : TE T) (hW : TW T) (h : PS w gp gt T C k o) (ho : o ≤ 200) {gs base : Nat} {x : SV} (hx : w.heap[gs]? = some (.cells x.cells 44 (0, 0))) (h2 : 2 ≤ gs) (hb : base ≤ w.heap.size) (hgb : gp < base) (hgs : base ≤ gs)
    (rows : List (List Value × List S34)) (hrows : Ga (Kd.slice 34 k34) 32 base (· = gs) w x.vr rows) (hlen : rows.length ≤ 1000000) (n m : Nat) (hm6 : m ≤ 1000000) (r : Rd (List S34)) (hr : rowR T n m k o = some r) :
    Calls Tryz.prog 85 #[.pointer (some ⟨gp, 0, none⟩), .pointer (some ⟨gs, 0, none⟩)] w (PostRow w gp gt T C o gs base x rows r) := by
  have HR := Aside0.mk (fun (w1 : World) (k1 : Nat) (r1 : Rd S34) (h1 : PS w1 gp gt T C k1 o) (h2 : exprR T n k1 o = some r1) => expr_calls hE hW h1 ho n r1 h2)
  have H := Aside0.mk (And.intro h (And.intro hx (And.intro h2 (And.intro hb (And.intro hgb (And.intro hrows hlen))))))
  have HE := Aside0.mk (And.intro hE hW)
  have HGS := Aside0.mk (And.intro hgs hm6)
  have N := Aside0.mk (h.ne_box hx (by decide) (by decide))
  clear hE hW h ho hx h2 hb hgb hgs hrows hlen
  unfold rowR at hr
  cases hmr : mustR T [(⟨#[40]⟩ : ByteArray)] k with
  | bad p z =>
    rw [hmr] at hr
    obtain rfl := Option.some.inj hr
    have HMR := Aside0.mk hmr
    clear hmr hr
    go_enter Tryz.func85, Tryz.ntmps85
    go_wp2_with (go_at_call 40; refine (must_calls HE.out.1 (H.out.1.step (below_alloc (Below.refl _ _) _)) [(⟨#[40]⟩ : ByteArray)] w.heap.size (strs_one (blk_new _ _)) (Nat.ne_of_gt (blk_lt H.out.1.box)) (by simp) (by simp)).mono ?_; rw [HMR.out]; rintro e w8 ⟨rfl, hst⟩; exact ⟨rfl, ((Below.stay (below_alloc (Below.refl _ _) _) gp).trans hst).low H.out.2.2.2.1, rfl⟩)
  | ok u k1 =>
    rw [hmr] at hr
    have HMR := Aside0.mk hmr
    clear hmr
    cases hq : exprR T n k1 o with
    | none => simp only [hq] at hr; cases hr
    | some r1 =>
    simp only [hq] at hr
    have HM := Aside0.mk hr
    have HQ := Aside0.mk hq
    clear hq hr
    go_enter Tryz.func85, Tryz.ntmps85
    go_upto_region 1 with (go_at_call 40; refine (must_calls HE.out.1 (H.out.1.step (below_alloc (Below.refl _ _) _)) [(⟨#[40]⟩ : ByteArray)] w.heap.size (strs_one (blk_new _ _)) (Nat.ne_of_gt (blk_lt H.out.1.box)) (by simp) (by simp)).mono ?_; rw [HMR.out]; rintro e w1 ⟨rfl, hps, hst⟩; have H1 := Aside0.mk (And.intro hps ((Below.stay (below_alloc (Below.refl _ _) _) gp).trans hst)); clear hps hst)
    go_wp2_with (go_at_call 113; refine (HR.out w1 _ _ H1.out.1 HQ.out).mono ?_; intro e w2 hp; rcases PostE.or hp with ⟨p, z, hr1, rfl, hs⟩ | ⟨A3, c3, y, k3, hr1, rfl, hea, hps, hst⟩; (subst hr1; have hm := HM.out; cases hm; exact ⟨rfl, (H1.out.2.trans hs).low H.out.2.2.2.1, rfl⟩); subst hr1; have H2 := Aside0.mk (And.intro hea (And.intro hps (H1.out.2.trans hst))); clear hea hps hst hp)
    refine at_world (fun w3 => Aside0 (PS w3 gp gt T C k3 o ∧ Stay gp w w3 ∧ Ga k34 34 w.heap.size (fun _ => False) w3 (.slice (some ⟨w2.heap.size, 0, none⟩) 1 1) [(eC A3 c3 y, y)]))
      ⟨H2.out.2.1.step (below_alloc (Below.refl _ _) _), H2.out.2.2.step (below_alloc (Below.refl _ _) _), ⟨World.ownsRow_lit w2 _ 1 H2.out.2.2.size (by simp [maxLen]) rfl, fun k _ h => h, fun p hp => by
        simp at hp
        subst hp
        exact EA.ka (H2.out.1.of (fun k hk h => ⟨Nat.le_trans H1.out.2.size h, by simp [Value.ownBlock]; omega, fun h => h⟩) (by simp) fun k _ hk => Below.heap_alloc w2 _ k hk)⟩⟩ (fun w3 H3 => ?_)
    obtain ⟨v0, hv0⟩ : ∃ v, Value.slice (some ⟨w2.heap.size, 0, none⟩) 1 1 = v := ⟨_, rfl⟩
    rw [hv0] at H3
    have HM2 : Aside0 (rowL T n o m [y] k3 = some r) := ⟨HM.out⟩
    go_loopg [4] m (fun kq v4 w' => ∃ (l : List (List Value × S34)) (kk : Nat), Aside0 (PS w' gp gt T C kk o ∧ Stay gp w w' ∧ Ga k34 34 w.heap.size (fun _ => False) w' v4 l ∧ l.length + kq ≤ m + 1 ∧ rowL T n o kq (l.map (·.2)) kk = some r))
    case atStart => exact ⟨[(eC A3 c3 y, y)], k3, ⟨H3.out.1, H3.out.2.1, by rw [hv0]; exact H3.out.2.2, by simp; omega, HM2.out⟩⟩
    case round =>
    obtain ⟨l, kk, HI⟩ := hrel
    clear H3 HM2 hv0 H2 H1
    have hr := HI.out.2.2.2.2
    have hln := HI.out.2.2.2.1
    cases gk with
    | zero => cases hr
    | succ kq =>
    obtain ⟨Av, cv, rfl⟩ := own_slice' HI.out.2.2.1.own
    unfold rowL at hr
    by_cases hc : isB (tokAt T kk) (⟨#[44]⟩ : ByteArray) = true
    · rw [if_pos hc] at hr
      have hk := HE.out.1 kk HI.out.1.at_ (by have := isB_kind hc; omega)
      have HC := Aside0.mk (And.intro hc hk)
      clear hc hk
      go_upto_region 3 with (go_at_call 37; refine (take_yes HI.out.1 _ HC.out.1 HC.out.2).mono ?_; rintro e w6 ⟨rfl, hps, hst⟩; have H6 := Aside0.mk (And.intro hps (And.intro (HI.out.2.1.trans hst) (HI.out.2.2.1.stay hst (blk_lt H.out.1.box)))); clear hps hst)
      rw [List.length_map] at hr
      by_cases hl6 : leadsB T (kk + 1) = true ∧ l.length = 6
      · rw [if_pos hl6] at hr
        obtain rfl := Option.some.inj hr
        have HL := Aside0.mk hl6
        have e6 : ((l.length : Int) == 6) = true := by have := hl6.2; simp [this]
        clear hr hl6
        go_wp2_with (first | (go_at_call 112; refine (leads_calls HE.out.2 H6.out.1).mono ?_; rw [HL.out.1]; rintro e w7 ⟨rfl, hb⟩; have H7 := Aside0.mk (And.intro (H6.out.1.step hb) (H6.out.2.1.step hb)); clear hb) | (go_at_call 39; refine (wrong_calls H7.out.1 3).mono ?_; rintro e w' ⟨rfl, rfl⟩; exact ⟨rfl, H7.out.2.low H.out.2.2.2.1, rfl⟩))
      · rw [if_neg hl6] at hr
        cases hlb : leadsB T (kk + 1) with
        | true =>
          have HL := Aside0.mk hlb
          have e6 : ((l.length : Int) == 6) = false := by have : ¬ l.length = 6 := fun h => hl6 ⟨hlb, h⟩; simp; omega
          clear hl6 hlb
          go_upto_region 5 with (go_at_call 112; refine (leads_calls HE.out.2 H6.out.1).mono ?_; rw [HL.out]; rintro e w7 ⟨rfl, hb⟩; have H7 := Aside0.mk (And.intro (H6.out.1.step hb) (And.intro (H6.out.2.1.step hb) (H6.out.2.2.below hb))); clear hb)
          cases hq : exprR T n (kk + 1) o with
          | none => simp only [hq] at hr; cases hr
          | some r1 =>
          simp only [hq] at hr
          have HM3 := Aside0.mk hr
          have HQ3 := Aside0.mk hq
          clear hq hr
          go_wp2_with (first | (go_at_call 113; refine (HR.out w7 _ _ H7.out.1 HQ3.out).mono ?_; intro e w8 hp; rcases PostE.or hp with ⟨p, z, hr1, rfl, hs⟩ | ⟨A4, c4, y4, k4, hr1, rfl, hea, hps, hst⟩; (subst hr1; have hm := HM3.out; cases hm; exact ⟨rfl, (H7.out.2.1.trans hs).low H.out.2.2.2.1, rfl⟩); subst hr1; have H8 := Aside0.mk (And.intro hea (And.intro hps (And.intro hst.size (And.intro (H7.out.2.1.trans hst) (H7.out.2.2.stay hst (blk_lt H.out.1.box)))))); clear hea hps hst hp) | (at_builtin; refine Hold.out ?_))
          refine ⟨?_⟩
          refine print_append_cells (w0 := w8) (W := w8) w.heap.size rfl _ _ 32 34 (.agg #[.int .i64 0, .string ⟨#[]⟩, .int .i64 0, .int .i64 0, .string ⟨#[]⟩, .slice none 0 0]) 6 80 rfl Tryz.underlying32 (by kernel_rfl) rfl (by omega) (by omega) (.slice Av l.length cv) l.length _ [.int .i64 y4.f0, .string y4.f1, .int .i64 y4.f2.f0, .int .i64 y4.f2.f1, .string y4.f2.f2, .slice A4 y4.f3.length c4] rfl rfl rfl ?h1 H8.out.2.2.2.2.own (Below.refl _ _) H8.out.2.2.2.1.size (by have := HGS.out.2; omega) ?_
          case h1 => simp [Value.oneCell']
          intro v1 w9 hown hbe hgr hob
          have hoL := H7.out.2.2.own
          have hka : KA k34 w8 (fun k => w.heap.size ≤ k ∧ some k ≠ (Value.slice Av l.length cv).ownBlock ∧ ¬ False) (eC A4 c4 y4) y4 :=
            EA.ka (put7_eq H8.out.1 fun q hq h => ⟨Nat.le_trans H7.out.2.1.size h, fun e => by have := own_lt hoL q e.symm; unfold Fr at h; omega, fun h => h⟩)
          have hga := Ga.app H8.out.2.2.2.2 hka hown hgr hob (fun _ _ h => h)
          have hob9 := fun q (hq : (Value.slice Av l.length cv).ownBlock = some q) => own_base hoL q hq
          have hps9 := H8.out.2.1.grown hgr fun q hq => ⟨by have := hob9 q hq; have := blk_lt H.out.1.box; omega, fun e => by
            obtain ⟨cur, hb, _⟩ := H8.out.2.1.toks
            exact own_ne H8.out.2.2.2.2.own hb (by decide) (by rw [hq, e]), by have := hob9 q hq; have := H.out.1.sh.two; omega⟩
          have hst9 : Stay gp w w9 := ⟨hgr.os.trans H8.out.2.2.2.1.os, hgr.tape.trans H8.out.2.2.2.1.tape, hgr.output.trans H8.out.2.2.2.1.output, Nat.le_trans H8.out.2.2.2.1.size hgr.size, fun q hq hne => (hgr.block q (Nat.lt_of_lt_of_le hq H8.out.2.2.2.1.size) (fun e => by have := hob9 q e.symm; omega)).trans (H8.out.2.2.2.1.block q hq hne)⟩
          have H9 := Aside0.mk (And.intro hps9 (And.intro hst9 hga))
          clear hown hbe hgr hob hka hga hob9 hps9 hst9 hoL
          go_wp2
          go_roundg kq
          case measure => omega
          case rel => exact ⟨_, k4, ⟨H9.out.1, H9.out.2.1, H9.out.2.2, by simp; omega, by simpa using HM3.out⟩⟩
        | false =>
          have HL := Aside0.mk hlb
          clear hl6 hlb
          go_upto_region 5 with (go_at_call 112; refine (leads_calls HE.out.2 H6.out.1).mono ?_; rw [HL.out]; rintro e w7 ⟨rfl, hb⟩; have H7 := Aside0.mk (And.intro (H6.out.1.step hb) (And.intro (H6.out.2.1.step hb) (H6.out.2.2.below hb))); clear hb)
          cases hq : exprR T n (kk + 1) o with
          | none => simp only [hq] at hr; cases hr
          | some r1 =>
          simp only [hq] at hr
          have HM3 := Aside0.mk hr
          have HQ3 := Aside0.mk hq
          clear hq hr
          go_wp2_with (first | (go_at_call 113; refine (HR.out w7 _ _ H7.out.1 HQ3.out).mono ?_; intro e w8 hp; rcases PostE.or hp with ⟨p, z, hr1, rfl, hs⟩ | ⟨A4, c4, y4, k4, hr1, rfl, hea, hps, hst⟩; (subst hr1; have hm := HM3.out; cases hm; exact ⟨rfl, (H7.out.2.1.trans hs).low H.out.2.2.2.1, rfl⟩); subst hr1; have H8 := Aside0.mk (And.intro hea (And.intro hps (And.intro hst.size (And.intro (H7.out.2.1.trans hst) (H7.out.2.2.stay hst (blk_lt H.out.1.box)))))); clear hea hps hst hp) | (at_builtin; refine Hold.out ?_))
          refine ⟨?_⟩
          refine print_append_cells (w0 := w8) (W := w8) w.heap.size rfl _ _ 32 34 (.agg #[.int .i64 0, .string ⟨#[]⟩, .int .i64 0, .int .i64 0, .string ⟨#[]⟩, .slice none 0 0]) 6 80 rfl Tryz.underlying32 (by kernel_rfl) rfl (by omega) (by omega) (.slice Av l.length cv) l.length _ [.int .i64 y4.f0, .string y4.f1, .int .i64 y4.f2.f0, .int .i64 y4.f2.f1, .string y4.f2.f2, .slice A4 y4.f3.length c4] rfl rfl rfl ?h1 H8.out.2.2.2.2.own (Below.refl _ _) H8.out.2.2.2.1.size (by have := HGS.out.2; omega) ?_
          case h1 => simp [Value.oneCell']
          intro v1 w9 hown hbe hgr hob
          have hoL := H7.out.2.2.own
          have hka : KA k34 w8 (fun k => w.heap.size ≤ k ∧ some k ≠ (Value.slice Av l.length cv).ownBlock ∧ ¬ False) (eC A4 c4 y4) y4 :=
            EA.ka (put7_eq H8.out.1 fun q hq h => ⟨Nat.le_trans H7.out.2.1.size h, fun e => by have := own_lt hoL q e.symm; unfold Fr at h; omega, fun h => h⟩)
          have hga := Ga.app H8.out.2.2.2.2 hka hown hgr hob (fun _ _ h => h)
          have hob9 := fun q (hq : (Value.slice Av l.length cv).ownBlock = some q) => own_base hoL q hq
          have hps9 := H8.out.2.1.grown hgr fun q hq => ⟨by have := hob9 q hq; have := blk_lt H.out.1.box; omega, fun e => by
            obtain ⟨cur, hb, _⟩ := H8.out.2.1.toks
            exact own_ne H8.out.2.2.2.2.own hb (by decide) (by rw [hq, e]), by have := hob9 q hq; have := H.out.1.sh.two; omega⟩
          have hst9 : Stay gp w w9 := ⟨hgr.os.trans H8.out.2.2.2.1.os, hgr.tape.trans H8.out.2.2.2.1.tape, hgr.output.trans H8.out.2.2.2.1.output, Nat.le_trans H8.out.2.2.2.1.size hgr.size, fun q hq hne => (hgr.block q (Nat.lt_of_lt_of_le hq H8.out.2.2.2.1.size) (fun e => by have := hob9 q e.symm; omega)).trans (H8.out.2.2.2.1.block q hq hne)⟩
          have H9 := Aside0.mk (And.intro hps9 (And.intro hst9 hga))
          clear hown hbe hgr hob hka hga hob9 hps9 hst9 hoL
          go_wp2
          go_roundg kq
          case measure => omega
          case rel => exact ⟨_, k4, ⟨H9.out.1, H9.out.2.1, H9.out.2.2, by simp; omega, by simpa using HM3.out⟩⟩
    · rw [if_neg hc] at hr
      have hc' : isB (tokAt T kk) (⟨#[44]⟩ : ByteArray) = false := by simpa using hc
      have HC := Aside0.mk hc'
      clear hc hc'
      cases hmr : mustR T [(⟨#[41]⟩ : ByteArray)] kk with
      | bad p z =>
        rw [hmr] at hr
        obtain rfl := Option.some.inj hr
        have HMR2 := Aside0.mk hmr
        clear hmr hr
        go_wp2_with (first | (go_at_call 37; refine (take_no HI.out.1 _ HC.out).mono ?_; rintro e w6 ⟨rfl, he⟩; replace he := he.symm; subst he) | (go_at_call 40; refine (must_calls HE.out.1 (HI.out.1.step (below_alloc (Below.refl _ _) _)) [(⟨#[41]⟩ : ByteArray)] wr.heap.size (strs_one (blk_new _ _)) (Nat.ne_of_gt (blk_lt HI.out.1.box)) (by simp) (by simp)).mono ?_; rw [HMR2.out]; rintro e w8 ⟨rfl, hst⟩; exact ⟨rfl, ((HI.out.2.1.step (below_alloc (Below.refl _ _) _)).trans hst).low H.out.2.2.2.1, rfl⟩))
      | ok u2 k4 =>
        rw [hmr] at hr
        obtain rfl := Option.some.inj hr
        have HMR2 := Aside0.mk hmr
        clear hmr hr
        go_upto_region 7 with (first | (go_at_call 37; refine (take_no HI.out.1 _ HC.out).mono ?_; rintro e w6 ⟨rfl, he⟩; replace he := he.symm; subst he) | (go_at_call 40; refine (must_calls HE.out.1 (HI.out.1.step (below_alloc (Below.refl _ _) _)) [(⟨#[41]⟩ : ByteArray)] wr.heap.size (strs_one (blk_new _ _)) (Nat.ne_of_gt (blk_lt HI.out.1.box)) (by simp) (by simp)).mono ?_; rw [HMR2.out]; rintro e w8 ⟨rfl, hps, hst⟩; have H8 := Aside0.mk (And.intro hps ((Below.stay (below_alloc (Below.refl _ _) _) gp).trans hst)); clear hps hst))
        have hSt := HI.out.2.1.trans H8.out.2
        have b8 := hSt.cells H.out.2.1 N.out.1
        obtain ⟨Ar, cr, hvr⟩ := own_slice' H.out.2.2.2.2.2.1.own
        have c3 := (blk_cell b8 3).trans rfl
        simp [SV.cells, hvr] at c3
        have hG := H.out.2.2.2.2.2.1.stay hSt H.out.2.2.2.2.1
        rw [hvr] at hG
        have H9 := Aside0.mk (And.intro b8 (And.intro hG hSt))
        have hlr := H.out.2.2.2.2.2.2
        have hbw : base ≤ w8.heap.size := Nat.le_trans H.out.2.2.2.1 hSt.size
        clear b8 hG hSt
        go_wp2_with (at_builtin; refine Hold.out ?_)
        refine ⟨?_⟩
        refine print_append_cells (w0 := w8) (W := w8) base rfl _ _ 41 32 (.slice none 0 0) 1 24 rfl Tryz.underlying41 (by kernel_rfl) rfl (by omega) (by omega) (.slice Ar rows.length cr) rows.length _ [.slice Av l.length cv] rfl rfl rfl ?h1 H9.out.2.1.own (Below.refl _ _) hbw (by omega) ?_
        case h1 => simp [Value.oneCell']
        intro v1 w9 hown hbe hgr hob
        obtain ⟨A1, n1, q1, rfl⟩ := own_slice hown
        have b9 := blk_grown H9.out.1 hgr (own_ne H9.out.2.1.own H9.out.1 (by decide))
        have f3 := blk_frozen b9 3
        have C3 := (blk_cell b9 3).trans rfl
        simp [SV.cells, hvr] at C3
        have H10 := Aside0.mk (And.intro b9 (And.intro hown (And.intro hgr hob)))
        clear b9 hown hgr hob hbe c3
        go_wp2
        have hgr := H10.out.2.2.1
        have hown9 := fun q (hq : (Value.slice Ar rows.length cr).ownBlock = some q) => own_base H9.out.2.1.own q hq
        have hps9 : PS w9 gp gt T C k4 o := H8.out.1.grown hgr fun q hq => ⟨by have := hown9 q hq; have := H.out.2.2.2.2.1; omega, fun e => by
          obtain ⟨cur, hb, _⟩ := H8.out.1.toks
          exact own_ne H9.out.2.1.own hb (by decide) (by rw [hq, e]), by have := hown9 q hq; have := H.out.2.2.2.2.1; have := H.out.1.gp2; omega⟩
        have hra := HI.out.2.2.1.ra (by omega)
        have hka := RA.ka hra
        have hka8 : KA (Kd.slice 34 k34) w8 (fun k => base ≤ k ∧ some k ≠ (Value.slice Ar rows.length cr).ownBlock ∧ ¬ (k = gs)) [.slice Av l.length cv] (l.map (·.2)) :=
          hka.of (fun q hq hS => ⟨by have := hS.1; have := H.out.2.2.2.1; omega, fun e => by have := own_lt (show w.ownsRow base 32 1 (Value.slice Ar rows.length cr) rows.length _ by have := H.out.2.2.2.2.2.1.own; rw [hvr] at this; exact this) q e.symm; have := hS.1; omega, fun e => by have := blk_lt H.out.2.1; have := hS.1; omega⟩) H8.out.2.size fun q hS hq => H8.out.2.block q hq (by have := hS.1; have := H.out.2.2.2.2.1; have := H.out.2.2.2.1; omega)
        have hga := Ga.app H9.out.2.1 hka8 H10.out.2.1 hgr H10.out.2.2.2 (fun q hq e => by have := blk_lt H9.out.1; omega)
        exact bodyPost_ret (results_0 rfl _ _) rfl ⟨((H9.out.2.2.low H.out.2.2.2.1).grown hgr hown9 hbw).put HGS.out.1 3 _, rfl, hps9.put_far N.out.1 N.out.2 H.out.2.2.1 3 _, .slice A1 n1 q1, [.slice Av l.length cv], blk_put H10.out.1 3 _ (by simp [SV.cells]), hga.put rfl 3 _⟩
end Go.Proofs.YtlpnlfahlcingaaGreatDoor.PL
end
section
namespace Go.Proofs.YtlpnlfahlcingaaGreatDoor.PL
open Go.RowKit Go.Proofs.YtlpnlfahlcingaaGreatDoorW.PrintWords Go.Proofs.YtlpnlfahlcingaaGreatDoorW.PrintLast Go.Proofs.YtlpnlfahlcingaaGreatDoorW.PrintMore
set_option linter.unusedVariables false
set_option linter.unusedSimpArgs false
attribute [local go_sem] World.cell?_alloc_some
attribute [local go_sem ↓] isSome_setCell
def itemR (T : List Tok) (n k : Nat) (o : Int) : Option (Rd S63) :=
  if isB (tokAt T k) (⟨#[67, 79, 85, 78, 84]⟩ : ByteArray) = true then
    match mustR T [(⟨#[40]⟩ : ByteArray), (⟨#[42]⟩ : ByteArray), (⟨#[41]⟩ : ByteArray)] (k + 1) with
    | .bad p x => some (.bad p x)
    | .ok _ k1 => some (.ok ⟨3, z34⟩ k1)
  else if isB (tokAt T k) (⟨#[83, 85, 77]⟩ : ByteArray) = true then
    match mustR T [(⟨#[40]⟩ : ByteArray)] (k + 1) with
    | .bad p x => some (.bad p x)
    | .ok _ k1 =>
      match exprR T n k1 o with
      | none => none
      | some (.bad p x) => some (.bad p x)
      | some (.ok e k2) =>
        match mustR T [(⟨#[41]⟩ : ByteArray)] k2 with
        | .bad p x => some (.bad p x)
        | .ok _ k3 => some (.ok ⟨4, e⟩ k3)
  else
    match exprR T n k o with
    | none => none
    | some (.bad p x) => some (.bad p x)
    | some (.ok e k1) => some (.ok ⟨2, e⟩ k1)
theorem strs_of {w : World} {g : Nat} {t : TypeId} {L : List ByteArray} (h : w.heap[g]? = some (.cells (L.map Value.string).toArray t (0, 0))) : StrsAt w g L := by
  intro i s hs
  refine (blk_cell h i).trans ?_
  simp [hs]
def zi7 : Array Value := #[.int .i64 0, .int .i64 0, .string ⟨#[]⟩, .int .i64 0, .int .i64 0, .string ⟨#[]⟩, .slice none 0 0]
def iC (A : Option Addr) (c : Nat) (x : S63) : Array Value := #[.int .i64 x.f0, .int .i64 x.f1.f0, .string x.f1.f1, .int .i64 x.f1.f2.f0, .int .i64 x.f1.f2.f1, .string x.f1.f2.f2, .slice A x.f1.f3.length c]
def PostI (w : World) (gp gt : Nat) (T : List Tok) (C : Nat) (o : Int) (r : Rd S63) (e : Ending) (w' : World) : Prop :=
  match r with
  | .ok x k => ∃ A c, e = .returned (.agg (iC A c x)) ∧ EA w' (Fr w) (.slice A x.f1.f3.length c) x.f1.f3 ∧ PS w' gp gt T C k o ∧ Stay gp w w'
  | .bad p x => e = .panicked [{ v := failV p x, recovered := false }] ∧ Stay gp w w'
theorem PostI.or {w w' : World} {gp gt : Nat} {T : List Tok} {C : Nat} {o : Int} {r : Rd S63} {e : Ending} (h : PostI w gp gt T C o r e w') :
    (∃ p x, r = .bad p x ∧ e = .panicked [{ v := failV p x, recovered := false }] ∧ Stay gp w w') ∨
    (∃ A c y k, r = .ok y k ∧ e = .returned (.agg (iC A c y)) ∧ EA w' (Fr w) (.slice A y.f1.f3.length c) y.f1.f3 ∧ PS w' gp gt T C k o ∧ Stay gp w w') := by
  cases r with
  | bad p x => exact .inl ⟨p, x, rfl, h.1, h.2⟩
  | ok y k =>
    obtain ⟨A, c, he, h1, h2, h3⟩ := h
    exact .inr ⟨A, c, y, k, rfl, he, h1, h2, h3⟩
theorem EA.row' {w : World} {S : Nat → Prop} {v : Value} {xs : List S34} (h : EA w S v xs) {g : Nat} (hg : ¬ S g) (cs : Array Value) : EA (w.setRow g cs) S v xs :=
  h.of (fun _ _ h => h) (by simp) fun k h1 _ => setRow_other _ _ _ _ (fun e => hg (e ▸ h1))
set_option maxHeartbeats 8000000 in
set_option maxRecDepth 100000 in
theorem item_calls {w : World} {gp gt : Nat} {T : List Tok} {C k : Nat} {o : Int} (hE : TE T) (hW : TW T) (h : PS w gp gt T C k o) (ho : o ≤ 200) (n : Nat) (r : Rd S63) (hr : itemR T n k o = some r) :
    Calls Tryz.prog 111 #[.pointer (some ⟨gp, 0, none⟩)] w (PostI w gp gt T C o r) := by
  have HR := Aside0.mk (fun (w1 : World) (k1 : Nat) (r1 : Rd S34) (h1 : PS w1 gp gt T C k1 o) (h2 : exprR T n k1 o = some r1) => expr_calls hE hW h1 ho n r1 h2)
  have HE := Aside0.mk hE
  have H := Aside0.mk h
  clear hE hW h ho
  unfold itemR at hr
  go_enter Tryz.func111, Tryz.ntmps111
  go_upto_region 1 with (fail)
  obtain ⟨g2, hg2⟩ : ∃ g, w.heap.size = g := ⟨_, rfl⟩
  have B2 := Aside0.mk (fun O : Obj => hg2 ▸ blk_new w O)
  rw [hg2]
  have N2 := Aside0.mk (show g2 ≠ gp ∧ g2 ≠ gt ∧ w.heap.size ≤ g2 ∧ 2 ≤ g2 by have := H.out.gt_lt; have := blk_lt H.out.box; have := H.out.gp2; omega)
  clear hg2
  refine at_world (fun w1 => Aside0 (PS w1 gp gt T C k o ∧ Stay gp w w1 ∧ w1.heap[g2]? = some (.cells zi7 63 (0, 0)))) ⟨H.out.step (below_alloc (Below.refl _ _) _), (Stay.refl gp w).step (below_alloc (Below.refl _ _) _), B2.out _⟩ (fun w1 H1 => ?_)
  by_cases hb : isB (tokAt T k) (⟨#[67, 79, 85, 78, 84]⟩ : ByteArray) = true
  · rw [if_pos hb] at hr
    have HB := Aside0.mk (And.intro hb (HE.out k H.out.at_ (by have := isB_kind hb; omega)))
    clear hb
    cases hmr : mustR T [(⟨#[40]⟩ : ByteArray), (⟨#[42]⟩ : ByteArray), (⟨#[41]⟩ : ByteArray)] (k + 1) with
    | bad p z =>
      rw [hmr] at hr
      obtain rfl := Option.some.inj hr
      have HMR := Aside0.mk hmr
      clear hmr hr
      go_wp2_with (first | (go_at_call 37; refine (take_yes H1.out.1 _ HB.out.1 HB.out.2).mono ?_; rintro e w5 ⟨rfl, hps, hst⟩; have H5 := Aside0.mk (And.intro hps (And.intro (H1.out.2.1.trans hst) (hst.cells H1.out.2.2 N2.out.1))); clear hps hst) | (go_at_call 40; refine (must_calls HE.out (H5.out.1.step (below_alloc (Below.refl _ _) _)) [(⟨#[40]⟩ : ByteArray), (⟨#[42]⟩ : ByteArray), (⟨#[41]⟩ : ByteArray)] w5.heap.size (strs_of (blk_new _ _)) (Nat.ne_of_gt (blk_lt H5.out.1.box)) (by simp) (by simp)).mono ?_; rw [HMR.out]; rintro e w8 ⟨rfl, hst⟩; exact ⟨rfl, rfl, (H5.out.2.1.step (below_alloc (Below.refl _ _) _)).trans hst⟩))
    | ok u k1 =>
      rw [hmr] at hr
      obtain rfl := Option.some.inj hr
      have HMR := Aside0.mk hmr
      clear hmr hr
      go_wp2_with (first | (go_at_call 37; refine (take_yes H1.out.1 _ HB.out.1 HB.out.2).mono ?_; rintro e w5 ⟨rfl, hps, hst⟩; have H5 := Aside0.mk (And.intro hps (And.intro (H1.out.2.1.trans hst) (hst.cells H1.out.2.2 N2.out.1))); clear hps hst) | (go_at_call 40; refine (must_calls HE.out (H5.out.1.step (below_alloc (Below.refl _ _) _)) [(⟨#[40]⟩ : ByteArray), (⟨#[42]⟩ : ByteArray), (⟨#[41]⟩ : ByteArray)] w5.heap.size (strs_of (blk_new _ _)) (Nat.ne_of_gt (blk_lt H5.out.1.box)) (by simp) (by simp)).mono ?_; rw [HMR.out]; rintro e w8 ⟨rfl, hps, hst⟩; have H8 := Aside0.mk (And.intro hps (And.intro ((H5.out.2.1.step (below_alloc (Below.refl _ _) _)).trans hst) (hst.cells (blk_alloc H5.out.2.2 _) N2.out.1))); clear hps hst) | (with_reducible refine gate_store (t := 63) (p := 2) rfl ?_; refine Hold.out ?_))
      refine ⟨?_⟩
      refine wpList_store_row rfl 63 _ _ rfl g2 (iC none 0 ⟨3, z34⟩) rfl rfl 63 zi7 H8.out.2.2 (by kernel_rfl) rfl (by simp [iC, Value.oneCell']) ?_
      go_wp2
      refine bodyPost_ret (results_c rfl _ _ g2 63 _ (0,0) _ rfl (setRow_heap _ _ _ _ _ _ H8.out.2.2) Tryz.underlying63 rfl (by kernel_rfl)) rfl ?_
      exact ⟨none, 0, rfl, EA.nil _ _, H8.out.1.row N2.out.1 N2.out.2.1 N2.out.2.2.2 _, H8.out.2.1.row N2.out.2.2.1 _⟩
  · rw [if_neg hb] at hr
    have hb' : isB (tokAt T k) (⟨#[67, 79, 85, 78, 84]⟩ : ByteArray) = false := by simpa using hb
    have HB := Aside0.mk hb'
    clear hb hb'
    by_cases hb : isB (tokAt T k) (⟨#[83, 85, 77]⟩ : ByteArray) = true
    · rw [if_pos hb] at hr
      have HB2 := Aside0.mk (And.intro hb (HE.out k H.out.at_ (by have := isB_kind hb; omega)))
      clear hb
      cases hmr : mustR T [(⟨#[40]⟩ : ByteArray)] (k + 1) with
      | bad p z =>
        rw [hmr] at hr
        obtain rfl := Option.some.inj hr
        have HMR := Aside0.mk hmr
        clear hmr hr
        go_wp2_with (first | (go_at_call 37; with_reducible refine (take_no H1.out.1 _ HB.out).mono ?_; rintro e w4 ⟨rfl, he⟩; replace he := he.symm; subst he) | (go_at_call 37; with_reducible refine (take_yes H1.out.1 _ HB2.out.1 HB2.out.2).mono ?_; rintro e w5 ⟨rfl, hps, hst⟩; have H5 := Aside0.mk (And.intro hps (And.intro (H1.out.2.1.trans hst) (hst.cells H1.out.2.2 N2.out.1))); clear hps hst) | (go_at_call 40; refine (must_calls HE.out (H5.out.1.step (below_alloc (Below.refl _ _) _)) [(⟨#[40]⟩ : ByteArray)] w5.heap.size (strs_of (blk_new _ _)) (Nat.ne_of_gt (blk_lt H5.out.1.box)) (by simp) (by simp)).mono ?_; rw [HMR.out]; rintro e w8 ⟨rfl, hst⟩; exact ⟨rfl, rfl, (H5.out.2.1.step (below_alloc (Below.refl _ _) _)).trans hst⟩))
      | ok u k1 =>
        rw [hmr] at hr
        have HMR := Aside0.mk hmr
        clear hmr
        cases hq : exprR T n k1 o with
        | none => simp only [hq] at hr; cases hr
        | some r1 =>
        simp only [hq] at hr
        have HM := Aside0.mk hr
        have HQ := Aside0.mk hq
        clear hq hr
        go_upto_region 6 with (first | (go_at_call 37; with_reducible refine (take_no H1.out.1 _ HB.out).mono ?_; rintro e w4 ⟨rfl, he⟩; replace he := he.symm; subst he) | (go_at_call 37; with_reducible refine (take_yes H1.out.1 _ HB2.out.1 HB2.out.2).mono ?_; rintro e w5 ⟨rfl, hps, hst⟩; have H5 := Aside0.mk (And.intro hps (And.intro (H1.out.2.1.trans hst) (hst.cells H1.out.2.2 N2.out.1))); clear hps hst) | (go_at_call 40; refine (must_calls HE.out (H5.out.1.step (below_alloc (Below.refl _ _) _)) [(⟨#[40]⟩ : ByteArray)] w5.heap.size (strs_of (blk_new _ _)) (Nat.ne_of_gt (blk_lt H5.out.1.box)) (by simp) (by simp)).mono ?_; rw [HMR.out]; rintro e w8 ⟨rfl, hps, hst⟩; have H8 := Aside0.mk (And.intro hps (And.intro ((H5.out.2.1.step (below_alloc (Below.refl _ _) _)).trans hst) (hst.cells (blk_alloc H5.out.2.2 _) N2.out.1))); clear hps hst))
        go_upto_region 7 with (go_at_call 113; refine (HR.out w8 _ _ H8.out.1 HQ.out).mono ?_; intro e w9 hp; rcases PostE.or hp with ⟨p, z, hr1, rfl, hs⟩ | ⟨A3, c3, y, k3, hr1, rfl, hea, hps, hst⟩; (subst hr1; have hm := HM.out; cases hm; exact ⟨rfl, rfl, H8.out.2.1.trans hs⟩); subst hr1; have H9 := Aside0.mk (And.intro hea (And.intro hps (And.intro (H8.out.2.1.trans hst) (hst.cells H8.out.2.2 N2.out.1)))); clear hea hps hst hp)
        obtain ⟨g3, hg3⟩ : ∃ g, w9.heap.size = g := ⟨_, rfl⟩
        have B3 := Aside0.mk (fun O : Obj => hg3 ▸ blk_new w9 O)
        have hz3 := hg3
        rw [hg3]
        have N3 := Aside0.mk (show g3 ≠ gp ∧ g2 ≠ g3 by have := blk_lt H9.out.2.1.box; have := blk_lt H9.out.2.2.2; omega)
        have EAx := EA.of (w1 := w9.alloc (.cells (eC A3 c3 y).toArray 34 (0, 0))) (S1 := fun k => Fr w k ∧ k ≠ g2 ∧ k ≠ g3) H9.out.1 (fun q hq h => ⟨Nat.le_trans H8.out.2.1.size h, by have := blk_lt H8.out.2.2; unfold Fr at h; omega, by omega⟩) (by simp) (fun q _ hq => Below.heap_alloc w9 _ q hq)
        have EAX := Aside0.mk EAx
        clear hg3 hz3 EAx
        refine at_world (fun w10 => Aside0 (PS w10 gp gt T C k3 o ∧ Stay gp w w10 ∧ w10.heap[g2]? = some (.cells zi7 63 (0, 0)) ∧ w10.heap[g3]? = some (.cells (eC A3 c3 y).toArray 34 (0, 0)) ∧ EA w10 (fun k => Fr w k ∧ k ≠ g2 ∧ k ≠ g3) (.slice A3 y.f3.length c3) y.f3))
          ⟨H9.out.2.1.step (below_alloc (Below.refl _ _) _), H9.out.2.2.1.step (below_alloc (Below.refl _ _) _), blk_alloc H9.out.2.2.2 _, B3.out _, EAX.out⟩ (fun w10 H10 => ?_)
        have hm := HM.out
        clear HM H9 EAX B3
        cases hmr : mustR T [(⟨#[41]⟩ : ByteArray)] k3 with
        | bad p z =>
          rw [hmr] at hm
          obtain rfl := Option.some.inj hm
          have HMR2 := Aside0.mk hmr
          clear hmr hm
          go_wp2_with (go_at_call 40; refine (must_calls HE.out (H10.out.1.step (below_alloc (Below.refl _ _) _)) [(⟨#[41]⟩ : ByteArray)] w10.heap.size (strs_of (blk_new _ _)) (Nat.ne_of_gt (blk_lt H10.out.1.box)) (by simp) (by simp)).mono ?_; rw [HMR2.out]; rintro e w11 ⟨rfl, hst⟩; exact ⟨rfl, rfl, (H10.out.2.1.step (below_alloc (Below.refl _ _) _)).trans hst⟩)
        | ok u2 k4 =>
          rw [hmr] at hm
          obtain rfl := Option.some.inj hm
          have HMR2 := Aside0.mk hmr
          clear hmr hm
          go_upto_region 8 with (go_at_call 40; refine (must_calls HE.out (H10.out.1.step (below_alloc (Below.refl _ _) _)) [(⟨#[41]⟩ : ByteArray)] w10.heap.size (strs_of (blk_new _ _)) (Nat.ne_of_gt (blk_lt H10.out.1.box)) (by simp) (by simp)).mono ?_; rw [HMR2.out]; rintro e w11 ⟨rfl, hps, hst⟩; have H11 := Aside0.mk (And.intro hps (And.intro ((Below.stay (below_alloc (Below.refl _ _) _) gp).trans hst) (And.intro (hst.cells (blk_alloc H10.out.2.2.1 _) N2.out.1) (hst.cells (blk_alloc H10.out.2.2.2.1 _) N3.out.1)))); clear hps hst)
          have q := fun i => blk_cell H11.out.2.2.2 i
          have q0 := (q 0).trans rfl
          have q1 := (q 1).trans rfl
          have q2 := (q 2).trans rfl
          have q3 := (q 3).trans rfl
          have q4 := (q 4).trans rfl
          have q5 := (q 5).trans rfl
          clear q
          simp [eC] at q0 q1 q2 q3 q4 q5
          go_wp2_with (with_reducible refine gate_store (t := 63) (p := 2) rfl ?_; refine Hold.out ?_)
          refine ⟨?_⟩
          refine wpList_store_row rfl 63 _ _ rfl g2 (iC A3 c3 ⟨4, y⟩) rfl rfl 63 zi7 H11.out.2.2.1 (by kernel_rfl) rfl (by simp [iC, Value.oneCell']) ?_
          go_wp2
          refine bodyPost_ret (results_c rfl _ _ g2 63 _ (0,0) _ rfl (setRow_heap _ _ _ _ _ _ H11.out.2.2.1) Tryz.underlying63 rfl (by kernel_rfl)) rfl ?_
          refine ⟨A3, c3, rfl, ?_, H11.out.1.row N2.out.1 N2.out.2.1 N2.out.2.2.2 _, (H10.out.2.1.trans H11.out.2.1).row N2.out.2.2.1 _⟩
          exact ((H10.out.2.2.2.2.stay H11.out.2.1 (fun h => by have := blk_lt H.out.box; have := h.1; unfold Fr at this; omega)).row' (g := g2) (fun h => h.2.1 rfl) _).of (fun _ _ h => h.1) (Nat.le_refl _) (fun _ _ _ => rfl)
    · rw [if_neg hb] at hr
      have hb' : isB (tokAt T k) (⟨#[83, 85, 77]⟩ : ByteArray) = false := by simpa using hb
      have HB2 := Aside0.mk hb'
      clear hb hb'
      cases hq : exprR T n k o with
      | none => simp only [hq] at hr; cases hr
      | some r1 =>
      simp only [hq] at hr
      have HM := Aside0.mk hr
      have HQ := Aside0.mk hq
      clear hq hr
      go_wp2_with (first | (go_at_call 37; with_reducible refine (take_no H1.out.1 _ HB.out).mono ?_; rintro e w4 ⟨rfl, he⟩; replace he := he.symm; subst he) | (go_at_call 37; with_reducible refine (take_no H1.out.1 _ HB2.out).mono ?_; rintro e w4 ⟨rfl, he⟩; replace he := he.symm; subst he) | (go_at_call 113; refine (HR.out w1 _ _ H1.out.1 HQ.out).mono ?_; intro e w9 hp; rcases PostE.or hp with ⟨p, z, hr1, rfl, hs⟩ | ⟨A3, c3, y, k3, hr1, rfl, hea, hps, hst⟩; (subst hr1; have hm := HM.out; cases hm; exact ⟨rfl, rfl, H1.out.2.1.trans hs⟩); subst hr1; have H9 := Aside0.mk (And.intro hea (And.intro hps (And.intro (H1.out.2.1.trans hst) (hst.cells H1.out.2.2 N2.out.1)))); clear hea hps hst hp) | (with_reducible refine gate_store (t := 63) (p := 2) rfl ?_; refine Hold.out ?_))
      refine ⟨?_⟩
      refine wpList_store_row rfl 63 _ _ rfl g2 (iC A3 c3 ⟨2, y⟩) rfl rfl 63 zi7 H9.out.2.2.2 (by kernel_rfl) rfl (by simp [iC, Value.oneCell']) ?_
      go_wp2
      have hm := HM.out
      obtain rfl := Option.some.inj hm
      refine bodyPost_ret (results_c rfl _ _ g2 63 _ (0,0) _ rfl (setRow_heap _ _ _ _ _ _ H9.out.2.2.2) Tryz.underlying63 rfl (by kernel_rfl)) rfl ?_
      refine ⟨A3, c3, rfl, ?_, H9.out.2.1.row N2.out.1 N2.out.2.1 N2.out.2.2.2 _, H9.out.2.2.1.row N2.out.2.2.1 _⟩
      have hb := blk_lt H1.out.2.2
      exact H9.out.1.of (fun k _ h => by have := H1.out.2.1.size; unfold Fr at h ⊢; omega) (by simp) fun k h1 h2 => setRow_other _ _ _ _ (by unfold Fr at h1; omega)
end Go.Proofs.YtlpnlfahlcingaaGreatDoor.PL
end
section
namespace Go.Proofs.YtlpnlfahlcingaaGreatDoor.PL
open Go.RowKit Go.Proofs.YtlpnlfahlcingaaGreatDoorW.PrintWords Go.Proofs.YtlpnlfahlcingaaGreatDoorW.PrintLast Go.Proofs.YtlpnlfahlcingaaGreatDoorW.PrintMore
set_option linter.unusedVariables false
set_option linter.unusedSimpArgs false
attribute [local go_sem] World.cell?_alloc_some
attribute [local go_sem ↓] isSome_setCell
def assignR (T : List Tok) (n k : Nat) (o : Int) : Option (Rd S65) :=
  match nameR T k with
  | .bad p x => some (.bad p x)
  | .ok s k1 =>
    match mustR T [(⟨#[61]⟩ : ByteArray)] k1 with
    | .bad p x => some (.bad p x)
    | .ok _ k2 =>
      match exprR T n k2 o with
      | none => none
      | some (.bad p x) => some (.bad p x)
      | some (.ok e k3) => some (.ok ⟨s, e⟩ k3)
def aC (A : Option Addr) (c : Nat) (x : S65) : List Value := [.string x.f0, .int .i64 x.f1.f0, .string x.f1.f1, .int .i64 x.f1.f2.f0, .int .i64 x.f1.f2.f1, .string x.f1.f2.f2, .slice A x.f1.f3.length c]
theorem EA.ka65 {w : World} {S : Nat → Prop} {A : Option Addr} {c : Nat} {x : S65} (h : EA w S (.slice A x.f1.f3.length c) x.f1.f3) : KA k65 w S (aC A c x) x := by
  obtain ⟨A', c', he, hc, hC⟩ := h
  injection he with h1 h2 h3
  subst h1 h3
  exact fun W2 hW => k65_mk W2 x hc (hC W2 hW)
def PostAs (w : World) (gp gt : Nat) (T : List Tok) (C : Nat) (o : Int) (gs base : Nat) (x : SV) (sets : List (List Value × S65)) (r : Rd S65) (e : Ending) (w' : World) : Prop :=
  StayB gp base w w' ∧ match r with
  | .ok l k => e = .returned (.tuple #[]) ∧ PS w' gp gt T C k o ∧ ∃ v cs, w'.heap[gs]? = some (.cells { x with vs := v }.cells 44 (0, 0)) ∧ Ga k65 65 base (· = gs) w' v (sets ++ [(cs, l)])
  | .bad p z => e = .panicked [{ v := failV p z, recovered := false }]
set_option maxHeartbeats 8000000 in
set_option maxRecDepth 100000 in
theorem assign_calls {w : World} {gp gt : Nat} {T : List Tok} {C k : Nat} {o : Int} (hE : TE T) (hW : TW T) (h : PS w gp gt T C k o) (ho : o ≤ 200) {gs base : Nat} {x : SV} (hx : w.heap[gs]? = some (.cells x.cells 44 (0, 0))) (h2 : 2 ≤ gs) (hb : base ≤ w.heap.size) (hgb : gp < base) (hgs : base ≤ gs)
    (sets : List (List Value × S65)) (hsets : Ga k65 65 base (· = gs) w x.vs sets) (hlen : sets.length ≤ 1000000) (n : Nat) (r : Rd S65) (hr : assignR T n k o = some r) :
    Calls Tryz.prog 87 #[.pointer (some ⟨gp, 0, none⟩), .pointer (some ⟨gs, 0, none⟩)] w (PostAs w gp gt T C o gs base x sets r) := by
  have HR := Aside0.mk (fun (w1 : World) (k1 : Nat) (r1 : Rd S34) (h1 : PS w1 gp gt T C k1 o) (h2 : exprR T n k1 o = some r1) => expr_calls hE hW h1 ho n r1 h2)
  have H := Aside0.mk (And.intro h (And.intro hx (And.intro h2 (And.intro hb (And.intro hgb (And.intro hsets hlen))))))
  have HE := Aside0.mk (And.intro hE hW)
  have HGS := Aside0.mk hgs
  have N := Aside0.mk (h.ne_box hx (by decide) (by decide))
  clear hE hW h ho hx h2 hb hgb hgs hsets hlen
  unfold assignR at hr
  cases hnr : nameR T k with
  | bad p z =>
    rw [hnr] at hr
    obtain rfl := Option.some.inj hr
    have HNR := Aside0.mk hnr
    clear hnr hr
    go_enter Tryz.func87, Tryz.ntmps87
    go_wp2_with (go_at_call 84; refine (name_calls HE.out.1 HE.out.2 H.out.1).mono ?_; rw [HNR.out]; rintro e w8 ⟨rfl, hst⟩; exact ⟨rfl, hst.low H.out.2.2.2.1, rfl⟩)
  | ok s k1 =>
    rw [hnr] at hr
    have HNR := Aside0.mk hnr
    clear hnr
    cases hmr : mustR T [(⟨#[61]⟩ : ByteArray)] k1 with
    | bad p z =>
      simp only [hmr] at hr
      obtain rfl := Option.some.inj hr
      have HMR := Aside0.mk hmr
      clear hmr hr
      go_enter Tryz.func87, Tryz.ntmps87
      go_wp2_with (first | (go_at_call 84; refine (name_calls HE.out.1 HE.out.2 H.out.1).mono ?_; rw [HNR.out]; rintro e w7 ⟨rfl, hps, hst⟩; have H7 := Aside0.mk (And.intro hps hst); clear hps hst) | (go_at_call 40; refine (must_calls HE.out.1 (H7.out.1.step (below_alloc (Below.refl _ _) _)) [(⟨#[61]⟩ : ByteArray)] w7.heap.size (strs_of (blk_new _ _)) (Nat.ne_of_gt (blk_lt H7.out.1.box)) (by simp) (by simp)).mono ?_; rw [HMR.out]; rintro e w8 ⟨rfl, hst⟩; exact ⟨rfl, ((H7.out.2.step (below_alloc (Below.refl _ _) _)).trans hst).low H.out.2.2.2.1, rfl⟩))
    | ok u k2 =>
      simp only [hmr] at hr
      have HMR := Aside0.mk hmr
      clear hmr
      cases hq : exprR T n k2 o with
      | none => simp only [hq] at hr; cases hr
      | some r1 =>
      simp only [hq] at hr
      have HM := Aside0.mk hr
      have HQ := Aside0.mk hq
      clear hq hr
      go_enter Tryz.func87, Tryz.ntmps87
      go_upto_region 2 with (first | (go_at_call 84; refine (name_calls HE.out.1 HE.out.2 H.out.1).mono ?_; rw [HNR.out]; rintro e w7 ⟨rfl, hps, hst⟩; have H7 := Aside0.mk (And.intro hps hst); clear hps hst) | (go_at_call 40; refine (must_calls HE.out.1 (H7.out.1.step (below_alloc (Below.refl _ _) _)) [(⟨#[61]⟩ : ByteArray)] w7.heap.size (strs_of (blk_new _ _)) (Nat.ne_of_gt (blk_lt H7.out.1.box)) (by simp) (by simp)).mono ?_; rw [HMR.out]; rintro e w8 ⟨rfl, hps, hst⟩; have H8 := Aside0.mk (And.intro hps ((H7.out.2.step (below_alloc (Below.refl _ _) _)).trans hst)); clear hps hst))
      have b8 := H8.out.2.cells H.out.2.1 N.out.1
      obtain ⟨Av, cv, hvs⟩ := own_slice' H.out.2.2.2.2.2.1.own
      have c4 := (blk_cell b8 4).trans rfl
      simp [SV.cells, hvs] at c4
      have hG := H.out.2.2.2.2.2.1.stay H8.out.2 H.out.2.2.2.2.1
      rw [hvs] at hG
      have H9 := Aside0.mk (And.intro b8 hG)
      have hls := H.out.2.2.2.2.2.2
      have hbw : base ≤ w8.heap.size := Nat.le_trans H.out.2.2.2.1 H8.out.2.size
      clear b8 hG
      go_region_law (first | (go_simp; go_at_call 113; refine (HR.out _ _ _ (H8.out.1.step (below_drew (Below.refl _ _))) HQ.out).mono ?_; intro e w9 hp; rcases PostE.or hp with ⟨p, z, hr1, rfl, hs⟩ | ⟨A3, c3, y, k3, hr1, rfl, hea, hps, hst⟩; (subst hr1; have hm := HM.out; cases hm; exact ⟨rfl, ((H8.out.2.step (below_drew (Below.refl _ _))).trans hs).low H.out.2.2.2.1, rfl⟩); subst hr1; have b9 := hst.cells (blk_drew H9.out.1) N.out.1; have C4 := (blk_cell b9 4).trans rfl; simp [SV.cells, hvs] at C4; have hst2 := (Below.stay (below_drew (Below.refl _ w8)) gp).trans hst; have H10 := Aside0.mk (And.intro hea (And.intro hps (And.intro hst2 (And.intro b9 (H9.out.2.stay hst2 H.out.2.2.2.2.1))))); have M9 := World.new_ne w9 _ C4; have hbw9 : base ≤ w9.heap.size := Nat.le_trans hbw hst2.size; clear hea hps hst hst2 b9 hp) | ((refine step_append_cells (w0 := w9) (W := w9) base (by rfl) (.tmp 14) (.tmp 19) 42 65 (.agg #[.string ⟨#[]⟩, .int .i64 0, .string ⟨#[]⟩, .int .i64 0, .int .i64 0, .string ⟨#[]⟩, .slice none 0 0]) 7 96 (by rfl) Tryz.underlying42 (by kernel_rfl) (by rfl) (by omega) (by omega) (.slice Av sets.length cv) sets.length _ (aC A3 c3 ⟨s, y⟩) (by rfl) (by rfl) (by rfl) (by simp [aC, Value.oneCell']) H10.out.2.2.2.2.own (Below.refl _ _) hbw9 (by omega) ?_; intro v1 w10 hown hbe hgr hob; obtain ⟨A1, n1, q1, rfl⟩ := own_slice hown; have b10 := blk_grown H10.out.2.2.2.1 hgr (own_ne H10.out.2.2.2.2.own H10.out.2.2.2.1 (by decide)); have F4 := blk_frozen b10 4; have D4 := (blk_cell b10 4).trans rfl; simp [SV.cells, hvs] at D4; have H11 := Aside0.mk (And.intro b10 (And.intro hown (And.intro hgr hob))); clear b10 hown hgr hob hbe C4)))
      all_goals
        go_wp2
        have hm := HM.out
        obtain rfl := Option.some.inj hm
        have hgr := H11.out.2.2.1
        have hG10 := H10.out.2.2.2.2
        have hown9 := fun q (hq : (Value.slice Av sets.length cv).ownBlock = some q) => own_base hG10.own q hq
        have hps9 : PS w10 gp gt T C k3 o := H10.out.2.1.grown hgr fun q hq => ⟨by have := hown9 q hq; have := H.out.2.2.2.2.1; omega, fun e => by
          obtain ⟨cur, hb, _⟩ := H10.out.2.1.toks
          exact own_ne hG10.own hb (by decide) (by rw [hq, e]), by have := hown9 q hq; have := H.out.2.2.2.2.1; have := H.out.1.gp2; omega⟩
        have hown8 := H9.out.2.own
        have hka9 : KA k65 w9 (fun k => base ≤ k ∧ some k ≠ (Value.slice Av sets.length cv).ownBlock ∧ ¬ (k = gs)) (aC A3 c3 ⟨s, y⟩) ⟨s, y⟩ :=
          EA.ka65 (x := ⟨s, y⟩) (put7_eq H10.out.1 fun q hq hS => by
            have hS' : w8.heap.size ≤ q := hS
            exact ⟨by omega, fun e => by have := own_lt hown8 q e.symm; omega, fun e => by have := blk_lt H9.out.1; omega⟩)
        have hga := Ga.app hG10 hka9 H11.out.2.1 hgr H11.out.2.2.2 (fun q hq e => by have := blk_lt H10.out.2.2.2.1; omega)
        exact bodyPost_ret (results_0 rfl _ _) rfl ⟨(((H8.out.2.trans H10.out.2.2.1).low H.out.2.2.2.1).grown hgr hown9 hbw9).put HGS.out 4 _, rfl, hps9.put_far N.out.1 N.out.2 H.out.2.2.1 4 _, .slice A1 n1 q1, aC A3 c3 ⟨s, y⟩, blk_put H11.out.1 4 _ (by simp [SV.cells]), hga.put rfl 4 _⟩
end Go.Proofs.YtlpnlfahlcingaaGreatDoor.PL
end
section
namespace Go.Proofs.YtlpnlfahlcingaaGreatDoor.PL
open Go.RowKit Go.Proofs.YtlpnlfahlcingaaGreatDoorW.PrintWords Go.Proofs.YtlpnlfahlcingaaGreatDoorW.PrintLast Go.Proofs.YtlpnlfahlcingaaGreatDoorW.PrintMore
set_option linter.unusedVariables false
set_option linter.unusedSimpArgs false
attribute [local go_sem] World.cell?_alloc_some
attribute [local go_sem ↓] isSome_setCell
def andR {α β : Type} (x : Option (Rd α)) (f : α → Nat → Option (Rd β)) : Option (Rd β) :=
  match x with
  | none => none
  | some (.bad p z) => some (.bad p z)
  | some (.ok a k) => f a k
theorem andR_some {α β : Type} {x : Option (Rd α)} {f : α → Nat → Option (Rd β)} {r : Rd β} (h : andR x f = some r) : ∃ r1, x = some r1 := by
  cases x with
  | none => cases h
  | some r1 => exact ⟨r1, rfl⟩
theorem andR_bad {α β : Type} {f : α → Nat → Option (Rd β)} {p z : Int} {r : Rd β} (h : andR (some (Rd.bad p z)) f = some r) : r = .bad p z := (Option.some.inj h).symm
theorem andR_ok {α β : Type} {f : α → Nat → Option (Rd β)} {a : α} {k : Nat} {r : Rd β} (h : andR (some (Rd.ok a k)) f = some r) : f a k = some r := h
section
variable {w w' : World} {gp gt : Nat} {T : List Tok} {C : Nat} {o : Int} {e : Ending}
theorem PostV.or {α : Type} {val : α → Value} {r : Rd α} (h : PostV val w gp gt T C o r e w') :
    (∃ p x, r = .bad p x ∧ e = .panicked [{ v := failV p x, recovered := false }] ∧ Stay gp w w') ∨ (∃ a k, r = .ok a k ∧ e = .returned (val a) ∧ PS w' gp gt T C k o ∧ Stay gp w w') := by
  cases r with
  | bad p x => exact .inl ⟨p, x, rfl, h.1, h.2⟩
  | ok a k => exact .inr ⟨a, k, rfl, h.1, h.2.1, h.2.2⟩
theorem PostW.or {gs : Nat} {x : SV} {r : Rd (Option S34)} (h : PostW w gp gt T C o gs x r e w') :
    (∃ p z, r = .bad p z ∧ e = .panicked [{ v := failV p z, recovered := false }] ∧ Stay2 gp gs w w') ∨
    (∃ (y : Option S34) (k : Nat) (A : Option Addr) (c : Nat), r = .ok y k ∧ e = .returned (.tuple #[]) ∧ PS w' gp gt T C k o ∧ Stay2 gp gs w w' ∧ ((y = none ∧ w'.heap[gs]? = some (.cells { x with fl := false }.cells 44 (0, 0))) ∨ (∃ y', y = some y' ∧ w'.heap[gs]? = some (.cells { x with fl := true, e := y', A := A, c := c }.cells 44 (0, 0)) ∧ EA w' (fun k => Fr w k ∧ k ≠ gs) (.slice A y'.f3.length c) y'.f3))) := by
  obtain ⟨hs, h⟩ := h
  match r, h with
  | .bad p z, h => exact .inl ⟨p, z, rfl, h, hs⟩
  | .ok none k, h => exact .inr ⟨none, k, none, 0, rfl, h.1, h.2.1, hs, .inl ⟨rfl, h.2.2⟩⟩
  | .ok (some y) k, h =>
    obtain ⟨h1, h2, A, c, h3, h4⟩ := h
    exact .inr ⟨some y, k, A, c, rfl, h1, h2, hs, .inr ⟨y, rfl, h3, h4⟩⟩
theorem PostRow.or {gs base : Nat} {x : SV} {rows : List (List Value × List S34)} {r : Rd (List S34)} (h : PostRow w gp gt T C o gs base x rows r e w') :
    (∃ p z, r = .bad p z ∧ e = .panicked [{ v := failV p z, recovered := false }] ∧ StayB gp base w w') ∨
    (∃ l k v cs, r = .ok l k ∧ e = .returned (.tuple #[]) ∧ PS w' gp gt T C k o ∧ StayB gp base w w' ∧ w'.heap[gs]? = some (.cells { x with vr := v }.cells 44 (0, 0)) ∧ Ga (Kd.slice 34 k34) 32 base (· = gs) w' v (rows ++ [(cs, l)])) := by
  obtain ⟨hs, h⟩ := h
  cases r with
  | bad p z => exact .inl ⟨p, z, rfl, h, hs⟩
  | ok l k =>
    obtain ⟨h1, h2, v, cs, h3, h4⟩ := h
    exact .inr ⟨l, k, v, cs, rfl, h1, h2, hs, h3, h4⟩
theorem PostAs.or {gs base : Nat} {x : SV} {sets : List (List Value × S65)} {r : Rd S65} (h : PostAs w gp gt T C o gs base x sets r e w') :
    (∃ p z, r = .bad p z ∧ e = .panicked [{ v := failV p z, recovered := false }] ∧ StayB gp base w w') ∨
    (∃ l k v cs, r = .ok l k ∧ e = .returned (.tuple #[]) ∧ PS w' gp gt T C k o ∧ StayB gp base w w' ∧ w'.heap[gs]? = some (.cells { x with vs := v }.cells 44 (0, 0)) ∧ Ga k65 65 base (· = gs) w' v (sets ++ [(cs, l)])) := by
  obtain ⟨hs, h⟩ := h
  cases r with
  | bad p z => exact .inl ⟨p, z, rfl, h, hs⟩
  | ok l k =>
    obtain ⟨h1, h2, v, cs, h3, h4⟩ := h
    exact .inr ⟨l, k, v, cs, rfl, h1, h2, hs, h3, h4⟩
end
theorem KA.wide {α : Type} {d : Kd α} {w : World} {S S1 : Nat → Prop} {cs : List Value} {x : α} (h : KA d w S cs x) (hb : ∀ k, k < w.heap.size → S k → S1 k) : KA d w S1 cs x := h.of hb (Nat.le_refl _) fun _ _ _ => rfl
theorem RA.wide {α : Type} {d : Kd α} {w : World} {S S1 : Nat → Prop} {v : Value} {xs : List α} (h : RA d w S v xs) (hb : ∀ k, k < w.heap.size → S k → S1 k) : RA d w S1 v xs := h.of hb (Nat.le_refl _) fun _ _ _ => rfl
def SV.st (x : SV) (it : List S63) (rows : List (List S34)) (sets : List S65) : S44 := ⟨x.kd, x.tb, it, rows, sets, x.fl, x.e, x.od, x.dn, x.lm⟩
theorem SV.ka {w : World} {S : Nat → Prop} {x : SV} {it : List S63} {rows : List (List S34)} {sets : List S65} (h1 : RA k63 w S x.vi it) (h2 : RA (Kd.slice 34 k34) w S x.vr rows) (h3 : RA k65 w S x.vs sets)
    (h4 : EA w S (.slice x.A x.e.f3.length x.c) x.e.f3) : KA k44 w S x.cells.toList (x.st it rows sets) := by
  obtain ⟨kd, tb, vi, vr, vs, fl, e, A, c, od, dn, lm⟩ := x
  obtain ⟨A1, c1, rfl, l1, g1⟩ := h1
  obtain ⟨A2, c2, rfl, l2, g2⟩ := h2
  obtain ⟨A3, c3, rfl, l3, g3⟩ := h3
  obtain ⟨A4, c4, he, l4, g4⟩ := h4
  injection he with e1 e2 e3
  subst e1 e3
  exact fun W2 hW => k44_mk W2 (SV.st ⟨kd, tb, .slice A1 it.length c1, .slice A2 rows.length c2, .slice A3 sets.length c3, fl, e, A, c, od, dn, lm⟩ it rows sets) l1 (g1 W2 hW) l2 (g2 W2 hW) l3 (g3 W2 hW) l4 (g4 W2 hW)
theorem SV.slices {w : World} {S : Nat → Prop} {x : SV} {s : S44} (h : KA k44 w S x.cells.toList s) : (∃ A c, x.vi = .slice A s.f2.length c) ∧ (∃ A c, x.vr = .slice A s.f3.length c) ∧ (∃ A c, x.vs = .slice A s.f4.length c) := by
  obtain ⟨A2, c2, A3, c3, A4, c4, A11, c11, hc, _⟩ := k44_open (h w fun _ _ _ => rfl)
  unfold SV.cells at hc
  simp only [List.cons.injEq] at hc
  exact ⟨⟨A2, c2, hc.2.2.1⟩, ⟨A3, c3, hc.2.2.2.1⟩, ⟨A4, c4, hc.2.2.2.2.1⟩⟩
def PostS (w : World) (gp gt : Nat) (T : List Tok) (C : Nat) (o : Int) (r : Rd S44) (e : Ending) (w' : World) : Prop :=
  match r with
  | .ok s k => ∃ x : SV, e = .returned (.agg x.cells) ∧ KA k44 w' (Fr w) x.cells.toList s ∧ PS w' gp gt T C k o ∧ Stay gp w w'
  | .bad p x => e = .panicked [{ v := failV p x, recovered := false }] ∧ Stay gp w w'
theorem PostS.or {w w' : World} {gp gt : Nat} {T : List Tok} {C : Nat} {o : Int} {r : Rd S44} {e : Ending} (h : PostS w gp gt T C o r e w') :
    (∃ p x, r = .bad p x ∧ e = .panicked [{ v := failV p x, recovered := false }] ∧ Stay gp w w') ∨
    (∃ (x : SV) (s : S44) (k : Nat), r = .ok s k ∧ e = .returned (.agg x.cells) ∧ KA k44 w' (Fr w) x.cells.toList s ∧ PS w' gp gt T C k o ∧ Stay gp w w') := by
  cases r with
  | bad p x => exact .inl ⟨p, x, rfl, h.1, h.2⟩
  | ok s k =>
    obtain ⟨x, he, h1, h2, h3⟩ := h
    exact .inr ⟨x, s, k, rfl, he, h1, h2, h3⟩
theorem take_any {w : World} {gp gt : Nat} {T : List Tok} {C k : Nat} {o : Int} (hE : TE T) (h : PS w gp gt T C k o) (s : ByteArray) :
    Calls Tryz.prog 37 #[.pointer (some ⟨gp, 0, none⟩), .string s] w fun e w' => e = .returned (.bool (isB (tokAt T k) s)) ∧ PS w' gp gt T C (if isB (tokAt T k) s = true then k + 1 else k) o ∧ Stay gp w w' := by
  cases hb : isB (tokAt T k) s with
  | true =>
    refine (take_yes h s hb (hE k h.at_ (by have := isB_kind hb; omega))).mono ?_
    rintro e w' ⟨rfl, h1, h2⟩
    exact ⟨rfl, h1, h2⟩
  | false =>
    refine (take_no h s hb).mono ?_
    rintro e w' ⟨rfl, rfl⟩
    exact ⟨rfl, h, Stay.refl _ _⟩
section
variable {g base : Nat} {a b c : World}
theorem StayB.stay (h : StayB g base a b) (k : Stay g b c) (hb : base ≤ a.heap.size) : StayB g base a c := h.trans (k.low (Nat.le_trans hb h.size))
theorem StayB.step (h : StayB g base a b) (k : Below b.heap.size b c) (hb : base ≤ a.heap.size) : StayB g base a c := h.stay (Below.stay k g) hb
theorem StayB.stay2 {s : Nat} (h : StayB g base a b) (k : Stay2 g s b c) (hb : base ≤ a.heap.size) (hs : base ≤ s) : StayB g base a c :=
  ⟨k.os.trans h.os, k.tape.trans h.tape, k.output.trans h.output, Nat.le_trans h.size k.size, fun i hi h1 => (k.block i (by have := h.size; omega) h1 (by omega)).trans (h.block i hi h1)⟩
theorem StayB.refl (g base : Nat) (w : World) : StayB g base w w := ⟨rfl, rfl, rfl, Nat.le_refl _, fun _ _ _ => rfl⟩
theorem StayB.whole {w : World} (h : StayB g base a b) (h0 : Stay g w a) (hb : w.heap.size ≤ base) : Stay g w b :=
  ⟨h.os.trans h0.os, h.tape.trans h0.tape, h.output.trans h0.output, Nat.le_trans h0.size h.size, fun k hk hg => (h.block k (by omega) hg).trans (h0.block k hk hg)⟩
theorem StayB.cells {x : Nat} {o : Obj} (h : StayB g base a b) (hb : a.heap[x]? = some o) (h1 : x < base) (h2 : x ≠ g) : b.heap[x]? = some o := (h.block x h1 h2).trans hb
end
end Go.Proofs.YtlpnlfahlcingaaGreatDoor.PL
end
section
namespace Go.Proofs.YtlpnlfahlcingaaGreatDoor.PL
open Go.RowKit Go.Proofs.YtlpnlfahlcingaaGreatDoorW.PrintWords Go.Proofs.YtlpnlfahlcingaaGreatDoorW.PrintLast Go.Proofs.YtlpnlfahlcingaaGreatDoorW.PrintMore
set_option linter.unusedVariables false
set_option linter.unusedSimpArgs false
attribute [local go_sem] World.cell?_alloc_some
attribute [local go_sem ↓] isSome_setCell
def cntL : List ByteArray := [(⟨#[67, 79, 85, 78, 84]⟩ : ByteArray), (⟨#[83, 85, 77]⟩ : ByteArray)]
def itemsL (T : List Tok) (n : Nat) (o : Int) : Nat → List S63 → Nat → Option (Rd (List S63))
  | 0, _, _ => none
  | m + 1, l, k =>
    if isB (tokAt T k) (⟨#[44]⟩ : ByteArray) = true then
      if (leadsB T (k + 1) || beginsB T (k + 1) cntL) = true ∧ l.length = 6 then some (.bad (tokAt T (k + 1)).f1 3)
      else andR (itemR T n (k + 1) o) fun e k1 => itemsL T n o m (l ++ [e]) k1
    else some (.ok l k)
def itemsR (T : List Tok) (n m k : Nat) (o : Int) : Option (Rd (List S63)) :=
  if isB (tokAt T k) (⟨#[42]⟩ : ByteArray) = true then some (.ok [⟨1, z34⟩] (k + 1))
  else andR (itemR T n k o) fun e k1 => itemsL T n o m [e] k1
def ascR (T : List Tok) (s : ByteArray) (k : Nat) : Rd (ByteArray × Bool) :=
  if isB (tokAt T k) (⟨#[68, 69, 83, 67]⟩ : ByteArray) = true then .ok (s, true) (k + 1)
  else if isB (tokAt T k) (⟨#[65, 83, 67]⟩ : ByteArray) = true then .ok (s, false) (k + 1) else .ok (s, false) k
def orderR (T : List Tok) (k : Nat) : Option (Rd (ByteArray × Bool)) :=
  if isB (tokAt T k) (⟨#[79, 82, 68, 69, 82]⟩ : ByteArray) = true then
    andR (some (mustR T [(⟨#[66, 89]⟩ : ByteArray)] (k + 1))) fun _ k1 => andR (some (nameR T k1)) fun s k2 => some (ascR T s k2)
  else some (.ok (⟨#[]⟩, false) k)
def limitR (T : List Tok) (k : Nat) : Rd Int := if isB (tokAt T k) (⟨#[76, 73, 77, 73, 84]⟩ : ByteArray) = true then intR T (k + 1) else .ok (-1) k
def selC (T : List Tok) (it : List S63) (tb : ByteArray) (wh : Option S34) (od : ByteArray × Bool) (k : Nat) : Option (Rd S44) :=
  andR (some (limitR T k)) fun lm k6 => some (.ok ⟨1, tb, it, [], [], wh.isSome, wh.getD z34, od.1, od.2, lm⟩ k6)
def selB (T : List Tok) (it : List S63) (tb : ByteArray) (wh : Option S34) (k : Nat) : Option (Rd S44) :=
  andR (orderR T k) fun od k5 => selC T it tb wh od k5
def selA (T : List Tok) (n : Nat) (o : Int) (it : List S63) (k : Nat) : Option (Rd S44) :=
  andR (some (mustR T [(⟨#[70, 82, 79, 77]⟩ : ByteArray)] k)) fun _ k2 => andR (some (nameR T k2)) fun tb k3 => andR (whereR T n k3 o) fun wh k4 => selB T it tb wh k4
def chooseR (T : List Tok) (n m k : Nat) (o : Int) : Option (Rd S44) := andR (itemsR T n m k o) fun it k1 => selA T n o it k1
def zs15 : Array Value := #[.int .i64 0, .string ⟨#[]⟩, .slice none 0 0, .slice none 0 0, .slice none 0 0, .bool false, .int .i64 0, .string ⟨#[]⟩, .int .i64 0, .int .i64 0, .string ⟨#[]⟩, .slice none 0 0, .string ⟨#[]⟩, .bool false, .int .i64 0]
def sel0 : SV := ⟨1, ⟨#[]⟩, .slice none 0 0, .slice none 0 0, .slice none 0 0, false, z34, none, 0, ⟨#[]⟩, false, -1⟩
theorem EA.ka63 {w : World} {S : Nat → Prop} {A : Option Addr} {c : Nat} {x : S63} (h : EA w S (.slice A x.f1.f3.length c) x.f1.f3) : KA k63 w S (iC A c x).toList x := by
  obtain ⟨A', c', he, hc, hC⟩ := h
  injection he with h1 h2 h3
  subst h1 h3
  exact fun W2 hW => k63_mk W2 x hc (hC W2 hW)
theorem PostI.or' {w w' : World} {gp gt : Nat} {T : List Tok} {C : Nat} {o : Int} {r : Rd S63} {e : Ending} (h : PostI w gp gt T C o r e w') :
    (∃ p x, r = .bad p x ∧ e = .panicked [{ v := failV p x, recovered := false }] ∧ Stay gp w w') ∨
    (∃ A c y k, r = .ok y k ∧ e = .returned (.agg #[.int .i64 y.f0, .int .i64 y.f1.f0, .string y.f1.f1, .int .i64 y.f1.f2.f0, .int .i64 y.f1.f2.f1, .string y.f1.f2.f2, .slice A y.f1.f3.length c]) ∧ EA w' (Fr w) (.slice A y.f1.f3.length c) y.f1.f3 ∧ PS w' gp gt T C k o ∧ Stay gp w w') := PostI.or h
theorem Ga.one {α : Type} {d : Kd α} {e base : Nat} {X : Nat → Prop} {w : World} {cs : List Value} {x : α} (hb : base ≤ w.heap.size) (hsz : cs.length = d.sz) (hX : ∀ k, w.heap.size ≤ k → ¬ X k) (h : KA d w (fun k => base ≤ k ∧ ¬ X k) cs x) :
    Ga d e base X (w.alloc (.cells cs.toArray e (0, 0))) (.slice (some ⟨w.heap.size, 0, none⟩) 1 1) [(cs, x)] := by
  refine ⟨?_, fun k hk => ?_, fun p hp => ?_⟩
  · have := World.ownsRow_lit (base := base) (size := d.sz) w cs.toArray 1 (e := e) hb (by simp [maxLen]) (by simp [hsz])
    simpa using this
  · simp [Value.ownBlock] at hk
    exact hX k (by omega)
  · simp at hp
    subst hp
    exact h.of (fun k hk hS => ⟨hS.1, by simp [Value.ownBlock]; omega, hS.2⟩) (by simp) fun k _ hk => Below.heap_alloc w _ k hk
structure SelI (w1 : World) (gp gt : Nat) (T : List Tok) (C : Nat) (o : Int) (gs : Nat) (x : SV) (it : List S63) (k : Nat) (wc : World) : Prop where
  ps : PS wc gp gt T C k o
  st : StayB gp gs w1 wc
  bs : wc.heap[gs]? = some (.cells x.cells 44 (0, 0))
  it : RA k63 wc (fun q => gs ≤ q ∧ q ≠ gs) x.vi it
  ea : EA wc (fun q => gs ≤ q ∧ q ≠ gs) (.slice x.A x.e.f3.length x.c) x.e.f3
section
variable {w1 wc w2 : World} {gp gt : Nat} {T : List Tok} {C : Nat} {o : Int} {gs : Nat} {x y : SV} {it : List S63} {k k2 : Nat}
theorem SelI.stay (h : SelI w1 gp gt T C o gs x it k wc) (hs : Stay gp wc w2) (hp : PS w2 gp gt T C k2 o) (hg : gp < gs) (hl : gs ≤ w1.heap.size) : SelI w1 gp gt T C o gs x it k2 w2 :=
  ⟨hp, h.st.stay hs hl, hs.cells h.bs (by omega), h.it.of (fun _ _ h => h) hs.size fun q hq h1 => hs.block q h1 (by have := hq.1; omega), h.ea.of (fun _ _ h => h) hs.size fun q hq h1 => hs.block q h1 (by have := hq.1; omega)⟩
theorem SelI.put (h : SelI w1 gp gt T C o gs x it k wc) (hg : gp < gs) (ht : gt < gs) (i : Nat) (u : Value) (hc : x.cells.setIfInBounds i u = y.cells) (h1 : y.vi = x.vi) (h2 : y.e = x.e) (h3 : y.A = x.A) (h4 : y.c = x.c) : SelI w1 gp gt T C o gs y it k (wc.setCell ⟨gs, i, none⟩ u) :=
  ⟨h.ps.put_far (by omega) (by omega) (by have := h.ps.gp2; omega) i u, h.st.put (Nat.le_refl _) i u, blk_put h.bs i u hc,
    by rw [h1]; exact h.it.of (fun _ _ h => h) (by simp [World.setCell]) fun q hq _ => Below.heap_setCell wc ⟨gs, i, none⟩ u q hq.2,
    by rw [h2, h3, h4]; exact h.ea.of (fun _ _ h => h) (by simp [World.setCell]) fun q hq _ => Below.heap_setCell wc ⟨gs, i, none⟩ u q hq.2⟩
end
theorem SelI.where {w1 w7 w8 : World} {gp gt : Nat} {T : List Tok} {C : Nat} {o : Int} {gs : Nat} {kd : Int} {tb od : ByteArray} {v : Value} {dn : Bool} {lm : Int} {it : List S63} {k k2 : Nat} {y : Option S34} {A8 : Option Addr} {c8 : Nat}
    (h : SelI w1 gp gt T C o gs ⟨kd, tb, v, .slice none 0 0, .slice none 0 0, false, z34, none, 0, od, dn, lm⟩ it k w7) (hps : PS w8 gp gt T C k2 o) (hst : Stay2 gp gs w7 w8) (hg : gp < gs) (hl : gs ≤ w1.heap.size)
    (hbx : (y = none ∧ w8.heap[gs]? = some (.cells (SV.cells ⟨kd, tb, v, .slice none 0 0, .slice none 0 0, false, z34, none, 0, od, dn, lm⟩) 44 (0, 0))) ∨ (∃ y', y = some y' ∧ w8.heap[gs]? = some (.cells (SV.cells ⟨kd, tb, v, .slice none 0 0, .slice none 0 0, true, y', A8, c8, od, dn, lm⟩) 44 (0, 0)) ∧ EA w8 (fun k => Fr w7 k ∧ k ≠ gs) (.slice A8 y'.f3.length c8) y'.f3)) :
    ∃ A c, SelI w1 gp gt T C o gs ⟨kd, tb, v, .slice none 0 0, .slice none 0 0, y.isSome, y.getD z34, A, c, od, dn, lm⟩ it k2 w8 := by
  have hlt := blk_lt h.bs
  have hst1 := h.st.stay2 hst hl (Nat.le_refl _)
  have hit : RA k63 w8 (fun q => gs ≤ q ∧ q ≠ gs) v it := h.it.of (fun _ _ h => h) hst.size fun q hq h1 => hst.block q h1 (by have := hq.1; omega) hq.2
  rcases hbx with ⟨rfl, hb⟩ | ⟨y', rfl, hb, hea⟩
  · exact ⟨none, 0, hps, hst1, hb, hit, EA.nil _ _⟩
  · exact ⟨A8, c8, hps, hst1, hb, hit, hea.of (fun q hq h => ⟨by have := h.1; unfold Fr at this; omega, h.2⟩) (Nat.le_refl _) fun _ _ _ => rfl⟩
set_option maxHeartbeats 16000000 in
set_option maxRecDepth 100000 in
theorem choose_calls {w : World} {gp gt : Nat} {T : List Tok} {C k : Nat} {o : Int} (hE : TE T) (hW : TW T) (h : PS w gp gt T C k o) (ho : o ≤ 200) (n m : Nat) (hm6 : m ≤ 900000) (r : Rd S44) (hr : chooseR T n m k o = some r) :
    Calls Tryz.prog 83 #[.pointer (some ⟨gp, 0, none⟩)] w (PostS w gp gt T C o r) := by
  have HI := Aside0.mk (fun (w1 : World) (k1 : Nat) (r1 : Rd S63) (h1 : PS w1 gp gt T C k1 o) (h2 : itemR T n k1 o = some r1) => item_calls hE hW h1 ho n r1 h2)
  have HWh := Aside0.mk (fun (w1 : World) (k1 gs : Nat) (x : SV) (r1 : Rd (Option S34)) (h1 : PS w1 gp gt T C k1 o) (hx : w1.heap[gs]? = some (.cells x.cells 44 (0, 0))) (h2 : 2 ≤ gs) (h3 : whereR T n k1 o = some r1) => where_calls hE hW h1 ho hx h2 n r1 h3)
  have HE := Aside0.mk (And.intro hE hW)
  have H := Aside0.mk h
  have HM6 := Aside0.mk hm6
  have HM := Aside0.mk hr
  clear hE hW h ho hm6 hr
  go_enter Tryz.func83, Tryz.ntmps83
  go_upto_region 1 with (fail)
  obtain ⟨g2, hg2⟩ : ∃ g, w.heap.size = g := ⟨_, rfl⟩
  have B2 := Aside0.mk (fun O : Obj => hg2 ▸ blk_new w O)
  rw [hg2]
  have N2 := Aside0.mk (show g2 ≠ gp ∧ g2 ≠ gt ∧ w.heap.size ≤ g2 ∧ 2 ≤ g2 ∧ gp < g2 ∧ gt < g2 by have := H.out.gt_lt; have := blk_lt H.out.box; have := H.out.gp2; omega)
  clear hg2
  refine at_world (fun w1 => Aside0 (PS w1 gp gt T C k o ∧ Stay gp w w1 ∧ w1.heap[g2]? = some (.cells zs15 44 (0, 0)))) ⟨H.out.step (below_alloc (Below.refl _ _) _), (Stay.refl gp w).step (below_alloc (Below.refl _ _) _), B2.out _⟩ (fun w1 H1 => ?_)
  go_upto_region 2 with (fail)
  obtain ⟨gs, hgs⟩ : ∃ g, w1.heap.size = g := ⟨_, rfl⟩
  have B3 := Aside0.mk (fun O : Obj => hgs ▸ blk_new w1 O)
  have N3 := Aside0.mk (show gp < gs ∧ gt < gs ∧ g2 < gs ∧ w.heap.size ≤ gs ∧ 2 ≤ gs ∧ gs ≤ w1.heap.size by have := blk_lt H1.out.2.2; have := N2.out; omega)
  rw [hgs]
  clear hgs
  refine at_world (fun w2 => Aside0 (PS w2 gp gt T C k o ∧ StayB gp gs w1 w2 ∧ w2.heap[gs]? = some (.cells sel0.cells 44 (0, 0)))) ⟨H1.out.1.step (below_alloc (Below.refl _ _) _), (StayB.refl gp gs w1).step (below_alloc (Below.refl _ _) _) N3.out.2.2.2.2.2, B3.out _⟩ (fun w2 H2 => ?_)
  obtain ⟨b, hb⟩ : ∃ b, isB (tokAt T k) (⟨#[42]⟩ : ByteArray) = b := ⟨_, rfl⟩
  have HB := Aside0.mk hb
  clear hb
  go_upto_if 6 with (go_at_call 37; refine (take_any HE.out.1 H2.out.1 _).mono ?_; rw [HB.out]; rintro e w3 ⟨rfl, hps, hst⟩; have H3 := Aside0.mk (And.intro hps (And.intro (H2.out.2.1.stay hst N3.out.2.2.2.2.2) (hst.cells H2.out.2.2 (Nat.ne_of_gt N3.out.1)))); clear hps hst)
  go_cut [3] (fun v3 wc => v3 = .pointer (some ⟨gs, 0, none⟩) ∧ ∃ (l : List (List Value × S63)) (kk : Nat) (v : Value), Aside0 (PS wc gp gt T C kk o ∧ StayB gp gs w1 wc ∧ wc.heap[gs]? = some (.cells { sel0 with vi := v }.cells 44 (0, 0)) ∧ Ga k63 63 gs (· = gs) wc v l ∧ l.length ≤ 1000000 ∧ selA T n o (l.map (·.2)) kk = some r))
  case first =>
    have C2 := (blk_cell H3.out.2.2 2).trans rfl
    have F2 := blk_frozen H3.out.2.2 2
    have L3 := blk_lt H3.out.2.2
    simp [sel0, SV.cells] at C2
    cases b with
    | true =>
      have hm := HM.out
      unfold chooseR itemsR at hm
      rw [if_pos HB.out] at hm
      have HM := Aside0.mk (andR_ok hm)
      clear hm
      go_wp2
      go_meet
      case rel =>
        have hle : gs ≤ w3.heap.size := Nat.le_trans N3.out.2.2.2.2.2 H3.out.2.1.size
        refine ⟨rfl, [((iC none 0 ⟨1, z34⟩).toList, ⟨1, z34⟩)], k + 1, .slice (some ⟨w3.heap.size, 0, none⟩) 1 1, ⟨?_⟩⟩
        rw [← World.setCell_alloc_past _ _ _ _ L3]
        refine ⟨(H3.out.1.step (below_alloc (Below.refl _ _) _)).put_far (by have := N3.out; omega) (by have := N3.out; omega) N3.out.2.2.2.2.1 2 _, (H3.out.2.1.step (below_alloc (Below.refl _ _) _) N3.out.2.2.2.2.2).put (Nat.le_refl _) 2 _, blk_put (blk_alloc H3.out.2.2 _) 2 _ (by simp [SV.cells, sel0]), ?_, by simp, HM.out⟩
        exact (Ga.one (w := w3) (base := gs) (X := (· = gs)) (d := k63) (e := 63) (cs := (iC none 0 ⟨1, z34⟩).toList) (x := ⟨1, z34⟩) hle rfl (fun q hq e => by have := blk_lt H3.out.2.2; omega) (EA.ka63 (x := ⟨1, z34⟩) (EA.nil _ _))).put rfl 2 _
    | false =>
      have hm := HM.out
      unfold chooseR itemsR at hm
      rw [if_neg (by rw [HB.out]; simp)] at hm
      obtain ⟨r1, hq1⟩ := andR_some hm
      obtain ⟨r0, hq0⟩ := andR_some hq1
      rw [hq0] at hm
      have HM := Aside0.mk hm
      have HQ0 := Aside0.mk hq0
      clear hm hq0 hq1
      go_wp2_with (go_at_call 111; refine (HI.out w3 _ _ H3.out.1 HQ0.out).mono ?_; intro e w4 hp; rcases PostI.or' hp with ⟨p, z, hr1, rfl, hs⟩ | ⟨A4, c4, y, k4, hr1, rfl, hea, hps, hst⟩; (subst hr1; obtain rfl := Option.some.inj (show some (Rd.bad p z) = some r from HM.out); exact ⟨rfl, rfl, (H3.out.2.1.stay hs N3.out.2.2.2.2.2).whole H1.out.2.1 N3.out.2.2.2.1⟩); subst hr1; have b4 := hst.cells H3.out.2.2 (Nat.ne_of_gt N3.out.1); have H4 := Aside0.mk (And.intro hea (And.intro hps (And.intro (H3.out.2.1.stay hst N3.out.2.2.2.2.2) b4))); have D2 := (blk_cell b4 2).trans rfl; have E2 := blk_frozen b4 2; have L4 := blk_lt b4; simp [sel0, SV.cells] at D2; have hle : gs ≤ w3.heap.size := Nat.le_trans N3.out.2.2.2.2.2 H3.out.2.1.size; have hle4 : gs ≤ w4.heap.size := Nat.le_trans hle hst.size; clear hea hps hst b4 hp)
      rw [← World.setCell_alloc_past _ _ _ _ L4]
      refine at_world (fun w5 => Aside0 (PS w5 gp gt T C k4 o ∧ StayB gp gs w1 w5 ∧ w5.heap[gs]? = some (.cells { sel0 with vi := .slice (some ⟨w4.heap.size, 0, none⟩) 1 1 }.cells 44 (0, 0)) ∧ Ga k63 63 gs (· = gs) w5 (.slice (some ⟨w4.heap.size, 0, none⟩) 1 1) [((iC A4 c4 y).toList, y)]))
        ⟨(H4.out.2.1.step (below_alloc (Below.refl _ _) _)).put_far (by have := N3.out; omega) (by have := N3.out; omega) N3.out.2.2.2.2.1 2 _, (H4.out.2.2.1.step (below_alloc (Below.refl _ _) _) N3.out.2.2.2.2.2).put (Nat.le_refl _) 2 _, blk_put (blk_alloc H4.out.2.2.2 _) 2 _ (by simp [SV.cells, sel0]),
          (Ga.one (w := w4) (base := gs) (X := (· = gs)) (d := k63) (e := 63) (cs := (iC A4 c4 y).toList) (x := y) hle4 rfl (fun q hq e => by have := blk_lt H4.out.2.2.2; omega) (EA.ka63 (put7_eq H4.out.1 fun q hq h => ⟨Nat.le_trans hle h, fun e => by have := blk_lt H3.out.2.2; unfold Fr at h; omega⟩))).put rfl 2 _⟩ (fun w5 H5 => ?_)
      obtain ⟨v0, hv0⟩ : ∃ v, Value.slice (some ⟨w4.heap.size, 0, none⟩) 1 1 = v := ⟨_, rfl⟩
      rw [hv0] at H5
      clear C2 F2 D2 E2 L3 L4 H4 hv0 hle hle4
      have HM2 : Aside0 (andR (itemsL T n o m [y] k4) (fun it k1 => selA T n o it k1) = some r) := ⟨HM.out⟩
      go_loopg [15] m (fun kq v15 w' => ∃ (l : List (List Value × S63)) (kk : Nat) (v : Value), Aside0 (PS w' gp gt T C kk o ∧ StayB gp gs w1 w' ∧ w'.heap[gs]? = some (.cells { sel0 with vi := v }.cells 44 (0, 0)) ∧ Ga k63 63 gs (· = gs) w' v l ∧ l.length + kq ≤ m + 1 ∧ andR (itemsL T n o kq (l.map (·.2)) kk) (fun it k1 => selA T n o it k1) = some r))
      case atStart => exact ⟨[((iC A4 c4 y).toList, y)], k4, v0, ⟨H5.out.1, H5.out.2.1, H5.out.2.2.1, H5.out.2.2.2, by simp; omega, HM2.out⟩⟩
      case round =>
      obtain ⟨l, kk, v, HJ⟩ := hrel
      clear H5 HM2 H3 HB H2
      have hr := HJ.out.2.2.2.2.2
      have hln := HJ.out.2.2.2.2.1
      cases gk with
      | zero => obtain ⟨_, h⟩ := andR_some hr; cases h
      | succ kq =>
      obtain ⟨Av, cv, rfl⟩ := own_slice' HJ.out.2.2.2.1.own
      have C2 := (blk_cell HJ.out.2.2.1 2).trans rfl
      simp [sel0, SV.cells] at C2
      unfold itemsL at hr
      by_cases hc : isB (tokAt T kk) (⟨#[44]⟩ : ByteArray) = true
      · rw [if_pos hc] at hr
        have HC := Aside0.mk (And.intro hc (HE.out.1 kk HJ.out.1.at_ (by have := isB_kind hc; omega)))
        have HM := Aside0.mk hr
        clear hc hr
        go_upto_region 6 with (go_at_call 37; refine (take_yes HJ.out.1 _ HC.out.1 HC.out.2).mono ?_; rintro e w6 ⟨rfl, hps, hst⟩; have H6 := Aside0.mk (And.intro hps (And.intro (HJ.out.2.1.stay hst N3.out.2.2.2.2.2) (And.intro (hst.cells HJ.out.2.2.1 (Nat.ne_of_gt N3.out.1)) (HJ.out.2.2.2.1.stay hst N3.out.1)))); clear hps hst)
        obtain ⟨bl, hbl⟩ : ∃ b, leadsB T (kk + 1) = b := ⟨_, rfl⟩
        obtain ⟨bg, hbg⟩ : ∃ b, beginsB T (kk + 1) cntL = b := ⟨_, rfl⟩
        have hm := HM.out
        rw [hbl, hbg, List.length_map] at hm
        have HM := Aside0.mk hm
        have HL := Aside0.mk hbl
        have HG := Aside0.mk hbg
        clear hm hbl hbg C2
        have C2 := (blk_cell H6.out.2.2.1 2).trans rfl
        simp [sel0, SV.cells] at C2
        obtain ⟨b6, hb6⟩ : ∃ b, ((l.length : Int) == 6) = b := ⟨_, rfl⟩
        go_cut [28] (fun v28 wc => v28 = .bool ((bl || bg) && b6) ∧ Aside0 (PS wc gp gt T C (kk + 1) o ∧ StayB gp gs w1 wc ∧ wc.heap[gs]? = some (.cells { sel0 with vi := .slice Av l.length cv }.cells 44 (0, 0)) ∧ Ga k63 63 gs (· = gs) wc (.slice Av l.length cv) l))
        case first =>
          cases bl with
          | true =>
            go_wp2_with (go_at_call 112; refine (leads_calls HE.out.2 H6.out.1).mono ?_; rw [HL.out]; rintro e w7 ⟨rfl, hb⟩; have H7 := Aside0.mk (And.intro (H6.out.1.step hb) (And.intro (H6.out.2.1.step hb N3.out.2.2.2.2.2) (And.intro (blk_below H6.out.2.2.1 hb) (H6.out.2.2.2.below hb)))); have D2 := (blk_cell (blk_below H6.out.2.2.1 hb) 2).trans rfl; simp [sel0, SV.cells] at D2; clear hb)
            go_meet
            case rel => exact ⟨by simp [hb6], ⟨H7.out.1, H7.out.2.1, H7.out.2.2.1, H7.out.2.2.2⟩⟩
          | false =>
            cases bg with
            | true =>
              go_wp2_with (first | (go_at_call 112; refine (leads_calls HE.out.2 H6.out.1).mono ?_; rw [HL.out]; rintro e w7 ⟨rfl, hb⟩; have H7 := Aside0.mk (And.intro (H6.out.1.step hb) (And.intro (H6.out.2.1.step hb N3.out.2.2.2.2.2) (And.intro (blk_below H6.out.2.2.1 hb) (H6.out.2.2.2.below hb)))); have D2 := (blk_cell (blk_below H6.out.2.2.1 hb) 2).trans rfl; simp [sel0, SV.cells] at D2; clear hb) | (go_at_call 38; refine (begins_calls ((H7.out.1).step (below_alloc (Below.refl _ _) _)) cntL w7.heap.size (strs_of (blk_new _ _)) (by decide)).mono ?_; rw [HG.out]; rintro e w8 ⟨rfl, he⟩; replace he := he.symm; subst he))
              go_meet
              case rel => exact ⟨by simp [hb6], ⟨H7.out.1.step (below_alloc (Below.refl _ _) _), H7.out.2.1.step (below_alloc (Below.refl _ _) _) N3.out.2.2.2.2.2, blk_alloc H7.out.2.2.1 _, H7.out.2.2.2.below (below_alloc (Below.refl _ _) _)⟩⟩
            | false =>
              go_wp2_with (first | (go_at_call 112; refine (leads_calls HE.out.2 H6.out.1).mono ?_; rw [HL.out]; rintro e w7 ⟨rfl, hb⟩; have H7 := Aside0.mk (And.intro (H6.out.1.step hb) (And.intro (H6.out.2.1.step hb N3.out.2.2.2.2.2) (And.intro (blk_below H6.out.2.2.1 hb) (H6.out.2.2.2.below hb)))); have D2 := (blk_cell (blk_below H6.out.2.2.1 hb) 2).trans rfl; simp [sel0, SV.cells] at D2; clear hb) | (go_at_call 38; refine (begins_calls ((H7.out.1).step (below_alloc (Below.refl _ _) _)) cntL w7.heap.size (strs_of (blk_new _ _)) (by decide)).mono ?_; rw [HG.out]; rintro e w8 ⟨rfl, he⟩; replace he := he.symm; subst he))
              go_meet
              case rel => exact ⟨by simp, ⟨H7.out.1.step (below_alloc (Below.refl _ _) _), H7.out.2.1.step (below_alloc (Below.refl _ _) _) N3.out.2.2.2.2.2, blk_alloc H7.out.2.2.1 _, H7.out.2.2.2.below (below_alloc (Below.refl _ _) _)⟩⟩
        case rest =>
        obtain ⟨rfl, H7⟩ := hcut
        clear H6 HJ C2
        have hm := HM.out
        by_cases hl6 : (bl || bg) = true ∧ l.length = 6
        · rw [if_pos hl6] at hm
          obtain rfl := andR_bad hm
          have e6 : b6 = true := by rw [← hb6, hl6.2]; rfl
          have e7 : ((bl || bg) && b6) = true := by rw [hl6.1, e6]; rfl
          rw [e7]
          clear hm hl6 hb6 e6 e7
          go_wp2_with (go_at_call 39; refine (wrong_calls H7.out.1 3).mono ?_; rintro e w8 ⟨rfl, rfl⟩; exact ⟨rfl, rfl, H7.out.2.1.whole H1.out.2.1 N3.out.2.2.2.1⟩)
        · rw [if_neg hl6] at hm
          have e7 : ((bl || bg) && b6) = false := by
            cases hx : (bl || bg) with
            | false => rfl
            | true =>
              have : ¬ l.length = 6 := fun h => hl6 ⟨hx, h⟩
              rw [← hb6]
              simp
              omega
          rw [e7]
          clear hl6 hb6 e7
          obtain ⟨r1, hq1⟩ := andR_some hm
          obtain ⟨r0, hq0⟩ := andR_some hq1
          rw [hq0] at hm
          have HM := Aside0.mk hm
          have HQ0 := Aside0.mk hq0
          clear hm hq0 hq1
          go_upto_region 8 with (fail)
          have C2 := (blk_cell H7.out.2.2.1 2).trans rfl
          simp [sel0, SV.cells] at C2
          have L7 := blk_lt H7.out.2.2.1
          have hlw : gs ≤ wc.heap.size := Nat.le_of_lt L7
          go_region_law (first | (go_simp; go_at_call 111; refine (HI.out _ _ _ (H7.out.1.step (below_drew (Below.refl _ _))) HQ0.out).mono ?_; intro e w9 hp; rcases PostI.or' hp with ⟨p, z, hr1, rfl, hs⟩ | ⟨A3, c3, y, k3, hr1, rfl, hea, hps, hst⟩; (subst hr1; obtain rfl := Option.some.inj (show some (Rd.bad p z) = some r from HM.out); exact ⟨rfl, rfl, ((H7.out.2.1.step (below_drew (Below.refl _ _)) N3.out.2.2.2.2.2).stay hs N3.out.2.2.2.2.2).whole H1.out.2.1 N3.out.2.2.2.1⟩); subst hr1; have b9 := hst.cells (blk_drew H7.out.2.2.1) (Nat.ne_of_gt N3.out.1); have C4 := (blk_cell b9 2).trans rfl; simp [SV.cells, sel0] at C4; have hst2 := (Below.stay (below_drew (Below.refl _ wc)) gp).trans hst; have H10 := Aside0.mk (And.intro hea (And.intro hps (And.intro hst2 (And.intro b9 (H7.out.2.2.2.stay hst2 N3.out.1))))); have hbw9 : gs ≤ w9.heap.size := Nat.le_trans hlw hst2.size; clear hea hps hst hst2 b9 hp) | ((refine step_append_cells (w0 := w9) (W := w9) gs (by rfl) (.tmp 32) (.tmp 35) 40 63 (.agg #[.int .i64 0, .int .i64 0, .string ⟨#[]⟩, .int .i64 0, .int .i64 0, .string ⟨#[]⟩, .slice none 0 0]) 7 88 (by rfl) Tryz.underlying40 (by kernel_rfl) (by rfl) (by omega) (by omega) (.slice Av l.length cv) l.length _ (iC A3 c3 y).toList (by rfl) (by rfl) (by rfl) (by simp [iC, Value.oneCell']) H10.out.2.2.2.2.own (Below.refl _ _) hbw9 (by have := HM6.out; omega) ?_; intro v1 w10 hown hbe hgr hob; obtain ⟨A1, n1, q1, rfl⟩ := own_slice hown; have b10 := blk_grown H10.out.2.2.2.1 hgr (own_ne H10.out.2.2.2.2.own H10.out.2.2.2.1 (by decide)); have F4 := blk_frozen b10 2; have D4 := (blk_cell b10 2).trans rfl; simp [SV.cells, sel0] at D4; have H11 := Aside0.mk (And.intro b10 (And.intro hown (And.intro hgr hob))); clear b10 hown hgr hob hbe C4)))
          all_goals
            go_wp2
            have hgr := H11.out.2.2.1
            have hG10 := H10.out.2.2.2.2
            have hown9 := fun q (hq : (Value.slice Av l.length cv).ownBlock = some q) => own_base hG10.own q hq
            have hps9 : PS w10 gp gt T C k3 o := H10.out.2.1.grown hgr fun q hq => ⟨by have := hown9 q hq; have := N3.out.1; omega, fun e => by
              obtain ⟨cur, hb, _⟩ := H10.out.2.1.toks
              exact own_ne hG10.own hb (by decide) (by rw [hq, e]), by have := hown9 q hq; have := N3.out; omega⟩
            have hown8 := H7.out.2.2.2.own
            have hka9 : KA k63 w9 (fun k => gs ≤ k ∧ some k ≠ (Value.slice Av l.length cv).ownBlock ∧ ¬ (k = gs)) (iC A3 c3 y).toList y :=
              EA.ka63 (put7_eq H10.out.1 fun q hq hS => by
                have hS' : wc.heap.size ≤ q := hS
                exact ⟨by omega, fun e => by have := own_lt hown8 q e.symm; omega, fun e => by omega⟩)
            have hga := Ga.app hG10 hka9 H11.out.2.1 hgr H11.out.2.2.2 (fun q hq e => by have := blk_lt H10.out.2.2.2.1; omega)
            go_roundg kq
            case measure => omega
            case rel => exact ⟨_, k3, .slice A1 n1 q1, ⟨hps9.put_far (by have := N3.out; omega) (by have := N3.out; omega) N3.out.2.2.2.2.1 2 _, ((H7.out.2.1.stay H10.out.2.2.1 N3.out.2.2.2.2.2).grown hgr hown9 hbw9).put (Nat.le_refl _) 2 _, blk_put H11.out.1 2 _ (by simp [SV.cells, sel0]), hga.put rfl 2 _, by simp; omega, by rw [List.map_append]; exact HM.out⟩⟩
      · rw [if_neg hc] at hr
        have hc' : isB (tokAt T kk) (⟨#[44]⟩ : ByteArray) = false := by simpa using hc
        have HC := Aside0.mk hc'
        have HM := Aside0.mk (andR_ok hr)
        clear hc hc' hr
        go_wp2_with (go_at_call 37; refine (take_no HJ.out.1 _ HC.out).mono ?_; rintro e w6 ⟨rfl, he⟩; replace he := he.symm; subst he)
        go_meet
        case rel => exact ⟨rfl, l, kk, .slice Av l.length cv, ⟨HJ.out.1, HJ.out.2.1, HJ.out.2.2.1, HJ.out.2.2.2.1, by have := HM6.out; omega, HM.out⟩⟩
  case rest =>
  obtain ⟨rfl, l, k1, v, HC⟩ := hcut
  clear H3 HB H2 HM
  have HM := Aside0.mk HC.out.2.2.2.2.2
  unfold selA at HM
  go_upto_region 10 with (go_at_call 40; refine (must_calls HE.out.1 (HC.out.1.step (below_alloc (Below.refl _ _) _)) [(⟨#[70, 82, 79, 77]⟩ : ByteArray)] wc.heap.size (strs_of (blk_new _ _)) (Nat.ne_of_gt (blk_lt HC.out.1.box)) (by simp) (by simp)).mono ?_; intro e w4 hp; rcases PostV.or hp with ⟨p, z, hr1, rfl, hst⟩ | ⟨_, k2, hr1, rfl, hps, hst⟩; (have hm := HM.out; rw [hr1] at hm; obtain rfl := andR_bad hm; exact ⟨rfl, rfl, ((HC.out.2.1.step (below_alloc (Below.refl _ _) _) N3.out.2.2.2.2.2).stay hst N3.out.2.2.2.2.2).whole H1.out.2.1 N3.out.2.2.2.1⟩); have H4 := Aside0.mk (And.intro hr1 (And.intro hps ((Below.stay (below_alloc (Below.refl _ _) _) gp).trans hst))); clear hr1 hps hst hp)
  have hm := HM.out
  rw [H4.out.1] at hm
  have HM2 := Aside0.mk (andR_ok hm)
  clear hm HM
  have hS4 := H4.out.2.2
  have b4 := hS4.cells HC.out.2.2.1 (Nat.ne_of_gt N3.out.1)
  have D1 := (blk_cell b4 1).trans rfl
  simp [sel0, SV.cells] at D1
  have H5 := Aside0.mk (And.intro H4.out.2.1 (And.intro (HC.out.2.1.stay hS4 N3.out.2.2.2.2.2) (And.intro b4 (HC.out.2.2.2.1.stay hS4 N3.out.1))))
  clear hS4 b4 D1
  go_upto_region 11 with (go_at_call 84; refine (name_calls HE.out.1 HE.out.2 H5.out.1).mono ?_; intro e w6 hp; rcases PostV.or hp with ⟨p, z, hr1, rfl, hst⟩ | ⟨tb, k3, hr1, rfl, hps, hst⟩; (have hm := HM2.out; rw [hr1] at hm; obtain rfl := andR_bad hm; exact ⟨rfl, rfl, (H5.out.2.1.stay hst N3.out.2.2.2.2.2).whole H1.out.2.1 N3.out.2.2.2.1⟩); have b6 := hst.cells H5.out.2.2.1 (Nat.ne_of_gt N3.out.1); have H6 := Aside0.mk (And.intro hr1 (And.intro hps (And.intro (H5.out.2.1.stay hst N3.out.2.2.2.2.2) (And.intro b6 (H5.out.2.2.2.stay hst N3.out.1))))); have D1 := (blk_cell b6 1).trans rfl; have E1 := blk_frozen b6 1; simp [sel0, SV.cells] at D1; clear hr1 hps hst hp b6)
  have hm := HM2.out
  rw [H6.out.1] at hm
  have HM3 := Aside0.mk (andR_ok hm)
  clear hm HM2
  refine at_world (fun w7 => Aside0 (SelI w1 gp gt T C o gs ⟨1, tb, v, .slice none 0 0, .slice none 0 0, false, z34, none, 0, ⟨#[]⟩, false, -1⟩ (l.map (·.2)) k3 w7))
    ⟨⟨H6.out.2.1.put_far (by have := N3.out; omega) (by have := N3.out; omega) N3.out.2.2.2.2.1 1 _, H6.out.2.2.1.put (Nat.le_refl _) 1 _, blk_put H6.out.2.2.2.1 1 _ (by simp [SV.cells, sel0]), ((H6.out.2.2.2.2.put rfl 1 _).ra HC.out.2.2.2.2.1).wide fun q _ h => h, EA.nil _ _⟩⟩ (fun w7 H7 => ?_)
  obtain ⟨it, hit⟩ : ∃ it, l.map (·.2) = it := ⟨_, rfl⟩
  rw [hit] at H7 HM3
  clear hit H4 H5 H6 D1 E1 HC
  obtain ⟨rw0, hqw⟩ := andR_some HM3.out
  have HQW := Aside0.mk hqw
  clear hqw
  go_upto_region 12 with (go_at_call 89; refine (HWh.out w7 _ _ _ _ H7.out.ps H7.out.bs N3.out.2.2.2.2.1 HQW.out).mono ?_; intro e w8 hp; rcases PostW.or hp with ⟨p, z, hr1, rfl, hst⟩ | ⟨y, k4, A7, c7, hr1, rfl, hps, hst, hbx⟩; (have hm := HM3.out; rw [HQW.out, hr1] at hm; obtain rfl := andR_bad hm; exact ⟨rfl, rfl, (H7.out.st.stay2 hst N3.out.2.2.2.2.2 (Nat.le_refl _)).whole H1.out.2.1 N3.out.2.2.2.1⟩); obtain ⟨A8, c8, hS⟩ := H7.out.where hps hst N3.out.1 N3.out.2.2.2.2.2 hbx; have H8 := Aside0.mk (And.intro hr1 hS); clear hr1 hps hst hp hbx hS)
  have hm := HM3.out
  rw [HQW.out, H8.out.1] at hm
  have HM4 := Aside0.mk (andR_ok hm)
  clear hm HM3 HQW
  obtain ⟨b, hb⟩ : ∃ b, isB (tokAt T k4) (⟨#[79, 82, 68, 69, 82]⟩ : ByteArray) = b := ⟨_, rfl⟩
  have HB := Aside0.mk hb
  clear hb
  go_upto_if 47 with (go_at_call 37; refine (take_any HE.out.1 H8.out.2.ps _).mono ?_; rw [HB.out]; rintro e w9 ⟨rfl, hps, hst⟩; have H9 := Aside0.mk (H8.out.2.stay hst hps N3.out.1 N3.out.2.2.2.2.2); clear hps hst)
  go_cut [3] (fun v3 wc => v3 = .pointer (some ⟨gs, 0, none⟩) ∧ ∃ (od : ByteArray × Bool) (kk : Nat), Aside0 (SelI w1 gp gt T C o gs ⟨1, tb, v, .slice none 0 0, .slice none 0 0, y.isSome, y.getD z34, A8, c8, od.1, od.2, -1⟩ it kk wc ∧ selC T it tb y od kk = some r))
  case first =>
    cases b with
    | true =>
      have hm := HM4.out
      unfold selB orderR at hm
      rw [if_pos HB.out] at hm
      have HM5 := Aside0.mk hm
      have H10 : Aside0 (SelI w1 gp gt T C o gs ⟨1, tb, v, .slice none 0 0, .slice none 0 0, y.isSome, y.getD z34, A8, c8, ⟨#[]⟩, false, -1⟩ it (k4 + 1) w9) := ⟨H9.out⟩
      clear hm H9 HM4
      go_upto_region 14 with (go_at_call 40; refine (must_calls HE.out.1 (H10.out.ps.step (below_alloc (Below.refl _ _) _)) [(⟨#[66, 89]⟩ : ByteArray)] w9.heap.size (strs_of (blk_new _ _)) (Nat.ne_of_gt (blk_lt H10.out.ps.box)) (by simp) (by simp)).mono ?_; intro e w10 hp; rcases PostV.or hp with ⟨p, z, hr1, rfl, hst⟩ | ⟨_, k5, hr1, rfl, hps, hst⟩; (have hm := HM5.out; rw [hr1] at hm; obtain rfl := Option.some.inj (show some (Rd.bad p z) = some r from hm); exact ⟨rfl, rfl, ((H10.out.st.step (below_alloc (Below.refl _ _) _) N3.out.2.2.2.2.2).stay hst N3.out.2.2.2.2.2).whole H1.out.2.1 N3.out.2.2.2.1⟩); have H11 := Aside0.mk (And.intro hr1 (H10.out.stay ((Below.stay (below_alloc (Below.refl _ _) _) gp).trans hst) hps N3.out.1 N3.out.2.2.2.2.2)); clear hr1 hps hst hp)
      go_upto_region 15 with (go_at_call 84; refine (name_calls HE.out.1 HE.out.2 H11.out.2.ps).mono ?_; intro e w11 hp; rcases PostV.or hp with ⟨p, z, hr1, rfl, hst⟩ | ⟨ob, k6, hr1, rfl, hps, hst⟩; (have hm := HM5.out; rw [H11.out.1] at hm; replace hm : andR (andR (some (nameR T k5)) fun s k2 => some (ascR T s k2)) _ = _ := hm; rw [hr1] at hm; obtain rfl := Option.some.inj (show some (Rd.bad p z) = some r from hm); exact ⟨rfl, rfl, (H11.out.2.st.stay hst N3.out.2.2.2.2.2).whole H1.out.2.1 N3.out.2.2.2.1⟩); have H12 := Aside0.mk (And.intro hr1 (H11.out.2.stay hst hps N3.out.1 N3.out.2.2.2.2.2)); have D12 := (blk_cell H12.out.2.bs 12).trans rfl; have E12 := blk_frozen H12.out.2.bs 12; simp [SV.cells] at D12; clear hr1 hps hst hp)
      refine at_world (fun w12 => Aside0 (SelI w1 gp gt T C o gs ⟨1, tb, v, .slice none 0 0, .slice none 0 0, y.isSome, y.getD z34, A8, c8, ob, false, -1⟩ it k6 w12)) ⟨H12.out.2.put N3.out.1 N3.out.2.1 12 _ (by simp [SV.cells]) rfl rfl rfl rfl⟩ (fun w12 H13 => ?_)
      have hm := HM5.out
      rw [H11.out.1] at hm
      replace hm : andR (andR (some (nameR T k5)) fun s k2 => some (ascR T s k2)) (fun od k5 => selC T it tb y od k5) = some r := hm
      rw [H12.out.1] at hm
      have HM6b : Aside0 (andR (some (ascR T ob k6)) (fun od k5 => selC T it tb y od k5) = some r) := ⟨hm⟩
      clear hm HM5 H12 H11 H10 D12 E12
      obtain ⟨bd, hbd⟩ : ∃ b, isB (tokAt T k6) (⟨#[68, 69, 83, 67]⟩ : ByteArray) = b := ⟨_, rfl⟩
      have HBD := Aside0.mk hbd
      clear hbd
      go_upto_region 16 with (go_at_call 37; refine (take_any HE.out.1 H13.out.ps _).mono ?_; rw [HBD.out]; rintro e w13 ⟨rfl, hps, hst⟩; have H14 := Aside0.mk (H13.out.stay hst hps N3.out.1 N3.out.2.2.2.2.2); have D13 := (blk_cell H14.out.bs 13).trans rfl; have E13 := blk_frozen H14.out.bs 13; simp [SV.cells] at D13; clear hps hst)
      refine at_world (fun w14 => Aside0 (SelI w1 gp gt T C o gs ⟨1, tb, v, .slice none 0 0, .slice none 0 0, y.isSome, y.getD z34, A8, c8, ob, bd, -1⟩ it (if bd = true then k6 + 1 else k6) w14)) ⟨H14.out.put N3.out.1 N3.out.2.1 13 _ (by simp [SV.cells]) rfl rfl rfl rfl⟩ (fun w14 H15 => ?_)
      clear H13 H14 D13 E13
      have D13 := (blk_cell H15.out.bs 13).trans rfl
      simp [SV.cells] at D13
      cases bd with
      | true =>
        go_wp2
        go_meet
        case rel => exact ⟨rfl, (ob, true), k6 + 1, ⟨H15.out, by have hm := HM6b.out; unfold ascR at hm; rw [if_pos HBD.out] at hm; exact hm⟩⟩
      | false =>
        obtain ⟨ba, hba⟩ : ∃ b, isB (tokAt T k6) (⟨#[65, 83, 67]⟩ : ByteArray) = b := ⟨_, rfl⟩
        have HBA := Aside0.mk hba
        clear hba
        have H16 : Aside0 (SelI w1 gp gt T C o gs ⟨1, tb, v, .slice none 0 0, .slice none 0 0, y.isSome, y.getD z34, A8, c8, ob, false, -1⟩ it k6 w14) := ⟨H15.out⟩
        go_wp2_with (go_at_call 37; refine (take_any HE.out.1 H16.out.ps _).mono ?_; rw [HBA.out]; rintro e w15 ⟨rfl, hps, hst⟩; have H17 := Aside0.mk (H16.out.stay hst hps N3.out.1 N3.out.2.2.2.2.2); clear hps hst)
        go_meet
        case rel => exact ⟨rfl, (ob, false), _, ⟨H17.out, by
          have hm := HM6b.out
          unfold ascR at hm
          rw [if_neg (by rw [HBD.out]; simp), HBA.out] at hm
          cases ba <;> exact hm⟩⟩
    | false =>
      have hm := HM4.out
      unfold selB orderR at hm
      rw [if_neg (by rw [HB.out]; simp)] at hm
      have HM5 := Aside0.mk (andR_ok hm)
      have H10 : Aside0 (SelI w1 gp gt T C o gs ⟨1, tb, v, .slice none 0 0, .slice none 0 0, y.isSome, y.getD z34, A8, c8, ⟨#[]⟩, false, -1⟩ it k4 w9) := ⟨H9.out⟩
      clear hm
      go_wp2
      go_meet
      case rel => exact ⟨rfl, (⟨#[]⟩, false), k4, ⟨H10.out, HM5.out⟩⟩
  case rest =>
  obtain ⟨rfl, od, k5, H9⟩ := hcut
  clear H8 H7 HB HM4
  have HM5 := Aside0.mk H9.out.2
  unfold selC at HM5
  obtain ⟨b, hb⟩ : ∃ b, isB (tokAt T k5) (⟨#[76, 73, 77, 73, 84]⟩ : ByteArray) = b := ⟨_, rfl⟩
  have HB := Aside0.mk hb
  clear hb
  obtain ⟨wd, hwd⟩ : ∃ x, wc = x := ⟨_, rfl⟩
  rw [hwd] at H9 ⊢
  clear hwd
  go_upto_if 63 with (go_at_call 37; refine (take_any HE.out.1 H9.out.1.ps _).mono ?_; rw [HB.out]; rintro e w10 ⟨rfl, hps, hst⟩; have H10 := Aside0.mk (H9.out.1.stay hst hps N3.out.1 N3.out.2.2.2.2.2); clear hps hst)
  go_cut [3] (fun v3 wc => v3 = .pointer (some ⟨gs, 0, none⟩) ∧ ∃ (lm : Int) (kk : Nat), Aside0 (SelI w1 gp gt T C o gs ⟨1, tb, v, .slice none 0 0, .slice none 0 0, y.isSome, y.getD z34, A8, c8, od.1, od.2, lm⟩ it kk wc ∧ r = .ok ⟨1, tb, it, [], [], y.isSome, y.getD z34, od.1, od.2, lm⟩ kk))
  case first =>
    cases b with
    | true =>
      have hm := HM5.out
      unfold limitR at hm
      rw [if_pos HB.out] at hm
      have HM6b := Aside0.mk hm
      have H11 : Aside0 (SelI w1 gp gt T C o gs ⟨1, tb, v, .slice none 0 0, .slice none 0 0, y.isSome, y.getD z34, A8, c8, od.1, od.2, -1⟩ it (k5 + 1) w10) := ⟨H10.out⟩
      clear hm
      go_wp2_with (go_at_call 41; refine (int_calls HE.out.1 H11.out.ps).mono ?_; intro e w11 hp; rcases PostV.or hp with ⟨p, z, hr1, rfl, hst⟩ | ⟨lm, k6, hr1, rfl, hps, hst⟩; (have hm := HM6b.out; rw [hr1] at hm; obtain rfl := andR_bad hm; exact ⟨rfl, rfl, (H11.out.st.stay hst N3.out.2.2.2.2.2).whole H1.out.2.1 N3.out.2.2.2.1⟩); have H12 := Aside0.mk (And.intro hr1 (H11.out.stay hst hps N3.out.1 N3.out.2.2.2.2.2)); have D14 := (blk_cell H12.out.2.bs 14).trans rfl; have E14 := blk_frozen H12.out.2.bs 14; simp [SV.cells] at D14; clear hr1 hps hst hp)
      go_meet
      case rel =>
        have hm := HM6b.out
        rw [H12.out.1] at hm
        exact ⟨rfl, lm, k6, ⟨H12.out.2.put N3.out.1 N3.out.2.1 14 _ (by simp [SV.cells]) rfl rfl rfl rfl, (Option.some.inj hm).symm⟩⟩
    | false =>
      have hm := HM5.out
      unfold limitR at hm
      rw [if_neg (by rw [HB.out]; simp)] at hm
      have HM6b := Aside0.mk (andR_ok hm)
      have H11 : Aside0 (SelI w1 gp gt T C o gs ⟨1, tb, v, .slice none 0 0, .slice none 0 0, y.isSome, y.getD z34, A8, c8, od.1, od.2, -1⟩ it k5 w10) := ⟨H10.out⟩
      clear hm
      go_wp2
      go_meet
      case rel => exact ⟨rfl, -1, k5, ⟨H11.out, (Option.some.inj HM6b.out).symm⟩⟩
  case rest =>
  obtain ⟨rfl, lm, k6, H11⟩ := hcut
  clear H9 HM5 HB
  obtain ⟨hS, rfl⟩ := H11.out
  obtain ⟨Av, cv, rfl, lv, gv⟩ := id hS.it
  have HS := Aside0.mk hS
  have q := fun i => blk_cell hS.bs i
  have q0 := (q 0).trans rfl
  have q1 := (q 1).trans rfl
  have q2 := (q 2).trans rfl
  have q3 := (q 3).trans rfl
  have q4 := (q 4).trans rfl
  have q5 := (q 5).trans rfl
  have q6 := (q 6).trans rfl
  have q7 := (q 7).trans rfl
  have q8 := (q 8).trans rfl
  have q9 := (q 9).trans rfl
  have q10 := (q 10).trans rfl
  have q11 := (q 11).trans rfl
  have q12 := (q 12).trans rfl
  have q13 := (q 13).trans rfl
  have q14 := (q 14).trans rfl
  clear q hS lv gv
  simp [SV.cells] at q0 q1 q2 q3 q4 q5 q6 q7 q8 q9 q10 q11 q12 q13 q14
  go_wp2_with (with_reducible refine gate_store (t := 44) (p := 2) rfl ?_; refine Hold.out ?_)
  refine ⟨?_⟩
  have hb2 := HS.out.st.cells H1.out.2.2 N3.out.2.2.1 N2.out.1
  refine wpList_store_row rfl 44 _ _ rfl g2 (SV.cells ⟨1, tb, .slice Av it.length cv, .slice none 0 0, .slice none 0 0, y.isSome, y.getD z34, A8, c8, od.1, od.2, lm⟩) rfl rfl 44 zs15 hb2 (by kernel_rfl) rfl (by simp [SV.cells, Value.oneCell']) ?_
  go_wp2
  refine bodyPost_ret (results_c rfl _ _ g2 44 _ (0,0) _ rfl (setRow_heap _ _ _ _ _ _ hb2) Tryz.underlying44 rfl (by kernel_rfl)) rfl ?_
  have hnS : ∀ q, gs ≤ q ∧ q ≠ gs → q ≠ g2 := fun q hq => by have := N3.out; have := hq.1; omega
  have hka := SV.ka (x := ⟨1, tb, .slice Av it.length cv, .slice none 0 0, .slice none 0 0, y.isSome, y.getD z34, A8, c8, od.1, od.2, lm⟩) (it := it) (rows := []) (sets := []) HS.out.it (RA.nil _ _ _) (RA.nil _ _ _) HS.out.ea
  exact ⟨_, rfl, hka.of (fun q _ h => by have := h.1; have := N3.out; unfold Fr; omega) (by simp) (fun q h1 _ => setRow_other _ _ _ _ (hnS q h1)), HS.out.ps.row N2.out.1 N2.out.2.1 N2.out.2.2.2.1 _, (HS.out.st.whole H1.out.2.1 N3.out.2.2.2.1).row N2.out.2.2.1 _⟩
end Go.Proofs.YtlpnlfahlcingaaGreatDoor.PL
end
section
namespace Go.Proofs.YtlpnlfahlcingaaGreatDoor.PL
open Go.RowKit Go.Proofs.YtlpnlfahlcingaaGreatDoorW.PrintWords Go.Proofs.YtlpnlfahlcingaaGreatDoorW.PrintLast Go.Proofs.YtlpnlfahlcingaaGreatDoorW.PrintMore
set_option linter.unusedVariables false
set_option linter.unusedSimpArgs false
attribute [local go_sem] World.cell?_alloc_some
attribute [local go_sem ↓] isSome_setCell
def insL (T : List Tok) (n m : Nat) (o : Int) : Nat → List (List S34) → Nat → Option (Rd (List (List S34)))
  | 0, _, _ => none
  | j + 1, l, k =>
    if isB (tokAt T k) (⟨#[44]⟩ : ByteArray) = true then
      if isB (tokAt T (k + 1)) (⟨#[40]⟩ : ByteArray) = true ∧ l.length = 16 then some (.bad (tokAt T (k + 1)).f1 3)
      else andR (rowR T n m (k + 1) o) fun e k1 => insL T n m o j (l ++ [e]) k1
    else some (.ok l k)
def insC (tb : ByteArray) (rows : List (List S34)) : S44 := ⟨2, tb, [], rows, [], false, z34, ⟨#[]⟩, false, 0⟩
def insB (T : List Tok) (n m : Nat) (o : Int) (tb : ByteArray) (k : Nat) : Option (Rd S44) :=
  andR (some (mustR T [(⟨#[86, 65, 76, 85, 69, 83]⟩ : ByteArray)] k)) fun _ k3 => andR (rowR T n m k3 o) fun e k4 => andR (insL T n m o m [e] k4) fun l k5 => some (.ok (insC tb l) k5)
def insR (T : List Tok) (n m k : Nat) (o : Int) : Option (Rd S44) :=
  andR (some (mustR T [(⟨#[73, 78, 84, 79]⟩ : ByteArray)] k)) fun _ k1 => andR (some (nameR T k1)) fun tb k2 => insB T n m o tb k2
def updL (T : List Tok) (n : Nat) (o : Int) : Nat → List S65 → Nat → Option (Rd (List S65))
  | 0, _, _ => none
  | j + 1, l, k =>
    if isB (tokAt T k) (⟨#[44]⟩ : ByteArray) = true then
      if namedB (tokAt T (k + 1)) = true ∧ l.length = 6 then some (.bad (tokAt T (k + 1)).f1 3)
      else andR (assignR T n (k + 1) o) fun e k1 => updL T n o j (l ++ [e]) k1
    else some (.ok l k)
def updC (T : List Tok) (n : Nat) (o : Int) (tb : ByteArray) (sets : List S65) (k : Nat) : Option (Rd S44) :=
  andR (whereR T n k o) fun wh k5 => some (.ok ⟨3, tb, [], [], sets, wh.isSome, wh.getD z34, ⟨#[]⟩, false, 0⟩ k5)
def updB (T : List Tok) (n m : Nat) (o : Int) (tb : ByteArray) (k : Nat) : Option (Rd S44) :=
  andR (some (mustR T [(⟨#[83, 69, 84]⟩ : ByteArray)] k)) fun _ k3 => andR (assignR T n k3 o) fun e k4 => andR (updL T n o m [e] k4) fun l k5 => updC T n o tb l k5
def updR (T : List Tok) (n m k : Nat) (o : Int) : Option (Rd S44) :=
  andR (some (nameR T k)) fun tb k2 => updB T n m o tb k2
def delB (T : List Tok) (n : Nat) (o : Int) (tb : ByteArray) (k : Nat) : Option (Rd S44) :=
  andR (whereR T n k o) fun wh k5 => some (.ok ⟨4, tb, [], [], [], wh.isSome, wh.getD z34, ⟨#[]⟩, false, 0⟩ k5)
def delR (T : List Tok) (n k : Nat) (o : Int) : Option (Rd S44) :=
  andR (some (mustR T [(⟨#[68, 69, 76, 69, 84, 69]⟩ : ByteArray), (⟨#[70, 82, 79, 77]⟩ : ByteArray)] k)) fun _ k1 => andR (some (nameR T k1)) fun tb k2 => delB T n o tb k2
def stmtR (T : List Tok) (n m k : Nat) (o : Int) : Option (Rd S44) :=
  if isB (tokAt T k) (⟨#[83, 69, 76, 69, 67, 84]⟩ : ByteArray) = true then chooseR T n m (k + 1) o
  else if isB (tokAt T k) (⟨#[73, 78, 83, 69, 82, 84]⟩ : ByteArray) = true then insR T n m (k + 1) o
  else if isB (tokAt T k) (⟨#[85, 80, 68, 65, 84, 69]⟩ : ByteArray) = true then updR T n m (k + 1) o
  else delR T n k o
structure StI (w1 : World) (gp gt : Nat) (T : List Tok) (C : Nat) (o : Int) (gs : Nat) (x : SV) (it : List S63) (rows : List (List S34)) (sets : List S65) (k : Nat) (wc : World) : Prop where
  ps : PS wc gp gt T C k o
  st : StayB gp gs w1 wc
  bs : wc.heap[gs]? = some (.cells x.cells 44 (0, 0))
  it : RA k63 wc (fun q => gs ≤ q ∧ q ≠ gs) x.vi it
  rw : RA (Kd.slice 34 k34) wc (fun q => gs ≤ q ∧ q ≠ gs) x.vr rows
  se : RA k65 wc (fun q => gs ≤ q ∧ q ≠ gs) x.vs sets
  ea : EA wc (fun q => gs ≤ q ∧ q ≠ gs) (.slice x.A x.e.f3.length x.c) x.e.f3
section
variable {w1 wc w2 : World} {gp gt : Nat} {T : List Tok} {C : Nat} {o : Int} {gs : Nat} {it : List S63} {rows : List (List S34)} {sets : List S65} {k k2 : Nat}
theorem StI.where {kd : Int} {tb od : ByteArray} {vi vr vs : Value} {dn : Bool} {lm : Int} {y : Option S34} {A8 : Option Addr} {c8 : Nat}
    (h : StI w1 gp gt T C o gs ⟨kd, tb, vi, vr, vs, false, z34, none, 0, od, dn, lm⟩ it rows sets k wc) (hps : PS w2 gp gt T C k2 o) (hst : Stay2 gp gs wc w2) (hg : gp < gs) (hl : gs ≤ w1.heap.size)
    (hbx : (y = none ∧ w2.heap[gs]? = some (.cells (SV.cells ⟨kd, tb, vi, vr, vs, false, z34, none, 0, od, dn, lm⟩) 44 (0, 0))) ∨ (∃ y', y = some y' ∧ w2.heap[gs]? = some (.cells (SV.cells ⟨kd, tb, vi, vr, vs, true, y', A8, c8, od, dn, lm⟩) 44 (0, 0)) ∧ EA w2 (fun k => Fr wc k ∧ k ≠ gs) (.slice A8 y'.f3.length c8) y'.f3)) :
    ∃ A c, StI w1 gp gt T C o gs ⟨kd, tb, vi, vr, vs, y.isSome, y.getD z34, A, c, od, dn, lm⟩ it rows sets k2 w2 := by
  have hlt := blk_lt h.bs
  have hst1 := h.st.stay2 hst hl (Nat.le_refl _)
  have hk : ∀ q, (gs ≤ q ∧ q ≠ gs) → q < wc.heap.size → w2.heap[q]? = wc.heap[q]? := fun q hq h1 => hst.block q h1 (by have := hq.1; omega) hq.2
  have hit : RA k63 w2 (fun q => gs ≤ q ∧ q ≠ gs) vi it := h.it.of (fun _ _ h => h) hst.size hk
  have hrw : RA (Kd.slice 34 k34) w2 (fun q => gs ≤ q ∧ q ≠ gs) vr rows := h.rw.of (fun _ _ h => h) hst.size hk
  have hse : RA k65 w2 (fun q => gs ≤ q ∧ q ≠ gs) vs sets := h.se.of (fun _ _ h => h) hst.size hk
  rcases hbx with ⟨rfl, hb⟩ | ⟨y', rfl, hb, hea⟩
  · exact ⟨none, 0, hps, hst1, hb, hit, hrw, hse, EA.nil _ _⟩
  · exact ⟨A8, c8, hps, hst1, hb, hit, hrw, hse, hea.of (fun q hq h => ⟨by have := h.1; unfold Fr at this; omega, h.2⟩) (Nat.le_refl _) fun _ _ _ => rfl⟩
theorem StI.post {w : World} {x : SV} {g2 : Nat} (h : StI w1 gp gt T C o gs x it rows sets k wc) (h1 : Stay gp w w1) (hw : w.heap.size ≤ g2) (hg : g2 < gs) (n1 : g2 ≠ gp) (n2 : g2 ≠ gt) (n3 : 2 ≤ g2) :
    PostS w gp gt T C o (.ok (x.st it rows sets) k) (.returned (.agg x.cells)) (wc.setRow g2 x.cells) :=
  ⟨x, rfl, (SV.ka h.it h.rw h.se h.ea).of (fun q _ h => by have := h.1; unfold Fr; omega) (by simp) (fun q h1 _ => setRow_other _ _ _ _ (by have := h1.1; omega)), h.ps.row n1 n2 n3 _, (h.st.whole h1 (by omega)).row hw _⟩
end
set_option maxHeartbeats 16000000 in
set_option maxRecDepth 100000 in
theorem stmt_sel {w : World} {gp gt : Nat} {T : List Tok} {C k : Nat} {o : Int} (hE : TE T) (hW : TW T) (h : PS w gp gt T C k o) (ho : o ≤ 200) (n m : Nat) (hm6 : m ≤ 900000) (hs : isB (tokAt T k) (⟨#[83, 69, 76, 69, 67, 84]⟩ : ByteArray) = true) (r : Rd S44) (hr : chooseR T n m (k + 1) o = some r) :
    Calls Tryz.prog 36 #[.pointer (some ⟨gp, 0, none⟩)] w (PostS w gp gt T C o r) := by
  have HC := Aside0.mk (fun (w1 : World) (r1 : Rd S44) (h1 : PS w1 gp gt T C (k + 1) o) (h2 : chooseR T n m (k + 1) o = some r1) => choose_calls hE hW h1 ho n m hm6 r1 h2)
  have HB := Aside0.mk (And.intro hs (hE k h.at_ (by have := isB_kind hs; omega)))
  have HM := Aside0.mk hr
  have HE := Aside0.mk (And.intro hE hW)
  have H := Aside0.mk h
  clear hE hW h ho hs hr
  go_enter Tryz.func36, Tryz.ntmps36
  go_upto_region 1 with (fail)
  obtain ⟨g2, hg2⟩ : ∃ g, w.heap.size = g := ⟨_, rfl⟩
  have B2 := Aside0.mk (fun O : Obj => hg2 ▸ blk_new w O)
  rw [hg2]
  have N2 := Aside0.mk (show g2 ≠ gp ∧ g2 ≠ gt ∧ w.heap.size ≤ g2 ∧ 2 ≤ g2 ∧ gp < g2 ∧ gt < g2 by have := H.out.gt_lt; have := blk_lt H.out.box; have := H.out.gp2; omega)
  clear hg2
  refine at_world (fun w1 => Aside0 (PS w1 gp gt T C k o ∧ Stay gp w w1 ∧ w1.heap[g2]? = some (.cells zs15 44 (0, 0)))) ⟨H.out.step (below_alloc (Below.refl _ _) _), (Stay.refl gp w).step (below_alloc (Below.refl _ _) _), B2.out _⟩ (fun w1 H1 => ?_)
  go_wp2_with (first | (go_at_call 37; with_reducible refine (take_yes H1.out.1 _ HB.out.1 HB.out.2).mono ?_; rintro e w5 ⟨rfl, hps, hst⟩; have H5 := Aside0.mk (And.intro hps (And.intro (H1.out.2.1.trans hst) (hst.cells H1.out.2.2 N2.out.1))); clear hps hst) | (go_at_call 83; refine (HC.out w5 _ H5.out.1 HM.out).mono ?_; intro e w6 hp; rcases PostS.or hp with ⟨p, z, hr1, rfl, hst⟩ | ⟨x, s, kk, hr1, rfl, hka, hps, hst⟩; (subst hr1; exact ⟨rfl, rfl, H5.out.2.1.trans hst⟩); subst hr1; have H6 := Aside0.mk (And.intro hka (And.intro hps (And.intro (H5.out.2.1.trans hst) (hst.cells H5.out.2.2 N2.out.1)))); have HZ := Aside0.mk hst.size; clear hka hps hst hp) | (with_reducible refine gate_store (t := 44) (p := 2) rfl ?_; refine Hold.out ?_))
  refine ⟨?_⟩
  obtain ⟨⟨A1, c1, e1⟩, ⟨A2, c2, e2⟩, ⟨A3, c3, e3⟩⟩ := SV.slices H6.out.1
  refine wpList_store_row rfl 44 _ _ rfl g2 (SV.cells x) rfl rfl 44 zs15 H6.out.2.2.2 (by kernel_rfl) rfl (by simp [SV.cells, Value.oneCell', e1, e2, e3]) ?_
  go_wp2
  refine bodyPost_ret (results_c rfl _ _ g2 44 _ (0,0) _ rfl (setRow_heap _ _ _ _ _ _ H6.out.2.2.2) Tryz.underlying44 rfl (by kernel_rfl)) rfl ?_
  have hz := blk_lt H5.out.2.2
  exact ⟨x, rfl, H6.out.1.of (fun q _ h => by have := H5.out.2.1.size; unfold Fr at h ⊢; omega) (by simp) (fun q h1 _ => setRow_other _ _ _ _ (by unfold Fr at h1; omega)), H6.out.2.1.row N2.out.1 N2.out.2.1 N2.out.2.2.2.1 _, H6.out.2.2.1.row N2.out.2.2.1 _⟩
set_option maxHeartbeats 16000000 in
set_option maxRecDepth 100000 in
theorem stmt_del {w : World} {gp gt : Nat} {T : List Tok} {C k : Nat} {o : Int} (hE : TE T) (hW : TW T) (h : PS w gp gt T C k o) (ho : o ≤ 200) (n m : Nat) (hm6 : m ≤ 900000) (h1 : isB (tokAt T k) (⟨#[83, 69, 76, 69, 67, 84]⟩ : ByteArray) = false) (h2 : isB (tokAt T k) (⟨#[73, 78, 83, 69, 82, 84]⟩ : ByteArray) = false) (h3 : isB (tokAt T k) (⟨#[85, 80, 68, 65, 84, 69]⟩ : ByteArray) = false) (r : Rd S44) (hr : delR T n k o = some r) :
    Calls Tryz.prog 36 #[.pointer (some ⟨gp, 0, none⟩)] w (PostS w gp gt T C o r) := by
  have HWh := Aside0.mk (fun (w1 : World) (k1 gs : Nat) (x : SV) (r1 : Rd (Option S34)) (h1 : PS w1 gp gt T C k1 o) (hx : w1.heap[gs]? = some (.cells x.cells 44 (0, 0))) (h2 : 2 ≤ gs) (h3 : whereR T n k1 o = some r1) => where_calls hE hW h1 ho hx h2 n r1 h3)
  have HB1 := Aside0.mk h1
  have HB2 := Aside0.mk h2
  have HB3 := Aside0.mk h3
  have HM := Aside0.mk hr
  unfold delR at HM
  have HE := Aside0.mk (And.intro hE hW)
  have H := Aside0.mk h
  clear hE hW h ho h1 h2 h3 hr
  go_enter Tryz.func36, Tryz.ntmps36
  go_upto_region 1 with (fail)
  obtain ⟨g2, hg2⟩ : ∃ g, w.heap.size = g := ⟨_, rfl⟩
  have B2 := Aside0.mk (fun O : Obj => hg2 ▸ blk_new w O)
  rw [hg2]
  have N2 := Aside0.mk (show g2 ≠ gp ∧ g2 ≠ gt ∧ w.heap.size ≤ g2 ∧ 2 ≤ g2 ∧ gp < g2 ∧ gt < g2 by have := H.out.gt_lt; have := blk_lt H.out.box; have := H.out.gp2; omega)
  clear hg2
  refine at_world (fun w1 => Aside0 (PS w1 gp gt T C k o ∧ Stay gp w w1 ∧ w1.heap[g2]? = some (.cells zs15 44 (0, 0)))) ⟨H.out.step (below_alloc (Below.refl _ _) _), (Stay.refl gp w).step (below_alloc (Below.refl _ _) _), B2.out _⟩ (fun w1 H1 => ?_)
  go_upto_region 24 with (first | (go_at_call 37; with_reducible refine (take_no H1.out.1 _ HB1.out).mono ?_; rintro e w4 ⟨rfl, he⟩; replace he := he.symm; subst he) | (go_at_call 37; with_reducible refine (take_no H1.out.1 _ HB2.out).mono ?_; rintro e w4 ⟨rfl, he⟩; replace he := he.symm; subst he) | (go_at_call 37; with_reducible refine (take_no H1.out.1 _ HB3.out).mono ?_; rintro e w4 ⟨rfl, he⟩; replace he := he.symm; subst he) | (go_at_call 40; refine (must_calls HE.out.1 (H1.out.1.step (below_alloc (Below.refl _ _) _)) [(⟨#[68, 69, 76, 69, 84, 69]⟩ : ByteArray), (⟨#[70, 82, 79, 77]⟩ : ByteArray)] w1.heap.size (strs_of (blk_new _ _)) (Nat.ne_of_gt (blk_lt H1.out.1.box)) (by simp) (by simp)).mono ?_; intro e w6 hp; rcases PostV.or hp with ⟨p, z, hr1, rfl, hst⟩ | ⟨_, k6, hr1, rfl, hps, hst⟩; (have hm := HM.out; rw [hr1] at hm; obtain rfl := andR_bad hm; exact ⟨rfl, rfl, (H1.out.2.1.step (below_alloc (Below.refl _ _) _)).trans hst⟩); have H6 := Aside0.mk (And.intro hr1 (And.intro hps (And.intro ((H1.out.2.1.step (below_alloc (Below.refl _ _) _)).trans hst) (hst.cells (blk_alloc H1.out.2.2 _) N2.out.1)))); clear hr1 hps hst hp))
  have hm := HM.out
  rw [H6.out.1] at hm
  have HM2 := Aside0.mk (andR_ok hm)
  clear hm HM
  go_upto_region 25 with (go_at_call 84; refine (name_calls HE.out.1 HE.out.2 H6.out.2.1).mono ?_; intro e w7 hp; rcases PostV.or hp with ⟨p, z, hr1, rfl, hst⟩ | ⟨tb, k7, hr1, rfl, hps, hst⟩; (have hm := HM2.out; rw [hr1] at hm; obtain rfl := andR_bad hm; exact ⟨rfl, rfl, H6.out.2.2.1.trans hst⟩); have H7 := Aside0.mk (And.intro hr1 (And.intro hps (And.intro (H6.out.2.2.1.trans hst) (hst.cells H6.out.2.2.2 N2.out.1)))); clear hr1 hps hst hp)
  have hm := HM2.out
  rw [H7.out.1] at hm
  have HM3 := Aside0.mk (andR_ok hm)
  clear hm HM2
  obtain ⟨gs, hgs⟩ : ∃ g, w7.heap.size = g := ⟨_, rfl⟩
  have B3 := Aside0.mk (fun O : Obj => hgs ▸ blk_new w7 O)
  have N3 := Aside0.mk (show gp < gs ∧ gt < gs ∧ g2 < gs ∧ w.heap.size ≤ gs ∧ 2 ≤ gs ∧ gs ≤ w7.heap.size by have := blk_lt H7.out.2.2.2; have := N2.out; omega)
  rw [hgs]
  clear hgs
  have HB5 : Aside0 (PS w7 gp gt T C k7 o ∧ Stay gp w w7 ∧ w7.heap[g2]? = some (.cells zs15 44 (0, 0))) := ⟨H7.out.2⟩
  refine at_world (fun w8 => Aside0 (StI w7 gp gt T C o gs ⟨4, tb, .slice none 0 0, .slice none 0 0, .slice none 0 0, false, z34, none, 0, ⟨#[]⟩, false, 0⟩ [] [] [] k7 w8)) ⟨H7.out.2.1.step (below_alloc (Below.refl _ _) _), (StayB.refl gp gs w7).step (below_alloc (Below.refl _ _) _) N3.out.2.2.2.2.2, B3.out _, RA.nil _ _ _, RA.nil _ _ _, RA.nil _ _ _, EA.nil _ _⟩ (fun w8 H8 => ?_)
  unfold delB at HM3
  obtain ⟨rw0, hqw⟩ := andR_some HM3.out
  have HQW := Aside0.mk hqw
  clear hqw H7 B3
  go_upto_region 26 with (go_at_call 89; refine (HWh.out w8 _ _ _ _ H8.out.ps H8.out.bs N3.out.2.2.2.2.1 HQW.out).mono ?_; intro e w9 hp; rcases PostW.or hp with ⟨p, z, hr1, rfl, hst⟩ | ⟨y, k9, A7, c7, hr1, rfl, hps, hst, hbx⟩; (have hm := HM3.out; rw [HQW.out, hr1] at hm; obtain rfl := andR_bad hm; exact ⟨rfl, rfl, (H8.out.st.stay2 hst N3.out.2.2.2.2.2 (Nat.le_refl _)).whole HB5.out.2.1 N3.out.2.2.2.1⟩); obtain ⟨A8, c8, hS⟩ := H8.out.where hps hst N3.out.1 N3.out.2.2.2.2.2 hbx; have H9 := Aside0.mk (And.intro hr1 hS); clear hr1 hps hst hp hbx hS)
  have hm := HM3.out
  rw [HQW.out, H9.out.1] at hm
  obtain rfl := Option.some.inj (andR_ok hm)
  clear hm HM3 HQW
  have HS := Aside0.mk H9.out.2
  have q := fun i => blk_cell HS.out.bs i
  have q0 := (q 0).trans rfl
  have q1 := (q 1).trans rfl
  have q2 := (q 2).trans rfl
  have q3 := (q 3).trans rfl
  have q4 := (q 4).trans rfl
  have q5 := (q 5).trans rfl
  have q6 := (q 6).trans rfl
  have q7 := (q 7).trans rfl
  have q8 := (q 8).trans rfl
  have q9 := (q 9).trans rfl
  have q10 := (q 10).trans rfl
  have q11 := (q 11).trans rfl
  have q12 := (q 12).trans rfl
  have q13 := (q 13).trans rfl
  have q14 := (q 14).trans rfl
  clear q
  simp [SV.cells] at q0 q1 q2 q3 q4 q5 q6 q7 q8 q9 q10 q11 q12 q13 q14
  go_wp2_with (with_reducible refine gate_store (t := 44) (p := 2) rfl ?_; refine Hold.out ?_)
  refine ⟨?_⟩
  have hb2 := HS.out.st.cells HB5.out.2.2 N3.out.2.2.1 N2.out.1
  refine wpList_store_row rfl 44 _ _ rfl g2 (SV.cells ⟨4, tb, .slice none 0 0, .slice none 0 0, .slice none 0 0, y.isSome, y.getD z34, A8, c8, ⟨#[]⟩, false, 0⟩) rfl rfl 44 zs15 hb2 (by kernel_rfl) rfl (by simp [SV.cells, Value.oneCell']) ?_
  go_wp2
  refine bodyPost_ret (results_c rfl _ _ g2 44 _ (0,0) _ rfl (setRow_heap _ _ _ _ _ _ hb2) Tryz.underlying44 rfl (by kernel_rfl)) rfl ?_
  exact HS.out.post HB5.out.2.1 N2.out.2.2.1 N3.out.2.2.1 N2.out.1 N2.out.2.1 N2.out.2.2.2.1
theorem StI.stay {w1 wc w2 : World} {gp gt : Nat} {T : List Tok} {C : Nat} {o : Int} {gs : Nat} {x : SV} {it : List S63} {rows : List (List S34)} {sets : List S65} {k k2 : Nat} (h : StI w1 gp gt T C o gs x it rows sets k wc) (hs : Stay gp wc w2) (hp : PS w2 gp gt T C k2 o) (hg : gp < gs) (hl : gs ≤ w1.heap.size) : StI w1 gp gt T C o gs x it rows sets k2 w2 := by
  have hk : ∀ q, (gs ≤ q ∧ q ≠ gs) → q < wc.heap.size → w2.heap[q]? = wc.heap[q]? := fun q hq h1 => hs.block q h1 (by have := hq.1; omega)
  exact ⟨hp, h.st.stay hs hl, hs.cells h.bs (by omega), h.it.of (fun _ _ h => h) hs.size hk, h.rw.of (fun _ _ h => h) hs.size hk, h.se.of (fun _ _ h => h) hs.size hk, h.ea.of (fun _ _ h => h) hs.size hk⟩
end Go.Proofs.YtlpnlfahlcingaaGreatDoor.PL
end
section
namespace Go.Proofs.YtlpnlfahlcingaaGreatDoor.PL
open Go.RowKit Go.Proofs.YtlpnlfahlcingaaGreatDoorW.PrintWords Go.Proofs.YtlpnlfahlcingaaGreatDoorW.PrintLast Go.Proofs.YtlpnlfahlcingaaGreatDoorW.PrintMore
set_option linter.unusedVariables false
set_option linter.unusedSimpArgs false
attribute [local go_sem] World.cell?_alloc_some
attribute [local go_sem ↓] isSome_setCell
set_option maxHeartbeats 16000000 in
set_option maxRecDepth 100000 in
theorem stmt_ins {w : World} {gp gt : Nat} {T : List Tok} {C k : Nat} {o : Int} (hE : TE T) (hW : TW T) (h : PS w gp gt T C k o) (ho : o ≤ 200) (n m : Nat) (hm6 : m ≤ 900000) (h1 : isB (tokAt T k) (⟨#[83, 69, 76, 69, 67, 84]⟩ : ByteArray) = false) (h2 : isB (tokAt T k) (⟨#[73, 78, 83, 69, 82, 84]⟩ : ByteArray) = true) (r : Rd S44) (hr : insR T n m (k + 1) o = some r) :
    Calls Tryz.prog 36 #[.pointer (some ⟨gp, 0, none⟩)] w (PostS w gp gt T C o r) := by
  have HC := Aside0.mk (fun (w1 : World) (k1 gs : Nat) (x : SV) (rows : List (List Value × List S34)) (r1 : Rd (List S34)) (h1 : PS w1 gp gt T C k1 o) (hx : w1.heap[gs]? = some (.cells x.cells 44 (0, 0))) (h2 : 2 ≤ gs) (hb : gs ≤ w1.heap.size) (hgb : gp < gs) (hr : Ga (Kd.slice 34 k34) 32 gs (· = gs) w1 x.vr rows) (hl : rows.length ≤ 1000000) (h3 : rowR T n m k1 o = some r1) => row_calls hE hW h1 ho hx h2 hb hgb (Nat.le_refl gs) rows hr hl n m (by omega) r1 h3)
  have HM6 := Aside0.mk hm6
  have HB1 := Aside0.mk h1
  have HB2 := Aside0.mk (And.intro h2 (hE k h.at_ (by have := isB_kind h2; omega)))
  have HM := Aside0.mk hr
  unfold insR at HM
  have HE := Aside0.mk (And.intro hE hW)
  have H := Aside0.mk h
  clear hE hW h ho hm6 h1 h2 hr
  go_enter Tryz.func36, Tryz.ntmps36
  go_upto_region 1 with (fail)
  obtain ⟨g2, hg2⟩ : ∃ g, w.heap.size = g := ⟨_, rfl⟩
  have B2 := Aside0.mk (fun O : Obj => hg2 ▸ blk_new w O)
  rw [hg2]
  have N2 := Aside0.mk (show g2 ≠ gp ∧ g2 ≠ gt ∧ w.heap.size ≤ g2 ∧ 2 ≤ g2 ∧ gp < g2 ∧ gt < g2 by have := H.out.gt_lt; have := blk_lt H.out.box; have := H.out.gp2; omega)
  clear hg2
  refine at_world (fun w1 => Aside0 (PS w1 gp gt T C k o ∧ Stay gp w w1 ∧ w1.heap[g2]? = some (.cells zs15 44 (0, 0)))) ⟨H.out.step (below_alloc (Below.refl _ _) _), (Stay.refl gp w).step (below_alloc (Below.refl _ _) _), B2.out _⟩ (fun w1 H1 => ?_)
  go_upto_region 5 with (first | (go_at_call 37; with_reducible refine (take_no H1.out.1 _ HB1.out).mono ?_; rintro e w4 ⟨rfl, he⟩; replace he := he.symm; subst he) | (go_at_call 37; with_reducible refine (take_yes H1.out.1 _ HB2.out.1 HB2.out.2).mono ?_; rintro e w5 ⟨rfl, hps, hst⟩; have H5 := Aside0.mk (And.intro hps (And.intro (H1.out.2.1.trans hst) (hst.cells H1.out.2.2 N2.out.1))); clear hps hst) | (go_at_call 40; refine (must_calls HE.out.1 (H5.out.1.step (below_alloc (Below.refl _ _) _)) [(⟨#[73, 78, 84, 79]⟩ : ByteArray)] w5.heap.size (strs_of (blk_new _ _)) (Nat.ne_of_gt (blk_lt H5.out.1.box)) (by simp) (by simp)).mono ?_; intro e w6 hp; rcases PostV.or hp with ⟨p, z, hr1, rfl, hst⟩ | ⟨_, k6, hr1, rfl, hps, hst⟩; (have hm := HM.out; rw [hr1] at hm; obtain rfl := andR_bad hm; exact ⟨rfl, rfl, (H5.out.2.1.step (below_alloc (Below.refl _ _) _)).trans hst⟩); have H6 := Aside0.mk (And.intro hr1 (And.intro hps (And.intro ((H5.out.2.1.step (below_alloc (Below.refl _ _) _)).trans hst) (hst.cells (blk_alloc H5.out.2.2 _) N2.out.1)))); clear hr1 hps hst hp))
  have hm := HM.out
  rw [H6.out.1] at hm
  have HM2 := Aside0.mk (andR_ok hm)
  clear hm HM
  go_upto_region 6 with (go_at_call 84; refine (name_calls HE.out.1 HE.out.2 H6.out.2.1).mono ?_; intro e w7 hp; rcases PostV.or hp with ⟨p, z, hr1, rfl, hst⟩ | ⟨tb, k7, hr1, rfl, hps, hst⟩; (have hm := HM2.out; rw [hr1] at hm; obtain rfl := andR_bad hm; exact ⟨rfl, rfl, H6.out.2.2.1.trans hst⟩); have H7 := Aside0.mk (And.intro hr1 (And.intro hps (And.intro (H6.out.2.2.1.trans hst) (hst.cells H6.out.2.2.2 N2.out.1)))); clear hr1 hps hst hp)
  have hm := HM2.out
  rw [H7.out.1] at hm
  have HM3 := Aside0.mk (andR_ok hm)
  clear hm HM2
  obtain ⟨gs, hgs⟩ : ∃ g, w7.heap.size = g := ⟨_, rfl⟩
  have B3 := Aside0.mk (fun O : Obj => hgs ▸ blk_new w7 O)
  have N3 := Aside0.mk (show gp < gs ∧ gt < gs ∧ g2 < gs ∧ w.heap.size ≤ gs ∧ 2 ≤ gs ∧ gs ≤ w7.heap.size by have := blk_lt H7.out.2.2.2; have := N2.out; omega)
  rw [hgs]
  clear hgs
  have HB5 : Aside0 (PS w7 gp gt T C k7 o ∧ Stay gp w w7 ∧ w7.heap[g2]? = some (.cells zs15 44 (0, 0))) := ⟨H7.out.2⟩
  refine at_world (fun w8 => Aside0 (StI w7 gp gt T C o gs ⟨2, tb, .slice none 0 0, .slice none 0 0, .slice none 0 0, false, z34, none, 0, ⟨#[]⟩, false, 0⟩ [] [] [] k7 w8)) ⟨H7.out.2.1.step (below_alloc (Below.refl _ _) _), (StayB.refl gp gs w7).step (below_alloc (Below.refl _ _) _) N3.out.2.2.2.2.2, B3.out _, RA.nil _ _ _, RA.nil _ _ _, RA.nil _ _ _, EA.nil _ _⟩ (fun w8 H8 => ?_)
  unfold insB at HM3
  clear H7 B3 H6
  go_upto_region 7 with (go_at_call 40; refine (must_calls HE.out.1 (H8.out.ps.step (below_alloc (Below.refl _ _) _)) [(⟨#[86, 65, 76, 85, 69, 83]⟩ : ByteArray)] w8.heap.size (strs_of (blk_new _ _)) (Nat.ne_of_gt (blk_lt H8.out.ps.box)) (by simp) (by simp)).mono ?_; intro e w9 hp; rcases PostV.or hp with ⟨p, z, hr1, rfl, hst⟩ | ⟨_, k9, hr1, rfl, hps, hst⟩; (have hm := HM3.out; rw [hr1] at hm; obtain rfl := andR_bad hm; exact ⟨rfl, rfl, ((H8.out.st.step (below_alloc (Below.refl _ _) _) N3.out.2.2.2.2.2).stay hst N3.out.2.2.2.2.2).whole HB5.out.2.1 N3.out.2.2.2.1⟩); have H9 := Aside0.mk (And.intro hr1 (H8.out.stay ((Below.stay (below_alloc (Below.refl _ _) _) gp).trans hst) hps N3.out.1 N3.out.2.2.2.2.2)); clear hr1 hps hst hp)
  have hm := HM3.out
  rw [H9.out.1] at hm
  have HM4 := Aside0.mk (andR_ok hm)
  clear hm HM3
  obtain ⟨rw0, hqw⟩ := andR_some HM4.out
  have HQW := Aside0.mk hqw
  clear hqw
  have hbz : gs ≤ w9.heap.size := Nat.le_of_lt (blk_lt H9.out.2.bs)
  go_wp2_with (go_at_call 85; refine (HC.out w9 k9 gs _ [] rw0 H9.out.2.ps H9.out.2.bs N3.out.2.2.2.2.1 hbz N3.out.1 (Ga.nil _ _ _ _ _) (by simp) HQW.out).mono ?_; intro e w10 hp; rcases PostRow.or hp with ⟨p, z, hr1, rfl, hst⟩ | ⟨l0, k10, v0, cs0, hr1, rfl, hps, hst, hbx, hga⟩; (have hm := HM4.out; rw [HQW.out, hr1] at hm; obtain rfl := andR_bad hm; exact ⟨rfl, rfl, (H9.out.2.st.trans hst).whole HB5.out.2.1 N3.out.2.2.2.1⟩); have H10 := Aside0.mk (And.intro hr1 (And.intro hps (And.intro (H9.out.2.st.trans hst) (And.intro hbx hga)))); clear hr1 hps hst hp hbx hga)
  have hm := HM4.out
  rw [HQW.out, H10.out.1] at hm
  have HM5 := Aside0.mk (andR_ok hm)
  clear hm HM4 HQW H8 H9 hbz
  go_loopg [26] m (fun kq vq w' => ∃ (l : List (List Value × List S34)) (kk : Nat) (v : Value), Aside0 (PS w' gp gt T C kk o ∧ StayB gp gs w7 w' ∧ w'.heap[gs]? = some (.cells (SV.cells ⟨2, tb, .slice none 0 0, v, .slice none 0 0, false, z34, none, 0, ⟨#[]⟩, false, 0⟩) 44 (0, 0)) ∧ Ga (Kd.slice 34 k34) 32 gs (· = gs) w' v l ∧ l.length + kq ≤ m + 1 ∧ andR (insL T n m o kq (l.map (·.2)) kk) (fun l k5 => some (.ok (insC tb l) k5)) = some r))
  case atStart => exact ⟨[(cs0, l0)], k10, v0, ⟨H10.out.2.1, H10.out.2.2.1, H10.out.2.2.2.1, H10.out.2.2.2.2, by simp; omega, HM5.out⟩⟩
  case round =>
  obtain ⟨l, kk, v, HJ⟩ := hrel
  clear H10 HM5
  have hr := HJ.out.2.2.2.2.2
  have hln := HJ.out.2.2.2.2.1
  cases gk with
  | zero => obtain ⟨_, h⟩ := andR_some hr; cases h
  | succ kq =>
  obtain ⟨Av, cv, rfl⟩ := own_slice' HJ.out.2.2.2.1.own
  unfold insL at hr
  by_cases hc : isB (tokAt T kk) (⟨#[44]⟩ : ByteArray) = true
  · rw [if_pos hc] at hr
    have HCm := Aside0.mk (And.intro hc (HE.out.1 kk HJ.out.1.at_ (by have := isB_kind hc; omega)))
    have HM := Aside0.mk hr
    clear hc hr
    go_upto_region 9 with (go_at_call 37; refine (take_yes HJ.out.1 _ HCm.out.1 HCm.out.2).mono ?_; rintro e w11 ⟨rfl, hps, hst⟩; have H11 := Aside0.mk (And.intro hps (And.intro (HJ.out.2.1.stay hst N3.out.2.2.2.2.2) (And.intro (hst.cells HJ.out.2.2.1 (Nat.ne_of_gt N3.out.1)) (HJ.out.2.2.2.1.stay hst N3.out.1)))); clear hps hst)
    obtain ⟨bp, hbp⟩ : ∃ b, isB (tokAt T (kk + 1)) (⟨#[40]⟩ : ByteArray) = b := ⟨_, rfl⟩
    have hm := HM.out
    rw [hbp, List.length_map] at hm
    have HM := Aside0.mk hm
    have HG := Aside0.mk hbp
    clear hm hbp
    have C2 := (blk_cell H11.out.2.2.1 3).trans rfl
    simp [SV.cells] at C2
    obtain ⟨b6, hb6⟩ : ∃ b, ((l.length : Int) == 16) = b := ⟨_, rfl⟩
    go_cut [34] (fun vq wc => vq = .bool (bp && b6) ∧ Aside0 (PS wc gp gt T C (kk + 1) o ∧ StayB gp gs w7 wc ∧ wc.heap[gs]? = some (.cells (SV.cells ⟨2, tb, .slice none 0 0, (.slice Av l.length cv), .slice none 0 0, false, z34, none, 0, ⟨#[]⟩, false, 0⟩) 44 (0, 0)) ∧ Ga (Kd.slice 34 k34) 32 gs (· = gs) wc (.slice Av l.length cv) l))
    case first =>
      cases bp with
      | true =>
        go_wp2_with (go_at_call 86; refine (is_calls H11.out.1 _).mono ?_; rw [HG.out]; rintro e w12 ⟨rfl, he⟩; replace he := he.symm; subst he)
        go_meet
        case rel => exact ⟨by simp [hb6], ⟨H11.out⟩⟩
      | false =>
        go_wp2_with (go_at_call 86; refine (is_calls H11.out.1 _).mono ?_; rw [HG.out]; rintro e w12 ⟨rfl, he⟩; replace he := he.symm; subst he)
        go_meet
        case rel => exact ⟨by simp, ⟨H11.out⟩⟩
    case rest =>
    obtain ⟨rfl, H13⟩ := hcut
    clear H11 HJ C2
    have hm := HM.out
    by_cases hl6 : bp = true ∧ l.length = 16
    · rw [if_pos hl6] at hm
      obtain rfl := andR_bad hm
      have e6 : b6 = true := by rw [← hb6, hl6.2]; rfl
      have e7 : (bp && b6) = true := by rw [hl6.1, e6]; rfl
      rw [e7]
      clear hm hl6 hb6 e6 e7
      go_wp2_with (go_at_call 39; refine (wrong_calls H13.out.1 3).mono ?_; rintro e w8 ⟨rfl, rfl⟩; exact ⟨rfl, rfl, H13.out.2.1.whole HB5.out.2.1 N3.out.2.2.2.1⟩)
    · rw [if_neg hl6] at hm
      have e7 : (bp && b6) = false := by
        cases hx : bp with
        | false => rfl
        | true =>
          have : ¬ l.length = 16 := fun h => hl6 ⟨hx, h⟩
          rw [← hb6]
          simp
          omega
      rw [e7]
      clear hl6 hb6 e7
      obtain ⟨r1, hq1⟩ := andR_some hm
      obtain ⟨r0, hq0⟩ := andR_some hq1
      rw [hq0] at hm
      have HM := Aside0.mk hm
      have HQ0 := Aside0.mk hq0
      clear hm hq0 hq1
      have hbz : gs ≤ wc.heap.size := Nat.le_of_lt (blk_lt H13.out.2.2.1)
      go_wp2_with (go_at_call 85; refine (HC.out wc (kk + 1) gs _ l r0 H13.out.1 H13.out.2.2.1 N3.out.2.2.2.2.1 hbz N3.out.1 H13.out.2.2.2 (by have := HM6.out; omega) HQ0.out).mono ?_; intro e w14 hp; rcases PostRow.or hp with ⟨p, z, hr1, rfl, hst⟩ | ⟨l1, k14, v1, cs1, hr1, rfl, hps, hst, hbx, hga⟩; (subst hr1; obtain rfl := Option.some.inj (show some (Rd.bad p z) = some r from HM.out); exact ⟨rfl, rfl, (H13.out.2.1.trans hst).whole HB5.out.2.1 N3.out.2.2.2.1⟩); subst hr1; have H14 := Aside0.mk (And.intro hps (And.intro (H13.out.2.1.trans hst) (And.intro hbx hga))); clear hps hst hp hbx hga)
      go_roundg kq
      case measure => omega
      case rel => exact ⟨l ++ [(cs1, l1)], k14, v1, ⟨H14.out.1, H14.out.2.1, H14.out.2.2.1, H14.out.2.2.2, by simp; omega, by rw [List.map_append]; exact HM.out⟩⟩
  · rw [if_neg hc] at hr
    have hc' : isB (tokAt T kk) (⟨#[44]⟩ : ByteArray) = false := by simpa using hc
    have HCm := Aside0.mk hc'
    have HM := Aside0.mk (andR_ok hr)
    clear hc hc' hr
    have hll : l.length ≤ 1000000 := by have := HM6.out; omega
    have hm := HM.out
    obtain rfl := Option.some.inj hm
    clear hm HM
    go_upto_region 12 with (go_at_call 37; refine (take_no HJ.out.1 _ HCm.out).mono ?_; rintro e w15 ⟨rfl, he⟩; replace he := he.symm; subst he)
    have hra := (HJ.out.2.2.2.1.ra hll).wide (S1 := fun q => gs ≤ q ∧ q ≠ gs) (fun q _ h => h)
    have HS : Aside0 (StI w7 gp gt T C o gs ⟨2, tb, .slice none 0 0, (.slice Av l.length cv), .slice none 0 0, false, z34, none, 0, ⟨#[]⟩, false, 0⟩ [] (l.map (·.2)) [] kk wr) := ⟨HJ.out.1, HJ.out.2.1, HJ.out.2.2.1, RA.nil _ _ _, hra, RA.nil _ _ _, EA.nil _ _⟩
    clear hra HJ
    have q := fun i => blk_cell HS.out.bs i
    have q0 := (q 0).trans rfl
    have q1 := (q 1).trans rfl
    have q2 := (q 2).trans rfl
    have q3 := (q 3).trans rfl
    have q4 := (q 4).trans rfl
    have q5 := (q 5).trans rfl
    have q6 := (q 6).trans rfl
    have q7 := (q 7).trans rfl
    have q8 := (q 8).trans rfl
    have q9 := (q 9).trans rfl
    have q10 := (q 10).trans rfl
    have q11 := (q 11).trans rfl
    have q12 := (q 12).trans rfl
    have q13 := (q 13).trans rfl
    have q14 := (q 14).trans rfl
    clear q
    simp [SV.cells] at q0 q1 q2 q3 q4 q5 q6 q7 q8 q9 q10 q11 q12 q13 q14
    go_wp2_with (with_reducible refine gate_store (t := 44) (p := 2) rfl ?_; refine Hold.out ?_)
    refine ⟨?_⟩
    have hb2 := HS.out.st.cells HB5.out.2.2 N3.out.2.2.1 N2.out.1
    refine wpList_store_row rfl 44 _ _ rfl g2 (SV.cells ⟨2, tb, .slice none 0 0, (.slice Av l.length cv), .slice none 0 0, false, z34, none, 0, ⟨#[]⟩, false, 0⟩) rfl rfl 44 zs15 hb2 (by kernel_rfl) rfl (by simp [SV.cells, Value.oneCell']) ?_
    go_wp2
    refine bodyPost_ret (results_c rfl _ _ g2 44 _ (0,0) _ rfl (setRow_heap _ _ _ _ _ _ hb2) Tryz.underlying44 rfl (by kernel_rfl)) rfl ?_
    exact HS.out.post HB5.out.2.1 N2.out.2.2.1 N3.out.2.2.1 N2.out.1 N2.out.2.1 N2.out.2.2.2.1
end Go.Proofs.YtlpnlfahlcingaaGreatDoor.PL
end
section
namespace Go.Proofs.YtlpnlfahlcingaaGreatDoor.PL
open Go.RowKit Go.Proofs.YtlpnlfahlcingaaGreatDoorW.PrintWords Go.Proofs.YtlpnlfahlcingaaGreatDoorW.PrintLast Go.Proofs.YtlpnlfahlcingaaGreatDoorW.PrintMore
set_option linter.unusedVariables false
set_option linter.unusedSimpArgs false
attribute [local go_sem] World.cell?_alloc_some
attribute [local go_sem ↓] isSome_setCell
set_option maxHeartbeats 16000000 in
set_option maxRecDepth 100000 in
theorem stmt_upd {w : World} {gp gt : Nat} {T : List Tok} {C k : Nat} {o : Int} (hE : TE T) (hW : TW T) (h : PS w gp gt T C k o) (ho : o ≤ 200) (n m : Nat) (hm6 : m ≤ 900000) (h1 : isB (tokAt T k) (⟨#[83, 69, 76, 69, 67, 84]⟩ : ByteArray) = false) (h2 : isB (tokAt T k) (⟨#[73, 78, 83, 69, 82, 84]⟩ : ByteArray) = false) (h3 : isB (tokAt T k) (⟨#[85, 80, 68, 65, 84, 69]⟩ : ByteArray) = true) (r : Rd S44) (hr : updR T n m (k + 1) o = some r) :
    Calls Tryz.prog 36 #[.pointer (some ⟨gp, 0, none⟩)] w (PostS w gp gt T C o r) := by
  have HC := Aside0.mk (fun (w1 : World) (k1 gs : Nat) (x : SV) (sets : List (List Value × S65)) (r1 : Rd S65) (h1 : PS w1 gp gt T C k1 o) (hx : w1.heap[gs]? = some (.cells x.cells 44 (0, 0))) (h2 : 2 ≤ gs) (hb : gs ≤ w1.heap.size) (hgb : gp < gs) (hr : Ga k65 65 gs (· = gs) w1 x.vs sets) (hl : sets.length ≤ 1000000) (h3 : assignR T n k1 o = some r1) => assign_calls hE hW h1 ho hx h2 hb hgb (Nat.le_refl gs) sets hr hl n r1 h3)
  have HWh := Aside0.mk (fun (w1 : World) (k1 gs : Nat) (x : SV) (r1 : Rd (Option S34)) (h1 : PS w1 gp gt T C k1 o) (hx : w1.heap[gs]? = some (.cells x.cells 44 (0, 0))) (h2 : 2 ≤ gs) (h3 : whereR T n k1 o = some r1) => where_calls hE hW h1 ho hx h2 n r1 h3)
  have HM6 := Aside0.mk hm6
  have HB1 := Aside0.mk h1
  have HB2 := Aside0.mk h2
  have HB3 := Aside0.mk (And.intro h3 (hE k h.at_ (by have := isB_kind h3; omega)))
  have HM := Aside0.mk hr
  unfold updR at HM
  have HE := Aside0.mk (And.intro hE hW)
  have H := Aside0.mk h
  clear hE hW h ho hm6 h1 h2 h3 hr
  go_enter Tryz.func36, Tryz.ntmps36
  go_upto_region 1 with (fail)
  obtain ⟨g2, hg2⟩ : ∃ g, w.heap.size = g := ⟨_, rfl⟩
  have B2 := Aside0.mk (fun O : Obj => hg2 ▸ blk_new w O)
  rw [hg2]
  have N2 := Aside0.mk (show g2 ≠ gp ∧ g2 ≠ gt ∧ w.heap.size ≤ g2 ∧ 2 ≤ g2 ∧ gp < g2 ∧ gt < g2 by have := H.out.gt_lt; have := blk_lt H.out.box; have := H.out.gp2; omega)
  clear hg2
  refine at_world (fun w1 => Aside0 (PS w1 gp gt T C k o ∧ Stay gp w w1 ∧ w1.heap[g2]? = some (.cells zs15 44 (0, 0)))) ⟨H.out.step (below_alloc (Below.refl _ _) _), (Stay.refl gp w).step (below_alloc (Below.refl _ _) _), B2.out _⟩ (fun w1 H1 => ?_)
  go_upto_region 14 with (first | (go_at_call 37; with_reducible refine (take_no H1.out.1 _ HB1.out).mono ?_; rintro e w4 ⟨rfl, he⟩; replace he := he.symm; subst he) | (go_at_call 37; with_reducible refine (take_no H1.out.1 _ HB2.out).mono ?_; rintro e w4 ⟨rfl, he⟩; replace he := he.symm; subst he) | (go_at_call 37; with_reducible refine (take_yes H1.out.1 _ HB3.out.1 HB3.out.2).mono ?_; rintro e w5 ⟨rfl, hps, hst⟩; have H5 := Aside0.mk (And.intro hps (And.intro (H1.out.2.1.trans hst) (hst.cells H1.out.2.2 N2.out.1))); clear hps hst))
  have H6 : Aside0 (True ∧ PS w5 gp gt T C (k + 1) o ∧ Stay gp w w5 ∧ w5.heap[g2]? = some (.cells zs15 44 (0, 0))) := ⟨trivial, H5.out⟩
  have HM2 := HM
  clear HM
  go_upto_region 15 with (go_at_call 84; refine (name_calls HE.out.1 HE.out.2 H6.out.2.1).mono ?_; intro e w7 hp; rcases PostV.or hp with ⟨p, z, hr1, rfl, hst⟩ | ⟨tb, k7, hr1, rfl, hps, hst⟩; (have hm := HM2.out; rw [hr1] at hm; obtain rfl := andR_bad hm; exact ⟨rfl, rfl, H6.out.2.2.1.trans hst⟩); have H7 := Aside0.mk (And.intro hr1 (And.intro hps (And.intro (H6.out.2.2.1.trans hst) (hst.cells H6.out.2.2.2 N2.out.1)))); clear hr1 hps hst hp)
  have hm := HM2.out
  rw [H7.out.1] at hm
  have HM3 := Aside0.mk (andR_ok hm)
  clear hm HM2
  obtain ⟨gs, hgs⟩ : ∃ g, w7.heap.size = g := ⟨_, rfl⟩
  have B3 := Aside0.mk (fun O : Obj => hgs ▸ blk_new w7 O)
  have N3 := Aside0.mk (show gp < gs ∧ gt < gs ∧ g2 < gs ∧ w.heap.size ≤ gs ∧ 2 ≤ gs ∧ gs ≤ w7.heap.size by have := blk_lt H7.out.2.2.2; have := N2.out; omega)
  rw [hgs]
  clear hgs
  have HB5 : Aside0 (PS w7 gp gt T C k7 o ∧ Stay gp w w7 ∧ w7.heap[g2]? = some (.cells zs15 44 (0, 0))) := ⟨H7.out.2⟩
  refine at_world (fun w8 => Aside0 (StI w7 gp gt T C o gs ⟨3, tb, .slice none 0 0, .slice none 0 0, .slice none 0 0, false, z34, none, 0, ⟨#[]⟩, false, 0⟩ [] [] [] k7 w8)) ⟨H7.out.2.1.step (below_alloc (Below.refl _ _) _), (StayB.refl gp gs w7).step (below_alloc (Below.refl _ _) _) N3.out.2.2.2.2.2, B3.out _, RA.nil _ _ _, RA.nil _ _ _, RA.nil _ _ _, EA.nil _ _⟩ (fun w8 H8 => ?_)
  unfold updB at HM3
  clear H7 B3 H6
  go_upto_region 16 with (go_at_call 40; refine (must_calls HE.out.1 (H8.out.ps.step (below_alloc (Below.refl _ _) _)) [(⟨#[83, 69, 84]⟩ : ByteArray)] w8.heap.size (strs_of (blk_new _ _)) (Nat.ne_of_gt (blk_lt H8.out.ps.box)) (by simp) (by simp)).mono ?_; intro e w9 hp; rcases PostV.or hp with ⟨p, z, hr1, rfl, hst⟩ | ⟨_, k9, hr1, rfl, hps, hst⟩; (have hm := HM3.out; rw [hr1] at hm; obtain rfl := andR_bad hm; exact ⟨rfl, rfl, ((H8.out.st.step (below_alloc (Below.refl _ _) _) N3.out.2.2.2.2.2).stay hst N3.out.2.2.2.2.2).whole HB5.out.2.1 N3.out.2.2.2.1⟩); have H9 := Aside0.mk (And.intro hr1 (H8.out.stay ((Below.stay (below_alloc (Below.refl _ _) _) gp).trans hst) hps N3.out.1 N3.out.2.2.2.2.2)); clear hr1 hps hst hp)
  have hm := HM3.out
  rw [H9.out.1] at hm
  have HM4 := Aside0.mk (andR_ok hm)
  clear hm HM3
  obtain ⟨rw0, hqw⟩ := andR_some HM4.out
  have HQW := Aside0.mk hqw
  clear hqw
  have hbz : gs ≤ w9.heap.size := Nat.le_of_lt (blk_lt H9.out.2.bs)
  go_wp2_with (go_at_call 87; refine (HC.out w9 k9 gs _ [] rw0 H9.out.2.ps H9.out.2.bs N3.out.2.2.2.2.1 hbz N3.out.1 (Ga.nil _ _ _ _ _) (by simp) HQW.out).mono ?_; intro e w10 hp; rcases PostAs.or hp with ⟨p, z, hr1, rfl, hst⟩ | ⟨l0, k10, v0, cs0, hr1, rfl, hps, hst, hbx, hga⟩; (have hm := HM4.out; rw [HQW.out, hr1] at hm; obtain rfl := andR_bad hm; exact ⟨rfl, rfl, (H9.out.2.st.trans hst).whole HB5.out.2.1 N3.out.2.2.2.1⟩); have H10 := Aside0.mk (And.intro hr1 (And.intro hps (And.intro (H9.out.2.st.trans hst) (And.intro hbx hga)))); clear hr1 hps hst hp hbx hga)
  have hm := HM4.out
  rw [HQW.out, H10.out.1] at hm
  have HM5 := Aside0.mk (andR_ok hm)
  clear hm HM4 HQW H8 H9 hbz
  go_loopg [52] m (fun kq vq w' => ∃ (l : List (List Value × S65)) (kk : Nat) (v : Value), Aside0 (PS w' gp gt T C kk o ∧ StayB gp gs w7 w' ∧ w'.heap[gs]? = some (.cells (SV.cells ⟨3, tb, .slice none 0 0, .slice none 0 0, v, false, z34, none, 0, ⟨#[]⟩, false, 0⟩) 44 (0, 0)) ∧ Ga k65 65 gs (· = gs) w' v l ∧ l.length + kq ≤ m + 1 ∧ andR (updL T n o kq (l.map (·.2)) kk) (fun l k5 => updC T n o tb l k5) = some r))
  case atStart => exact ⟨[(cs0, l0)], k10, v0, ⟨H10.out.2.1, H10.out.2.2.1, H10.out.2.2.2.1, H10.out.2.2.2.2, by simp; omega, HM5.out⟩⟩
  case round =>
  obtain ⟨l, kk, v, HJ⟩ := hrel
  clear H10 HM5
  have hr := HJ.out.2.2.2.2.2
  have hln := HJ.out.2.2.2.2.1
  cases gk with
  | zero => obtain ⟨_, h⟩ := andR_some hr; cases h
  | succ kq =>
  obtain ⟨Av, cv, rfl⟩ := own_slice' HJ.out.2.2.2.1.own
  unfold updL at hr
  by_cases hc : isB (tokAt T kk) (⟨#[44]⟩ : ByteArray) = true
  · rw [if_pos hc] at hr
    have HCm := Aside0.mk (And.intro hc (HE.out.1 kk HJ.out.1.at_ (by have := isB_kind hc; omega)))
    have HM := Aside0.mk hr
    clear hc hr
    go_upto_region 18 with (go_at_call 37; refine (take_yes HJ.out.1 _ HCm.out.1 HCm.out.2).mono ?_; rintro e w11 ⟨rfl, hps, hst⟩; have H11 := Aside0.mk (And.intro hps (And.intro (HJ.out.2.1.stay hst N3.out.2.2.2.2.2) (And.intro (hst.cells HJ.out.2.2.1 (Nat.ne_of_gt N3.out.1)) (HJ.out.2.2.2.1.stay hst N3.out.1)))); clear hps hst)
    obtain ⟨bp, hbp⟩ : ∃ b, namedB (tokAt T (kk + 1)) = b := ⟨_, rfl⟩
    have hm := HM.out
    rw [hbp, List.length_map] at hm
    have HM := Aside0.mk hm
    have HG := Aside0.mk hbp
    clear hm hbp
    have C2 := (blk_cell H11.out.2.2.1 4).trans rfl
    simp [SV.cells] at C2
    obtain ⟨b6, hb6⟩ : ∃ b, ((l.length : Int) == 6) = b := ⟨_, rfl⟩
    go_cut [60] (fun vq wc => vq = .bool (bp && b6) ∧ Aside0 (PS wc gp gt T C (kk + 1) o ∧ StayB gp gs w7 wc ∧ wc.heap[gs]? = some (.cells (SV.cells ⟨3, tb, .slice none 0 0, .slice none 0 0, (.slice Av l.length cv), false, z34, none, 0, ⟨#[]⟩, false, 0⟩) 44 (0, 0)) ∧ Ga k65 65 gs (· = gs) wc (.slice Av l.length cv) l))
    case first =>
      cases bp with
      | true =>
        go_wp2_with (go_at_call 88; refine (named_calls HE.out.2 H11.out.1).mono ?_; rw [HG.out]; rintro e w12 ⟨rfl, hb⟩; have H12 := Aside0.mk (And.intro (H11.out.1.step hb) (And.intro (H11.out.2.1.step hb N3.out.2.2.2.2.2) (And.intro (blk_below H11.out.2.2.1 hb) (H11.out.2.2.2.below hb)))); have D2 := (blk_cell (blk_below H11.out.2.2.1 hb) 4).trans rfl; simp [SV.cells] at D2; clear hb)
        go_meet
        case rel => exact ⟨by simp [hb6], ⟨H12.out⟩⟩
      | false =>
        go_wp2_with (go_at_call 88; refine (named_calls HE.out.2 H11.out.1).mono ?_; rw [HG.out]; rintro e w12 ⟨rfl, hb⟩; have H12 := Aside0.mk (And.intro (H11.out.1.step hb) (And.intro (H11.out.2.1.step hb N3.out.2.2.2.2.2) (And.intro (blk_below H11.out.2.2.1 hb) (H11.out.2.2.2.below hb)))); have D2 := (blk_cell (blk_below H11.out.2.2.1 hb) 4).trans rfl; simp [SV.cells] at D2; clear hb)
        go_meet
        case rel => exact ⟨by simp, ⟨H12.out⟩⟩
    case rest =>
    obtain ⟨rfl, H13⟩ := hcut
    clear H11 HJ C2
    have hm := HM.out
    by_cases hl6 : bp = true ∧ l.length = 6
    · rw [if_pos hl6] at hm
      obtain rfl := andR_bad hm
      have e6 : b6 = true := by rw [← hb6, hl6.2]; rfl
      have e7 : (bp && b6) = true := by rw [hl6.1, e6]; rfl
      rw [e7]
      clear hm hl6 hb6 e6 e7
      go_wp2_with (go_at_call 39; refine (wrong_calls H13.out.1 3).mono ?_; rintro e w8 ⟨rfl, rfl⟩; exact ⟨rfl, rfl, H13.out.2.1.whole HB5.out.2.1 N3.out.2.2.2.1⟩)
    · rw [if_neg hl6] at hm
      have e7 : (bp && b6) = false := by
        cases hx : bp with
        | false => rfl
        | true =>
          have : ¬ l.length = 6 := fun h => hl6 ⟨hx, h⟩
          rw [← hb6]
          simp
          omega
      rw [e7]
      clear hl6 hb6 e7
      obtain ⟨r1, hq1⟩ := andR_some hm
      obtain ⟨r0, hq0⟩ := andR_some hq1
      rw [hq0] at hm
      have HM := Aside0.mk hm
      have HQ0 := Aside0.mk hq0
      clear hm hq0 hq1
      have hbz : gs ≤ wc.heap.size := Nat.le_of_lt (blk_lt H13.out.2.2.1)
      go_wp2_with (go_at_call 87; refine (HC.out wc (kk + 1) gs _ l r0 H13.out.1 H13.out.2.2.1 N3.out.2.2.2.2.1 hbz N3.out.1 H13.out.2.2.2 (by have := HM6.out; omega) HQ0.out).mono ?_; intro e w14 hp; rcases PostAs.or hp with ⟨p, z, hr1, rfl, hst⟩ | ⟨l1, k14, v1, cs1, hr1, rfl, hps, hst, hbx, hga⟩; (subst hr1; obtain rfl := Option.some.inj (show some (Rd.bad p z) = some r from HM.out); exact ⟨rfl, rfl, (H13.out.2.1.trans hst).whole HB5.out.2.1 N3.out.2.2.2.1⟩); subst hr1; have H14 := Aside0.mk (And.intro hps (And.intro (H13.out.2.1.trans hst) (And.intro hbx hga))); clear hps hst hp hbx hga)
      go_roundg kq
      case measure => omega
      case rel => exact ⟨l ++ [(cs1, l1)], k14, v1, ⟨H14.out.1, H14.out.2.1, H14.out.2.2.1, H14.out.2.2.2, by simp; omega, by rw [List.map_append]; exact HM.out⟩⟩
  · rw [if_neg hc] at hr
    have hc' : isB (tokAt T kk) (⟨#[44]⟩ : ByteArray) = false := by simpa using hc
    have HCm := Aside0.mk hc'
    have HM := Aside0.mk (andR_ok hr)
    clear hc hc' hr
    have hll : l.length ≤ 1000000 := by have := HM6.out; omega
    unfold updC at HM
    go_upto_region 21 with (go_at_call 37; refine (take_no HJ.out.1 _ HCm.out).mono ?_; rintro e w15 ⟨rfl, he⟩; replace he := he.symm; subst he)
    have hra := (HJ.out.2.2.2.1.ra hll).wide (S1 := fun q => gs ≤ q ∧ q ≠ gs) (fun q _ h => h)
    have H8 : Aside0 (StI w7 gp gt T C o gs ⟨3, tb, .slice none 0 0, .slice none 0 0, (.slice Av l.length cv), false, z34, none, 0, ⟨#[]⟩, false, 0⟩ [] [] (l.map (·.2)) kk wr) := ⟨HJ.out.1, HJ.out.2.1, HJ.out.2.2.1, RA.nil _ _ _, RA.nil _ _ _, hra, EA.nil _ _⟩
    clear hra HJ
    obtain ⟨rw1, hqw⟩ := andR_some HM.out
    have HQW := Aside0.mk hqw
    clear hqw
    go_upto_region 22 with (go_at_call 89; refine (HWh.out wr _ _ _ _ H8.out.ps H8.out.bs N3.out.2.2.2.2.1 HQW.out).mono ?_; intro e w9 hp; rcases PostW.or hp with ⟨p, z, hr1, rfl, hst⟩ | ⟨y, k9, A7, c7, hr1, rfl, hps, hst, hbx⟩; (have hm := HM.out; rw [HQW.out, hr1] at hm; obtain rfl := andR_bad hm; exact ⟨rfl, rfl, (H8.out.st.stay2 hst N3.out.2.2.2.2.2 (Nat.le_refl _)).whole HB5.out.2.1 N3.out.2.2.2.1⟩); obtain ⟨A8, c8, hS⟩ := H8.out.where hps hst N3.out.1 N3.out.2.2.2.2.2 hbx; have H9 := Aside0.mk (And.intro hr1 hS); clear hr1 hps hst hp hbx hS)
    have hm := HM.out
    rw [HQW.out, H9.out.1] at hm
    obtain rfl := Option.some.inj (andR_ok hm)
    clear hm HM HQW
    have HS := Aside0.mk H9.out.2
    have q := fun i => blk_cell HS.out.bs i
    have q0 := (q 0).trans rfl
    have q1 := (q 1).trans rfl
    have q2 := (q 2).trans rfl
    have q3 := (q 3).trans rfl
    have q4 := (q 4).trans rfl
    have q5 := (q 5).trans rfl
    have q6 := (q 6).trans rfl
    have q7 := (q 7).trans rfl
    have q8 := (q 8).trans rfl
    have q9 := (q 9).trans rfl
    have q10 := (q 10).trans rfl
    have q11 := (q 11).trans rfl
    have q12 := (q 12).trans rfl
    have q13 := (q 13).trans rfl
    have q14 := (q 14).trans rfl
    clear q
    simp [SV.cells] at q0 q1 q2 q3 q4 q5 q6 q7 q8 q9 q10 q11 q12 q13 q14
    go_wp2_with (with_reducible refine gate_store (t := 44) (p := 2) rfl ?_; refine Hold.out ?_)
    refine ⟨?_⟩
    have hb2 := HS.out.st.cells HB5.out.2.2 N3.out.2.2.1 N2.out.1
    refine wpList_store_row rfl 44 _ _ rfl g2 (SV.cells ⟨3, tb, .slice none 0 0, .slice none 0 0, .slice Av l.length cv, y.isSome, y.getD z34, A8, c8, ⟨#[]⟩, false, 0⟩) rfl rfl 44 zs15 hb2 (by kernel_rfl) rfl (by simp [SV.cells, Value.oneCell']) ?_
    go_wp2
    refine bodyPost_ret (results_c rfl _ _ g2 44 _ (0,0) _ rfl (setRow_heap _ _ _ _ _ _ hb2) Tryz.underlying44 rfl (by kernel_rfl)) rfl ?_
    exact HS.out.post HB5.out.2.1 N2.out.2.2.1 N3.out.2.2.1 N2.out.1 N2.out.2.1 N2.out.2.2.2.1
end Go.Proofs.YtlpnlfahlcingaaGreatDoor.PL
end
section
namespace Go.Proofs.YtlpnlfahlcingaaGreatDoor.PL
open Go.RowKit Go.Proofs.YtlpnlfahlcingaaGreatDoorW.PrintWords Go.Proofs.YtlpnlfahlcingaaGreatDoorW.PrintLast Go.Proofs.YtlpnlfahlcingaaGreatDoorW.PrintMore
set_option linter.unusedVariables false
set_option linter.unusedSimpArgs false
attribute [local go_sem] World.cell?_alloc_some
attribute [local go_sem ↓] isSome_setCell
theorem stmt_calls {w : World} {gp gt : Nat} {T : List Tok} {C k : Nat} {o : Int} (hE : TE T) (hW : TW T) (h : PS w gp gt T C k o) (ho : o ≤ 200) (n m : Nat) (hm6 : m ≤ 900000) (r : Rd S44) (hr : stmtR T n m k o = some r) :
    Calls Tryz.prog 36 #[.pointer (some ⟨gp, 0, none⟩)] w (PostS w gp gt T C o r) := by
  unfold stmtR at hr
  cases h1 : isB (tokAt T k) (⟨#[83, 69, 76, 69, 67, 84]⟩ : ByteArray) with
  | true => rw [if_pos h1] at hr; exact stmt_sel hE hW h ho n m hm6 h1 r hr
  | false =>
    rw [if_neg (by rw [h1]; simp)] at hr
    cases h2 : isB (tokAt T k) (⟨#[73, 78, 83, 69, 82, 84]⟩ : ByteArray) with
    | true => rw [if_pos h2] at hr; exact stmt_ins hE hW h ho n m hm6 h1 h2 r hr
    | false =>
      rw [if_neg (by rw [h2]; simp)] at hr
      cases h3 : isB (tokAt T k) (⟨#[85, 80, 68, 65, 84, 69]⟩ : ByteArray) with
      | true => rw [if_pos h3] at hr; exact stmt_upd hE hW h ho n m hm6 h1 h2 h3 r hr
      | false => rw [if_neg (by rw [h3]; simp)] at hr; exact stmt_del hE hW h ho n m hm6 h1 h2 h3 r hr
end Go.Proofs.YtlpnlfahlcingaaGreatDoor.PL
end
