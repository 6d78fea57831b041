/- What part 2 of the texts under treeDeep_holds proves: contracts of functions of this seat, and plain facts about what they compute. Conditions: those that each theorem names. -/
import Derived.Test.YtlpnlfahlcingaaGreatDoorTD1
import Derived.Deep.RegionHeld
import Derived.Deep.RegionHeld2
section
namespace Go.Proofs.YtlpnlfahlcingaaGreatDoor.PL
open Go.RowKit Go.Proofs.YtlpnlfahlcingaaGreatDoorW.PrintWords Go.Proofs.YtlpnlfahlcingaaGreatDoorW.PrintLast Go.Proofs.YtlpnlfahlcingaaGreatDoorW.PrintMore
set_option linter.unusedVariables false
set_option linter.unusedSimpArgs false
attribute [local go_sem] World.cell?_alloc_some
attribute [local go_sem ↓] isSome_setCell
def chainL (T : List Tok) (f : Nat → Int → Option (Rd S155)) (L : List ByteArray) (o : Int) : Nat → S155 → Nat → Option (Rd S155)
  | 0, _, _ => none
  | n + 1, d, k =>
    if beginsB T k L = true then
      match ruleR T f (k + 1) o with
      | none => none
      | some (.bad p x) => some (.bad p x)
      | some (.ok d2 k2) =>
        match opR (tokAt T k).f1 (tokAt T k).f2 [d, d2] k2 with
        | .ok d3 _ => chainL T f L o n d3 k2
        | .bad p x => some (.bad p x)
    else some (.ok d k)
def chainR (T : List Tok) (f : Nat → Int → Option (Rd S155)) (L : List ByteArray) (n k : Nat) (o : Int) : Option (Rd S155) :=
  match ruleR T f k o with
  | none => none
  | some (.bad p x) => some (.bad p x)
  | some (.ok d k1) => chainL T f L o n d k1
def dcs (A : Option Addr) (c : Nat) (d : S155) : Array Value := #[.int .i64 d.f0.f0, .string d.f0.f1, .int .i64 d.f0.f2.f0, .int .i64 d.f0.f2.f1, .string d.f0.f2.f2, .slice A d.f0.f3.length c, .int .i64 d.f1]
def ChI (w : World) (gp gt : Nat) (T : List Tok) (C : Nat) (o : Int) (g6 g7 : Nat) (d : S155) (k : Nat) (wr : World) : Prop :=
  PS wr gp gt T C k o ∧ Stay gp w wr ∧ wr.heap[g6]? = some (.cells z7 155 (0, 0)) ∧ (0 ≤ d.f1 ∧ d.f1 ≤ 16) ∧
  ∃ A c, wr.heap[g7]? = some (.cells (dcs A c d) 155 (0, 0)) ∧ EA wr (fun k => w.heap.size ≤ k ∧ k ≠ g7 ∧ k ≠ g6) (.slice A d.f0.f3.length c) d.f0.f3
theorem PostD.or {w w' : World} {gp gt : Nat} {T : List Tok} {C : Nat} {o : Int} {r : Rd S155} {e : Ending} (h : PostD w gp gt T C o r e w') :
    (∃ p x, r = .bad p x ∧ e = .panicked [{ v := failV p x, recovered := false }] ∧ Stay gp w w') ∨
    (∃ A c d k, r = .ok d k ∧ e = .returned (.agg #[.int .i64 d.f0.f0, .string d.f0.f1, .int .i64 d.f0.f2.f0, .int .i64 d.f0.f2.f1, .string d.f0.f2.f2, .slice A d.f0.f3.length c, .int .i64 d.f1]) ∧ EA w' (Fr w) (.slice A d.f0.f3.length c) d.f0.f3 ∧ (0 ≤ d.f1 ∧ d.f1 ≤ 16) ∧ PS w' gp gt T C k o ∧ Stay gp w w') := by
  cases r with
  | bad p x => exact .inl ⟨p, x, rfl, h.1, h.2⟩
  | ok d k =>
    obtain ⟨v, rfl, ⟨A, c, rfl, h1, h2⟩, hd, hp, hs⟩ := h
    exact .inr ⟨A, c, d, k, rfl, rfl, ⟨A, c, rfl, h1, h2⟩, hd, hp, hs⟩
theorem dcs_cells {w : World} {g c : Nat} {A : Option Addr} {d : S155} (h : w.heap[g]? = some (.cells (dcs A c d) 155 (0, 0))) :
    w.cell? ⟨g, 0, none⟩ = some (.int .i64 d.f0.f0) ∧ w.cell? ⟨g, 1, none⟩ = some (.string d.f0.f1) ∧ w.cell? ⟨g, 2, none⟩ = some (.int .i64 d.f0.f2.f0) ∧ w.cell? ⟨g, 3, none⟩ = some (.int .i64 d.f0.f2.f1) ∧ w.cell? ⟨g, 4, none⟩ = some (.string d.f0.f2.f2) ∧ w.cell? ⟨g, 5, none⟩ = some (.slice A d.f0.f3.length c) ∧ w.cell? ⟨g, 6, none⟩ = some (.int .i64 d.f1) :=
  ⟨(blk_cell h 0).trans rfl, (blk_cell h 1).trans rfl, (blk_cell h 2).trans rfl, (blk_cell h 3).trans rfl, (blk_cell h 4).trans rfl, (blk_cell h 5).trans rfl, (blk_cell h 6).trans rfl⟩
def tcs (t : Tok) : Array Value := #[.int .i64 t.f0, .int .i64 t.f1, .string t.f2, .int .i64 t.f3]
theorem tok_cells {w : World} {g : Nat} {t : Tok} (h : w.heap[g]? = some (.cells (tcs t) 75 (0, 0))) :
    w.cell? ⟨g, 0, none⟩ = some (.int .i64 t.f0) ∧ w.cell? ⟨g, 1, none⟩ = some (.int .i64 t.f1) ∧ w.cell? ⟨g, 2, none⟩ = some (.string t.f2) ∧ w.cell? ⟨g, 3, none⟩ = some (.int .i64 t.f3) :=
  ⟨(blk_cell h 0).trans rfl, (blk_cell h 1).trans rfl, (blk_cell h 2).trans rfl, (blk_cell h 3).trans rfl⟩
theorem op_or {w w' : World} {b0 : Nat → Prop} {k : Nat} {p0 : Int} {s : ByteArray} {l : List S155} {e : Ending} (h : Below w.heap.size w w' ∧
      match opR p0 s l k with
      | .ok d _ => ∃ v, e = .returned (dv v d) ∧ EA w' b0 v d.f0.f3 ∧ 0 ≤ d.f1 ∧ d.f1 ≤ 16
      | .bad p x => e = .panicked [{ v := failV p x, recovered := false }]) :
    Below w.heap.size w w' ∧ ((∃ p x, opR p0 s l k = .bad p x ∧ e = .panicked [{ v := failV p x, recovered := false }]) ∨
    (∃ A c d, opR p0 s l k = .ok d k ∧ e = .returned (.agg #[.int .i64 d.f0.f0, .string d.f0.f1, .int .i64 d.f0.f2.f0, .int .i64 d.f0.f2.f1, .string d.f0.f2.f2, .slice A d.f0.f3.length c, .int .i64 d.f1]) ∧ EA w' b0 (.slice A d.f0.f3.length c) d.f0.f3 ∧ (0 ≤ d.f1 ∧ d.f1 ≤ 16))) := by
  refine ⟨h.1, ?_⟩
  have h2 := h.2
  unfold opR at h2 ⊢
  dsimp only at h2 ⊢
  split at h2
  · rename_i heq
    split at heq
    · cases heq
    · cases heq
      obtain ⟨v, rfl, ⟨A, c, rfl, h3, h4⟩, h5⟩ := h2
      rename_i hn
      rw [if_neg hn]
      exact .inr ⟨A, c, _, rfl, rfl, ⟨A, c, rfl, h3, h4⟩, h5⟩
  · rename_i heq
    split at heq
    · cases heq
      rename_i hn
      rw [if_pos hn]
      exact .inl ⟨_, _, rfl, h2⟩
    · cases heq
theorem op2_calls {W : World} (t : Tok) (s : ByteArray) {A2 A3 : Option Addr} {c2 c3 : Nat} {b0 : Nat → Prop} {d2 d3 : S155} (h2 : EA W b0 (.slice A2 d2.f0.f3.length c2) d2.f0.f3) (n2 : 0 ≤ d2.f1 ∧ d2.f1 ≤ 16) (h3 : EA W b0 (.slice A3 d3.f0.f3.length c3) d3.f0.f3) (n3 : 0 ≤ d3.f1 ∧ d3.f1 ≤ 16) (hb : ∀ k, W.heap.size ≤ k → b0 k) (k : Nat) :
    Calls Tryz.prog 142 #[.agg #[.int .i64 t.f0, .int .i64 t.f1, .string t.f2, .int .i64 t.f3], .string s, .slice (some ⟨W.heap.size, 0, none⟩) 2 2]
      (W.alloc (.cells #[.int .i64 d2.f0.f0, .string d2.f0.f1, .int .i64 d2.f0.f2.f0, .int .i64 d2.f0.f2.f1, .string d2.f0.f2.f2, .slice A2 d2.f0.f3.length c2, .int .i64 d2.f1, .int .i64 d3.f0.f0, .string d3.f0.f1, .int .i64 d3.f0.f2.f0, .int .i64 d3.f0.f2.f1, .string d3.f0.f2.f2, .slice A3 d3.f0.f3.length c3, .int .i64 d3.f1] 155 (0, 0))) fun e w' =>
      Below W.heap.size W w' ∧ ((∃ p x, opR t.f1 s [d2, d3] k = .bad p x ∧ e = .panicked [{ v := failV p x, recovered := false }]) ∨
      (∃ A c d, opR t.f1 s [d2, d3] k = .ok d k ∧ e = .returned (.agg #[.int .i64 d.f0.f0, .string d.f0.f1, .int .i64 d.f0.f2.f0, .int .i64 d.f0.f2.f1, .string d.f0.f2.f2, .slice A d.f0.f3.length c, .int .i64 d.f1]) ∧ EA w' b0 (.slice A d.f0.f3.length c) d.f0.f3 ∧ (0 ≤ d.f1 ∧ d.f1 ≤ 16))) := by
  have hnew := blk_new W (.cells #[.int .i64 d2.f0.f0, .string d2.f0.f1, .int .i64 d2.f0.f2.f0, .int .i64 d2.f0.f2.f1, .string d2.f0.f2.f2, .slice A2 d2.f0.f3.length c2, .int .i64 d2.f1, .int .i64 d3.f0.f0, .string d3.f0.f1, .int .i64 d3.f0.f2.f0, .int .i64 d3.f0.f2.f1, .string d3.f0.f2.f2, .slice A3 d3.f0.f3.length c3, .int .i64 d3.f1] 155 (0, 0))
  have hbe : ∀ O, Below W.heap.size W (W.alloc O) := fun O => below_alloc (Below.refl _ _) O
  refine (op_calls t s [(.slice A2 d2.f0.f3.length c2, d2), (.slice A3 d3.f0.f3.length c3, d3)] W.heap.size b0 (by simp) ?_ (fun k hk => hb k (by simp at hk; omega)) (by simp) ?_ k).mono ?_
  · intro p hp
    simp at hp
    rcases hp with rfl | rfl
    · exact ⟨h2.of (fun _ _ h => h) (by simp) fun k _ hk => Below.heap_alloc W _ k hk, n2⟩
    · exact ⟨h3.of (fun _ _ h => h) (by simp) fun k _ hk => Below.heap_alloc W _ k hk, n3⟩
  · intro j p hp
    match j, hp with
    | 0, hp =>
      obtain rfl := Option.some.inj hp
      exact ⟨(blk_cell hnew 0).trans rfl, (blk_cell hnew 1).trans rfl, (blk_cell hnew 2).trans rfl, (blk_cell hnew 3).trans rfl, (blk_cell hnew 4).trans rfl, (blk_cell hnew 5).trans rfl, (blk_cell hnew 6).trans rfl⟩
    | 1, hp =>
      obtain rfl := Option.some.inj hp
      exact ⟨(blk_cell hnew 7).trans rfl, (blk_cell hnew 8).trans rfl, (blk_cell hnew 9).trans rfl, (blk_cell hnew 10).trans rfl, (blk_cell hnew 11).trans rfl, (blk_cell hnew 12).trans rfl, (blk_cell hnew 13).trans rfl⟩
    | j + 2, hp => simp at hp
  · intro e w' h
    obtain ⟨h1, h2⟩ := op_or h
    exact ⟨below_step (hbe _) h1, h2⟩
theorem op1_calls {W : World} (t : Tok) (s : ByteArray) {A2 : Option Addr} {c2 : Nat} {b0 : Nat → Prop} {d2 : S155} (h2 : EA W b0 (.slice A2 d2.f0.f3.length c2) d2.f0.f3) (n2 : 0 ≤ d2.f1 ∧ d2.f1 ≤ 16) (hb : ∀ k, W.heap.size ≤ k → b0 k) (k : Nat) :
    Calls Tryz.prog 142 #[.agg #[.int .i64 t.f0, .int .i64 t.f1, .string t.f2, .int .i64 t.f3], .string s, .slice (some ⟨W.heap.size, 0, none⟩) 1 1]
      (W.alloc (.cells #[.int .i64 d2.f0.f0, .string d2.f0.f1, .int .i64 d2.f0.f2.f0, .int .i64 d2.f0.f2.f1, .string d2.f0.f2.f2, .slice A2 d2.f0.f3.length c2, .int .i64 d2.f1] 155 (0, 0))) fun e w' =>
      Below W.heap.size W w' ∧ ((∃ p x, opR t.f1 s [d2] k = .bad p x ∧ e = .panicked [{ v := failV p x, recovered := false }]) ∨
      (∃ A c d, opR t.f1 s [d2] k = .ok d k ∧ e = .returned (.agg #[.int .i64 d.f0.f0, .string d.f0.f1, .int .i64 d.f0.f2.f0, .int .i64 d.f0.f2.f1, .string d.f0.f2.f2, .slice A d.f0.f3.length c, .int .i64 d.f1]) ∧ EA w' b0 (.slice A d.f0.f3.length c) d.f0.f3 ∧ (0 ≤ d.f1 ∧ d.f1 ≤ 16))) := by
  have hnew := blk_new W (.cells #[.int .i64 d2.f0.f0, .string d2.f0.f1, .int .i64 d2.f0.f2.f0, .int .i64 d2.f0.f2.f1, .string d2.f0.f2.f2, .slice A2 d2.f0.f3.length c2, .int .i64 d2.f1] 155 (0, 0))
  have hbe : ∀ O, Below W.heap.size W (W.alloc O) := fun O => below_alloc (Below.refl _ _) O
  refine (op_calls t s [(.slice A2 d2.f0.f3.length c2, d2)] W.heap.size b0 (by simp) ?_ (fun k hk => hb k (by simp at hk; omega)) (by simp) ?_ k).mono ?_
  · intro p hp
    simp at hp
    subst hp
    exact ⟨h2.of (fun _ _ h => h) (by simp) fun k _ hk => Below.heap_alloc W _ k hk, n2⟩
  · intro j p hp
    match j, hp with
    | 0, hp =>
      obtain rfl := Option.some.inj hp
      exact ⟨(blk_cell hnew 0).trans rfl, (blk_cell hnew 1).trans rfl, (blk_cell hnew 2).trans rfl, (blk_cell hnew 3).trans rfl, (blk_cell hnew 4).trans rfl, (blk_cell hnew 5).trans rfl, (blk_cell hnew 6).trans rfl⟩
    | j + 1, hp => simp at hp
  · intro e w' h
    obtain ⟨h1, h2⟩ := op_or h
    exact ⟨below_step (hbe _) h1, h2⟩
theorem PS.put_far {w : World} {gp gt : Nat} {T : List Tok} {C k : Nat} {o : Int} (h : PS w gp gt T C k o) {g : Nat} (h1 : g ≠ gp) (h2 : g ≠ gt) (h3 : 2 ≤ g) (i : Nat) (u : Value) : PS (w.setCell ⟨g, i, none⟩ u) gp gt T C k o := by
  obtain ⟨cur, hb, hc⟩ := h.toks
  exact ⟨blk_far h.box h1.symm _, ⟨cur, blk_far hb h2.symm _, hc⟩, h.ne, h.len, h.room, h.at_, h.lo, h.hi, h.gp2, h.sh.of (Below.heap_setCell w _ u 0 (by dsimp only; omega)) (Below.heap_setCell w _ u 1 (by dsimp only; omega))⟩
theorem Stay.new {gp g : Nat} {w w1 : World} (h : Stay gp w w1) (hg : w.heap.size ≤ g) (i : Nat) (u : Value) : Stay gp w (w1.setCell ⟨g, i, none⟩ u) :=
  ⟨h.os, h.tape, h.output, by rw [show (w1.setCell ⟨g, i, none⟩ u).heap.size = w1.heap.size by simp [World.setCell]]; exact h.size, fun k hk hne => (Below.heap_setCell w1 ⟨g, i, none⟩ u k (by dsimp only; omega)).trans (h.block k hk hne)⟩
theorem EA.put {w : World} {S : Nat → Prop} {v : Value} {xs : List S34} (h : EA w S v xs) {g : Nat} (hg : ¬ S g) (i : Nat) (u : Value) : EA (w.setCell ⟨g, i, none⟩ u) S v xs :=
  h.of (fun _ _ h => h) (by simp [World.setCell]) fun k h1 h2 => Below.heap_setCell w ⟨g, i, none⟩ u k (fun e => hg (by rw [show k = g from e] at h1; exact h1))
def put7 (w : World) (g : Nat) (A : Option Addr) (c : Nat) (d : S155) : World :=
  ((((((w.setCell ⟨g, 0, none⟩ (.int .i64 d.f0.f0)).setCell ⟨g, 1, none⟩ (.string d.f0.f1)).setCell ⟨g, 2, none⟩ (.int .i64 d.f0.f2.f0)).setCell ⟨g, 3, none⟩ (.int .i64 d.f0.f2.f1)).setCell ⟨g, 4, none⟩ (.string d.f0.f2.f2)).setCell ⟨g, 5, none⟩ (.slice A d.f0.f3.length c)).setCell ⟨g, 6, none⟩ (.int .i64 d.f1)
theorem put7_blk {w : World} {g c c1 : Nat} {A A1 : Option Addr} {d d1 : S155} (h : w.heap[g]? = some (.cells (dcs A1 c1 d1) 155 (0, 0))) : (put7 w g A c d).heap[g]? = some (.cells (dcs A c d) 155 (0, 0)) :=
  blk_put (blk_set (blk_set (blk_set (blk_set (blk_set (blk_set h 0 _) 1 _) 2 _) 3 _) 4 _) 5 _) 6 _ (by simp [dcs])
theorem begins_kind {T : List Tok} {k : Nat} {L : List ByteArray} (h : beginsB T k L = true) : (tokAt T k).f0 = 1 ∨ (tokAt T k).f0 = 4 := by
  unfold beginsB at h
  obtain ⟨s, _, hs⟩ := List.any_eq_true.1 h
  exact isB_kind hs
set_option maxHeartbeats 8000000 in
set_option maxRecDepth 100000 in
theorem chain_calls {w : World} {gp gt : Nat} {T : List Tok} {C k : Nat} {o : Int} (hE : TE T) (h : PS w gp gt T C k o) (ho : o ≤ 200) {F : FuncId} {fn : Func} (hf : Tryz.prog.funcs[F]? = some fn) (hname : (fn.name == "runtime.NumGoroutine") = false) (hb : fn.body.isSome = true)
    (f : Nat → Int → Option (Rd S155)) (hF : ∀ (w1 : World) (k1 : Nat) (r : Rd S155), PS w1 gp gt T C k1 (o + 1) → o + 1 ≤ 200 → f k1 (o + 1) = some r → Calls Tryz.prog F #[.pointer (some ⟨gp, 0, none⟩)] w1 (PostD w1 gp gt T C (o + 1) r))
    (L : List ByteArray) (gs : Nat) (hL : StrsAt w gs L) (hgs : gs ≠ gp) (hgl : gs < w.heap.size) (hn : L.length ≤ 1000)
    (n : Nat) (r : Rd S155) (hr : chainR T f L n k o = some r) :
    Calls Tryz.prog 134 #[.pointer (some ⟨gp, 0, none⟩), .func (.func F) #[.pointer (some ⟨gp, 0, none⟩)] #[], .slice (some ⟨gs, 0, none⟩) L.length L.length] w (PostD w gp gt T C o r) := by
  have H := Aside0.mk (And.intro hE (And.intro h (And.intro hL (And.intro hgs hgl))))
  have HN := Aside0.mk (And.intro ho hn)
  have HR := Aside0.mk (fun (w1 : World) (k1 : Nat) (r1 : Rd S155) (h1 : PS w1 gp gt T C k1 o) (h2 : ruleR T f k1 o = some r1) => rule_calls h1 ho hf hname hb f (fun w2 r2 h3 => hF w2 k1 r2 h3) r1 h2)
  clear hE h hL hgs hgl hF ho hn
  unfold chainR at hr
  go_enter Tryz.func134, Tryz.ntmps134
  go_upto_region 1 with (fail)
  obtain ⟨g6, hg6⟩ : ∃ g, w.heap.size = g := ⟨_, rfl⟩
  have B6 := Aside0.mk (fun O : Obj => hg6 ▸ blk_new w O)
  rw [hg6]
  have N6 := Aside0.mk (show g6 ≠ gp ∧ g6 ≠ gt ∧ w.heap.size ≤ g6 ∧ gp < w.heap.size by have := H.out.2.1.gt_lt; have := blk_lt H.out.2.1.box; omega)
  clear hg6
  refine at_world (fun w1 => Aside0 (PS w1 gp gt T C k o ∧ Stay gp w w1 ∧ w1.heap[g6]? = some (.cells z7 155 (0, 0)))) ⟨H.out.2.1.step (below_alloc (Below.refl _ _) _), (Stay.refl gp w).step (below_alloc (Below.refl _ _) _), B6.out _⟩ (fun w1 H1 => ?_)
  cases hq : ruleR T f k o with
  | none => rw [hq] at hr; cases hr
  | some r1 =>
  rw [hq] at hr
  cases r1 with
  | bad p x =>
    obtain rfl := Option.some.inj hr
    go_wp2_with (go_at_call 128; refine (HR.out w1 k _ H1.out.1 hq).mono ?_; rintro e w2 ⟨rfl, hs⟩; have H2 := Aside0.mk hs; clear hs)
    exact ⟨rfl, rfl, H1.out.2.1.trans H2.out⟩
  | ok d k1 =>
    replace hr : chainL T f L o n d k1 = some r := hr
    have HQ := Aside0.mk hq
    have HL := Aside0.mk hr
    clear hq hr
    go_wp2_with (go_at_call 128; refine (HR.out w1 k _ H1.out.1 HQ.out).mono ?_; rintro e w2 ⟨v, hv, ⟨Aq, cq, rfl, hq1, hq2⟩, hdn, hps, hst⟩; unfold dv at hv; subst hv; have H2 := Aside0.mk (And.intro (show EA w2 (Fr w1) (.slice Aq d.f0.f3.length cq) d.f0.f3 from ⟨Aq, cq, rfl, hq1, hq2⟩) (And.intro hdn (And.intro hps hst))); clear hq1 hq2 hps hst hdn)
    obtain ⟨g7, hg7⟩ : ∃ g, w2.heap.size = g := ⟨_, rfl⟩
    have B7 := Aside0.mk (fun O : Obj => hg7 ▸ blk_new w2 O)
    have N7 := Aside0.mk (show g7 ≠ gp ∧ g7 ≠ gt ∧ w.heap.size ≤ g7 ∧ g6 ≠ g7 by
      have := H2.out.2.2.1.gt_lt; have := blk_lt H2.out.2.2.1.box; have := H1.out.2.1.size; have := H2.out.2.2.2.size; have := blk_lt H1.out.2.2; omega)
    rw [hg7]
    have G7 := Aside0.mk hg7
    clear hg7
    refine at_world (fun w3 => Aside0 (ChI w gp gt T C o g6 g7 d k1 w3))
      ⟨H2.out.2.2.1.step (below_alloc (Below.refl _ _) _), (H1.out.2.1.trans H2.out.2.2.2).step (below_alloc (Below.refl _ _) _), blk_alloc (H2.out.2.2.2.cells H1.out.2.2 N6.out.1) _, H2.out.2.1, Aq, cq, B7.out _, (H2.out.1.of (fun k hk h => ⟨Nat.le_trans H1.out.2.1.size h, by have := G7.out; omega, by have := blk_lt H1.out.2.2; unfold Fr at h; omega⟩) (by simp) fun k _ hk => Below.heap_alloc w2 _ k hk)⟩ (fun w3 H3 => ?_)
    go_loopg [] n (fun kq w' => ∃ d k, Aside0 (ChI w gp gt T C o g6 g7 d k w' ∧ chainL T f L o kq d k = some r))
    case atStart => exact ⟨d, k1, ⟨H3.out, HL.out⟩⟩
    case round =>
    clear H3 HL H2 H1 B7 B6
    obtain ⟨d2, k2, HI⟩ := hrel
    obtain ⟨A2, c2, hb7, hea⟩ := HI.out.1.2.2.2.2
    have hr := HI.out.2
    cases gk with
    | zero => cases hr
    | succ kq =>
    unfold chainL at hr
    have hst : StrsAt wr gs L := H.out.2.2.1.stay HI.out.1.2.1 H.out.2.2.2.1 H.out.2.2.2.2
    by_cases hbg : beginsB T k2 L = true
    · rw [if_pos hbg] at hr
      have hk := H.out.1 k2 HI.out.1.1.at_ (by have := begins_kind hbg; omega)
      have H7 := Aside0.mk (And.intro hb7 (And.intro hea (And.intro hst (And.intro hbg hk))))
      have HM := Aside0.mk hr
      obtain ⟨t, ht, t0, t1, t2, t3⟩ := HI.out.1.1.tok
      have Ht := Aside0.mk (tokAt_of ht)
      have c0 := HI.out.1.1.c0
      have f0 := HI.out.1.1.f0
      have hl : 1 ≤ T.length - k2 := by have := HI.out.1.1.at_; omega
      have hne : ¬ C - k2 = 1 := by have := HI.out.1.1.len; omega
      clear hb7 hea hst hr hbg hk ht
      go_upto_region 4 with (go_at_call 38; refine (begins_calls HI.out.1.1 L gs H7.out.2.2.1 HN.out.2).mono ?_; rw [H7.out.2.2.2.1]; rintro e w' ⟨rfl, he⟩; replace he := he.symm; subst he)
      obtain ⟨g8, hg8⟩ : ∃ g, wr.heap.size = g := ⟨_, rfl⟩
      have B8 := Aside0.mk (fun O : Obj => hg8 ▸ blk_new wr O)
      have N8 := Aside0.mk (show g8 ≠ gp ∧ g8 ≠ gt ∧ w.heap.size ≤ g8 ∧ g6 ≠ g8 ∧ g7 ≠ g8 by
        have := HI.out.1.1.gt_lt; have := blk_lt HI.out.1.1.box; have := HI.out.1.2.1.size; have := blk_lt HI.out.1.2.2.1; have := blk_lt H7.out.1; omega)
      rw [hg8]
      clear hg8
      refine at_world (fun w4 => Aside0 (PS w4 gp gt T C k2 o ∧ Stay gp w w4 ∧ w4.heap[g6]? = some (.cells z7 155 (0, 0)) ∧ w4.heap[g7]? = some (.cells (dcs A2 c2 d2) 155 (0, 0)) ∧ w4.heap[g8]? = some (.cells (tcs t) 75 (0, 0)) ∧ EA w4 (fun k => w.heap.size ≤ k ∧ k ≠ g7 ∧ k ≠ g6) (.slice A2 d2.f0.f3.length c2) d2.f0.f3))
        ⟨HI.out.1.1.step (below_alloc (Below.refl _ _) _), HI.out.1.2.1.step (below_alloc (Below.refl _ _) _), blk_alloc HI.out.1.2.2.1 _, blk_alloc H7.out.1 _, B8.out _,
          H7.out.2.1.stay ((Stay.refl gp wr).step (below_alloc (Below.refl _ _) _)) (fun h => Nat.not_le.2 N6.out.2.2.2 h.1)⟩ (fun w4 H4 => ?_)
      clear c0 f0 t0 t1 t2 t3
      have c0 := H4.out.1.c0
      have f0 := H4.out.1.f0
      go_upto_region 5 with (fail)
      refine at_world (fun w5 => Aside0 (PS w5 gp gt T C (k2 + 1) o ∧ Stay gp w w5 ∧ w5.heap[g6]? = some (.cells z7 155 (0, 0)) ∧ w5.heap[g7]? = some (.cells (dcs A2 c2 d2) 155 (0, 0)) ∧ w5.heap[g8]? = some (.cells (tcs t) 75 (0, 0)) ∧ EA w5 (fun k => w.heap.size ≤ k ∧ k ≠ g7 ∧ k ≠ g6) (.slice A2 d2.f0.f3.length c2) d2.f0.f3))
        ⟨H4.out.1.put0 H7.out.2.2.2.2, H4.out.2.1.set 0 _, blk_far H4.out.2.2.1 N6.out.1 _, blk_far H4.out.2.2.2.1 N7.out.1 _, blk_far H4.out.2.2.2.2.1 N8.out.1 _,
          H4.out.2.2.2.2.2.stay ((Stay.refl gp w4).set 0 _) (fun h => Nat.not_le.2 N6.out.2.2.2 h.1)⟩ (fun w5 H5 => ?_)
      clear c0 f0 hl hne H4
      have hm := HM.out
      clear HM
      rw [Ht.out] at hm
      obtain ⟨x0, x1, x2, x3⟩ := tok_cells H5.out.2.2.2.2.1
      obtain ⟨y0, y1, y2, y3, y4, y5, y6⟩ := dcs_cells H5.out.2.2.2.1
      cases hq : ruleR T f (k2 + 1) o with
      | none => rw [hq] at hm; cases hm
      | some r1 =>
      rw [hq] at hm
      have HM := Aside0.mk hm
      have HQ2 := Aside0.mk hq
      clear hq hm
      go_region_with (first | (go_at_call 128; refine (HR.out _ _ _ (H5.out.1.step (below_drew (Below.refl _ _))) HQ2.out).mono ?_; intro e w6 hp; rcases PostD.or hp with ⟨p, x, hr1, rfl, hs⟩ | ⟨A3, c3, d3, k3, hr1, rfl, hea, hdn, hps, hst⟩; (have hm := HM.out; rw [hr1] at hm; cases hm; exact ⟨rfl, rfl, (H5.out.2.1.step (below_drew (Below.refl _ _))).trans hs⟩); have b6 := hst.cells (blk_drew H5.out.2.2.1) N6.out.1; have b7 := hst.cells (blk_drew H5.out.2.2.2.1) N7.out.1; have b8 := hst.cells (blk_drew H5.out.2.2.2.2.1) N8.out.1; have e2 := H5.out.2.2.2.2.2.stay ((Below.stay (below_drew (Below.refl _ _)) gp).trans hst) (fun h => Nat.not_le.2 N6.out.2.2.2 h.1); have H6 := Aside0.mk (And.intro hr1 (And.intro hea (And.intro hdn (And.intro hps (And.intro ((H5.out.2.1.step (below_drew (Below.refl _ _))).trans hst) (And.intro b6 (And.intro b7 (And.intro b8 e2)))))))); obtain ⟨X0, X1, X2, X3⟩ := tok_cells b8; obtain ⟨Y0, Y1, Y2, Y3, Y4, Y5, Y6⟩ := dcs_cells b7; have M8 := World.new_ne w6 _ X0; clear hr1 hea hdn hps hst b6 b7 b8 e2 hp) | (go_at_call 142; refine (op2_calls t t.f2 H6.out.2.2.2.2.2.2.2.2 HI.out.1.2.2.2.1 (H6.out.2.1.of ?q1 (Nat.le_refl _) (fun _ _ _ => rfl)) H6.out.2.2.1 ?q2 k3).mono ?_; (case q1 => exact fun k _ h => ⟨Nat.le_trans H5.out.2.1.size h, by have := blk_lt H5.out.2.2.2.1; unfold Fr at h; simp at h; omega, by have := blk_lt H5.out.2.2.1; unfold Fr at h; simp at h; omega⟩); (case q2 => exact fun k h => ⟨Nat.le_trans H6.out.2.2.2.2.1.size h, by have := blk_lt H6.out.2.2.2.2.2.2.1; omega, by have := blk_lt H6.out.2.2.2.2.2.1; omega⟩); intro e w8 hp; rcases hp with ⟨hbe, ⟨p, x, hr1, rfl⟩ | ⟨A4, c4, d4, hr1, rfl, hea, hdn⟩⟩; (have hm := HM.out; rw [H6.out.1] at hm; dsimp only at hm; rw [hr1] at hm; cases hm; exact ⟨rfl, rfl, H6.out.2.2.2.2.1.step hbe⟩); have b6 := blk_below H6.out.2.2.2.2.2.1 hbe; have b7 := blk_below H6.out.2.2.2.2.2.2.1 hbe; have b8 := blk_below H6.out.2.2.2.2.2.2.2.1 hbe; have H8 := Aside0.mk (And.intro hr1 (And.intro hea (And.intro hdn (And.intro (H6.out.2.2.2.1.step hbe) (And.intro (H6.out.2.2.2.2.1.step hbe) (And.intro b6 (And.intro b7 b8))))))); obtain ⟨X0, X1, X2, X3⟩ := tok_cells b8; obtain ⟨Y0, Y1, Y2, Y3, Y4, Y5, Y6⟩ := dcs_cells b7; have Q0 := blk_frozen b7 0; have Q1 := blk_frozen b7 1; have Q2 := blk_frozen b7 2; have Q3 := blk_frozen b7 3; have Q4 := blk_frozen b7 4; have Q5 := blk_frozen b7 5; have Q6 := blk_frozen b7 6; have N87 := N8.out.2.2.2.2; clear hr1 hea hdn hbe b6 b7 b8))
      all_goals
        go_wp2
        go_roundg kq
        case measure => omega
        case rel =>
          have hm := HM.out
          rw [H6.out.1] at hm
          dsimp only at hm
          rw [H8.out.1] at hm
          have h7 := N7.out
          have h8 := N8.out
          have h72 : 2 ≤ g7 := by have := H.out.2.1.gp2; have := N6.out; omega
          refine ⟨d4, k3, ⟨⟨?_, ?_, ?_, H8.out.2.2.1, A4, c4, put7_blk H8.out.2.2.2.2.2.2.1, ?_⟩, hm⟩⟩
          · exact ((((((H8.out.2.2.2.1.put_far h7.1 h7.2.1 h72 _ _).put_far h7.1 h7.2.1 h72 _ _).put_far h7.1 h7.2.1 h72 _ _).put_far h7.1 h7.2.1 h72 _ _).put_far h7.1 h7.2.1 h72 _ _).put_far h7.1 h7.2.1 h72 _ _).put_far h7.1 h7.2.1 h72 _ _
          · exact ((((((H8.out.2.2.2.2.1.new h7.2.2.1 _ _).new h7.2.2.1 _ _).new h7.2.2.1 _ _).new h7.2.2.1 _ _).new h7.2.2.1 _ _).new h7.2.2.1 _ _).new h7.2.2.1 _ _
          · exact blk_far (blk_far (blk_far (blk_far (blk_far (blk_far (blk_far H8.out.2.2.2.2.2.1 h7.2.2.2 _) h7.2.2.2 _) h7.2.2.2 _) h7.2.2.2 _) h7.2.2.2 _) h7.2.2.2 _) h7.2.2.2 _
          · have hn : ¬ ((fun k => w.heap.size ≤ k ∧ k ≠ g7 ∧ k ≠ g6) g7) := fun h => h.2.1 rfl
            exact ((((((H8.out.2.1.put hn _ _).put hn _ _).put hn _ _).put hn _ _).put hn _ _).put hn _ _).put hn _ _
    · rw [if_neg hbg] at hr
      have hbf : beginsB T k2 L = false := by simpa using hbg
      obtain rfl := Option.some.inj hr
      have H7 := Aside0.mk (And.intro hb7 (And.intro hea (And.intro hst hbf)))
      clear hb7 hea hst hr hbg hbf
      go_upto_region 6 with (go_at_call 38; refine (begins_calls HI.out.1.1 L gs H7.out.2.2.1 HN.out.2).mono ?_; rw [H7.out.2.2.2]; rintro e w' ⟨rfl, he⟩; replace he := he.symm; subst he)
      obtain ⟨y0, y1, y2, y3, y4, y5, y6⟩ := dcs_cells H7.out.1
      go_wp2_with (with_reducible refine gate_store (t := 155) (p := 6) rfl ?_; refine Hold.out ?_)
      refine ⟨?_⟩
      refine wpList_store_row rfl 155 _ _ rfl g6 #[.int .i64 d2.f0.f0, .string d2.f0.f1, .int .i64 d2.f0.f2.f0, .int .i64 d2.f0.f2.f1, .string d2.f0.f2.f2, .slice A2 d2.f0.f3.length c2, .int .i64 d2.f1] rfl rfl 155 z7 HI.out.1.2.2.1 (by kernel_rfl) rfl (by simp [Value.oneCell']) ?_
      go_wp2
      refine bodyPost_ret (results_c rfl _ _ g6 155 _ (0,0) _ rfl (setRow_heap _ _ _ _ _ _ HI.out.1.2.2.1) Tryz.underlying155 rfl (by kernel_rfl)) rfl ?_
      refine ⟨_, rfl, ?_, HI.out.1.2.2.2.1, HI.out.1.1.row N6.out.1 N6.out.2.1 (by have := H.out.2.1.gp2; have := N6.out; omega) _, HI.out.1.2.1.row N6.out.2.2.1 _⟩
      exact H7.out.2.1.of (fun k _ h => h.1) (by simp) fun k h1 h2 => setRow_other _ _ _ _ h1.2.2
end Go.Proofs.YtlpnlfahlcingaaGreatDoor.PL
end
section
namespace Go.Proofs.YtlpnlfahlcingaaGreatDoor.PL
open Go.RowKit Go.Proofs.YtlpnlfahlcingaaGreatDoorW.PrintWords Go.Proofs.YtlpnlfahlcingaaGreatDoorW.PrintLast Go.Proofs.YtlpnlfahlcingaaGreatDoorW.PrintMore
set_option linter.unusedVariables false
set_option linter.unusedSimpArgs false
attribute [local go_sem] World.cell?_alloc_some
attribute [local go_sem ↓] isSome_setCell
theorem strs_or {w : World} {g : Nat} {t : TypeId} (h : w.heap[g]? = some (.cells #[.string (⟨#[79, 82]⟩ : ByteArray)] t (0, 0))) : StrsAt w g [(⟨#[79, 82]⟩ : ByteArray)] := by
  intro i s hs
  match i, hs with
  | 0, hs => obtain rfl := Option.some.inj hs; exact (blk_cell h 0).trans rfl
  | i + 1, hs => simp at hs
set_option maxHeartbeats 8000000 in
set_option maxRecDepth 100000 in
theorem or_calls {w : World} {gp gt : Nat} {T : List Tok} {C k : Nat} {o : Int} (hE : TE T) (h : PS w gp gt T C k o) (ho : o ≤ 200)
    (f : Nat → Int → Option (Rd S155)) (hF : ∀ (w1 : World) (k1 : Nat) (r : Rd S155), PS w1 gp gt T C k1 (o + 1) → o + 1 ≤ 200 → f k1 (o + 1) = some r → Calls Tryz.prog 135 #[.pointer (some ⟨gp, 0, none⟩)] w1 (PostD w1 gp gt T C (o + 1) r))
    (n : Nat) (r : Rd S155) (hr : chainR T f [(⟨#[79, 82]⟩ : ByteArray)] n k o = some r) :
    Calls Tryz.prog 129 #[.pointer (some ⟨gp, 0, none⟩)] w (PostD w gp gt T C o r) := by
  have HC := Aside0.mk (fun (w1 : World) (gs : Nat) (h1 : PS w1 gp gt T C k o) (hL : StrsAt w1 gs [(⟨#[79, 82]⟩ : ByteArray)]) (hgs : gs ≠ gp) (hgl : gs < w1.heap.size) =>
    chain_calls hE h1 ho Tryz.func135 (by decide) (by decide) f hF [(⟨#[79, 82]⟩ : ByteArray)] gs hL hgs hgl (by simp) n r hr)
  have H := Aside0.mk h
  clear hE h ho hF hr
  go_enter Tryz.func129, Tryz.ntmps129
  go_upto_region 1 with (fail)
  obtain ⟨g2, hg2⟩ : ∃ g, w.heap.size = g := ⟨_, rfl⟩
  have B2 := Aside0.mk (fun O : Obj => hg2 ▸ blk_new w O)
  rw [hg2]
  have N2 := Aside0.mk (show g2 ≠ gp ∧ g2 ≠ gt ∧ w.heap.size ≤ g2 ∧ gp < w.heap.size by have := H.out.gt_lt; have := blk_lt H.out.box; omega)
  clear hg2
  refine at_world (fun w1 => Aside0 (PS w1 gp gt T C k o ∧ Stay gp w w1 ∧ w1.heap[g2]? = some (.cells z7 155 (0, 0)))) ⟨H.out.step (below_alloc (Below.refl _ _) _), (Stay.refl gp w).step (below_alloc (Below.refl _ _) _), B2.out _⟩ (fun w1 H1 => ?_)
  go_wp2_with (first | (go_at_call 134; refine (HC.out _ w1.heap.size (H1.out.1.step (below_alloc (Below.refl _ _) _)) (strs_or (blk_new _ _)) (Nat.ne_of_gt (blk_lt H1.out.1.box)) (by simp)).mono ?_; intro e w3 hp; rcases PostD.or hp with ⟨p, x, hr1, rfl, hs⟩ | ⟨A3, c3, d3, k3, hr1, rfl, hea, hdn, hps, hst⟩; (subst hr1; exact ⟨rfl, rfl, (H1.out.2.1.step (below_alloc (Below.refl _ _) _)).trans hs⟩); subst hr1; have H3 := Aside0.mk (And.intro hea (And.intro hdn (And.intro hps (And.intro ((H1.out.2.1.step (below_alloc (Below.refl _ _) _)).trans hst) (hst.cells (blk_alloc H1.out.2.2 _) N2.out.1))))); clear hea hdn hps hst hp) | (with_reducible refine gate_store (t := 155) (p := 2) rfl ?_; refine Hold.out ?_))
  refine ⟨?_⟩
  refine wpList_store_row rfl 155 _ _ rfl g2 #[.int .i64 d3.f0.f0, .string d3.f0.f1, .int .i64 d3.f0.f2.f0, .int .i64 d3.f0.f2.f1, .string d3.f0.f2.f2, .slice A3 d3.f0.f3.length c3, .int .i64 d3.f1] rfl rfl 155 z7 H3.out.2.2.2.2 (by kernel_rfl) rfl (by simp [Value.oneCell']) ?_
  go_wp2
  refine bodyPost_ret (results_c rfl _ _ g2 155 _ (0,0) _ rfl (setRow_heap _ _ _ _ _ _ H3.out.2.2.2.2) Tryz.underlying155 rfl (by kernel_rfl)) rfl ?_
  refine ⟨_, rfl, ?_, H3.out.2.1, H3.out.2.2.1.row N2.out.1 N2.out.2.1 (by have := H.out.gp2; have := N2.out; omega) _, H3.out.2.2.2.1.row N2.out.2.2.1 _⟩
  have hb := blk_lt H1.out.2.2
  exact H3.out.1.of (fun k _ h => by have := H1.out.2.1.size; unfold Fr at h ⊢; simp at h; omega) (by simp) fun k h1 h2 => setRow_other _ _ _ _ (by unfold Fr at h1; simp at h1; omega)
theorem strs_and {w : World} {g : Nat} {t : TypeId} (h : w.heap[g]? = some (.cells #[.string (⟨#[65, 78, 68]⟩ : ByteArray)] t (0, 0))) : StrsAt w g [(⟨#[65, 78, 68]⟩ : ByteArray)] := by
  intro i s hs
  match i, hs with
  | 0, hs => obtain rfl := Option.some.inj hs; exact (blk_cell h 0).trans rfl
  | i + 1, hs => simp at hs
set_option maxHeartbeats 8000000 in
set_option maxRecDepth 100000 in
theorem and_calls {w : World} {gp gt : Nat} {T : List Tok} {C k : Nat} {o : Int} (hE : TE T) (h : PS w gp gt T C k o) (ho : o ≤ 200)
    (f : Nat → Int → Option (Rd S155)) (hF : ∀ (w1 : World) (k1 : Nat) (r : Rd S155), PS w1 gp gt T C k1 (o + 1) → o + 1 ≤ 200 → f k1 (o + 1) = some r → Calls Tryz.prog 143 #[.pointer (some ⟨gp, 0, none⟩)] w1 (PostD w1 gp gt T C (o + 1) r))
    (n : Nat) (r : Rd S155) (hr : chainR T f [(⟨#[65, 78, 68]⟩ : ByteArray)] n k o = some r) :
    Calls Tryz.prog 135 #[.pointer (some ⟨gp, 0, none⟩)] w (PostD w gp gt T C o r) := by
  have HC := Aside0.mk (fun (w1 : World) (gs : Nat) (h1 : PS w1 gp gt T C k o) (hL : StrsAt w1 gs [(⟨#[65, 78, 68]⟩ : ByteArray)]) (hgs : gs ≠ gp) (hgl : gs < w1.heap.size) =>
    chain_calls hE h1 ho Tryz.func143 (by decide) (by decide) f hF [(⟨#[65, 78, 68]⟩ : ByteArray)] gs hL hgs hgl (by simp) n r hr)
  have H := Aside0.mk h
  clear hE h ho hF hr
  go_enter Tryz.func135, Tryz.ntmps135
  go_upto_region 1 with (fail)
  obtain ⟨g2, hg2⟩ : ∃ g, w.heap.size = g := ⟨_, rfl⟩
  have B2 := Aside0.mk (fun O : Obj => hg2 ▸ blk_new w O)
  rw [hg2]
  have N2 := Aside0.mk (show g2 ≠ gp ∧ g2 ≠ gt ∧ w.heap.size ≤ g2 ∧ gp < w.heap.size by have := H.out.gt_lt; have := blk_lt H.out.box; omega)
  clear hg2
  refine at_world (fun w1 => Aside0 (PS w1 gp gt T C k o ∧ Stay gp w w1 ∧ w1.heap[g2]? = some (.cells z7 155 (0, 0)))) ⟨H.out.step (below_alloc (Below.refl _ _) _), (Stay.refl gp w).step (below_alloc (Below.refl _ _) _), B2.out _⟩ (fun w1 H1 => ?_)
  go_wp2_with (first | (go_at_call 134; refine (HC.out _ w1.heap.size (H1.out.1.step (below_alloc (Below.refl _ _) _)) (strs_and (blk_new _ _)) (Nat.ne_of_gt (blk_lt H1.out.1.box)) (by simp)).mono ?_; intro e w3 hp; rcases PostD.or hp with ⟨p, x, hr1, rfl, hs⟩ | ⟨A3, c3, d3, k3, hr1, rfl, hea, hdn, hps, hst⟩; (subst hr1; exact ⟨rfl, rfl, (H1.out.2.1.step (below_alloc (Below.refl _ _) _)).trans hs⟩); subst hr1; have H3 := Aside0.mk (And.intro hea (And.intro hdn (And.intro hps (And.intro ((H1.out.2.1.step (below_alloc (Below.refl _ _) _)).trans hst) (hst.cells (blk_alloc H1.out.2.2 _) N2.out.1))))); clear hea hdn hps hst hp) | (with_reducible refine gate_store (t := 155) (p := 2) rfl ?_; refine Hold.out ?_))
  refine ⟨?_⟩
  refine wpList_store_row rfl 155 _ _ rfl g2 #[.int .i64 d3.f0.f0, .string d3.f0.f1, .int .i64 d3.f0.f2.f0, .int .i64 d3.f0.f2.f1, .string d3.f0.f2.f2, .slice A3 d3.f0.f3.length c3, .int .i64 d3.f1] rfl rfl 155 z7 H3.out.2.2.2.2 (by kernel_rfl) rfl (by simp [Value.oneCell']) ?_
  go_wp2
  refine bodyPost_ret (results_c rfl _ _ g2 155 _ (0,0) _ rfl (setRow_heap _ _ _ _ _ _ H3.out.2.2.2.2) Tryz.underlying155 rfl (by kernel_rfl)) rfl ?_
  refine ⟨_, rfl, ?_, H3.out.2.1, H3.out.2.2.1.row N2.out.1 N2.out.2.1 (by have := H.out.gp2; have := N2.out; omega) _, H3.out.2.2.2.1.row N2.out.2.2.1 _⟩
  have hb := blk_lt H1.out.2.2
  exact H3.out.1.of (fun k _ h => by have := H1.out.2.1.size; unfold Fr at h ⊢; simp at h; omega) (by simp) fun k h1 h2 => setRow_other _ _ _ _ (by unfold Fr at h1; simp at h1; omega)
theorem strs_sum {w : World} {g : Nat} {t : TypeId} (h : w.heap[g]? = some (.cells #[.string (⟨#[43]⟩ : ByteArray), .string (⟨#[45]⟩ : ByteArray)] t (0, 0))) : StrsAt w g [(⟨#[43]⟩ : ByteArray), (⟨#[45]⟩ : ByteArray)] := by
  intro i s hs
  match i, hs with
  | 0, hs => obtain rfl := Option.some.inj hs; exact (blk_cell h 0).trans rfl
  | 1, hs => obtain rfl := Option.some.inj hs; exact (blk_cell h 1).trans rfl
  | i + 2, hs => simp at hs
set_option maxHeartbeats 8000000 in
set_option maxRecDepth 100000 in
theorem sum_calls {w : World} {gp gt : Nat} {T : List Tok} {C k : Nat} {o : Int} (hE : TE T) (h : PS w gp gt T C k o) (ho : o ≤ 200)
    (f : Nat → Int → Option (Rd S155)) (hF : ∀ (w1 : World) (k1 : Nat) (r : Rd S155), PS w1 gp gt T C k1 (o + 1) → o + 1 ≤ 200 → f k1 (o + 1) = some r → Calls Tryz.prog 151 #[.pointer (some ⟨gp, 0, none⟩)] w1 (PostD w1 gp gt T C (o + 1) r))
    (n : Nat) (r : Rd S155) (hr : chainR T f [(⟨#[43]⟩ : ByteArray), (⟨#[45]⟩ : ByteArray)] n k o = some r) :
    Calls Tryz.prog 150 #[.pointer (some ⟨gp, 0, none⟩)] w (PostD w gp gt T C o r) := by
  have HC := Aside0.mk (fun (w1 : World) (gs : Nat) (h1 : PS w1 gp gt T C k o) (hL : StrsAt w1 gs [(⟨#[43]⟩ : ByteArray), (⟨#[45]⟩ : ByteArray)]) (hgs : gs ≠ gp) (hgl : gs < w1.heap.size) =>
    chain_calls hE h1 ho Tryz.func151 (by decide) (by decide) f hF [(⟨#[43]⟩ : ByteArray), (⟨#[45]⟩ : ByteArray)] gs hL hgs hgl (by simp) n r hr)
  have H := Aside0.mk h
  clear hE h ho hF hr
  go_enter Tryz.func150, Tryz.ntmps150
  go_upto_region 1 with (fail)
  obtain ⟨g2, hg2⟩ : ∃ g, w.heap.size = g := ⟨_, rfl⟩
  have B2 := Aside0.mk (fun O : Obj => hg2 ▸ blk_new w O)
  rw [hg2]
  have N2 := Aside0.mk (show g2 ≠ gp ∧ g2 ≠ gt ∧ w.heap.size ≤ g2 ∧ gp < w.heap.size by have := H.out.gt_lt; have := blk_lt H.out.box; omega)
  clear hg2
  refine at_world (fun w1 => Aside0 (PS w1 gp gt T C k o ∧ Stay gp w w1 ∧ w1.heap[g2]? = some (.cells z7 155 (0, 0)))) ⟨H.out.step (below_alloc (Below.refl _ _) _), (Stay.refl gp w).step (below_alloc (Below.refl _ _) _), B2.out _⟩ (fun w1 H1 => ?_)
  go_wp2_with (first | (go_at_call 134; refine (HC.out _ w1.heap.size (H1.out.1.step (below_alloc (Below.refl _ _) _)) (strs_sum (blk_new _ _)) (Nat.ne_of_gt (blk_lt H1.out.1.box)) (by simp)).mono ?_; intro e w3 hp; rcases PostD.or hp with ⟨p, x, hr1, rfl, hs⟩ | ⟨A3, c3, d3, k3, hr1, rfl, hea, hdn, hps, hst⟩; (subst hr1; exact ⟨rfl, rfl, (H1.out.2.1.step (below_alloc (Below.refl _ _) _)).trans hs⟩); subst hr1; have H3 := Aside0.mk (And.intro hea (And.intro hdn (And.intro hps (And.intro ((H1.out.2.1.step (below_alloc (Below.refl _ _) _)).trans hst) (hst.cells (blk_alloc H1.out.2.2 _) N2.out.1))))); clear hea hdn hps hst hp) | (with_reducible refine gate_store (t := 155) (p := 2) rfl ?_; refine Hold.out ?_))
  refine ⟨?_⟩
  refine wpList_store_row rfl 155 _ _ rfl g2 #[.int .i64 d3.f0.f0, .string d3.f0.f1, .int .i64 d3.f0.f2.f0, .int .i64 d3.f0.f2.f1, .string d3.f0.f2.f2, .slice A3 d3.f0.f3.length c3, .int .i64 d3.f1] rfl rfl 155 z7 H3.out.2.2.2.2 (by kernel_rfl) rfl (by simp [Value.oneCell']) ?_
  go_wp2
  refine bodyPost_ret (results_c rfl _ _ g2 155 _ (0,0) _ rfl (setRow_heap _ _ _ _ _ _ H3.out.2.2.2.2) Tryz.underlying155 rfl (by kernel_rfl)) rfl ?_
  refine ⟨_, rfl, ?_, H3.out.2.1, H3.out.2.2.1.row N2.out.1 N2.out.2.1 (by have := H.out.gp2; have := N2.out; omega) _, H3.out.2.2.2.1.row N2.out.2.2.1 _⟩
  have hb := blk_lt H1.out.2.2
  exact H3.out.1.of (fun k _ h => by have := H1.out.2.1.size; unfold Fr at h ⊢; simp at h; omega) (by simp) fun k h1 h2 => setRow_other _ _ _ _ (by unfold Fr at h1; simp at h1; omega)
theorem strs_prod {w : World} {g : Nat} {t : TypeId} (h : w.heap[g]? = some (.cells #[.string (⟨#[42]⟩ : ByteArray), .string (⟨#[47]⟩ : ByteArray), .string (⟨#[37]⟩ : ByteArray)] t (0, 0))) : StrsAt w g [(⟨#[42]⟩ : ByteArray), (⟨#[47]⟩ : ByteArray), (⟨#[37]⟩ : ByteArray)] := by
  intro i s hs
  match i, hs with
  | 0, hs => obtain rfl := Option.some.inj hs; exact (blk_cell h 0).trans rfl
  | 1, hs => obtain rfl := Option.some.inj hs; exact (blk_cell h 1).trans rfl
  | 2, hs => obtain rfl := Option.some.inj hs; exact (blk_cell h 2).trans rfl
  | i + 3, hs => simp at hs
set_option maxHeartbeats 8000000 in
set_option maxRecDepth 100000 in
theorem prod_calls {w : World} {gp gt : Nat} {T : List Tok} {C k : Nat} {o : Int} (hE : TE T) (h : PS w gp gt T C k o) (ho : o ≤ 200)
    (f : Nat → Int → Option (Rd S155)) (hF : ∀ (w1 : World) (k1 : Nat) (r : Rd S155), PS w1 gp gt T C k1 (o + 1) → o + 1 ≤ 200 → f k1 (o + 1) = some r → Calls Tryz.prog 152 #[.pointer (some ⟨gp, 0, none⟩)] w1 (PostD w1 gp gt T C (o + 1) r))
    (n : Nat) (r : Rd S155) (hr : chainR T f [(⟨#[42]⟩ : ByteArray), (⟨#[47]⟩ : ByteArray), (⟨#[37]⟩ : ByteArray)] n k o = some r) :
    Calls Tryz.prog 151 #[.pointer (some ⟨gp, 0, none⟩)] w (PostD w gp gt T C o r) := by
  have HC := Aside0.mk (fun (w1 : World) (gs : Nat) (h1 : PS w1 gp gt T C k o) (hL : StrsAt w1 gs [(⟨#[42]⟩ : ByteArray), (⟨#[47]⟩ : ByteArray), (⟨#[37]⟩ : ByteArray)]) (hgs : gs ≠ gp) (hgl : gs < w1.heap.size) =>
    chain_calls hE h1 ho Tryz.func152 (by decide) (by decide) f hF [(⟨#[42]⟩ : ByteArray), (⟨#[47]⟩ : ByteArray), (⟨#[37]⟩ : ByteArray)] gs hL hgs hgl (by simp) n r hr)
  have H := Aside0.mk h
  clear hE h ho hF hr
  go_enter Tryz.func151, Tryz.ntmps151
  go_upto_region 1 with (fail)
  obtain ⟨g2, hg2⟩ : ∃ g, w.heap.size = g := ⟨_, rfl⟩
  have B2 := Aside0.mk (fun O : Obj => hg2 ▸ blk_new w O)
  rw [hg2]
  have N2 := Aside0.mk (show g2 ≠ gp ∧ g2 ≠ gt ∧ w.heap.size ≤ g2 ∧ gp < w.heap.size by have := H.out.gt_lt; have := blk_lt H.out.box; omega)
  clear hg2
  refine at_world (fun w1 => Aside0 (PS w1 gp gt T C k o ∧ Stay gp w w1 ∧ w1.heap[g2]? = some (.cells z7 155 (0, 0)))) ⟨H.out.step (below_alloc (Below.refl _ _) _), (Stay.refl gp w).step (below_alloc (Below.refl _ _) _), B2.out _⟩ (fun w1 H1 => ?_)
  go_wp2_with (first | (go_at_call 134; refine (HC.out _ w1.heap.size (H1.out.1.step (below_alloc (Below.refl _ _) _)) (strs_prod (blk_new _ _)) (Nat.ne_of_gt (blk_lt H1.out.1.box)) (by simp)).mono ?_; intro e w3 hp; rcases PostD.or hp with ⟨p, x, hr1, rfl, hs⟩ | ⟨A3, c3, d3, k3, hr1, rfl, hea, hdn, hps, hst⟩; (subst hr1; exact ⟨rfl, rfl, (H1.out.2.1.step (below_alloc (Below.refl _ _) _)).trans hs⟩); subst hr1; have H3 := Aside0.mk (And.intro hea (And.intro hdn (And.intro hps (And.intro ((H1.out.2.1.step (below_alloc (Below.refl _ _) _)).trans hst) (hst.cells (blk_alloc H1.out.2.2 _) N2.out.1))))); clear hea hdn hps hst hp) | (with_reducible refine gate_store (t := 155) (p := 2) rfl ?_; refine Hold.out ?_))
  refine ⟨?_⟩
  refine wpList_store_row rfl 155 _ _ rfl g2 #[.int .i64 d3.f0.f0, .string d3.f0.f1, .int .i64 d3.f0.f2.f0, .int .i64 d3.f0.f2.f1, .string d3.f0.f2.f2, .slice A3 d3.f0.f3.length c3, .int .i64 d3.f1] rfl rfl 155 z7 H3.out.2.2.2.2 (by kernel_rfl) rfl (by simp [Value.oneCell']) ?_
  go_wp2
  refine bodyPost_ret (results_c rfl _ _ g2 155 _ (0,0) _ rfl (setRow_heap _ _ _ _ _ _ H3.out.2.2.2.2) Tryz.underlying155 rfl (by kernel_rfl)) rfl ?_
  refine ⟨_, rfl, ?_, H3.out.2.1, H3.out.2.2.1.row N2.out.1 N2.out.2.1 (by have := H.out.gp2; have := N2.out; omega) _, H3.out.2.2.2.1.row N2.out.2.2.1 _⟩
  have hb := blk_lt H1.out.2.2
  exact H3.out.1.of (fun k _ h => by have := H1.out.2.1.size; unfold Fr at h ⊢; simp at h; omega) (by simp) fun k h1 h2 => setRow_other _ _ _ _ (by unfold Fr at h1; simp at h1; omega)
end Go.Proofs.YtlpnlfahlcingaaGreatDoor.PL
end
section
namespace Go.Proofs.YtlpnlfahlcingaaGreatDoor.PL
open Go.RowKit Go.Proofs.YtlpnlfahlcingaaGreatDoorW.PrintWords Go.Proofs.YtlpnlfahlcingaaGreatDoorW.PrintLast Go.Proofs.YtlpnlfahlcingaaGreatDoorW.PrintMore
set_option linter.unusedVariables false
set_option linter.unusedSimpArgs false
attribute [local go_sem] World.cell?_alloc_some
attribute [local go_sem ↓] isSome_setCell
def zd : S155 := ⟨⟨0, ⟨#[]⟩, ⟨0, 0, ⟨#[]⟩⟩, []⟩, 0⟩
theorem z7_dcs {w : World} {g : Nat} (h : w.heap[g]? = some (.cells z7 155 (0, 0))) : w.heap[g]? = some (.cells (dcs none 0 zd) 155 (0, 0)) := h
def notR (T : List Tok) (fn fc : Nat → Int → Option (Rd S155)) (k : Nat) (o : Int) : Option (Rd S155) :=
  if isB (tokAt T k) (⟨#[78, 79, 84]⟩ : ByteArray) = true then
    match ruleR T fn (k + 1) o with
    | none => none
    | some (.bad p x) => some (.bad p x)
    | some (.ok d k1) => some (opR (tokAt T k).f1 (⟨#[78, 79, 84]⟩ : ByteArray) [d] k1)
  else ruleR T fc k o
theorem put7_ps {w : World} {gp gt : Nat} {T : List Tok} {C k : Nat} {o : Int} (h : PS w gp gt T C k o) {g : Nat} (h1 : g ≠ gp) (h2 : g ≠ gt) (h3 : 2 ≤ g) {A : Option Addr} {c : Nat} {d : S155} : PS (put7 w g A c d) gp gt T C k o :=
  ((((((h.put_far h1 h2 h3 _ _).put_far h1 h2 h3 _ _).put_far h1 h2 h3 _ _).put_far h1 h2 h3 _ _).put_far h1 h2 h3 _ _).put_far h1 h2 h3 _ _).put_far h1 h2 h3 _ _
theorem put7_stay {gp g : Nat} {w w1 : World} (h : Stay gp w w1) (hg : w.heap.size ≤ g) {A : Option Addr} {c : Nat} {d : S155} : Stay gp w (put7 w1 g A c d) :=
  ((((((h.new hg _ _).new hg _ _).new hg _ _).new hg _ _).new hg _ _).new hg _ _).new hg _ _
theorem put7_eq {w : World} {S S1 : Nat → Prop} {v : Value} {xs : List S34} (h : EA w S v xs) (hb : ∀ k, k < w.heap.size → S k → S1 k) : EA w S1 v xs := h.of hb (Nat.le_refl _) fun _ _ _ => rfl
theorem put7_ea {w w0 : World} {S : Nat → Prop} {v : Value} {xs : List S34} (h : EA w S v xs) {g : Nat} {A : Option Addr} {c : Nat} {d : S155} (hS : ¬ S g ∧ ∀ k, S k → Fr w0 k) : EA (put7 w g A c d) (Fr w0) v xs :=
  put7_eq (((((((h.put hS.1 _ _).put hS.1 _ _).put hS.1 _ _).put hS.1 _ _).put hS.1 _ _).put hS.1 _ _).put hS.1 _ _) fun k _ h => hS.2 k h
set_option maxHeartbeats 8000000 in
set_option maxRecDepth 100000 in
theorem not_calls {w : World} {gp gt : Nat} {T : List Tok} {C k : Nat} {o : Int} (hE : TE T) (h : PS w gp gt T C k o) (ho : o ≤ 200) (fn fc : Nat → Int → Option (Rd S155))
    (hFn : ∀ (w1 : World) (k1 : Nat) (r : Rd S155), PS w1 gp gt T C k1 (o + 1) → o + 1 ≤ 200 → fn k1 (o + 1) = some r → Calls Tryz.prog 143 #[.pointer (some ⟨gp, 0, none⟩)] w1 (PostD w1 gp gt T C (o + 1) r))
    (hFc : ∀ (w1 : World) (k1 : Nat) (r : Rd S155), PS w1 gp gt T C k1 (o + 1) → o + 1 ≤ 200 → fc k1 (o + 1) = some r → Calls Tryz.prog 149 #[.pointer (some ⟨gp, 0, none⟩)] w1 (PostD w1 gp gt T C (o + 1) r))
    (r : Rd S155) (hr : notR T fn fc k o = some r) :
    Calls Tryz.prog 143 #[.pointer (some ⟨gp, 0, none⟩)] w (PostD w gp gt T C o r) := by
  have HR := Aside0.mk (fun (w1 : World) (k1 : Nat) (r1 : Rd S155) (h1 : PS w1 gp gt T C k1 o) (h2 : ruleR T fn k1 o = some r1) => rule_calls h1 ho Tryz.func143 (by decide) (by decide) fn (fun w2 r2 h3 => hFn w2 k1 r2 h3) r1 h2)
  have HRc := Aside0.mk (fun (w1 : World) (k1 : Nat) (r1 : Rd S155) (h1 : PS w1 gp gt T C k1 o) (h2 : ruleR T fc k1 o = some r1) => rule_calls h1 ho Tryz.func149 (by decide) (by decide) fc (fun w2 r2 h3 => hFc w2 k1 r2 h3) r1 h2)
  have H := Aside0.mk h
  have HE := Aside0.mk (hE k h.at_)
  unfold notR at hr
  obtain ⟨t, ht, t0, t1, t2, t3⟩ := h.tok
  have htk := tokAt_of ht
  rw [htk] at hr HE
  have Ht := Aside0.mk htk
  have c0 := h.c0
  have hl : 1 ≤ T.length - k := by have := h.at_; omega
  clear hE h hFn hFc ho htk ht
  go_enter Tryz.func143, Tryz.ntmps143
  go_upto_region 1 with (fail)
  obtain ⟨g2, hg2⟩ : ∃ g, w.heap.size = g := ⟨_, rfl⟩
  have B2 := Aside0.mk (fun O : Obj => hg2 ▸ blk_new w O)
  rw [hg2]
  have N2 := Aside0.mk (show g2 ≠ gp ∧ g2 ≠ gt ∧ w.heap.size ≤ g2 ∧ gp < w.heap.size by have := H.out.gt_lt; have := blk_lt H.out.box; omega)
  clear hg2
  refine at_world (fun w1 => Aside0 (PS w1 gp gt T C k o ∧ Stay gp w w1 ∧ w1.heap[g2]? = some (.cells z7 155 (0, 0)))) ⟨H.out.step (below_alloc (Below.refl _ _) _), (Stay.refl gp w).step (below_alloc (Below.refl _ _) _), B2.out _⟩ (fun w1 H1 => ?_)
  clear c0 t0 t1 t2 t3
  obtain ⟨t', ht', t0, t1, t2, t3⟩ := H1.out.1.tok
  obtain rfl : t = t' := Ht.out.symm.trans (tokAt_of ht')
  have c0 := H1.out.1.c0
  clear ht'
  go_upto_region 2 with (fail)
  obtain ⟨g3, hg3⟩ : ∃ g, w1.heap.size = g := ⟨_, rfl⟩
  have B3 := Aside0.mk (fun O : Obj => hg3 ▸ blk_new w1 O)
  rw [hg3]
  have N3 := Aside0.mk (show g3 ≠ gp ∧ g3 ≠ gt ∧ w.heap.size ≤ g3 ∧ g2 ≠ g3 by have := H1.out.1.gt_lt; have := blk_lt H1.out.1.box; have := blk_lt H1.out.2.2; have := H1.out.2.1.size; omega)
  clear hg3
  refine at_world (fun w2 => Aside0 (PS w2 gp gt T C k o ∧ Stay gp w w2 ∧ w2.heap[g2]? = some (.cells z7 155 (0, 0)) ∧ w2.heap[g3]? = some (.cells (tcs t) 75 (0, 0)))) ⟨H1.out.1.step (below_alloc (Below.refl _ _) _), H1.out.2.1.step (below_alloc (Below.refl _ _) _), blk_alloc H1.out.2.2 _, B3.out _⟩ (fun w2 H2 => ?_)
  clear c0 t0 t1 t2 t3
  by_cases hb : isB t (⟨#[78, 79, 84]⟩ : ByteArray) = true
  · rw [if_pos hb] at hr
    have hk := HE.out (by have := isB_kind hb; omega)
    have HB := Aside0.mk (And.intro hb hk)
    have HM := Aside0.mk hr
    clear hb hk hr
    go_upto_region 3 with (go_at_call 37; refine (take_yes H2.out.1 _ (by rw [Ht.out]; exact HB.out.1) HB.out.2).mono ?_; rintro e w5 ⟨rfl, hps, hst⟩; have H5 := Aside0.mk (And.intro hps (And.intro (H2.out.2.1.trans hst) (And.intro (hst.cells H2.out.2.2.1 N2.out.1) (hst.cells H2.out.2.2.2 N3.out.1)))); clear hps hst)
    obtain ⟨x0, x1, x2, x3⟩ := tok_cells H5.out.2.2.2
    have hm := HM.out
    clear HM
    cases hq : ruleR T fn (k + 1) o with
    | none => rw [hq] at hm; cases hm
    | some r1 =>
    rw [hq] at hm
    have HM := Aside0.mk hm
    have HQ2 := Aside0.mk hq
    clear hq hm
    go_region_held2 (fun w' => w'.cell? ⟨g3, 0, none⟩ = some (.int .i64 t.f0) ∧ w'.cell? ⟨g3, 1, none⟩ = some (.int .i64 t.f1) ∧ w'.cell? ⟨g3, 2, none⟩ = some (.string t.f2) ∧ w'.cell? ⟨g3, 3, none⟩ = some (.int .i64 t.f3)) (first | go_keep) (first | (go_simp; go_at_call 128; refine (HR.out _ _ _ (H5.out.1.step (below_drew (Below.refl _ _))) HQ2.out).mono ?_; intro e w6 hp; rcases PostD.or hp with ⟨p, x, hr1, rfl, hs⟩ | ⟨A3, c3, d3, k3, hr1, rfl, hea, hdn, hps, hst⟩; (have hm := HM.out; rw [hr1] at hm; cases hm; exact ⟨rfl, rfl, (H5.out.2.1.step (below_drew (Below.refl _ _))).trans hs⟩); have b2 := hst.cells (blk_drew H5.out.2.2.1) N2.out.1; have b3 := hst.cells (blk_drew H5.out.2.2.2) N3.out.1; have H6 := Aside0.mk (And.intro hr1 (And.intro hea (And.intro hdn (And.intro hps (And.intro ((H5.out.2.1.step (below_drew (Below.refl _ _))).trans hst) (And.intro b2 b3)))))); obtain ⟨X0, X1, X2, X3⟩ := tok_cells b3; have M8 := World.new_ne w6 _ X0; have HZ := Aside0.mk hst.size; clear hr1 hea hdn hps hst b2 b3 hp) | (go_simp; go_at_call 142; refine (op1_calls t (⟨#[78, 79, 84]⟩ : ByteArray) H6.out.2.1 H6.out.2.2.1 ?q2 k3).mono ?_; (case q2 => exact fun k h => Nat.le_trans HZ.out h); intro e w8 hp; rcases hp with ⟨hbe, ⟨p, x, hr1, rfl⟩ | ⟨A4, c4, d4, hr1, rfl, hea, hdn⟩⟩; (have hm := HM.out; rw [H6.out.1] at hm; dsimp only at hm; rw [hr1] at hm; cases hm; exact ⟨rfl, rfl, H6.out.2.2.2.2.1.step hbe⟩); have b2 := z7_dcs (blk_below H6.out.2.2.2.2.2.1 hbe); have b3 := blk_below H6.out.2.2.2.2.2.2 hbe; have H8 := Aside0.mk (And.intro hr1 (And.intro hea (And.intro hdn (And.intro (H6.out.2.2.2.1.step hbe) (And.intro (H6.out.2.2.2.2.1.step hbe) b2))))); obtain ⟨X0, X1, X2, X3⟩ := tok_cells b3; obtain ⟨Y0, Y1, Y2, Y3, Y4, Y5, Y6⟩ := dcs_cells b2; have Q0 := blk_frozen b2 0; have Q1 := blk_frozen b2 1; have Q2 := blk_frozen b2 2; have Q3 := blk_frozen b2 3; have Q4 := blk_frozen b2 4; have Q5 := blk_frozen b2 5; have Q6 := blk_frozen b2 6; have N87 := N3.out.2.2.2; clear hr1 hea hdn hbe b2 b3))
    go_wp2
    have hm := HM.out
    rw [H6.out.1] at hm
    dsimp only at hm
    rw [H8.out.1] at hm
    obtain rfl := Option.some.inj hm
    have h2 := N2.out
    refine bodyPost_ret (results_c rfl _ _ g2 155 _ (0,0) _ rfl (put7_blk H8.out.2.2.2.2.2) Tryz.underlying155 rfl (by kernel_rfl)) rfl ?_
    refine ⟨_, rfl, put7_ea H8.out.2.1 ?_, H8.out.2.2.1, put7_ps H8.out.2.2.2.1 h2.1 h2.2.1 (by have := H.out.gp2; omega), put7_stay H8.out.2.2.2.2.1 h2.2.2.1⟩
    have h5 := blk_lt H5.out.2.2.1
    exact ⟨fun h => by unfold Fr at h; simp at h; omega, fun k h => by have := H5.out.2.1.size; unfold Fr at h ⊢; simp at h; omega⟩
  · rw [if_neg hb] at hr
    have hbf : isB t (⟨#[78, 79, 84]⟩ : ByteArray) = false := by simpa using hb
    have HB := Aside0.mk hbf
    have HQ2 := Aside0.mk hr
    clear hb hbf hr
    go_wp2_with (first | (go_at_call 37; refine (take_no H2.out.1 _ (by rw [Ht.out]; exact HB.out)).mono ?_; rintro e w5 ⟨rfl, he⟩; replace he := he.symm; subst he) | (go_at_call 128; refine (HRc.out _ _ _ H2.out.1 HQ2.out).mono ?_; intro e w6 hp; rcases PostD.or hp with ⟨p, x, hr1, rfl, hs⟩ | ⟨A3, c3, d3, k3, hr1, rfl, hea, hdn, hps, hst⟩; (subst hr1; exact ⟨rfl, rfl, H2.out.2.1.trans hs⟩); subst hr1; have H3 := Aside0.mk (And.intro hea (And.intro hdn (And.intro hps (And.intro (H2.out.2.1.trans hst) (hst.cells H2.out.2.2.1 N2.out.1))))); clear hea hdn hps hst hp) | (with_reducible refine gate_store (t := 155) (p := 2) rfl ?_; refine Hold.out ?_))
    refine ⟨?_⟩
    refine wpList_store_row rfl 155 _ _ rfl g2 #[.int .i64 d3.f0.f0, .string d3.f0.f1, .int .i64 d3.f0.f2.f0, .int .i64 d3.f0.f2.f1, .string d3.f0.f2.f2, .slice A3 d3.f0.f3.length c3, .int .i64 d3.f1] rfl rfl 155 z7 H3.out.2.2.2.2 (by kernel_rfl) rfl (by simp [Value.oneCell']) ?_
    go_wp2
    refine bodyPost_ret (results_c rfl _ _ g2 155 _ (0,0) _ rfl (setRow_heap _ _ _ _ _ _ H3.out.2.2.2.2) Tryz.underlying155 rfl (by kernel_rfl)) rfl ?_
    refine ⟨_, rfl, ?_, H3.out.2.1, H3.out.2.2.1.row N2.out.1 N2.out.2.1 (by have := H.out.gp2; have := N2.out; omega) _, H3.out.2.2.2.1.row N2.out.2.2.1 _⟩
    have hb := blk_lt H2.out.2.2.1
    exact H3.out.1.of (fun k _ h => by have := H2.out.2.1.size; unfold Fr at h ⊢; omega) (by simp) fun k h1 h2 => setRow_other _ _ _ _ (by unfold Fr at h1; omega)
end Go.Proofs.YtlpnlfahlcingaaGreatDoor.PL
end
section
namespace Go.Proofs.YtlpnlfahlcingaaGreatDoor.PL
open Go.RowKit Go.Proofs.YtlpnlfahlcingaaGreatDoorW.PrintWords Go.Proofs.YtlpnlfahlcingaaGreatDoorW.PrintLast Go.Proofs.YtlpnlfahlcingaaGreatDoorW.PrintMore
set_option linter.unusedVariables false
set_option linter.unusedSimpArgs false
attribute [local go_sem] World.cell?_alloc_some
attribute [local go_sem ↓] isSome_setCell
def cmpL : List ByteArray := [(⟨#[61]⟩ : ByteArray), (⟨#[60, 62]⟩ : ByteArray), (⟨#[60]⟩ : ByteArray), (⟨#[60, 61]⟩ : ByteArray), (⟨#[62]⟩ : ByteArray), (⟨#[62, 61]⟩ : ByteArray)]
theorem strs_cmp {w : World} {g : Nat} {t : TypeId} (h : w.heap[g]? = some (.cells #[.string (⟨#[61]⟩ : ByteArray), .string (⟨#[60, 62]⟩ : ByteArray), .string (⟨#[60]⟩ : ByteArray), .string (⟨#[60, 61]⟩ : ByteArray), .string (⟨#[62]⟩ : ByteArray), .string (⟨#[62, 61]⟩ : ByteArray)] t (0, 0))) : StrsAt w g cmpL := by
  intro i s hs
  unfold cmpL at hs
  match i, hs with
  | 0, hs => obtain rfl := Option.some.inj hs; exact (blk_cell h 0).trans rfl
  | 1, hs => obtain rfl := Option.some.inj hs; exact (blk_cell h 1).trans rfl
  | 2, hs => obtain rfl := Option.some.inj hs; exact (blk_cell h 2).trans rfl
  | 3, hs => obtain rfl := Option.some.inj hs; exact (blk_cell h 3).trans rfl
  | 4, hs => obtain rfl := Option.some.inj hs; exact (blk_cell h 4).trans rfl
  | 5, hs => obtain rfl := Option.some.inj hs; exact (blk_cell h 5).trans rfl
  | i + 6, hs => simp at hs
theorem strs_one {w : World} {g : Nat} {t : TypeId} {s : ByteArray} (h : w.heap[g]? = some (.cells #[.string s] t (0, 0))) : StrsAt w g [s] := by
  intro i s hs
  match i, hs with
  | 0, hs => obtain rfl := Option.some.inj hs; exact (blk_cell h 0).trans rfl
  | i + 1, hs => simp at hs
def nullR (T : List Tok) (p : Int) (s : ByteArray) (d : S155) (k : Nat) : Rd S155 :=
  match mustR T [(⟨#[78, 85, 76, 76]⟩ : ByteArray)] k with
  | .bad p x => .bad p x
  | .ok _ k2 => opR p s [d] k2
def cmp2 (T : List Tok) (fs : Nat → Int → Option (Rd S155)) (d : S155) (k : Nat) (o : Int) : Option (Rd S155) :=
  if beginsB T k cmpL = true then
    match ruleR T fs (k + 1) o with
    | none => none
    | some (.bad p x) => some (.bad p x)
    | some (.ok d2 k2) => some (opR (tokAt T k).f1 (tokAt T k).f2 [d, d2] k2)
  else if isB (tokAt T k) (⟨#[73, 83]⟩ : ByteArray) = true then
    if isB (tokAt T (k + 1)) (⟨#[78, 79, 84]⟩ : ByteArray) = true then some (nullR T (tokAt T k).f1 (⟨#[78, 79, 84, 78, 85, 76, 76]⟩ : ByteArray) d (k + 2))
    else some (nullR T (tokAt T k).f1 (⟨#[73, 83, 78, 85, 76, 76]⟩ : ByteArray) d (k + 1))
  else some (.ok d k)
def cmpR (T : List Tok) (fs : Nat → Int → Option (Rd S155)) (k : Nat) (o : Int) : Option (Rd S155) :=
  match ruleR T fs k o with
  | none => none
  | some (.bad p x) => some (.bad p x)
  | some (.ok d k1) => cmp2 T fs d k1 o
structure CmI (w : World) (gp gt : Nat) (T : List Tok) (C : Nat) (o : Int) (g2 g3 g4 : Nat) (A : Option Addr) (c : Nat) (d : S155) (t : Tok) (k : Nat) (w2 : World) : Prop where
  ps : PS w2 gp gt T C k o
  st : Stay gp w w2
  b2 : w2.heap[g2]? = some (.cells z7 155 (0, 0))
  b3 : w2.heap[g3]? = some (.cells (dcs A c d) 155 (0, 0))
  b4 : w2.heap[g4]? = some (.cells (tcs t) 75 (0, 0))
  ea : EA w2 (fun k => w.heap.size ≤ k ∧ k ≠ g2) (.slice A d.f0.f3.length c) d.f0.f3
  dn : 0 ≤ d.f1 ∧ d.f1 ≤ 16
  gpl : gp < w.heap.size
  n2 : w.heap.size ≤ g2
  n23 : g2 ≠ g3
theorem blk_ne' {w : World} {g g' : Nat} {t t' : TypeId} {cs cs' : Array Value} (h : w.heap[g]? = some (.cells cs t (0, 0))) (h' : w.heap[g']? = some (.cells cs' t' (0, 0))) (hne : t ≠ t') : g ≠ g' := blk_ne h h' hne
theorem PS.ne_gt {w : World} {gp gt : Nat} {T : List Tok} {C k : Nat} {o : Int} (h : PS w gp gt T C k o) {g : Nat} {cs : Array Value} (hb : w.heap[g]? = some (.cells cs 155 (0, 0))) : g ≠ gt := by
  obtain ⟨cur, hb2, _⟩ := h.toks
  exact blk_ne hb hb2 (by decide)
section
variable {w : World} {gp gt : Nat} {T : List Tok} {C : Nat} {o : Int} {g2 g3 g4 : Nat} {A : Option Addr} {c : Nat} {d : S155} {t : Tok} {k : Nat} {w2 w3 : World}
theorem CmI.stay (h : CmI w gp gt T C o g2 g3 g4 A c d t k w2) (hs : Stay gp w2 w3) {k' : Nat} (hp : PS w3 gp gt T C k' o) : CmI w gp gt T C o g2 g3 g4 A c d t k' w3 :=
  ⟨hp, h.st.trans hs, hs.cells h.b2 (blk_ne h.b2 h.ps.box (by decide)), hs.cells h.b3 (blk_ne h.b3 h.ps.box (by decide)), hs.cells h.b4 (blk_ne h.b4 h.ps.box (by decide)), h.ea.stay hs (fun e => Nat.not_le.2 h.gpl e.1), h.dn, h.gpl, h.n2, h.n23⟩
theorem CmI.g22 (h : CmI w gp gt T C o g2 g3 g4 A c d t k w2) : 2 ≤ g2 := by have := h.ps.gp2; have := h.gpl; have := h.n2; omega
theorem CmI.below (h : CmI w gp gt T C o g2 g3 g4 A c d t k w2) (hs : Below w2.heap.size w2 w3) : CmI w gp gt T C o g2 g3 g4 A c d t k w3 := h.stay (Below.stay hs gp) (h.ps.step hs)
end
set_option maxHeartbeats 8000000 in
set_option maxRecDepth 100000 in
theorem cmp_calls {w : World} {gp gt : Nat} {T : List Tok} {C k : Nat} {o : Int} (hE : TE T) (h : PS w gp gt T C k o) (ho : o ≤ 200) (fs : Nat → Int → Option (Rd S155))
    (hFs : ∀ (w1 : World) (k1 : Nat) (r : Rd S155), PS w1 gp gt T C k1 (o + 1) → o + 1 ≤ 200 → fs k1 (o + 1) = some r → Calls Tryz.prog 150 #[.pointer (some ⟨gp, 0, none⟩)] w1 (PostD w1 gp gt T C (o + 1) r))
    (r : Rd S155) (hr : cmpR T fs k o = some r) :
    Calls Tryz.prog 149 #[.pointer (some ⟨gp, 0, none⟩)] w (PostD w gp gt T C o r) := by
  have HR := Aside0.mk (fun (w1 : World) (k1 : Nat) (r1 : Rd S155) (h1 : PS w1 gp gt T C k1 o) (h2 : ruleR T fs k1 o = some r1) => rule_calls h1 ho Tryz.func150 (by decide) (by decide) fs (fun w2 r2 h3 => hFs w2 k1 r2 h3) r1 h2)
  have H := Aside0.mk h
  have HE := Aside0.mk hE
  unfold cmpR at hr
  clear hE h hFs ho
  go_enter Tryz.func149, Tryz.ntmps149
  go_upto_region 1 with (fail)
  obtain ⟨g2, hg2⟩ : ∃ g, w.heap.size = g := ⟨_, rfl⟩
  have B2 := Aside0.mk (fun O : Obj => hg2 ▸ blk_new w O)
  rw [hg2]
  have N2 := Aside0.mk (show g2 ≠ gp ∧ g2 ≠ gt ∧ w.heap.size ≤ g2 ∧ gp < w.heap.size by have := H.out.gt_lt; have := blk_lt H.out.box; omega)
  clear hg2
  refine at_world (fun w1 => Aside0 (PS w1 gp gt T C k o ∧ Stay gp w w1 ∧ w1.heap[g2]? = some (.cells z7 155 (0, 0)))) ⟨H.out.step (below_alloc (Below.refl _ _) _), (Stay.refl gp w).step (below_alloc (Below.refl _ _) _), B2.out _⟩ (fun w1 H1 => ?_)
  cases hq : ruleR T fs k o with
  | none => rw [hq] at hr; cases hr
  | some r1 =>
  rw [hq] at hr
  have HM := Aside0.mk hr
  have HQ := Aside0.mk hq
  clear hq hr
  go_upto_region 2 with (go_at_call 128; refine (HR.out w1 k _ H1.out.1 HQ.out).mono ?_; intro e w2 hp; rcases PostD.or hp with ⟨p, x, hr1, rfl, hs⟩ | ⟨A, c, d, k1, hr1, rfl, hea, hdn, hps, hst⟩; (subst hr1; have hm := HM.out; cases hm; exact ⟨rfl, rfl, H1.out.2.1.trans hs⟩); subst hr1; have H2 := Aside0.mk (And.intro hea (And.intro hdn (And.intro hps hst))); clear hea hdn hps hst hp)
  obtain ⟨g3, hg3⟩ : ∃ g, w2.heap.size = g := ⟨_, rfl⟩
  have B3 := Aside0.mk (fun O : Obj => hg3 ▸ blk_new w2 O)
  have N3 := Aside0.mk (show g2 ≠ g3 by have := blk_lt H1.out.2.2; have := H2.out.2.2.2.size; omega)
  rw [hg3]
  clear hg3
  refine at_world (fun w3 => Aside0 (PS w3 gp gt T C k1 o ∧ Stay gp w w3 ∧ w3.heap[g2]? = some (.cells z7 155 (0, 0)) ∧ w3.heap[g3]? = some (.cells (dcs A c d) 155 (0, 0)) ∧ EA w3 (fun k => w.heap.size ≤ k ∧ k ≠ g2) (.slice A d.f0.f3.length c) d.f0.f3))
    ⟨H2.out.2.2.1.step (below_alloc (Below.refl _ _) _), (H1.out.2.1.trans H2.out.2.2.2).step (below_alloc (Below.refl _ _) _), blk_alloc (H2.out.2.2.2.cells H1.out.2.2 N2.out.1) _, B3.out _,
      (put7_eq H2.out.1 fun k _ h => ⟨Nat.le_trans H1.out.2.1.size h, by have := blk_lt H1.out.2.2; unfold Fr at h; omega⟩).below (below_alloc (Below.refl _ _) _)⟩ (fun w3 H3 => ?_)
  obtain ⟨t, ht, t0, t1, t2, t3⟩ := H3.out.1.tok
  have Ht := Aside0.mk (tokAt_of ht)
  have c0 := H3.out.1.c0
  have hl : 1 ≤ T.length - k1 := by have := H3.out.1.at_; omega
  clear ht
  go_upto_region 3 with (fail)
  obtain ⟨g4, hg4⟩ : ∃ g, w3.heap.size = g := ⟨_, rfl⟩
  have B4 := Aside0.mk (fun O : Obj => hg4 ▸ blk_new w3 O)
  rw [hg4]
  clear hg4
  refine at_world (fun w4 => Aside0 (CmI w gp gt T C o g2 g3 g4 A c d t k1 w4))
    ⟨H3.out.1.step (below_alloc (Below.refl _ _) _), H3.out.2.1.step (below_alloc (Below.refl _ _) _), blk_alloc H3.out.2.2.1 _, blk_alloc H3.out.2.2.2.1 _, B4.out _, H3.out.2.2.2.2.below (below_alloc (Below.refl _ _) _), H2.out.2.1, N2.out.2.2.2, N2.out.2.2.1, N3.out⟩ (fun w4 H4 => ?_)
  clear c0 t0 t1 t2 t3
  have hm : cmp2 T fs d k1 o = some r := HM.out
  unfold cmp2 at hm
  rw [Ht.out] at hm
  by_cases hb : beginsB T k1 cmpL = true
  · rw [if_pos hb] at hm
    have hk := HE.out k1 H4.out.ps.at_ (by have := begins_kind hb; omega)
    have HB := Aside0.mk (And.intro hb hk)
    clear hb hk
    go_upto_region 4 with (go_at_call 38; refine (begins_calls (H4.out.ps.step (below_alloc (Below.refl _ _) _)) cmpL w4.heap.size (strs_cmp (blk_new _ _)) (by decide)).mono ?_; rw [HB.out.1]; rintro e w' ⟨rfl, he⟩; replace he := he.symm; subst he)
    refine at_world (fun w5 => Aside0 (CmI w gp gt T C o g2 g3 g4 A c d t k1 w5)) ⟨H4.out.below (below_alloc (Below.refl _ _) _)⟩ (fun w5 H5 => ?_)
    have c0 := H5.out.ps.c0
    have f0 := H5.out.ps.f0
    have hne : ¬ C - k1 = 1 := by have := H5.out.ps.len; have := HB.out.2; omega
    go_upto_region 5 with (fail)
    refine at_world (fun w5 => Aside0 (CmI w gp gt T C o g2 g3 g4 A c d t (k1 + 1) w5)) ⟨H5.out.stay ((Stay.refl _ _).set 0 _) (H5.out.ps.put0 HB.out.2)⟩ (fun w5 H5 => ?_)
    clear c0 f0 hl hne
    obtain ⟨x0, x1, x2, x3⟩ := tok_cells H5.out.b4
    obtain ⟨y0, y1, y2, y3, y4, y5, y6⟩ := dcs_cells H5.out.b3
    cases hq : ruleR T fs (k1 + 1) o with
    | none => rw [hq] at hm; cases hm
    | some r1 =>
    rw [hq] at hm
    have HM := Aside0.mk hm
    have HQ2 := Aside0.mk hq
    clear hq hm
    go_region_held2 (fun w' => (w'.cell? ⟨g4, 0, none⟩ = some (.int .i64 t.f0) ∧ w'.cell? ⟨g4, 1, none⟩ = some (.int .i64 t.f1) ∧ w'.cell? ⟨g4, 2, none⟩ = some (.string t.f2) ∧ w'.cell? ⟨g4, 3, none⟩ = some (.int .i64 t.f3)) ∧ w'.cell? ⟨g3, 0, none⟩ = some (.int .i64 d.f0.f0) ∧ w'.cell? ⟨g3, 1, none⟩ = some (.string d.f0.f1) ∧ w'.cell? ⟨g3, 2, none⟩ = some (.int .i64 d.f0.f2.f0) ∧ w'.cell? ⟨g3, 3, none⟩ = some (.int .i64 d.f0.f2.f1) ∧ w'.cell? ⟨g3, 4, none⟩ = some (.string d.f0.f2.f2) ∧ w'.cell? ⟨g3, 5, none⟩ = some (.slice A d.f0.f3.length c) ∧ w'.cell? ⟨g3, 6, none⟩ = some (.int .i64 d.f1)) (first | go_keep) (first | (go_simp; go_at_call 128; refine (HR.out _ _ _ (H5.out.below (below_drew (Below.refl _ _))).ps HQ2.out).mono ?_; intro e w6 hp; rcases PostD.or hp with ⟨p, x, hr1, rfl, hs⟩ | ⟨A3, c3, d3, k3, hr1, rfl, hea, hdn, hps, hst⟩; (have hm := HM.out; rw [hr1] at hm; cases hm; exact ⟨rfl, rfl, (H5.out.below (below_drew (Below.refl _ _))).st.trans hs⟩); have H6 := Aside0.mk (And.intro hr1 (And.intro hea (And.intro hdn ((H5.out.below (below_drew (Below.refl _ _))).stay hst hps)))); obtain ⟨X0, X1, X2, X3⟩ := tok_cells H6.out.2.2.2.b4; obtain ⟨Y0, Y1, Y2, Y3, Y4, Y5, Y6⟩ := dcs_cells H6.out.2.2.2.b3; have M8 := World.new_ne w6 _ X0; have M7 := World.new_ne w6 _ Y0; have HZ := Aside0.mk hst.size; clear hr1 hea hdn hps hst hp) | (go_simp; go_at_call 142; refine (op2_calls t t.f2 H6.out.2.2.2.ea H6.out.2.2.2.dn (put7_eq H6.out.2.1 ?q1) H6.out.2.2.1 ?q2 k3).mono ?_; (case q1 => exact fun k _ h => by have := H5.out.st.size; have := blk_lt H5.out.b2; unfold Fr at h; simp at h; exact ⟨by omega, by omega⟩); (case q2 => exact fun k h => by have := H6.out.2.2.2.st.size; have := blk_lt H6.out.2.2.2.b2; exact ⟨by omega, by omega⟩); intro e w8 hp; rcases hp with ⟨hbe, ⟨p, x, hr1, rfl⟩ | ⟨A4, c4, d4, hr1, rfl, hea, hdn⟩⟩; (have hm := HM.out; rw [H6.out.1] at hm; dsimp only at hm; rw [hr1] at hm; cases hm; exact ⟨rfl, rfl, (H6.out.2.2.2.below hbe).st⟩); have H8 := Aside0.mk (And.intro hr1 (And.intro hea (And.intro hdn (H6.out.2.2.2.below hbe)))); obtain ⟨X0, X1, X2, X3⟩ := tok_cells H8.out.2.2.2.b4; obtain ⟨W0, W1, W2, W3, W4, W5, W6⟩ := dcs_cells H8.out.2.2.2.b3; obtain ⟨Y0, Y1, Y2, Y3, Y4, Y5, Y6⟩ := dcs_cells (z7_dcs H8.out.2.2.2.b2); have Q0 := blk_frozen H8.out.2.2.2.b2 0; have Q1 := blk_frozen H8.out.2.2.2.b2 1; have Q2 := blk_frozen H8.out.2.2.2.b2 2; have Q3 := blk_frozen H8.out.2.2.2.b2 3; have Q4 := blk_frozen H8.out.2.2.2.b2 4; have Q5 := blk_frozen H8.out.2.2.2.b2 5; have Q6 := blk_frozen H8.out.2.2.2.b2 6; have N24 := blk_ne' H8.out.2.2.2.b2 H8.out.2.2.2.b4 (by decide); have N23 := H8.out.2.2.2.n23; clear hr1 hea hdn hbe))
    go_wp2
    have hm := HM.out
    rw [H6.out.1] at hm
    dsimp only at hm
    rw [H8.out.1] at hm
    obtain rfl := Option.some.inj hm
    refine bodyPost_ret (results_c rfl _ _ g2 155 _ (0,0) _ rfl (put7_blk (z7_dcs H8.out.2.2.2.b2)) Tryz.underlying155 rfl (by kernel_rfl)) rfl ?_
    exact ⟨_, rfl, put7_ea H8.out.2.1 ⟨fun h => h.2 rfl, fun k h => h.1⟩, H8.out.2.2.1, put7_ps H8.out.2.2.2.ps (blk_ne H8.out.2.2.2.b2 H8.out.2.2.2.ps.box (by decide)) (H8.out.2.2.2.ps.ne_gt H8.out.2.2.2.b2) H8.out.2.2.2.g22, put7_stay H8.out.2.2.2.st H8.out.2.2.2.n2⟩
  · rw [if_neg hb] at hm
    have hbf : beginsB T k1 cmpL = false := by simpa using hb
    have HB := Aside0.mk hbf
    clear hb hbf
    go_upto_region 6 with (go_at_call 38; refine (begins_calls (H4.out.ps.step (below_alloc (Below.refl _ _) _)) cmpL w4.heap.size (strs_cmp (blk_new _ _)) (by decide)).mono ?_; rw [HB.out]; rintro e w' ⟨rfl, he⟩; replace he := he.symm; subst he)
    refine at_world (fun w5 => Aside0 (CmI w gp gt T C o g2 g3 g4 A c d t k1 w5)) ⟨H4.out.below (below_alloc (Below.refl _ _) _)⟩ (fun w5 H5 => ?_)
    clear hl
    by_cases hi : isB t (⟨#[73, 83]⟩ : ByteArray) = true
    · rw [if_pos hi] at hm
      have hk := HE.out k1 H4.out.ps.at_ (by rw [Ht.out]; have := isB_kind hi; omega)
      have HI := Aside0.mk (And.intro hi hk)
      clear hi hk
      go_upto_region 8 with (go_at_call 37; refine (take_yes H5.out.ps _ (by rw [Ht.out]; exact HI.out.1) HI.out.2).mono ?_; rintro e w6 ⟨rfl, hps, hst⟩; have H6 := Aside0.mk (H5.out.stay hst hps); clear hps hst)
      by_cases hn : isB (tokAt T (k1 + 1)) (⟨#[78, 79, 84]⟩ : ByteArray) = true
      · rw [if_pos hn] at hm
        have hk := HE.out (k1 + 1) HI.out.2 (by have := isB_kind hn; omega)
        have HN := Aside0.mk (And.intro hn hk)
        clear hn hk
        go_upto_region 10 with (go_at_call 37; refine (take_yes H6.out.ps _ HN.out.1 HN.out.2).mono ?_; rintro e w7 ⟨rfl, hps, hst⟩; have H7 := Aside0.mk (H6.out.stay hst hps); clear hps hst)
        cases hmr : mustR T [(⟨#[78, 85, 76, 76]⟩ : ByteArray)] (k1 + 1 + 1) with
        | bad p x =>
          unfold nullR at hm
          rw [hmr] at hm
          obtain rfl := Option.some.inj hm
          have HMR := Aside0.mk hmr
          clear hmr hm
          go_wp2_with (go_at_call 40; refine (must_calls HE.out (H7.out.ps.step (below_alloc (Below.refl _ _) _)) [(⟨#[78, 85, 76, 76]⟩ : ByteArray)] w7.heap.size (strs_one (blk_new _ _)) (Nat.ne_of_gt (blk_lt H7.out.ps.box)) (by simp) (by simp)).mono ?_; rw [HMR.out]; rintro e w8 ⟨rfl, hst⟩; exact ⟨rfl, rfl, (H7.out.below (below_alloc (Below.refl _ _) _)).st.trans hst⟩)
        | ok u k2 =>
          unfold nullR at hm
          rw [hmr] at hm
          have HM2 := Aside0.mk (Option.some.inj hm)
          have HMR := Aside0.mk hmr
          clear hmr hm
          go_upto_region 11 with (go_at_call 40; refine (must_calls HE.out (H7.out.ps.step (below_alloc (Below.refl _ _) _)) [(⟨#[78, 85, 76, 76]⟩ : ByteArray)] w7.heap.size (strs_one (blk_new _ _)) (Nat.ne_of_gt (blk_lt H7.out.ps.box)) (by simp) (by simp)).mono ?_; rw [HMR.out]; rintro e w8 ⟨rfl, hps, hst⟩; have H8 := Aside0.mk ((H7.out.below (below_alloc (Below.refl _ _) _)).stay hst hps); clear hps hst)
          obtain ⟨x0, x1, x2, x3⟩ := tok_cells H8.out.b4
          obtain ⟨y0, y1, y2, y3, y4, y5, y6⟩ := dcs_cells H8.out.b3
          go_wp2_with (first | (go_at_call 142; refine (op1_calls t (⟨#[78, 79, 84, 78, 85, 76, 76]⟩ : ByteArray) H8.out.ea H8.out.dn ?q2 k2).mono ?_; (case q2 => exact fun k h => by have := H8.out.st.size; have := blk_lt H8.out.b2; exact ⟨by omega, by omega⟩); intro e w9 hp; rcases hp with ⟨hbe, ⟨p, x, hr1, rfl⟩ | ⟨A4, c4, d4, hr1, rfl, hea, hdn⟩⟩; (have hm := HM2.out; rw [hr1] at hm; subst hm; exact ⟨rfl, rfl, (H8.out.below hbe).st⟩); have H9 := Aside0.mk (And.intro hr1 (And.intro hea (And.intro hdn (H8.out.below hbe)))); clear hr1 hea hdn hbe) | (with_reducible refine gate_store (t := 155) (p := 2) rfl ?_; refine Hold.out ?_))
          refine ⟨?_⟩
          refine wpList_store_row rfl 155 _ _ rfl g2 #[.int .i64 d4.f0.f0, .string d4.f0.f1, .int .i64 d4.f0.f2.f0, .int .i64 d4.f0.f2.f1, .string d4.f0.f2.f2, .slice A4 d4.f0.f3.length c4, .int .i64 d4.f1] rfl rfl 155 z7 H9.out.2.2.2.b2 (by kernel_rfl) rfl (by simp [Value.oneCell']) ?_
          go_wp2
          have hm := HM2.out
          rw [H9.out.1] at hm
          subst hm
          refine bodyPost_ret (results_c rfl _ _ g2 155 _ (0,0) _ rfl (setRow_heap _ _ _ _ _ _ H9.out.2.2.2.b2) Tryz.underlying155 rfl (by kernel_rfl)) rfl ?_
          exact ⟨_, rfl, H9.out.2.1.of (fun k _ h => h.1) (by simp) (fun k h1 h2 => setRow_other _ _ _ _ h1.2), H9.out.2.2.1, H9.out.2.2.2.ps.row (blk_ne H9.out.2.2.2.b2 H9.out.2.2.2.ps.box (by decide)) (H9.out.2.2.2.ps.ne_gt H9.out.2.2.2.b2) H9.out.2.2.2.g22 _, H9.out.2.2.2.st.row H9.out.2.2.2.n2 _⟩
      · rw [if_neg hn] at hm
        have hn' : isB (tokAt T (k1 + 1)) (⟨#[78, 79, 84]⟩ : ByteArray) = false := by simpa using hn
        have HN := Aside0.mk hn'
        clear hn hn'
        go_upto_region 10 with (go_at_call 37; refine (take_no H6.out.ps _ HN.out).mono ?_; rintro e w7 ⟨rfl, he⟩; replace he := he.symm; subst he)
        cases hmr : mustR T [(⟨#[78, 85, 76, 76]⟩ : ByteArray)] (k1 + 1) with
        | bad p x =>
          unfold nullR at hm
          rw [hmr] at hm
          obtain rfl := Option.some.inj hm
          have HMR := Aside0.mk hmr
          clear hmr hm
          go_wp2_with (go_at_call 40; refine (must_calls HE.out (H6.out.ps.step (below_alloc (Below.refl _ _) _)) [(⟨#[78, 85, 76, 76]⟩ : ByteArray)] w6.heap.size (strs_one (blk_new _ _)) (Nat.ne_of_gt (blk_lt H6.out.ps.box)) (by simp) (by simp)).mono ?_; rw [HMR.out]; rintro e w8 ⟨rfl, hst⟩; exact ⟨rfl, rfl, (H6.out.below (below_alloc (Below.refl _ _) _)).st.trans hst⟩)
        | ok u k2 =>
          unfold nullR at hm
          rw [hmr] at hm
          have HM2 := Aside0.mk (Option.some.inj hm)
          have HMR := Aside0.mk hmr
          clear hmr hm
          go_upto_region 11 with (go_at_call 40; refine (must_calls HE.out (H6.out.ps.step (below_alloc (Below.refl _ _) _)) [(⟨#[78, 85, 76, 76]⟩ : ByteArray)] w6.heap.size (strs_one (blk_new _ _)) (Nat.ne_of_gt (blk_lt H6.out.ps.box)) (by simp) (by simp)).mono ?_; rw [HMR.out]; rintro e w8 ⟨rfl, hps, hst⟩; have H8 := Aside0.mk ((H6.out.below (below_alloc (Below.refl _ _) _)).stay hst hps); clear hps hst)
          obtain ⟨x0, x1, x2, x3⟩ := tok_cells H8.out.b4
          obtain ⟨y0, y1, y2, y3, y4, y5, y6⟩ := dcs_cells H8.out.b3
          go_wp2_with (first | (go_at_call 142; refine (op1_calls t (⟨#[73, 83, 78, 85, 76, 76]⟩ : ByteArray) H8.out.ea H8.out.dn ?q2 k2).mono ?_; (case q2 => exact fun k h => by have := H8.out.st.size; have := blk_lt H8.out.b2; exact ⟨by omega, by omega⟩); intro e w9 hp; rcases hp with ⟨hbe, ⟨p, x, hr1, rfl⟩ | ⟨A4, c4, d4, hr1, rfl, hea, hdn⟩⟩; (have hm := HM2.out; rw [hr1] at hm; subst hm; exact ⟨rfl, rfl, (H8.out.below hbe).st⟩); have H9 := Aside0.mk (And.intro hr1 (And.intro hea (And.intro hdn (H8.out.below hbe)))); clear hr1 hea hdn hbe) | (with_reducible refine gate_store (t := 155) (p := 2) rfl ?_; refine Hold.out ?_))
          refine ⟨?_⟩
          refine wpList_store_row rfl 155 _ _ rfl g2 #[.int .i64 d4.f0.f0, .string d4.f0.f1, .int .i64 d4.f0.f2.f0, .int .i64 d4.f0.f2.f1, .string d4.f0.f2.f2, .slice A4 d4.f0.f3.length c4, .int .i64 d4.f1] rfl rfl 155 z7 H9.out.2.2.2.b2 (by kernel_rfl) rfl (by simp [Value.oneCell']) ?_
          go_wp2
          have hm := HM2.out
          rw [H9.out.1] at hm
          subst hm
          refine bodyPost_ret (results_c rfl _ _ g2 155 _ (0,0) _ rfl (setRow_heap _ _ _ _ _ _ H9.out.2.2.2.b2) Tryz.underlying155 rfl (by kernel_rfl)) rfl ?_
          exact ⟨_, rfl, H9.out.2.1.of (fun k _ h => h.1) (by simp) (fun k h1 h2 => setRow_other _ _ _ _ h1.2), H9.out.2.2.1, H9.out.2.2.2.ps.row (blk_ne H9.out.2.2.2.b2 H9.out.2.2.2.ps.box (by decide)) (H9.out.2.2.2.ps.ne_gt H9.out.2.2.2.b2) H9.out.2.2.2.g22 _, H9.out.2.2.2.st.row H9.out.2.2.2.n2 _⟩
    · rw [if_neg hi] at hm
      have hi' : isB t (⟨#[73, 83]⟩ : ByteArray) = false := by simpa using hi
      have HI := Aside0.mk hi'
      clear hi hi'
      obtain rfl := Option.some.inj hm
      go_upto_region 12 with (go_at_call 37; refine (take_no H5.out.ps _ (by rw [Ht.out]; exact HI.out)).mono ?_; rintro e w6 ⟨rfl, he⟩; replace he := he.symm; subst he)
      obtain ⟨y0, y1, y2, y3, y4, y5, y6⟩ := dcs_cells H5.out.b3
      go_wp2_with (with_reducible refine gate_store (t := 155) (p := 2) rfl ?_; refine Hold.out ?_)
      refine ⟨?_⟩
      refine wpList_store_row rfl 155 _ _ rfl g2 #[.int .i64 d.f0.f0, .string d.f0.f1, .int .i64 d.f0.f2.f0, .int .i64 d.f0.f2.f1, .string d.f0.f2.f2, .slice A d.f0.f3.length c, .int .i64 d.f1] rfl rfl 155 z7 H5.out.b2 (by kernel_rfl) rfl (by simp [Value.oneCell']) ?_
      go_wp2
      refine bodyPost_ret (results_c rfl _ _ g2 155 _ (0,0) _ rfl (setRow_heap _ _ _ _ _ _ H5.out.b2) Tryz.underlying155 rfl (by kernel_rfl)) rfl ?_
      exact ⟨_, rfl, H5.out.ea.of (fun k _ h => h.1) (by simp) (fun k h1 h2 => setRow_other _ _ _ _ h1.2), H5.out.dn, H5.out.ps.row (blk_ne H5.out.b2 H5.out.ps.box (by decide)) (H5.out.ps.ne_gt H5.out.b2) H5.out.g22 _, H5.out.st.row H5.out.n2 _⟩
end Go.Proofs.YtlpnlfahlcingaaGreatDoor.PL
end
section
namespace Go.Proofs.YtlpnlfahlcingaaGreatDoor.PL
open Go.RowKit Go.Proofs.YtlpnlfahlcingaaGreatDoorW.PrintWords Go.Proofs.YtlpnlfahlcingaaGreatDoorW.PrintLast Go.Proofs.YtlpnlfahlcingaaGreatDoorW.PrintMore
set_option linter.unusedVariables false
set_option linter.unusedSimpArgs false
attribute [local go_sem] World.cell?_alloc_some
attribute [local go_sem ↓] isSome_setCell
def valO (t : Tok) : Option S31 :=
  if t.f0 = 2 then some ⟨2, t.f3, ⟨#[]⟩⟩
  else if t.f0 = 3 then some ⟨3, 0, t.f2⟩
  else if isB t (⟨#[84, 82, 85, 69]⟩ : ByteArray) = true then some ⟨1, 1, ⟨#[]⟩⟩
  else if isB t (⟨#[70, 65, 76, 83, 69]⟩ : ByteArray) = true then some ⟨1, 0, ⟨#[]⟩⟩
  else if isB t (⟨#[78, 85, 76, 76]⟩ : ByteArray) = true then some ⟨0, 0, ⟨#[]⟩⟩
  else none
def unaryR (T : List Tok) (fu fo : Nat → Int → Option (Rd S155)) (k : Nat) (o : Int) : Option (Rd S155) :=
  if isB (tokAt T k) (⟨#[45]⟩ : ByteArray) = true then
    match ruleR T fu (k + 1) o with
    | none => none
    | some (.bad p x) => some (.bad p x)
    | some (.ok d k1) => some (opR (tokAt T k).f1 (⟨#[78, 69, 71]⟩ : ByteArray) [d] k1)
  else if isB (tokAt T k) (⟨#[40]⟩ : ByteArray) = true then
    match ruleR T fo (k + 1) o with
    | none => none
    | some (.bad p x) => some (.bad p x)
    | some (.ok d k1) =>
      match mustR T [(⟨#[41]⟩ : ByteArray)] k1 with
      | .bad p x => some (.bad p x)
      | .ok _ k2 => some (.ok d k2)
  else match valO (tokAt T k) with
  | some v => some (.ok ⟨⟨1, ⟨#[]⟩, v, []⟩, 1⟩ (k + 1))
  | none =>
    match nameR T k with
    | .bad p x => some (.bad p x)
    | .ok s k1 => some (.ok ⟨⟨2, s, ⟨0, 0, ⟨#[]⟩⟩, []⟩, 1⟩ k1)
structure UnI (w : World) (gp gt : Nat) (T : List Tok) (C : Nat) (o : Int) (g2 g3 g4 : Nat) (t : Tok) (v : S31) (k : Nat) (w2 : World) : Prop where
  ps : PS w2 gp gt T C k o
  st : Stay gp w w2
  b2 : w2.heap[g2]? = some (.cells z7 155 (0, 0))
  b3 : w2.heap[g3]? = some (.cells (tcs t) 75 (0, 0))
  b4 : w2.heap[g4]? = some (.cells #[.int .i64 v.f0, .int .i64 v.f1, .string v.f2] 31 (0, 0))
  gpl : gp < w.heap.size
  n2 : w.heap.size ≤ g2
  n4 : w.heap.size ≤ g4
  n34 : g3 ≠ g4
section
variable {w : World} {gp gt : Nat} {T : List Tok} {C : Nat} {o : Int} {g2 g3 g4 : Nat} {t : Tok} {v : S31} {k : Nat} {w2 w3 : World}
theorem UnI.stay (h : UnI w gp gt T C o g2 g3 g4 t v k w2) (hs : Stay gp w2 w3) {k' : Nat} (hp : PS w3 gp gt T C k' o) : UnI w gp gt T C o g2 g3 g4 t v k' w3 :=
  ⟨hp, h.st.trans hs, hs.cells h.b2 (blk_ne h.b2 h.ps.box (by decide)), hs.cells h.b3 (blk_ne h.b3 h.ps.box (by decide)), hs.cells h.b4 (blk_ne h.b4 h.ps.box (by decide)), h.gpl, h.n2, h.n4, h.n34⟩
theorem UnI.below (h : UnI w gp gt T C o g2 g3 g4 t v k w2) (hs : Below w2.heap.size w2 w3) : UnI w gp gt T C o g2 g3 g4 t v k w3 := h.stay (Below.stay hs gp) (h.ps.step hs)
theorem UnI.g22 (h : UnI w gp gt T C o g2 g3 g4 t v k w2) : 2 ≤ g2 := by have := h.ps.gp2; have := h.gpl; have := h.n2; omega
theorem PS.ne_gt' {w : World} {gp gt : Nat} {T : List Tok} {C k : Nat} {o : Int} (h : PS w gp gt T C k o) {g : Nat} {cs : Array Value} (hb : w.heap[g]? = some (.cells cs 31 (0, 0))) : g ≠ gt := by
  obtain ⟨cur, hb2, _⟩ := h.toks
  exact blk_ne hb hb2 (by decide)
theorem UnI.put (h : UnI w gp gt T C o g2 g3 g4 t v k w2) (u : S31) : UnI w gp gt T C o g2 g3 g4 t u k (w2.setRow g4 #[.int .i64 u.f0, .int .i64 u.f1, .string u.f2]) :=
  ⟨h.ps.row (blk_ne h.b4 h.ps.box (by decide)) (h.ps.ne_gt' h.b4) (by have := h.ps.gp2; have := h.gpl; have := h.n4; omega) _, h.st.row h.n4 _, (setRow_other _ _ _ _ (blk_ne h.b2 h.b4 (by decide))).trans h.b2, (setRow_other _ _ _ _ h.n34).trans h.b3, setRow_heap _ _ _ _ _ _ h.b4, h.gpl, h.n2, h.n4, h.n34⟩
end
theorem EA.nil (w : World) (S : Nat → Prop) : EA w S (.slice none 0 0) [] := ⟨none, 0, rfl, Nat.le_refl _, fun W2 _ => Kd.C_nil k34 W2⟩
set_option maxHeartbeats 8000000 in
set_option maxRecDepth 100000 in
theorem unary_calls {w : World} {gp gt : Nat} {T : List Tok} {C k : Nat} {o : Int} (hE : TE T) (hW : TW T) (h : PS w gp gt T C k o) (ho : o ≤ 200) (fu fo : Nat → Int → Option (Rd S155))
    (hFu : ∀ (w1 : World) (k1 : Nat) (r : Rd S155), PS w1 gp gt T C k1 (o + 1) → o + 1 ≤ 200 → fu k1 (o + 1) = some r → Calls Tryz.prog 152 #[.pointer (some ⟨gp, 0, none⟩)] w1 (PostD w1 gp gt T C (o + 1) r))
    (hFo : ∀ (w1 : World) (k1 : Nat) (r : Rd S155), PS w1 gp gt T C k1 (o + 1) → o + 1 ≤ 200 → fo k1 (o + 1) = some r → Calls Tryz.prog 129 #[.pointer (some ⟨gp, 0, none⟩)] w1 (PostD w1 gp gt T C (o + 1) r))
    (r : Rd S155) (hr : unaryR T fu fo k o = some r) :
    Calls Tryz.prog 152 #[.pointer (some ⟨gp, 0, none⟩)] w (PostD w gp gt T C o r) := by
  have HR := Aside0.mk (fun (w1 : World) (k1 : Nat) (r1 : Rd S155) (h1 : PS w1 gp gt T C k1 o) (h2 : ruleR T fu k1 o = some r1) => rule_calls h1 ho Tryz.func152 (by decide) (by decide) fu (fun w2 r2 h3 => hFu w2 k1 r2 h3) r1 h2)
  have HRo := Aside0.mk (fun (w1 : World) (k1 : Nat) (r1 : Rd S155) (h1 : PS w1 gp gt T C k1 o) (h2 : ruleR T fo k1 o = some r1) => rule_calls h1 ho Tryz.func129 (by decide) (by decide) fo (fun w2 r2 h3 => hFo w2 k1 r2 h3) r1 h2)
  have H := Aside0.mk h
  have HE := Aside0.mk (And.intro hE hW)
  unfold unaryR at hr
  obtain ⟨t, ht, t0, t1, t2, t3⟩ := h.tok
  have htk := tokAt_of ht
  rw [htk] at hr
  have Ht := Aside0.mk htk
  have hk0 := hE k h.at_
  rw [htk] at hk0
  have c0 := h.c0
  have hl : 1 ≤ T.length - k := by have := h.at_; omega
  clear hE hW h hFu hFo ho htk ht
  go_enter Tryz.func152, Tryz.ntmps152
  go_upto_region 1 with (fail)
  obtain ⟨g2, hg2⟩ : ∃ g, w.heap.size = g := ⟨_, rfl⟩
  have B2 := Aside0.mk (fun O : Obj => hg2 ▸ blk_new w O)
  rw [hg2]
  have N2 := Aside0.mk (show g2 ≠ gp ∧ g2 ≠ gt ∧ w.heap.size ≤ g2 ∧ gp < w.heap.size by have := H.out.gt_lt; have := blk_lt H.out.box; omega)
  clear hg2
  refine at_world (fun w1 => Aside0 (PS w1 gp gt T C k o ∧ Stay gp w w1 ∧ w1.heap[g2]? = some (.cells z7 155 (0, 0)))) ⟨H.out.step (below_alloc (Below.refl _ _) _), (Stay.refl gp w).step (below_alloc (Below.refl _ _) _), B2.out _⟩ (fun w1 H1 => ?_)
  clear c0 t0 t1 t2 t3
  obtain ⟨t', ht', t0, t1, t2, t3⟩ := H1.out.1.tok
  obtain rfl : t = t' := Ht.out.symm.trans (tokAt_of ht')
  have c0 := H1.out.1.c0
  clear ht'
  go_upto_region 2 with (fail)
  obtain ⟨g3, hg3⟩ : ∃ g, w1.heap.size = g := ⟨_, rfl⟩
  have B3 := Aside0.mk (fun O : Obj => hg3 ▸ blk_new w1 O)
  rw [hg3]
  clear hg3
  refine at_world (fun w2 => Aside0 (PS w2 gp gt T C k o ∧ Stay gp w w2 ∧ w2.heap[g2]? = some (.cells z7 155 (0, 0)) ∧ w2.heap[g3]? = some (.cells (tcs t) 75 (0, 0)))) ⟨H1.out.1.step (below_alloc (Below.refl _ _) _), H1.out.2.1.step (below_alloc (Below.refl _ _) _), blk_alloc H1.out.2.2 _, B3.out _⟩ (fun w2 H2 => ?_)
  clear c0 t0 t1 t2 t3
  go_upto_region 4 with (fail)
  obtain ⟨g4, hg4⟩ : ∃ g, w2.heap.size = g := ⟨_, rfl⟩
  have B4 := Aside0.mk (fun O : Obj => hg4 ▸ blk_new w2 O)
  have N4 := Aside0.mk (show w.heap.size ≤ g4 ∧ g3 ≠ g4 by have := H2.out.2.1.size; have := blk_lt H2.out.2.2.2; omega)
  rw [hg4]
  clear hg4
  refine at_world (fun w4 => Aside0 (UnI w gp gt T C o g2 g3 g4 t ⟨0, 0, ⟨#[]⟩⟩ k w4)) ⟨H2.out.1.step (below_alloc (Below.refl _ _) _), H2.out.2.1.step (below_alloc (Below.refl _ _) _), blk_alloc H2.out.2.2.1 _, blk_alloc H2.out.2.2.2 _, B4.out _, N2.out.2.2.2, N2.out.2.2.1, N4.out.1, N4.out.2⟩ (fun w4 H4 => ?_)
  clear hl
  by_cases hb1 : isB t (⟨#[45]⟩ : ByteArray) = true
  · rw [if_pos hb1] at hr
    have HB := Aside0.mk (And.intro hb1 (hk0 (by have := isB_kind hb1; omega)))
    have HM := Aside0.mk hr
    clear hb1 hk0 hr
    go_upto_region 5 with (go_at_call 37; refine (take_yes H4.out.ps _ (by rw [Ht.out]; exact HB.out.1) HB.out.2).mono ?_; rintro e w5 ⟨rfl, hps, hst⟩; have H5 := Aside0.mk (H4.out.stay hst hps); clear hps hst)
    obtain ⟨x0, x1, x2, x3⟩ := tok_cells H5.out.b3
    have hm := HM.out
    clear HM
    cases hq : ruleR T fu (k + 1) o with
    | none => rw [hq] at hm; cases hm
    | some r1 =>
    rw [hq] at hm
    have HM := Aside0.mk hm
    have HQ2 := Aside0.mk hq
    clear hq hm
    go_region_held2 (fun w' => w'.cell? ⟨g3, 0, none⟩ = some (.int .i64 t.f0) ∧ w'.cell? ⟨g3, 1, none⟩ = some (.int .i64 t.f1) ∧ w'.cell? ⟨g3, 2, none⟩ = some (.string t.f2) ∧ w'.cell? ⟨g3, 3, none⟩ = some (.int .i64 t.f3)) (first | go_keep) (first | (go_simp; go_at_call 128; refine (HR.out _ _ _ (H5.out.below (below_drew (Below.refl _ _))).ps HQ2.out).mono ?_; intro e w6 hp; rcases PostD.or hp with ⟨p, x, hr1, rfl, hs⟩ | ⟨A3, c3, d3, k3, hr1, rfl, hea, hdn, hps, hst⟩; (have hm := HM.out; rw [hr1] at hm; cases hm; exact ⟨rfl, rfl, (H5.out.below (below_drew (Below.refl _ _))).st.trans hs⟩); have H6 := Aside0.mk (And.intro hr1 (And.intro hea (And.intro hdn ((H5.out.below (below_drew (Below.refl _ _))).stay hst hps)))); obtain ⟨X0, X1, X2, X3⟩ := tok_cells H6.out.2.2.2.b3; have M8 := World.new_ne w6 _ X0; have HZ := Aside0.mk hst.size; clear hr1 hea hdn hps hst hp) | (go_simp; go_at_call 142; refine (op1_calls t (⟨#[78, 69, 71]⟩ : ByteArray) H6.out.2.1 H6.out.2.2.1 ?q2 k3).mono ?_; (case q2 => exact fun k h => Nat.le_trans HZ.out h); intro e w8 hp; rcases hp with ⟨hbe, ⟨p, x, hr1, rfl⟩ | ⟨A4, c4, d4, hr1, rfl, hea, hdn⟩⟩; (have hm := HM.out; rw [H6.out.1] at hm; dsimp only at hm; rw [hr1] at hm; cases hm; exact ⟨rfl, rfl, (H6.out.2.2.2.below hbe).st⟩); have H8 := Aside0.mk (And.intro hr1 (And.intro hea (And.intro hdn (H6.out.2.2.2.below hbe)))); obtain ⟨X0, X1, X2, X3⟩ := tok_cells H8.out.2.2.2.b3; obtain ⟨Y0, Y1, Y2, Y3, Y4, Y5, Y6⟩ := dcs_cells (z7_dcs H8.out.2.2.2.b2); have Q0 := blk_frozen H8.out.2.2.2.b2 0; have Q1 := blk_frozen H8.out.2.2.2.b2 1; have Q2 := blk_frozen H8.out.2.2.2.b2 2; have Q3 := blk_frozen H8.out.2.2.2.b2 3; have Q4 := blk_frozen H8.out.2.2.2.b2 4; have Q5 := blk_frozen H8.out.2.2.2.b2 5; have Q6 := blk_frozen H8.out.2.2.2.b2 6; have N24 := blk_ne' H8.out.2.2.2.b2 H8.out.2.2.2.b3 (by decide); clear hr1 hea hdn hbe))
    go_wp2
    have hm := HM.out
    rw [H6.out.1] at hm
    dsimp only at hm
    rw [H8.out.1] at hm
    obtain rfl := Option.some.inj hm
    refine bodyPost_ret (results_c rfl _ _ g2 155 _ (0,0) _ rfl (put7_blk (z7_dcs H8.out.2.2.2.b2)) Tryz.underlying155 rfl (by kernel_rfl)) rfl ?_
    have h5 := blk_lt H5.out.b2
    exact ⟨_, rfl, put7_ea H8.out.2.1 ⟨fun h => by unfold Fr at h; simp at h; omega, fun k h => by have := H5.out.st.size; unfold Fr at h ⊢; simp at h; omega⟩, H8.out.2.2.1, put7_ps H8.out.2.2.2.ps (blk_ne H8.out.2.2.2.b2 H8.out.2.2.2.ps.box (by decide)) (H8.out.2.2.2.ps.ne_gt H8.out.2.2.2.b2) H8.out.2.2.2.g22, put7_stay H8.out.2.2.2.st H8.out.2.2.2.n2⟩
  · rw [if_neg hb1] at hr
    have hb1' : isB t (⟨#[45]⟩ : ByteArray) = false := by simpa using hb1
    have HB1 := Aside0.mk hb1'
    clear hb1 hb1'
    by_cases hb2 : isB t (⟨#[40]⟩ : ByteArray) = true
    · rw [if_pos hb2] at hr
      have HB := Aside0.mk (And.intro hb2 (hk0 (by have := isB_kind hb2; omega)))
      have HM := Aside0.mk hr
      clear hb2 hk0 hr
      go_upto_region 6 with (go_at_call 37; refine (take_no H4.out.ps _ (by rw [Ht.out]; exact HB1.out)).mono ?_; rintro e w' ⟨rfl, he⟩; replace he := he.symm; subst he)
      go_upto_region 7 with (go_at_call 37; refine (take_yes H4.out.ps _ (by rw [Ht.out]; exact HB.out.1) HB.out.2).mono ?_; rintro e w5 ⟨rfl, hps, hst⟩; have H5 := Aside0.mk (H4.out.stay hst hps); clear hps hst)
      have hm := HM.out
      clear HM
      cases hq : ruleR T fo (k + 1) o with
      | none => rw [hq] at hm; cases hm
      | some r1 =>
      rw [hq] at hm
      have HM := Aside0.mk hm
      have HQ2 := Aside0.mk hq
      clear hq hm
      go_upto_region 8 with (go_at_call 128; refine (HRo.out _ _ _ H5.out.ps HQ2.out).mono ?_; intro e w6 hp; rcases PostD.or hp with ⟨p, x, hr1, rfl, hs⟩ | ⟨A3, c3, d3, k3, hr1, rfl, hea, hdn, hps, hst⟩; (subst hr1; have hm := HM.out; cases hm; exact ⟨rfl, rfl, H5.out.st.trans hs⟩); have H6 := Aside0.mk (And.intro hr1 (And.intro hea (And.intro hdn (H5.out.stay hst hps)))); clear hr1 hea hdn hps hst hp)
      obtain ⟨g5, hg5⟩ : ∃ g, w6.heap.size = g := ⟨_, rfl⟩
      have B5 := Aside0.mk (fun O : Obj => hg5 ▸ blk_new w6 O)
      have N5 := Aside0.mk (show g5 ≠ gp ∧ g2 ≠ g5 by have := blk_lt H6.out.2.2.2.ps.box; have := blk_lt H6.out.2.2.2.b2; omega)
      rw [hg5]
      clear hg5
      refine at_world (fun w7 => Aside0 (UnI w gp gt T C o g2 g3 g4 t ⟨0, 0, ⟨#[]⟩⟩ k3 w7 ∧ w7.heap[g5]? = some (.cells (dcs A3 c3 d3) 155 (0, 0)) ∧ EA w7 (fun k => Fr w k ∧ k ≠ g2) (.slice A3 d3.f0.f3.length c3) d3.f0.f3))
        ⟨H6.out.2.2.2.below (below_alloc (Below.refl _ _) _), B5.out _, (put7_eq H6.out.2.1 fun k _ h => ⟨Nat.le_trans H5.out.st.size h, by have := blk_lt H5.out.b2; unfold Fr at h; omega⟩).below (below_alloc (Below.refl _ _) _)⟩ (fun w7 H7 => ?_)
      have hm := HM.out
      rw [H6.out.1] at hm
      dsimp only at hm
      have HDN := Aside0.mk H6.out.2.2.1
      cases hmr : mustR T [(⟨#[41]⟩ : ByteArray)] k3 with
      | bad p x =>
        rw [hmr] at hm
        obtain rfl := Option.some.inj hm
        have HMR := Aside0.mk hmr
        clear hmr hm
        go_wp2_with (go_at_call 40; refine (must_calls HE.out.1 (H7.out.1.ps.step (below_alloc (Below.refl _ _) _)) [(⟨#[41]⟩ : ByteArray)] w7.heap.size (strs_one (blk_new _ _)) (Nat.ne_of_gt (blk_lt H7.out.1.ps.box)) (by simp) (by simp)).mono ?_; rw [HMR.out]; rintro e w8 ⟨rfl, hst⟩; exact ⟨rfl, rfl, (H7.out.1.below (below_alloc (Below.refl _ _) _)).st.trans hst⟩)
      | ok u k4 =>
        rw [hmr] at hm
        obtain rfl := Option.some.inj hm
        have HMR := Aside0.mk hmr
        clear hmr hm
        go_upto_region 9 with (go_at_call 40; refine (must_calls HE.out.1 (H7.out.1.ps.step (below_alloc (Below.refl _ _) _)) [(⟨#[41]⟩ : ByteArray)] w7.heap.size (strs_one (blk_new _ _)) (Nat.ne_of_gt (blk_lt H7.out.1.ps.box)) (by simp) (by simp)).mono ?_; rw [HMR.out]; rintro e w8 ⟨rfl, hps, hst⟩; have H8 := Aside0.mk (And.intro ((H7.out.1.below (below_alloc (Below.refl _ _) _)).stay hst hps) (And.intro (hst.cells (blk_alloc H7.out.2.1 _) N5.out.1) ((H7.out.2.2.below (below_alloc (Below.refl _ _) _)).stay hst (fun h => Nat.not_le.2 H4.out.gpl h.1)))); clear hps hst)
        obtain ⟨y0, y1, y2, y3, y4, y5, y6⟩ := dcs_cells H8.out.2.1
        go_wp2_with (with_reducible refine gate_store (t := 155) (p := 2) rfl ?_; refine Hold.out ?_)
        refine ⟨?_⟩
        refine wpList_store_row rfl 155 _ _ rfl g2 #[.int .i64 d3.f0.f0, .string d3.f0.f1, .int .i64 d3.f0.f2.f0, .int .i64 d3.f0.f2.f1, .string d3.f0.f2.f2, .slice A3 d3.f0.f3.length c3, .int .i64 d3.f1] rfl rfl 155 z7 H8.out.1.b2 (by kernel_rfl) rfl (by simp [Value.oneCell']) ?_
        go_wp2
        refine bodyPost_ret (results_c rfl _ _ g2 155 _ (0,0) _ rfl (setRow_heap _ _ _ _ _ _ H8.out.1.b2) Tryz.underlying155 rfl (by kernel_rfl)) rfl ?_
        exact ⟨_, rfl, H8.out.2.2.of (fun k _ h => h.1) (by simp) (fun k h1 h2 => setRow_other _ _ _ _ h1.2), HDN.out, H8.out.1.ps.row (blk_ne H8.out.1.b2 H8.out.1.ps.box (by decide)) (H8.out.1.ps.ne_gt H8.out.1.b2) H8.out.1.g22 _, H8.out.1.st.row H8.out.1.n2 _⟩
    · rw [if_neg hb2] at hr
      have hb2' : isB t (⟨#[40]⟩ : ByteArray) = false := by simpa using hb2
      have HB2 := Aside0.mk hb2'
      clear hb2 hb2'
      obtain ⟨x0, x1, x2, x3⟩ := tok_cells H4.out.b3
      unfold valO at hr
      by_cases e2 : t.f0 = 2
      · rw [if_pos e2] at hr
        obtain rfl := Option.some.inj hr
        have HK := Aside0.mk (hk0 (by omega))
        have e2b : (t.f0 == 2) = true := by simpa using e2
        clear hk0 hr e2
        go_wp2_with (first | (go_at_call 86; refine (is_calls H4.out.ps _).mono ?_; rw [Ht.out]; rintro e w' ⟨rfl, he⟩; replace he := he.symm; subst he) | (go_at_call 37; refine (take_no H4.out.ps _ (by rw [Ht.out]; first | exact HB1.out | exact HB2.out)).mono ?_; rintro e w' ⟨rfl, he⟩; replace he := he.symm; subst he) | (with_reducible refine gate_store (t := 31) (p := 4) rfl ?_; refine Hold.out ?_))
        refine ⟨?_⟩
        refine wpList_store_row rfl 31 _ _ rfl g4 #[.int .i64 (⟨2, t.f3, ⟨#[]⟩⟩ : S31).f0, .int .i64 (⟨2, t.f3, ⟨#[]⟩⟩ : S31).f1, .string (⟨2, t.f3, ⟨#[]⟩⟩ : S31).f2] rfl rfl 31 _ H4.out.b4 (by kernel_rfl) rfl (by simp [Value.oneCell']) ?_
        go_upto_region 19 with (fail)
        refine at_world (fun w5 => Aside0 (UnI w gp gt T C o g2 g3 g4 t (⟨2, t.f3, ⟨#[]⟩⟩ : S31) k w5)) ⟨H4.out.put (⟨2, t.f3, ⟨#[]⟩⟩ : S31)⟩ (fun w5 H5 => ?_)
        have c0 := H5.out.ps.c0
        have f0 := H5.out.ps.f0
        have hl : 1 ≤ T.length - k := by have := H.out.at_; omega
        have hne : ¬ C - k = 1 := by have := H.out.len; have := HK.out; omega
        go_upto_region 20 with (fail)
        refine at_world (fun w7 => Aside0 (UnI w gp gt T C o g2 g3 g4 t (⟨2, t.f3, ⟨#[]⟩⟩ : S31) (k + 1) w7)) ⟨H5.out.stay ((Stay.refl _ _).set 0 _) (H5.out.ps.put0 HK.out)⟩ (fun w7 H7 => ?_)
        clear c0 f0 hl hne
        have v0 := (blk_cell H7.out.b4 0).trans rfl
        have v1 := (blk_cell H7.out.b4 1).trans rfl
        have v2 := (blk_cell H7.out.b4 2).trans rfl
        simp at v0 v1 v2
        go_wp2_with (with_reducible refine gate_store (t := 155) (p := 2) rfl ?_; refine Hold.out ?_)
        refine ⟨?_⟩
        refine wpList_store_row rfl 155 _ _ rfl g2 #[.int .i64 1, .string ⟨#[]⟩, .int .i64 (⟨2, t.f3, ⟨#[]⟩⟩ : S31).f0, .int .i64 (⟨2, t.f3, ⟨#[]⟩⟩ : S31).f1, .string (⟨2, t.f3, ⟨#[]⟩⟩ : S31).f2, .slice none 0 0, .int .i64 1] rfl rfl 155 z7 H7.out.b2 (by kernel_rfl) rfl (by simp [Value.oneCell']) ?_
        go_wp2
        refine bodyPost_ret (results_c rfl _ _ g2 155 _ (0,0) _ rfl (setRow_heap _ _ _ _ _ _ H7.out.b2) Tryz.underlying155 rfl (by kernel_rfl)) rfl ?_
        exact ⟨_, rfl, EA.nil _ _, ⟨(by decide : (0 : Int) ≤ 1), (by decide : (1 : Int) ≤ 16)⟩, H7.out.ps.row (blk_ne H7.out.b2 H7.out.ps.box (by decide)) (H7.out.ps.ne_gt H7.out.b2) H7.out.g22 _, H7.out.st.row H7.out.n2 _⟩
      · rw [if_neg e2] at hr
        have e2b : (t.f0 == 2) = false := by simpa using e2
        clear e2
        by_cases e3 : t.f0 = 3
        · rw [if_pos e3] at hr
          obtain rfl := Option.some.inj hr
          have HK := Aside0.mk (hk0 (by omega))
          have e3b : (t.f0 == 3) = true := by simpa using e3
          clear hk0 hr e3
          go_wp2_with (first | (go_at_call 86; refine (is_calls H4.out.ps _).mono ?_; rw [Ht.out]; rintro e w' ⟨rfl, he⟩; replace he := he.symm; subst he) | (go_at_call 37; refine (take_no H4.out.ps _ (by rw [Ht.out]; first | exact HB1.out | exact HB2.out)).mono ?_; rintro e w' ⟨rfl, he⟩; replace he := he.symm; subst he) | (with_reducible refine gate_store (t := 31) (p := 4) rfl ?_; refine Hold.out ?_))
          refine ⟨?_⟩
          refine wpList_store_row rfl 31 _ _ rfl g4 #[.int .i64 (⟨3, 0, t.f2⟩ : S31).f0, .int .i64 (⟨3, 0, t.f2⟩ : S31).f1, .string (⟨3, 0, t.f2⟩ : S31).f2] rfl rfl 31 _ H4.out.b4 (by kernel_rfl) rfl (by simp [Value.oneCell']) ?_
          go_upto_region 19 with (fail)
          refine at_world (fun w5 => Aside0 (UnI w gp gt T C o g2 g3 g4 t (⟨3, 0, t.f2⟩ : S31) k w5)) ⟨H4.out.put (⟨3, 0, t.f2⟩ : S31)⟩ (fun w5 H5 => ?_)
          have c0 := H5.out.ps.c0
          have f0 := H5.out.ps.f0
          have hl : 1 ≤ T.length - k := by have := H.out.at_; omega
          have hne : ¬ C - k = 1 := by have := H.out.len; have := HK.out; omega
          go_upto_region 20 with (fail)
          refine at_world (fun w7 => Aside0 (UnI w gp gt T C o g2 g3 g4 t (⟨3, 0, t.f2⟩ : S31) (k + 1) w7)) ⟨H5.out.stay ((Stay.refl _ _).set 0 _) (H5.out.ps.put0 HK.out)⟩ (fun w7 H7 => ?_)
          clear c0 f0 hl hne
          have v0 := (blk_cell H7.out.b4 0).trans rfl
          have v1 := (blk_cell H7.out.b4 1).trans rfl
          have v2 := (blk_cell H7.out.b4 2).trans rfl
          simp at v0 v1 v2
          go_wp2_with (with_reducible refine gate_store (t := 155) (p := 2) rfl ?_; refine Hold.out ?_)
          refine ⟨?_⟩
          refine wpList_store_row rfl 155 _ _ rfl g2 #[.int .i64 1, .string ⟨#[]⟩, .int .i64 (⟨3, 0, t.f2⟩ : S31).f0, .int .i64 (⟨3, 0, t.f2⟩ : S31).f1, .string (⟨3, 0, t.f2⟩ : S31).f2, .slice none 0 0, .int .i64 1] rfl rfl 155 z7 H7.out.b2 (by kernel_rfl) rfl (by simp [Value.oneCell']) ?_
          go_wp2
          refine bodyPost_ret (results_c rfl _ _ g2 155 _ (0,0) _ rfl (setRow_heap _ _ _ _ _ _ H7.out.b2) Tryz.underlying155 rfl (by kernel_rfl)) rfl ?_
          exact ⟨_, rfl, EA.nil _ _, ⟨(by decide : (0 : Int) ≤ 1), (by decide : (1 : Int) ≤ 16)⟩, H7.out.ps.row (blk_ne H7.out.b2 H7.out.ps.box (by decide)) (H7.out.ps.ne_gt H7.out.b2) H7.out.g22 _, H7.out.st.row H7.out.n2 _⟩
        · rw [if_neg e3] at hr
          have e3b : (t.f0 == 3) = false := by simpa using e3
          clear e3
          by_cases hT : isB t (⟨#[84, 82, 85, 69]⟩ : ByteArray) = true
          · rw [if_pos hT] at hr
            obtain rfl := Option.some.inj hr
            have HK := Aside0.mk (hk0 (by have := isB_kind hT; omega))
            clear hk0 hr
            go_wp2_with (first | (go_at_call 86; refine (is_calls H4.out.ps _).mono ?_; rw [Ht.out]; rintro e w' ⟨rfl, he⟩; replace he := he.symm; subst he) | (go_at_call 37; refine (take_no H4.out.ps _ (by rw [Ht.out]; first | exact HB1.out | exact HB2.out)).mono ?_; rintro e w' ⟨rfl, he⟩; replace he := he.symm; subst he) | (with_reducible refine gate_store (t := 31) (p := 4) rfl ?_; refine Hold.out ?_))
            refine ⟨?_⟩
            refine wpList_store_row rfl 31 _ _ rfl g4 #[.int .i64 (⟨1, 1, ⟨#[]⟩⟩ : S31).f0, .int .i64 (⟨1, 1, ⟨#[]⟩⟩ : S31).f1, .string (⟨1, 1, ⟨#[]⟩⟩ : S31).f2] rfl rfl 31 _ H4.out.b4 (by kernel_rfl) rfl (by simp [Value.oneCell']) ?_
            go_upto_region 19 with (fail)
            refine at_world (fun w5 => Aside0 (UnI w gp gt T C o g2 g3 g4 t (⟨1, 1, ⟨#[]⟩⟩ : S31) k w5)) ⟨H4.out.put (⟨1, 1, ⟨#[]⟩⟩ : S31)⟩ (fun w5 H5 => ?_)
            have c0 := H5.out.ps.c0
            have f0 := H5.out.ps.f0
            have hl : 1 ≤ T.length - k := by have := H.out.at_; omega
            have hne : ¬ C - k = 1 := by have := H.out.len; have := HK.out; omega
            go_upto_region 20 with (fail)
            refine at_world (fun w7 => Aside0 (UnI w gp gt T C o g2 g3 g4 t (⟨1, 1, ⟨#[]⟩⟩ : S31) (k + 1) w7)) ⟨H5.out.stay ((Stay.refl _ _).set 0 _) (H5.out.ps.put0 HK.out)⟩ (fun w7 H7 => ?_)
            clear c0 f0 hl hne
            have v0 := (blk_cell H7.out.b4 0).trans rfl
            have v1 := (blk_cell H7.out.b4 1).trans rfl
            have v2 := (blk_cell H7.out.b4 2).trans rfl
            simp at v0 v1 v2
            go_wp2_with (with_reducible refine gate_store (t := 155) (p := 2) rfl ?_; refine Hold.out ?_)
            refine ⟨?_⟩
            refine wpList_store_row rfl 155 _ _ rfl g2 #[.int .i64 1, .string ⟨#[]⟩, .int .i64 (⟨1, 1, ⟨#[]⟩⟩ : S31).f0, .int .i64 (⟨1, 1, ⟨#[]⟩⟩ : S31).f1, .string (⟨1, 1, ⟨#[]⟩⟩ : S31).f2, .slice none 0 0, .int .i64 1] rfl rfl 155 z7 H7.out.b2 (by kernel_rfl) rfl (by simp [Value.oneCell']) ?_
            go_wp2
            refine bodyPost_ret (results_c rfl _ _ g2 155 _ (0,0) _ rfl (setRow_heap _ _ _ _ _ _ H7.out.b2) Tryz.underlying155 rfl (by kernel_rfl)) rfl ?_
            exact ⟨_, rfl, EA.nil _ _, ⟨(by decide : (0 : Int) ≤ 1), (by decide : (1 : Int) ≤ 16)⟩, H7.out.ps.row (blk_ne H7.out.b2 H7.out.ps.box (by decide)) (H7.out.ps.ne_gt H7.out.b2) H7.out.g22 _, H7.out.st.row H7.out.n2 _⟩
          · rw [if_neg hT] at hr
            replace hT : isB t (⟨#[84, 82, 85, 69]⟩ : ByteArray) = false := by simpa using hT
            by_cases hF : isB t (⟨#[70, 65, 76, 83, 69]⟩ : ByteArray) = true
            · rw [if_pos hF] at hr
              obtain rfl := Option.some.inj hr
              have HK := Aside0.mk (hk0 (by have := isB_kind hF; omega))
              clear hk0 hr
              go_wp2_with (first | (go_at_call 86; refine (is_calls H4.out.ps _).mono ?_; rw [Ht.out]; rintro e w' ⟨rfl, he⟩; replace he := he.symm; subst he) | (go_at_call 37; refine (take_no H4.out.ps _ (by rw [Ht.out]; first | exact HB1.out | exact HB2.out)).mono ?_; rintro e w' ⟨rfl, he⟩; replace he := he.symm; subst he) | (with_reducible refine gate_store (t := 31) (p := 4) rfl ?_; refine Hold.out ?_))
              refine ⟨?_⟩
              refine wpList_store_row rfl 31 _ _ rfl g4 #[.int .i64 (⟨1, 0, ⟨#[]⟩⟩ : S31).f0, .int .i64 (⟨1, 0, ⟨#[]⟩⟩ : S31).f1, .string (⟨1, 0, ⟨#[]⟩⟩ : S31).f2] rfl rfl 31 _ H4.out.b4 (by kernel_rfl) rfl (by simp [Value.oneCell']) ?_
              go_upto_region 19 with (fail)
              refine at_world (fun w5 => Aside0 (UnI w gp gt T C o g2 g3 g4 t (⟨1, 0, ⟨#[]⟩⟩ : S31) k w5)) ⟨H4.out.put (⟨1, 0, ⟨#[]⟩⟩ : S31)⟩ (fun w5 H5 => ?_)
              have c0 := H5.out.ps.c0
              have f0 := H5.out.ps.f0
              have hl : 1 ≤ T.length - k := by have := H.out.at_; omega
              have hne : ¬ C - k = 1 := by have := H.out.len; have := HK.out; omega
              go_upto_region 20 with (fail)
              refine at_world (fun w7 => Aside0 (UnI w gp gt T C o g2 g3 g4 t (⟨1, 0, ⟨#[]⟩⟩ : S31) (k + 1) w7)) ⟨H5.out.stay ((Stay.refl _ _).set 0 _) (H5.out.ps.put0 HK.out)⟩ (fun w7 H7 => ?_)
              clear c0 f0 hl hne
              have v0 := (blk_cell H7.out.b4 0).trans rfl
              have v1 := (blk_cell H7.out.b4 1).trans rfl
              have v2 := (blk_cell H7.out.b4 2).trans rfl
              simp at v0 v1 v2
              go_wp2_with (with_reducible refine gate_store (t := 155) (p := 2) rfl ?_; refine Hold.out ?_)
              refine ⟨?_⟩
              refine wpList_store_row rfl 155 _ _ rfl g2 #[.int .i64 1, .string ⟨#[]⟩, .int .i64 (⟨1, 0, ⟨#[]⟩⟩ : S31).f0, .int .i64 (⟨1, 0, ⟨#[]⟩⟩ : S31).f1, .string (⟨1, 0, ⟨#[]⟩⟩ : S31).f2, .slice none 0 0, .int .i64 1] rfl rfl 155 z7 H7.out.b2 (by kernel_rfl) rfl (by simp [Value.oneCell']) ?_
              go_wp2
              refine bodyPost_ret (results_c rfl _ _ g2 155 _ (0,0) _ rfl (setRow_heap _ _ _ _ _ _ H7.out.b2) Tryz.underlying155 rfl (by kernel_rfl)) rfl ?_
              exact ⟨_, rfl, EA.nil _ _, ⟨(by decide : (0 : Int) ≤ 1), (by decide : (1 : Int) ≤ 16)⟩, H7.out.ps.row (blk_ne H7.out.b2 H7.out.ps.box (by decide)) (H7.out.ps.ne_gt H7.out.b2) H7.out.g22 _, H7.out.st.row H7.out.n2 _⟩
            · rw [if_neg hF] at hr
              replace hF : isB t (⟨#[70, 65, 76, 83, 69]⟩ : ByteArray) = false := by simpa using hF
              by_cases hN : isB t (⟨#[78, 85, 76, 76]⟩ : ByteArray) = true
              · rw [if_pos hN] at hr
                obtain rfl := Option.some.inj hr
                have HK := Aside0.mk (hk0 (by have := isB_kind hN; omega))
                clear hk0 hr
                go_upto_region 19 with (first | (go_at_call 86; refine (is_calls H4.out.ps _).mono ?_; rw [Ht.out]; rintro e w' ⟨rfl, he⟩; replace he := he.symm; subst he) | (go_at_call 37; refine (take_no H4.out.ps _ (by rw [Ht.out]; first | exact HB1.out | exact HB2.out)).mono ?_; rintro e w' ⟨rfl, he⟩; replace he := he.symm; subst he))
                have H5 := H4
                have c0 := H5.out.ps.c0
                have f0 := H5.out.ps.f0
                have hl : 1 ≤ T.length - k := by have := H.out.at_; omega
                have hne : ¬ C - k = 1 := by have := H.out.len; have := HK.out; omega
                go_upto_region 20 with (fail)
                refine at_world (fun w7 => Aside0 (UnI w gp gt T C o g2 g3 g4 t (⟨0, 0, ⟨#[]⟩⟩ : S31) (k + 1) w7)) ⟨H5.out.stay ((Stay.refl _ _).set 0 _) (H5.out.ps.put0 HK.out)⟩ (fun w7 H7 => ?_)
                clear c0 f0 hl hne
                have v0 := (blk_cell H7.out.b4 0).trans rfl
                have v1 := (blk_cell H7.out.b4 1).trans rfl
                have v2 := (blk_cell H7.out.b4 2).trans rfl
                simp at v0 v1 v2
                go_wp2_with (with_reducible refine gate_store (t := 155) (p := 2) rfl ?_; refine Hold.out ?_)
                refine ⟨?_⟩
                refine wpList_store_row rfl 155 _ _ rfl g2 #[.int .i64 1, .string ⟨#[]⟩, .int .i64 (⟨0, 0, ⟨#[]⟩⟩ : S31).f0, .int .i64 (⟨0, 0, ⟨#[]⟩⟩ : S31).f1, .string (⟨0, 0, ⟨#[]⟩⟩ : S31).f2, .slice none 0 0, .int .i64 1] rfl rfl 155 z7 H7.out.b2 (by kernel_rfl) rfl (by simp [Value.oneCell']) ?_
                go_wp2
                refine bodyPost_ret (results_c rfl _ _ g2 155 _ (0,0) _ rfl (setRow_heap _ _ _ _ _ _ H7.out.b2) Tryz.underlying155 rfl (by kernel_rfl)) rfl ?_
                exact ⟨_, rfl, EA.nil _ _, ⟨(by decide : (0 : Int) ≤ 1), (by decide : (1 : Int) ≤ 16)⟩, H7.out.ps.row (blk_ne H7.out.b2 H7.out.ps.box (by decide)) (H7.out.ps.ne_gt H7.out.b2) H7.out.g22 _, H7.out.st.row H7.out.n2 _⟩
              · rw [if_neg hN] at hr
                replace hN : isB t (⟨#[78, 85, 76, 76]⟩ : ByteArray) = false := by simpa using hN
                have HK := Aside0.mk hk0
                clear hk0
                cases hmr : nameR T k with
                | bad p x =>
                  rw [hmr] at hr
                  obtain rfl := Option.some.inj hr
                  have HMR := Aside0.mk hmr
                  clear hmr hr
                  go_wp2_with (first | (go_at_call 86; refine (is_calls H4.out.ps _).mono ?_; rw [Ht.out]; rintro e w' ⟨rfl, he⟩; replace he := he.symm; subst he) | (go_at_call 37; refine (take_no H4.out.ps _ (by rw [Ht.out]; first | exact HB1.out | exact HB2.out)).mono ?_; rintro e w' ⟨rfl, he⟩; replace he := he.symm; subst he) | (go_at_call 84; refine (name_calls HE.out.1 HE.out.2 H4.out.ps).mono ?_; rw [HMR.out]; rintro e w8 ⟨rfl, hst⟩; exact ⟨rfl, rfl, H4.out.st.trans hst⟩))
                | ok s k4 =>
                  rw [hmr] at hr
                  obtain rfl := Option.some.inj hr
                  have HMR := Aside0.mk hmr
                  clear hmr hr
                  go_wp2_with (first | (go_at_call 86; refine (is_calls H4.out.ps _).mono ?_; rw [Ht.out]; rintro e w' ⟨rfl, he⟩; replace he := he.symm; subst he) | (go_at_call 37; refine (take_no H4.out.ps _ (by rw [Ht.out]; first | exact HB1.out | exact HB2.out)).mono ?_; rintro e w' ⟨rfl, he⟩; replace he := he.symm; subst he) | (go_at_call 84; refine (name_calls HE.out.1 HE.out.2 H4.out.ps).mono ?_; rw [HMR.out]; rintro e w8 ⟨rfl, hps, hst⟩; have H8 := Aside0.mk (H4.out.stay hst hps); clear hps hst) | (with_reducible refine gate_store (t := 155) (p := 2) rfl ?_; refine Hold.out ?_))
                  refine ⟨?_⟩
                  refine wpList_store_row rfl 155 _ _ rfl g2 #[.int .i64 2, .string s, .int .i64 (⟨0, 0, ⟨#[]⟩⟩ : S31).f0, .int .i64 (⟨0, 0, ⟨#[]⟩⟩ : S31).f1, .string (⟨0, 0, ⟨#[]⟩⟩ : S31).f2, .slice none 0 0, .int .i64 1] rfl rfl 155 z7 H8.out.b2 (by kernel_rfl) rfl (by simp [Value.oneCell']) ?_
                  go_wp2
                  refine bodyPost_ret (results_c rfl _ _ g2 155 _ (0,0) _ rfl (setRow_heap _ _ _ _ _ _ H8.out.b2) Tryz.underlying155 rfl (by kernel_rfl)) rfl ?_
                  exact ⟨_, rfl, EA.nil _ _, ⟨(by decide : (0 : Int) ≤ 1), (by decide : (1 : Int) ≤ 16)⟩, H8.out.ps.row (blk_ne H8.out.b2 H8.out.ps.box (by decide)) (H8.out.ps.ne_gt H8.out.b2) H8.out.g22 _, H8.out.st.row H8.out.n2 _⟩
end Go.Proofs.YtlpnlfahlcingaaGreatDoor.PL
end
section
namespace Go.Proofs.YtlpnlfahlcingaaGreatDoor.PL
open Go.RowKit Go.Proofs.YtlpnlfahlcingaaGreatDoorW.PrintWords Go.Proofs.YtlpnlfahlcingaaGreatDoorW.PrintLast Go.Proofs.YtlpnlfahlcingaaGreatDoorW.PrintMore
set_option linter.unusedVariables false
set_option linter.unusedSimpArgs false
attribute [local go_sem] World.cell?_alloc_some
attribute [local go_sem ↓] isSome_setCell
def lv (T : List Tok) : Nat → Nat → Nat → Int → Option (Rd S155)
  | 0, _, _, _ => none
  | n + 1, 0, k, o => chainR T (lv T n 1) [(⟨#[79, 82]⟩ : ByteArray)] n k o
  | n + 1, 1, k, o => chainR T (lv T n 2) [(⟨#[65, 78, 68]⟩ : ByteArray)] n k o
  | n + 1, 2, k, o => notR T (lv T n 2) (lv T n 3) k o
  | n + 1, 3, k, o => cmpR T (lv T n 4) k o
  | n + 1, 4, k, o => chainR T (lv T n 5) [(⟨#[43]⟩ : ByteArray), (⟨#[45]⟩ : ByteArray)] n k o
  | n + 1, 5, k, o => chainR T (lv T n 6) [(⟨#[42]⟩ : ByteArray), (⟨#[47]⟩ : ByteArray), (⟨#[37]⟩ : ByteArray)] n k o
  | n + 1, _ + 6, k, o => unaryR T (lv T n 6) (lv T n 0) k o
def lvF : Nat → FuncId
  | 0 => 129
  | 1 => 135
  | 2 => 143
  | 3 => 149
  | 4 => 150
  | 5 => 151
  | _ => 152
theorem lv_calls {gp gt : Nat} {T : List Tok} {C : Nat} (hE : TE T) (hW : TW T) : ∀ (n l k : Nat) (o : Int) (w : World) (r : Rd S155), PS w gp gt T C k o → o ≤ 200 → lv T n l k o = some r → Calls Tryz.prog (lvF l) #[.pointer (some ⟨gp, 0, none⟩)] w (PostD w gp gt T C o r)
  | 0, l, k, o, w, r, _, _, hr => by cases l <;> cases hr
  | n + 1, 0, k, o, w, r, h, ho, hr => or_calls hE h ho (lv T n 1) (fun w1 k1 r1 h1 h2 h3 => lv_calls hE hW n 1 k1 _ w1 r1 h1 h2 h3) n r hr
  | n + 1, 1, k, o, w, r, h, ho, hr => and_calls hE h ho (lv T n 2) (fun w1 k1 r1 h1 h2 h3 => lv_calls hE hW n 2 k1 _ w1 r1 h1 h2 h3) n r hr
  | n + 1, 2, k, o, w, r, h, ho, hr => not_calls hE h ho (lv T n 2) (lv T n 3) (fun w1 k1 r1 h1 h2 h3 => lv_calls hE hW n 2 k1 _ w1 r1 h1 h2 h3) (fun w1 k1 r1 h1 h2 h3 => lv_calls hE hW n 3 k1 _ w1 r1 h1 h2 h3) r hr
  | n + 1, 3, k, o, w, r, h, ho, hr => cmp_calls hE h ho (lv T n 4) (fun w1 k1 r1 h1 h2 h3 => lv_calls hE hW n 4 k1 _ w1 r1 h1 h2 h3) r hr
  | n + 1, 4, k, o, w, r, h, ho, hr => sum_calls hE h ho (lv T n 5) (fun w1 k1 r1 h1 h2 h3 => lv_calls hE hW n 5 k1 _ w1 r1 h1 h2 h3) n r hr
  | n + 1, 5, k, o, w, r, h, ho, hr => prod_calls hE h ho (lv T n 6) (fun w1 k1 r1 h1 h2 h3 => lv_calls hE hW n 6 k1 _ w1 r1 h1 h2 h3) n r hr
  | n + 1, _ + 6, k, o, w, r, h, ho, hr => unary_calls hE hW h ho (lv T n 6) (lv T n 0) (fun w1 k1 r1 h1 h2 h3 => lv_calls hE hW n 6 k1 _ w1 r1 h1 h2 h3) (fun w1 k1 r1 h1 h2 h3 => lv_calls hE hW n 0 k1 _ w1 r1 h1 h2 h3) r hr
def exprR (T : List Tok) (n k : Nat) (o : Int) : Option (Rd S34) :=
  match ruleR T (lv T n 0) k o with
  | none => none
  | some (.bad p x) => some (.bad p x)
  | some (.ok d k1) => some (.ok d.f0 k1)
def z6 : Array Value := #[.int .i64 0, .string ⟨#[]⟩, .int .i64 0, .int .i64 0, .string ⟨#[]⟩, .slice none 0 0]
def PostE (w : World) (gp gt : Nat) (T : List Tok) (C : Nat) (o : Int) (r : Rd S34) (e : Ending) (w' : World) : Prop :=
  match r with
  | .ok x k => ∃ A c, e = .returned (.agg #[.int .i64 x.f0, .string x.f1, .int .i64 x.f2.f0, .int .i64 x.f2.f1, .string x.f2.f2, .slice A x.f3.length c]) ∧ EA w' (Fr w) (.slice A x.f3.length c) x.f3 ∧ PS w' gp gt T C k o ∧ Stay gp w w'
  | .bad p x => e = .panicked [{ v := failV p x, recovered := false }] ∧ Stay gp w w'
theorem wpList_valueTo {P : Program} {ops : Array Oper} {rest : List Oper} {o : Oper} {a : Act} {w : World} {Q : Exit → Act → World → Prop} (hgd : o.guard = none) (v : Value) (hrun : (execOp a.eval o).run P w = .ok (.value v) w)
    (h : wpList P ops Q rest (a.put o.dst v) w) : wpList P ops Q (o :: rest) a w :=
  wpList_plain hgd fun K hK => by
    unfold Oper.wp
    rw [hrun]
    exact hK _ _ h
set_option maxHeartbeats 8000000 in
set_option maxRecDepth 100000 in
theorem expr_calls {w : World} {gp gt : Nat} {T : List Tok} {C k : Nat} {o : Int} (hE : TE T) (hW : TW T) (h : PS w gp gt T C k o) (ho : o ≤ 200) (n : Nat) (r : Rd S34) (hr : exprR T n k o = some r) :
    Calls Tryz.prog 113 #[.pointer (some ⟨gp, 0, none⟩)] w (PostE w gp gt T C o r) := by
  have HR := Aside0.mk (fun (w1 : World) (r1 : Rd S155) (h1 : PS w1 gp gt T C k o) (h2 : ruleR T (lv T n 0) k o = some r1) => rule_calls h1 ho Tryz.func129 (by decide) (by decide) (lv T n 0) (fun w2 r2 h3 h4 h5 => lv_calls hE hW n 0 k _ w2 r2 h3 h4 h5) r1 h2)
  have H := Aside0.mk h
  clear hE hW h ho
  unfold exprR at hr
  cases hq : ruleR T (lv T n 0) k o with
  | none => rw [hq] at hr; cases hr
  | some r1 =>
  rw [hq] at hr
  have HM := Aside0.mk hr
  have HQ := Aside0.mk hq
  clear hq hr
  go_enter Tryz.func113, Tryz.ntmps113
  go_upto_region 1 with (fail)
  obtain ⟨g2, hg2⟩ : ∃ g, w.heap.size = g := ⟨_, rfl⟩
  have B2 := Aside0.mk (fun O : Obj => hg2 ▸ blk_new w O)
  rw [hg2]
  have N2 := Aside0.mk (show g2 ≠ gp ∧ g2 ≠ gt ∧ w.heap.size ≤ g2 ∧ gp < w.heap.size by have := H.out.gt_lt; have := blk_lt H.out.box; omega)
  clear hg2
  refine at_world (fun w1 => Aside0 (PS w1 gp gt T C k o ∧ Stay gp w w1 ∧ w1.heap[g2]? = some (.cells z6 34 (0, 0)))) ⟨H.out.step (below_alloc (Below.refl _ _) _), (Stay.refl gp w).step (below_alloc (Below.refl _ _) _), B2.out _⟩ (fun w1 H1 => ?_)
  go_wp2_with (first | (go_at_call 128; refine (HR.out w1 _ H1.out.1 HQ.out).mono ?_; intro e w3 hp; rcases PostD.or hp with ⟨p, x, hr1, rfl, hs⟩ | ⟨A3, c3, d3, k3, hr1, rfl, hea, hdn, hps, hst⟩; (subst hr1; have hm := HM.out; cases hm; exact ⟨rfl, rfl, H1.out.2.1.trans hs⟩); subst hr1; have H3 := Aside0.mk (And.intro hea (And.intro hps (And.intro (H1.out.2.1.trans hst) (hst.cells H1.out.2.2 N2.out.1)))); clear hea hdn hps hst hp) | (with_reducible refine gate_dst (N := 7) rfl ?_; refine wpList_valueTo rfl (.agg #[.int .i64 d3.f0.f0, .string d3.f0.f1, .int .i64 d3.f0.f2.f0, .int .i64 d3.f0.f2.f1, .string d3.f0.f2.f2, .slice A3 d3.f0.f3.length c3]) (by kernel_rfl) ?_) | (with_reducible refine gate_store (t := 34) (p := 2) rfl ?_; refine Hold.out ?_))
  refine ⟨?_⟩
  refine wpList_store_row rfl 34 _ _ rfl g2 #[.int .i64 d3.f0.f0, .string d3.f0.f1, .int .i64 d3.f0.f2.f0, .int .i64 d3.f0.f2.f1, .string d3.f0.f2.f2, .slice A3 d3.f0.f3.length c3] rfl rfl 34 z6 H3.out.2.2.2 (by kernel_rfl) rfl (by simp [Value.oneCell']) ?_
  go_wp2
  have hm := HM.out
  obtain rfl := Option.some.inj hm
  refine bodyPost_ret (results_c rfl _ _ g2 34 _ (0,0) _ rfl (setRow_heap _ _ _ _ _ _ H3.out.2.2.2) Tryz.underlying34 rfl (by kernel_rfl)) rfl ?_
  refine ⟨A3, c3, rfl, ?_, H3.out.2.1.row N2.out.1 N2.out.2.1 (by have := H.out.gp2; have := N2.out; omega) _, H3.out.2.2.1.row N2.out.2.2.1 _⟩
  have hb := blk_lt H1.out.2.2
  exact H3.out.1.of (fun k _ h => by have := H1.out.2.1.size; unfold Fr at h ⊢; omega) (by simp) fun k h1 h2 => setRow_other _ _ _ _ (by unfold Fr at h1; omega)
end Go.Proofs.YtlpnlfahlcingaaGreatDoor.PL
end
section
namespace Go.Proofs.YtlpnlfahlcingaaGreatDoor.PL
open Go.RowKit Go.Proofs.YtlpnlfahlcingaaGreatDoorW.PrintWords Go.Proofs.YtlpnlfahlcingaaGreatDoorW.PrintLast Go.Proofs.YtlpnlfahlcingaaGreatDoorW.PrintMore
set_option linter.unusedVariables false
set_option linter.unusedSimpArgs false
attribute [local go_sem] World.cell?_alloc_some
attribute [local go_sem ↓] isSome_setCell
def leadL : List ByteArray := [(⟨#[78, 79, 84]⟩ : ByteArray), (⟨#[45]⟩ : ByteArray), (⟨#[40]⟩ : ByteArray), (⟨#[84, 82, 85, 69]⟩ : ByteArray), (⟨#[70, 65, 76, 83, 69]⟩ : ByteArray), (⟨#[78, 85, 76, 76]⟩ : ByteArray)]
theorem strs_lead {w : World} {g : Nat} {t : TypeId} (h : w.heap[g]? = some (.cells #[.string (⟨#[78, 79, 84]⟩ : ByteArray), .string (⟨#[45]⟩ : ByteArray), .string (⟨#[40]⟩ : ByteArray), .string (⟨#[84, 82, 85, 69]⟩ : ByteArray), .string (⟨#[70, 65, 76, 83, 69]⟩ : ByteArray), .string (⟨#[78, 85, 76, 76]⟩ : ByteArray)] t (0, 0))) : StrsAt w g leadL := by
  intro i s hs
  unfold leadL at hs
  match i, hs with
  | 0, hs => obtain rfl := Option.some.inj hs; exact (blk_cell h 0).trans rfl
  | 1, hs => obtain rfl := Option.some.inj hs; exact (blk_cell h 1).trans rfl
  | 2, hs => obtain rfl := Option.some.inj hs; exact (blk_cell h 2).trans rfl
  | 3, hs => obtain rfl := Option.some.inj hs; exact (blk_cell h 3).trans rfl
  | 4, hs => obtain rfl := Option.some.inj hs; exact (blk_cell h 4).trans rfl
  | 5, hs => obtain rfl := Option.some.inj hs; exact (blk_cell h 5).trans rfl
  | i + 6, hs => simp at hs
def leadsB (T : List Tok) (k : Nat) : Bool := (tokAt T k).f0 == 2 || ((tokAt T k).f0 == 3 || (namedB (tokAt T k) || beginsB T k leadL))
set_option maxHeartbeats 4000000 in
set_option maxRecDepth 100000 in
theorem leads_calls {w : World} {gp gt : Nat} {T : List Tok} {C k : Nat} {o : Int} (hW : TW T) (h : PS w gp gt T C k o) :
    Calls Tryz.prog 112 #[.pointer (some ⟨gp, 0, none⟩)] w fun e w' => e = .returned (.bool (leadsB T k)) ∧ Below w.heap.size w w' := by
  have H := Aside0.mk (And.intro hW h)
  unfold leadsB
  obtain ⟨t, ht, t0, t1, t2, t3⟩ := h.tok
  have Ht := Aside0.mk (tokAt_of ht)
  rw [tokAt_of ht]
  have c0 := h.c0
  have hl : 0 < T.length - k := by have := h.at_; omega
  clear ht h hW
  by_cases e2 : t.f0 = 2
  · have e2b : (t.f0 == 2) = true := by simpa using e2
    clear e2
    go_enter Tryz.func112, Tryz.ntmps112
    go_wp2
    go_ret
    exact ⟨by simp [e2b], Below.refl _ _⟩
  · have e2b : (t.f0 == 2) = false := by simpa using e2
    clear e2
    by_cases e3 : t.f0 = 3
    · have e3b : (t.f0 == 3) = true := by simpa using e3
      clear e3
      go_enter Tryz.func112, Tryz.ntmps112
      go_wp2
      go_ret
      exact ⟨by simp [e3b], Below.refl _ _⟩
    · have e3b : (t.f0 == 3) = false := by simpa using e3
      clear e3
      cases hn : namedB t with
      | true =>
        have HN := Aside0.mk hn
        clear hn
        go_enter Tryz.func112, Tryz.ntmps112
        go_wp2_with (go_at_call 88; refine (named_calls H.out.1 H.out.2).mono ?_; rw [Ht.out, HN.out]; rintro e w1 ⟨rfl, hb⟩; have H1 := Aside0.mk hb; clear hb)
        go_ret
        exact ⟨by simp [e2b, e3b], H1.out⟩
      | false =>
        have HN := Aside0.mk hn
        clear hn
        obtain ⟨b, hb⟩ : ∃ b, beginsB T k leadL = b := ⟨_, rfl⟩
        rw [hb]
        have HB := Aside0.mk hb
        clear hb
        go_enter Tryz.func112, Tryz.ntmps112
        go_wp2_with (first | (go_at_call 88; refine (named_calls H.out.1 H.out.2).mono ?_; rw [Ht.out, HN.out]; rintro e w1 ⟨rfl, hb⟩; have H1 := Aside0.mk hb; clear hb) | (go_at_call 38; refine (begins_calls ((H.out.2.step H1.out).step (below_alloc (Below.refl _ _) _)) leadL w1.heap.size (strs_lead (blk_new _ _)) (by decide)).mono ?_; rw [HB.out]; rintro e w' ⟨rfl, he⟩; replace he := he.symm; subst he))
        go_ret
        exact ⟨by simp [e2b, e3b], below_alloc H1.out _⟩
end Go.Proofs.YtlpnlfahlcingaaGreatDoor.PL
end
section
namespace Go.Proofs.YtlpnlfahlcingaaGreatDoor.PL
open Go.RowKit Go.Proofs.YtlpnlfahlcingaaGreatDoorW.PrintWords Go.Proofs.YtlpnlfahlcingaaGreatDoorW.PrintLast Go.Proofs.YtlpnlfahlcingaaGreatDoorW.PrintMore
set_option linter.unusedVariables false
set_option linter.unusedSimpArgs false
def RA {α : Type} (d : Kd α) (w : World) (S : Nat → Prop) (v : Value) (xs : List α) : Prop := ∃ A c, v = .slice A xs.length c ∧ xs.length ≤ c ∧ ∀ W2 : World, (∀ k, S k → k < w.heap.size → W2.heap[k]? = w.heap[k]?) → d.C W2 A xs.length xs
def KA {α : Type} (d : Kd α) (w : World) (S : Nat → Prop) (cs : List Value) (x : α) : Prop := ∀ W2 : World, (∀ k, S k → k < w.heap.size → W2.heap[k]? = w.heap[k]?) → d.K W2 x cs
section
variable {α : Type} {d : Kd α} {w w1 : World} {S S1 : Nat → Prop}
theorem EA.ra {v : Value} {xs : List S34} (h : EA w S v xs) : RA k34 w S v xs := h
theorem RA.of {v : Value} {xs : List α} (h : RA d w S v xs) (hb : ∀ k, k < w.heap.size → S k → S1 k) (hs : w.heap.size ≤ w1.heap.size) (hk : ∀ k, S k → k < w.heap.size → w1.heap[k]? = w.heap[k]?) : RA d w1 S1 v xs := by
  obtain ⟨A, c, e, hc, h⟩ := h
  exact ⟨A, c, e, hc, fun W2 h2 => h W2 fun k h3 h4 => (h2 k (hb k h4 h3) (by omega)).trans (hk k h3 h4)⟩
theorem KA.of {cs : List Value} {x : α} (h : KA d w S cs x) (hb : ∀ k, k < w.heap.size → S k → S1 k) (hs : w.heap.size ≤ w1.heap.size) (hk : ∀ k, S k → k < w.heap.size → w1.heap[k]? = w.heap[k]?) : KA d w1 S1 cs x :=
  fun W2 h2 => h W2 fun k h3 h4 => (h2 k (hb k h4 h3) (by omega)).trans (hk k h3 h4)
theorem KA.len {cs : List Value} {x : α} (h : KA d w S cs x) : cs.length = d.sz := d.K_len (h w fun _ _ _ => rfl)
theorem KA.one {cs : List Value} {x : α} (h : KA d w S cs x) : ∀ u ∈ cs, u.oneCell' = true := d.K_one (h w fun _ _ _ => rfl)
theorem RA.nil (d : Kd α) (w : World) (S : Nat → Prop) : RA d w S (.slice none 0 0) [] := ⟨none, 0, rfl, Nat.le_refl _, fun W2 _ => Kd.C_nil d W2⟩
theorem flat_getP {β : Type} (m : Nat) : ∀ (l : List (List Value × β)), (∀ p, p ∈ l → p.1.length = m) → ∀ (j : Nat) (x : List Value × β), l[j]? = some x → ∀ i, i < m → (l.flatMap (·.1))[j * m + i]? = x.1[i]?
  | [], _, j, x, h, i, hi => by simp at h
  | a :: r, hm, 0, x, h, i, hi => by
    simp at h
    subst h
    rw [List.flatMap_cons, Nat.zero_mul, Nat.zero_add, List.getElem?_append_left (by rw [hm a List.mem_cons_self]; exact hi)]
  | a :: r, hm, j + 1, x, h, i, hi => by
    have ha := hm a List.mem_cons_self
    rw [List.flatMap_cons, List.getElem?_append_right (by rw [ha, Nat.add_mul]; omega)]
    rw [show (j + 1) * m + i - a.1.length = j * m + i by rw [ha, Nat.add_mul]; omega]
    exact flat_getP m r (fun q hq => hm q (List.mem_cons_of_mem _ hq)) j x (by simpa using h) i hi
theorem RA.row {base e : Nat} {v : Value} {l : List (List Value × α)} (hl : l.length ≤ 1000000) (h0 : ∀ p, p ∈ l → KA d w S p.1 p.2) (hb : ∀ k, v.ownBlock = some k → S k)
    (ho : w.ownsRow base e d.sz v l.length (l.flatMap (·.1))) : RA d w S v (l.map (·.2)) := by
  rcases ho.2 with ⟨rfl, hn⟩ | ⟨g, cap, cur, rfl, hg, hbk, hn, hm, hsz, htk⟩
  · have : l = [] := List.eq_nil_of_length_eq_zero hn
    subst this
    exact RA.nil d w S
  · refine ⟨some ⟨g, 0, none⟩, cap, by simp, by simpa using hn, fun W2 h2 => ⟨by simp, by simp; omega, fun _ => ⟨_, rfl, fun j x hx => ?_⟩⟩⟩
    have hgl := blk_lt hbk
    rw [List.getElem?_map] at hx
    obtain ⟨p, hp, rfl⟩ := Option.map_eq_some_iff.1 hx
    have hK := h0 p (List.mem_of_getElem? hp)
    refine ⟨p.1, hK.len, hK W2 h2, fun i u hu => ?_⟩
    have hi : i < d.sz := by have := (List.getElem?_eq_some_iff.1 hu).1; rw [hK.len] at this; exact this
    have hf := flat_getP d.sz l (fun q hq => (h0 q hq).len) j p hp i hi
    have hjl := (List.getElem?_eq_some_iff.1 hp).1
    rw [hu, ← htk] at hf
    have hlt : j * d.sz + i < l.length * d.sz := by
      have : (j + 1) * d.sz ≤ l.length * d.sz := Nat.mul_le_mul_right _ hjl
      rw [Nat.add_mul] at this
      omega
    rw [List.getElem?_take_of_lt hlt] at hf
    have hbk2 : W2.heap[g]? = some (.cells cur e (0, 0)) := (h2 g (hb g rfl) hgl).trans hbk
    have ea : ((⟨g, 0, none⟩ : Addr).add (j * d.sz + i)) = ⟨g, j * d.sz + i, none⟩ := by unfold Addr.add; split <;> simp_all
    show W2.cell? ((⟨g, 0, none⟩ : Addr).add (j * d.sz + i)) = some u
    rw [ea, blk_cell hbk2]
    simpa using hf
end
structure Stay2 (g s : Nat) (w w' : World) : Prop where
  os : w'.os = w.os
  tape : w'.tape = w.tape
  output : w'.output = w.output
  size : w.heap.size ≤ w'.heap.size
  block : ∀ k, k < w.heap.size → k ≠ g → k ≠ s → w'.heap[k]? = w.heap[k]?
section
variable {g s : Nat} {a b c : World}
theorem Stay.two (h : Stay g a b) (s : Nat) : Stay2 g s a b := ⟨h.os, h.tape, h.output, h.size, fun k hk h1 _ => h.block k hk h1⟩
theorem Stay2.refl (g s : Nat) (w : World) : Stay2 g s w w := (Stay.refl g w).two s
theorem Stay2.trans (h : Stay2 g s a b) (k : Stay2 g s b c) : Stay2 g s a c :=
  ⟨k.os.trans h.os, k.tape.trans h.tape, k.output.trans h.output, Nat.le_trans h.size k.size, fun i hi h1 h2 => (k.block i (Nat.lt_of_lt_of_le hi h.size) h1 h2).trans (h.block i hi h1 h2)⟩
theorem Stay2.then (h : Stay2 g s a b) (k : Stay g b c) : Stay2 g s a c := h.trans (k.two s)
theorem Stay2.step (h : Stay2 g s a b) (k : Below b.heap.size b c) : Stay2 g s a c := h.then (Below.stay k g)
theorem Stay2.put (h : Stay2 g s a b) (i : Nat) (u : Value) : Stay2 g s a (b.setCell ⟨s, i, none⟩ u) :=
  ⟨h.os, h.tape, h.output, by rw [show (b.setCell ⟨s, i, none⟩ u).heap.size = b.heap.size by simp [World.setCell]]; exact h.size, fun k hk h1 h2 => (Below.heap_setCell b ⟨s, i, none⟩ u k h2).trans (h.block k hk h1 h2)⟩
theorem Stay2.row (h : Stay2 g s a b) (cs : Array Value) : Stay2 g s a (b.setRow s cs) :=
  ⟨h.os, h.tape, h.output, by simpa using h.size, fun k hk h1 h2 => (setRow_other b s k cs h2).trans (h.block k hk h1 h2)⟩
theorem Stay2.cells {x : Nat} {o : Obj} (h : Stay2 g s a b) (hb : a.heap[x]? = some o) (h1 : x ≠ g) (h2 : x ≠ s) : b.heap[x]? = some o := (h.block x (blk_lt hb) h1 h2).trans hb
end
end Go.Proofs.YtlpnlfahlcingaaGreatDoor.PL
end
section
namespace Go.Proofs.YtlpnlfahlcingaaGreatDoor.PL
open Go.RowKit Go.Proofs.YtlpnlfahlcingaaGreatDoorW.PrintWords Go.Proofs.YtlpnlfahlcingaaGreatDoorW.PrintLast Go.Proofs.YtlpnlfahlcingaaGreatDoorW.PrintMore
set_option linter.unusedVariables false
set_option linter.unusedSimpArgs false
attribute [local go_sem] World.cell?_alloc_some
attribute [local go_sem ↓] isSome_setCell
structure SV where
  kd : Int
  tb : ByteArray
  vi : Value
  vr : Value
  vs : Value
  fl : Bool
  e : S34
  A : Option Addr
  c : Nat
  od : ByteArray
  dn : Bool
  lm : Int
def SV.cells (x : SV) : Array Value := #[.int .i64 x.kd, .string x.tb, x.vi, x.vr, x.vs, .bool x.fl, .int .i64 x.e.f0, .string x.e.f1, .int .i64 x.e.f2.f0, .int .i64 x.e.f2.f1, .string x.e.f2.f2, .slice x.A x.e.f3.length x.c, .string x.od, .bool x.dn, .int .i64 x.lm]
theorem PS.ne_box {w : World} {gp gt : Nat} {T : List Tok} {C k : Nat} {o : Int} (h : PS w gp gt T C k o) {g : Nat} {cs : Array Value} {t : TypeId} (hb : w.heap[g]? = some (.cells cs t (0, 0))) (h1 : t ≠ 60) (h2 : t ≠ 75) : g ≠ gp ∧ g ≠ gt := by
  obtain ⟨cur, hb2, _⟩ := h.toks
  exact ⟨blk_ne hb h.box h1, blk_ne hb hb2 h2⟩
def whereR (T : List Tok) (n k : Nat) (o : Int) : Option (Rd (Option S34)) :=
  if isB (tokAt T k) (⟨#[87, 72, 69, 82, 69]⟩ : ByteArray) = true then
    match exprR T n (k + 1) o with
    | none => none
    | some (.bad p x) => some (.bad p x)
    | some (.ok e k1) => some (.ok (some e) k1)
  else some (.ok none k)
theorem PostE.or {w w' : World} {gp gt : Nat} {T : List Tok} {C : Nat} {o : Int} {r : Rd S34} {e : Ending} (h : PostE w gp gt T C o r e w') :
    (∃ p x, r = .bad p x ∧ e = .panicked [{ v := failV p x, recovered := false }] ∧ Stay gp w w') ∨
    (∃ A c y k, r = .ok y k ∧ e = .returned (.agg #[.int .i64 y.f0, .string y.f1, .int .i64 y.f2.f0, .int .i64 y.f2.f1, .string y.f2.f2, .slice A y.f3.length c]) ∧ EA w' (Fr w) (.slice A y.f3.length c) y.f3 ∧ PS w' gp gt T C k o ∧ Stay gp w w') := by
  cases r with
  | bad p x => exact .inl ⟨p, x, rfl, h.1, h.2⟩
  | ok y k =>
    obtain ⟨A, c, he, h1, h2, h3⟩ := h
    exact .inr ⟨A, c, y, k, rfl, he, h1, h2, h3⟩
def PostW (w : World) (gp gt : Nat) (T : List Tok) (C : Nat) (o : Int) (gs : Nat) (x : SV) (r : Rd (Option S34)) (e : Ending) (w' : World) : Prop :=
  Stay2 gp gs w w' ∧ match r with
  | .ok none k => e = .returned (.tuple #[]) ∧ PS w' gp gt T C k o ∧ w'.heap[gs]? = some (.cells { x with fl := false }.cells 44 (0, 0))
  | .ok (some y) k => e = .returned (.tuple #[]) ∧ PS w' gp gt T C k o ∧ ∃ A c, w'.heap[gs]? = some (.cells { x with fl := true, e := y, A := A, c := c }.cells 44 (0, 0)) ∧ EA w' (fun k => Fr w k ∧ k ≠ gs) (.slice A y.f3.length c) y.f3
  | .bad p z => e = .panicked [{ v := failV p z, recovered := false }]
set_option maxHeartbeats 8000000 in
set_option maxRecDepth 100000 in
theorem where_calls {w : World} {gp gt : Nat} {T : List Tok} {C k : Nat} {o : Int} (hE : TE T) (hW : TW T) (h : PS w gp gt T C k o) (ho : o ≤ 200) {gs : Nat} {x : SV} (hx : w.heap[gs]? = some (.cells x.cells 44 (0, 0))) (h2 : 2 ≤ gs) (n : Nat) (r : Rd (Option S34)) (hr : whereR T n k o = some r) :
    Calls Tryz.prog 89 #[.pointer (some ⟨gp, 0, none⟩), .pointer (some ⟨gs, 0, none⟩)] w (PostW w gp gt T C o gs x r) := by
  have HR := Aside0.mk (fun (w1 : World) (r1 : Rd S34) (h1 : PS w1 gp gt T C (k + 1) o) (h2 : exprR T n (k + 1) o = some r1) => expr_calls hE hW h1 ho n r1 h2)
  have H := Aside0.mk (And.intro h (And.intro hx h2))
  have hk := hE k h.at_
  have N := Aside0.mk (h.ne_box hx (by decide) (by decide))
  clear hE hW h ho hx h2
  unfold whereR at hr
  by_cases hb : isB (tokAt T k) (⟨#[87, 72, 69, 82, 69]⟩ : ByteArray) = true
  · rw [if_pos hb] at hr
    have HB := Aside0.mk (And.intro hb (hk (by have := isB_kind hb; omega)))
    clear hb hk
    cases hq : exprR T n (k + 1) o with
    | none => rw [hq] at hr; cases hr
    | some r1 =>
    rw [hq] at hr
    have HM := Aside0.mk hr
    have HQ := Aside0.mk hq
    clear hq hr
    have c5 := (blk_cell H.out.2.1 5).trans rfl
    have f5 := blk_frozen H.out.2.1 5
    simp [SV.cells] at c5
    go_enter Tryz.func89, Tryz.ntmps89
    go_upto_region 1 with (go_at_call 37; refine (take_yes H.out.1 _ HB.out.1 HB.out.2).mono ?_; rintro e w1 ⟨rfl, hps, hst⟩; have b1 := hst.cells H.out.2.1 N.out.1; have H1 := Aside0.mk (And.intro hps (And.intro hst b1)); have C5 := (blk_cell b1 5).trans rfl; have F5 := blk_frozen b1 5; simp [SV.cells] at C5; clear hps hst b1)
    refine at_world (fun w2 => Aside0 (PS w2 gp gt T C (k + 1) o ∧ Stay2 gp gs w w2 ∧ w2.heap[gs]? = some (.cells { x with fl := true }.cells 44 (0, 0))))
      ⟨H1.out.1.put_far N.out.1 N.out.2 H.out.2.2 _ _, (H1.out.2.1.two gs).put _ _, blk_put H1.out.2.2 5 _ (by simp [SV.cells])⟩ (fun w2 H2 => ?_)
    clear c5 f5 C5 F5
    have c5 := (blk_cell H2.out.2.2 5).trans rfl
    simp [SV.cells] at c5
    go_wp2_with (go_at_call 113; refine (HR.out w2 _ H2.out.1 HQ.out).mono ?_; intro e w3 hp; rcases PostE.or hp with ⟨p, z, hr1, rfl, hs⟩ | ⟨A3, c3, y, k3, hr1, rfl, hea, hps, hst⟩; (subst hr1; have hm := HM.out; cases hm; exact ⟨rfl, H2.out.2.1.then hs, rfl⟩); subst hr1; have b := hst.cells H2.out.2.2 N.out.1; have H3 := Aside0.mk (And.intro hea (And.intro hps (And.intro hst b))); have C6 := (blk_cell b 6).trans rfl; have F6 := blk_frozen b 6; have C7 := (blk_cell b 7).trans rfl; have F7 := blk_frozen b 7; have C8 := (blk_cell b 8).trans rfl; have F8 := blk_frozen b 8; have C9 := (blk_cell b 9).trans rfl; have F9 := blk_frozen b 9; have C10 := (blk_cell b 10).trans rfl; have F10 := blk_frozen b 10; have C11 := (blk_cell b 11).trans rfl; have F11 := blk_frozen b 11; simp [SV.cells] at C6 C7 C8 C9 C10 C11; clear hea hps hst b hp)
    have hm := HM.out
    obtain rfl := Option.some.inj hm
    have hn : ¬ (Fr w gs ∧ gs ≠ gs) := fun h => h.2 rfl
    have hg := blk_lt H2.out.2.2
    have hea : EA w3 (fun k => Fr w k ∧ k ≠ gs) (.slice A3 y.f3.length c3) y.f3 := put7_eq H3.out.1 fun k _ h => ⟨Nat.le_trans H2.out.2.1.size h, by unfold Fr at h; omega⟩
    exact bodyPost_ret (results_0 rfl _ _) rfl ⟨(((((((H2.out.2.1.then H3.out.2.2.1).put _ _).put _ _).put _ _).put _ _).put _ _).put _ _), rfl, ((((((H3.out.2.1.put_far N.out.1 N.out.2 H.out.2.2 _ _).put_far N.out.1 N.out.2 H.out.2.2 _ _).put_far N.out.1 N.out.2 H.out.2.2 _ _).put_far N.out.1 N.out.2 H.out.2.2 _ _).put_far N.out.1 N.out.2 H.out.2.2 _ _).put_far N.out.1 N.out.2 H.out.2.2 _ _), A3, c3, blk_put (blk_set (blk_set (blk_set (blk_set (blk_set H3.out.2.2.2 6 _) 7 _) 8 _) 9 _) 10 _) 11 _ (by simp [SV.cells]), ((((((hea.put hn _ _).put hn _ _).put hn _ _).put hn _ _).put hn _ _).put hn _ _)⟩
  · rw [if_neg hb] at hr
    have hb' : isB (tokAt T k) (⟨#[87, 72, 69, 82, 69]⟩ : ByteArray) = false := by simpa using hb
    have HB := Aside0.mk hb'
    clear hb hb' hk
    obtain rfl := Option.some.inj hr
    have c5 := (blk_cell H.out.2.1 5).trans rfl
    have f5 := blk_frozen H.out.2.1 5
    simp [SV.cells] at c5
    go_enter Tryz.func89, Tryz.ntmps89
    go_upto_region 1 with (go_at_call 37; refine (take_no H.out.1 _ HB.out).mono ?_; rintro e w1 ⟨rfl, he⟩; replace he := he.symm; subst he)
    refine at_world (fun w2 => Aside0 (PS w2 gp gt T C k o ∧ Stay2 gp gs w w2 ∧ w2.heap[gs]? = some (.cells { x with fl := false }.cells 44 (0, 0))))
      ⟨H.out.1.put_far N.out.1 N.out.2 H.out.2.2 _ _, (Stay2.refl gp gs w).put _ _, blk_put H.out.2.1 5 _ (by simp [SV.cells])⟩ (fun w2 H2 => ?_)
    clear c5 f5
    have c5 := (blk_cell H2.out.2.2 5).trans rfl
    simp [SV.cells] at c5
    go_wp2
    exact bodyPost_ret (results_0 rfl _ _) rfl ⟨H2.out.2.1, rfl, H2.out.1, H2.out.2.2⟩
end Go.Proofs.YtlpnlfahlcingaaGreatDoor.PL
end
section
namespace Go.Proofs.YtlpnlfahlcingaaGreatDoor.PL
open Go.RowKit Go.Proofs.YtlpnlfahlcingaaGreatDoorW.PrintWords Go.Proofs.YtlpnlfahlcingaaGreatDoorW.PrintLast Go.Proofs.YtlpnlfahlcingaaGreatDoorW.PrintMore
set_option linter.unusedVariables false
set_option linter.unusedSimpArgs false
structure Ga {α : Type} (d : Kd α) (e base : Nat) (X : Nat → Prop) (w : World) (v : Value) (l : List (List Value × α)) : Prop where
  own : w.ownsRow base e d.sz v l.length (l.flatMap (·.1))
  nx : ∀ k, v.ownBlock = some k → ¬ X k
  el : ∀ p, p ∈ l → KA d w (fun k => base ≤ k ∧ some k ≠ v.ownBlock ∧ ¬ X k) p.1 p.2
section
variable {α : Type} {d : Kd α} {e base : Nat} {X : Nat → Prop} {w w1 : World} {v : Value} {l : List (List Value × α)}
theorem Ga.nil (d : Kd α) (e base : Nat) (X : Nat → Prop) (w : World) : Ga d e base X w (.slice none 0 0) [] :=
  ⟨World.ownsRow_nil _ _ _ _, fun k hk => by simp [Value.ownBlock] at hk, fun p hp => by cases hp⟩
theorem Ga.keep (h : Ga d e base X w v l) (hs : w.heap.size ≤ w1.heap.size) (hk : ∀ k, k < w.heap.size → ¬ X k → base ≤ k → w1.heap[k]? = w.heap[k]?) : Ga d e base X w1 v l :=
  ⟨own_of h.own fun k cs hb hc => hk k (blk_lt hc) (h.nx k hb) (own_base h.own k hb), h.nx, fun p hp => (h.el p hp).of (fun _ _ h => h) hs fun k h1 h2 => hk k h2 h1.2.2 h1.1⟩
theorem Ga.below (h : Ga d e base X w v l) (hb : Below w.heap.size w w1) : Ga d e base X w1 v l := h.keep hb.size fun k hk _ _ => hb.block k hk
theorem Ga.stay {gp : Nat} (h : Ga d e base X w v l) (hb : Stay gp w w1) (hg : gp < base) : Ga d e base X w1 v l := h.keep hb.size fun k hk _ h3 => hb.block k hk (by omega)
theorem Ga.stay2 {gp gs : Nat} (h : Ga d e base X w v l) (hb : Stay2 gp gs w w1) (hg : gp < base) (hs : X gs) : Ga d e base X w1 v l :=
  h.keep hb.size fun k hk h2 h3 => hb.block k hk (by omega) (fun he => h2 (he ▸ hs))
theorem Ga.put (h : Ga d e base X w v l) {gs : Nat} (hs : X gs) (i : Nat) (u : Value) : Ga d e base X (w.setCell ⟨gs, i, none⟩ u) v l :=
  h.keep (by simp [World.setCell]) fun k hk h2 _ => Below.heap_setCell w ⟨gs, i, none⟩ u k (fun he => h2 (by rw [show k = gs from he]; exact hs))
theorem Ga.app (h : Ga d e base X w v l) {cs : List Value} {x : α} (hx : KA d w (fun k => base ≤ k ∧ some k ≠ v.ownBlock ∧ ¬ X k) cs x) {v1 : Value} (hown : w1.ownsRow base e d.sz v1 (l.length + 1) (l.flatMap (·.1) ++ cs))
    (hgr : w.grownBy w1 v.ownBlock) (hat : v1.ownBlock = v.ownBlock ∨ ∃ b, v1.ownBlock = some b ∧ w.heap.size ≤ b) (hX : ∀ k, w.heap.size ≤ k → ¬ X k) : Ga d e base X w1 v1 (l ++ [(cs, x)]) := by
  refine ⟨by simpa using hown, fun k hk => ?_, fun p hp => ?_⟩
  · rcases hat with hat | ⟨b, hb, hlt⟩
    · exact h.nx k (hat ▸ hk)
    · rw [hb] at hk
      obtain rfl := Option.some.inj hk
      exact hX _ hlt
  · have key : ∀ cs x, KA d w (fun k => base ≤ k ∧ some k ≠ v.ownBlock ∧ ¬ X k) cs x → KA d w1 (fun k => base ≤ k ∧ some k ≠ v1.ownBlock ∧ ¬ X k) cs x := fun cs x hK =>
      hK.of (fun k hk hS => ⟨hS.1, by
        rcases hat with hat | ⟨b, hb, hlt⟩
        · rw [hat]; exact hS.2.1
        · rw [hb]; intro he; have := Option.some.inj he; omega, hS.2.2⟩) hgr.size fun k hS hk => hgr.block k hk hS.2.1
    rcases List.mem_append.1 hp with hp | hp
    · exact key _ _ (h.el p hp)
    · simp at hp
      subst hp
      exact key _ _ hx
theorem Ga.ra (h : Ga d e base X w v l) (hl : l.length ≤ 1000000) : RA d w (fun k => base ≤ k ∧ ¬ X k) v (l.map (·.2)) := by
  exact RA.row hl (fun p hp => (h.el p hp).of (fun _ _ h => ⟨h.1, h.2.2⟩) (Nat.le_refl _) fun _ _ _ => rfl) (fun k hk => ⟨own_base h.own k hk, h.nx k hk⟩) h.own
end
end Go.Proofs.YtlpnlfahlcingaaGreatDoor.PL
end
