/- The laws' helpers Twin, Kept and Spoil: a list with spare room that must stay, and one that is written over. -/
import Derived.Test.YtcflmkklpehmmaaDoorPLx0
import Derived.Laws.CopyOwn
import Derived.Laws.MakeOwn
namespace Go.Proofs.YtcflmkklpehmmaaDoor.PL
open Go.RowKit Go.Proofs.YtcflmkklpehmmaaDoorW.PrintWords Go.Proofs.YtcflmkklpehmmaaDoorW.PrintLast Go.Proofs.YtcflmkklpehmmaaDoorW.PrintMore
set_option linter.unusedVariables false
set_option linter.unusedSimpArgs false
/-- A twin's cells when k bytes behind it are written. -/
def twinL (l : List Int) (k : Nat) : List Value := l.map (Value.int .u8) ++ (List.replicate k (Value.int .u8 229) ++ List.replicate (3 - k) (Value.int .u8 0))
theorem twinL_length (l : List Int) (k : Nat) (hk : k ≤ 3) : (twinL l k).length = l.length + 3 := by simp [twinL]; omega
/-- A twin lies at the block g. -/
def TwinAt (w : World) (g : Nat) (l : List Int) : Prop := w.heap[g]? = some (.cells (twinL l 3).toArray 5 (0, 0))
theorem TwinAt.below {w w1 : World} {g : Nat} {l : List Int} (h : TwinAt w g l) (hb : Below w.heap.size w w1) : TwinAt w1 g l := blk_below h hb
theorem TwinAt.reads {w : World} {g : Nat} {l : List Int} (h : TwinAt w g l) (hl : l.length ≤ 4294967296) : Kd.C (Kd.int .u8) w (some ⟨g, 0, none⟩) l.length l := by
  refine Kd.C_of_reads (d := 0) ⟨rfl, by omega, fun _ => ⟨_, rfl, fun j hj => ?_⟩⟩
  have ha : (⟨g, 0, none⟩ : Addr).add j = ⟨g, j, none⟩ := by by_cases e : j = 0 <;> simp [Addr.add, e]
  rw [ha, blk_cell h j]
  unfold twinL
  rw [List.getElem?_toArray, List.getElem?_append_left (by simpa using hj), List.getElem?_map, List.getD_eq_getElem?_getD, List.getElem?_eq_getElem hj]
  rfl
section
variable {P : Program} {ops : Array Oper} {rest : List Oper} {o : Oper} {a : Act} {Q : Exit → Act → World → Prop}
/-- make([]byte, n). -/
theorem make_bytes {W : World} (hgd : o.guard = none) (t e : TypeId) (x : Operand) (ho : o.op = .makeSlice t x x) (n : Nat) (hx : a.eval x = .int .i64 (n : Int)) (ht : P.underlying t = some (.slice e)) (hinfo : (P.info? e).map (fun i => (i.zero, i.size, i.bytes)) = some (some (.int .u8 0), 1, 1)) (hn : n ≤ 17179869184)
    (h : ∀ g w1, W.heap.size ≤ g → w1.heap[g]? = some (.cells (List.replicate n (Value.int .u8 0)).toArray e (0, 0)) → Below W.heap.size W w1 → wpList P ops Q rest (a.put o.dst (.slice (some ⟨g, 0, none⟩) n n)) w1) : wpList P ops Q (o :: rest) a W := by
  obtain ⟨i0, hi, hzz⟩ := Option.map_eq_some_iff.1 hinfo
  simp only [Prod.mk.injEq] at hzz
  obtain ⟨hz0, hz1, hz2⟩ := hzz
  have hr := run_make (P := P) W t e i0 _ ht hi hz0 .i64 .i64 (n : Int) (n : Int) (by omega) (by omega) (by rw [hz2]; omega) (by omega)
  have hcells : madeCells (Value.int .u8 0).cells (n * 1) = (List.replicate n (Value.int .u8 0)).toArray := by
    apply Array.ext
    · simp [madeCells]
    · intro i h1 h2
      simp [madeCells, Value.cells, Nat.mod_one]
  simp only [Int.toNat_natCast, hz1, hcells] at hr
  refine Kd.event_run hgd (v := .slice (some ⟨W.heap.size, 0, none⟩) n n) (w1 := W.alloc (.cells (List.replicate n (Value.int .u8 0)).toArray e)) (by simp [execOp, ho, hx, hr]) (h _ _ (Nat.le_refl _) (blk_new W _) (below_alloc (Below.refl _ _) _))
end
theorem twin_set (l : List Int) (k : Nat) (hk : k < 3) : (twinL l k).toArray.setIfInBounds (l.length + k) (Value.int .u8 229) = (twinL l (k + 1)).toArray := by
  rw [List.setIfInBounds_toArray]
  congr 1
  unfold twinL
  rw [List.set_append_right _ _ (by simp)]
  congr 1
  have e : l.length + k - (l.map (Value.int .u8)).length = k := by simp
  rw [e]
  rcases (show k = 0 ∨ k = 1 ∨ k = 2 by omega) with rfl | rfl | rfl <;> rfl
theorem twin_old (l : List Int) (k : Nat) (hk : k < 3) : (twinL l k).toArray[l.length + k]? = some (Value.int .u8 0) := by
  rw [List.getElem?_toArray]
  unfold twinL
  rw [List.getElem?_append_right (by simp)]
  have e : l.length + k - (l.map (Value.int .u8)).length = k := by simp
  rw [e]
  rcases (show k = 0 ∨ k = 1 ∨ k = 2 by omega) with rfl | rfl | rfl <;> rfl
theorem twin_start {w : World} {g : Nat} {l : List Int} (h : w.heap[g]? = some (.cells (splice (List.replicate (l.length + 3) (Value.int .u8 0)) 0 (l.map (Value.int .u8))).toArray 5 (0, 0))) : w.heap[g]? = some (.cells (twinL l 0).toArray 5 (0, 0)) := by
  rw [h]
  unfold splice twinL
  simp
theorem copy_min (l : List Int) : (l.map (Value.int .u8)).length = Nat.min l.length (l.length + 3) := by
  rw [List.length_map]
  exact (Nat.min_eq_left (by omega)).symm
theorem copy_fit (l : List Int) : 0 + (l.map (Value.int .u8)).length ≤ (List.replicate (l.length + 3) (Value.int .u8 0)).length := by
  rw [List.length_map, List.length_replicate]
  omega
theorem copy_from {w : World} {A : Option Addr} {l : List Int} (h : Kd.C (Kd.int .u8) w A l.length l) (g : Nat) : 0 < (l.map (Value.int .u8)).length → (some (⟨g, 0, none⟩ : Addr)) = some ⟨g, 0, none⟩ ∧ ∃ ad, A = some ad ∧ ∀ (j : Nat) (v : Value), (l.map (Value.int .u8))[j]? = some v → w.cell? (ad.add j) = some v := by
  intro hp
  refine ⟨rfl, ?_⟩
  obtain ⟨_, _, h3⟩ := Kd.reads_of_C (d := 0) h
  obtain ⟨ad, e, hc⟩ := h3 (by simpa using hp)
  refine ⟨ad, e, fun j v hv => ?_⟩
  rw [List.getElem?_map] at hv
  obtain ⟨x, hx, rfl⟩ := Option.map_eq_some_iff.1 hv
  obtain ⟨hj, hxx⟩ := List.getElem?_eq_some_iff.1 hx
  rw [hc j hj, List.getD_eq_getElem?_getD, hx]
  rfl
set_option maxHeartbeats 8000000 in
set_option maxRecDepth 100000 in
theorem Twin.calls (A0 : Option Addr) (c0 : Nat) (l : List Int) (w : World) (hr0 : Kd.C (Kd.int .u8) w A0 l.length l) (hc0 : l.length ≤ c0) (hl : l.length ≤ 4294967296) :
    Calls Tryd.prog 10 #[.slice A0 l.length c0] w fun e w' => ∃ g, e = .returned (.slice (some ⟨g, 0, none⟩) l.length (l.length + 3)) ∧ w.heap.size ≤ g ∧ TwinAt w' g l ∧ Below w.heap.size w w' := by
  have HR0 := Aside0.mk hr0
  have HL := Aside0.mk hl
  clear hr0 hc0
  go_enter Tryd.func10, Tryd.ntmps10
  go_wp2_with (first | ((with_reducible refine gate_dst (N := 8) rfl ?_); refine make_bytes rfl 22 5 (.tmp 7) rfl (l.length + 3) ?hx Tryd.underlying22 info5 (by have := HL.out; omega) ?_; (case hx => first | rfl | (show (Value.int .i64 (wrap64 ((l.length : Int) + 3))) = _; unfold wrap64; have := HL.out; congr 1; omega)); intro g w1 hg hb hbel; have HG := Aside0.mk hg; have HB := Aside0.mk hbel; have BK := Aside0.mk hb; have HR1 := Aside0.mk (Kd.C_below HR0.out hbel); clear hg hbel hb) | ((with_reducible refine gate_dst (N := 11) rfl ?_); refine wpList_copy_splice rfl (.tmp 9) (.tmp 10) 22 22 rfl 5 Tryd.underlying22 (by kernel_rfl) (some ⟨g, 0, none⟩) A0 (l.length + 3) (l.length + 3) l.length c0 rfl rfl g 0 (List.replicate (l.length + 3) (Value.int .u8 0)) 5 BK.out (l.map (Value.int .u8)) (copy_min l) ?hpos (copy_fit l) ?h1 w.heap.size w HB.out HG.out ?_; (case hpos => exact copy_from HR1.out g); (case h1 => intro v hv; obtain ⟨x, _, rfl⟩ := List.mem_map.1 hv; rfl); intro w2 hh hb2; have BK2 := Aside0.mk (twin_start hh.out); have HB2 := Aside0.mk hb2; clear hh hb2))
  go_loopw [4] (fun i wr => ∃ k : Nat, k ≤ 3 ∧ i = .int .i64 ((l.length + k : Nat) : Int) ∧ wr.heap[g]? = some (.cells (twinL l k).toArray 5 (0, 0)) ∧ Below w.heap.size w wr) (fun i _ => l.length + 3 - (intOf i).toNat)
  case atStart => exact ⟨0, by omega, rfl, BK2.out, HB2.out⟩
  case round =>
    obtain ⟨k, hk, rfl, hb, hB⟩ := hrel
    by_cases hlt : k < 3
    · have hc := (blk_cell hb (l.length + k)).trans (twin_old l k hlt)
      have hf := blk_frozen hb (l.length + k)
      have hd : decide (((l.length + k : Nat) : Int) < ((l.length : Int) + 3)) = true := decide_eq_true (by omega)
      have hd2 : decide (l.length + k < l.length + 3) = true := decide_eq_true (by omega)
      have H1 := Aside0.mk hb
      have H2 := Aside0.mk hB
      have hL := HL.out
      clear hb hB
      go_wp2
      go_roundw
      case rel => exact ⟨k + 1, by omega, by go_num, blk_put H1.out _ _ (twin_set l k hlt), H2.out.setCell HG.out _⟩
      case measure => simp [intOf]; omega
    · obtain rfl : k = 3 := by omega
      have hd : decide (((l.length + 3 : Nat) : Int) < ((l.length : Int) + 3)) = false := decide_eq_false (by omega)
      have hd2 : decide (l.length + 3 < l.length + 3) = false := decide_eq_false (by omega)
      have H1 := Aside0.mk hb
      have H2 := Aside0.mk hB
      have hL := HL.out
      clear hb hB
      go_wp2
      go_ret
      exact ⟨g, rfl, HG.out, H1.out, H2.out⟩
theorem twin_new (l : List Int) (k : Nat) (hk : k < 3) : (twinL l 3).toArray[l.length + k]? = some (Value.int .u8 229) := by
  rw [List.getElem?_toArray]
  unfold twinL
  rw [List.getElem?_append_right (by simp)]
  have e : l.length + k - (l.map (Value.int .u8)).length = k := by simp
  rw [e]
  rcases (show k = 0 ∨ k = 1 ∨ k = 2 by omega) with rfl | rfl | rfl <;> rfl
set_option maxHeartbeats 8000000 in
set_option maxRecDepth 100000 in
theorem Kept.calls (g : Nat) (A0 : Option Addr) (c0 : Nat) (l : List Int) (w : World) (ht : TwinAt w g l) (hr0 : Kd.C (Kd.int .u8) w A0 l.length l) (hl : l.length ≤ 4294967296) :
    Calls Tryd.prog 15 #[.slice (some ⟨g, 0, none⟩) l.length (l.length + 3), .slice A0 l.length c0] w fun e w' => e = .returned (.bool true) ∧ w' = w := by
  have hc1 := Kd.C_string (P := Tryd.prog) (src := 22) (dst := 9) (e := 5) (c := l.length + 3) Tryd.underlying22 Tryd.underlying5 Tryd.underlying9 (ht.reads hl)
  have hc2 := Kd.C_string (P := Tryd.prog) (src := 22) (dst := 9) (e := 5) (c := c0) Tryd.underlying22 Tryd.underlying5 Tryd.underlying9 hr0
  obtain ⟨S, hS⟩ : ∃ S, strOfNums l = S := ⟨_, rfl⟩
  rw [hS] at hc1 hc2
  clear hS
  have HT := Aside0.mk ht
  have HL := Aside0.mk hl
  clear ht hr0 hl
  have hL := HL.out
  go_enter Tryd.func15, Tryd.ntmps15
  go_wp2
  clear hc1 hc2
  go_loop [6] (fun i => ∃ k : Nat, k ≤ 3 ∧ i = .int .i64 ((l.length + k : Nat) : Int)) (fun i => l.length + 3 - (intOf i).toNat)
  case atStart => exact ⟨0, by omega, rfl⟩
  case round =>
    obtain ⟨k, hk, rfl⟩ := hrel
    by_cases hlt : k < 3
    · have hc := (blk_cell HT.out (l.length + k)).trans (twin_new l k hlt)
      have hd : decide (((l.length + k : Nat) : Int) < ((l.length : Int) + 3)) = true := decide_eq_true (by omega)
      have hd2 : decide (l.length + k < l.length + 3) = true := decide_eq_true (by omega)
      go_wp2
      go_round
      case rel => exact ⟨k + 1, by omega, by go_num⟩
      case measure => simp [intOf]; omega
    · obtain rfl : k = 3 := by omega
      have hd : decide (((l.length + 3 : Nat) : Int) < ((l.length : Int) + 3)) = false := decide_eq_false (by omega)
      have hd2 : decide (l.length + 3 < l.length + 3) = false := decide_eq_false (by omega)
      go_wp2
      go_ret
      exact ⟨rfl, rfl⟩
/-- All is as it was, but the block g. -/
structure Rest (g : Nat) (w w' : World) : Prop where
  os : w'.os = w.os
  tape : w'.tape = w.tape
  output : w'.output = w.output
  size : w'.heap.size = w.heap.size
  block : ∀ k, k ≠ g → w'.heap[k]? = w.heap[k]?
theorem Rest.refl (g : Nat) (w : World) : Rest g w w := ⟨rfl, rfl, rfl, rfl, fun _ _ => rfl⟩
theorem Rest.set {g : Nat} {w w' : World} (h : Rest g w w') (i : Nat) (u : Value) : Rest g w (w'.setCell ⟨g, i, none⟩ u) :=
  ⟨h.os, h.tape, h.output, by rw [← h.size]; simp [World.setCell], fun k hk => (Below.heap_setCell w' ⟨g, i, none⟩ u k hk).trans (h.block k hk)⟩
theorem Rest.below {g base : Nat} {w0 w w' : World} (h : Rest g w w') (hb : Below base w0 w) (hg : base ≤ g) : Below base w0 w' :=
  hb.trans ⟨h.os, h.tape, h.output, by rw [h.size]; exact Nat.le_refl _, fun k hk => h.block k (by omega)⟩
theorem Rest.twin {g g' : Nat} {l : List Int} {w w' : World} (h : Rest g w w') (ht : TwinAt w g' l) (hn : g' ≠ g) : TwinAt w' g' l := (h.block g' hn).trans ht
theorem Rest.cells {g g' : Nat} {o : Obj} {w w' : World} (h : Rest g w w') (ht : w.heap[g']? = some o) (hn : g' ≠ g) : w'.heap[g']? = some o := (h.block g' hn).trans ht
set_option maxHeartbeats 8000000 in
set_option maxRecDepth 100000 in
theorem Spoil.nil (w : World) : Calls Tryd.prog 20 #[.slice none 0 0] w fun e w' => (∃ v, e = .returned v) ∧ w' = w := by
  go_enter Tryd.func20, Tryd.ntmps20
  go_wp2
  go_loopw [3] (fun i wr => i = .int .i64 0 ∧ wr = w) (fun i _ => 0)
  case atStart => exact ⟨rfl, rfl⟩
  case round =>
    obtain ⟨rfl, rfl⟩ := hrel
    go_wp2
    exact ⟨rfl, _, by simp [results, Tryd.results20, go_sem]; rfl, ⟨_, rfl⟩, rfl⟩
set_option maxHeartbeats 8000000 in
set_option maxRecDepth 100000 in
theorem Spoil.block (g n cap : Nat) (cur : Array Value) (w : World) (hb : w.heap[g]? = some (.cells cur 5 (0, 0))) (hs : cur.size = cap) (hn : n ≤ cap) (hm : cap ≤ 9223372036854775807) :
    Calls Tryd.prog 20 #[.slice (some ⟨g, 0, none⟩) n cap] w fun e w' => (∃ v, e = .returned v) ∧ Rest g w w' := by
  have HB := Aside0.mk hb
  have HS := Aside0.mk hs
  clear hb hs
  go_enter Tryd.func20, Tryd.ntmps20
  go_wp2
  go_loopw [3] (fun i wr => ∃ (k : Nat) (cu : Array Value), k ≤ cap ∧ i = .int .i64 (k : Int) ∧ cu.size = cap ∧ wr.heap[g]? = some (.cells cu 5 (0, 0)) ∧ Rest g w wr) (fun i _ => cap - (intOf i).toNat)
  case atStart => exact ⟨0, cur, by omega, rfl, HS.out, HB.out, Rest.refl _ _⟩
  case round =>
    obtain ⟨k, cu, hk, rfl, hz, hb, hR⟩ := hrel
    by_cases hlt : k < cap
    · have hc := (blk_cell hb k).trans (Array.getElem?_eq_getElem (show k < cu.size by omega))
      obtain ⟨u, hu⟩ : ∃ u, cu[k]'(by omega) = u := ⟨_, rfl⟩
      rw [hu] at hc
      have hf := blk_frozen hb k
      have hd : decide ((k : Int) < (cap : Int)) = true := decide_eq_true (by omega)
      have hd2 : decide (k < cap) = true := decide_eq_true (by omega)
      have H1 := Aside0.mk hb
      have H2 := Aside0.mk hR
      have H3 := Aside0.mk hz
      clear hb hR hz hu
      go_wp2
      go_roundw
      case rel => exact ⟨k + 1, _, by omega, by go_num, by rw [Array.size_setIfInBounds]; exact H3.out, blk_set H1.out _ _, H2.out.set _ _⟩
      case measure => simp [intOf]; omega
    · obtain rfl : k = cap := by omega
      have hd : decide ((k : Int) < (k : Int)) = false := decide_eq_false (by omega)
      have hd2 : decide (k < k) = false := decide_eq_false (by omega)
      have H2 := Aside0.mk hR
      clear hb hR hz
      go_wp2
      exact ⟨rfl, _, by simp [results, Tryd.results20, go_sem]; rfl, ⟨_, rfl⟩, H2.out⟩
end Go.Proofs.YtcflmkklpehmmaaDoor.PL
