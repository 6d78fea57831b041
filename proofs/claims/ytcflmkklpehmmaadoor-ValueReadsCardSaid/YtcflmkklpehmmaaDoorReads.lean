/- ValueReads' own contract: its walk, by hand over the contracts of what it calls. -/
import Derived.Test.YtcflmkklpehmmaaDoorTwin
import Derived.Test.YtcflmkklpehmmaaDoorPLx1
import Derived.Test.YtcflmkklpehmmaaDoorPLx10
import Derived.Test.YtcflmkklpehmmaaDoorPLx30
import Derived.Test.YtcflmkklpehmmaaDoorPLx33
import Derived.Test.YtcflmkklpehmmaaDoorPLx36
import Derived.BigQuiet
namespace Go.Proofs.YtcflmkklpehmmaaDoor.PL
open Go.RowKit Go.Proofs.YtcflmkklpehmmaaDoorW.PrintWords Go.Proofs.YtcflmkklpehmmaaDoorW.PrintLast Go.Proofs.YtcflmkklpehmmaaDoorW.PrintMore
set_option linter.unusedVariables false
set_option linter.unusedSimpArgs false
attribute [local go_sem high] eqA24
/-- A value's cells. -/
def cellsV (k n : Int) (s : ByteArray) : Array Value := #[.int .i64 k, .int .i64 n, .string s]
/-- A value lies at the block b. -/
def BoxAt (w0 w : World) (b : Nat) (k n : Int) (s : ByteArray) : Prop := w.heap[b]? = some (.cells #[.int .i64 k, .int .i64 n, .string s] 24 (0, 0)) ∧ w0.heap.size ≤ b
/-- What stays while the law reads: the twin at g, the arguments below. -/
structure RInv (w W : World) (g : Nat) (l : List Int) : Prop where
  below : Below w.heap.size w W
  twin : TwinAt W g l
  fresh : w.heap.size ≤ g
theorem RInv.step {w W W2 : World} {g : Nat} {l : List Int} (h : RInv w W g l) (hb : Below W.heap.size W W2) : RInv w W2 g l := ⟨below_step h.below hb, h.twin.below hb, h.fresh⟩
theorem BoxAt.step {w0 w w1 : World} {b : Nat} {k n : Int} {s : ByteArray} (h : BoxAt w0 w b k n s) (hb : Below w.heap.size w w1) : BoxAt w0 w1 b k n s := ⟨blk_below h.1 hb, h.2⟩
theorem BoxAt.new {w0 W : World} (k n : Int) (s : ByteArray) (hb : w0.heap.size ≤ W.heap.size) : BoxAt w0 (W.alloc (.cells #[.int .i64 k, .int .i64 n, .string s] 24)) W.heap.size k n s := ⟨blk_new W _, hb⟩
theorem alloc_b (W : World) (o : Obj) : Below W.heap.size W (W.alloc o) := below_alloc (Below.refl _ _) _
def antipodelaw7_ValueReads.f (k : Nat) (l0 : List Int) : Option Bool := (antipodelaw7_begun.f k).bind fun b => if b = true then (if (l0.length : Int) > 1024 then some true else (value_TakeKey.f k l0).bind fun x => (antipoderef7_TakeKey.f k l0).bind fun y => (value_Take.f k l0).bind fun u => (antipoderef7_Take.f k l0).bind fun v => if x = y ∧ u = v then some true else none) else none
set_option maxHeartbeats 8000000 in
set_option maxRecDepth 100000 in
theorem antipodelaw7_ValueReads.calls (k : Nat) (A0 : Option Addr) (c0 : Nat) (l0 : List Int) (r : Bool) (w : World) (hr0 : Kd.C (Kd.int .u8) w A0 l0.length l0) (hc0 : l0.length ≤ c0) (hsh : Sh w) (h : antipodelaw7_ValueReads.f k l0 = some r) :
    Calls Tryd.prog 6 #[.slice A0 l0.length c0] w fun e w' => e = .returned (.bool r) ∧ Below w.heap.size w w' := by
  unfold antipodelaw7_ValueReads.f at h
  obtain ⟨b, A1, h⟩ := Option.bind_eq_some_iff.mp h
  cases b with
  | false => simp at h
  | true =>
  rw [if_pos rfl] at h
  by_cases hl : (l0.length : Int) > 1024
  · rw [if_pos hl] at h
    obtain rfl := Option.some.inj h
    have HB := Aside0.mk (Below.refl w.heap.size w)
    have HS := Aside0.mk hsh
    have H1 := Aside0.mk A1
    have hd : decide ((l0.length : Int) > 1024) = true := decide_eq_true hl
    have hd2 : decide (1024 < l0.length) = true := decide_eq_true (by omega)
    have hd3 : decide (1024 < (l0.length : Int)) = true := decide_eq_true (by omega)
    clear hsh A1 h hr0 hc0
    go_enter Tryd.func6, Tryd.ntmps6
    go_wp2_with (first | ((with_reducible refine gate_callee (f := 8) rfl ?_); refine goesL_ (some 16) rfl rfl Tryd.func8 (by kernel_rfl) rfl #[] rfl (by (try simp only [List.map_toArray, List.map_cons, List.map_nil]); first | done | rfl) ?_; (refine (antipodelaw7_begun.calls k true _ HS.out H1.out).mono ?_); rintro e w1 ⟨rfl, hb⟩; refine ⟨_, rfl, ?_⟩; have HB1 := Aside0.mk hb; clear hb))
    go_ret
    exact ⟨rfl, HB1.out⟩
  · rw [if_neg hl] at h
    obtain ⟨x, A2, h⟩ := Option.bind_eq_some_iff.mp h
    obtain ⟨y, A3, h⟩ := Option.bind_eq_some_iff.mp h
    obtain ⟨u, A4, h⟩ := Option.bind_eq_some_iff.mp h
    obtain ⟨v, A5, h⟩ := Option.bind_eq_some_iff.mp h
    by_cases hq : x = y ∧ u = v
    · rw [if_pos hq] at h
      obtain rfl := Option.some.inj h
      obtain ⟨rfl, rfl⟩ := hq
      obtain ⟨x1, x2, x3, x4, x5⟩ := x
      obtain ⟨u1, u2, u3, u4, u5⟩ := u
      have HS := Aside0.mk hsh
      have HR := Aside0.mk hr0
      have HC := Aside0.mk hc0
      have H1 := Aside0.mk A1
      have H2 := Aside0.mk A2
      have H3 := Aside0.mk A3
      have H4 := Aside0.mk A4
      have H5 := Aside0.mk A5
      have HL := Aside0.mk (show l0.length ≤ 4294967296 by omega)
      have hd : decide ((l0.length : Int) > 1024) = false := decide_eq_false hl
      have hd2 : decide (1024 < l0.length) = false := decide_eq_false (by omega)
      have hd3 : decide (1024 < (l0.length : Int)) = false := decide_eq_false (by omega)
      clear hsh A1 A2 A3 A4 A5 h hr0 hc0 hl
      go_enter Tryd.func6, Tryd.ntmps6
      go_upto_region 10 with (first | ((with_reducible refine gate_callee (f := 8) rfl ?_); refine goesL_ (some 16) rfl rfl Tryd.func8 (by kernel_rfl) rfl #[] rfl (by (try simp only [List.map_toArray, List.map_cons, List.map_nil]); first | done | rfl) ?_; (refine (antipodelaw7_begun.calls k true _ HS.out H1.out).mono ?_); rintro e w1 ⟨rfl, hb⟩; refine ⟨_, rfl, ?_⟩; have HB1 := Aside0.mk hb; clear hb) | ((with_reducible refine gate_callee (f := 10) rfl ?_); refine goesL_ (some 22) rfl rfl Tryd.func10 (by kernel_rfl) rfl #[.slice A0 l0.length c0] rfl (by (try simp only [List.map_toArray, List.map_cons, List.map_nil]); first | done | rfl) ?_; (refine (Twin.calls A0 c0 l0 _ (Kd.C_below HR.out HB1.out) HC.out HL.out).mono ?_); rintro e w2 ⟨g, rfl, hg, ht, hb⟩; refine ⟨_, rfl, ?_⟩; have I2 := Aside0.mk (RInv.mk (below_step HB1.out hb) ht (Nat.le_trans (below_size HB1.out) hg)); clear hb ht hg) | ((with_reducible refine gate_callee (f := 23) rfl ?_); refine goesL_ (some 25) rfl rfl Tryd.func23 (by kernel_rfl) rfl #[.slice (some ⟨g, 0, none⟩) l0.length (l0.length + 3)] rfl (by (try simp only [List.map_toArray, List.map_cons, List.map_nil]); first | done | rfl) ?_; (refine (value_TakeKey.calls k _ _ l0 x1 x2 x3 x4 x5 _ (I2.out.twin.reads HL.out) (by omega) H2.out).mono ?_); rintro e w3 ⟨rfl, hb⟩; refine ⟨_, rfl, ?_⟩; have I3 := Aside0.mk (I2.out.step hb); clear hb) | ((with_reducible refine gate_callee (f := 24) rfl ?_); refine goesL_ (some 31) rfl rfl Tryd.func24 (by kernel_rfl) rfl #[.slice A0 l0.length c0] rfl (by (try simp only [List.map_toArray, List.map_cons, List.map_nil]); first | done | rfl) ?_; (refine (antipoderef7_TakeKey.calls k A0 c0 l0 x1 x2 x3 x4 x5 _ (Kd.C_below HR.out (I3.out.step (alloc_b _ _)).below) HC.out H3.out).mono ?_); rintro e w4 ⟨rfl, hb⟩; refine ⟨_, rfl, ?_⟩; have I4 := Aside0.mk ((I3.out.step (alloc_b _ _)).step hb); have B1 := Aside0.mk ((BoxAt.new x1 x2 x3 (below_size I3.out.below)).step hb); clear hb) | ((with_reducible refine gate_callee (f := 25) rfl ?_); refine goesL_ (some 37) rfl rfl Tryd.func25 (by kernel_rfl) rfl #[.slice (some ⟨g, 0, none⟩) l0.length (l0.length + 3)] rfl (by (try simp only [List.map_toArray, List.map_cons, List.map_nil]); first | done | rfl) ?_; (refine (value_Take.calls k _ _ l0 u1 u2 u3 u4 u5 _ ((I4.out.step (alloc_b _ _)).twin.reads HL.out) (by omega) H4.out).mono ?_); rintro e w5 ⟨rfl, hb⟩; refine ⟨_, rfl, ?_⟩; have I5 := Aside0.mk ((I4.out.step (alloc_b _ _)).step hb); have B1' := Aside0.mk ((B1.out.step (alloc_b _ _)).step hb); have B2 := Aside0.mk ((BoxAt.new x1 x2 x3 (below_size I4.out.below)).step hb); clear hb) | ((with_reducible refine gate_callee (f := 26) rfl ?_); refine goesL_ (some 43) rfl rfl Tryd.func26 (by kernel_rfl) rfl #[.slice A0 l0.length c0] rfl (by (try simp only [List.map_toArray, List.map_cons, List.map_nil]); first | done | rfl) ?_; (refine (antipoderef7_Take.calls k A0 c0 l0 u1 u2 u3 u4 u5 _ (Kd.C_below HR.out (I5.out.step (alloc_b _ _)).below) HC.out H5.out).mono ?_); rintro e w6 ⟨rfl, hb⟩; refine ⟨_, rfl, ?_⟩; have I6 := Aside0.mk ((I5.out.step (alloc_b _ _)).step hb); have B1'' := Aside0.mk ((B1'.out.step (alloc_b _ _)).step hb); have B2' := Aside0.mk ((B2.out.step (alloc_b _ _)).step hb); have B3 := Aside0.mk ((BoxAt.new u1 u2 u3 (below_size I5.out.below)).step hb); clear hb))
      have I7 := Aside0.mk (I6.out.step (alloc_b w6 (Obj.cells #[Value.int IntKind.i64 u1, Value.int IntKind.i64 u2, Value.string u3] 24)))
      have C1 := Aside0.mk (B1''.out.step (alloc_b w6 (Obj.cells #[Value.int IntKind.i64 u1, Value.int IntKind.i64 u2, Value.string u3] 24)))
      have C2 := Aside0.mk (B2'.out.step (alloc_b w6 (Obj.cells #[Value.int IntKind.i64 u1, Value.int IntKind.i64 u2, Value.string u3] 24)))
      have C3 := Aside0.mk (B3.out.step (alloc_b w6 (Obj.cells #[Value.int IntKind.i64 u1, Value.int IntKind.i64 u2, Value.string u3] 24)))
      have C4 := Aside0.mk (BoxAt.new (w0 := w) (W := w6) u1 u2 u3 (below_size I6.out.below))
      clear I2 I3 I4 I5 I6 B1 B1' B1'' B2 B2' B3
      generalize w6.alloc (Obj.cells #[Value.int IntKind.i64 u1, Value.int IntKind.i64 u2, Value.string u3] 24) = W at I7 C1 C2 C3 C4 ⊢
      generalize w3.heap.size = b1 at C1 ⊢
      generalize w4.heap.size = b2 at C2 ⊢
      generalize w5.heap.size = b3 at C3 ⊢
      generalize w6.heap.size = b4 at C4 ⊢
      have q1 := blk_cell C1.out.1
      have q10 : W.cell? ⟨b1, 0, none⟩ = some (.int .i64 x1) := blk_cell C1.out.1 0
      have q11 : W.cell? ⟨b1, 1, none⟩ = some (.int .i64 x2) := blk_cell C1.out.1 1
      have q12 : W.cell? ⟨b1, 2, none⟩ = some (.string x3) := blk_cell C1.out.1 2
      have q20 : W.cell? ⟨b2, 0, none⟩ = some (.int .i64 x1) := blk_cell C2.out.1 0
      have q21 : W.cell? ⟨b2, 1, none⟩ = some (.int .i64 x2) := blk_cell C2.out.1 1
      have q22 : W.cell? ⟨b2, 2, none⟩ = some (.string x3) := blk_cell C2.out.1 2
      have q30 : W.cell? ⟨b3, 0, none⟩ = some (.int .i64 u1) := blk_cell C3.out.1 0
      have q31 : W.cell? ⟨b3, 1, none⟩ = some (.int .i64 u2) := blk_cell C3.out.1 1
      have q32 : W.cell? ⟨b3, 2, none⟩ = some (.string u3) := blk_cell C3.out.1 2
      have q40 : W.cell? ⟨b4, 0, none⟩ = some (.int .i64 u1) := blk_cell C4.out.1 0
      have q41 : W.cell? ⟨b4, 1, none⟩ = some (.int .i64 u2) := blk_cell C4.out.1 1
      have q42 : W.cell? ⟨b4, 2, none⟩ = some (.string u3) := blk_cell C4.out.1 2
      clear q1
      go_wp2_with (first | (go_at_call 15; refine (Kept.calls g A0 c0 l0 _ I7.out.twin (Kd.C_below HR.out I7.out.below) HL.out).mono ?_; rintro e w9 ⟨rfl, rfl⟩))
      go_ret
      exact ⟨rfl, I7.out.below⟩
    · rw [if_neg hq] at h
      cases h
end Go.Proofs.YtcflmkklpehmmaaDoor.PL
