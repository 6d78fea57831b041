-- Written by drv.py (this session's program over the kit's print).
import Derived.Test.YtcflmkklpehmmaaDoorProg
import Derived.Below
import Derived.Deep.Draws
import Derived.Deep.AppendLies
import Derived.Maps.AppendAt
import Derived.OwnWalk
import Derived.Laws.BytesArg
import Derived.Laws.MakeOwn
import Derived.Laws.OwnMore
import Derived.Deep.OwnRows
import Derived.Tactics
import Derived.Lib.ConvBytes
import Derived.Laws.Slices
import Derived.WalkKit
import Derived.KernelRfl
import Derived.RowKit3
import Derived.Deep.LoopGhost
import Derived.Deep.QuietTactic
import Derived.BigQuiet
import Derived.WideLaws
import Derived.Deep.DeepCutAuto
import Derived.Deep.CutBlock
import Derived.Deep.RegionHeld3
import Derived.Laws.Rows
import Derived.Lib.AppendStr
import Derived.ArgAppend
import Derived.Laws.IdiomCopy
import Derived.OrdersHeld
import Derived.Laws.BitsLemmas
import Derived.RowKit
import Derived.BigQuiet
import Derived.HandedShaped
import Derived.Shelf.Vars
import Derived.Lib.Hide
import Derived.Lib.SmallJoins
import Derived.Lib.AppendIntMem
import Derived.Test.YtcflmkklpehmmaaDoorShelf
import Derived.Test.YtcflmkklpehmmaaDoorWWords
import Derived.Test.YtcflmkklpehmmaaDoorWLast
import Derived.Test.YtcflmkklpehmmaaDoorWTab
import Derived.Test.YtcflmkklpehmmaaDoorWFour
import Derived.Test.YtcflmkklpehmmaaDoorWQPut
import Derived.Test.YtcflmkklpehmmaaDoorWApart
import Derived.Test.YtcflmkklpehmmaaDoorWArr
import Derived.Test.YtcflmkklpehmmaaDoorWZeros
import Derived.Test.YtcflmkklpehmmaaDoorWFoot
import Derived.Test.YtcflmkklpehmmaaDoorWKept
import Derived.Test.YtcflmkklpehmmaaDoorWShare
import Derived.Test.YtcflmkklpehmmaaDoorWN
import Derived.Test.YtcflmkklpehmmaaDoorWFootNe
import Derived.Test.YtcflmkklpehmmaaDoorWAt
import Derived.Test.YtcflmkklpehmmaaDoorWEqStruct
import Derived.Test.YtcflmkklpehmmaaDoorWRepsOne
import Derived.Test.YtcflmkklpehmmaaDoorWInv
import Derived.Test.YtcflmkklpehmmaaDoorWInvWords
import Derived.Test.YtcflmkklpehmmaaDoorWGuard
import Derived.Test.YtcflmkklpehmmaaDoorWNEv
import Derived.Test.YtcflmkklpehmmaaDoorWMore
namespace Go.Proofs.YtcflmkklpehmmaaDoor.PL
open Go.RowKit Go.Proofs.YtcflmkklpehmmaaDoorW.PrintWords Go.Proofs.YtcflmkklpehmmaaDoorW.PrintLast Go.Proofs.YtcflmkklpehmmaaDoorW.PrintMore
attribute [local go_sem] max2_int min2_int max_two min_two max_three min_three max_four min_four   -- for this text's walks alone
set_option linter.unusedVariables false
set_option linter.unusedSimpArgs false



def errW : Option Int → Value
  | none => .nilIface
  | some c => .iface 0 (.int .i64 c)
theorem errW_none : errW none = .nilIface := rfl
theorem errW_some (c : Int) : errW (some c) = .iface 0 (.int .i64 c) := rfl

theorem info3 : (Tryd.prog.info? 3).map (fun i => (i.zero, i.size, i.bytes)) = some (some (.int .i64 0), 1, 8) := by kernel_rfl
theorem info5 : (Tryd.prog.info? 5).map (fun i => (i.zero, i.size, i.bytes)) = some (some (.int .u8 0), 1, 1) := by kernel_rfl
-- the values' own types


/-- The library's variable MaxLen holds some integer, and its table of powers of ten holds these. -/
def Sh (w : World) : Prop := (∃ m, w.cell? ⟨0, 0, none⟩ = some (.int .i64 m)) ∧ Lib.TabIs Tryd.prog w "internal/strconv.uint64pow10" .u64 Lib.pow10Tab
theorem pow10_at : Tryd.prog.globalNamed "internal/strconv.uint64pow10" = some 1 := by kernel_rfl
theorem Sh.below {w w' : World} (h : Sh w) (hb : Below w.heap.size w w') : Sh w' := by
  obtain ⟨⟨m, hm⟩, ht⟩ := h
  exact ⟨⟨m, (hb.cell (World.block_lt_of_cell? w _ hm)).trans hm⟩, Joins.tab_stays pow10_at ht hb (Nat.le_refl _)⟩
theorem Sh.drawn {w w' : World} (h : Sh w) (hd : Drawn0 w w') : Sh w' := h.below hd.below
theorem abn {a : Addr} {i g : Nat} (h : a.block ≠ g) : (a.add i).block ≠ g := by rw [add_block]; exact h
theorem isSome_setCell (w : World) (a b : Addr) (v : Value) : ((w.setCell a v).cell? b).isSome = (w.cell? b).isSome := by
  by_cases e : a = b
  · subst e
    cases h : w.cell? a with
    | some u => rw [World.cell?_setCell_same _ _ _ h]; rfl
    | none =>
      unfold World.cell? World.setCell at *
      simp only [Array.getElem?_modify]
      simp only [if_true] at *
      cases hb : w.heap[a.block]? with
      | none => simp
      | some o => cases o <;> simp_all
  · rw [World.cell?_setCell_other _ _ _ _ e]
section
variable {P : Program} {ops : Array Oper} {rest : List Oper} {o : Oper} {a : Act} {Q : Exit → Act → World → Prop}
/-- make([]T, 0, n). -/
theorem R_room {α : Type} (d : Kd α) {w0 W : World} (base e : Nat) (hgd : o.guard = none) (t : TypeId) (x y : Operand) (ho : o.op = .makeSlice t x y) (n : Int) (hx : a.eval x = .int .i64 0) (hy : a.eval y = .int .i64 n)
    (ht : P.underlying t = some (.slice e)) (z : Value) (bytes : Nat) (hinfo : (P.info? e).map (fun i => (i.zero, i.size, i.bytes)) = some (some z, d.sz, bytes)) (hb0 : 0 < bytes)
    {ok : Nat → Prop} (hok : ∀ k, ok k) (h0 : 0 ≤ n) (hl : n.toNat * bytes ≤ 281474976710656) (HB : Below base w0 W) (hbase : base ≤ W.heap.size)
    (h : ∀ v1 w1, d.R e w1 base ok v1 [] → Below base w0 w1 → wpList P ops Q rest (a.put o.dst v1) w1) : wpList P ops Q (o :: rest) a W := by
  obtain ⟨m, rfl⟩ := Int.eq_ofNat_of_zero_le h0
  simp only [Int.toNat_natCast] at hl
  obtain ⟨i0, hi, hzz⟩ := Option.map_eq_some_iff.1 hinfo
  simp only [Prod.mk.injEq] at hzz
  obtain ⟨hz0, hz1, hz2⟩ := hzz
  have hm : m ≤ 281474976710656 := Nat.le_trans (Nat.le_mul_of_pos_right _ hb0) hl
  obtain ⟨w', hr, hown, hg⟩ := run_make_own (P := P) (w := W) base t e i0 z d.sz ht hi hz0 hz1 .i64 .i64 m (by rw [hz2, Nat.mul_comm]; exact hl) (by simp [maxLen]; omega) hbase
  exact Kd.event_run hgd (v := .slice (some ⟨W.heap.size, 0, none⟩) 0 m) (w1 := w') (by simp [execOp, ho, hx, hy, hr]) (h _ _ ⟨fun k _ => hok k, [], hown, Reps.none _ _⟩ (HB.grown hg hbase (fun _ hk => by cases hk)))
end
/-- A text's bytes, as numbers. -/
def numsB (s : ByteArray) : List Int := s.data.toList.map fun c => (c.toNat : Int)
theorem numsB_length (s : ByteArray) : (numsB s).length = s.size := by simp [numsB]
theorem numsB_getD (s : ByteArray) (j : Nat) : (numsB s).getD j 0 = ((s.data.toList.getD j 0).toNat : Int) := by
  unfold numsB
  rw [List.getD_eq_getElem?_getD, List.getD_eq_getElem?_getD, List.getElem?_map]
  cases s.data.toList[j]? <;> rfl
section
variable {P : Program} {ops : Array Oper} {rest : List Oper} {o : Oper} {a : Act} {Q : Exit → Act → World → Prop}
/-- '[]byte(s)': a row that is read. -/
theorem conv_event {W : World} (hgd : o.guard = none) (src dst e : TypeId) (x : Operand) (ho : o.op = .convert src dst x) (s : ByteArray) (hx : a.eval x = .string s) {u : TypeDesc}
    (hs : P.underlying src = some u) (hd : P.underlying dst = some (.slice e)) (he : P.underlying e = some (.int .u8)) (hl : s.size ≤ 4294967296)
    (h : ∀ A c w1, Kd.C (Kd.int .u8) w1 A (numsB s).length (numsB s) → (numsB s).length ≤ c → Below W.heap.size W w1 → wpList P ops Q rest (a.put o.dst (.slice A (numsB s).length c)) w1) : wpList P ops Q (o :: rest) a W := by
  have hrun := Lib.run_convert_string_bytes (P := P) W src dst e s hs hd he
  refine Kd.event_run hgd (v := .slice (some ⟨W.heap.size, 0, none⟩) (numsB s).length (grownCap W s.size 0 e)) (w1 := Lib.bytesWorld W e s) (by simp [execOp, ho, hx, hrun, numsB_length, Result.andThen, Sem.run]) (h _ _ _ (Kd.C_of_reads (d := 0) ⟨rfl, by rw [numsB_length]; omega, fun _ => ⟨_, rfl, fun j hj => ?_⟩⟩) ?_ (bytes_below (Below.refl _ _) (Nat.le_refl _) _ _))
  · rw [numsB_length] at hj
    have hc := Lib.bytesWorld_cell W e s j hj
    rw [← numsB_getD] at hc
    have ha : (⟨W.heap.size, 0, none⟩ : Addr).add j = ⟨W.heap.size, j, none⟩ := by by_cases e : j = 0 <;> simp [Addr.add, e]
    rw [ha]
    exact hc
  · rw [numsB_length]
    exact grownCap_ge _ _ _ _
end

end Go.Proofs.YtcflmkklpehmmaaDoor.PL
