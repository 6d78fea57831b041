/- What part 1 of the texts under treeDeep_holds proves: contracts of functions of this seat, and plain facts about what they compute. Conditions: those that each theorem names. -/
import Derived.Test.YtlpnlfahlcingaaGreatDoorTD0
import Derived.Test.YtlpnlfahlcingaaGreatDoorProg
import Derived.Below
import Derived.Deep.Draws
import Derived.Deep.AppendLies
import Derived.Maps.AppendAt
import Derived.OwnWalk
import Derived.Laws.BytesArg
import Derived.Laws.MakeOwn
import Derived.Laws.OwnMore
import Derived.Deep.OwnRows
import Derived.Tactics
import Derived.Lib.ConvBytes
import Derived.Laws.Slices
import Derived.WalkKit
import Derived.KernelRfl
import Derived.RowKit3
import Derived.Deep.LoopGhost
import Derived.Deep.QuietTactic
import Derived.BigQuiet
import Derived.WideLaws
import Derived.Deep.DeepCutAuto
import Derived.Deep.CutBlock
import Derived.Deep.RegionHeld3
import Derived.Laws.Rows
import Derived.Lib.AppendStr
import Derived.ArgAppend
import Derived.Laws.IdiomCopy
import Derived.OrdersHeld
import Derived.Laws.BitsLemmas
import Derived.RowKit
import Derived.BigQuiet
import Derived.HandedShaped
import Derived.Shelf.Vars
import Derived.Lib.Hide
import Derived.Lib.SmallJoins
import Derived.Lib.AppendIntMem
import Derived.Shelf.Strings.OnBuilder
import Derived.WalkSmall
section
namespace Go.Proofs.YtlpnlfahlcingaaGreatDoor.PL
open Go.RowKit Go.Proofs.YtlpnlfahlcingaaGreatDoorW.PrintWords Go.Proofs.YtlpnlfahlcingaaGreatDoorW.PrintLast Go.Proofs.YtlpnlfahlcingaaGreatDoorW.PrintMore
attribute [local go_sem] max2_int min2_int max_two min_two max_three min_three max_four min_four
set_option linter.unusedVariables false
set_option linter.unusedSimpArgs false
def errW : Option Int → Value
  | none => .nilIface
  | some c => .iface 0 (.int .i64 c)
theorem errW_none : errW none = .nilIface := rfl
theorem errW_some (c : Int) : errW (some c) = .iface 0 (.int .i64 c) := rfl
theorem info5 : (Tryz.prog.info? 5).map (fun i => (i.zero, i.size, i.bytes)) = some (some (.int .u8 0), 1, 1) := by kernel_rfl
theorem info9 : (Tryz.prog.info? 9).map (fun i => (i.zero, i.size, i.bytes)) = some (some (.string ⟨#[]⟩), 1, 16) := by kernel_rfl
theorem info75 : (Tryz.prog.info? 75).map (fun i => (i.zero, i.size, i.bytes)) = some (some (.agg #[(.int .i64 0), (.int .i64 0), (.string ⟨#[]⟩), (.int .i64 0)]), 4, 40) := by kernel_rfl
structure S75 where
  f0 : Int
  f1 : Int
  f2 : ByteArray
  f3 : Int
def z75 : S75 := ⟨(0 : Int), (0 : Int), (⟨#[]⟩ : ByteArray), (0 : Int)⟩
def k75 : Kd S75 := Kd.iso (Kd.pair (Kd.int .i64) (Kd.pair (Kd.int .i64) (Kd.pair Kd.string (Kd.int .i64)))) (fun x : S75 => (x.f0, x.f1, x.f2, x.f3))
theorem k75_open {w : World} {x : S75} {cs : List Value} (h : k75.K w x cs) : cs = [.int .i64 x.f0, .int .i64 x.f1, .string x.f2, .int .i64 x.f3] := by
  obtain ⟨_, _, rfl, rfl, ⟨_, _, rfl, rfl, ⟨_, _, rfl, rfl, rfl⟩⟩⟩ := h
  exact rfl
theorem k75_mkM (w : World) (base : Nat) (ok : Nat → Prop) (x : S75)  : k75.M w base ok x [.int .i64 x.f0, .int .i64 x.f1, .string x.f2, .int .i64 x.f3] := ⟨[.int .i64 x.f0], [.int .i64 x.f1, .string x.f2, .int .i64 x.f3], rfl, rfl, ⟨[.int .i64 x.f1], [.string x.f2, .int .i64 x.f3], rfl, rfl, ⟨[.string x.f2], [.int .i64 x.f3], rfl, rfl, rfl⟩⟩⟩
def rd_T75 (xs : List S75) (i : Int) : S75 := xs.getD i.toNat z75
theorem at_T75 {w : World} {A : Option Addr} {n : Nat} {xs : List S75} (h : Kd.C k75 w A n xs) (i : Int) (h0 : 0 ≤ i) (h1 : i < n) : ∃ ad , A = some ad ∧ w.cell? (ad.add (i.toNat * 4)) = some (.int .i64 (rd_T75 xs i).f0) ∧ w.cell? ⟨(ad.add (i.toNat * 4)).block, (ad.add (i.toNat * 4)).off + 1, none⟩ = some (.int .i64 (rd_T75 xs i).f1) ∧ w.cell? ⟨(ad.add (i.toNat * 4)).block, (ad.add (i.toNat * 4)).off + 2, none⟩ = some (.string (rd_T75 xs i).f2) ∧ w.cell? ⟨(ad.add (i.toNat * 4)).block, (ad.add (i.toNat * 4)).off + 3, none⟩ = some (.int .i64 (rd_T75 xs i).f3) := by
  obtain ⟨ad, c, e, _, hK, hc0⟩ := Kd.C_get h z75 i h0 h1
  have hc : ∀ j u, c[j]? = some u → w.cell? (ad.add (i.toNat * 4 + j)) = some u := hc0
  obtain rfl := k75_open hK
  exact ⟨ad, e, hc 0 _ rfl, by rw [← add_field _ _ 1 (by omega)]; exact hc 1 _ rfl, by rw [← add_field _ _ 2 (by omega)]; exact hc 2 _ rfl, by rw [← add_field _ _ 3 (by omega)]; exact hc 3 _ rfl⟩
structure S31 where
  f0 : Int
  f1 : Int
  f2 : ByteArray
def z31 : S31 := ⟨(0 : Int), (0 : Int), (⟨#[]⟩ : ByteArray)⟩
def k31 : Kd S31 := Kd.iso (Kd.pair (Kd.int .i64) (Kd.pair (Kd.int .i64) Kd.string)) (fun x : S31 => (x.f0, x.f1, x.f2))
theorem k31_open {w : World} {x : S31} {cs : List Value} (h : k31.K w x cs) : cs = [.int .i64 x.f0, .int .i64 x.f1, .string x.f2] := by
  obtain ⟨_, _, rfl, rfl, ⟨_, _, rfl, rfl, rfl⟩⟩ := h
  exact rfl
theorem k31_mk (w : World) (x : S31)  : k31.K w x [.int .i64 x.f0, .int .i64 x.f1, .string x.f2] := ⟨[.int .i64 x.f0], [.int .i64 x.f1, .string x.f2], rfl, rfl, ⟨[.int .i64 x.f1], [.string x.f2], rfl, rfl, rfl⟩⟩
structure S34 where
  f0 : Int
  f1 : ByteArray
  f2 : S31
  f3 : (List S34)
def z34 : S34 := ⟨(0 : Int), (⟨#[]⟩ : ByteArray), z31, ([] : List S34)⟩
def F34 (d : Kd S34) : Kd S34 := Kd.iso (Kd.pair (Kd.int .i64) (Kd.pair Kd.string (Kd.pair k31 (Kd.slice 34 d)))) (fun x : S34 => (x.f0, x.f1, x.f2, x.f3))
theorem mono34 : Kd.Mono F34 := Kd.mono_iso _ (Kd.mono_pair (Kd.mono_const _) (Kd.mono_pair (Kd.mono_const _) (Kd.mono_pair (Kd.mono_const _) (Kd.mono_slice 34 Kd.mono_id))))
theorem sub34 : Kd.Sub F34 [34] := Kd.sub_iso _ (Kd.sub_pair (Kd.sub_const _ (by decide)) (Kd.sub_pair (Kd.sub_const _ (by decide)) (Kd.sub_pair (Kd.sub_const _ (by decide)) (Kd.sub_slice 34 (by decide) Kd.sub_id))))
theorem sz34 : ∀ n, (Kd.upto F34 6 [34] n).sz = 6 := Kd.upto_sz (fun _ => rfl)
def k34 : Kd S34 := Kd.fix F34 6 [34] sz34 (Kd.upto_E sub34)
theorem k34_open {w : World} {x : S34} {cs : List Value} (h : k34.K w x cs) : ∃ A5 c5, cs = [.int .i64 x.f0, .string x.f1, .int .i64 x.f2.f0, .int .i64 x.f2.f1, .string x.f2.f2, .slice A5 x.f3.length c5] ∧ x.f3.length ≤ c5 ∧ k34.C w A5 x.f3.length x.f3 := by
  obtain ⟨n, h⟩ := h
  cases n with
  | zero => exact h.elim
  | succ n =>
    obtain ⟨_, _, rfl, rfl, ⟨_, _, rfl, rfl, ⟨_, _, rfl, s2, ⟨A5, c5, rfl, l5, g5⟩⟩⟩⟩ := h
    obtain rfl := k31_open s2
    exact ⟨A5, c5, rfl, l5, Kd.fix_C g5⟩
theorem k34_mk (w : World) (x : S34) {A5 : Option Addr} {c5 : Nat} (l5 : x.f3.length ≤ c5) (g5 : k34.C w A5 x.f3.length x.f3) : k34.K w x [.int .i64 x.f0, .string x.f1, .int .i64 x.f2.f0, .int .i64 x.f2.f1, .string x.f2.f2, .slice A5 x.f3.length c5] := by
  obtain ⟨n5, q5⟩ := Kd.fix_C_back mono34 g5
  have r5 := Kd.upto_C_le mono34 sz34 (show n5 ≤ n5 by omega) q5
  exact ⟨n5 + 1, ⟨[.int .i64 x.f0], [.string x.f1, .int .i64 x.f2.f0, .int .i64 x.f2.f1, .string x.f2.f2, .slice A5 x.f3.length c5], rfl, rfl, ⟨[.string x.f1], [.int .i64 x.f2.f0, .int .i64 x.f2.f1, .string x.f2.f2, .slice A5 x.f3.length c5], rfl, rfl, ⟨[.int .i64 x.f2.f0, .int .i64 x.f2.f1, .string x.f2.f2], [.slice A5 x.f3.length c5], rfl, (k31_mk w x.f2 ), ⟨A5, c5, rfl, l5, r5⟩⟩⟩⟩⟩
def rd_T34 (xs : List S34) (i : Int) : S34 := xs.getD i.toNat z34
theorem at_T34 {w : World} {A : Option Addr} {n : Nat} {xs : List S34} (h : Kd.C k34 w A n xs) (i : Int) (h0 : 0 ≤ i) (h1 : i < n) : ∃ ad A5 c5, A = some ad ∧ w.cell? (ad.add (i.toNat * 6)) = some (.int .i64 (rd_T34 xs i).f0) ∧ w.cell? ⟨(ad.add (i.toNat * 6)).block, (ad.add (i.toNat * 6)).off + 1, none⟩ = some (.string (rd_T34 xs i).f1) ∧ w.cell? ⟨(ad.add (i.toNat * 6)).block, (ad.add (i.toNat * 6)).off + 2, none⟩ = some (.int .i64 (rd_T34 xs i).f2.f0) ∧ w.cell? ⟨(ad.add (i.toNat * 6)).block, (ad.add (i.toNat * 6)).off + 3, none⟩ = some (.int .i64 (rd_T34 xs i).f2.f1) ∧ w.cell? ⟨(ad.add (i.toNat * 6)).block, (ad.add (i.toNat * 6)).off + 4, none⟩ = some (.string (rd_T34 xs i).f2.f2) ∧ w.cell? ⟨(ad.add (i.toNat * 6)).block, (ad.add (i.toNat * 6)).off + 5, none⟩ = some (.slice A5 (rd_T34 xs i).f3.length c5) ∧ (rd_T34 xs i).f3.length ≤ c5 ∧ k34.C w A5 (rd_T34 xs i).f3.length (rd_T34 xs i).f3 := by
  obtain ⟨ad, c, e, _, hK, hc0⟩ := Kd.C_get h z34 i h0 h1
  have hc : ∀ j u, c[j]? = some u → w.cell? (ad.add (i.toNat * 6 + j)) = some u := hc0
  obtain ⟨A5, c5, rfl, l5, g5⟩ := k34_open hK
  exact ⟨ad, A5, c5, e, hc 0 _ rfl, by rw [← add_field _ _ 1 (by omega)]; exact hc 1 _ rfl, by rw [← add_field _ _ 2 (by omega)]; exact hc 2 _ rfl, by rw [← add_field _ _ 3 (by omega)]; exact hc 3 _ rfl, by rw [← add_field _ _ 4 (by omega)]; exact hc 4 _ rfl, by rw [← add_field _ _ 5 (by omega)]; exact hc 5 _ rfl, l5, g5⟩
structure S155 where
  f0 : S34
  f1 : Int
structure S63 where
  f0 : Int
  f1 : S34
def z63 : S63 := ⟨(0 : Int), z34⟩
def k63 : Kd S63 := Kd.iso (Kd.pair (Kd.int .i64) k34) (fun x : S63 => (x.f0, x.f1))
theorem k63_open {w : World} {x : S63} {cs : List Value} (h : k63.K w x cs) : ∃ A6 c6, cs = [.int .i64 x.f0, .int .i64 x.f1.f0, .string x.f1.f1, .int .i64 x.f1.f2.f0, .int .i64 x.f1.f2.f1, .string x.f1.f2.f2, .slice A6 x.f1.f3.length c6] ∧ x.f1.f3.length ≤ c6 ∧ k34.C w A6 x.f1.f3.length x.f1.f3 := by
  obtain ⟨_, _, rfl, rfl, s1⟩ := h
  obtain ⟨A6, c6, rfl, l6, g6⟩ := k34_open s1
  exact ⟨A6, c6, rfl, l6, g6⟩
theorem k63_mk (w : World) (x : S63) {A6 : Option Addr} {c6 : Nat} (l6 : x.f1.f3.length ≤ c6) (g6 : k34.C w A6 x.f1.f3.length x.f1.f3) : k63.K w x [.int .i64 x.f0, .int .i64 x.f1.f0, .string x.f1.f1, .int .i64 x.f1.f2.f0, .int .i64 x.f1.f2.f1, .string x.f1.f2.f2, .slice A6 x.f1.f3.length c6] := ⟨[.int .i64 x.f0], [.int .i64 x.f1.f0, .string x.f1.f1, .int .i64 x.f1.f2.f0, .int .i64 x.f1.f2.f1, .string x.f1.f2.f2, .slice A6 x.f1.f3.length c6], rfl, rfl, (k34_mk w x.f1 l6 g6)⟩
def rd_T63 (xs : List S63) (i : Int) : S63 := xs.getD i.toNat z63
theorem at_T63 {w : World} {A : Option Addr} {n : Nat} {xs : List S63} (h : Kd.C k63 w A n xs) (i : Int) (h0 : 0 ≤ i) (h1 : i < n) : ∃ ad A6 c6, A = some ad ∧ w.cell? (ad.add (i.toNat * 7)) = some (.int .i64 (rd_T63 xs i).f0) ∧ w.cell? ⟨(ad.add (i.toNat * 7)).block, (ad.add (i.toNat * 7)).off + 1, none⟩ = some (.int .i64 (rd_T63 xs i).f1.f0) ∧ w.cell? ⟨(ad.add (i.toNat * 7)).block, (ad.add (i.toNat * 7)).off + 2, none⟩ = some (.string (rd_T63 xs i).f1.f1) ∧ w.cell? ⟨(ad.add (i.toNat * 7)).block, (ad.add (i.toNat * 7)).off + 3, none⟩ = some (.int .i64 (rd_T63 xs i).f1.f2.f0) ∧ w.cell? ⟨(ad.add (i.toNat * 7)).block, (ad.add (i.toNat * 7)).off + 4, none⟩ = some (.int .i64 (rd_T63 xs i).f1.f2.f1) ∧ w.cell? ⟨(ad.add (i.toNat * 7)).block, (ad.add (i.toNat * 7)).off + 5, none⟩ = some (.string (rd_T63 xs i).f1.f2.f2) ∧ w.cell? ⟨(ad.add (i.toNat * 7)).block, (ad.add (i.toNat * 7)).off + 6, none⟩ = some (.slice A6 (rd_T63 xs i).f1.f3.length c6) ∧ (rd_T63 xs i).f1.f3.length ≤ c6 ∧ k34.C w A6 (rd_T63 xs i).f1.f3.length (rd_T63 xs i).f1.f3 := by
  obtain ⟨ad, c, e, _, hK, hc0⟩ := Kd.C_get h z63 i h0 h1
  have hc : ∀ j u, c[j]? = some u → w.cell? (ad.add (i.toNat * 7 + j)) = some u := hc0
  obtain ⟨A6, c6, rfl, l6, g6⟩ := k63_open hK
  exact ⟨ad, A6, c6, e, hc 0 _ rfl, by rw [← add_field _ _ 1 (by omega)]; exact hc 1 _ rfl, by rw [← add_field _ _ 2 (by omega)]; exact hc 2 _ rfl, by rw [← add_field _ _ 3 (by omega)]; exact hc 3 _ rfl, by rw [← add_field _ _ 4 (by omega)]; exact hc 4 _ rfl, by rw [← add_field _ _ 5 (by omega)]; exact hc 5 _ rfl, by rw [← add_field _ _ 6 (by omega)]; exact hc 6 _ rfl, l6, g6⟩
def rd_L8 (xs : List (List S34)) (i : Int) : (List S34) := xs.getD i.toNat ([] : List S34)
theorem at_L8 {w : World} {A : Option Addr} {n : Nat} {xs : List (List S34)} (h : Kd.C (Kd.slice 34 k34) w A n xs) (i : Int) (h0 : 0 ≤ i) (h1 : i < n) : ∃ ad A0 c0, A = some ad ∧ w.cell? (ad.add i.toNat) = some (.slice A0 (rd_L8 xs i).length c0) ∧ (rd_L8 xs i).length ≤ c0 ∧ k34.C w A0 (rd_L8 xs i).length (rd_L8 xs i) := by
  obtain ⟨ad, c, e, _, hK, hc0⟩ := Kd.C_get h ([] : List S34) i h0 h1
  have hc : ∀ j u, c[j]? = some u → w.cell? (ad.add (i.toNat * 1 + j)) = some u := hc0
  obtain ⟨A0, c0, rfl, l0, g0⟩ := hK
  exact ⟨ad, A0, c0, e, by have hq := hc 0 _ rfl; rwa [Nat.mul_one, Nat.add_zero] at hq, l0, g0⟩
structure S65 where
  f0 : ByteArray
  f1 : S34
def z65 : S65 := ⟨(⟨#[]⟩ : ByteArray), z34⟩
def k65 : Kd S65 := Kd.iso (Kd.pair Kd.string k34) (fun x : S65 => (x.f0, x.f1))
theorem k65_open {w : World} {x : S65} {cs : List Value} (h : k65.K w x cs) : ∃ A6 c6, cs = [.string x.f0, .int .i64 x.f1.f0, .string x.f1.f1, .int .i64 x.f1.f2.f0, .int .i64 x.f1.f2.f1, .string x.f1.f2.f2, .slice A6 x.f1.f3.length c6] ∧ x.f1.f3.length ≤ c6 ∧ k34.C w A6 x.f1.f3.length x.f1.f3 := by
  obtain ⟨_, _, rfl, rfl, s1⟩ := h
  obtain ⟨A6, c6, rfl, l6, g6⟩ := k34_open s1
  exact ⟨A6, c6, rfl, l6, g6⟩
theorem k65_mk (w : World) (x : S65) {A6 : Option Addr} {c6 : Nat} (l6 : x.f1.f3.length ≤ c6) (g6 : k34.C w A6 x.f1.f3.length x.f1.f3) : k65.K w x [.string x.f0, .int .i64 x.f1.f0, .string x.f1.f1, .int .i64 x.f1.f2.f0, .int .i64 x.f1.f2.f1, .string x.f1.f2.f2, .slice A6 x.f1.f3.length c6] := ⟨[.string x.f0], [.int .i64 x.f1.f0, .string x.f1.f1, .int .i64 x.f1.f2.f0, .int .i64 x.f1.f2.f1, .string x.f1.f2.f2, .slice A6 x.f1.f3.length c6], rfl, rfl, (k34_mk w x.f1 l6 g6)⟩
def rd_T65 (xs : List S65) (i : Int) : S65 := xs.getD i.toNat z65
theorem at_T65 {w : World} {A : Option Addr} {n : Nat} {xs : List S65} (h : Kd.C k65 w A n xs) (i : Int) (h0 : 0 ≤ i) (h1 : i < n) : ∃ ad A6 c6, A = some ad ∧ w.cell? (ad.add (i.toNat * 7)) = some (.string (rd_T65 xs i).f0) ∧ w.cell? ⟨(ad.add (i.toNat * 7)).block, (ad.add (i.toNat * 7)).off + 1, none⟩ = some (.int .i64 (rd_T65 xs i).f1.f0) ∧ w.cell? ⟨(ad.add (i.toNat * 7)).block, (ad.add (i.toNat * 7)).off + 2, none⟩ = some (.string (rd_T65 xs i).f1.f1) ∧ w.cell? ⟨(ad.add (i.toNat * 7)).block, (ad.add (i.toNat * 7)).off + 3, none⟩ = some (.int .i64 (rd_T65 xs i).f1.f2.f0) ∧ w.cell? ⟨(ad.add (i.toNat * 7)).block, (ad.add (i.toNat * 7)).off + 4, none⟩ = some (.int .i64 (rd_T65 xs i).f1.f2.f1) ∧ w.cell? ⟨(ad.add (i.toNat * 7)).block, (ad.add (i.toNat * 7)).off + 5, none⟩ = some (.string (rd_T65 xs i).f1.f2.f2) ∧ w.cell? ⟨(ad.add (i.toNat * 7)).block, (ad.add (i.toNat * 7)).off + 6, none⟩ = some (.slice A6 (rd_T65 xs i).f1.f3.length c6) ∧ (rd_T65 xs i).f1.f3.length ≤ c6 ∧ k34.C w A6 (rd_T65 xs i).f1.f3.length (rd_T65 xs i).f1.f3 := by
  obtain ⟨ad, c, e, _, hK, hc0⟩ := Kd.C_get h z65 i h0 h1
  have hc : ∀ j u, c[j]? = some u → w.cell? (ad.add (i.toNat * 7 + j)) = some u := hc0
  obtain ⟨A6, c6, rfl, l6, g6⟩ := k65_open hK
  exact ⟨ad, A6, c6, e, hc 0 _ rfl, by rw [← add_field _ _ 1 (by omega)]; exact hc 1 _ rfl, by rw [← add_field _ _ 2 (by omega)]; exact hc 2 _ rfl, by rw [← add_field _ _ 3 (by omega)]; exact hc 3 _ rfl, by rw [← add_field _ _ 4 (by omega)]; exact hc 4 _ rfl, by rw [← add_field _ _ 5 (by omega)]; exact hc 5 _ rfl, by rw [← add_field _ _ 6 (by omega)]; exact hc 6 _ rfl, l6, g6⟩
structure S44 where
  f0 : Int
  f1 : ByteArray
  f2 : (List S63)
  f3 : (List (List S34))
  f4 : (List S65)
  f5 : Bool
  f6 : S34
  f7 : ByteArray
  f8 : Bool
  f9 : Int
def z44 : S44 := ⟨(0 : Int), (⟨#[]⟩ : ByteArray), ([] : List S63), ([] : List (List S34)), ([] : List S65), false, z34, (⟨#[]⟩ : ByteArray), false, (0 : Int)⟩
def k44 : Kd S44 := Kd.iso (Kd.pair (Kd.int .i64) (Kd.pair Kd.string (Kd.pair (Kd.slice 63 k63) (Kd.pair (Kd.slice 32 (Kd.slice 34 k34)) (Kd.pair (Kd.slice 65 k65) (Kd.pair Kd.bool (Kd.pair k34 (Kd.pair Kd.string (Kd.pair Kd.bool (Kd.int .i64)))))))))) (fun x : S44 => (x.f0, x.f1, x.f2, x.f3, x.f4, x.f5, x.f6, x.f7, x.f8, x.f9))
theorem k44_open {w : World} {x : S44} {cs : List Value} (h : k44.K w x cs) : ∃ A2 c2 A3 c3 A4 c4 A11 c11, cs = [.int .i64 x.f0, .string x.f1, .slice A2 x.f2.length c2, .slice A3 x.f3.length c3, .slice A4 x.f4.length c4, .bool x.f5, .int .i64 x.f6.f0, .string x.f6.f1, .int .i64 x.f6.f2.f0, .int .i64 x.f6.f2.f1, .string x.f6.f2.f2, .slice A11 x.f6.f3.length c11, .string x.f7, .bool x.f8, .int .i64 x.f9] ∧ x.f2.length ≤ c2 ∧ k63.C w A2 x.f2.length x.f2 ∧ x.f3.length ≤ c3 ∧ (Kd.slice 34 k34).C w A3 x.f3.length x.f3 ∧ x.f4.length ≤ c4 ∧ k65.C w A4 x.f4.length x.f4 ∧ x.f6.f3.length ≤ c11 ∧ k34.C w A11 x.f6.f3.length x.f6.f3 := by
  obtain ⟨_, _, rfl, rfl, ⟨_, _, rfl, rfl, ⟨_, _, rfl, ⟨A2, c2, rfl, l2, g2⟩, ⟨_, _, rfl, ⟨A3, c3, rfl, l3, g3⟩, ⟨_, _, rfl, ⟨A4, c4, rfl, l4, g4⟩, ⟨_, _, rfl, rfl, ⟨_, _, rfl, s6, ⟨_, _, rfl, rfl, ⟨_, _, rfl, rfl, rfl⟩⟩⟩⟩⟩⟩⟩⟩⟩ := h
  obtain ⟨A11, c11, rfl, l11, g11⟩ := k34_open s6
  exact ⟨A2, c2, A3, c3, A4, c4, A11, c11, rfl, l2, g2, l3, g3, l4, g4, l11, g11⟩
theorem k44_mk (w : World) (x : S44) {A2 : Option Addr} {c2 : Nat} (l2 : x.f2.length ≤ c2) (g2 : k63.C w A2 x.f2.length x.f2) {A3 : Option Addr} {c3 : Nat} (l3 : x.f3.length ≤ c3) (g3 : (Kd.slice 34 k34).C w A3 x.f3.length x.f3) {A4 : Option Addr} {c4 : Nat} (l4 : x.f4.length ≤ c4) (g4 : k65.C w A4 x.f4.length x.f4) {A11 : Option Addr} {c11 : Nat} (l11 : x.f6.f3.length ≤ c11) (g11 : k34.C w A11 x.f6.f3.length x.f6.f3) : k44.K w x [.int .i64 x.f0, .string x.f1, .slice A2 x.f2.length c2, .slice A3 x.f3.length c3, .slice A4 x.f4.length c4, .bool x.f5, .int .i64 x.f6.f0, .string x.f6.f1, .int .i64 x.f6.f2.f0, .int .i64 x.f6.f2.f1, .string x.f6.f2.f2, .slice A11 x.f6.f3.length c11, .string x.f7, .bool x.f8, .int .i64 x.f9] := ⟨[.int .i64 x.f0], [.string x.f1, .slice A2 x.f2.length c2, .slice A3 x.f3.length c3, .slice A4 x.f4.length c4, .bool x.f5, .int .i64 x.f6.f0, .string x.f6.f1, .int .i64 x.f6.f2.f0, .int .i64 x.f6.f2.f1, .string x.f6.f2.f2, .slice A11 x.f6.f3.length c11, .string x.f7, .bool x.f8, .int .i64 x.f9], rfl, rfl, ⟨[.string x.f1], [.slice A2 x.f2.length c2, .slice A3 x.f3.length c3, .slice A4 x.f4.length c4, .bool x.f5, .int .i64 x.f6.f0, .string x.f6.f1, .int .i64 x.f6.f2.f0, .int .i64 x.f6.f2.f1, .string x.f6.f2.f2, .slice A11 x.f6.f3.length c11, .string x.f7, .bool x.f8, .int .i64 x.f9], rfl, rfl, ⟨[.slice A2 x.f2.length c2], [.slice A3 x.f3.length c3, .slice A4 x.f4.length c4, .bool x.f5, .int .i64 x.f6.f0, .string x.f6.f1, .int .i64 x.f6.f2.f0, .int .i64 x.f6.f2.f1, .string x.f6.f2.f2, .slice A11 x.f6.f3.length c11, .string x.f7, .bool x.f8, .int .i64 x.f9], rfl, ⟨A2, c2, rfl, l2, g2⟩, ⟨[.slice A3 x.f3.length c3], [.slice A4 x.f4.length c4, .bool x.f5, .int .i64 x.f6.f0, .string x.f6.f1, .int .i64 x.f6.f2.f0, .int .i64 x.f6.f2.f1, .string x.f6.f2.f2, .slice A11 x.f6.f3.length c11, .string x.f7, .bool x.f8, .int .i64 x.f9], rfl, ⟨A3, c3, rfl, l3, g3⟩, ⟨[.slice A4 x.f4.length c4], [.bool x.f5, .int .i64 x.f6.f0, .string x.f6.f1, .int .i64 x.f6.f2.f0, .int .i64 x.f6.f2.f1, .string x.f6.f2.f2, .slice A11 x.f6.f3.length c11, .string x.f7, .bool x.f8, .int .i64 x.f9], rfl, ⟨A4, c4, rfl, l4, g4⟩, ⟨[.bool x.f5], [.int .i64 x.f6.f0, .string x.f6.f1, .int .i64 x.f6.f2.f0, .int .i64 x.f6.f2.f1, .string x.f6.f2.f2, .slice A11 x.f6.f3.length c11, .string x.f7, .bool x.f8, .int .i64 x.f9], rfl, rfl, ⟨[.int .i64 x.f6.f0, .string x.f6.f1, .int .i64 x.f6.f2.f0, .int .i64 x.f6.f2.f1, .string x.f6.f2.f2, .slice A11 x.f6.f3.length c11], [.string x.f7, .bool x.f8, .int .i64 x.f9], rfl, (k34_mk w x.f6 l11 g11), ⟨[.string x.f7], [.bool x.f8, .int .i64 x.f9], rfl, rfl, ⟨[.bool x.f8], [.int .i64 x.f9], rfl, rfl, rfl⟩⟩⟩⟩⟩⟩⟩⟩⟩
def rd_T44 (xs : List S44) (i : Int) : S44 := xs.getD i.toNat z44
theorem at_T44 {w : World} {A : Option Addr} {n : Nat} {xs : List S44} (h : Kd.C k44 w A n xs) (i : Int) (h0 : 0 ≤ i) (h1 : i < n) : ∃ ad A2 c2 A3 c3 A4 c4 A11 c11, A = some ad ∧ w.cell? (ad.add (i.toNat * 15)) = some (.int .i64 (rd_T44 xs i).f0) ∧ w.cell? ⟨(ad.add (i.toNat * 15)).block, (ad.add (i.toNat * 15)).off + 1, none⟩ = some (.string (rd_T44 xs i).f1) ∧ w.cell? ⟨(ad.add (i.toNat * 15)).block, (ad.add (i.toNat * 15)).off + 2, none⟩ = some (.slice A2 (rd_T44 xs i).f2.length c2) ∧ w.cell? ⟨(ad.add (i.toNat * 15)).block, (ad.add (i.toNat * 15)).off + 3, none⟩ = some (.slice A3 (rd_T44 xs i).f3.length c3) ∧ w.cell? ⟨(ad.add (i.toNat * 15)).block, (ad.add (i.toNat * 15)).off + 4, none⟩ = some (.slice A4 (rd_T44 xs i).f4.length c4) ∧ w.cell? ⟨(ad.add (i.toNat * 15)).block, (ad.add (i.toNat * 15)).off + 5, none⟩ = some (.bool (rd_T44 xs i).f5) ∧ w.cell? ⟨(ad.add (i.toNat * 15)).block, (ad.add (i.toNat * 15)).off + 6, none⟩ = some (.int .i64 (rd_T44 xs i).f6.f0) ∧ w.cell? ⟨(ad.add (i.toNat * 15)).block, (ad.add (i.toNat * 15)).off + 7, none⟩ = some (.string (rd_T44 xs i).f6.f1) ∧ w.cell? ⟨(ad.add (i.toNat * 15)).block, (ad.add (i.toNat * 15)).off + 8, none⟩ = some (.int .i64 (rd_T44 xs i).f6.f2.f0) ∧ w.cell? ⟨(ad.add (i.toNat * 15)).block, (ad.add (i.toNat * 15)).off + 9, none⟩ = some (.int .i64 (rd_T44 xs i).f6.f2.f1) ∧ w.cell? ⟨(ad.add (i.toNat * 15)).block, (ad.add (i.toNat * 15)).off + 10, none⟩ = some (.string (rd_T44 xs i).f6.f2.f2) ∧ w.cell? ⟨(ad.add (i.toNat * 15)).block, (ad.add (i.toNat * 15)).off + 11, none⟩ = some (.slice A11 (rd_T44 xs i).f6.f3.length c11) ∧ w.cell? ⟨(ad.add (i.toNat * 15)).block, (ad.add (i.toNat * 15)).off + 12, none⟩ = some (.string (rd_T44 xs i).f7) ∧ w.cell? ⟨(ad.add (i.toNat * 15)).block, (ad.add (i.toNat * 15)).off + 13, none⟩ = some (.bool (rd_T44 xs i).f8) ∧ w.cell? ⟨(ad.add (i.toNat * 15)).block, (ad.add (i.toNat * 15)).off + 14, none⟩ = some (.int .i64 (rd_T44 xs i).f9) ∧ (rd_T44 xs i).f2.length ≤ c2 ∧ k63.C w A2 (rd_T44 xs i).f2.length (rd_T44 xs i).f2 ∧ (rd_T44 xs i).f3.length ≤ c3 ∧ (Kd.slice 34 k34).C w A3 (rd_T44 xs i).f3.length (rd_T44 xs i).f3 ∧ (rd_T44 xs i).f4.length ≤ c4 ∧ k65.C w A4 (rd_T44 xs i).f4.length (rd_T44 xs i).f4 ∧ (rd_T44 xs i).f6.f3.length ≤ c11 ∧ k34.C w A11 (rd_T44 xs i).f6.f3.length (rd_T44 xs i).f6.f3 := by
  obtain ⟨ad, c, e, _, hK, hc0⟩ := Kd.C_get h z44 i h0 h1
  have hc : ∀ j u, c[j]? = some u → w.cell? (ad.add (i.toNat * 15 + j)) = some u := hc0
  obtain ⟨A2, c2, A3, c3, A4, c4, A11, c11, rfl, l2, g2, l3, g3, l4, g4, l11, g11⟩ := k44_open hK
  exact ⟨ad, A2, c2, A3, c3, A4, c4, A11, c11, e, hc 0 _ rfl, by rw [← add_field _ _ 1 (by omega)]; exact hc 1 _ rfl, by rw [← add_field _ _ 2 (by omega)]; exact hc 2 _ rfl, by rw [← add_field _ _ 3 (by omega)]; exact hc 3 _ rfl, by rw [← add_field _ _ 4 (by omega)]; exact hc 4 _ rfl, by rw [← add_field _ _ 5 (by omega)]; exact hc 5 _ rfl, by rw [← add_field _ _ 6 (by omega)]; exact hc 6 _ rfl, by rw [← add_field _ _ 7 (by omega)]; exact hc 7 _ rfl, by rw [← add_field _ _ 8 (by omega)]; exact hc 8 _ rfl, by rw [← add_field _ _ 9 (by omega)]; exact hc 9 _ rfl, by rw [← add_field _ _ 10 (by omega)]; exact hc 10 _ rfl, by rw [← add_field _ _ 11 (by omega)]; exact hc 11 _ rfl, by rw [← add_field _ _ 12 (by omega)]; exact hc 12 _ rfl, by rw [← add_field _ _ 13 (by omega)]; exact hc 13 _ rfl, by rw [← add_field _ _ 14 (by omega)]; exact hc 14 _ rfl, l2, g2, l3, g3, l4, g4, l11, g11⟩
def Sh (w : World) : Prop := (∃ m, w.cell? ⟨1, 0, none⟩ = some (.int .i64 m)) ∧ Lib.TabIs Tryz.prog w "internal/strconv.uint64pow10" .u64 Lib.pow10Tab
theorem pow10_at : Tryz.prog.globalNamed "internal/strconv.uint64pow10" = some 0 := by kernel_rfl
theorem Sh.below {w w' : World} (h : Sh w) (hb : Below w.heap.size w w') : Sh w' := by
  obtain ⟨⟨m, hm⟩, ht⟩ := h
  exact ⟨⟨m, (hb.cell (World.block_lt_of_cell? w _ hm)).trans hm⟩, Joins.tab_stays pow10_at ht hb (Nat.le_refl _)⟩
theorem Sh.drawn {w w' : World} (h : Sh w) (hd : Drawn0 w w') : Sh w' := h.below hd.below
theorem isSome_setCell (w : World) (a b : Addr) (v : Value) : ((w.setCell a v).cell? b).isSome = (w.cell? b).isSome := by
  by_cases e : a = b
  · subst e
    cases h : w.cell? a with
    | some u => rw [World.cell?_setCell_same _ _ _ h]; rfl
    | none =>
      unfold World.cell? World.setCell at *
      simp only [Array.getElem?_modify]
      simp only [if_true] at *
      cases hb : w.heap[a.block]? with
      | none => simp
      | some o => cases o <;> simp_all
  · rw [World.cell?_setCell_other _ _ _ _ e]
section
variable {P : Program} {ops : Array Oper} {rest : List Oper} {o : Oper} {a : Act} {Q : Exit → Act → World → Prop}
end
theorem bl {w W : World} (h : Below w.heap.size w W := by repeat (first | (with_reducible first | exact HB.out | apply below_alloc | apply pw_below_drewN | apply below_drew1 | refine below_set ?_ (Aside0.out (by with_reducible assumption))) | exact HB.out)) : Below w.heap.size w W := h
theorem gsz {w W : World} {g : Nat} (hg : g = W.heap.size) (h : Below w.heap.size w W) : w.heap.size ≤ g := by rw [hg]; exact below_size h
theorem rs {α : Sort _} {a b : α} (h : a = b := by first | rfl | (simp; done) | (simp [*]; done)) : a = b := h
theorem er {α : Sort _} {a b : α} (h : a = b := by first | rfl | (simp [errW_none, errW_some] <;> rfl) | (simp [*, errW_none, errW_some] <;> rfl)) : a = b := h
theorem mp {α : Sort _} {a b : α} (h : a = b := by (try simp only [List.map_toArray, List.map_cons, List.map_nil]); first | done | rfl | (simp only [List.length_drop, List.length_take]; rfl)) : a = b := h
theorem lk {a b : Nat} (h : a ≤ b := by first | omega | exact Nat.le_refl _) : a ≤ b := h
theorem kc {α : Type} {d : Kd α} {w W : World} {A : Option Addr} {n : Nat} {xs : List α} (h0 : Kd.C d w A n xs) (h : Below w.heap.size w W := by repeat (first | (with_reducible first | exact HB.out | apply below_alloc | apply pw_below_drewN | apply below_drew1 | refine below_set ?_ (Aside0.out (by with_reducible assumption))) | exact HB.out)) : Kd.C d W A n xs := Kd.C_below h0 h
theorem bk {W : World} {g : Nat} {o : Obj} (h : W.heap[g]? = some o := by (with_reducible repeat (first | refine blk_drewN ?_ _ | refine blk_drew ?_ | refine blk_alloc ?_ _)); exact Aside0.out (by with_reducible assumption)) : W.heap[g]? = some o := h
theorem bind_out {α β : Type} {x : Option α} {f : α → Option β} {r : β} (h : x.bind f = some r) : ∃ a, x = some a ∧ f a = some r := Option.bind_eq_some_iff.mp h
section
variable {P : Program} {ops : Array Oper} {rest : List Oper} {o : Oper} {a : Act} {Q : Exit → Act → World → Prop}
theorem box_ev {W : World} {N : Tmp} {cs : Array Value} {t : TypeId} (h : ∀ g, g = W.heap.size → ∀ w1, w1.heap[g]? = some (.cells cs t (0, 0)) → Below W.heap.size W w1 → wpList P ops Q rest (a.put o.dst (.pointer (some ⟨g, 0, none⟩))) w1) (hgd : o.guard = none := by rfl) (hd : o.dst = some N := by rfl)
    (hr : (execOp a.eval o).run P W = .ok (.value (.pointer (some ⟨W.heap.size, 0, none⟩))) (W.alloc (.cells cs t (0, 0))) := by first | (go_simp; done) | (go_simp; rfl)) : wpList P ops Q (o :: rest) a W := box_event hgd hd hr h
end
theorem cells3 {w : World} {g t : Nat} {v0 v1 v2 : Value} (h : w.heap[g]? = some (.cells #[v0, v1, v2] t (0, 0))) : w.cell? ⟨g, 0, none⟩ = some v0 ∧ w.cell? ⟨g, 1, none⟩ = some v1 ∧ w.cell? ⟨g, 2, none⟩ = some v2 := ⟨(blk_cell h 0).trans rfl, (blk_cell h 1).trans rfl, (blk_cell h 2).trans rfl⟩
theorem froz3 {w : World} {g t : Nat} {cs : Array Value} (h : w.heap[g]? = some (.cells cs t (0, 0))) : w.frozen? ⟨g, 0, none⟩ = false ∧ w.frozen? ⟨g, 1, none⟩ = false ∧ w.frozen? ⟨g, 2, none⟩ = false := ⟨blk_frozen h 0, blk_frozen h 1, blk_frozen h 2⟩
theorem cells4 {w : World} {g t : Nat} {v0 v1 v2 v3 : Value} (h : w.heap[g]? = some (.cells #[v0, v1, v2, v3] t (0, 0))) : w.cell? ⟨g, 0, none⟩ = some v0 ∧ w.cell? ⟨g, 1, none⟩ = some v1 ∧ w.cell? ⟨g, 2, none⟩ = some v2 ∧ w.cell? ⟨g, 3, none⟩ = some v3 := ⟨(blk_cell h 0).trans rfl, (blk_cell h 1).trans rfl, (blk_cell h 2).trans rfl, (blk_cell h 3).trans rfl⟩
theorem froz4 {w : World} {g t : Nat} {cs : Array Value} (h : w.heap[g]? = some (.cells cs t (0, 0))) : w.frozen? ⟨g, 0, none⟩ = false ∧ w.frozen? ⟨g, 1, none⟩ = false ∧ w.frozen? ⟨g, 2, none⟩ = false ∧ w.frozen? ⟨g, 3, none⟩ = false := ⟨blk_frozen h 0, blk_frozen h 1, blk_frozen h 2, blk_frozen h 3⟩
theorem cells6 {w : World} {g t : Nat} {v0 v1 v2 v3 v4 v5 : Value} (h : w.heap[g]? = some (.cells #[v0, v1, v2, v3, v4, v5] t (0, 0))) : w.cell? ⟨g, 0, none⟩ = some v0 ∧ w.cell? ⟨g, 1, none⟩ = some v1 ∧ w.cell? ⟨g, 2, none⟩ = some v2 ∧ w.cell? ⟨g, 3, none⟩ = some v3 ∧ w.cell? ⟨g, 4, none⟩ = some v4 ∧ w.cell? ⟨g, 5, none⟩ = some v5 := ⟨(blk_cell h 0).trans rfl, (blk_cell h 1).trans rfl, (blk_cell h 2).trans rfl, (blk_cell h 3).trans rfl, (blk_cell h 4).trans rfl, (blk_cell h 5).trans rfl⟩
theorem froz6 {w : World} {g t : Nat} {cs : Array Value} (h : w.heap[g]? = some (.cells cs t (0, 0))) : w.frozen? ⟨g, 0, none⟩ = false ∧ w.frozen? ⟨g, 1, none⟩ = false ∧ w.frozen? ⟨g, 2, none⟩ = false ∧ w.frozen? ⟨g, 3, none⟩ = false ∧ w.frozen? ⟨g, 4, none⟩ = false ∧ w.frozen? ⟨g, 5, none⟩ = false := ⟨blk_frozen h 0, blk_frozen h 1, blk_frozen h 2, blk_frozen h 3, blk_frozen h 4, blk_frozen h 5⟩
theorem cells7 {w : World} {g t : Nat} {v0 v1 v2 v3 v4 v5 v6 : Value} (h : w.heap[g]? = some (.cells #[v0, v1, v2, v3, v4, v5, v6] t (0, 0))) : w.cell? ⟨g, 0, none⟩ = some v0 ∧ w.cell? ⟨g, 1, none⟩ = some v1 ∧ w.cell? ⟨g, 2, none⟩ = some v2 ∧ w.cell? ⟨g, 3, none⟩ = some v3 ∧ w.cell? ⟨g, 4, none⟩ = some v4 ∧ w.cell? ⟨g, 5, none⟩ = some v5 ∧ w.cell? ⟨g, 6, none⟩ = some v6 := ⟨(blk_cell h 0).trans rfl, (blk_cell h 1).trans rfl, (blk_cell h 2).trans rfl, (blk_cell h 3).trans rfl, (blk_cell h 4).trans rfl, (blk_cell h 5).trans rfl, (blk_cell h 6).trans rfl⟩
theorem froz7 {w : World} {g t : Nat} {cs : Array Value} (h : w.heap[g]? = some (.cells cs t (0, 0))) : w.frozen? ⟨g, 0, none⟩ = false ∧ w.frozen? ⟨g, 1, none⟩ = false ∧ w.frozen? ⟨g, 2, none⟩ = false ∧ w.frozen? ⟨g, 3, none⟩ = false ∧ w.frozen? ⟨g, 4, none⟩ = false ∧ w.frozen? ⟨g, 5, none⟩ = false ∧ w.frozen? ⟨g, 6, none⟩ = false := ⟨blk_frozen h 0, blk_frozen h 1, blk_frozen h 2, blk_frozen h 3, blk_frozen h 4, blk_frozen h 5, blk_frozen h 6⟩
theorem cells15 {w : World} {g t : Nat} {v0 v1 v2 v3 v4 v5 v6 v7 v8 v9 v10 v11 v12 v13 v14 : Value} (h : w.heap[g]? = some (.cells #[v0, v1, v2, v3, v4, v5, v6, v7, v8, v9, v10, v11, v12, v13, v14] t (0, 0))) : w.cell? ⟨g, 0, none⟩ = some v0 ∧ w.cell? ⟨g, 1, none⟩ = some v1 ∧ w.cell? ⟨g, 2, none⟩ = some v2 ∧ w.cell? ⟨g, 3, none⟩ = some v3 ∧ w.cell? ⟨g, 4, none⟩ = some v4 ∧ w.cell? ⟨g, 5, none⟩ = some v5 ∧ w.cell? ⟨g, 6, none⟩ = some v6 ∧ w.cell? ⟨g, 7, none⟩ = some v7 ∧ w.cell? ⟨g, 8, none⟩ = some v8 ∧ w.cell? ⟨g, 9, none⟩ = some v9 ∧ w.cell? ⟨g, 10, none⟩ = some v10 ∧ w.cell? ⟨g, 11, none⟩ = some v11 ∧ w.cell? ⟨g, 12, none⟩ = some v12 ∧ w.cell? ⟨g, 13, none⟩ = some v13 ∧ w.cell? ⟨g, 14, none⟩ = some v14 := ⟨(blk_cell h 0).trans rfl, (blk_cell h 1).trans rfl, (blk_cell h 2).trans rfl, (blk_cell h 3).trans rfl, (blk_cell h 4).trans rfl, (blk_cell h 5).trans rfl, (blk_cell h 6).trans rfl, (blk_cell h 7).trans rfl, (blk_cell h 8).trans rfl, (blk_cell h 9).trans rfl, (blk_cell h 10).trans rfl, (blk_cell h 11).trans rfl, (blk_cell h 12).trans rfl, (blk_cell h 13).trans rfl, (blk_cell h 14).trans rfl⟩
theorem froz15 {w : World} {g t : Nat} {cs : Array Value} (h : w.heap[g]? = some (.cells cs t (0, 0))) : w.frozen? ⟨g, 0, none⟩ = false ∧ w.frozen? ⟨g, 1, none⟩ = false ∧ w.frozen? ⟨g, 2, none⟩ = false ∧ w.frozen? ⟨g, 3, none⟩ = false ∧ w.frozen? ⟨g, 4, none⟩ = false ∧ w.frozen? ⟨g, 5, none⟩ = false ∧ w.frozen? ⟨g, 6, none⟩ = false ∧ w.frozen? ⟨g, 7, none⟩ = false ∧ w.frozen? ⟨g, 8, none⟩ = false ∧ w.frozen? ⟨g, 9, none⟩ = false ∧ w.frozen? ⟨g, 10, none⟩ = false ∧ w.frozen? ⟨g, 11, none⟩ = false ∧ w.frozen? ⟨g, 12, none⟩ = false ∧ w.frozen? ⟨g, 13, none⟩ = false ∧ w.frozen? ⟨g, 14, none⟩ = false := ⟨blk_frozen h 0, blk_frozen h 1, blk_frozen h 2, blk_frozen h 3, blk_frozen h 4, blk_frozen h 5, blk_frozen h 6, blk_frozen h 7, blk_frozen h 8, blk_frozen h 9, blk_frozen h 10, blk_frozen h 11, blk_frozen h 12, blk_frozen h 13, blk_frozen h 14⟩
theorem lx {w W : World} {a : Addr} {v : Value} (hb : Aside0 (Below w.heap.size w W)) (h : w.cell? a = some v) : W.cell? a = some v := (hb.out.cell (World.block_lt_of_cell? w _ h)).trans h
theorem puts4 {w : World} {g t : Nat} {z0 v0 z1 v1 z2 v2 z3 v3 : Value} (h : w.heap[g]? = some (.cells #[z0, z1, z2, z3] t (0, 0))) : ((((w.setCell ⟨g, 0, none⟩ v0).setCell ⟨g, 1, none⟩ v1).setCell ⟨g, 2, none⟩ v2).setCell ⟨g, 3, none⟩ v3).heap[g]? = some (.cells #[v0, v1, v2, v3] t (0, 0)) := by refine blk_put (cs := #[v0, v1, v2, z3]) ?_ 3 _ rfl; refine blk_put (cs := #[v0, v1, z2, z3]) ?_ 2 _ rfl; refine blk_put (cs := #[v0, z1, z2, z3]) ?_ 1 _ rfl; refine blk_put (cs := #[z0, z1, z2, z3]) ?_ 0 _ rfl; exact h
theorem bp4 {W : World} {g : Nat} {o : Obj} (h : W.heap[g]? = some o := by (with_reducible repeat (first | refine blk_drewN ?_ _ | refine blk_drew ?_ | refine blk_alloc ?_ _)); apply puts4; (with_reducible repeat (first | refine blk_drewN ?_ _ | refine blk_drew ?_ | refine blk_alloc ?_ _)); exact Aside0.out (by with_reducible assumption)) : W.heap[g]? = some o := h
theorem puts6 {w : World} {g t : Nat} {z0 v0 z1 v1 z2 v2 z3 v3 z4 v4 z5 v5 : Value} (h : w.heap[g]? = some (.cells #[z0, z1, z2, z3, z4, z5] t (0, 0))) : ((((((w.setCell ⟨g, 0, none⟩ v0).setCell ⟨g, 1, none⟩ v1).setCell ⟨g, 2, none⟩ v2).setCell ⟨g, 3, none⟩ v3).setCell ⟨g, 4, none⟩ v4).setCell ⟨g, 5, none⟩ v5).heap[g]? = some (.cells #[v0, v1, v2, v3, v4, v5] t (0, 0)) := by refine blk_put (cs := #[v0, v1, v2, v3, v4, z5]) ?_ 5 _ rfl; refine blk_put (cs := #[v0, v1, v2, v3, z4, z5]) ?_ 4 _ rfl; refine blk_put (cs := #[v0, v1, v2, z3, z4, z5]) ?_ 3 _ rfl; refine blk_put (cs := #[v0, v1, z2, z3, z4, z5]) ?_ 2 _ rfl; refine blk_put (cs := #[v0, z1, z2, z3, z4, z5]) ?_ 1 _ rfl; refine blk_put (cs := #[z0, z1, z2, z3, z4, z5]) ?_ 0 _ rfl; exact h
theorem bp6 {W : World} {g : Nat} {o : Obj} (h : W.heap[g]? = some o := by (with_reducible repeat (first | refine blk_drewN ?_ _ | refine blk_drew ?_ | refine blk_alloc ?_ _)); apply puts6; (with_reducible repeat (first | refine blk_drewN ?_ _ | refine blk_drew ?_ | refine blk_alloc ?_ _)); exact Aside0.out (by with_reducible assumption)) : W.heap[g]? = some o := h
theorem fars6 {w : World} {g p t : Nat} {cs : Array Value} {v0 v1 v2 v3 v4 v5 : Value} (hp : g ≠ p) (h : w.heap[g]? = some (.cells cs t (0, 0))) : ((((((w.setCell ⟨p, 0, none⟩ v0).setCell ⟨p, 1, none⟩ v1).setCell ⟨p, 2, none⟩ v2).setCell ⟨p, 3, none⟩ v3).setCell ⟨p, 4, none⟩ v4).setCell ⟨p, 5, none⟩ v5).heap[g]? = some (.cells cs t (0, 0)) := by refine blk_far ?_ hp _; refine blk_far ?_ hp _; refine blk_far ?_ hp _; refine blk_far ?_ hp _; refine blk_far ?_ hp _; refine blk_far ?_ hp _; exact h
theorem bf6 {W : World} {g : Nat} {o : Obj} (h : W.heap[g]? = some o := by (with_reducible repeat (first | refine blk_drewN ?_ _ | refine blk_drew ?_ | refine blk_alloc ?_ _)); refine fars6 (Aside0.out (by with_reducible assumption)) ?_; (with_reducible repeat (first | refine blk_drewN ?_ _ | refine blk_drew ?_ | refine blk_alloc ?_ _)); exact Aside0.out (by with_reducible assumption)) : W.heap[g]? = some o := h
theorem puts7 {w : World} {g t : Nat} {z0 v0 z1 v1 z2 v2 z3 v3 z4 v4 z5 v5 z6 v6 : Value} (h : w.heap[g]? = some (.cells #[z0, z1, z2, z3, z4, z5, z6] t (0, 0))) : (((((((w.setCell ⟨g, 0, none⟩ v0).setCell ⟨g, 1, none⟩ v1).setCell ⟨g, 2, none⟩ v2).setCell ⟨g, 3, none⟩ v3).setCell ⟨g, 4, none⟩ v4).setCell ⟨g, 5, none⟩ v5).setCell ⟨g, 6, none⟩ v6).heap[g]? = some (.cells #[v0, v1, v2, v3, v4, v5, v6] t (0, 0)) := by refine blk_put (cs := #[v0, v1, v2, v3, v4, v5, z6]) ?_ 6 _ rfl; refine blk_put (cs := #[v0, v1, v2, v3, v4, z5, z6]) ?_ 5 _ rfl; refine blk_put (cs := #[v0, v1, v2, v3, z4, z5, z6]) ?_ 4 _ rfl; refine blk_put (cs := #[v0, v1, v2, z3, z4, z5, z6]) ?_ 3 _ rfl; refine blk_put (cs := #[v0, v1, z2, z3, z4, z5, z6]) ?_ 2 _ rfl; refine blk_put (cs := #[v0, z1, z2, z3, z4, z5, z6]) ?_ 1 _ rfl; refine blk_put (cs := #[z0, z1, z2, z3, z4, z5, z6]) ?_ 0 _ rfl; exact h
theorem bp7 {W : World} {g : Nat} {o : Obj} (h : W.heap[g]? = some o := by (with_reducible repeat (first | refine blk_drewN ?_ _ | refine blk_drew ?_ | refine blk_alloc ?_ _)); apply puts7; (with_reducible repeat (first | refine blk_drewN ?_ _ | refine blk_drew ?_ | refine blk_alloc ?_ _)); exact Aside0.out (by with_reducible assumption)) : W.heap[g]? = some o := h
theorem puts15 {w : World} {g t : Nat} {z0 v0 z1 v1 z2 v2 z3 v3 z4 v4 z5 v5 z6 v6 z7 v7 z8 v8 z9 v9 z10 v10 z11 v11 z12 v12 z13 v13 z14 v14 : Value} (h : w.heap[g]? = some (.cells #[z0, z1, z2, z3, z4, z5, z6, z7, z8, z9, z10, z11, z12, z13, z14] t (0, 0))) : (((((((((((((((w.setCell ⟨g, 0, none⟩ v0).setCell ⟨g, 1, none⟩ v1).setCell ⟨g, 2, none⟩ v2).setCell ⟨g, 3, none⟩ v3).setCell ⟨g, 4, none⟩ v4).setCell ⟨g, 5, none⟩ v5).setCell ⟨g, 6, none⟩ v6).setCell ⟨g, 7, none⟩ v7).setCell ⟨g, 8, none⟩ v8).setCell ⟨g, 9, none⟩ v9).setCell ⟨g, 10, none⟩ v10).setCell ⟨g, 11, none⟩ v11).setCell ⟨g, 12, none⟩ v12).setCell ⟨g, 13, none⟩ v13).setCell ⟨g, 14, none⟩ v14).heap[g]? = some (.cells #[v0, v1, v2, v3, v4, v5, v6, v7, v8, v9, v10, v11, v12, v13, v14] t (0, 0)) := by refine blk_put (cs := #[v0, v1, v2, v3, v4, v5, v6, v7, v8, v9, v10, v11, v12, v13, z14]) ?_ 14 _ rfl; refine blk_put (cs := #[v0, v1, v2, v3, v4, v5, v6, v7, v8, v9, v10, v11, v12, z13, z14]) ?_ 13 _ rfl; refine blk_put (cs := #[v0, v1, v2, v3, v4, v5, v6, v7, v8, v9, v10, v11, z12, z13, z14]) ?_ 12 _ rfl; refine blk_put (cs := #[v0, v1, v2, v3, v4, v5, v6, v7, v8, v9, v10, z11, z12, z13, z14]) ?_ 11 _ rfl; refine blk_put (cs := #[v0, v1, v2, v3, v4, v5, v6, v7, v8, v9, z10, z11, z12, z13, z14]) ?_ 10 _ rfl; refine blk_put (cs := #[v0, v1, v2, v3, v4, v5, v6, v7, v8, z9, z10, z11, z12, z13, z14]) ?_ 9 _ rfl; refine blk_put (cs := #[v0, v1, v2, v3, v4, v5, v6, v7, z8, z9, z10, z11, z12, z13, z14]) ?_ 8 _ rfl; refine blk_put (cs := #[v0, v1, v2, v3, v4, v5, v6, z7, z8, z9, z10, z11, z12, z13, z14]) ?_ 7 _ rfl; refine blk_put (cs := #[v0, v1, v2, v3, v4, v5, z6, z7, z8, z9, z10, z11, z12, z13, z14]) ?_ 6 _ rfl; refine blk_put (cs := #[v0, v1, v2, v3, v4, z5, z6, z7, z8, z9, z10, z11, z12, z13, z14]) ?_ 5 _ rfl; refine blk_put (cs := #[v0, v1, v2, v3, z4, z5, z6, z7, z8, z9, z10, z11, z12, z13, z14]) ?_ 4 _ rfl; refine blk_put (cs := #[v0, v1, v2, z3, z4, z5, z6, z7, z8, z9, z10, z11, z12, z13, z14]) ?_ 3 _ rfl; refine blk_put (cs := #[v0, v1, z2, z3, z4, z5, z6, z7, z8, z9, z10, z11, z12, z13, z14]) ?_ 2 _ rfl; refine blk_put (cs := #[v0, z1, z2, z3, z4, z5, z6, z7, z8, z9, z10, z11, z12, z13, z14]) ?_ 1 _ rfl; refine blk_put (cs := #[z0, z1, z2, z3, z4, z5, z6, z7, z8, z9, z10, z11, z12, z13, z14]) ?_ 0 _ rfl; exact h
theorem bp15 {W : World} {g : Nat} {o : Obj} (h : W.heap[g]? = some o := by (with_reducible repeat (first | refine blk_drewN ?_ _ | refine blk_drew ?_ | refine blk_alloc ?_ _)); apply puts15; (with_reducible repeat (first | refine blk_drewN ?_ _ | refine blk_drew ?_ | refine blk_alloc ?_ _)); exact Aside0.out (by with_reducible assumption)) : W.heap[g]? = some o := h
theorem fars15 {w : World} {g p t : Nat} {cs : Array Value} {v0 v1 v2 v3 v4 v5 v6 v7 v8 v9 v10 v11 v12 v13 v14 : Value} (hp : g ≠ p) (h : w.heap[g]? = some (.cells cs t (0, 0))) : (((((((((((((((w.setCell ⟨p, 0, none⟩ v0).setCell ⟨p, 1, none⟩ v1).setCell ⟨p, 2, none⟩ v2).setCell ⟨p, 3, none⟩ v3).setCell ⟨p, 4, none⟩ v4).setCell ⟨p, 5, none⟩ v5).setCell ⟨p, 6, none⟩ v6).setCell ⟨p, 7, none⟩ v7).setCell ⟨p, 8, none⟩ v8).setCell ⟨p, 9, none⟩ v9).setCell ⟨p, 10, none⟩ v10).setCell ⟨p, 11, none⟩ v11).setCell ⟨p, 12, none⟩ v12).setCell ⟨p, 13, none⟩ v13).setCell ⟨p, 14, none⟩ v14).heap[g]? = some (.cells cs t (0, 0)) := by refine blk_far ?_ hp _; refine blk_far ?_ hp _; refine blk_far ?_ hp _; refine blk_far ?_ hp _; refine blk_far ?_ hp _; refine blk_far ?_ hp _; refine blk_far ?_ hp _; refine blk_far ?_ hp _; refine blk_far ?_ hp _; refine blk_far ?_ hp _; refine blk_far ?_ hp _; refine blk_far ?_ hp _; refine blk_far ?_ hp _; refine blk_far ?_ hp _; refine blk_far ?_ hp _; exact h
theorem bf15 {W : World} {g : Nat} {o : Obj} (h : W.heap[g]? = some o := by (with_reducible repeat (first | refine blk_drewN ?_ _ | refine blk_drew ?_ | refine blk_alloc ?_ _)); refine fars15 (Aside0.out (by with_reducible assumption)) ?_; (with_reducible repeat (first | refine blk_drewN ?_ _ | refine blk_drew ?_ | refine blk_alloc ?_ _)); exact Aside0.out (by with_reducible assumption)) : W.heap[g]? = some o := h
end Go.Proofs.YtlpnlfahlcingaaGreatDoor.PL
end
section
namespace Go.Proofs.YtlpnlfahlcingaaGreatDoor.PL
open Go.RowKit Go.Proofs.YtlpnlfahlcingaaGreatDoorW.PrintWords Go.Proofs.YtlpnlfahlcingaaGreatDoorW.PrintLast Go.Proofs.YtlpnlfahlcingaaGreatDoorW.PrintMore
set_option linter.unusedVariables false
set_option linter.unusedSimpArgs false
structure Stay (g : Nat) (w w' : World) : Prop where
  os : w'.os = w.os
  tape : w'.tape = w.tape
  output : w'.output = w.output
  size : w.heap.size ≤ w'.heap.size
  block : ∀ k, k < w.heap.size → k ≠ g → w'.heap[k]? = w.heap[k]?
theorem Stay.refl (g : Nat) (w : World) : Stay g w w := ⟨rfl, rfl, rfl, Nat.le_refl _, fun _ _ _ => rfl⟩
theorem Stay.trans {g : Nat} {a b c : World} (h : Stay g a b) (k : Stay g b c) : Stay g a c :=
  ⟨k.os.trans h.os, k.tape.trans h.tape, k.output.trans h.output, Nat.le_trans h.size k.size, fun i hi hg => (k.block i (Nat.lt_of_lt_of_le hi h.size) hg).trans (h.block i hi hg)⟩
theorem Below.stay {w w' : World} (h : Below w.heap.size w w') (g : Nat) : Stay g w w' := ⟨h.os, h.tape, h.output, h.size, fun k hk _ => h.block k hk⟩
theorem Stay.step {g : Nat} {a b c : World} (h : Stay g a b) (k : Below b.heap.size b c) : Stay g a c := h.trans (Below.stay k g)
theorem Stay.set {g : Nat} {a b : World} (h : Stay g a b) (i : Nat) (u : Value) : Stay g a (b.setCell ⟨g, i, none⟩ u) :=
  ⟨h.os, h.tape, h.output, by rw [show (b.setCell ⟨g, i, none⟩ u).heap.size = b.heap.size by simp [World.setCell]]; exact h.size, fun k hk hg => (Below.heap_setCell b ⟨g, i, none⟩ u k hg).trans (h.block k hk hg)⟩
theorem Sh.of {w w' : World} (h : Sh w) (b0 : w'.heap[0]? = w.heap[0]?) (b1 : w'.heap[1]? = w.heap[1]?) : Sh w' := by
  obtain ⟨⟨m, hm⟩, ht⟩ := h
  refine ⟨⟨m, ?_⟩, ?_⟩
  · unfold World.cell? at hm ⊢
    simpa [b1] using hm
  · unfold Lib.TabIs World.var? at ht ⊢
    rw [pow10_at] at ht ⊢
    simpa [b0] using ht
theorem Sh.two {w : World} (h : Sh w) : 2 ≤ w.heap.size := by
  obtain ⟨⟨m, hm⟩, ht⟩ := h
  have hl := World.block_lt_of_cell? w _ hm
  exact hl
theorem Sh.stay {w w' : World} {g : Nat} (h : Sh w) (hs : Stay g w w') (hg : 2 ≤ g) : Sh w' :=
  h.of (hs.block 0 (by have := h.two; omega) (by omega)) (hs.block 1 (by have := h.two; omega) (by omega))
abbrev Tok := S75
def zTok : Tok := z75
def ToksAt (w : World) (gt : Nat) (T : List Tok) : Prop :=
  ∃ cur, w.heap[gt]? = some (.cells cur 75 (0, 0)) ∧ ∀ i t, T[i]? = some t → cur[4 * i]? = some (.int .i64 t.f0) ∧ cur[4 * i + 1]? = some (.int .i64 t.f1) ∧ cur[4 * i + 2]? = some (.string t.f2) ∧ cur[4 * i + 3]? = some (.int .i64 t.f3)
theorem ToksAt.stay {w w' : World} {g gt : Nat} {T : List Tok} (h : ToksAt w gt T) (hs : Stay g w w') (hg : gt ≠ g) : ToksAt w' gt T := by
  obtain ⟨cur, hb, hc⟩ := h
  exact ⟨cur, (hs.block gt (blk_lt hb) hg).trans hb, hc⟩
structure PS (w : World) (gp gt : Nat) (T : List Tok) (C k : Nat) (o : Int) : Prop where
  box : w.heap[gp]? = some (.cells #[.slice (some ⟨gt, 4 * k, none⟩) (T.length - k) (C - k), .int .i64 o] 60 (0, 0))
  toks : ToksAt w gt T
  ne : gt ≠ gp
  len : T.length ≤ C
  room : 0 ≤ C
  at_ : k < T.length
  lo : 0 ≤ o
  hi : o ≤ 1000000
  gp2 : 2 ≤ gp
  sh : Sh w
theorem PS.step {w w' : World} {gp gt : Nat} {T : List Tok} {C k : Nat} {o : Int} (h : PS w gp gt T C k o) (hb : Below w.heap.size w w') : PS w' gp gt T C k o :=
  ⟨blk_below h.box hb, h.toks.stay (Below.stay hb gp) h.ne, h.ne, h.len, h.room, h.at_, h.lo, h.hi, h.gp2, h.sh.below hb⟩
section
variable {w : World} {gp gt : Nat} {T : List Tok} {C k : Nat} {o : Int}
theorem PS.c0 (h : PS w gp gt T C k o) : w.cell? ⟨gp, 0, none⟩ = some (.slice (some ⟨gt, 4 * k, none⟩) (T.length - k) (C - k)) := (blk_cell h.box 0).trans rfl
theorem PS.c1 (h : PS w gp gt T C k o) : w.cell? ⟨gp, 1, none⟩ = some (.int .i64 o) := (blk_cell h.box 1).trans rfl
theorem PS.f0 (h : PS w gp gt T C k o) : w.frozen? ⟨gp, 0, none⟩ = false := blk_frozen h.box 0
theorem PS.f1 (h : PS w gp gt T C k o) : w.frozen? ⟨gp, 1, none⟩ = false := blk_frozen h.box 1
theorem PS.tok (h : PS w gp gt T C k o) : ∃ t, T[k]? = some t ∧ w.cell? ⟨gt, 4 * k, none⟩ = some (.int .i64 t.f0) ∧ w.cell? ⟨gt, 4 * k + 1, none⟩ = some (.int .i64 t.f1) ∧ w.cell? ⟨gt, 4 * k + 2, none⟩ = some (.string t.f2) ∧ w.cell? ⟨gt, 4 * k + 3, none⟩ = some (.int .i64 t.f3) := by
  obtain ⟨cur, hb, hc⟩ := h.toks
  have ht : T[k]? = some (T[k]'h.at_) := List.getElem?_eq_getElem h.at_
  obtain ⟨c0, c1, c2, c3⟩ := hc k _ ht
  exact ⟨_, ht, (blk_cell hb _).trans c0, (blk_cell hb _).trans c1, (blk_cell hb _).trans c2, (blk_cell hb _).trans c3⟩
theorem PS.put0 (h : PS w gp gt T C k o) (hk : k + 1 < T.length) : PS (w.setCell ⟨gp, 0, none⟩ (.slice (some ⟨gt, 4 * k + 4, none⟩) (T.length - k - 1) (C - k - 1))) gp gt T C (k + 1) o :=
  ⟨blk_put h.box 0 _ (by simp [show 4 * (k + 1) = 4 * k + 4 by omega, show T.length - (k + 1) = T.length - k - 1 by omega, show C - (k + 1) = C - k - 1 by omega]), h.toks.stay ((Stay.refl gp w).set 0 _) h.ne, h.ne, h.len, h.room, hk, h.lo, h.hi, h.gp2, h.sh.stay ((Stay.refl gp w).set 0 _) h.gp2⟩
theorem PS.put1 (h : PS w gp gt T C k o) (p : Int) (h0 : 0 ≤ p) (h1 : p ≤ 1000000) : PS (w.setCell ⟨gp, 1, none⟩ (.int .i64 p)) gp gt T C k p :=
  ⟨blk_put h.box 1 _ (by simp), h.toks.stay ((Stay.refl gp w).set 1 _) h.ne, h.ne, h.len, h.room, h.at_, h0, h1, h.gp2, h.sh.stay ((Stay.refl gp w).set 1 _) h.gp2⟩
end
def tokAt (T : List Tok) (k : Nat) : Tok := T.getD k zTok
theorem tokAt_of {T : List Tok} {k : Nat} {t : Tok} (h : T[k]? = some t) : tokAt T k = t := by
  unfold tokAt
  rw [List.getD_eq_getElem?_getD, h]
  rfl
def isB (t : Tok) (s : ByteArray) : Bool := (t.f0 == 1 || t.f0 == 4) && t.f2.toList == s.toList
set_option maxHeartbeats 4000000 in
set_option maxRecDepth 100000 in
theorem is_calls {w : World} {gp gt : Nat} {T : List Tok} {C k : Nat} {o : Int} (h : PS w gp gt T C k o) (s : ByteArray) :
    Calls Tryz.prog 86 #[.pointer (some ⟨gp, 0, none⟩), .string s] w fun e w' => e = .returned (.bool (isB (tokAt T k) s)) ∧ w' = w := by
  obtain ⟨t, ht, t0, t1, t2, t3⟩ := h.tok
  rw [tokAt_of ht]
  have c0 := h.c0
  have hl : 0 < T.length - k := by have := h.at_; omega
  obtain ⟨b, hb⟩ : ∃ b, (t.f0 == 1) = b := ⟨_, rfl⟩
  obtain ⟨b2, hb2⟩ : ∃ b, (t.f0 == 4) = b := ⟨_, rfl⟩
  unfold isB
  clear ht
  go_enter Tryz.func86, Tryz.ntmps86
  go_wp2
  all_goals
    go_ret
    exact ⟨by simp_all, rfl⟩
set_option maxHeartbeats 4000000 in
set_option maxRecDepth 100000 in
theorem take_yes {w : World} {gp gt : Nat} {T : List Tok} {C k : Nat} {o : Int} (h : PS w gp gt T C k o) (s : ByteArray) (hs : isB (tokAt T k) s = true) (hk : k + 1 < T.length) :
    Calls Tryz.prog 37 #[.pointer (some ⟨gp, 0, none⟩), .string s] w fun e w' => e = .returned (.bool true) ∧ PS w' gp gt T C (k + 1) o ∧ Stay gp w w' := by
  have c0 := h.c0
  have f0 := h.f0
  have hl : 1 ≤ T.length - k := by have := h.at_; omega
  have hI : ∀ W, W = w → Calls Tryz.prog 86 #[.pointer (some ⟨gp, 0, none⟩), .string s] W fun e w' => e = .returned (.bool true) ∧ w' = W := fun W hW => by subst hW; have := is_calls h s; rwa [hs] at this
  have hne : ¬ C - k = 1 := by have := h.len; omega
  have H := Aside0.mk h
  have HK := Aside0.mk hk
  clear h hs hk
  go_enter Tryz.func37, Tryz.ntmps37
  go_wp2_with (go_at_call 86; refine (hI _ rfl).mono ?_; rintro e w' ⟨rfl, rfl⟩)
  go_ret
  exact ⟨rfl, H.out.put0 HK.out, (Stay.refl _ _).set 0 _⟩
set_option maxHeartbeats 4000000 in
set_option maxRecDepth 100000 in
theorem take_no {w : World} {gp gt : Nat} {T : List Tok} {C k : Nat} {o : Int} (h : PS w gp gt T C k o) (s : ByteArray) (hs : isB (tokAt T k) s = false) :
    Calls Tryz.prog 37 #[.pointer (some ⟨gp, 0, none⟩), .string s] w fun e w' => e = .returned (.bool false) ∧ w' = w := by
  have hI : ∀ W, W = w → Calls Tryz.prog 86 #[.pointer (some ⟨gp, 0, none⟩), .string s] W fun e w' => e = .returned (.bool false) ∧ w' = W := fun W hW => by subst hW; have := is_calls h s; rwa [hs] at this
  clear h hs
  go_enter Tryz.func37, Tryz.ntmps37
  go_wp2_with (go_at_call 86; refine (hI _ rfl).mono ?_; rintro e w' ⟨rfl, rfl⟩)
  go_ret
  exact ⟨rfl, rfl⟩
def failV (place e : Int) : Value := .iface 57 (.agg #[.int .i64 place, .int .i64 e])
set_option maxHeartbeats 4000000 in
set_option maxRecDepth 100000 in
theorem wrong_calls {w : World} {gp gt : Nat} {T : List Tok} {C k : Nat} {o : Int} (h : PS w gp gt T C k o) (x : Int) :
    Calls Tryz.prog 39 #[.pointer (some ⟨gp, 0, none⟩), .int .i64 x] w fun e w' => e = .panicked [{ v := failV (tokAt T k).f1 x, recovered := false }] ∧ w' = w := by
  obtain ⟨t, ht, t0, t1, t2, t3⟩ := h.tok
  rw [tokAt_of ht]
  have c0 := h.c0
  have hl : 0 < T.length - k := by have := h.at_; omega
  clear ht h
  go_enter Tryz.func39, Tryz.ntmps39
  go_wp2
  exact ⟨rfl, rfl, rfl⟩
end Go.Proofs.YtlpnlfahlcingaaGreatDoor.PL
end
section
namespace Go.Proofs.YtlpnlfahlcingaaGreatDoor.PL
open Go.RowKit Go.Proofs.YtlpnlfahlcingaaGreatDoorW.PrintWords Go.Proofs.YtlpnlfahlcingaaGreatDoorW.PrintLast Go.Proofs.YtlpnlfahlcingaaGreatDoorW.PrintMore
set_option linter.unusedVariables false
set_option linter.unusedSimpArgs false
attribute [local go_sem ↓] isSome_setCell
inductive Rd (α : Type) where
  | ok (a : α) (k : Nat)
  | bad (place err : Int)
def EA (w : World) (S : Nat → Prop) (v : Value) (xs : List S34) : Prop := ∃ A c, v = .slice A xs.length c ∧ xs.length ≤ c ∧ ∀ W2 : World, (∀ k, S k → k < w.heap.size → W2.heap[k]? = w.heap[k]?) → Kd.C k34 W2 A xs.length xs
def Fr (w : World) (k : Nat) : Prop := w.heap.size ≤ k
theorem EA.of {w w1 : World} {S S1 : Nat → Prop} {v : Value} {xs : List S34} (h : EA w S v xs) (hb : ∀ k, k < w.heap.size → S k → S1 k) (hs : w.heap.size ≤ w1.heap.size) (hk : ∀ k, S k → k < w.heap.size → w1.heap[k]? = w.heap[k]?) : EA w1 S1 v xs := by
  obtain ⟨A, c, e, hc, h⟩ := h
  exact ⟨A, c, e, hc, fun W2 h2 => h W2 fun k h3 h4 => (h2 k (hb k h4 h3) (by omega)).trans (hk k h3 h4)⟩
theorem EA.stay {w w1 : World} {gp : Nat} {S : Nat → Prop} {v : Value} {xs : List S34} (h : EA w S v xs) (hs : Stay gp w w1) (hg : ¬ S gp) : EA w1 S v xs :=
  h.of (fun _ _ h => h) hs.size fun k h1 h2 => hs.block k h2 (fun e => hg (e ▸ h1))
theorem EA.below {w w1 : World} {S : Nat → Prop} {v : Value} {xs : List S34} (h : EA w S v xs) (hs : Below w.heap.size w w1) : EA w1 S v xs :=
  h.of (fun _ _ h => h) hs.size fun k h1 h2 => hs.block k h2
theorem Stay.row {gp g : Nat} {w w1 : World} (h : Stay gp w w1) (hg : w.heap.size ≤ g) (cs : Array Value) : Stay gp w (w1.setRow g cs) :=
  ⟨h.os, h.tape, h.output, by simpa using h.size, fun k hk hne => (setRow_other w1 g k cs (by omega)).trans (h.block k hk hne)⟩
theorem PS.row {w : World} {gp gt : Nat} {T : List Tok} {C k : Nat} {o : Int} (h : PS w gp gt T C k o) {g : Nat} (h1 : g ≠ gp) (h2 : g ≠ gt) (h3 : 2 ≤ g) (cs : Array Value) : PS (w.setRow g cs) gp gt T C k o := by
  obtain ⟨cur, hb, hc⟩ := h.toks
  exact ⟨(setRow_other w g gp cs h1.symm).trans h.box, ⟨cur, (setRow_other w g gt cs h2.symm).trans hb, hc⟩, h.ne, h.len, h.room, h.at_, h.lo, h.hi, h.gp2, h.sh.of (setRow_other w g 0 cs (by omega)) (setRow_other w g 1 cs (by omega))⟩
theorem PS.gt_lt {w : World} {gp gt : Nat} {T : List Tok} {C k : Nat} {o : Int} (h : PS w gp gt T C k o) : gt < w.heap.size := by
  obtain ⟨cur, hb, hc⟩ := h.toks
  exact blk_lt hb
def dv (v : Value) (d : S155) : Value := .agg #[.int .i64 d.f0.f0, .string d.f0.f1, .int .i64 d.f0.f2.f0, .int .i64 d.f0.f2.f1, .string d.f0.f2.f2, v, .int .i64 d.f1]
def PostD (w : World) (gp gt : Nat) (T : List Tok) (C : Nat) (o : Int) (r : Rd S155) (e : Ending) (w' : World) : Prop :=
  match r with
  | .ok d k => ∃ v, e = .returned (dv v d) ∧ EA w' (Fr w) v d.f0.f3 ∧ (0 ≤ d.f1 ∧ d.f1 ≤ 16) ∧ PS w' gp gt T C k o ∧ Stay gp w w'
  | .bad p x => e = .panicked [{ v := failV p x, recovered := false }] ∧ Stay gp w w'
structure Hold (p : Prop) : Prop where
  out : p
theorem results_c {P : Program} {fn : Func} {p : Tmp} {ty : TypeId} (h : fn.results = #[.cell p ty]) (tmps : Array Value) (w : World) (g : Nat) (t : TypeId) (cs : Array Value) (fr : Nat × Nat) (d : TypeDesc)
    (hp : tmps.getD p undef = .pointer (some ⟨g, 0, none⟩)) (hg : w.heap[g]? = some (.cells cs t fr))
    (hu : P.underlying ty = some d) (hd : (match d with | .struct _ | .array _ _ => true | _ => false) = true) (hi : (P.info? ty).map (·.size) = some cs.size) :
    (results fn tmps).run P w = .ok (.agg cs) w := by
  have hp' : tmps[p]?.getD undef = .pointer (some ⟨g, 0, none⟩) := by simpa using hp
  simp [results, h, hp', asAddr, run_loadVar_row w g t ty cs fr d hg hu hd hi]
theorem at_world {P : Program} {c : Code} {Q : Exit → Act → World → Prop} {a : Act} {W : World} (F : World → Prop) (hF : F W) (h : ∀ w1, F w1 → c.wp P Q a w1) : c.wp P Q a W := h W hF
def z7 : Array Value := #[.int .i64 0, .string ⟨#[]⟩, .int .i64 0, .int .i64 0, .string ⟨#[]⟩, .slice none 0 0, .int .i64 0]
def ruleR (T : List Tok) (f : Nat → Int → Option (Rd S155)) (k : Nat) (o : Int) : Option (Rd S155) :=
  if o + 1 > 200 then some (.bad (tokAt T k).f1 3) else f k (o + 1)
theorem Stay.cells {g gp : Nat} {w w' : World} {o : Obj} (h : Stay gp w w') (hb : w.heap[g]? = some o) (hg : g ≠ gp) : w'.heap[g]? = some o := (h.block g (blk_lt hb) hg).trans hb
set_option maxHeartbeats 8000000 in
set_option maxRecDepth 100000 in
theorem rule_calls {w : World} {gp gt : Nat} {T : List Tok} {C k : Nat} {o : Int} (h : PS w gp gt T C k o) (ho : o ≤ 200) {F : FuncId} {fn : Func} (hf : Tryz.prog.funcs[F]? = some fn) (hname : (fn.name == "runtime.NumGoroutine") = false) (hb : fn.body.isSome = true)
    (f : Nat → Int → Option (Rd S155)) (hF : ∀ (w1 : World) (r : Rd S155), PS w1 gp gt T C k (o + 1) → o + 1 ≤ 200 → f k (o + 1) = some r → Calls Tryz.prog F #[.pointer (some ⟨gp, 0, none⟩)] w1 (PostD w1 gp gt T C (o + 1) r))
    (r : Rd S155) (hr : ruleR T f k o = some r) :
    Calls Tryz.prog 128 #[.pointer (some ⟨gp, 0, none⟩), .func (.func F) #[.pointer (some ⟨gp, 0, none⟩)] #[]] w (PostD w gp gt T C o r) := by
  unfold ruleR at hr
  have hlo := h.lo
  have H := Aside0.mk h
  have HF := Aside0.mk hF
  have hlt := blk_lt h.box
  clear h hF
  go_enter Tryz.func128, Tryz.ntmps128
  go_upto_region 1 with (fail)
  obtain ⟨g4, hg4⟩ : ∃ g, w.heap.size = g := ⟨_, rfl⟩
  have B4 := Aside0.mk (fun O : Obj => hg4 ▸ blk_new w O)
  rw [hg4]
  have N4 := Aside0.mk (show g4 ≠ gp ∧ g4 ≠ gt ∧ w.heap.size ≤ g4 by have := H.out.gt_lt; omega)
  clear hg4
  refine at_world (fun w1 => Aside0 (PS w1 gp gt T C k o ∧ Stay gp w w1 ∧ w1.heap[g4]? = some (.cells z7 155 (0, 0)))) ⟨H.out.step (below_alloc (Below.refl _ _) _), (Stay.refl gp w).step (below_alloc (Below.refl _ _) _), B4.out _⟩ (fun w1 H1 => ?_)
  have c1 := H1.out.1.c1
  have f1 := H1.out.1.f1
  go_upto_region 2 with (fail)
  refine at_world (fun w2 => Aside0 (PS w2 gp gt T C k (o + 1) ∧ Stay gp w w2 ∧ w2.heap[g4]? = some (.cells z7 155 (0, 0)))) ⟨H1.out.1.put1 _ (by omega) (by omega), H1.out.2.1.set 1 _, blk_far H1.out.2.2 N4.out.1 _⟩ (fun w2 H2 => ?_)
  clear c1 f1 H1 H
  have c1 := H2.out.1.c1
  have f1 := H2.out.1.f1
  by_cases ho1 : o + 1 > 200
  · rw [if_pos ho1] at hr
    obtain rfl := Option.some.inj hr
    have hd : decide (o + 1 > 200) = true := decide_eq_true ho1
    have hd2 : decide (200 < o + 1) = true := decide_eq_true ho1
    go_wp2_with (go_at_call 39; refine (wrong_calls H2.out.1 3).mono ?_; rintro e w' ⟨rfl, rfl⟩)
    exact ⟨rfl, rfl, H2.out.2.1⟩
  · rw [if_neg ho1] at hr
    have hd : decide (o + 1 > 200) = false := decide_eq_false ho1
    have hd2 : decide (200 < o + 1) = false := decide_eq_false ho1
    have hcf := fun W => enters_ hf hname hb #[.pointer (some ⟨gp, 0, none⟩)] W
    cases r with
    | bad p x =>
      go_wp2_with (refine (HF.out w2 _ H2.out.1 (by omega) hr).mono ?_; rintro e w3 ⟨rfl, hs⟩; have H3 := Aside0.mk hs; clear hs)
      exact ⟨rfl, rfl, H2.out.2.1.trans H3.out⟩
    | ok d kk =>
      go_upto_region 5 with (refine (HF.out w2 _ H2.out.1 (by omega) hr).mono ?_; rintro e w3 ⟨v, hv, ⟨Aq, cq, rfl, hq1, hq2⟩, hdn, hps, hst⟩; unfold dv at hv; subst hv; have HD := Aside0.mk hdn; have H3 := Aside0.mk (And.intro (show EA w3 (Fr w2) (.slice Aq d.f0.f3.length cq) d.f0.f3 from ⟨Aq, cq, rfl, hq1, hq2⟩) (And.intro hps hst)); clear hq1 hq2 hps hst hdn)
      obtain ⟨g5, hg5⟩ : ∃ g, w3.heap.size = g := ⟨_, rfl⟩
      have B5 := Aside0.mk (fun O : Obj => hg5 ▸ blk_new w3 O)
      have N5 := Aside0.mk (show g5 ≠ gp by have := blk_lt H3.out.2.1.box; omega)
      have N54 := Aside0.mk (show g4 ≠ g5 by have := blk_lt (H3.out.2.2.cells H2.out.2.2 N4.out.1); omega)
      rw [hg5]
      clear hg5
      refine at_world (fun w4 => Aside0 (PS w4 gp gt T C kk (o + 1) ∧ Stay gp w w4 ∧ w4.heap[g4]? = some (.cells z7 155 (0, 0)) ∧ w4.heap[g5]? = some (.cells #[.int .i64 d.f0.f0, .string d.f0.f1, .int .i64 d.f0.f2.f0, .int .i64 d.f0.f2.f1, .string d.f0.f2.f2, .slice Aq d.f0.f3.length cq, .int .i64 d.f1] 155 (0, 0)) ∧ EA w4 (Fr w2) (.slice Aq d.f0.f3.length cq) d.f0.f3))
        ⟨H3.out.2.1.step (below_alloc (Below.refl _ _) _), (H2.out.2.1.trans H3.out.2.2).step (below_alloc (Below.refl _ _) _), blk_alloc (H3.out.2.2.cells H2.out.2.2 N4.out.1) _, B5.out _, H3.out.1.stay ((Stay.refl gp w3).step (below_alloc (Below.refl _ _) _)) (Nat.not_le.2 (blk_lt H2.out.1.box))⟩ (fun w4 H4 => ?_)
      clear c1 f1
      have c1 := H4.out.1.c1
      have f1 := H4.out.1.f1
      go_upto_region 6 with (fail)
      refine at_world (fun w5 => Aside0 (PS w5 gp gt T C kk o ∧ Stay gp w w5 ∧ w5.heap[g4]? = some (.cells z7 155 (0, 0)) ∧ w5.heap[g5]? = some (.cells #[.int .i64 d.f0.f0, .string d.f0.f1, .int .i64 d.f0.f2.f0, .int .i64 d.f0.f2.f1, .string d.f0.f2.f2, .slice Aq d.f0.f3.length cq, .int .i64 d.f1] 155 (0, 0)) ∧ EA w5 (Fr w2) (.slice Aq d.f0.f3.length cq) d.f0.f3))
        ⟨H4.out.1.put1 o hlo (by omega), H4.out.2.1.set 1 _, blk_far H4.out.2.2.1 N4.out.1 _, blk_far H4.out.2.2.2.1 N5.out _, H4.out.2.2.2.2.stay ((Stay.refl gp w4).set 1 _) (Nat.not_le.2 (blk_lt H2.out.1.box))⟩ (fun w5 H5 => ?_)
      clear c1 f1
      have q := fun i => blk_cell H5.out.2.2.2.1 i
      have q0 := q 0
      have q1 := q 1
      have q2 := q 2
      have q3 := q 3
      have q4 := q 4
      have q5 := q 5
      have q6 := q 6
      clear q
      have z := fun i => blk_cell H5.out.2.2.1 i
      have z0 := (z 0).trans rfl
      have z1 := (z 1).trans rfl
      have z2 := (z 2).trans rfl
      have z3 := (z 3).trans rfl
      have z4 := (z 4).trans rfl
      have z5 := (z 5).trans rfl
      have z6 := (z 6).trans rfl
      clear z
      have y0 := blk_frozen H5.out.2.2.1 0
      have y1 := blk_frozen H5.out.2.2.1 1
      have y2 := blk_frozen H5.out.2.2.1 2
      have y3 := blk_frozen H5.out.2.2.1 3
      have y4 := blk_frozen H5.out.2.2.1 4
      have y5 := blk_frozen H5.out.2.2.1 5
      have y6 := blk_frozen H5.out.2.2.1 6
      simp at q0 q1 q2 q3 q4 q5 q6
      go_wp2_with (with_reducible refine gate_store (t := 155) (p := 4) rfl ?_; refine Hold.out ?_)
      refine ⟨?_⟩
      refine wpList_store_row rfl 155 _ _ rfl g4 #[.int .i64 d.f0.f0, .string d.f0.f1, .int .i64 d.f0.f2.f0, .int .i64 d.f0.f2.f1, .string d.f0.f2.f2, .slice Aq d.f0.f3.length cq, .int .i64 d.f1] rfl rfl 155 z7 H5.out.2.2.1 (by kernel_rfl) rfl (by simp [Value.oneCell']) ?_
      go_wp2
      refine bodyPost_ret (results_c rfl _ _ g4 155 _ (0,0) _ rfl (setRow_heap _ _ _ _ _ _ H5.out.2.2.1) Tryz.underlying155 rfl (by kernel_rfl)) rfl ⟨_, rfl, ?_, HD.out, H5.out.1.row N4.out.1 N4.out.2.1 (Nat.le_trans H2.out.1.gp2 (by have := N4.out; omega)) _, H5.out.2.1.row N4.out.2.2 _⟩
      have := blk_lt H2.out.2.2
      have := H2.out.2.1.size
      exact H5.out.2.2.2.2.of (fun k _ h => Nat.le_trans H2.out.2.1.size h) (by simp) fun k h1 h2 => setRow_other _ _ _ _ (by unfold Fr at h1; omega)
end Go.Proofs.YtlpnlfahlcingaaGreatDoor.PL
end
section
namespace Go.Proofs.YtlpnlfahlcingaaGreatDoor.PL
open Go.RowKit Go.Proofs.YtlpnlfahlcingaaGreatDoorW.PrintWords Go.Proofs.YtlpnlfahlcingaaGreatDoorW.PrintLast Go.Proofs.YtlpnlfahlcingaaGreatDoorW.PrintMore
attribute [local go_sem] max2_int min2_int max_two min_two max_three min_three max_four min_four
attribute [local go_sem ↓] isSome_setCell
set_option linter.unusedVariables false
set_option linter.unusedSimpArgs false
def lex_letter.f (a0 : Int) : Option (Bool) := if (Go.bits .or .u8 a0 32) ≥ 97 then (if (Go.bits .or .u8 a0 32) ≤ 122 then (if a0 ≥ 65 then (some true) else (some (a0 == 95))) else (some (a0 == 95))) else (some (a0 == 95))
set_option maxHeartbeats 8000000 in
set_option maxRecDepth 100000 in
theorem lex_letter.calls (a0 : Int) (r : Bool) (w : World) (h : lex_letter.f a0 = some r) :
  Calls Tryz.prog 75 #[.int .u8 a0] w fun e w' => e = .returned (.bool r) ∧ Drawn0 w w' := by
 have H : (if (Go.bits .or .u8 a0 32) ≥ 97 then (if (Go.bits .or .u8 a0 32) ≤ 122 then (if a0 ≥ 65 then (some true) else (some (a0 == 95))) else (some (a0 == 95))) else (some (a0 == 95))) = some r := h
 clear h
 by_cases c2 : (Go.bits .or .u8 a0 32) ≥ 97
 ·rw [if_pos c2] at H
  have c2b0 : decide (97 ≤ (Go.bits .or .u8 a0 32)) = true := decide_eq_true c2
  clear c2
  by_cases c3 : (Go.bits .or .u8 a0 32) ≤ 122
  ·rw [if_pos c3] at H
   have c3b0 : decide ((Go.bits .or .u8 a0 32) ≤ 122) = true := decide_eq_true c3
   clear c3
   by_cases c4 : a0 ≥ 65
   ·rw [if_pos c4] at H
    have c4b0 : decide (65 ≤ a0) = true := decide_eq_true c4
    clear c4
    obtain rfl := Option.some.inj H
    go_enter Tryz.func75, Tryz.ntmps75
    go_wp2
    go_ret
    exact ⟨by first | rfl | (simp; done) | (simp [*]; done), by repeat (first | exact Drawn0.refl _ | apply Drawn0.step)⟩
   ·rw [if_neg c4] at H
    have c4b0 : decide (65 ≤ a0) = false := decide_eq_false c4
    clear c4
    obtain rfl := Option.some.inj H
    go_enter Tryz.func75, Tryz.ntmps75
    go_wp2
    go_ret
    exact ⟨by first | rfl | (simp; done) | (simp [*]; done), by repeat (first | exact Drawn0.refl _ | apply Drawn0.step)⟩
  ·rw [if_neg c3] at H
   have c3b0 : decide ((Go.bits .or .u8 a0 32) ≤ 122) = false := decide_eq_false c3
   clear c3
   obtain rfl := Option.some.inj H
   go_enter Tryz.func75, Tryz.ntmps75
   go_wp2
   go_ret
   exact ⟨by first | rfl | (simp; done) | (simp [*]; done), by repeat (first | exact Drawn0.refl _ | apply Drawn0.step)⟩
 ·rw [if_neg c2] at H
  have c2b0 : decide (97 ≤ (Go.bits .or .u8 a0 32)) = false := decide_eq_false c2
  clear c2
  obtain rfl := Option.some.inj H
  go_enter Tryz.func75, Tryz.ntmps75
  go_wp2
  go_ret
  exact ⟨by first | rfl | (simp; done) | (simp [*]; done), by repeat (first | exact Drawn0.refl _ | apply Drawn0.step)⟩
def lex_digit.f (a0 : Int) : Option (Bool) := if a0 ≥ 48 then (some (decide (a0 ≤ 57))) else (some false)
set_option maxHeartbeats 8000000 in
set_option maxRecDepth 100000 in
theorem lex_digit.calls (a0 : Int) (r : Bool) (w : World) (h : lex_digit.f a0 = some r) :
  Calls Tryz.prog 79 #[.int .u8 a0] w fun e w' => e = .returned (.bool r) ∧ Drawn0 w w' := by
 have H : (if a0 ≥ 48 then (some (decide (a0 ≤ 57))) else (some false)) = some r := h
 clear h
 by_cases c2 : a0 ≥ 48
 ·rw [if_pos c2] at H
  have c2b0 : decide (48 ≤ a0) = true := decide_eq_true c2
  clear c2
  obtain rfl := Option.some.inj H
  go_enter Tryz.func79, Tryz.ntmps79
  go_wp2
  go_ret
  exact ⟨by first | rfl | (simp; done) | (simp [*]; done), by repeat (first | exact Drawn0.refl _ | apply Drawn0.step)⟩
 ·rw [if_neg c2] at H
  have c2b0 : decide (48 ≤ a0) = false := decide_eq_false c2
  clear c2
  obtain rfl := Option.some.inj H
  go_enter Tryz.func79, Tryz.ntmps79
  go_wp2
  go_ret
  exact ⟨by first | rfl | (simp; done) | (simp [*]; done), by repeat (first | exact Drawn0.refl _ | apply Drawn0.step)⟩
def lex_wordy.f (a0 : Int) : Option (Bool) := (lex_letter.f a0).bind fun t101 => (if t101 = true then (some true) else ((lex_digit.f a0).bind fun t102 => (some t102)))
set_option maxHeartbeats 8000000 in
set_option maxRecDepth 100000 in
theorem lex_wordy.calls (a0 : Int) (r : Bool) (w : World) (h : lex_wordy.f a0 = some r) :
  Calls Tryz.prog 77 #[.int .u8 a0] w fun e w' => e = .returned (.bool r) ∧ Drawn0 w w' := by
 have H : ((lex_letter.f a0).bind fun t101 => (if t101 = true then (some true) else ((lex_digit.f a0).bind fun t102 => (some t102)))) = some r := h
 clear h
 obtain ⟨t101, A20, H⟩ := bind_out H
 have A2 := Aside0.mk A20
 clear A20
 by_cases c3 : t101 = true
 ·subst c3
  rw [if_pos rfl] at H
  obtain rfl := Option.some.inj H
  go_enter Tryz.func77, Tryz.ntmps77
  go_wp2_with (first | ((with_reducible refine gate_callee (f := 75) rfl ?_); refine goesL_ (some 4) rfl rfl Tryz.func75 (by kernel_rfl) rfl #[.int .u8 a0] rfl mp ?_; (with_reducible refine (lex_letter.calls a0 true _ A2.out).mono ?_); rintro e w' ⟨rfl, ⟨nd, rfl⟩⟩; refine ⟨_, rfl, ?_⟩))
  go_ret
  exact ⟨by first | rfl | (simp; done) | (simp [*]; done), by repeat (first | exact Drawn0.refl _ | apply Drawn0.step)⟩
 ·replace c3 := Bool.eq_false_iff.mpr c3
  subst c3
  rw [if_neg (show ¬ (false = true) by decide)] at H
  obtain ⟨t102, A40, H⟩ := bind_out H
  have A4 := Aside0.mk A40
  clear A40
  obtain rfl := Option.some.inj H
  go_enter Tryz.func77, Tryz.ntmps77
  go_wp2_with (first | ((with_reducible refine gate_callee (f := 75) rfl ?_); refine goesL_ (some 4) rfl rfl Tryz.func75 (by kernel_rfl) rfl #[.int .u8 a0] rfl mp ?_; (with_reducible refine (lex_letter.calls a0 false _ A2.out).mono ?_); rintro e w' ⟨rfl, ⟨nd, rfl⟩⟩; refine ⟨_, rfl, ?_⟩) | (go_at_call 79; (with_reducible refine (lex_digit.calls a0 t102 _ A4.out).mono ?_); rintro e w' ⟨rfl, ⟨nd, rfl⟩⟩))
  go_ret
  exact ⟨by first | rfl | (simp; done) | (simp [*]; done), by repeat (first | exact Drawn0.refl _ | apply Drawn0.step)⟩
def lex_run_of_wordy.l0 : Nat → ByteArray → Int → Option (Int)
 | 0, _, _ => none
 | k + 1, x0, x5 => if x5 < (x0.size : Int) then (if 0 ≤ x5 then ((lex_wordy.f (bt x0 x5)).bind fun t103 => (if t103 = true then (lex_run_of_wordy.l0 k x0 (wrap64 (x5 + 1))) else (some x5))) else (none)) else (some x5)
def lex_run_of_wordy.f (k : Nat) (a0 : ByteArray)  : Option (Int) := lex_run_of_wordy.l0 k a0 0
theorem lex_run_of_wordy.mono_l : ∀ k, (∀ y0 y1, LeO (lex_run_of_wordy.l0 k y0 y1) (lex_run_of_wordy.l0 (k + 1) y0 y1))
 | 0 => fun _ _ r h => by simp [lex_run_of_wordy.l0] at h
 | k + 1 => by
  have ih0 := lex_run_of_wordy.mono_l k
  ·intro y0 y1
   unfold lex_run_of_wordy.l0
   repeat' first
   | (with_reducible exact ih0 _ _)
   | (with_reducible exact LeO.refl _)
   | (with_reducible exact LeO.none _)
   | (with_reducible refine LeO.ite ?_ ?_)
   | (with_reducible refine LeO.bind ?_ (fun _ => ?_))
   | exact ih0 _ _
   | exact LeO.none _
   | refine LeO.ite ?_ ?_
   | refine LeO.bind ?_ (fun _ => ?_)
theorem lex_run_of_wordy.mono : ∀ a0 k, LeO (lex_run_of_wordy.f k a0) (lex_run_of_wordy.f (k + 1) a0) := by
 intro a0 k
 have ih0 := lex_run_of_wordy.mono_l k
 unfold lex_run_of_wordy.f
 repeat' first
   | (with_reducible exact ih0 _ _)
   | (with_reducible exact LeO.refl _)
   | (with_reducible exact LeO.none _)
   | (with_reducible refine LeO.ite ?_ ?_)
   | (with_reducible refine LeO.bind ?_ (fun _ => ?_))
   | exact ih0 _ _
   | exact LeO.none _
   | refine LeO.ite ?_ ?_
   | refine LeO.bind ?_ (fun _ => ?_)
set_option maxHeartbeats 8000000 in
set_option maxRecDepth 100000 in
theorem lex_run_of_wordy.calls (k : Nat) (a0 : ByteArray)  (r : Int) (w : World) (h : lex_run_of_wordy.f k a0 = some r) :
  Calls Tryz.prog 76 #[.string a0, .func (.func 77) #[] #[]] w fun e w' => e = .returned (.int .i64 r) ∧ Drawn0 w w' := by
 have H : (lex_run_of_wordy.l0 k a0 0) = some r := h
 clear h
 have H' := Aside0.mk H
 clear H
 go_enter Tryz.func76, Tryz.ntmps76
 go_wp2
 go_loopg [5] k (fun kq v5 w' => ∃ (x5_1 : Int), v5 = .int .i64 x5_1 ∧ Aside0 (lex_run_of_wordy.l0 kq a0 x5_1 = some r) ∧ Aside0 (kq ≤ k) ∧ Drawn0 w w')
 case atStart => exact ⟨(0), rs, H', ⟨Nat.le_refl _⟩, by repeat (first | exact Drawn0.refl _ | apply Drawn0.step)⟩
 case round =>
  clear H'
  obtain ⟨x5_1, rfl, HA, HK1, ⟨m1, rfl⟩⟩ := hrel
  cases gk with
  | zero => exact absurd HA.out (by simp [lex_run_of_wordy.l0])
  | succ k1 =>
   have H := HA.out
   clear HA
   simp only [lex_run_of_wordy.l0] at H
   by_cases c3 : x5_1 < (a0.size : Int)
   ·rw [if_pos c3] at H
    have c3b0 : decide (x5_1 < (a0.size : Int)) = true := decide_eq_true c3
    clear c3
    by_cases c4 : 0 ≤ x5_1
    ·rw [if_pos c4] at H
     have c4b0 : decide (0 ≤ x5_1) = true := decide_eq_true c4
     clear c4
     obtain ⟨t103, A60, H⟩ := bind_out H
     have A6 := Aside0.mk A60
     clear A60
     by_cases c7 : t103 = true
     ·subst c7
      rw [if_pos rfl] at H
      have H' := Aside0.mk H
      clear H
      have p5 : 0 ≤ (x5_1 : Int) := of_decide_eq_true (by assumption)
      have q5 : x5_1 < (a0.size : Int) := of_decide_eq_true (by assumption)
      have hx5 := bt_at a0 x5_1
      replace p5 := eq_true p5
      replace q5 := eq_true q5
      go_wp2_with (first | (go_at_call 77; (with_reducible refine (lex_wordy.calls (bt a0 x5_1) true _ A6.out).mono ?_); rintro e w' ⟨rfl, ⟨nd, rfl⟩⟩))
      go_roundg k1
      case measure => have := HK1.out; omega
      case rel => exact ⟨(wrap64 (x5_1 + 1)), rs, H', ⟨by have := HK1.out; omega⟩, by repeat (first | exact Drawn0.refl _ | apply Drawn0.step)⟩
     ·replace c7 := Bool.eq_false_iff.mpr c7
      subst c7
      rw [if_neg (show ¬ (false = true) by decide)] at H
      obtain rfl := Option.some.inj H
      have p5 : 0 ≤ (x5_1 : Int) := of_decide_eq_true (by assumption)
      have q5 : x5_1 < (a0.size : Int) := of_decide_eq_true (by assumption)
      have hx5 := bt_at a0 x5_1
      replace p5 := eq_true p5
      replace q5 := eq_true q5
      go_wp2_with (first | (go_at_call 77; (with_reducible refine (lex_wordy.calls (bt a0 x5_1) false _ A6.out).mono ?_); rintro e w' ⟨rfl, ⟨nd, rfl⟩⟩))
      go_ret
      exact ⟨by first | rfl | (simp; done) | (simp [*]; done), by repeat (first | exact Drawn0.refl _ | apply Drawn0.step)⟩
    ·rw [if_neg c4] at H
     exact absurd H (by simp)
   ·rw [if_neg c3] at H
    have c3b0 : decide (x5_1 < (a0.size : Int)) = false := decide_eq_false c3
    clear c3
    obtain rfl := Option.some.inj H
    go_wp2
    go_ret
    exact ⟨by first | rfl | (simp; done) | (simp [*]; done), by repeat (first | exact Drawn0.refl _ | apply Drawn0.step)⟩
end Go.Proofs.YtlpnlfahlcingaaGreatDoor.PL
end
section
namespace Go.Proofs.YtlpnlfahlcingaaGreatDoor.PL
open Go.RowKit Go.Proofs.YtlpnlfahlcingaaGreatDoorW.PrintWords Go.Proofs.YtlpnlfahlcingaaGreatDoorW.PrintLast Go.Proofs.YtlpnlfahlcingaaGreatDoorW.PrintMore
attribute [local go_sem] max2_int min2_int max_two min_two max_three min_three max_four min_four
attribute [local go_sem ↓] isSome_setCell
set_option linter.unusedVariables false
set_option linter.unusedSimpArgs false
def lex_run_of_digit.l0 : Nat → ByteArray → Int → Option (Int)
 | 0, _, _ => none
 | k + 1, x0, x5 => if x5 < (x0.size : Int) then (if 0 ≤ x5 then ((lex_digit.f (bt x0 x5)).bind fun t104 => (if t104 = true then (lex_run_of_digit.l0 k x0 (wrap64 (x5 + 1))) else (some x5))) else (none)) else (some x5)
def lex_run_of_digit.f (k : Nat) (a0 : ByteArray)  : Option (Int) := lex_run_of_digit.l0 k a0 0
theorem lex_run_of_digit.mono_l : ∀ k, (∀ y0 y1, LeO (lex_run_of_digit.l0 k y0 y1) (lex_run_of_digit.l0 (k + 1) y0 y1))
 | 0 => fun _ _ r h => by simp [lex_run_of_digit.l0] at h
 | k + 1 => by
  have ih0 := lex_run_of_digit.mono_l k
  ·intro y0 y1
   unfold lex_run_of_digit.l0
   repeat' first
   | (with_reducible exact ih0 _ _)
   | (with_reducible exact LeO.refl _)
   | (with_reducible exact LeO.none _)
   | (with_reducible refine LeO.ite ?_ ?_)
   | (with_reducible refine LeO.bind ?_ (fun _ => ?_))
   | exact ih0 _ _
   | exact LeO.none _
   | refine LeO.ite ?_ ?_
   | refine LeO.bind ?_ (fun _ => ?_)
theorem lex_run_of_digit.mono : ∀ a0 k, LeO (lex_run_of_digit.f k a0) (lex_run_of_digit.f (k + 1) a0) := by
 intro a0 k
 have ih0 := lex_run_of_digit.mono_l k
 unfold lex_run_of_digit.f
 repeat' first
   | (with_reducible exact ih0 _ _)
   | (with_reducible exact LeO.refl _)
   | (with_reducible exact LeO.none _)
   | (with_reducible refine LeO.ite ?_ ?_)
   | (with_reducible refine LeO.bind ?_ (fun _ => ?_))
   | exact ih0 _ _
   | exact LeO.none _
   | refine LeO.ite ?_ ?_
   | refine LeO.bind ?_ (fun _ => ?_)
set_option maxHeartbeats 8000000 in
set_option maxRecDepth 100000 in
theorem lex_run_of_digit.calls (k : Nat) (a0 : ByteArray)  (r : Int) (w : World) (h : lex_run_of_digit.f k a0 = some r) :
  Calls Tryz.prog 76 #[.string a0, .func (.func 79) #[] #[]] w fun e w' => e = .returned (.int .i64 r) ∧ Drawn0 w w' := by
 have H : (lex_run_of_digit.l0 k a0 0) = some r := h
 clear h
 have H' := Aside0.mk H
 clear H
 go_enter Tryz.func76, Tryz.ntmps76
 go_wp2
 go_loopg [5] k (fun kq v5 w' => ∃ (x5_1 : Int), v5 = .int .i64 x5_1 ∧ Aside0 (lex_run_of_digit.l0 kq a0 x5_1 = some r) ∧ Aside0 (kq ≤ k) ∧ Drawn0 w w')
 case atStart => exact ⟨(0), rs, H', ⟨Nat.le_refl _⟩, by repeat (first | exact Drawn0.refl _ | apply Drawn0.step)⟩
 case round =>
  clear H'
  obtain ⟨x5_1, rfl, HA, HK1, ⟨m1, rfl⟩⟩ := hrel
  cases gk with
  | zero => exact absurd HA.out (by simp [lex_run_of_digit.l0])
  | succ k1 =>
   have H := HA.out
   clear HA
   simp only [lex_run_of_digit.l0] at H
   by_cases c3 : x5_1 < (a0.size : Int)
   ·rw [if_pos c3] at H
    have c3b0 : decide (x5_1 < (a0.size : Int)) = true := decide_eq_true c3
    clear c3
    by_cases c4 : 0 ≤ x5_1
    ·rw [if_pos c4] at H
     have c4b0 : decide (0 ≤ x5_1) = true := decide_eq_true c4
     clear c4
     obtain ⟨t104, A60, H⟩ := bind_out H
     have A6 := Aside0.mk A60
     clear A60
     by_cases c7 : t104 = true
     ·subst c7
      rw [if_pos rfl] at H
      have H' := Aside0.mk H
      clear H
      have p5 : 0 ≤ (x5_1 : Int) := of_decide_eq_true (by assumption)
      have q5 : x5_1 < (a0.size : Int) := of_decide_eq_true (by assumption)
      have hx5 := bt_at a0 x5_1
      replace p5 := eq_true p5
      replace q5 := eq_true q5
      go_wp2_with (first | (go_at_call 79; (with_reducible refine (lex_digit.calls (bt a0 x5_1) true _ A6.out).mono ?_); rintro e w' ⟨rfl, ⟨nd, rfl⟩⟩))
      go_roundg k1
      case measure => have := HK1.out; omega
      case rel => exact ⟨(wrap64 (x5_1 + 1)), rs, H', ⟨by have := HK1.out; omega⟩, by repeat (first | exact Drawn0.refl _ | apply Drawn0.step)⟩
     ·replace c7 := Bool.eq_false_iff.mpr c7
      subst c7
      rw [if_neg (show ¬ (false = true) by decide)] at H
      obtain rfl := Option.some.inj H
      have p5 : 0 ≤ (x5_1 : Int) := of_decide_eq_true (by assumption)
      have q5 : x5_1 < (a0.size : Int) := of_decide_eq_true (by assumption)
      have hx5 := bt_at a0 x5_1
      replace p5 := eq_true p5
      replace q5 := eq_true q5
      go_wp2_with (first | (go_at_call 79; (with_reducible refine (lex_digit.calls (bt a0 x5_1) false _ A6.out).mono ?_); rintro e w' ⟨rfl, ⟨nd, rfl⟩⟩))
      go_ret
      exact ⟨by first | rfl | (simp; done) | (simp [*]; done), by repeat (first | exact Drawn0.refl _ | apply Drawn0.step)⟩
    ·rw [if_neg c4] at H
     exact absurd H (by simp)
   ·rw [if_neg c3] at H
    have c3b0 : decide (x5_1 < (a0.size : Int)) = false := decide_eq_false c3
    clear c3
    obtain rfl := Option.some.inj H
    go_wp2
    go_ret
    exact ⟨by first | rfl | (simp; done) | (simp [*]; done), by repeat (first | exact Drawn0.refl _ | apply Drawn0.step)⟩
def upB (c : UInt8) : UInt8 := if 97 ≤ c.toNat ∧ c.toNat ≤ 122 then c - 32 else c
def upI (c : Int) : Int := if 97 ≤ c then (if c ≤ 122 then (c - 32) % 256 else c) else c
structure UpRow (s : ByteArray) (w wr : World) (k : Nat) : Prop where
  below : Below w.heap.size w wr
  cell : ∀ j, j < s.size → wr.cell? ⟨w.heap.size, j, none⟩ = some (.int .u8 (if j < k then upI (bt s j) else bt s j))
  free : ∀ j, j < s.size → wr.frozen? ⟨w.heap.size, j, none⟩ = false
theorem bt_byte (s : ByteArray) (j : Nat) (h : j < s.size) : bt s j = ((s.data.toList.getD j 0).toNat : Int) := by
  have h' : j < s.data.toList.length := by simpa using h
  simp [bt, h, List.getD_eq_getElem?_getD, List.getElem?_eq_getElem h']
  rfl
theorem upRow_start (s : ByteArray) (w : World) : UpRow s w (Lib.bytesWorld w 5 s) 0 := by
  refine ⟨bytes_below (Below.refl _ _) (Nat.le_refl _) _ _, fun j hj => ?_, fun j hj => ?_⟩
  · rw [Lib.bytesWorld_cell w 5 s j hj, if_neg (by omega), bt_byte s j hj]
  · have := Lib.bytesWorld_at_new w 5 s
    simp only [World.frozen?, this]
    have hc : s.size ≤ (Lib.bytesCells w 5 s).size := by simp [Lib.bytesCells]
    simp; omega
theorem upRow_keep {s : ByteArray} {w wr : World} {k : Nat} (h : UpRow s w wr k) (hk : k < s.size) (hu : upI (bt s k) = bt s k) : UpRow s w wr (k + 1) := by
  refine ⟨h.below, fun j hj => ?_, h.free⟩
  rw [h.cell j hj]
  by_cases e : j = k
  · subst e; rw [if_neg (by omega), if_pos (by omega), hu]
  · by_cases l : j < k
    · rw [if_pos l, if_pos (by omega)]
    · rw [if_neg l, if_neg (by omega)]
theorem upRow_put {s : ByteArray} {w wr : World} {k : Nat} (h : UpRow s w wr k) (hk : k < s.size) {x : Int} (hu : upI (bt s k) = x) : UpRow s w (wr.setCell ⟨w.heap.size, k, none⟩ (.int .u8 x)) (k + 1) := by
  refine ⟨h.below.setCell (Nat.le_refl _) _, fun j hj => ?_, fun j hj => (World.frozen?_setCell _ _ _ _).trans (h.free j hj)⟩
  by_cases e : j = k
  · subst e; rw [World.cell?_setCell_same _ _ _ (h.cell j hj), if_pos (by omega), hu]
  · rw [World.cell?_setCell_other _ _ _ _ (fun e' => e (by injection e' with _ e2 _; exact e2.symm)), h.cell j hj]
    by_cases l : j < k
    · rw [if_pos l, if_pos (by omega)]
    · rw [if_neg l, if_neg (by omega)]
theorem upB_list (s : ByteArray) : strOfNums ((List.range s.size).map fun j : Nat => upI (bt s j)) = ⟨s.data.map upB⟩ := by
  have k0 : ∀ n : Nat, n < 256 → UInt8.ofNat (upI (n : Int)).toNat = upB (UInt8.ofNat n) := by decide +kernel
  have key : ∀ c : UInt8, UInt8.ofNat (upI (c.toNat : Int)).toNat = upB c := fun c => by
    have h := k0 c.toNat c.toNat_lt
    rwa [UInt8.ofNat_toNat] at h
  unfold strOfNums
  refine congrArg ByteArray.mk (Array.ext ?_ fun i h1 h2 => ?_)
  · simp only [List.size_toArray, List.length_map, List.length_range, Array.size_map]
    rfl
  · simp only [List.size_toArray, List.length_map, List.length_range] at h1
    simp only [List.getElem_toArray, List.getElem_map, List.getElem_range, Array.getElem_map]
    rw [bt_byte s i h1]
    have h' : i < s.data.toList.length := by simpa using h1
    rw [List.getD_eq_getElem?_getD, List.getElem?_eq_getElem h']
    exact key _
set_option maxHeartbeats 800000 in
set_option maxRecDepth 100000 in
theorem upper_calls (a0 : ByteArray) (w : World) (hs : a0.size ≤ 9223372036854775807) :
    Calls Tryz.prog 78 #[.string a0] w fun e w' => e = .returned (.string ⟨a0.data.map upB⟩) ∧ Below w.heap.size w w' := by
  have hcv := fun (W : World) => Lib.run_convert_string_bytes (P := Tryz.prog) W 9 51 5 a0 Tryz.underlying9 Tryz.underlying51 Tryz.underlying5
  go_enter Tryz.func78, Tryz.ntmps78
  go_wp2
  have hst := upRow_start a0 w
  clear hcv
  go_loopw [4, 5, 10] (fun v4 v5 i wr => ∃ k : Nat, k ≤ a0.size ∧ i = .int .i64 k ∧ UpRow a0 w wr k) (fun _ _ i _ => a0.size - (intOf i).toNat)
  case atStart => exact ⟨0, Nat.zero_le _, rfl, hst⟩
  case round =>
    obtain ⟨k, hk, rfl, hR⟩ := hrel
    clear hst
    by_cases hlt : k < a0.size
    · have hc := hR.cell k hlt
      rw [if_neg (by omega)] at hc
      have hf := hR.free k hlt
      have hr := bt_range a0 k
      obtain ⟨c, hcq⟩ : ∃ c, bt a0 k = c := ⟨_, rfl⟩
      rw [hcq] at hc hr
      have Hq := Lib.hid hcq; clear hcq
      have hd : decide ((k : Int) < (a0.size : Int)) = true := decide_eq_true (by omega)
      have hd2 : decide (k < a0.size) = true := decide_eq_true hlt
      by_cases h1 : 97 ≤ c
      · by_cases h2 : c ≤ 122
        · have hb1 : decide (97 ≤ c) = true := decide_eq_true h1
          have hb2 : decide (c ≤ 122) = true := decide_eq_true h2
          go_wp2
          go_roundw
          case rel => exact ⟨k + 1, by omega, by go_num, upRow_put hR hlt (by rw [Hq.out, upI, if_pos h1, if_pos h2]; omega)⟩
          case measure => simp [intOf]; omega
        · have hb1 : decide (97 ≤ c) = true := decide_eq_true h1
          have hb2 : decide (c ≤ 122) = false := decide_eq_false h2
          go_wp2
          go_roundw
          case rel => exact ⟨k + 1, by omega, by go_num, upRow_keep hR hlt (by rw [Hq.out, upI, if_pos h1, if_neg h2])⟩
          case measure => simp [intOf]; omega
      · have hb1 : decide (97 ≤ c) = false := decide_eq_false h1
        go_wp2
        go_roundw
        case rel => exact ⟨k + 1, by omega, by go_num, upRow_keep hR hlt (by rw [Hq.out, upI, if_neg h1])⟩
        case measure => simp [intOf]; omega
    · have hd : decide ((k : Int) < (a0.size : Int)) = false := decide_eq_false (by omega)
      have hd2 : decide (k < a0.size) = false := decide_eq_false hlt
      have hcb := fun cap => run_convert_bytes_arg (P := Tryz.prog) wr 51 5 Tryz.underlying51 Tryz.underlying5 w.heap.size 0 a0.size cap ((List.range a0.size).map fun j : Nat => upI (bt a0 j)) (by simp) (fun i hi => by rw [Nat.zero_add, hR.cell i hi, if_pos (by omega)]; simp [hi]) 9 Tryz.underlying9
      go_wp2
      go_ret
      exact ⟨by rw [upB_list]; rfl, hR.below⟩
def lex_upper.f (a0 : ByteArray) : Option ByteArray := if a0.size ≤ 9223372036854775807 then some ⟨a0.data.map upB⟩ else none
theorem lex_upper.calls (a0 : ByteArray) (r : ByteArray) (w : World) (h : lex_upper.f a0 = some r) :
    Calls Tryz.prog 78 #[.string a0] w fun e w' => e = .returned (.string r) ∧ Below w.heap.size w w' := by
  unfold lex_upper.f at h
  by_cases c : a0.size ≤ 9223372036854775807
  · rw [if_pos c] at h
    obtain rfl := Option.some.inj h
    exact upper_calls a0 w c
  · rw [if_neg c] at h
    cases h
end Go.Proofs.YtlpnlfahlcingaaGreatDoor.PL
end
section
namespace Go.Proofs.YtlpnlfahlcingaaGreatDoor.PL
open Go.RowKit Go.Proofs.YtlpnlfahlcingaaGreatDoorW.PrintWords Go.Proofs.YtlpnlfahlcingaaGreatDoorW.PrintLast Go.Proofs.YtlpnlfahlcingaaGreatDoorW.PrintMore
attribute [local go_sem] max2_int min2_int max_two min_two max_three min_three max_four min_four
attribute [local go_sem ↓] isSome_setCell
set_option linter.unusedVariables false
set_option linter.unusedSimpArgs false
def strings_Contains.f (a0 a1 : ByteArray) : Option Bool := if a0.size < 4294967281 then some (Lib.contains a0.data.toList a1.data.toList) else none
theorem strings_Contains.calls (a0 a1 : ByteArray) (r : Bool) (w : World) (hsh : Sh w) (h : strings_Contains.f a0 a1 = some r) :
    Calls Tryz.prog 99 #[.string a0, .string a1] w fun e w' => e = .returned (.bool r) ∧ Drawn0 w w' := by
  obtain ⟨⟨m, hm⟩, _⟩ := hsh
  unfold strings_Contains.f at h
  by_cases c : a0.size < 4294967281
  · rw [if_pos c] at h
    obtain rfl := Option.some.inj h
    refine (Tryz.strings_Contains a0 a1 m w c hm).mono ?_
    rintro e w' ⟨rfl, rfl⟩
    exact ⟨rfl, Drawn0.refl _⟩
  · rw [if_neg c] at h
    cases h
def lex_Word.f (k : Nat) (a0 : ByteArray) : Option (Bool) := if a0.toList = ([] : List UInt8) then (some false) else (if (a0.size : Int) > 16 then (some false) else (if 0 < (a0.size : Int) then ((lex_digit.f (bt a0 0)).bind fun t161 => (if t161 = true then (some false) else ((lex_run_of_wordy.f k a0).bind fun t162 => (if t162 < (a0.size : Int) then (some false) else ((lex_upper.f a0).bind fun t163 => (if t163.toList = a0.toList then (if 1 + a0.size ≤ 9223372036854775807 then (if ((⟨#[32]⟩ : ByteArray) ++ a0).size + 1 ≤ 9223372036854775807 then ((strings_Contains.f (⟨#[32, 65, 76, 76, 32, 65, 78, 68, 32, 65, 83, 32, 65, 83, 67, 32, 66, 69, 84, 87, 69, 69, 78, 32, 66, 79, 85, 78, 68, 32, 66, 89, 32, 67, 79, 85, 78, 84, 32, 68, 69, 76, 69, 84, 69, 32, 68, 69, 83, 67, 32, 69, 88, 65, 67, 84, 32, 70, 65, 76, 83, 69, 32, 70, 82, 79, 77, 32, 73, 78, 83, 69, 82, 84, 32, 73, 78, 84, 79, 32, 73, 83, 32, 76, 73, 77, 73, 84, 32, 78, 79, 84, 32, 78, 85, 76, 76, 32, 78, 79, 87, 32, 79, 70, 32, 79, 82, 32, 79, 82, 68, 69, 82, 32, 83, 69, 76, 69, 67, 84, 32, 83, 69, 84, 32, 83, 85, 77, 32, 83, 89, 83, 84, 69, 77, 32, 84, 73, 77, 69, 32, 84, 82, 85, 69, 32, 85, 80, 68, 65, 84, 69, 32, 86, 65, 76, 85, 69, 83, 32, 87, 72, 69, 82, 69, 32]⟩ : ByteArray) (((⟨#[32]⟩ : ByteArray) ++ a0) ++ (⟨#[32]⟩ : ByteArray))).bind fun t164 => (some (!t164))) else (none)) else (none)) else (some false))))))) else (none)))
theorem lex_Word.mono : ∀ a0 k, LeO (lex_Word.f k a0) (lex_Word.f (k + 1) a0) := by
 intro a0 k
 unfold lex_Word.f
 repeat' first
   | (with_reducible exact lex_run_of_wordy.mono _ _)
   | (with_reducible exact LeO.refl _)
   | (with_reducible exact LeO.none _)
   | (with_reducible refine LeO.ite ?_ ?_)
   | (with_reducible refine LeO.bind ?_ (fun _ => ?_))
   | exact lex_run_of_wordy.mono _ _
   | exact LeO.none _
   | refine LeO.ite ?_ ?_
   | refine LeO.bind ?_ (fun _ => ?_)
set_option maxHeartbeats 8000000 in
set_option maxRecDepth 100000 in
theorem lex_Word.calls (k : Nat) (a0 : ByteArray) (r : Bool) (w : World) (hsh : Sh w) (h : lex_Word.f k a0 = some r) :
  Calls Tryz.prog 57 #[.string a0] w fun e w' => e = .returned (.bool r) ∧ Below w.heap.size w w' := by
 have HB := Aside0.mk (Below.refl w.heap.size w)
 have H : (if a0.toList = ([] : List UInt8) then (some false) else (if (a0.size : Int) > 16 then (some false) else (if 0 < (a0.size : Int) then ((lex_digit.f (bt a0 0)).bind fun t161 => (if t161 = true then (some false) else ((lex_run_of_wordy.f k a0).bind fun t162 => (if t162 < (a0.size : Int) then (some false) else ((lex_upper.f a0).bind fun t163 => (if t163.toList = a0.toList then (if 1 + a0.size ≤ 9223372036854775807 then (if ((⟨#[32]⟩ : ByteArray) ++ a0).size + 1 ≤ 9223372036854775807 then ((strings_Contains.f (⟨#[32, 65, 76, 76, 32, 65, 78, 68, 32, 65, 83, 32, 65, 83, 67, 32, 66, 69, 84, 87, 69, 69, 78, 32, 66, 79, 85, 78, 68, 32, 66, 89, 32, 67, 79, 85, 78, 84, 32, 68, 69, 76, 69, 84, 69, 32, 68, 69, 83, 67, 32, 69, 88, 65, 67, 84, 32, 70, 65, 76, 83, 69, 32, 70, 82, 79, 77, 32, 73, 78, 83, 69, 82, 84, 32, 73, 78, 84, 79, 32, 73, 83, 32, 76, 73, 77, 73, 84, 32, 78, 79, 84, 32, 78, 85, 76, 76, 32, 78, 79, 87, 32, 79, 70, 32, 79, 82, 32, 79, 82, 68, 69, 82, 32, 83, 69, 76, 69, 67, 84, 32, 83, 69, 84, 32, 83, 85, 77, 32, 83, 89, 83, 84, 69, 77, 32, 84, 73, 77, 69, 32, 84, 82, 85, 69, 32, 85, 80, 68, 65, 84, 69, 32, 86, 65, 76, 85, 69, 83, 32, 87, 72, 69, 82, 69, 32]⟩ : ByteArray) (((⟨#[32]⟩ : ByteArray) ++ a0) ++ (⟨#[32]⟩ : ByteArray))).bind fun t164 => (some (!t164))) else (none)) else (none)) else (some false))))))) else (none)))) = some r := h
 clear h
 by_cases c2 : a0.toList = ([] : List UInt8)
 ·rw [if_pos c2] at H
  have c2b0 : (a0.toList == ([] : List UInt8)) = true := beq_iff_eq.mpr c2
  have c2b1 : (a0.toList != ([] : List UInt8)) = false := bne_eq_false_iff_eq.mpr c2
  clear c2
  obtain rfl := Option.some.inj H
  go_enter Tryz.func57, Tryz.ntmps57
  go_wp2
  go_ret
  exact ⟨er, bl⟩
 ·rw [if_neg c2] at H
  have c2b0 : (a0.toList == ([] : List UInt8)) = false := beq_eq_false_iff_ne.mpr c2
  have c2b1 : (a0.toList != ([] : List UInt8)) = true := bne_iff_ne.mpr c2
  by_cases c3 : (a0.size : Int) > 16
  ·rw [if_pos c3] at H
   have c3b0 : decide (16 < (a0.size : Int)) = true := decide_eq_true c3
   have c3b1 : decide (16 < a0.size) = true := decide_eq_true (by omega)
   clear c3
   obtain rfl := Option.some.inj H
   go_enter Tryz.func57, Tryz.ntmps57
   go_wp2
   go_ret
   exact ⟨er, bl⟩
  ·rw [if_neg c3] at H
   have c3b0 : decide (16 < (a0.size : Int)) = false := decide_eq_false c3
   have c3b1 : decide (16 < a0.size) = false := decide_eq_false (by omega)
   clear c3
   by_cases c4 : 0 < (a0.size : Int)
   ·rw [if_pos c4] at H
    have c4b0 : decide (0 < (a0.size : Int)) = true := decide_eq_true c4
    have c4b1 : decide (0 < a0.size) = true := decide_eq_true (by omega)
    clear c4
    obtain ⟨t161, A60, H⟩ := bind_out H
    have A6 := Aside0.mk A60
    clear A60
    by_cases c7 : t161 = true
    ·subst c7
     rw [if_pos rfl] at H
     obtain rfl := Option.some.inj H
     have p5 : 0 ≤ (0 : Int) := (by omega)
     have q5 : 0 < a0.size := (by have : (0 : Int) < (a0.size : Int) := of_decide_eq_true (by assumption); omega)
     have hx5 : ∀ h : 0 < a0.size, ((a0[0]'h).toNat : Int) = bt a0 0 := bt_at a0 0
     clear p5
     have qi5 : (0 < (a0.size : Int)) = True := eq_true (of_decide_eq_true (by assumption))
     replace q5 := eq_true q5
     go_enter Tryz.func57, Tryz.ntmps57
     go_wp2_with (first | (go_at_call 79; (with_reducible refine (lex_digit.calls (bt a0 0) true _ A6.out).mono ?_); rintro e w' ⟨rfl, ⟨nd, rfl⟩⟩))
     go_ret
     exact ⟨er, bl⟩
    ·replace c7 := Bool.eq_false_iff.mpr c7
     subst c7
     rw [if_neg (show ¬ (false = true) by decide)] at H
     obtain ⟨t162, A80, H⟩ := bind_out H
     have A8 := Aside0.mk A80
     clear A80
     by_cases c9 : t162 < (a0.size : Int)
     ·rw [if_pos c9] at H
      have c9b0 : decide (t162 < (a0.size : Int)) = true := decide_eq_true c9
      clear c9
      obtain rfl := Option.some.inj H
      have p5 : 0 ≤ (0 : Int) := (by omega)
      have q5 : 0 < a0.size := (by have : (0 : Int) < (a0.size : Int) := of_decide_eq_true (by assumption); omega)
      have hx5 : ∀ h : 0 < a0.size, ((a0[0]'h).toNat : Int) = bt a0 0 := bt_at a0 0
      clear p5
      have qi5 : (0 < (a0.size : Int)) = True := eq_true (of_decide_eq_true (by assumption))
      replace q5 := eq_true q5
      go_enter Tryz.func57, Tryz.ntmps57
      go_wp2_with (first | (go_at_call 79; (with_reducible refine (lex_digit.calls (bt a0 0) false _ A6.out).mono ?_); rintro e w' ⟨rfl, ⟨nd, rfl⟩⟩) | (go_at_call 76; (with_reducible refine (lex_run_of_wordy.calls k a0 t162 _ A8.out).mono ?_); rintro e w' ⟨rfl, ⟨nd, rfl⟩⟩))
      go_ret
      exact ⟨er, bl⟩
     ·rw [if_neg c9] at H
      have c9b0 : decide (t162 < (a0.size : Int)) = false := decide_eq_false c9
      clear c9
      obtain ⟨t163, A100, H⟩ := bind_out H
      have A10 := Aside0.mk A100
      clear A100
      by_cases c11 : t163.toList = a0.toList
      ·rw [if_pos c11] at H
       have c11b0 : (t163.toList == a0.toList) = true := beq_iff_eq.mpr c11
       have c11b1 : (t163.toList != a0.toList) = false := bne_eq_false_iff_eq.mpr c11
       clear c11
       by_cases c12 : 1 + a0.size ≤ 9223372036854775807
       ·rw [if_pos c12] at H
        have c12b0 := eq_true c12
        have c12b1 : decide (1 + a0.size ≤ 9223372036854775807) = true := decide_eq_true c12
        try have c12b2 : (9223372036854775807 < 1 + a0.size) = False := eq_false (Nat.not_lt.2 c12)
        by_cases c13 : ((⟨#[32]⟩ : ByteArray) ++ a0).size + 1 ≤ 9223372036854775807
        ·rw [if_pos c13] at H
         have c13b0 := eq_true c13
         have c13b1 : decide (((⟨#[32]⟩ : ByteArray) ++ a0).size + 1 ≤ 9223372036854775807) = true := decide_eq_true c13
         try have c13b2 : (9223372036854775807 < ((⟨#[32]⟩ : ByteArray) ++ a0).size + 1) = False := eq_false (Nat.not_lt.2 c13)
         obtain ⟨t164, A140, H⟩ := bind_out H
         have c13c : 1 + a0.size + 1 ≤ 9223372036854775807 := by have h_ := c13; rw [ByteArray.size_append] at h_; exact h_
         have c13d := eq_true c13c
         have c13e : decide (1 + a0.size + 1 ≤ 9223372036854775807) = true := decide_eq_true c13c
         have c13f : (9223372036854775807 < 1 + a0.size + 1) = False := eq_false (by omega)
         have A14 := Aside0.mk A140
         clear A140
         obtain rfl := Option.some.inj H
         have p5 : 0 ≤ (0 : Int) := (by omega)
         have q5 : 0 < a0.size := (by have : (0 : Int) < (a0.size : Int) := of_decide_eq_true (by assumption); omega)
         have hx5 : ∀ h : 0 < a0.size, ((a0[0]'h).toNat : Int) = bt a0 0 := bt_at a0 0
         clear p5
         have qi5 : (0 < (a0.size : Int)) = True := eq_true (of_decide_eq_true (by assumption))
         replace q5 := eq_true q5
         go_enter Tryz.func57, Tryz.ntmps57
         go_wp2_with (first | (go_at_call 79; (with_reducible refine (lex_digit.calls (bt a0 0) false _ A6.out).mono ?_); rintro e w' ⟨rfl, ⟨nd, rfl⟩⟩) | (go_at_call 76; (with_reducible refine (lex_run_of_wordy.calls k a0 t162 _ A8.out).mono ?_); rintro e w' ⟨rfl, ⟨nd, rfl⟩⟩) | (go_at_call 78; (with_reducible refine (lex_upper.calls a0 t163 _ A10.out).mono ?_); rintro e w15 ⟨rfl, hb⟩; replace HB := Aside0.mk (below_step bl hb); (try clear hb)) | ((with_reducible refine gate_callee (f := 99) rfl ?_); refine goesL_ (some 31) rfl rfl Tryz.func99 (by kernel_rfl) rfl #[.string (⟨#[32, 65, 76, 76, 32, 65, 78, 68, 32, 65, 83, 32, 65, 83, 67, 32, 66, 69, 84, 87, 69, 69, 78, 32, 66, 79, 85, 78, 68, 32, 66, 89, 32, 67, 79, 85, 78, 84, 32, 68, 69, 76, 69, 84, 69, 32, 68, 69, 83, 67, 32, 69, 88, 65, 67, 84, 32, 70, 65, 76, 83, 69, 32, 70, 82, 79, 77, 32, 73, 78, 83, 69, 82, 84, 32, 73, 78, 84, 79, 32, 73, 83, 32, 76, 73, 77, 73, 84, 32, 78, 79, 84, 32, 78, 85, 76, 76, 32, 78, 79, 87, 32, 79, 70, 32, 79, 82, 32, 79, 82, 68, 69, 82, 32, 83, 69, 76, 69, 67, 84, 32, 83, 69, 84, 32, 83, 85, 77, 32, 83, 89, 83, 84, 69, 77, 32, 84, 73, 77, 69, 32, 84, 82, 85, 69, 32, 85, 80, 68, 65, 84, 69, 32, 86, 65, 76, 85, 69, 83, 32, 87, 72, 69, 82, 69, 32]⟩ : ByteArray), .string (((⟨#[32]⟩ : ByteArray) ++ a0) ++ (⟨#[32]⟩ : ByteArray))] rfl mp ?_; (with_reducible refine (strings_Contains.calls (⟨#[32, 65, 76, 76, 32, 65, 78, 68, 32, 65, 83, 32, 65, 83, 67, 32, 66, 69, 84, 87, 69, 69, 78, 32, 66, 79, 85, 78, 68, 32, 66, 89, 32, 67, 79, 85, 78, 84, 32, 68, 69, 76, 69, 84, 69, 32, 68, 69, 83, 67, 32, 69, 88, 65, 67, 84, 32, 70, 65, 76, 83, 69, 32, 70, 82, 79, 77, 32, 73, 78, 83, 69, 82, 84, 32, 73, 78, 84, 79, 32, 73, 83, 32, 76, 73, 77, 73, 84, 32, 78, 79, 84, 32, 78, 85, 76, 76, 32, 78, 79, 87, 32, 79, 70, 32, 79, 82, 32, 79, 82, 68, 69, 82, 32, 83, 69, 76, 69, 67, 84, 32, 83, 69, 84, 32, 83, 85, 77, 32, 83, 89, 83, 84, 69, 77, 32, 84, 73, 77, 69, 32, 84, 82, 85, 69, 32, 85, 80, 68, 65, 84, 69, 32, 86, 65, 76, 85, 69, 83, 32, 87, 72, 69, 82, 69, 32]⟩ : ByteArray) (((⟨#[32]⟩ : ByteArray) ++ a0) ++ (⟨#[32]⟩ : ByteArray)) t164 _ ?side1 A14.out).mono ?_); (case side1 => exact Sh.below hsh bl); rintro e w' ⟨rfl, ⟨nd, rfl⟩⟩; refine ⟨_, rfl, ?_⟩))
         go_ret
         exact ⟨er, bl⟩
        ·rw [if_neg c13] at H
         exact absurd H (by simp)
       ·rw [if_neg c12] at H
        exact absurd H (by simp)
      ·rw [if_neg c11] at H
       have c11b0 : (t163.toList == a0.toList) = false := beq_eq_false_iff_ne.mpr c11
       have c11b1 : (t163.toList != a0.toList) = true := bne_iff_ne.mpr c11
       obtain rfl := Option.some.inj H
       have p5 : 0 ≤ (0 : Int) := (by omega)
       have q5 : 0 < a0.size := (by have : (0 : Int) < (a0.size : Int) := of_decide_eq_true (by assumption); omega)
       have hx5 : ∀ h : 0 < a0.size, ((a0[0]'h).toNat : Int) = bt a0 0 := bt_at a0 0
       clear p5
       have qi5 : (0 < (a0.size : Int)) = True := eq_true (of_decide_eq_true (by assumption))
       replace q5 := eq_true q5
       go_enter Tryz.func57, Tryz.ntmps57
       go_wp2_with (first | (go_at_call 79; (with_reducible refine (lex_digit.calls (bt a0 0) false _ A6.out).mono ?_); rintro e w' ⟨rfl, ⟨nd, rfl⟩⟩) | (go_at_call 76; (with_reducible refine (lex_run_of_wordy.calls k a0 t162 _ A8.out).mono ?_); rintro e w' ⟨rfl, ⟨nd, rfl⟩⟩) | (go_at_call 78; (with_reducible refine (lex_upper.calls a0 t163 _ A10.out).mono ?_); rintro e w16 ⟨rfl, hb⟩; replace HB := Aside0.mk (below_step bl hb); (try clear hb)))
       go_ret
       exact ⟨er, bl⟩
   ·rw [if_neg c4] at H
    exact absurd H (by simp)
end Go.Proofs.YtlpnlfahlcingaaGreatDoor.PL
end
section
namespace Go.Proofs.YtlpnlfahlcingaaGreatDoor.PL
open Go.RowKit Go.Proofs.YtlpnlfahlcingaaGreatDoorW.PrintWords Go.Proofs.YtlpnlfahlcingaaGreatDoorW.PrintLast Go.Proofs.YtlpnlfahlcingaaGreatDoorW.PrintMore
set_option linter.unusedVariables false
set_option linter.unusedSimpArgs false
attribute [local go_sem ↓] isSome_setCell
def TE (T : List Tok) : Prop := ∀ k, k < T.length → (tokAt T k).f0 = 1 ∨ (tokAt T k).f0 = 2 ∨ (tokAt T k).f0 = 3 ∨ (tokAt T k).f0 = 4 → k + 1 < T.length
theorem isB_kind {t : Tok} {s : ByteArray} (h : isB t s = true) : t.f0 = 1 ∨ t.f0 = 4 := by
  unfold isB at h
  simp at h
  exact h.1
def PostV {α : Type} (val : α → Value) (w : World) (gp gt : Nat) (T : List Tok) (C : Nat) (o : Int) (r : Rd α) (e : Ending) (w' : World) : Prop :=
  match r with
  | .ok a k => e = .returned (val a) ∧ PS w' gp gt T C k o ∧ Stay gp w w'
  | .bad p x => e = .panicked [{ v := failV p x, recovered := false }] ∧ Stay gp w w'
abbrev PostU := PostV (fun _ : Unit => Value.tuple #[])
theorem results_0 {P : Program} {fn : Func} (h : fn.results = #[]) (tmps : Array Value) (w : World) : (results fn tmps).run P w = .ok (.tuple #[]) w := by
  simp [results, h]
def StrsAt (w : World) (g : Nat) (L : List ByteArray) : Prop := ∀ i s, L[i]? = some s → w.cell? ⟨g, i, none⟩ = some (.string s)
theorem StrsAt.stay {w w' : World} {g gp : Nat} {L : List ByteArray} (h : StrsAt w g L) (hs : Stay gp w w') (hg : g ≠ gp) (hl : g < w.heap.size) : StrsAt w' g L := by
  intro i s hi
  have := h i s hi
  unfold World.cell? at this ⊢
  simpa [hs.block g hl hg] using this
def mustR (T : List Tok) : List ByteArray → Nat → Rd Unit
  | [], k => .ok () k
  | s :: r, k => if isB (tokAt T k) s = true then mustR T r (k + 1) else .bad (tokAt T k).f1 13
set_option maxHeartbeats 8000000 in
set_option maxRecDepth 100000 in
theorem must_calls {w : World} {gp gt : Nat} {T : List Tok} {C k : Nat} {o : Int} (hT : TE T) (h : PS w gp gt T C k o) (L : List ByteArray) (g : Nat) (hL : StrsAt w g L) (hg : g ≠ gp) (hgl : g < w.heap.size) (hn : L.length ≤ 1000) :
    Calls Tryz.prog 40 #[.pointer (some ⟨gp, 0, none⟩), .slice (some ⟨g, 0, none⟩) L.length L.length] w (PostU w gp gt T C o (mustR T L k)) := by
  obtain ⟨r, hr⟩ : ∃ r, mustR T L k = r := ⟨_, rfl⟩
  rw [hr]
  have H := Aside0.mk (And.intro hT (And.intro h (And.intro hL (And.intro hg hgl))))
  have HR := Aside0.mk hr
  clear hT h hL hg hgl hr
  go_enter Tryz.func40, Tryz.ntmps40
  go_wp2
  go_loopw [8] (fun i wr => ∃ j kk : Nat, i = .int .i64 j ∧ j ≤ L.length ∧ Aside0 (PS wr gp gt T C kk o ∧ Stay gp w wr ∧ mustR T (L.drop j) kk = r)) (fun i _ => L.length - (intOf i).toNat)
  case atStart => exact ⟨0, k, rfl, Nat.zero_le _, ⟨H.out.2.1, Stay.refl _ _, HR.out⟩⟩
  case round =>
  obtain ⟨j, kk, rfl, hj, HJ⟩ := hrel
  have Hm := HJ.out.2.2
  by_cases hlt : j < L.length
  · have hd : decide ((j : Int) < (L.length : Int)) = true := decide_eq_true (by omega)
    have hd2 : decide (j < L.length) = true := decide_eq_true hlt
    have hcell := (H.out.2.2.1.stay HJ.out.2.1 H.out.2.2.2.1 H.out.2.2.2.2) j _ (List.getElem?_eq_getElem hlt)
    rw [List.drop_eq_getElem_cons hlt] at Hm
    obtain ⟨s, hs⟩ : ∃ s, L[j] = s := ⟨_, rfl⟩
    rw [hs] at hcell Hm
    clear hs
    unfold mustR at Hm
    cases hb : isB (tokAt T kk) s with
    | true =>
      rw [if_pos hb] at Hm
      have HM := Aside0.mk Hm
      have HB := Aside0.mk hb
      clear Hm hb
      go_wp2_with (go_at_call 37; refine (take_yes HJ.out.1 s HB.out (H.out.1 _ HJ.out.1.at_ (by have := isB_kind HB.out; omega))).mono ?_; rintro e w' ⟨rfl, hps, hst⟩; have HJ2 := Aside0.mk (And.intro hps hst); clear hps hst)
      go_roundw
      case rel => exact ⟨j + 1, kk + 1, by go_num, by omega, ⟨HJ2.out.1, HJ.out.2.1.trans HJ2.out.2, HM.out⟩⟩
      case measure => simp [intOf]; omega
    | false =>
      rw [if_neg (by simp [hb])] at Hm
      subst Hm
      have HB := Aside0.mk hb
      clear hb
      go_wp2_with (first | (go_at_call 37; refine (take_no HJ.out.1 s HB.out).mono ?_; rintro e w' ⟨rfl, rfl⟩) | (go_at_call 39; refine (wrong_calls HJ.out.1 13).mono ?_; rintro e w' ⟨rfl, rfl⟩))
      exact ⟨rfl, rfl, HJ.out.2.1⟩
  · have hd : decide ((j : Int) < (L.length : Int)) = false := decide_eq_false (by omega)
    have hd2 : decide (j < L.length) = false := decide_eq_false hlt
    rw [List.drop_eq_nil_of_le (by omega)] at Hm
    unfold mustR at Hm
    subst Hm
    go_wp2
    exact bodyPost_ret (results_0 rfl _ _) rfl ⟨rfl, HJ.out.1, HJ.out.2.1⟩
def wordB (s : ByteArray) : Bool := (lex_Word.f 20 s).getD false
def TW (T : List Tok) : Prop := ∀ k, k < T.length → ∃ b, lex_Word.f 20 (tokAt T k).f2 = some b
def namedB (t : Tok) : Bool := t.f0 == 1 && wordB t.f2
set_option maxHeartbeats 4000000 in
set_option maxRecDepth 100000 in
theorem named_calls {w : World} {gp gt : Nat} {T : List Tok} {C k : Nat} {o : Int} (hT : TW T) (h : PS w gp gt T C k o) :
    Calls Tryz.prog 88 #[.pointer (some ⟨gp, 0, none⟩)] w fun e w' => e = .returned (.bool (namedB (tokAt T k))) ∧ Below w.heap.size w w' := by
  obtain ⟨b, hb⟩ := hT k h.at_
  have hw : wordB (tokAt T k).f2 = b := by simp [wordB, hb]
  unfold namedB
  rw [hw]
  have HB := Aside0.mk (And.intro hb h.sh)
  clear hb hw
  obtain ⟨t, ht, t0, t1, t2, t3⟩ := h.tok
  rw [tokAt_of ht] at HB ⊢
  have c0 := h.c0
  have hl : 0 < T.length - k := by have := h.at_; omega
  clear ht h hT
  by_cases c1 : t.f0 = 1
  · have c1b : (t.f0 == 1) = true := by simpa using c1
    clear c1
    go_enter Tryz.func88, Tryz.ntmps88
    go_wp2_with (go_at_call 57; refine (lex_Word.calls 20 _ _ _ HB.out.2 HB.out.1).mono ?_; rintro e w' ⟨rfl, hb2⟩; have HB2 := Aside0.mk hb2; clear hb2)
    go_ret
    exact ⟨by simp [c1b], HB2.out⟩
  · have c1b : (t.f0 == 1) = false := by simpa using c1
    clear c1
    go_enter Tryz.func88, Tryz.ntmps88
    go_wp2
    go_ret
    exact ⟨by simp [c1b], Below.refl _ _⟩
def nameR (T : List Tok) (k : Nat) : Rd ByteArray := if namedB (tokAt T k) = true then .ok (tokAt T k).f2 (k + 1) else .bad (tokAt T k).f1 13
def intR (T : List Tok) (k : Nat) : Rd Int := if (tokAt T k).f0 = 2 then .ok (tokAt T k).f3 (k + 1) else .bad (tokAt T k).f1 13
set_option maxHeartbeats 4000000 in
set_option maxRecDepth 100000 in
theorem int_calls {w : World} {gp gt : Nat} {T : List Tok} {C k : Nat} {o : Int} (hT : TE T) (h : PS w gp gt T C k o) :
    Calls Tryz.prog 41 #[.pointer (some ⟨gp, 0, none⟩)] w (PostV (Value.int .i64) w gp gt T C o (intR T k)) := by
  have HT := Aside0.mk (And.intro (hT k h.at_) h)
  obtain ⟨t, ht, t0, t1, t2, t3⟩ := h.tok
  unfold intR
  rw [tokAt_of ht] at HT ⊢
  have Ht := Aside0.mk (tokAt_of ht)
  have c0 := h.c0
  have f0 := h.f0
  have hl : 1 ≤ T.length - k := by have := h.at_; omega
  have hne : ¬ C - k = 1 ∨ C - k = 1 := by omega
  clear ht h hT
  by_cases c1 : t.f0 = 2
  · have c1b : (t.f0 == 2) = true := by simpa using c1
    rw [if_pos c1]
    have hne : ¬ C - k = 1 := by have := HT.out.2.len; have := HT.out.1 (by omega); omega
    have HK := Aside0.mk (HT.out.1 (by omega))
    clear c1
    go_enter Tryz.func41, Tryz.ntmps41
    go_wp2
    go_ret
    exact ⟨rfl, HT.out.2.put0 HK.out, (Stay.refl _ _).set 0 _⟩
  · have c1b : (t.f0 == 2) = false := by simpa using c1
    rw [if_neg c1]
    clear c1 hne
    go_enter Tryz.func41, Tryz.ntmps41
    go_wp2_with (go_at_call 39; refine (wrong_calls HT.out.2 13).mono ?_; rintro e w' ⟨rfl, rfl⟩)
    exact ⟨rfl, by rw [Ht.out], Stay.refl _ _⟩
set_option maxHeartbeats 4000000 in
set_option maxRecDepth 100000 in
theorem name_calls {w : World} {gp gt : Nat} {T : List Tok} {C k : Nat} {o : Int} (hE : TE T) (hT : TW T) (h : PS w gp gt T C k o) :
    Calls Tryz.prog 84 #[.pointer (some ⟨gp, 0, none⟩)] w (PostV Value.string w gp gt T C o (nameR T k)) := by
  have hk := hE k h.at_
  have H := Aside0.mk (And.intro hT h)
  unfold nameR
  clear hE hT h
  cases hb : namedB (tokAt T k) with
  | true =>
    rw [if_pos rfl]
    have hb1 : (tokAt T k).f0 = 1 := by unfold namedB at hb; simp at hb; exact hb.1
    have HK := Aside0.mk (hk (.inl hb1))
    have HB := Aside0.mk hb
    clear hk hb1 hb
    go_enter Tryz.func84, Tryz.ntmps84
    go_upto_region 3 with (go_at_call 88; refine (named_calls H.out.1 H.out.2).mono ?_; rw [HB.out]; rintro e w1 ⟨rfl, hb⟩; have H1 := Aside0.mk (And.intro hb (H.out.2.step hb)); clear hb)
    obtain ⟨t, ht, t0, t1, t2, t3⟩ := H1.out.2.tok
    have Ht := Aside0.mk (tokAt_of ht)
    have c0 := H1.out.2.c0
    have f0 := H1.out.2.f0
    have hl : 1 ≤ T.length - k := by have := H1.out.2.at_; omega
    have hne : ¬ C - k = 1 := by have := H1.out.2.len; have := HK.out; omega
    clear ht
    go_wp2
    go_ret
    exact ⟨by rw [Ht.out]; rfl, H1.out.2.put0 HK.out, (Below.stay H1.out.1 gp).set 0 _⟩
  | false =>
    rw [if_neg (by simp)]
    have HB := Aside0.mk hb
    clear hk hb
    go_enter Tryz.func84, Tryz.ntmps84
    go_wp2_with (first | (go_at_call 88; refine (named_calls H.out.1 H.out.2).mono ?_; rw [HB.out]; rintro e w1 ⟨rfl, hb⟩; have H1 := Aside0.mk (And.intro hb (H.out.2.step hb)); clear hb) | (go_at_call 39; refine (wrong_calls H1.out.2 13).mono ?_; rintro e w' ⟨rfl, rfl⟩))
    exact ⟨rfl, rfl, Below.stay H1.out.1 gp⟩
def beginsB (T : List Tok) (k : Nat) (L : List ByteArray) : Bool := L.any (isB (tokAt T k))
theorem func86_is : Tryz.prog.funcs[86]? = some Tryz.f86 := Tryz.func86
set_option maxHeartbeats 8000000 in
set_option maxRecDepth 100000 in
theorem index_calls {w : World} {gp gt : Nat} {T : List Tok} {C k : Nat} {o : Int} (h : PS w gp gt T C k o) (L : List ByteArray) (g : Nat) (hL : StrsAt w g L) (hn : L.length ≤ 1000) :
    Calls Tryz.prog 114 #[.slice (some ⟨g, 0, none⟩) L.length L.length, .func (.func 86) #[.pointer (some ⟨gp, 0, none⟩)] #[]] w fun e w' => (∃ i : Int, e = .returned (.int .i64 i) ∧ decide (0 ≤ i) = beginsB T k L) ∧ w' = w := by
  have H := Aside0.mk (And.intro h hL)
  have hcf := fun (s : ByteArray) (W : World) => enters_ (P := Tryz.prog) (f := 86) func86_is (by decide) (by decide) #[.pointer (some ⟨gp, 0, none⟩), .string s] W
  obtain ⟨r, hr⟩ : ∃ r, beginsB T k L = r := ⟨_, rfl⟩
  rw [hr]
  have HR := Aside0.mk hr
  clear h hL hr
  go_enter Tryz.func114, Tryz.ntmps114
  go_wp2
  go_loop [8] (fun i => ∃ j : Nat, i = .int .i64 j ∧ j ≤ L.length ∧ Aside0 ((L.drop j).any (isB (tokAt T k)) = r)) (fun i => L.length - (intOf i).toNat)
  case atStart => exact ⟨0, rfl, Nat.zero_le _, ⟨HR.out⟩⟩
  case round =>
  obtain ⟨j, rfl, hj, HJ⟩ := hrel
  have Hm := HJ.out
  by_cases hlt : j < L.length
  · have hd : decide ((j : Int) < (L.length : Int)) = true := decide_eq_true (by omega)
    have hd2 : decide (j < L.length) = true := decide_eq_true hlt
    have hcell := H.out.2 j _ (List.getElem?_eq_getElem hlt)
    rw [List.drop_eq_getElem_cons hlt] at Hm
    obtain ⟨s, hs⟩ : ∃ s, L[j] = s := ⟨_, rfl⟩
    rw [hs] at hcell Hm
    clear hs
    rw [List.any_cons] at Hm
    cases hb : isB (tokAt T k) s with
    | true =>
      rw [hb] at Hm
      have HB := Aside0.mk hb
      clear hb
      go_wp2_with (refine (is_calls H.out.1 s).mono ?_; rw [HB.out]; rintro e w' ⟨rfl, rfl⟩)
      go_ret
      exact ⟨⟨_, rfl, by rw [← Hm]; simp⟩, rfl⟩
    | false =>
      rw [hb] at Hm
      have HM := Aside0.mk Hm
      have HB := Aside0.mk hb
      clear hb Hm
      go_wp2_with (refine (is_calls H.out.1 s).mono ?_; rw [HB.out]; rintro e w' ⟨rfl, rfl⟩)
      go_round
      case rel => exact ⟨j + 1, by go_num, by omega, ⟨by simpa using HM.out⟩⟩
      case measure => simp [intOf]; omega
  · have hd : decide ((j : Int) < (L.length : Int)) = false := decide_eq_false (by omega)
    have hd2 : decide (j < L.length) = false := decide_eq_false hlt
    rw [List.drop_eq_nil_of_le (by omega)] at Hm
    subst Hm
    go_wp2
    go_ret
    exact ⟨⟨_, rfl, by simp⟩, rfl⟩
set_option maxHeartbeats 8000000 in
set_option maxRecDepth 100000 in
theorem contains_calls {w : World} {gp gt : Nat} {T : List Tok} {C k : Nat} {o : Int} (h : PS w gp gt T C k o) (L : List ByteArray) (g : Nat) (hL : StrsAt w g L) (hn : L.length ≤ 1000) :
    Calls Tryz.prog 90 #[.slice (some ⟨g, 0, none⟩) L.length L.length, .func (.func 86) #[.pointer (some ⟨gp, 0, none⟩)] #[]] w fun e w' => e = .returned (.bool (beginsB T k L)) ∧ w' = w := by
  have H := Aside0.mk (And.intro h (And.intro hL hn))
  clear h hL hn
  go_enter Tryz.func90, Tryz.ntmps90
  go_wp2_with (go_at_call 114; refine (index_calls H.out.1 L g H.out.2.1 H.out.2.2).mono ?_; rintro e w' ⟨⟨i, rfl, hi⟩, rfl⟩)
  go_ret
  exact ⟨by rw [← hi]; rfl, rfl⟩
set_option maxHeartbeats 8000000 in
set_option maxRecDepth 100000 in
theorem begins_calls {w : World} {gp gt : Nat} {T : List Tok} {C k : Nat} {o : Int} (h : PS w gp gt T C k o) (L : List ByteArray) (g : Nat) (hL : StrsAt w g L) (hn : L.length ≤ 1000) :
    Calls Tryz.prog 38 #[.pointer (some ⟨gp, 0, none⟩), .slice (some ⟨g, 0, none⟩) L.length L.length] w fun e w' => e = .returned (.bool (beginsB T k L)) ∧ w' = w := by
  have H := Aside0.mk (And.intro h (And.intro hL hn))
  clear h hL hn
  go_enter Tryz.func38, Tryz.ntmps38
  go_wp2_with (go_at_call 90; refine (contains_calls H.out.1 L g H.out.2.1 H.out.2.2).mono ?_; rintro e w' ⟨rfl, rfl⟩)
  go_ret
  exact ⟨rfl, rfl⟩
end Go.Proofs.YtlpnlfahlcingaaGreatDoor.PL
end
section
namespace Go.Proofs.YtlpnlfahlcingaaGreatDoor.PL
open Go.RowKit Go.Proofs.YtlpnlfahlcingaaGreatDoorW.PrintWords Go.Proofs.YtlpnlfahlcingaaGreatDoorW.PrintLast Go.Proofs.YtlpnlfahlcingaaGreatDoorW.PrintMore
set_option linter.unusedVariables false
set_option linter.unusedSimpArgs false
attribute [local go_sem] max2_int min2_int max_two min_two max_three min_three max_four min_four
attribute [local go_sem ↓] isSome_setCell
def ec (p : Value × S155) : List Value := [.int .i64 p.2.f0.f0, .string p.2.f0.f1, .int .i64 p.2.f0.f2.f0, .int .i64 p.2.f0.f2.f1, .string p.2.f0.f2.f2, p.1]
theorem flat_get {α β : Type} (f : α → List β) (m : Nat) (hf : ∀ x, (f x).length = m) : ∀ (l : List α) (j : Nat) (x : α), l[j]? = some x → ∀ i, i < m → (l.flatMap f)[j * m + i]? = (f x)[i]?
  | [], j, x, h, i, hi => by simp at h
  | a :: r, 0, x, h, i, hi => by
    simp at h
    subst h
    rw [List.flatMap_cons, Nat.zero_mul, Nat.zero_add, List.getElem?_append_left (by rw [hf]; exact hi)]
  | a :: r, j + 1, x, h, i, hi => by
    rw [List.flatMap_cons, List.getElem?_append_right (by rw [hf, Nat.add_mul]; omega)]
    rw [show (j + 1) * m + i - (f a).length = j * m + i by rw [hf, Nat.add_mul]; omega]
    exact flat_get f m hf r j x (by simpa using h) i hi
theorem EA.row {w w' : World} {b0 : Nat → Prop} {v : Value} {l : List (Value × S155)} (hl : l.length ≤ 1000) (h0 : ∀ p, p ∈ l → EA w b0 p.1 p.2.f0.f3) (hb : ∀ k, w.heap.size ≤ k → b0 k) (hw : Below w.heap.size w w')
    (ho : w'.ownsRow w.heap.size 34 6 v l.length (l.flatMap ec)) : EA w' b0 v (l.map (·.2.f0)) := by
  rcases ho.2 with ⟨rfl, hn⟩ | ⟨g, cap, cur, rfl, hg, hbk, hn, hm, hsz, htk⟩
  · have : l = [] := List.eq_nil_of_length_eq_zero hn
    subst this
    exact ⟨none, 0, rfl, Nat.le_refl _, fun W2 _ => Kd.C_nil k34 W2⟩
  · refine ⟨some ⟨g, 0, none⟩, cap, by simp, by simpa using hn, fun W2 h2 => ⟨by simp, by simp; omega, fun _ => ⟨_, rfl, fun j x hx => ?_⟩⟩⟩
    have hgl := blk_lt hbk
    rw [List.getElem?_map] at hx
    obtain ⟨p, hp, rfl⟩ := Option.map_eq_some_iff.1 hx
    obtain ⟨A, c, hv, hc, hC⟩ := h0 p (List.mem_of_getElem? hp)
    refine ⟨ec p, rfl, ?_, fun i u hu => ?_⟩
    · unfold ec
      rw [hv]
      exact k34_mk W2 p.2.f0 hc (hC W2 fun k h3 h4 => (h2 k h3 (Nat.lt_of_lt_of_le h4 hw.size)).trans (hw.block k h4))
    · have hi : i < 6 := by have := (List.getElem?_eq_some_iff.1 hu).1; simpa [ec] using this
      have hf := flat_get ec 6 (fun _ => rfl) l j p hp i hi
      rw [hu, ← htk] at hf
      have hjl := (List.getElem?_eq_some_iff.1 hp).1
      rw [List.getElem?_take_of_lt (by omega)] at hf
      have hbk2 : W2.heap[g]? = some (.cells cur 34 (0, 0)) := (h2 g (hb g hg) hgl).trans hbk
      have e : ((⟨g, 0, none⟩ : Addr).add (j * 6 + i)) = ⟨g, j * 6 + i, none⟩ := by unfold Addr.add; split <;> simp_all
      show W2.cell? ((⟨g, 0, none⟩ : Addr).add (j * 6 + i)) = some u
      rw [e, blk_cell hbk2]
      simpa using hf
def deepest (l : List (Value × S155)) : Int := l.foldl (fun m p => max m p.2.f1) 0
def opR (p : Int) (s : ByteArray) (ds : List S155) (k : Nat) : Rd S155 :=
  let n := ds.foldl (fun m d => max m d.f1) 0 + 1
  if n > 16 then .bad p 3 else .ok ⟨⟨3, s, ⟨0, 0, ⟨#[]⟩⟩, ds.map (·.f0)⟩, n⟩ k
theorem size_alloc1 (w : World) (o : Obj) : (w.alloc o).heap.size = w.heap.size + 1 := by first | simp | rfl
theorem size_alloc2 (w : World) (o o2 : Obj) : ((w.alloc o).alloc o2).heap.size = w.heap.size + 1 + 1 := by rw [size_alloc1, size_alloc1]
theorem own_of {w w1 : World} {base e size n : Nat} {v : Value} {xs : List Value} (h : w.ownsRow base e size v n xs) (hm : ∀ k cs, v.ownBlock = some k → w.heap[k]? = some (.cells cs e (0, 0)) → w1.heap[k]? = w.heap[k]?) : w1.ownsRow base e size v n xs := by
  refine ⟨h.1, ?_⟩
  rcases h.2 with h | ⟨g, cap, cur, rfl, h1, h2, h3⟩
  · exact .inl h
  · exact .inr ⟨g, cap, cur, rfl, h1, (hm g cur rfl h2).trans h2, h3⟩
theorem deepest_snoc (l : List (Value × S155)) (p : Value × S155) : deepest (l ++ [p]) = max (deepest l) p.2.f1 := by simp [deepest]
theorem deepest_hi : ∀ (l : List (Value × S155)) (m : Int), 0 ≤ m → m ≤ 16 → (∀ p, p ∈ l → 0 ≤ p.2.f1 ∧ p.2.f1 ≤ 16) → 0 ≤ l.foldl (fun m p => max m p.2.f1) m ∧ l.foldl (fun m p => max m p.2.f1) m ≤ 16
  | [], m, h0, h1, _ => ⟨h0, h1⟩
  | p :: r, m, h0, h1, h => by
    have := h p List.mem_cons_self
    exact deepest_hi r (max m p.2.f1) (by omega) (by omega) fun q hq => h q (List.mem_cons_of_mem _ hq)
theorem own_slice {w : World} {base e size n : Nat} {v : Value} {xs : List Value} (h : w.ownsRow base e size v n xs) : ∃ A n c, v = .slice A n c := by
  rcases h.2 with ⟨h, _⟩ | ⟨g, cap, cur, h, _⟩
  · exact ⟨none, 0, 0, h⟩
  · exact ⟨some ⟨g, 0, none⟩, n, cap, h⟩
theorem below_row {w w1 : World} (h : Below w.heap.size w w1) {g : Nat} (hg : w.heap.size ≤ g) (cs : Array Value) : Below w.heap.size w (w1.setRow g cs) :=
  ⟨h.os, h.tape, h.output, by simpa using h.size, fun k hk => (setRow_other w1 g k cs (by omega)).trans (h.block k hk)⟩
def OpI (w : World) (g7 : Nat) (s : ByteArray) (l : List (Value × S155)) (j : Nat) (wr : World) : Prop :=
  ∃ va, wr.heap[g7]? = some (.cells #[.int .i64 3, .string s, .int .i64 0, .int .i64 0, .string ⟨#[]⟩, va, .int .i64 (deepest (l.take j))] 155 (0, 0)) ∧ wr.ownsRow w.heap.size 34 6 va j ((l.take j).flatMap ec) ∧ Below w.heap.size w wr
set_option maxHeartbeats 16000000 in
set_option maxRecDepth 100000 in
theorem op_calls {w : World} (t : Tok) (s : ByteArray) (l : List (Value × S155)) (g : Nat) (b0 : Nat → Prop) (hl : l.length ≤ 2) (h0 : ∀ p, p ∈ l → EA w b0 p.1 p.2.f0.f3 ∧ 0 ≤ p.2.f1 ∧ p.2.f1 ≤ 16) (hb : ∀ k, w.heap.size ≤ k → b0 k) (hg : g < w.heap.size)
    (hc : ∀ j p, l[j]? = some p → w.cell? ⟨g, j * 7, none⟩ = some (.int .i64 p.2.f0.f0) ∧ w.cell? ⟨g, j * 7 + 1, none⟩ = some (.string p.2.f0.f1) ∧ w.cell? ⟨g, j * 7 + 2, none⟩ = some (.int .i64 p.2.f0.f2.f0) ∧ w.cell? ⟨g, j * 7 + 3, none⟩ = some (.int .i64 p.2.f0.f2.f1) ∧ w.cell? ⟨g, j * 7 + 4, none⟩ = some (.string p.2.f0.f2.f2) ∧ w.cell? ⟨g, j * 7 + 5, none⟩ = some p.1 ∧ w.cell? ⟨g, j * 7 + 6, none⟩ = some (.int .i64 p.2.f1)) (k : Nat) :
    Calls Tryz.prog 142 #[.agg #[.int .i64 t.f0, .int .i64 t.f1, .string t.f2, .int .i64 t.f3], .string s, .slice (some ⟨g, 0, none⟩) l.length l.length] w fun e w' => Below w.heap.size w w' ∧
      match opR t.f1 s (l.map (·.2)) k with
      | .ok d _ => ∃ v, e = .returned (dv v d) ∧ EA w' b0 v d.f0.f3 ∧ 0 ≤ d.f1 ∧ d.f1 ≤ 16
      | .bad p x => e = .panicked [{ v := failV p x, recovered := false }] := by
  have H := Aside0.mk (And.intro h0 (And.intro hb (And.intro hg hc)))
  clear h0 hb hg hc
  obtain ⟨r, hr⟩ : ∃ r, opR t.f1 s (l.map (·.2)) k = r := ⟨_, rfl⟩
  rw [hr]
  have HR := Aside0.mk hr
  clear hr
  go_enter Tryz.func142, Tryz.ntmps142
  go_wp2
  refine at_world (fun w1 => Aside0 (OpI w (w.heap.size + 1 + 1) s l 0 w1 ∧ w1.heap[w.heap.size]? = some (.cells #[.int .i64 t.f0, .int .i64 t.f1, .string t.f2, .int .i64 t.f3] 75 (0, 0)) ∧ w1.heap[w.heap.size + 1]? = some (.cells z7 155 (0, 0))))
    ⟨⟨.slice none 0 0, by rw [← size_alloc2]; exact blk_new _ _, World.ownsRow_nil _ _ _ _, by repeat (first | exact Below.refl _ _ | apply below_alloc)⟩, blk_alloc (blk_alloc (blk_new _ _) _) _, blk_alloc (by rw [← size_alloc1]; exact blk_new _ _) _⟩ (fun w1 H1 => ?_)
  obtain ⟨g3, hg3⟩ : ∃ g, w.heap.size = g := ⟨_, rfl⟩
  obtain ⟨g6, hg6⟩ : ∃ g, g3 + 1 = g := ⟨_, rfl⟩
  obtain ⟨g7, hg7⟩ : ∃ g, g6 + 1 = g := ⟨_, rfl⟩
  rw [hg3, hg6, hg7] at H1 ⊢
  have HG := Aside0.mk (And.intro hg3 (And.intro hg6 hg7))
  clear hg3 hg6 hg7
  go_loopw [15] (fun i wr => ∃ j : Nat, i = .int .i64 j ∧ j ≤ l.length ∧ Aside0 (OpI w g7 s l j wr ∧ wr.heap[g3]? = some (.cells #[.int .i64 t.f0, .int .i64 t.f1, .string t.f2, .int .i64 t.f3] 75 (0, 0)) ∧ wr.heap[g6]? = some (.cells z7 155 (0, 0)))) (fun i _ => l.length - (intOf i).toNat)
  case atStart => exact ⟨0, rfl, Nat.zero_le _, H1⟩
  case round =>
  obtain ⟨j, rfl, hj, HJ⟩ := hrel
  clear H1
  obtain ⟨va, hb7, hown, hbe⟩ := HJ.out.1
  obtain ⟨Av, nv, cv, rfl⟩ := own_slice hown
  have HI := Aside0.mk (And.intro hb7 (And.intro hown hbe))
  clear hown hbe
  have c5 := (blk_cell hb7 5).trans rfl
  have c6 := (blk_cell hb7 6).trans rfl
  have f5 := blk_frozen hb7 5
  have f6 := blk_frozen hb7 6
  simp at c5 c6
  clear hb7
  by_cases hlt : j < l.length
  · have hd : decide ((j : Int) < (l.length : Int)) = true := decide_eq_true (by omega)
    have hd2 : decide (j < l.length) = true := decide_eq_true hlt
    obtain ⟨p, hp⟩ : ∃ p, l[j]? = some p := ⟨_, List.getElem?_eq_getElem hlt⟩
    obtain ⟨x0, x1, x2, x3, x4, x5, x6⟩ := H.out.2.2.2 j p hp
    replace x0 := (HI.out.2.2.cell (World.block_lt_of_cell? w _ x0)).trans x0
    replace x1 := (HI.out.2.2.cell (World.block_lt_of_cell? w _ x1)).trans x1
    replace x2 := (HI.out.2.2.cell (World.block_lt_of_cell? w _ x2)).trans x2
    replace x3 := (HI.out.2.2.cell (World.block_lt_of_cell? w _ x3)).trans x3
    replace x4 := (HI.out.2.2.cell (World.block_lt_of_cell? w _ x4)).trans x4
    replace x5 := (HI.out.2.2.cell (World.block_lt_of_cell? w _ x5)).trans x5
    replace x6 := (HI.out.2.2.cell (World.block_lt_of_cell? w _ x6)).trans x6
    obtain ⟨A, c, hv, _, _⟩ := (H.out.1 p (List.mem_of_getElem? hp)).1
    rw [hv] at x5
    have Hp := Aside0.mk (And.intro hp hv)
    clear hv
    clear hp
    go_upto_region 5 with (fail)
    obtain ⟨g9, hg9⟩ : ∃ g, wr.heap.size = g := ⟨_, rfl⟩
    have N9 := Aside0.mk (show g7 ≠ g9 ∧ g3 ≠ g9 ∧ g6 ≠ g9 ∧ w.heap.size ≤ g9 by
      have := blk_lt HI.out.1; have := blk_lt HJ.out.2.1; have := blk_lt HJ.out.2.2; have := HI.out.2.2.size; omega)
    refine at_world (fun w2 => Aside0 ((w2.heap[g7]? = some (.cells #[.int .i64 3, .string s, .int .i64 0, .int .i64 0, .string ⟨#[]⟩, .slice Av nv cv, .int .i64 (deepest (l.take j))] 155 (0, 0)) ∧ w2.ownsRow w.heap.size 34 6 (.slice Av nv cv) j ((l.take j).flatMap ec) ∧ Below w.heap.size w w2) ∧ w2.heap[g3]? = some (.cells #[.int .i64 t.f0, .int .i64 t.f1, .string t.f2, .int .i64 t.f3] 75 (0, 0)) ∧ w2.heap[g6]? = some (.cells z7 155 (0, 0)) ∧ w2.heap[g9]? = some (.cells #[.int .i64 p.2.f0.f0, .string p.2.f0.f1, .int .i64 p.2.f0.f2.f0, .int .i64 p.2.f0.f2.f1, .string p.2.f0.f2.f2, .slice A p.2.f0.f3.length c, .int .i64 p.2.f1] 155 (0, 0))))
      ⟨⟨blk_alloc HI.out.1 _, own_of HI.out.2.1 (fun k cs _ hk => Below.heap_alloc wr _ k (blk_lt hk)), below_alloc HI.out.2.2 _⟩, blk_alloc HJ.out.2.1 _, blk_alloc HJ.out.2.2 _, by rw [← hg9]; exact blk_new _ _⟩ (fun w2 H2 => ?_)
    rw [hg9]
    clear hg9 c5 c6 f5 f6 x0 x1 x2 x3 x4 x5 x6
    have c5 := (blk_cell H2.out.1.1 5).trans rfl
    have c6 := (blk_cell H2.out.1.1 6).trans rfl
    have f5 := blk_frozen H2.out.1.1 5
    have f6 := blk_frozen H2.out.1.1 6
    have x := fun i => blk_cell H2.out.2.2.2 i
    have x0 := x 0
    have x1 := x 1
    have x2 := x 2
    have x3 := x 3
    have x4 := x 4
    have x5 := x 5
    have x6 := x 6
    clear x
    simp at c5 c6 x0 x1 x2 x3 x4 x5 x6
    go_wp2_with (at_builtin; refine Hold.out ?_)
    refine ⟨?_⟩
    refine print_append_cells (w0 := w) (W := w2) w.heap.size rfl _ _ 32 34 (.agg #[.int .i64 0, .string ⟨#[]⟩, .int .i64 0, .int .i64 0, .string ⟨#[]⟩, .slice none 0 0]) 6 80 rfl Tryz.underlying32 (by kernel_rfl) rfl (by omega) (by omega) (.slice Av nv cv) j _ [.int .i64 p.2.f0.f0, .string p.2.f0.f1, .int .i64 p.2.f0.f2.f0, .int .i64 p.2.f0.f2.f1, .string p.2.f0.f2.f2, .slice A p.2.f0.f3.length c] rfl rfl rfl ?h1 H2.out.1.2.1 H2.out.1.2.2 H2.out.1.2.2.size (by omega) ?_
    case h1 => simp [Value.oneCell']
    intro v1 w3 hown hbe hgr hob
    rw [← Hp.out.2] at hown
    have b7 := blk_grown H2.out.1.1 hgr (own_ne H2.out.1.2.1 H2.out.1.1 (by decide))
    have b3 := blk_grown H2.out.2.1 hgr (own_ne H2.out.1.2.1 H2.out.2.1 (by decide))
    have b6 := blk_grown H2.out.2.2.1 hgr (own_ne H2.out.1.2.1 H2.out.2.2.1 (by decide))
    have b9 := blk_grown H2.out.2.2.2 hgr (own_ne H2.out.1.2.1 H2.out.2.2.2 (by decide))
    have H3 := Aside0.mk (And.intro b7 (And.intro hown (And.intro hbe (And.intro b3 (And.intro b6 b9)))))
    clear b7 b3 b6 b9 hown hbe hgr hob c5 c6 f5 f6 x0 x1 x2 x3 x4 x5 x6
    obtain ⟨A1, n1, k1, rfl⟩ := own_slice H3.out.2.1
    have c5 := (blk_cell H3.out.1 5).trans rfl
    have c6 := (blk_cell H3.out.1 6).trans rfl
    have f5 := blk_frozen H3.out.1 5
    have f6 := blk_frozen H3.out.1 6
    have x6 := (blk_cell H3.out.2.2.2.2.2 6).trans rfl
    simp at c5 c6 x6
    have N97 := N9.out.1
    go_wp2
    refine ⟨⟨j + 1, by go_num, by omega, ⟨⟨⟨.slice A1 n1 k1, blk_put (blk_put H3.out.1 5 _ rfl) 6 _ ?_, ?_, below_set (below_set H3.out.2.2.1 ?_) ?_⟩, blk_far (blk_far H3.out.2.2.2.1 ?_ _) ?_ _, blk_far (blk_far H3.out.2.2.2.2.1 ?_ _) ?_ _⟩⟩⟩, ?_⟩
    · have ht : l.take (j + 1) = l.take j ++ [p] := by rw [List.take_add_one, Hp.out.1]; rfl
      rw [ht, deepest_snoc]
      simp
      omega
    · have ht : l.take (j + 1) = l.take j ++ [p] := by rw [List.take_add_one, Hp.out.1]; rfl
      rw [ht, List.flatMap_append]
      have e : [p].flatMap ec = ec p := by simp
      rw [e]
      have hne := own_ne H3.out.2.1 H3.out.1 (by decide)
      exact own_setCell (own_setCell H3.out.2.1 hne _) hne _
    all_goals
      have hn := N9.out
      have h7 := HG.out
      first | omega | (dsimp only; omega) | (simp [intOf]; omega)
  · have hd : decide ((j : Int) < (l.length : Int)) = false := decide_eq_false (by omega)
    have hd2 : decide (j < l.length) = false := decide_eq_false hlt
    obtain rfl : j = l.length := by omega
    have hdp := deepest_hi l 0 (by omega) (by omega) fun p hp => (H.out.1 p hp).2
    rw [List.take_length] at HI c6
    have hdp1 : 0 ≤ deepest l := hdp.1
    have hdp2 : deepest l ≤ 16 := hdp.2
    have hfold : (l.map (·.2)).foldl (fun m d => max m d.f1) 0 = deepest l := by rw [List.foldl_map]; rfl
    have hr := HR.out
    unfold opR at hr
    rw [hfold] at hr
    have y1 := (blk_cell HJ.out.2.1 1).trans rfl
    simp at y1
    clear hfold hdp
    obtain ⟨m, hm⟩ : ∃ m, deepest l = m := ⟨_, rfl⟩
    rw [hm] at c6 hdp1 hdp2 HI hr
    have Hm := Aside0.mk hm
    clear hm
    by_cases c16 : m + 1 > 16
    · have e1 : decide (m + 1 > 16) = true := decide_eq_true c16
      have e2 : decide (16 < m + 1) = true := decide_eq_true c16
      simp only [if_pos c16] at hr
      subst hr
      go_wp2
      refine ⟨rfl, below_set HI.out.2.2 (by have := HG.out; omega), rfl⟩
    · have e1 : decide (m + 1 > 16) = false := decide_eq_false c16
      have e2 : decide (16 < m + 1) = false := decide_eq_false c16
      simp only [if_neg c16] at hr
      subst hr
      go_upto_region 11 with (fail)
      have h7 := HG.out
      refine at_world (fun w5 => Aside0 (w5.heap[g7]? = some (.cells #[.int .i64 3, .string s, .int .i64 0, .int .i64 0, .string ⟨#[]⟩, .slice Av nv cv, .int .i64 (m + 1)] 155 (0, 0)) ∧ w5.heap[g6]? = some (.cells z7 155 (0, 0)) ∧ w5.ownsRow w.heap.size 34 6 (.slice Av nv cv) l.length (l.flatMap ec) ∧ Below w.heap.size w w5))
        ⟨blk_put HI.out.1 6 _ rfl, blk_far HJ.out.2.2 (by dsimp only; omega) _, own_setCell HI.out.2.1 (own_ne HI.out.2.1 HI.out.1 (by decide)) _, below_set HI.out.2.2 (by omega)⟩ (fun w5 H5 => ?_)
      clear c5 c6 f5 f6 y1
      have x := fun i => blk_cell H5.out.1 i
      have x0 := x 0
      have x1 := x 1
      have x2 := x 2
      have x3 := x 3
      have x4 := x 4
      have x5 := x 5
      have x6 := x 6
      clear x
      simp at x0 x1 x2 x3 x4 x5 x6
      go_wp2_with (with_reducible refine gate_store (t := 155) (p := 6) rfl ?_; refine Hold.out ?_)
      refine ⟨?_⟩
      refine wpList_store_row rfl 155 _ _ rfl g6 #[.int .i64 3, .string s, .int .i64 0, .int .i64 0, .string ⟨#[]⟩, .slice Av nv cv, .int .i64 (m + 1)] rfl rfl 155 z7 H5.out.2.1 (by kernel_rfl) rfl (by simp [Value.oneCell']) ?_
      go_wp2
      have hbe : Below w.heap.size w (w5.setRow g6 #[.int .i64 3, .string s, .int .i64 0, .int .i64 0, .string ⟨#[]⟩, .slice Av nv cv, .int .i64 (m + 1)]) := below_row H5.out.2.2.2 (by omega) _
      refine bodyPost_ret (results_c rfl _ _ g6 155 _ (0,0) _ rfl (setRow_heap _ _ _ _ _ _ H5.out.2.1) Tryz.underlying155 rfl (by kernel_rfl)) rfl ?_
      refine ⟨by rw [← HG.out.1]; exact hbe, .slice Av nv cv, rfl, ?_, by omega⟩
      have ho : (w5.setRow g6 #[.int .i64 3, .string s, .int .i64 0, .int .i64 0, .string ⟨#[]⟩, .slice Av nv cv, .int .i64 (m + 1)]).ownsRow w.heap.size 34 6 (.slice Av nv cv) l.length (l.flatMap ec) :=
        own_of H5.out.2.2.1 fun k cs hk hb => setRow_other _ _ _ _ (blk_ne hb H5.out.2.1 (by decide))
      have hea := EA.row (by omega) (fun p hp => (H.out.1 p hp).1) H.out.2.1 hbe ho
      exact hea
end Go.Proofs.YtlpnlfahlcingaaGreatDoor.PL
end
