import Derived.Test.YtcflmkklpehmmaaDoorRows
import Derived.Lib.LaidTab
import Derived.Lib.ItoaNum
import Derived.LaidMore
namespace Go.Proofs.YtcflmkklpehmmaaDoor
open Go.ChangeShapes Go.WideShapes
theorem laid_tab {W : World} (h : laidMetH Tryd.prog Rows.valueOrderRow.laid W) : Lib.TabIs Tryd.prog W "internal/strconv.uint64pow10" .u64 Lib.pow10Tab := by
  rw [MakeChecks.laidMetH_plain _ _ _ (by kernel_rfl)] at h
  obtain ⟨ps, hL, _⟩ := h
  obtain ⟨_, _, _, _, _, q1, _, _, _, _, hL, _⟩ := hL
  obtain ⟨_, _, _, _, _, q2, _, _, _, _, hL, _⟩ := hL
  obtain ⟨g, t, cs, fuel, p, q, hg, ht, hvar, hd, _, _⟩ := hL
  obtain rfl := Option.some.inj ((show Tryd.prog.globalNamed "internal/strconv.uint64pow10" = some 1 by kernel_rfl).symm.trans hg)
  obtain rfl := Option.some.inj ((show (Tryd.prog.globals[1]?).map (·.type) = some 87 by kernel_rfl).symm.trans ht)
  unfold Lib.TabIs
  rw [hvar, ← Lib.cells_of_tab (zs := Lib.pow10Tab) (show Tryd.prog.underlying 87 = some (.array 20 43) by kernel_rfl) (show Tryd.prog.underlying 43 = some (.int .u64) by kernel_rfl) (by kernel_rfl) (by kernel_rfl) hd]
end Go.Proofs.YtcflmkklpehmmaaDoor
