/- The package array of sizes, out of the row's condition on package memory (the door seat). No condition. -/
import Derived.Test.YtelfiegocdjnoaaDoorRows
import Derived.Test.YtelfiegocdjnoaaDoorOb1
import Derived.ProofKit
import Derived.OpenShut
import Derived.LaidMore
import Derived.Lay
import Derived.Stop.Joined
namespace Go.Proofs.YtelfiegocdjnoaaDoor.Ar
open Go Go.ChangeShapes Go.WideShapes Go.ChangeAt Go.RowKit
set_option linter.unusedVariables false
set_option linter.unusedSimpArgs false

abbrev tabL : List (String × DataW Unit) := [("windrow/sizes.sizeOf", Rows.laid_windrow_sizes_sizeOf)]
theorem tab_is : (Rows.laid_windrow_sizes_sizeOf : DataW Unit) = .agg (szT.map fun b => (.lit (.int .i64 b) : DataW Unit)) := by kernel_rfl
theorem tab_of_laid {W : World} (h : laidMetH Tryd.prog tabL W) : Tab W := by
  intro r hr
  rw [MakeChecks.laidMetH_plain _ _ _ (by kernel_rfl)] at h
  obtain ⟨ps, ⟨g, t, cs, fuel, p, q, hg, ht, hv, hd, _, _⟩, _, _⟩ := h
  obtain rfl := Option.some.inj ((show Tryd.prog.globalNamed "windrow/sizes.sizeOf" = some 0 by kernel_rfl).symm.trans hg)
  obtain rfl := Option.some.inj ((show (Tryd.prog.globals[0]?).map (·.type) = some 220 by kernel_rfl).symm.trans ht)
  obtain ⟨xs, m, _, ex, _, hl, hel⟩ := DataW.trod_array Tryd.underlying220 hd
  have c5 : Tryd.prog.cellsOf 3 = 1 := by kernel_rfl
  have hE := hel r hr
  rw [c5, Nat.mul_one, List.getElem?_eq_getElem (by omega)] at hE
  obtain ⟨z, e1, e2, _⟩ := DataW.trod_int Tryd.underlying3 hE
  have hlen : szT.length = 8 := rfl
  rw [tab_is] at ex
  have e3 : (xs.map (·.1)) = szT.map fun b => (.lit (.int .i64 b)) := (DataW.agg.inj (Prod.mk.inj ex).1).symm
  have e4 : (xs.map (·.1))[r]? = (szT.map fun b => (DataW.lit (.int .i64 b) : DataW Unit))[r]? := by rw [e3]
  rw [List.getElem?_map, List.getElem?_map, List.getElem?_eq_getElem (by omega : r < xs.length), List.getElem?_eq_getElem (by omega : r < szT.length), e2] at e4
  have hz : z = szT.getD r 0 := by
    simp only [Option.map_some, Option.some.injEq, DataW.lit.injEq, Lit.int.injEq] at e4
    rw [List.getD, List.getElem?_eq_getElem (by omega : r < szT.length)]
    exact e4.2
  rw [World.var?_cell hg hv r, ← hz]
  have : cs.toList[r]? = some (.int .i64 z) := by
    have h0 : ((cs.toList.drop r).take 1)[0]? = some (.int .i64 z) := by rw [e1]; rfl
    simpa using h0
  simpa using this
end Go.Proofs.YtelfiegocdjnoaaDoor.Ar
