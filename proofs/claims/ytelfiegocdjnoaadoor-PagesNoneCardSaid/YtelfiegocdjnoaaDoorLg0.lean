/- The arena's log, gone through: the iterator. Conditions: the log is not empty; it lies in memory that the loop's body keeps. -/
import Derived.RangeFuncNested
import Derived.RangeFuncBox
import Derived.RangeFuncBound
import Derived.RangeFuncCalls
import Derived.RangeFuncLeaves
import Derived.Shelf.Abstract
import Derived.WalkKit
import Derived.OwnWalkIn
import Derived.TacticsInMore
import Derived.LoopNIn
import Derived.LoopIn
import Derived.Maps.AppendAt
import Derived.Test.YtelfiegocdjnoaaDoorAr1
import Derived.Test.YtelfiegocdjnoaaDoorStp
namespace Go.Proofs.YtelfiegocdjnoaaDoor.Ar
open Go Go.RowKit Go.Shelf Go.Proofs.YtelfiegocdjnoaaDoor.Sep Go.Proofs.YtelfiegocdjnoaaDoorW.PrintWords Go.Proofs.YtelfiegocdjnoaaDoorW.PrintLast Go.Proofs.YtelfiegocdjnoaaDoorW.PrintMore
set_option linter.unusedVariables false
set_option linter.unusedSimpArgs false
set_option maxHeartbeats 4000000
set_option maxRecDepth 100000
attribute [local go_sem] Oper.semAt_some
section
variable {F : Fence} {n : Nat} {P : Program} {ops : Array Oper} {Q : Exit → Act → World → Prop} {a : Act} {W : World} {rest : List Oper} {o : Oper}
end
def zAcc : Acc := ⟨0, 0, 0, 0, 0, 0, 0⟩
/-- A log's cells. -/
def LogAt (w : World) (g : Nat) (L : List Acc) : Prop := ∀ j, j < L.length → w.cell? ⟨g, j * 7, none⟩ = some (.int .i64 (L[j]?.getD zAcc).who) ∧ w.cell? ⟨g, j * 7 + 1, none⟩ = some (.int .i64 (L[j]?.getD zAcc).kind) ∧ w.cell? ⟨g, j * 7 + 2, none⟩ = some (.int .i64 (L[j]?.getD zAcc).at_) ∧
  w.cell? ⟨g, j * 7 + 3, none⟩ = some (.int .u64 (L[j]?.getD zAcc).want) ∧ w.cell? ⟨g, j * 7 + 4, none⟩ = some (.int .u64 (L[j]?.getD zAcc).put) ∧ w.cell? ⟨g, j * 7 + 5, none⟩ = some (.int .u64 (L[j]?.getD zAcc).seen) ∧ w.cell? ⟨g, j * 7 + 6, none⟩ = some (.int .u64 (L[j]?.getD zAcc).left)
theorem LogAt.below {n₀ : Nat} {A B : World} {g : Nat} {L : List Acc} (h : Below n₀ A B) (hg : g < n₀) (hl : LogAt A g L) : LogAt B g L := fun j hj => by
  obtain ⟨h0, h1, h2, h3, h4, h5, h6⟩ := hl j hj
  exact ⟨(h.cell (p := ⟨g, _, none⟩) hg).trans h0, (h.cell (p := ⟨g, _, none⟩) hg).trans h1, (h.cell (p := ⟨g, _, none⟩) hg).trans h2, (h.cell (p := ⟨g, _, none⟩) hg).trans h3, (h.cell (p := ⟨g, _, none⟩) hg).trans h4, (h.cell (p := ⟨g, _, none⟩) hg).trans h5, (h.cell (p := ⟨g, _, none⟩) hg).trans h6⟩
end Go.Proofs.YtelfiegocdjnoaaDoor.Ar
