/- An arena's image. Conditions: an arena that is not great. -/
import Derived.Test.YtelfiegocdjnoaaDoorMgJ
import Derived.Test.YtelfiegocdjnoaaDoorMgC
namespace Go.Proofs.YtelfiegocdjnoaaDoor.Ar
open Go Go.RowKit Go.Proofs.YtelfiegocdjnoaaDoor.Sep Go.Proofs.YtelfiegocdjnoaaDoorW.PrintWords Go.Proofs.YtelfiegocdjnoaaDoorW.PrintLast Go.Proofs.YtelfiegocdjnoaaDoorW.PrintMore Go.Proofs.YtelfiegocdjnoaaDoor.Q
set_option linter.unusedVariables false
set_option linter.unusedSimpArgs false
set_option maxHeartbeats 8000000
set_option maxRecDepth 100000
theorem add0 (g j : Nat) : (⟨g, 0, none⟩ : Addr).add j = ⟨g, j, none⟩ := by unfold Addr.add; split <;> simp_all
end Go.Proofs.YtelfiegocdjnoaaDoor.Ar
