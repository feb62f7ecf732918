/- Plain facts on plans, entries and words: what the program's and the document's functions answer. No memory. -/
import Derived.Test.YtelfiegocdjnoaaDoorPg0
import Derived.Laws.BitsAllLaws
import Derived.Test.YtelfiegocdjnoaaDoorMrF0
namespace Go.Proofs.YtelfiegocdjnoaaDoor.Pg
open Go Go.RowKit Go.Proofs.YtelfiegocdjnoaaDoorW.PrintWords Go.Proofs.YtelfiegocdjnoaaDoorW.PrintLast Go.Proofs.YtelfiegocdjnoaaDoorW.PrintMore Go.Proofs.YtelfiegocdjnoaaDoor.Q
set_option linter.unusedVariables false
set_option linter.unusedSimpArgs false
set_option maxRecDepth 100000

/-! ### The plans of one to five pages, one to three threads, rings of one -/
theorem w_of (x : Int) (h0 : 0 ≤ x) (h1 : x ≤ 100000) : wrap64 x = x := by unfold wrap64; omega
end Go.Proofs.YtelfiegocdjnoaaDoor.Pg
