/- Allocated in general. Conditions: a plan of at most five pages; words of 64 bits; the package array reads as it was laid. -/
import Derived.Test.YtelfiegocdjnoaaDoorOb12
import Derived.Test.YtelfiegocdjnoaaDoorOb4
import Derived.Test.YtelfiegocdjnoaaDoorHe2
import Derived.Test.YtelfiegocdjnoaaDoorMrF0
namespace Go.Proofs.YtelfiegocdjnoaaDoor.Ar
open Go Go.RowKit Go.Proofs.YtelfiegocdjnoaaDoor.Sep Go.Proofs.YtelfiegocdjnoaaDoor.Pg Go.Proofs.YtelfiegocdjnoaaDoorW.PrintWords Go.Proofs.YtelfiegocdjnoaaDoorW.PrintLast Go.Proofs.YtelfiegocdjnoaaDoorW.PrintMore Go.Proofs.YtelfiegocdjnoaaDoor.Q
set_option linter.unusedVariables false
set_option linter.unusedSimpArgs false
set_option maxHeartbeats 8000000
set_option maxRecDepth 100000
variable {w0 w : World} {F : List HP} {a gC : Nat} {lv : Value} {cn fl : Int} {X : List Int}
end Go.Proofs.YtelfiegocdjnoaaDoor.Ar
