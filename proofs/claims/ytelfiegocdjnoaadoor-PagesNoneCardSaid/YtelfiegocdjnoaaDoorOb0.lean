/- A build's steps. Conditions: the port has a grant, the cell is there. -/
import Derived.Test.YtelfiegocdjnoaaDoorAr2
import Derived.Test.YtelfiegocdjnoaaDoorWk
import Derived.Test.YtelfiegocdjnoaaDoorStp
import Derived.Test.YtelfiegocdjnoaaDoorMrF0
namespace Go.Proofs.YtelfiegocdjnoaaDoor.Ar
open Go Go.RowKit Go.Proofs.YtelfiegocdjnoaaDoor.Sep Go.Proofs.YtelfiegocdjnoaaDoorW.PrintWords Go.Proofs.YtelfiegocdjnoaaDoorW.PrintLast Go.Proofs.YtelfiegocdjnoaaDoorW.PrintMore Go.Proofs.YtelfiegocdjnoaaDoor.Q
set_option linter.unusedVariables false
set_option linter.unusedSimpArgs false
set_option maxHeartbeats 8000000
set_option maxRecDepth 100000
def bd.T6 : Bool × List (List Nat × List Nat) := (true, [([], []), ([], []), ([1], [1]), ([2], [2]), ([3], [3]), ([], []), ([5], [5]), ([6], [6]), ([7], [7]), ([4, 8], [4, 8]), ([0, 9], [0, 9])])
def bd.B6 : List Nat := [0, 0, 2, 6, 14, 0, 32, 96, 224, 510, 1023]
theorem bd.tab6 : rtab .any (opsOf Tryd.f18 6) = bd.T6 := by kernel_rfl
theorem bd.bits6 : waitsOk bd.T6.2 bd.B6 = true := by kernel_rfl
variable {w0 w : World} {F : List HP} {b a gC p : Nat} {lv : Value} {l : List Acc} {cn fl who : Int} {X : List Int}
end Go.Proofs.YtelfiegocdjnoaaDoor.Ar
