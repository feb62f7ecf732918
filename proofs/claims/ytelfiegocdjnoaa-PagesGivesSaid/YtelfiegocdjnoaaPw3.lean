/- The document's Given of any entry. No memory. -/
import Derived.Test.YtelfiegocdjnoaaPw
import Derived.Test.YtelfiegocdjnoaaMrF0
namespace Go.Proofs.Ytelfiegocdjnoaa.Pg
open Go Go.RowKit Go.Proofs.YtelfiegocdjnoaaW.PrintWords Go.Proofs.YtelfiegocdjnoaaW.PrintLast Go.Proofs.YtelfiegocdjnoaaW.PrintMore Go.Proofs.Ytelfiegocdjnoaa.Q
set_option linter.unusedVariables false
set_option linter.unusedSimpArgs false
theorem isE_kind {k c s o y : Int} (h : isE k c s o y = true) : k = 0 ∨ k = 1 ∨ k = 2 ∨ k = 3 := by have := isE_le h; omega
end Go.Proofs.Ytelfiegocdjnoaa.Pg
