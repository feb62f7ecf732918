/- Ownership of memory: what is appended where nothing is. No condition. -/
import Derived.Test.YtakpdmkfengghaaSep
set_option linter.unusedVariables false
set_option linter.unusedSimpArgs false
namespace Go.Proofs.Ytakpdmkfengghaa.Sep
open Go Go.RowKit
section
variable {P : Program} {ops : Array Oper} {rest : List Oper} {o : Oper} {a : Act} {Q : Exit → Act → World → Prop} {w0 W : World} {F : List HP}
end
end Go.Proofs.Ytakpdmkfengghaa.Sep
