/- The document's tape: what was answered, what it came to (as Ds0 has it, without the sweep; for the door seat). Plain. -/
import Derived.Test.YtelfiegocdjnoaaDoorOb3
import Derived.Test.YtelfiegocdjnoaaDoorPg3
namespace Go.Proofs.YtelfiegocdjnoaaDoor.Ar
open Go Go.RowKit Go.Proofs.YtelfiegocdjnoaaDoor.Sep Go.Proofs.YtelfiegocdjnoaaDoor.Pg Go.Proofs.YtelfiegocdjnoaaDoorW.PrintWords Go.Proofs.YtelfiegocdjnoaaDoorW.PrintLast Go.Proofs.YtelfiegocdjnoaaDoorW.PrintMore Go.Proofs.YtelfiegocdjnoaaDoor.Q
set_option linter.unusedVariables false
set_option linter.unusedSimpArgs false
set_option maxRecDepth 100000
/-- A tape: what was answered, how many of it were read, what is asked next, is something asked that wasn't answered. -/
structure Tp where
  (hist : List Int) (pos : Nat) (nk na nw np : Int) (stop : Bool)
def Tp.ask (t : Tp) (k a wt p : Int) : Int × Tp :=
  if t.stop = true then (0, t) else if t.pos < t.hist.length then (t.hist.getD t.pos 0, { t with pos := t.pos + 1 }) else (0, { t with nk := k, na := a, nw := wt, np := p, stop := true })
def Tp.again (t : Tp) : Tp := { t with pos := 0, stop := false }
end Go.Proofs.YtelfiegocdjnoaaDoor.Ar
