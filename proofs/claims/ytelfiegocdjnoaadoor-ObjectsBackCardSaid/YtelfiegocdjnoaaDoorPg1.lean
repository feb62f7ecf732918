/- Plain facts on plans, entries and words: what the program's and the document's functions answer. No memory. -/
import Derived.Test.YtelfiegocdjnoaaDoorPg0
import Derived.Laws.BitsAllLaws
import Derived.Test.YtelfiegocdjnoaaDoorMrF0
namespace Go.Proofs.YtelfiegocdjnoaaDoor.Pg
open Go Go.RowKit Go.Proofs.YtelfiegocdjnoaaDoorW.PrintWords Go.Proofs.YtelfiegocdjnoaaDoorW.PrintLast Go.Proofs.YtelfiegocdjnoaaDoorW.PrintMore Go.Proofs.YtelfiegocdjnoaaDoor.Q
set_option linter.unusedVariables false
set_option linter.unusedSimpArgs false
set_option maxRecDepth 100000

/-! ### The plans of one to five pages, one to three threads, rings of one -/
theorem cells_ (P T : Nat) (hP : P < 5) (hT : T < 3) : ∃ k, windrowref06_Cells.f k ((P : Int) + 1) ((T : Int) + 1) 1 = some (128 + 64 * (P : Int)) := by
  obtain ⟨k, l, hk, h1, h2, _⟩ := spots_ P T hP hT
  refine ⟨k, ?_⟩
  unfold windrowref06_Cells.f
  rw [h1, Option.bind_some, h2]
  congr 1
end Go.Proofs.YtelfiegocdjnoaaDoor.Pg
