/- Is it an entry? The document's function, short. No condition. -/
import Derived.Test.YtelfiegocdjnoaaDoorStp
import Derived.Test.YtelfiegocdjnoaaDoorProg
namespace Go.Proofs.YtelfiegocdjnoaaDoor.Pg
open Go Go.RowKit Go.Proofs.YtelfiegocdjnoaaDoor.Sep Go.Proofs.YtelfiegocdjnoaaDoorW.PrintWords Go.Proofs.YtelfiegocdjnoaaDoorW.PrintLast Go.Proofs.YtelfiegocdjnoaaDoorW.PrintMore
set_option linter.unusedVariables false
set_option linter.unusedSimpArgs false
set_option maxHeartbeats 8000000
set_option maxRecDepth 100000
/-- May it be this one's in this state? -/
def own (k s o : Int) : Bool := if s = 0 then o == 0 else if s = 1 then (if 0 ≤ o ∧ o < 6 then k == 1 else false) else if s = 2 then (if 0 ≤ o ∧ o < 6 then true else o == 15) else false
/-- Is it an entry? -/
def isE (k c s o y : Int) : Bool :=
  if y < 0 ∨ y > 4294967295 ∨ own k s o = false then false
  else if k = 1 then decide (0 ≤ c ∧ c < 8) else if k = 2 then decide (1 ≤ c ∧ c ≤ 4) else if k = 3 then decide (1 ≤ c ∧ c < 4 ∧ s = 0 ∧ y = 0)
  else decide (k = 0 ∧ c = 0 ∧ s = 0 ∧ o = 0 ∧ y = 0)
theorem isentry_c (k c s o y : Int) (w : World) : Calls Tryd.prog 98 #[.agg #[.int .i64 k, .int .i64 c, .int .i64 s, .int .i64 o, .int .i64 y]] w fun e w' => e = .returned (.bool (isE k c s o y)) ∧ Below w.heap.size w w' := by
  obtain ⟨b, hb⟩ : ∃ b, b = isE k c s o y := ⟨_, rfl⟩
  rw [← hb]
  go_enter Tryd.func98, Tryd.ntmps98
  go_wp2
  all_goals
    go_ret
    refine ⟨congrArg (fun b : Bool => Ending.returned (Value.bool b)) ?_, (Below.refl _ w).alloc (Nat.le_refl _) _⟩
    grind [isE, own]
end Go.Proofs.YtelfiegocdjnoaaDoor.Pg
