/- Whether an object fits where it is, in general. Conditions: the package array reads as it was laid; small numbers. -/
import Derived.Test.YtelfiegocdjnoaaDoorMgA
import Derived.Test.YtelfiegocdjnoaaDoorMrF0
namespace Go.Proofs.YtelfiegocdjnoaaDoor.Ar
open Go Go.RowKit Go.Proofs.YtelfiegocdjnoaaDoor.Sep Go.Proofs.YtelfiegocdjnoaaDoorW.PrintWords Go.Proofs.YtelfiegocdjnoaaDoorW.PrintLast Go.Proofs.YtelfiegocdjnoaaDoorW.PrintMore Go.Proofs.YtelfiegocdjnoaaDoor.Q
set_option linter.unusedVariables false
set_option linter.unusedSimpArgs false
set_option maxHeartbeats 8000000
set_option maxRecDepth 100000
/-- How many pages so many words have. -/
def pgI (w : Int) : Int := if w ≤ 32 then 0 else (w + 63) / 64
theorem pages_c (w : Int) (h0 : 0 ≤ w) (h1 : w ≤ 256) : sizes_Pages.f w = some (if w = 0 then (0, 1) else (pgI w, 0)) := by
  unfold pgI
  by_cases hw : w = 0
  · subst hw; rfl
  · rw [if_neg hw]
    by_cases h32 : w ≤ 32
    · rw [if_pos h32]; unfold sizes_Pages.f; rw [if_neg (by omega), if_neg (by omega), if_pos h32]
    · rw [if_neg h32]
      obtain ⟨m, rfl⟩ : ∃ m : Nat, w = m := ⟨w.toNat, by omega⟩
      exact spages_ ⟨m, by omega⟩ (by show 33 ≤ m; omega)
def fitsI (k c fi w p pg : Int) : Bool := if k = 2 then decide (w ≠ 0 ∧ pgI w = c ∧ pg + pgI w ≤ p) else decide ((0 ≤ c ∧ c < 8) ∧ w ≤ szI c ∧ fi + szI c ≤ 64)
end Go.Proofs.YtelfiegocdjnoaaDoor.Ar
