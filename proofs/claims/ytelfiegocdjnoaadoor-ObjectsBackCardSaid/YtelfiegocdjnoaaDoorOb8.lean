/- Headers, in a closed form: plain. No condition. -/
import Derived.Test.YtelfiegocdjnoaaDoorOb7
import Derived.Test.YtelfiegocdjnoaaDoorMrF0
namespace Go.Proofs.YtelfiegocdjnoaaDoor.Ar
open Go Go.RowKit Go.Proofs.YtelfiegocdjnoaaDoor.Sep Go.Proofs.YtelfiegocdjnoaaDoorW.PrintWords Go.Proofs.YtelfiegocdjnoaaDoorW.PrintLast Go.Proofs.YtelfiegocdjnoaaDoorW.PrintMore Go.Proofs.YtelfiegocdjnoaaDoor.Q
set_option linter.unusedVariables false
set_option linter.unusedSimpArgs false
set_option maxHeartbeats 8000000
set_option maxRecDepth 100000
/-- Is it a header? -/
def isH (c k n : Int) : Bool := decide ((k = 1 ∧ 0 ≤ c ∧ c ≤ 15 ∧ 0 ≤ n ∧ n ≤ 15) ∨ ((k = 2 ∨ k = 3) ∧ c = 0 ∧ 0 ≤ n ∧ n ≤ 255))
/-- Its words. -/
def hwI (c k n : Int) : Int := if isH c k n = true then 1 + n else 0
theorem hright_ (q : Nat) (c k n : Int) : header_Head_right.f (q + 1) c k n = some (isH c k n) := by
  unfold header_Head_right.f
  simp only [header_Head_right.j0]
  by_cases h : n < 0
  · rw [if_pos h, if_pos trivial]
    congr 1
    unfold isH
    symm
    rw [decide_eq_false_iff_not]
    omega
  · rw [if_neg h]
    by_cases h2 : n > 255
    · rw [if_pos (by simp [h2])]
      congr 1
      unfold isH
      symm
      rw [decide_eq_false_iff_not]
      omega
    · rw [if_neg (by simp [h2])]
      unfold isH
      repeat' split
      all_goals (refine congrArg some ?_; rw [Bool.eq_iff_iff]; simp only [decide_eq_true_eq, beq_iff_eq, Bool.false_eq_true, false_iff]; omega)
theorem hwords_ (q : Nat) (c k n : Int) : header_Head_Words.f (q + 1) c k n = some (hwI c k n) := by
  unfold header_Head_Words.f hwI
  rw [hright_]
  simp only [Option.bind_some]
  by_cases h : isH c k n = true
  · simp only [h, if_true]
    have : 0 ≤ n ∧ n ≤ 255 := by simp [isH] at h; omega
    congr 1
    unfold wrap64; omega
  · simp [h]
end Go.Proofs.YtelfiegocdjnoaaDoor.Ar
