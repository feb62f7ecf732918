/- Where an object may lie, in a closed form, for the code and the document: plain. Conditions: a plan of at most five pages. -/
import Derived.Test.YtelfiegocdjnoaaDoorOb8
import Derived.Test.YtelfiegocdjnoaaDoorMrF0
import Derived.Test.YtelfiegocdjnoaaDoorMrF1
namespace Go.Proofs.YtelfiegocdjnoaaDoor.Ar
open Go Go.RowKit Go.Proofs.YtelfiegocdjnoaaDoor.Sep Go.Proofs.YtelfiegocdjnoaaDoorW.PrintWords Go.Proofs.YtelfiegocdjnoaaDoorW.PrintLast Go.Proofs.YtelfiegocdjnoaaDoorW.PrintMore Go.Proofs.YtelfiegocdjnoaaDoor.Q
set_option linter.unusedVariables false
set_option linter.unusedSimpArgs false
set_option maxHeartbeats 8000000
set_option maxRecDepth 100000
theorem rheap_ (P : Nat) (hP : P < 5) (at_ : Int) : windrowref06_Map_Heap.f ((P : Int) + 1) 1 1 64 22 (128 + 64 * (P : Int)) at_ = some (plI P at_) := by
  unfold windrowref06_Map_Heap.f plI
  rw [if_neg (by decide)]
  by_cases ha : at_ < 64
  · rw [if_pos ha, if_neg (by omega)]
  · rw [if_neg ha]
    by_cases hb : at_ ≥ 128 + 64 * (P : Int)
    · rw [if_pos hb, if_neg (by omega)]
    · rw [if_neg hb, if_pos (by omega)]
      have e1 : wrap64 (at_ - 64) = at_ - 64 := by unfold wrap64; omega
      have e2 : Int.tdiv (at_ - 64) 64 = (at_ - 64) / 64 := Int.tdiv_eq_ediv_of_nonneg (by omega)
      have e3 : Int.tmod (at_ - 64) 64 = (at_ - 64) % 64 := Int.tmod_eq_emod_of_nonneg (by omega)
      rw [e1, e2, e3]
      have e4 : wrap64 ((at_ - 64) / 64) = (at_ - 64) / 64 := by unfold wrap64; omega
      rw [e4]
theorem spages_ : ∀ w : Fin 257, 33 ≤ w.val → sizes_Pages.f (w.val : Int) = some (((w.val : Int) + 63) / 64, 0) := by decide +kernel
theorem rpages_ : ∀ w : Fin 257, 33 ≤ w.val → windrowref05_Pages.f 10 (w.val : Int) = some (((w.val : Int) + 63) / 64, 0) := by decide +kernel
theorem hwI_r (c k n : Int) : 0 ≤ hwI c k n ∧ hwI c k n ≤ 256 := by
  unfold hwI
  by_cases h : isH c k n = true
  · rw [if_pos h]
    simp [isH] at h
    omega
  · rw [if_neg h]; omega
end Go.Proofs.YtelfiegocdjnoaaDoor.Ar
