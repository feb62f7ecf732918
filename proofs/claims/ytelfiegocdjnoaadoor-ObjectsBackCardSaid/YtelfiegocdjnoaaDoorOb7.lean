/- Where an address lies, what page's words: plain. Whether an object fits: in general. Conditions: a plan of at most five pages. -/
import Derived.Test.YtelfiegocdjnoaaDoorOb6
import Derived.Test.YtelfiegocdjnoaaDoorMrF0
import Derived.Test.YtelfiegocdjnoaaDoorMrF1
namespace Go.Proofs.YtelfiegocdjnoaaDoor.Ar
open Go Go.RowKit Go.Proofs.YtelfiegocdjnoaaDoor.Sep Go.Proofs.YtelfiegocdjnoaaDoorW.PrintWords Go.Proofs.YtelfiegocdjnoaaDoorW.PrintLast Go.Proofs.YtelfiegocdjnoaaDoorW.PrintMore Go.Proofs.YtelfiegocdjnoaaDoor.Q
set_option linter.unusedVariables false
set_option linter.unusedSimpArgs false
set_option maxHeartbeats 8000000
set_option maxRecDepth 100000
theorem pl_right : ∀ P : Fin 5, layout_Plan_right.f ((P.val : Int) + 1) 1 1 = some true := by decide +kernel
theorem pl_base : ∀ P : Fin 5, layout_Plan_Base.f ((P.val : Int) + 1) 1 1 = some 64 := by decide +kernel
theorem pl_cells : ∀ P : Fin 5, layout_Plan_Cells.f ((P.val : Int) + 1) 1 1 = some (128 + 64 * (P.val : Int)) := by decide +kernel
theorem pl_entry : ∀ P : Fin 5, ∀ i : Fin 5, i.val ≤ P.val → layout_Plan_Entry.f ((P.val : Int) + 1) 1 1 (i.val : Int) = some (22 + (i.val : Int)) := by decide +kernel
theorem pl_alloc : ∀ P : Fin 5, ∀ i : Fin 5, i.val ≤ P.val → layout_Plan_Alloc.f ((P.val : Int) + 1) 1 1 (i.val : Int) = some (22 + ((P.val : Int) + 1) + (i.val : Int)) := by decide +kernel
set_option synthInstance.maxHeartbeats 400000 in
set_option synthInstance.maxSize 2000 in
theorem pl_draw : ∀ P : Fin 5, windrowref06_Draw.f 1000 ((P.val : Int) + 1) 1 1 = some ((P.val : Int) + 1, 1, 1, 64, 22, 128 + 64 * (P.val : Int)) := by decide +kernel
theorem pl_ncells : ∀ P : Fin 5, windrowref06_Cells.f 1000 ((P.val : Int) + 1) 1 1 = some (128 + 64 * (P.val : Int)) := by decide +kernel
/-- The page and the word of an address. -/
def plI (P : Nat) (at_ : Int) : Int × Int := if 64 ≤ at_ ∧ at_ < 128 + 64 * (P : Int) then ((at_ - 64) / 64, (at_ - 64) % 64) else (-1, -1)
theorem place_ (P : Nat) (hP : P < 5) (at_ : Int) : layout_Plan_Place.f ((P : Int) + 1) 1 1 at_ = some (plI P at_) := by
  unfold layout_Plan_Place.f plI
  have h1 := pl_right ⟨P, hP⟩
  have h2 := pl_base ⟨P, hP⟩
  have h3 := pl_cells ⟨P, hP⟩
  simp only at h1 h2 h3
  rw [h1, h2, h3]
  simp only [Option.bind_some, if_true]
  by_cases ha : at_ < 64
  · rw [if_pos ha, if_neg (by omega)]
  · rw [if_neg ha]
    by_cases hb : at_ ≥ 128 + 64 * (P : Int)
    · rw [if_pos hb, if_neg (by omega)]
    · rw [if_neg hb, if_pos (by omega)]
      have e1 : wrap64 (at_ - 64) = at_ - 64 := by unfold wrap64; omega
      have e2 : Int.tdiv (at_ - 64) 64 = (at_ - 64) / 64 := Int.tdiv_eq_ediv_of_nonneg (by omega)
      have e3 : Int.tmod (at_ - 64) 64 = (at_ - 64) % 64 := Int.tmod_eq_emod_of_nonneg (by omega)
      rw [e1, e2, e3]
      have e4 : wrap64 ((at_ - 64) / 64) = (at_ - 64) / 64 := by unfold wrap64; omega
      rw [e4]
end Go.Proofs.YtelfiegocdjnoaaDoor.Ar
