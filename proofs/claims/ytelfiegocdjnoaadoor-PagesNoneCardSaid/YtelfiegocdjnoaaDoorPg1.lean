/- Plain facts on plans, entries and words: what the program's and the document's functions answer. No memory. -/
import Derived.Test.YtelfiegocdjnoaaDoorPg0
import Derived.Laws.BitsAllLaws
import Derived.Test.YtelfiegocdjnoaaDoorMrF0
namespace Go.Proofs.YtelfiegocdjnoaaDoor.Pg
open Go Go.RowKit Go.Proofs.YtelfiegocdjnoaaDoorW.PrintWords Go.Proofs.YtelfiegocdjnoaaDoorW.PrintLast Go.Proofs.YtelfiegocdjnoaaDoorW.PrintMore Go.Proofs.YtelfiegocdjnoaaDoor.Q
set_option linter.unusedVariables false
set_option linter.unusedSimpArgs false
set_option maxRecDepth 100000

/-! ### The plans of one to five pages, one to three threads, rings of one -/
theorem w_of (x : Int) (h0 : 0 ≤ x) (h1 : x ≤ 100000) : wrap64 x = x := by unfold wrap64; omega
theorem plan_right (P T : Nat) (hP : P < 5) (hT : T < 3) : layout_Plan_right.f ((P : Int) + 1) ((T : Int) + 1) 1 = some true := by
  unfold layout_Plan_right.f
  rw [if_pos (by omega), if_pos (by omega), if_pos (by omega), if_pos (by omega), if_pos (by decide)]
  rfl
theorem page_ (P T i tb : Nat) (hP : P < 5) (hT : T < 3) (hi : i < P + 1) (ht : tb ≤ 2) : layout_Plan_page.f ((P : Int) + 1) ((T : Int) + 1) 1 tb i = some (22 + 6 * (T : Int) + tb * ((P : Int) + 1) + i) := by
  obtain ⟨m, hm⟩ : ∃ m : Int, m = (tb : Int) * ((P : Int) + 1) := ⟨_, rfl⟩
  have hm1 : 0 ≤ m ∧ m ≤ 10 := by
    have : m = ((tb * (P + 1) : Nat) : Int) := by rw [hm]; push_cast; rfl
    have h2 : tb * (P + 1) ≤ 2 * 5 := Nat.mul_le_mul ht (by omega)
    omega
  have n0 : ¬ ((i : Int) < 0) := by omega
  have n1 : ¬ ((i : Int) ≥ (P : Int) + 1) := by omega
  have w0 : wrap64 (5 + 1) = 6 := w_of _ (by decide) (by decide)
  have w1 : wrap64 (((T : Int) + 1) * 6) = ((T : Int) + 1) * 6 := w_of _ (by omega) (by omega)
  have w2 : wrap64 (16 + ((T : Int) + 1) * 6) = 16 + ((T : Int) + 1) * 6 := w_of _ (by omega) (by omega)
  have w3 : wrap64 m = m := w_of _ (by omega) (by omega)
  have w4 : wrap64 (16 + ((T : Int) + 1) * 6 + m) = 16 + ((T : Int) + 1) * 6 + m := w_of _ (by omega) (by omega)
  have w5 : wrap64 (16 + ((T : Int) + 1) * 6 + m + (i : Int)) = 16 + ((T : Int) + 1) * 6 + m + (i : Int) := w_of _ (by omega) (by omega)
  unfold layout_Plan_page.f
  rw [plan_right P T hP hT, Option.bind_some, if_pos rfl, if_neg n0, if_neg n1]
  unfold layout_Plan_tables.f layout_Plan_each.f
  simp only [Option.bind_some]
  rw [w0, w1, w2, ← hm, w3, w4, w5]
  congr 1
  clear w0 w1 w2 w3 w4 w5 hm
  omega
end Go.Proofs.YtelfiegocdjnoaaDoor.Pg
