/- The document's list of an arena's cells, for the plans of one to five pages and one to three threads: told by the kernel. No memory. -/
import Derived.Laws.BitsAllLaws
import Derived.Test.YtelfiegocdjnoaaDoorMrF0
section
namespace Go.Proofs.YtelfiegocdjnoaaDoor.Pg
open Go Go.RowKit Go.Proofs.YtelfiegocdjnoaaDoorW.PrintWords Go.Proofs.YtelfiegocdjnoaaDoorW.PrintLast Go.Proofs.YtelfiegocdjnoaaDoorW.PrintMore Go.Proofs.YtelfiegocdjnoaaDoor.Q
set_option linter.unusedVariables false
set_option linter.unusedSimpArgs false
set_option maxRecDepth 100000

/-! ### The plans of one to five pages, one to three threads, rings of one -/
def firstB (l : List S143) (k : Int) (n : Nat) : Bool := (l.take n).all (fun x => !(x.f0 == k)) && match l[n]? with
  | some x => x.f0 == k && x.f1 == 0 && x.f2 == 0
  | none => false
def spotB (P T : Nat) : Bool := match windrowref06_Spots.f 900 ((P : Int) + 1) ((T : Int) + 1) 1 with
  | some l => l.length == 128 + 64 * P && firstB l 8 64 && firstB l 5 (22 + 6 * T)
  | none => false
theorem spots_all : ((List.range 5).all fun P => (List.range 3).all fun T => spotB P T) = true := by decide +kernel
theorem spots_ (P T : Nat) (hP : P < 5) (hT : T < 3) : ∃ k l, 200 ≤ k ∧ windrowref06_Spots.f k ((P : Int) + 1) ((T : Int) + 1) 1 = some l ∧ l.length = 128 + 64 * P ∧ firstB l 8 64 = true ∧ firstB l 5 (22 + 6 * T) = true := by
  have h := List.all_eq_true.1 (List.all_eq_true.1 spots_all P (List.mem_range.2 hP)) T (List.mem_range.2 hT)
  unfold spotB at h
  split at h
  · rename_i l heq
    simp only [Bool.and_eq_true, beq_iff_eq] at h
    exact ⟨900, l, by decide, heq, h.1.1, h.1.2, h.2⟩
  · cases h
end Go.Proofs.YtelfiegocdjnoaaDoor.Pg
end
section
namespace Go.Proofs.YtelfiegocdjnoaaDoor.Pg
open Go Go.RowKit Go.Proofs.YtelfiegocdjnoaaDoorW.PrintWords Go.Proofs.YtelfiegocdjnoaaDoorW.PrintLast Go.Proofs.YtelfiegocdjnoaaDoorW.PrintMore Go.Proofs.YtelfiegocdjnoaaDoor.Q
set_option linter.unusedVariables false
set_option linter.unusedSimpArgs false
set_option maxRecDepth 100000

/-! ### The plans of one to five pages, one to three threads, rings of one -/
theorem cells_ (P T : Nat) (hP : P < 5) (hT : T < 3) : ∃ k, windrowref06_Cells.f k ((P : Int) + 1) ((T : Int) + 1) 1 = some (128 + 64 * (P : Int)) := by
  obtain ⟨k, l, hk, h1, h2, _⟩ := spots_ P T hP hT
  refine ⟨k, ?_⟩
  unfold windrowref06_Cells.f
  rw [h1, Option.bind_some, h2]
  congr 1
end Go.Proofs.YtelfiegocdjnoaaDoor.Pg
end
