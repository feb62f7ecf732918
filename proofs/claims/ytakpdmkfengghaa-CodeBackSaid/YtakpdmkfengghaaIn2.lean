/- Two programs that came in: are they the same, by the document? No condition. -/
import Derived.Test.YtakpdmkfengghaaInA
import Derived.Test.YtakpdmkfengghaaPe4
namespace Go.Proofs.Ytakpdmkfengghaa.Wr
open Go Go.RowKit Go.Proofs.Ytakpdmkfengghaa.Sep Go.Proofs.YtakpdmkfengghaaW.PrintWords Go.Proofs.YtakpdmkfengghaaW.PrintLast Go.Proofs.YtakpdmkfengghaaW.PrintMore Go.Proofs.Ytakpdmkfengghaa.Q Go.Proofs.Ytakpdmkfengghaa.Pe
set_option linter.unusedVariables false
set_option linter.unusedSimpArgs false

theorem lC_of {w : World} {A : Option Addr} {n : Nat} {l : List S42} (h : Kd.C k42 w A n l) : lC l := by
  intro x hx
  obtain ⟨j, hj⟩ := List.getElem?_of_mem hx
  have h0 : 0 < n := by have := (List.getElem?_eq_some_iff.1 hj).1; have := h.1; omega
  obtain ⟨ad, _, hc⟩ := h.2.2 h0
  obtain ⟨c, _, hK, _⟩ := hc j x hj
  obtain ⟨A1, c1, _, _, g1⟩ := k42_open hK
  exact Kd.C_max g1
theorem lF_of {w : World} {A : Option Addr} {n : Nat} {l : List S48} (h : Kd.C k48 w A n l) : lF l := by
  intro x hx
  obtain ⟨j, hj⟩ := List.getElem?_of_mem hx
  have h0 : 0 < n := by have := (List.getElem?_eq_some_iff.1 hj).1; have := h.1; omega
  obtain ⟨ad, _, hc⟩ := h.2.2 h0
  obtain ⟨c, _, hK, _⟩ := hc j x hj
  obtain ⟨A1, c1, A3, c3, A4, c4, _, _, g1, _, g3, _, g4⟩ := k48_open hK
  exact ⟨Kd.C_max g1, Kd.C_max g3, Kd.C_max g4⟩
end Go.Proofs.Ytakpdmkfengghaa.Wr
