/- Two programs that came in: are they the same, by the document? No condition. -/
import Derived.Test.YtakpdmkfengghaaInA
import Derived.Test.YtakpdmkfengghaaPe2
namespace Go.Proofs.Ytakpdmkfengghaa.Wr
open Go Go.RowKit Go.Proofs.Ytakpdmkfengghaa.Sep Go.Proofs.YtakpdmkfengghaaW.PrintWords Go.Proofs.YtakpdmkfengghaaW.PrintLast Go.Proofs.YtakpdmkfengghaaW.PrintMore Go.Proofs.Ytakpdmkfengghaa.Q Go.Proofs.Ytakpdmkfengghaa.Pe
set_option linter.unusedVariables false
set_option linter.unusedSimpArgs false

theorem lC_of {w : World} {A : Option Addr} {n : Nat} {l : List S42} (h : Kd.C k42 w A n l) : lC l := by
  intro x hx
  obtain ⟨j, hj⟩ := List.getElem?_of_mem hx
  have h0 : 0 < n := by have := (List.getElem?_eq_some_iff.1 hj).1; have := h.1; omega
  obtain ⟨ad, _, hc⟩ := h.2.2 h0
  obtain ⟨c, _, hK, _⟩ := hc j x hj
  obtain ⟨A1, c1, _, _, g1⟩ := k42_open hK
  exact Kd.C_max g1
theorem lF_of {w : World} {A : Option Addr} {n : Nat} {l : List S48} (h : Kd.C k48 w A n l) : lF l := by
  intro x hx
  obtain ⟨j, hj⟩ := List.getElem?_of_mem hx
  have h0 : 0 < n := by have := (List.getElem?_eq_some_iff.1 hj).1; have := h.1; omega
  obtain ⟨ad, _, hc⟩ := h.2.2 h0
  obtain ⟨c, _, hK, _⟩ := hc j x hj
  obtain ⟨A1, c1, A3, c3, A4, c4, _, _, g1, _, g3, _, g4⟩ := k48_open hK
  exact ⟨Kd.C_max g1, Kd.C_max g3, Kd.C_max g4⟩
theorem In.same {w : World} {A1 : Option Addr} {c1 : Nat} {A2 : Option Addr} {c2 : Nat} {cs : List S42} {fs : List S48} (h : In w A1 c1 A2 c2 cs fs) {B1 : Option Addr} {d1 : Nat} {B2 : Option Addr} {d2 : Nat} {cs' : List S42} {fs' : List S48} (h' : In w B1 d1 B2 d2 cs' fs') :
    Calls Try.prog 16 #[.agg #[.slice A1 cs.length c1, .slice A2 fs.length c2], .agg #[.slice B1 cs'.length d1, .slice B2 fs'.length d2]] w fun e w' => e = .returned (.bool (decide (cs = cs' ∧ fs = fs'))) ∧ Below w.heap.size w w' := by
  obtain ⟨k, hk⟩ := Evt_at (same_ref cs cs' fs fs' (Kd.C_max h.r1) (Kd.C_max h.r2) (lC_of h.r1) (lF_of h.r2))
  exact windrowref13_Same.calls k A1 c1 cs A2 c2 fs B1 d1 cs' B2 d2 fs' _ w h.r1 h.l1 h.r2 h.l2 h'.r1 h'.l1 h'.r2 h'.l2 hk
end Go.Proofs.Ytakpdmkfengghaa.Wr
