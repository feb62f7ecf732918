/- A program among a statement's arguments, as the walks want it. No condition. -/
import Derived.Test.YtakpdmkfengghaaInA
import Derived.Test.YtakpdmkfengghaaKinds
namespace Go.Proofs.Ytakpdmkfengghaa.Open
open Go Go.RowKit Go.Proofs.YtakpdmkfengghaaW.PrintWords Go.Proofs.Ytakpdmkfengghaa.Q Go.Proofs.Ytakpdmkfengghaa.Wr
theorem wf_of {x : List S42 × List S48} (h : w29 x) : wfP x.1 x.2 :=
  ⟨fun c hc => ⟨(h.1 c hc).1, fun f hf => ((h.1 c hc).2 f hf).1⟩, fun f hf => ⟨(h.2 f hf).1, fun i hi => ((h.2 f hf).2.2.2.2 i hi).2.1⟩⟩
theorem in_of {W : World} {a : List S42 × List S48} {cs : Array Value} (hK : (Kd.pair (Kd.slice 42 k42) (Kd.slice 48 k48)).K W a cs.toList) (hw : w29 a) :
    ∃ A1 c1 A2 c2, cs = #[.slice A1 a.1.length c1, .slice A2 a.2.length c2] ∧ In W A1 c1 A2 c2 a.1 a.2 := by
  obtain ⟨x0, x1, hcs, ⟨A1, c1, rfl, l1, g1⟩, ⟨A2, c2, rfl, l2, g2⟩⟩ := hK
  exact ⟨A1, c1, A2, c2, by cases cs; simp_all, g1, l1, g2, l2, wf_of hw⟩
end Go.Proofs.Ytakpdmkfengghaa.Open
