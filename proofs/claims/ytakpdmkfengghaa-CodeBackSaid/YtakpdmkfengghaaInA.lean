/- A program that came in: what light answers of it. No condition. -/
import Derived.Test.YtakpdmkfengghaaWr7
import Derived.Test.YtakpdmkfengghaaPl
namespace Go.Proofs.Ytakpdmkfengghaa.Wr
open Go Go.RowKit Go.Proofs.Ytakpdmkfengghaa.Sep Go.Proofs.YtakpdmkfengghaaW.PrintWords Go.Proofs.YtakpdmkfengghaaW.PrintLast Go.Proofs.YtakpdmkfengghaaW.PrintMore Go.Proofs.Ytakpdmkfengghaa.Q Go.Proofs.Ytakpdmkfengghaa.Pe
set_option linter.unusedVariables false
set_option linter.unusedSimpArgs false

/-- A program that came in. -/
structure In (w : World) (A1 : Option Addr) (c1 : Nat) (A2 : Option Addr) (c2 : Nat) (cs : List S42) (fs : List S48) : Prop where
  r1 : Kd.C k42 w A1 cs.length cs
  l1 : cs.length ≤ c1
  r2 : Kd.C k48 w A2 fs.length fs
  l2 : fs.length ≤ c2
  wf : wfP cs fs
theorem In.below {w w' : World} {A1 : Option Addr} {c1 : Nat} {A2 : Option Addr} {c2 : Nat} {cs : List S42} {fs : List S48} (h : In w A1 c1 A2 c2 cs fs) (hb : Below w.heap.size w w') : In w' A1 c1 A2 c2 cs fs := ⟨Kd.C_below h.r1 hb, h.l1, Kd.C_below h.r2 hb, h.l2, h.wf⟩
theorem In.light {w : World} {A1 : Option Addr} {c1 : Nat} {A2 : Option Addr} {c2 : Nat} {cs : List S42} {fs : List S48} (h : In w A1 c1 A2 c2 cs fs) :
    Calls Try.prog 11 #[.agg #[.slice A1 cs.length c1, .slice A2 fs.length c2]] w fun e w' => e = .returned (.bool (lightP cs fs)) ∧ Below w.heap.size w w' := by
  obtain ⟨k, hk⟩ := Evt_at (light_code cs fs)
  exact windrowlaw13_light.calls k A1 c1 cs A2 c2 fs _ w h.r1 h.l1 h.r2 h.l2 hk
end Go.Proofs.Ytakpdmkfengghaa.Wr
