/- The document's writer: a store of what was answered. Conditions: the bytes stay below 2^40. -/
import Derived.Test.YtakpdmkfengghaaProg
import Derived.Test.YtakpdmkfengghaaSep
import Derived.Test.YtakpdmkfengghaaIn0
import Derived.Test.YtakpdmkfengghaaSep2
import Derived.Test.YtakpdmkfengghaaRf5
import Derived.Test.YtakpdmkfengghaaF46
import Derived.Test.YtakpdmkfengghaaF47
import Derived.Test.YtakpdmkfengghaaQ4
import Derived.Test.YtakpdmkfengghaaWp1
import Derived.StillTailTactics
import Derived.Below
import Derived.Deep.Draws
import Derived.Deep.AppendLies
import Derived.Maps.AppendAt
import Derived.OwnWalk
import Derived.Laws.BytesArg
import Derived.Laws.MakeOwn
import Derived.Laws.OwnMore
import Derived.Deep.OwnRows
import Derived.Tactics
import Derived.Lib.ConvBytes
import Derived.Laws.Slices
import Derived.WalkKit
import Derived.KernelRfl
import Derived.RowKit3
import Derived.Deep.LoopGhost
import Derived.Deep.QuietTactic
import Derived.BigQuiet
import Derived.WideLaws
import Derived.Deep.DeepCutAuto
import Derived.Deep.CutBlock
import Derived.Deep.RegionHeld3
import Derived.Laws.Rows
import Derived.Lib.AppendStr
import Derived.ArgAppend
import Derived.Laws.IdiomCopy
import Derived.OrdersHeld
import Derived.Laws.BitsLemmas
import Derived.RowKit
import Derived.Lib.SlBytesConst
namespace Go.Proofs.Ytakpdmkfengghaa.Rf
open Go Go.RowKit Go.Proofs.Ytakpdmkfengghaa.Sep Go.Proofs.YtakpdmkfengghaaW.PrintWords Go.Proofs.YtakpdmkfengghaaW.PrintLast Go.Proofs.YtakpdmkfengghaaW.PrintMore Go.Proofs.Ytakpdmkfengghaa.Q Go.Proofs.Ytakpdmkfengghaa.Pe Go.Proofs.Ytakpdmkfengghaa.Wr
set_option linter.unusedVariables false
set_option linter.unusedSimpArgs false

/-- The writer w in its block. -/
abbrev wst (g : Nat) (B : Option Addr) (d : Nat) (s : Wst) (F : List HP) : List HP := blk g #[.slice B s.1.length d, .int .i64 s.2] 61 :: prow (.slice B s.1.length d) s :: F
section
variable {ops : Array Oper} {rest : List Oper} {o : Oper} {a : Act} {Q : Exit → Act → World → Prop} {w0 W : World} {F : List HP}
theorem store_part {p : Tmp} {x : Operand} (ho : o.op = .store 61 (.tmp p) x) (hgd : o.guard = none) (hd : o.dst = none) {g : Nat} {B : Option Addr} {d : Nat} {s : Wst} {y z : Value} (hp : a.eval (.tmp p) = .pointer (some ⟨g, 0, none⟩)) (hx : a.eval x = .agg #[.slice B s.1.length d, .int .i64 s.2])
    (H : St w0 W (prow (.slice B s.1.length d) s :: blk g #[y, z] 61 :: F)) (h : ∀ w1, St w0 w1 (wst g B d s F) → wpList Try.prog ops Q rest a w1) : wpList Try.prog ops Q (o :: rest) a W := by
  have h2 := H.perm (.swap _ _ _)
  have hk0 := h2.cell 0
  have hk1 := h2.cell 1
  have hf0 := h2.frozen 0
  have hf1 := h2.frozen 1
  have h3 := h _ (h2.two (.slice B s.1.length d) (.int .i64 s.2))
  obtain ⟨od, oop, oty, opos, oaf, ogd⟩ := o
  simp only at ho hgd hd
  subst ho hgd hd
  refine wpList_plain rfl fun K hK => ?_
  unfold Oper.wp execOp
  simp only [hp, hx]
  clear h h2 H
  go_simp
  exact hK _ _ h3
end
end Go.Proofs.Ytakpdmkfengghaa.Rf
