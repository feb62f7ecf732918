/- Has every program the bytes that the document says: the statement's walk. Conditions: the bytes stay below 2^40. -/
import Derived.Test.YtakpdmkfengghaaProg
import Derived.Test.YtakpdmkfengghaaSep
import Derived.Test.YtakpdmkfengghaaWr7
import Derived.Test.YtakpdmkfengghaaIn0
import Derived.Test.YtakpdmkfengghaaRf7
import Derived.Test.YtakpdmkfengghaaPinj
import Derived.Test.YtakpdmkfengghaaPl
import Derived.Test.YtakpdmkfengghaaF14
import Derived.Test.YtakpdmkfengghaaWp1
import Derived.StillTailTactics
import Derived.Below
import Derived.Deep.Draws
import Derived.Deep.AppendLies
import Derived.Maps.AppendAt
import Derived.OwnWalk
import Derived.Laws.BytesArg
import Derived.Laws.MakeOwn
import Derived.Laws.OwnMore
import Derived.Deep.OwnRows
import Derived.Tactics
import Derived.Lib.ConvBytes
import Derived.Laws.Slices
import Derived.WalkKit
import Derived.KernelRfl
import Derived.RowKit3
import Derived.Deep.LoopGhost
import Derived.Deep.QuietTactic
import Derived.BigQuiet
import Derived.WideLaws
import Derived.Deep.DeepCutAuto
import Derived.Deep.CutBlock
import Derived.Deep.RegionHeld3
import Derived.Laws.Rows
import Derived.Lib.AppendStr
import Derived.ArgAppend
import Derived.Laws.IdiomCopy
import Derived.OrdersHeld
import Derived.Laws.BitsLemmas
import Derived.RowKit
import Derived.Lib.SlBytesConst
namespace Go.Proofs.Ytakpdmkfengghaa.Wr
open Go Go.RowKit Go.Proofs.Ytakpdmkfengghaa.Sep Go.Proofs.YtakpdmkfengghaaW.PrintWords Go.Proofs.YtakpdmkfengghaaW.PrintLast Go.Proofs.YtakpdmkfengghaaW.PrintMore Go.Proofs.Ytakpdmkfengghaa.Q Go.Proofs.Ytakpdmkfengghaa.Pe
set_option linter.unusedVariables false
set_option linter.unusedSimpArgs false
set_option maxHeartbeats 8000000 in
set_option maxRecDepth 100000 in
theorem law_writes (A1 : Option Addr) (c1 : Nat) (A2 : Option Addr) (c2 : Nat) (cs : List S42) (fs : List S48) (w : World) (hp : In w A1 c1 A2 c2 cs fs) :
    Calls Try.prog 4 #[.agg #[.slice A1 cs.length c1, .slice A2 fs.length c2]] w fun en w' => en = .returned (.bool true) ∧ Below w.heap.size w w' := by
  have HP := Aside.mk hp
  have H0 : Aside (St w (w.alloc (.cells #[.slice A1 cs.length c1, .slice A2 fs.length c2] 29)) (blk w.heap.size #[.slice A1 cs.length c1, .slice A2 fs.length c2] 29 :: [])) := ⟨(St.start w).alloc _ _⟩
  clear hp
  by_cases lp : lightP cs fs = true
  · have hb1 : decide ((encN cs fs).1 = (refN cs fs).1) = true := by rw [ref_enc]; exact decide_eq_true rfl
    have hb2 : ((encN cs fs).2 == (refN cs fs).2) = true := by rw [ref_enc]; exact beq_self_eq_true _
    have HB := Aside.mk ((ref_enc cs fs) ▸ isB_enc cs fs : isB (refN cs fs).1)
    go_enter Try.func4, Try.ntmps4
    go_wp2_with (first
      | (go_at_call 11; refine (In.light (HP.out.below H0.out.below)).mono ?_; rintro e w1 ⟨rfl, hb⟩; have h1 := H0.out.step hb; have x0 := h1.cell 0; have x1 := h1.cell 1; have H1 := Aside.mk h1; clear h1 hb)
      | (go_at_call 12; refine (In.encode (HP.out.below H1.out.below)).mono ?_; rintro e w2 ⟨E1, k1, rfl, hs⟩; have h1 := H1.out.join hs; have x0 := (h1.pick 1 rfl).cell 0; have x1 := (h1.pick 1 rfl).cell 1; have H2 := Aside.mk h1; clear h1 hs)
      | (go_at_call 13; refine (Rf.ref_encode A1 c1 A2 c2 cs fs HP.out.wf _ (HP.out.below H2.out.below).r1 (HP.out.below H2.out.below).r2).mono ?_; rintro e w3 ⟨E2, k2, rfl, hs⟩; have h1 := H2.out.join hs; have H3 := Aside.mk h1; clear h1 hs)
      | (go_at_call 8; refine (coded _).mono ?_; rintro e w4 ⟨rfl, hb⟩; have h1 := H3.out.step hb; have H4 := Aside.mk h1; clear h1 hb)
      | (go_at_call 14; refine (bytes_ (row_reads (St.rest H4.out)).2 (row_cap (St.rest H4.out)) (row_reads H4.out).2 (row_cap H4.out) (isB_enc _ _) HB.out).mono ?_; rintro e w5 ⟨rfl, hb⟩; have h1 := H4.out.step hb; have H5 := Aside.mk h1; clear h1 hb))
    go_ret
    exact ⟨rfl, H5.out.below⟩
  · have lp1 : lightP cs fs = false := by simpa using lp
    go_enter Try.func4, Try.ntmps4
    go_wp2_with (first
      | (go_at_call 11; refine (In.light (HP.out.below H0.out.below)).mono ?_; rintro e w1 ⟨rfl, hb⟩; have h1 := H0.out.step hb; have H1 := Aside.mk h1; clear h1 hb)
      | (go_at_call 8; refine (coded _).mono ?_; rintro e w9 ⟨rfl, hb⟩; have H9 := Aside.mk (H1.out.step hb); clear hb))
    go_ret
    exact ⟨rfl, H9.out.below⟩
end Go.Proofs.Ytakpdmkfengghaa.Wr
