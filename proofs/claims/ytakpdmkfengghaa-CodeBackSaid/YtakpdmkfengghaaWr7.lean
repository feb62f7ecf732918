/- The writer of a program's bytes: the small program that every statement asks for. Conditions: the bytes stay below 2^40. -/
import Derived.Test.YtakpdmkfengghaaProg
import Derived.Test.YtakpdmkfengghaaSep
import Derived.Test.YtakpdmkfengghaaWr6
import Derived.Test.YtakpdmkfengghaaWp1
import Derived.StillTailTactics
import Derived.Below
import Derived.Deep.Draws
import Derived.Deep.AppendLies
import Derived.Maps.AppendAt
import Derived.OwnWalk
import Derived.Laws.BytesArg
import Derived.Laws.MakeOwn
import Derived.Laws.OwnMore
import Derived.Deep.OwnRows
import Derived.Tactics
import Derived.Lib.ConvBytes
import Derived.Laws.Slices
import Derived.WalkKit
import Derived.KernelRfl
import Derived.RowKit3
import Derived.Deep.LoopGhost
import Derived.Deep.QuietTactic
import Derived.BigQuiet
import Derived.WideLaws
import Derived.Deep.DeepCutAuto
import Derived.Deep.CutBlock
import Derived.Deep.RegionHeld3
import Derived.Laws.Rows
import Derived.Lib.AppendStr
import Derived.ArgAppend
import Derived.Laws.IdiomCopy
import Derived.OrdersHeld
import Derived.Laws.BitsLemmas
import Derived.RowKit
import Derived.Lib.SlBytesConst
namespace Go.Proofs.Ytakpdmkfengghaa.Wr
open Go Go.RowKit Go.Proofs.Ytakpdmkfengghaa.Sep Go.Proofs.YtakpdmkfengghaaW.PrintWords Go.Proofs.YtakpdmkfengghaaW.PrintLast Go.Proofs.YtakpdmkfengghaaW.PrintMore Go.Proofs.Ytakpdmkfengghaa.Q
set_option linter.unusedVariables false
set_option linter.unusedSimpArgs false

def smallF : S48 := ⟨⟨#[102]⟩, [], 0, [], [⟨25, 1, 300⟩]⟩
theorem small_bytes : encN [] [smallF] = ([87, 68, 82, 49, 0, 1, 1, 102, 0, 0, 0, 1, 25, 1, 172, 2], 0) := by
  have v0 : vint 0 = [0] := vint_small (by decide)
  have v1 : vint 1 = [1] := vint_small (by decide)
  have v2 : vint 2 = [2] := vint_small (by decide)
  have v300 : vint 300 = [172, 2] := by rw [vint_step (by decide)]; simp [v2]
  have ho : okI ⟨25, 1, 300⟩ = true := by decide
  have hi : insB ⟨25, 1, 300⟩ = [25, 1, 172, 2] := by simp [insB, opN, v1, v300]
  have ht : (ByteArray.mk #[102]).size = 1 := rfl
  have hc : chars ⟨#[102]⟩ = [102] := rfl
  simp [encN, e3_, e2_, e1_, e0_, wAll, wFunc, smallF, wText, wCount, wKinds, wKind, wIns, v0, v1, ho, hi, ht, hc]
theorem small_wf : wfP [] [smallF] := ⟨by simp, by simp only [List.mem_singleton, forall_eq]; exact ⟨by show (1 : Nat) ≤ _; decide, by simp [smallF, i64ok]⟩⟩

/-- One element that lies in a block. -/
theorem C_one {α : Type} (d : Kd α) (w : World) (g : Nat) (cs : Array Value) (t : TypeId) (x : α) (h : w.heap[g]? = some (.cells cs t (0, 0))) (hK : d.K w x cs.toList) : Kd.C d w (some ⟨g, 0, none⟩) 1 [x] := by
  refine ⟨rfl, by decide, fun _ => ⟨_, rfl, fun j p hj => ?_⟩⟩
  match j, hj with
  | 0, hj =>
    simp only [List.getElem?_cons_zero, Option.some.injEq] at hj
    subst hj
    refine ⟨cs.toList, d.K_len hK, hK, fun i u hi => ?_⟩
    rw [Nat.zero_mul, Nat.zero_add]
    have ha : (⟨g, 0, none⟩ : Addr).add i = ⟨g, i, none⟩ := by unfold Addr.add; split <;> simp_all
    rw [ha]
    simp only [World.cell?, h]
    rw [Array.getElem?_toList] at hi
    simpa using hi

theorem conv12 (w : World) (g c : Nat) (h : ∀ (j : Nat) (u : Value), (u8s [87, 68, 82, 49, 0, 1, 1, 102, 0, 0, 0, 1, 25, 1, 172, 2])[j]? = some u → w.cell? ⟨g, j, none⟩ = some u) :
    (convert 31 9 (.slice (some ⟨g, 12, none⟩) 4 (c - 12))).run Try.prog w = .ok (.string ⟨#[25, 1, 172, 2]⟩) w := by
  have := run_convert_bytes_arg (P := Try.prog) w 31 5 Try.underlying31 Try.underlying5 g 12 4 (c - 12) [25, 1, 172, 2] rfl (fun i hi => ?_) 9 Try.underlying9
  · simpa [strOfNums] using this
  · match i, hi with
    | 0, _ => exact h 12 _ rfl
    | 1, _ => exact h 13 _ rfl
    | 2, _ => exact h 14 _ rfl
    | 3, _ => exact h 15 _ rfl

set_option maxHeartbeats 8000000 in
set_option maxRecDepth 100000 in
theorem coded (w : World) : Calls Try.prog 8 #[] w fun en w' => en = .returned (.bool true) ∧ Below w.heap.size w w' := by
  have hS := (((St.start w).alloc #[.int .i64 25, .int .i64 1, .int .i64 300] 23).alloc #[.string ⟨#[102]⟩, .slice none 0 0, .int .i64 0, .slice none 0 0, .slice (some ⟨w.heap.size, 0, none⟩) 1 1] 48)
  have hb := Aside.mk hS.below
  have h1 := hS.heap
  have h2 := (hS.perm (.swap _ _ _)).heap
  have hI := C_one k23 _ _ _ _ (⟨25, 1, 300⟩ : S23) h2 (k23_mk _ _)
  have hF := C_one k48 _ _ _ _ smallF h1 (k48_mk (A1 := none) (c1 := 0) (A3 := none) (c3 := 0) (A4 := some ⟨w.heap.size, 0, none⟩) (c4 := 1) _ smallF (Nat.zero_le _) (Kd.C_nil _ _) (Nat.zero_le _) (Kd.C_nil _ _) (Nat.le_refl _) hI)
  have HF := Aside.mk hF
  clear hS h1 h2 hI hF
  go_enter Try.func8, Try.ntmps8
  go_wp2_with (go_at_call 12; refine (encode none 0 (some ⟨_, 0, none⟩) 1 [] [smallF] small_wf _ (Kd.C_nil _ _) (by simpa using HF.out)).mono ?_; rw [small_bytes]; rintro en w1 ⟨v, rfl, h1⟩; obtain ⟨gb, c, rfl, hc, hcell⟩ := h1.row_some (by decide); have HS := Aside.mk h1; have HC := Aside.mk hcell; clear h1 hcell; have hc16 : 16 ≤ c := hc; clear hc; have hcv := conv12 w1 gb c HC.out)
  go_ret
  exact ⟨rfl, below_step hb.out HS.out.below⟩
end Go.Proofs.Ytakpdmkfengghaa.Wr
