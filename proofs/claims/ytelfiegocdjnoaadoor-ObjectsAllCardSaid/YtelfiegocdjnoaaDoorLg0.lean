/- The arena's log, gone through: the iterator. Conditions: the log is not empty; it lies in memory that the loop's body keeps. -/
import Derived.RangeFuncNested
import Derived.RangeFuncBox
import Derived.RangeFuncBound
import Derived.RangeFuncCalls
import Derived.RangeFuncLeaves
import Derived.Shelf.Abstract
import Derived.WalkKit
import Derived.OwnWalkIn
import Derived.TacticsInMore
import Derived.LoopNIn
import Derived.LoopIn
import Derived.Maps.AppendAt
import Derived.Test.YtelfiegocdjnoaaDoorMgC
import Derived.Test.YtelfiegocdjnoaaDoorStp
namespace Go.Proofs.YtelfiegocdjnoaaDoor.Ar
open Go Go.RowKit Go.Shelf Go.Proofs.YtelfiegocdjnoaaDoor.Sep Go.Proofs.YtelfiegocdjnoaaDoorW.PrintWords Go.Proofs.YtelfiegocdjnoaaDoorW.PrintLast Go.Proofs.YtelfiegocdjnoaaDoorW.PrintMore
set_option linter.unusedVariables false
set_option linter.unusedSimpArgs false
set_option maxHeartbeats 4000000
set_option maxRecDepth 100000
attribute [local go_sem] Oper.semAt_some
section
variable {F : Fence} {n : Nat} {P : Program} {ops : Array Oper} {Q : Exit → Act → World → Prop} {a : Act} {W : World} {rest : List Oper} {o : Oper}
theorem stop_atIn (op : Op) (_ho : o.op = op) (h : Stop (wpListIn F n P ops Q (o :: rest) a W)) : wpListIn F n P ops Q (o :: rest) a W := h.out
/-- A struct is put into a block that is new. -/
theorem store_newIn {t ty : TypeId} {p : Tmp} {v : Operand} {zs : Array Value} (seg : List Value) (ho : o.op = .store t (.tmp p) v) (hgd : o.guard = none) (hN : o.dst = none) (hs : seg.length = zs.size) (hp : a.eval (.tmp p) = .pointer (some ⟨W.heap.size, 0, none⟩))
    (hv : (a.eval v).cells.toList = seg) (ht : (P.info? t).map (·.size) = some seg.length) (h1 : ∀ q ∈ seg, q.oneCell' = true)
    (h : ∀ w1, W.grownBy w1 none → w1.heap[W.heap.size]? = some (.cells seg.toArray ty (0, 0)) → w1.heap.size = W.heap.size + 1 → wpListIn F n P ops Q rest a w1) : wpListIn F n P ops Q (o :: rest) a (W.alloc (.cells zs ty (0, 0))) := by
  refine wpListIn_plain hgd fun K hK => ?_
  have hh : (W.alloc (.cells zs ty (0, 0))).heap[W.heap.size]? = some (.cells zs ty (0, 0)) := heap_new W _
  have hr := run_store_run (P := P) (o := 0) t (a.eval v) seg hh hv ht (by omega) h1
  have hrun : (execOp a.eval o).run P (W.alloc (.cells zs ty (0, 0))) = .ok .skip ((W.alloc (.cells zs ty (0, 0))).setCells W.heap.size 0 seg) := by
    unfold execOp
    simp only [ho, hp, Sem.run_bind, Sem.run_pure, Result.andThen_ok, hr]
  have hsem : o.semAt F.round a.eval = execOp a.eval o := Oper.semAt_eq _ _ _ (fun c hc => by rw [ho] at hc; cases hc)
  unfold Oper.wpIn
  rw [hsem, hrun]
  refine ⟨fun f hf => ?_, ?_⟩
  · unfold Oper.about at hf
    rw [ho] at hf
    cases hf
  · rw [Oper.uponIn_skip, hN]
    refine hK _ _ ?_
    obtain ⟨s1, s2, s3, s4⟩ := setCells_same W.heap.size seg 0 (W.alloc (.cells zs ty (0, 0)))
    obtain ⟨cur, h4, h5, h6⟩ := setCells_row seg 0 (W.alloc (.cells zs ty (0, 0))) zs hh (by omega)
    have hc : cur = seg.toArray := by
      have : cur.toList = seg := by rw [h6, List.take_zero, List.drop_of_length_le (by rw [Array.length_toList]; omega)]; simp
      rw [← this]
    refine h _ ⟨s1, s2, s3, ?_, fun k hk _ => ?_⟩ (by rw [h4, hc]) (by rw [s4]; simp)
    · rw [s4]; simp
    · rw [setCells_far _ _ k (by omega)]
      exact Below.heap_alloc W _ k hk
end
def zAcc : Acc := ⟨0, 0, 0, 0, 0, 0, 0⟩
/-- A log's cells. -/
def LogAt (w : World) (g : Nat) (L : List Acc) : Prop := ∀ j, j < L.length → w.cell? ⟨g, j * 7, none⟩ = some (.int .i64 (L[j]?.getD zAcc).who) ∧ w.cell? ⟨g, j * 7 + 1, none⟩ = some (.int .i64 (L[j]?.getD zAcc).kind) ∧ w.cell? ⟨g, j * 7 + 2, none⟩ = some (.int .i64 (L[j]?.getD zAcc).at_) ∧
  w.cell? ⟨g, j * 7 + 3, none⟩ = some (.int .u64 (L[j]?.getD zAcc).want) ∧ w.cell? ⟨g, j * 7 + 4, none⟩ = some (.int .u64 (L[j]?.getD zAcc).put) ∧ w.cell? ⟨g, j * 7 + 5, none⟩ = some (.int .u64 (L[j]?.getD zAcc).seen) ∧ w.cell? ⟨g, j * 7 + 6, none⟩ = some (.int .u64 (L[j]?.getD zAcc).left)
theorem LogAt.below {n₀ : Nat} {A B : World} {g : Nat} {L : List Acc} (h : Below n₀ A B) (hg : g < n₀) (hl : LogAt A g L) : LogAt B g L := fun j hj => by
  obtain ⟨h0, h1, h2, h3, h4, h5, h6⟩ := hl j hj
  exact ⟨(h.cell (p := ⟨g, _, none⟩) hg).trans h0, (h.cell (p := ⟨g, _, none⟩) hg).trans h1, (h.cell (p := ⟨g, _, none⟩) hg).trans h2, (h.cell (p := ⟨g, _, none⟩) hg).trans h3, (h.cell (p := ⟨g, _, none⟩) hg).trans h4, (h.cell (p := ⟨g, _, none⟩) hg).trans h5, (h.cell (p := ⟨g, _, none⟩) hg).trans h6⟩
end Go.Proofs.YtelfiegocdjnoaaDoor.Ar
