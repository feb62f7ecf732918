/- The arena's log, gone through: the iterator. Conditions: the log is not empty; it lies in memory that the loop's body keeps. -/
import Derived.RangeFuncNested
import Derived.RangeFuncBox
import Derived.RangeFuncBound
import Derived.RangeFuncCalls
import Derived.RangeFuncLeaves
import Derived.Shelf.Abstract
import Derived.WalkKit
import Derived.OwnWalkIn
import Derived.TacticsInMore
import Derived.LoopNIn
import Derived.LoopIn
import Derived.Maps.AppendAt
import Derived.Test.YtelfiegocdjnoaaDoorAr1
import Derived.Test.YtelfiegocdjnoaaDoorStp
namespace Go.Proofs.YtelfiegocdjnoaaDoor.Ar
open Go Go.RowKit Go.Shelf Go.Proofs.YtelfiegocdjnoaaDoor.Sep Go.Proofs.YtelfiegocdjnoaaDoorW.PrintWords Go.Proofs.YtelfiegocdjnoaaDoorW.PrintLast Go.Proofs.YtelfiegocdjnoaaDoorW.PrintMore
set_option linter.unusedVariables false
set_option linter.unusedSimpArgs false
set_option maxHeartbeats 4000000
set_option maxRecDepth 100000
attribute [local go_sem] Oper.semAt_some
section
variable {F : Fence} {n : Nat} {P : Program} {ops : Array Oper} {Q : Exit → Act → World → Prop} {a : Act} {W : World} {rest : List Oper} {o : Oper}
theorem stop_atIn (op : Op) (_ho : o.op = op) (h : Stop (wpListIn F n P ops Q (o :: rest) a W)) : wpListIn F n P ops Q (o :: rest) a W := h.out
/-- A struct is put into a block that is new. -/
theorem store_newIn {t ty : TypeId} {p : Tmp} {v : Operand} {zs : Array Value} (seg : List Value) (ho : o.op = .store t (.tmp p) v) (hgd : o.guard = none) (hN : o.dst = none) (hs : seg.length = zs.size) (hp : a.eval (.tmp p) = .pointer (some ⟨W.heap.size, 0, none⟩))
    (hv : (a.eval v).cells.toList = seg) (ht : (P.info? t).map (·.size) = some seg.length) (h1 : ∀ q ∈ seg, q.oneCell' = true)
    (h : ∀ w1, W.grownBy w1 none → w1.heap[W.heap.size]? = some (.cells seg.toArray ty (0, 0)) → w1.heap.size = W.heap.size + 1 → wpListIn F n P ops Q rest a w1) : wpListIn F n P ops Q (o :: rest) a (W.alloc (.cells zs ty (0, 0))) := by
  refine wpListIn_plain hgd fun K hK => ?_
  have hh : (W.alloc (.cells zs ty (0, 0))).heap[W.heap.size]? = some (.cells zs ty (0, 0)) := heap_new W _
  have hr := run_store_run (P := P) (o := 0) t (a.eval v) seg hh hv ht (by omega) h1
  have hrun : (execOp a.eval o).run P (W.alloc (.cells zs ty (0, 0))) = .ok .skip ((W.alloc (.cells zs ty (0, 0))).setCells W.heap.size 0 seg) := by
    unfold execOp
    simp only [ho, hp, Sem.run_bind, Sem.run_pure, Result.andThen_ok, hr]
  have hsem : o.semAt F.round a.eval = execOp a.eval o := Oper.semAt_eq _ _ _ (fun c hc => by rw [ho] at hc; cases hc)
  unfold Oper.wpIn
  rw [hsem, hrun]
  refine ⟨fun f hf => ?_, ?_⟩
  · unfold Oper.about at hf
    rw [ho] at hf
    cases hf
  · rw [Oper.uponIn_skip, hN]
    refine hK _ _ ?_
    obtain ⟨s1, s2, s3, s4⟩ := setCells_same W.heap.size seg 0 (W.alloc (.cells zs ty (0, 0)))
    obtain ⟨cur, h4, h5, h6⟩ := setCells_row seg 0 (W.alloc (.cells zs ty (0, 0))) zs hh (by omega)
    have hc : cur = seg.toArray := by
      have : cur.toList = seg := by rw [h6, List.take_zero, List.drop_of_length_le (by rw [Array.length_toList]; omega)]; simp
      rw [← this]
    refine h _ ⟨s1, s2, s3, ?_, fun k hk _ => ?_⟩ (by rw [h4, hc]) (by rw [s4]; simp)
    · rw [s4]; simp
    · rw [setCells_far _ _ k (by omega)]
      exact Below.heap_alloc W _ k hk
end
def zAcc : Acc := ⟨0, 0, 0, 0, 0, 0, 0⟩
/-- What has come when k rounds are over. -/
def upt (L : List Acc) (k : Nat) : List (Nat × Acc) := (List.range k).map fun j => (j, L[j]?.getD zAcc)
theorem upt_succ (L : List Acc) (k : Nat) : upt L (k + 1) = upt L k ++ [(k, L[k]?.getD zAcc)] := by simp [upt, List.range_succ]
theorem upt_length (L : List Acc) (k : Nat) : (upt L k).length = k := by simp [upt]
abbrev encA (x : Nat × Acc) : Array Value := #[.int .i64 (x.1 : Int), .agg #[.int .i64 x.2.who, .int .i64 x.2.kind, .int .i64 x.2.at_, .int .u64 x.2.want, .int .u64 x.2.put, .int .u64 x.2.seen, .int .u64 x.2.left]]
/-- A log's cells. -/
def LogAt (w : World) (g : Nat) (L : List Acc) : Prop := ∀ j, j < L.length → w.cell? ⟨g, j * 7, none⟩ = some (.int .i64 (L[j]?.getD zAcc).who) ∧ w.cell? ⟨g, j * 7 + 1, none⟩ = some (.int .i64 (L[j]?.getD zAcc).kind) ∧ w.cell? ⟨g, j * 7 + 2, none⟩ = some (.int .i64 (L[j]?.getD zAcc).at_) ∧
  w.cell? ⟨g, j * 7 + 3, none⟩ = some (.int .u64 (L[j]?.getD zAcc).want) ∧ w.cell? ⟨g, j * 7 + 4, none⟩ = some (.int .u64 (L[j]?.getD zAcc).put) ∧ w.cell? ⟨g, j * 7 + 5, none⟩ = some (.int .u64 (L[j]?.getD zAcc).seen) ∧ w.cell? ⟨g, j * 7 + 6, none⟩ = some (.int .u64 (L[j]?.getD zAcc).left)
theorem LogAt.below {n₀ : Nat} {A B : World} {g : Nat} {L : List Acc} (h : Below n₀ A B) (hg : g < n₀) (hl : LogAt A g L) : LogAt B g L := fun j hj => by
  obtain ⟨h0, h1, h2, h3, h4, h5, h6⟩ := hl j hj
  exact ⟨(h.cell (p := ⟨g, _, none⟩) hg).trans h0, (h.cell (p := ⟨g, _, none⟩) hg).trans h1, (h.cell (p := ⟨g, _, none⟩) hg).trans h2, (h.cell (p := ⟨g, _, none⟩) hg).trans h3, (h.cell (p := ⟨g, _, none⟩) hg).trans h4, (h.cell (p := ⟨g, _, none⟩) hg).trans h5, (h.cell (p := ⟨g, _, none⟩) hg).trans h6⟩
theorem log1_in (F : Fence) (n : Nat) (h91 : F.fn 103) (hro : F.round = none) (hn : 1 ≤ n) (l Bs n₀ a g cap : Nat) (L : List Acc) (hreach : L.length ≤ 10000) (hg : g < n₀) (J Jx : List (Nat × Acc) → World → Prop) (W : World) (hJ : AbidesFrom W.heap.size J)
    (hY : ∀ pre x W, J pre W → pre.length < L.length → YieldAt F (n - 1) Tryd.prog l (encA x) W fun e W' =>
      (e = .returned (.bool true) ∧ J (pre ++ [x]) W' ∧ Below n₀ W W') ∨ (e = .returned (.bool false) ∧ Jx (pre ++ [x]) W'))
    (hBs : W.cell? ⟨Bs, 0, none⟩ = some (.pointer (some ⟨a, 0, none⟩))) (ha : W.cell? ⟨a, 1, none⟩ = some (.slice (some ⟨g, 0, none⟩) L.length cap)) (hc : LogAt W g L) (hn0 : n₀ ≤ W.heap.size) (h0 : J [] W) :
    CallsIn F n Tryd.prog 103 #[.func (.yield l) #[] #[], .pointer (some ⟨Bs, 0, none⟩)] W fun e W' => (∃ v, e = .returned v) ∧
      ((∃ ys, ys = upt L L.length ∧ J ys W') ∨ (∃ pre, (∃ k, k ≤ L.length ∧ pre = upt L k) ∧ Jx pre W')) := by
  refine callsIn_of_wp Tryd.func103 rfl h91 ?_ hro
  simp only [Tryd.ntmps103, List.size_toArray, List.length_cons, List.length_nil, Nat.reduceAdd, Nat.reduceSub, Array.replicate_succ, Array.replicate_zero, List.push_toArray, List.append_toArray, List.nil_append, List.cons_append]
  gi_wp2
  gi_loopw [12, 3, 4] (fun i i3 i4 wr => ∃ k : Nat, k ≤ L.length ∧ i = .int .i64 k ∧ J (upt L k) wr ∧ Below n₀ W wr)
    (fun i _ _ _ => L.length - (intOf i).toNat)
  case atStart => exact ⟨0, Nat.zero_le _, rfl, h0, Below.refl _ _⟩
  case round =>
    obtain ⟨k, hk, rfl, hJs, hnx⟩ := hrel
    by_cases hlt : k < L.length
    · obtain ⟨q0, q1, q2, q3, q4, q5, q6⟩ := hc.below hnx hg k hlt
      generalize hx : L[k]?.getD zAcc = x at q0 q1 q2 q3 q4 q5 q6
      gi_wp2_with (with_reducible refine stop_atIn (.store 98 (.tmp 4) (.tmp 16)) rfl ?_)
      refine ⟨?_⟩
      refine store_newIn [.int .i64 x.who, .int .i64 x.kind, .int .i64 x.at_, .int .u64 x.want, .int .u64 x.put, .int .u64 x.seen, .int .u64 x.left] rfl rfl rfl rfl rfl rfl rfl (by simp [Value.oneCell']) ?_
      intro w1 hg1 hb1 hs1
      have hJ1 : J (upt L k) w1 := hJ _ _ _ none hJs hg1 (fun r e => by cases e)
      have c0 : w1.cell? ⟨wr.heap.size, 0, none⟩ = some (.int .i64 x.who) := by simp [World.cell?, hb1]
      have c1 : w1.cell? ⟨wr.heap.size, 1, none⟩ = some (.int .i64 x.kind) := by simp [World.cell?, hb1]
      have c2 : w1.cell? ⟨wr.heap.size, 2, none⟩ = some (.int .i64 x.at_) := by simp [World.cell?, hb1]
      have c3 : w1.cell? ⟨wr.heap.size, 3, none⟩ = some (.int .u64 x.want) := by simp [World.cell?, hb1]
      have c4 : w1.cell? ⟨wr.heap.size, 4, none⟩ = some (.int .u64 x.put) := by simp [World.cell?, hb1]
      have c5 : w1.cell? ⟨wr.heap.size, 5, none⟩ = some (.int .u64 x.seen) := by simp [World.cell?, hb1]
      have c6 : w1.cell? ⟨wr.heap.size, 6, none⟩ = some (.int .u64 x.left) := by simp [World.cell?, hb1]
      have hnx1 : Below n₀ W w1 := hnx.trans ⟨hg1.os, hg1.tape, hg1.output, hg1.size, fun i hi => hg1.block i (Nat.lt_of_lt_of_le hi (Nat.le_trans hn0 hnx.size)) (by simp)⟩
      obtain ⟨fn, tmps, assign, body, hy, hR⟩ := hY _ (k, x) w1 hJ1 (by rw [upt_length]; exact hlt)
      gi_wp2
      refine hR.mono ?_
      rintro e W3 (⟨rfl, hJ3, hk3⟩ | ⟨rfl, hJx3⟩)
      · gi_wp2
        go_roundw
        case rel => exact ⟨k + 1, by omega, by simp, by rw [upt_succ, hx]; exact hJ3, hnx1.trans hk3⟩
        case measure => simp [intOf]; omega
      · gi_wp2
        refine bodyPost_ret (results_none rfl _ _ _) rfl ?_
        exact ⟨⟨_, rfl⟩, .inr ⟨_, ⟨k + 1, by omega, by rw [upt_succ, hx]⟩, hJx3⟩⟩
    · obtain rfl : k = L.length := by omega
      gi_wp2
      go_end0
      exact ⟨⟨_, rfl⟩, .inl ⟨_, rfl, hJs⟩⟩
end Go.Proofs.YtelfiegocdjnoaaDoor.Ar
