/- Stores into blocks and loads out of them, as steps of a walk. Condition: the block is known whole. -/
import Derived.Test.YtelfiegocdjnoaaDoorSep
import Derived.Test.YtelfiegocdjnoaaDoorMrW0
import Derived.Laws.IdiomCopy
namespace Go.Proofs.YtelfiegocdjnoaaDoor.Sep
open Go Go.RowKit Go.Proofs.YtelfiegocdjnoaaDoorW.PrintWords Go.Proofs.YtelfiegocdjnoaaDoorW.PrintLast Go.Proofs.YtelfiegocdjnoaaDoorW.PrintMore
set_option linter.unusedVariables false
set_option linter.unusedSimpArgs false
/-- Cells from a place on are others. -/
def putAt (cs : Array Value) (off : Nat) (seg : List Value) : Array Value := (cs.toList.take off ++ seg ++ cs.toList.drop (off + seg.length)).toArray
theorem St.setCells {w0 w : World} {L : List HP} {g : Nat} {cs : Array Value} {t : TypeId} (h : St w0 w (blk g cs t :: L)) (off : Nat) (seg : List Value) (hf : off + seg.length ≤ cs.size) :
    St w0 (w.setCells g off seg) (blk g (putAt cs off seg) t :: L) := by
  have hg := h.ge
  obtain ⟨S, h1, S1, S2, hS, hd, h2, h3⟩ := h.own
  obtain ⟨s1, s2, s3, s4⟩ := setCells_same g seg off w
  obtain ⟨cur, h4, h5, h6⟩ := setCells_row seg off w cs h2.2 hf
  have hc : cur = putAt cs off seg := by
    unfold putAt
    rw [← h6]
  refine ⟨h.below.trans ⟨s1, s2, s3, by rw [s4]; exact Nat.le_refl _, fun k hk => setCells_far _ _ k (by omega)⟩, S, h1, S1, S2, hS, hd, ⟨h2.1, by rw [h4, hc]⟩, (seps L).loc (fun k hk => setCells_far _ _ k ?_) h3⟩
  rintro rfl
  exact hd _ ((h2.1 _).2 rfl) hk
/-- The first n parts in another order: 'H.order n [2, 0, 1] rfl rfl', at the list that is wanted. -/
theorem St.order {w0 w : World} {M : List HP} (h : St w0 w M) (n : Nat) (is : List Nat) (hn : (M.take n).length = n) (hp : is.isPerm (List.range n) = true) : St w0 w (is.map (fun i => M.getD i emp) ++ M.drop n) := by
  refine h.perm ?_
  have h1 : is.Perm (List.range n) := List.isPerm_iff.1 hp
  have h2 : (List.range n).map (fun i => M.getD i emp) = M.take n := by
    refine List.ext_getElem? fun i => ?_
    by_cases hi : i < n
    · have hl : i < M.length := by rw [List.length_take] at hn; omega
      simp [hi, hl, List.getElem?_take, List.getD_eq_getElem?_getD]
    · rw [List.getElem?_eq_none (by simp; omega), List.getElem?_eq_none (by rw [hn]; omega)]
  have h3 := h1.map (fun i => M.getD i emp)
  rw [h2] at h3
  have h4 : (M.take n ++ M.drop n).Perm (is.map (fun i => M.getD i emp) ++ M.drop n) := (h3.symm).append_right _
  rwa [List.take_append_drop] at h4
section
variable {P : Program} {ops : Array Oper} {rest : List Oper} {o : Oper} {a : Act} {Q : Exit → Act → World → Prop} {w0 W : World} {F : List HP}
theorem st_run_store {t : TypeId} {p v : Operand} (ho : o.op = .store t p v) {g off : Nat} {cs : Array Value} {ty : TypeId} {seg : List Value} (hp : a.eval p = .pointer (some ⟨g, off, none⟩)) (hv : (a.eval v).cells.toList = seg)
    (ht : (P.info? t).map (·.size) = some seg.length) (hf : off + seg.length ≤ cs.size) (h1 : ∀ q ∈ seg, q.oneCell' = true) (H : St w0 W (blk g cs ty :: F)) : (execOp a.eval o).run P W = .ok .skip (W.setCells g off seg) := by
  have hr := run_store_run (P := P) t (a.eval v) seg H.heap hv ht hf h1
  unfold execOp
  simp only [ho, hp, Sem.run_bind, Sem.run_pure, Result.andThen_ok, hr]
/-- A store, as an arm of a walk. -/
theorem st_store {t : TypeId} {p : Tmp} {v : Operand} (ho : o.op = .store t (.tmp p) v) (hgd : o.guard = none) (hN : o.dst = none) {g off : Nat} {cs : Array Value} {ty : TypeId} (seg : List Value) (cs' : Array Value) (hp : a.eval (.tmp p) = .pointer (some ⟨g, off, none⟩))
    (hv : (a.eval v).cells.toList = seg) (ht : (P.info? t).map (·.size) = some seg.length) (hf : off + seg.length ≤ cs.size) (h1 : ∀ q ∈ seg, q.oneCell' = true) (H : St w0 W (blk g cs ty :: F)) (he : putAt cs off seg = cs')
    (h : ∀ w1, St w0 w1 (blk g cs' ty :: F) → wpList P ops Q rest a w1) : wpList P ops Q (o :: rest) a W :=
  store_event hgd ho hN (st_run_store ho hp hv ht hf h1 H) fun w1 hw => h w1 (by rw [hw, ← he]; exact H.setCells off seg hf)
/-- A walk stops here: 'with_reducible refine stop_at (.store 168 (.tmp 54) (.tmp 52)) rfl ?_', as an arm; behind the walk 'refine ⟨?_⟩'. -/
structure Stop (p : Prop) : Prop where mk :: (out : p)
theorem stop_at (op : Op) (_ho : o.op = op) (h : Stop (wpList P ops Q (o :: rest) a W)) : wpList P ops Q (o :: rest) a W := h.out
end
end Go.Proofs.YtelfiegocdjnoaaDoor.Sep
