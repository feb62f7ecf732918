/- Ownership of memory: all blocks that a call made, as they were then (snap), or written into since (wrtn). No condition. -/
import Derived.Test.YtakpdmkfengghaaSep
set_option linter.unusedVariables false
set_option linter.unusedSimpArgs false
namespace Go.Proofs.Ytakpdmkfengghaa.Sep
open Go Go.RowKit

theorem size_of_some {w : World} {k : Nat} {o : Obj} (h : w.heap[k]? = some o) : k < w.heap.size := (Array.getElem?_eq_some_iff.1 h).1
theorem lt_of_same {w w1 : World} {k : Nat} (h : w.heap[k]? = w1.heap[k]?) (hk : k < w1.heap.size) : k < w.heap.size := by
  rw [Array.getElem?_eq_getElem hk] at h
  exact size_of_some h
/-- The blocks a .. b as they are in w1. -/
def snap (w1 : World) (a b : Nat) : HP :=
  ⟨fun w S => (∀ k, S k ↔ a ≤ k ∧ k < b) ∧ b ≤ w1.heap.size ∧ ∀ k, a ≤ k → k < b → w.heap[k]? = w1.heap[k]?,
   fun hk ⟨hS, hb, h⟩ => ⟨hS, hb, fun k h1 h2 => (hk k ((hS k).2 ⟨h1, h2⟩)).trans (h k h1 h2)⟩,
   fun ⟨hS, hb, h⟩ k hk => lt_of_same (h k ((hS k).1 hk).1 ((hS k).1 hk).2) (Nat.lt_of_lt_of_le ((hS k).1 hk).2 hb)⟩
/-- A block, and what it was: the same type, mark and size; the cells that 'keep' names are as they were. -/
def Was (keep : TypeId → Nat → Prop) (o o1 : Option Obj) : Prop :=
  match o1 with
  | some (.cells cs1 e fr) => ∃ cs, o = some (.cells cs e fr) ∧ cs.size = cs1.size ∧ ∀ j, keep e j → cs[j]? = cs1[j]?
  | x => o = x
theorem Was.rfl_ (keep : TypeId → Nat → Prop) (o : Option Obj) : Was keep o o := by
  unfold Was
  split
  · exact ⟨_, rfl, rfl, fun _ _ => rfl⟩
  · rfl
theorem Was.cells {keep : TypeId → Nat → Prop} {o : Option Obj} {cs1 : Array Value} {e : TypeId} {fr : Nat × Nat} (h : Was keep o (some (.cells cs1 e fr))) : ∃ cs, o = some (.cells cs e fr) ∧ cs.size = cs1.size ∧ ∀ j, keep e j → cs[j]? = cs1[j]? := h
theorem Was.some_ {keep : TypeId → Nat → Prop} {o : Option Obj} {x : Obj} (h : Was keep o (some x)) : ∃ y, o = some y := by
  unfold Was at h
  split at h
  · exact ⟨_, h.choose_spec.1⟩
  · exact ⟨x, h⟩
/-- The blocks a .. b, written into since w1. -/
def wrtn (keep : TypeId → Nat → Prop) (w1 : World) (a b : Nat) : HP :=
  ⟨fun w S => (∀ k, S k ↔ a ≤ k ∧ k < b) ∧ b ≤ w1.heap.size ∧ ∀ k, a ≤ k → k < b → Was keep w.heap[k]? w1.heap[k]?,
   fun {w w'} S hk ⟨hS, hb, h⟩ => ⟨hS, hb, fun k h1 h2 => by rw [hk k ((hS k).2 ⟨h1, h2⟩)]; exact h k h1 h2⟩,
   fun {w} S ⟨hS, hb, h⟩ k hk => by
     have h1 := h k ((hS k).1 hk).1 ((hS k).1 hk).2
     rw [Array.getElem?_eq_getElem (Nat.lt_of_lt_of_le ((hS k).1 hk).2 hb)] at h1
     obtain ⟨y, hy⟩ := h1.some_
     exact size_of_some hy⟩
variable {w0 w w1 : World} {L : List HP} {a b : Nat} {keep : TypeId → Nat → Prop}
/-- What a call made. -/
theorem St.of_call (hb : Below w.heap.size w w1) : St w w1 [snap w1 w.heap.size w1.heap.size] :=
  ⟨hb, fun k => w.heap.size ≤ k ∧ k < w1.heap.size, fun k hk => hk.1, fun k => w.heap.size ≤ k ∧ k < w1.heap.size, fun _ => False, fun k => by simp, fun _ _ h => h, ⟨fun k => Iff.rfl, Nat.le_refl _, fun _ _ _ => rfl⟩, fun k h => h⟩
theorem St.to_mut (h : St w0 w (snap w1 a b :: L)) (keep : TypeId → Nat → Prop) : St w0 w (wrtn keep w1 a b :: L) :=
  h.mono fun {S} ⟨hS, hb, hk⟩ => ⟨hS, hb, fun k h1 h2 => by rw [hk k h1 h2]; exact Was.rfl_ keep _⟩
theorem St.snap_same (h : St w0 w (snap w1 a b :: L)) : b ≤ w1.heap.size ∧ ∀ k, a ≤ k → k < b → w.heap[k]? = w1.heap[k]? := by
  obtain ⟨S, h1, S1, S2, hS, hd, h2, h3⟩ := h.own
  exact h2.2
theorem St.mut_was (h : St w0 w (wrtn keep w1 a b :: L)) : ∀ k, a ≤ k → k < b → Was keep w.heap[k]? w1.heap[k]? := by
  obtain ⟨S, h1, S1, S2, hS, hd, h2, h3⟩ := h.own
  exact h2.2.2
/-- A store into one of the blocks, to a cell that 'keep' doesn't name. -/
theorem St.mut_set (h : St w0 w (wrtn keep w1 a b :: L)) {g : Nat} (h1 : a ≤ g) (h2 : g < b) {cs1 : Array Value} {e : TypeId} {fr : Nat × Nat} (hg : w1.heap[g]? = some (.cells cs1 e fr)) (j : Nat) (hj : ¬ keep e j) (u : Value) :
    St w0 (w.setCell ⟨g, j, none⟩ u) (wrtn keep w1 a b :: L) := by
  obtain ⟨S, g1, S1, S2, hS, hd, ⟨p1, p2, p3⟩, g3⟩ := h.own
  have hgS : S1 g := (p1 g).2 ⟨h1, h2⟩
  have hge : w0.heap.size ≤ g := g1 g ((hS g).2 (.inl hgS))
  refine ⟨h.below.setCell hge u, S, g1, S1, S2, hS, hd, ⟨p1, p2, fun k k1 k2 => ?_⟩, (seps L).loc (fun k hk => Below.heap_setCell w ⟨g, j, none⟩ u k ?_) g3⟩
  · by_cases hkg : k = g
    · subst hkg
      have h4 := p3 k k1 k2
      rw [hg] at h4 ⊢
      obtain ⟨cs, e1, e2, e3⟩ := h4.cells
      refine ⟨cs.setIfInBounds j u, by simp [World.setCell, Array.getElem?_modify, e1], by simp [e2], fun i hi => ?_⟩
      rw [Array.getElem?_setIfInBounds_ne (by rintro rfl; exact hj hi)]
      exact e3 i hi
    · rw [Below.heap_setCell w ⟨g, j, none⟩ u k hkg]
      exact p3 k k1 k2
  · rintro rfl
    exact hd _ hgS hk
theorem St.mut_cell (h : St w0 w (wrtn keep w1 a b :: L)) {g : Nat} (h1 : a ≤ g) (h2 : g < b) {cs1 : Array Value} {e : TypeId} {fr : Nat × Nat} (hg : w1.heap[g]? = some (.cells cs1 e fr)) (j : Nat) (hj : j < cs1.size) :
    (∃ v, w.cell? ⟨g, j, none⟩ = some v) ∧ (keep e j → w.cell? ⟨g, j, none⟩ = cs1[j]?) ∧ w.frozen? ⟨g, j, none⟩ = w1.frozen? ⟨g, j, none⟩ := by
  have h4 := h.mut_was g h1 h2
  rw [hg] at h4
  obtain ⟨cs, e1, e2, e3⟩ := h4.cells
  refine ⟨⟨cs[j]'(by omega), by simp [World.cell?, e1, e2, hj]⟩, fun hk => by simp [World.cell?, e1, e3 j hk], by simp [World.frozen?, e1, hg]⟩
end Go.Proofs.Ytakpdmkfengghaa.Sep
