/- 'From some number of rounds on it answers r', and plain facts on numbers and texts. No memory. -/
import Derived.Test.YtakpdmkfengghaaQ0
namespace Go.Proofs.Ytakpdmkfengghaa.Pe
open Go Go.RowKit Go.Proofs.Ytakpdmkfengghaa.Q Go.Proofs.YtakpdmkfengghaaW.PrintWords
set_option linter.unusedVariables false
set_option linter.unusedSimpArgs false

/-- With rounds enough it answers r. -/
def Evt {α : Type} (g : Nat → Option α) (r : α) : Prop := ∃ k0, ∀ k, k0 ≤ k → g k = some r
theorem Evt.const {α : Type} (r : α) : Evt (fun _ => some r) r := ⟨0, fun _ _ => rfl⟩
theorem Evt.bind {α β : Type} {g : Nat → Option α} {h : Nat → α → Option β} {a : α} {r : β} (hg : Evt g a) (hh : Evt (fun k => h k a) r) : Evt (fun k => (g k).bind (h k)) r := by
  obtain ⟨k1, h1⟩ := hg
  obtain ⟨k2, h2⟩ := hh
  exact ⟨k1 + k2, fun k hk => by show (g k).bind (h k) = _; rw [h1 k (by omega)]; exact h2 k (by omega)⟩
theorem Evt.succ {α : Type} {f g : Nat → Option α} {r : α} (he : ∀ k, f (k + 1) = g k) (h : Evt g r) : Evt f r := by
  obtain ⟨k0, h⟩ := h
  refine ⟨k0 + 1, fun k hk => ?_⟩
  obtain ⟨m, rfl⟩ : ∃ m, k = m + 1 := ⟨k - 1, by omega⟩
  rw [he]
  exact h m (by omega)
theorem Evt.eq {α : Type} {f g : Nat → Option α} {r : α} (he : ∀ k, f k = g k) (h : Evt g r) : Evt f r := by
  obtain ⟨k0, h⟩ := h
  exact ⟨k0, fun k hk => (he k).trans (h k hk)⟩
theorem Evt.to {α : Type} {f : Nat → Option α} {r r' : α} (h : Evt f r) (e : r = r') : Evt f r' := e ▸ h

theorem wrap_succ {i n : Nat} (h : i < n) (hn : n ≤ 9223372036854775807) : wrap64 ((i : Int) + 1) = ((i + 1 : Nat) : Int) := by unfold wrap64; omega
theorem drop_two {α : Type} [DecidableEq α] (z : α) {a b : List α} {i : Nat} (ha : i < a.length) (hb : i < b.length) : (a.drop i = b.drop i) = (a.getD i z = b.getD i z ∧ a.drop (i + 1) = b.drop (i + 1)) := by
  rw [List.drop_eq_getElem_cons ha, List.drop_eq_getElem_cons hb]
  simp only [List.getD_eq_getElem?_getD, ha, hb, List.getElem?_eq_getElem, Option.getD_some, List.cons.injEq]
theorem str_eq {a b : ByteArray} : (a.toList = b.toList) = (a = b) := by
  refine propext ⟨fun h => ?_, fun h => by rw [h]⟩
  have h2 : a.data.toList = b.data.toList := by
    have e1 := ByteArray.toList_eq a
    have e2 := ByteArray.toList_eq b
    rw [← e1, ← e2, h]
  cases a; cases b
  simp only [ByteArray.mk.injEq]
  exact Array.ext' h2
theorem Evt_at {α : Type} {g : Nat → Option α} {r : α} (h : Evt g r) : ∃ k, g k = some r := let ⟨k, hk⟩ := h; ⟨k, hk k (Nat.le_refl _)⟩
theorem rdT42_mem {l : List S42} {i : Nat} (h : i < l.length) : rd_T42 l i ∈ l := by
  have e : rd_T42 l (i : Int) = l[i] := by simp [rd_T42, List.getD_eq_getElem?_getD, h]
  rw [e]; exact List.getElem_mem h
theorem rdT48_mem {l : List S48} {i : Nat} (h : i < l.length) : rd_T48 l i ∈ l := by
  have e : rd_T48 l (i : Int) = l[i] := by simp [rd_T48, List.getD_eq_getElem?_getD, h]
  rw [e]; exact List.getElem_mem h
end Go.Proofs.Ytakpdmkfengghaa.Pe
