/- Plain facts: when are two programs the same, by the code and by the document. No memory; lists of fewer than 2^63 elements. -/
import Derived.Test.YtakpdmkfengghaaEv
import Derived.Test.YtakpdmkfengghaaF16
namespace Go.Proofs.Ytakpdmkfengghaa.Pe
open Go Go.RowKit Go.Proofs.Ytakpdmkfengghaa.Q Go.Proofs.YtakpdmkfengghaaW.PrintWords
set_option linter.unusedVariables false
set_option linter.unusedSimpArgs false

instance : DecidableEq S44 := fun a b => decidable_of_iff (a.f0 = b.f0 ∧ a.f1 = b.f1) ⟨fun h => by cases a; cases b; simpa using h, fun h => by rw [h]; exact ⟨rfl, rfl⟩⟩
instance : DecidableEq S42 := fun a b => decidable_of_iff (a.f0 = b.f0 ∧ a.f1 = b.f1) ⟨fun h => by cases a; cases b; simpa using h, fun h => by rw [h]; exact ⟨rfl, rfl⟩⟩
instance : DecidableEq S23 := fun a b => decidable_of_iff (a.f0 = b.f0 ∧ a.f1 = b.f1 ∧ a.f2 = b.f2) ⟨fun h => by cases a; cases b; simpa using h, fun h => by rw [h]; exact ⟨rfl, rfl, rfl⟩⟩
instance : DecidableEq S48 := fun a b => decidable_of_iff (a.f0 = b.f0 ∧ a.f1 = b.f1 ∧ a.f2 = b.f2 ∧ a.f3 = b.f3 ∧ a.f4 = b.f4) ⟨fun h => by cases a; cases b; simpa using h, fun h => by rw [h]; exact ⟨rfl, rfl, rfl, rfl, rfl⟩⟩
theorem S44_eq {a b : S44} : (a = b) = (a.f0 = b.f0 ∧ a.f1 = b.f1) := by cases a; cases b; simp
theorem S42_eq {a b : S42} : (a = b) = (a.f0 = b.f0 ∧ a.f1 = b.f1) := by cases a; cases b; simp
theorem S23_eq {a b : S23} : (a = b) = (a.f0 = b.f0 ∧ a.f1 = b.f1 ∧ a.f2 = b.f2) := by cases a; cases b; simp
theorem S48_eq {a b : S48} : (a = b) = (a.f0 = b.f0 ∧ a.f1 = b.f1 ∧ a.f2 = b.f2 ∧ a.f3 = b.f3 ∧ a.f4 = b.f4) := by cases a; cases b; simp

theorem ints_loop (a b : List Int) (hl : a.length = b.length) (hm : a.length ≤ 9223372036854775807) : ∀ (d i : Nat), a.length = i + d → Evt (fun k => windrowref13_sameInts.l0 k a b i) (decide (a.drop i = b.drop i))
  | 0, i, h => Evt.succ (fun k => by simp only [windrowref13_sameInts.l0]; rw [if_neg (by omega)]) ((Evt.const true).to (by rw [List.drop_of_length_le (by omega), List.drop_of_length_le (by omega)]; simp))
  | d + 1, i, h => by
    have e := drop_two (0 : Int) (a := a) (b := b) (i := i) (by omega) (by omega)
    by_cases hx : rd a i = rd b i
    · refine Evt.succ (g := fun k => windrowref13_sameInts.l0 k a b ((i + 1 : Nat) : Int)) (fun k => ?_) ((ints_loop a b hl hm d (i + 1) (by omega)).to ?_)
      · simp only [windrowref13_sameInts.l0]
        rw [if_pos (by omega), if_pos (by omega), if_pos (by omega), if_pos hx, wrap_succ (n := a.length) (by omega) hm]
      · have hx2 : a.getD i 0 = b.getD i 0 := hx
        simp only [e, hx2, true_and]
    · refine Evt.succ (fun k => by simp only [windrowref13_sameInts.l0]; rw [if_pos (by omega), if_pos (by omega), if_pos (by omega), if_neg hx]) ((Evt.const false).to ?_)
      have hx2 : ¬ a.getD i 0 = b.getD i 0 := hx
      simp only [e, hx2, false_and, decide_false]
theorem ints_ref (a b : List Int) (hm : a.length ≤ 9223372036854775807) : Evt (fun k => windrowref13_sameInts.f k a b) (decide (a = b)) := by
  by_cases hl : a.length = b.length
  · exact Evt.eq (fun k => by unfold windrowref13_sameInts.f; rw [if_pos (by omega)]; rfl) ((ints_loop a b hl hm a.length 0 (by omega)).to (by simp))
  · refine Evt.eq (fun k => by unfold windrowref13_sameInts.f; rw [if_neg (by omega)]) ((Evt.const false).to ?_)
    have : a ≠ b := fun h => hl (by rw [h])
    simp [this]
theorem ne_b44 {a b : S44} : (!((a.f0.toList) == (b.f0.toList)) || (!(a.f1 == b.f1))) = !decide (a = b) := by
  rw [Bool.eq_iff_iff]
  simp only [Bool.or_eq_true, Bool.not_eq_true', beq_eq_false_iff_ne, decide_eq_false_iff_not, S44_eq, ne_eq, str_eq]
  by_cases h : a.f0 = b.f0 <;> simp [h]
theorem ne_b23 {a b : S23} : (!(a.f0 == b.f0) || (!(a.f1 == b.f1) || (!(a.f2 == b.f2)))) = !decide (a = b) := by
  rw [Bool.eq_iff_iff]
  simp only [Bool.or_eq_true, Bool.not_eq_true', beq_eq_false_iff_ne, decide_eq_false_iff_not, S23_eq, ne_eq]
  by_cases h : a.f0 = b.f0 <;> by_cases h2 : a.f1 = b.f1 <;> simp [h, h2]
theorem class_loop (s t : ByteArray) (a b : List S44) (hl : a.length = b.length) (hm : a.length ≤ 9223372036854775807) : ∀ (d i : Nat), a.length = i + d → Evt (fun k => windrowref10_SameClass.l0 k i s a t b) (decide (a.drop i = b.drop i))
  | 0, i, h => Evt.succ (fun k => by simp only [windrowref10_SameClass.l0]; rw [if_neg (by omega)]) ((Evt.const true).to (by rw [List.drop_of_length_le (by omega), List.drop_of_length_le (by omega)]; simp))
  | d + 1, i, h => by
    have e := drop_two z44 (a := a) (b := b) (i := i) (by omega) (by omega)
    by_cases hx : rd_T44 a i = rd_T44 b i
    · refine Evt.succ (g := fun k => windrowref10_SameClass.l0 k ((i + 1 : Nat) : Int) s a t b) (fun k => ?_) ((class_loop s t a b hl hm d (i + 1) (by omega)).to ?_)
      · simp only [windrowref10_SameClass.l0]
        rw [if_pos (by omega), if_pos (by omega), if_pos (by omega), ne_b44, if_neg (by simp [hx]), wrap_succ (n := a.length) (by omega) hm]
      · have hx2 : a.getD i z44 = b.getD i z44 := hx
        simp only [e, hx2, true_and]
    · refine Evt.succ (fun k => by simp only [windrowref10_SameClass.l0]; rw [if_pos (by omega), if_pos (by omega), if_pos (by omega), ne_b44, if_pos (by simp [hx])]) ((Evt.const false).to ?_)
      have hx2 : ¬ a.getD i z44 = b.getD i z44 := hx
      simp only [e, hx2, false_and, decide_false]
theorem class_ref (x y : S42) (hm : x.f1.length ≤ 9223372036854775807) : Evt (fun k => windrowref10_SameClass.f k x.f0 x.f1 y.f0 y.f1) (decide (x = y)) := by
  by_cases h0 : x.f0 = y.f0
  · by_cases hl : x.f1.length = y.f1.length
    · refine Evt.eq (fun k => by unfold windrowref10_SameClass.f; rw [if_pos (by rw [h0])]) ?_
      refine Evt.succ (g := fun k => windrowref10_SameClass.l0 k (0 : Nat) x.f0 x.f1 y.f0 y.f1) (fun k => by simp only [windrowref10_SameClass.j0]; rw [if_neg (by simp [hl])]; rfl) ((class_loop _ _ x.f1 y.f1 hl hm x.f1.length 0 (by omega)).to (by simp [S42_eq, h0]))
    · refine Evt.eq (fun k => by unfold windrowref10_SameClass.f; rw [if_pos (by rw [h0])]) ?_
      refine Evt.succ (fun k => by simp only [windrowref10_SameClass.j0]; rw [if_pos (by simpa using fun h => hl (by omega))]) ((Evt.const false).to ?_)
      have : x ≠ y := fun h => hl (by rw [h])
      simp [this]
  · refine Evt.eq (fun k => by unfold windrowref10_SameClass.f; rw [if_neg (by rw [str_eq]; exact h0)]) ?_
    refine Evt.succ (fun k => by rw [windrowref10_SameClass.j0, if_pos rfl]) ((Evt.const false).to ?_)
    have : x ≠ y := fun h => h0 (by rw [h])
    simp [this]
end Go.Proofs.Ytakpdmkfengghaa.Pe
