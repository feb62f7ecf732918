/- Plain facts: when are two programs the same, by the code alone (a cut of Pe1, Pe2 and Pe3 without the document's side); which programs have few parts. No memory; lists of fewer than 2^63 elements. -/
import Derived.Test.YtakpdmkfengghaaEv
import Derived.Test.YtakpdmkfengghaaMrC
import Derived.Test.YtakpdmkfengghaaPl
namespace Go.Proofs.Ytakpdmkfengghaa.Pe
open Go Go.RowKit Go.Proofs.Ytakpdmkfengghaa.Q Go.Proofs.YtakpdmkfengghaaW.PrintWords
set_option linter.unusedVariables false
set_option linter.unusedSimpArgs false
instance : DecidableEq S44 := fun a b => decidable_of_iff (a.f0 = b.f0 ∧ a.f1 = b.f1) ⟨fun h => by cases a; cases b; simpa using h, fun h => by rw [h]; exact ⟨rfl, rfl⟩⟩
instance : DecidableEq S42 := fun a b => decidable_of_iff (a.f0 = b.f0 ∧ a.f1 = b.f1) ⟨fun h => by cases a; cases b; simpa using h, fun h => by rw [h]; exact ⟨rfl, rfl⟩⟩
instance : DecidableEq S23 := fun a b => decidable_of_iff (a.f0 = b.f0 ∧ a.f1 = b.f1 ∧ a.f2 = b.f2) ⟨fun h => by cases a; cases b; simpa using h, fun h => by rw [h]; exact ⟨rfl, rfl, rfl⟩⟩
instance : DecidableEq S48 := fun a b => decidable_of_iff (a.f0 = b.f0 ∧ a.f1 = b.f1 ∧ a.f2 = b.f2 ∧ a.f3 = b.f3 ∧ a.f4 = b.f4) ⟨fun h => by cases a; cases b; simpa using h, fun h => by rw [h]; exact ⟨rfl, rfl, rfl, rfl, rfl⟩⟩
theorem S44_eq {a b : S44} : (a = b) = (a.f0 = b.f0 ∧ a.f1 = b.f1) := by cases a; cases b; simp
theorem S42_eq {a b : S42} : (a = b) = (a.f0 = b.f0 ∧ a.f1 = b.f1) := by cases a; cases b; simp
theorem S23_eq {a b : S23} : (a = b) = (a.f0 = b.f0 ∧ a.f1 = b.f1 ∧ a.f2 = b.f2) := by cases a; cases b; simp
theorem S48_eq {a b : S48} : (a = b) = (a.f0 = b.f0 ∧ a.f1 = b.f1 ∧ a.f2 = b.f2 ∧ a.f3 = b.f3 ∧ a.f4 = b.f4) := by cases a; cases b; simp
theorem ne_b44 {a b : S44} : (!((a.f0.toList) == (b.f0.toList)) || (!(a.f1 == b.f1))) = !decide (a = b) := by
  rw [Bool.eq_iff_iff]
  simp only [Bool.or_eq_true, Bool.not_eq_true', beq_eq_false_iff_ne, decide_eq_false_iff_not, S44_eq, ne_eq, str_eq]
  by_cases h : a.f0 = b.f0 <;> simp [h]
theorem ne_b23 {a b : S23} : (!(a.f0 == b.f0) || (!(a.f1 == b.f1) || (!(a.f2 == b.f2)))) = !decide (a = b) := by
  rw [Bool.eq_iff_iff]
  simp only [Bool.or_eq_true, Bool.not_eq_true', beq_eq_false_iff_ne, decide_eq_false_iff_not, S23_eq, ne_eq]
  by_cases h : a.f0 = b.f0 <;> by_cases h2 : a.f1 = b.f1 <;> simp [h, h2]
def lC (l : List S42) : Prop := ∀ x ∈ l, x.f1.length ≤ 9223372036854775807
def lF (l : List S48) : Prop := ∀ x ∈ l, x.f1.length ≤ 9223372036854775807 ∧ x.f3.length ≤ 9223372036854775807 ∧ x.f4.length ≤ 9223372036854775807

theorem ints_loop2 (a b : List Int) (hl : a.length = b.length) (hm : a.length ≤ 9223372036854775807) : ∀ (d i : Nat), a.length = i + d → Evt (fun k => code_sameInts.l0 k a b a.length i) (decide (a.drop i = b.drop i))
  | 0, i, h => Evt.succ (fun k => by simp only [code_sameInts.l0]; rw [if_neg (by omega)]) ((Evt.const true).to (by rw [List.drop_of_length_le (by omega), List.drop_of_length_le (by omega)]; simp))
  | d + 1, i, h => by
    have e := drop_two (0 : Int) (a := a) (b := b) (i := i) (by omega) (by omega)
    by_cases hx : rd a i = rd b i
    · refine Evt.succ (g := fun k => code_sameInts.l0 k a b a.length ((i + 1 : Nat) : Int)) (fun k => ?_) ((ints_loop2 a b hl hm d (i + 1) (by omega)).to ?_)
      · simp only [code_sameInts.l0]
        rw [if_pos (by omega), if_pos (by omega), if_pos (by omega), if_pos (by omega), if_pos hx, wrap_succ (n := a.length) (by omega) hm]
      · have hx2 : a.getD i 0 = b.getD i 0 := hx
        simp only [e, hx2, true_and]
    · refine Evt.succ (fun k => by simp only [code_sameInts.l0]; rw [if_pos (by omega), if_pos (by omega), if_pos (by omega), if_pos (by omega), if_neg hx]) ((Evt.const false).to ?_)
      have hx2 : ¬ a.getD i 0 = b.getD i 0 := hx
      simp only [e, hx2, false_and, decide_false]
theorem ints_code (a b : List Int) (hm : a.length ≤ 9223372036854775807) : Evt (fun k => code_sameInts.f k a b) (decide (a = b)) := by
  by_cases hl : a.length = b.length
  · exact Evt.eq (fun k => by unfold code_sameInts.f; rw [if_pos (by omega)]; rfl) ((ints_loop2 a b hl hm a.length 0 (by omega)).to (by simp))
  · refine Evt.eq (fun k => by unfold code_sameInts.f; rw [if_neg (by omega)]) ((Evt.const false).to ?_)
    have : a ≠ b := fun h => hl (by rw [h])
    simp [this]


theorem class_loop2 (s t : ByteArray) (a b : List S44) (hl : a.length = b.length) (hm : a.length ≤ 9223372036854775807) : ∀ (d i : Nat), a.length = i + d → Evt (fun k => code_sameClass.l0 k a.length i s a t b) (decide (a.drop i = b.drop i))
  | 0, i, h => Evt.succ (fun k => by simp only [code_sameClass.l0]; rw [if_neg (by omega)]) ((Evt.const true).to (by rw [List.drop_of_length_le (by omega), List.drop_of_length_le (by omega)]; simp))
  | d + 1, i, h => by
    have e := drop_two z44 (a := a) (b := b) (i := i) (by omega) (by omega)
    by_cases hx : rd_T44 a i = rd_T44 b i
    · refine Evt.succ (g := fun k => code_sameClass.l0 k a.length ((i + 1 : Nat) : Int) s a t b) (fun k => ?_) ((class_loop2 s t a b hl hm d (i + 1) (by omega)).to ?_)
      · simp only [code_sameClass.l0]
        rw [if_pos (by omega), if_pos (by omega), if_pos (by omega), if_pos (by omega), ne_b44, if_neg (by simp [hx]), wrap_succ (n := a.length) (by omega) hm]
      · have hx2 : a.getD i z44 = b.getD i z44 := hx
        simp only [e, hx2, true_and]
    · refine Evt.succ (fun k => by simp only [code_sameClass.l0]; rw [if_pos (by omega), if_pos (by omega), if_pos (by omega), if_pos (by omega), ne_b44, if_pos (by simp [hx])]) ((Evt.const false).to ?_)
      have hx2 : ¬ a.getD i z44 = b.getD i z44 := hx
      simp only [e, hx2, false_and, decide_false]
theorem class_code (x y : S42) (hm : x.f1.length ≤ 9223372036854775807) : Evt (fun k => code_sameClass.f k x.f0 x.f1 y.f0 y.f1) (decide (x = y)) := by
  by_cases h0 : x.f0 = y.f0
  · by_cases hl : x.f1.length = y.f1.length
    · refine Evt.eq (fun k => by unfold code_sameClass.f; rw [if_pos (by rw [h0])]) ?_
      refine Evt.succ (g := fun k => code_sameClass.l0 k x.f1.length (0 : Nat) x.f0 x.f1 y.f0 y.f1) (fun k => by simp only [code_sameClass.j0]; rw [if_neg (by simp [hl])]; rfl) ((class_loop2 _ _ x.f1 y.f1 hl hm x.f1.length 0 (by omega)).to (by simp [S42_eq, h0]))
    · refine Evt.eq (fun k => by unfold code_sameClass.f; rw [if_pos (by rw [h0])]) ?_
      refine Evt.succ (fun k => by simp only [code_sameClass.j0]; rw [if_pos (by simpa using fun h => hl (by omega))]) ((Evt.const false).to ?_)
      have : x ≠ y := fun h => hl (by rw [h])
      simp [this]
  · refine Evt.eq (fun k => by unfold code_sameClass.f; rw [if_neg (by rw [str_eq]; exact h0)]) ?_
    refine Evt.succ (fun k => by rw [code_sameClass.j0, if_pos rfl]) ((Evt.const false).to ?_)
    have : x ≠ y := fun h => h0 (by rw [h])
    simp [this]
theorem func_loop (s t : ByteArray) (p1 p3 q1 q3 : List Int) (r s2 : Int) (a b : List S23) (hl : a.length = b.length) (hm : a.length ≤ 9223372036854775807) : ∀ (d i : Nat), a.length = i + d → Evt (fun k => code_sameFunc.l0 k a.length i s p1 r p3 a t q1 s2 q3 b) (decide (a.drop i = b.drop i))
  | 0, i, h => Evt.succ (fun k => by simp only [code_sameFunc.l0]; rw [if_neg (by omega)]) ((Evt.const true).to (by rw [List.drop_of_length_le (by omega), List.drop_of_length_le (by omega)]; simp))
  | d + 1, i, h => by
    have e := drop_two z23 (a := a) (b := b) (i := i) (by omega) (by omega)
    by_cases hx : rd_T23 a i = rd_T23 b i
    · refine Evt.succ (g := fun k => code_sameFunc.l0 k a.length ((i + 1 : Nat) : Int) s p1 r p3 a t q1 s2 q3 b) (fun k => ?_) ((func_loop s t p1 p3 q1 q3 r s2 a b hl hm d (i + 1) (by omega)).to ?_)
      · simp only [code_sameFunc.l0]
        rw [if_pos (by omega), if_pos (by omega), if_pos (by omega), if_pos (by omega), ne_b23, if_neg (by simp [hx]), wrap_succ (n := a.length) (by omega) hm]
      · have hx2 : a.getD i z23 = b.getD i z23 := hx
        simp only [e, hx2, true_and]
    · refine Evt.succ (fun k => by simp only [code_sameFunc.l0]; rw [if_pos (by omega), if_pos (by omega), if_pos (by omega), if_pos (by omega), ne_b23, if_pos (by simp [hx])]) ((Evt.const false).to ?_)
      have hx2 : ¬ a.getD i z23 = b.getD i z23 := hx
      simp only [e, hx2, false_and, decide_false]
theorem func_code (x y : S48) (h1 : x.f1.length ≤ 9223372036854775807) (h3 : x.f3.length ≤ 9223372036854775807) (h4 : x.f4.length ≤ 9223372036854775807) :
    Evt (fun k => code_sameFunc.f k x.f0 x.f1 x.f2 x.f3 x.f4 y.f0 y.f1 y.f2 y.f3 y.f4) (decide (x = y)) := by
  have hj : Evt (fun k => code_sameFunc.j0 k true x.f0 x.f1 x.f2 x.f3 x.f4 y.f0 y.f1 y.f2 y.f3 y.f4) false := Evt.succ (fun k => by rw [code_sameFunc.j0, if_pos rfl]) (Evt.const false)
  have no : ∀ {g : Nat → Option Bool}, x ≠ y → Evt g false → Evt g (decide (x = y)) := fun h hg => hg.to (by simp [h])
  by_cases g0 : x.f0 = y.f0
  · by_cases g2 : x.f2 = y.f2
    · by_cases g4 : x.f4.length = y.f4.length
      · refine Evt.eq (fun k => by unfold code_sameFunc.f; rw [if_pos (by rw [g0]), if_pos g2, if_pos (by omega)]) (Evt.bind (ints_code x.f1 y.f1 h1) ?_)
        by_cases g1 : x.f1 = y.f1
        · refine Evt.eq (fun k => by rw [if_pos (by simp [g1])]) (Evt.bind (ints_code x.f3 y.f3 h3) ?_)
          by_cases g3 : x.f3 = y.f3
          · refine Evt.succ (g := fun k => code_sameFunc.l0 k x.f4.length (0 : Nat) x.f0 x.f1 x.f2 x.f3 x.f4 y.f0 y.f1 y.f2 y.f3 y.f4) (fun k => by rw [code_sameFunc.j0, if_neg (by simp [g3])]; rfl) ?_
            exact (func_loop x.f0 y.f0 x.f1 x.f3 y.f1 y.f3 x.f2 y.f2 x.f4 y.f4 g4 h4 x.f4.length 0 (by omega)).to (by simp [S48_eq, g0, g1, g2, g3])
          · refine no (fun h => g3 (by rw [h])) ?_
            exact Evt.succ (fun k => by rw [code_sameFunc.j0, if_pos (by simp [g3])]) (Evt.const false)
        · exact no (fun h => g1 (by rw [h])) (Evt.eq (fun k => by rw [if_neg (by simp [g1])]) hj)
      · exact no (fun h => g4 (by rw [h])) (Evt.eq (fun k => by unfold code_sameFunc.f; rw [if_pos (by rw [g0]), if_pos g2, if_neg (by omega)]) hj)
    · exact no (fun h => g2 (by rw [h])) (Evt.eq (fun k => by unfold code_sameFunc.f; rw [if_pos (by rw [g0]), if_neg g2]) hj)
  · exact no (fun h => g0 (by rw [h])) (Evt.eq (fun k => by unfold code_sameFunc.f; rw [if_neg (by rw [str_eq]; exact g0)]) hj)

section
variable (c1 c2 : List S42) (a b : List S48)
theorem equal_loop1 (hl : a.length = b.length) (hm : a.length ≤ 9223372036854775807) (ha : lF a) : ∀ (d i : Nat), a.length = i + d → Evt (fun k => code_Equal.l1 k a.length i c1 a c2 b) (decide (a.drop i = b.drop i))
  | 0, i, h => Evt.succ (fun k => by simp only [code_Equal.l1]; rw [if_neg (by omega)]) ((Evt.const true).to (by rw [List.drop_of_length_le (by omega), List.drop_of_length_le (by omega)]; simp))
  | d + 1, i, h => by
    have e := drop_two z48 (a := a) (b := b) (i := i) (by omega) (by omega)
    have hA := ha _ (rdT48_mem (l := a) (i := i) (by omega))
    refine Evt.succ (fun k => by simp only [code_Equal.l1]; rw [if_pos (by omega), if_pos (by omega), if_pos (by omega), if_pos (by omega)]) (Evt.bind (func_code (rd_T48 a i) (rd_T48 b i) hA.1 hA.2.1 hA.2.2) ?_)
    by_cases hx : rd_T48 a i = rd_T48 b i
    · refine Evt.eq (g := fun k => code_Equal.l1 k a.length ((i + 1 : Nat) : Int) c1 a c2 b) (fun k => ?_) ((equal_loop1 hl hm ha d (i + 1) (by omega)).to ?_)
      · rw [if_pos (by simp [hx]), wrap_succ (n := a.length) (by omega) hm]
      · have hx2 : a.getD i z48 = b.getD i z48 := hx
        simp only [e, hx2, true_and]
    · refine Evt.eq (fun k => by rw [if_neg (by simp [hx])]) ((Evt.const false).to ?_)
      have hx2 : ¬ a.getD i z48 = b.getD i z48 := hx
      simp only [e, hx2, false_and, decide_false]
theorem equal_loop0 (hl : a.length = b.length) (hm : a.length ≤ 9223372036854775807) (ha : lF a) (hlc : c1.length = c2.length) (hmc : c1.length ≤ 9223372036854775807) (hc : lC c1) : ∀ (d i : Nat), c1.length = i + d → Evt (fun k => code_Equal.l0 k c1.length i c1 a c2 b) (decide (c1.drop i = c2.drop i ∧ a = b))
  | 0, i, h => by
    refine Evt.succ (g := fun k => code_Equal.l1 k a.length (0 : Nat) c1 a c2 b) (fun k => by simp only [code_Equal.l0]; rw [if_neg (by omega)]; rfl) ((equal_loop1 c1 c2 a b hl hm ha a.length 0 (by omega)).to ?_)
    rw [List.drop_of_length_le (l := c1) (by omega), List.drop_of_length_le (l := c2) (by omega)]
    simp
  | d + 1, i, h => by
    have e := drop_two z42 (a := c1) (b := c2) (i := i) (by omega) (by omega)
    refine Evt.succ (fun k => by simp only [code_Equal.l0]; rw [if_pos (by omega), if_pos (by omega), if_pos (by omega), if_pos (by omega)]) (Evt.bind (class_code (rd_T42 c1 i) (rd_T42 c2 i) (hc _ (rdT42_mem (by omega)))) ?_)
    by_cases hx : rd_T42 c1 i = rd_T42 c2 i
    · refine Evt.eq (g := fun k => code_Equal.l0 k c1.length ((i + 1 : Nat) : Int) c1 a c2 b) (fun k => ?_) ((equal_loop0 hl hm ha hlc hmc hc d (i + 1) (by omega)).to ?_)
      · rw [if_pos (by simp [hx]), wrap_succ (n := c1.length) (by omega) hmc]
      · have hx2 : c1.getD i z42 = c2.getD i z42 := hx
        simp only [e, hx2, true_and]
    · refine Evt.eq (fun k => by rw [if_neg (by simp [hx])]) ((Evt.const false).to ?_)
      have hx2 : ¬ c1.getD i z42 = c2.getD i z42 := hx
      simp only [e, hx2, false_and, decide_false]
theorem equal_code (h1 : c1.length ≤ 9223372036854775807) (h2 : a.length ≤ 9223372036854775807) (g1 : lC c1) (g2 : lF a) : Evt (fun k => code_Equal.f k c1 a c2 b) (decide (c1 = c2 ∧ a = b)) := by
  have no : ∀ {g : Nat → Option Bool}, ¬ (c1 = c2 ∧ a = b) → Evt g false → Evt g (decide (c1 = c2 ∧ a = b)) := fun h hg => hg.to (by simpa using h)
  by_cases hc : c1.length = c2.length
  · by_cases hl : a.length = b.length
    · refine Evt.eq (fun k => by unfold code_Equal.f; rw [if_pos (by omega)]) ?_
      refine Evt.succ (g := fun k => code_Equal.l0 k c1.length (0 : Nat) c1 a c2 b) (fun k => by rw [code_Equal.j0, if_neg (by simp [hl])]; rfl) ((equal_loop0 c1 c2 a b hl h2 g2 hc h1 g1 c1.length 0 (by omega)).to (by simp))
    · refine no (fun h => hl (by rw [h.2])) (Evt.eq (fun k => by unfold code_Equal.f; rw [if_pos (by omega)]) ?_)
      exact Evt.succ (fun k => by rw [code_Equal.j0, if_pos (by simpa using fun h => hl (by omega))]) (Evt.const false)
  · refine no (fun h => hc (by rw [h.1])) (Evt.eq (fun k => by unfold code_Equal.f; rw [if_neg (by omega)]) ?_)
    exact Evt.succ (fun k => by rw [code_Equal.j0, if_pos rfl]) (Evt.const false)

end
end Go.Proofs.Ytakpdmkfengghaa.Pe
