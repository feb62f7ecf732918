/- Plain facts: when are two programs the same, by the code and by the document: whole programs. No memory; lists of fewer than 2^63 elements. -/
import Derived.Test.YtakpdmkfengghaaPe1
import Derived.Test.YtakpdmkfengghaaF11
namespace Go.Proofs.Ytakpdmkfengghaa.Pe
open Go Go.RowKit Go.Proofs.Ytakpdmkfengghaa.Q Go.Proofs.YtakpdmkfengghaaW.PrintWords
set_option linter.unusedVariables false
set_option linter.unusedSimpArgs false

def M63 : Nat := 9223372036854775807
def lC (l : List S42) : Prop := ∀ x ∈ l, x.f1.length ≤ 9223372036854775807
def lF (l : List S48) : Prop := ∀ x ∈ l, x.f1.length ≤ 9223372036854775807 ∧ x.f3.length ≤ 9223372036854775807 ∧ x.f4.length ≤ 9223372036854775807
theorem classes_loop (a b : List S42) (hl : a.length = b.length) (hm : a.length ≤ 9223372036854775807) (ha : lC a) : ∀ (d i : Nat), a.length = i + d → Evt (fun k => windrowref10_Same.l0 k a b i) (decide (a.drop i = b.drop i))
  | 0, i, h => Evt.succ (fun k => by simp only [windrowref10_Same.l0]; rw [if_neg (by omega)]) ((Evt.const true).to (by rw [List.drop_of_length_le (by omega), List.drop_of_length_le (by omega)]; simp))
  | d + 1, i, h => by
    have e := drop_two z42 (a := a) (b := b) (i := i) (by omega) (by omega)
    have hc := class_ref (rd_T42 a i) (rd_T42 b i) (ha _ (rdT42_mem (by omega)))
    refine Evt.succ (fun k => by simp only [windrowref10_Same.l0]; rw [if_pos (by omega), if_pos (by omega), if_pos (by omega)]) (Evt.bind hc ?_)
    by_cases hx : rd_T42 a i = rd_T42 b i
    · refine Evt.eq (g := fun k => windrowref10_Same.l0 k a b ((i + 1 : Nat) : Int)) (fun k => ?_) ((classes_loop a b hl hm ha d (i + 1) (by omega)).to ?_)
      · rw [if_pos (by simp [hx]), wrap_succ (n := a.length) (by omega) hm]
      · have hx2 : a.getD i z42 = b.getD i z42 := hx
        simp only [e, hx2, true_and]
    · refine Evt.eq (fun k => by rw [if_neg (by simp [hx])]) ((Evt.const false).to ?_)
      have hx2 : ¬ a.getD i z42 = b.getD i z42 := hx
      simp only [e, hx2, false_and, decide_false]
theorem classes_ref (a b : List S42) (hm : a.length ≤ 9223372036854775807) (ha : lC a) : Evt (fun k => windrowref10_Same.f k a b) (decide (a = b)) := by
  by_cases hl : a.length = b.length
  · exact Evt.eq (fun k => by unfold windrowref10_Same.f; rw [if_pos (by omega)]; rfl) ((classes_loop a b hl hm ha a.length 0 (by omega)).to (by simp))
  · refine Evt.eq (fun k => by unfold windrowref10_Same.f; rw [if_neg (by omega)]) ((Evt.const false).to ?_)
    have : a ≠ b := fun h => hl (by rw [h])
    simp [this]

section
variable (c1 c2 : List S42) (a b : List S48)
/-- The inner loop: its end goes on with the outer one. -/
theorem code_loop (i : Nat) (x y : S48) (R : Bool) (hi : i < a.length) (hm : a.length ≤ 9223372036854775807) (hR : Evt (fun k => windrowref13_Same.l0 k ((i + 1 : Nat) : Int) c1 a c2 b) R) (hl : x.f4.length = y.f4.length) (hx : x.f4.length ≤ 9223372036854775807) :
    ∀ (d j : Nat), x.f4.length = j + d → Evt (fun k => windrowref13_Same.l1 k i j c1 a c2 b x.f0 x.f1 x.f2 x.f3 x.f4 y.f0 y.f1 y.f2 y.f3 y.f4) (decide (x.f4.drop j = y.f4.drop j) && R)
  | 0, j, h => by
    refine Evt.succ (g := fun k => windrowref13_Same.l0 k ((i + 1 : Nat) : Int) c1 a c2 b) (fun k => ?_) (hR.to ?_)
    · simp only [windrowref13_Same.l1]
      rw [if_neg (by omega), wrap_succ (n := a.length) hi hm]
    · rw [List.drop_of_length_le (by omega), List.drop_of_length_le (by omega)]; simp
  | d + 1, j, h => by
    have e := drop_two z23 (a := x.f4) (b := y.f4) (i := j) (by omega) (by omega)
    by_cases hq : rd_T23 x.f4 j = rd_T23 y.f4 j
    · refine Evt.succ (g := fun k => windrowref13_Same.l1 k i ((j + 1 : Nat) : Int) c1 a c2 b x.f0 x.f1 x.f2 x.f3 x.f4 y.f0 y.f1 y.f2 y.f3 y.f4) (fun k => ?_) ((code_loop i x y R hi hm hR hl hx d (j + 1) (by omega)).to ?_)
      · simp only [windrowref13_Same.l1]
        rw [if_pos (by omega), if_pos (by omega), if_pos (by omega), ne_b23, if_neg (by simp [hq]), wrap_succ (n := x.f4.length) (by omega) hx]
      · have hx2 : x.f4.getD j z23 = y.f4.getD j z23 := hq
        simp only [e, hx2, true_and]
    · refine Evt.succ (fun k => by simp only [windrowref13_Same.l1]; rw [if_pos (by omega), if_pos (by omega), if_pos (by omega), ne_b23, if_pos (by simp [hq])]) ((Evt.const false).to ?_)
      have hx2 : ¬ x.f4.getD j z23 = y.f4.getD j z23 := hq
      simp only [e, hx2, false_and, decide_false, Bool.false_and]
theorem funcs_loop (hl : a.length = b.length) (hm : a.length ≤ 9223372036854775807) (ha : lF a) : ∀ (d i : Nat), a.length = i + d → Evt (fun k => windrowref13_Same.l0 k i c1 a c2 b) (decide (a.drop i = b.drop i))
  | 0, i, h => Evt.succ (fun k => by simp only [windrowref13_Same.l0]; rw [if_neg (by omega)]) ((Evt.const true).to (by rw [List.drop_of_length_le (by omega), List.drop_of_length_le (by omega)]; simp))
  | d + 1, i, h => by
    have e := drop_two z48 (a := a) (b := b) (i := i) (by omega) (by omega)
    have ih := funcs_loop hl hm ha d (i + 1) (by omega)
    have hA := ha _ (rdT48_mem (l := a) (i := i) (by omega))
    have hj2 : Evt (fun k => windrowref13_Same.j2 k i true c1 a c2 b (rd_T48 a i).f0 (rd_T48 a i).f1 (rd_T48 a i).f2 (rd_T48 a i).f3 (rd_T48 a i).f4 (rd_T48 b i).f0 (rd_T48 b i).f1 (rd_T48 b i).f2 (rd_T48 b i).f3 (rd_T48 b i).f4) false :=
      Evt.succ (fun k => by rw [windrowref13_Same.j2, if_pos rfl]) (Evt.const false)
    by_cases hx : rd_T48 a i = rd_T48 b i
    · have e2 : decide (a.drop i = b.drop i) = decide (a.drop (i + 1) = b.drop (i + 1)) := by
        have hx2 : a.getD i z48 = b.getD i z48 := hx
        simp only [e, hx2, true_and]
      rw [e2]
      have h1 := ints_ref (rd_T48 a i).f1 (rd_T48 b i).f1 hA.1
      have h3 := ints_ref (rd_T48 a i).f3 (rd_T48 b i).f3 hA.2.1
      refine Evt.succ (fun k => by simp only [windrowref13_Same.l0]; rw [if_pos (by omega), if_pos (by omega), if_pos (by omega), if_pos (by rw [hx]), if_pos (by rw [hx])]) (Evt.bind h1 ?_)
      refine Evt.eq (fun k => by rw [if_pos (by rw [hx]; simp)]) (Evt.bind h3 ?_)
      refine Evt.eq (fun k => by rw [if_pos (by rw [hx]; simp)]) ?_
      refine Evt.succ (g := fun k => windrowref13_Same.l1 k i (0 : Nat) c1 a c2 b (rd_T48 a i).f0 (rd_T48 a i).f1 (rd_T48 a i).f2 (rd_T48 a i).f3 (rd_T48 a i).f4 (rd_T48 b i).f0 (rd_T48 b i).f1 (rd_T48 b i).f2 (rd_T48 b i).f3 (rd_T48 b i).f4) (fun k => by rw [windrowref13_Same.j2, if_neg (by rw [hx]; simp)]; rfl) ?_
      exact (code_loop c1 c2 a b i (rd_T48 a i) (rd_T48 b i) _ (by omega) hm ih (by rw [hx]) hA.2.2 (rd_T48 a i).f4.length 0 (by omega)).to (by rw [hx]; simp)
    · have e2 : decide (a.drop i = b.drop i) = false := by
        have hx2 : ¬ a.getD i z48 = b.getD i z48 := hx
        simp only [e, hx2, false_and, decide_false]
      rw [e2]
      by_cases g0 : (rd_T48 a i).f0 = (rd_T48 b i).f0
      · by_cases g2 : (rd_T48 a i).f2 = (rd_T48 b i).f2
        · have h1 := ints_ref (rd_T48 a i).f1 (rd_T48 b i).f1 hA.1
          refine Evt.succ (fun k => by simp only [windrowref13_Same.l0]; rw [if_pos (by omega), if_pos (by omega), if_pos (by omega), if_pos (by rw [g0]), if_pos g2]) (Evt.bind h1 ?_)
          by_cases g1 : (rd_T48 a i).f1 = (rd_T48 b i).f1
          · have h3 := ints_ref (rd_T48 a i).f3 (rd_T48 b i).f3 hA.2.1
            refine Evt.eq (fun k => by rw [if_pos (by simp [g1])]) (Evt.bind h3 ?_)
            by_cases g3 : (rd_T48 a i).f3 = (rd_T48 b i).f3
            · refine Evt.eq (fun k => by rw [if_pos (by simp [g3])]) ?_
              have g4 : ¬ (rd_T48 a i).f4 = (rd_T48 b i).f4 := fun g4 => hx (by rw [S48_eq]; exact ⟨g0, g1, g2, g3, g4⟩)
              by_cases g5 : (rd_T48 a i).f4.length = (rd_T48 b i).f4.length
              · refine Evt.succ (g := fun k => windrowref13_Same.l1 k i (0 : Nat) c1 a c2 b (rd_T48 a i).f0 (rd_T48 a i).f1 (rd_T48 a i).f2 (rd_T48 a i).f3 (rd_T48 a i).f4 (rd_T48 b i).f0 (rd_T48 b i).f1 (rd_T48 b i).f2 (rd_T48 b i).f3 (rd_T48 b i).f4) (fun k => by rw [windrowref13_Same.j2, if_neg (by rw [g5]; simp)]; rfl) ?_
                exact (code_loop c1 c2 a b i (rd_T48 a i) (rd_T48 b i) _ (by omega) hm ih g5 hA.2.2 (rd_T48 a i).f4.length 0 (by omega)).to (by simp [g4])
              · exact Evt.succ (fun k => by rw [windrowref13_Same.j2, if_pos (by simpa using fun h => g5 (by omega))]) (Evt.const false)
            · exact Evt.eq (fun k => by rw [if_neg (by simp [g3])]) hj2
          · exact Evt.eq (fun k => by rw [if_neg (by simp [g1])]) hj2
        · exact Evt.succ (fun k => by simp only [windrowref13_Same.l0]; rw [if_pos (by omega), if_pos (by omega), if_pos (by omega), if_pos (by rw [g0]), if_neg g2]) hj2
      · exact Evt.succ (fun k => by simp only [windrowref13_Same.l0]; rw [if_pos (by omega), if_pos (by omega), if_pos (by omega), if_neg (by rw [str_eq]; exact g0)]) hj2
theorem same_ref (h1 : c1.length ≤ 9223372036854775807) (h2 : a.length ≤ 9223372036854775807) (g1 : lC c1) (g2 : lF a) : Evt (fun k => windrowref13_Same.f k c1 a c2 b) (decide (c1 = c2 ∧ a = b)) := by
  refine Evt.eq (fun k => rfl) (Evt.bind (classes_ref c1 c2 h1 g1) ?_)
  by_cases hc : c1 = c2
  · refine Evt.eq (fun k => by rw [if_pos (by simp [hc])]) ?_
    by_cases hl : a.length = b.length
    · refine Evt.succ (g := fun k => windrowref13_Same.l0 k (0 : Nat) c1 a c2 b) (fun k => by rw [windrowref13_Same.j0, if_neg (by simp [hl])]; rfl) ((funcs_loop c1 c2 a b hl h2 g2 a.length 0 (by omega)).to (by simp [hc]))
    · refine Evt.succ (fun k => by rw [windrowref13_Same.j0, if_pos (by simpa using fun h => hl (by omega))]) ((Evt.const false).to ?_)
      have : a ≠ b := fun h => hl (by rw [h])
      simp [this]
  · exact Evt.eq (fun k => by rw [if_neg (by simp [hc])]) (Evt.succ (fun k => by rw [windrowref13_Same.j0, if_pos rfl]) ((Evt.const false).to (by simp [hc])))
end
end Go.Proofs.Ytakpdmkfengghaa.Pe
