/- Plain facts: when are two programs the same, by the code; which programs have few parts. No memory; lists of fewer than 2^63 elements. -/
import Derived.Test.YtakpdmkfengghaaPe2
namespace Go.Proofs.Ytakpdmkfengghaa.Pe
open Go Go.RowKit Go.Proofs.Ytakpdmkfengghaa.Q Go.Proofs.YtakpdmkfengghaaW.PrintWords
set_option linter.unusedVariables false
set_option linter.unusedSimpArgs false

theorem func_loop (s t : ByteArray) (p1 p3 q1 q3 : List Int) (r s2 : Int) (a b : List S23) (hl : a.length = b.length) (hm : a.length ≤ 9223372036854775807) : ∀ (d i : Nat), a.length = i + d → Evt (fun k => code_sameFunc.l0 k a.length i s p1 r p3 a t q1 s2 q3 b) (decide (a.drop i = b.drop i))
  | 0, i, h => Evt.succ (fun k => by simp only [code_sameFunc.l0]; rw [if_neg (by omega)]) ((Evt.const true).to (by rw [List.drop_of_length_le (by omega), List.drop_of_length_le (by omega)]; simp))
  | d + 1, i, h => by
    have e := drop_two z23 (a := a) (b := b) (i := i) (by omega) (by omega)
    by_cases hx : rd_T23 a i = rd_T23 b i
    · refine Evt.succ (g := fun k => code_sameFunc.l0 k a.length ((i + 1 : Nat) : Int) s p1 r p3 a t q1 s2 q3 b) (fun k => ?_) ((func_loop s t p1 p3 q1 q3 r s2 a b hl hm d (i + 1) (by omega)).to ?_)
      · simp only [code_sameFunc.l0]
        rw [if_pos (by omega), if_pos (by omega), if_pos (by omega), if_pos (by omega), ne_b23, if_neg (by simp [hx]), wrap_succ (n := a.length) (by omega) hm]
      · have hx2 : a.getD i z23 = b.getD i z23 := hx
        simp only [e, hx2, true_and]
    · refine Evt.succ (fun k => by simp only [code_sameFunc.l0]; rw [if_pos (by omega), if_pos (by omega), if_pos (by omega), if_pos (by omega), ne_b23, if_pos (by simp [hx])]) ((Evt.const false).to ?_)
      have hx2 : ¬ a.getD i z23 = b.getD i z23 := hx
      simp only [e, hx2, false_and, decide_false]
theorem func_code (x y : S48) (h1 : x.f1.length ≤ 9223372036854775807) (h3 : x.f3.length ≤ 9223372036854775807) (h4 : x.f4.length ≤ 9223372036854775807) :
    Evt (fun k => code_sameFunc.f k x.f0 x.f1 x.f2 x.f3 x.f4 y.f0 y.f1 y.f2 y.f3 y.f4) (decide (x = y)) := by
  have hj : Evt (fun k => code_sameFunc.j0 k true x.f0 x.f1 x.f2 x.f3 x.f4 y.f0 y.f1 y.f2 y.f3 y.f4) false := Evt.succ (fun k => by rw [code_sameFunc.j0, if_pos rfl]) (Evt.const false)
  have no : ∀ {g : Nat → Option Bool}, x ≠ y → Evt g false → Evt g (decide (x = y)) := fun h hg => hg.to (by simp [h])
  by_cases g0 : x.f0 = y.f0
  · by_cases g2 : x.f2 = y.f2
    · by_cases g4 : x.f4.length = y.f4.length
      · refine Evt.eq (fun k => by unfold code_sameFunc.f; rw [if_pos (by rw [g0]), if_pos g2, if_pos (by omega)]) (Evt.bind (ints_code x.f1 y.f1 h1) ?_)
        by_cases g1 : x.f1 = y.f1
        · refine Evt.eq (fun k => by rw [if_pos (by simp [g1])]) (Evt.bind (ints_code x.f3 y.f3 h3) ?_)
          by_cases g3 : x.f3 = y.f3
          · refine Evt.succ (g := fun k => code_sameFunc.l0 k x.f4.length (0 : Nat) x.f0 x.f1 x.f2 x.f3 x.f4 y.f0 y.f1 y.f2 y.f3 y.f4) (fun k => by rw [code_sameFunc.j0, if_neg (by simp [g3])]; rfl) ?_
            exact (func_loop x.f0 y.f0 x.f1 x.f3 y.f1 y.f3 x.f2 y.f2 x.f4 y.f4 g4 h4 x.f4.length 0 (by omega)).to (by simp [S48_eq, g0, g1, g2, g3])
          · refine no (fun h => g3 (by rw [h])) ?_
            exact Evt.succ (fun k => by rw [code_sameFunc.j0, if_pos (by simp [g3])]) (Evt.const false)
        · exact no (fun h => g1 (by rw [h])) (Evt.eq (fun k => by rw [if_neg (by simp [g1])]) hj)
      · exact no (fun h => g4 (by rw [h])) (Evt.eq (fun k => by unfold code_sameFunc.f; rw [if_pos (by rw [g0]), if_pos g2, if_neg (by omega)]) hj)
    · exact no (fun h => g2 (by rw [h])) (Evt.eq (fun k => by unfold code_sameFunc.f; rw [if_pos (by rw [g0]), if_neg g2]) hj)
  · exact no (fun h => g0 (by rw [h])) (Evt.eq (fun k => by unfold code_sameFunc.f; rw [if_neg (by rw [str_eq]; exact g0)]) hj)

section
variable (c1 c2 : List S42) (a b : List S48)
theorem equal_loop1 (hl : a.length = b.length) (hm : a.length ≤ 9223372036854775807) (ha : lF a) : ∀ (d i : Nat), a.length = i + d → Evt (fun k => code_Equal.l1 k a.length i c1 a c2 b) (decide (a.drop i = b.drop i))
  | 0, i, h => Evt.succ (fun k => by simp only [code_Equal.l1]; rw [if_neg (by omega)]) ((Evt.const true).to (by rw [List.drop_of_length_le (by omega), List.drop_of_length_le (by omega)]; simp))
  | d + 1, i, h => by
    have e := drop_two z48 (a := a) (b := b) (i := i) (by omega) (by omega)
    have hA := ha _ (rdT48_mem (l := a) (i := i) (by omega))
    refine Evt.succ (fun k => by simp only [code_Equal.l1]; rw [if_pos (by omega), if_pos (by omega), if_pos (by omega), if_pos (by omega)]) (Evt.bind (func_code (rd_T48 a i) (rd_T48 b i) hA.1 hA.2.1 hA.2.2) ?_)
    by_cases hx : rd_T48 a i = rd_T48 b i
    · refine Evt.eq (g := fun k => code_Equal.l1 k a.length ((i + 1 : Nat) : Int) c1 a c2 b) (fun k => ?_) ((equal_loop1 hl hm ha d (i + 1) (by omega)).to ?_)
      · rw [if_pos (by simp [hx]), wrap_succ (n := a.length) (by omega) hm]
      · have hx2 : a.getD i z48 = b.getD i z48 := hx
        simp only [e, hx2, true_and]
    · refine Evt.eq (fun k => by rw [if_neg (by simp [hx])]) ((Evt.const false).to ?_)
      have hx2 : ¬ a.getD i z48 = b.getD i z48 := hx
      simp only [e, hx2, false_and, decide_false]
theorem equal_loop0 (hl : a.length = b.length) (hm : a.length ≤ 9223372036854775807) (ha : lF a) (hlc : c1.length = c2.length) (hmc : c1.length ≤ 9223372036854775807) (hc : lC c1) : ∀ (d i : Nat), c1.length = i + d → Evt (fun k => code_Equal.l0 k c1.length i c1 a c2 b) (decide (c1.drop i = c2.drop i ∧ a = b))
  | 0, i, h => by
    refine Evt.succ (g := fun k => code_Equal.l1 k a.length (0 : Nat) c1 a c2 b) (fun k => by simp only [code_Equal.l0]; rw [if_neg (by omega)]; rfl) ((equal_loop1 c1 c2 a b hl hm ha a.length 0 (by omega)).to ?_)
    rw [List.drop_of_length_le (l := c1) (by omega), List.drop_of_length_le (l := c2) (by omega)]
    simp
  | d + 1, i, h => by
    have e := drop_two z42 (a := c1) (b := c2) (i := i) (by omega) (by omega)
    refine Evt.succ (fun k => by simp only [code_Equal.l0]; rw [if_pos (by omega), if_pos (by omega), if_pos (by omega), if_pos (by omega)]) (Evt.bind (class_code (rd_T42 c1 i) (rd_T42 c2 i) (hc _ (rdT42_mem (by omega)))) ?_)
    by_cases hx : rd_T42 c1 i = rd_T42 c2 i
    · refine Evt.eq (g := fun k => code_Equal.l0 k c1.length ((i + 1 : Nat) : Int) c1 a c2 b) (fun k => ?_) ((equal_loop0 hl hm ha hlc hmc hc d (i + 1) (by omega)).to ?_)
      · rw [if_pos (by simp [hx]), wrap_succ (n := c1.length) (by omega) hmc]
      · have hx2 : c1.getD i z42 = c2.getD i z42 := hx
        simp only [e, hx2, true_and]
    · refine Evt.eq (fun k => by rw [if_neg (by simp [hx])]) ((Evt.const false).to ?_)
      have hx2 : ¬ c1.getD i z42 = c2.getD i z42 := hx
      simp only [e, hx2, false_and, decide_false]
theorem equal_code (h1 : c1.length ≤ 9223372036854775807) (h2 : a.length ≤ 9223372036854775807) (g1 : lC c1) (g2 : lF a) : Evt (fun k => code_Equal.f k c1 a c2 b) (decide (c1 = c2 ∧ a = b)) := by
  have no : ∀ {g : Nat → Option Bool}, ¬ (c1 = c2 ∧ a = b) → Evt g false → Evt g (decide (c1 = c2 ∧ a = b)) := fun h hg => hg.to (by simpa using h)
  by_cases hc : c1.length = c2.length
  · by_cases hl : a.length = b.length
    · refine Evt.eq (fun k => by unfold code_Equal.f; rw [if_pos (by omega)]) ?_
      refine Evt.succ (g := fun k => code_Equal.l0 k c1.length (0 : Nat) c1 a c2 b) (fun k => by rw [code_Equal.j0, if_neg (by simp [hl])]; rfl) ((equal_loop0 c1 c2 a b hl h2 g2 hc h1 g1 c1.length 0 (by omega)).to (by simp))
    · refine no (fun h => hl (by rw [h.2])) (Evt.eq (fun k => by unfold code_Equal.f; rw [if_pos (by omega)]) ?_)
      exact Evt.succ (fun k => by rw [code_Equal.j0, if_pos (by simpa using fun h => hl (by omega))]) (Evt.const false)
  · refine no (fun h => hc (by rw [h.1])) (Evt.eq (fun k => by unfold code_Equal.f; rw [if_neg (by omega)]) ?_)
    exact Evt.succ (fun k => by rw [code_Equal.j0, if_pos rfl]) (Evt.const false)

/-- Has a program few parts? -/
def lightC (x : S42) : Bool := decide (x.f1.length ≤ 40)
def lightF (x : S48) : Bool := decide (x.f4.length ≤ 400 ∧ x.f1.length ≤ 40 ∧ x.f3.length ≤ 40)
def lightP : Bool := decide (c1.length ≤ 40 ∧ a.length ≤ 40) && (c1.all lightC && a.all lightF)
theorem light_loop1 (hm : a.length ≤ 40) : ∀ (d i : Nat), a.length = i + d → Evt (fun k => windrowlaw13_light.l1 k i c1 a) ((a.drop i).all lightF)
  | 0, i, h => Evt.succ (fun k => by simp only [windrowlaw13_light.l1]; rw [if_neg (by omega)]) ((Evt.const true).to (by rw [List.drop_of_length_le (by omega)]; rfl))
  | d + 1, i, h => by
    have hd : a.drop i = rd_T48 a i :: a.drop (i + 1) := by
      rw [List.drop_eq_getElem_cons (by omega)]
      simp [rd_T48, List.getD_eq_getElem?_getD, show i < a.length by omega]
    have ih := light_loop1 hm d (i + 1) (by omega)
    rw [hd, List.all_cons]
    by_cases h4 : (rd_T48 a i).f4.length ≤ 400
    · by_cases h1 : (rd_T48 a i).f1.length ≤ 40
      · by_cases h3 : (rd_T48 a i).f3.length ≤ 40
        · refine Evt.succ (g := fun k => windrowlaw13_light.l1 k ((i + 1 : Nat) : Int) c1 a) (fun k => ?_) (ih.to (by simp [lightF, h4, h1, h3]))
          simp only [windrowlaw13_light.l1]
          rw [if_pos (by omega), if_pos (by omega), if_neg (by omega), if_neg (by omega), if_neg (by omega), wrap_succ (n := a.length) (by omega) (by omega)]
        · refine Evt.succ (fun k => by simp only [windrowlaw13_light.l1]; rw [if_pos (by omega), if_pos (by omega), if_neg (by omega), if_neg (by omega), if_pos (by omega)]) ((Evt.const false).to (by simp [lightF, h3]))
      · refine Evt.succ (fun k => by simp only [windrowlaw13_light.l1]; rw [if_pos (by omega), if_pos (by omega), if_neg (by omega), if_pos (by omega)]) ((Evt.const false).to (by simp [lightF, h1]))
    · refine Evt.succ (fun k => by simp only [windrowlaw13_light.l1]; rw [if_pos (by omega), if_pos (by omega), if_pos (by omega)]) ((Evt.const false).to (by simp [lightF, h4]))
theorem light_loop0 (hm : a.length ≤ 40) (hc : c1.length ≤ 40) : ∀ (d i : Nat), c1.length = i + d → Evt (fun k => windrowlaw13_light.l0 k i c1 a) ((c1.drop i).all lightC && a.all lightF)
  | 0, i, h => Evt.succ (g := fun k => windrowlaw13_light.l1 k (0 : Nat) c1 a) (fun k => by simp only [windrowlaw13_light.l0]; rw [if_neg (by omega)]; rfl) ((light_loop1 c1 a hm a.length 0 (by omega)).to (by rw [List.drop_of_length_le (l := c1) (by omega), List.drop_zero]; simp))
  | d + 1, i, h => by
    have hd : c1.drop i = rd_T42 c1 i :: c1.drop (i + 1) := by
      rw [List.drop_eq_getElem_cons (by omega)]
      simp [rd_T42, List.getD_eq_getElem?_getD, show i < c1.length by omega]
    have ih := light_loop0 hm hc d (i + 1) (by omega)
    rw [hd, List.all_cons]
    by_cases h1 : (rd_T42 c1 i).f1.length ≤ 40
    · refine Evt.succ (g := fun k => windrowlaw13_light.l0 k ((i + 1 : Nat) : Int) c1 a) (fun k => ?_) (ih.to (by simp [lightC, h1]))
      simp only [windrowlaw13_light.l0]
      rw [if_pos (by omega), if_pos (by omega), if_neg (by omega), wrap_succ (n := c1.length) (by omega) (by omega)]
    · refine Evt.succ (fun k => by simp only [windrowlaw13_light.l0]; rw [if_pos (by omega), if_pos (by omega), if_pos (by omega)]) ((Evt.const false).to (by simp [lightC, h1]))
theorem light_code : Evt (fun k => windrowlaw13_light.f k c1 a) (lightP c1 a) := by
  by_cases hc : c1.length ≤ 40
  · by_cases hm : a.length ≤ 40
    · refine Evt.eq (fun k => by unfold windrowlaw13_light.f; rw [if_neg (by omega)]) ?_
      refine Evt.succ (g := fun k => windrowlaw13_light.l0 k (0 : Nat) c1 a) (fun k => by rw [windrowlaw13_light.j0, if_neg (by simp; omega)]; rfl) ((light_loop0 c1 a hm hc c1.length 0 (by omega)).to (by simp [lightP, hc, hm]))
    · refine Evt.eq (fun k => by unfold windrowlaw13_light.f; rw [if_neg (by omega)]) ?_
      exact Evt.succ (fun k => by rw [windrowlaw13_light.j0, if_pos (by simp; omega)]) ((Evt.const false).to (by simp [lightP, hm]))
  · refine Evt.eq (fun k => by unfold windrowlaw13_light.f; rw [if_pos (by omega)]) ?_
    exact Evt.succ (fun k => by rw [windrowlaw13_light.j0, if_pos rfl]) ((Evt.const false).to (by simp [lightP, hc]))
end
end Go.Proofs.Ytakpdmkfengghaa.Pe
