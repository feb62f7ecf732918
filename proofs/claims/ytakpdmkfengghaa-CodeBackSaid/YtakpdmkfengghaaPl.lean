/- Plain facts: which programs have few parts. No memory. -/
import Derived.Test.YtakpdmkfengghaaMrC
import Derived.Test.YtakpdmkfengghaaEv
namespace Go.Proofs.Ytakpdmkfengghaa.Pe
open Go Go.RowKit Go.Proofs.Ytakpdmkfengghaa.Q Go.Proofs.YtakpdmkfengghaaW.PrintWords
set_option linter.unusedVariables false
set_option linter.unusedSimpArgs false

section
variable (c1 : List S42) (a : List S48)
/-- Has a program few parts? -/
def lightC (x : S42) : Bool := decide (x.f1.length ≤ 40)
def lightF (x : S48) : Bool := decide (x.f4.length ≤ 400 ∧ x.f1.length ≤ 40 ∧ x.f3.length ≤ 40)
def lightP : Bool := decide (c1.length ≤ 40 ∧ a.length ≤ 40) && (c1.all lightC && a.all lightF)
theorem light_loop1 (hm : a.length ≤ 40) : ∀ (d i : Nat), a.length = i + d → Evt (fun k => windrowlaw13_light.l1 k i c1 a) ((a.drop i).all lightF)
  | 0, i, h => Evt.succ (fun k => by simp only [windrowlaw13_light.l1]; rw [if_neg (by omega)]) ((Evt.const true).to (by rw [List.drop_of_length_le (by omega)]; rfl))
  | d + 1, i, h => by
    have hd : a.drop i = rd_T48 a i :: a.drop (i + 1) := by
      rw [List.drop_eq_getElem_cons (by omega)]
      simp [rd_T48, List.getD_eq_getElem?_getD, show i < a.length by omega]
    have ih := light_loop1 hm d (i + 1) (by omega)
    rw [hd, List.all_cons]
    by_cases h4 : (rd_T48 a i).f4.length ≤ 400
    · by_cases h1 : (rd_T48 a i).f1.length ≤ 40
      · by_cases h3 : (rd_T48 a i).f3.length ≤ 40
        · refine Evt.succ (g := fun k => windrowlaw13_light.l1 k ((i + 1 : Nat) : Int) c1 a) (fun k => ?_) (ih.to (by simp [lightF, h4, h1, h3]))
          simp only [windrowlaw13_light.l1]
          rw [if_pos (by omega), if_pos (by omega), if_neg (by omega), if_neg (by omega), if_neg (by omega), wrap_succ (n := a.length) (by omega) (by omega)]
        · refine Evt.succ (fun k => by simp only [windrowlaw13_light.l1]; rw [if_pos (by omega), if_pos (by omega), if_neg (by omega), if_neg (by omega), if_pos (by omega)]) ((Evt.const false).to (by simp [lightF, h3]))
      · refine Evt.succ (fun k => by simp only [windrowlaw13_light.l1]; rw [if_pos (by omega), if_pos (by omega), if_neg (by omega), if_pos (by omega)]) ((Evt.const false).to (by simp [lightF, h1]))
    · refine Evt.succ (fun k => by simp only [windrowlaw13_light.l1]; rw [if_pos (by omega), if_pos (by omega), if_pos (by omega)]) ((Evt.const false).to (by simp [lightF, h4]))
theorem light_loop0 (hm : a.length ≤ 40) (hc : c1.length ≤ 40) : ∀ (d i : Nat), c1.length = i + d → Evt (fun k => windrowlaw13_light.l0 k i c1 a) ((c1.drop i).all lightC && a.all lightF)
  | 0, i, h => Evt.succ (g := fun k => windrowlaw13_light.l1 k (0 : Nat) c1 a) (fun k => by simp only [windrowlaw13_light.l0]; rw [if_neg (by omega)]; rfl) ((light_loop1 c1 a hm a.length 0 (by omega)).to (by rw [List.drop_of_length_le (l := c1) (by omega), List.drop_zero]; simp))
  | d + 1, i, h => by
    have hd : c1.drop i = rd_T42 c1 i :: c1.drop (i + 1) := by
      rw [List.drop_eq_getElem_cons (by omega)]
      simp [rd_T42, List.getD_eq_getElem?_getD, show i < c1.length by omega]
    have ih := light_loop0 hm hc d (i + 1) (by omega)
    rw [hd, List.all_cons]
    by_cases h1 : (rd_T42 c1 i).f1.length ≤ 40
    · refine Evt.succ (g := fun k => windrowlaw13_light.l0 k ((i + 1 : Nat) : Int) c1 a) (fun k => ?_) (ih.to (by simp [lightC, h1]))
      simp only [windrowlaw13_light.l0]
      rw [if_pos (by omega), if_pos (by omega), if_neg (by omega), wrap_succ (n := c1.length) (by omega) (by omega)]
    · refine Evt.succ (fun k => by simp only [windrowlaw13_light.l0]; rw [if_pos (by omega), if_pos (by omega), if_pos (by omega)]) ((Evt.const false).to (by simp [lightC, h1]))
theorem light_code : Evt (fun k => windrowlaw13_light.f k c1 a) (lightP c1 a) := by
  by_cases hc : c1.length ≤ 40
  · by_cases hm : a.length ≤ 40
    · refine Evt.eq (fun k => by unfold windrowlaw13_light.f; rw [if_neg (by omega)]) ?_
      refine Evt.succ (g := fun k => windrowlaw13_light.l0 k (0 : Nat) c1 a) (fun k => by rw [windrowlaw13_light.j0, if_neg (by simp; omega)]; rfl) ((light_loop0 c1 a hm hc c1.length 0 (by omega)).to (by simp [lightP, hc, hm]))
    · refine Evt.eq (fun k => by unfold windrowlaw13_light.f; rw [if_neg (by omega)]) ?_
      exact Evt.succ (fun k => by rw [windrowlaw13_light.j0, if_pos (by simp; omega)]) ((Evt.const false).to (by simp [lightP, hm]))
  · refine Evt.eq (fun k => by unfold windrowlaw13_light.f; rw [if_pos (by omega)]) ?_
    exact Evt.succ (fun k => by rw [windrowlaw13_light.j0, if_pos rfl]) ((Evt.const false).to (by simp [lightP, hc]))
end
end Go.Proofs.Ytakpdmkfengghaa.Pe
