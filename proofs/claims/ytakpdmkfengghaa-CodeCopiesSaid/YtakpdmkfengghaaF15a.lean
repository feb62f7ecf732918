-- PRINTED by print.py (a twelfth state) out of the translation. Not trusted: Lean checks it.
import Derived.Test.YtakpdmkfengghaaQ0
namespace Go.Proofs.Ytakpdmkfengghaa.Q
open Go.RowKit Go.Proofs.YtakpdmkfengghaaW.PrintWords Go.Proofs.YtakpdmkfengghaaW.PrintLast Go.Proofs.YtakpdmkfengghaaW.PrintMore
attribute [local go_sem] max2_int min2_int max_two min_two max_three min_three max_four min_four   -- for this text's walks alone
set_option linter.unusedVariables false
set_option linter.unusedSimpArgs false

/-! ### code_Copy: function 15 -/
mutual
def code_Copy.l0 : Nat → List (S42) → Int → Int → List (S42) → List (S48) → List (S42) → Option ((List (S42)) × (List (S48)))
  | 0, _, _, _, _, _, _ => none
  | k + 1, x9, x10, x11, x245000, x245001, x247000 => if x11 < x10 then (if 0 ≤ x11 then (if x11 < (x9.length : Int) then ((some (([] : List (S44)) : List (S44))).bind fun y249 => (if y249.length + ((rd_T42 x9 x11).f1).length < 5864062014805 then (if x247000.length < 3518437208883 then (code_Copy.l0 k x9 x10 (wrap64 (x11 + 1)) x245000 x245001 (x247000 ++ [(⟨(rd_T42 x9 x11).f0, (y249 ++ ((rd_T42 x9 x11).f1))⟩ : S42)])) else (none)) else (none))) else (none)) else (none)) else (code_Copy.l1 k x245001 (x245001.length : Int) 0 x247000 ([] : List (S48)))
def code_Copy.l1 : Nat → List (S48) → Int → Int → List (S42) → List (S48) → Option ((List (S42)) × (List (S48)))
  | 0, _, _, _, _, _ => none
  | k + 1, x29, x30, x31, x247000, x247001 => if x31 < x30 then (if 0 ≤ x31 then (if x31 < (x29.length : Int) then ((some (([] : List Int) : List Int)).bind fun y260 => (if y260.length + ((rd_T48 x29 x31).f1).length < 17592186044416 then ((some (([] : List Int) : List Int)).bind fun y266 => (if y266.length + ((rd_T48 x29 x31).f3).length < 17592186044416 then ((some (([] : List (S23)) : List (S23))).bind fun y272 => (if y272.length + ((rd_T48 x29 x31).f4).length < 5864062014805 then (if x247001.length < 1466015503701 then (code_Copy.l1 k x29 x30 (wrap64 (x31 + 1)) x247000 (x247001 ++ [(⟨(rd_T48 x29 x31).f0, (y260 ++ ((rd_T48 x29 x31).f1)), (rd_T48 x29 x31).f2, (y266 ++ ((rd_T48 x29 x31).f3)), (y272 ++ ((rd_T48 x29 x31).f4))⟩ : S48)])) else (none)) else (none))) else (none))) else (none))) else (none)) else (none)) else (some (x247000, x247001))
end
def code_Copy.f (k : Nat) (l0_0 : List (S42)) (l0_1 : List (S48)) : Option ((List (S42)) × (List (S48))) := code_Copy.l0 k l0_0 (l0_0.length : Int) 0 l0_0 l0_1 ([] : List (S42))
theorem code_Copy.mono_l : ∀ k, (∀ y0 y1 y2 y3 y4 y5, LeO (code_Copy.l0 k y0 y1 y2 y3 y4 y5) (code_Copy.l0 (k + 1) y0 y1 y2 y3 y4 y5)) ∧ (∀ y0 y1 y2 y3 y4, LeO (code_Copy.l1 k y0 y1 y2 y3 y4) (code_Copy.l1 (k + 1) y0 y1 y2 y3 y4))
  | 0 => ⟨fun _ _ _ _ _ _ r h => by simp [code_Copy.l0] at h, fun _ _ _ _ _ r h => by simp [code_Copy.l1] at h⟩
  | k + 1 => by
    obtain ⟨ih0, ih1⟩ := code_Copy.mono_l k;(refine ⟨?_, ?_⟩)
    · intro y0 y1 y2 y3 y4 y5
      unfold code_Copy.l0
      repeat' first
      | (with_reducible exact ih0 _ _ _ _ _ _)
      | (with_reducible exact ih1 _ _ _ _ _)
      | (with_reducible exact LeO.refl _)
      | (with_reducible exact LeO.none _)
      | (with_reducible refine LeO.ite ?_ ?_)
      | (with_reducible refine LeO.bind ?_ (fun _ => ?_))
      | exact ih0 _ _ _ _ _ _
      | exact ih1 _ _ _ _ _
      | exact LeO.none _
      | refine LeO.ite ?_ ?_
      | refine LeO.bind ?_ (fun _ => ?_)
    · intro y0 y1 y2 y3 y4
      unfold code_Copy.l1
      repeat' first
      | (with_reducible exact ih0 _ _ _ _ _ _)
      | (with_reducible exact ih1 _ _ _ _ _)
      | (with_reducible exact LeO.refl _)
      | (with_reducible exact LeO.none _)
      | (with_reducible refine LeO.ite ?_ ?_)
      | (with_reducible refine LeO.bind ?_ (fun _ => ?_))
      | exact ih0 _ _ _ _ _ _
      | exact ih1 _ _ _ _ _
      | exact LeO.none _
      | refine LeO.ite ?_ ?_
      | refine LeO.bind ?_ (fun _ => ?_)
theorem code_Copy.mono : ∀ a0 a1 k, LeO (code_Copy.f k a0 a1) (code_Copy.f (k + 1) a0 a1) := by
  intro a0 a1 k
  obtain ⟨ih0, ih1⟩ := code_Copy.mono_l k
  unfold code_Copy.f
  repeat' first
      | (with_reducible exact ih0 _ _ _ _ _ _)
      | (with_reducible exact ih1 _ _ _ _ _)
      | (with_reducible exact LeO.refl _)
      | (with_reducible exact LeO.none _)
      | (with_reducible refine LeO.ite ?_ ?_)
      | (with_reducible refine LeO.bind ?_ (fun _ => ?_))
      | exact ih0 _ _ _ _ _ _
      | exact ih1 _ _ _ _ _
      | exact LeO.none _
      | refine LeO.ite ?_ ?_
      | refine LeO.bind ?_ (fun _ => ?_)
def code_Copy.T5 : Bool × List (List Nat × List Nat) := (true, [([], []), ([0], [0]), ([], []), ([2], [2]), ([], []), ([], []), ([5], [5]), ([4, 6], [4, 6]), ([3, 7], [3, 7]), ([8], [8]), ([1, 9, 7], [1, 9]), ([0, 1, 2, 3, 4, 5, 6, 7, 8, 9, 10], []), ([11, 10, 10, 0, 1, 2, 3, 4, 5, 6, 7, 8, 9, 10], [10, 11])])
def code_Copy.B5 : List Nat := [0, 1, 0, 4, 0, 0, 32, 112, 252, 508, 1023, 2047, 4095]
theorem code_Copy.tab5 : rtab .any (opsOf Try.f15 5) = code_Copy.T5 := by kernel_rfl
theorem code_Copy.bits5 : waitsOk code_Copy.T5.2 code_Copy.B5 = true := by kernel_rfl
def code_Copy.T10 : Bool × List (List Nat × List Nat) := (true, [([], []), ([0], [0]), ([], []), ([2], [2]), ([], []), ([4], [4]), ([], []), ([], []), ([7], [7]), ([6, 8], [6, 8]), ([], []), ([], []), ([11], [11]), ([10, 12, 9], [10, 12]), ([], []), ([], []), ([15], [15]), ([14, 16, 13], [14, 16]), ([3, 5, 9, 13, 17], [3, 5, 9, 13, 17]), ([18], [18]), ([1, 19, 17], [1, 19]), ([0, 1, 2, 3, 4, 5, 6, 7, 8, 9, 10, 11, 12, 13, 14, 15, 16, 17, 18, 19, 20], []), ([21, 20, 20, 0, 1, 2, 3, 4, 5, 6, 7, 8, 9, 10, 11, 12, 13, 14, 15, 16, 17, 18, 19, 20], [20, 21])])
def code_Copy.B10 : List Nat := [0, 1, 0, 4, 0, 16, 0, 0, 128, 448, 0, 0, 2048, 8128, 0, 0, 32768, 131008, 262140, 524284, 1048575, 2097151, 4194303]
theorem code_Copy.tab10 : rtab .any (opsOf Try.f15 10) = code_Copy.T10 := by kernel_rfl
theorem code_Copy.bits10 : waitsOk code_Copy.T10.2 code_Copy.B10 = true := by kernel_rfl
theorem aM {p : Prop} (h : p) : Aside0 p := Aside0.mk h
end Go.Proofs.Ytakpdmkfengghaa.Q
