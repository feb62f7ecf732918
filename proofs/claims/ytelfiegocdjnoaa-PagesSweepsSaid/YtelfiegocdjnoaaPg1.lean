/- Plain facts on plans, entries and words: what the program's and the document's functions answer. No memory. -/
import Derived.Test.YtelfiegocdjnoaaPg0
import Derived.Laws.BitsAllLaws
import Derived.Test.YtelfiegocdjnoaaMrF0
namespace Go.Proofs.Ytelfiegocdjnoaa.Pg
open Go Go.RowKit Go.Proofs.YtelfiegocdjnoaaW.PrintWords Go.Proofs.YtelfiegocdjnoaaW.PrintLast Go.Proofs.YtelfiegocdjnoaaW.PrintMore Go.Proofs.Ytelfiegocdjnoaa.Q
set_option linter.unusedVariables false
set_option linter.unusedSimpArgs false
set_option maxRecDepth 100000

/-! ### The plans of one to five pages, one to three threads, rings of one -/
theorem where_ (l : List S134) (k : Int) (n : Nat) (hk : k ≠ 0) (hl : l.length ≤ 1000) (h : firstB l k n = true) : ∀ (d i q : Nat), i + d = n → d < q → windrowref06_Where.l0 q l i k 0 0 = some (n : Int) := by
  unfold firstB at h
  rw [Bool.and_eq_true] at h
  obtain ⟨h1, h2⟩ := h
  have hn : n < l.length := by
    by_cases hn : n < l.length
    · exact hn
    · rw [List.getElem?_eq_none (by omega)] at h2; cases h2
  rw [List.getElem?_eq_getElem hn] at h2
  simp only [Bool.and_eq_true, beq_iff_eq] at h2
  have hrd : ∀ j : Nat, (hj : j < l.length) → rd_T134 l (j : Int) = l[j] := fun j hj => by simp [rd_T134, List.getD_eq_getElem?_getD, hj]
  intro d
  induction d with
  | zero =>
    intro i q hi hq
    obtain ⟨q, rfl⟩ : ∃ m, q = m + 1 := ⟨q - 1, by omega⟩
    have : i = n := by omega
    subst this
    rw [windrowref06_Where.l0, if_pos (by omega), if_neg hk, if_pos (by omega), hrd i hn, if_pos (by simp [h2])]
  | succ d ih =>
    intro i q hi hq
    obtain ⟨q, rfl⟩ : ∃ m, q = m + 1 := ⟨q - 1, by omega⟩
    have hil : i < l.length := by omega
    have hw : wrap64 ((i : Int) + 1) = ((i + 1 : Nat) : Int) := by unfold wrap64; omega
    have hne : (l[i].f0 == k) = false := by
      have hm : l[i] ∈ l.take n := by
        rw [List.mem_take_iff_getElem]
        exact ⟨i, by omega, rfl⟩
      have := List.all_eq_true.1 h1 _ hm
      simpa using this
    rw [windrowref06_Where.l0, if_pos (by omega), if_neg hk, if_pos (by omega), hrd i hil, hne, Bool.false_and, if_neg (by decide), hw]
    exact ih (i + 1) q (by omega) (by omega)
theorem cells_ (P T : Nat) (hP : P < 5) (hT : T < 3) : ∃ k, windrowref06_Cells.f k ((P : Int) + 1) ((T : Int) + 1) 1 = some (128 + 64 * (P : Int)) := by
  obtain ⟨k, l, hk, h1, h2, _⟩ := spots_ P T hP hT
  refine ⟨k, ?_⟩
  unfold windrowref06_Cells.f
  rw [h1, Option.bind_some, h2]
  congr 1
theorem draw_ (P T : Nat) (hP : P < 5) (hT : T < 3) : ∃ k, windrowref06_Draw.f k ((P : Int) + 1) ((T : Int) + 1) 1 = some ((P : Int) + 1, (T : Int) + 1, 1, 64, 22 + 6 * (T : Int), 128 + 64 * (P : Int)) := by
  obtain ⟨k, l, hk, h1, h2, h3, h4⟩ := spots_ P T hP hT
  have hr : windrowref06_Right.f ((P : Int) + 1) ((T : Int) + 1) 1 = some true := by
    unfold windrowref06_Right.f
    rw [if_pos (by omega), if_pos (by omega), if_pos (by omega), if_pos (by omega), if_pos (by decide)]
    rfl
  have e1 := where_ l 8 64 (by decide) (by omega) h3 64 0 k rfl (by omega)
  have e2 := where_ l 5 (22 + 6 * T) (by decide) (by omega) h4 (22 + 6 * T) 0 k (by omega) (by omega)
  refine ⟨k, ?_⟩
  have hc : windrowref06_Cells.f k ((P : Int) + 1) ((T : Int) + 1) 1 = some (128 + 64 * (P : Int)) := by
    unfold windrowref06_Cells.f
    rw [h1, Option.bind_some, h2]
    congr 1
  unfold windrowref06_Draw.f
  rw [hr, Option.bind_some, if_pos rfl]
  unfold windrowref06_Base.f windrowref06_Where.f
  rw [h1]
  simp only [Option.bind_some]
  rw [show ((0 : Nat) : Int) = 0 from rfl] at e1 e2
  rw [e1, Option.bind_some, e2, Option.bind_some, hc, Option.bind_some]
  congr 1
theorem w_of (x : Int) (h0 : 0 ≤ x) (h1 : x ≤ 100000) : wrap64 x = x := by unfold wrap64; omega
theorem plan_right (P T : Nat) (hP : P < 5) (hT : T < 3) : layout_Plan_right.f ((P : Int) + 1) ((T : Int) + 1) 1 = some true := by
  unfold layout_Plan_right.f
  rw [if_pos (by omega), if_pos (by omega), if_pos (by omega), if_pos (by omega), if_pos (by decide)]
  rfl
theorem page_ (P T i tb : Nat) (hP : P < 5) (hT : T < 3) (hi : i < P + 1) (ht : tb ≤ 2) : layout_Plan_page.f ((P : Int) + 1) ((T : Int) + 1) 1 tb i = some (22 + 6 * (T : Int) + tb * ((P : Int) + 1) + i) := by
  obtain ⟨m, hm⟩ : ∃ m : Int, m = (tb : Int) * ((P : Int) + 1) := ⟨_, rfl⟩
  have hm1 : 0 ≤ m ∧ m ≤ 10 := by
    have : m = ((tb * (P + 1) : Nat) : Int) := by rw [hm]; push_cast; rfl
    have h2 : tb * (P + 1) ≤ 2 * 5 := Nat.mul_le_mul ht (by omega)
    omega
  have n0 : ¬ ((i : Int) < 0) := by omega
  have n1 : ¬ ((i : Int) ≥ (P : Int) + 1) := by omega
  have w0 : wrap64 (5 + 1) = 6 := w_of _ (by decide) (by decide)
  have w1 : wrap64 (((T : Int) + 1) * 6) = ((T : Int) + 1) * 6 := w_of _ (by omega) (by omega)
  have w2 : wrap64 (16 + ((T : Int) + 1) * 6) = 16 + ((T : Int) + 1) * 6 := w_of _ (by omega) (by omega)
  have w3 : wrap64 m = m := w_of _ (by omega) (by omega)
  have w4 : wrap64 (16 + ((T : Int) + 1) * 6 + m) = 16 + ((T : Int) + 1) * 6 + m := w_of _ (by omega) (by omega)
  have w5 : wrap64 (16 + ((T : Int) + 1) * 6 + m + (i : Int)) = 16 + ((T : Int) + 1) * 6 + m + (i : Int) := w_of _ (by omega) (by omega)
  unfold layout_Plan_page.f
  rw [plan_right P T hP hT, Option.bind_some, if_pos rfl, if_neg n0, if_neg n1]
  unfold layout_Plan_tables.f layout_Plan_each.f
  simp only [Option.bind_some]
  rw [w0, w1, w2, ← hm, w3, w4, w5]
  congr 1
  clear w0 w1 w2 w3 w4 w5 hm
  omega
theorem page_out (P T : Nat) (i : Int) (tb : Int) (hP : P < 5) (hT : T < 3) (hi : i < 0 ∨ (P : Int) + 1 ≤ i) : layout_Plan_page.f ((P : Int) + 1) ((T : Int) + 1) 1 tb i = some (-1) := by
  unfold layout_Plan_page.f
  rw [plan_right P T hP hT, Option.bind_some, if_pos rfl]
  rcases hi with h | h
  · rw [if_pos h]
  · have n0 : ¬ (i < 0) := by omega
    rw [if_neg n0, if_pos h]
end Go.Proofs.Ytelfiegocdjnoaa.Pg
