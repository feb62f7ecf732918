/- Plain facts on the names of instructions (the door seat): the document's answers. No memory. -/
import Derived.Test.YtakpdmkfengghaaDoorNm1
namespace Go.Proofs.YtakpdmkfengghaaDoor.Nm
open Go Go.RowKit Go.Proofs.YtakpdmkfengghaaDoor.Sep Go.Proofs.YtakpdmkfengghaaDoorW.PrintWords Go.Proofs.YtakpdmkfengghaaDoorW.PrintLast Go.Proofs.YtakpdmkfengghaaDoorW.PrintMore Go.Proofs.YtakpdmkfengghaaDoor.Q Go.Proofs.YtakpdmkfengghaaDoor.Wr
set_option linter.unusedVariables false
set_option linter.unusedSimpArgs false

theorem ref_two (a : Int) (l : List Int) (h3 : l.length ≤ 100) : ∀ (d i q : Nat), l.length ≤ i + d → d ≤ q → i ≤ l.length → windrowref13_Operands.l1 (q + 1) a l i = some (if a ∈ l.drop i then 1 else 0)
  | d, i, q, h1, h2, h4 => by
    simp only [windrowref13_Operands.l1]
    by_cases hi : i < l.length
    · have hd : l.drop i = rd l i :: l.drop (i + 1) := by
        rw [List.drop_eq_getElem_cons hi]
        simp [rd, List.getD_eq_getElem?_getD, hi]
      rw [if_pos (by omega), if_pos (by omega), hd]
      by_cases he : rd l i = a
      · rw [if_pos he]; simp [he]
      · rw [if_neg he]
        have hw : wrap64 ((i : Int) + 1) = ((i + 1 : Nat) : Int) := by unfold wrap64; omega
        obtain ⟨d', rfl⟩ : ∃ m, d = m + 1 := ⟨d - 1, by omega⟩
        obtain ⟨q', rfl⟩ : ∃ m, q = m + 1 := ⟨q - 1, by omega⟩
        rw [hw, ref_two a l h3 d' (i + 1) q' (by omega) (by omega) (by omega)]
        have he2 : ¬ a = rd l i := fun h => he h.symm
        simp [he2]
    · rw [if_neg (by omega), List.drop_of_length_le (by omega)]
      simp
theorem ref_one (a : Int) (m l : List Int) (hm : m.length ≤ 50) (h3 : l.length ≤ 100) : ∀ (d i q : Nat), l.length ≤ i + d → d + 55 ≤ q → i ≤ l.length → windrowref13_Operands.l0 (q + 1) a l m i = some (if a ∈ l.drop i then 2 else if a ∈ m then 1 else 0)
  | d, i, q, h1, h2, h4 => by
    simp only [windrowref13_Operands.l0]
    by_cases hi : i < l.length
    · have hd : l.drop i = rd l i :: l.drop (i + 1) := by
        rw [List.drop_eq_getElem_cons hi]
        simp [rd, List.getD_eq_getElem?_getD, hi]
      rw [if_pos (by omega), if_pos (by omega), hd]
      by_cases he : rd l i = a
      · rw [if_pos he]; simp [he]
      · rw [if_neg he]
        have hw : wrap64 ((i : Int) + 1) = ((i + 1 : Nat) : Int) := by unfold wrap64; omega
        obtain ⟨d', rfl⟩ : ∃ m, d = m + 1 := ⟨d - 1, by omega⟩
        obtain ⟨q', rfl⟩ : ∃ m, q = m + 1 := ⟨q - 1, by omega⟩
        rw [hw, ref_one a m l hm h3 d' (i + 1) q' (by omega) (by omega) (by omega)]
        have he2 : ¬ a = rd l i := fun h => he h.symm
        simp [he2]
    · rw [if_neg (by omega), List.drop_of_length_le (by omega)]
      obtain ⟨q', rfl⟩ : ∃ m, q = m + 1 := ⟨q - 1, by omega⟩
      have := ref_two a m (by omega) m.length 0 q' (by omega) (by omega) (by omega)
      simpa using this
theorem opN_ref (a : Int) : windrowref13_Operands.f 70 a = some (opN a) := by
  have ht : windrowref13_Operands.j0 70 a true = some (-1) := by rw [windrowref13_Operands.j0, if_pos rfl]
  have hf : windrowref13_Operands.j0 70 a false = windrowref13_Operands.l0 69 a [25, 26, 27] [1, 3, 4, 18, 19, 20, 22, 33, 34, 35] 0 := by rw [windrowref13_Operands.j0, if_neg (by decide)]
  unfold windrowref13_Operands.f
  by_cases h1 : a < 1
  · rw [if_pos h1, ht]
    unfold opN
    rw [if_neg (by omega), if_neg (by omega), if_pos (.inl h1)]
  · rw [if_neg h1]
    by_cases h2 : a > 39
    · rw [decide_eq_true h2, ht]
      unfold opN
      rw [if_neg (by omega), if_neg (by omega), if_pos (.inr h2)]
    · rw [decide_eq_false h2, hf]
      have := ref_one a [1, 3, 4, 18, 19, 20, 22, 33, 34, 35] [25, 26, 27] (by decide) (by decide) 3 0 68 (by decide) (by decide) (by decide)
      refine this.trans ?_
      unfold opN
      simp only [List.mem_cons, List.not_mem_nil, or_false, List.drop_zero]
      congr 1
      by_cases h3 : a = 25 ∨ a = 26 ∨ a = 27
      · have h4 : ¬ (a = 1 ∨ a = 3 ∨ a = 4 ∨ a = 18 ∨ a = 19 ∨ a = 20 ∨ a = 22 ∨ a = 33 ∨ a = 34 ∨ a = 35) := by omega
        rw [if_pos h3, if_neg h4, if_pos h3]
      · rw [if_neg h3, if_neg h3]
        split
        · rfl
        · rw [if_neg (by omega)]

theorem name_ref (op : Int) : windrowref13_Name.f op = some (nameS op) := by
  unfold windrowref13_Name.f
  rw [nms_ref]
  show (if op < 0 then some (⟨#[]⟩ : ByteArray) else if op ≥ (nms.length : Int) then some ⟨#[]⟩ else if 0 ≤ op then (if op < (nms.length : Int) then some (rdOf ByteArray.empty nms op) else none) else none) = _
  rw [nms_len]
  by_cases h0 : op < 0
  · rw [if_pos h0]
    exact congrArg some (if_neg (by omega)).symm
  · rw [if_neg h0]
    by_cases h1 : op ≥ ((40 : Nat) : Int)
    · rw [if_pos h1]
      exact congrArg some (if_neg (by omega)).symm
    · rw [if_neg h1, if_pos (by omega), if_pos (by omega)]
      congr 1
      by_cases h2 : 1 ≤ op
      · exact (if_pos ⟨h2, by omega⟩).symm
      · have : op = 0 := by omega
        subst this
        rfl
theorem find_loop (s : ByteArray) : ∀ (d i k : Nat), i + d = 40 → 1 ≤ i → windrowref13_Find.l0 (k + d + 1) s nms i = some (findL (nms.drop i) i s)
  | 0, i, k, h, h1 => by
    simp only [windrowref13_Find.l0]
    rw [if_neg (by rw [nms_len]; omega)]
    have : i = 40 := by omega
    subst this
    rfl
  | d + 1, i, k, h, h1 => by
    have ih := find_loop s d (i + 1) k (by omega) (by omega)
    rw [findL_skip i (by omega) s]
    show windrowref13_Find.l0 ((k + d + 1) + 1) s nms i = _
    rw [windrowref13_Find.l0]
    rw [if_pos (by rw [nms_len]; omega), if_pos (by omega)]
    have e : rdOf ByteArray.empty nms (i : Int) = nms.getD i ByteArray.empty := rfl
    rw [e]
    have w : wrap64 ((i : Int) + 1) = ((i + 1 : Nat) : Int) := by unfold wrap64; omega
    rw [w]
    split
    · rfl
    · exact ih
theorem find_ref (s : ByteArray) : windrowref13_Find.f 40 s = some (findS s) := by
  unfold windrowref13_Find.f
  rw [nms_ref]
  exact find_loop s 39 1 0 (by omega) (by omega)
theorem back_all : ((List.range 40).all fun i => i == 0 || decide (findS (nms.getD i ByteArray.empty) = (i : Int))) = true := by
  decide +kernel
theorem back_none : findS ⟨#[]⟩ = 0 := by decide +kernel
theorem find_name (op : Int) : findS (nameS op) = Int.tmod (max 0 (min op 40)) 40 := by
  by_cases h : 1 ≤ op ∧ op ≤ 39
  · have e : nameS op = nms.getD op.toNat ByteArray.empty := if_pos h
    rw [e]
    obtain ⟨n, rfl⟩ := Int.eq_ofNat_of_zero_le (show (0 : Int) ≤ op by omega)
    have := List.all_eq_true.1 back_all n (List.mem_range.2 (by omega))
    simp only [Bool.or_eq_true, beq_iff_eq, decide_eq_true_eq] at this
    have h2 : (n : Int).toNat = n := rfl
    rw [h2]
    rcases this with h3 | h3
    · omega
    · rw [h3]
      have h4 : max (0 : Int) (min (n : Int) 40) = n := by omega
      rw [h4, Int.tmod_eq_emod_of_nonneg (by omega)]
      omega
  · have e : nameS op = ⟨#[]⟩ := if_neg h
    rw [e, back_none]
    have h4 : max (0 : Int) (min op 40) = 0 ∨ max (0 : Int) (min op 40) = 40 := by omega
    rcases h4 with h4 | h4 <;> rw [h4] <;> rfl
end Go.Proofs.YtakpdmkfengghaaDoor.Nm
