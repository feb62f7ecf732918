/- Plain facts on entries: which are right, and their words. No memory. -/
import Derived.Test.YtelfiegocdjnoaaDoorPg1
import Derived.Test.YtelfiegocdjnoaaDoorIe
import Derived.Test.YtelfiegocdjnoaaDoorMrF0
namespace Go.Proofs.YtelfiegocdjnoaaDoor.Pg
open Go Go.RowKit Go.Proofs.YtelfiegocdjnoaaDoorW.PrintWords Go.Proofs.YtelfiegocdjnoaaDoorW.PrintLast Go.Proofs.YtelfiegocdjnoaaDoorW.PrintMore Go.Proofs.YtelfiegocdjnoaaDoor.Q
set_option linter.unusedVariables false
set_option linter.unusedSimpArgs false

theorem owner_ (q : Nat) (k c s o y : Int) : header_Entry_owner.f (q + 1) k c s o y = some (own k s o) := by
  unfold header_Entry_owner.f own
  by_cases h0 : 0 ≤ o <;> by_cases h6 : o < 6 <;> by_cases s0 : s = 0 <;> by_cases s1 : s = 1 <;> by_cases s2 : s = 2 <;> simp [header_Entry_owner.j0, h0, h6, s0, s1, s2]
theorem right_ (q : Nat) (k c s o y : Int) : header_Entry_right.f (q + 1) k c s o y = some (isE k c s o y) := by
  unfold header_Entry_right.f isE
  rw [owner_, Option.bind_some]
  generalize own k s o = b
  by_cases h0 : y < 0
  · simp [h0, header_Entry_right.j0]
  · by_cases h1 : y > 4294967295
    · rw [if_neg h0, if_pos h1, if_pos (.inr (.inl h1)), header_Entry_right.j0, if_pos rfl]
    · rw [if_neg h0, if_neg h1]
      cases b
      · rw [header_Entry_right.j0, if_pos (show (!false) = true from rfl), if_pos (.inr (.inr rfl))]
      · rw [header_Entry_right.j0, if_neg (show ¬ ((!true) = true) by decide), if_neg (show ¬ (y < 0 ∨ y > 4294967295 ∨ true = false) by simp [h0]; omega)]
        clear h0 h1
        by_cases k1 : k = 1
        · rw [if_pos k1, if_pos k1]
          by_cases h : c ≥ 0
          · rw [if_pos h]; simp; omega
          · rw [if_neg h]; simp; omega
        · rw [if_neg k1, if_neg k1]
          by_cases k2 : k = 2
          · rw [if_pos k2, if_pos k2]
            by_cases h : c ≥ 1
            · rw [if_pos h]; simp; omega
            · rw [if_neg h]; simp; omega
          · rw [if_neg k2, if_neg k2]
            by_cases k3 : k = 3
            · rw [if_pos k3, if_pos k3]
              by_cases h : c ≥ 1
              · rw [if_pos h]
                by_cases h4 : c < 4
                · rw [if_pos h4]
                  by_cases hs : s = 0
                  · rw [if_pos hs]
                    simp only [Option.some.injEq]
                    rw [Bool.eq_iff_iff, beq_iff_eq, decide_eq_true_eq]
                    exact ⟨fun hy => ⟨h, h4, hs, hy⟩, fun hx => hx.2.2.2⟩
                  · rw [if_neg hs]; simp [hs]
                · rw [if_neg h4]; simp; omega
              · rw [if_neg h]; simp; omega
            · rw [if_neg k3, if_neg k3]
              simp only [Option.some.injEq]
              rw [Bool.eq_iff_iff]
              simp
theorem entry_ (q : Nat) (k c s o y : Int) : windrowref02_IsEntry.f (q + 3) k c s o y = some (isE k c s o y) := by
  have j2 : ∀ (m : Nat) (b : Bool) (s : Int), windrowref02_IsEntry.j2 (m + 1) b k c s o y = some (if s = 0 then o == 0 else if s = 1 then (if b = true then k == 1 else false) else if s = 2 then (if b = true then true else o == 15) else false) := by
    intro m b s
    rw [windrowref02_IsEntry.j2]
    (repeat' split) <;> rfl
  have j1 : ∀ m : Nat, windrowref02_IsEntry.j1 (m + 2) false k c s o y = some (own k s o) := by
    intro m
    rw [windrowref02_IsEntry.j1, if_neg (by decide)]
    unfold own
    by_cases h0 : 0 ≤ o <;> by_cases h6 : o < 6 <;> by_cases h5 : o ≤ 5 <;> by_cases s0 : s = 0 <;> by_cases s1 : s = 1 <;> by_cases s2 : s = 2 <;> first | (exfalso; omega) | simp [j2, h0, h6, h5, s0, s1, s2]
  have j1t : ∀ m : Nat, windrowref02_IsEntry.j1 (m + 1) true k c s o y = some false := by
    intro m
    rw [windrowref02_IsEntry.j1, if_pos rfl]
  unfold windrowref02_IsEntry.f isE
  by_cases hk0 : k = 0
  · subst hk0
    rw [if_pos rfl, if_neg (by decide : ¬ ((0 : Int) = 1)), if_neg (by decide : ¬ ((0 : Int) = 2)), if_neg (by decide : ¬ ((0 : Int) = 3))]
    by_cases hc : c = 0 <;> by_cases hs : s = 0 <;> by_cases ho : o = 0 <;> by_cases hy : y = 0 <;> simp [own, hc, hs, ho, hy]
  · rw [if_neg hk0]
    by_cases h0 : y < 0
    · rw [if_pos h0, windrowref02_IsEntry.j0, if_pos rfl, if_pos (.inl h0)]
    · rw [if_neg h0]
      by_cases h1 : y > 4294967295
      · rw [decide_eq_true h1, windrowref02_IsEntry.j0, if_pos rfl, if_pos (.inr (.inl h1))]
      · rw [decide_eq_false h1, windrowref02_IsEntry.j0, if_neg (by decide)]
        by_cases hk3 : k = 3
        · subst hk3
          rw [if_pos rfl, if_neg (by decide : ¬ ((3 : Int) = 1)), if_neg (by decide : ¬ ((3 : Int) = 2)), if_pos rfl]
          by_cases hc1 : c ≥ 1 <;> by_cases hc3 : c ≤ 3 <;> by_cases hs : s = 0 <;> by_cases ho : o = 0 <;> by_cases hy : y = 0 <;> simp [own, hc1, hc3, hs, ho, hy, h0, h1] <;> omega
        · rw [if_neg hk3, if_neg hk3]
          by_cases hk1 : k = 1
          · subst hk1
            rw [if_pos rfl, if_pos rfl, if_neg (by decide : ¬ ((1 : Int) = 2)), if_neg (by decide : ¬ ((1 : Int) < 1)), show decide ((1 : Int) > 2) = false by decide, j1t, j1]
            by_cases hc0 : c < 0
            · rw [if_pos hc0]; by_cases h2 : own 1 s o = false <;> simp [h2, h0, h1, hc0]; omega
            · rw [if_neg hc0]
              by_cases hc7 : c > 7
              · rw [if_pos hc7]; by_cases h2 : own 1 s o = false <;> simp [h2, h0, h1, hc0]; omega
              · rw [if_neg hc7]
                by_cases h2 : own 1 s o = false
                · simp [h2]
                · have h3 : own 1 s o = true := by simpa using h2
                  rw [h3, if_neg (by simp [h0, h1])]
                  simp only [Option.some.injEq]
                  exact (decide_eq_true ⟨by omega, by omega⟩).symm
          · rw [if_neg hk1, if_neg hk1]
            by_cases hk2 : k = 2
            · subst hk2
              rw [if_pos rfl, if_pos rfl, if_neg (by decide : ¬ ((2 : Int) < 1)), show decide ((2 : Int) > 2) = false by decide, j1t, j1]
              by_cases hc0 : c < 1
              · rw [if_pos hc0]; by_cases h2 : own 2 s o = false <;> simp [h2, h0, h1, hc0]; omega
              · rw [if_neg hc0]
                by_cases hc7 : c > 4
                · rw [if_pos hc7]; by_cases h2 : own 2 s o = false <;> simp [h2, h0, h1, hc0]; omega
                · rw [if_neg hc7]
                  by_cases h2 : own 2 s o = false
                  · simp [h2]
                  · have h3 : own 2 s o = true := by simpa using h2
                    rw [h3, if_neg (by simp [h0, h1])]
                    simp only [Option.some.injEq]
                    exact (decide_eq_true ⟨by omega, by omega⟩).symm
            · rw [if_neg hk2, if_neg hk2]
              have hr : decide (k = 0 ∧ c = 0 ∧ s = 0 ∧ o = 0 ∧ y = 0) = false := decide_eq_false fun h => hk0 h.1
              rw [hr]
              by_cases hl : k < 1
              · rw [if_pos hl, j1t]; simp
              · rw [if_neg hl, decide_eq_true (show k > 2 by omega), j1t]; simp
end Go.Proofs.YtelfiegocdjnoaaDoor.Pg
