/- Plain facts on entries: which are right, and their words. No memory. -/
import Derived.Test.YtelfiegocdjnoaaDoorMgB
import Derived.Test.YtelfiegocdjnoaaDoorIe
import Derived.Test.YtelfiegocdjnoaaDoorMrF0
import Derived.Test.YtelfiegocdjnoaaDoorMrF1
namespace Go.Proofs.YtelfiegocdjnoaaDoor.Pg
open Go Go.RowKit Go.Proofs.YtelfiegocdjnoaaDoorW.PrintWords Go.Proofs.YtelfiegocdjnoaaDoorW.PrintLast Go.Proofs.YtelfiegocdjnoaaDoorW.PrintMore Go.Proofs.YtelfiegocdjnoaaDoor.Q
set_option linter.unusedVariables false
set_option linter.unusedSimpArgs false

theorem owner_ (q : Nat) (k c s o y : Int) : header_Entry_owner.f (q + 1) k c s o y = some (own k s o) := by
  unfold header_Entry_owner.f own
  by_cases h0 : 0 ≤ o <;> by_cases h6 : o < 6 <;> by_cases s0 : s = 0 <;> by_cases s1 : s = 1 <;> by_cases s2 : s = 2 <;> simp [header_Entry_owner.j0, h0, h6, s0, s1, s2]
theorem right_ (q : Nat) (k c s o y : Int) : header_Entry_right.f (q + 1) k c s o y = some (isE k c s o y) := by
  unfold header_Entry_right.f isE
  rw [owner_, Option.bind_some]
  generalize own k s o = b
  by_cases h0 : y < 0
  · simp [h0, header_Entry_right.j0]
  · by_cases h1 : y > 4294967295
    · rw [if_neg h0, if_pos h1, if_pos (.inr (.inl h1)), header_Entry_right.j0, if_pos rfl]
    · rw [if_neg h0, if_neg h1]
      cases b
      · rw [header_Entry_right.j0, if_pos (show (!false) = true from rfl), if_pos (.inr (.inr rfl))]
      · rw [header_Entry_right.j0, if_neg (show ¬ ((!true) = true) by decide), if_neg (show ¬ (y < 0 ∨ y > 4294967295 ∨ true = false) by simp [h0]; omega)]
        clear h0 h1
        by_cases k1 : k = 1
        · rw [if_pos k1, if_pos k1]
          by_cases h : c ≥ 0
          · rw [if_pos h]; simp; omega
          · rw [if_neg h]; simp; omega
        · rw [if_neg k1, if_neg k1]
          by_cases k2 : k = 2
          · rw [if_pos k2, if_pos k2]
            by_cases h : c ≥ 1
            · rw [if_pos h]; simp; omega
            · rw [if_neg h]; simp; omega
          · rw [if_neg k2, if_neg k2]
            by_cases k3 : k = 3
            · rw [if_pos k3, if_pos k3]
              by_cases h : c ≥ 1
              · rw [if_pos h]
                by_cases h4 : c < 4
                · rw [if_pos h4]
                  by_cases hs : s = 0
                  · rw [if_pos hs]
                    simp only [Option.some.injEq]
                    rw [Bool.eq_iff_iff, beq_iff_eq, decide_eq_true_eq]
                    exact ⟨fun hy => ⟨h, h4, hs, hy⟩, fun hx => hx.2.2.2⟩
                  · rw [if_neg hs]; simp [hs]
                · rw [if_neg h4]; simp; omega
              · rw [if_neg h]; simp; omega
            · rw [if_neg k3, if_neg k3]
              simp only [Option.some.injEq]
              rw [Bool.eq_iff_iff]
              simp
end Go.Proofs.YtelfiegocdjnoaaDoor.Pg
