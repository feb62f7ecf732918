/- Look: the document's, in the same closed form: plain. Conditions: a plan of at most five pages; words of 64 bits. -/
import Derived.Test.YtelfiegocdjnoaaDoorLk2
import Derived.Laws.BitsAllLaws
import Derived.Test.YtelfiegocdjnoaaDoorMrF0
import Derived.Test.YtelfiegocdjnoaaDoorMrF1
namespace Go.Proofs.YtelfiegocdjnoaaDoor.Ar
open Go Go.RowKit Go.Proofs.YtelfiegocdjnoaaDoor.Sep Go.Proofs.YtelfiegocdjnoaaDoor.Pg Go.Proofs.YtelfiegocdjnoaaDoorW.PrintWords Go.Proofs.YtelfiegocdjnoaaDoorW.PrintLast Go.Proofs.YtelfiegocdjnoaaDoorW.PrintMore Go.Proofs.YtelfiegocdjnoaaDoor.Q
set_option linter.unusedVariables false
set_option linter.unusedSimpArgs false
set_option maxHeartbeats 8000000
set_option maxRecDepth 100000
theorem lift_ {α : Type} {g : Nat → Option α} (hm : ∀ k, LeO (g k) (g (k + 1))) {k0 : Nat} {r : α} (h : g k0 = some r) : ∀ k, k0 ≤ k → g k = some r := by
  intro k hk
  obtain ⟨d, rfl⟩ := Nat.exists_eq_add_of_le hk
  induction d with
  | zero => exact h
  | succ d ih => exact hm _ _ (ih (by omega))
theorem cell_ : ∀ c : Fin 16, ∀ j : Fin 64, windrowref05_Cell.f 40 (c.val : Int) (j.val : Int) = some (cellI (c.val : Int) (j.val : Int)) := by decide +kernel
theorem cells_ (k : Nat) (hk : 40 ≤ k) (c : Int) (h0 : 0 ≤ c) (h1 : c < 16) (j : Nat) (hj : j < 64) : windrowref05_Cell.f k c (j : Int) = some (cellI c (j : Int)) := by
  obtain ⟨n, rfl⟩ := Int.eq_ofNat_of_zero_le h0
  exact lift_ (g := fun k => windrowref05_Cell.f k (n : Int) (j : Int)) (windrowref05_Cell.mono _ _) (cell_ ⟨n, by omega⟩ ⟨j, hj⟩) k hk
theorem rfits_ (l : List S161) (c k n : Int) : windrowref10_Fits.f l c k n = some (fitT (l.map fun x => x.f1.length) c k n) := by
  unfold windrowref10_Fits.f fitT
  rw [rhead_]
  simp only [Option.bind_some]
  by_cases hh : isH c k n = true
  · rw [if_pos hh, hh, Bool.true_and, List.length_map]
    by_cases hk : k = 1
    · rw [if_pos hk, show decide (k ≠ 1) = false by simp [hk], Bool.false_or]
      have h0 : 0 ≤ c := by simp only [isH, decide_eq_true_eq] at hh; omega
      by_cases hc : c < (l.length : Int)
      · rw [if_pos hc, if_pos h0, show decide (c < (l.length : Int)) = true by simpa using hc, Bool.true_and]
        congr 1
        have e : (rd_T161 l c).f1.length = (l.map fun x => x.f1.length).getD c.toNat 0 := by
          unfold rd_T161
          simp [List.getD_eq_getElem?_getD, show c.toNat < l.length by omega]
        rw [e, Bool.eq_iff_iff]
        simp only [beq_iff_eq, decide_eq_true_eq]
      · rw [if_neg hc, show decide (c < (l.length : Int)) = false by simpa using hc, Bool.false_and]
    · rw [if_neg hk, show decide (k ≠ 1) = true by simp [hk], Bool.true_or]
  · rw [if_neg hh, show isH c k n = false by simpa using hh, Bool.false_and]
theorem cellI_j {c : Int} {j : Nat} (h : cellI c j = j) : (0 ≤ c ∧ c < 8) ∧ (j : Int) + szI c ≤ 64 := by
  unfold cellI at h
  by_cases h1 : (0 ≤ c ∧ c < 8) ∧ (0 : Int) ≤ (j : Int) ∧ (j : Int) < 64
  · rw [if_pos h1] at h
    refine ⟨h1.1, ?_⟩
    split at h
    · omega
    · omega
  · rw [if_neg h1] at h; omega
end Go.Proofs.YtelfiegocdjnoaaDoor.Ar
