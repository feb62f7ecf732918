/- Look: the document's, in the same closed form: plain. Conditions: a plan of at most five pages; words of 64 bits. -/
import Derived.Test.YtelfiegocdjnoaaDoorLk2
import Derived.Laws.BitsAllLaws
import Derived.Test.YtelfiegocdjnoaaDoorMrF0
import Derived.Test.YtelfiegocdjnoaaDoorMrF1
namespace Go.Proofs.YtelfiegocdjnoaaDoor.Ar
open Go Go.RowKit Go.Proofs.YtelfiegocdjnoaaDoor.Sep Go.Proofs.YtelfiegocdjnoaaDoor.Pg Go.Proofs.YtelfiegocdjnoaaDoorW.PrintWords Go.Proofs.YtelfiegocdjnoaaDoorW.PrintLast Go.Proofs.YtelfiegocdjnoaaDoorW.PrintMore Go.Proofs.YtelfiegocdjnoaaDoor.Q
set_option linter.unusedVariables false
set_option linter.unusedSimpArgs false
set_option maxHeartbeats 8000000
set_option maxRecDepth 100000
theorem lift_ {α : Type} {g : Nat → Option α} (hm : ∀ k, LeO (g k) (g (k + 1))) {k0 : Nat} {r : α} (h : g k0 = some r) : ∀ k, k0 ≤ k → g k = some r := by
  intro k hk
  obtain ⟨d, rfl⟩ := Nat.exists_eq_add_of_le hk
  induction d with
  | zero => exact h
  | succ d ih => exact hm _ _ (ih (by omega))
theorem cell_ : ∀ c : Fin 16, ∀ j : Fin 64, windrowref05_Cell.f 40 (c.val : Int) (j.val : Int) = some (cellI (c.val : Int) (j.val : Int)) := by decide +kernel
theorem cells_ (k : Nat) (hk : 40 ≤ k) (c : Int) (h0 : 0 ≤ c) (h1 : c < 16) (j : Nat) (hj : j < 64) : windrowref05_Cell.f k c (j : Int) = some (cellI c (j : Int)) := by
  obtain ⟨n, rfl⟩ := Int.eq_ofNat_of_zero_le h0
  exact lift_ (g := fun k => windrowref05_Cell.f k (n : Int) (j : Int)) (windrowref05_Cell.mono _ _) (cell_ ⟨n, by omega⟩ ⟨j, hj⟩) k hk
theorem and1_ (x : Int) (h0 : 0 ≤ x) (h1 : x < 18446744073709551616) : bits BinOp.and IntKind.u64 x 1 = x % 2 := by
  rw [u64_and x 1 h0 h1 (by decide) (by decide)]
  rw [show (1 : Int).toNat = 1 from rfl, Nat.and_one_is_mod]
  omega
theorem dq_ (al : Int) (j : Nat) (h : 0 ≤ al ∧ al < 18446744073709551616) : 0 ≤ al / ((2 ^ j : Nat) : Int) ∧ al / ((2 ^ j : Nat) : Int) < 18446744073709551616 := by
  generalize 2 ^ j = p
  exact ⟨Int.ediv_nonneg h.1 (Int.natCast_nonneg p), Int.lt_of_le_of_lt (Int.ediv_le_self _ h.1) h.2⟩
theorem rpages2_ (k : Nat) (hk : 10 ≤ k) (w : Int) (h0 : 1 ≤ w) (h1 : w ≤ 256) : windrowref05_Pages.f k w = some (pgI w, 0) := by
  unfold pgI
  by_cases h32 : w ≤ 32
  · rw [if_pos h32]; unfold windrowref05_Pages.f; rw [if_neg (by omega), if_neg (by omega), if_pos h32]
  · rw [if_neg h32]
    obtain ⟨m, rfl⟩ : ∃ m : Nat, w = m := ⟨w.toNat, by omega⟩
    exact lift_ (g := fun k => windrowref05_Pages.f k (m : Int)) (windrowref05_Pages.mono _) (rpages_ ⟨m, by omega⟩ (by show 33 ≤ m; omega)) k hk
theorem cellI_j {c : Int} {j : Nat} (h : cellI c j = j) : (0 ≤ c ∧ c < 8) ∧ (j : Int) + szI c ≤ 64 := by
  unfold cellI at h
  by_cases h1 : (0 ≤ c ∧ c < 8) ∧ (0 : Int) ≤ (j : Int) ∧ (j : Int) < 64
  · rw [if_pos h1] at h
    refine ⟨h1.1, ?_⟩
    split at h
    · omega
    · omega
  · rw [if_neg h1] at h; omega
end Go.Proofs.YtelfiegocdjnoaaDoor.Ar
