/- Where an object may lie, in a closed form, for the code and the document: plain. Conditions: a plan of at most five pages. -/
import Derived.Test.YtelfiegocdjnoaaDoorOb8
import Derived.Test.YtelfiegocdjnoaaDoorMrF0
import Derived.Test.YtelfiegocdjnoaaDoorMrF1
namespace Go.Proofs.YtelfiegocdjnoaaDoor.Ar
open Go Go.RowKit Go.Proofs.YtelfiegocdjnoaaDoor.Sep Go.Proofs.YtelfiegocdjnoaaDoorW.PrintWords Go.Proofs.YtelfiegocdjnoaaDoorW.PrintLast Go.Proofs.YtelfiegocdjnoaaDoorW.PrintMore Go.Proofs.YtelfiegocdjnoaaDoor.Q
set_option linter.unusedVariables false
set_option linter.unusedSimpArgs false
set_option maxHeartbeats 8000000
set_option maxRecDepth 100000
theorem spages_ : ∀ w : Fin 257, 33 ≤ w.val → sizes_Pages.f (w.val : Int) = some (((w.val : Int) + 63) / 64, 0) := by decide +kernel
theorem rpages_ : ∀ w : Fin 257, 33 ≤ w.val → windrowref05_Pages.f 10 (w.val : Int) = some (((w.val : Int) + 63) / 64, 0) := by decide +kernel
/-- May it lie there? -/
def liesI (P : Nat) (at_ c k n : Int) : Bool :=
  if (plI P at_).1 < 0 ∨ hwI c k n = 0 then false
  else if hwI c k n ≤ 32 then decide ((plI P at_).2 + hwI c k n ≤ 64)
  else decide ((plI P at_).2 = 0 ∧ (plI P at_).1 + (hwI c k n + 63) / 64 ≤ (P : Int) + 1)
theorem hwI_r (c k n : Int) : 0 ≤ hwI c k n ∧ hwI c k n ≤ 256 := by
  unfold hwI
  by_cases h : isH c k n = true
  · rw [if_pos h]
    simp [isH] at h
    omega
  · rw [if_neg h]; omega
theorem plI_r (P : Nat) (hP : P < 5) (at_ : Int) : -1 ≤ (plI P at_).1 ∧ (plI P at_).1 ≤ P ∧ -1 ≤ (plI P at_).2 ∧ (plI P at_).2 < 64 := by
  unfold plI
  by_cases h : 64 ≤ at_ ∧ at_ < 128 + 64 * (P : Int)
  · rw [if_pos h]; simp only; omega
  · rw [if_neg h]; simp only; omega
theorem lies_c (q P : Nat) (hP : P < 5) (at_ c k n : Int) : objects_lies.f (q + 1) ((P : Int) + 1) 1 1 at_ c k n = some (liesI P at_ c k n) := by
  unfold objects_lies.f liesI
  rw [place_ P hP, hwords_]
  have h1 := hwI_r c k n
  have h2 := plI_r P hP at_
  simp only [Option.bind_some, objects_lies.j0]
  generalize hwI c k n = w at *
  generalize plI P at_ = z at *
  obtain ⟨pg, fi⟩ := z
  simp only at h2 ⊢
  by_cases hp : pg < 0
  · rw [if_pos hp, if_pos (Or.inl hp)]; rfl
  · rw [if_neg hp]
    by_cases hw : w = 0
    · subst hw; rw [if_pos (Or.inr rfl)]; rfl
    · rw [if_neg (show ¬ ((w == 0) = true) by simp [hw]), if_neg (show ¬ (pg < 0 ∨ w = 0) by omega)]
      by_cases h32 : w ≤ 32
      · rw [if_pos h32, if_pos h32, show wrap64 (fi + w) = fi + w by unfold wrap64; omega]
      · rw [if_neg h32, if_neg h32]
        obtain ⟨m, rfl⟩ : ∃ m : Nat, w = m := ⟨w.toNat, by omega⟩
        rw [spages_ ⟨m, by omega⟩ (by show 33 ≤ m; omega)]
        simp only [Option.bind_some]
        by_cases hf : fi = 0
        · rw [if_pos hf, show wrap64 (pg + ((m : Int) + 63) / 64) = pg + ((m : Int) + 63) / 64 by unfold wrap64; omega]
          simp [hf]
        · rw [if_neg hf]; simp [hf]
end Go.Proofs.YtelfiegocdjnoaaDoor.Ar
