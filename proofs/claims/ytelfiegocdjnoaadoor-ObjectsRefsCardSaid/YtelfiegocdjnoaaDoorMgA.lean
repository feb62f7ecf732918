/- Where a cell of a class begins, how many words it has: in general. Conditions: the package array reads as it was laid. -/
import Derived.Test.YtelfiegocdjnoaaDoorOb3
import Derived.Test.YtelfiegocdjnoaaDoorMrF0
section
namespace Go.Proofs.YtelfiegocdjnoaaDoor.Ar
open Go Go.RowKit Go.Proofs.YtelfiegocdjnoaaDoor.Sep Go.Proofs.YtelfiegocdjnoaaDoorW.PrintWords Go.Proofs.YtelfiegocdjnoaaDoorW.PrintLast Go.Proofs.YtelfiegocdjnoaaDoorW.PrintMore Go.Proofs.YtelfiegocdjnoaaDoor.Q
set_option linter.unusedVariables false
set_option linter.unusedSimpArgs false
set_option maxHeartbeats 8000000
set_option maxRecDepth 100000
/-- A class's words. -/
def szI (c : Int) : Int := szT.getD c.toNat 0
def cellI (c at_ : Int) : Int := if (0 ≤ c ∧ c < 8) ∧ 0 ≤ at_ ∧ at_ < 64 then (if at_ - at_ % szI c + szI c > 64 then -1 else at_ - at_ % szI c) else -1
end Go.Proofs.YtelfiegocdjnoaaDoor.Ar
end
section
namespace Go.Proofs.YtelfiegocdjnoaaDoor.Ar
open Go Go.RowKit Go.Proofs.YtelfiegocdjnoaaDoor.Sep Go.Proofs.YtelfiegocdjnoaaDoorW.PrintWords Go.Proofs.YtelfiegocdjnoaaDoorW.PrintLast Go.Proofs.YtelfiegocdjnoaaDoorW.PrintMore Go.Proofs.YtelfiegocdjnoaaDoor.Q
set_option linter.unusedVariables false
set_option linter.unusedSimpArgs false
set_option maxHeartbeats 8000000
set_option maxRecDepth 100000
/-- The page and the word of an address. -/
def plI (P : Nat) (at_ : Int) : Int × Int := if 64 ≤ at_ ∧ at_ < 128 + 64 * (P : Int) then ((at_ - 64) / 64, (at_ - 64) % 64) else (-1, -1)
end Go.Proofs.YtelfiegocdjnoaaDoor.Ar
end
section
namespace Go.Proofs.YtelfiegocdjnoaaDoor.Ar
open Go Go.RowKit Go.Proofs.YtelfiegocdjnoaaDoor.Sep Go.Proofs.YtelfiegocdjnoaaDoorW.PrintWords Go.Proofs.YtelfiegocdjnoaaDoorW.PrintLast Go.Proofs.YtelfiegocdjnoaaDoorW.PrintMore Go.Proofs.YtelfiegocdjnoaaDoor.Q
set_option linter.unusedVariables false
set_option linter.unusedSimpArgs false
set_option maxHeartbeats 8000000
set_option maxRecDepth 100000
/-- Is it a header? -/
def isH (c k n : Int) : Bool := decide ((k = 1 ∧ 0 ≤ c ∧ c ≤ 15 ∧ 0 ≤ n ∧ n ≤ 15) ∨ ((k = 2 ∨ k = 3) ∧ c = 0 ∧ 0 ≤ n ∧ n ≤ 255))
theorem rhead_ (c k n : Int) : windrowref02_IsHead.f c k n = some (isH c k n) := by
  unfold windrowref02_IsHead.f isH
  repeat' split
  all_goals (refine congrArg some ?_; first | rfl | (simp only [decide_eq_decide, eq_comm (a := false), decide_eq_false_iff_not]; omega) | (simp; omega))
/-- Its words. -/
def hwI (c k n : Int) : Int := if isH c k n = true then 1 + n else 0
theorem rwords_ (c k n : Int) : windrowref02_Words.f c k n = some (hwI c k n) := by
  unfold windrowref02_Words.f hwI
  rw [rhead_]
  simp only [Option.bind_some]
  by_cases h : isH c k n = true
  · simp only [h, if_true, Bool.not_true, Bool.false_eq_true, if_false]
    have : 0 ≤ n ∧ n ≤ 255 := by simp [isH] at h; omega
    congr 1
    first | (unfold wrap64; omega) | (rw [Int.add_comm]; unfold wrap64; omega)
  · simp [h]
theorem hright_ (q : Nat) (c k n : Int) : header_Head_right.f (q + 1) c k n = some (isH c k n) := by
  unfold header_Head_right.f
  simp only [header_Head_right.j0]
  by_cases h : n < 0
  · rw [if_pos h, if_pos trivial]
    congr 1
    unfold isH
    symm
    rw [decide_eq_false_iff_not]
    omega
  · rw [if_neg h]
    by_cases h2 : n > 255
    · rw [if_pos (by simp [h2])]
      congr 1
      unfold isH
      symm
      rw [decide_eq_false_iff_not]
      omega
    · rw [if_neg (by simp [h2])]
      unfold isH
      repeat' split
      all_goals (refine congrArg some ?_; rw [Bool.eq_iff_iff]; simp only [decide_eq_true_eq, beq_iff_eq, Bool.false_eq_true, false_iff]; omega)
theorem hwords_ (q : Nat) (c k n : Int) : header_Head_Words.f (q + 1) c k n = some (hwI c k n) := by
  unfold header_Head_Words.f hwI
  rw [hright_]
  simp only [Option.bind_some]
  by_cases h : isH c k n = true
  · simp only [h, if_true]
    have : 0 ≤ n ∧ n ≤ 255 := by simp [isH] at h; omega
    congr 1
    unfold wrap64; omega
  · simp [h]
end Go.Proofs.YtelfiegocdjnoaaDoor.Ar
end
section
namespace Go.Proofs.YtelfiegocdjnoaaDoor.Ar
open Go Go.RowKit Go.Proofs.YtelfiegocdjnoaaDoor.Sep Go.Proofs.YtelfiegocdjnoaaDoorW.PrintWords Go.Proofs.YtelfiegocdjnoaaDoorW.PrintLast Go.Proofs.YtelfiegocdjnoaaDoorW.PrintMore Go.Proofs.YtelfiegocdjnoaaDoor.Q
set_option linter.unusedVariables false
set_option linter.unusedSimpArgs false
set_option maxHeartbeats 8000000
set_option maxRecDepth 100000
theorem spages_ : ∀ w : Fin 257, 33 ≤ w.val → sizes_Pages.f (w.val : Int) = some (((w.val : Int) + 63) / 64, 0) := by decide +kernel
/-- May it lie there? -/
def liesI (P : Nat) (at_ c k n : Int) : Bool :=
  if (plI P at_).1 < 0 ∨ hwI c k n = 0 then false
  else if hwI c k n ≤ 32 then decide ((plI P at_).2 + hwI c k n ≤ 64)
  else decide ((plI P at_).2 = 0 ∧ (plI P at_).1 + (hwI c k n + 63) / 64 ≤ (P : Int) + 1)
end Go.Proofs.YtelfiegocdjnoaaDoor.Ar
end
section
namespace Go.Proofs.YtelfiegocdjnoaaDoor.Ar
open Go Go.RowKit Go.Proofs.YtelfiegocdjnoaaDoor.Sep Go.Proofs.YtelfiegocdjnoaaDoorW.PrintWords Go.Proofs.YtelfiegocdjnoaaDoorW.PrintLast Go.Proofs.YtelfiegocdjnoaaDoorW.PrintMore Go.Proofs.YtelfiegocdjnoaaDoor.Q
set_option linter.unusedVariables false
set_option linter.unusedSimpArgs false
set_option maxHeartbeats 8000000
set_option maxRecDepth 100000
/-- A header's word. -/
def hdW (c k n : Int) : Int := 11889503016258109440 + n * 65536 + c * 256 + k
theorem eh1 : ∀ c n : Fin 16, header_EncodeHead.f 2 (c.val : Int) 1 (n.val : Int) = some (hdW c.val 1 n.val, 0) := by decide +kernel
theorem eh2 : ∀ n : Fin 256, header_EncodeHead.f 2 0 2 (n.val : Int) = some (hdW 0 2 n.val, 0) := by decide +kernel
theorem eh3 : ∀ n : Fin 256, header_EncodeHead.f 2 0 3 (n.val : Int) = some (hdW 0 3 n.val, 0) := by decide +kernel
theorem isH_cases {c k n : Int} (h : isH c k n = true) : (∃ a b : Nat, a < 16 ∧ b < 16 ∧ c = a ∧ k = 1 ∧ n = b) ∨ (∃ b : Nat, b < 256 ∧ c = 0 ∧ (k = 2 ∨ k = 3) ∧ n = b) := by
  simp only [isH, decide_eq_true_eq] at h
  rcases h with h | h
  · exact .inl ⟨c.toNat, n.toNat, by omega, by omega, by omega, by omega, by omega⟩
  · exact .inr ⟨n.toNat, by omega, by omega, by omega, by omega⟩
theorem enc_c (c k n : Int) : header_EncodeHead.f 2 c k n = some (if isH c k n = true then (hdW c k n, 0) else (0, 4)) := by
  by_cases h : isH c k n = true
  · rw [if_pos h]
    obtain ⟨a, b, ha, hb, rfl, rfl, rfl⟩ | ⟨b, hb, rfl, rfl | rfl, rfl⟩ := isH_cases h
    · exact eh1 ⟨a, ha⟩ ⟨b, hb⟩
    · exact eh2 ⟨b, hb⟩
    · exact eh3 ⟨b, hb⟩
  · rw [if_neg h]
    unfold header_EncodeHead.f
    rw [hright_]
    simp [h]
end Go.Proofs.YtelfiegocdjnoaaDoor.Ar
end
