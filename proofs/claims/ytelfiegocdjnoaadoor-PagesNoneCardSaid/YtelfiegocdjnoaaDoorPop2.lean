/- A word's bits: how many, where they stand, what two words have. No program, no memory. -/
import Derived.Test.YtelfiegocdjnoaaDoorPop
namespace Go.Proofs.YtelfiegocdjnoaaDoor.Pop
set_option linter.unusedVariables false
set_option maxRecDepth 100000
theorem cnt_succ (n w : Nat) : cnt (n + 1) w = cnt n w + (w.testBit n).toNat := by
  rw [cnt_add n 1 w, Nat.toNat_testBit]
  simp [cnt]
/-- Where the bits of the n lowest stand that are 1. -/
def plc (n w : Nat) : List Nat := (List.range n).filter fun i => w.testBit i
theorem plc_succ (n w : Nat) : plc (n + 1) w = plc n w ++ if w.testBit n = true then [n] else [] := by
  unfold plc
  rw [List.range_succ, List.filter_append]
  congr 1
  by_cases h : w.testBit n = true <;> simp [h]
theorem plc_len (w : Nat) : ∀ n, (plc n w).length = cnt n w
  | 0 => rfl
  | n + 1 => by
    rw [plc_succ, cnt_succ, List.length_append, plc_len w n]
    by_cases h : w.testBit n = true <;> simp [h]
end Go.Proofs.YtelfiegocdjnoaaDoor.Pop
