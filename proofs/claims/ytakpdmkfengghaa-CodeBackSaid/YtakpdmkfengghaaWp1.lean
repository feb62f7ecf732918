/- Plain facts on instructions' operands and numbers: no memory. No condition. -/
import Derived.Test.YtakpdmkfengghaaQ3
import Derived.Test.YtakpdmkfengghaaQ4
import Derived.Laws.Bits64
namespace Go.Proofs.Ytakpdmkfengghaa.Wr
open Go Go.RowKit Go.Proofs.Ytakpdmkfengghaa.Q
set_option linter.unusedVariables false
set_option linter.unusedSimpArgs false

def opN (a : Int) : Int :=
  if a = 1 ∨ a = 3 ∨ a = 4 ∨ a = 18 ∨ a = 19 ∨ a = 20 ∨ a = 22 ∨ a = 33 ∨ a = 34 ∨ a = 35 then 1
  else if a = 25 ∨ a = 26 ∨ a = 27 then 2 else if a < 1 ∨ a > 39 then -1 else 0

theorem opN_code (a : Int) : code_Operands.f 2 a = some (opN a) := by
  unfold code_Operands.f
  simp only [code_Operands.j0, code_Operands.j1]
  unfold opN
  by_cases h1 : a = 1 ∨ a = 3 ∨ a = 4 ∨ a = 18 ∨ a = 19 ∨ a = 20 ∨ a = 22 ∨ a = 33 ∨ a = 34 ∨ a = 35
  · rw [if_pos h1]
    rcases h1 with rfl | rfl | rfl | rfl | rfl | rfl | rfl | rfl | rfl | rfl <;> simp
  · rw [if_neg h1]
    simp only [not_or] at h1
    obtain ⟨g1, g2, g3, g4, g5, g6, g7, g8, g9, g10⟩ := h1
    by_cases h2 : a = 25 ∨ a = 26 ∨ a = 27
    · rw [if_pos h2]
      rcases h2 with rfl | rfl | rfl <;> simp
    · rw [if_neg h2]
      simp only [not_or] at h2
      obtain ⟨k1, k2, k3⟩ := h2
      simp only [if_neg g1, if_neg g2, if_neg g3, if_neg g4, if_neg g5, if_neg g6, if_neg g7, if_neg g8, if_neg g9, if_neg k1, if_neg k2]
      simp [g10, k3]
      by_cases h3 : a < 1
      · simp [h3]
      · by_cases h4 : 39 < a <;> simp [h3, h4]

/-- May the instruction be? -/
def okI (i : S23) : Bool :=
  decide (¬ (opN i.f0 < 0) ∧ ¬ (opN i.f0 < 2 ∧ i.f2 ≠ 0) ∧ ¬ (opN i.f0 < 1 ∧ i.f1 ≠ 0) ∧ (i.f0 = 1 ∨ 0 ≤ i.f1 ∧ i.f1 ≤ 2147483647 ∧ 0 ≤ i.f2 ∧ i.f2 ≤ 2147483647))

theorem okI_code (i : S23) : code_Right.f 2 i.f0 i.f1 i.f2 = some (okI i) := by
  unfold code_Right.f
  rw [opN_code]
  simp only [Option.bind_some, code_Right.j0]
  unfold okI
  by_cases h1 : opN i.f0 < 0
  · simp [h1]
  · by_cases h2 : opN i.f0 < 2 <;> by_cases h3 : i.f2 = 0 <;> by_cases h4 : opN i.f0 < 1 <;> by_cases h5 : i.f1 = 0 <;> simp [h1, h2, h3, h4, h5] <;>
    (repeat' split) <;> simp_all <;> omega

/-- The number that stands for one of any sign. -/
def zigN (a : Int) : Nat := if 0 ≤ a then (2 * a).toNat else (-2 * a - 1).toNat
theorem xor_ones (x : Nat) (h : x < 18446744073709551616) : x ^^^ 18446744073709551615 = 18446744073709551615 - x := by
  have e := congrArg BitVec.toNat (BitVec.xor_allOnes (x := BitVec.ofNat 64 x))
  simp only [BitVec.toNat_xor, BitVec.toNat_not, BitVec.toNat_ofNat, BitVec.toNat_allOnes] at e
  rw [Nat.mod_eq_of_lt (by omega)] at e
  exact e
theorem zigN_code (a : Int) (h0 : -9223372036854775808 ≤ a) (h1 : a ≤ 9223372036854775807) : code_zig.f a = some (zigN a : Int) := by
  unfold code_zig.f zigN
  congr 1
  have e1 : IntKind.u64.wrap (wrap64 (a * 2)) = (((2 * a) % 18446744073709551616).toNat : Int) := by
    show (wrap64 (a * 2)) % 18446744073709551616 = _
    unfold wrap64
    omega
  by_cases h : 0 ≤ a
  · have e2 : IntKind.u64.wrap (a / 9223372036854775808) = ((0 : Nat) : Int) := by
      show (a / 9223372036854775808) % 18446744073709551616 = _
      omega
    rw [e1, e2, bits_xor_u64_nat _ _ (by omega) (by omega), Nat.xor_zero, if_pos h]
    omega
  · have e2 : IntKind.u64.wrap (a / 9223372036854775808) = ((18446744073709551615 : Nat) : Int) := by
      show (a / 9223372036854775808) % 18446744073709551616 = _
      omega
    rw [e1, e2, bits_xor_u64_nat _ _ (by omega) (by omega), xor_ones _ (by omega), if_neg h]
    omega
theorem zigN_lt (a : Int) (h0 : -9223372036854775808 ≤ a) (h1 : a ≤ 9223372036854775807) : zigN a < 18446744073709551616 := by unfold zigN; split <;> omega
end Go.Proofs.Ytakpdmkfengghaa.Wr
