/- A word's bits: how many, where they stand, what two words have. No program, no memory. -/
import Derived.Test.YtelfiegocdjnoaaPop
namespace Go.Proofs.Ytelfiegocdjnoaa.Pop
set_option linter.unusedVariables false
set_option maxRecDepth 100000
theorem cnt_succ (n w : Nat) : cnt (n + 1) w = cnt n w + (w.testBit n).toNat := by
  rw [cnt_add n 1 w, Nat.toNat_testBit]
  simp [cnt]
theorem cnt_less (a b : Nat) (hb : b < 2 ^ 64) : ∀ n, n ≤ 64 → (∀ i, i < n → b.testBit i = true → a.testBit i = true) → cnt n (a &&& (18446744073709551615 - b)) + cnt n b = cnt n a
  | 0, _, _ => rfl
  | n + 1, hn, h => by
    have ih := cnt_less a b hb n (by omega) (fun i hi => h i (by omega))
    have e : 18446744073709551615 - b = 2 ^ 64 - (b + 1) := by omega
    have ht : (a &&& (18446744073709551615 - b)).testBit n = (a.testBit n && !b.testBit n) := by
      rw [Nat.testBit_and, e, Nat.testBit_two_pow_sub_succ hb]
      simp [show n < 64 by omega]
    rw [cnt_succ, cnt_succ, cnt_succ, ht]
    have h1 := h n (by omega)
    cases hb1 : b.testBit n <;> cases ha1 : a.testBit n
    · simp; omega
    · simp; omega
    · rw [hb1, ha1] at h1; simp at h1
    · simp; omega
/-- Where the bits of the n lowest stand that are 1. -/
def plc (n w : Nat) : List Nat := (List.range n).filter fun i => w.testBit i
theorem plc_succ (n w : Nat) : plc (n + 1) w = plc n w ++ if w.testBit n = true then [n] else [] := by
  unfold plc
  rw [List.range_succ, List.filter_append]
  congr 1
  by_cases h : w.testBit n = true <;> simp [h]
theorem plc_len (w : Nat) : ∀ n, (plc n w).length = cnt n w
  | 0 => rfl
  | n + 1 => by
    rw [plc_succ, cnt_succ, List.length_append, plc_len w n]
    by_cases h : w.testBit n = true <;> simp [h]
theorem plc_lt {n w p : Nat} (h : p ∈ plc n w) : p < n := by
  unfold plc at h
  rw [List.mem_filter, List.mem_range] at h
  exact h.1
/-- What they come to that b has, too. -/
def addB (b : Nat) (s p : Nat) : Nat := if b.testBit p = true then s + 2 ^ p else s
theorem addB_le (b s p : Nat) : s ≤ addB b s p := by
  unfold addB
  split
  · exact Nat.le_add_right _ _
  · exact Nat.le_refl _
theorem fold_le (b : Nat) : ∀ (l : List Nat) (s : Nat), s ≤ l.foldl (addB b) s
  | [], s => Nat.le_refl _
  | p :: l, s => Nat.le_trans (addB_le b s p) (fold_le b l _)
theorem fold_both (a b : Nat) : ∀ n, (plc n a).foldl (addB b) 0 = (a &&& b) % 2 ^ n
  | 0 => by simp [plc, Nat.mod_one]
  | n + 1 => by
    rw [plc_succ, List.foldl_append, fold_both a b n, Nat.mod_pow_succ, ← Nat.toNat_testBit, Nat.testBit_and]
    cases ha : a.testBit n <;> cases hb : b.testBit n <;> simp [addB, hb]
end Go.Proofs.Ytelfiegocdjnoaa.Pop
