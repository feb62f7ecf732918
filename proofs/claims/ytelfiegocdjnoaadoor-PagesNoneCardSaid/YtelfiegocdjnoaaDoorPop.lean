/- How many bits of a word are 1: the three steps that fold a word's bits into bytes, and the sum of the bytes. No program, no memory. -/
import Derived.RowKit
namespace Go.Proofs.YtelfiegocdjnoaaDoor.Pop
set_option linter.unusedVariables false
set_option maxRecDepth 100000

/-- A byte, k times. -/
def rep (c : Nat) : Nat → Nat
  | 0 => 0
  | k + 1 => c + 256 * rep c k
theorem and_step (a b m n : Nat) (ha : a < 256) (hm : m < 256) : (a + 256 * b) &&& (m + 256 * n) = (a &&& m) + 256 * (b &&& n) := by
  have h1 : ((a + 256 * b) &&& (m + 256 * n)) % 2 ^ 8 = ((a + 256 * b) % 2 ^ 8) &&& ((m + 256 * n) % 2 ^ 8) := Nat.and_mod_two_pow
  have h2 : ((a + 256 * b) &&& (m + 256 * n)) / 2 ^ 8 = ((a + 256 * b) / 2 ^ 8) &&& ((m + 256 * n) / 2 ^ 8) := Nat.and_div_two_pow
  have e1 : (a + 256 * b) % 2 ^ 8 = a := by omega
  have e2 : (m + 256 * n) % 2 ^ 8 = m := by omega
  have e3 : (a + 256 * b) / 2 ^ 8 = b := by omega
  have e4 : (m + 256 * n) / 2 ^ 8 = n := by omega
  rw [e1, e2] at h1
  rw [e3, e4] at h2
  omega
/-- How many of the n lowest bits are 1. -/
def cnt : Nat → Nat → Nat
  | 0, _ => 0
  | n + 1, w => w % 2 + cnt n (w / 2)
def g1 (c : Nat) : Nat := (c / 2 &&& 85) + (c &&& 85)
def g2 (c : Nat) : Nat := (c / 4 &&& 51) + (c &&& 51)
def f1 (k x : Nat) : Nat := (x / 2 &&& rep 85 k) + (x &&& rep 85 k)
def f2 (k x : Nat) : Nat := (x / 4 &&& rep 51 k) + (x &&& rep 51 k)
def f3 (k x : Nat) : Nat := (x / 16 + x) &&& rep 15 k
theorem t1 : ∀ c : Fin 256, ∀ d : Fin 2, (c.1 / 2 + 128 * d.1) &&& 85 = c.1 / 2 &&& 85 := by decide +kernel
theorem t2 : ∀ c : Fin 256, ∀ d : Fin 4, (c.1 / 4 + 64 * d.1) &&& 51 = c.1 / 4 &&& 51 := by decide +kernel
theorem t3 : ∀ c : Fin 256, g1 c.1 < 256 ∧ g2 (g1 c.1) < 256 ∧ g2 (g1 c.1) % 16 ≤ 4 ∧ g2 (g1 c.1) / 16 ≤ 4 ∧ g2 (g1 c.1) / 16 + g2 (g1 c.1) % 16 = cnt 8 c.1 := by decide +kernel
theorem f1_step (k c y : Nat) (hc : c < 256) : f1 (k + 1) (c + 256 * y) = g1 c + 256 * f1 k y := by
  unfold f1 g1
  have e : (c + 256 * y) / 2 = (c / 2 + 128 * (y % 2)) + 256 * (y / 2) := by omega
  have h : (c / 2 + 128 * (y % 2)) &&& 85 = c / 2 &&& 85 := t1 ⟨c, hc⟩ ⟨y % 2, by omega⟩
  show ((c + 256 * y) / 2 &&& (85 + 256 * rep 85 k)) + ((c + 256 * y) &&& (85 + 256 * rep 85 k)) = _
  rw [e, and_step _ _ _ _ (by omega) (by decide), and_step _ _ _ _ hc (by decide), h]
  omega
theorem f2_step (k c y : Nat) (hc : c < 256) : f2 (k + 1) (c + 256 * y) = g2 c + 256 * f2 k y := by
  unfold f2 g2
  have e : (c + 256 * y) / 4 = (c / 4 + 64 * (y % 4)) + 256 * (y / 4) := by omega
  have h : (c / 4 + 64 * (y % 4)) &&& 51 = c / 4 &&& 51 := t2 ⟨c, hc⟩ ⟨y % 4, by omega⟩
  show ((c + 256 * y) / 4 &&& (51 + 256 * rep 51 k)) + ((c + 256 * y) &&& (51 + 256 * rep 51 k)) = _
  rw [e, and_step _ _ _ _ (by omega) (by decide), and_step _ _ _ _ hc (by decide), h]
  omega
theorem f3_step (k c y : Nat) (h1 : c % 16 ≤ 4) (h2 : c / 16 ≤ 4) (h3 : y % 16 ≤ 4) : f3 (k + 1) (c + 256 * y) = (c / 16 + c % 16) + 256 * f3 k y := by
  unfold f3
  have e : (c + 256 * y) / 16 + (c + 256 * y) = (c / 16 + c + 16 * (y % 16)) + 256 * (y / 16 + y) := by omega
  show ((c + 256 * y) / 16 + (c + 256 * y) &&& (15 + 256 * rep 15 k)) = _
  rw [e, and_step _ _ _ _ (by omega) (by decide)]
  have : (c / 16 + c + 16 * (y % 16)) &&& 15 = (c / 16 + c + 16 * (y % 16)) % 16 := Nat.and_two_pow_sub_one_eq_mod _ 4
  rw [this]
  omega
/-- The bytes' counts, one behind the other. -/
def sums : Nat → Nat → Nat
  | 0, _ => 0
  | k + 1, x => cnt 8 (x % 256) + 256 * sums k (x / 256)
def nib (y : Nat) : Prop := y % 16 ≤ 4
theorem fold_bytes : ∀ (k x : Nat), x < 256 ^ k → f3 k (f2 k (f1 k x)) = sums k x ∧ nib (f2 k (f1 k x))
  | 0, x, h => by
    have : x = 0 := by simpa using h
    subst this
    exact ⟨rfl, by unfold nib; decide⟩
  | k + 1, x, h => by
    have hx : x = x % 256 + 256 * (x / 256) := by omega
    have hy : x / 256 < 256 ^ k := by rw [Nat.pow_succ] at h; omega
    obtain ⟨i1, i2⟩ := fold_bytes k (x / 256) hy
    have hc : x % 256 < 256 := by omega
    obtain ⟨a1, a2, a3, a4, a5⟩ := t3 ⟨x % 256, hc⟩
    simp only at a1 a2 a3 a4 a5
    have e1 : f1 (k + 1) x = g1 (x % 256) + 256 * f1 k (x / 256) := by have h9 := f1_step k (x % 256) (x / 256) hc; rw [← hx] at h9; exact h9
    have e2 : f2 (k + 1) (f1 (k + 1) x) = g2 (g1 (x % 256)) + 256 * f2 k (f1 k (x / 256)) := by rw [e1]; exact f2_step k _ _ a1
    refine ⟨?_, ?_⟩
    · rw [e2, f3_step k _ _ a3 a4 i2, i1, a5]
      rfl
    · unfold nib; rw [e2]; omega
theorem cnt_le : ∀ n w, cnt n w ≤ n
  | 0, _ => Nat.le_refl _
  | n + 1, w => by have := cnt_le n (w / 2); show w % 2 + cnt n (w / 2) ≤ _; omega
theorem cnt_add : ∀ n m w, cnt (n + m) w = cnt n w + cnt m (w / 2 ^ n)
  | 0, m, w => by simp [cnt]
  | n + 1, m, w => by
    have e : n + 1 + m = (n + m) + 1 := by omega
    have e2 : w / 2 ^ (n + 1) = w / 2 / 2 ^ n := by rw [Nat.div_div_eq_div_mul, Nat.pow_succ, Nat.mul_comm]
    rw [e, e2]
    show w % 2 + cnt (n + m) (w / 2) = w % 2 + cnt n (w / 2) + cnt m (w / 2 / 2 ^ n)
    rw [cnt_add n m (w / 2)]
    omega
theorem cnt_mod : ∀ n w, cnt n (w % 2 ^ n) = cnt n w
  | 0, w => rfl
  | n + 1, w => by
    show (w % 2 ^ (n + 1)) % 2 + cnt n (w % 2 ^ (n + 1) / 2) = w % 2 + cnt n (w / 2)
    have e1 : (w % 2 ^ (n + 1)) % 2 = w % 2 := Nat.mod_mod_of_dvd _ ⟨2 ^ n, by rw [Nat.pow_succ, Nat.mul_comm]⟩
    have e2 : w % 2 ^ (n + 1) / 2 = w / 2 % 2 ^ n := by
      rw [Nat.pow_succ, Nat.mul_comm]
      exact Nat.mod_mul_right_div_self ..
    rw [e1, e2, cnt_mod n (w / 2)]
end Go.Proofs.YtelfiegocdjnoaaDoor.Pop
