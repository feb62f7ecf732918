/- Plain facts on words: how many bits are 1, where they stand, what two words have. No memory. -/
import Derived.Test.YtelfiegocdjnoaaDoorPop2
import Derived.Test.YtelfiegocdjnoaaDoorPg3
import Derived.Laws.Bits128
import Derived.Laws.BitsAllLaws
import Derived.Test.YtelfiegocdjnoaaDoorMrF0
namespace Go.Proofs.YtelfiegocdjnoaaDoor.Pg
open Go Go.RowKit Go.Proofs.YtelfiegocdjnoaaDoorW.PrintWords Go.Proofs.YtelfiegocdjnoaaDoorW.PrintLast Go.Proofs.YtelfiegocdjnoaaDoorW.PrintMore Go.Proofs.YtelfiegocdjnoaaDoor.Q Go.Proofs.YtelfiegocdjnoaaDoor.Pop
set_option linter.unusedVariables false
set_option linter.unusedSimpArgs false
set_option maxRecDepth 100000
def sumC : Nat → Nat → Nat
  | 0, _ => 0
  | k + 1, x => cnt 8 (x % 256) + sumC k (x / 256)
theorem cnt_sumC : ∀ k x, cnt (8 * k) x = sumC k x
  | 0, x => rfl
  | k + 1, x => by
    rw [show 8 * (k + 1) = 8 + 8 * k by omega, cnt_add, cnt_sumC k, ← cnt_mod 8 x]
    rfl
theorem dv (c r x : Nat) (h : x = c + 256 * r) (hc : c < 256) : x / 256 = r := by omega
theorem ad {p q p' q' x y : Nat} (h : x = p + 256 * p') (g : y = q + 256 * q') : x + y = (p + q) + 256 * (p' + q') := by omega
theorem bd {r c r' b : Nat} (h : r = c + 256 * r') (hc : c ≤ 8) (hb : r' ≤ b) : r ≤ 8 + 256 * b := by omega
theorem fold_last (c0 c1 c2 c3 c4 c5 c6 c7 r0 r1 r2 r3 r4 r5 r6 r7 : Nat) (h0 : c0 ≤ 8) (h1 : c1 ≤ 8) (h2 : c2 ≤ 8) (h3 : c3 ≤ 8) (h4 : c4 ≤ 8) (h5 : c5 ≤ 8) (h6 : c6 ≤ 8) (h7 : c7 ≤ 8)
    (e0 : r0 = c0 + 256 * r1) (e1 : r1 = c1 + 256 * r2) (e2 : r2 = c2 + 256 * r3) (e3 : r3 = c3 + 256 * r4) (e4 : r4 = c4 + 256 * r5) (e5 : r5 = c5 + 256 * r6) (e6 : r6 = c6 + 256 * r7) (e7 : r7 = c7 + 256 * 0) :
    ∃ y1 y2 y3, y1 = r0 + r0 / 256 ∧ y2 = y1 + y1 / 65536 ∧ y3 = y2 + y2 / 4294967296 ∧ y1 < 18446744073709551616 ∧ y2 < 18446744073709551616 ∧ y3 < 9223372036854775808 ∧ y3 % 128 = c0 + c1 + (c2 + c3) + (c4 + c5 + (c6 + c7)) := by
  have d0 : r0 / 256 = r1 := dv c0 r1 _ e0 (by omega)
  have g1 : (r0 + r1) / 256 = r1 + r2 := dv _ _ _ (ad e0 e1) (by omega)
  have g2 : (r1 + r2) / 256 = r2 + r3 := dv _ _ _ (ad e1 e2) (by omega)
  have g12 : (r0 + r1) / 65536 = r2 + r3 := by rw [show (65536 : Nat) = 256 * 256 from rfl, ← Nat.div_div_eq_div_mul, g1, g2]
  have k1 : (r0 + r1 + (r2 + r3)) / 256 = r1 + r2 + (r3 + r4) := dv _ _ _ (ad (ad e0 e1) (ad e2 e3)) (by omega)
  have k2 : (r1 + r2 + (r3 + r4)) / 256 = r2 + r3 + (r4 + r5) := dv _ _ _ (ad (ad e1 e2) (ad e3 e4)) (by omega)
  have k3 : (r2 + r3 + (r4 + r5)) / 256 = r3 + r4 + (r5 + r6) := dv _ _ _ (ad (ad e2 e3) (ad e4 e5)) (by omega)
  have k4 : (r3 + r4 + (r5 + r6)) / 256 = r4 + r5 + (r6 + r7) := dv _ _ _ (ad (ad e3 e4) (ad e5 e6)) (by omega)
  have k14 : (r0 + r1 + (r2 + r3)) / 4294967296 = r4 + r5 + (r6 + r7) := by
    rw [show (4294967296 : Nat) = 256 * 256 * 256 * 256 from rfl, ← Nat.div_div_eq_div_mul, ← Nat.div_div_eq_div_mul, ← Nat.div_div_eq_div_mul, k1, k2, k3, k4]
  have all := ad (ad (ad e0 e1) (ad e2 e3)) (ad (ad e4 e5) (ad e6 e7))
  have b7 : r7 ≤ 8 := bd e7 h7 (Nat.le_refl 0)
  have b6 : r6 ≤ 2056 := bd e6 h6 b7
  have b5 : r5 ≤ 526344 := bd e5 h5 b6
  have b4 : r4 ≤ 134744072 := bd e4 h4 b5
  have b3 : r3 ≤ 34494482440 := bd e3 h3 b4
  have b2 : r2 ≤ 8830587504648 := bd e2 h2 b3
  have b1 : r1 ≤ 2260630401189896 := bd e1 h1 b2
  have b0 : r0 ≤ 578721382704613384 := bd e0 h0 b1
  clear e0 e1 e2 e3 e4 e5 e6 e7 g1 g2 k1 k2 k3 k4
  refine ⟨r0 + r1, r0 + r1 + (r2 + r3), r0 + r1 + (r2 + r3) + (r4 + r5 + (r6 + r7)), by rw [d0], by rw [g12], by rw [k14], ?_, ?_, ?_, ?_⟩
  · omega
  · omega
  · omega
  · rw [all]
    generalize r1 + r2 + (r3 + r4) + (r5 + r6 + (r7 + 0)) = z
    omega
theorem sums_succ (k x : Nat) : sums (k + 1) x = cnt 8 (x % 256) + 256 * sums k (x / 256) := rfl
theorem sumC_succ (k x : Nat) : sumC (k + 1) x = cnt 8 (x % 256) + sumC k (x / 256) := rfl
theorem wuN (x : Nat) (h : x < 18446744073709551616) : IntKind.u64.wrap (x : Int) = (x : Int) := wu _ (by omega) (by omega)
theorem ones_ (a : Nat) (h : a < 18446744073709551616) : word_Ones.f (a : Int) = some ((cnt 64 a : Nat) : Int) := by
  have r1 : rep 85 8 = 6148914691236517205 := by decide
  have r2 : rep 51 8 = 3689348814741910323 := by decide
  have r3 : rep 15 8 = 1085102592571150095 := by decide
  have b1 : f1 8 a < 18446744073709551616 := by
    unfold f1; rw [r1]
    have := Nat.and_le_right (n := a / 2) (m := 6148914691236517205)
    have := Nat.and_le_right (n := a) (m := 6148914691236517205)
    omega
  have x1 : IntKind.u64.wrap ((Go.bits .and .u64 ((a : Int) / 2) 6148914691236517205) + (Go.bits .and .u64 (a : Int) 6148914691236517205)) = ((f1 8 a : Nat) : Int) := by
    rw [show ((a : Int) / 2) = ((a / 2 : Nat) : Int) by omega, show (6148914691236517205 : Int) = ((6148914691236517205 : Nat) : Int) from rfl, u64_and_nat _ _ (by omega) (by decide), u64_and_nat _ _ h (by decide), ← r1, ← Int.natCast_add]
    exact wuN _ b1
  generalize hx1 : f1 8 a = X1 at x1 b1
  have b2 : f2 8 X1 ≤ 7378697629483820646 := by
    unfold f2; rw [r2]
    have := Nat.and_le_right (n := X1 / 4) (m := 3689348814741910323)
    have := Nat.and_le_right (n := X1) (m := 3689348814741910323)
    omega
  have x2 : IntKind.u64.wrap ((Go.bits .and .u64 ((X1 : Int) / 4) 3689348814741910323) + (Go.bits .and .u64 (X1 : Int) 3689348814741910323)) = ((f2 8 X1 : Nat) : Int) := by
    have b2' : f2 8 X1 < 18446744073709551616 := by omega
    rw [show ((X1 : Int) / 4) = ((X1 / 4 : Nat) : Int) by omega, show (3689348814741910323 : Int) = ((3689348814741910323 : Nat) : Int) from rfl, u64_and_nat _ _ (by omega) (by decide), u64_and_nat _ _ b1 (by decide), ← r2, ← Int.natCast_add]
    exact wuN _ b2'
  generalize hx2 : f2 8 X1 = X2 at x2 b2
  have x3 : Go.bits .and .u64 (IntKind.u64.wrap (((X2 : Int) / 16) + (X2 : Int))) 1085102592571150095 = ((f3 8 X2 : Nat) : Int) := by
    rw [show ((X2 : Int) / 16) + (X2 : Int) = ((X2 / 16 + X2 : Nat) : Int) by omega, wuN _ (by omega), show (1085102592571150095 : Int) = ((1085102592571150095 : Nat) : Int) from rfl, u64_and_nat _ _ (by omega) (by decide), ← r3]
    rfl
  have hs : f3 8 X2 = sums 8 a := by rw [← hx2, ← hx1]; exact (fold_bytes 8 a (by simpa using h)).1
  rw [hs] at x3
  have hc : cnt 64 a = sumC 8 a := cnt_sumC 8 a
  have hl : ∀ x, cnt 8 x ≤ 8 := fun x => cnt_le 8 x
  obtain ⟨y1, y2, y3, hy1, hy2, hy3, l1, l2, l3, hm⟩ := fold_last _ _ _ _ _ _ _ _ (sums 8 a) (sums 7 (a / 256)) (sums 6 (a / 256 / 256)) (sums 5 (a / 256 / 256 / 256)) (sums 4 (a / 256 / 256 / 256 / 256)) (sums 3 (a / 256 / 256 / 256 / 256 / 256)) (sums 2 (a / 256 / 256 / 256 / 256 / 256 / 256)) (sums 1 (a / 256 / 256 / 256 / 256 / 256 / 256 / 256))
    (hl (a % 256)) (hl (a / 256 % 256)) (hl (a / 256 / 256 % 256)) (hl (a / 256 / 256 / 256 % 256)) (hl (a / 256 / 256 / 256 / 256 % 256)) (hl (a / 256 / 256 / 256 / 256 / 256 % 256)) (hl (a / 256 / 256 / 256 / 256 / 256 / 256 % 256)) (hl (a / 256 / 256 / 256 / 256 / 256 / 256 / 256 % 256)) (sums_succ 7 _) (sums_succ 6 _) (sums_succ 5 _) (sums_succ 4 _) (sums_succ 3 _) (sums_succ 2 _) (sums_succ 1 _) (sums_succ 0 _)
  have hf : y3 % 128 = cnt 64 a := by
    rw [hm, hc, sumC_succ 7, sumC_succ 6, sumC_succ 5, sumC_succ 4, sumC_succ 3, sumC_succ 2, sumC_succ 1, sumC_succ 0, show ∀ z, sumC 0 z = 0 from fun _ => rfl]
    simp only [Nat.add_assoc, Nat.add_zero]
  unfold word_Ones.f bits_OnesCount64.f
  simp only [Option.bind_some]
  rw [x1, x2, x3]
  generalize sums 8 a = y at hy1 ⊢
  clear hl hm hs x1 x2 x3 hc hx1 hx2 b1 b2
  rw [show ((y : Int) + (y : Int) / 256) = (y1 : Int) by omega, wuN y1 l1, show ((y1 : Int) + (y1 : Int) / 65536) = (y2 : Int) by omega, wuN y2 l2, show ((y2 : Int) + (y2 : Int) / 4294967296) = (y3 : Int) by omega, wuN y3 (Nat.lt_trans l3 (by decide)), i64_and127, ← hf]
  rw [w64 (y3 : Int) (Int.natCast_nonneg _) (by rw [show (18446744073709551616 / 2 : Int) = ((9223372036854775808 : Nat) : Int) from rfl]; exact Int.ofNat_lt.2 l3)]
  rfl
/-! ### The document's words -/
theorem power_l (i : Nat) (hi : i < 64) : ∀ d j q : Nat, j + d = i → d < q → windrowref01_Power.l0 q i ((2 ^ j : Nat) : Int) j = some ((2 ^ i : Nat) : Int) := by
  intro d
  induction d with
  | zero =>
    intro j q hj hq
    obtain ⟨q, rfl⟩ : ∃ m, q = m + 1 := ⟨q - 1, by omega⟩
    have : j = i := by omega
    subst this
    rw [windrowref01_Power.l0, if_neg (by omega)]
  | succ d ih =>
    intro j q hj hq
    obtain ⟨q, rfl⟩ : ∃ m, q = m + 1 := ⟨q - 1, by omega⟩
    have hp : 2 ^ (j + 1) < 18446744073709551616 := by
      rw [show 18446744073709551616 = 2 ^ 64 by decide]
      exact Nat.pow_lt_pow_right (by decide) (by omega)
    rw [windrowref01_Power.l0, if_pos (by omega), show ((2 ^ j : Nat) : Int) * 2 = ((2 ^ (j + 1) : Nat) : Int) by rw [Nat.pow_succ]; push_cast; rfl, wuN _ hp, show (j : Int) + 1 = ((j + 1 : Nat) : Int) by omega, w64 _ (by omega) (by omega)]
    exact ih (j + 1) q (by omega) (by omega)
theorem power_ (q i : Nat) (hi : i < 64) (hq : 64 ≤ q) : windrowref01_Power.f q i = some ((2 ^ i : Nat) : Int) := power_l i hi i 0 q (by omega) (by omega)
theorem bit_ (q a i : Nat) (ha : a < 18446744073709551616) (hi : i < 64) (hq : 64 ≤ q) : windrowref01_Bit.f q a i = some (if a.testBit i = true then 1 else 0) := by
  unfold windrowref01_Bit.f
  have hp : 2 ^ i ≠ 0 := by have := Nat.two_pow_pos i; omega
  have hd : a / 2 ^ i ≤ a := Nat.div_le_self _ _
  rw [power_ q i hi hq, Option.bind_some, if_neg (by omega)]
  have e : Int.tdiv (a : Int) ((2 ^ i : Nat) : Int) = ((a / 2 ^ i : Nat) : Int) := rfl
  rw [e, wuN _ (by omega)]
  have e2 : Int.tmod ((a / 2 ^ i : Nat) : Int) 2 = ((a / 2 ^ i % 2 : Nat) : Int) := rfl
  rw [e2, ← Nat.toNat_testBit]
  cases a.testBit i <;> rfl
end Go.Proofs.YtelfiegocdjnoaaDoor.Pg
