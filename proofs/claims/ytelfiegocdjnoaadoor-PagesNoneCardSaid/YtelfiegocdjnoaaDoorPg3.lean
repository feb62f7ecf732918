/- Plain facts on the words of entries: what they encode to, and what words are entries. No memory. -/
import Derived.Test.YtelfiegocdjnoaaDoorPg2
import Derived.Test.YtelfiegocdjnoaaDoorMrF0
namespace Go.Proofs.YtelfiegocdjnoaaDoor.Pg
open Go Go.RowKit Go.Proofs.YtelfiegocdjnoaaDoorW.PrintWords Go.Proofs.YtelfiegocdjnoaaDoorW.PrintLast Go.Proofs.YtelfiegocdjnoaaDoorW.PrintMore Go.Proofs.YtelfiegocdjnoaaDoor.Q
set_option linter.unusedVariables false
set_option linter.unusedSimpArgs false
set_option maxRecDepth 100000

theorem isE_le {k c s o y : Int} (h : isE k c s o y = true) : 0 ≤ k ∧ k < 4 ∧ 0 ≤ c ∧ c < 8 ∧ 0 ≤ s ∧ s < 3 ∧ 0 ≤ o ∧ o < 16 ∧ 0 ≤ y ∧ y < 4294967296 := by
  unfold isE at h
  split at h
  · cases h
  · rename_i h1
    have h2 : 0 ≤ y ∧ y < 4294967296 := by omega
    have h3 : own k s o = true := by
      cases hh : own k s o
      · exact absurd (.inr (.inr hh)) h1
      · rfl
    have h4 : 0 ≤ s ∧ s < 3 ∧ 0 ≤ o ∧ o < 16 := by
      unfold own at h3
      split at h3
      · simp at h3; omega
      · split at h3
        · split at h3
          · omega
          · cases h3
        · split at h3
          · split at h3
            · omega
            · simp at h3; omega
          · cases h3
    split at h
    · simp at h; omega
    · split at h
      · simp at h; omega
      · split at h
        · simp at h; omega
        · simp at h; omega
def wordOf (k c s o y : Int) : Int := k + 4 * c + 64 * s + 256 * o + 65536 * y
theorem wu (x : Int) (h0 : 0 ≤ x) (h1 : x < 18446744073709551616) : IntKind.u64.wrap x = x := by rw [IntKind.wrap_u64]; omega
theorem encR (q : Nat) (k c s o y : Int) : windrowref02_EncodeEntry.f (q + 3) k c s o y = some (if isE k c s o y = true then (wordOf k c s o y, 0) else (0, 4)) := by
  unfold windrowref02_EncodeEntry.f
  rw [entry_, Option.bind_some]
  by_cases h : isE k c s o y = true
  · rw [if_pos h, if_pos h]
    obtain ⟨h1, h2, h3, h4, h5, h6, h7, h8, h9, h10⟩ := isE_le h
    rw [wu y (by omega) (by omega), wu o (by omega) (by omega), wu s (by omega) (by omega), wu c (by omega) (by omega), wu k (by omega) (by omega), wu (y * 65536) (by omega) (by omega), wu (o * 256) (by omega) (by omega), wu (s * 64) (by omega) (by omega), wu (c * 4) (by omega) (by omega),
      wu (y * 65536 + o * 256) (by omega) (by omega), wu (y * 65536 + o * 256 + s * 64) (by omega) (by omega), wu (y * 65536 + o * 256 + s * 64 + c * 4) (by omega) (by omega), wu (y * 65536 + o * 256 + s * 64 + c * 4 + k) (by omega) (by omega)]
    unfold wordOf
    rw [show y * 65536 + o * 256 + s * 64 + c * 4 + k = k + 4 * c + 64 * s + 256 * o + 65536 * y by omega]
  · rw [if_neg h, if_neg h]
theorem mask_ (wd : Nat) (h1 : 1 ≤ wd) (h2 : wd < 64) : word_Mask.f (wd : Int) = some (((2 ^ wd - 1 : Nat) : Int)) := by
  unfold word_Mask.f
  rw [if_neg (by omega), if_neg (by omega), if_pos (by omega)]
  have hp : 2 ^ wd < 18446744073709551616 := Nat.lt_of_lt_of_le (Nat.pow_lt_pow_right (by decide) h2) (by decide)
  have hq : 0 < 2 ^ wd := Nat.two_pow_pos wd
  have e : shl .u64 1 (wd : Int) = ((2 ^ wd : Nat) : Int) := by
    unfold shl
    have : min (wd : Int).toNat (IntKind.u64.bits) = wd := by rw [Int.toNat_natCast]; exact Nat.min_eq_left (show wd ≤ 64 by omega)
    have h5 : (1 : Int) * 2 ^ wd = ((2 ^ wd : Nat) : Int) := by rw [Int.one_mul, Int.natCast_pow]; rfl
    rw [this, h5]
    exact wu _ (by omega) (by omega)
  rw [e, wu _ (by omega) (by omega)]
  congr 1
  omega
theorem field_ (sh wd : Nat) (h1 : 1 ≤ wd) (h : sh + wd ≤ 64) : word_field.f (sh : Int) (wd : Int) = some true := by
  unfold word_field.f
  rw [if_pos (by omega), if_pos (by omega), if_pos (by omega)]
  have : wrap64 (64 - (sh : Int)) = 64 - (sh : Int) := by unfold wrap64; omega
  rw [this, decide_eq_true (by omega)]
theorem put_ (w v sh wd : Nat) (h1 : 1 ≤ wd) (h2 : wd < 64) (h : sh + wd ≤ 64) (hv : v < 2 ^ wd) (hw : w < 2 ^ sh)
    (hx : (18446744073709551615 - (2 ^ wd - 1) * 2 ^ sh) % 2 ^ sh = 2 ^ sh - 1) (hy : 2 ^ sh * 2 ^ wd ≤ 18446744073709551616) : word_Put.f (w : Int) (sh : Int) (wd : Int) (v : Int) = some (((w + v * 2 ^ sh : Nat) : Int), 0) := by
  have hsh : 0 < 2 ^ sh := Nat.two_pow_pos sh
  have hwd : 0 < 2 ^ wd := Nat.two_pow_pos wd
  have hp : 2 ^ wd < 18446744073709551616 := Nat.lt_of_lt_of_le (Nat.pow_lt_pow_right (by decide) h2) (by decide)
  have hq : 2 ^ sh < 18446744073709551616 := by
    refine Nat.lt_of_lt_of_le (Nat.pow_lt_pow_right (by decide) (show sh < 64 by omega)) (by decide)
  have hb : v * 2 ^ sh < 18446744073709551616 := by
    have : v * 2 ^ sh ≤ (2 ^ wd - 1) * 2 ^ sh := Nat.mul_le_mul_right _ (by omega)
    have h3 : (2 ^ wd - 1) * 2 ^ sh + 2 ^ sh = 2 ^ sh * 2 ^ wd := by
      rw [← Nat.succ_mul, Nat.mul_comm]; congr 1; omega
    omega
  have hm : (2 ^ wd - 1) * 2 ^ sh < 18446744073709551616 := by
    have h3 : (2 ^ wd - 1) * 2 ^ sh + 2 ^ sh = 2 ^ sh * 2 ^ wd := by
      rw [← Nat.succ_mul, Nat.mul_comm]; congr 1; omega
    omega
  have hl : ∀ x : Nat, x * 2 ^ sh < 18446744073709551616 → shl .u64 (x : Int) (sh : Int) = ((x * 2 ^ sh : Nat) : Int) := by
    intro x hx
    unfold shl
    have : min (sh : Int).toNat (IntKind.u64.bits) = sh := by rw [Int.toNat_natCast]; exact Nat.min_eq_left (show sh ≤ 64 by omega)
    have h5 : (x : Int) * 2 ^ sh = ((x * 2 ^ sh : Nat) : Int) := by rw [Int.natCast_mul, Int.natCast_pow]; rfl
    rw [this, h5]
    generalize x * 2 ^ sh = z at hx ⊢
    exact wu _ (by omega) (by omega)
  unfold word_Put.f
  rw [field_ sh wd h1 h, Option.bind_some, if_pos rfl, mask_ wd h1 h2, Option.bind_some, u64_andNot_nat _ _ (by omega) (by omega)]
  have e1 : v &&& (18446744073709551615 - (2 ^ wd - 1)) = 0 := by
    have hm := nat_midmask 64 wd v (by omega)
    have e : (18446744073709551615 - (2 ^ wd - 1)) = 2 ^ 64 - 2 ^ wd := by
      have : (2 : Nat) ^ 64 = 18446744073709551616 := by decide
      omega
    have hv6 : v < 2 ^ 64 := Nat.lt_trans hv (Nat.pow_lt_pow_right (by decide) h2)
    rw [e, hm, Nat.mod_eq_of_lt hv6, Nat.div_eq_of_lt hv, Nat.zero_mul]
  rw [e1, if_pos (show ((0 : Nat) : Int) = 0 from rfl), Option.bind_some, if_pos (by omega), hl _ hm, hl _ hb, u64_andNot_nat _ _ (by omega) (by omega)]
  have e2 : w &&& (18446744073709551615 - (2 ^ wd - 1) * 2 ^ sh) = w := by
    have a1 : (w &&& (18446744073709551615 - (2 ^ wd - 1) * 2 ^ sh)) % 2 ^ sh = (w % 2 ^ sh) &&& ((18446744073709551615 - (2 ^ wd - 1) * 2 ^ sh) % 2 ^ sh) := Nat.and_mod_two_pow
    rw [hx, Nat.and_two_pow_sub_one_eq_mod, Nat.mod_mod, Nat.mod_eq_of_lt hw] at a1
    rw [Nat.mod_eq_of_lt (Nat.lt_of_le_of_lt Nat.and_le_left hw)] at a1
    exact a1
  rw [e2, u64_or_nat _ _ (by omega) hb, Nat.or_comm, nat_join sh _ _ (by simp) hw, Nat.add_comm]
theorem wl (q : Nat) (x : List Int) (w p : Int) (v : List Int) (n i sh wd : Nat) (vv : Nat) (ww : Nat) (hw : w = (ww : Int)) (hp : p = (sh : Int)) (hi : i < n) (hn : v.length = n) (hx : x.length = n) (hr : rd x i = (wd : Int)) (hv : rd v i = (vv : Int))
    (g1 : 1 ≤ wd) (g2 : wd < 64) (g : sh + wd ≤ 64) (gv : vv < 2 ^ wd) (gw : ww < 2 ^ sh) (gx : (18446744073709551615 - (2 ^ wd - 1) * 2 ^ sh) % 2 ^ sh = 2 ^ sh - 1) (gy : 2 ^ sh * 2 ^ wd ≤ 18446744073709551616) (hlt : n < 1000) :
    word_Pack.l0 (q + 1) x w p v (n : Int) (i : Int) = word_Pack.l0 q x (((ww + vv * 2 ^ sh : Nat) : Int)) (((sh + wd : Nat) : Int)) v (n : Int) (((i + 1 : Nat) : Int)) := by
  subst hw hp
  rw [word_Pack.l0, if_pos (by omega), if_pos (by omega), if_pos (by omega), if_pos (by omega), hr, hv, put_ _ _ _ _ g1 g2 g gv gw gx gy, Option.bind_some, if_pos rfl]
  have e1 : wrap64 ((sh : Int) + (wd : Int)) = ((sh + wd : Nat) : Int) := by unfold wrap64; omega
  have e2 : wrap64 ((i : Int) + 1) = ((i + 1 : Nat) : Int) := by unfold wrap64; omega
  rw [e1, e2]
theorem pack_ (q : Nat) (k c s o y : Nat) (hk : k < 4) (hc : c < 16) (hs : s < 4) (ho : o < 16) (hy : y < 4294967296) :
    word_Pack.f (q + 7) [(k : Int), (c : Int), (s : Int), (o : Int), 0, (y : Int)] [2, 4, 2, 4, 4, 32] = some (wordOf k c s o y, 0) := by
  unfold word_Pack.f
  rw [if_pos (show ((([(k : Int), (c : Int), (s : Int), (o : Int), 0, (y : Int)] : List Int).length : Nat) : Int) = ((([2, 4, 2, 4, 4, 32] : List Int).length : Nat) : Int) from rfl)]
  show word_Pack.l0 (q + 6 + 1) [2, 4, 2, 4, 4, 32] ((0 : Nat) : Int) ((0 : Nat) : Int) [(k : Int), (c : Int), (s : Int), (o : Int), 0, (y : Int)] ((6 : Nat) : Int) ((0 : Nat) : Int) = _
  rw [wl (q + 6) _ _ _ _ 6 0 0 2 k 0 rfl rfl (by decide) rfl rfl rfl rfl (by decide) (by decide) (by decide) hk (by decide) (by decide) (by decide) (by decide)]
  rw [wl (q + 5) _ _ _ _ 6 1 2 4 c (0 + k * 2 ^ 0) rfl rfl (by decide) rfl rfl rfl rfl (by decide) (by decide) (by decide) hc (by omega) (by decide) (by decide) (by decide)]
  rw [wl (q + 4) _ _ _ _ 6 2 6 2 s (0 + k * 2 ^ 0 + c * 2 ^ 2) rfl rfl (by decide) rfl rfl rfl rfl (by decide) (by decide) (by decide) hs (by omega) (by decide) (by decide) (by decide)]
  rw [wl (q + 3) _ _ _ _ 6 3 8 4 o (0 + k * 2 ^ 0 + c * 2 ^ 2 + s * 2 ^ 6) rfl rfl (by decide) rfl rfl rfl rfl (by decide) (by decide) (by decide) ho (by omega) (by decide) (by decide) (by decide)]
  rw [wl (q + 2) _ _ _ _ 6 4 12 4 0 (0 + k * 2 ^ 0 + c * 2 ^ 2 + s * 2 ^ 6 + o * 2 ^ 8) rfl rfl (by decide) rfl rfl rfl rfl (by decide) (by decide) (by decide) (by decide) (by omega) (by decide) (by decide) (by decide)]
  rw [wl (q + 1) _ _ _ _ 6 5 16 32 y (0 + k * 2 ^ 0 + c * 2 ^ 2 + s * 2 ^ 6 + o * 2 ^ 8 + 0 * 2 ^ 12) rfl rfl (by decide) rfl rfl rfl rfl (by decide) (by decide) (by decide) (by omega) (by omega) (by decide) (by decide) (by decide)]
  rw [word_Pack.l0, if_neg (by decide)]
  unfold wordOf
  congr 2
  omega
theorem encH (q : Nat) (k c s o y : Int) : header_EncodeEntry.f (q + 7) k c s o y = some (if isE k c s o y = true then (wordOf k c s o y, 0) else (0, 4)) := by
  unfold header_EncodeEntry.f
  rw [right_, Option.bind_some]
  by_cases h : isE k c s o y = true
  · rw [if_pos h, if_pos h]
    obtain ⟨h1, h2, h3, h4, h5, h6, h7, h8, h9, h10⟩ := isE_le h
    rw [wu y (by omega) (by omega), wu o (by omega) (by omega), wu s (by omega) (by omega), wu c (by omega) (by omega), wu k (by omega) (by omega)]
    obtain ⟨k', rfl⟩ := Int.eq_ofNat_of_zero_le h1
    obtain ⟨c', rfl⟩ := Int.eq_ofNat_of_zero_le h3
    obtain ⟨s', rfl⟩ := Int.eq_ofNat_of_zero_le h5
    obtain ⟨o', rfl⟩ := Int.eq_ofNat_of_zero_le h7
    obtain ⟨y', rfl⟩ := Int.eq_ofNat_of_zero_le h9
    rw [pack_ q k' c' s' o' y' (by omega) (by omega) (by omega) (by omega) (by omega), Option.bind_some]
  · rw [if_neg h, if_neg h]
/-- What a word says. -/
def dec (w : Int) : Int × Int × Int × Int × Int × Int :=
  let k := w % 4
  let c := w / 4 % 16
  let s := w / 64 % 4
  let o := w / 256 % 16
  let y := w / 65536 % 4294967296
  if isE k c s o y = true ∧ wordOf k c s o y = w then (k, c, s, o, y, 0) else (0, 0, 0, 0, 0, 4)
theorem w64 (x : Int) (h0 : 0 ≤ x) (h1 : x < 18446744073709551616 / 2) : wrap64 x = x := by unfold wrap64; omega
theorem get_ (w sh wd : Nat) (hw : w < 18446744073709551616) (h1 : 1 ≤ wd) (h2 : wd < 64) (h : sh + wd ≤ 64) : word_Get.f (w : Int) (sh : Int) (wd : Int) = some ((((w / 2 ^ sh) % 2 ^ wd : Nat) : Int), 0) := by
  unfold word_Get.f
  have hp : 2 ^ wd < 18446744073709551616 := Nat.lt_of_lt_of_le (Nat.pow_lt_pow_right (by decide) h2) (by decide)
  have e : shr .u64 (w : Int) (sh : Int) = ((w / 2 ^ sh : Nat) : Int) := by
    unfold shr
    have : min (sh : Int).toNat (IntKind.u64.bits) = sh := by rw [Int.toNat_natCast]; exact Nat.min_eq_left (show sh ≤ 64 by omega)
    rw [this, Int.natCast_ediv, Int.natCast_pow]; rfl
  have hl : w / 2 ^ sh < 18446744073709551616 := Nat.lt_of_le_of_lt (Nat.div_le_self _ _) hw
  rw [field_ sh wd h1 h, Option.bind_some, if_pos rfl, if_pos (by omega), mask_ wd h1 h2, Option.bind_some, e, u64_and_nat _ _ hl (by omega), Nat.and_two_pow_sub_one_eq_mod]
theorem ul (q : Nat) (w : Nat) (p : Int) (l x : List Int) (n i sh wd : Nat) (hw : w < 18446744073709551616) (hp : p = (sh : Int)) (hi : i < n) (hx : x.length = n) (hr : rd x i = (wd : Int)) (g1 : 1 ≤ wd) (g2 : wd < 64) (g : sh + wd ≤ 64) (hl : l.length < 100) (hlt : n < 1000) :
    word_Unpack.l0 (q + 1) (w : Int) p l x (n : Int) (i : Int) = word_Unpack.l0 q (w : Int) (((sh + wd : Nat) : Int)) (l ++ [((((w / 2 ^ sh) % 2 ^ wd : Nat) : Int))]) x (n : Int) (((i + 1 : Nat) : Int)) := by
  subst hp
  rw [word_Unpack.l0, if_pos (by omega), if_pos (by omega), if_pos (by omega), hr, get_ w sh wd hw g1 g2 g, Option.bind_some, if_pos rfl, if_pos (by omega)]
  have e1 : wrap64 ((sh : Int) + (wd : Int)) = ((sh + wd : Nat) : Int) := by unfold wrap64; omega
  have e2 : wrap64 ((i : Int) + 1) = ((i + 1 : Nat) : Int) := by unfold wrap64; omega
  rw [e1, e2]
theorem unpack_ (q w : Nat) (hw : w < 18446744073709551616) : word_Unpack.f (q + 7) (w : Int) [2, 4, 2, 4, 4, 32] = some ([((w % 4 : Nat) : Int), ((w / 4 % 16 : Nat) : Int), ((w / 64 % 4 : Nat) : Int), ((w / 256 % 16 : Nat) : Int), ((w / 4096 % 16 : Nat) : Int), ((w / 65536 % 4294967296 : Nat) : Int)], 0) := by
  unfold word_Unpack.f
  show word_Unpack.l0 (q + 6 + 1) (w : Int) ((0 : Nat) : Int) [] [2, 4, 2, 4, 4, 32] ((6 : Nat) : Int) ((0 : Nat) : Int) = _
  rw [ul (q + 6) w _ _ _ 6 0 0 2 hw rfl (by decide) rfl rfl (by decide) (by decide) (by decide) (by decide) (by decide)]
  rw [ul (q + 5) w _ _ _ 6 1 2 4 hw rfl (by decide) rfl rfl (by decide) (by decide) (by decide) (by simp) (by decide)]
  rw [ul (q + 4) w _ _ _ 6 2 6 2 hw rfl (by decide) rfl rfl (by decide) (by decide) (by decide) (by simp) (by decide)]
  rw [ul (q + 3) w _ _ _ 6 3 8 4 hw rfl (by decide) rfl rfl (by decide) (by decide) (by decide) (by simp) (by decide)]
  rw [ul (q + 2) w _ _ _ 6 4 12 4 hw rfl (by decide) rfl rfl (by decide) (by decide) (by decide) (by simp) (by decide)]
  rw [ul (q + 1) w _ _ _ 6 5 16 32 hw rfl (by decide) rfl rfl (by decide) (by decide) (by decide) (by simp) (by decide)]
  rw [word_Unpack.l0, if_neg (by decide)]
  simp
end Go.Proofs.YtelfiegocdjnoaaDoor.Pg
