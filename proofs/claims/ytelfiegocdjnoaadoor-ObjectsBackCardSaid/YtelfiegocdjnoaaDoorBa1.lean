/- What a build leaves, and how it is looked at: plain. Conditions: the object may lie there. -/
import Derived.Test.YtelfiegocdjnoaaDoorBa0
namespace Go.Proofs.YtelfiegocdjnoaaDoor.Ar
open Go Go.RowKit Go.Proofs.YtelfiegocdjnoaaDoor.Sep Go.Proofs.YtelfiegocdjnoaaDoor.Pg Go.Proofs.YtelfiegocdjnoaaDoorW.PrintWords Go.Proofs.YtelfiegocdjnoaaDoorW.PrintLast Go.Proofs.YtelfiegocdjnoaaDoorW.PrintMore Go.Proofs.YtelfiegocdjnoaaDoor.Q
set_option linter.unusedVariables false
set_option linter.unusedSimpArgs false
set_option maxHeartbeats 8000000
set_option maxRecDepth 100000
/-- The cells behind so many of a build's steps. -/
def bkX (X : List Int) (aN nn : Nat) (hd : Int) : Nat → List Int
  | 0 => X
  | i + 1 => (bkX X aN nn hd i).set (if i < nn then aN + (nn - i) else aN) (if i < nn then 0 else hd)
theorem bkX_len (X : List Int) (aN nn : Nat) (hd : Int) : ∀ i, (bkX X aN nn hd i).length = X.length
  | 0 => rfl
  | i + 1 => by rw [bkX, List.length_set]; exact bkX_len X aN nn hd i
theorem getD_ne {X : List Int} {i m : Nat} {v : Int} (h : i ≠ m) : (X.set i v).getD m 0 = X.getD m 0 := by
  rw [List.getD_eq_getElem?_getD, List.getElem?_set_ne h, ← List.getD_eq_getElem?_getD]
theorem getD_eq {X : List Int} {i : Nat} {v : Int} (h : i < X.length) : (X.set i v).getD i 0 = v := by
  rw [List.getD_eq_getElem?_getD, List.getElem?_set_self h]; rfl
theorem bkX_out (X : List Int) (aN nn : Nat) (hd : Int) {m : Nat} (hm : m < aN ∨ aN + nn < m) : ∀ i, (bkX X aN nn hd i).getD m 0 = X.getD m 0
  | 0 => rfl
  | i + 1 => by
    rw [bkX, getD_ne (by split <;> omega)]
    exact bkX_out X aN nn hd hm i
theorem bkX_zero (X : List Int) (aN nn : Nat) (hd : Int) (hX : aN + nn < X.length) {q : Nat} (h1 : 1 ≤ q) (h2 : q ≤ nn) : ∀ i, nn - q < i → (bkX X aN nn hd i).getD (aN + q) 0 = 0
  | 0, h => by omega
  | i + 1, h => by
    rw [bkX]
    by_cases hi : i < nn
    · rw [if_pos hi, if_pos hi]
      by_cases hq : nn - i = q
      · rw [hq]
        exact getD_eq (by rw [bkX_len]; omega)
      · rw [getD_ne (by omega)]
        exact bkX_zero X aN nn hd hX h1 h2 i (by omega)
    · rw [if_neg hi, if_neg hi, getD_ne (by omega)]
      exact bkX_zero X aN nn hd hX h1 h2 i (by omega)
theorem bkX_head (X : List Int) (aN nn : Nat) (hd : Int) (hX : aN + nn < X.length) : (bkX X aN nn hd (nn + 1)).getD aN 0 = hd := by
  rw [bkX, if_neg (by omega), if_neg (by omega)]
  exact getD_eq (by rw [bkX_len]; omega)
theorem bkX_rng {X : List Int} {aN nn : Nat} {hd : Int} (hX : ∀ i, 0 ≤ X.getD i 0 ∧ X.getD i 0 < 18446744073709551616) (hh : 0 ≤ hd ∧ hd < 18446744073709551616) : ∀ i m, 0 ≤ (bkX X aN nn hd i).getD m 0 ∧ (bkX X aN nn hd i).getD m 0 < 18446744073709551616
  | 0, m => hX m
  | i + 1, m => by
    rw [bkX]
    generalize hv : (if i < nn then (0 : Int) else hd) = v
    have hvr : 0 ≤ v ∧ v < 18446744073709551616 := by rw [← hv]; split; exact ⟨by decide, by decide⟩; exact hh
    generalize (if i < nn then aN + (nn - i) else aN) = p
    by_cases hp : p = m
    · subst hp
      by_cases hl : p < (bkX X aN nn hd i).length
      · rw [getD_eq hl]; exact hvr
      · rw [List.set_eq_of_length_le (by omega)]; exact bkX_rng hX hh i p
    · rw [getD_ne hp]; exact bkX_rng hX hh i m
theorem hdW_rng {kd : Int} {nn : Nat} (hn : nn ≤ 255) (hk : kd = 2 ∨ kd = 3) : 0 ≤ hdW 0 kd (nn : Int) ∧ hdW 0 kd (nn : Int) < 18446744073709551616 := by
  unfold hdW; omega
variable {P pg aN j nn : Nat} {ek ec es kd : Int}
theorem back_look (h : BkOk P pg aN j nn ek ec es) (hk : kd = 2 ∨ kd = 3) {X : List Int} (he : X.getD (22 + pg) 0 = wordOf ek ec es 0 0) {al : Int} (hal : X.getD (22 + (P + 1) + pg) 0 = al) (hl0 : 0 ≤ al) (hl1 : al < 18446744073709551616) (hbit : al / ((2 ^ j : Nat) : Int) % 2 = 1)
    (hh : X.getD aN 0 = hdW 0 kd (nn : Int)) (hz : ∀ q, 1 ≤ q → q ≤ nn → X.getD (aN + q) 0 = 0) : lookR P X [] (aN : Int) = ((aN : Int), 0, kd, List.replicate nn 0, 0) := by
  have hz1 : (plI P (aN : Int)).1 = (pg : Int) := by rw [h.pl]
  have hz2 : (plI P (aN : Int)).2 = (j : Int) := by rw [h.pl]
  have hen : entR P X (aN : Int) = (ek, ec, es, 0, 0, 0) := by
    unfold entR
    rw [hz1, Int.toNat_natCast, he]
    exact dec_word h.isE
  have hq := dq_ al j ⟨hl0, hl1⟩
  have hall : allR P X (aN : Int) = true := by
    unfold allR
    rw [hz1, hz2, if_neg (by omega), Int.toNat_natCast, Int.toNat_natCast, hen, hal]
    unfold allI
    have hpe : ((2 : Int) ^ j) = ((2 ^ j : Nat) : Int) := by push_cast; rfl
    rw [hpe, and1_ _ hq.1 hq.2, hbit]
    rw [if_pos ⟨rfl, by decide⟩]
    obtain ⟨rfl, _, hc, hce, _⟩ | ⟨rfl, _, hj0, _⟩ := h.hk
    · rw [if_pos rfl]; simpa using hce
    · rw [if_neg (show ¬ (2 : Int) = 1 by decide), if_pos rfl]; simpa using hj0
  have hdd := decH_hd h.hn hk (h.isH hk)
  unfold lookR okR
  rw [if_pos hall, Int.toNat_natCast, hh, hdd, hen, hz1, hz2]
  have hft : fitT [] 0 kd (nn : Int) = true := by
    unfold fitT
    rw [h.isH hk, Bool.true_and]
    rcases hk with rfl | rfl <;> simp
  rw [if_pos (by rw [hft, h.fits hk]; rfl)]
  have hws : wsR X aN nn = List.replicate nn 0 := by
    unfold wsR
    refine List.ext_getElem (by simp) fun q h1 h2 => ?_
    have hq9 : q < nn := by simpa using h1
    simp only [List.getElem_map, List.getElem_range, List.getElem_replicate]
    rw [show aN + 1 + q = aN + (q + 1) by omega, hz (q + 1) (by omega) (by omega)]
    unfold wrap64; omega
  dsimp only
  rw [Int.toNat_natCast, hws]
end Go.Proofs.YtelfiegocdjnoaaDoor.Ar
