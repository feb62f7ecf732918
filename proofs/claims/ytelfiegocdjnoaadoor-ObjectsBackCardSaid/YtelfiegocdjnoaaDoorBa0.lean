/- An object that was built where it may lie: its words, its header, its bit: plain. Conditions: a plan of at most five pages. -/
import Derived.Test.YtelfiegocdjnoaaDoorLk3
import Derived.Test.YtelfiegocdjnoaaDoorMrF0
import Derived.Test.YtelfiegocdjnoaaDoorMrF1
namespace Go.Proofs.YtelfiegocdjnoaaDoor.Ar
open Go Go.RowKit Go.Proofs.YtelfiegocdjnoaaDoor.Sep Go.Proofs.YtelfiegocdjnoaaDoor.Pg Go.Proofs.YtelfiegocdjnoaaDoorW.PrintWords Go.Proofs.YtelfiegocdjnoaaDoorW.PrintLast Go.Proofs.YtelfiegocdjnoaaDoorW.PrintMore Go.Proofs.YtelfiegocdjnoaaDoor.Q
set_option linter.unusedVariables false
set_option linter.unusedSimpArgs false
set_option maxHeartbeats 8000000
set_option maxRecDepth 100000
theorem dec_word {k c s o y : Int} (h : isE k c s o y = true) : dec (wordOf k c s o y) = (k, c, s, o, y, 0) := by
  have hl := isE_le h
  unfold dec
  have e1 : wordOf k c s o y % 4 = k := by unfold wordOf; omega
  have e2 : wordOf k c s o y / 4 % 16 = c := by unfold wordOf; omega
  have e3 : wordOf k c s o y / 64 % 4 = s := by unfold wordOf; omega
  have e4 : wordOf k c s o y / 256 % 16 = o := by unfold wordOf; omega
  have e5 : wordOf k c s o y / 65536 % 4294967296 = y := by unfold wordOf; omega
  simp only [e1, e2, e3, e4, e5]
  rw [if_pos ⟨h, trivial⟩]
/-- The least class whose cells have so many words. -/
def clN (w : Nat) : Nat := ((List.range 8).find? fun (c : Nat) => decide ((w : Int) ≤ szI (c : Int))).getD 0
def begL (c : Nat) : List Int := (List.range 32).filterMap fun (i : Nat) => if (i : Int) * szI (c : Int) + szI (c : Int) ≤ 64 then some ((i : Int) * szI (c : Int)) else none
theorem cls_ : ∀ n : Fin 32, windrowref05_Class.f 12 ((n.val : Int) + 1) = some ((clN (n.val + 1) : Int), 0) := by decide +kernel
theorem cls_le : ∀ n : Fin 32, clN (n.val + 1) < 8 ∧ (n.val : Int) + 1 ≤ szI (clN (n.val + 1) : Int) := by decide +kernel
theorem beg_ : ∀ c : Fin 8, windrowref05_Begins.f 40 (c.val : Int) = some (begL c.val) := by decide +kernel
theorem beg_le : ∀ c : Fin 8, 0 < (begL c.val).length ∧ (begL c.val).length ≤ 32 := by decide +kernel
theorem beg_at : ∀ c : Fin 8, ∀ i : Fin 32, i.val < (begL c.val).length → 0 ≤ (begL c.val).getD i.val 0 ∧ (begL c.val).getD i.val 0 < 64 ∧ cellI (c.val : Int) ((begL c.val).getD i.val 0) = (begL c.val).getD i.val 0 := by decide +kernel
/-- Where an object is built, and how its page's entry reads. -/
structure BkOk (P pg aN j nn : Nat) (ek ec es : Int) : Prop where
  hP : P < 5
  hpg : pg ≤ P
  hj : j < 64
  ha : aN = 64 + 64 * pg + j
  hn : nn ≤ 255
  hk : (ek = 1 ∧ es = 1 ∧ (0 ≤ ec ∧ ec < 8) ∧ cellI ec (j : Int) = (j : Int) ∧ (nn : Int) + 1 ≤ szI ec ∧ nn + 1 ≤ 32) ∨ (ek = 2 ∧ es = 0 ∧ j = 0 ∧ ec = pgI ((nn : Int) + 1) ∧ 33 ≤ nn + 1 ∧ (pg : Int) + ec ≤ (P : Int) + 1)
variable {P pg aN j nn : Nat} {ek ec es : Int}
theorem BkOk.pgI (h : BkOk P pg aN j nn ek ec es) (h2 : 33 ≤ nn + 1) : 1 ≤ Ar.pgI ((nn : Int) + 1) ∧ Ar.pgI ((nn : Int) + 1) ≤ 4 := by
  have := h.hn
  unfold Ar.pgI
  rw [if_neg (by omega)]
  omega
theorem BkOk.isE (h : BkOk P pg aN j nn ek ec es) : isE ek ec es 0 0 = true := by
  obtain ⟨rfl, rfl, hc, _⟩ | ⟨rfl, rfl, _, hec, h33, _⟩ := h.hk
  · simp [Pg.isE, own, hc.1, hc.2]
  · have := h.pgI h33
    have h1 : 1 ≤ ec ∧ ec ≤ 4 := by omega
    simp [Pg.isE, own, h1.1, h1.2]
theorem BkOk.pl (h : BkOk P pg aN j nn ek ec es) : plI P (aN : Int) = ((pg : Int), (j : Int)) := by
  have h1 := h.hpg
  have h2 := h.hj
  have h3 := h.ha
  unfold plI
  rw [if_pos (by omega)]
  ext <;> simp only <;> omega
theorem BkOk.in_ (h : BkOk P pg aN j nn ek ec es) : aN + nn < 128 + 64 * P := by
  have h1 := h.hpg
  have h2 := h.hj
  have h3 := h.ha
  obtain ⟨_, _, hc, hce, hs, h32⟩ | ⟨_, _, hj0, hec, h33, hpp⟩ := h.hk
  · have := (cellI_j hce).2
    omega
  · unfold Ar.pgI at hec
    rw [if_neg (by omega)] at hec
    omega
theorem BkOk.isH {kd : Int} (h : BkOk P pg aN j nn ek ec es) (hk : kd = 2 ∨ kd = 3) : Ar.isH 0 kd (nn : Int) = true := by
  have := h.hn
  unfold Ar.isH
  rw [decide_eq_true_eq]
  exact .inr ⟨hk, rfl, by omega, by omega⟩
theorem BkOk.hw {kd : Int} (h : BkOk P pg aN j nn ek ec es) (hk : kd = 2 ∨ kd = 3) : hwI 0 kd (nn : Int) = (nn : Int) + 1 := by
  unfold hwI; rw [if_pos (h.isH hk)]; omega
theorem BkOk.lies {kd : Int} (h : BkOk P pg aN j nn ek ec es) (hk : kd = 2 ∨ kd = 3) : liesI P (aN : Int) 0 kd (nn : Int) = true := by
  have hj := h.hj
  unfold liesI
  rw [h.pl, h.hw hk]
  simp only
  rw [if_neg (by omega)]
  obtain ⟨_, _, hc, hce, hs, h32⟩ | ⟨_, _, hj0, hec, h33, hpp⟩ := h.hk
  · have := (cellI_j hce).2
    rw [if_pos (by omega), decide_eq_true_eq]
    omega
  · rw [if_neg (by omega), decide_eq_true_eq]
    unfold Ar.pgI at hec
    rw [if_neg (by omega)] at hec
    subst hj0
    exact ⟨rfl, by omega⟩
theorem BkOk.fits {kd : Int} (h : BkOk P pg aN j nn ek ec es) (hk : kd = 2 ∨ kd = 3) : fitsI ek ec (j : Int) (hwI 0 kd (nn : Int)) ((P : Int) + 1) (pg : Int) = true := by
  rw [h.hw hk]
  unfold fitsI
  obtain ⟨rfl, _, hc, hce, hs, h32⟩ | ⟨rfl, _, hj0, hec, h33, hpp⟩ := h.hk
  · have := (cellI_j hce).2
    rw [if_neg (by decide), decide_eq_true_eq]
    exact ⟨hc, hs, this⟩
  · rw [if_pos rfl, decide_eq_true_eq]
    exact ⟨by omega, hec.symm, by omega⟩
theorem hdOf_self {c k n : Int} (h : Ar.isH c k n = true) : hdOf c k n (hdW c k n) = (c, k, n, 0) := by
  unfold hdOf
  rw [if_pos ⟨h, rfl⟩]
theorem decH_hd {kd : Int} (hn : nn ≤ 255) (hk : kd = 2 ∨ kd = 3) (hh : Ar.isH 0 kd (nn : Int) = true) : decH (hdW 0 kd (nn : Int)) = (0, kd, (nn : Int), 0) := by
  have e1 : hdW 0 kd (nn : Int) / 256 % 256 = 0 := by unfold hdW; omega
  have e2 : hdW 0 kd (nn : Int) % 256 = kd := by unfold hdW; omega
  have e3 : hdW 0 kd (nn : Int) / 65536 % 256 = (nn : Int) := by unfold hdW; omega
  unfold decH
  rw [e1, e2, e3]
  exact hdOf_self hh
/-- A bit that is set is there. -/
theorem bit_set (al : Int) (j : Nat) (hj : j < 64) (h0 : 0 ≤ al) (h1 : al < 18446744073709551616) : 0 ≤ bits BinOp.or IntKind.u64 al ((2 ^ j : Nat) : Int) ∧ bits BinOp.or IntKind.u64 al ((2 ^ j : Nat) : Int) < 18446744073709551616 ∧ bits BinOp.or IntKind.u64 al ((2 ^ j : Nat) : Int) / ((2 ^ j : Nat) : Int) % 2 = 1 := by
  obtain ⟨a, rfl⟩ := Int.eq_ofNat_of_zero_le h0
  have hp : 2 ^ j < 18446744073709551616 := Nat.lt_of_lt_of_le (Nat.pow_lt_pow_right (by decide) hj) (by decide)
  have ha : a < 18446744073709551616 := by omega
  rw [u64_or_nat a (2 ^ j) ha hp]
  have hlt : a ||| 2 ^ j < 2 ^ 64 := Nat.or_lt_two_pow (by simpa using ha) (by simpa using hp)
  refine ⟨Int.natCast_nonneg _, by have : (2 : Nat) ^ 64 = 18446744073709551616 := by decide
                                   rw [this] at hlt; exact Int.ofNat_lt.2 hlt, ?_⟩
  have ht : (a ||| 2 ^ j).testBit j = true := by rw [Nat.testBit_or, Nat.testBit_two_pow_self]; simp
  rw [Nat.testBit_eq_decide_div_mod_eq, decide_eq_true_eq] at ht
  exact_mod_cast ht
end Go.Proofs.YtelfiegocdjnoaaDoor.Ar
