/- An object that was built where it may lie: its words, its header, its bit: plain. Conditions: a plan of at most five pages. -/
import Derived.Test.YtelfiegocdjnoaaDoorLk3
import Derived.Test.YtelfiegocdjnoaaDoorMrF0
namespace Go.Proofs.YtelfiegocdjnoaaDoor.Ar
open Go Go.RowKit Go.Proofs.YtelfiegocdjnoaaDoor.Sep Go.Proofs.YtelfiegocdjnoaaDoor.Pg Go.Proofs.YtelfiegocdjnoaaDoorW.PrintWords Go.Proofs.YtelfiegocdjnoaaDoorW.PrintLast Go.Proofs.YtelfiegocdjnoaaDoorW.PrintMore Go.Proofs.YtelfiegocdjnoaaDoor.Q
set_option linter.unusedVariables false
set_option linter.unusedSimpArgs false
set_option maxHeartbeats 8000000
set_option maxRecDepth 100000
section
/-- Where an object is built, and how its page's entry reads. -/
structure BkOk (P pg aN j nn : Nat) (ek ec es : Int) : Prop where
  hP : P < 5
  hpg : pg ≤ P
  hj : j < 64
  ha : aN = 64 + 64 * pg + j
  hn : nn ≤ 255
  hk : (ek = 1 ∧ es = 1 ∧ (0 ≤ ec ∧ ec < 8) ∧ cellI ec (j : Int) = (j : Int) ∧ (nn : Int) + 1 ≤ szI ec ∧ nn + 1 ≤ 32) ∨ (ek = 2 ∧ es = 0 ∧ j = 0 ∧ ec = pgI ((nn : Int) + 1) ∧ 33 ≤ nn + 1 ∧ (pg : Int) + ec ≤ (P : Int) + 1)
variable {P pg aN j nn : Nat} {ek ec es : Int}
theorem BkOk.pgI (h : BkOk P pg aN j nn ek ec es) (h2 : 33 ≤ nn + 1) : 1 ≤ Ar.pgI ((nn : Int) + 1) ∧ Ar.pgI ((nn : Int) + 1) ≤ 4 := by
  have := h.hn
  unfold Ar.pgI
  rw [if_neg (by omega)]
  omega
theorem BkOk.isE (h : BkOk P pg aN j nn ek ec es) : isE ek ec es 0 0 = true := by
  obtain ⟨rfl, rfl, hc, _⟩ | ⟨rfl, rfl, _, hec, h33, _⟩ := h.hk
  · simp [Pg.isE, own, hc.1, hc.2]
  · have := h.pgI h33
    have h1 : 1 ≤ ec ∧ ec ≤ 4 := by omega
    simp [Pg.isE, own, h1.1, h1.2]
theorem BkOk.pl (h : BkOk P pg aN j nn ek ec es) : plI P (aN : Int) = ((pg : Int), (j : Int)) := by
  have h1 := h.hpg
  have h2 := h.hj
  have h3 := h.ha
  unfold plI
  rw [if_pos (by omega)]
  ext <;> simp only <;> omega
theorem BkOk.in_ (h : BkOk P pg aN j nn ek ec es) : aN + nn < 128 + 64 * P := by
  have h1 := h.hpg
  have h2 := h.hj
  have h3 := h.ha
  obtain ⟨_, _, hc, hce, hs, h32⟩ | ⟨_, _, hj0, hec, h33, hpp⟩ := h.hk
  · have := (cellI_j hce).2
    omega
  · unfold Ar.pgI at hec
    rw [if_neg (by omega)] at hec
    omega
theorem BkOk.isH {kd : Int} (h : BkOk P pg aN j nn ek ec es) (hk : kd = 2 ∨ kd = 3) : Ar.isH 0 kd (nn : Int) = true := by
  have := h.hn
  unfold Ar.isH
  rw [decide_eq_true_eq]
  exact .inr ⟨hk, rfl, by omega, by omega⟩
theorem BkOk.hw {kd : Int} (h : BkOk P pg aN j nn ek ec es) (hk : kd = 2 ∨ kd = 3) : hwI 0 kd (nn : Int) = (nn : Int) + 1 := by
  unfold hwI; rw [if_pos (h.isH hk)]; omega
theorem BkOk.lies {kd : Int} (h : BkOk P pg aN j nn ek ec es) (hk : kd = 2 ∨ kd = 3) : liesI P (aN : Int) 0 kd (nn : Int) = true := by
  have hj := h.hj
  unfold liesI
  rw [h.pl, h.hw hk]
  simp only
  rw [if_neg (by omega)]
  obtain ⟨_, _, hc, hce, hs, h32⟩ | ⟨_, _, hj0, hec, h33, hpp⟩ := h.hk
  · have := (cellI_j hce).2
    rw [if_pos (by omega), decide_eq_true_eq]
    omega
  · rw [if_neg (by omega), decide_eq_true_eq]
    unfold Ar.pgI at hec
    rw [if_neg (by omega)] at hec
    subst hj0
    exact ⟨rfl, by omega⟩
theorem BkOk.fits {kd : Int} (h : BkOk P pg aN j nn ek ec es) (hk : kd = 2 ∨ kd = 3) : fitsI ek ec (j : Int) (hwI 0 kd (nn : Int)) ((P : Int) + 1) (pg : Int) = true := by
  rw [h.hw hk]
  unfold fitsI
  obtain ⟨rfl, _, hc, hce, hs, h32⟩ | ⟨rfl, _, hj0, hec, h33, hpp⟩ := h.hk
  · have := (cellI_j hce).2
    rw [if_neg (by decide), decide_eq_true_eq]
    exact ⟨hc, hs, this⟩
  · rw [if_pos rfl, decide_eq_true_eq]
    exact ⟨by omega, hec.symm, by omega⟩
end
section
variable {P pg aN j nn : Nat} {ek ec es kd : Int}
end
end Go.Proofs.YtelfiegocdjnoaaDoor.Ar
