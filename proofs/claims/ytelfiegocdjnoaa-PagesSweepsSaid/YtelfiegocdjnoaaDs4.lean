/- What a sweep is seen to be, of the document's and of the machine; where its accesses lie. No memory. -/
import Derived.Test.YtelfiegocdjnoaaDs2
namespace Go.Proofs.Ytelfiegocdjnoaa.Ar
open Go Go.RowKit Go.Proofs.Ytelfiegocdjnoaa.Sep Go.Proofs.Ytelfiegocdjnoaa.Pg Go.Proofs.YtelfiegocdjnoaaW.PrintWords Go.Proofs.YtelfiegocdjnoaaW.PrintLast Go.Proofs.YtelfiegocdjnoaaW.PrintMore Go.Proofs.Ytelfiegocdjnoaa.Q
set_option linter.unusedVariables false
set_option linter.unusedSimpArgs false
set_option maxRecDepth 100000
variable {P T page : Nat} {who cyc : Int} {a b c d : Int}
def Sw.seen (y : Sw) : Rs := ⟨y.at_ == 8, y.swept, y.swept && y.empty, y.block, if y.swept = true then y.freed else 0⟩
theorem Sh.res {h : List Int} {y : Sw} (hs : Sh P T page who cyc h y) : (dSweep P T page who cyc ⟨h, 0, a, b, c, d, false⟩).1 = y.seen := by
  by_cases h8 : y.at_ = 8
  · rw [hs.over h8]
    unfold Sw.told Sw.seen
    rw [h8]
    rfl
  · obtain ⟨h1, h2, h3⟩ := hs.asks (a := a) (b := b) (c := c) (d := d) h8
    rw [h1]
    unfold Sw.seen
    rw [h2, h3, show (y.at_ == 8) = false by simpa using h8]
    rfl
theorem acc_kind (x : Sw) : (x.acc P T page).1 = 1 ∨ (x.acc P T page).1 = 2 ∨ (x.acc P T page).1 = 4 := by
  unfold Sw.acc
  (repeat' split) <;> simp
theorem acc_lt {x : Sw} (hp : Pl P T page x) (h : x.Good P page) (h8 : x.at_ ≠ 8) : (x.acc P T page).2.1 < 128 + 64 * P := by
  have h0 := adr_lt (tb := 0) hp.hP hp.hT hp.hi (by decide)
  have h1 := adr_lt (tb := 1) hp.hP hp.hT hp.hi (by decide)
  have h2 := adr_lt (tb := 2) hp.hP hp.hT hp.hi (by decide)
  unfold Sw.acc
  split
  · exact h0
  split
  · exact h0
  split
  · exact h2
  split
  · exact h1
  split
  · exact h1
  split
  · exact h2
  split
  · rename_i h6
    have ht := h.tl h6
    have hen := h.en (by omega) (by omega)
    have := hen.2.2 ht.2.2
    exact adr_lt hp.hP hp.hT (by omega) (by decide)
  · exact h0
/-- The tape that it leaves, where it isn't over. -/
theorem Sh.next_ask {h : List Int} {y : Sw} (hs : Sh P T page who cyc h y) (h8 : y.at_ ≠ 8) :
    dSweep P T page who cyc ⟨h, 0, a, b, c, d, false⟩ = (Rs.no, ⟨h, h.length, (y.acc P T page).1, (y.acc P T page).2.1, (y.acc P T page).2.2.1, (y.acc P T page).2.2.2, true⟩) := (hs.asks h8).1
theorem dSweep_hist (x : Tp) : (dSweep P T page who cyc x).2.hist = x.hist := by
  have hist1 : ∀ (x : Tp) (k a wt p : Int), (x.ask k a wt p).2.hist = x.hist := fun x k a wt p => by unfold Tp.ask; split; rfl; split <;> rfl
  have histT : ∀ (j : Nat) (x : Tp), (dTails P T page j x).hist = x.hist := fun j => by
    induction j with
    | zero => intro x; rfl
    | succ j ih => intro x; unfold dTails; rw [ih, hist1]
  unfold dSweep dRest
  simp only
  (repeat' split) <;> simp only [hist1, histT]
end Go.Proofs.Ytelfiegocdjnoaa.Ar
