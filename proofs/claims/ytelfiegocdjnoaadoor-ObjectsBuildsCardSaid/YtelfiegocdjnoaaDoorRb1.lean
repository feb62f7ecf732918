/- What the document's Build asks next, behind so many answers: plain. No condition. -/
import Derived.Test.YtelfiegocdjnoaaDoorRb0
namespace Go.Proofs.YtelfiegocdjnoaaDoor.Ar
open Go Go.RowKit
set_option linter.unusedVariables false
set_option linter.unusedSimpArgs false
theorem ask_more {x : Tp} (h1 : x.stop = false) (h2 : x.pos < x.hist.length) (k a wt p : Int) : (x.ask k a wt p).2 = { x with pos := x.pos + 1 } := by
  unfold Tp.ask
  rw [if_neg (by simp [h1]), if_pos h2]
theorem ask_end {x : Tp} (h1 : x.stop = false) (h2 : ¬ x.pos < x.hist.length) (k a wt p : Int) : (x.ask k a wt p).2 = { x with nk := k, na := a, nw := wt, np := p, stop := true } := by
  unfold Tp.ask
  rw [if_neg (by simp [h1]), if_neg h2]
theorem ask_stop {x : Tp} (h1 : x.stop = true) (k a wt p : Int) : (x.ask k a wt p).2 = x := by
  unfold Tp.ask
  rw [if_pos h1]
theorem rbS_lo (at_ : Int) (n : Nat) (x : Tp) (h0 : x.pos = 0) (hs : x.stop = false) : ∀ d, d ≤ x.hist.length → rbS at_ n d x = { x with pos := d }
  | 0, _ => by
    cases x
    simp only at h0
    subst h0
    rfl
  | d + 1, h => by
    rw [rbS, rbS_lo at_ n x h0 hs d (by omega), ask_more (x := { x with pos := d }) hs (by show d < x.hist.length; omega)]
theorem rbS_hi (at_ : Int) (n : Nat) (x : Tp) (h0 : x.pos = 0) (hs : x.stop = false) : ∀ d, x.hist.length < d → d ≤ n → rbS at_ n d x = { x with pos := x.hist.length, nk := 2, na := at_ + ((n - x.hist.length : Nat) : Int), nw := 0, np := 0, stop := true }
  | 0, h, _ => by omega
  | d + 1, h, hn => by
    rw [rbS]
    by_cases h2 : d = x.hist.length
    · rw [rbS_lo at_ n x h0 hs d (by omega), ask_end (x := { x with pos := d }) hs (by show ¬ d < x.hist.length; omega), ← h2]
    · rw [rbS_hi at_ n x h0 hs d (by omega) (by omega), ask_stop rfl]
/-- What it asks next. -/
theorem rbT_is (at_ hd : Int) (n : Nat) (x : Tp) (h0 : x.pos = 0) (hs : x.stop = false) (hl : x.hist.length ≤ n) :
    rbT at_ hd n x = { x with pos := x.hist.length, nk := 2, na := if x.hist.length < n then at_ + ((n - x.hist.length : Nat) : Int) else at_, nw := 0, np := if x.hist.length < n then 0 else hd, stop := true } := by
  unfold rbT
  by_cases h : x.hist.length < n
  · rw [rbS_hi at_ n x h0 hs n h (Nat.le_refl _), ask_stop rfl, if_pos h, if_pos h]
  · rw [rbS_lo at_ n x h0 hs n (by omega), ask_end (x := { x with pos := n }) hs (by show ¬ n < x.hist.length; omega), if_neg h, if_neg h]
    have : x.hist.length = n := by omega
    rw [this]
end Go.Proofs.YtelfiegocdjnoaaDoor.Ar
