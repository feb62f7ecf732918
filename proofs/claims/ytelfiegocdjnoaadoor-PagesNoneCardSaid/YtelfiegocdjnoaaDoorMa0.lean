/- A sweep and its arena, step by step: plain. No memory. -/
import Derived.Test.YtelfiegocdjnoaaDoorFd2
namespace Go.Proofs.YtelfiegocdjnoaaDoor.Ar
open Go Go.RowKit Go.Proofs.YtelfiegocdjnoaaDoor.Sep Go.Proofs.YtelfiegocdjnoaaDoor.Pg Go.Proofs.YtelfiegocdjnoaaDoorW.PrintWords Go.Proofs.YtelfiegocdjnoaaDoorW.PrintLast Go.Proofs.YtelfiegocdjnoaaDoorW.PrintMore Go.Proofs.YtelfiegocdjnoaaDoor.Q
set_option linter.unusedVariables false
set_option linter.unusedSimpArgs false
set_option maxRecDepth 100000
/-- The cells, a sweep, the accesses made. -/
structure Ma where (X : List Int) (x : Sw) (l : List Acc)
/-- The next access is made. -/
def Ma.stp (P T page : Nat) (who : Int) (m : Ma) : Ma :=
  ⟨m.X.set (m.x.acc P T page).2.1 (leftOf (m.x.acc P T page).1 (m.X.getD (m.x.acc P T page).2.1 0) (m.x.acc P T page).2.2.1 (m.x.acc P T page).2.2.2), m.x.aft (m.X.getD (m.x.acc P T page).2.1 0),
    m.l ++ [⟨who, (m.x.acc P T page).1, (m.x.acc P T page).2.1, (m.x.acc P T page).2.2.1, (m.x.acc P T page).2.2.2, m.X.getD (m.x.acc P T page).2.1 0, leftOf (m.x.acc P T page).1 (m.X.getD (m.x.acc P T page).2.1 0) (m.x.acc P T page).2.2.1 (m.x.acc P T page).2.2.2⟩]⟩
structure Ma.Inv (P T page : Nat) (m : Ma) : Prop where
  pl : Pl P T page m.x
  gd : m.x.Good P page
  len : m.X.length = 128 + 64 * P
  rng : Rng m.X
theorem acc_u64 {P T page : Nat} {x : Sw} (hp : Pl P T page x) (h : x.Good P page) (h8 : x.at_ ≠ 8) {v : Int} (hv : u64 v) : u64 (leftOf (x.acc P T page).1 v (x.acc P T page).2.2.1 (x.acc P T page).2.2.2) := by
  have hlo := h.a0
  have z : u64 0 := by unfold u64; decide
  have lf1 : ∀ a b c, leftOf 1 a b c = a := fun a b c => if_pos rfl
  have lf2 : ∀ a b c, leftOf 2 a b c = c := fun a b c => by unfold leftOf; rw [if_neg (by decide), if_neg (by decide)]
  unfold Sw.acc
  by_cases h0 : x.at_ = 0
  · rw [if_pos h0]; simp only [lf1]; exact hv
  rw [if_neg h0]
  have hen := h.en (by omega) (by omega)
  by_cases h1 : x.at_ = 1
  · rw [if_pos h1]
    show u64 (leftOf 4 v x.was (wordOf x.k x.c 2 x.who x.y))
    unfold leftOf
    rw [if_neg (by decide), if_pos rfl]
    split
    · exact wordOf_u64 (isE_busy hen.1 hen.2.1 h.wk)
    · exact hv
  rw [if_neg h1]
  by_cases h2 : x.at_ = 2
  · rw [if_pos h2]; simp only [lf1]; exact hv
  rw [if_neg h2]
  by_cases h3 : x.at_ = 3
  · rw [if_pos h3]; simp only [lf1]; exact hv
  rw [if_neg h3]
  by_cases h4 : x.at_ = 4
  · rw [if_pos h4]; simp only [lf2]; exact left_u64 (h.al (by omega) (by omega)) (h.mr (by omega) (by omega))
  rw [if_neg h4]
  by_cases h5 : x.at_ = 5
  · rw [if_pos h5]; simp only [lf2]; exact z
  rw [if_neg h5]
  by_cases h6 : x.at_ = 6
  · rw [if_pos h6]; simp only [lf2]; exact z
  rw [if_neg h6]
  simp only [lf2]
  split
  · exact z
  · exact wordOf_u64 (isE_given hen.1 hen.2.1 h.cy)
theorem Ma.Inv.stp {P T page : Nat} {who : Int} {m : Ma} (h : m.Inv P T page) (h8 : m.x.at_ ≠ 8) : (m.stp P T page who).Inv P T page :=
  ⟨h.pl.aft _, h.gd.aft h.pl h8 (h.rng _), by simp [Ma.stp, h.len], h.rng.set _ (acc_u64 h.pl h.gd h8 (h.rng _))⟩
/-- As many steps as it needs, but no more than so many. -/
def Ma.runs (P T page : Nat) (who : Int) : Nat → Ma → Ma
  | 0, m => m
  | k + 1, m => if m.x.at_ = 8 then m else Ma.runs P T page who k (m.stp P T page who)
theorem runs_over {P T page : Nat} {who : Int} {k : Nat} {m : Ma} (h : m.x.at_ = 8) : m.runs P T page who k = m := by
  cases k with
  | zero => rfl
  | succ k => exact if_pos h
theorem runs_step {P T page : Nat} {who : Int} {k : Nat} {m : Ma} (h : m.x.at_ ≠ 8) : m.runs P T page who (k + 1) = (m.stp P T page who).runs P T page who k := if_neg h
theorem runs_inv {P T page : Nat} {who : Int} : ∀ (k : Nat) {m : Ma}, m.Inv P T page → (m.runs P T page who k).Inv P T page
  | 0, m, h => h
  | k + 1, m, h => by
    by_cases h8 : m.x.at_ = 8
    · rw [runs_over h8]; exact h
    · rw [runs_step h8]; exact runs_inv k (h.stp h8)
theorem inv0 {P T : Nat} (hP : P < 5) (hT : T < 3) {who cyc : Int} {page : Nat} (hp : page < P + 1) (hw : worker who) (hc : 0 ≤ cyc ∧ cyc ≤ 4294967295) {X : List Int} (hl : X.length = 128 + 64 * P) (hr : Rng X) (l : List Acc) :
    (Ma.mk X (sw0 P T who cyc page) l).Inv P T page :=
  ⟨⟨hP, hT, hp, rfl, rfl, rfl, rfl⟩, ⟨hw, hc, (show (0 : Int) ≤ 0 ∧ (0 : Int) ≤ 8 by decide), by simp, by simp, by simp, by simp⟩, hl, hr⟩
/-- A sweep that frees a page that has nothing marked. -/
def pg0 : SPg := ⟨1, 2, 0, 0, 1, 0, 17, 0⟩
def mp0 : Ma := ⟨layX 0 0 [pg0] 0 (List.replicate 128 0), sw0 0 0 15 2 0, []⟩
theorem mp_end : ((mp0.runs 0 0 0 15 8).X.getD 22 0 = 0 ∧ (mp0.runs 0 0 0 15 8).x.swept = true ∧ (mp0.runs 0 0 0 15 8).x.empty = true ∧ (mp0.runs 0 0 0 15 8).x.freed = 2) := by decide +kernel
end Go.Proofs.YtelfiegocdjnoaaDoor.Ar
