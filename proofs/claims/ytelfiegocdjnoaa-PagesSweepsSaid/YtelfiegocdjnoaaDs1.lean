/- The document's sweep asks what the machine asks: plain lemmas. No memory. -/
import Derived.Test.YtelfiegocdjnoaaDs0
import Derived.Test.YtelfiegocdjnoaaPw2
namespace Go.Proofs.Ytelfiegocdjnoaa.Ar
open Go Go.RowKit Go.Proofs.Ytelfiegocdjnoaa.Sep Go.Proofs.Ytelfiegocdjnoaa.Pg Go.Proofs.YtelfiegocdjnoaaW.PrintWords Go.Proofs.YtelfiegocdjnoaaW.PrintLast Go.Proofs.YtelfiegocdjnoaaW.PrintMore Go.Proofs.Ytelfiegocdjnoaa.Q
set_option linter.unusedVariables false
set_option linter.unusedSimpArgs false
set_option maxRecDepth 100000
theorem ask_stop {t : Tp} (h : t.stop = true) (k a wt p : Int) : t.ask k a wt p = (0, t) := if_pos h
theorem ask_next {t : Tp} (h : t.stop = false) (hp : t.pos < t.hist.length) (k a wt p : Int) : t.ask k a wt p = (t.hist.getD t.pos 0, { t with pos := t.pos + 1 }) := by
  unfold Tp.ask
  rw [if_neg (by rw [h]; decide), if_pos hp]
theorem ask_end {t : Tp} (h : t.stop = false) (hp : ¬ t.pos < t.hist.length) (k a wt p : Int) : t.ask k a wt p = (0, { t with nk := k, na := a, nw := wt, np := p, stop := true }) := by
  unfold Tp.ask
  rw [if_neg (by rw [h]; decide), if_neg hp]
theorem tails_stop {P T page : Nat} : ∀ (j : Nat) {t : Tp}, t.stop = true → dTails P T page j t = t
  | 0, _, _ => rfl
  | j + 1, t, h => by
    unfold dTails
    rw [ask_stop h]
    exact tails_stop j h
/-- What stays: the program's and the document's. -/
theorem and_one (x : Int) (hx : u64 x) : Go.bits .and .u64 x 1 = x % 2 := by
  rw [u64_and x 1 hx.1 hx.2 (by decide) (by decide)]
  have : x.toNat &&& (1 : Int).toNat = x.toNat % 2 := nat_mask1 _
  rw [this]
  have := hx.1
  omega
/-- What is told of a machine that is over. -/
def Sw.told (x : Sw) : Rs := ⟨true, x.swept, x.swept && x.empty, x.block, if x.swept = true then x.freed else 0⟩
section
variable {P T page : Nat} {who cyc : Int} {a b c d : Int}
theorem d_nil : dSweep P T page who cyc ⟨[], 0, a, b, c, d, false⟩ = (Rs.no, ⟨[], 0, 1, (adr P T 0 page : Nat), 0, 0, true⟩) := by
  unfold dSweep
  rw [ask_end rfl (by simp)]
  rfl
theorem d_over {v : Int} {r : List Int} (h8 : ((sw0 P T who cyc page).look v).at_ = 8) : dSweep P T page who cyc ⟨v :: r, 0, a, b, c, d, false⟩ = (⟨true, false, false, ((sw0 P T who cyc page).look v).block, 0⟩, ⟨v :: r, 1, a, b, c, d, false⟩) := by
  unfold dSweep
  rw [ask_next rfl (by simp)]
  simp only [List.getD_cons_zero]
  rw [if_neg (by decide), if_pos h8]
theorem d_one {v : Int} (h8 : ((sw0 P T who cyc page).look v).at_ ≠ 8) : dSweep P T page who cyc ⟨[v], 0, a, b, c, d, false⟩ = (Rs.no, ⟨[v], 1, 4, (adr P T 0 page : Nat), v, wordOf ((sw0 P T who cyc page).look v).k ((sw0 P T who cyc page).look v).c 2 who ((sw0 P T who cyc page).look v).y, true⟩) := by
  unfold dSweep
  rw [ask_next rfl (by simp)]
  simp only [List.getD_cons_zero]
  rw [if_neg (by decide), if_neg h8, ask_end rfl (by simp)]
  rfl
theorem d_two {v u : Int} {r : List Int} (h8 : ((sw0 P T who cyc page).look v).at_ ≠ 8) : dSweep P T page who cyc ⟨v :: u :: r, 0, a, b, c, d, false⟩ =
    if u ≠ v then (⟨true, false, false, true, 0⟩, ⟨v :: u :: r, 2, a, b, c, d, false⟩) else dRest P T page cyc ((sw0 P T who cyc page).look v).k ((sw0 P T who cyc page).look v).c ⟨v :: u :: r, 2, a, b, c, d, false⟩ := by
  unfold dSweep
  rw [ask_next rfl (by simp)]
  simp only [List.getD_cons_zero]
  rw [if_neg (by decide), if_neg h8, ask_next rfl (by simp)]
  simp only [List.getD_cons_succ, List.getD_cons_zero]
  rw [if_neg (by decide)]
/-- The second half, behind the marks. -/
theorem stop_if {j : Nat} {q : Prop} [Decidable q] {t : Tp} (h : t.stop = true) : (if q then dTails P T page j t else t) = t := by
  split
  · exact tails_stop j h
  · rfl
theorem r_2 {k e v u : Int} : dRest P T page cyc k e ⟨[v, u], 2, a, b, c, d, false⟩ = (Rs.no, ⟨[v, u], 2, 1, (adr P T 2 page : Nat), 0, 0, true⟩) := by
  unfold dRest
  rw [ask_end (t := ⟨[v, u], 2, a, b, c, d, false⟩) rfl (by simp)]
  simp only [ask_stop (t := ⟨[v, u], 2, 1, (adr P T 2 page : Nat), 0, 0, true⟩) rfl]
  rw [stop_if rfl]
  simp only [ask_stop (t := ⟨[v, u], 2, 1, (adr P T 2 page : Nat), 0, 0, true⟩) rfl]
  rfl
theorem r_3 {k e v u m : Int} : dRest P T page cyc k e ⟨[v, u, m], 2, a, b, c, d, false⟩ = (Rs.no, ⟨[v, u, m], 3, 1, (adr P T 1 page : Nat), 0, 0, true⟩) := by
  unfold dRest
  rw [ask_next (t := ⟨[v, u, m], 2, a, b, c, d, false⟩) rfl (by simp)]
  simp only []
  rw [ask_end (t := ⟨[v, u, m], 2 + 1, a, b, c, d, false⟩) rfl (by simp)]
  simp only [ask_stop (t := ⟨[v, u, m], 2 + 1, 1, (adr P T 1 page : Nat), 0, 0, true⟩) rfl]
  rw [stop_if rfl]
  simp only [ask_stop (t := ⟨[v, u, m], 2 + 1, 1, (adr P T 1 page : Nat), 0, 0, true⟩) rfl]
  rfl
end
/-- A run of stores over a tape. -/
def puts : List (Int × Int) → Tp → Tp
  | [], t => t
  | q :: A, t => puts A (t.ask 2 q.1 0 q.2).2
theorem puts_stop : ∀ (A : List (Int × Int)) {t : Tp}, t.stop = true → puts A t = t
  | [], _, _ => rfl
  | q :: A, t, h => by
    unfold puts
    rw [ask_stop h]
    exact puts_stop A h
theorem puts_append : ∀ (A B : List (Int × Int)) (t : Tp), puts (A ++ B) t = puts B (puts A t)
  | [], _, _ => rfl
  | q :: A, B, t => puts_append A B _
theorem puts_all : ∀ (A : List (Int × Int)) (t : Tp), t.stop = false → t.pos + A.length ≤ t.hist.length → puts A t = { t with pos := t.pos + A.length }
  | [], t, _, _ => rfl
  | q :: A, t, hs, hl => by
    simp only [List.length_cons] at hl
    unfold puts
    rw [ask_next hs (by omega)]
    rw [puts_all A { t with pos := t.pos + 1 } hs (by simp only; omega)]
    simp only [List.length_cons]
    rw [show t.pos + 1 + A.length = t.pos + (A.length + 1) by omega]
theorem puts_some : ∀ (A : List (Int × Int)) (t : Tp) (i : Nat) (q : Int × Int), t.stop = false → t.pos + i = t.hist.length → A[i]? = some q → puts A t = { t with pos := t.hist.length, nk := 2, na := q.1, nw := 0, np := q.2, stop := true }
  | [], t, i, q, _, _, h => by simp at h
  | p :: A, t, 0, q, hs, hl, h => by
    have : p = q := by simpa using h
    subst this
    unfold puts
    rw [ask_end hs (by omega)]
    rw [puts_stop A rfl]
    simp only [show t.pos = t.hist.length by omega]
  | p :: A, t, i + 1, q, hs, hl, h => by
    unfold puts
    rw [ask_next hs (by omega)]
    rw [puts_some A { t with pos := t.pos + 1 } i q hs (by simp only; omega) (by simpa using h)]
/-- The tails' entries, from the last one on. -/
def tailL (P T page : Nat) : Nat → List (Int × Int)
  | 0 => []
  | j + 1 => (((adr P T 0 (page + (j + 1)) : Nat) : Int), 0) :: tailL P T page j
theorem tails_puts {P T page : Nat} : ∀ (j : Nat) (t : Tp), dTails P T page j t = puts (tailL P T page j) t
  | 0, _ => rfl
  | j + 1, t => tails_puts j _
theorem tailL_len {P T page : Nat} : ∀ j : Nat, (tailL P T page j).length = j
  | 0 => rfl
  | j + 1 => by unfold tailL; rw [List.length_cons, tailL_len j]
theorem tailL_get {P T page : Nat} : ∀ (j i : Nat), i < j → (tailL P T page j)[i]? = some (((adr P T 0 (page + (j - i)) : Nat) : Int), 0)
  | 0, i, h => by omega
  | j + 1, 0, _ => rfl
  | j + 1, i + 1, h => by
    unfold tailL
    rw [List.getElem?_cons_succ, tailL_get j i (by omega), show j + 1 - (i + 1) = j - i by omega]
/-- What stays, as the document reckons it. -/
def dLeft (k m al : Int) : Int := if k = 2 then Go.bits .and .u64 al m % 2 else Go.bits .and .u64 al m
/-- The stores of the second half. -/
def dPuts (P T page : Nat) (cyc k c m al : Int) : List (Int × Int) :=
  [(((adr P T 1 page : Nat) : Int), dLeft k m al), (((adr P T 2 page : Nat) : Int), 0)] ++ (if dLeft k m al = 0 ∧ k = 2 then tailL P T page (c - 1).toNat else []) ++ [(((adr P T 0 page : Nat) : Int), if dLeft k m al = 0 then 0 else wordOf k c 0 0 cyc)]
theorem r_4 {P T page : Nat} {cyc k e v u m al a b c d : Int} {zs : List Int} : dRest P T page cyc k e ⟨v :: u :: m :: al :: zs, 2, a, b, c, d, false⟩ =
    (let t := puts (dPuts P T page cyc k e m al) ⟨v :: u :: m :: al :: zs, 4, a, b, c, d, false⟩
     if t.stop = true then (Rs.no, t) else (⟨true, true, dLeft k m al == 0, false, ((Pop.cnt 64 al.toNat : Nat) : Int) - ((Pop.cnt 64 (dLeft k m al).toNat : Nat) : Int)⟩, t)) := by
  unfold dRest
  rw [ask_next (t := ⟨v :: u :: m :: al :: zs, 2, a, b, c, d, false⟩) rfl (by simp)]
  simp only []
  rw [ask_next (t := ⟨v :: u :: m :: al :: zs, 2 + 1, a, b, c, d, false⟩) rfl (by simp)]
  simp only [List.getD_cons_succ, List.getD_cons_zero]
  have el : (if k = 2 then Go.bits .and .u64 al m % 2 else Go.bits .and .u64 al m) = dLeft k m al := rfl
  rw [el]
  unfold dPuts
  rw [puts_append, puts_append]
  by_cases hc : dLeft k m al = 0 ∧ k = 2
  · rw [if_pos hc, if_pos hc, tails_puts]
    rfl
  · rw [if_neg hc, if_neg hc]
    rfl
theorem dPuts_len {P T page : Nat} {cyc k c m al : Int} : (dPuts P T page cyc k c m al).length = 3 + if dLeft k m al = 0 ∧ k = 2 then (c - 1).toNat else 0 := by
  unfold dPuts
  split
  · simp only [List.length_append, tailL_len, List.length_cons, List.length_nil]; omega
  · simp
end Go.Proofs.Ytelfiegocdjnoaa.Ar
