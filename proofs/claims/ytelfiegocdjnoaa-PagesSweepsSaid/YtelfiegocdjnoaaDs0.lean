/- The document's tape and its sweep over it, plain; that it asks what the machine asks. No memory. -/
import Derived.Test.YtelfiegocdjnoaaMa0
namespace Go.Proofs.Ytelfiegocdjnoaa.Ar
open Go Go.RowKit Go.Proofs.Ytelfiegocdjnoaa.Sep Go.Proofs.Ytelfiegocdjnoaa.Pg Go.Proofs.YtelfiegocdjnoaaW.PrintWords Go.Proofs.YtelfiegocdjnoaaW.PrintLast Go.Proofs.YtelfiegocdjnoaaW.PrintMore Go.Proofs.Ytelfiegocdjnoaa.Q
set_option linter.unusedVariables false
set_option linter.unusedSimpArgs false
set_option maxRecDepth 100000
/-- A tape: what was answered, how many of it were read, what is asked next, is something asked that wasn't answered. -/
structure Tp where
  (hist : List Int) (pos : Nat) (nk na nw np : Int) (stop : Bool)
def Tp.ask (t : Tp) (k a wt p : Int) : Int × Tp :=
  if t.stop = true then (0, t) else if t.pos < t.hist.length then (t.hist.getD t.pos 0, { t with pos := t.pos + 1 }) else (0, { t with nk := k, na := a, nw := wt, np := p, stop := true })
def Tp.again (t : Tp) : Tp := { t with pos := 0, stop := false }
/-- What a sweep comes to. -/
structure Rs where (over swept empty blocked : Bool) (freed : Int)
def Rs.no : Rs := ⟨false, false, false, false, 0⟩
/-- Pages behind the first one are freed, from the last one on. -/
def dTails (P T page : Nat) : Nat → Tp → Tp
  | 0, t => t
  | j + 1, t => dTails P T page j (t.ask 2 (adr P T 0 (page + (j + 1)) : Nat) 0 0).2
/-- The second half: the page was taken. -/
def dRest (P T page : Nat) (cyc k c : Int) (t : Tp) : Rs × Tp :=
  let r3 := t.ask 1 (adr P T 2 page : Nat) 0 0
  let r4 := r3.2.ask 1 (adr P T 1 page : Nat) 0 0
  let left : Int := if k = 2 then Go.bits .and .u64 r4.1 r3.1 % 2 else Go.bits .and .u64 r4.1 r3.1
  let t5 := (r4.2.ask 2 (adr P T 1 page : Nat) 0 left).2
  let t6 := (t5.ask 2 (adr P T 2 page : Nat) 0 0).2
  let t7 := if left = 0 ∧ k = 2 then dTails P T page (c - 1).toNat t6 else t6
  let t8 := (t7.ask 2 (adr P T 0 page : Nat) 0 (if left = 0 then 0 else wordOf k c 0 0 cyc)).2
  if t8.stop = true then (Rs.no, t8) else (⟨true, true, left == 0, false, ((Pop.cnt 64 r4.1.toNat : Nat) : Int) - ((Pop.cnt 64 left.toNat : Nat) : Int)⟩, t8)
/-- A page is swept. -/
def dSweep (P T page : Nat) (who cyc : Int) (t : Tp) : Rs × Tp :=
  let r1 := t.ask 1 (adr P T 0 page : Nat) 0 0
  if r1.2.stop = true then (Rs.no, r1.2) else
  let y := (sw0 P T who cyc page).look r1.1
  if y.at_ = 8 then (⟨true, false, false, y.block, 0⟩, r1.2) else
  let r2 := r1.2.ask 4 (adr P T 0 page : Nat) r1.1 (wordOf y.k y.c 2 who y.y)
  if r2.2.stop = true then (Rs.no, r2.2) else
  if r2.1 ≠ r1.1 then (⟨true, false, false, true, 0⟩, r2.2) else
  dRest P T page cyc y.k y.c r2.2
end Go.Proofs.Ytelfiegocdjnoaa.Ar
