/- The arena's log and the document's, held against each other; the ends of a function that holds a range over a function. Conditions: logs that are not very long. -/
import Derived.Test.YtelfiegocdjnoaaDoorLg0
import Derived.Test.YtelfiegocdjnoaaDoorWk
import Derived.Test.YtelfiegocdjnoaaDoorMgJ
import Derived.Test.YtelfiegocdjnoaaDoorSm
import Derived.Deep.RegionHeld3
import Derived.Test.YtelfiegocdjnoaaDoorMrF0
namespace Go.Proofs.YtelfiegocdjnoaaDoor.Ar
open Go Go.RowKit Go.Shelf Go.Proofs.YtelfiegocdjnoaaDoor.Sep Go.Proofs.YtelfiegocdjnoaaDoorW.PrintWords Go.Proofs.YtelfiegocdjnoaaDoorW.PrintLast Go.Proofs.YtelfiegocdjnoaaDoorW.PrintMore Go.Proofs.YtelfiegocdjnoaaDoor.Q
set_option linter.unusedVariables false
set_option linter.unusedSimpArgs false
set_option maxHeartbeats 8000000
set_option maxRecDepth 100000
attribute [local go_sem] Oper.semAt_some
theorem cell_alc {W : World} {a : Addr} {v : Value} (o : Obj) (h : W.cell? a = some v) : (W.alloc o).cell? a = some v := Go.cell_kept h (World.grownBy_alloc W o none) (fun r e => by cases e)
/-- A region's end, whatever its panics mean. -/
def Only (K : Act → World → Prop) : Exit → Act → World → Prop
  | .normal, a, w => K a w
  | _, _, _ => False
theorem only_normal {K : Act → World → Prop} {a : Act} {w : World} (h : K a w) : Only K .normal a w := h
theorem only_ {P : Program} {c : Code} {Q : Exit → Act → World → Prop} {a : Act} {w : World} (h : c.wp P (Only (fun a w => Q .normal a w)) a w) : c.wp P Q a w :=
  Go.wp_mono h fun e a w hh => by cases e <;> first | exact hh | exact hh.elim
/-- The block of a loop's deferred calls, as a part. -/
def dfB (D : Nat) : HP :=
  ⟨fun w S => (∀ k, S k ↔ k = D) ∧ w.heap[D]? = some (.deferred (some [])),
   fun hk ⟨hS, h⟩ => ⟨hS, (hk D ((hS D).2 rfl)).trans h⟩,
   fun ⟨hS, h⟩ k hk => by rw [(hS k).1 hk]; exact (Array.getElem?_eq_some_iff.1 h).1⟩
theorem St.df {w0 w : World} {D : Nat} {L : List HP} (h : St w0 w (dfB D :: L)) : w.heap[D]? = some (.deferred (some [])) := by
  obtain ⟨S, h1, S1, S2, hS, hd, h2, h3⟩ := h.own
  exact h2.2
end Go.Proofs.YtelfiegocdjnoaaDoor.Ar
