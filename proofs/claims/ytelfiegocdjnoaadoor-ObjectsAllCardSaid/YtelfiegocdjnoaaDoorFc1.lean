/- Table.Pointers: the words of an object that are references, gone through: the iterator. Conditions: the table's cells lie below what the loop's body changes. -/
import Derived.Test.YtelfiegocdjnoaaDoorFc0
import Derived.Test.YtelfiegocdjnoaaDoorLg0
namespace Go.Proofs.YtelfiegocdjnoaaDoor.Ar
open Go Go.RowKit Go.Shelf Go.Proofs.YtelfiegocdjnoaaDoor.Sep Go.Proofs.YtelfiegocdjnoaaDoorW.PrintWords Go.Proofs.YtelfiegocdjnoaaDoorW.PrintLast Go.Proofs.YtelfiegocdjnoaaDoorW.PrintMore Go.Proofs.YtelfiegocdjnoaaDoor.Q
set_option linter.unusedVariables false
set_option linter.unusedSimpArgs false
set_option maxHeartbeats 8000000
set_option maxRecDepth 100000
attribute [local go_sem] Oper.semAt_some
/-- What a round keeps: what lies below, and the two boxes. -/
def KpP (n0 bt bh : Nat) (X Y : World) : Prop := Below n0 X Y ∧ Y.heap[bt]? = X.heap[bt]? ∧ Y.heap[bh]? = X.heap[bh]?
theorem KpP.trans {n0 bt bh : Nat} {X Y Z : World} (h : KpP n0 bt bh X Y) (g : KpP n0 bt bh Y Z) : KpP n0 bt bh X Z := ⟨h.1.trans g.1, g.2.1.trans h.2.1, g.2.2.trans h.2.2⟩
/-- The places among the first ones that are chosen. -/
def ptk (m : Nat) (p : Nat → Bool) : Nat → List {x : Nat // x < m}
  | 0 => []
  | j + 1 => if h : j < m then (if p j = true then ptk m p j ++ [⟨j, h⟩] else ptk m p j) else ptk m p j
theorem ptk_yes {m : Nat} {p : Nat → Bool} {j : Nat} (h : j < m) (hp : p j = true) : ptk m p (j + 1) = ptk m p j ++ [⟨j, h⟩] := by rw [ptk, dif_pos h, if_pos hp]
theorem ptk_no {m : Nat} {p : Nat → Bool} {j : Nat} (hp : p j = false) : ptk m p (j + 1) = ptk m p j := by
  rw [ptk]
  split
  · rw [if_neg (by simp [hp])]
  · rfl
theorem ptk_len (m : Nat) (p : Nat → Bool) : ∀ j, (ptk m p j).length ≤ j
  | 0 => by simp [ptk]
  | j + 1 => by
    have := ptk_len m p j
    rw [ptk]
    split
    · split
      · simp; omega
      · omega
    · omega
theorem grown_of {X Y : World} (h : Below X.heap.size X Y) : X.grownBy Y none := ⟨h.os, h.tape, h.output, h.size, fun i hi _ => h.block i hi⟩
theorem w64s {j : Nat} (h : j < 400) : wrap64 ((j : Int) + 1) = ((j + 1 : Nat) : Int) := by unfold wrap64; omega
theorem idx_ {j m : Nat} (h : j < m) (hm : m ≤ 400) : Value.int .i64 (wrap64 ((j : Int) + 1)) = Value.int .i64 ((j + 1 : Nat) : Int) := by congr 1; unfold wrap64; omega
variable {t : Nat} {A B : Option Addr} {cap cap2 : Nat} {ns ms : List Nat}
end Go.Proofs.YtelfiegocdjnoaaDoor.Ar
