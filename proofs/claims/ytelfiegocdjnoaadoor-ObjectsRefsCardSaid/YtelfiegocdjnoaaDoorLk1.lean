/- A table of classes; can an object with this header be. Conditions: the table's parts are owned. -/
import Derived.Test.YtelfiegocdjnoaaDoorLk0
import Derived.Test.YtelfiegocdjnoaaDoorOb2
import Derived.Test.YtelfiegocdjnoaaDoorMrF0
namespace Go.Proofs.YtelfiegocdjnoaaDoor.Ar
open Go Go.RowKit Go.Proofs.YtelfiegocdjnoaaDoor.Sep Go.Proofs.YtelfiegocdjnoaaDoorW.PrintWords Go.Proofs.YtelfiegocdjnoaaDoorW.PrintLast Go.Proofs.YtelfiegocdjnoaaDoorW.PrintMore Go.Proofs.YtelfiegocdjnoaaDoor.Q
set_option linter.unusedVariables false
set_option linter.unusedSimpArgs false
set_option maxHeartbeats 8000000
set_option maxRecDepth 100000
/-- A class in a table: its name; where its fields lie, how many, the row's capacity. -/
structure Cl where (nm : ByteArray) (ad : Option Addr) (n cap : Nat)
def Cl.vs (e : Cl) : List Value := [.string e.nm, .slice e.ad e.n e.cap]
abbrev tbX (E : List Cl) : List Value := E.flatMap Cl.vs
abbrev tbR (vL : Value) (E : List Cl) : HP := row 161 2 vL E.length (tbX E)
abbrev tbB (t : Nat) (vL vM : Value) : HP := blk t #[vL, vM] 157
def zCl : Cl := ⟨⟨#[]⟩, none, 0, 0⟩
theorem tbX_get (E : List Cl) : ∀ (j i : Nat), j < E.length → i < 2 → (tbX E)[j * 2 + i]? = (Cl.vs (E.getD j zCl))[i]? := by
  induction E with
  | nil => intro j i hj; simp at hj
  | cons x L ih =>
    intro j i hj hi
    have e : tbX (x :: L) = Cl.vs x ++ tbX L := by simp [tbX]
    rw [e]
    cases j with
    | zero => rw [Nat.zero_mul, Nat.zero_add, List.getElem?_append_left (by simp [Cl.vs]; omega)]; rfl
    | succ j =>
      rw [List.getElem?_append_right (by simp [Cl.vs]; omega)]
      have e2 : (j + 1) * 2 + i - (Cl.vs x).length = j * 2 + i := by simp [Cl.vs]; omega
      rw [e2, ih j i (by simpa using hj) hi]
      simp
/-- Can an object with this header be, where the classes have so many fields? -/
def fitT (ns : List Nat) (c k n : Int) : Bool := isH c k n && (decide (k ≠ 1) || (decide (c < (ns.length : Int)) && decide (n = ((ns.getD c.toNat 0 : Nat) : Int))))
variable {w0 w : World} {F : List HP} {t : Nat} {vL vM : Value} {E : List Cl}
def ft3.T3 : Bool × List (List Nat × List Nat) := (true, [([], []), ([0], [0]), ([1], [1]), ([2], [2]), ([3], [3]), ([3], [3]), ([5, 3], [3, 5]), ([4, 6, 3, 3], [3, 4, 6]), ([7, 7, 3], [3, 7]), ([8], [8]), ([9, 8], [8, 9]), ([8], [8]), ([11, 8], [8, 11]), ([12, 8], [8, 12]), ([13, 8], [8, 13]), ([8], [8]), ([15, 8], [8, 15]), ([14, 16, 8], [8, 14, 16]), ([17, 8], [8, 17]), ([18, 8], [8, 18]), ([19, 8], [8, 19]), ([10, 20, 8], [8, 10, 20]), ([8, 21, 3], [3, 8, 21]), ([3, 22], [3, 22]), ([23, 8, 0, 1, 2, 3, 4, 5, 6, 7, 8, 9, 10, 11, 12, 13, 14, 15, 16, 17, 18, 19, 20, 21, 22, 23], [23])])
def ft3.B3 : List Nat := [0, 1, 3, 7, 15, 15, 47, 127, 255, 511, 1023, 511, 2559, 6655, 14847, 511, 33279, 129535, 260607, 522751, 1047039, 2097151, 4194303, 8388607, 16777215]
theorem ft3.tab3 : rtab .any (opsOf Tryd.f83 3) = ft3.T3 := by kernel_rfl
theorem ft3.bits3 : waitsOk ft3.T3.2 ft3.B3 = true := by kernel_rfl
end Go.Proofs.YtelfiegocdjnoaaDoor.Ar
