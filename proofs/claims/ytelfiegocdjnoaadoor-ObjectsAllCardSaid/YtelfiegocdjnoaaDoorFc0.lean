/- A table of classes as facts on cells: known, Fits, IsRef. They make memory only. Condition: the table's cells lie there. -/
import Derived.Test.YtelfiegocdjnoaaDoorMgN
import Derived.Test.YtelfiegocdjnoaaDoorMrF0
namespace Go.Proofs.YtelfiegocdjnoaaDoor.Ar
open Go Go.RowKit Go.Proofs.YtelfiegocdjnoaaDoor.Sep Go.Proofs.YtelfiegocdjnoaaDoorW.PrintWords Go.Proofs.YtelfiegocdjnoaaDoorW.PrintLast Go.Proofs.YtelfiegocdjnoaaDoorW.PrintMore Go.Proofs.YtelfiegocdjnoaaDoor.Q
set_option linter.unusedVariables false
set_option linter.unusedSimpArgs false
set_option maxHeartbeats 8000000
set_option maxRecDepth 100000
/-- The table's cells: of each class how many fields it has; its word. -/
structure TbC (w : World) (t : Nat) (A : Option Addr) (cap : Nat) (ns : List Nat) (B : Option Addr) (cap2 : Nat) (ms : List Nat) : Prop where
  l : w.cell? ⟨t, 0, none⟩ = some (.slice A ns.length cap)
  m : w.cell? ⟨t, 1, none⟩ = some (.slice B ns.length cap2)
  e : ∀ i, i < ns.length → ∃ ad cA cc, A = some ad ∧ w.cell? ⟨(ad.add (i * 2)).block, (ad.add (i * 2)).off + 1, none⟩ = some (.slice cA (ns.getD i 0) cc)
  f : ∀ i, i < ns.length → ∃ ad, B = some ad ∧ w.cell? (ad.add i) = some (.int .u64 ((ms.getD i 0 : Nat) : Int))
theorem TbC.below {w w' : World} {t : Nat} {A B : Option Addr} {cap cap2 : Nat} {ns ms : List Nat} (h : TbC w t A cap ns B cap2 ms) (hb : Below w.heap.size w w') : TbC w' t A cap ns B cap2 ms :=
  ⟨pw_cell_below hb h.l, pw_cell_below hb h.m, fun i hi => let ⟨ad, cA, cc, e, hc⟩ := h.e i hi; ⟨ad, cA, cc, e, pw_cell_below hb hc⟩, fun i hi => let ⟨ad, e, hc⟩ := h.f i hi; ⟨ad, e, pw_cell_below hb hc⟩⟩
variable {w : World} {t : Nat} {A B : Option Addr} {cap cap2 : Nat} {ns ms : List Nat}
def fc3.T3 : Bool × List (List Nat × List Nat) := (true, [([], []), ([0], [0]), ([1], [1]), ([2], [2]), ([3], [3]), ([3], [3]), ([5, 3], [3, 5]), ([4, 6, 3, 3], [3, 4, 6]), ([7, 7, 3], [3, 7]), ([8], [8]), ([9, 8], [8, 9]), ([8], [8]), ([11, 8], [8, 11]), ([12, 8], [8, 12]), ([13, 8], [8, 13]), ([8], [8]), ([15, 8], [8, 15]), ([14, 16, 8], [8, 14, 16]), ([17, 8], [8, 17]), ([18, 8], [8, 18]), ([19, 8], [8, 19]), ([10, 20, 8], [8, 10, 20]), ([8, 21, 3], [3, 8, 21]), ([3, 22], [3, 22]), ([23, 8, 0, 1, 2, 3, 4, 5, 6, 7, 8, 9, 10, 11, 12, 13, 14, 15, 16, 17, 18, 19, 20, 21, 22, 23], [23])])
def fc3.B3 : List Nat := [0, 1, 3, 7, 15, 15, 47, 127, 255, 511, 1023, 511, 2559, 6655, 14847, 511, 33279, 129535, 260607, 522751, 1047039, 2097151, 4194303, 8388607, 16777215]
theorem fc3.tab3 : rtab .any (opsOf Tryd.f83 3) = fc3.T3 := by kernel_rfl
theorem fc3.bits3 : waitsOk fc3.T3.2 fc3.B3 = true := by kernel_rfl
def fc4.T4 : Bool × List (List Nat × List Nat) := (true, [([], []), ([0], [0]), ([1], [1]), ([2], [2]), ([], []), ([4], [4]), ([3, 5], [3, 5]), ([6], [6]), ([], []), ([7, 8], [7, 8]), ([9], [9]), ([10], [10]), ([11, 0, 1, 2, 3, 4, 5, 6, 7, 8, 9, 10, 11], [11])])
def fc4.B4 : List Nat := [0, 1, 3, 7, 0, 16, 63, 127, 0, 511, 1023, 2047, 4095]
theorem fc4.tab4 : rtab .any (opsOf Tryd.f167 4) = fc4.T4 := by kernel_rfl
theorem fc4.bits4 : waitsOk fc4.T4.2 fc4.B4 = true := by kernel_rfl
end Go.Proofs.YtelfiegocdjnoaaDoor.Ar
