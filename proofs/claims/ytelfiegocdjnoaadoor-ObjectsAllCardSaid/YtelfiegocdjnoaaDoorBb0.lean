/- Parts for the walk of ObjectsBack: an empty slice literal; what is appended to it; a build's round of whoever's port. Conditions: a plan of at most five pages. -/
import Derived.Test.YtelfiegocdjnoaaDoorMgG
import Derived.Test.YtelfiegocdjnoaaDoorLk4
import Derived.Test.YtelfiegocdjnoaaDoorCn0
import Derived.Test.YtelfiegocdjnoaaDoorIm0
import Derived.Test.YtelfiegocdjnoaaDoorOb11
import Derived.Test.YtelfiegocdjnoaaDoorOb5
import Derived.Test.YtelfiegocdjnoaaDoorMrF0
namespace Go.Proofs.YtelfiegocdjnoaaDoor.Ar
open Go Go.RowKit Go.Proofs.YtelfiegocdjnoaaDoor.Sep Go.Proofs.YtelfiegocdjnoaaDoor.Pg Go.Proofs.YtelfiegocdjnoaaDoorW.PrintWords Go.Proofs.YtelfiegocdjnoaaDoorW.PrintLast Go.Proofs.YtelfiegocdjnoaaDoorW.PrintMore Go.Proofs.YtelfiegocdjnoaaDoor.Q
set_option linter.unusedVariables false
set_option linter.unusedSimpArgs false
set_option maxHeartbeats 8000000
set_option maxRecDepth 100000
theorem _root_.Go.Proofs.YtelfiegocdjnoaaDoor.Sep.St.drop {w0 w : World} {L : List HP} (h : St w0 w L) (n : Nat) : St w0 w (L.take n) := by
  have h2 : St w0 w (L.drop n ++ L.take n) := h.perm (by have e := List.perm_append_comm (l₁ := L.take n) (l₂ := L.drop n); rw [List.take_append_drop] at e; exact e)
  generalize L.take n = B at h2 ⊢
  generalize L.drop n = A at h2
  induction A with
  | nil => exact h2
  | cons x a ih => exact ih h2.rest
theorem add_add (ad : Addr) (n : Nat) : ((ad.add n).block = ad.block) ∧ (ad.add n).off = ad.off + n := by unfold Addr.add; split <;> simp_all
section
variable {w0 w : World} {F : List HP} {p a gC b nN : Nat} {X : List Int} {l : List Acc} {lv : Value} {who : Int}
theorem peekn_ {cn fl v : Int} {i : Nat} (hX : X.length = nN) (hi : i < nN) (hv : X.getD i 0 = v) (h : St w0 w (arB a gC nN lv true cn fl :: ceB gC X :: F)) :
    Calls Tryd.prog 19 #[.pointer (some ⟨a, 0, none⟩), .int .i64 i] w fun e w' => e = .returned (.tuple #[.int .u64 v, .int .i64 0]) ∧ w' = w := by
  subst hX
  exact peekv_ i v hi hv h
end
end Go.Proofs.YtelfiegocdjnoaaDoor.Ar
