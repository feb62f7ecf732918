/- Short words for walks: which operations are done, as a number; what a destination's filling comes to. No condition. -/
import Derived.Test.YtelfiegocdjnoaaSep
import Derived.Test.YtelfiegocdjnoaaMrW0
namespace Go.Proofs.Ytelfiegocdjnoaa.Sep
open Go Go.RowKit Go.Proofs.YtelfiegocdjnoaaW.PrintWords Go.Proofs.YtelfiegocdjnoaaW.PrintLast Go.Proofs.YtelfiegocdjnoaaW.PrintMore
/-- The operations of n that are done, as the bits of m. -/
def flg (n m : Nat) : Array Bool := ((List.range n).map fun i => m.testBit i).toArray
theorem nrm : (∀ (a : Act) (n : Nat) (v : Value), a.put (some n) v = { a with tmps := a.tmps.setIfInBounds n v }) ∧ (∀ (a : Act) (v : Value), a.put none v = a) ∧
    (∀ (l : List Value) (i : Nat) (v : Value), l.toArray.setIfInBounds i v = (l.set i v).toArray) ∧ (∀ (x : Value) (l : List Value) (v : Value), (x :: l).set 0 v = v :: l) ∧ (∀ (x : Value) (l : List Value) (i : Nat) (v : Value), (x :: l).set (i + 1) v = x :: l.set i v) ∧
    (∀ n : Int, IntKind.i64.wrap n = wrap64 n) :=
  ⟨fun _ _ _ => rfl, fun _ _ => rfl, fun l i v => List.setIfInBounds_toArray .., fun _ _ _ => rfl, fun _ _ _ _ => rfl, fun n => by simp only [i64_w]⟩
end Go.Proofs.Ytelfiegocdjnoaa.Sep
