/- Short words for walks: which operations are done, as a number; what a destination's filling comes to. No condition. -/
import Derived.Test.YtelfiegocdjnoaaDoorSep
import Derived.Test.YtelfiegocdjnoaaDoorMrW0
namespace Go.Proofs.YtelfiegocdjnoaaDoor.Sep
open Go Go.RowKit Go.Proofs.YtelfiegocdjnoaaDoorW.PrintWords Go.Proofs.YtelfiegocdjnoaaDoorW.PrintLast Go.Proofs.YtelfiegocdjnoaaDoorW.PrintMore
/-- The operations of n that are done, as the bits of m. -/
def flg (n m : Nat) : Array Bool := ((List.range n).map fun i => m.testBit i).toArray
theorem nrm : (∀ (a : Act) (n : Nat) (v : Value), a.put (some n) v = { a with tmps := a.tmps.setIfInBounds n v }) ∧ (∀ (a : Act) (v : Value), a.put none v = a) ∧
    (∀ (l : List Value) (i : Nat) (v : Value), l.toArray.setIfInBounds i v = (l.set i v).toArray) ∧ (∀ (x : Value) (l : List Value) (v : Value), (x :: l).set 0 v = v :: l) ∧ (∀ (x : Value) (l : List Value) (i : Nat) (v : Value), (x :: l).set (i + 1) v = x :: l.set i v) ∧
    (∀ n : Int, IntKind.i64.wrap n = wrap64 n) :=
  ⟨fun _ _ _ => rfl, fun _ _ => rfl, fun l i v => List.setIfInBounds_toArray .., fun _ _ _ => rfl, fun _ _ _ _ => rfl, fun n => by simp only [i64_w]⟩
section
variable {P : Program} {ops : Array Oper} {Q : Exit → Act → World → Prop} {md : Region.Mode} {S : World → Prop} {ds : List Nat} {T : Bool × List (List Nat × List Nat)} {B : List Nat}
/-- 'pure_' and 'take_' in fewer words. -/
theorem pu_ {n m0 : Nat} {oi : Oper} {v : Value} {a' : Act} {fuel : Nat} {a : Act} {w : World} (i : Nat) (N : Option Tmp) (m : Nat) (hi : ops[i]? = some oi) (hN : oi.dst = N) (hT : Aside0 (rtab md ops = T)) (hc : anyT T (flg n m0).toList (flg n m).toList i = true)
    (hy : Yields P ops oi v a) (ha : a.put N v = a') (h : wpAnyLast P md ops Q S ds fuel (flg n m) a' w) (hQ : ∀ c a w, Q (.panic c) (a.put oi.dst v) w → Q (.panic c) a w := by exact fun _ _ _ h => h) : wpAnyLast P md ops Q S ds (fuel + 1) (flg n m0) a w :=
  pure_ (flg n m) hi hN (any_of hT.out hc) hQ hy ha h
theorem tk_ {n m0 : Nat} {oi : Oper} {v : Value} {a' : Act} {fuel : Nat} {a : Act} {w : World} (i : Nat) (N : Option Tmp) (m : Nat) (hi : ops[i]? = some oi) (hN : oi.dst = N) (hT : Aside0 (rtab md ops = T)) (hB : Aside0 (waitsOk T.2 B = true)) (hc : takeW T B ds (flg n m0).toList (flg n m).toList i = true)
    (hy : YieldsIf P ops S oi v a) (hS : S w) (ha : a.put N v = a') (h : wpAnyLast P md ops Q S ds fuel (flg n m) a' w) (hQ : ∀ c a w, Q (.panic c) (a.put oi.dst v) w → Q (.panic c) a w := by exact fun _ _ _ h => h) : wpAnyLast P md ops Q S ds (fuel + 1) (flg n m0) a w :=
  take_ (flg n m) hi hN (take_ofW hT.out hB.out hc) hQ hy hS ha h
theorem on_ {n m0 : Nat} {oi : Oper} {fuel : Nat} {a : Act} {w : World} (i : Nat) (N : Option Tmp) (m : Nat) (hi : ops[i]? = some oi) (hN : oi.dst = N) (hT : Aside0 (rtab md ops = T)) (hc : (readyT T.2 (flg n m0).toList == [i] && (flg n m0).toList.set i true == (flg n m).toList) = true) (hd : i ∉ ds)
    (h : ∀ K : Act → World → Prop, Shut (∀ a' w', S w' → (S w' → wpAnyLast P md ops Q S ds fuel (flg n m) a' w') → K a' w') → if Region.wanted oi (yielded ops a.tmps) = true then Oper.wp P oi a w K Q else K (a.put N undef) w) :
    wpAnyLast P md ops Q S ds (fuel + 1) (flg n m0) a w := one_ (flg n m) hi hN (one_of hT.out hc) hd h
end
end Go.Proofs.YtelfiegocdjnoaaDoor.Sep
