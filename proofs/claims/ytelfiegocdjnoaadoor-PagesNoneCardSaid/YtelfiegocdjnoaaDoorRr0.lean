/- (As Rg0, for texts that don't import Lg2.) A region that draws its order, in a round of a range over a function: it is walked as anywhere. Condition: no defer statement in it. -/
import Derived.Test.YtelfiegocdjnoaaDoorLg0
import Derived.Test.YtelfiegocdjnoaaDoorWk
import Derived.Deep.RegionHeld3
namespace Go.Proofs.YtelfiegocdjnoaaDoor.Ar
open Go Go.RowKit Go.Shelf Go.Proofs.YtelfiegocdjnoaaDoor.Sep Go.Proofs.YtelfiegocdjnoaaDoorW.PrintWords Go.Proofs.YtelfiegocdjnoaaDoorW.PrintLast Go.Proofs.YtelfiegocdjnoaaDoorW.PrintMore
set_option linter.unusedVariables false
/-- A region's end, whatever its panics mean. -/
def Only (K : Act → World → Prop) : Exit → Act → World → Prop
  | .normal, a, w => K a w
  | _, _, _ => False
theorem only_normal {K : Act → World → Prop} {a : Act} {w : World} (h : K a w) : Only K .normal a w := h
section
variable {n l : Nat} {P : Program} {ops : Array Oper} {md : Region.Mode} {Q : Exit → Act → World → Prop}
theorem rowsR_ {row : String} {args : Array Value} {w : World} {R : Value → World → Prop} (h : Rows P row args w R) : RowsIn (Fence.wide.inRound l) n P row args w R := by
  intro c cs _
  obtain ⟨v, w', r, s⟩ := h c cs
  exact ⟨v, w', r, stepsIn_wide.2 s⟩
theorem opR_ {o : Oper} (hd : ∀ c, o.op ≠ .defer c) {K : Act → World → Prop} {a : Act} {w : World} (h : o.wp P a w K Q) : o.wpIn (Fence.wide.inRound l) n P a w K Q := by
  refine ⟨fun _ _ => trivial, ?_⟩
  rw [Oper.semAt_eq _ _ _ hd]
  unfold Oper.wp at h
  generalize (execOp a.eval o).run P w = r at h ⊢
  cases r with
  | ok x w' =>
    cases x <;> simp only [Oper.upon, Oper.uponIn] at h ⊢ <;>
      first
        | exact h
        | exact ⟨(fun h => by cases h), CallsIn.inRound l (callsIn_wide.2 h)⟩
        | exact ⟨(fun h => by cases h), rowsR_ h⟩
  | halt x w' => cases x <;> simp only [Oper.upon, Oper.uponIn] at h ⊢ <;> exact h
theorem anyR_ (hL : ¬ LetsOut Q) (hops : ∀ (i : Nat) (o : Oper), ops[i]? = some o → ∀ c, o.op ≠ .defer c) : ∀ (fuel : Nat) (listed : Array Bool) (a : Act) (w : World), wpAny P md ops Q fuel listed a w → wpAnyIn (Fence.wide.inRound l) n P md ops Q fuel listed a w
  | 0, _, _, _, h => h
  | fuel + 1, listed, a, w, h => by
    refine ⟨h.1, fun i hi => ?_⟩
    have h2 := h.2 i hi
    unfold wpOp at h2
    unfold wpOpIn
    cases ho : ops[i]? with
    | none => rw [ho] at h2; exact anyR_ hL hops fuel _ a w h2
    | some o =>
      rw [ho] at h2
      simp only at h2 ⊢
      split
      · rename_i hw
        rw [if_pos hw] at h2
        rcases h2 with h2 | h2
        · exact Oper.wpIn_mono (fun a' w' h' => anyR_ hL hops fuel _ a' w' h') (opR_ (hops i o ho) h2)
        · exact absurd h2.2 hL
      · rename_i hw
        rw [if_neg hw] at h2
        exact ⟨fun _ _ => trivial, anyR_ hL hops fuel _ _ w h2⟩
def noDefer (ops : List Oper) : Bool := ops.all fun o => match o.op with | .defer _ => false | _ => true
theorem noDefer_ {ops : Array Oper} (h : noDefer ops.toList = true) : ∀ (i : Nat) (o : Oper), ops[i]? = some o → ∀ c, o.op ≠ .defer c := by
  intro i o hi c hc
  have := List.all_eq_true.1 h o (by rw [← Array.getElem?_toList] at hi; exact List.mem_of_getElem? hi)
  rw [hc] at this
  cases this
/-- Such a region's walk begins. -/
theorem roundR_ {id m : Nat} {a : Act} {w : World} (K : Act → World → Prop) (S : World → Prop) (ds : List Nat) (f : Array Bool) (hm : P.follows .mixedOrders = true) (hops : noDefer ops.toList = true) (hn : ops.size = m) (hf : Array.replicate m false = f)
    (hS : S w.drew) (h : S w.drew → wpAnyLast P .any ops (Only K) S ds m f a w.drew) (hK : ∀ a w, K a w → Q .normal a w) : (Code.region id ops true).wpIn (Fence.wide.inRound l) n P Q a w := by
  subst hn hf
  refine wpIn_mono (wpIn_region_any (Q := Only K) hm (anyR_ ?_ (noDefer_ hops) ops.size _ a _ (wpAny_of_last _ _ _ _ (h hS)))) fun e a w hh => ?_
  · rintro ⟨a, w, h⟩
    exact h
  · cases e <;> first | exact hK _ _ hh | exact hh.elim
end
end Go.Proofs.YtelfiegocdjnoaaDoor.Ar
