/- The statement ObjectsRefs: of every object its header, its references, and what is taken for it, are what the chapter says. No condition beyond the row's own: the package array of sizes reads as the program's text lays it; the card ties it. -/
import Derived.Test.YtelfiegocdjnoaaDoorRows
import Derived.Test.YtelfiegocdjnoaaDoorTie
import Derived.Test.YtelfiegocdjnoaaDoorCards
import Derived.Test.YtelfiegocdjnoaaDoorLawRefs0
import Derived.Test.YtelfiegocdjnoaaDoorMgD
import Derived.Test.YtelfiegocdjnoaaDoorObT
import Derived.WalkKit
import Derived.ProofKit
import Derived.OpenShut
import Derived.ShutString
import Derived.ChangeOld
import Derived.Below
import Derived.SizedLaws
import Derived.LaidMore
import Derived.SevenTiedAt
import Derived.Stop.Joined
namespace Go.Proofs.YtelfiegocdjnoaaDoor.objectsRefs
open Go Go.ChangeShapes Go.WideShapes Go.ChangeAt Go.RowKit Go.Proofs.YtelfiegocdjnoaaDoor.Ar Go.Proofs.YtelfiegocdjnoaaDoor.Open Go.Proofs.YtelfiegocdjnoaaDoorW.PrintWords
open Go.ChangeMaps (open_string shut_string)
set_option linter.unusedVariables false
theorem own : ownKnob Tryd.prog.godebug = none := by kernel_rfl
theorem laidOut : laidOutB Tryd.prog = true := by kernel_rfl
theorem door_met (os : Os) (args : Array Value) : laidMetH Tryd.prog tabL ((World.doorLaid Tryd.prog 400 os).forCall (fun _ _ => 0) ⟨#[], args, []⟩).memory :=
  laidMetH_of_parts3 (fuel := 8) (laidMet_of_run' 8 (by kernel_rfl) (by kernel_rfl)) (by kernel_rfl) (by kernel_rfl)
theorem walk (cs : List Q.S161) (x : SCe) (A0 : Option Addr) (cap : Nat) (Al : Option Addr) (cc : Nat) (W : World) (hCs : Kd.C Q.k161 W A0 cs.length cs) (hcs : cs.length ≤ cap) (hA : Kd.C (Kd.int .i64) W Al x.l.length x.l) (hc : x.l.length ≤ cc) (hT : Tab W) : Calls Tryd.prog 10 #[.slice A0 cs.length cap, .agg #[.int .i64 x.a, .int .i64 x.c, .int .i64 x.k, .slice Al x.l.length cc]] W fun e w' => e = .returned (.bool true) ∧ Below W.heap.size W w' :=
  law_refs hCs hcs hA hc hT
set_option maxRecDepth 100000 in
theorem lifted (os : Os) (started : os.Started) (H : Type) (enc : TypeId × Value → H) :
    ReturnsInHanded {} Tryd.checked os 10 .any (fun w args => (Rows.objectsRefsSpec.pre enc Tryd.prog Tryd.f10 Rows.objectsRefsRow.domain false w args ∧ laidMetH Tryd.prog tabL w) ∧ sizedMet enc Tryd.prog Tryd.f10 (OpenSpec.ofChange Rows.objectsRefsSpec) false w args)
      (Rows.objectsRefsSpec.post enc Tryd.prog Tryd.f10 false true false false) := by
  refine returnsInHanded_of_change_and (C := Tryd.checked) (X := fun w _ => laidMetH Tryd.prog tabL w) (fun _ _ _ hh h => h.of_heap hh) own started (by kernel_rfl) Tryd.func10
    (ChangeSpec.witness_shaped (enc := enc) (C := Tryd.checked) (os := os) (X := fun w _ => laidMetH Tryd.prog tabL w) false (World.doorLaid Tryd.prog 400 os) #[.slice none 0 0, .agg #[.int .i64 0, .int .i64 0, .int .i64 0, .slice none 0 0]] 8 rfl (World.shaped_of_RefB (by kernel_rfl) (by kernel_rfl)) (by kernel_rfl) (by kernel_rfl) (by kernel_rfl) (door_met os _)) ?_
  intro W base args ds gs before hval0 hW _ _ hL _
  have hval : ∀ (j : Nat) t v, Tryd.f10.params[j]? = some t → args[j]? = some v → Value.okWide Tryd.prog W .any base t v := hval0
  have hW' := hW
  obtain ⟨p, q, hA0, hV, rfl, hfz, hnd⟩ := hW
  have hA : DataW.TrodAll enc Tryd.prog W 0 (fun _ => true) true Tryd.f10.params.toList args.toList ds p := hA0
  rw [Tryd.params10] at hA hval
  obtain ⟨v0, vs0, d0, ds0, p0, q0, hargs, rfl, rfl, h0, r0⟩ := trodAll_cons hA
  obtain ⟨v1, vs1, d1, ds1, p1, q1, rfl, rfl, rfl, h1, r1⟩ := trodAll_cons r0
  obtain ⟨rfl, rfl, rfl⟩ := trodAll_nil r1
  obtain rfl : args = #[v0, v1] := by cases args; simp_all
  obtain ⟨rfl, rfl⟩ := trodVars_none hV
  have k0 := h0
  have lt0 : ∀ x ∈ p0, x.block < W.heap.size := by obtain ⟨m, hm⟩ := k0; exact DataW.trod_lt m _ _ _ hm
  have k1 := h1
  have lt1 : ∀ x ∈ p1, x.block < W.heap.size := by obtain ⟨m, hm⟩ := k1; exact DataW.trod_lt m _ _ _ hm
  obtain ⟨A0, len0, cap0, rfl⟩ := okWide_slice Tryd.underlying51 (hval 0 51 v0 rfl rfl)
  obtain ⟨a0, hK0, hw0⟩ := arg_one oCs h0
  obtain ⟨rfl, hCs, hcs⟩ := kS_open hK0
  obtain ⟨a1, cs1, rfl, hK1, hw1⟩ := arg_agg Tryd.underlying60 oCe (hval 1 60 v1 rfl rfl) h1
  obtain ⟨l1⟩ := cs1
  obtain ⟨A, cc, e1, hA', hc'⟩ := kCe_open hK1
  have e1' : l1 = _ := e1
  subst e1'
  clear hA0 hval0
  refine (walk a0 a1 A0 cap0 A cc W hCs hcs hA' hc' (tab_of_laid hL)).mono fun e W' ⟨he, bel⟩ => ?_
  subst he
  exact ⟨_, rfl, _, _, _, [], _, [], hW', trodAll_mk1 (shut_bool Tryd.underlying4 _), (trodAll_cons_mk (Below.trod laidOut (by kernel_rfl) (of_decide_eq_true (by kernel_rfl)) k0 bel lt0) (trodAll_cons_mk (Below.trod laidOut (by kernel_rfl) (of_decide_eq_true (by kernel_rfl)) k1 bel lt1) trodAll_mk0)), rfl, bel.frame _, fun h => by cases h⟩
theorem over : Rows.ObjectsRefsSaid :=
  OpenClaim.holds_of_wide 10 Tryd.f10 rfl rfl rfl rfl rfl rfl rfl ⟨rfl, rfl, rfl, rfl, rfl⟩ rfl rfl rfl rfl rfl (by kernel_rfl) Tryd.func10 (by kernel_rfl)
    (of_decide_eq_true (by kernel_rfl)) (by unfold Func.isWrapper; first | (rw [if_pos (by decide +kernel)]; kernel_rfl) | (rw [if_neg (by decide +kernel)]; exact ⟨rfl, rfl⟩))
    (fun os started H enc _ => lifted os started H enc)
theorem card : Rows.ObjectsRefsCardSaid :=
  Claim7.holds_tied_plain_at .later [] [.data] true (true, "5fc32177c0aefb22ca0d7e37e0f23ae4a4aad0435b38d9dfb33da2bbdb69ab1b") false
    over (fun _ h => by cases h) (by kernel_rfl) (fun _ h => by cases h) objectsRefs_row_tie rfl ⟨rfl, rfl⟩ (by kernel_rfl) rfl
    (fun f fn hf hfn => by
      obtain rfl : f = 10 := Option.some.inj ((show Tryd.prog.funcNamed "windrow/windrowlaw11.ObjectsRefs" = some 10 by kernel_rfl).symm.trans hf) |>.symm
      obtain rfl : fn = Tryd.f10 := (Option.some.inj (Tryd.func10.symm.trans hfn)).symm
      exact ⟨by kernel_rfl, fun j t ht => by
        rw [Tryd.params10] at ht
        have hm : t ∈ [51, 60] := by simpa using Array.mem_of_getElem? ht
        have hall : ([51, 60].all fun u => !Tryd.prog.wantsStandIn u) = true := by kernel_rfl
        exact (show Tryd.prog.wantsStandIn t = false by simpa using List.all_eq_true.1 hall t hm)⟩)
    (by kernel_rfl)
#print axioms card
end Go.Proofs.YtelfiegocdjnoaaDoor.objectsRefs
namespace Go.Proofs.YtelfiegocdjnoaaDoor
/-- The card, under a short name, for the claim. -/
theorem objectsRefs_holds : Rows.ObjectsRefsCardSaid := objectsRefs.card
end Go.Proofs.YtelfiegocdjnoaaDoor
