/- The statement ObjectsAll: of all words of an arena the objects that are allocated, or why they can't be told, are what the chapter says. No condition beyond the row's own: the package array of sizes reads as the program's text lays it; the card ties it. -/
import Derived.Test.YtelfiegocdjnoaaDoorRows
import Derived.Test.YtelfiegocdjnoaaDoorTie
import Derived.Test.YtelfiegocdjnoaaDoorCards
import Derived.Test.YtelfiegocdjnoaaDoorLawAll0
import Derived.Test.YtelfiegocdjnoaaDoorMgD
import Derived.Test.YtelfiegocdjnoaaDoorMgH
import Derived.WalkKit
import Derived.ProofKit
import Derived.OpenShut
import Derived.ShutString
import Derived.ChangeOld
import Derived.Below
import Derived.SizedLaws
import Derived.LaidMore
import Derived.SevenTiedAt
import Derived.Stop.Joined
namespace Go.Proofs.YtelfiegocdjnoaaDoor.objectsAll
open Go Go.ChangeShapes Go.WideShapes Go.ChangeAt Go.RowKit Go.Proofs.YtelfiegocdjnoaaDoor.Ar Go.Proofs.YtelfiegocdjnoaaDoor.Open Go.Proofs.YtelfiegocdjnoaaDoorW.PrintWords
open Go.ChangeMaps (open_string shut_string)
set_option linter.unusedVariables false
theorem own : ownKnob Tryd.prog.godebug = none := by kernel_rfl
theorem laidOut : laidOutB Tryd.prog = true := by kernel_rfl
theorem door_met (os : Os) (args : Array Value) : laidMetH Tryd.prog tabL2 ((World.doorLaid Tryd.prog 400 os).forCall (fun _ _ => 0) ⟨#[], args, []⟩).memory :=
  laidMetH_of_parts3 (fuel := 8) (laidMet_of_run' 8 (by kernel_rfl) (by kernel_rfl)) (by kernel_rfl) (by kernel_rfl)
theorem walk (x : SQ) (l : List SWd) (cs : List Q.S161) (A : Option Addr) (cc : Nat) (A2 : Option Addr) (c2 : Nat) (W : World) (hA : Kd.C kWd W A l.length l) (hw : ∀ g ∈ l, wWd g) (hC : Kd.C Q.k161 W A2 cs.length cs) (hc : cs.length ≤ c2) (hT : Tab W) (hZ : TabZ W) : Calls Tryd.prog 8 #[.agg #[.int .i64 x.f0, .int .i64 x.f1, .int .i64 x.f2], .slice A l.length cc, .slice A2 cs.length c2] W fun e w' => e = .returned (.bool true) ∧ Below W.heap.size W w' := by
  have h := law_all x.f0 x.f1 x.f2 A cc (prs l) A2 c2 cs W (prs_at hA) (prs_rng hw) hC hc hT hZ
  rw [prs_len] at h
  exact h
set_option maxRecDepth 100000 in
theorem lifted (os : Os) (started : os.Started) (H : Type) (enc : TypeId × Value → H) :
    ReturnsInHanded {} Tryd.checked os 8 .any (fun w args => (Rows.objectsAllSpec.pre enc Tryd.prog Tryd.f8 Rows.objectsAllRow.domain false w args ∧ laidMetH Tryd.prog tabL2 w) ∧ sizedMet enc Tryd.prog Tryd.f8 (OpenSpec.ofChange Rows.objectsAllSpec) false w args)
      (Rows.objectsAllSpec.post enc Tryd.prog Tryd.f8 false true false false) := by
  refine returnsInHanded_of_change_and (C := Tryd.checked) (X := fun w _ => laidMetH Tryd.prog tabL2 w) (fun _ _ _ hh h => h.of_heap hh) own started (by kernel_rfl) Tryd.func8
    (ChangeSpec.witness_shaped (enc := enc) (C := Tryd.checked) (os := os) (X := fun w _ => laidMetH Tryd.prog tabL2 w) false (World.doorLaid Tryd.prog 400 os) #[.agg #[.int .i64 0, .int .i64 0, .int .i64 0], .slice none 0 0, .slice none 0 0] 8 rfl (World.shaped_of_RefB (by kernel_rfl) (by kernel_rfl)) (by kernel_rfl) (by kernel_rfl) (by kernel_rfl) (door_met os _)) ?_
  intro W base args ds gs before hval0 hW _ _ hL _
  have hval : ∀ (j : Nat) t v, Tryd.f8.params[j]? = some t → args[j]? = some v → Value.okWide Tryd.prog W .any base t v := hval0
  have hW' := hW
  obtain ⟨p, q, hA0, hV, rfl, hfz, hnd⟩ := hW
  have hA : DataW.TrodAll enc Tryd.prog W 0 (fun _ => true) true Tryd.f8.params.toList args.toList ds p := hA0
  rw [Tryd.params8] at hA hval
  obtain ⟨v0, vs0, d0, ds0, p0, q0, hargs, rfl, rfl, h0, r0⟩ := trodAll_cons hA
  obtain ⟨v1, vs1, d1, ds1, p1, q1, rfl, rfl, rfl, h1, r1⟩ := trodAll_cons r0
  obtain ⟨v2, vs2, d2, ds2, p2, q2, rfl, rfl, rfl, h2, r2⟩ := trodAll_cons r1
  obtain ⟨rfl, rfl, rfl⟩ := trodAll_nil r2
  obtain rfl : args = #[v0, v1, v2] := by cases args; simp_all
  obtain ⟨rfl, rfl⟩ := trodVars_none hV
  have k0 := h0
  have lt0 : ∀ x ∈ p0, x.block < W.heap.size := by obtain ⟨m, hm⟩ := k0; exact DataW.trod_lt m _ _ _ hm
  have k1 := h1
  have lt1 : ∀ x ∈ p1, x.block < W.heap.size := by obtain ⟨m, hm⟩ := k1; exact DataW.trod_lt m _ _ _ hm
  have k2 := h2
  have lt2 : ∀ x ∈ p2, x.block < W.heap.size := by obtain ⟨m, hm⟩ := k2; exact DataW.trod_lt m _ _ _ hm
  obtain ⟨a0, cs0, rfl, hK0, hw0⟩ := arg_agg Tryd.underlying25 oQ (hval 0 25 v0 rfl rfl) h0
  obtain ⟨l0⟩ := cs0
  have e0 := kQ_open hK0
  have e0' : l0 = _ := e0
  subst e0'
  obtain ⟨A1, len1, cap1, rfl⟩ := okWide_slice Tryd.underlying35 (hval 1 35 v1 rfl rfl)
  obtain ⟨a1, hK1, hw1⟩ := arg_one oWs h1
  obtain ⟨rfl, hA', hAc⟩ := kS_open hK1
  obtain ⟨A2, len2, cap2, rfl⟩ := okWide_slice Tryd.underlying51 (hval 2 51 v2 rfl rfl)
  obtain ⟨a2, hK2, hw2⟩ := arg_one oCs h2
  obtain ⟨rfl, hCs, hcs⟩ := kS_open hK2
  clear hA0 hval0
  refine (walk a0 a1 a2 A1 cap1 A2 cap2 W hA' hw1 hCs hcs (tab_of_laid2 hL) (tabz_of_laid hL)).mono fun e W' ⟨he, bel⟩ => ?_
  subst he
  exact ⟨_, rfl, _, _, _, [], _, [], hW', trodAll_mk1 (shut_bool Tryd.underlying4 _), (trodAll_cons_mk (Below.trod laidOut (by kernel_rfl) (of_decide_eq_true (by kernel_rfl)) k0 bel lt0) (trodAll_cons_mk (Below.trod laidOut (by kernel_rfl) (of_decide_eq_true (by kernel_rfl)) k1 bel lt1) (trodAll_cons_mk (Below.trod laidOut (by kernel_rfl) (of_decide_eq_true (by kernel_rfl)) k2 bel lt2) trodAll_mk0))), rfl, bel.frame _, fun h => by cases h⟩
theorem over : Rows.ObjectsAllSaid :=
  OpenClaim.holds_of_wide 8 Tryd.f8 rfl rfl rfl rfl rfl rfl rfl ⟨rfl, rfl, rfl, rfl, rfl⟩ rfl rfl rfl rfl rfl (by kernel_rfl) Tryd.func8 (by kernel_rfl)
    (of_decide_eq_true (by kernel_rfl)) (by unfold Func.isWrapper; first | (rw [if_pos (by decide +kernel)]; kernel_rfl) | (rw [if_neg (by decide +kernel)]; exact ⟨rfl, rfl⟩))
    (fun os started H enc _ => lifted os started H enc)
theorem card : Rows.ObjectsAllCardSaid :=
  Claim7.holds_tied_plain_at .later [] [.data, .data] true (true, "5fc32177c0aefb22ca0d7e37e0f23ae4a4aad0435b38d9dfb33da2bbdb69ab1b") false
    over (fun _ h => by cases h) (by kernel_rfl) (fun _ h => by cases h) objectsAll_row_tie rfl ⟨rfl, rfl⟩ (by kernel_rfl) rfl
    (fun f fn hf hfn => by
      obtain rfl : f = 8 := Option.some.inj ((show Tryd.prog.funcNamed "windrow/windrowlaw11.ObjectsAll" = some 8 by kernel_rfl).symm.trans hf) |>.symm
      obtain rfl : fn = Tryd.f8 := (Option.some.inj (Tryd.func8.symm.trans hfn)).symm
      exact ⟨by kernel_rfl, fun j t ht => by
        rw [Tryd.params8] at ht
        have hm : t ∈ [25, 35, 51] := by simpa using Array.mem_of_getElem? ht
        have hall : ([25, 35, 51].all fun u => !Tryd.prog.wantsStandIn u) = true := by kernel_rfl
        exact (show Tryd.prog.wantsStandIn t = false by simpa using List.all_eq_true.1 hall t hm)⟩)
    (by kernel_rfl)
#print axioms card
end Go.Proofs.YtelfiegocdjnoaaDoor.objectsAll
namespace Go.Proofs.YtelfiegocdjnoaaDoor
/-- The card, under a short name, for the claim. -/
theorem objectsAll_holds : Rows.ObjectsAllCardSaid := objectsAll.card
end Go.Proofs.YtelfiegocdjnoaaDoor
