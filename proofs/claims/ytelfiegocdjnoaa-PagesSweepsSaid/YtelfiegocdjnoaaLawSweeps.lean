/- The statement PagesSweeps: of all pages a sweep makes the accesses that the chapter says, and comes to what it says, also where others change entries between. No condition. -/
import Derived.Test.YtelfiegocdjnoaaRows
import Derived.Test.YtelfiegocdjnoaaKns
import Derived.Test.YtelfiegocdjnoaaLawSweeps0
import Derived.WalkKit
import Derived.ProofKit
import Derived.OpenShut
import Derived.ShutString
import Derived.ChangeOld
import Derived.Below
import Derived.SizedLaws
namespace Go.Proofs.Ytelfiegocdjnoaa.pagesSweeps
open Go.ChangeShapes Go.WideShapes Go.ChangeAt Go.RowKit Go.Proofs.Ytelfiegocdjnoaa.Open Go.Proofs.YtelfiegocdjnoaaW.PrintWords Go.Proofs.Ytelfiegocdjnoaa.Q
open Go.ChangeMaps (open_string shut_string)
set_option linter.unusedVariables false
theorem own : ownKnob Try.prog.godebug = none := by kernel_rfl
theorem laidOut : laidOutB Try.prog = true := by kernel_rfl
set_option maxRecDepth 100000 in
theorem lifted (os : Os) (started : os.Started) (H : Type) (enc : TypeId × Value → H) :
    ReturnsInHanded {} Try.checked os 4 .any (Rows.pagesSweepsSpec.pre6 enc Try.prog Try.f4 Rows.pagesSweepsRow.domain false) (Rows.pagesSweepsSpec.post enc Try.prog Try.f4 false true false false) := by
  refine returnsInHanded_of_change_sized (C := Try.checked) own started (by kernel_rfl) Try.func4
    (ChangeSpec.witness6 (enc := enc) (C := Try.checked) false ⟨#[], #[.agg #[.int .i64 0, .int .i64 0, .int .i64 0, .slice none 0 0, .int .i64 0, .int .i64 0, .int .i64 0, .slice none 0 0]], []⟩ 8 (by kernel_rfl) (by kernel_rfl) (by kernel_rfl) (by kernel_rfl)) ?_
  intro W base args ds gs before hval0 hW hcnd hsz0 _
  have hval : ∀ (j : Nat) t v, Try.f4.params[j]? = some t → args[j]? = some v → Value.okWide Try.prog W .any base t v := hval0
  have hW' := hW
  obtain ⟨p, q, hA0, hV, rfl, hfz, hnd⟩ := hW
  have hA : DataW.TrodAll enc Try.prog W 0 (fun _ => true) true Try.f4.params.toList args.toList ds p := hA0
  rw [Try.params4] at hA hval
  obtain ⟨v0, vs0, d0, ds0, p0, q0, hargs, rfl, rfl, h0, r0⟩ := trodAll_cons hA
  obtain ⟨rfl, rfl, rfl⟩ := trodAll_nil r0
  obtain rfl : args = #[v0] := by cases args; simp_all
  obtain ⟨rfl, rfl⟩ := trodVars_none hV
  have k0 := h0
  have lt0 : ∀ x ∈ p0, x.block < W.heap.size := by obtain ⟨m, hm⟩ := k0; exact DataW.trod_lt m _ _ _ hm
  obtain ⟨a0, cs0, rfl, hK0, hw0⟩ := arg_agg Try.underlying63 oSw (hval 0 63 v0 rfl rfl) h0
  obtain ⟨l0⟩ := cs0
  obtain ⟨A, c, A2, c2, e0, hAp, hAt⟩ := kSw_open hK0
  have e0' : l0 = _ := e0
  subst e0'
  clear hA0 hval0 hsz0
  refine (Ar.law_sweeps a0.q.f0 a0.q.f1 a0.q.f2 a0.who a0.cyc a0.page A c a0.l A2 c2 a0.o W hAp (wSw_rng hw0) hAt).mono fun e W' ⟨he, bel⟩ => ?_
  subst he
  exact ⟨_, rfl, _, _, _, [], _, [], hW', trodAll_mk1 (shut_bool Try.underlying4 _), (trodAll_cons_mk (Below.trod laidOut (by kernel_rfl) (of_decide_eq_true (by kernel_rfl)) k0 bel lt0) trodAll_mk0), rfl, bel.frame _, fun h => by cases h⟩
theorem over : Rows.pagesSweepsRow.holds Try.pinned (OpenSpec.ofChange Rows.pagesSweepsSpec) :=
  OpenClaim.holds_of_wide 4 Try.f4 rfl rfl rfl rfl rfl rfl rfl ⟨rfl, rfl, rfl, rfl, rfl⟩ rfl rfl rfl rfl rfl (by kernel_rfl) Try.func4 (by kernel_rfl)
    (of_decide_eq_true (by kernel_rfl)) (by unfold Func.isWrapper; first | (rw [if_pos (by decide +kernel)]; kernel_rfl) | (rw [if_neg (by decide +kernel)]; exact ⟨rfl, rfl⟩))
    (fun os started H enc _ => lifted os started H enc)
theorem proved : Rows.PagesSweepsSaid := over
#print axioms proved
end Go.Proofs.Ytelfiegocdjnoaa.pagesSweeps
namespace Go.Proofs.Ytelfiegocdjnoaa
/-- The row, under a short name, for the claim. -/
theorem pagesSweeps_holds : Rows.PagesSweepsSaid := pagesSweeps.proved
end Go.Proofs.Ytelfiegocdjnoaa
