/- A claim that is made. Conditions: the plan is right; the thread is one of its threads; the table of sizes reads as it was laid. -/
import Derived.Test.YtelfiegocdjnoaaDoorCl5
import Derived.Test.YtelfiegocdjnoaaDoorMrF0
namespace Go.Proofs.YtelfiegocdjnoaaDoor.Ar
open Go Go.RowKit Go.Proofs.YtelfiegocdjnoaaDoor.Sep Go.Proofs.YtelfiegocdjnoaaDoor.Pg Go.Proofs.YtelfiegocdjnoaaDoorW.PrintWords Go.Proofs.YtelfiegocdjnoaaDoorW.PrintLast Go.Proofs.YtelfiegocdjnoaaDoorW.PrintMore Go.Proofs.YtelfiegocdjnoaaDoor.Q
set_option linter.unusedVariables false
set_option linter.unusedSimpArgs false
set_option maxHeartbeats 8000000
set_option maxRecDepth 100000
variable {w0 w : World} {F : List HP}
theorem knownS_ (c : Int) (hc : 0 ≤ c ∧ c < 8) : sizes_known.f c = some true := by unfold sizes_known.f; rw [if_pos hc.1]; congr 1; simp; omega
theorem wordsN_ (c : Nat) (hc : c < 8) {w : World} (h : Tab w) : Calls Tryd.prog 116 #[.int .i64 (c : Int)] w fun e w' => e = .returned (.tuple #[.int .i64 (szT.getD c 0), .int .i64 0]) ∧ Below w.heap.size w w' := by
  have HT := Aside.mk h
  have HK := Aside.mk (knownS_ (c : Int) (by omega))
  have nlt : (c : Int) < 8 := by omega
  have dlt : decide ((c : Int) < 8) = true := by simp; omega
  have HI := Aside.mk hc
  clear h hc
  go_enter Tryd.func116, Tryd.ntmps116
  go_wp2_with (go_at_call 146; refine (sizes_known.calls _ _ _ HK.out).mono ?_; rintro e w1 ⟨rfl, hb⟩; replace HT := Aside.mk (HT.out.below hb.below); have z0 := HT.out c HI.out)
  go_ret2
  exact ⟨rfl, hb.below⟩
theorem right_p {P T : Nat} (hP : P < 5) (hT : T < 3) (w : World) : Calls Tryd.prog 141 #[.agg #[.int .i64 ((P : Int) + 1), .int .i64 ((T : Int) + 1), .int .i64 1]] w fun e w' => e = .returned (.bool true) ∧ Below w.heap.size w w' := by
  have d1 : decide ((1 : Int) ≤ (P : Int) + 1) = true := by simp; omega
  have d2 : decide ((P : Int) + 1 ≤ 32) = true := by simp; omega
  have d3 : decide ((1 : Int) ≤ (T : Int) + 1) = true := by simp; omega
  have d4 : decide ((T : Int) + 1 ≤ 6) = true := by simp; omega
  have e1 : (0 : Int) ≤ (P : Int) := by omega
  have e2 : (P : Int) + 1 ≤ 32 := by omega
  have e3 : (0 : Int) ≤ (T : Int) := by omega
  have e4 : (T : Int) + 1 ≤ 6 := by omega
  go_enter Tryd.func141, Tryd.ntmps141
  go_wp2
  go_ret
  exact ⟨by first | rfl | simp [*], (Below.refl _ w).alloc (Nat.le_refl _) _⟩
theorem each_p (a b : Int) (w : World) : Calls Tryd.prog 173 #[.agg #[.int .i64 a, .int .i64 b, .int .i64 1]] w fun e w' => e = .returned (.int .i64 6) ∧ Below w.heap.size w w' := by
  go_enter Tryd.func173, Tryd.ntmps173
  go_wp2
  go_ret
  exact ⟨by first | rfl | (congr 2; unfold wrap64; omega), (Below.refl _ w).alloc (Nat.le_refl _) _⟩
theorem status_c {P T : Nat} (hP : P < 5) (hT : T < 3) {t : Int} (h0 : 0 ≤ t) (h1 : t < (T : Int) + 1) (w : World) : Calls Tryd.prog 117 #[.agg #[.int .i64 ((P : Int) + 1), .int .i64 ((T : Int) + 1), .int .i64 1], .int .i64 t] w fun e w' => e = .returned (.int .i64 (16 + 6 * t)) ∧ Below w.heap.size w w' := by
  have HR := Aside.mk (fun w => right_p hP hT w)
  have HE := Aside.mk (fun w => each_p ((P : Int) + 1) ((T : Int) + 1) w)
  have d1 : decide (t < 0) = false := by simp; omega
  have d2 : decide ((T : Int) + 1 ≤ t) = false := by simp; omega
  have hw : wrap64 (wrap64 (16 + wrap64 (t * 6))) = 16 + 6 * t := by unfold wrap64; omega
  have HW := Aside.mk hw
  have hof : ∀ w : World, Calls Tryd.prog 159 #[.agg #[.int .i64 ((P : Int) + 1), .int .i64 ((T : Int) + 1), .int .i64 1], .int .i64 t, .int .i64 0] w fun e w' => e = .returned (.int .i64 (16 + 6 * t)) ∧ Below w.heap.size w w' := by
    intro w
    have H := Aside.mk ((St.start w).alloc #[.int .i64 ((P : Int) + 1), .int .i64 ((T : Int) + 1), .int .i64 1] 40)
    have x0 := H.out.cell 0
    have x1 := H.out.cell 1
    have x2 := H.out.cell 2
    clear hw hP hT h0 h1
    go_enter Tryd.func159, Tryd.ntmps159
    go_wp2_with (first
      | (go_at_call 141; refine (HR.out _).mono ?_; rintro e w1 ⟨rfl, hb⟩; replace H := Aside.mk (H.out.step hb); clear hb x0 x1 x2; have x0 := H.out.cell 0; have x1 := H.out.cell 1; have x2 := H.out.cell 2)
      | (go_at_call 173; refine (HE.out _).mono ?_; rintro e w2 ⟨rfl, hb⟩; replace H := Aside.mk (H.out.step hb); clear hb))
    go_ret
    refine ⟨?_, H.out.below⟩
    show Ending.returned (.int .i64 (wrap64 (wrap64 (16 + wrap64 (t * 6))))) = _
    rw [HW.out]
  have HO := Aside.mk hof
  have H := Aside.mk ((St.start w).alloc #[.int .i64 ((P : Int) + 1), .int .i64 ((T : Int) + 1), .int .i64 1] 40)
  have x0 := H.out.cell 0
  have x1 := H.out.cell 1
  have x2 := H.out.cell 2
  clear hof hw hP hT h0 h1 d1 d2
  go_enter Tryd.func117, Tryd.ntmps117
  go_wp2_with (go_at_call 159; refine (HO.out _).mono ?_; rintro e w1 ⟨rfl, hb⟩; replace H := Aside.mk (H.out.step hb); clear hb)
  go_ret
  exact ⟨rfl, H.out.below⟩
theorem newclaim_ {q : Cp} (hq : q.Right) (ht : q.t < (q.T : Int) + 1) (hT : Tab w0) (h : St w0 w F) :
    Calls Tryd.prog 54 #[.agg #[.int .i64 ((q.P : Int) + 1), .int .i64 ((q.T : Int) + 1), .int .i64 1], .int .i64 q.t, .int .i64 q.cyc, .int .i64 q.cls] w fun e w' => ∃ g, e = .returned (.tuple #[clP g, .int .i64 0]) ∧ St w0 w' (clB g q cl0 (.pointer none) :: F) := by
  obtain ⟨c, hc⟩ := Int.eq_ofNat_of_zero_le hq.hc.1
  have HW := Aside.mk (fun (w : World) (L : List HP) (h : St w0 w L) => wordsN_ c (by have := hq.hc.2; omega) (hT.st h))
  rw [← hc] at HW
  have HS := Aside.mk (fun w => status_c hq.hP hq.hT hq.ht.1 ht w)
  generalize szT.getD c 0 = sz at HW
  obtain ⟨sv, hsv⟩ : ∃ sv, sv = 16 + 6 * q.t := ⟨_, rfl⟩
  rw [← hsv] at HS
  have d0 : decide (sv < 0) = false := by have := hq.ht.1; simp; omega
  have d1 : decide (q.cyc < 0) = false := by have := hq.hy.1; simp; omega
  have d2 : decide (4294967295 < q.cyc) = false := by have := hq.hy.2; simp; omega
  have H := Aside.mk (h.alloc #[.int .i64 ((q.P : Int) + 1), .int .i64 ((q.T : Int) + 1), .int .i64 1] 40)
  clear h hq ht hT hc hsv
  go_enter Tryd.func54, Tryd.ntmps54
  go_wp2_with (first
    | (go_at_call 116; refine (HW.out _ _ H.out).mono ?_; rintro e w1 ⟨rfl, hb⟩; replace H := Aside.mk (H.out.step hb); clear hb; have x0 := H.out.cell 0; have x1 := H.out.cell 1; have x2 := H.out.cell 2)
    | (go_at_call 117; refine (HS.out _).mono ?_; rintro e w2 ⟨rfl, hb⟩; replace H := Aside.mk (H.out.step hb); clear hb x0 x1 x2; have x0 := H.out.cell 0; have x1 := H.out.cell 1; have x2 := H.out.cell 2))
  go_ret2
  exact ⟨_, rfl, H.out.rest.alloc (Cl.cells q cl0 (.pointer none)) 199⟩
end Go.Proofs.YtelfiegocdjnoaaDoor.Ar
