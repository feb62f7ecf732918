/- A sweep that is made; a look at a cell. Conditions: the plan is right. -/
import Derived.Test.YtelfiegocdjnoaaDoorFd1
import Derived.Test.YtelfiegocdjnoaaDoorMrF0
namespace Go.Proofs.YtelfiegocdjnoaaDoor.Ar
open Go Go.RowKit Go.Proofs.YtelfiegocdjnoaaDoor.Sep Go.Proofs.YtelfiegocdjnoaaDoor.Pg Go.Proofs.YtelfiegocdjnoaaDoorW.PrintWords Go.Proofs.YtelfiegocdjnoaaDoorW.PrintLast Go.Proofs.YtelfiegocdjnoaaDoorW.PrintMore Go.Proofs.YtelfiegocdjnoaaDoor.Q
set_option linter.unusedVariables false
set_option linter.unusedSimpArgs false
set_option maxHeartbeats 8000000
set_option maxRecDepth 100000
variable {w0 w : World} {F : List HP}
/-- A sweep, new. -/
abbrev sw0 (P T : Nat) (who cyc page : Int) : Sw := ⟨(P : Int) + 1, (T : Int) + 1, 1, who, cyc, page, 0, 0, 0, 0, 0, 0, 0, 0, 0, 0, false, 0, false, false⟩
theorem entry_in {P T : Nat} (hP : P < 5) (hT : T < 3) {i : Int} (h0 : 0 ≤ i) (h1 : i < (P : Int) + 1) : layout_Plan_Entry.f ((P : Int) + 1) ((T : Int) + 1) 1 i = some ((adr P T 0 i.toNat : Nat) : Int) := by
  have h := ent_ (x := sw0 P T 0 0 0) (page := 0) ⟨hP, hT, by omega, rfl, rfl, rfl, rfl⟩ i.toNat (by omega)
  rw [Int.toNat_of_nonneg h0] at h
  exact h
instance (o : Int) : Decidable (worker o) := by unfold worker; exact inferInstance
theorem worker_f (o : Int) : pages_worker.f o = some (decide (worker o)) := by
  unfold pages_worker.f
  by_cases hw : worker o
  · rw [decide_eq_true hw]
    rcases hw with hw | hw
    · rw [if_pos hw.1, if_pos hw.2]
    · subst hw; rfl
  · rw [decide_eq_false hw]
    unfold worker at hw
    (repeat' split) <;> first | (exfalso; omega) | (congr 1; simp; omega)
theorem newsweep_yes {P T : Nat} (hP : P < 5) (hT : T < 3) {who cyc page : Int} (h0 : 0 ≤ page) (h1 : page < (P : Int) + 1) (hw : worker who) (hc : 0 ≤ cyc ∧ cyc ≤ 4294967295) (h : St w0 w F) :
    Calls Tryd.prog 110 #[.agg #[.int .i64 ((P : Int) + 1), .int .i64 ((T : Int) + 1), .int .i64 1], .int .i64 who, .int .i64 cyc, .int .i64 page] w fun e w' => ∃ s, e = .returned (.tuple #[.pointer (some ⟨s, 0, none⟩), .int .i64 0]) ∧ St w0 w' (swB s (sw0 P T who cyc page) :: F) := by
  have HE := Aside.mk (entry_in hP hT h0 h1)
  have hwf := worker_f who
  rw [decide_eq_true hw] at hwf
  have HW := Aside.mk hwf
  have d1 : decide (cyc < 0) = false := by simp; omega
  have d2 : decide (4294967295 < cyc) = false := by simp; omega
  generalize adr P T 0 page.toNat = j at HE
  have d3 : decide ((j : Int) < 0) = false := by simp
  have H := Aside.mk (h.alloc #[.int .i64 ((P : Int) + 1), .int .i64 ((T : Int) + 1), .int .i64 1] 40)
  clear h hwf hw hP hT h0 h1
  go_enter Tryd.func110, Tryd.ntmps110
  go_wp2_with (first
    | (go_at_call 85; refine (layout_Plan_Entry.calls _ _ _ _ _ _ HE.out).mono ?_; rintro e w1 ⟨rfl, hb⟩; replace H := Aside.mk (H.out.step hb); clear hb; have x0 := H.out.cell 0; have x1 := H.out.cell 1; have x2 := H.out.cell 2)
    | (go_at_call 153; refine (pages_worker.calls _ _ _ HW.out).mono ?_; rintro e w4 ⟨rfl, ⟨nd, rfl⟩⟩; replace H := Aside.mk (H.out.drewN nd); clear x0 x1 x2; have x0 := H.out.cell 0; have x1 := H.out.cell 1; have x2 := H.out.cell 2))
  go_ret2
  exact ⟨_, rfl, (H.out.rest).alloc (sw0 P T who cyc page).cells 226⟩
end Go.Proofs.YtelfiegocdjnoaaDoor.Ar
