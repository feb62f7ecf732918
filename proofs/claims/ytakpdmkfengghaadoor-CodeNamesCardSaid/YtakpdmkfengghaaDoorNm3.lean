/- Are names, numbers and operands what the chapter says: the statement's walk (the door seat). Condition: the package array holds the names. -/
import Derived.Test.YtakpdmkfengghaaDoorNm2
namespace Go.Proofs.YtakpdmkfengghaaDoor.Nm
open Go Go.RowKit Go.Proofs.YtakpdmkfengghaaDoor.Sep Go.Proofs.YtakpdmkfengghaaDoorW.PrintWords Go.Proofs.YtakpdmkfengghaaDoorW.PrintLast Go.Proofs.YtakpdmkfengghaaDoorW.PrintMore Go.Proofs.YtakpdmkfengghaaDoor.Q Go.Proofs.YtakpdmkfengghaaDoor.Wr
set_option linter.unusedVariables false
set_option linter.unusedSimpArgs false

theorem Tab.below {w w' : World} (h : Tab w) (hb : Below w.heap.size w w') : Tab w' := fun i hi => pw_cell_below hb (h i hi)
set_option maxHeartbeats 8000000 in
set_option maxRecDepth 100000 in
theorem law_names (op : Int) (name : ByteArray) (w : World) (h : Tab w) : Calls Tryd.prog 3 #[.int .i64 op, .string name] w fun en w' => en = .returned (.bool true) ∧ Below w.heap.size w w' := by
  have H := Aside.mk (⟨h, Below.refl _ _⟩ : Tab w ∧ Below w.heap.size w w)
  clear h
  have hf := find_name op
  go_enter Tryd.func3, Tryd.ntmps3
  go_wp2_with (first
    | (go_at_call 4; refine (coded _).mono ?_; rintro e w1 ⟨rfl, hb⟩; have H9 : Tab w1 ∧ Below w.heap.size w w1 := ⟨H.out.1.below hb, below_step H.out.2 hb⟩; have H := Aside.mk H9; clear H9 hb)
    | (go_at_call 5; refine (name_code op _ H.out.1).mono ?_; rintro e w1 ⟨rfl, hb⟩; have H9 : Tab w1 ∧ Below w.heap.size w w1 := ⟨H.out.1.below hb, below_step H.out.2 hb⟩; have H := Aside.mk H9; clear H9 hb)
    | (go_at_call 6; refine (windrowref13_Name.calls op _ _ (name_ref op)).mono ?_; rintro e w1 ⟨rfl, hb⟩; have H9 : Tab w1 ∧ Below w.heap.size w w1 := ⟨H.out.1.below hb, below_step H.out.2 hb⟩; have H := Aside.mk H9; clear H9 hb)
    | (go_at_call 7; refine (find_code _ _ H.out.1).mono ?_; rintro e w1 ⟨rfl, hb⟩; have H9 : Tab w1 ∧ Below w.heap.size w w1 := ⟨H.out.1.below hb, below_step H.out.2 hb⟩; have H := Aside.mk H9; clear H9 hb)
    | (go_at_call 8; refine (windrowref13_Find.calls 40 name _ _ (find_ref name)).mono ?_; rintro e w1 ⟨rfl, hb⟩; have H9 : Tab w1 ∧ Below w.heap.size w w1 := ⟨H.out.1.below hb, below_step H.out.2 hb⟩; have H := Aside.mk H9; clear H9 hb)
    | (go_at_call 9; go_loud (refine (code_Operands.calls 2 op _ _ (opN_code op)).mono ?_); rintro e w1 ⟨rfl, ⟨q, rfl⟩⟩; have H9 : Tab _ ∧ Below w.heap.size w _ := ⟨H.out.1.below (pw_below_drewN (Below.refl _ _) q), below_step H.out.2 (pw_below_drewN (Below.refl _ _) q)⟩; have H := Aside.mk H9; clear H9)
    | (go_at_call 10; refine (windrowref13_Operands.calls 70 op _ _ (opN_ref op)).mono ?_; rintro e w1 ⟨rfl, hb⟩; have H9 : Tab w1 ∧ Below w.heap.size w w1 := ⟨H.out.1.below hb, below_step H.out.2 hb⟩; have H := Aside.mk H9; clear H9 hb))
  all_goals
    go_ret
    exact ⟨congrArg (fun b => Ending.returned (Value.bool b)) (beq_iff_eq.2 (by omega)), H.out.2⟩
end Go.Proofs.YtakpdmkfengghaaDoor.Nm
