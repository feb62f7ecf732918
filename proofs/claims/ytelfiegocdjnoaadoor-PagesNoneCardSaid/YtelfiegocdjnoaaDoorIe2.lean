/- The document's Due, Taken, Given: short contracts. Conditions: right entries. -/
import Derived.Test.YtelfiegocdjnoaaDoorStp
import Derived.Test.YtelfiegocdjnoaaDoorIe
import Derived.Test.YtelfiegocdjnoaaDoorWk
namespace Go.Proofs.YtelfiegocdjnoaaDoor.Ar
open Go Go.RowKit Go.Proofs.YtelfiegocdjnoaaDoor.Sep Go.Proofs.YtelfiegocdjnoaaDoor.Pg Go.Proofs.YtelfiegocdjnoaaDoorW.PrintWords Go.Proofs.YtelfiegocdjnoaaDoorW.PrintLast Go.Proofs.YtelfiegocdjnoaaDoorW.PrintMore
set_option linter.unusedVariables false
set_option linter.unusedSimpArgs false
set_option maxHeartbeats 8000000
set_option maxRecDepth 100000
theorem howner_c (k c s o y : Int) (w : World) : Calls Tryd.prog 177 #[.agg #[.int .i64 k, .int .i64 c, .int .i64 s, .int .i64 o, .int .i64 y]] w fun e w' => e = .returned (.bool (own k s o)) ∧ Below w.heap.size w w' := by
  obtain ⟨b, hb⟩ : ∃ b, b = own k s o := ⟨_, rfl⟩
  rw [← hb]
  go_enter Tryd.func177, Tryd.ntmps177
  go_wp2
  all_goals
    go_ret
    refine ⟨congrArg (fun b : Bool => Ending.returned (Value.bool b)) ?_, (Below.refl _ w).alloc (Nat.le_refl _) _⟩
    grind [own]
theorem hright_c (k c s o y : Int) (w : World) : Calls Tryd.prog 165 #[.agg #[.int .i64 k, .int .i64 c, .int .i64 s, .int .i64 o, .int .i64 y]] w fun e w' => e = .returned (.bool (isE k c s o y)) ∧ Below w.heap.size w w' := by
  obtain ⟨b, hb9⟩ : ∃ b, b = isE k c s o y := ⟨_, rfl⟩
  rw [← hb9]
  obtain ⟨q, hq⟩ : ∃ q, q = own k s o := ⟨_, rfl⟩
  have ho := fun w => howner_c k c s o y w
  rw [← hq] at ho
  have HO := Aside0.mk ho
  have HB := Aside0.mk hb9
  have HQ := Aside0.mk hq
  have H := Aside0.mk ((St.start w).alloc #[.int .i64 k, .int .i64 c, .int .i64 s, .int .i64 o, .int .i64 y] 168)
  clear ho hb9 hq
  have a0 := H.out.cell 0
  have a1 := H.out.cell 1
  have a2 := H.out.cell 2
  have a3 := H.out.cell 3
  have a4 := H.out.cell 4
  go_enter Tryd.func165, Tryd.ntmps165
  go_wp2_with (go_at_call 177; refine (HO.out _).mono ?_; rintro e w2 ⟨rfl, hb⟩; replace H := Aside0.mk (H.out.step hb); clear hb a0 a1 a2 a3 a4; have a0 := H.out.cell 0; have a1 := H.out.cell 1; have a2 := H.out.cell 2; have a3 := H.out.cell 3; have a4 := H.out.cell 4)
  all_goals
    have hb9 := HB.out
    have hq := HQ.out
    go_ret
    refine ⟨congrArg (fun b : Bool => Ending.returned (Value.bool b)) ?_, H.out.below⟩
    grind [isE, own]
theorem hdue_c {k c s o y : Int} (h : isE k c s o y = true) (cyc : Int) (w : World) : Calls Tryd.prog 161 #[.agg #[.int .i64 k, .int .i64 c, .int .i64 s, .int .i64 o, .int .i64 y], .int .i64 cyc] w fun e w' => e = .returned (.bool ((k == 1 || k == 2) && (s == 0) && decide (y < cyc))) ∧ Below w.heap.size w w' := by
  have HE := Aside0.mk (fun w => (by have := hright_c k c s o y w; rwa [h] at this : Calls Tryd.prog 165 #[.agg #[.int .i64 k, .int .i64 c, .int .i64 s, .int .i64 o, .int .i64 y]] w fun e w' => e = .returned (.bool true) ∧ Below w.heap.size w w'))
  have H := Aside0.mk ((St.start w).alloc #[.int .i64 k, .int .i64 c, .int .i64 s, .int .i64 o, .int .i64 y] 168)
  obtain ⟨b, hb9⟩ : ∃ b, b = ((k == 1 || k == 2) && (s == 0) && decide (y < cyc)) := ⟨_, rfl⟩
  rw [← hb9]
  have HB := Aside0.mk hb9
  clear h hb9
  have a0 := H.out.cell 0
  have a1 := H.out.cell 1
  have a2 := H.out.cell 2
  have a3 := H.out.cell 3
  have a4 := H.out.cell 4
  go_enter Tryd.func161, Tryd.ntmps161
  go_wp2_with (go_at_call 165; refine (HE.out _).mono ?_; rintro e w2 ⟨rfl, hb⟩; replace H := Aside0.mk (H.out.step hb); clear hb a0 a1 a2 a3 a4; have a0 := H.out.cell 0; have a1 := H.out.cell 1; have a2 := H.out.cell 2; have a3 := H.out.cell 3; have a4 := H.out.cell 4)
  all_goals
    have hb9 := HB.out
    go_ret
    refine ⟨congrArg (fun b : Bool => Ending.returned (Value.bool b)) ?_, H.out.below⟩
    grind
end Go.Proofs.YtelfiegocdjnoaaDoor.Ar
