/- The document's Due, Taken, Given: short contracts. Conditions: right entries. -/
import Derived.Test.YtelfiegocdjnoaaStp
import Derived.Test.YtelfiegocdjnoaaIe
import Derived.Test.YtelfiegocdjnoaaWk
namespace Go.Proofs.Ytelfiegocdjnoaa.Ar
open Go Go.RowKit Go.Proofs.Ytelfiegocdjnoaa.Sep Go.Proofs.Ytelfiegocdjnoaa.Pg Go.Proofs.YtelfiegocdjnoaaW.PrintWords Go.Proofs.YtelfiegocdjnoaaW.PrintLast Go.Proofs.YtelfiegocdjnoaaW.PrintMore
set_option linter.unusedVariables false
set_option linter.unusedSimpArgs false
set_option maxHeartbeats 8000000
set_option maxRecDepth 100000
theorem isentry_y {k c s o y : Int} (h : isE k c s o y = true) (w : World) : Calls Try.prog 62 #[.agg #[.int .i64 k, .int .i64 c, .int .i64 s, .int .i64 o, .int .i64 y]] w fun e w' => e = .returned (.bool true) ∧ Below w.heap.size w w' := by
  have := isentry_c k c s o y w
  rwa [h] at this
theorem rdue_c {k c s o y : Int} (h : isE k c s o y = true) (cyc : Int) (w : World) : Calls Try.prog 65 #[.agg #[.int .i64 k, .int .i64 c, .int .i64 s, .int .i64 o, .int .i64 y], .int .i64 cyc] w fun e w' => e = .returned (.bool ((k == 1 || k == 2) && (s == 0) && decide (y < cyc))) ∧ Below w.heap.size w w' := by
  have HE := Aside0.mk (fun w => isentry_y h w)
  have H := Aside0.mk ((St.start w).alloc #[.int .i64 k, .int .i64 c, .int .i64 s, .int .i64 o, .int .i64 y] 32)
  obtain ⟨b, hb9⟩ : ∃ b, b = ((k == 1 || k == 2) && (s == 0) && decide (y < cyc)) := ⟨_, rfl⟩
  rw [← hb9]
  have HB := Aside0.mk hb9
  clear h hb9
  have a0 := H.out.cell 0
  have a1 := H.out.cell 1
  have a2 := H.out.cell 2
  have a3 := H.out.cell 3
  have a4 := H.out.cell 4
  go_enter Try.func65, Try.ntmps65
  go_wp2_with (go_at_call 62; refine (HE.out _).mono ?_; rintro e w2 ⟨rfl, hb⟩; replace H := Aside0.mk (H.out.step hb); clear hb a0 a1 a2 a3 a4; have a0 := H.out.cell 0; have a1 := H.out.cell 1; have a2 := H.out.cell 2; have a3 := H.out.cell 3; have a4 := H.out.cell 4)
  all_goals
    have hb9 := HB.out
    go_ret
    refine ⟨congrArg (fun b : Bool => Ending.returned (Value.bool b)) ?_, H.out.below⟩
    grind
theorem rtaken_c {k c s o y b t : Int} (h1 : isE k c s o y = true) (h2 : isE k c b t y = true) (w : World) :
    Calls Try.prog 66 #[.agg #[.int .i64 k, .int .i64 c, .int .i64 s, .int .i64 o, .int .i64 y], .int .i64 b, .int .i64 t] w fun e w' => e = .returned (.tuple #[.agg #[.int .i64 k, .int .i64 c, .int .i64 b, .int .i64 t, .int .i64 y], .int .i64 0]) ∧ Below w.heap.size w w' := by
  have HE1 := Aside0.mk (fun w => isentry_y h1 w)
  have HE2 := Aside0.mk (fun w => isentry_y h2 w)
  have h0 := (((St.start w).alloc #[.int .i64 k, .int .i64 c, .int .i64 s, .int .i64 o, .int .i64 y] 32).alloc #[.int .i64 0, .int .i64 0, .int .i64 0, .int .i64 0, .int .i64 0] 32).alloc #[.int .i64 0, .int .i64 0, .int .i64 0, .int .i64 0, .int .i64 0] 32
  simp only [World.size_alloc] at h0
  have H := Aside0.mk h0
  clear h0 h1 h2
  go_enter Try.func66, Try.ntmps66
  go_wp2_with (with_reducible refine stop_at (.store 32 (.tmp 8) (.tmp 17)) rfl ?_)
  refine ⟨?_⟩
  refine st_store rfl rfl rfl [.int .i64 k, .int .i64 c, .int .i64 b, .int .i64 t, .int .i64 y] #[.int .i64 k, .int .i64 c, .int .i64 b, .int .i64 t, .int .i64 y] rfl rfl rfl (Nat.le_of_ble_eq_true rfl) (by simp [Value.oneCell']) H.out rfl ?_
  intro w1 h1
  replace H := Aside0.mk h1
  clear h1
  have a0 := (H.out.pick 2 rfl).cell 0
  have a1 := (H.out.pick 2 rfl).cell 1
  have a2 := (H.out.pick 2 rfl).cell 2
  have a3 := (H.out.pick 2 rfl).cell 3
  have a4 := (H.out.pick 2 rfl).cell 4
  go_wp2_with (first
    | (go_at_call 62; with_reducible refine (HE1.out _).mono ?_; rintro e w2 ⟨rfl, hb⟩; replace H := Aside0.mk (H.out.step hb); clear hb a0 a1 a2 a3 a4; have b0 := H.out.cell 0; have b1 := H.out.cell 1; have b2 := H.out.cell 2; have b3 := H.out.cell 3; have b4 := H.out.cell 4)
    | (go_at_call 62; with_reducible refine (HE2.out _).mono ?_; rintro e w3 ⟨rfl, hb⟩; replace H := Aside0.mk (H.out.step hb); clear hb b0 b1 b2 b3 b4; have c0 := H.out.cell 0; have c1 := H.out.cell 1; have c2 := H.out.cell 2; have c3 := H.out.cell 3; have c4 := H.out.cell 4)
    | (with_reducible refine stop_at (.store 32 (.tmp 6) (.tmp 27)) rfl ?_))
  refine ⟨?_⟩
  refine st_store rfl rfl rfl [.int .i64 k, .int .i64 c, .int .i64 b, .int .i64 t, .int .i64 y] #[.int .i64 k, .int .i64 c, .int .i64 b, .int .i64 t, .int .i64 y] rfl rfl rfl (Nat.le_of_ble_eq_true rfl) (by simp [Value.oneCell']) (H.out.pick 1 rfl) rfl ?_
  intro w4 h4
  replace H := Aside0.mk h4
  clear h4 c0 c1 c2 c3 c4
  go_wp2
  refine bodyPost_ret (results_ct rfl _ _ _ 32 #[.int .i64 k, .int .i64 c, .int .i64 b, .int .i64 t, .int .i64 y] (0, 0) _ rfl H.out.heap Try.underlying32 rfl (by kernel_rfl)) rfl ?_
  exact ⟨rfl, H.out.below⟩
theorem rgiven_c {k c s o y b : Int} (h1 : isE k c s o y = true) (hk : k = 1 ∨ k = 2) (h2 : isE k c 0 0 b = true) (w : World) :
    Calls Try.prog 31 #[.agg #[.int .i64 k, .int .i64 c, .int .i64 s, .int .i64 o, .int .i64 y], .int .i64 b] w fun e w' => e = .returned (.tuple #[.agg #[.int .i64 k, .int .i64 c, .int .i64 0, .int .i64 0, .int .i64 b], .int .i64 0]) ∧ Below w.heap.size w w' := by
  have HE1 := Aside0.mk (fun w => isentry_y h1 w)
  have HE2 := Aside0.mk (fun w => isentry_y h2 w)
  have k0 : (k == 0) = false := by rcases hk with rfl | rfl <;> rfl
  have k3 : (k == 3) = false := by rcases hk with rfl | rfl <;> rfl
  have h0 := (((St.start w).alloc #[.int .i64 k, .int .i64 c, .int .i64 s, .int .i64 o, .int .i64 y] 32).alloc #[.int .i64 0, .int .i64 0, .int .i64 0, .int .i64 0, .int .i64 0] 32).alloc #[.int .i64 0, .int .i64 0, .int .i64 0, .int .i64 0, .int .i64 0] 32
  simp only [World.size_alloc] at h0
  have H := Aside0.mk h0
  clear h0 h1 h2 hk
  go_enter Try.func31, Try.ntmps31
  go_wp2_with (with_reducible refine stop_at (.store 32 (.tmp 6) (.tmp 12)) rfl ?_)
  refine ⟨?_⟩
  refine st_store rfl rfl rfl [.int .i64 k, .int .i64 c, .int .i64 0, .int .i64 0, .int .i64 b] #[.int .i64 k, .int .i64 c, .int .i64 0, .int .i64 0, .int .i64 b] rfl rfl rfl (Nat.le_of_ble_eq_true rfl) (by simp [Value.oneCell']) H.out rfl ?_
  intro w1 h1
  replace H := Aside0.mk h1
  clear h1
  have a0 := (H.out.pick 2 rfl).cell 0
  have a1 := (H.out.pick 2 rfl).cell 1
  have a2 := (H.out.pick 2 rfl).cell 2
  have a3 := (H.out.pick 2 rfl).cell 3
  have a4 := (H.out.pick 2 rfl).cell 4
  go_wp2_with (first
    | (go_at_call 62; with_reducible refine (HE1.out _).mono ?_; rintro e w2 ⟨rfl, hb⟩; replace H := Aside0.mk (H.out.step hb); clear hb a0 a1 a2 a3 a4; have a0 := (H.out.pick 2 rfl).cell 0; have b0 := H.out.cell 0; have b1 := H.out.cell 1; have b2 := H.out.cell 2; have b3 := H.out.cell 3; have b4 := H.out.cell 4)
    | (go_at_call 62; with_reducible refine (HE2.out _).mono ?_; rintro e w3 ⟨rfl, hb⟩; replace H := Aside0.mk (H.out.step hb); clear hb a0 b0 b1 b2 b3 b4; have c0 := H.out.cell 0; have c1 := H.out.cell 1; have c2 := H.out.cell 2; have c3 := H.out.cell 3; have c4 := H.out.cell 4)
    | (with_reducible refine stop_at (.store 32 (.tmp 4) (.tmp 32)) rfl ?_))
  refine ⟨?_⟩
  refine st_store rfl rfl rfl [.int .i64 k, .int .i64 c, .int .i64 0, .int .i64 0, .int .i64 b] #[.int .i64 k, .int .i64 c, .int .i64 0, .int .i64 0, .int .i64 b] rfl rfl rfl (Nat.le_of_ble_eq_true rfl) (by simp [Value.oneCell']) (H.out.pick 1 rfl) rfl ?_
  intro w4 h4
  replace H := Aside0.mk h4
  clear h4 c0 c1 c2 c3 c4
  go_wp2
  refine bodyPost_ret (results_ct rfl _ _ _ 32 #[.int .i64 k, .int .i64 c, .int .i64 0, .int .i64 0, .int .i64 b] (0, 0) _ rfl H.out.heap Try.underlying32 rfl (by kernel_rfl)) rfl ?_
  exact ⟨rfl, H.out.below⟩
theorem howner_c (k c s o y : Int) (w : World) : Calls Try.prog 96 #[.agg #[.int .i64 k, .int .i64 c, .int .i64 s, .int .i64 o, .int .i64 y]] w fun e w' => e = .returned (.bool (own k s o)) ∧ Below w.heap.size w w' := by
  obtain ⟨b, hb⟩ : ∃ b, b = own k s o := ⟨_, rfl⟩
  rw [← hb]
  go_enter Try.func96, Try.ntmps96
  go_wp2
  all_goals
    go_ret
    refine ⟨congrArg (fun b : Bool => Ending.returned (Value.bool b)) ?_, (Below.refl _ w).alloc (Nat.le_refl _) _⟩
    grind [own]
theorem hright_c (k c s o y : Int) (w : World) : Calls Try.prog 85 #[.agg #[.int .i64 k, .int .i64 c, .int .i64 s, .int .i64 o, .int .i64 y]] w fun e w' => e = .returned (.bool (isE k c s o y)) ∧ Below w.heap.size w w' := by
  obtain ⟨b, hb9⟩ : ∃ b, b = isE k c s o y := ⟨_, rfl⟩
  rw [← hb9]
  obtain ⟨q, hq⟩ : ∃ q, q = own k s o := ⟨_, rfl⟩
  have ho := fun w => howner_c k c s o y w
  rw [← hq] at ho
  have HO := Aside0.mk ho
  have HB := Aside0.mk hb9
  have HQ := Aside0.mk hq
  have H := Aside0.mk ((St.start w).alloc #[.int .i64 k, .int .i64 c, .int .i64 s, .int .i64 o, .int .i64 y] 82)
  clear ho hb9 hq
  have a0 := H.out.cell 0
  have a1 := H.out.cell 1
  have a2 := H.out.cell 2
  have a3 := H.out.cell 3
  have a4 := H.out.cell 4
  go_enter Try.func85, Try.ntmps85
  go_wp2_with (go_at_call 96; refine (HO.out _).mono ?_; rintro e w2 ⟨rfl, hb⟩; replace H := Aside0.mk (H.out.step hb); clear hb a0 a1 a2 a3 a4; have a0 := H.out.cell 0; have a1 := H.out.cell 1; have a2 := H.out.cell 2; have a3 := H.out.cell 3; have a4 := H.out.cell 4)
  all_goals
    have hb9 := HB.out
    have hq := HQ.out
    go_ret
    refine ⟨congrArg (fun b : Bool => Ending.returned (Value.bool b)) ?_, H.out.below⟩
    grind [isE, own]
theorem hdue_c {k c s o y : Int} (h : isE k c s o y = true) (cyc : Int) (w : World) : Calls Try.prog 84 #[.agg #[.int .i64 k, .int .i64 c, .int .i64 s, .int .i64 o, .int .i64 y], .int .i64 cyc] w fun e w' => e = .returned (.bool ((k == 1 || k == 2) && (s == 0) && decide (y < cyc))) ∧ Below w.heap.size w w' := by
  have HE := Aside0.mk (fun w => (by have := hright_c k c s o y w; rwa [h] at this : Calls Try.prog 85 #[.agg #[.int .i64 k, .int .i64 c, .int .i64 s, .int .i64 o, .int .i64 y]] w fun e w' => e = .returned (.bool true) ∧ Below w.heap.size w w'))
  have H := Aside0.mk ((St.start w).alloc #[.int .i64 k, .int .i64 c, .int .i64 s, .int .i64 o, .int .i64 y] 82)
  obtain ⟨b, hb9⟩ : ∃ b, b = ((k == 1 || k == 2) && (s == 0) && decide (y < cyc)) := ⟨_, rfl⟩
  rw [← hb9]
  have HB := Aside0.mk hb9
  clear h hb9
  have a0 := H.out.cell 0
  have a1 := H.out.cell 1
  have a2 := H.out.cell 2
  have a3 := H.out.cell 3
  have a4 := H.out.cell 4
  go_enter Try.func84, Try.ntmps84
  go_wp2_with (go_at_call 85; refine (HE.out _).mono ?_; rintro e w2 ⟨rfl, hb⟩; replace H := Aside0.mk (H.out.step hb); clear hb a0 a1 a2 a3 a4; have a0 := H.out.cell 0; have a1 := H.out.cell 1; have a2 := H.out.cell 2; have a3 := H.out.cell 3; have a4 := H.out.cell 4)
  all_goals
    have hb9 := HB.out
    go_ret
    refine ⟨congrArg (fun b : Bool => Ending.returned (Value.bool b)) ?_, H.out.below⟩
    grind
end Go.Proofs.Ytelfiegocdjnoaa.Ar
