/- Entries that are taken, given, read: short contracts. Conditions: the entries are right. -/
import Derived.Test.YtelfiegocdjnoaaDoorAr0
import Derived.Test.YtelfiegocdjnoaaDoorStp
import Derived.Test.YtelfiegocdjnoaaDoorPg3
import Derived.Test.YtelfiegocdjnoaaDoorWk
import Derived.StillTailTactics
import Derived.OwnWalk
import Derived.WalkKit
import Derived.KernelRfl
import Derived.BigQuiet
import Derived.Deep.QuietTactic
import Derived.Test.YtelfiegocdjnoaaDoorMrF0
namespace Go.Proofs.YtelfiegocdjnoaaDoor.Ar
open Go Go.RowKit Go.Proofs.YtelfiegocdjnoaaDoor.Sep Go.Proofs.YtelfiegocdjnoaaDoor.Pg Go.Proofs.YtelfiegocdjnoaaDoorW.PrintWords Go.Proofs.YtelfiegocdjnoaaDoorW.PrintLast Go.Proofs.YtelfiegocdjnoaaDoorW.PrintMore Go.Proofs.YtelfiegocdjnoaaDoor.Q
set_option linter.unusedVariables false
set_option linter.unusedSimpArgs false
set_option maxHeartbeats 8000000
set_option maxRecDepth 100000
theorem given1 {c s o y b : Int} (h1 : isE 1 c s o y = true) (h2 : isE 1 c 0 0 b = true) (w : World) :
    Calls Tryd.prog 124 #[.agg #[.int .i64 1, .int .i64 c, .int .i64 s, .int .i64 o, .int .i64 y], .int .i64 b] w fun e w' => e = .returned (.tuple #[.agg #[.int .i64 1, .int .i64 c, .int .i64 0, .int .i64 0, .int .i64 b], .int .i64 0]) ∧ Below w.heap.size w w' := by
  have hr1 := right_ 0 1 c s o y
  have hr2 := right_ 0 1 c 0 0 b
  rw [h1] at hr1
  rw [h2] at hr2
  have HR1 := Aside.mk hr1
  have HR2 := Aside.mk hr2
  clear hr1 hr2 h1 h2
  have h0 := (((St.start w).alloc #[.int .i64 1, .int .i64 c, .int .i64 s, .int .i64 o, .int .i64 y] 168).alloc #[.int .i64 0, .int .i64 0, .int .i64 0, .int .i64 0, .int .i64 0] 168).alloc #[.int .i64 0, .int .i64 0, .int .i64 0, .int .i64 0, .int .i64 0] 168
  rw [show (w.alloc (.cells #[.int .i64 1, .int .i64 c, .int .i64 s, .int .i64 o, .int .i64 y] 168)).heap.size = w.heap.size + 1 by simp, show ((w.alloc (.cells #[.int .i64 1, .int .i64 c, .int .i64 s, .int .i64 o, .int .i64 y] 168)).alloc (.cells #[.int .i64 0, .int .i64 0, .int .i64 0, .int .i64 0, .int .i64 0] 168)).heap.size = w.heap.size + 1 + 1 by simp] at h0
  have H := Aside.mk h0
  clear h0
  go_enter Tryd.func124, Tryd.ntmps124
  go_wp2_with (with_reducible refine stop_at (.store 168 (.tmp 6) (.tmp 7)) rfl ?_)
  refine ⟨?_⟩
  refine st_store rfl rfl rfl [.int .i64 1, .int .i64 c, .int .i64 s, .int .i64 o, .int .i64 y] #[.int .i64 1, .int .i64 c, .int .i64 s, .int .i64 o, .int .i64 y] rfl rfl rfl (Nat.le_of_ble_eq_true rfl) (by simp [Value.oneCell']) (H.out) rfl ?_
  intro w1 h1
  replace H := Aside.mk h1
  clear h1
  go_wp2_with (with_reducible refine stop_at (.store 3 (.tmp 9) (.const (.int .i64 0))) rfl ?_)
  refine ⟨?_⟩
  refine st_store rfl rfl rfl [.int .i64 0] #[.int .i64 1, .int .i64 c, .int .i64 0, .int .i64 o, .int .i64 y] rfl rfl rfl (Nat.le_of_ble_eq_true rfl) (by simp [Value.oneCell']) (H.out) rfl ?_
  intro w1 h1
  replace H := Aside.mk h1
  clear h1
  go_wp2_with (with_reducible refine stop_at (.store 3 (.tmp 10) (.const (.int .i64 0))) rfl ?_)
  refine ⟨?_⟩
  refine st_store rfl rfl rfl [.int .i64 0] #[.int .i64 1, .int .i64 c, .int .i64 0, .int .i64 0, .int .i64 y] rfl rfl rfl (Nat.le_of_ble_eq_true rfl) (by simp [Value.oneCell']) (H.out) rfl ?_
  intro w1 h1
  replace H := Aside.mk h1
  clear h1
  go_wp2_with (with_reducible refine stop_at (.store 3 (.tmp 11) (.tmp 8)) rfl ?_)
  refine ⟨?_⟩
  refine st_store rfl rfl rfl [.int .i64 b] #[.int .i64 1, .int .i64 c, .int .i64 0, .int .i64 0, .int .i64 b] rfl rfl rfl (Nat.le_of_ble_eq_true rfl) (by simp [Value.oneCell']) (H.out) rfl ?_
  intro w1 h1
  replace H := Aside.mk h1
  clear h1
  have a0 := (H.out.pick 2 rfl).cell 0
  have a1 := (H.out.pick 2 rfl).cell 1
  have a2 := (H.out.pick 2 rfl).cell 2
  have a3 := (H.out.pick 2 rfl).cell 3
  have a4 := (H.out.pick 2 rfl).cell 4
  go_wp2_with (first
    | (go_at_call 165; with_reducible refine (header_Entry_right.calls _ 1 c s o y _ _ HR1.out).mono ?_; rintro e w2 ⟨rfl, hb⟩; replace H := Aside.mk (H.out.step hb); clear hb a0 a1 a2 a3 a4; have a0 := (H.out.pick 2 rfl).cell 0; have a1 := (H.out.pick 2 rfl).cell 1; have a2 := (H.out.pick 2 rfl).cell 2; have a3 := (H.out.pick 2 rfl).cell 3; have a4 := (H.out.pick 2 rfl).cell 4; have b0 := (H.out.pick 0 rfl).cell 0; have b1 := (H.out.pick 0 rfl).cell 1; have b2 := (H.out.pick 0 rfl).cell 2; have b3 := (H.out.pick 0 rfl).cell 3; have b4 := (H.out.pick 0 rfl).cell 4)
    | (go_at_call 165; with_reducible refine (header_Entry_right.calls _ 1 c 0 0 b _ _ HR2.out).mono ?_; rintro e w3 ⟨rfl, hb⟩; replace H := Aside.mk (H.out.step hb); clear hb a0 a1 a2 a3 a4 b0 b1 b2 b3 b4; have b0 := H.out.cell 0; have b1 := H.out.cell 1; have b2 := H.out.cell 2; have b3 := H.out.cell 3; have b4 := H.out.cell 4)
    | (with_reducible refine stop_at (.store 168 (.tmp 4) (.tmp 31)) rfl ?_))
  refine ⟨?_⟩
  refine st_store rfl rfl rfl [.int .i64 1, .int .i64 c, .int .i64 0, .int .i64 0, .int .i64 b] #[.int .i64 1, .int .i64 c, .int .i64 0, .int .i64 0, .int .i64 b] rfl rfl rfl (Nat.le_of_ble_eq_true rfl) (by simp [Value.oneCell']) (H.out.pick 1 rfl) rfl ?_
  intro w4 h4
  replace H := Aside.mk h4
  clear h4 b0 b1 b2 b3 b4
  have b0 := H.out.cell 0
  have b1 := H.out.cell 1
  have b2 := H.out.cell 2
  have b3 := H.out.cell 3
  have b4 := H.out.cell 4
  go_wp2
  refine bodyPost_ret (results_ct rfl _ _ _ 168 #[.int .i64 1, .int .i64 c, .int .i64 0, .int .i64 0, .int .i64 b] (0, 0) _ rfl H.out.heap Tryd.underlying168 rfl (by kernel_rfl)) rfl ?_
  exact ⟨rfl, H.out.below⟩
theorem given2 {c s o y b : Int} (h1 : isE 2 c s o y = true) (h2 : isE 2 c 0 0 b = true) (w : World) :
    Calls Tryd.prog 124 #[.agg #[.int .i64 2, .int .i64 c, .int .i64 s, .int .i64 o, .int .i64 y], .int .i64 b] w fun e w' => e = .returned (.tuple #[.agg #[.int .i64 2, .int .i64 c, .int .i64 0, .int .i64 0, .int .i64 b], .int .i64 0]) ∧ Below w.heap.size w w' := by
  have hr1 := right_ 0 2 c s o y
  have hr2 := right_ 0 2 c 0 0 b
  rw [h1] at hr1
  rw [h2] at hr2
  have HR1 := Aside.mk hr1
  have HR2 := Aside.mk hr2
  clear hr1 hr2 h1 h2
  have h0 := (((St.start w).alloc #[.int .i64 2, .int .i64 c, .int .i64 s, .int .i64 o, .int .i64 y] 168).alloc #[.int .i64 0, .int .i64 0, .int .i64 0, .int .i64 0, .int .i64 0] 168).alloc #[.int .i64 0, .int .i64 0, .int .i64 0, .int .i64 0, .int .i64 0] 168
  rw [show (w.alloc (.cells #[.int .i64 2, .int .i64 c, .int .i64 s, .int .i64 o, .int .i64 y] 168)).heap.size = w.heap.size + 1 by simp, show ((w.alloc (.cells #[.int .i64 2, .int .i64 c, .int .i64 s, .int .i64 o, .int .i64 y] 168)).alloc (.cells #[.int .i64 0, .int .i64 0, .int .i64 0, .int .i64 0, .int .i64 0] 168)).heap.size = w.heap.size + 1 + 1 by simp] at h0
  have H := Aside.mk h0
  clear h0
  go_enter Tryd.func124, Tryd.ntmps124
  go_wp2_with (with_reducible refine stop_at (.store 168 (.tmp 6) (.tmp 7)) rfl ?_)
  refine ⟨?_⟩
  refine st_store rfl rfl rfl [.int .i64 2, .int .i64 c, .int .i64 s, .int .i64 o, .int .i64 y] #[.int .i64 2, .int .i64 c, .int .i64 s, .int .i64 o, .int .i64 y] rfl rfl rfl (Nat.le_of_ble_eq_true rfl) (by simp [Value.oneCell']) (H.out) rfl ?_
  intro w1 h1
  replace H := Aside.mk h1
  clear h1
  go_wp2_with (with_reducible refine stop_at (.store 3 (.tmp 9) (.const (.int .i64 0))) rfl ?_)
  refine ⟨?_⟩
  refine st_store rfl rfl rfl [.int .i64 0] #[.int .i64 2, .int .i64 c, .int .i64 0, .int .i64 o, .int .i64 y] rfl rfl rfl (Nat.le_of_ble_eq_true rfl) (by simp [Value.oneCell']) (H.out) rfl ?_
  intro w1 h1
  replace H := Aside.mk h1
  clear h1
  go_wp2_with (with_reducible refine stop_at (.store 3 (.tmp 10) (.const (.int .i64 0))) rfl ?_)
  refine ⟨?_⟩
  refine st_store rfl rfl rfl [.int .i64 0] #[.int .i64 2, .int .i64 c, .int .i64 0, .int .i64 0, .int .i64 y] rfl rfl rfl (Nat.le_of_ble_eq_true rfl) (by simp [Value.oneCell']) (H.out) rfl ?_
  intro w1 h1
  replace H := Aside.mk h1
  clear h1
  go_wp2_with (with_reducible refine stop_at (.store 3 (.tmp 11) (.tmp 8)) rfl ?_)
  refine ⟨?_⟩
  refine st_store rfl rfl rfl [.int .i64 b] #[.int .i64 2, .int .i64 c, .int .i64 0, .int .i64 0, .int .i64 b] rfl rfl rfl (Nat.le_of_ble_eq_true rfl) (by simp [Value.oneCell']) (H.out) rfl ?_
  intro w1 h1
  replace H := Aside.mk h1
  clear h1
  have a0 := (H.out.pick 2 rfl).cell 0
  have a1 := (H.out.pick 2 rfl).cell 1
  have a2 := (H.out.pick 2 rfl).cell 2
  have a3 := (H.out.pick 2 rfl).cell 3
  have a4 := (H.out.pick 2 rfl).cell 4
  go_wp2_with (first
    | (go_at_call 165; with_reducible refine (header_Entry_right.calls _ 2 c s o y _ _ HR1.out).mono ?_; rintro e w2 ⟨rfl, hb⟩; replace H := Aside.mk (H.out.step hb); clear hb a0 a1 a2 a3 a4; have a0 := (H.out.pick 2 rfl).cell 0; have a1 := (H.out.pick 2 rfl).cell 1; have a2 := (H.out.pick 2 rfl).cell 2; have a3 := (H.out.pick 2 rfl).cell 3; have a4 := (H.out.pick 2 rfl).cell 4; have b0 := (H.out.pick 0 rfl).cell 0; have b1 := (H.out.pick 0 rfl).cell 1; have b2 := (H.out.pick 0 rfl).cell 2; have b3 := (H.out.pick 0 rfl).cell 3; have b4 := (H.out.pick 0 rfl).cell 4)
    | (go_at_call 165; with_reducible refine (header_Entry_right.calls _ 2 c 0 0 b _ _ HR2.out).mono ?_; rintro e w3 ⟨rfl, hb⟩; replace H := Aside.mk (H.out.step hb); clear hb a0 a1 a2 a3 a4 b0 b1 b2 b3 b4; have b0 := H.out.cell 0; have b1 := H.out.cell 1; have b2 := H.out.cell 2; have b3 := H.out.cell 3; have b4 := H.out.cell 4)
    | (with_reducible refine stop_at (.store 168 (.tmp 4) (.tmp 31)) rfl ?_))
  refine ⟨?_⟩
  refine st_store rfl rfl rfl [.int .i64 2, .int .i64 c, .int .i64 0, .int .i64 0, .int .i64 b] #[.int .i64 2, .int .i64 c, .int .i64 0, .int .i64 0, .int .i64 b] rfl rfl rfl (Nat.le_of_ble_eq_true rfl) (by simp [Value.oneCell']) (H.out.pick 1 rfl) rfl ?_
  intro w4 h4
  replace H := Aside.mk h4
  clear h4 b0 b1 b2 b3 b4
  have b0 := H.out.cell 0
  have b1 := H.out.cell 1
  have b2 := H.out.cell 2
  have b3 := H.out.cell 3
  have b4 := H.out.cell 4
  go_wp2
  refine bodyPost_ret (results_ct rfl _ _ _ 168 #[.int .i64 2, .int .i64 c, .int .i64 0, .int .i64 0, .int .i64 b] (0, 0) _ rfl H.out.heap Tryd.underlying168 rfl (by kernel_rfl)) rfl ?_
  exact ⟨rfl, H.out.below⟩
theorem given_c {k c s o y b : Int} (h1 : isE k c s o y = true) (hk : k = 1 ∨ k = 2) (h2 : isE k c 0 0 b = true) (w : World) :
    Calls Tryd.prog 124 #[.agg #[.int .i64 k, .int .i64 c, .int .i64 s, .int .i64 o, .int .i64 y], .int .i64 b] w fun e w' => e = .returned (.tuple #[.agg #[.int .i64 k, .int .i64 c, .int .i64 0, .int .i64 0, .int .i64 b], .int .i64 0]) ∧ Below w.heap.size w w' := by
  rcases hk with rfl | rfl
  · exact given1 h1 h2 w
  · exact given2 h1 h2 w
theorem taken_c {k c s o y b t : Int} (h1 : isE k c s o y = true) (h2 : isE k c b t y = true) (w : World) :
    Calls Tryd.prog 155 #[.agg #[.int .i64 k, .int .i64 c, .int .i64 s, .int .i64 o, .int .i64 y], .int .i64 b, .int .i64 t] w fun e w' => e = .returned (.tuple #[.agg #[.int .i64 k, .int .i64 c, .int .i64 b, .int .i64 t, .int .i64 y], .int .i64 0]) ∧ Below w.heap.size w w' := by
  have hr1 := right_ 0 k c s o y
  have hr2 := right_ 0 k c b t y
  rw [h1] at hr1
  rw [h2] at hr2
  have HR1 := Aside.mk hr1
  have HR2 := Aside.mk hr2
  clear hr1 hr2 h1 h2
  have h0 := (((St.start w).alloc #[.int .i64 k, .int .i64 c, .int .i64 s, .int .i64 o, .int .i64 y] 168).alloc #[.int .i64 0, .int .i64 0, .int .i64 0, .int .i64 0, .int .i64 0] 168).alloc #[.int .i64 0, .int .i64 0, .int .i64 0, .int .i64 0, .int .i64 0] 168
  rw [show (w.alloc (.cells #[.int .i64 k, .int .i64 c, .int .i64 s, .int .i64 o, .int .i64 y] 168)).heap.size = w.heap.size + 1 by simp, show ((w.alloc (.cells #[.int .i64 k, .int .i64 c, .int .i64 s, .int .i64 o, .int .i64 y] 168)).alloc (.cells #[.int .i64 0, .int .i64 0, .int .i64 0, .int .i64 0, .int .i64 0] 168)).heap.size = w.heap.size + 1 + 1 by simp] at h0
  have H := Aside.mk h0
  clear h0
  go_enter Tryd.func155, Tryd.ntmps155
  go_wp2_with (with_reducible refine stop_at (.store 168 (.tmp 8) (.tmp 9)) rfl ?_)
  refine ⟨?_⟩
  refine st_store rfl rfl rfl [.int .i64 k, .int .i64 c, .int .i64 s, .int .i64 o, .int .i64 y] #[.int .i64 k, .int .i64 c, .int .i64 s, .int .i64 o, .int .i64 y] rfl rfl rfl (Nat.le_of_ble_eq_true rfl) (by simp [Value.oneCell']) (H.out) rfl ?_
  intro w1 h1
  replace H := Aside.mk h1
  clear h1
  go_wp2_with (with_reducible refine stop_at (.store 3 (.tmp 12) (.tmp 10)) rfl ?_)
  refine ⟨?_⟩
  refine st_store rfl rfl rfl [.int .i64 b] #[.int .i64 k, .int .i64 c, .int .i64 b, .int .i64 o, .int .i64 y] rfl rfl rfl (Nat.le_of_ble_eq_true rfl) (by simp [Value.oneCell']) (H.out) rfl ?_
  intro w1 h1
  replace H := Aside.mk h1
  clear h1
  go_wp2_with (with_reducible refine stop_at (.store 3 (.tmp 13) (.tmp 11)) rfl ?_)
  refine ⟨?_⟩
  refine st_store rfl rfl rfl [.int .i64 t] #[.int .i64 k, .int .i64 c, .int .i64 b, .int .i64 t, .int .i64 y] rfl rfl rfl (Nat.le_of_ble_eq_true rfl) (by simp [Value.oneCell']) (H.out) rfl ?_
  intro w1 h1
  replace H := Aside.mk h1
  clear h1
  have a0 := (H.out.pick 2 rfl).cell 0
  have a1 := (H.out.pick 2 rfl).cell 1
  have a2 := (H.out.pick 2 rfl).cell 2
  have a3 := (H.out.pick 2 rfl).cell 3
  have a4 := (H.out.pick 2 rfl).cell 4
  go_wp2_with (first
    | (go_at_call 165; with_reducible refine (header_Entry_right.calls _ k c s o y _ _ HR1.out).mono ?_; rintro e w2 ⟨rfl, hb⟩; replace H := Aside.mk (H.out.step hb); clear hb a0 a1 a2 a3 a4; have a0 := (H.out.pick 2 rfl).cell 0; have a1 := (H.out.pick 2 rfl).cell 1; have a2 := (H.out.pick 2 rfl).cell 2; have a3 := (H.out.pick 2 rfl).cell 3; have a4 := (H.out.pick 2 rfl).cell 4; have b0 := (H.out.pick 0 rfl).cell 0; have b1 := (H.out.pick 0 rfl).cell 1; have b2 := (H.out.pick 0 rfl).cell 2; have b3 := (H.out.pick 0 rfl).cell 3; have b4 := (H.out.pick 0 rfl).cell 4)
    | (go_at_call 165; with_reducible refine (header_Entry_right.calls _ k c b t y _ _ HR2.out).mono ?_; rintro e w3 ⟨rfl, hb⟩; replace H := Aside.mk (H.out.step hb); clear hb a0 a1 a2 a3 a4 b0 b1 b2 b3 b4; have b0 := H.out.cell 0; have b1 := H.out.cell 1; have b2 := H.out.cell 2; have b3 := H.out.cell 3; have b4 := H.out.cell 4)
    | (with_reducible refine stop_at (.store 168 (.tmp 6) (.tmp 23)) rfl ?_))
  refine ⟨?_⟩
  refine st_store rfl rfl rfl [.int .i64 k, .int .i64 c, .int .i64 b, .int .i64 t, .int .i64 y] #[.int .i64 k, .int .i64 c, .int .i64 b, .int .i64 t, .int .i64 y] rfl rfl rfl (Nat.le_of_ble_eq_true rfl) (by simp [Value.oneCell']) (H.out.pick 1 rfl) rfl ?_
  intro w4 h4
  replace H := Aside.mk h4
  clear h4 b0 b1 b2 b3 b4
  have b0 := H.out.cell 0
  have b1 := H.out.cell 1
  have b2 := H.out.cell 2
  have b3 := H.out.cell 3
  have b4 := H.out.cell 4
  go_wp2
  refine bodyPost_ret (results_ct rfl _ _ _ 168 #[.int .i64 k, .int .i64 c, .int .i64 b, .int .i64 t, .int .i64 y] (0, 0) _ rfl H.out.heap Tryd.underlying168 rfl (by kernel_rfl)) rfl ?_
  exact ⟨rfl, H.out.below⟩
end Go.Proofs.YtelfiegocdjnoaaDoor.Ar
