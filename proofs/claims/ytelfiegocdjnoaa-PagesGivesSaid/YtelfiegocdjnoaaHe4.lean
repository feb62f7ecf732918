/- The document's Given: short contracts. No condition. -/
import Derived.Test.YtelfiegocdjnoaaAr0
import Derived.Test.YtelfiegocdjnoaaHe
import Derived.Test.YtelfiegocdjnoaaPg2
import Derived.Test.YtelfiegocdjnoaaPw3
import Derived.Test.YtelfiegocdjnoaaStp
import Derived.Test.YtelfiegocdjnoaaPg3
import Derived.Test.YtelfiegocdjnoaaWk
import Derived.StillTailTactics
import Derived.OwnWalk
import Derived.WalkKit
import Derived.KernelRfl
import Derived.BigQuiet
import Derived.Deep.QuietTactic
import Derived.Test.YtelfiegocdjnoaaMrF0
import Derived.Test.YtelfiegocdjnoaaMrF1
namespace Go.Proofs.Ytelfiegocdjnoaa.Ar
open Go Go.RowKit Go.Proofs.Ytelfiegocdjnoaa.Sep Go.Proofs.Ytelfiegocdjnoaa.Pg Go.Proofs.YtelfiegocdjnoaaW.PrintWords Go.Proofs.YtelfiegocdjnoaaW.PrintLast Go.Proofs.YtelfiegocdjnoaaW.PrintMore Go.Proofs.Ytelfiegocdjnoaa.Q
set_option linter.unusedVariables false
set_option linter.unusedSimpArgs false
set_option maxHeartbeats 8000000
set_option maxRecDepth 100000
theorem rgiven_e1 {k c s o y b : Int} (h1 : isE k c s o y = false) (w : World) :
    Calls Try.prog 31 #[.agg #[.int .i64 k, .int .i64 c, .int .i64 s, .int .i64 o, .int .i64 y], .int .i64 b] w fun e w' => e = .returned (.tuple #[.agg #[.int .i64 0, .int .i64 0, .int .i64 0, .int .i64 0, .int .i64 0], .int .i64 4]) ∧ Below w.heap.size w w' := by
  have hr1 := entry_ 0 k c s o y
  rw [h1] at hr1
  have HR1 := Aside.mk hr1
  clear hr1 h1
  have h0 := (((St.start w).alloc #[.int .i64 k, .int .i64 c, .int .i64 s, .int .i64 o, .int .i64 y] 32).alloc #[.int .i64 0, .int .i64 0, .int .i64 0, .int .i64 0, .int .i64 0] 32).alloc #[.int .i64 0, .int .i64 0, .int .i64 0, .int .i64 0, .int .i64 0] 32
  rw [show (w.alloc (.cells #[.int .i64 k, .int .i64 c, .int .i64 s, .int .i64 o, .int .i64 y] 32)).heap.size = w.heap.size + 1 by simp, show ((w.alloc (.cells #[.int .i64 k, .int .i64 c, .int .i64 s, .int .i64 o, .int .i64 y] 32)).alloc (.cells #[.int .i64 0, .int .i64 0, .int .i64 0, .int .i64 0, .int .i64 0] 32)).heap.size = w.heap.size + 1 + 1 by simp] at h0
  have H := Aside.mk h0
  clear h0
  go_enter Try.func31, Try.ntmps31
  go_wp2_with (with_reducible refine stop_at (.store 32 (.tmp 6) (.tmp 12)) rfl ?_)
  refine ⟨?_⟩
  refine st_store rfl rfl rfl [.int .i64 k, .int .i64 c, .int .i64 0, .int .i64 0, .int .i64 b] #[.int .i64 k, .int .i64 c, .int .i64 0, .int .i64 0, .int .i64 b] rfl rfl rfl (Nat.le_of_ble_eq_true rfl) (by simp [Value.oneCell']) (H.out) rfl ?_
  intro w1 h1
  replace H := Aside.mk h1
  clear h1
  have a0 := (H.out.pick 2 rfl).cell 0
  have a1 := (H.out.pick 2 rfl).cell 1
  have a2 := (H.out.pick 2 rfl).cell 2
  have a3 := (H.out.pick 2 rfl).cell 3
  have a4 := (H.out.pick 2 rfl).cell 4
  go_wp2_with (first
    | (go_at_call 62; with_reducible refine (windrowref02_IsEntry.calls _ k c s o y _ _ HR1.out).mono ?_; rintro e w2 ⟨rfl, hb⟩; replace H := Aside.mk (H.out.step hb); clear hb a0 a1 a2 a3 a4; have a0 := (H.out.pick 2 rfl).cell 0; have a1 := (H.out.pick 2 rfl).cell 1; have a2 := (H.out.pick 2 rfl).cell 2; have a3 := (H.out.pick 2 rfl).cell 3; have a4 := (H.out.pick 2 rfl).cell 4; have b0 := (H.out.pick 0 rfl).cell 0; have b1 := (H.out.pick 0 rfl).cell 1; have b2 := (H.out.pick 0 rfl).cell 2; have b3 := (H.out.pick 0 rfl).cell 3; have b4 := (H.out.pick 0 rfl).cell 4)
    | (with_reducible refine stop_at (.store 32 (.tmp 4) (.tmp 31)) rfl ?_))
  refine ⟨?_⟩
  refine st_store rfl rfl rfl [.int .i64 0, .int .i64 0, .int .i64 0, .int .i64 0, .int .i64 0] #[.int .i64 0, .int .i64 0, .int .i64 0, .int .i64 0, .int .i64 0] rfl rfl rfl (Nat.le_of_ble_eq_true rfl) (by simp [Value.oneCell']) (H.out.pick 1 rfl) rfl ?_
  intro w4 h4
  replace H := Aside.mk h4
  clear h4
  go_wp2
  refine bodyPost_ret (results_ct rfl _ _ _ 32 #[.int .i64 0, .int .i64 0, .int .i64 0, .int .i64 0, .int .i64 0] (0, 0) _ rfl H.out.heap Try.underlying32 rfl (by kernel_rfl)) rfl ?_
  exact ⟨rfl, H.out.below⟩
theorem rgiven_e20 {c s o y b : Int} (h1 : isE 0 c s o y = true) (w : World) :
    Calls Try.prog 31 #[.agg #[.int .i64 0, .int .i64 c, .int .i64 s, .int .i64 o, .int .i64 y], .int .i64 b] w fun e w' => e = .returned (.tuple #[.agg #[.int .i64 0, .int .i64 0, .int .i64 0, .int .i64 0, .int .i64 0], .int .i64 4]) ∧ Below w.heap.size w w' := by
  have hr1 := entry_ 0 0 c s o y
  rw [h1] at hr1
  have HR1 := Aside.mk hr1
  clear hr1 h1
  have h0 := (((St.start w).alloc #[.int .i64 0, .int .i64 c, .int .i64 s, .int .i64 o, .int .i64 y] 32).alloc #[.int .i64 0, .int .i64 0, .int .i64 0, .int .i64 0, .int .i64 0] 32).alloc #[.int .i64 0, .int .i64 0, .int .i64 0, .int .i64 0, .int .i64 0] 32
  rw [show (w.alloc (.cells #[.int .i64 0, .int .i64 c, .int .i64 s, .int .i64 o, .int .i64 y] 32)).heap.size = w.heap.size + 1 by simp, show ((w.alloc (.cells #[.int .i64 0, .int .i64 c, .int .i64 s, .int .i64 o, .int .i64 y] 32)).alloc (.cells #[.int .i64 0, .int .i64 0, .int .i64 0, .int .i64 0, .int .i64 0] 32)).heap.size = w.heap.size + 1 + 1 by simp] at h0
  have H := Aside.mk h0
  clear h0
  go_enter Try.func31, Try.ntmps31
  go_wp2_with (with_reducible refine stop_at (.store 32 (.tmp 6) (.tmp 12)) rfl ?_)
  refine ⟨?_⟩
  refine st_store rfl rfl rfl [.int .i64 0, .int .i64 c, .int .i64 0, .int .i64 0, .int .i64 b] #[.int .i64 0, .int .i64 c, .int .i64 0, .int .i64 0, .int .i64 b] rfl rfl rfl (Nat.le_of_ble_eq_true rfl) (by simp [Value.oneCell']) (H.out) rfl ?_
  intro w1 h1
  replace H := Aside.mk h1
  clear h1
  have a0 := (H.out.pick 2 rfl).cell 0
  have a1 := (H.out.pick 2 rfl).cell 1
  have a2 := (H.out.pick 2 rfl).cell 2
  have a3 := (H.out.pick 2 rfl).cell 3
  have a4 := (H.out.pick 2 rfl).cell 4
  go_wp2_with (first
    | (go_at_call 62; with_reducible refine (windrowref02_IsEntry.calls _ 0 c s o y _ _ HR1.out).mono ?_; rintro e w2 ⟨rfl, hb⟩; replace H := Aside.mk (H.out.step hb); clear hb a0 a1 a2 a3 a4; have a0 := (H.out.pick 2 rfl).cell 0; have a1 := (H.out.pick 2 rfl).cell 1; have a2 := (H.out.pick 2 rfl).cell 2; have a3 := (H.out.pick 2 rfl).cell 3; have a4 := (H.out.pick 2 rfl).cell 4; have b0 := (H.out.pick 0 rfl).cell 0; have b1 := (H.out.pick 0 rfl).cell 1; have b2 := (H.out.pick 0 rfl).cell 2; have b3 := (H.out.pick 0 rfl).cell 3; have b4 := (H.out.pick 0 rfl).cell 4)
    | (with_reducible refine stop_at (.store 32 (.tmp 4) (.tmp 31)) rfl ?_))
  refine ⟨?_⟩
  refine st_store rfl rfl rfl [.int .i64 0, .int .i64 0, .int .i64 0, .int .i64 0, .int .i64 0] #[.int .i64 0, .int .i64 0, .int .i64 0, .int .i64 0, .int .i64 0] rfl rfl rfl (Nat.le_of_ble_eq_true rfl) (by simp [Value.oneCell']) (H.out.pick 1 rfl) rfl ?_
  intro w4 h4
  replace H := Aside.mk h4
  clear h4
  go_wp2
  refine bodyPost_ret (results_ct rfl _ _ _ 32 #[.int .i64 0, .int .i64 0, .int .i64 0, .int .i64 0, .int .i64 0] (0, 0) _ rfl H.out.heap Try.underlying32 rfl (by kernel_rfl)) rfl ?_
  exact ⟨rfl, H.out.below⟩
theorem rgiven_e23 {c s o y b : Int} (h1 : isE 3 c s o y = true) (w : World) :
    Calls Try.prog 31 #[.agg #[.int .i64 3, .int .i64 c, .int .i64 s, .int .i64 o, .int .i64 y], .int .i64 b] w fun e w' => e = .returned (.tuple #[.agg #[.int .i64 0, .int .i64 0, .int .i64 0, .int .i64 0, .int .i64 0], .int .i64 4]) ∧ Below w.heap.size w w' := by
  have hr1 := entry_ 0 3 c s o y
  rw [h1] at hr1
  have HR1 := Aside.mk hr1
  clear hr1 h1
  have h0 := (((St.start w).alloc #[.int .i64 3, .int .i64 c, .int .i64 s, .int .i64 o, .int .i64 y] 32).alloc #[.int .i64 0, .int .i64 0, .int .i64 0, .int .i64 0, .int .i64 0] 32).alloc #[.int .i64 0, .int .i64 0, .int .i64 0, .int .i64 0, .int .i64 0] 32
  rw [show (w.alloc (.cells #[.int .i64 3, .int .i64 c, .int .i64 s, .int .i64 o, .int .i64 y] 32)).heap.size = w.heap.size + 1 by simp, show ((w.alloc (.cells #[.int .i64 3, .int .i64 c, .int .i64 s, .int .i64 o, .int .i64 y] 32)).alloc (.cells #[.int .i64 0, .int .i64 0, .int .i64 0, .int .i64 0, .int .i64 0] 32)).heap.size = w.heap.size + 1 + 1 by simp] at h0
  have H := Aside.mk h0
  clear h0
  go_enter Try.func31, Try.ntmps31
  go_wp2_with (with_reducible refine stop_at (.store 32 (.tmp 6) (.tmp 12)) rfl ?_)
  refine ⟨?_⟩
  refine st_store rfl rfl rfl [.int .i64 3, .int .i64 c, .int .i64 0, .int .i64 0, .int .i64 b] #[.int .i64 3, .int .i64 c, .int .i64 0, .int .i64 0, .int .i64 b] rfl rfl rfl (Nat.le_of_ble_eq_true rfl) (by simp [Value.oneCell']) (H.out) rfl ?_
  intro w1 h1
  replace H := Aside.mk h1
  clear h1
  have a0 := (H.out.pick 2 rfl).cell 0
  have a1 := (H.out.pick 2 rfl).cell 1
  have a2 := (H.out.pick 2 rfl).cell 2
  have a3 := (H.out.pick 2 rfl).cell 3
  have a4 := (H.out.pick 2 rfl).cell 4
  go_wp2_with (first
    | (go_at_call 62; with_reducible refine (windrowref02_IsEntry.calls _ 3 c s o y _ _ HR1.out).mono ?_; rintro e w2 ⟨rfl, hb⟩; replace H := Aside.mk (H.out.step hb); clear hb a0 a1 a2 a3 a4; have a0 := (H.out.pick 2 rfl).cell 0; have a1 := (H.out.pick 2 rfl).cell 1; have a2 := (H.out.pick 2 rfl).cell 2; have a3 := (H.out.pick 2 rfl).cell 3; have a4 := (H.out.pick 2 rfl).cell 4; have b0 := (H.out.pick 0 rfl).cell 0; have b1 := (H.out.pick 0 rfl).cell 1; have b2 := (H.out.pick 0 rfl).cell 2; have b3 := (H.out.pick 0 rfl).cell 3; have b4 := (H.out.pick 0 rfl).cell 4)
    | (with_reducible refine stop_at (.store 32 (.tmp 4) (.tmp 31)) rfl ?_))
  refine ⟨?_⟩
  refine st_store rfl rfl rfl [.int .i64 0, .int .i64 0, .int .i64 0, .int .i64 0, .int .i64 0] #[.int .i64 0, .int .i64 0, .int .i64 0, .int .i64 0, .int .i64 0] rfl rfl rfl (Nat.le_of_ble_eq_true rfl) (by simp [Value.oneCell']) (H.out.pick 1 rfl) rfl ?_
  intro w4 h4
  replace H := Aside.mk h4
  clear h4
  go_wp2
  refine bodyPost_ret (results_ct rfl _ _ _ 32 #[.int .i64 0, .int .i64 0, .int .i64 0, .int .i64 0, .int .i64 0] (0, 0) _ rfl H.out.heap Try.underlying32 rfl (by kernel_rfl)) rfl ?_
  exact ⟨rfl, H.out.below⟩
theorem rgiven_e31 {c s o y b : Int} (h1 : isE 1 c s o y = true) (h2 : isE 1 c 0 0 b = false) (w : World) :
    Calls Try.prog 31 #[.agg #[.int .i64 1, .int .i64 c, .int .i64 s, .int .i64 o, .int .i64 y], .int .i64 b] w fun e w' => e = .returned (.tuple #[.agg #[.int .i64 0, .int .i64 0, .int .i64 0, .int .i64 0, .int .i64 0], .int .i64 4]) ∧ Below w.heap.size w w' := by
  have hr1 := entry_ 0 1 c s o y
  rw [h1] at hr1
  have HR1 := Aside.mk hr1
  clear hr1 h1
  have hr2 := entry_ 0 1 c 0 0 b
  rw [h2] at hr2
  have HR2 := Aside.mk hr2
  clear hr2 h2
  have h0 := (((St.start w).alloc #[.int .i64 1, .int .i64 c, .int .i64 s, .int .i64 o, .int .i64 y] 32).alloc #[.int .i64 0, .int .i64 0, .int .i64 0, .int .i64 0, .int .i64 0] 32).alloc #[.int .i64 0, .int .i64 0, .int .i64 0, .int .i64 0, .int .i64 0] 32
  rw [show (w.alloc (.cells #[.int .i64 1, .int .i64 c, .int .i64 s, .int .i64 o, .int .i64 y] 32)).heap.size = w.heap.size + 1 by simp, show ((w.alloc (.cells #[.int .i64 1, .int .i64 c, .int .i64 s, .int .i64 o, .int .i64 y] 32)).alloc (.cells #[.int .i64 0, .int .i64 0, .int .i64 0, .int .i64 0, .int .i64 0] 32)).heap.size = w.heap.size + 1 + 1 by simp] at h0
  have H := Aside.mk h0
  clear h0
  go_enter Try.func31, Try.ntmps31
  go_wp2_with (with_reducible refine stop_at (.store 32 (.tmp 6) (.tmp 12)) rfl ?_)
  refine ⟨?_⟩
  refine st_store rfl rfl rfl [.int .i64 1, .int .i64 c, .int .i64 0, .int .i64 0, .int .i64 b] #[.int .i64 1, .int .i64 c, .int .i64 0, .int .i64 0, .int .i64 b] rfl rfl rfl (Nat.le_of_ble_eq_true rfl) (by simp [Value.oneCell']) (H.out) rfl ?_
  intro w1 h1
  replace H := Aside.mk h1
  clear h1
  have a0 := (H.out.pick 2 rfl).cell 0
  have a1 := (H.out.pick 2 rfl).cell 1
  have a2 := (H.out.pick 2 rfl).cell 2
  have a3 := (H.out.pick 2 rfl).cell 3
  have a4 := (H.out.pick 2 rfl).cell 4
  go_wp2_with (first
    | (go_at_call 62; with_reducible refine (windrowref02_IsEntry.calls _ 1 c s o y _ _ HR1.out).mono ?_; rintro e w2 ⟨rfl, hb⟩; replace H := Aside.mk (H.out.step hb); clear hb a0 a1 a2 a3 a4; have a0 := (H.out.pick 2 rfl).cell 0; have a1 := (H.out.pick 2 rfl).cell 1; have a2 := (H.out.pick 2 rfl).cell 2; have a3 := (H.out.pick 2 rfl).cell 3; have a4 := (H.out.pick 2 rfl).cell 4; have b0 := (H.out.pick 0 rfl).cell 0; have b1 := (H.out.pick 0 rfl).cell 1; have b2 := (H.out.pick 0 rfl).cell 2; have b3 := (H.out.pick 0 rfl).cell 3; have b4 := (H.out.pick 0 rfl).cell 4)
    | (go_at_call 62; with_reducible refine (windrowref02_IsEntry.calls _ 1 c 0 0 b _ _ HR2.out).mono ?_; rintro e w3 ⟨rfl, hb⟩; replace H := Aside.mk (H.out.step hb); clear hb a0 a1 a2 a3 a4 b0 b1 b2 b3 b4; have b0 := H.out.cell 0; have b1 := H.out.cell 1; have b2 := H.out.cell 2; have b3 := H.out.cell 3; have b4 := H.out.cell 4)
    | (with_reducible refine stop_at (.store 32 (.tmp 4) (.tmp 31)) rfl ?_))
  refine ⟨?_⟩
  refine st_store rfl rfl rfl [.int .i64 0, .int .i64 0, .int .i64 0, .int .i64 0, .int .i64 0] #[.int .i64 0, .int .i64 0, .int .i64 0, .int .i64 0, .int .i64 0] rfl rfl rfl (Nat.le_of_ble_eq_true rfl) (by simp [Value.oneCell']) (H.out.pick 1 rfl) rfl ?_
  intro w4 h4
  replace H := Aside.mk h4
  clear h4
  go_wp2
  refine bodyPost_ret (results_ct rfl _ _ _ 32 #[.int .i64 0, .int .i64 0, .int .i64 0, .int .i64 0, .int .i64 0] (0, 0) _ rfl H.out.heap Try.underlying32 rfl (by kernel_rfl)) rfl ?_
  exact ⟨rfl, H.out.below⟩
theorem rgiven_y1 {c s o y b : Int} (h1 : isE 1 c s o y = true) (h2 : isE 1 c 0 0 b = true) (w : World) :
    Calls Try.prog 31 #[.agg #[.int .i64 1, .int .i64 c, .int .i64 s, .int .i64 o, .int .i64 y], .int .i64 b] w fun e w' => e = .returned (.tuple #[.agg #[.int .i64 1, .int .i64 c, .int .i64 0, .int .i64 0, .int .i64 b], .int .i64 0]) ∧ Below w.heap.size w w' := by
  have hr1 := entry_ 0 1 c s o y
  rw [h1] at hr1
  have HR1 := Aside.mk hr1
  clear hr1 h1
  have hr2 := entry_ 0 1 c 0 0 b
  rw [h2] at hr2
  have HR2 := Aside.mk hr2
  clear hr2 h2
  have h0 := (((St.start w).alloc #[.int .i64 1, .int .i64 c, .int .i64 s, .int .i64 o, .int .i64 y] 32).alloc #[.int .i64 0, .int .i64 0, .int .i64 0, .int .i64 0, .int .i64 0] 32).alloc #[.int .i64 0, .int .i64 0, .int .i64 0, .int .i64 0, .int .i64 0] 32
  rw [show (w.alloc (.cells #[.int .i64 1, .int .i64 c, .int .i64 s, .int .i64 o, .int .i64 y] 32)).heap.size = w.heap.size + 1 by simp, show ((w.alloc (.cells #[.int .i64 1, .int .i64 c, .int .i64 s, .int .i64 o, .int .i64 y] 32)).alloc (.cells #[.int .i64 0, .int .i64 0, .int .i64 0, .int .i64 0, .int .i64 0] 32)).heap.size = w.heap.size + 1 + 1 by simp] at h0
  have H := Aside.mk h0
  clear h0
  go_enter Try.func31, Try.ntmps31
  go_wp2_with (with_reducible refine stop_at (.store 32 (.tmp 6) (.tmp 12)) rfl ?_)
  refine ⟨?_⟩
  refine st_store rfl rfl rfl [.int .i64 1, .int .i64 c, .int .i64 0, .int .i64 0, .int .i64 b] #[.int .i64 1, .int .i64 c, .int .i64 0, .int .i64 0, .int .i64 b] rfl rfl rfl (Nat.le_of_ble_eq_true rfl) (by simp [Value.oneCell']) (H.out) rfl ?_
  intro w1 h1
  replace H := Aside.mk h1
  clear h1
  have a0 := (H.out.pick 2 rfl).cell 0
  have a1 := (H.out.pick 2 rfl).cell 1
  have a2 := (H.out.pick 2 rfl).cell 2
  have a3 := (H.out.pick 2 rfl).cell 3
  have a4 := (H.out.pick 2 rfl).cell 4
  go_wp2_with (first
    | (go_at_call 62; with_reducible refine (windrowref02_IsEntry.calls _ 1 c s o y _ _ HR1.out).mono ?_; rintro e w2 ⟨rfl, hb⟩; replace H := Aside.mk (H.out.step hb); clear hb a0 a1 a2 a3 a4; have a0 := (H.out.pick 2 rfl).cell 0; have a1 := (H.out.pick 2 rfl).cell 1; have a2 := (H.out.pick 2 rfl).cell 2; have a3 := (H.out.pick 2 rfl).cell 3; have a4 := (H.out.pick 2 rfl).cell 4; have b0 := (H.out.pick 0 rfl).cell 0; have b1 := (H.out.pick 0 rfl).cell 1; have b2 := (H.out.pick 0 rfl).cell 2; have b3 := (H.out.pick 0 rfl).cell 3; have b4 := (H.out.pick 0 rfl).cell 4)
    | (go_at_call 62; with_reducible refine (windrowref02_IsEntry.calls _ 1 c 0 0 b _ _ HR2.out).mono ?_; rintro e w3 ⟨rfl, hb⟩; replace H := Aside.mk (H.out.step hb); clear hb a0 a1 a2 a3 a4 b0 b1 b2 b3 b4; have b0 := H.out.cell 0; have b1 := H.out.cell 1; have b2 := H.out.cell 2; have b3 := H.out.cell 3; have b4 := H.out.cell 4)
    | (with_reducible refine stop_at (.store 32 (.tmp 4) (.tmp 32)) rfl ?_))
  refine ⟨?_⟩
  refine st_store rfl rfl rfl [.int .i64 1, .int .i64 c, .int .i64 0, .int .i64 0, .int .i64 b] #[.int .i64 1, .int .i64 c, .int .i64 0, .int .i64 0, .int .i64 b] rfl rfl rfl (Nat.le_of_ble_eq_true rfl) (by simp [Value.oneCell']) (H.out.pick 1 rfl) rfl ?_
  intro w4 h4
  replace H := Aside.mk h4
  clear h4
  go_wp2
  refine bodyPost_ret (results_ct rfl _ _ _ 32 #[.int .i64 1, .int .i64 c, .int .i64 0, .int .i64 0, .int .i64 b] (0, 0) _ rfl H.out.heap Try.underlying32 rfl (by kernel_rfl)) rfl ?_
  exact ⟨rfl, H.out.below⟩
theorem rgiven_e32 {c s o y b : Int} (h1 : isE 2 c s o y = true) (h2 : isE 2 c 0 0 b = false) (w : World) :
    Calls Try.prog 31 #[.agg #[.int .i64 2, .int .i64 c, .int .i64 s, .int .i64 o, .int .i64 y], .int .i64 b] w fun e w' => e = .returned (.tuple #[.agg #[.int .i64 0, .int .i64 0, .int .i64 0, .int .i64 0, .int .i64 0], .int .i64 4]) ∧ Below w.heap.size w w' := by
  have hr1 := entry_ 0 2 c s o y
  rw [h1] at hr1
  have HR1 := Aside.mk hr1
  clear hr1 h1
  have hr2 := entry_ 0 2 c 0 0 b
  rw [h2] at hr2
  have HR2 := Aside.mk hr2
  clear hr2 h2
  have h0 := (((St.start w).alloc #[.int .i64 2, .int .i64 c, .int .i64 s, .int .i64 o, .int .i64 y] 32).alloc #[.int .i64 0, .int .i64 0, .int .i64 0, .int .i64 0, .int .i64 0] 32).alloc #[.int .i64 0, .int .i64 0, .int .i64 0, .int .i64 0, .int .i64 0] 32
  rw [show (w.alloc (.cells #[.int .i64 2, .int .i64 c, .int .i64 s, .int .i64 o, .int .i64 y] 32)).heap.size = w.heap.size + 1 by simp, show ((w.alloc (.cells #[.int .i64 2, .int .i64 c, .int .i64 s, .int .i64 o, .int .i64 y] 32)).alloc (.cells #[.int .i64 0, .int .i64 0, .int .i64 0, .int .i64 0, .int .i64 0] 32)).heap.size = w.heap.size + 1 + 1 by simp] at h0
  have H := Aside.mk h0
  clear h0
  go_enter Try.func31, Try.ntmps31
  go_wp2_with (with_reducible refine stop_at (.store 32 (.tmp 6) (.tmp 12)) rfl ?_)
  refine ⟨?_⟩
  refine st_store rfl rfl rfl [.int .i64 2, .int .i64 c, .int .i64 0, .int .i64 0, .int .i64 b] #[.int .i64 2, .int .i64 c, .int .i64 0, .int .i64 0, .int .i64 b] rfl rfl rfl (Nat.le_of_ble_eq_true rfl) (by simp [Value.oneCell']) (H.out) rfl ?_
  intro w1 h1
  replace H := Aside.mk h1
  clear h1
  have a0 := (H.out.pick 2 rfl).cell 0
  have a1 := (H.out.pick 2 rfl).cell 1
  have a2 := (H.out.pick 2 rfl).cell 2
  have a3 := (H.out.pick 2 rfl).cell 3
  have a4 := (H.out.pick 2 rfl).cell 4
  go_wp2_with (first
    | (go_at_call 62; with_reducible refine (windrowref02_IsEntry.calls _ 2 c s o y _ _ HR1.out).mono ?_; rintro e w2 ⟨rfl, hb⟩; replace H := Aside.mk (H.out.step hb); clear hb a0 a1 a2 a3 a4; have a0 := (H.out.pick 2 rfl).cell 0; have a1 := (H.out.pick 2 rfl).cell 1; have a2 := (H.out.pick 2 rfl).cell 2; have a3 := (H.out.pick 2 rfl).cell 3; have a4 := (H.out.pick 2 rfl).cell 4; have b0 := (H.out.pick 0 rfl).cell 0; have b1 := (H.out.pick 0 rfl).cell 1; have b2 := (H.out.pick 0 rfl).cell 2; have b3 := (H.out.pick 0 rfl).cell 3; have b4 := (H.out.pick 0 rfl).cell 4)
    | (go_at_call 62; with_reducible refine (windrowref02_IsEntry.calls _ 2 c 0 0 b _ _ HR2.out).mono ?_; rintro e w3 ⟨rfl, hb⟩; replace H := Aside.mk (H.out.step hb); clear hb a0 a1 a2 a3 a4 b0 b1 b2 b3 b4; have b0 := H.out.cell 0; have b1 := H.out.cell 1; have b2 := H.out.cell 2; have b3 := H.out.cell 3; have b4 := H.out.cell 4)
    | (with_reducible refine stop_at (.store 32 (.tmp 4) (.tmp 31)) rfl ?_))
  refine ⟨?_⟩
  refine st_store rfl rfl rfl [.int .i64 0, .int .i64 0, .int .i64 0, .int .i64 0, .int .i64 0] #[.int .i64 0, .int .i64 0, .int .i64 0, .int .i64 0, .int .i64 0] rfl rfl rfl (Nat.le_of_ble_eq_true rfl) (by simp [Value.oneCell']) (H.out.pick 1 rfl) rfl ?_
  intro w4 h4
  replace H := Aside.mk h4
  clear h4
  go_wp2
  refine bodyPost_ret (results_ct rfl _ _ _ 32 #[.int .i64 0, .int .i64 0, .int .i64 0, .int .i64 0, .int .i64 0] (0, 0) _ rfl H.out.heap Try.underlying32 rfl (by kernel_rfl)) rfl ?_
  exact ⟨rfl, H.out.below⟩
theorem rgiven_y2 {c s o y b : Int} (h1 : isE 2 c s o y = true) (h2 : isE 2 c 0 0 b = true) (w : World) :
    Calls Try.prog 31 #[.agg #[.int .i64 2, .int .i64 c, .int .i64 s, .int .i64 o, .int .i64 y], .int .i64 b] w fun e w' => e = .returned (.tuple #[.agg #[.int .i64 2, .int .i64 c, .int .i64 0, .int .i64 0, .int .i64 b], .int .i64 0]) ∧ Below w.heap.size w w' := by
  have hr1 := entry_ 0 2 c s o y
  rw [h1] at hr1
  have HR1 := Aside.mk hr1
  clear hr1 h1
  have hr2 := entry_ 0 2 c 0 0 b
  rw [h2] at hr2
  have HR2 := Aside.mk hr2
  clear hr2 h2
  have h0 := (((St.start w).alloc #[.int .i64 2, .int .i64 c, .int .i64 s, .int .i64 o, .int .i64 y] 32).alloc #[.int .i64 0, .int .i64 0, .int .i64 0, .int .i64 0, .int .i64 0] 32).alloc #[.int .i64 0, .int .i64 0, .int .i64 0, .int .i64 0, .int .i64 0] 32
  rw [show (w.alloc (.cells #[.int .i64 2, .int .i64 c, .int .i64 s, .int .i64 o, .int .i64 y] 32)).heap.size = w.heap.size + 1 by simp, show ((w.alloc (.cells #[.int .i64 2, .int .i64 c, .int .i64 s, .int .i64 o, .int .i64 y] 32)).alloc (.cells #[.int .i64 0, .int .i64 0, .int .i64 0, .int .i64 0, .int .i64 0] 32)).heap.size = w.heap.size + 1 + 1 by simp] at h0
  have H := Aside.mk h0
  clear h0
  go_enter Try.func31, Try.ntmps31
  go_wp2_with (with_reducible refine stop_at (.store 32 (.tmp 6) (.tmp 12)) rfl ?_)
  refine ⟨?_⟩
  refine st_store rfl rfl rfl [.int .i64 2, .int .i64 c, .int .i64 0, .int .i64 0, .int .i64 b] #[.int .i64 2, .int .i64 c, .int .i64 0, .int .i64 0, .int .i64 b] rfl rfl rfl (Nat.le_of_ble_eq_true rfl) (by simp [Value.oneCell']) (H.out) rfl ?_
  intro w1 h1
  replace H := Aside.mk h1
  clear h1
  have a0 := (H.out.pick 2 rfl).cell 0
  have a1 := (H.out.pick 2 rfl).cell 1
  have a2 := (H.out.pick 2 rfl).cell 2
  have a3 := (H.out.pick 2 rfl).cell 3
  have a4 := (H.out.pick 2 rfl).cell 4
  go_wp2_with (first
    | (go_at_call 62; with_reducible refine (windrowref02_IsEntry.calls _ 2 c s o y _ _ HR1.out).mono ?_; rintro e w2 ⟨rfl, hb⟩; replace H := Aside.mk (H.out.step hb); clear hb a0 a1 a2 a3 a4; have a0 := (H.out.pick 2 rfl).cell 0; have a1 := (H.out.pick 2 rfl).cell 1; have a2 := (H.out.pick 2 rfl).cell 2; have a3 := (H.out.pick 2 rfl).cell 3; have a4 := (H.out.pick 2 rfl).cell 4; have b0 := (H.out.pick 0 rfl).cell 0; have b1 := (H.out.pick 0 rfl).cell 1; have b2 := (H.out.pick 0 rfl).cell 2; have b3 := (H.out.pick 0 rfl).cell 3; have b4 := (H.out.pick 0 rfl).cell 4)
    | (go_at_call 62; with_reducible refine (windrowref02_IsEntry.calls _ 2 c 0 0 b _ _ HR2.out).mono ?_; rintro e w3 ⟨rfl, hb⟩; replace H := Aside.mk (H.out.step hb); clear hb a0 a1 a2 a3 a4 b0 b1 b2 b3 b4; have b0 := H.out.cell 0; have b1 := H.out.cell 1; have b2 := H.out.cell 2; have b3 := H.out.cell 3; have b4 := H.out.cell 4)
    | (with_reducible refine stop_at (.store 32 (.tmp 4) (.tmp 32)) rfl ?_))
  refine ⟨?_⟩
  refine st_store rfl rfl rfl [.int .i64 2, .int .i64 c, .int .i64 0, .int .i64 0, .int .i64 b] #[.int .i64 2, .int .i64 c, .int .i64 0, .int .i64 0, .int .i64 b] rfl rfl rfl (Nat.le_of_ble_eq_true rfl) (by simp [Value.oneCell']) (H.out.pick 1 rfl) rfl ?_
  intro w4 h4
  replace H := Aside.mk h4
  clear h4
  go_wp2
  refine bodyPost_ret (results_ct rfl _ _ _ 32 #[.int .i64 2, .int .i64 c, .int .i64 0, .int .i64 0, .int .i64 b] (0, 0) _ rfl H.out.heap Try.underlying32 rfl (by kernel_rfl)) rfl ?_
  exact ⟨rfl, H.out.below⟩
theorem rgiven_no {k c s o y b : Int} (hn : ¬ (isE k c s o y = true ∧ (k = 1 ∨ k = 2) ∧ isE k c 0 0 b = true)) (w : World) :
    Calls Try.prog 31 #[.agg #[.int .i64 k, .int .i64 c, .int .i64 s, .int .i64 o, .int .i64 y], .int .i64 b] w fun e w' => e = .returned (.tuple #[.agg #[.int .i64 0, .int .i64 0, .int .i64 0, .int .i64 0, .int .i64 0], .int .i64 4]) ∧ Below w.heap.size w w' := by
  by_cases h1 : isE k c s o y = true
  · rcases isE_kind h1 with rfl | rfl | rfl | rfl
    · exact rgiven_e20 h1 w
    · exact rgiven_e31 h1 (by simpa using fun h => hn ⟨h1, .inl rfl, h⟩) w
    · exact rgiven_e32 h1 (by simpa using fun h => hn ⟨h1, .inr rfl, h⟩) w
    · exact rgiven_e23 h1 w
  · exact rgiven_e1 (by simpa using h1) w
theorem rgiven_yes {k c s o y b : Int} (h1 : isE k c s o y = true) (hk : k = 1 ∨ k = 2) (h2 : isE k c 0 0 b = true) (w : World) :
    Calls Try.prog 31 #[.agg #[.int .i64 k, .int .i64 c, .int .i64 s, .int .i64 o, .int .i64 y], .int .i64 b] w fun e w' => e = .returned (.tuple #[.agg #[.int .i64 k, .int .i64 c, .int .i64 0, .int .i64 0, .int .i64 b], .int .i64 0]) ∧ Below w.heap.size w w' := by
  rcases hk with rfl | rfl
  · exact rgiven_y1 h1 h2 w
  · exact rgiven_y2 h1 h2 w
end Go.Proofs.Ytelfiegocdjnoaa.Ar
