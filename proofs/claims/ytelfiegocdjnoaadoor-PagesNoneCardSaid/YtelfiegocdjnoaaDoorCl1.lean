/- A claim's small functions. Conditions: the claim is a block of its own; its page is one of its plan. -/
import Derived.Test.YtelfiegocdjnoaaDoorCm0
import Derived.Deep.CutBlock
import Derived.Test.YtelfiegocdjnoaaDoorMrF0
namespace Go.Proofs.YtelfiegocdjnoaaDoor.Ar
open Go Go.RowKit Go.Proofs.YtelfiegocdjnoaaDoor.Sep Go.Proofs.YtelfiegocdjnoaaDoor.Pg Go.Proofs.YtelfiegocdjnoaaDoorW.PrintWords Go.Proofs.YtelfiegocdjnoaaDoorW.PrintLast Go.Proofs.YtelfiegocdjnoaaDoorW.PrintMore Go.Proofs.YtelfiegocdjnoaaDoor.Q
set_option linter.unusedVariables false
set_option linter.unusedSimpArgs false
set_option maxHeartbeats 8000000
set_option maxRecDepth 100000
variable {w0 w : World} {F : List HP} {g : Nat} {q : Cp} {x : Cl} {sp : Value}
abbrev Cl.cells (q : Cp) (x : Cl) (sp : Value) : Array Value := #[.int .i64 ((q.P : Int) + 1), .int .i64 ((q.T : Int) + 1), .int .i64 1, .int .i64 q.t, .int .i64 q.cyc, .int .i64 q.cls, .int .i64 x.rd, .int .i64 x.at_, .int .i64 (x.pg : Int), .int .u64 x.was, .int .i64 x.k, .int .i64 x.c, .int .i64 x.st, .int .i64 x.o, .int .i64 x.y, sp, .int .u64 x.alloc, .bool x.got]
abbrev clB (g : Nat) (q : Cp) (x : Cl) (sp : Value) : HP := blk g (x.cells q sp) 199
abbrev clP (g : Nat) : Value := .pointer (some ⟨g, 0, none⟩)
theorem clover_ (h : St w0 w (clB g q x sp :: F)) : Calls Tryd.prog 56 #[clP g] w fun e w' => e = .returned (.bool (x.at_ == 9)) ∧ w' = w := by
  have x7 : w.cell? ⟨g, 7, none⟩ = some (.int .i64 x.at_) := h.cell 7
  clear h
  go_enter Tryd.func56, Tryd.ntmps56
  go_wp2
  go_ret
  exact ⟨by simp, rfl⟩
theorem clgot_ (h : St w0 w (clB g q x sp :: F)) : Calls Tryd.prog 58 #[clP g] w fun e w' => e = .returned (.bool x.got) ∧ w' = w := by
  have x17 : w.cell? ⟨g, 17, none⟩ = some (.bool x.got) := h.cell 17
  clear h
  go_enter Tryd.func58, Tryd.ntmps58
  go_wp2
  go_ret
  exact ⟨by simp, rfl⟩
theorem clpage_ (hg : x.got = true) (h : St w0 w (clB g q x sp :: F)) : Calls Tryd.prog 59 #[clP g] w fun e w' => e = .returned (.int .i64 (x.pg : Int)) ∧ w' = w := by
  have x17 : w.cell? ⟨g, 17, none⟩ = some (.bool x.got) := h.cell 17
  have x8 : w.cell? ⟨g, 8, none⟩ = some (.int .i64 (x.pg : Int)) := h.cell 8
  rw [hg] at x17
  clear h
  go_enter Tryd.func59, Tryd.ntmps59
  go_wp2
  go_ret
  exact ⟨by simp, rfl⟩
theorem clalloc_ (hg : x.got = true) (h : St w0 w (clB g q x sp :: F)) : Calls Tryd.prog 62 #[clP g] w fun e w' => e = .returned (.int .u64 x.alloc) ∧ w' = w := by
  have x17 : w.cell? ⟨g, 17, none⟩ = some (.bool x.got) := h.cell 17
  have x16 : w.cell? ⟨g, 16, none⟩ = some (.int .u64 x.alloc) := h.cell 16
  rw [hg] at x17
  clear h
  go_enter Tryd.func62, Tryd.ntmps62
  go_wp2
  go_ret
  exact ⟨by simp, rfl⟩
theorem coded_f {k c s o y : Int} (h : isE k c s o y = true) : pages_coded.f 7 k c s o y = some (wordOf k c s o y) := by
  unfold pages_coded.f
  rw [encH 0, if_pos h]
  rfl
theorem coded_w {k c s o y : Int} (h : isE k c s o y = true) (w : World) : Calls Tryd.prog 125 #[.agg #[.int .i64 k, .int .i64 c, .int .i64 s, .int .i64 o, .int .i64 y]] w fun e w' => e = .returned (.int .u64 (wordOf k c s o y)) ∧ Below w.heap.size w w' := pages_coded.calls _ _ _ _ _ _ _ _ (coded_f h)
def clo.T1 : Bool × List (List Nat × List Nat) := (true, [([], []), ([0], [0]), ([1], [1]), ([2], [2]), ([], []), ([4], [4]), ([5], [5]), ([6], [6]), ([], []), ([8], [8]), ([9], [9]), ([10], [10]), ([3, 7, 11], [3, 7, 11]), ([12], [12]), ([13, 13, 0, 1, 2, 3, 4, 5, 6, 7, 8, 9, 10, 11, 12, 13], [13])])
def clo.B1 : List Nat := [0, 1, 3, 7, 0, 16, 48, 112, 0, 256, 768, 1792, 4095, 8191, 16383]
theorem clo.tab1 : rtab .any (opsOf Tryd.f120 1) = clo.T1 := by kernel_rfl
theorem clo.bits1 : waitsOk clo.T1.2 clo.B1 = true := by kernel_rfl
theorem clowned_ (hq : q.Right) (h : St w0 w (clB g q x sp :: F)) : Calls Tryd.prog 120 #[clP g] w fun e w' => e = .returned (.int .u64 q.word) ∧ Below w.heap.size w w' := by
  have HC := Aside.mk (coded_w hq.isE)
  have HB := Aside.mk (Below.refl w.heap.size w)
  have H := Aside.mk h
  clear h
  go_enter Tryd.func120, Tryd.ntmps120
  go_wp2_with fail
  replace H := Aside.mk H.out.drew
  replace HB := Aside.mk HB.out.drew
  refine start_ (n := 15) (S := fun w' => w'.cell? ⟨g, 3, none⟩ = some (.int .i64 q.t) ∧ w'.cell? ⟨g, 4, none⟩ = some (.int .i64 q.cyc) ∧ w'.cell? ⟨g, 5, none⟩ = some (.int .i64 q.cls)) (ds := []) (flg 15 0) (by kernel_rfl) rfl rfl (⟨H.out.cell 3, H.out.cell 4, H.out.cell 5⟩) (fun hHeld => ?_)
  refine with_tabW clo.tab1 clo.bits1 (fun HT_ HW_ => ?_)
  refine pu_ (v := ?_) (a' := ?_) 0 (some 3) 1 rfl rfl HT_ (by kernel_rfl) (.inl ⟨by rfl, ?_⟩) ?_ ?_; rotate_left 2; (· intro w'; go_simp; with_reducible rfl); (· simp only [nrm]; rfl)
  refine pu_ (v := ?_) (a' := ?_) 1 (some 4) 3 rfl rfl HT_ (by kernel_rfl) (.inl ⟨by rfl, ?_⟩) ?_ ?_; rotate_left 2; (· intro w'; go_simp; with_reducible rfl); (· simp only [nrm]; rfl)
  refine pu_ (v := ?_) (a' := ?_) 2 (some 5) 7 rfl rfl HT_ (by kernel_rfl) (.inl ⟨by rfl, ?_⟩) ?_ ?_; rotate_left 2; (· intro w'; go_simp; with_reducible rfl); (· simp only [nrm]; rfl)
  refine tk_ (v := ?_) (a' := ?_) 3 (some 6) 15 rfl rfl HT_ HW_ (by kernel_rfl) (.inl ⟨by rfl, ?_⟩) hHeld ?_ ?_; rotate_left 2; (· rintro w' ⟨_, _, _⟩; go_simp; with_reducible rfl); (· simp only [nrm]; rfl)
  refine pu_ (v := ?_) (a' := ?_) 4 (some 7) 31 rfl rfl HT_ (by kernel_rfl) (.inl ⟨by rfl, ?_⟩) ?_ ?_; rotate_left 2; (· intro w'; go_simp; with_reducible rfl); (· simp only [nrm]; rfl)
  refine pu_ (v := ?_) (a' := ?_) 5 (some 8) 63 rfl rfl HT_ (by kernel_rfl) (.inl ⟨by rfl, ?_⟩) ?_ ?_; rotate_left 2; (· intro w'; go_simp; with_reducible rfl); (· simp only [nrm]; rfl)
  refine pu_ (v := ?_) (a' := ?_) 6 (some 9) 127 rfl rfl HT_ (by kernel_rfl) (.inl ⟨by rfl, ?_⟩) ?_ ?_; rotate_left 2; (· intro w'; go_simp; with_reducible rfl); (· simp only [nrm]; rfl)
  refine tk_ (v := ?_) (a' := ?_) 7 (some 10) 255 rfl rfl HT_ HW_ (by kernel_rfl) (.inl ⟨by rfl, ?_⟩) hHeld ?_ ?_; rotate_left 2; (· rintro w' ⟨_, _, _⟩; go_simp; with_reducible rfl); (· simp only [nrm]; rfl)
  refine pu_ (v := ?_) (a' := ?_) 8 (some 11) 511 rfl rfl HT_ (by kernel_rfl) (.inl ⟨by rfl, ?_⟩) ?_ ?_; rotate_left 2; (· intro w'; go_simp; with_reducible rfl); (· simp only [nrm]; rfl)
  refine pu_ (v := ?_) (a' := ?_) 9 (some 12) 1023 rfl rfl HT_ (by kernel_rfl) (.inl ⟨by rfl, ?_⟩) ?_ ?_; rotate_left 2; (· intro w'; go_simp; with_reducible rfl); (· simp only [nrm]; rfl)
  refine pu_ (v := ?_) (a' := ?_) 10 (some 13) 2047 rfl rfl HT_ (by kernel_rfl) (.inl ⟨by rfl, ?_⟩) ?_ ?_; rotate_left 2; (· intro w'; go_simp; with_reducible rfl); (· simp only [nrm]; rfl)
  refine tk_ (v := ?_) (a' := ?_) 11 (some 14) 4095 rfl rfl HT_ HW_ (by kernel_rfl) (.inl ⟨by rfl, ?_⟩) hHeld ?_ ?_; rotate_left 2; (· rintro w' ⟨_, _, _⟩; go_simp; with_reducible rfl); (· simp only [nrm]; rfl)
  refine pu_ (v := ?_) (a' := ?_) 12 (some 15) 8191 rfl rfl HT_ (by kernel_rfl) (.inl ⟨by rfl, ?_⟩) ?_ ?_; rotate_left 2; (· intro w'; go_simp; with_reducible rfl); (· simp only [nrm]; rfl)
  refine on_ 13 (some 16) 16383 rfl rfl HT_ (by kernel_rfl) (by decide) (fun K hK => ?_)
  refine goes_ Tryd.func125 (by kernel_rfl) rfl #[.agg #[.int .i64 1, .int .i64 q.cls, .int .i64 1, .int .i64 q.t, .int .i64 q.cyc]] (by rfl) rfl rfl (by (try simp only [List.map_toArray, List.map_cons, List.map_nil]); first | done | rfl) ?_
  refine (HC.out _).mono ?_
  rintro e w2 ⟨rfl, hb⟩
  replace H := Aside.mk (H.out.step hb)
  replace HB := Aside.mk (HB.out.trans (hb.mono HB.out.size))
  clear hb
  refine ⟨_, rfl, ?_⟩
  refine hK.out _ _ ⟨H.out.cell 3, H.out.cell 4, H.out.cell 5⟩ (fun hHeld => ?_)
  clear hK K
  refine norm_ (a' := ?_) ?_ ?_
  rotate_left
  · show Act.put _ (some 16) _ = _
    simp only [nrm]
    rfl
  refine pu_ (v := ?_) (a' := ?_) 14 (some 2) 32767 rfl rfl HT_ (by kernel_rfl) (.inl ⟨by rfl, ?_⟩) ?_ ?_; rotate_left 2; (· intro w'; go_simp; with_reducible rfl); (· simp only [nrm]; rfl)
  refine done_ (done_of HT_.out (by kernel_rfl)) ?_
  clear HT_ HW_ hHeld
  go_wp2
  go_ret
  exact ⟨rfl, HB.out⟩
theorem clnext_ (hp : x.pg < q.P + 1) (hP : q.P < 5) (hr : x.rd = 0 ∨ x.rd = 1 ∨ x.rd = 2) (h : St w0 w (clB g q x sp :: F)) : Calls Tryd.prog 121 #[clP g] w fun e w' => e = .returned (.tuple #[]) ∧ St w0 w' (clB g q (x.next q) (.pointer none) :: F) := by
  have hw : wrap64 ((x.pg : Int) + 1) = ((x.pg + 1 : Nat) : Int) := by unfold wrap64; omega
  have HW := Aside.mk hw
  have x8 : w.cell? ⟨g, 8, none⟩ = some (.int .i64 (x.pg : Int)) := h.cell 8
  have H := Aside.mk h
  clear h hw
  by_cases hl : x.pg + 1 < q.P + 1
  · rcases hr with hr | hr | hr
    · have D : decide (q.P ≤ x.pg) = false := by simp; omega
      have en : x.next q = { x with pg := x.pg + 1, at_ := 0, sw := none } := by unfold Cl.next; rw [if_pos hl, hr]; rfl
      rw [en]
      clear en hl hp hP
      go_enter Tryd.func121, Tryd.ntmps121
      go_wp2_with (with_reducible refine stop_at (.store 3 (.tmp 8) (.tmp 6)) rfl ?_)
      simp only [HW.out]
      refine ⟨?_⟩
      refine st_store rfl rfl rfl [.int .i64 ((x.pg + 1 : Nat) : Int)] (Cl.cells q { x with pg := x.pg + 1 } sp) rfl rfl rfl (Nat.le_of_ble_eq_true rfl) (by simp [Value.oneCell']) H.out rfl ?_
      intro w9 h9
      replace H := Aside.mk h9
      clear h9
      clear x8
      go_wp2_with fail
      go_region_held3 (fun w' => w'.cell? ⟨g, 8, none⟩ = some (.int .i64 ((x.pg + 1 : Nat) : Int)) ∧ w'.cell? ⟨g, 0, none⟩ = some (.int .i64 ((q.P : Int) + 1))) (first | exact ⟨H.out.drew.cell 8, H.out.drew.cell 0⟩ | go_keep) (fail)
      replace H := Aside.mk H.out.drew
      go_wp2_with (with_reducible refine stop_at (.store 3 (.tmp 32) (.const (.int .i64 0))) rfl ?_)
      refine ⟨?_⟩
      refine st_store rfl rfl rfl [.int .i64 0] (Cl.cells q { x with pg := x.pg + 1, at_ := 0 } sp) rfl rfl rfl (Nat.le_of_ble_eq_true rfl) (by simp [Value.oneCell']) H.out rfl ?_
      intro w9 h9
      replace H := Aside.mk h9
      clear h9
      go_wp2_with (with_reducible refine stop_at (.store 193 (.tmp 34) (.const (.pointer none))) rfl ?_)
      refine ⟨?_⟩
      refine st_store rfl rfl rfl [.pointer none] (Cl.cells q { x with pg := x.pg + 1, at_ := 0, sw := none } (.pointer none)) rfl rfl rfl (Nat.le_of_ble_eq_true rfl) (by simp [Value.oneCell']) H.out rfl ?_
      intro w9 h9
      replace H := Aside.mk h9
      clear h9
      have y6 : World.cell? _ ⟨g, 6, none⟩ = some (.int .i64 x.rd) := H.out.cell 6
      rw [hr] at y6
      go_wp2
      go_end0
      exact ⟨rfl, H.out⟩
    · have D : decide (q.P ≤ x.pg) = false := by simp; omega
      have en : x.next q = { x with pg := x.pg + 1, at_ := 0, sw := none } := by unfold Cl.next; rw [if_pos hl, hr]; rfl
      rw [en]
      clear en hl hp hP
      go_enter Tryd.func121, Tryd.ntmps121
      go_wp2_with (with_reducible refine stop_at (.store 3 (.tmp 8) (.tmp 6)) rfl ?_)
      simp only [HW.out]
      refine ⟨?_⟩
      refine st_store rfl rfl rfl [.int .i64 ((x.pg + 1 : Nat) : Int)] (Cl.cells q { x with pg := x.pg + 1 } sp) rfl rfl rfl (Nat.le_of_ble_eq_true rfl) (by simp [Value.oneCell']) H.out rfl ?_
      intro w9 h9
      replace H := Aside.mk h9
      clear h9
      clear x8
      go_wp2_with fail
      go_region_held3 (fun w' => w'.cell? ⟨g, 8, none⟩ = some (.int .i64 ((x.pg + 1 : Nat) : Int)) ∧ w'.cell? ⟨g, 0, none⟩ = some (.int .i64 ((q.P : Int) + 1))) (first | exact ⟨H.out.drew.cell 8, H.out.drew.cell 0⟩ | go_keep) (fail)
      replace H := Aside.mk H.out.drew
      go_wp2_with (with_reducible refine stop_at (.store 3 (.tmp 32) (.const (.int .i64 0))) rfl ?_)
      refine ⟨?_⟩
      refine st_store rfl rfl rfl [.int .i64 0] (Cl.cells q { x with pg := x.pg + 1, at_ := 0 } sp) rfl rfl rfl (Nat.le_of_ble_eq_true rfl) (by simp [Value.oneCell']) H.out rfl ?_
      intro w9 h9
      replace H := Aside.mk h9
      clear h9
      go_wp2_with (with_reducible refine stop_at (.store 193 (.tmp 34) (.const (.pointer none))) rfl ?_)
      refine ⟨?_⟩
      refine st_store rfl rfl rfl [.pointer none] (Cl.cells q { x with pg := x.pg + 1, at_ := 0, sw := none } (.pointer none)) rfl rfl rfl (Nat.le_of_ble_eq_true rfl) (by simp [Value.oneCell']) H.out rfl ?_
      intro w9 h9
      replace H := Aside.mk h9
      clear h9
      have y6 : World.cell? _ ⟨g, 6, none⟩ = some (.int .i64 x.rd) := H.out.cell 6
      rw [hr] at y6
      go_wp2
      go_end0
      exact ⟨rfl, H.out⟩
    · have D : decide (q.P ≤ x.pg) = false := by simp; omega
      have en : x.next q = { x with pg := x.pg + 1, at_ := 8, sw := none } := by unfold Cl.next; rw [if_pos hl, hr]; rfl
      rw [en]
      clear en hl hp hP
      go_enter Tryd.func121, Tryd.ntmps121
      go_wp2_with (with_reducible refine stop_at (.store 3 (.tmp 8) (.tmp 6)) rfl ?_)
      simp only [HW.out]
      refine ⟨?_⟩
      refine st_store rfl rfl rfl [.int .i64 ((x.pg + 1 : Nat) : Int)] (Cl.cells q { x with pg := x.pg + 1 } sp) rfl rfl rfl (Nat.le_of_ble_eq_true rfl) (by simp [Value.oneCell']) H.out rfl ?_
      intro w9 h9
      replace H := Aside.mk h9
      clear h9
      clear x8
      go_wp2_with fail
      go_region_held3 (fun w' => w'.cell? ⟨g, 8, none⟩ = some (.int .i64 ((x.pg + 1 : Nat) : Int)) ∧ w'.cell? ⟨g, 0, none⟩ = some (.int .i64 ((q.P : Int) + 1))) (first | exact ⟨H.out.drew.cell 8, H.out.drew.cell 0⟩ | go_keep) (fail)
      replace H := Aside.mk H.out.drew
      go_wp2_with (with_reducible refine stop_at (.store 3 (.tmp 32) (.const (.int .i64 0))) rfl ?_)
      refine ⟨?_⟩
      refine st_store rfl rfl rfl [.int .i64 0] (Cl.cells q { x with pg := x.pg + 1, at_ := 0 } sp) rfl rfl rfl (Nat.le_of_ble_eq_true rfl) (by simp [Value.oneCell']) H.out rfl ?_
      intro w9 h9
      replace H := Aside.mk h9
      clear h9
      go_wp2_with (with_reducible refine stop_at (.store 193 (.tmp 34) (.const (.pointer none))) rfl ?_)
      refine ⟨?_⟩
      refine st_store rfl rfl rfl [.pointer none] (Cl.cells q { x with pg := x.pg + 1, at_ := 0, sw := none } (.pointer none)) rfl rfl rfl (Nat.le_of_ble_eq_true rfl) (by simp [Value.oneCell']) H.out rfl ?_
      intro w9 h9
      replace H := Aside.mk h9
      clear h9
      have y6 : World.cell? _ ⟨g, 6, none⟩ = some (.int .i64 x.rd) := H.out.cell 6
      rw [hr] at y6
      go_wp2_with (with_reducible refine stop_at (.store 3 (.tmp 43) (.const (.int .i64 8))) rfl ?_)
      refine ⟨?_⟩
      refine st_store rfl rfl rfl [.int .i64 8] (Cl.cells q { x with pg := x.pg + 1, at_ := 8, sw := none } (.pointer none)) rfl rfl rfl (Nat.le_of_ble_eq_true rfl) (by simp [Value.oneCell']) H.out rfl ?_
      intro w9 h9
      replace H := Aside.mk h9
      clear h9
      go_wp2
      go_end0
      exact ⟨rfl, H.out⟩
  · rcases hr with hr | hr | hr
    · have D : decide (q.P ≤ x.pg) = true := by simp; omega
      have en : x.next q = { x with pg := 0, rd := 1, at_ := 0, sw := none } := by unfold Cl.next; rw [if_neg hl, hr]; rfl
      rw [en]
      clear en hl hp hP
      go_enter Tryd.func121, Tryd.ntmps121
      go_wp2_with (with_reducible refine stop_at (.store 3 (.tmp 8) (.tmp 6)) rfl ?_)
      simp only [HW.out]
      refine ⟨?_⟩
      refine st_store rfl rfl rfl [.int .i64 ((x.pg + 1 : Nat) : Int)] (Cl.cells q { x with pg := x.pg + 1 } sp) rfl rfl rfl (Nat.le_of_ble_eq_true rfl) (by simp [Value.oneCell']) H.out rfl ?_
      intro w9 h9
      replace H := Aside.mk h9
      clear h9
      clear x8
      go_wp2_with fail
      go_region_held3 (fun w' => w'.cell? ⟨g, 8, none⟩ = some (.int .i64 ((x.pg + 1 : Nat) : Int)) ∧ w'.cell? ⟨g, 0, none⟩ = some (.int .i64 ((q.P : Int) + 1))) (first | exact ⟨H.out.drew.cell 8, H.out.drew.cell 0⟩ | go_keep) (fail)
      replace H := Aside.mk H.out.drew
      go_wp2_with (with_reducible refine stop_at (.store 3 (.tmp 21) (.const (.int .i64 0))) rfl ?_)
      refine ⟨?_⟩
      refine st_store rfl rfl rfl [.int .i64 0] (Cl.cells q { x with pg := 0 } sp) rfl rfl rfl (Nat.le_of_ble_eq_true rfl) (by simp [Value.oneCell']) H.out rfl ?_
      intro w9 h9
      replace H := Aside.mk h9
      clear h9
      have y6 : World.cell? _ ⟨g, 6, none⟩ = some (.int .i64 x.rd) := H.out.cell 6
      rw [hr] at y6
      go_wp2_with (with_reducible refine stop_at (.store 3 (.tmp 28) (.tmp 26)) rfl ?_)
      refine ⟨?_⟩
      refine st_store rfl rfl rfl [.int .i64 (1)] (Cl.cells q { x with pg := 0, rd := 1 } sp) rfl rfl rfl (Nat.le_of_ble_eq_true rfl) (by simp [Value.oneCell']) H.out rfl ?_
      intro w9 h9
      replace H := Aside.mk h9
      clear h9
      clear y6
      go_wp2_with (with_reducible refine stop_at (.store 3 (.tmp 32) (.const (.int .i64 0))) rfl ?_)
      refine ⟨?_⟩
      refine st_store rfl rfl rfl [.int .i64 0] (Cl.cells q { x with pg := 0, rd := 1, at_ := 0 } sp) rfl rfl rfl (Nat.le_of_ble_eq_true rfl) (by simp [Value.oneCell']) H.out rfl ?_
      intro w9 h9
      replace H := Aside.mk h9
      clear h9
      go_wp2_with (with_reducible refine stop_at (.store 193 (.tmp 34) (.const (.pointer none))) rfl ?_)
      refine ⟨?_⟩
      refine st_store rfl rfl rfl [.pointer none] (Cl.cells q { x with pg := 0, rd := 1, at_ := 0, sw := none } (.pointer none)) rfl rfl rfl (Nat.le_of_ble_eq_true rfl) (by simp [Value.oneCell']) H.out rfl ?_
      intro w9 h9
      replace H := Aside.mk h9
      clear h9
      have y6 : World.cell? _ ⟨g, 6, none⟩ = some (.int .i64 1) := H.out.cell 6
      go_wp2
      go_end0
      exact ⟨rfl, H.out⟩
    · have D : decide (q.P ≤ x.pg) = true := by simp; omega
      have en : x.next q = { x with pg := 0, rd := 2, at_ := 8, sw := none } := by unfold Cl.next; rw [if_neg hl, hr]; rfl
      rw [en]
      clear en hl hp hP
      go_enter Tryd.func121, Tryd.ntmps121
      go_wp2_with (with_reducible refine stop_at (.store 3 (.tmp 8) (.tmp 6)) rfl ?_)
      simp only [HW.out]
      refine ⟨?_⟩
      refine st_store rfl rfl rfl [.int .i64 ((x.pg + 1 : Nat) : Int)] (Cl.cells q { x with pg := x.pg + 1 } sp) rfl rfl rfl (Nat.le_of_ble_eq_true rfl) (by simp [Value.oneCell']) H.out rfl ?_
      intro w9 h9
      replace H := Aside.mk h9
      clear h9
      clear x8
      go_wp2_with fail
      go_region_held3 (fun w' => w'.cell? ⟨g, 8, none⟩ = some (.int .i64 ((x.pg + 1 : Nat) : Int)) ∧ w'.cell? ⟨g, 0, none⟩ = some (.int .i64 ((q.P : Int) + 1))) (first | exact ⟨H.out.drew.cell 8, H.out.drew.cell 0⟩ | go_keep) (fail)
      replace H := Aside.mk H.out.drew
      go_wp2_with (with_reducible refine stop_at (.store 3 (.tmp 21) (.const (.int .i64 0))) rfl ?_)
      refine ⟨?_⟩
      refine st_store rfl rfl rfl [.int .i64 0] (Cl.cells q { x with pg := 0 } sp) rfl rfl rfl (Nat.le_of_ble_eq_true rfl) (by simp [Value.oneCell']) H.out rfl ?_
      intro w9 h9
      replace H := Aside.mk h9
      clear h9
      have y6 : World.cell? _ ⟨g, 6, none⟩ = some (.int .i64 x.rd) := H.out.cell 6
      rw [hr] at y6
      go_wp2_with (with_reducible refine stop_at (.store 3 (.tmp 28) (.tmp 26)) rfl ?_)
      refine ⟨?_⟩
      refine st_store rfl rfl rfl [.int .i64 (2)] (Cl.cells q { x with pg := 0, rd := 2 } sp) rfl rfl rfl (Nat.le_of_ble_eq_true rfl) (by simp [Value.oneCell']) H.out rfl ?_
      intro w9 h9
      replace H := Aside.mk h9
      clear h9
      clear y6
      go_wp2_with (with_reducible refine stop_at (.store 3 (.tmp 32) (.const (.int .i64 0))) rfl ?_)
      refine ⟨?_⟩
      refine st_store rfl rfl rfl [.int .i64 0] (Cl.cells q { x with pg := 0, rd := 2, at_ := 0 } sp) rfl rfl rfl (Nat.le_of_ble_eq_true rfl) (by simp [Value.oneCell']) H.out rfl ?_
      intro w9 h9
      replace H := Aside.mk h9
      clear h9
      go_wp2_with (with_reducible refine stop_at (.store 193 (.tmp 34) (.const (.pointer none))) rfl ?_)
      refine ⟨?_⟩
      refine st_store rfl rfl rfl [.pointer none] (Cl.cells q { x with pg := 0, rd := 2, at_ := 0, sw := none } (.pointer none)) rfl rfl rfl (Nat.le_of_ble_eq_true rfl) (by simp [Value.oneCell']) H.out rfl ?_
      intro w9 h9
      replace H := Aside.mk h9
      clear h9
      have y6 : World.cell? _ ⟨g, 6, none⟩ = some (.int .i64 2) := H.out.cell 6
      go_wp2_with (with_reducible refine stop_at (.store 3 (.tmp 43) (.const (.int .i64 8))) rfl ?_)
      refine ⟨?_⟩
      refine st_store rfl rfl rfl [.int .i64 8] (Cl.cells q { x with pg := 0, rd := 2, at_ := 8, sw := none } (.pointer none)) rfl rfl rfl (Nat.le_of_ble_eq_true rfl) (by simp [Value.oneCell']) H.out rfl ?_
      intro w9 h9
      replace H := Aside.mk h9
      clear h9
      go_wp2
      go_end0
      exact ⟨rfl, H.out⟩
    · have D : decide (q.P ≤ x.pg) = true := by simp; omega
      have en : x.next q = { x with pg := 0, rd := 3, at_ := 9, sw := none } := by unfold Cl.next; rw [if_neg hl, hr]; rfl
      rw [en]
      clear en hl hp hP
      go_enter Tryd.func121, Tryd.ntmps121
      go_wp2_with (with_reducible refine stop_at (.store 3 (.tmp 8) (.tmp 6)) rfl ?_)
      simp only [HW.out]
      refine ⟨?_⟩
      refine st_store rfl rfl rfl [.int .i64 ((x.pg + 1 : Nat) : Int)] (Cl.cells q { x with pg := x.pg + 1 } sp) rfl rfl rfl (Nat.le_of_ble_eq_true rfl) (by simp [Value.oneCell']) H.out rfl ?_
      intro w9 h9
      replace H := Aside.mk h9
      clear h9
      clear x8
      go_wp2_with fail
      go_region_held3 (fun w' => w'.cell? ⟨g, 8, none⟩ = some (.int .i64 ((x.pg + 1 : Nat) : Int)) ∧ w'.cell? ⟨g, 0, none⟩ = some (.int .i64 ((q.P : Int) + 1))) (first | exact ⟨H.out.drew.cell 8, H.out.drew.cell 0⟩ | go_keep) (fail)
      replace H := Aside.mk H.out.drew
      go_wp2_with (with_reducible refine stop_at (.store 3 (.tmp 21) (.const (.int .i64 0))) rfl ?_)
      refine ⟨?_⟩
      refine st_store rfl rfl rfl [.int .i64 0] (Cl.cells q { x with pg := 0 } sp) rfl rfl rfl (Nat.le_of_ble_eq_true rfl) (by simp [Value.oneCell']) H.out rfl ?_
      intro w9 h9
      replace H := Aside.mk h9
      clear h9
      have y6 : World.cell? _ ⟨g, 6, none⟩ = some (.int .i64 x.rd) := H.out.cell 6
      rw [hr] at y6
      go_wp2_with (with_reducible refine stop_at (.store 3 (.tmp 28) (.tmp 26)) rfl ?_)
      refine ⟨?_⟩
      refine st_store rfl rfl rfl [.int .i64 (3)] (Cl.cells q { x with pg := 0, rd := 3 } sp) rfl rfl rfl (Nat.le_of_ble_eq_true rfl) (by simp [Value.oneCell']) H.out rfl ?_
      intro w9 h9
      replace H := Aside.mk h9
      clear h9
      clear y6
      go_wp2_with (with_reducible refine stop_at (.store 3 (.tmp 32) (.const (.int .i64 0))) rfl ?_)
      refine ⟨?_⟩
      refine st_store rfl rfl rfl [.int .i64 0] (Cl.cells q { x with pg := 0, rd := 3, at_ := 0 } sp) rfl rfl rfl (Nat.le_of_ble_eq_true rfl) (by simp [Value.oneCell']) H.out rfl ?_
      intro w9 h9
      replace H := Aside.mk h9
      clear h9
      go_wp2_with (with_reducible refine stop_at (.store 193 (.tmp 34) (.const (.pointer none))) rfl ?_)
      refine ⟨?_⟩
      refine st_store rfl rfl rfl [.pointer none] (Cl.cells q { x with pg := 0, rd := 3, at_ := 0, sw := none } (.pointer none)) rfl rfl rfl (Nat.le_of_ble_eq_true rfl) (by simp [Value.oneCell']) H.out rfl ?_
      intro w9 h9
      replace H := Aside.mk h9
      clear h9
      have y6 : World.cell? _ ⟨g, 6, none⟩ = some (.int .i64 3) := H.out.cell 6
      go_wp2_with (with_reducible refine stop_at (.store 3 (.tmp 48) (.const (.int .i64 9))) rfl ?_)
      refine ⟨?_⟩
      refine st_store rfl rfl rfl [.int .i64 9] (Cl.cells q { x with pg := 0, rd := 3, at_ := 9, sw := none } (.pointer none)) rfl rfl rfl (Nat.le_of_ble_eq_true rfl) (by simp [Value.oneCell']) H.out rfl ?_
      intro w9 h9
      replace H := Aside.mk h9
      clear h9
      go_wp2
      go_end0
      exact ⟨rfl, H.out⟩
end Go.Proofs.YtelfiegocdjnoaaDoor.Ar
