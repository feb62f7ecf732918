/- The document's tape: what is asked, read again. Conditions: the tape is a block of its own, its answers a row of their own. -/
import Derived.Test.YtelfiegocdjnoaaDoorTpD
import Derived.Test.YtelfiegocdjnoaaDoorWk
import Derived.Test.YtelfiegocdjnoaaDoorStp
namespace Go.Proofs.YtelfiegocdjnoaaDoor.Ar
open Go Go.RowKit Go.Proofs.YtelfiegocdjnoaaDoor.Sep Go.Proofs.YtelfiegocdjnoaaDoor.Pg Go.Proofs.YtelfiegocdjnoaaDoorW.PrintWords Go.Proofs.YtelfiegocdjnoaaDoorW.PrintLast Go.Proofs.YtelfiegocdjnoaaDoorW.PrintMore Go.Proofs.YtelfiegocdjnoaaDoor.Q
set_option linter.unusedVariables false
set_option linter.unusedSimpArgs false
set_option maxHeartbeats 8000000
set_option maxRecDepth 100000
variable {w0 w : World} {F : List HP} {t : Nat} {lv : Value} {x : Tp}
abbrev tpB (t : Nat) (lv : Value) (x : Tp) : HP := blk t #[lv, .int .i64 x.pos, .int .i64 0, .int .i64 x.nk, .int .i64 x.na, .int .u64 x.nw, .int .u64 x.np, .int .u64 0, .int .u64 0, .bool x.stop] 100
abbrev tpR (lv : Value) (x : Tp) : HP := row 22 1 lv x.hist.length (U x.hist)
def tp.T3 : Bool × List (List Nat × List Nat) := (true, [([], []), ([0], [0]), ([1], [1]), ([2], [2]), ([], []), ([4], [4]), ([5], [5]), ([6], [6]), ([7], [7]), ([3, 8], [3, 8])])
def tp.B3 : List Nat := [0, 1, 3, 7, 0, 16, 48, 112, 240, 511]
theorem tp.tab3 : rtab .any (opsOf Tryd.f148 3) = tp.T3 := by kernel_rfl
theorem tp.bits3 : waitsOk tp.T3.2 tp.B3 = true := by kernel_rfl
def tp.T5 : Bool × List (List Nat × List Nat) := (true, [([], []), ([0], [0]), ([1], [1]), ([2], [2]), ([], []), ([4], [4]), ([5], [5]), ([6], [6]), ([7], [7]), ([3, 8], [3, 8]), ([9], [9]), ([10, 0, 1, 2, 3, 4, 5, 6, 7, 8, 9, 10], [10])])
def tp.B5 : List Nat := [0, 1, 3, 7, 0, 16, 48, 112, 240, 511, 1023, 2047]
theorem tp.tab5 : rtab .any (opsOf Tryd.f148 5) = tp.T5 := by kernel_rfl
theorem tp.bits5 : waitsOk tp.T5.2 tp.B5 = true := by kernel_rfl
theorem row_cell {e : TypeId} {n c g j : Nat} {xs : List Value} {u : Value} {L : List HP} (h : St w0 w (row e 1 (.slice (some ⟨g, 0, none⟩) n c) n xs :: L)) (hn : 0 < n) (hj : xs[j]? = some u) : w.cell? ⟨g, j, none⟩ = some u := by
  obtain ⟨g2, c2, he, _, hc⟩ := h.row_some hn
  injection he with he
  injection he with he
  injection he with he
  subst he
  exact hc j u hj
theorem ask_ (hl : x.hist.length ≤ 1000) (k a wt p : Int) (h : St w0 w (tpB t lv x :: tpR lv x :: F)) :
    Calls Tryd.prog 148 #[.pointer (some ⟨t, 0, none⟩), .int .i64 k, .int .i64 a, .int .u64 wt, .int .u64 p] w fun e w' => e = .returned (.int .u64 (x.ask k a wt p).1) ∧ St w0 w' (tpB t lv (x.ask k a wt p).2 :: tpR lv (x.ask k a wt p).2 :: F) := by
  have x9 : w.cell? ⟨t, 9, none⟩ = some (.bool x.stop) := h.cell 9
  by_cases hs : x.stop = true
  · have e1 : x.ask k a wt p = (0, x) := if_pos hs
    rw [e1]
    rw [hs] at x9
    have H := Aside.mk h
    clear h e1 hs
    go_enter Tryd.func148, Tryd.ntmps148
    go_wp2
    go_ret
    exact ⟨rfl, H.out⟩
  · have hs2 : x.stop = false := by simpa using hs
    rw [hs2] at x9
    have x1 : w.cell? ⟨t, 1, none⟩ = some (.int .i64 x.pos) := h.cell 1
    by_cases hp : x.pos < x.hist.length
    · have e1 : x.ask k a wt p = (x.hist.getD x.pos 0, { x with pos := x.pos + 1 }) := by unfold Tp.ask; rw [if_neg hs, if_pos hp]
      rw [e1]
      obtain ⟨g, cp, hlv, hcp, hcell⟩ := (h.pick 1 rfl).row_some (by omega)
      subst hlv
      have hx : (U x.hist)[x.pos]? = some (.int .u64 (x.hist.getD x.pos 0)) := by simp [U, hp, List.getD_eq_getElem?_getD]
      have hrc := fun (w' : World) (L : List HP) (h : St w0 w' (row 22 1 (.slice (some ⟨g, 0, none⟩) x.hist.length cp) x.hist.length (U x.hist) :: L)) => row_cell h (by omega) hx
      generalize x.hist.getD x.pos 0 = v at hrc ⊢
      have HRC := Aside.mk (fun (w' : World) {L : List HP} => hrc w' L)
      have d1 : decide ((x.pos : Int) < (x.hist.length : Int)) = true := by simp; omega
      have d2 : wrap64 ((x.pos : Int) + 1) = (x.pos : Int) + 1 := w_of _ (by omega) (by omega)
      have d3 : wrap64 (x.pos : Int) = (x.pos : Int) := w_of _ (by omega) (by omega)
      have d4 : (x.pos : Int) < (x.hist.length : Int) := by omega
      have H := Aside.mk h
      clear h hcell e1 hs hs2 hp hrc hx
      go_enter Tryd.func148, Tryd.ntmps148
      go_wp2_with fail
      replace H := Aside.mk H.out.drew
      refine start_ (n := 10) (S := fun w' => w'.cell? ⟨t, 0, none⟩ = some (.slice (some ⟨g, 0, none⟩) x.hist.length cp) ∧ w'.cell? ⟨t, 1, none⟩ = some (.int .i64 x.pos)) (ds := []) (flg 10 0) (by kernel_rfl) rfl rfl (⟨H.out.cell 0, H.out.cell 1⟩) (fun hHeld => ?_)
      refine with_tabW tp.tab3 tp.bits3 (fun HT_ HW_ => ?_)
      refine pu_ (v := ?_) (a' := ?_) 0 (some 15) 1 rfl rfl HT_ (by kernel_rfl) (.inl ⟨by rfl, ?_⟩) ?_ ?_; rotate_left 2; (· intro w'; go_simp; with_reducible rfl); (· simp only [nrm]; rfl)
      refine pu_ (v := ?_) (a' := ?_) 1 (some 16) 3 rfl rfl HT_ (by kernel_rfl) (.inl ⟨by rfl, ?_⟩) ?_ ?_; rotate_left 2; (· intro w'; go_simp; with_reducible rfl); (· simp only [nrm]; rfl)
      refine pu_ (v := ?_) (a' := ?_) 2 (some 17) 7 rfl rfl HT_ (by kernel_rfl) (.inl ⟨by rfl, ?_⟩) ?_ ?_; rotate_left 2; (· intro w'; go_simp; with_reducible rfl); (· simp only [nrm]; rfl)
      refine tk_ (v := ?_) (a' := ?_) 3 (some 18) 15 rfl rfl HT_ HW_ (by kernel_rfl) (.inl ⟨by rfl, ?_⟩) hHeld ?_ ?_; rotate_left 2; (· rintro w' ⟨_, _⟩; go_simp; with_reducible rfl); (· simp only [nrm]; rfl)
      refine pu_ (v := ?_) (a' := ?_) 4 (some 19) 31 rfl rfl HT_ (by kernel_rfl) (.inl ⟨by rfl, ?_⟩) ?_ ?_; rotate_left 2; (· intro w'; go_simp; with_reducible rfl); (· simp only [nrm]; rfl)
      refine pu_ (v := ?_) (a' := ?_) 5 (some 20) 63 rfl rfl HT_ (by kernel_rfl) (.inl ⟨by rfl, ?_⟩) ?_ ?_; rotate_left 2; (· intro w'; go_simp; with_reducible rfl); (· simp only [nrm]; rfl)
      refine pu_ (v := ?_) (a' := ?_) 6 (some 21) 127 rfl rfl HT_ (by kernel_rfl) (.inl ⟨by rfl, ?_⟩) ?_ ?_; rotate_left 2; (· intro w'; go_simp; with_reducible rfl); (· simp only [nrm]; rfl)
      refine tk_ (v := ?_) (a' := ?_) 7 (some 22) 255 rfl rfl HT_ HW_ (by kernel_rfl) (.inl ⟨by rfl, ?_⟩) hHeld ?_ ?_; rotate_left 2; (· rintro w' ⟨_, _⟩; go_simp; with_reducible rfl); (· simp only [nrm]; rfl)
      refine pu_ (v := ?_) (a' := ?_) 8 (some 23) 511 rfl rfl HT_ (by kernel_rfl) (.inl ⟨by rfl, ?_⟩) ?_ ?_; rotate_left 2; (· intro w'; go_simp; with_reducible rfl); (· simp only [nrm]; rfl)
      refine pu_ (v := ?_) (a' := ?_) 9 (some 24) 1023 rfl rfl HT_ (by kernel_rfl) (.inl ⟨by rfl, ?_⟩) ?_ ?_; rotate_left 2; (· intro w'; go_simp; with_reducible rfl); (· simp only [nrm]; rfl)
      refine done_ (done_of HT_.out (by kernel_rfl)) ?_
      clear HT_ HW_ hHeld
      have y1 := H.out.cell 1
      have f1 := H.out.frozen 1
      go_wp2_with (with_reducible refine stop_at (.store 3 (.tmp 31) (.tmp 29)) rfl ?_)
      refine ⟨?_⟩
      refine st_store rfl rfl rfl [.int .i64 ((x.pos : Int) + 1)] #[.slice (some ⟨g, 0, none⟩) x.hist.length cp, .int .i64 ((x.pos : Int) + 1), .int .i64 0, .int .i64 x.nk, .int .i64 x.na, .int .u64 x.nw, .int .u64 x.np, .int .u64 0, .int .u64 0, .bool x.stop] rfl rfl rfl (Nat.le_of_ble_eq_true rfl) (by simp [Value.oneCell']) H.out rfl ?_
      intro w1 h1
      replace H := Aside.mk h1
      clear h1 y1 f1 x1 x9
      go_wp2_with fail
      replace H := Aside.mk H.out.drew
      refine start_ (n := 12) (S := fun w' => w'.cell? ⟨t, 0, none⟩ = some (.slice (some ⟨g, 0, none⟩) x.hist.length cp) ∧ w'.cell? ⟨t, 1, none⟩ = some (.int .i64 ((x.pos : Int) + 1)) ∧ w'.cell? ⟨g, x.pos, none⟩ = some (.int .u64 v)) (ds := []) (flg 12 0) (by kernel_rfl) rfl rfl (⟨H.out.cell 0, H.out.cell 1, HRC.out _ (H.out.pick 1 rfl)⟩) (fun hHeld => ?_)
      refine with_tabW tp.tab5 tp.bits5 (fun HT_ HW_ => ?_)
      refine pu_ (v := ?_) (a' := ?_) 0 (some 32) 1 rfl rfl HT_ (by kernel_rfl) (.inl ⟨by rfl, ?_⟩) ?_ ?_; rotate_left 2; (· intro w'; go_simp; with_reducible rfl); (· simp only [nrm]; rfl)
      refine pu_ (v := ?_) (a' := ?_) 1 (some 33) 3 rfl rfl HT_ (by kernel_rfl) (.inl ⟨by rfl, ?_⟩) ?_ ?_; rotate_left 2; (· intro w'; go_simp; with_reducible rfl); (· simp only [nrm]; rfl)
      refine pu_ (v := ?_) (a' := ?_) 2 (some 34) 7 rfl rfl HT_ (by kernel_rfl) (.inl ⟨by rfl, ?_⟩) ?_ ?_; rotate_left 2; (· intro w'; go_simp; with_reducible rfl); (· simp only [nrm]; rfl)
      refine tk_ (v := ?_) (a' := ?_) 3 (some 35) 15 rfl rfl HT_ HW_ (by kernel_rfl) (.inl ⟨by rfl, ?_⟩) hHeld ?_ ?_; rotate_left 2; (· rintro w' ⟨_, _, _⟩; go_simp; with_reducible rfl); (· simp only [nrm]; rfl)
      refine pu_ (v := ?_) (a' := ?_) 4 (some 36) 31 rfl rfl HT_ (by kernel_rfl) (.inl ⟨by rfl, ?_⟩) ?_ ?_; rotate_left 2; (· intro w'; go_simp; with_reducible rfl); (· simp only [nrm]; rfl)
      refine pu_ (v := ?_) (a' := ?_) 5 (some 37) 63 rfl rfl HT_ (by kernel_rfl) (.inl ⟨by rfl, ?_⟩) ?_ ?_; rotate_left 2; (· intro w'; go_simp; with_reducible rfl); (· simp only [nrm]; rfl)
      refine pu_ (v := ?_) (a' := ?_) 6 (some 38) 127 rfl rfl HT_ (by kernel_rfl) (.inl ⟨by rfl, ?_⟩) ?_ ?_; rotate_left 2; (· intro w'; go_simp; with_reducible rfl); (· simp only [nrm]; rfl)
      refine tk_ (v := ?_) (a' := ?_) 7 (some 39) 255 rfl rfl HT_ HW_ (by kernel_rfl) (.inl ⟨by rfl, ?_⟩) hHeld ?_ ?_; rotate_left 2; (· rintro w' ⟨_, _, _⟩; go_simp; with_reducible rfl); (· simp only [nrm]; rfl)
      refine pu_ (v := ?_) (a' := ?_) 8 (some 40) 511 rfl rfl HT_ (by kernel_rfl) (.inl ⟨by rfl, ?_⟩) ?_ ?_; rotate_left 2; (· intro w'; go_simp; with_reducible rfl); (· simp only [nrm]; rfl)
      refine pu_ (v := ?_) (a' := ?_) 9 (some 41) 1023 rfl rfl HT_ (by kernel_rfl) (.inl ⟨by rfl, ?_⟩) ?_ ?_; rotate_left 2; (· intro w'; go_simp; with_reducible rfl); (· simp only [nrm]; rfl)
      refine tk_ (v := ?_) (a' := ?_) 10 (some 42) 2047 rfl rfl HT_ HW_ (by kernel_rfl) (.inl ⟨by rfl, ?_⟩) hHeld ?_ ?_; rotate_left 2; (· rintro w' ⟨_, _, _⟩; go_simp; with_reducible rfl); (· simp only [nrm]; rfl)
      refine pu_ (v := ?_) (a' := ?_) 11 (some 10) 4095 rfl rfl HT_ (by kernel_rfl) (.inl ⟨by rfl, ?_⟩) ?_ ?_; rotate_left 2; (· intro w'; go_simp; with_reducible rfl); (· simp only [nrm]; rfl)
      refine done_ (done_of HT_.out (by kernel_rfl)) ?_
      clear HT_ HW_ hHeld
      go_wp2
      go_ret
      exact ⟨rfl, H.out⟩
    · have e1 : x.ask k a wt p = (0, { x with nk := k, na := a, nw := wt, np := p, stop := true }) := by unfold Tp.ask; rw [if_neg hs, if_neg hp]
      rw [e1]
      obtain ⟨A, cp, hlv, hcp, _⟩ := (h.pick 1 rfl).row_slice
      subst hlv
      have x0 : w.cell? ⟨t, 0, none⟩ = some (.slice A x.hist.length cp) := h.cell 0
      have n1 : ¬ ((x.pos : Int) < (x.hist.length : Int)) := by omega
      have d1 : decide ((x.pos : Int) < (x.hist.length : Int)) = false := by simpa using n1
      have H := Aside.mk h
      clear h e1 hs hs2 hp
      go_enter Tryd.func148, Tryd.ntmps148
      go_wp2_with fail
      replace H := Aside.mk H.out.drew
      refine start_ (n := 10) (S := fun w' => w'.cell? ⟨t, 0, none⟩ = some (.slice A x.hist.length cp) ∧ w'.cell? ⟨t, 1, none⟩ = some (.int .i64 x.pos)) (ds := []) (flg 10 0) (by kernel_rfl) rfl rfl (⟨H.out.cell 0, H.out.cell 1⟩) (fun hHeld => ?_)
      refine with_tabW tp.tab3 tp.bits3 (fun HT_ HW_ => ?_)
      refine pu_ (v := ?_) (a' := ?_) 0 (some 15) 1 rfl rfl HT_ (by kernel_rfl) (.inl ⟨by rfl, ?_⟩) ?_ ?_; rotate_left 2; (· intro w'; go_simp; with_reducible rfl); (· simp only [nrm]; rfl)
      refine pu_ (v := ?_) (a' := ?_) 1 (some 16) 3 rfl rfl HT_ (by kernel_rfl) (.inl ⟨by rfl, ?_⟩) ?_ ?_; rotate_left 2; (· intro w'; go_simp; with_reducible rfl); (· simp only [nrm]; rfl)
      refine pu_ (v := ?_) (a' := ?_) 2 (some 17) 7 rfl rfl HT_ (by kernel_rfl) (.inl ⟨by rfl, ?_⟩) ?_ ?_; rotate_left 2; (· intro w'; go_simp; with_reducible rfl); (· simp only [nrm]; rfl)
      refine tk_ (v := ?_) (a' := ?_) 3 (some 18) 15 rfl rfl HT_ HW_ (by kernel_rfl) (.inl ⟨by rfl, ?_⟩) hHeld ?_ ?_; rotate_left 2; (· rintro w' ⟨_, _⟩; go_simp; with_reducible rfl); (· simp only [nrm]; rfl)
      refine pu_ (v := ?_) (a' := ?_) 4 (some 19) 31 rfl rfl HT_ (by kernel_rfl) (.inl ⟨by rfl, ?_⟩) ?_ ?_; rotate_left 2; (· intro w'; go_simp; with_reducible rfl); (· simp only [nrm]; rfl)
      refine pu_ (v := ?_) (a' := ?_) 5 (some 20) 63 rfl rfl HT_ (by kernel_rfl) (.inl ⟨by rfl, ?_⟩) ?_ ?_; rotate_left 2; (· intro w'; go_simp; with_reducible rfl); (· simp only [nrm]; rfl)
      refine pu_ (v := ?_) (a' := ?_) 6 (some 21) 127 rfl rfl HT_ (by kernel_rfl) (.inl ⟨by rfl, ?_⟩) ?_ ?_; rotate_left 2; (· intro w'; go_simp; with_reducible rfl); (· simp only [nrm]; rfl)
      refine tk_ (v := ?_) (a' := ?_) 7 (some 22) 255 rfl rfl HT_ HW_ (by kernel_rfl) (.inl ⟨by rfl, ?_⟩) hHeld ?_ ?_; rotate_left 2; (· rintro w' ⟨_, _⟩; go_simp; with_reducible rfl); (· simp only [nrm]; rfl)
      refine pu_ (v := ?_) (a' := ?_) 8 (some 23) 511 rfl rfl HT_ (by kernel_rfl) (.inl ⟨by rfl, ?_⟩) ?_ ?_; rotate_left 2; (· intro w'; go_simp; with_reducible rfl); (· simp only [nrm]; rfl)
      refine pu_ (v := ?_) (a' := ?_) 9 (some 24) 1023 rfl rfl HT_ (by kernel_rfl) (.inl ⟨by rfl, ?_⟩) ?_ ?_; rotate_left 2; (· intro w'; go_simp; with_reducible rfl); (· simp only [nrm]; rfl)
      refine done_ (done_of HT_.out (by kernel_rfl)) ?_
      clear HT_ HW_ hHeld
      go_wp2_with (with_reducible refine stop_at (.store 98 (.tmp 50) (.tmp 48)) rfl ?_)
      refine ⟨?_⟩
      refine st_store rfl rfl rfl [.int .i64 0, .int .i64 k, .int .i64 a, .int .u64 wt, .int .u64 p, .int .u64 0, .int .u64 0] #[.slice A x.hist.length cp, .int .i64 x.pos, .int .i64 0, .int .i64 k, .int .i64 a, .int .u64 wt, .int .u64 p, .int .u64 0, .int .u64 0, .bool x.stop] rfl rfl rfl (Nat.le_of_ble_eq_true rfl) (by simp [Value.oneCell']) H.out rfl ?_
      intro w1 h1
      have y9 := h1.cell 9
      have f9 := h1.frozen 9
      have H1 := Aside.mk (h1.put 9 (.bool true) rfl)
      clear h1 H x0 x1 x9 d1
      go_wp2
      go_ret
      exact ⟨rfl, H1.out⟩
theorem tstore_ (hl : x.hist.length ≤ 1000) (a v : Int) (h : St w0 w (tpB t lv x :: tpR lv x :: F)) :
    Calls Tryd.prog 100 #[.pointer (some ⟨t, 0, none⟩), .int .i64 a, .int .u64 v] w fun e w' => e = .returned (.tuple #[]) ∧ St w0 w' (tpB t lv (x.ask 2 a 0 v).2 :: tpR lv (x.ask 2 a 0 v).2 :: F) := by
  have HA := Aside.mk (ask_ hl 2 a 0 v h)
  clear h
  go_enter Tryd.func100, Tryd.ntmps100
  go_wp2_with (go_at_call 148; refine HA.out.mono ?_; rintro e w1 ⟨rfl, h1⟩; have H := Aside.mk h1; clear h1)
  go_end0
  exact ⟨rfl, H.out⟩
theorem tagain_ (h : St w0 w (tpB t lv x :: tpR lv x :: F)) :
    Calls Tryd.prog 41 #[.pointer (some ⟨t, 0, none⟩)] w fun e w' => e = .returned (.tuple #[]) ∧ St w0 w' (tpB t lv x.again :: tpR lv x.again :: F) := by
  have x1 := h.cell 1
  have f1 := h.frozen 1
  have x9 := h.cell 9
  have f9 := h.frozen 9
  have H := Aside.mk ((h.put 1 (.int .i64 0) rfl).put 9 (.bool false) rfl)
  clear h
  go_enter Tryd.func41, Tryd.ntmps41
  go_wp2
  go_end0
  exact ⟨rfl, H.out⟩
end Go.Proofs.YtelfiegocdjnoaaDoor.Ar
