/- The package array of sizes; where a cell begins; what a look needs, at the object that 'built' builds. Conditions: the package array reads as it was laid. -/
import Derived.Test.YtelfiegocdjnoaaDoorOb0
import Derived.Deep.CutBlock
import Derived.Test.YtelfiegocdjnoaaDoorMrF0
namespace Go.Proofs.YtelfiegocdjnoaaDoor.Ar
open Go Go.RowKit Go.Proofs.YtelfiegocdjnoaaDoor.Sep Go.Proofs.YtelfiegocdjnoaaDoorW.PrintWords Go.Proofs.YtelfiegocdjnoaaDoorW.PrintLast Go.Proofs.YtelfiegocdjnoaaDoorW.PrintMore Go.Proofs.YtelfiegocdjnoaaDoor.Q
set_option linter.unusedVariables false
set_option linter.unusedSimpArgs false
set_option maxHeartbeats 8000000
set_option maxRecDepth 100000
/-- The sizes of the classes. -/
def szT : List Int := [2, 3, 4, 6, 8, 12, 16, 32]
def Tab (w : World) : Prop := ∀ i : Nat, i < 8 → w.cell? ⟨0, i, none⟩ = some (.int .i64 (szT.getD i 0))
theorem Tab.below {w w' : World} (h : Tab w) (hb : Below w.heap.size w w') : Tab w' := fun i hi => pw_cell_below hb (h i hi)
theorem Tab.st {w0 w : World} {L : List HP} (h : Tab w0) (hs : St w0 w L) : Tab w := h.below hs.below
theorem cell0_ {w : World} (h : Tab w) : Calls Tryd.prog 94 #[.int .i64 0, .int .i64 2] w fun e w' => e = .returned (.int .i64 2) ∧ Below w.heap.size w w' := by
  have HT := Aside.mk h
  have HK := Aside.mk (show sizes_known.f 0 = some true by decide +kernel)
  clear h
  go_enter Tryd.func94, Tryd.ntmps94
  go_wp2_with (go_at_call 146; refine (sizes_known.calls _ _ _ HK.out).mono ?_; rintro e w1 ⟨rfl, hb⟩; replace HT := Aside.mk (HT.out.below hb.below); have z0 := HT.out 0 (by decide); simp only [szT, List.getD_cons_zero] at z0)
  go_ret
  exact ⟨by first | rfl | decide, hb.below⟩
theorem words0_ {w : World} (h : Tab w) : Calls Tryd.prog 116 #[.int .i64 0] w fun e w' => e = .returned (.tuple #[.int .i64 2, .int .i64 0]) ∧ Below w.heap.size w w' := by
  have HT := Aside.mk h
  have HK := Aside.mk (show sizes_known.f 0 = some true by decide +kernel)
  clear h
  go_enter Tryd.func116, Tryd.ntmps116
  go_wp2_with (go_at_call 146; refine (sizes_known.calls _ _ _ HK.out).mono ?_; rintro e w1 ⟨rfl, hb⟩; replace HT := Aside.mk (HT.out.below hb.below); have z0 := HT.out 0 (by decide); simp only [szT, List.getD_cons_zero] at z0)
  go_ret2
  exact ⟨by first | rfl | decide, hb.below⟩
def ft.T3 : Bool × List (List Nat × List Nat) := (true, [([], []), ([0], [0]), ([1], [1]), ([2], [2]), ([3], [3]), ([3], [3]), ([5, 3], [3, 5]), ([4, 6, 3, 3], [3, 4, 6]), ([7, 7, 3], [3, 7]), ([8], [8]), ([9, 8], [8, 9]), ([8], [8]), ([11, 8], [8, 11]), ([12, 8], [8, 12]), ([13, 8], [8, 13]), ([8], [8]), ([15, 8], [8, 15]), ([14, 16, 8], [8, 14, 16]), ([17, 8], [8, 17]), ([18, 8], [8, 18]), ([19, 8], [8, 19]), ([10, 20, 8], [8, 10, 20]), ([8, 21, 3], [3, 8, 21]), ([3, 22], [3, 22]), ([23, 8, 0, 1, 2, 3, 4, 5, 6, 7, 8, 9, 10, 11, 12, 13, 14, 15, 16, 17, 18, 19, 20, 21, 22, 23], [23])])
def ft.B3 : List Nat := [0, 1, 3, 7, 15, 15, 47, 127, 255, 511, 1023, 511, 2559, 6655, 14847, 511, 33279, 129535, 260607, 522751, 1047039, 2097151, 4194303, 8388607, 16777215]
theorem ft.tab3 : rtab .any (opsOf Tryd.f83 3) = ft.T3 := by kernel_rfl
theorem ft.bits3 : waitsOk ft.T3.2 ft.B3 = true := by kernel_rfl
theorem fitsT_ (t : Value) (w : World) : Calls Tryd.prog 83 #[t, .agg #[.int .i64 0, .int .i64 2, .int .i64 1]] w fun e w' => e = .returned (.bool true) ∧ Below w.heap.size w w' := by
  have HW := Aside.mk (show header_Head_Words.f 10 0 2 1 = some 2 by decide +kernel)
  have H : Aside (St w _ [blk w.heap.size #[.int .i64 0, .int .i64 2, .int .i64 1] 43]) := Aside.mk ((St.start w).alloc #[.int .i64 0, .int .i64 2, .int .i64 1] 43)
  go_enter Tryd.func83, Tryd.ntmps83
  go_wp2_with (go_at_call 131; refine (header_Head_Words.calls _ _ _ _ _ _ HW.out).mono ?_; rintro e w1 ⟨rfl, hb⟩; replace H := Aside.mk (H.out.step hb); clear hb; have z0 := H.out.cell 0; have z1 := H.out.cell 1; have z2 := H.out.cell 2)
  replace H := Aside.mk H.out.drew
  refine start_ (n := 25) (S := fun w' => w'.cell? ⟨w.heap.size, 0, none⟩ = some (.int .i64 0) ∧ w'.cell? ⟨w.heap.size, 1, none⟩ = some (.int .i64 2) ∧ w'.cell? ⟨w.heap.size, 2, none⟩ = some (.int .i64 1)) (ds := []) (flg 25 0) (by kernel_rfl) rfl rfl (⟨H.out.cell 0, H.out.cell 1, H.out.cell 2⟩) (fun hHeld => ?_)
  refine with_tabW ft.tab3 ft.bits3 (fun HT_ HW_ => ?_)
  refine pu_ (v := ?_) (a' := ?_) 0 (some 8) 1 rfl rfl HT_ (by kernel_rfl) (.inl ⟨by rfl, ?_⟩) ?_ ?_; rotate_left 2; (· intro w'; go_simp; with_reducible rfl); (· simp only [nrm]; rfl)
  refine tk_ (v := ?_) (a' := ?_) 1 (some 9) 3 rfl rfl HT_ HW_ (by kernel_rfl) (.inl ⟨by rfl, ?_⟩) hHeld ?_ ?_; rotate_left 2; (· rintro w' ⟨_, _, _⟩; go_simp; with_reducible rfl); (· simp only [nrm]; rfl)
  refine pu_ (v := ?_) (a' := ?_) 2 (some 10) 7 rfl rfl HT_ (by kernel_rfl) (.inl ⟨by rfl, ?_⟩) ?_ ?_; rotate_left 2; (· intro w'; go_simp; with_reducible rfl); (· simp only [nrm]; rfl)
  refine pu_ (v := ?_) (a' := ?_) 3 (some 11) 15 rfl rfl HT_ (by kernel_rfl) (.inl ⟨by rfl, ?_⟩) ?_ ?_; rotate_left 2; (· intro w'; go_simp; with_reducible rfl); (· simp only [nrm]; rfl)
  refine pure_ (i := 4) (N := some 12) (v := undef) (a' := ?_) (flg 25 31) rfl rfl (any_of HT_.out (by kernel_rfl)) (fun _ _ _ h => h) (Or.inr ⟨by rfl, rfl⟩) ?_ ?_
  rotate_left
  · simp only [nrm]
    rfl
  refine pure_ (i := 5) (N := some 13) (v := undef) (a' := ?_) (flg 25 63) rfl rfl (any_of HT_.out (by kernel_rfl)) (fun _ _ _ h => h) (Or.inr ⟨by rfl, rfl⟩) ?_ ?_
  rotate_left
  · simp only [nrm]
    rfl
  refine pure_ (i := 6) (N := some 14) (v := undef) (a' := ?_) (flg 25 127) rfl rfl (any_of HT_.out (by kernel_rfl)) (fun _ _ _ h => h) (Or.inr ⟨by rfl, rfl⟩) ?_ ?_
  rotate_left
  · simp only [nrm]
    rfl
  refine pure_ (i := 7) (N := some 15) (v := undef) (a' := ?_) (flg 25 255) rfl rfl (any_of HT_.out (by kernel_rfl)) (fun _ _ _ h => h) (Or.inr ⟨by rfl, rfl⟩) ?_ ?_
  rotate_left
  · simp only [nrm]
    rfl
  refine pure_ (i := 8) (N := some 16) (v := undef) (a' := ?_) (flg 25 511) rfl rfl (any_of HT_.out (by kernel_rfl)) (fun _ _ _ h => h) (Or.inr ⟨by rfl, rfl⟩) ?_ ?_
  rotate_left
  · simp only [nrm]
    rfl
  refine pure_ (i := 9) (N := some 17) (v := undef) (a' := ?_) (flg 25 1023) rfl rfl (any_of HT_.out (by kernel_rfl)) (fun _ _ _ h => h) (Or.inr ⟨by rfl, rfl⟩) ?_ ?_
  rotate_left
  · simp only [nrm]
    rfl
  refine pure_ (i := 10) (N := some 18) (v := undef) (a' := ?_) (flg 25 2047) rfl rfl (any_of HT_.out (by kernel_rfl)) (fun _ _ _ h => h) (Or.inr ⟨by rfl, rfl⟩) ?_ ?_
  rotate_left
  · simp only [nrm]
    rfl
  refine pure_ (i := 11) (N := some 19) (v := undef) (a' := ?_) (flg 25 4095) rfl rfl (any_of HT_.out (by kernel_rfl)) (fun _ _ _ h => h) (Or.inr ⟨by rfl, rfl⟩) ?_ ?_
  rotate_left
  · simp only [nrm]
    rfl
  refine pure_ (i := 12) (N := some 20) (v := undef) (a' := ?_) (flg 25 8191) rfl rfl (any_of HT_.out (by kernel_rfl)) (fun _ _ _ h => h) (Or.inr ⟨by rfl, rfl⟩) ?_ ?_
  rotate_left
  · simp only [nrm]
    rfl
  refine pure_ (i := 13) (N := some 21) (v := undef) (a' := ?_) (flg 25 16383) rfl rfl (any_of HT_.out (by kernel_rfl)) (fun _ _ _ h => h) (Or.inr ⟨by rfl, rfl⟩) ?_ ?_
  rotate_left
  · simp only [nrm]
    rfl
  refine pure_ (i := 14) (N := some 22) (v := undef) (a' := ?_) (flg 25 32767) rfl rfl (any_of HT_.out (by kernel_rfl)) (fun _ _ _ h => h) (Or.inr ⟨by rfl, rfl⟩) ?_ ?_
  rotate_left
  · simp only [nrm]
    rfl
  refine pure_ (i := 15) (N := some 23) (v := undef) (a' := ?_) (flg 25 65535) rfl rfl (any_of HT_.out (by kernel_rfl)) (fun _ _ _ h => h) (Or.inr ⟨by rfl, rfl⟩) ?_ ?_
  rotate_left
  · simp only [nrm]
    rfl
  refine pure_ (i := 16) (N := some 24) (v := undef) (a' := ?_) (flg 25 131071) rfl rfl (any_of HT_.out (by kernel_rfl)) (fun _ _ _ h => h) (Or.inr ⟨by rfl, rfl⟩) ?_ ?_
  rotate_left
  · simp only [nrm]
    rfl
  refine pure_ (i := 17) (N := some 25) (v := undef) (a' := ?_) (flg 25 262143) rfl rfl (any_of HT_.out (by kernel_rfl)) (fun _ _ _ h => h) (Or.inr ⟨by rfl, rfl⟩) ?_ ?_
  rotate_left
  · simp only [nrm]
    rfl
  refine pure_ (i := 18) (N := some 26) (v := undef) (a' := ?_) (flg 25 524287) rfl rfl (any_of HT_.out (by kernel_rfl)) (fun _ _ _ h => h) (Or.inr ⟨by rfl, rfl⟩) ?_ ?_
  rotate_left
  · simp only [nrm]
    rfl
  refine pure_ (i := 19) (N := some 27) (v := undef) (a' := ?_) (flg 25 1048575) rfl rfl (any_of HT_.out (by kernel_rfl)) (fun _ _ _ h => h) (Or.inr ⟨by rfl, rfl⟩) ?_ ?_
  rotate_left
  · simp only [nrm]
    rfl
  refine pure_ (i := 20) (N := some 28) (v := undef) (a' := ?_) (flg 25 2097151) rfl rfl (any_of HT_.out (by kernel_rfl)) (fun _ _ _ h => h) (Or.inr ⟨by rfl, rfl⟩) ?_ ?_
  rotate_left
  · simp only [nrm]
    rfl
  refine pure_ (i := 21) (N := some 29) (v := undef) (a' := ?_) (flg 25 4194303) rfl rfl (any_of HT_.out (by kernel_rfl)) (fun _ _ _ h => h) (Or.inr ⟨by rfl, rfl⟩) ?_ ?_
  rotate_left
  · simp only [nrm]
    rfl
  refine pure_ (i := 22) (N := some 30) (v := undef) (a' := ?_) (flg 25 8388607) rfl rfl (any_of HT_.out (by kernel_rfl)) (fun _ _ _ h => h) (Or.inr ⟨by rfl, rfl⟩) ?_ ?_
  rotate_left
  · simp only [nrm]
    rfl
  refine pu_ (v := ?_) (a' := ?_) 23 (some 31) 16777215 rfl rfl HT_ (by kernel_rfl) (.inl ⟨by rfl, ?_⟩) ?_ ?_; rotate_left 2; (· intro w'; go_simp; with_reducible rfl); (· simp only [nrm]; rfl)
  refine pu_ (v := ?_) (a' := ?_) 24 (some 4) 33554431 rfl rfl HT_ (by kernel_rfl) (.inl ⟨by rfl, ?_⟩) ?_ ?_; rotate_left 2; (· intro w'; go_simp; with_reducible rfl); (· simp only [nrm]; rfl)
  refine done_ (done_of HT_.out (by kernel_rfl)) ?_
  clear HT_ HW_ hHeld
  go_wp2
  go_ret
  exact ⟨rfl, H.out.below⟩
theorem fits_ {w : World} (h : Tab w) : Calls Tryd.prog 87 #[.agg #[.int .i64 1, .int .i64 0, .int .i64 1, .int .i64 0, .int .i64 0], .int .i64 2, .agg #[.int .i64 0, .int .i64 2, .int .i64 1], .int .i64 1, .int .i64 0] w fun e w' => e = .returned (.bool true) ∧ Below w.heap.size w w' := by
  have HT := Aside.mk h
  have HW := Aside.mk (show header_Head_Words.f 10 0 2 1 = some 2 by decide +kernel)
  have H : Aside (St w _ [blk (w.heap.size + 1) #[.int .i64 0, .int .i64 2, .int .i64 1] 43, blk w.heap.size #[.int .i64 1, .int .i64 0, .int .i64 1, .int .i64 0, .int .i64 0] 168]) := Aside.mk (by have := ((St.start w).alloc #[.int .i64 1, .int .i64 0, .int .i64 1, .int .i64 0, .int .i64 0] 168).alloc #[.int .i64 0, .int .i64 2, .int .i64 1] 43; simpa using this)
  clear h
  go_enter Tryd.func87, Tryd.ntmps87
  go_wp2_with (first
    | (go_at_call 116; refine (words0_ (HT.out.st H.out)).mono ?_; rintro e w1 ⟨rfl, hb⟩; replace H := Aside.mk (H.out.step hb); clear hb; have z0 := H.out.cell 0; have z1 := H.out.cell 1; have z2 := H.out.cell 2)
    | (go_at_call 131; refine (header_Head_Words.calls _ _ _ _ _ _ HW.out).mono ?_; rintro e w2 ⟨rfl, hb⟩; replace H := Aside.mk (H.out.step hb); clear hb))
  go_ret
  exact ⟨rfl, H.out.below⟩
end Go.Proofs.YtelfiegocdjnoaaDoor.Ar
