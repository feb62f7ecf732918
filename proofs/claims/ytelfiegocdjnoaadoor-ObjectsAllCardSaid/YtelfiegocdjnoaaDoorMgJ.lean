/- A build's steps. Conditions: the port has a grant, the cell is there. -/
import Derived.Test.YtelfiegocdjnoaaDoorMgC
import Derived.Test.YtelfiegocdjnoaaDoorWk
import Derived.Test.YtelfiegocdjnoaaDoorStp
import Derived.Test.YtelfiegocdjnoaaDoorMrF0
import Derived.Deep.CutBlock
namespace Go.Proofs.YtelfiegocdjnoaaDoor.Ar
open Go Go.RowKit Go.Proofs.YtelfiegocdjnoaaDoor.Sep Go.Proofs.YtelfiegocdjnoaaDoorW.PrintWords Go.Proofs.YtelfiegocdjnoaaDoorW.PrintLast Go.Proofs.YtelfiegocdjnoaaDoorW.PrintMore Go.Proofs.YtelfiegocdjnoaaDoor.Q
set_option linter.unusedVariables false
set_option linter.unusedSimpArgs false
set_option maxHeartbeats 8000000
set_option maxRecDepth 100000
section
def bd.T6 : Bool × List (List Nat × List Nat) := (true, [([], []), ([], []), ([1], [1]), ([2], [2]), ([3], [3]), ([], []), ([5], [5]), ([6], [6]), ([7], [7]), ([4, 8], [4, 8]), ([0, 9], [0, 9])])
def bd.B6 : List Nat := [0, 0, 2, 6, 14, 0, 32, 96, 224, 510, 1023]
theorem bd.tab6 : rtab .any (opsOf Tryd.f18 6) = bd.T6 := by kernel_rfl
theorem bd.bits6 : waitsOk bd.T6.2 bd.B6 = true := by kernel_rfl
def bd.T9 : Bool × List (List Nat × List Nat) := (true, [([], []), ([], []), ([1], [1]), ([2], [2]), ([3], [3]), ([], []), ([5], [5]), ([6], [6]), ([7], [7]), ([0, 4, 8], [0, 4, 8])])
def bd.B9 : List Nat := [0, 0, 2, 6, 14, 0, 32, 96, 224, 511]
theorem bd.tab9 : rtab .any (opsOf Tryd.f18 9) = bd.T9 := by kernel_rfl
theorem bd.bits9 : waitsOk bd.T9.2 bd.B9 = true := by kernel_rfl
/-- A build. -/
abbrev bdB (b : Nat) (at_ hd left : Int) (dn : Bool) : HP := blk b #[.int .i64 at_, .int .u64 hd, .int .i64 left, .bool dn] 149
variable {w0 w : World} {F : List HP} {b a gC p : Nat} {lv : Value} {l : List Acc} {cn fl who : Int} {X : List Int}
theorem over_ {at_ hd left : Int} {dn : Bool} (h : St w0 w (bdB b at_ hd left dn :: F)) : Calls Tryd.prog 20 #[.pointer (some ⟨b, 0, none⟩)] w fun e w' => e = .returned (.bool dn) ∧ w' = w := by
  have x3 := h.cell 3
  clear h
  go_enter Tryd.func20, Tryd.ntmps20
  go_wp2
  go_ret
  exact ⟨rfl, rfl⟩
theorem bstep_last {i : Nat} {hd : Int} (hi : i < X.length) (hn : X.length ≤ 4096) (hl : l.length ≤ 1000000) (hc0 : 0 ≤ cn) (hc1 : cn ≤ 1000000) (h : St w0 w (Are p a gC who true X lv l cn fl ++ bdB b i hd 0 false :: F)) :
    Calls Tryd.prog 18 #[.pointer (some ⟨b, 0, none⟩), .pointer (some ⟨p, 0, none⟩)] w fun e w' => ∃ lv', e = .returned (.bool true) ∧ St w0 w' (Are p a gC who false (X.set i hd) lv' (l ++ [⟨who, 2, i, 0, hd, X.getD i 0, hd⟩]) (cn + 1) fl ++ bdB b i hd 0 true :: F) := by
  have x2 : w.cell? ⟨b, 2, none⟩ = some (.int .i64 0) := (h.pick 4 rfl).cell 2
  have x3 : w.cell? ⟨b, 3, none⟩ = some (.bool false) := (h.pick 4 rfl).cell 3
  have hst := Aside.mk (fun (w : World) (h : St w0 w (Are p a gC who true X lv l cn fl ++ bdB b i hd 0 false :: F)) => store_ i hd hi hn hl hc0 hc1 h)
  have H := Aside.mk h
  clear h hi hn hl hc0 hc1
  go_enter Tryd.func18, Tryd.ntmps18
  go_wp2_with (go_at_call 76; refine (open_ H.out).mono ?_; rintro e w1 ⟨rfl, rfl⟩)
  replace H := Aside.mk H.out.drew
  refine start_ (n := 10) (S := fun w' => w'.cell? ⟨b, 0, none⟩ = some (.int .i64 i) ∧ w'.cell? ⟨b, 1, none⟩ = some (.int .u64 hd)) (ds := []) (flg 10 0) (by kernel_rfl) rfl rfl (⟨(H.out.pick 4 rfl).cell 0, (H.out.pick 4 rfl).cell 1⟩) (fun hHeld => ?_)
  refine with_tabW bd.tab9 bd.bits9 (fun HT_ HW_ => ?_)
  refine pu_ (v := ?_) (a' := ?_) 0 (some 39) 1 rfl rfl HT_ (by kernel_rfl) (.inl ⟨by rfl, ?_⟩) ?_ ?_; rotate_left 2; (· intro w'; go_simp; with_reducible rfl); (· simp only [nrm]; rfl)
  refine pu_ (v := ?_) (a' := ?_) 1 (some 40) 3 rfl rfl HT_ (by kernel_rfl) (.inl ⟨by rfl, ?_⟩) ?_ ?_; rotate_left 2; (· intro w'; go_simp; with_reducible rfl); (· simp only [nrm]; rfl)
  refine pu_ (v := ?_) (a' := ?_) 2 (some 41) 7 rfl rfl HT_ (by kernel_rfl) (.inl ⟨by rfl, ?_⟩) ?_ ?_; rotate_left 2; (· intro w'; go_simp; with_reducible rfl); (· simp only [nrm]; rfl)
  refine pu_ (v := ?_) (a' := ?_) 3 (some 42) 15 rfl rfl HT_ (by kernel_rfl) (.inl ⟨by rfl, ?_⟩) ?_ ?_; rotate_left 2; (· intro w'; go_simp; with_reducible rfl); (· simp only [nrm]; rfl)
  refine tk_ (v := ?_) (a' := ?_) 4 (some 43) 31 rfl rfl HT_ HW_ (by kernel_rfl) (.inl ⟨by rfl, ?_⟩) hHeld ?_ ?_; rotate_left 2; (· rintro w' ⟨_, _⟩; go_simp; with_reducible rfl); (· simp only [nrm]; rfl)
  refine pu_ (v := ?_) (a' := ?_) 5 (some 44) 63 rfl rfl HT_ (by kernel_rfl) (.inl ⟨by rfl, ?_⟩) ?_ ?_; rotate_left 2; (· intro w'; go_simp; with_reducible rfl); (· simp only [nrm]; rfl)
  refine pu_ (v := ?_) (a' := ?_) 6 (some 45) 127 rfl rfl HT_ (by kernel_rfl) (.inl ⟨by rfl, ?_⟩) ?_ ?_; rotate_left 2; (· intro w'; go_simp; with_reducible rfl); (· simp only [nrm]; rfl)
  refine pu_ (v := ?_) (a' := ?_) 7 (some 46) 255 rfl rfl HT_ (by kernel_rfl) (.inl ⟨by rfl, ?_⟩) ?_ ?_; rotate_left 2; (· intro w'; go_simp; with_reducible rfl); (· simp only [nrm]; rfl)
  refine tk_ (v := ?_) (a' := ?_) 8 (some 47) 511 rfl rfl HT_ HW_ (by kernel_rfl) (.inl ⟨by rfl, ?_⟩) hHeld ?_ ?_; rotate_left 2; (· rintro w' ⟨_, _⟩; go_simp; with_reducible rfl); (· simp only [nrm]; rfl)
  refine on_ 9 (some 48) 1023 rfl rfl HT_ (by kernel_rfl) (by decide) (fun K hK => ?_)
  refine goes_ Tryd.func77 (by kernel_rfl) rfl #[.pointer (some ⟨p, 0, none⟩), .int .i64 i, .int .u64 hd] (by rfl) rfl rfl (by (try simp only [List.map_toArray, List.map_cons, List.map_nil]); first | done | rfl) ?_
  refine (hst.out _ H.out).mono ?_
  rintro e w3 ⟨lv1, rfl, h1⟩
  replace H := Aside.mk h1
  clear h1
  refine ⟨_, rfl, ?_⟩
  refine hK.out _ _ ⟨(H.out.pick 4 rfl).cell 0, (H.out.pick 4 rfl).cell 1⟩ (fun hHeld => ?_)
  clear hK K
  refine norm_ (a' := ?_) ?_ ?_
  rotate_left
  · show Act.put _ (some 48) _ = _
    simp only [nrm]
    rfl
  refine done_ (done_of HT_.out (by kernel_rfl)) ?_
  clear HT_ HW_ hHeld
  have z3 := (H.out.pick 4 rfl).cell 3
  have f3 := (H.out.pick 4 rfl).frozen 3
  go_wp2
  go_ret
  exact ⟨lv1, rfl, back_ (L := Are p a gC who false (X.set i hd) lv1 (l ++ [⟨who, 2, i, 0, hd, X.getD i 0, hd⟩]) (cn + 1) fl) ((H.out.pick 4 rfl).put 3 (.bool true) rfl)⟩
theorem bstep_more {i k : Nat} {hd : Int} (hi : i + (k + 1) < X.length) (hn : X.length ≤ 4096) (hl : l.length ≤ 1000000) (hc0 : 0 ≤ cn) (hc1 : cn ≤ 1000000) (h : St w0 w (Are p a gC who true X lv l cn fl ++ bdB b i hd ((k : Int) + 1) false :: F)) :
    Calls Tryd.prog 18 #[.pointer (some ⟨b, 0, none⟩), .pointer (some ⟨p, 0, none⟩)] w fun e w' => ∃ lv', e = .returned (.bool false) ∧ St w0 w' (Are p a gC who false (X.set (i + (k + 1)) 0) lv' (l ++ [⟨who, 2, (i + (k + 1) : Nat), 0, 0, X.getD (i + (k + 1)) 0, 0⟩]) (cn + 1) fl ++ bdB b i hd k false :: F) := by
  have x2 : w.cell? ⟨b, 2, none⟩ = some (.int .i64 ((k : Int) + 1)) := (h.pick 4 rfl).cell 2
  have x3 : w.cell? ⟨b, 3, none⟩ = some (.bool false) := (h.pick 4 rfl).cell 3
  have hw1 : wrap64 ((i : Int) + ((k : Int) + 1)) = ((i + (k + 1) : Nat) : Int) := by unfold wrap64; omega
  have hst : Aside (∀ w : World, St w0 w (Are p a gC who true X lv l cn fl ++ bdB b i hd ((k : Int) + 1) false :: F) → Calls Tryd.prog 77 #[.pointer (some ⟨p, 0, none⟩), .int .i64 (wrap64 ((i : Int) + ((k : Int) + 1))), .int .u64 0] w fun e w' => ∃ lv', e = .returned (.tuple #[]) ∧ St w0 w' (Are p a gC who false (X.set (i + (k + 1)) 0) lv' (l ++ [⟨who, 2, (i + (k + 1) : Nat), 0, 0, X.getD (i + (k + 1)) 0, 0⟩]) (cn + 1) fl ++ bdB b i hd ((k : Int) + 1) false :: F)) := ⟨fun w h => by rw [hw1]; exact store_ (i + (k + 1)) 0 hi hn hl hc0 hc1 h⟩
  clear hw1
  have hw2 : wrap64 (k : Int) = k := by unfold wrap64; omega
  have d0 : decide ((0 : Int) < (k : Int) + 1) = true := by simp
  have n0 : (0 : Int) < (k : Int) + 1 := by omega
  have H := Aside.mk h
  clear h hi hn hl hc0 hc1
  go_enter Tryd.func18, Tryd.ntmps18
  go_wp2_with (go_at_call 76; refine (open_ H.out).mono ?_; rintro e w1 ⟨rfl, rfl⟩)
  replace H := Aside.mk H.out.drew
  refine start_ (n := 11) (S := fun w' => w'.cell? ⟨b, 0, none⟩ = some (.int .i64 i) ∧ w'.cell? ⟨b, 2, none⟩ = some (.int .i64 ((k : Int) + 1))) (ds := []) (flg 11 0) (by kernel_rfl) rfl rfl (⟨(H.out.pick 4 rfl).cell 0, (H.out.pick 4 rfl).cell 2⟩) (fun hHeld => ?_)
  refine with_tabW bd.tab6 bd.bits6 (fun HT_ HW_ => ?_)
  refine pu_ (v := ?_) (a' := ?_) 0 (some 21) 1 rfl rfl HT_ (by kernel_rfl) (.inl ⟨by rfl, ?_⟩) ?_ ?_; rotate_left 2; (· intro w'; go_simp; with_reducible rfl); (· simp only [nrm]; rfl)
  refine pu_ (v := ?_) (a' := ?_) 1 (some 22) 3 rfl rfl HT_ (by kernel_rfl) (.inl ⟨by rfl, ?_⟩) ?_ ?_; rotate_left 2; (· intro w'; go_simp; with_reducible rfl); (· simp only [nrm]; rfl)
  refine pu_ (v := ?_) (a' := ?_) 2 (some 23) 7 rfl rfl HT_ (by kernel_rfl) (.inl ⟨by rfl, ?_⟩) ?_ ?_; rotate_left 2; (· intro w'; go_simp; with_reducible rfl); (· simp only [nrm]; rfl)
  refine pu_ (v := ?_) (a' := ?_) 3 (some 24) 15 rfl rfl HT_ (by kernel_rfl) (.inl ⟨by rfl, ?_⟩) ?_ ?_; rotate_left 2; (· intro w'; go_simp; with_reducible rfl); (· simp only [nrm]; rfl)
  refine tk_ (v := ?_) (a' := ?_) 4 (some 25) 31 rfl rfl HT_ HW_ (by kernel_rfl) (.inl ⟨by rfl, ?_⟩) hHeld ?_ ?_; rotate_left 2; (· rintro w' ⟨_, _⟩; go_simp; with_reducible rfl); (· simp only [nrm]; rfl)
  refine pu_ (v := ?_) (a' := ?_) 5 (some 26) 63 rfl rfl HT_ (by kernel_rfl) (.inl ⟨by rfl, ?_⟩) ?_ ?_; rotate_left 2; (· intro w'; go_simp; with_reducible rfl); (· simp only [nrm]; rfl)
  refine pu_ (v := ?_) (a' := ?_) 6 (some 27) 127 rfl rfl HT_ (by kernel_rfl) (.inl ⟨by rfl, ?_⟩) ?_ ?_; rotate_left 2; (· intro w'; go_simp; with_reducible rfl); (· simp only [nrm]; rfl)
  refine pu_ (v := ?_) (a' := ?_) 7 (some 28) 255 rfl rfl HT_ (by kernel_rfl) (.inl ⟨by rfl, ?_⟩) ?_ ?_; rotate_left 2; (· intro w'; go_simp; with_reducible rfl); (· simp only [nrm]; rfl)
  refine tk_ (v := ?_) (a' := ?_) 8 (some 29) 511 rfl rfl HT_ HW_ (by kernel_rfl) (.inl ⟨by rfl, ?_⟩) hHeld ?_ ?_; rotate_left 2; (· rintro w' ⟨_, _⟩; go_simp; with_reducible rfl); (· simp only [nrm]; rfl)
  refine pu_ (v := ?_) (a' := ?_) 9 (some 30) 1023 rfl rfl HT_ (by kernel_rfl) (.inl ⟨by rfl, ?_⟩) ?_ ?_; rotate_left 2; (· intro w'; go_simp; with_reducible rfl); (· simp only [nrm]; rfl)
  refine on_ 10 (some 31) 2047 rfl rfl HT_ (by kernel_rfl) (by decide) (fun K hK => ?_)
  refine goes_ Tryd.func77 (by kernel_rfl) rfl #[.pointer (some ⟨p, 0, none⟩), .int .i64 (wrap64 ((i : Int) + ((k : Int) + 1))), .int .u64 0] (by rfl) rfl rfl (by (try simp only [List.map_toArray, List.map_cons, List.map_nil]); first | done | rfl) ?_
  refine (hst.out _ H.out).mono ?_
  rintro e w3 ⟨lv1, rfl, h1⟩
  replace H := Aside.mk h1
  clear h1
  refine ⟨_, rfl, ?_⟩
  refine hK.out _ _ ⟨(H.out.pick 4 rfl).cell 0, (H.out.pick 4 rfl).cell 2⟩ (fun hHeld => ?_)
  clear hK K
  refine norm_ (a' := ?_) ?_ ?_
  rotate_left
  · show Act.put _ (some 31) _ = _
    simp only [nrm]
    rfl
  refine done_ (done_of HT_.out (by kernel_rfl)) ?_
  clear HT_ HW_ hHeld
  have z2 := (H.out.pick 4 rfl).cell 2
  have f2 := (H.out.pick 4 rfl).frozen 2
  go_wp2
  go_ret
  refine ⟨lv1, rfl, back_ (L := Are p a gC who false (X.set (i + (k + 1)) 0) lv1 (l ++ [⟨who, 2, (i + (k + 1) : Nat), 0, 0, X.getD (i + (k + 1)) 0, 0⟩]) (cn + 1) fl) ?_⟩
  have h9 := (H.out.pick 4 rfl).put 2 (.int .i64 k) rfl
  simpa [hw2] using h9
end
section
/-- The sizes of the classes. -/
def szT : List Int := [2, 3, 4, 6, 8, 12, 16, 32]
def Tab (w : World) : Prop := ∀ i : Nat, i < 8 → w.cell? ⟨0, i, none⟩ = some (.int .i64 (szT.getD i 0))
theorem Tab.below {w w' : World} (h : Tab w) (hb : Below w.heap.size w w') : Tab w' := fun i hi => pw_cell_below hb (h i hi)
theorem Tab.st {w0 w : World} {L : List HP} (h : Tab w0) (hs : St w0 w L) : Tab w := h.below hs.below
theorem cell0_ {w : World} (h : Tab w) : Calls Tryd.prog 94 #[.int .i64 0, .int .i64 2] w fun e w' => e = .returned (.int .i64 2) ∧ Below w.heap.size w w' := by
  have HT := Aside.mk h
  have HK := Aside.mk (show sizes_known.f 0 = some true by decide +kernel)
  clear h
  go_enter Tryd.func94, Tryd.ntmps94
  go_wp2_with (go_at_call 146; refine (sizes_known.calls _ _ _ HK.out).mono ?_; rintro e w1 ⟨rfl, hb⟩; replace HT := Aside.mk (HT.out.below hb.below); have z0 := HT.out 0 (by decide); simp only [szT, List.getD_cons_zero] at z0)
  go_ret
  exact ⟨by first | rfl | decide, hb.below⟩
theorem words0_ {w : World} (h : Tab w) : Calls Tryd.prog 116 #[.int .i64 0] w fun e w' => e = .returned (.tuple #[.int .i64 2, .int .i64 0]) ∧ Below w.heap.size w w' := by
  have HT := Aside.mk h
  have HK := Aside.mk (show sizes_known.f 0 = some true by decide +kernel)
  clear h
  go_enter Tryd.func116, Tryd.ntmps116
  go_wp2_with (go_at_call 146; refine (sizes_known.calls _ _ _ HK.out).mono ?_; rintro e w1 ⟨rfl, hb⟩; replace HT := Aside.mk (HT.out.below hb.below); have z0 := HT.out 0 (by decide); simp only [szT, List.getD_cons_zero] at z0)
  go_ret2
  exact ⟨by first | rfl | decide, hb.below⟩
def ft.T3 : Bool × List (List Nat × List Nat) := (true, [([], []), ([0], [0]), ([1], [1]), ([2], [2]), ([3], [3]), ([3], [3]), ([5, 3], [3, 5]), ([4, 6, 3, 3], [3, 4, 6]), ([7, 7, 3], [3, 7]), ([8], [8]), ([9, 8], [8, 9]), ([8], [8]), ([11, 8], [8, 11]), ([12, 8], [8, 12]), ([13, 8], [8, 13]), ([8], [8]), ([15, 8], [8, 15]), ([14, 16, 8], [8, 14, 16]), ([17, 8], [8, 17]), ([18, 8], [8, 18]), ([19, 8], [8, 19]), ([10, 20, 8], [8, 10, 20]), ([8, 21, 3], [3, 8, 21]), ([3, 22], [3, 22]), ([23, 8, 0, 1, 2, 3, 4, 5, 6, 7, 8, 9, 10, 11, 12, 13, 14, 15, 16, 17, 18, 19, 20, 21, 22, 23], [23])])
def ft.B3 : List Nat := [0, 1, 3, 7, 15, 15, 47, 127, 255, 511, 1023, 511, 2559, 6655, 14847, 511, 33279, 129535, 260607, 522751, 1047039, 2097151, 4194303, 8388607, 16777215]
theorem ft.tab3 : rtab .any (opsOf Tryd.f83 3) = ft.T3 := by kernel_rfl
theorem ft.bits3 : waitsOk ft.T3.2 ft.B3 = true := by kernel_rfl
theorem fitsT_ (t : Value) (w : World) : Calls Tryd.prog 83 #[t, .agg #[.int .i64 0, .int .i64 2, .int .i64 1]] w fun e w' => e = .returned (.bool true) ∧ Below w.heap.size w w' := by
  have HW := Aside.mk (show header_Head_Words.f 10 0 2 1 = some 2 by decide +kernel)
  have H : Aside (St w _ [blk w.heap.size #[.int .i64 0, .int .i64 2, .int .i64 1] 43]) := Aside.mk ((St.start w).alloc #[.int .i64 0, .int .i64 2, .int .i64 1] 43)
  go_enter Tryd.func83, Tryd.ntmps83
  go_wp2_with (go_at_call 131; refine (header_Head_Words.calls _ _ _ _ _ _ HW.out).mono ?_; rintro e w1 ⟨rfl, hb⟩; replace H := Aside.mk (H.out.step hb); clear hb; have z0 := H.out.cell 0; have z1 := H.out.cell 1; have z2 := H.out.cell 2)
  replace H := Aside.mk H.out.drew
  refine start_ (n := 25) (S := fun w' => w'.cell? ⟨w.heap.size, 0, none⟩ = some (.int .i64 0) ∧ w'.cell? ⟨w.heap.size, 1, none⟩ = some (.int .i64 2) ∧ w'.cell? ⟨w.heap.size, 2, none⟩ = some (.int .i64 1)) (ds := []) (flg 25 0) (by kernel_rfl) rfl rfl (⟨H.out.cell 0, H.out.cell 1, H.out.cell 2⟩) (fun hHeld => ?_)
  refine with_tabW ft.tab3 ft.bits3 (fun HT_ HW_ => ?_)
  refine pu_ (v := ?_) (a' := ?_) 0 (some 8) 1 rfl rfl HT_ (by kernel_rfl) (.inl ⟨by rfl, ?_⟩) ?_ ?_; rotate_left 2; (· intro w'; go_simp; with_reducible rfl); (· simp only [nrm]; rfl)
  refine tk_ (v := ?_) (a' := ?_) 1 (some 9) 3 rfl rfl HT_ HW_ (by kernel_rfl) (.inl ⟨by rfl, ?_⟩) hHeld ?_ ?_; rotate_left 2; (· rintro w' ⟨_, _, _⟩; go_simp; with_reducible rfl); (· simp only [nrm]; rfl)
  refine pu_ (v := ?_) (a' := ?_) 2 (some 10) 7 rfl rfl HT_ (by kernel_rfl) (.inl ⟨by rfl, ?_⟩) ?_ ?_; rotate_left 2; (· intro w'; go_simp; with_reducible rfl); (· simp only [nrm]; rfl)
  refine pu_ (v := ?_) (a' := ?_) 3 (some 11) 15 rfl rfl HT_ (by kernel_rfl) (.inl ⟨by rfl, ?_⟩) ?_ ?_; rotate_left 2; (· intro w'; go_simp; with_reducible rfl); (· simp only [nrm]; rfl)
  refine pure_ (i := 4) (N := some 12) (v := undef) (a' := ?_) (flg 25 31) rfl rfl (any_of HT_.out (by kernel_rfl)) (fun _ _ _ h => h) (Or.inr ⟨by rfl, rfl⟩) ?_ ?_
  rotate_left
  · simp only [nrm]
    rfl
  refine pure_ (i := 5) (N := some 13) (v := undef) (a' := ?_) (flg 25 63) rfl rfl (any_of HT_.out (by kernel_rfl)) (fun _ _ _ h => h) (Or.inr ⟨by rfl, rfl⟩) ?_ ?_
  rotate_left
  · simp only [nrm]
    rfl
  refine pure_ (i := 6) (N := some 14) (v := undef) (a' := ?_) (flg 25 127) rfl rfl (any_of HT_.out (by kernel_rfl)) (fun _ _ _ h => h) (Or.inr ⟨by rfl, rfl⟩) ?_ ?_
  rotate_left
  · simp only [nrm]
    rfl
  refine pure_ (i := 7) (N := some 15) (v := undef) (a' := ?_) (flg 25 255) rfl rfl (any_of HT_.out (by kernel_rfl)) (fun _ _ _ h => h) (Or.inr ⟨by rfl, rfl⟩) ?_ ?_
  rotate_left
  · simp only [nrm]
    rfl
  refine pure_ (i := 8) (N := some 16) (v := undef) (a' := ?_) (flg 25 511) rfl rfl (any_of HT_.out (by kernel_rfl)) (fun _ _ _ h => h) (Or.inr ⟨by rfl, rfl⟩) ?_ ?_
  rotate_left
  · simp only [nrm]
    rfl
  refine pure_ (i := 9) (N := some 17) (v := undef) (a' := ?_) (flg 25 1023) rfl rfl (any_of HT_.out (by kernel_rfl)) (fun _ _ _ h => h) (Or.inr ⟨by rfl, rfl⟩) ?_ ?_
  rotate_left
  · simp only [nrm]
    rfl
  refine pure_ (i := 10) (N := some 18) (v := undef) (a' := ?_) (flg 25 2047) rfl rfl (any_of HT_.out (by kernel_rfl)) (fun _ _ _ h => h) (Or.inr ⟨by rfl, rfl⟩) ?_ ?_
  rotate_left
  · simp only [nrm]
    rfl
  refine pure_ (i := 11) (N := some 19) (v := undef) (a' := ?_) (flg 25 4095) rfl rfl (any_of HT_.out (by kernel_rfl)) (fun _ _ _ h => h) (Or.inr ⟨by rfl, rfl⟩) ?_ ?_
  rotate_left
  · simp only [nrm]
    rfl
  refine pure_ (i := 12) (N := some 20) (v := undef) (a' := ?_) (flg 25 8191) rfl rfl (any_of HT_.out (by kernel_rfl)) (fun _ _ _ h => h) (Or.inr ⟨by rfl, rfl⟩) ?_ ?_
  rotate_left
  · simp only [nrm]
    rfl
  refine pure_ (i := 13) (N := some 21) (v := undef) (a' := ?_) (flg 25 16383) rfl rfl (any_of HT_.out (by kernel_rfl)) (fun _ _ _ h => h) (Or.inr ⟨by rfl, rfl⟩) ?_ ?_
  rotate_left
  · simp only [nrm]
    rfl
  refine pure_ (i := 14) (N := some 22) (v := undef) (a' := ?_) (flg 25 32767) rfl rfl (any_of HT_.out (by kernel_rfl)) (fun _ _ _ h => h) (Or.inr ⟨by rfl, rfl⟩) ?_ ?_
  rotate_left
  · simp only [nrm]
    rfl
  refine pure_ (i := 15) (N := some 23) (v := undef) (a' := ?_) (flg 25 65535) rfl rfl (any_of HT_.out (by kernel_rfl)) (fun _ _ _ h => h) (Or.inr ⟨by rfl, rfl⟩) ?_ ?_
  rotate_left
  · simp only [nrm]
    rfl
  refine pure_ (i := 16) (N := some 24) (v := undef) (a' := ?_) (flg 25 131071) rfl rfl (any_of HT_.out (by kernel_rfl)) (fun _ _ _ h => h) (Or.inr ⟨by rfl, rfl⟩) ?_ ?_
  rotate_left
  · simp only [nrm]
    rfl
  refine pure_ (i := 17) (N := some 25) (v := undef) (a' := ?_) (flg 25 262143) rfl rfl (any_of HT_.out (by kernel_rfl)) (fun _ _ _ h => h) (Or.inr ⟨by rfl, rfl⟩) ?_ ?_
  rotate_left
  · simp only [nrm]
    rfl
  refine pure_ (i := 18) (N := some 26) (v := undef) (a' := ?_) (flg 25 524287) rfl rfl (any_of HT_.out (by kernel_rfl)) (fun _ _ _ h => h) (Or.inr ⟨by rfl, rfl⟩) ?_ ?_
  rotate_left
  · simp only [nrm]
    rfl
  refine pure_ (i := 19) (N := some 27) (v := undef) (a' := ?_) (flg 25 1048575) rfl rfl (any_of HT_.out (by kernel_rfl)) (fun _ _ _ h => h) (Or.inr ⟨by rfl, rfl⟩) ?_ ?_
  rotate_left
  · simp only [nrm]
    rfl
  refine pure_ (i := 20) (N := some 28) (v := undef) (a' := ?_) (flg 25 2097151) rfl rfl (any_of HT_.out (by kernel_rfl)) (fun _ _ _ h => h) (Or.inr ⟨by rfl, rfl⟩) ?_ ?_
  rotate_left
  · simp only [nrm]
    rfl
  refine pure_ (i := 21) (N := some 29) (v := undef) (a' := ?_) (flg 25 4194303) rfl rfl (any_of HT_.out (by kernel_rfl)) (fun _ _ _ h => h) (Or.inr ⟨by rfl, rfl⟩) ?_ ?_
  rotate_left
  · simp only [nrm]
    rfl
  refine pure_ (i := 22) (N := some 30) (v := undef) (a' := ?_) (flg 25 8388607) rfl rfl (any_of HT_.out (by kernel_rfl)) (fun _ _ _ h => h) (Or.inr ⟨by rfl, rfl⟩) ?_ ?_
  rotate_left
  · simp only [nrm]
    rfl
  refine pu_ (v := ?_) (a' := ?_) 23 (some 31) 16777215 rfl rfl HT_ (by kernel_rfl) (.inl ⟨by rfl, ?_⟩) ?_ ?_; rotate_left 2; (· intro w'; go_simp; with_reducible rfl); (· simp only [nrm]; rfl)
  refine pu_ (v := ?_) (a' := ?_) 24 (some 4) 33554431 rfl rfl HT_ (by kernel_rfl) (.inl ⟨by rfl, ?_⟩) ?_ ?_; rotate_left 2; (· intro w'; go_simp; with_reducible rfl); (· simp only [nrm]; rfl)
  refine done_ (done_of HT_.out (by kernel_rfl)) ?_
  clear HT_ HW_ hHeld
  go_wp2
  go_ret
  exact ⟨rfl, H.out.below⟩
theorem fits_ {w : World} (h : Tab w) : Calls Tryd.prog 87 #[.agg #[.int .i64 1, .int .i64 0, .int .i64 1, .int .i64 0, .int .i64 0], .int .i64 2, .agg #[.int .i64 0, .int .i64 2, .int .i64 1], .int .i64 1, .int .i64 0] w fun e w' => e = .returned (.bool true) ∧ Below w.heap.size w w' := by
  have HT := Aside.mk h
  have HW := Aside.mk (show header_Head_Words.f 10 0 2 1 = some 2 by decide +kernel)
  have H : Aside (St w _ [blk (w.heap.size + 1) #[.int .i64 0, .int .i64 2, .int .i64 1] 43, blk w.heap.size #[.int .i64 1, .int .i64 0, .int .i64 1, .int .i64 0, .int .i64 0] 168]) := Aside.mk (by have := ((St.start w).alloc #[.int .i64 1, .int .i64 0, .int .i64 1, .int .i64 0, .int .i64 0] 168).alloc #[.int .i64 0, .int .i64 2, .int .i64 1] 43; simpa using this)
  clear h
  go_enter Tryd.func87, Tryd.ntmps87
  go_wp2_with (first
    | (go_at_call 116; refine (words0_ (HT.out.st H.out)).mono ?_; rintro e w1 ⟨rfl, hb⟩; replace H := Aside.mk (H.out.step hb); clear hb; have z0 := H.out.cell 0; have z1 := H.out.cell 1; have z2 := H.out.cell 2)
    | (go_at_call 131; refine (header_Head_Words.calls _ _ _ _ _ _ HW.out).mono ?_; rintro e w2 ⟨rfl, hb⟩; replace H := Aside.mk (H.out.step hb); clear hb))
  go_ret
  exact ⟨rfl, H.out.below⟩
end
section
theorem zeros_ (n : Nat) : (madeCells (Value.int .u64 0).cells (n * 1)).toList.toArray = (U (List.replicate n 0)).toArray := by
  show (madeCells #[Value.int .u64 0] (n * 1)).toList.toArray = _
  rw [toList_madeCells_one, Nat.mul_one]; simp [U]
theorem put_U {w0 w : World} {gD j : Nat} {X : List Int} {v : Int} {t : TypeId} {L : List HP} (hj : j < X.length) (h : St w0 w (blk gD (putAt (U X).toArray j [.int .u64 v]) t :: L)) : St w0 w (blk gD (U (X.set j v)).toArray t :: L) := by
  have e : putAt (U X).toArray j [.int .u64 v] = (U (X.set j v)).toArray := by
    unfold putAt
    congr 1
    simp only [List.toList_toArray, List.length_singleton]
    rw [U, U, List.map_set]
    rw [List.set_eq_take_append_cons_drop, if_pos (by simpa using hj)]
    simp
  rw [e] at h
  exact h
theorem newbuild_ {w0 w : World} {F : List HP} {p1 p2 p3 at_ c kd n hd : Int} {k1 k2 : Nat} (he : header_EncodeHead.f k1 c kd n = some (hd, 0)) (hl : objects_lies.f k2 p1 p2 p3 at_ c kd n = some true) (h : St w0 w F) :
    Calls Tryd.prog 14 #[.agg #[.int .i64 p1, .int .i64 p2, .int .i64 p3], .int .i64 at_, .agg #[.int .i64 c, .int .i64 kd, .int .i64 n]] w fun e w' => ∃ b, e = .returned (.tuple #[.pointer (some ⟨b, 0, none⟩), .int .i64 0]) ∧ St w0 w' (bdB b at_ hd n false :: F) := by
  have HE := Aside.mk he
  have HL := Aside.mk hl
  have H : Aside (St w0 _ (blk (w.heap.size + 1) #[.int .i64 c, .int .i64 kd, .int .i64 n] 43 :: blk w.heap.size #[.int .i64 p1, .int .i64 p2, .int .i64 p3] 40 :: F)) := Aside.mk (by have := (h.alloc #[.int .i64 p1, .int .i64 p2, .int .i64 p3] 40).alloc #[.int .i64 c, .int .i64 kd, .int .i64 n] 43; simpa using this)
  clear he hl h
  go_enter Tryd.func14, Tryd.ntmps14
  go_wp2_with (first
    | (go_at_call 74; refine (header_EncodeHead.calls _ _ _ _ _ _ _ HE.out).mono ?_; rintro e w1 ⟨rfl, hb⟩; replace H := Aside.mk (H.out.step hb); clear hb; have z0 := H.out.cell 0; have z1 := H.out.cell 1; have z2 := H.out.cell 2; have y0 := (H.out.pick 1 rfl).cell 0; have y1 := (H.out.pick 1 rfl).cell 1; have y2 := (H.out.pick 1 rfl).cell 2)
    | (go_at_call 75; refine (objects_lies.calls _ _ _ _ _ _ _ _ _ _ HL.out).mono ?_; rintro e w2 ⟨rfl, hb⟩; replace H := Aside.mk (H.out.step hb); clear hb z0 z1 z2 y0 y1 y2; have z2 := H.out.cell 2))
  go_ret2
  exact ⟨_, rfl, (H.out.rest.rest).alloc #[.int .i64 at_, .int .u64 hd, .int .i64 n, .bool false] 149⟩
theorem makeMap_run {P : Program} {ops : Array Oper} {Q : Exit → Act → World → Prop} {a : Act} {W : World} {rest : List Oper} {o : Oper} {t : TypeId} (hgd : o.guard = none) (ho : o.op = .makeMap t none)
    (h : wpList P ops Q rest (a.put o.dst (.map (some W.heap.size))) (W.alloc (.map #[] 0))) : wpList P ops Q (o :: rest) a W := by
  refine wpList_plain hgd fun K hK => ?_
  unfold Oper.wp
  rw [show (execOp a.eval o).run P W = .ok (.value (.map (some W.heap.size))) (W.alloc (.map #[] 0)) from by simp only [execOp, ho]; rfl]
  exact hK _ _ h
theorem newnil_ {w0 w : World} {F : List HP} (h : St w0 w F) : Calls Tryd.prog 22 #[.slice none 0 0] w fun e w' => ∃ t, e = .returned (.tuple #[.pointer (some ⟨t, 0, none⟩), .int .i64 0, .int .i64 0]) ∧ St w0 w' (blk t #[.slice none 0 0, .slice none 0 0] 157 :: F) := by
  have H := Aside.mk (h.alloc #[.slice none 0 0, .slice none 0 0] 157)
  clear h
  go_enter Tryd.func22, Tryd.ntmps22
  go_wp2_with (with_reducible refine stop_at (.makeMap 158 none) rfl ?_)
  refine ⟨?_⟩
  refine makeMap_run rfl rfl ?_
  replace H := Aside.mk (H.out.garbage (.map #[] 0))
  generalize World.alloc (World.alloc w _) _ = w1 at H ⊢
  go_upto_block 0 with fail
  go_cut [19] (fun v19 wc => Aside (St w0 wc (blk w.heap.size #[.slice none 0 0, .slice none 0 0] 157 :: F)))
  case first =>
    go_wp2
    go_loopg [19] (0) (fun m v19 w' => v19 = .int .i64 0 ∧ Aside (St w0 w' (blk w.heap.size #[.slice none 0 0, .slice none 0 0] 157 :: F)))
    case atStart => exact ⟨rfl, H⟩
    case round =>
      clear H
      obtain ⟨rfl, H⟩ := hrel
      go_wp2
      go_meet
      case rel => exact H
  case rest =>
    clear H
    have H := hcut
    go_wp2
    go_ret3
    exact ⟨_, rfl, H.out⟩
end
section
/-- Where a word is laid. -/
def posN (N : Nat) (at_ : Int) : Nat := (IntKind.u64.wrap at_ % (N : Int)).toNat
def layS (N i : Nat) (L : List (Int × Int)) : List Int := (L.take i).foldl (fun X p => X.set (posN N p.1) p.2) (List.replicate N 0)
theorem layS_len (N i : Nat) (L : List (Int × Int)) : (layS N i L).length = N := by
  unfold layS
  generalize hX : List.replicate N (0 : Int) = X
  have h0 : X.length = N := by rw [← hX, List.length_replicate]
  clear hX
  generalize L.take i = M
  induction M generalizing X with
  | nil => exact h0
  | cons p M ih => exact ih _ (by rw [List.length_set]; exact h0)
theorem layS_s (N i : Nat) (L : List (Int × Int)) (h : i < L.length) : layS N (i + 1) L = (layS N i L).set (posN N (L.getD i (0, 0)).1) (L.getD i (0, 0)).2 := by
  unfold layS
  rw [← List.take_append_getElem h, List.foldl_append]
  simp [List.getD_eq_getElem?_getD, h]
theorem u64_nn (x : Int) : 0 ≤ IntKind.u64.wrap x ∧ IntKind.u64.wrap x < 18446744073709551616 := by
  unfold IntKind.wrap
  simp only [IntKind.bits, IntKind.signed]
  first | omega | (simp; omega) | (constructor <;> omega)
theorem posN_lt (N : Nat) (at_ : Int) (h : 1 ≤ N) : posN N at_ < N := by
  unfold posN
  have := Int.emod_lt_of_pos (IntKind.u64.wrap at_) (show (0 : Int) < (N : Int) by omega)
  have := Int.emod_nonneg (IntKind.u64.wrap at_) (show (N : Int) ≠ 0 by omega)
  omega
theorem posN_is (N : Nat) (at_ : Int) (h : 1 ≤ N) : Int.tmod (IntKind.u64.wrap at_) N = (posN N at_ : Int) := by
  rw [Int.tmod_eq_emod_of_nonneg (u64_nn at_).1]
  unfold posN
  have := Int.emod_nonneg (IntKind.u64.wrap at_) (show (N : Int) ≠ 0 by omega)
  omega
abbrev LF (a gC gD N : Nat) (X : List Int) : List HP := [arB a gC N (.slice none 0 0) true 0 0, ceB gC X, blk gD (U X).toArray 22]
theorem lay_g {p1 : Int} {N : Nat} (hC : ∀ w : World, Calls Tryd.prog 72 #[.agg #[.int .i64 p1, .int .i64 1, .int .i64 1]] w fun e w' => e = .returned (.int .i64 (N : Int)) ∧ Below w.heap.size w w') (h1 : 1 ≤ N) (h2 : N ≤ 4096) (A : Option Addr) (c : Nat) (L : List (Int × Int)) (w : World)
    (hL : ∀ i, i < L.length → ∃ ad, A = some ad ∧ w.cell? (ad.add (i * 2)) = some (.int .i64 (L.getD i (0, 0)).1) ∧ w.cell? ⟨(ad.add (i * 2)).block, (ad.add (i * 2)).off + 1, none⟩ = some (.int .u64 (L.getD i (0, 0)).2)) :
    Calls Tryd.prog 13 #[.agg #[.int .i64 p1, .int .i64 1, .int .i64 1], .slice A L.length c] w fun e w' => ∃ a gC gD, e = .returned (.tuple #[.pointer (some ⟨a, 0, none⟩), .slice (some ⟨gD, 0, none⟩) N N, .bool true]) ∧ St w w' (LF a gC gD N (layS N (min 300 L.length) L)) := by
  have HC := Aside.mk hC
  have HL := Aside.mk hL
  have HN1 := Aside.mk h1
  have HN2 := Aside.mk h2
  obtain ⟨i22, hi22, hz22, hs22, hb22⟩ := info_parts info22
  have H := Aside.mk ((St.start w).alloc #[.int .i64 p1, .int .i64 1, .int .i64 1] 25)
  obtain ⟨M, hM⟩ : ∃ M, M = min 300 L.length := ⟨_, rfl⟩
  rw [← hM]
  have HM := Aside.mk hM
  clear hM
  clear hC hL h1 h2
  go_enter Tryd.func13, Tryd.ntmps13
  go_upto_block 0 with (first
    | (go_at_call 72; refine (HC.out _).mono ?_; rintro e w4 ⟨rfl, hb⟩; replace H := Aside.mk (H.out.step hb).rest; clear hb)
    | (at_make; refine wpList_make_full _ rfl (.tmp 13) (.tmp 13) 30 rfl w.heap.size 22 _ (.int .u64 0) 1 Tryd.underlying30 hi22 hz22 hs22 .i64 .i64 N N N rfl rfl rfl rfl (by rw [hb22]; have := HN2.out; omega) (by simp only [maxLen]; have := HN2.out; omega) H.out.size_le ?_; intro w5 ho hg; replace H := Aside.mk (St_make H.out ho hg); clear ho hg; rw [zeros_] at H)
    | (go_at_call 73; refine (new_ N HN1.out HN2.out true H.out).mono ?_; rintro e w7 ⟨a, gC, rfl, h7⟩; replace H := Aside.mk h7; clear h7))
  generalize w4.heap.size = gD at H ⊢
  have HWN : Aside (IntKind.u64.wrap (N : Int) = N) := ⟨by have := HN2.out; unfold IntKind.wrap; simp only [IntKind.bits, IntKind.signed]; first | omega | (simp; omega)⟩
  go_cut [10, 11] (fun v10 v11 wc => Aside (St w wc (LF a gC gD N (layS N M L))))
  case first =>
    go_wp2_with fail
    go_loopg [10, 11] (M) (fun m v10 v11 w' => ∃ i : Nat, m = M - i ∧ i ≤ M ∧ v10 = .int .i64 i ∧ Aside (St w w' (LF a gC gD N (layS N i L))))
    case atStart => exact ⟨0, rfl, Nat.zero_le _, rfl, H⟩
    case round =>
      clear H
      obtain ⟨i, rfl, hi, rfl, H⟩ := hrel
      by_cases hlt : i < M
      · have hil : i < L.length := by have := HM.out; omega
        have hi3 : i < 300 := by have := HM.out; omega
        have dl : decide ((i : Int) < (L.length : Int)) = true := by simp; omega
        have nl : (i : Int) < (L.length : Int) := by omega
        have d3 : decide ((i : Int) < 300) = true := by simp; omega
        have n3 : (i : Int) < 300 := by omega
        obtain ⟨ad, rfl, c0, c1⟩ := HL.out i hil
        have e0 := pw_cell_below H.out.below c0
        have C1 := Aside.mk c1
        have e1 := pw_cell_below H.out.below c1
        have HI := Aside.mk hlt
        have HS := Aside.mk (layS_s N i L hil)
        have HXL := Aside.mk (layS_len N i L)
        have hq1 := posN_is N (L.getD i (0, 0)).1 HN1.out
        have hj := posN_lt N (L.getD i (0, 0)).1 HN1.out
        clear c0 c1 hil hi3 hi hlt
        generalize (L.getD i (0, 0)).1 = at_ at e0 hq1 hj HS
        generalize (L.getD i (0, 0)).2 = v at C1 e1 HS
        generalize posN N at_ = j at hq1 hj HS
        generalize layS N i L = X at HS HXL H
        have hqN := HWN.out
        have hz : ((N : Int) == 0) = false := by simp; have := HN1.out; omega
        have hw : wrap64 (j : Int) = j := by unfold wrap64; have := HN2.out; omega
        have hw2 : wrap64 ((i : Int) + 1) = (i : Int) + 1 := by unfold wrap64; omega
        have dj : decide ((j : Int) < (N : Int)) = true := by simp; omega
        have nj : (j : Int) < (N : Int) := by omega
        have HJ := Aside.mk (show j < X.length by rw [HXL.out]; exact hj)
        clear hj
        go_wp2_with (with_reducible refine stop_at (.store 22 (.tmp 51) (.tmp 50)) rfl ?_)
        refine ⟨?_⟩
        simp only [hw]
        refine st_store (g := gD) (off := j) rfl rfl rfl [.int .u64 v] (putAt (U X).toArray j [.int .u64 v]) rfl rfl rfl (by have := HJ.out; simp [U]; omega) (by simp [Value.oneCell']) (H.out.pick 2 rfl) rfl ?_
        intro w8 h_
        replace H : Aside (St w w8 (arB a gC X.length (.slice none 0 0) true 0 0 :: ceB gC X :: [blk gD (U (X.set j v)).toArray 22])) := Aside.mk (by rw [HXL.out]; exact (put_U HJ.out h_).order 3 [1, 2, 0] rfl rfl)
        clear h_ e0 e1
        have e1 := pw_cell_below H.out.below C1.out
        go_wp2_with (go_at_call 37; refine (poke_yes j v HJ.out H.out).mono ?_; rintro e w9 ⟨rfl, h9⟩; replace H := Aside.mk h9; clear h9 e1)
        go_roundg (M - (i + 1))
        case measure => have := HI.out; omega
        case rel => exact ⟨i + 1, rfl, HI.out, by first | rfl | (rw [hw2]; rfl) | (push_cast; rfl), by rw [HS.out]; have h9 := H.out; rw [List.length_set, HXL.out] at h9; exact ⟨h9⟩⟩
      · obtain rfl : i = M := by omega
        by_cases hl : i < L.length
        · have dl : decide ((i : Int) < (L.length : Int)) = true := by simp; omega
          have nl : (i : Int) < (L.length : Int) := by omega
          have d3 : decide ((i : Int) < 300) = false := by simp; have := HM.out; omega
          have n3 : ¬ ((i : Int) < 300) := by have := HM.out; omega
          clear hl hi hlt
          go_wp2
          go_meet
          case rel => exact H
        · have dl : decide ((i : Int) < (L.length : Int)) = false := by simp; omega
          have nl : ¬ ((i : Int) < (L.length : Int)) := by omega
          clear hl hi hlt
          go_wp2
          go_meet
          case rel => exact H
  case rest =>
    clear H
    have H := hcut
    clear hcut
    go_wp2
    go_ret3
    exact ⟨a, gC, gD, rfl, H.out⟩
end
end Go.Proofs.YtelfiegocdjnoaaDoor.Ar
