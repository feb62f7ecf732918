/- A build's steps. Conditions: the port has a grant, the cell is there. -/
import Derived.Test.YtelfiegocdjnoaaDoorAr2
import Derived.Test.YtelfiegocdjnoaaDoorWk
import Derived.Test.YtelfiegocdjnoaaDoorStp
import Derived.Test.YtelfiegocdjnoaaDoorMrF0
namespace Go.Proofs.YtelfiegocdjnoaaDoor.Ar
open Go Go.RowKit Go.Proofs.YtelfiegocdjnoaaDoor.Sep Go.Proofs.YtelfiegocdjnoaaDoorW.PrintWords Go.Proofs.YtelfiegocdjnoaaDoorW.PrintLast Go.Proofs.YtelfiegocdjnoaaDoorW.PrintMore Go.Proofs.YtelfiegocdjnoaaDoor.Q
set_option linter.unusedVariables false
set_option linter.unusedSimpArgs false
set_option maxHeartbeats 8000000
set_option maxRecDepth 100000
def bd.T6 : Bool × List (List Nat × List Nat) := (true, [([], []), ([], []), ([1], [1]), ([2], [2]), ([3], [3]), ([], []), ([5], [5]), ([6], [6]), ([7], [7]), ([4, 8], [4, 8]), ([0, 9], [0, 9])])
def bd.B6 : List Nat := [0, 0, 2, 6, 14, 0, 32, 96, 224, 510, 1023]
theorem bd.tab6 : rtab .any (opsOf Tryd.f18 6) = bd.T6 := by kernel_rfl
theorem bd.bits6 : waitsOk bd.T6.2 bd.B6 = true := by kernel_rfl
def bd.T9 : Bool × List (List Nat × List Nat) := (true, [([], []), ([], []), ([1], [1]), ([2], [2]), ([3], [3]), ([], []), ([5], [5]), ([6], [6]), ([7], [7]), ([0, 4, 8], [0, 4, 8])])
def bd.B9 : List Nat := [0, 0, 2, 6, 14, 0, 32, 96, 224, 511]
theorem bd.tab9 : rtab .any (opsOf Tryd.f18 9) = bd.T9 := by kernel_rfl
theorem bd.bits9 : waitsOk bd.T9.2 bd.B9 = true := by kernel_rfl
/-- A build. -/
abbrev bdB (b : Nat) (at_ hd left : Int) (dn : Bool) : HP := blk b #[.int .i64 at_, .int .u64 hd, .int .i64 left, .bool dn] 149
variable {w0 w : World} {F : List HP} {b a gC p : Nat} {lv : Value} {l : List Acc} {cn fl who : Int} {X : List Int}
theorem over_ {at_ hd left : Int} {dn : Bool} (h : St w0 w (bdB b at_ hd left dn :: F)) : Calls Tryd.prog 20 #[.pointer (some ⟨b, 0, none⟩)] w fun e w' => e = .returned (.bool dn) ∧ w' = w := by
  have x3 := h.cell 3
  clear h
  go_enter Tryd.func20, Tryd.ntmps20
  go_wp2
  go_ret
  exact ⟨rfl, rfl⟩
theorem bstep_last {i : Nat} {hd : Int} (hi : i < X.length) (hn : X.length ≤ 4096) (hl : l.length ≤ 1000000) (hc0 : 0 ≤ cn) (hc1 : cn ≤ 1000000) (h : St w0 w (Are p a gC who true X lv l cn fl ++ bdB b i hd 0 false :: F)) :
    Calls Tryd.prog 18 #[.pointer (some ⟨b, 0, none⟩), .pointer (some ⟨p, 0, none⟩)] w fun e w' => ∃ lv', e = .returned (.bool true) ∧ St w0 w' (Are p a gC who false (X.set i hd) lv' (l ++ [⟨who, 2, i, 0, hd, X.getD i 0, hd⟩]) (cn + 1) fl ++ bdB b i hd 0 true :: F) := by
  have x2 : w.cell? ⟨b, 2, none⟩ = some (.int .i64 0) := (h.pick 4 rfl).cell 2
  have x3 : w.cell? ⟨b, 3, none⟩ = some (.bool false) := (h.pick 4 rfl).cell 3
  have hst := Aside.mk (fun (w : World) (h : St w0 w (Are p a gC who true X lv l cn fl ++ bdB b i hd 0 false :: F)) => store_ i hd hi hn hl hc0 hc1 h)
  have H := Aside.mk h
  clear h hi hn hl hc0 hc1
  go_enter Tryd.func18, Tryd.ntmps18
  go_wp2_with (go_at_call 76; refine (open_ H.out).mono ?_; rintro e w1 ⟨rfl, rfl⟩)
  replace H := Aside.mk H.out.drew
  refine start_ (n := 10) (S := fun w' => w'.cell? ⟨b, 0, none⟩ = some (.int .i64 i) ∧ w'.cell? ⟨b, 1, none⟩ = some (.int .u64 hd)) (ds := []) (flg 10 0) (by kernel_rfl) rfl rfl (⟨(H.out.pick 4 rfl).cell 0, (H.out.pick 4 rfl).cell 1⟩) (fun hHeld => ?_)
  refine with_tabW bd.tab9 bd.bits9 (fun HT_ HW_ => ?_)
  refine pu_ (v := ?_) (a' := ?_) 0 (some 39) 1 rfl rfl HT_ (by kernel_rfl) (.inl ⟨by rfl, ?_⟩) ?_ ?_; rotate_left 2; (· intro w'; go_simp; with_reducible rfl); (· simp only [nrm]; rfl)
  refine pu_ (v := ?_) (a' := ?_) 1 (some 40) 3 rfl rfl HT_ (by kernel_rfl) (.inl ⟨by rfl, ?_⟩) ?_ ?_; rotate_left 2; (· intro w'; go_simp; with_reducible rfl); (· simp only [nrm]; rfl)
  refine pu_ (v := ?_) (a' := ?_) 2 (some 41) 7 rfl rfl HT_ (by kernel_rfl) (.inl ⟨by rfl, ?_⟩) ?_ ?_; rotate_left 2; (· intro w'; go_simp; with_reducible rfl); (· simp only [nrm]; rfl)
  refine pu_ (v := ?_) (a' := ?_) 3 (some 42) 15 rfl rfl HT_ (by kernel_rfl) (.inl ⟨by rfl, ?_⟩) ?_ ?_; rotate_left 2; (· intro w'; go_simp; with_reducible rfl); (· simp only [nrm]; rfl)
  refine tk_ (v := ?_) (a' := ?_) 4 (some 43) 31 rfl rfl HT_ HW_ (by kernel_rfl) (.inl ⟨by rfl, ?_⟩) hHeld ?_ ?_; rotate_left 2; (· rintro w' ⟨_, _⟩; go_simp; with_reducible rfl); (· simp only [nrm]; rfl)
  refine pu_ (v := ?_) (a' := ?_) 5 (some 44) 63 rfl rfl HT_ (by kernel_rfl) (.inl ⟨by rfl, ?_⟩) ?_ ?_; rotate_left 2; (· intro w'; go_simp; with_reducible rfl); (· simp only [nrm]; rfl)
  refine pu_ (v := ?_) (a' := ?_) 6 (some 45) 127 rfl rfl HT_ (by kernel_rfl) (.inl ⟨by rfl, ?_⟩) ?_ ?_; rotate_left 2; (· intro w'; go_simp; with_reducible rfl); (· simp only [nrm]; rfl)
  refine pu_ (v := ?_) (a' := ?_) 7 (some 46) 255 rfl rfl HT_ (by kernel_rfl) (.inl ⟨by rfl, ?_⟩) ?_ ?_; rotate_left 2; (· intro w'; go_simp; with_reducible rfl); (· simp only [nrm]; rfl)
  refine tk_ (v := ?_) (a' := ?_) 8 (some 47) 511 rfl rfl HT_ HW_ (by kernel_rfl) (.inl ⟨by rfl, ?_⟩) hHeld ?_ ?_; rotate_left 2; (· rintro w' ⟨_, _⟩; go_simp; with_reducible rfl); (· simp only [nrm]; rfl)
  refine on_ 9 (some 48) 1023 rfl rfl HT_ (by kernel_rfl) (by decide) (fun K hK => ?_)
  refine goes_ Tryd.func77 (by kernel_rfl) rfl #[.pointer (some ⟨p, 0, none⟩), .int .i64 i, .int .u64 hd] (by rfl) rfl rfl (by (try simp only [List.map_toArray, List.map_cons, List.map_nil]); first | done | rfl) ?_
  refine (hst.out _ H.out).mono ?_
  rintro e w3 ⟨lv1, rfl, h1⟩
  replace H := Aside.mk h1
  clear h1
  refine ⟨_, rfl, ?_⟩
  refine hK.out _ _ ⟨(H.out.pick 4 rfl).cell 0, (H.out.pick 4 rfl).cell 1⟩ (fun hHeld => ?_)
  clear hK K
  refine norm_ (a' := ?_) ?_ ?_
  rotate_left
  · show Act.put _ (some 48) _ = _
    simp only [nrm]
    rfl
  refine done_ (done_of HT_.out (by kernel_rfl)) ?_
  clear HT_ HW_ hHeld
  have z3 := (H.out.pick 4 rfl).cell 3
  have f3 := (H.out.pick 4 rfl).frozen 3
  go_wp2
  go_ret
  exact ⟨lv1, rfl, back_ (L := Are p a gC who false (X.set i hd) lv1 (l ++ [⟨who, 2, i, 0, hd, X.getD i 0, hd⟩]) (cn + 1) fl) ((H.out.pick 4 rfl).put 3 (.bool true) rfl)⟩
theorem bstep_more {i k : Nat} {hd : Int} (hi : i + (k + 1) < X.length) (hn : X.length ≤ 4096) (hl : l.length ≤ 1000000) (hc0 : 0 ≤ cn) (hc1 : cn ≤ 1000000) (h : St w0 w (Are p a gC who true X lv l cn fl ++ bdB b i hd ((k : Int) + 1) false :: F)) :
    Calls Tryd.prog 18 #[.pointer (some ⟨b, 0, none⟩), .pointer (some ⟨p, 0, none⟩)] w fun e w' => ∃ lv', e = .returned (.bool false) ∧ St w0 w' (Are p a gC who false (X.set (i + (k + 1)) 0) lv' (l ++ [⟨who, 2, (i + (k + 1) : Nat), 0, 0, X.getD (i + (k + 1)) 0, 0⟩]) (cn + 1) fl ++ bdB b i hd k false :: F) := by
  have x2 : w.cell? ⟨b, 2, none⟩ = some (.int .i64 ((k : Int) + 1)) := (h.pick 4 rfl).cell 2
  have x3 : w.cell? ⟨b, 3, none⟩ = some (.bool false) := (h.pick 4 rfl).cell 3
  have hw1 : wrap64 ((i : Int) + ((k : Int) + 1)) = ((i + (k + 1) : Nat) : Int) := by unfold wrap64; omega
  have hst : Aside (∀ w : World, St w0 w (Are p a gC who true X lv l cn fl ++ bdB b i hd ((k : Int) + 1) false :: F) → Calls Tryd.prog 77 #[.pointer (some ⟨p, 0, none⟩), .int .i64 (wrap64 ((i : Int) + ((k : Int) + 1))), .int .u64 0] w fun e w' => ∃ lv', e = .returned (.tuple #[]) ∧ St w0 w' (Are p a gC who false (X.set (i + (k + 1)) 0) lv' (l ++ [⟨who, 2, (i + (k + 1) : Nat), 0, 0, X.getD (i + (k + 1)) 0, 0⟩]) (cn + 1) fl ++ bdB b i hd ((k : Int) + 1) false :: F)) := ⟨fun w h => by rw [hw1]; exact store_ (i + (k + 1)) 0 hi hn hl hc0 hc1 h⟩
  clear hw1
  have hw2 : wrap64 (k : Int) = k := by unfold wrap64; omega
  have d0 : decide ((0 : Int) < (k : Int) + 1) = true := by simp
  have n0 : (0 : Int) < (k : Int) + 1 := by omega
  have H := Aside.mk h
  clear h hi hn hl hc0 hc1
  go_enter Tryd.func18, Tryd.ntmps18
  go_wp2_with (go_at_call 76; refine (open_ H.out).mono ?_; rintro e w1 ⟨rfl, rfl⟩)
  replace H := Aside.mk H.out.drew
  refine start_ (n := 11) (S := fun w' => w'.cell? ⟨b, 0, none⟩ = some (.int .i64 i) ∧ w'.cell? ⟨b, 2, none⟩ = some (.int .i64 ((k : Int) + 1))) (ds := []) (flg 11 0) (by kernel_rfl) rfl rfl (⟨(H.out.pick 4 rfl).cell 0, (H.out.pick 4 rfl).cell 2⟩) (fun hHeld => ?_)
  refine with_tabW bd.tab6 bd.bits6 (fun HT_ HW_ => ?_)
  refine pu_ (v := ?_) (a' := ?_) 0 (some 21) 1 rfl rfl HT_ (by kernel_rfl) (.inl ⟨by rfl, ?_⟩) ?_ ?_; rotate_left 2; (· intro w'; go_simp; with_reducible rfl); (· simp only [nrm]; rfl)
  refine pu_ (v := ?_) (a' := ?_) 1 (some 22) 3 rfl rfl HT_ (by kernel_rfl) (.inl ⟨by rfl, ?_⟩) ?_ ?_; rotate_left 2; (· intro w'; go_simp; with_reducible rfl); (· simp only [nrm]; rfl)
  refine pu_ (v := ?_) (a' := ?_) 2 (some 23) 7 rfl rfl HT_ (by kernel_rfl) (.inl ⟨by rfl, ?_⟩) ?_ ?_; rotate_left 2; (· intro w'; go_simp; with_reducible rfl); (· simp only [nrm]; rfl)
  refine pu_ (v := ?_) (a' := ?_) 3 (some 24) 15 rfl rfl HT_ (by kernel_rfl) (.inl ⟨by rfl, ?_⟩) ?_ ?_; rotate_left 2; (· intro w'; go_simp; with_reducible rfl); (· simp only [nrm]; rfl)
  refine tk_ (v := ?_) (a' := ?_) 4 (some 25) 31 rfl rfl HT_ HW_ (by kernel_rfl) (.inl ⟨by rfl, ?_⟩) hHeld ?_ ?_; rotate_left 2; (· rintro w' ⟨_, _⟩; go_simp; with_reducible rfl); (· simp only [nrm]; rfl)
  refine pu_ (v := ?_) (a' := ?_) 5 (some 26) 63 rfl rfl HT_ (by kernel_rfl) (.inl ⟨by rfl, ?_⟩) ?_ ?_; rotate_left 2; (· intro w'; go_simp; with_reducible rfl); (· simp only [nrm]; rfl)
  refine pu_ (v := ?_) (a' := ?_) 6 (some 27) 127 rfl rfl HT_ (by kernel_rfl) (.inl ⟨by rfl, ?_⟩) ?_ ?_; rotate_left 2; (· intro w'; go_simp; with_reducible rfl); (· simp only [nrm]; rfl)
  refine pu_ (v := ?_) (a' := ?_) 7 (some 28) 255 rfl rfl HT_ (by kernel_rfl) (.inl ⟨by rfl, ?_⟩) ?_ ?_; rotate_left 2; (· intro w'; go_simp; with_reducible rfl); (· simp only [nrm]; rfl)
  refine tk_ (v := ?_) (a' := ?_) 8 (some 29) 511 rfl rfl HT_ HW_ (by kernel_rfl) (.inl ⟨by rfl, ?_⟩) hHeld ?_ ?_; rotate_left 2; (· rintro w' ⟨_, _⟩; go_simp; with_reducible rfl); (· simp only [nrm]; rfl)
  refine pu_ (v := ?_) (a' := ?_) 9 (some 30) 1023 rfl rfl HT_ (by kernel_rfl) (.inl ⟨by rfl, ?_⟩) ?_ ?_; rotate_left 2; (· intro w'; go_simp; with_reducible rfl); (· simp only [nrm]; rfl)
  refine on_ 10 (some 31) 2047 rfl rfl HT_ (by kernel_rfl) (by decide) (fun K hK => ?_)
  refine goes_ Tryd.func77 (by kernel_rfl) rfl #[.pointer (some ⟨p, 0, none⟩), .int .i64 (wrap64 ((i : Int) + ((k : Int) + 1))), .int .u64 0] (by rfl) rfl rfl (by (try simp only [List.map_toArray, List.map_cons, List.map_nil]); first | done | rfl) ?_
  refine (hst.out _ H.out).mono ?_
  rintro e w3 ⟨lv1, rfl, h1⟩
  replace H := Aside.mk h1
  clear h1
  refine ⟨_, rfl, ?_⟩
  refine hK.out _ _ ⟨(H.out.pick 4 rfl).cell 0, (H.out.pick 4 rfl).cell 2⟩ (fun hHeld => ?_)
  clear hK K
  refine norm_ (a' := ?_) ?_ ?_
  rotate_left
  · show Act.put _ (some 31) _ = _
    simp only [nrm]
    rfl
  refine done_ (done_of HT_.out (by kernel_rfl)) ?_
  clear HT_ HW_ hHeld
  have z2 := (H.out.pick 4 rfl).cell 2
  have f2 := (H.out.pick 4 rfl).frozen 2
  go_wp2
  go_ret
  refine ⟨lv1, rfl, back_ (L := Are p a gC who false (X.set (i + (k + 1)) 0) lv1 (l ++ [⟨who, 2, (i + (k + 1) : Nat), 0, 0, X.getD (i + (k + 1)) 0, 0⟩]) (cn + 1) fl) ?_⟩
  have h9 := (H.out.pick 4 rfl).put 2 (.int .i64 k) rfl
  simpa [hw2] using h9
end Go.Proofs.YtelfiegocdjnoaaDoor.Ar
