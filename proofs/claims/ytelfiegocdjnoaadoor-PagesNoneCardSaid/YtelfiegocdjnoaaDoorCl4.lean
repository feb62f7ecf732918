/- A claim's step, state by state. Conditions: the arena's port has a grant; the plan is right; the table of sizes reads as it was laid. -/
import Derived.Test.YtelfiegocdjnoaaDoorCl2
import Derived.Test.YtelfiegocdjnoaaDoorCl3
import Derived.Test.YtelfiegocdjnoaaDoorRm0
import Derived.Test.YtelfiegocdjnoaaDoorMrF0
namespace Go.Proofs.YtelfiegocdjnoaaDoor.Ar
open Go Go.RowKit Go.Proofs.YtelfiegocdjnoaaDoor.Sep Go.Proofs.YtelfiegocdjnoaaDoor.Pg Go.Proofs.YtelfiegocdjnoaaDoorW.PrintWords Go.Proofs.YtelfiegocdjnoaaDoorW.PrintLast Go.Proofs.YtelfiegocdjnoaaDoorW.PrintMore Go.Proofs.YtelfiegocdjnoaaDoor.Q
set_option linter.unusedVariables false
set_option linter.unusedSimpArgs false
set_option maxHeartbeats 8000000
set_option maxRecDepth 100000
def cs.T10 : Bool × List (List Nat × List Nat) := (true, [([], []), ([], []), ([1], [1]), ([2], [2]), ([3], [3]), ([], []), ([5], [5]), ([6], [6]), ([7], [7]), ([4, 8], [4, 8]), ([], []), ([10], [10]), ([11], [11]), ([12], [12]), ([], []), ([14, 9], [14]), ([0, 9, 13, 15, 15], [0, 9, 13, 15]), ([16], [16])])
def cs.B10 : List Nat := [0, 0, 2, 6, 14, 0, 32, 96, 224, 510, 0, 1024, 3072, 7168, 0, 17406, 65535, 131071]
theorem cs.tab10 : rtab .any (opsOf Tryd.f57 10) = cs.T10 := by kernel_rfl
theorem cs.bits10 : waitsOk cs.T10.2 cs.B10 = true := by kernel_rfl
def cs.T13 : Bool × List (List Nat × List Nat) := (true, [([], []), ([], []), ([], []), ([2], [2]), ([3], [3]), ([4], [4]), ([], []), ([6], [6]), ([7], [7]), ([8], [8]), ([5, 9], [5, 9]), ([1, 10, 10], [1, 10]), ([0, 0, 1, 2, 3, 4, 5, 6, 7, 8, 9, 10, 11], [0]), ([12, 0, 1, 2, 3, 4, 5, 6, 7, 8, 9, 10, 11], [12]), ([13, 11, 11, 0, 1, 2, 3, 4, 5, 6, 7, 8, 9, 10, 11], [11, 13])])
def cs.B13 : List Nat := [0, 0, 0, 4, 12, 28, 0, 64, 192, 448, 1020, 2046, 4095, 8191, 16383]
theorem cs.tab13 : rtab .any (opsOf Tryd.f57 13) = cs.T13 := by kernel_rfl
theorem cs.bits13 : waitsOk cs.T13.2 cs.B13 = true := by kernel_rfl
def cs.T15 : Bool × List (List Nat × List Nat) := (true, [([], []), ([0], [0]), ([1], [1]), ([2], [2]), ([], []), ([4], [4]), ([5], [5]), ([6], [6]), ([3, 7], [3, 7]), ([8], [8])])
def cs.B15 : List Nat := [0, 1, 3, 7, 0, 16, 48, 112, 255, 511]
theorem cs.tab15 : rtab .any (opsOf Tryd.f57 15) = cs.T15 := by kernel_rfl
theorem cs.bits15 : waitsOk cs.T15.2 cs.B15 = true := by kernel_rfl
def cs.T18 : Bool × List (List Nat × List Nat) := (true, [([], []), ([0], [0]), ([1], [1]), ([2], [2]), ([], []), ([4], [4]), ([5], [5]), ([6], [6]), ([3, 7], [3, 7]), ([8], [8]), ([9], [9]), ([9], [9]), ([], []), ([12, 10, 8, 0, 1, 2, 3, 4, 5, 6, 7, 8, 9, 10, 12], [10, 12]), ([11, 13, 0, 1, 2, 3, 4, 5, 6, 7, 8, 9, 10, 11, 12, 13], [11])])
def cs.B18 : List Nat := [0, 1, 3, 7, 0, 16, 48, 112, 255, 511, 1023, 1023, 0, 6143, 16383]
theorem cs.tab18 : rtab .any (opsOf Tryd.f57 18) = cs.T18 := by kernel_rfl
theorem cs.bits18 : waitsOk cs.T18.2 cs.B18 = true := by kernel_rfl
def cs.T19 : Bool × List (List Nat × List Nat) := (true, [([], []), ([], []), ([1], [1]), ([2], [2]), ([3], [3]), ([], []), ([5], [5]), ([6], [6]), ([7], [7]), ([4, 8], [4, 8]), ([], []), ([10, 9], [10]), ([0, 9, 11, 11], [0, 9, 11])])
def cs.B19 : List Nat := [0, 0, 2, 6, 14, 0, 32, 96, 224, 510, 0, 2046, 4095]
theorem cs.tab19 : rtab .any (opsOf Tryd.f57 19) = cs.T19 := by kernel_rfl
theorem cs.bits19 : waitsOk cs.T19.2 cs.B19 = true := by kernel_rfl
def cs.T26 : Bool × List (List Nat × List Nat) := (true, [([], []), ([], []), ([1], [1]), ([2], [2]), ([3], [3]), ([], []), ([5], [5]), ([6], [6]), ([7], [7]), ([4, 8], [4, 8]), ([], []), ([10, 9], [10]), ([0, 9, 11, 11], [0, 9, 11]), ([12], [12])])
def cs.B26 : List Nat := [0, 0, 2, 6, 14, 0, 32, 96, 224, 510, 0, 2046, 4095, 8191]
theorem cs.tab26 : rtab .any (opsOf Tryd.f57 26) = cs.T26 := by kernel_rfl
theorem cs.bits26 : waitsOk cs.T26.2 cs.B26 = true := by kernel_rfl
def cs.T29 : Bool × List (List Nat × List Nat) := (true, [([], []), ([], []), ([1], [1]), ([2], [2]), ([3], [3]), ([], []), ([5], [5]), ([6], [6]), ([7], [7]), ([4, 8], [4, 8]), ([0, 9, 9], [0, 9])])
def cs.B29 : List Nat := [0, 0, 2, 6, 14, 0, 32, 96, 224, 510, 1023]
theorem cs.tab29 : rtab .any (opsOf Tryd.f57 29) = cs.T29 := by kernel_rfl
theorem cs.bits29 : waitsOk cs.T29.2 cs.B29 = true := by kernel_rfl
def cs.T32 : Bool × List (List Nat × List Nat) := (true, [([], []), ([], []), ([1], [1]), ([2], [2]), ([3], [3]), ([], []), ([5], [5]), ([6], [6]), ([7], [7]), ([4, 8], [4, 8]), ([0, 9, 9], [0, 9])])
def cs.B32 : List Nat := [0, 0, 2, 6, 14, 0, 32, 96, 224, 510, 1023]
theorem cs.tab32 : rtab .any (opsOf Tryd.f57 32) = cs.T32 := by kernel_rfl
theorem cs.bits32 : waitsOk cs.T32.2 cs.B32 = true := by kernel_rfl
variable {w0 w : World} {F : List HP} {a gC p g : Nat} {lv : Value} {l : List Acc} {cn fl who : Int} {X : List Int} {q : Cp} {x : Cl}
theorem alloc_in {P T : Nat} (hP : P < 5) (hT : T < 3) {i : Int} (h0 : 0 ≤ i) (h1 : i < (P : Int) + 1) : layout_Plan_Alloc.f ((P : Int) + 1) ((T : Int) + 1) 1 i = some ((adr P T 1 i.toNat : Nat) : Int) := by
  have h := all_ (x := sw0 P T 0 0 i.toNat) (page := i.toNat) ⟨hP, hT, by omega, rfl, rfl, rfl, rfl⟩
  rw [show (sw0 P T 0 0 (i.toNat : Int)).page = i from Int.toNat_of_nonneg h0] at h
  exact h
theorem mark_in {P T : Nat} (hP : P < 5) (hT : T < 3) {i : Int} (h0 : 0 ≤ i) (h1 : i < (P : Int) + 1) : layout_Plan_Mark.f ((P : Int) + 1) ((T : Int) + 1) 1 i = some ((adr P T 2 i.toNat : Nat) : Int) := by
  have h := mrk_ (x := sw0 P T 0 0 i.toNat) (page := i.toNat) ⟨hP, hT, by omega, rfl, rfl, rfl, rfl⟩
  rw [show (sw0 P T 0 0 (i.toNat : Int)).page = i from Int.toNat_of_nonneg h0] at h
  exact h
theorem cst1y (hq : q.Right) (hp : x.pg < q.P + 1) (hat : x.at_ = 1) (hX : X.length = 128 + 64 * q.P) (hl : l.length ≤ 100000) (hc0 : 0 ≤ cn) (hc1 : cn ≤ 100000) (hw : x.was = X.getD (adr q.P q.T 0 x.pg) 0) (h : St w0 w (Are p a gC who true X lv l cn fl ++ clB g q x (.pointer none) :: F)) :
    Calls Tryd.prog 57 #[clP g, .pointer (some ⟨p, 0, none⟩)] w fun e w' => ∃ lv', e = .returned (.bool (Cl.at_ ({ x with at_ := 2 } : Cl) == 9)) ∧ St w0 w' (Are p a gC who false (X.set (adr q.P q.T 0 x.pg) q.word) lv' (l ++ [⟨who, 4, adr q.P q.T 0 x.pg, x.was, q.word, X.getD (adr q.P q.T 0 x.pg) 0, q.word⟩]) (cn + 1) fl ++ clB g q ({ x with at_ := 2 } : Cl) (.pointer none) :: F) := by
  have hE := entry_in hq.hP hq.hT (i := (x.pg : Int)) (by omega) (by omega)
  rw [Int.toNat_natCast] at hE
  have HE := Aside.mk hE
  have hi : adr q.P q.T 0 x.pg < X.length := by rw [hX]; exact adr_lt hq.hP hq.hT hp (by decide)
  generalize adr q.P q.T 0 x.pg = i at HE hi hw ⊢
  have HX := Aside.mk (show X.length ≤ 4096 by have := hq.hP; omega)
  have HL := Aside.mk (show l.length ≤ 1000000 by omega)
  have HC := Aside.mk (show cn ≤ 1000000 by omega)
  have HI := Aside.mk hi
  have H0 := Aside.mk hc0
  have HQ := Aside.mk hq
  have HPG := Aside.mk hp
  have x7 : w.cell? ⟨g, 7, none⟩ = some (.int .i64 x.at_) := (h.pick 4 rfl).cell 7
  rw [hat] at x7
  have H := Aside.mk h
  have HW := Aside.mk hw
  have hcas := fun (w : World) (h : St w0 w (Are p a gC who true X lv l cn fl ++ clB g q ({ x with at_ := 2 } : Cl) (.pointer none) :: F)) => cas_yes i q.word HI.out HX.out HL.out H0.out HC.out h
  rw [← HW.out] at hcas
  replace hcas := Aside.mk hcas
  rw [← HW.out]
  clear h hE hat hi hX hl hc0 hc1 hw hq hp
  go_enter Tryd.func57, Tryd.ntmps57
  go_wp2_with (first | (go_at_call 76; refine (open_ H.out).mono ?_; rintro e w1 ⟨rfl, rfl⟩) | (with_reducible refine stop_at (.store 3 (.tmp 32) (.const (.int .i64 2))) rfl ?_))
  refine ⟨?_⟩
  refine st_store rfl rfl rfl [.int .i64 2] (Cl.cells q ({ x with at_ := 2 } : Cl) (.pointer none)) rfl rfl rfl (Nat.le_of_ble_eq_true rfl) (by simp [Value.oneCell']) (H.out.pick 4 rfl) rfl ?_
  intro w9 h9
  replace H : Aside (St w0 w9 (Are p a gC who true X lv l cn fl ++ clB g q ({ x with at_ := 2 } : Cl) (.pointer none) :: F)) := Aside.mk (back_ (L := Are p a gC who true X lv l cn fl) (R := F) h9)
  clear h9
  clear x7
  go_wp2_with fail
  replace H := Aside.mk H.out.drew
  refine start_ (n := 18) (S := fun w' => w'.cell? ⟨g, 0, none⟩ = some (.int .i64 ((q.P : Int) + 1)) ∧ w'.cell? ⟨g, 1, none⟩ = some (.int .i64 ((q.T : Int) + 1)) ∧ w'.cell? ⟨g, 2, none⟩ = some (.int .i64 1) ∧ w'.cell? ⟨g, 8, none⟩ = some (.int .i64 (x.pg : Int)) ∧ w'.cell? ⟨g, 9, none⟩ = some (.int .u64 x.was)) (ds := []) (flg 18 0) (by kernel_rfl) rfl rfl (⟨(H.out.pick 4 rfl).cell 0, (H.out.pick 4 rfl).cell 1, (H.out.pick 4 rfl).cell 2, (H.out.pick 4 rfl).cell 8, (H.out.pick 4 rfl).cell 9⟩) (fun hHeld => ?_)
  refine with_tabW cs.tab10 cs.bits10 (fun HT_ HW_ => ?_)
  refine pu_ (v := ?_) (a' := ?_) 0 (some 33) 1 rfl rfl HT_ (by kernel_rfl) (.inl ⟨by rfl, ?_⟩) ?_ ?_; rotate_left 2; (· intro w'; go_simp; with_reducible rfl); (· simp only [nrm]; rfl)
  refine pu_ (v := ?_) (a' := ?_) 1 (some 34) 3 rfl rfl HT_ (by kernel_rfl) (.inl ⟨by rfl, ?_⟩) ?_ ?_; rotate_left 2; (· intro w'; go_simp; with_reducible rfl); (· simp only [nrm]; rfl)
  refine pu_ (v := ?_) (a' := ?_) 2 (some 35) 7 rfl rfl HT_ (by kernel_rfl) (.inl ⟨by rfl, ?_⟩) ?_ ?_; rotate_left 2; (· intro w'; go_simp; with_reducible rfl); (· simp only [nrm]; rfl)
  refine pu_ (v := ?_) (a' := ?_) 3 (some 36) 15 rfl rfl HT_ (by kernel_rfl) (.inl ⟨by rfl, ?_⟩) ?_ ?_; rotate_left 2; (· intro w'; go_simp; with_reducible rfl); (· simp only [nrm]; rfl)
  refine tk_ (v := ?_) (a' := ?_) 4 (some 37) 31 rfl rfl HT_ HW_ (by kernel_rfl) (.inl ⟨by rfl, ?_⟩) hHeld ?_ ?_; rotate_left 2; (· rintro w' ⟨_, _, _, _, _⟩; go_simp; with_reducible rfl); (· simp only [nrm]; rfl)
  refine pu_ (v := ?_) (a' := ?_) 5 (some 38) 63 rfl rfl HT_ (by kernel_rfl) (.inl ⟨by rfl, ?_⟩) ?_ ?_; rotate_left 2; (· intro w'; go_simp; with_reducible rfl); (· simp only [nrm]; rfl)
  refine pu_ (v := ?_) (a' := ?_) 6 (some 39) 127 rfl rfl HT_ (by kernel_rfl) (.inl ⟨by rfl, ?_⟩) ?_ ?_; rotate_left 2; (· intro w'; go_simp; with_reducible rfl); (· simp only [nrm]; rfl)
  refine pu_ (v := ?_) (a' := ?_) 7 (some 40) 255 rfl rfl HT_ (by kernel_rfl) (.inl ⟨by rfl, ?_⟩) ?_ ?_; rotate_left 2; (· intro w'; go_simp; with_reducible rfl); (· simp only [nrm]; rfl)
  refine tk_ (v := ?_) (a' := ?_) 8 (some 41) 511 rfl rfl HT_ HW_ (by kernel_rfl) (.inl ⟨by rfl, ?_⟩) hHeld ?_ ?_; rotate_left 2; (· rintro w' ⟨_, _, _, _, _⟩; go_simp; with_reducible rfl); (· simp only [nrm]; rfl)
  refine pu_ (v := ?_) (a' := ?_) 10 (some 43) 1535 rfl rfl HT_ (by kernel_rfl) (.inl ⟨by rfl, ?_⟩) ?_ ?_; rotate_left 2; (· intro w'; go_simp; with_reducible rfl); (· simp only [nrm]; rfl)
  refine pu_ (v := ?_) (a' := ?_) 11 (some 44) 3583 rfl rfl HT_ (by kernel_rfl) (.inl ⟨by rfl, ?_⟩) ?_ ?_; rotate_left 2; (· intro w'; go_simp; with_reducible rfl); (· simp only [nrm]; rfl)
  refine pu_ (v := ?_) (a' := ?_) 12 (some 45) 7679 rfl rfl HT_ (by kernel_rfl) (.inl ⟨by rfl, ?_⟩) ?_ ?_; rotate_left 2; (· intro w'; go_simp; with_reducible rfl); (· simp only [nrm]; rfl)
  refine tk_ (v := ?_) (a' := ?_) 13 (some 46) 15871 rfl rfl HT_ HW_ (by kernel_rfl) (.inl ⟨by rfl, ?_⟩) hHeld ?_ ?_; rotate_left 2; (· rintro w' ⟨_, _, _, _, _⟩; go_simp; with_reducible rfl); (· simp only [nrm]; rfl)
  refine pu_ (v := ?_) (a' := ?_) 14 (some 47) 32255 rfl rfl HT_ (by kernel_rfl) (.inl ⟨by rfl, ?_⟩) ?_ ?_; rotate_left 2; (· intro w'; go_simp; with_reducible rfl); (· simp only [nrm]; rfl)
  refine on_ 9 (some 42) 32767 rfl rfl HT_ (by kernel_rfl) (by decide) (fun K hK => ?_)
  refine goes_ Tryd.func85 (by kernel_rfl) rfl #[.agg #[.int .i64 ((q.P : Int) + 1), .int .i64 ((q.T : Int) + 1), .int .i64 1], .int .i64 (x.pg : Int)] (by rfl) rfl rfl (by (try simp only [List.map_toArray, List.map_cons, List.map_nil]); first | done | rfl) ?_
  refine (layout_Plan_Entry.calls _ _ _ _ _ _ HE.out).mono ?_
  rintro e w3 ⟨rfl, hb⟩
  replace H := Aside.mk (H.out.step hb)
  clear hb
  refine ⟨_, rfl, ?_⟩
  refine hK.out _ _ ⟨(H.out.pick 4 rfl).cell 0, (H.out.pick 4 rfl).cell 1, (H.out.pick 4 rfl).cell 2, (H.out.pick 4 rfl).cell 8, (H.out.pick 4 rfl).cell 9⟩ (fun hHeld => ?_)
  clear hK K
  refine norm_ (a' := ?_) ?_ ?_
  rotate_left
  · show Act.put _ (some 42) _ = _
    simp only [nrm]
    rfl
  refine on_ 15 (some 48) 65535 rfl rfl HT_ (by kernel_rfl) (by decide) (fun K hK => ?_)
  refine goes_ Tryd.func120 (by kernel_rfl) rfl #[clP g] (by rfl) rfl rfl (by (try simp only [List.map_toArray, List.map_cons, List.map_nil]); first | done | rfl) ?_
  refine (clowned_ HQ.out (H.out.pick 4 rfl)).mono ?_
  rintro e w4 ⟨rfl, hb⟩
  replace H := Aside.mk (H.out.step hb)
  clear hb
  refine ⟨_, rfl, ?_⟩
  refine hK.out _ _ ⟨(H.out.pick 4 rfl).cell 0, (H.out.pick 4 rfl).cell 1, (H.out.pick 4 rfl).cell 2, (H.out.pick 4 rfl).cell 8, (H.out.pick 4 rfl).cell 9⟩ (fun hHeld => ?_)
  clear hK K
  refine norm_ (a' := ?_) ?_ ?_
  rotate_left
  · show Act.put _ (some 48) _ = _
    simp only [nrm]
    rfl
  refine on_ 16 (some 49) 131071 rfl rfl HT_ (by kernel_rfl) (by decide) (fun K hK => ?_)
  refine goes_ Tryd.func119 (by kernel_rfl) rfl #[.pointer (some ⟨p, 0, none⟩), .int .i64 i, .int .u64 (x.was), .int .u64 q.word] (by rfl) rfl rfl (by (try simp only [List.map_toArray, List.map_cons, List.map_nil]); first | done | rfl) ?_
  refine (hcas.out _ H.out).mono ?_
  rintro e w5 ⟨lv1, rfl, h1⟩
  replace H := Aside.mk h1
  clear h1
  refine ⟨_, rfl, ?_⟩
  refine hK.out _ _ ⟨(H.out.pick 4 rfl).cell 0, (H.out.pick 4 rfl).cell 1, (H.out.pick 4 rfl).cell 2, (H.out.pick 4 rfl).cell 8, (H.out.pick 4 rfl).cell 9⟩ (fun hHeld => ?_)
  clear hK K
  refine norm_ (a' := ?_) ?_ ?_
  rotate_left
  · show Act.put _ (some 49) _ = _
    simp only [nrm]
    rfl
  refine pu_ (v := ?_) (a' := ?_) 17 (some 50) 262143 rfl rfl HT_ (by kernel_rfl) (.inl ⟨by rfl, ?_⟩) ?_ ?_; rotate_left 2; (· intro w'; go_simp; with_reducible rfl); (· simp only [nrm]; rfl)
  refine done_ (done_of HT_.out (by kernel_rfl)) ?_
  clear HT_ HW_ hHeld
  have x7 := (H.out.pick 4 rfl).cell 7
  go_wp2
  go_ret
  exact ⟨lv1, rfl, H.out⟩
theorem cst1n (hq : q.Right) (hp : x.pg < q.P + 1) (hat : x.at_ = 1) (hX : X.length = 128 + 64 * q.P) (hl : l.length ≤ 100000) (hc0 : 0 ≤ cn) (hc1 : cn ≤ 100000) (hw : x.was ≠ X.getD (adr q.P q.T 0 x.pg) 0) (hr : x.rd = 0 ∨ x.rd = 1 ∨ x.rd = 2) (h : St w0 w (Are p a gC who true X lv l cn fl ++ clB g q x (.pointer none) :: F)) :
    Calls Tryd.prog 57 #[clP g, .pointer (some ⟨p, 0, none⟩)] w fun e w' => ∃ lv', e = .returned (.bool (Cl.at_ (({ x with at_ := 2 } : Cl).next q) == 9)) ∧ St w0 w' (Are p a gC who false X lv' (l ++ [⟨who, 4, adr q.P q.T 0 x.pg, x.was, q.word, X.getD (adr q.P q.T 0 x.pg) 0, X.getD (adr q.P q.T 0 x.pg) 0⟩]) (cn + 1) fl ++ clB g q (({ x with at_ := 2 } : Cl).next q) (.pointer none) :: F) := by
  have hE := entry_in hq.hP hq.hT (i := (x.pg : Int)) (by omega) (by omega)
  rw [Int.toNat_natCast] at hE
  have HE := Aside.mk hE
  have hi : adr q.P q.T 0 x.pg < X.length := by rw [hX]; exact adr_lt hq.hP hq.hT hp (by decide)
  generalize adr q.P q.T 0 x.pg = i at HE hi hw ⊢
  have HX := Aside.mk (show X.length ≤ 4096 by have := hq.hP; omega)
  have HL := Aside.mk (show l.length ≤ 1000000 by omega)
  have HC := Aside.mk (show cn ≤ 1000000 by omega)
  have HI := Aside.mk hi
  have H0 := Aside.mk hc0
  have HQ := Aside.mk hq
  have HPG := Aside.mk hp
  have x7 : w.cell? ⟨g, 7, none⟩ = some (.int .i64 x.at_) := (h.pick 4 rfl).cell 7
  rw [hat] at x7
  have H := Aside.mk h
  have HW := Aside.mk hw
  have hcas := fun (w : World) (h : St w0 w (Are p a gC who true X lv l cn fl ++ clB g q ({ x with at_ := 2 } : Cl) (.pointer none) :: F)) => cas_no i (x.was) q.word HW.out HI.out HX.out HL.out H0.out HC.out h
  replace hcas := Aside.mk hcas
  have HN := Aside.mk (fun (F' : List HP) (w1 : World) (h1 : St w0 w1 (clB g q ({ x with at_ := 2 } : Cl) (.pointer none) :: F')) => clnext_ (x := ({ x with at_ := 2 } : Cl)) HPG.out HQ.out.hP hr h1)
  clear h hE hat hi hX hl hc0 hc1 hw hq hp hr
  go_enter Tryd.func57, Tryd.ntmps57
  go_wp2_with (first | (go_at_call 76; refine (open_ H.out).mono ?_; rintro e w1 ⟨rfl, rfl⟩) | (with_reducible refine stop_at (.store 3 (.tmp 32) (.const (.int .i64 2))) rfl ?_))
  refine ⟨?_⟩
  refine st_store rfl rfl rfl [.int .i64 2] (Cl.cells q ({ x with at_ := 2 } : Cl) (.pointer none)) rfl rfl rfl (Nat.le_of_ble_eq_true rfl) (by simp [Value.oneCell']) (H.out.pick 4 rfl) rfl ?_
  intro w9 h9
  replace H : Aside (St w0 w9 (Are p a gC who true X lv l cn fl ++ clB g q ({ x with at_ := 2 } : Cl) (.pointer none) :: F)) := Aside.mk (back_ (L := Are p a gC who true X lv l cn fl) (R := F) h9)
  clear h9
  clear x7
  go_wp2_with fail
  replace H := Aside.mk H.out.drew
  refine start_ (n := 18) (S := fun w' => w'.cell? ⟨g, 0, none⟩ = some (.int .i64 ((q.P : Int) + 1)) ∧ w'.cell? ⟨g, 1, none⟩ = some (.int .i64 ((q.T : Int) + 1)) ∧ w'.cell? ⟨g, 2, none⟩ = some (.int .i64 1) ∧ w'.cell? ⟨g, 8, none⟩ = some (.int .i64 (x.pg : Int)) ∧ w'.cell? ⟨g, 9, none⟩ = some (.int .u64 x.was)) (ds := []) (flg 18 0) (by kernel_rfl) rfl rfl (⟨(H.out.pick 4 rfl).cell 0, (H.out.pick 4 rfl).cell 1, (H.out.pick 4 rfl).cell 2, (H.out.pick 4 rfl).cell 8, (H.out.pick 4 rfl).cell 9⟩) (fun hHeld => ?_)
  refine with_tabW cs.tab10 cs.bits10 (fun HT_ HW_ => ?_)
  refine pu_ (v := ?_) (a' := ?_) 0 (some 33) 1 rfl rfl HT_ (by kernel_rfl) (.inl ⟨by rfl, ?_⟩) ?_ ?_; rotate_left 2; (· intro w'; go_simp; with_reducible rfl); (· simp only [nrm]; rfl)
  refine pu_ (v := ?_) (a' := ?_) 1 (some 34) 3 rfl rfl HT_ (by kernel_rfl) (.inl ⟨by rfl, ?_⟩) ?_ ?_; rotate_left 2; (· intro w'; go_simp; with_reducible rfl); (· simp only [nrm]; rfl)
  refine pu_ (v := ?_) (a' := ?_) 2 (some 35) 7 rfl rfl HT_ (by kernel_rfl) (.inl ⟨by rfl, ?_⟩) ?_ ?_; rotate_left 2; (· intro w'; go_simp; with_reducible rfl); (· simp only [nrm]; rfl)
  refine pu_ (v := ?_) (a' := ?_) 3 (some 36) 15 rfl rfl HT_ (by kernel_rfl) (.inl ⟨by rfl, ?_⟩) ?_ ?_; rotate_left 2; (· intro w'; go_simp; with_reducible rfl); (· simp only [nrm]; rfl)
  refine tk_ (v := ?_) (a' := ?_) 4 (some 37) 31 rfl rfl HT_ HW_ (by kernel_rfl) (.inl ⟨by rfl, ?_⟩) hHeld ?_ ?_; rotate_left 2; (· rintro w' ⟨_, _, _, _, _⟩; go_simp; with_reducible rfl); (· simp only [nrm]; rfl)
  refine pu_ (v := ?_) (a' := ?_) 5 (some 38) 63 rfl rfl HT_ (by kernel_rfl) (.inl ⟨by rfl, ?_⟩) ?_ ?_; rotate_left 2; (· intro w'; go_simp; with_reducible rfl); (· simp only [nrm]; rfl)
  refine pu_ (v := ?_) (a' := ?_) 6 (some 39) 127 rfl rfl HT_ (by kernel_rfl) (.inl ⟨by rfl, ?_⟩) ?_ ?_; rotate_left 2; (· intro w'; go_simp; with_reducible rfl); (· simp only [nrm]; rfl)
  refine pu_ (v := ?_) (a' := ?_) 7 (some 40) 255 rfl rfl HT_ (by kernel_rfl) (.inl ⟨by rfl, ?_⟩) ?_ ?_; rotate_left 2; (· intro w'; go_simp; with_reducible rfl); (· simp only [nrm]; rfl)
  refine tk_ (v := ?_) (a' := ?_) 8 (some 41) 511 rfl rfl HT_ HW_ (by kernel_rfl) (.inl ⟨by rfl, ?_⟩) hHeld ?_ ?_; rotate_left 2; (· rintro w' ⟨_, _, _, _, _⟩; go_simp; with_reducible rfl); (· simp only [nrm]; rfl)
  refine pu_ (v := ?_) (a' := ?_) 10 (some 43) 1535 rfl rfl HT_ (by kernel_rfl) (.inl ⟨by rfl, ?_⟩) ?_ ?_; rotate_left 2; (· intro w'; go_simp; with_reducible rfl); (· simp only [nrm]; rfl)
  refine pu_ (v := ?_) (a' := ?_) 11 (some 44) 3583 rfl rfl HT_ (by kernel_rfl) (.inl ⟨by rfl, ?_⟩) ?_ ?_; rotate_left 2; (· intro w'; go_simp; with_reducible rfl); (· simp only [nrm]; rfl)
  refine pu_ (v := ?_) (a' := ?_) 12 (some 45) 7679 rfl rfl HT_ (by kernel_rfl) (.inl ⟨by rfl, ?_⟩) ?_ ?_; rotate_left 2; (· intro w'; go_simp; with_reducible rfl); (· simp only [nrm]; rfl)
  refine tk_ (v := ?_) (a' := ?_) 13 (some 46) 15871 rfl rfl HT_ HW_ (by kernel_rfl) (.inl ⟨by rfl, ?_⟩) hHeld ?_ ?_; rotate_left 2; (· rintro w' ⟨_, _, _, _, _⟩; go_simp; with_reducible rfl); (· simp only [nrm]; rfl)
  refine pu_ (v := ?_) (a' := ?_) 14 (some 47) 32255 rfl rfl HT_ (by kernel_rfl) (.inl ⟨by rfl, ?_⟩) ?_ ?_; rotate_left 2; (· intro w'; go_simp; with_reducible rfl); (· simp only [nrm]; rfl)
  refine on_ 9 (some 42) 32767 rfl rfl HT_ (by kernel_rfl) (by decide) (fun K hK => ?_)
  refine goes_ Tryd.func85 (by kernel_rfl) rfl #[.agg #[.int .i64 ((q.P : Int) + 1), .int .i64 ((q.T : Int) + 1), .int .i64 1], .int .i64 (x.pg : Int)] (by rfl) rfl rfl (by (try simp only [List.map_toArray, List.map_cons, List.map_nil]); first | done | rfl) ?_
  refine (layout_Plan_Entry.calls _ _ _ _ _ _ HE.out).mono ?_
  rintro e w3 ⟨rfl, hb⟩
  replace H := Aside.mk (H.out.step hb)
  clear hb
  refine ⟨_, rfl, ?_⟩
  refine hK.out _ _ ⟨(H.out.pick 4 rfl).cell 0, (H.out.pick 4 rfl).cell 1, (H.out.pick 4 rfl).cell 2, (H.out.pick 4 rfl).cell 8, (H.out.pick 4 rfl).cell 9⟩ (fun hHeld => ?_)
  clear hK K
  refine norm_ (a' := ?_) ?_ ?_
  rotate_left
  · show Act.put _ (some 42) _ = _
    simp only [nrm]
    rfl
  refine on_ 15 (some 48) 65535 rfl rfl HT_ (by kernel_rfl) (by decide) (fun K hK => ?_)
  refine goes_ Tryd.func120 (by kernel_rfl) rfl #[clP g] (by rfl) rfl rfl (by (try simp only [List.map_toArray, List.map_cons, List.map_nil]); first | done | rfl) ?_
  refine (clowned_ HQ.out (H.out.pick 4 rfl)).mono ?_
  rintro e w4 ⟨rfl, hb⟩
  replace H := Aside.mk (H.out.step hb)
  clear hb
  refine ⟨_, rfl, ?_⟩
  refine hK.out _ _ ⟨(H.out.pick 4 rfl).cell 0, (H.out.pick 4 rfl).cell 1, (H.out.pick 4 rfl).cell 2, (H.out.pick 4 rfl).cell 8, (H.out.pick 4 rfl).cell 9⟩ (fun hHeld => ?_)
  clear hK K
  refine norm_ (a' := ?_) ?_ ?_
  rotate_left
  · show Act.put _ (some 48) _ = _
    simp only [nrm]
    rfl
  refine on_ 16 (some 49) 131071 rfl rfl HT_ (by kernel_rfl) (by decide) (fun K hK => ?_)
  refine goes_ Tryd.func119 (by kernel_rfl) rfl #[.pointer (some ⟨p, 0, none⟩), .int .i64 i, .int .u64 (x.was), .int .u64 q.word] (by rfl) rfl rfl (by (try simp only [List.map_toArray, List.map_cons, List.map_nil]); first | done | rfl) ?_
  refine (hcas.out _ H.out).mono ?_
  rintro e w5 ⟨lv1, rfl, h1⟩
  replace H := Aside.mk h1
  clear h1
  refine ⟨_, rfl, ?_⟩
  refine hK.out _ _ ⟨(H.out.pick 4 rfl).cell 0, (H.out.pick 4 rfl).cell 1, (H.out.pick 4 rfl).cell 2, (H.out.pick 4 rfl).cell 8, (H.out.pick 4 rfl).cell 9⟩ (fun hHeld => ?_)
  clear hK K
  refine norm_ (a' := ?_) ?_ ?_
  rotate_left
  · show Act.put _ (some 49) _ = _
    simp only [nrm]
    rfl
  refine pu_ (v := ?_) (a' := ?_) 17 (some 50) 262143 rfl rfl HT_ (by kernel_rfl) (.inl ⟨by rfl, ?_⟩) ?_ ?_; rotate_left 2; (· intro w'; go_simp; with_reducible rfl); (· simp only [nrm]; rfl)
  refine done_ (done_of HT_.out (by kernel_rfl)) ?_
  clear HT_ HW_ hHeld
  have x7 := (H.out.pick 4 rfl).cell 7
  go_wp2_with (go_at_call 121; refine (HN.out _ _ (H.out.pick 4 rfl)).mono ?_; rintro e w8 ⟨rfl, h8⟩; replace H := Aside.mk (back_ (L := Are p a gC who false X lv1 (l ++ [⟨who, 4, i, x.was, q.word, X.getD i 0, X.getD i 0⟩]) (cn + 1) fl) (R := F) h8); clear h8 x7; have x7 := (H.out.pick 4 rfl).cell 7)
  go_ret
  exact ⟨lv1, by simp, H.out⟩
theorem cst5y (hq : q.Right) (hp : x.pg < q.P + 1) (hat : x.at_ = 5) (hX : X.length = 128 + 64 * q.P) (hl : l.length ≤ 100000) (hc0 : 0 ≤ cn) (hc1 : cn ≤ 100000) (hw : 0 = X.getD (adr q.P q.T 0 x.pg) 0) (h : St w0 w (Are p a gC who true X lv l cn fl ++ clB g q x (.pointer none) :: F)) :
    Calls Tryd.prog 57 #[clP g, .pointer (some ⟨p, 0, none⟩)] w fun e w' => ∃ lv', e = .returned (.bool (Cl.at_ ({ x with at_ := 6 } : Cl) == 9)) ∧ St w0 w' (Are p a gC who false (X.set (adr q.P q.T 0 x.pg) q.word) lv' (l ++ [⟨who, 4, adr q.P q.T 0 x.pg, 0, q.word, X.getD (adr q.P q.T 0 x.pg) 0, q.word⟩]) (cn + 1) fl ++ clB g q ({ x with at_ := 6 } : Cl) (.pointer none) :: F) := by
  have hE := entry_in hq.hP hq.hT (i := (x.pg : Int)) (by omega) (by omega)
  rw [Int.toNat_natCast] at hE
  have HE := Aside.mk hE
  have hi : adr q.P q.T 0 x.pg < X.length := by rw [hX]; exact adr_lt hq.hP hq.hT hp (by decide)
  generalize adr q.P q.T 0 x.pg = i at HE hi hw ⊢
  have HX := Aside.mk (show X.length ≤ 4096 by have := hq.hP; omega)
  have HL := Aside.mk (show l.length ≤ 1000000 by omega)
  have HC := Aside.mk (show cn ≤ 1000000 by omega)
  have HI := Aside.mk hi
  have H0 := Aside.mk hc0
  have HQ := Aside.mk hq
  have HPG := Aside.mk hp
  have x7 : w.cell? ⟨g, 7, none⟩ = some (.int .i64 x.at_) := (h.pick 4 rfl).cell 7
  rw [hat] at x7
  have H := Aside.mk h
  have HW := Aside.mk hw
  have hcas := fun (w : World) (h : St w0 w (Are p a gC who true X lv l cn fl ++ clB g q ({ x with at_ := 6 } : Cl) (.pointer none) :: F)) => cas_yes i q.word HI.out HX.out HL.out H0.out HC.out h
  rw [← HW.out] at hcas
  replace hcas := Aside.mk hcas
  rw [← HW.out]
  clear h hE hat hi hX hl hc0 hc1 hw hq hp
  go_enter Tryd.func57, Tryd.ntmps57
  go_wp2_with (first | (go_at_call 76; refine (open_ H.out).mono ?_; rintro e w1 ⟨rfl, rfl⟩) | (with_reducible refine stop_at (.store 3 (.tmp 127) (.const (.int .i64 6))) rfl ?_))
  refine ⟨?_⟩
  refine st_store rfl rfl rfl [.int .i64 6] (Cl.cells q ({ x with at_ := 6 } : Cl) (.pointer none)) rfl rfl rfl (Nat.le_of_ble_eq_true rfl) (by simp [Value.oneCell']) (H.out.pick 4 rfl) rfl ?_
  intro w9 h9
  replace H : Aside (St w0 w9 (Are p a gC who true X lv l cn fl ++ clB g q ({ x with at_ := 6 } : Cl) (.pointer none) :: F)) := Aside.mk (back_ (L := Are p a gC who true X lv l cn fl) (R := F) h9)
  clear h9
  clear x7
  go_wp2_with fail
  replace H := Aside.mk H.out.drew
  refine start_ (n := 14) (S := fun w' => w'.cell? ⟨g, 0, none⟩ = some (.int .i64 ((q.P : Int) + 1)) ∧ w'.cell? ⟨g, 1, none⟩ = some (.int .i64 ((q.T : Int) + 1)) ∧ w'.cell? ⟨g, 2, none⟩ = some (.int .i64 1) ∧ w'.cell? ⟨g, 8, none⟩ = some (.int .i64 (x.pg : Int))) (ds := []) (flg 14 0) (by kernel_rfl) rfl rfl (⟨(H.out.pick 4 rfl).cell 0, (H.out.pick 4 rfl).cell 1, (H.out.pick 4 rfl).cell 2, (H.out.pick 4 rfl).cell 8⟩) (fun hHeld => ?_)
  refine with_tabW cs.tab26 cs.bits26 (fun HT_ HW_ => ?_)
  refine pu_ (v := ?_) (a' := ?_) 0 (some 128) 1 rfl rfl HT_ (by kernel_rfl) (.inl ⟨by rfl, ?_⟩) ?_ ?_; rotate_left 2; (· intro w'; go_simp; with_reducible rfl); (· simp only [nrm]; rfl)
  refine pu_ (v := ?_) (a' := ?_) 1 (some 129) 3 rfl rfl HT_ (by kernel_rfl) (.inl ⟨by rfl, ?_⟩) ?_ ?_; rotate_left 2; (· intro w'; go_simp; with_reducible rfl); (· simp only [nrm]; rfl)
  refine pu_ (v := ?_) (a' := ?_) 2 (some 130) 7 rfl rfl HT_ (by kernel_rfl) (.inl ⟨by rfl, ?_⟩) ?_ ?_; rotate_left 2; (· intro w'; go_simp; with_reducible rfl); (· simp only [nrm]; rfl)
  refine pu_ (v := ?_) (a' := ?_) 3 (some 131) 15 rfl rfl HT_ (by kernel_rfl) (.inl ⟨by rfl, ?_⟩) ?_ ?_; rotate_left 2; (· intro w'; go_simp; with_reducible rfl); (· simp only [nrm]; rfl)
  refine tk_ (v := ?_) (a' := ?_) 4 (some 132) 31 rfl rfl HT_ HW_ (by kernel_rfl) (.inl ⟨by rfl, ?_⟩) hHeld ?_ ?_; rotate_left 2; (· rintro w' ⟨_, _, _, _⟩; go_simp; with_reducible rfl); (· simp only [nrm]; rfl)
  refine pu_ (v := ?_) (a' := ?_) 5 (some 133) 63 rfl rfl HT_ (by kernel_rfl) (.inl ⟨by rfl, ?_⟩) ?_ ?_; rotate_left 2; (· intro w'; go_simp; with_reducible rfl); (· simp only [nrm]; rfl)
  refine pu_ (v := ?_) (a' := ?_) 6 (some 134) 127 rfl rfl HT_ (by kernel_rfl) (.inl ⟨by rfl, ?_⟩) ?_ ?_; rotate_left 2; (· intro w'; go_simp; with_reducible rfl); (· simp only [nrm]; rfl)
  refine pu_ (v := ?_) (a' := ?_) 7 (some 135) 255 rfl rfl HT_ (by kernel_rfl) (.inl ⟨by rfl, ?_⟩) ?_ ?_; rotate_left 2; (· intro w'; go_simp; with_reducible rfl); (· simp only [nrm]; rfl)
  refine tk_ (v := ?_) (a' := ?_) 8 (some 136) 511 rfl rfl HT_ HW_ (by kernel_rfl) (.inl ⟨by rfl, ?_⟩) hHeld ?_ ?_; rotate_left 2; (· rintro w' ⟨_, _, _, _⟩; go_simp; with_reducible rfl); (· simp only [nrm]; rfl)
  refine pu_ (v := ?_) (a' := ?_) 10 (some 138) 1535 rfl rfl HT_ (by kernel_rfl) (.inl ⟨by rfl, ?_⟩) ?_ ?_; rotate_left 2; (· intro w'; go_simp; with_reducible rfl); (· simp only [nrm]; rfl)
  refine on_ 9 (some 137) 2047 rfl rfl HT_ (by kernel_rfl) (by decide) (fun K hK => ?_)
  refine goes_ Tryd.func85 (by kernel_rfl) rfl #[.agg #[.int .i64 ((q.P : Int) + 1), .int .i64 ((q.T : Int) + 1), .int .i64 1], .int .i64 (x.pg : Int)] (by rfl) rfl rfl (by (try simp only [List.map_toArray, List.map_cons, List.map_nil]); first | done | rfl) ?_
  refine (layout_Plan_Entry.calls _ _ _ _ _ _ HE.out).mono ?_
  rintro e w3 ⟨rfl, hb⟩
  replace H := Aside.mk (H.out.step hb)
  clear hb
  refine ⟨_, rfl, ?_⟩
  refine hK.out _ _ ⟨(H.out.pick 4 rfl).cell 0, (H.out.pick 4 rfl).cell 1, (H.out.pick 4 rfl).cell 2, (H.out.pick 4 rfl).cell 8⟩ (fun hHeld => ?_)
  clear hK K
  refine norm_ (a' := ?_) ?_ ?_
  rotate_left
  · show Act.put _ (some 137) _ = _
    simp only [nrm]
    rfl
  refine on_ 11 (some 139) 4095 rfl rfl HT_ (by kernel_rfl) (by decide) (fun K hK => ?_)
  refine goes_ Tryd.func120 (by kernel_rfl) rfl #[clP g] (by rfl) rfl rfl (by (try simp only [List.map_toArray, List.map_cons, List.map_nil]); first | done | rfl) ?_
  refine (clowned_ HQ.out (H.out.pick 4 rfl)).mono ?_
  rintro e w4 ⟨rfl, hb⟩
  replace H := Aside.mk (H.out.step hb)
  clear hb
  refine ⟨_, rfl, ?_⟩
  refine hK.out _ _ ⟨(H.out.pick 4 rfl).cell 0, (H.out.pick 4 rfl).cell 1, (H.out.pick 4 rfl).cell 2, (H.out.pick 4 rfl).cell 8⟩ (fun hHeld => ?_)
  clear hK K
  refine norm_ (a' := ?_) ?_ ?_
  rotate_left
  · show Act.put _ (some 139) _ = _
    simp only [nrm]
    rfl
  refine on_ 12 (some 140) 8191 rfl rfl HT_ (by kernel_rfl) (by decide) (fun K hK => ?_)
  refine goes_ Tryd.func119 (by kernel_rfl) rfl #[.pointer (some ⟨p, 0, none⟩), .int .i64 i, .int .u64 (0), .int .u64 q.word] (by rfl) rfl rfl (by (try simp only [List.map_toArray, List.map_cons, List.map_nil]); first | done | rfl) ?_
  refine (hcas.out _ H.out).mono ?_
  rintro e w5 ⟨lv1, rfl, h1⟩
  replace H := Aside.mk h1
  clear h1
  refine ⟨_, rfl, ?_⟩
  refine hK.out _ _ ⟨(H.out.pick 4 rfl).cell 0, (H.out.pick 4 rfl).cell 1, (H.out.pick 4 rfl).cell 2, (H.out.pick 4 rfl).cell 8⟩ (fun hHeld => ?_)
  clear hK K
  refine norm_ (a' := ?_) ?_ ?_
  rotate_left
  · show Act.put _ (some 140) _ = _
    simp only [nrm]
    rfl
  refine pu_ (v := ?_) (a' := ?_) 13 (some 141) 16383 rfl rfl HT_ (by kernel_rfl) (.inl ⟨by rfl, ?_⟩) ?_ ?_; rotate_left 2; (· intro w'; go_simp; with_reducible rfl); (· simp only [nrm]; rfl)
  refine done_ (done_of HT_.out (by kernel_rfl)) ?_
  clear HT_ HW_ hHeld
  have x7 := (H.out.pick 4 rfl).cell 7
  go_wp2
  go_ret
  exact ⟨lv1, rfl, H.out⟩
theorem cst5n (hq : q.Right) (hp : x.pg < q.P + 1) (hat : x.at_ = 5) (hX : X.length = 128 + 64 * q.P) (hl : l.length ≤ 100000) (hc0 : 0 ≤ cn) (hc1 : cn ≤ 100000) (hw : 0 ≠ X.getD (adr q.P q.T 0 x.pg) 0) (hr : x.rd = 0 ∨ x.rd = 1 ∨ x.rd = 2) (h : St w0 w (Are p a gC who true X lv l cn fl ++ clB g q x (.pointer none) :: F)) :
    Calls Tryd.prog 57 #[clP g, .pointer (some ⟨p, 0, none⟩)] w fun e w' => ∃ lv', e = .returned (.bool (Cl.at_ (({ x with at_ := 6 } : Cl).next q) == 9)) ∧ St w0 w' (Are p a gC who false X lv' (l ++ [⟨who, 4, adr q.P q.T 0 x.pg, 0, q.word, X.getD (adr q.P q.T 0 x.pg) 0, X.getD (adr q.P q.T 0 x.pg) 0⟩]) (cn + 1) fl ++ clB g q (({ x with at_ := 6 } : Cl).next q) (.pointer none) :: F) := by
  have hE := entry_in hq.hP hq.hT (i := (x.pg : Int)) (by omega) (by omega)
  rw [Int.toNat_natCast] at hE
  have HE := Aside.mk hE
  have hi : adr q.P q.T 0 x.pg < X.length := by rw [hX]; exact adr_lt hq.hP hq.hT hp (by decide)
  generalize adr q.P q.T 0 x.pg = i at HE hi hw ⊢
  have HX := Aside.mk (show X.length ≤ 4096 by have := hq.hP; omega)
  have HL := Aside.mk (show l.length ≤ 1000000 by omega)
  have HC := Aside.mk (show cn ≤ 1000000 by omega)
  have HI := Aside.mk hi
  have H0 := Aside.mk hc0
  have HQ := Aside.mk hq
  have HPG := Aside.mk hp
  have x7 : w.cell? ⟨g, 7, none⟩ = some (.int .i64 x.at_) := (h.pick 4 rfl).cell 7
  rw [hat] at x7
  have H := Aside.mk h
  have HW := Aside.mk hw
  have hcas := fun (w : World) (h : St w0 w (Are p a gC who true X lv l cn fl ++ clB g q ({ x with at_ := 6 } : Cl) (.pointer none) :: F)) => cas_no i (0) q.word HW.out HI.out HX.out HL.out H0.out HC.out h
  replace hcas := Aside.mk hcas
  have HN := Aside.mk (fun (F' : List HP) (w1 : World) (h1 : St w0 w1 (clB g q ({ x with at_ := 6 } : Cl) (.pointer none) :: F')) => clnext_ (x := ({ x with at_ := 6 } : Cl)) HPG.out HQ.out.hP hr h1)
  clear h hE hat hi hX hl hc0 hc1 hw hq hp hr
  go_enter Tryd.func57, Tryd.ntmps57
  go_wp2_with (first | (go_at_call 76; refine (open_ H.out).mono ?_; rintro e w1 ⟨rfl, rfl⟩) | (with_reducible refine stop_at (.store 3 (.tmp 127) (.const (.int .i64 6))) rfl ?_))
  refine ⟨?_⟩
  refine st_store rfl rfl rfl [.int .i64 6] (Cl.cells q ({ x with at_ := 6 } : Cl) (.pointer none)) rfl rfl rfl (Nat.le_of_ble_eq_true rfl) (by simp [Value.oneCell']) (H.out.pick 4 rfl) rfl ?_
  intro w9 h9
  replace H : Aside (St w0 w9 (Are p a gC who true X lv l cn fl ++ clB g q ({ x with at_ := 6 } : Cl) (.pointer none) :: F)) := Aside.mk (back_ (L := Are p a gC who true X lv l cn fl) (R := F) h9)
  clear h9
  clear x7
  go_wp2_with fail
  replace H := Aside.mk H.out.drew
  refine start_ (n := 14) (S := fun w' => w'.cell? ⟨g, 0, none⟩ = some (.int .i64 ((q.P : Int) + 1)) ∧ w'.cell? ⟨g, 1, none⟩ = some (.int .i64 ((q.T : Int) + 1)) ∧ w'.cell? ⟨g, 2, none⟩ = some (.int .i64 1) ∧ w'.cell? ⟨g, 8, none⟩ = some (.int .i64 (x.pg : Int))) (ds := []) (flg 14 0) (by kernel_rfl) rfl rfl (⟨(H.out.pick 4 rfl).cell 0, (H.out.pick 4 rfl).cell 1, (H.out.pick 4 rfl).cell 2, (H.out.pick 4 rfl).cell 8⟩) (fun hHeld => ?_)
  refine with_tabW cs.tab26 cs.bits26 (fun HT_ HW_ => ?_)
  refine pu_ (v := ?_) (a' := ?_) 0 (some 128) 1 rfl rfl HT_ (by kernel_rfl) (.inl ⟨by rfl, ?_⟩) ?_ ?_; rotate_left 2; (· intro w'; go_simp; with_reducible rfl); (· simp only [nrm]; rfl)
  refine pu_ (v := ?_) (a' := ?_) 1 (some 129) 3 rfl rfl HT_ (by kernel_rfl) (.inl ⟨by rfl, ?_⟩) ?_ ?_; rotate_left 2; (· intro w'; go_simp; with_reducible rfl); (· simp only [nrm]; rfl)
  refine pu_ (v := ?_) (a' := ?_) 2 (some 130) 7 rfl rfl HT_ (by kernel_rfl) (.inl ⟨by rfl, ?_⟩) ?_ ?_; rotate_left 2; (· intro w'; go_simp; with_reducible rfl); (· simp only [nrm]; rfl)
  refine pu_ (v := ?_) (a' := ?_) 3 (some 131) 15 rfl rfl HT_ (by kernel_rfl) (.inl ⟨by rfl, ?_⟩) ?_ ?_; rotate_left 2; (· intro w'; go_simp; with_reducible rfl); (· simp only [nrm]; rfl)
  refine tk_ (v := ?_) (a' := ?_) 4 (some 132) 31 rfl rfl HT_ HW_ (by kernel_rfl) (.inl ⟨by rfl, ?_⟩) hHeld ?_ ?_; rotate_left 2; (· rintro w' ⟨_, _, _, _⟩; go_simp; with_reducible rfl); (· simp only [nrm]; rfl)
  refine pu_ (v := ?_) (a' := ?_) 5 (some 133) 63 rfl rfl HT_ (by kernel_rfl) (.inl ⟨by rfl, ?_⟩) ?_ ?_; rotate_left 2; (· intro w'; go_simp; with_reducible rfl); (· simp only [nrm]; rfl)
  refine pu_ (v := ?_) (a' := ?_) 6 (some 134) 127 rfl rfl HT_ (by kernel_rfl) (.inl ⟨by rfl, ?_⟩) ?_ ?_; rotate_left 2; (· intro w'; go_simp; with_reducible rfl); (· simp only [nrm]; rfl)
  refine pu_ (v := ?_) (a' := ?_) 7 (some 135) 255 rfl rfl HT_ (by kernel_rfl) (.inl ⟨by rfl, ?_⟩) ?_ ?_; rotate_left 2; (· intro w'; go_simp; with_reducible rfl); (· simp only [nrm]; rfl)
  refine tk_ (v := ?_) (a' := ?_) 8 (some 136) 511 rfl rfl HT_ HW_ (by kernel_rfl) (.inl ⟨by rfl, ?_⟩) hHeld ?_ ?_; rotate_left 2; (· rintro w' ⟨_, _, _, _⟩; go_simp; with_reducible rfl); (· simp only [nrm]; rfl)
  refine pu_ (v := ?_) (a' := ?_) 10 (some 138) 1535 rfl rfl HT_ (by kernel_rfl) (.inl ⟨by rfl, ?_⟩) ?_ ?_; rotate_left 2; (· intro w'; go_simp; with_reducible rfl); (· simp only [nrm]; rfl)
  refine on_ 9 (some 137) 2047 rfl rfl HT_ (by kernel_rfl) (by decide) (fun K hK => ?_)
  refine goes_ Tryd.func85 (by kernel_rfl) rfl #[.agg #[.int .i64 ((q.P : Int) + 1), .int .i64 ((q.T : Int) + 1), .int .i64 1], .int .i64 (x.pg : Int)] (by rfl) rfl rfl (by (try simp only [List.map_toArray, List.map_cons, List.map_nil]); first | done | rfl) ?_
  refine (layout_Plan_Entry.calls _ _ _ _ _ _ HE.out).mono ?_
  rintro e w3 ⟨rfl, hb⟩
  replace H := Aside.mk (H.out.step hb)
  clear hb
  refine ⟨_, rfl, ?_⟩
  refine hK.out _ _ ⟨(H.out.pick 4 rfl).cell 0, (H.out.pick 4 rfl).cell 1, (H.out.pick 4 rfl).cell 2, (H.out.pick 4 rfl).cell 8⟩ (fun hHeld => ?_)
  clear hK K
  refine norm_ (a' := ?_) ?_ ?_
  rotate_left
  · show Act.put _ (some 137) _ = _
    simp only [nrm]
    rfl
  refine on_ 11 (some 139) 4095 rfl rfl HT_ (by kernel_rfl) (by decide) (fun K hK => ?_)
  refine goes_ Tryd.func120 (by kernel_rfl) rfl #[clP g] (by rfl) rfl rfl (by (try simp only [List.map_toArray, List.map_cons, List.map_nil]); first | done | rfl) ?_
  refine (clowned_ HQ.out (H.out.pick 4 rfl)).mono ?_
  rintro e w4 ⟨rfl, hb⟩
  replace H := Aside.mk (H.out.step hb)
  clear hb
  refine ⟨_, rfl, ?_⟩
  refine hK.out _ _ ⟨(H.out.pick 4 rfl).cell 0, (H.out.pick 4 rfl).cell 1, (H.out.pick 4 rfl).cell 2, (H.out.pick 4 rfl).cell 8⟩ (fun hHeld => ?_)
  clear hK K
  refine norm_ (a' := ?_) ?_ ?_
  rotate_left
  · show Act.put _ (some 139) _ = _
    simp only [nrm]
    rfl
  refine on_ 12 (some 140) 8191 rfl rfl HT_ (by kernel_rfl) (by decide) (fun K hK => ?_)
  refine goes_ Tryd.func119 (by kernel_rfl) rfl #[.pointer (some ⟨p, 0, none⟩), .int .i64 i, .int .u64 (0), .int .u64 q.word] (by rfl) rfl rfl (by (try simp only [List.map_toArray, List.map_cons, List.map_nil]); first | done | rfl) ?_
  refine (hcas.out _ H.out).mono ?_
  rintro e w5 ⟨lv1, rfl, h1⟩
  replace H := Aside.mk h1
  clear h1
  refine ⟨_, rfl, ?_⟩
  refine hK.out _ _ ⟨(H.out.pick 4 rfl).cell 0, (H.out.pick 4 rfl).cell 1, (H.out.pick 4 rfl).cell 2, (H.out.pick 4 rfl).cell 8⟩ (fun hHeld => ?_)
  clear hK K
  refine norm_ (a' := ?_) ?_ ?_
  rotate_left
  · show Act.put _ (some 140) _ = _
    simp only [nrm]
    rfl
  refine pu_ (v := ?_) (a' := ?_) 13 (some 141) 16383 rfl rfl HT_ (by kernel_rfl) (.inl ⟨by rfl, ?_⟩) ?_ ?_; rotate_left 2; (· intro w'; go_simp; with_reducible rfl); (· simp only [nrm]; rfl)
  refine done_ (done_of HT_.out (by kernel_rfl)) ?_
  clear HT_ HW_ hHeld
  have x7 := (H.out.pick 4 rfl).cell 7
  go_wp2_with (go_at_call 121; refine (HN.out _ _ (H.out.pick 4 rfl)).mono ?_; rintro e w8 ⟨rfl, h8⟩; replace H := Aside.mk (back_ (L := Are p a gC who false X lv1 (l ++ [⟨who, 4, i, 0, q.word, X.getD i 0, X.getD i 0⟩]) (cn + 1) fl) (R := F) h8); clear h8 x7; have x7 := (H.out.pick 4 rfl).cell 7)
  go_ret
  exact ⟨lv1, by simp, H.out⟩
theorem cst2r (hq : q.Right) (hp : x.pg < q.P + 1) (hat : x.at_ = 2) (hX : X.length = 128 + 64 * q.P) (hl : l.length ≤ 100000) (hc0 : 0 ≤ cn) (hc1 : cn ≤ 100000) {v : Int} (hv : v = X.getD (adr q.P q.T 1 x.pg) 0) (hu : u64 v) (hT : Tab w0) (hroom : 0 < room q.cls v) (h : St w0 w (Are p a gC who true X lv l cn fl ++ clB g q x (.pointer none) :: F)) :
    Calls Tryd.prog 57 #[clP g, .pointer (some ⟨p, 0, none⟩)] w fun e w' => ∃ lv', e = .returned (.bool (Cl.at_ ({ x with alloc := v, got := true, at_ := 9 } : Cl) == 9)) ∧ St w0 w' (Are p a gC who false X lv' (l ++ [⟨who, 1, adr q.P q.T 1 x.pg, 0, 0, X.getD (adr q.P q.T 1 x.pg) 0, X.getD (adr q.P q.T 1 x.pg) 0⟩]) (cn + 1) fl ++ clB g q ({ x with alloc := v, got := true, at_ := 9 } : Cl) (.pointer none) :: F) := by
  have hE := alloc_in hq.hP hq.hT (i := (x.pg : Int)) (by omega) (by omega)
  rw [Int.toNat_natCast] at hE
  have HE := Aside.mk hE
  have hi : adr q.P q.T 1 x.pg < X.length := by rw [hX]; exact adr_lt hq.hP hq.hT hp (by decide)
  generalize adr q.P q.T 1 x.pg = i at HE hi hv ⊢
  have HX := Aside.mk (show X.length ≤ 4096 by have := hq.hP; omega)
  have HL := Aside.mk (show l.length ≤ 1000000 by omega)
  have HC := Aside.mk (show cn ≤ 1000000 by omega)
  have HI := Aside.mk hi
  have H0 := Aside.mk hc0
  have HQ := Aside.mk hq
  have HPG := Aside.mk hp
  have x7 : w.cell? ⟨g, 7, none⟩ = some (.int .i64 x.at_) := (h.pick 4 rfl).cell 7
  rw [hat] at x7
  have H := Aside.mk h
  have HV := Aside.mk hv
  have hload := fun (w : World) (h : St w0 w (Are p a gC who true X lv l cn fl ++ clB g q x (.pointer none) :: F)) => load_ i HI.out HX.out HL.out H0.out HC.out h
  rw [← HV.out] at hload ⊢
  replace hload := Aside.mk hload
  have HRM := Aside.mk (fun (w : World) (L : List HP) (h : St w0 w L) => room_c HQ.out.hc hu (hT.st h))
  obtain ⟨r, hr⟩ : ∃ r, r = room q.cls v := ⟨_, rfl⟩
  rw [← hr] at hroom HRM
  have dr1 : decide (0 < r) = true := by simpa using hroom
  have dr2 : decide ((0 : Int) < (r : Int)) = true := by simpa using hroom
  clear h hE hat hi hX hl hc0 hc1 hv hu hT hroom hr hq hp
  go_enter Tryd.func57, Tryd.ntmps57
  go_wp2_with (first | (go_at_call 76; refine (open_ H.out).mono ?_; rintro e w1 ⟨rfl, rfl⟩))
  clear x7
  replace H := Aside.mk H.out.drew
  refine start_ (n := 15) (S := fun w' => w'.cell? ⟨g, 0, none⟩ = some (.int .i64 ((q.P : Int) + 1)) ∧ w'.cell? ⟨g, 1, none⟩ = some (.int .i64 ((q.T : Int) + 1)) ∧ w'.cell? ⟨g, 2, none⟩ = some (.int .i64 1) ∧ w'.cell? ⟨g, 8, none⟩ = some (.int .i64 (x.pg : Int))) (ds := []) (flg 15 0) (by kernel_rfl) rfl rfl (⟨(H.out.pick 4 rfl).cell 0, (H.out.pick 4 rfl).cell 1, (H.out.pick 4 rfl).cell 2, (H.out.pick 4 rfl).cell 8⟩) (fun hHeld => ?_)
  refine with_tabW cs.tab13 cs.bits13 (fun HT_ HW_ => ?_)
  refine pu_ (v := ?_) (a' := ?_) 0 (some 55) 1 rfl rfl HT_ (by kernel_rfl) (.inl ⟨by rfl, ?_⟩) ?_ ?_; rotate_left 2; (· intro w'; go_simp; with_reducible rfl); (· simp only [nrm]; rfl)
  refine pu_ (v := ?_) (a' := ?_) 1 (some 56) 3 rfl rfl HT_ (by kernel_rfl) (.inl ⟨by rfl, ?_⟩) ?_ ?_; rotate_left 2; (· intro w'; go_simp; with_reducible rfl); (· simp only [nrm]; rfl)
  refine pu_ (v := ?_) (a' := ?_) 2 (some 57) 7 rfl rfl HT_ (by kernel_rfl) (.inl ⟨by rfl, ?_⟩) ?_ ?_; rotate_left 2; (· intro w'; go_simp; with_reducible rfl); (· simp only [nrm]; rfl)
  refine pu_ (v := ?_) (a' := ?_) 3 (some 58) 15 rfl rfl HT_ (by kernel_rfl) (.inl ⟨by rfl, ?_⟩) ?_ ?_; rotate_left 2; (· intro w'; go_simp; with_reducible rfl); (· simp only [nrm]; rfl)
  refine pu_ (v := ?_) (a' := ?_) 4 (some 59) 31 rfl rfl HT_ (by kernel_rfl) (.inl ⟨by rfl, ?_⟩) ?_ ?_; rotate_left 2; (· intro w'; go_simp; with_reducible rfl); (· simp only [nrm]; rfl)
  refine tk_ (v := ?_) (a' := ?_) 5 (some 60) 63 rfl rfl HT_ HW_ (by kernel_rfl) (.inl ⟨by rfl, ?_⟩) hHeld ?_ ?_; rotate_left 2; (· rintro w' ⟨_, _, _, _⟩; go_simp; with_reducible rfl); (· simp only [nrm]; rfl)
  refine pu_ (v := ?_) (a' := ?_) 6 (some 61) 127 rfl rfl HT_ (by kernel_rfl) (.inl ⟨by rfl, ?_⟩) ?_ ?_; rotate_left 2; (· intro w'; go_simp; with_reducible rfl); (· simp only [nrm]; rfl)
  refine pu_ (v := ?_) (a' := ?_) 7 (some 62) 255 rfl rfl HT_ (by kernel_rfl) (.inl ⟨by rfl, ?_⟩) ?_ ?_; rotate_left 2; (· intro w'; go_simp; with_reducible rfl); (· simp only [nrm]; rfl)
  refine pu_ (v := ?_) (a' := ?_) 8 (some 63) 511 rfl rfl HT_ (by kernel_rfl) (.inl ⟨by rfl, ?_⟩) ?_ ?_; rotate_left 2; (· intro w'; go_simp; with_reducible rfl); (· simp only [nrm]; rfl)
  refine tk_ (v := ?_) (a' := ?_) 9 (some 64) 1023 rfl rfl HT_ HW_ (by kernel_rfl) (.inl ⟨by rfl, ?_⟩) hHeld ?_ ?_; rotate_left 2; (· rintro w' ⟨_, _, _, _⟩; go_simp; with_reducible rfl); (· simp only [nrm]; rfl)
  refine on_ 10 (some 65) 2047 rfl rfl HT_ (by kernel_rfl) (by decide) (fun K hK => ?_)
  refine goes_ Tryd.func93 (by kernel_rfl) rfl #[.agg #[.int .i64 ((q.P : Int) + 1), .int .i64 ((q.T : Int) + 1), .int .i64 1], .int .i64 (x.pg : Int)] (by rfl) rfl rfl (by (try simp only [List.map_toArray, List.map_cons, List.map_nil]); first | done | rfl) ?_
  refine (layout_Plan_Alloc.calls _ _ _ _ _ _ HE.out).mono ?_
  rintro e w2 ⟨rfl, hb⟩
  replace H := Aside.mk (H.out.step hb)
  clear hb
  refine ⟨_, rfl, ?_⟩
  refine hK.out _ _ ⟨(H.out.pick 4 rfl).cell 0, (H.out.pick 4 rfl).cell 1, (H.out.pick 4 rfl).cell 2, (H.out.pick 4 rfl).cell 8⟩ (fun hHeld => ?_)
  clear hK K
  refine norm_ (a' := ?_) ?_ ?_
  rotate_left
  · show Act.put _ (some 65) _ = _
    simp only [nrm]
    rfl
  refine on_ 11 (some 66) 4095 rfl rfl HT_ (by kernel_rfl) (by decide) (fun K hK => ?_)
  refine goes_ Tryd.func122 (by kernel_rfl) rfl #[.pointer (some ⟨p, 0, none⟩), .int .i64 i] (by rfl) rfl rfl (by (try simp only [List.map_toArray, List.map_cons, List.map_nil]); first | done | rfl) ?_
  refine (hload.out _ H.out).mono ?_
  rintro e w3 ⟨lv1, rfl, h1⟩
  replace H := Aside.mk h1
  clear h1
  refine ⟨_, rfl, ?_⟩
  refine hK.out _ _ ⟨(H.out.pick 4 rfl).cell 0, (H.out.pick 4 rfl).cell 1, (H.out.pick 4 rfl).cell 2, (H.out.pick 4 rfl).cell 8⟩ (fun hHeld => ?_)
  clear hK K
  refine norm_ (a' := ?_) ?_ ?_
  rotate_left
  · show Act.put _ (some 66) _ = _
    simp only [nrm]
    rfl
  refine pu_ (v := ?_) (a' := ?_) 12 (some 67) 8191 rfl rfl HT_ (by kernel_rfl) (.inl ⟨by rfl, ?_⟩) ?_ ?_; rotate_left 2; (· intro w'; go_simp; with_reducible rfl); (· simp only [nrm]; rfl)
  refine pu_ (v := ?_) (a' := ?_) 13 (some 68) 16383 rfl rfl HT_ (by kernel_rfl) (.inl ⟨by rfl, ?_⟩) ?_ ?_; rotate_left 2; (· intro w'; go_simp; with_reducible rfl); (· simp only [nrm]; rfl)
  refine on_ 14 (none) 32767 rfl rfl HT_ (by kernel_rfl) (by decide) (fun K hK => ?_)
  have k1 := (H.out.pick 4 rfl).cell 16
  have kf := (H.out.pick 4 rfl).frozen 16
  refine skip_ (w1 := ?_) (by rfl) rfl ?_ ?_
  rotate_left
  · go_simp
    rfl
  replace H : Aside (St w0 _ (Are p a gC who false X lv1 (l ++ [⟨who, 1, i, 0, 0, v, v⟩]) (cn + 1) fl ++ clB g q ({ x with alloc := v } : Cl) (.pointer none) :: F)) := Aside.mk (back_ (L := Are p a gC who false X lv1 (l ++ [⟨who, 1, i, 0, 0, v, v⟩]) (cn + 1) fl) (R := F) ((H.out.pick 4 rfl).put 16 (.int .u64 v) rfl))
  clear k1 kf
  refine hK.out _ _ ⟨(H.out.pick 4 rfl).cell 0, (H.out.pick 4 rfl).cell 1, (H.out.pick 4 rfl).cell 2, (H.out.pick 4 rfl).cell 8⟩ (fun hHeld => ?_)
  clear hK K
  refine done_ (done_of HT_.out (by kernel_rfl)) ?_
  clear HT_ HW_ hHeld
  generalize World.setCell _ _ _ = w4_ at H ⊢
  go_wp2_with (with_reducible refine stop_at (.store 3 (.tmp 71) (.const (.int .i64 3))) rfl ?_)
  refine ⟨?_⟩
  refine st_store rfl rfl rfl [.int .i64 3] (Cl.cells q ({ x with alloc := v, at_ := 3 } : Cl) (.pointer none)) rfl rfl rfl (Nat.le_of_ble_eq_true rfl) (by simp [Value.oneCell']) (H.out.pick 4 rfl) rfl ?_
  intro w9 h9
  replace H : Aside (St w0 w9 (Are p a gC who false X lv1 (l ++ [⟨who, 1, i, 0, 0, v, v⟩]) (cn + 1) fl ++ clB g q ({ x with alloc := v, at_ := 3 } : Cl) (.pointer none) :: F)) := Aside.mk (back_ (L := Are p a gC who false X lv1 (l ++ [⟨who, 1, i, 0, 0, v, v⟩]) (cn + 1) fl) (R := F) h9)
  clear h9
  go_wp2_with fail
  replace H := Aside.mk H.out.drew
  refine start_ (n := 10) (S := fun w' => w'.cell? ⟨g, 5, none⟩ = some (.int .i64 q.cls) ∧ w'.cell? ⟨g, 16, none⟩ = some (.int .u64 v)) (ds := []) (flg 10 0) (by kernel_rfl) rfl rfl (⟨(H.out.pick 4 rfl).cell 5, (H.out.pick 4 rfl).cell 16⟩) (fun hHeld => ?_)
  refine with_tabW cs.tab15 cs.bits15 (fun HT_ HW_ => ?_)
  refine pu_ (v := ?_) (a' := ?_) 0 (some 72) 1 rfl rfl HT_ (by kernel_rfl) (.inl ⟨by rfl, ?_⟩) ?_ ?_; rotate_left 2; (· intro w'; go_simp; with_reducible rfl); (· simp only [nrm]; rfl)
  refine pu_ (v := ?_) (a' := ?_) 1 (some 73) 3 rfl rfl HT_ (by kernel_rfl) (.inl ⟨by rfl, ?_⟩) ?_ ?_; rotate_left 2; (· intro w'; go_simp; with_reducible rfl); (· simp only [nrm]; rfl)
  refine pu_ (v := ?_) (a' := ?_) 2 (some 74) 7 rfl rfl HT_ (by kernel_rfl) (.inl ⟨by rfl, ?_⟩) ?_ ?_; rotate_left 2; (· intro w'; go_simp; with_reducible rfl); (· simp only [nrm]; rfl)
  refine tk_ (v := ?_) (a' := ?_) 3 (some 75) 15 rfl rfl HT_ HW_ (by kernel_rfl) (.inl ⟨by rfl, ?_⟩) hHeld ?_ ?_; rotate_left 2; (· rintro w' ⟨_, _⟩; go_simp; with_reducible rfl); (· simp only [nrm]; rfl)
  refine pu_ (v := ?_) (a' := ?_) 4 (some 76) 31 rfl rfl HT_ (by kernel_rfl) (.inl ⟨by rfl, ?_⟩) ?_ ?_; rotate_left 2; (· intro w'; go_simp; with_reducible rfl); (· simp only [nrm]; rfl)
  refine pu_ (v := ?_) (a' := ?_) 5 (some 77) 63 rfl rfl HT_ (by kernel_rfl) (.inl ⟨by rfl, ?_⟩) ?_ ?_; rotate_left 2; (· intro w'; go_simp; with_reducible rfl); (· simp only [nrm]; rfl)
  refine pu_ (v := ?_) (a' := ?_) 6 (some 78) 127 rfl rfl HT_ (by kernel_rfl) (.inl ⟨by rfl, ?_⟩) ?_ ?_; rotate_left 2; (· intro w'; go_simp; with_reducible rfl); (· simp only [nrm]; rfl)
  refine tk_ (v := ?_) (a' := ?_) 7 (some 79) 255 rfl rfl HT_ HW_ (by kernel_rfl) (.inl ⟨by rfl, ?_⟩) hHeld ?_ ?_; rotate_left 2; (· rintro w' ⟨_, _⟩; go_simp; with_reducible rfl); (· simp only [nrm]; rfl)
  refine on_ 8 (some 80) 511 rfl rfl HT_ (by kernel_rfl) (by decide) (fun K hK => ?_)
  refine goes_ Tryd.func123 (by kernel_rfl) rfl #[.int .i64 q.cls, .int .u64 v] (by rfl) rfl rfl (by (try simp only [List.map_toArray, List.map_cons, List.map_nil]); first | done | rfl) ?_
  refine (HRM.out _ _ H.out).mono ?_
  rintro e w6 ⟨rfl, hb⟩
  replace H := Aside.mk (H.out.step hb)
  clear hb
  refine ⟨_, rfl, ?_⟩
  refine hK.out _ _ ⟨(H.out.pick 4 rfl).cell 5, (H.out.pick 4 rfl).cell 16⟩ (fun hHeld => ?_)
  clear hK K
  refine norm_ (a' := ?_) ?_ ?_
  rotate_left
  · show Act.put _ (some 80) _ = _
    simp only [nrm]
    rfl
  refine pu_ (v := ?_) (a' := ?_) 9 (some 81) 1023 rfl rfl HT_ (by kernel_rfl) (.inl ⟨by rfl, ?_⟩) ?_ ?_; rotate_left 2; (· intro w'; go_simp; with_reducible rfl); (· simp only [nrm]; rfl)
  refine done_ (done_of HT_.out (by kernel_rfl)) ?_
  clear HT_ HW_ hHeld
  go_wp2_with (with_reducible refine stop_at (.store 4 (.tmp 85) (.const (.bool true))) rfl ?_)
  refine ⟨?_⟩
  refine st_store rfl rfl rfl [.bool true] (Cl.cells q ({ x with alloc := v, got := true, at_ := 3 } : Cl) (.pointer none)) rfl rfl rfl (Nat.le_of_ble_eq_true rfl) (by simp [Value.oneCell']) (H.out.pick 4 rfl) rfl ?_
  intro w9 h9
  replace H : Aside (St w0 w9 (Are p a gC who false X lv1 (l ++ [⟨who, 1, i, 0, 0, v, v⟩]) (cn + 1) fl ++ clB g q ({ x with alloc := v, got := true, at_ := 3 } : Cl) (.pointer none) :: F)) := Aside.mk (back_ (L := Are p a gC who false X lv1 (l ++ [⟨who, 1, i, 0, 0, v, v⟩]) (cn + 1) fl) (R := F) h9)
  clear h9
  go_wp2_with (with_reducible refine stop_at (.store 3 (.tmp 87) (.const (.int .i64 9))) rfl ?_)
  refine ⟨?_⟩
  refine st_store rfl rfl rfl [.int .i64 9] (Cl.cells q ({ x with alloc := v, got := true, at_ := 9 } : Cl) (.pointer none)) rfl rfl rfl (Nat.le_of_ble_eq_true rfl) (by simp [Value.oneCell']) (H.out.pick 4 rfl) rfl ?_
  intro w8 h9
  replace H : Aside (St w0 w8 (Are p a gC who false X lv1 (l ++ [⟨who, 1, i, 0, 0, v, v⟩]) (cn + 1) fl ++ clB g q ({ x with alloc := v, got := true, at_ := 9 } : Cl) (.pointer none) :: F)) := Aside.mk (back_ (L := Are p a gC who false X lv1 (l ++ [⟨who, 1, i, 0, 0, v, v⟩]) (cn + 1) fl) (R := F) h9)
  clear h9
  have x7 := (H.out.pick 4 rfl).cell 7
  go_wp2
  go_ret
  exact ⟨lv1, rfl, H.out⟩
theorem cst2f (hq : q.Right) (hp : x.pg < q.P + 1) (hat : x.at_ = 2) (hX : X.length = 128 + 64 * q.P) (hl : l.length ≤ 100000) (hc0 : 0 ≤ cn) (hc1 : cn ≤ 100000) {v : Int} (hv : v = X.getD (adr q.P q.T 1 x.pg) 0) (hu : u64 v) (hT : Tab w0) (hroom : ¬ 0 < room q.cls v) (h : St w0 w (Are p a gC who true X lv l cn fl ++ clB g q x (.pointer none) :: F)) :
    Calls Tryd.prog 57 #[clP g, .pointer (some ⟨p, 0, none⟩)] w fun e w' => ∃ lv', e = .returned (.bool (Cl.at_ ({ x with alloc := v, at_ := 3 } : Cl) == 9)) ∧ St w0 w' (Are p a gC who false X lv' (l ++ [⟨who, 1, adr q.P q.T 1 x.pg, 0, 0, X.getD (adr q.P q.T 1 x.pg) 0, X.getD (adr q.P q.T 1 x.pg) 0⟩]) (cn + 1) fl ++ clB g q ({ x with alloc := v, at_ := 3 } : Cl) (.pointer none) :: F) := by
  have hE := alloc_in hq.hP hq.hT (i := (x.pg : Int)) (by omega) (by omega)
  rw [Int.toNat_natCast] at hE
  have HE := Aside.mk hE
  have hi : adr q.P q.T 1 x.pg < X.length := by rw [hX]; exact adr_lt hq.hP hq.hT hp (by decide)
  generalize adr q.P q.T 1 x.pg = i at HE hi hv ⊢
  have HX := Aside.mk (show X.length ≤ 4096 by have := hq.hP; omega)
  have HL := Aside.mk (show l.length ≤ 1000000 by omega)
  have HC := Aside.mk (show cn ≤ 1000000 by omega)
  have HI := Aside.mk hi
  have H0 := Aside.mk hc0
  have HQ := Aside.mk hq
  have HPG := Aside.mk hp
  have x7 : w.cell? ⟨g, 7, none⟩ = some (.int .i64 x.at_) := (h.pick 4 rfl).cell 7
  rw [hat] at x7
  have H := Aside.mk h
  have HV := Aside.mk hv
  have hload := fun (w : World) (h : St w0 w (Are p a gC who true X lv l cn fl ++ clB g q x (.pointer none) :: F)) => load_ i HI.out HX.out HL.out H0.out HC.out h
  rw [← HV.out] at hload ⊢
  replace hload := Aside.mk hload
  have HRM := Aside.mk (fun (w : World) (L : List HP) (h : St w0 w L) => room_c HQ.out.hc hu (hT.st h))
  obtain ⟨r, hr⟩ : ∃ r, r = room q.cls v := ⟨_, rfl⟩
  rw [← hr] at hroom HRM
  have dr1 : decide (0 < r) = false := by simpa using hroom
  have dr2 : decide ((0 : Int) < (r : Int)) = false := by simpa using hroom
  clear h hE hat hi hX hl hc0 hc1 hv hu hT hroom hr hq hp
  go_enter Tryd.func57, Tryd.ntmps57
  go_wp2_with (first | (go_at_call 76; refine (open_ H.out).mono ?_; rintro e w1 ⟨rfl, rfl⟩))
  clear x7
  replace H := Aside.mk H.out.drew
  refine start_ (n := 15) (S := fun w' => w'.cell? ⟨g, 0, none⟩ = some (.int .i64 ((q.P : Int) + 1)) ∧ w'.cell? ⟨g, 1, none⟩ = some (.int .i64 ((q.T : Int) + 1)) ∧ w'.cell? ⟨g, 2, none⟩ = some (.int .i64 1) ∧ w'.cell? ⟨g, 8, none⟩ = some (.int .i64 (x.pg : Int))) (ds := []) (flg 15 0) (by kernel_rfl) rfl rfl (⟨(H.out.pick 4 rfl).cell 0, (H.out.pick 4 rfl).cell 1, (H.out.pick 4 rfl).cell 2, (H.out.pick 4 rfl).cell 8⟩) (fun hHeld => ?_)
  refine with_tabW cs.tab13 cs.bits13 (fun HT_ HW_ => ?_)
  refine pu_ (v := ?_) (a' := ?_) 0 (some 55) 1 rfl rfl HT_ (by kernel_rfl) (.inl ⟨by rfl, ?_⟩) ?_ ?_; rotate_left 2; (· intro w'; go_simp; with_reducible rfl); (· simp only [nrm]; rfl)
  refine pu_ (v := ?_) (a' := ?_) 1 (some 56) 3 rfl rfl HT_ (by kernel_rfl) (.inl ⟨by rfl, ?_⟩) ?_ ?_; rotate_left 2; (· intro w'; go_simp; with_reducible rfl); (· simp only [nrm]; rfl)
  refine pu_ (v := ?_) (a' := ?_) 2 (some 57) 7 rfl rfl HT_ (by kernel_rfl) (.inl ⟨by rfl, ?_⟩) ?_ ?_; rotate_left 2; (· intro w'; go_simp; with_reducible rfl); (· simp only [nrm]; rfl)
  refine pu_ (v := ?_) (a' := ?_) 3 (some 58) 15 rfl rfl HT_ (by kernel_rfl) (.inl ⟨by rfl, ?_⟩) ?_ ?_; rotate_left 2; (· intro w'; go_simp; with_reducible rfl); (· simp only [nrm]; rfl)
  refine pu_ (v := ?_) (a' := ?_) 4 (some 59) 31 rfl rfl HT_ (by kernel_rfl) (.inl ⟨by rfl, ?_⟩) ?_ ?_; rotate_left 2; (· intro w'; go_simp; with_reducible rfl); (· simp only [nrm]; rfl)
  refine tk_ (v := ?_) (a' := ?_) 5 (some 60) 63 rfl rfl HT_ HW_ (by kernel_rfl) (.inl ⟨by rfl, ?_⟩) hHeld ?_ ?_; rotate_left 2; (· rintro w' ⟨_, _, _, _⟩; go_simp; with_reducible rfl); (· simp only [nrm]; rfl)
  refine pu_ (v := ?_) (a' := ?_) 6 (some 61) 127 rfl rfl HT_ (by kernel_rfl) (.inl ⟨by rfl, ?_⟩) ?_ ?_; rotate_left 2; (· intro w'; go_simp; with_reducible rfl); (· simp only [nrm]; rfl)
  refine pu_ (v := ?_) (a' := ?_) 7 (some 62) 255 rfl rfl HT_ (by kernel_rfl) (.inl ⟨by rfl, ?_⟩) ?_ ?_; rotate_left 2; (· intro w'; go_simp; with_reducible rfl); (· simp only [nrm]; rfl)
  refine pu_ (v := ?_) (a' := ?_) 8 (some 63) 511 rfl rfl HT_ (by kernel_rfl) (.inl ⟨by rfl, ?_⟩) ?_ ?_; rotate_left 2; (· intro w'; go_simp; with_reducible rfl); (· simp only [nrm]; rfl)
  refine tk_ (v := ?_) (a' := ?_) 9 (some 64) 1023 rfl rfl HT_ HW_ (by kernel_rfl) (.inl ⟨by rfl, ?_⟩) hHeld ?_ ?_; rotate_left 2; (· rintro w' ⟨_, _, _, _⟩; go_simp; with_reducible rfl); (· simp only [nrm]; rfl)
  refine on_ 10 (some 65) 2047 rfl rfl HT_ (by kernel_rfl) (by decide) (fun K hK => ?_)
  refine goes_ Tryd.func93 (by kernel_rfl) rfl #[.agg #[.int .i64 ((q.P : Int) + 1), .int .i64 ((q.T : Int) + 1), .int .i64 1], .int .i64 (x.pg : Int)] (by rfl) rfl rfl (by (try simp only [List.map_toArray, List.map_cons, List.map_nil]); first | done | rfl) ?_
  refine (layout_Plan_Alloc.calls _ _ _ _ _ _ HE.out).mono ?_
  rintro e w2 ⟨rfl, hb⟩
  replace H := Aside.mk (H.out.step hb)
  clear hb
  refine ⟨_, rfl, ?_⟩
  refine hK.out _ _ ⟨(H.out.pick 4 rfl).cell 0, (H.out.pick 4 rfl).cell 1, (H.out.pick 4 rfl).cell 2, (H.out.pick 4 rfl).cell 8⟩ (fun hHeld => ?_)
  clear hK K
  refine norm_ (a' := ?_) ?_ ?_
  rotate_left
  · show Act.put _ (some 65) _ = _
    simp only [nrm]
    rfl
  refine on_ 11 (some 66) 4095 rfl rfl HT_ (by kernel_rfl) (by decide) (fun K hK => ?_)
  refine goes_ Tryd.func122 (by kernel_rfl) rfl #[.pointer (some ⟨p, 0, none⟩), .int .i64 i] (by rfl) rfl rfl (by (try simp only [List.map_toArray, List.map_cons, List.map_nil]); first | done | rfl) ?_
  refine (hload.out _ H.out).mono ?_
  rintro e w3 ⟨lv1, rfl, h1⟩
  replace H := Aside.mk h1
  clear h1
  refine ⟨_, rfl, ?_⟩
  refine hK.out _ _ ⟨(H.out.pick 4 rfl).cell 0, (H.out.pick 4 rfl).cell 1, (H.out.pick 4 rfl).cell 2, (H.out.pick 4 rfl).cell 8⟩ (fun hHeld => ?_)
  clear hK K
  refine norm_ (a' := ?_) ?_ ?_
  rotate_left
  · show Act.put _ (some 66) _ = _
    simp only [nrm]
    rfl
  refine pu_ (v := ?_) (a' := ?_) 12 (some 67) 8191 rfl rfl HT_ (by kernel_rfl) (.inl ⟨by rfl, ?_⟩) ?_ ?_; rotate_left 2; (· intro w'; go_simp; with_reducible rfl); (· simp only [nrm]; rfl)
  refine pu_ (v := ?_) (a' := ?_) 13 (some 68) 16383 rfl rfl HT_ (by kernel_rfl) (.inl ⟨by rfl, ?_⟩) ?_ ?_; rotate_left 2; (· intro w'; go_simp; with_reducible rfl); (· simp only [nrm]; rfl)
  refine on_ 14 (none) 32767 rfl rfl HT_ (by kernel_rfl) (by decide) (fun K hK => ?_)
  have k1 := (H.out.pick 4 rfl).cell 16
  have kf := (H.out.pick 4 rfl).frozen 16
  refine skip_ (w1 := ?_) (by rfl) rfl ?_ ?_
  rotate_left
  · go_simp
    rfl
  replace H : Aside (St w0 _ (Are p a gC who false X lv1 (l ++ [⟨who, 1, i, 0, 0, v, v⟩]) (cn + 1) fl ++ clB g q ({ x with alloc := v } : Cl) (.pointer none) :: F)) := Aside.mk (back_ (L := Are p a gC who false X lv1 (l ++ [⟨who, 1, i, 0, 0, v, v⟩]) (cn + 1) fl) (R := F) ((H.out.pick 4 rfl).put 16 (.int .u64 v) rfl))
  clear k1 kf
  refine hK.out _ _ ⟨(H.out.pick 4 rfl).cell 0, (H.out.pick 4 rfl).cell 1, (H.out.pick 4 rfl).cell 2, (H.out.pick 4 rfl).cell 8⟩ (fun hHeld => ?_)
  clear hK K
  refine done_ (done_of HT_.out (by kernel_rfl)) ?_
  clear HT_ HW_ hHeld
  generalize World.setCell _ _ _ = w4_ at H ⊢
  go_wp2_with (with_reducible refine stop_at (.store 3 (.tmp 71) (.const (.int .i64 3))) rfl ?_)
  refine ⟨?_⟩
  refine st_store rfl rfl rfl [.int .i64 3] (Cl.cells q ({ x with alloc := v, at_ := 3 } : Cl) (.pointer none)) rfl rfl rfl (Nat.le_of_ble_eq_true rfl) (by simp [Value.oneCell']) (H.out.pick 4 rfl) rfl ?_
  intro w9 h9
  replace H : Aside (St w0 w9 (Are p a gC who false X lv1 (l ++ [⟨who, 1, i, 0, 0, v, v⟩]) (cn + 1) fl ++ clB g q ({ x with alloc := v, at_ := 3 } : Cl) (.pointer none) :: F)) := Aside.mk (back_ (L := Are p a gC who false X lv1 (l ++ [⟨who, 1, i, 0, 0, v, v⟩]) (cn + 1) fl) (R := F) h9)
  clear h9
  go_wp2_with fail
  replace H := Aside.mk H.out.drew
  refine start_ (n := 10) (S := fun w' => w'.cell? ⟨g, 5, none⟩ = some (.int .i64 q.cls) ∧ w'.cell? ⟨g, 16, none⟩ = some (.int .u64 v)) (ds := []) (flg 10 0) (by kernel_rfl) rfl rfl (⟨(H.out.pick 4 rfl).cell 5, (H.out.pick 4 rfl).cell 16⟩) (fun hHeld => ?_)
  refine with_tabW cs.tab15 cs.bits15 (fun HT_ HW_ => ?_)
  refine pu_ (v := ?_) (a' := ?_) 0 (some 72) 1 rfl rfl HT_ (by kernel_rfl) (.inl ⟨by rfl, ?_⟩) ?_ ?_; rotate_left 2; (· intro w'; go_simp; with_reducible rfl); (· simp only [nrm]; rfl)
  refine pu_ (v := ?_) (a' := ?_) 1 (some 73) 3 rfl rfl HT_ (by kernel_rfl) (.inl ⟨by rfl, ?_⟩) ?_ ?_; rotate_left 2; (· intro w'; go_simp; with_reducible rfl); (· simp only [nrm]; rfl)
  refine pu_ (v := ?_) (a' := ?_) 2 (some 74) 7 rfl rfl HT_ (by kernel_rfl) (.inl ⟨by rfl, ?_⟩) ?_ ?_; rotate_left 2; (· intro w'; go_simp; with_reducible rfl); (· simp only [nrm]; rfl)
  refine tk_ (v := ?_) (a' := ?_) 3 (some 75) 15 rfl rfl HT_ HW_ (by kernel_rfl) (.inl ⟨by rfl, ?_⟩) hHeld ?_ ?_; rotate_left 2; (· rintro w' ⟨_, _⟩; go_simp; with_reducible rfl); (· simp only [nrm]; rfl)
  refine pu_ (v := ?_) (a' := ?_) 4 (some 76) 31 rfl rfl HT_ (by kernel_rfl) (.inl ⟨by rfl, ?_⟩) ?_ ?_; rotate_left 2; (· intro w'; go_simp; with_reducible rfl); (· simp only [nrm]; rfl)
  refine pu_ (v := ?_) (a' := ?_) 5 (some 77) 63 rfl rfl HT_ (by kernel_rfl) (.inl ⟨by rfl, ?_⟩) ?_ ?_; rotate_left 2; (· intro w'; go_simp; with_reducible rfl); (· simp only [nrm]; rfl)
  refine pu_ (v := ?_) (a' := ?_) 6 (some 78) 127 rfl rfl HT_ (by kernel_rfl) (.inl ⟨by rfl, ?_⟩) ?_ ?_; rotate_left 2; (· intro w'; go_simp; with_reducible rfl); (· simp only [nrm]; rfl)
  refine tk_ (v := ?_) (a' := ?_) 7 (some 79) 255 rfl rfl HT_ HW_ (by kernel_rfl) (.inl ⟨by rfl, ?_⟩) hHeld ?_ ?_; rotate_left 2; (· rintro w' ⟨_, _⟩; go_simp; with_reducible rfl); (· simp only [nrm]; rfl)
  refine on_ 8 (some 80) 511 rfl rfl HT_ (by kernel_rfl) (by decide) (fun K hK => ?_)
  refine goes_ Tryd.func123 (by kernel_rfl) rfl #[.int .i64 q.cls, .int .u64 v] (by rfl) rfl rfl (by (try simp only [List.map_toArray, List.map_cons, List.map_nil]); first | done | rfl) ?_
  refine (HRM.out _ _ H.out).mono ?_
  rintro e w6 ⟨rfl, hb⟩
  replace H := Aside.mk (H.out.step hb)
  clear hb
  refine ⟨_, rfl, ?_⟩
  refine hK.out _ _ ⟨(H.out.pick 4 rfl).cell 5, (H.out.pick 4 rfl).cell 16⟩ (fun hHeld => ?_)
  clear hK K
  refine norm_ (a' := ?_) ?_ ?_
  rotate_left
  · show Act.put _ (some 80) _ = _
    simp only [nrm]
    rfl
  refine pu_ (v := ?_) (a' := ?_) 9 (some 81) 1023 rfl rfl HT_ (by kernel_rfl) (.inl ⟨by rfl, ?_⟩) ?_ ?_; rotate_left 2; (· intro w'; go_simp; with_reducible rfl); (· simp only [nrm]; rfl)
  refine done_ (done_of HT_.out (by kernel_rfl)) ?_
  clear HT_ HW_ hHeld
  have x7 := (H.out.pick 4 rfl).cell 7
  go_wp2
  go_ret
  exact ⟨lv1, rfl, H.out⟩
theorem cst3 (hq : q.Right) (hp : x.pg < q.P + 1) (hat : x.at_ = 3) (hX : X.length = 128 + 64 * q.P) (hl : l.length ≤ 100000) (hc0 : 0 ≤ cn) (hc1 : cn ≤ 100000) (he : isE x.k x.c x.st x.o x.y = true) (hk : x.k = 1) (hr : x.rd = 0 ∨ x.rd = 1 ∨ x.rd = 2) (h : St w0 w (Are p a gC who true X lv l cn fl ++ clB g q x (.pointer none) :: F)) :
    Calls Tryd.prog 57 #[clP g, .pointer (some ⟨p, 0, none⟩)] w fun e w' => ∃ lv', e = .returned (.bool (Cl.at_ (x.next q) == 9)) ∧ St w0 w' (Are p a gC who false (X.set (adr q.P q.T 0 x.pg) (wordOf x.k x.c 0 0 q.cyc)) lv' (l ++ [⟨who, 2, adr q.P q.T 0 x.pg, 0, (wordOf x.k x.c 0 0 q.cyc), X.getD (adr q.P q.T 0 x.pg) 0, (wordOf x.k x.c 0 0 q.cyc)⟩]) (cn + 1) fl ++ clB g q (x.next q) (.pointer none) :: F) := by
  have hE := entry_in hq.hP hq.hT (i := (x.pg : Int)) (by omega) (by omega)
  rw [Int.toNat_natCast] at hE
  have HE := Aside.mk hE
  have hi : adr q.P q.T 0 x.pg < X.length := by rw [hX]; exact adr_lt hq.hP hq.hT hp (by decide)
  generalize adr q.P q.T 0 x.pg = i at HE hi ⊢
  have HX := Aside.mk (show X.length ≤ 4096 by have := hq.hP; omega)
  have HL := Aside.mk (show l.length ≤ 1000000 by omega)
  have HC := Aside.mk (show cn ≤ 1000000 by omega)
  have HI := Aside.mk hi
  have H0 := Aside.mk hc0
  have HQ := Aside.mk hq
  have HPG := Aside.mk hp
  have x7 : w.cell? ⟨g, 7, none⟩ = some (.int .i64 x.at_) := (h.pick 4 rfl).cell 7
  rw [hat] at x7
  have H := Aside.mk h
  have hb : isE x.k x.c 0 0 q.cyc = true := isE_given he (.inl hk) hq.hy
  have HGV := Aside.mk (fun w => given_c he (.inl hk) hb w)
  have HCD := Aside.mk (fun w => coded_w hb w)
  have HN := Aside.mk (fun (F' : List HP) (w1 : World) (h1 : St w0 w1 (clB g q x (.pointer none) :: F')) => clnext_ (x := x) HPG.out HQ.out.hP hr h1)
  have hst := Aside.mk (fun (F9 : List HP) (w : World) (h : St w0 w (Are p a gC who true X lv l cn fl ++ clB g q x (.pointer none) :: F9)) => store_ i (wordOf x.k x.c 0 0 q.cyc) HI.out HX.out HL.out H0.out HC.out h)
  clear h hE hat hi hX hl hc0 hc1 he hk hb hq hp hr
  go_enter Tryd.func57, Tryd.ntmps57
  go_wp2_with (first | (go_at_call 76; refine (open_ H.out).mono ?_; rintro e w1 ⟨rfl, rfl⟩))
  clear x7
  replace H := Aside.mk H.out.drew
  refine start_ (n := 15) (S := fun w' => w'.cell? ⟨g, 4, none⟩ = some (.int .i64 q.cyc) ∧ w'.cell? ⟨g, 10, none⟩ = some (.int .i64 x.k) ∧ w'.cell? ⟨g, 11, none⟩ = some (.int .i64 x.c) ∧ w'.cell? ⟨g, 12, none⟩ = some (.int .i64 x.st) ∧ w'.cell? ⟨g, 13, none⟩ = some (.int .i64 x.o) ∧ w'.cell? ⟨g, 14, none⟩ = some (.int .i64 x.y)) (ds := []) (flg 15 0) (by kernel_rfl) rfl rfl (⟨(H.out.pick 4 rfl).cell 4, (H.out.pick 4 rfl).cell 10, (H.out.pick 4 rfl).cell 11, (H.out.pick 4 rfl).cell 12, (H.out.pick 4 rfl).cell 13, (H.out.pick 4 rfl).cell 14⟩) (fun hHeld => ?_)
  refine with_tabW cs.tab18 cs.bits18 (fun HT_ HW_ => ?_)
  refine pu_ (v := ?_) (a' := ?_) 0 (some 91) 1 rfl rfl HT_ (by kernel_rfl) (.inl ⟨by rfl, ?_⟩) ?_ ?_; rotate_left 2; (· intro w'; go_simp; with_reducible rfl); (· simp only [nrm]; rfl)
  refine pu_ (v := ?_) (a' := ?_) 1 (some 92) 3 rfl rfl HT_ (by kernel_rfl) (.inl ⟨by rfl, ?_⟩) ?_ ?_; rotate_left 2; (· intro w'; go_simp; with_reducible rfl); (· simp only [nrm]; rfl)
  refine pu_ (v := ?_) (a' := ?_) 2 (some 93) 7 rfl rfl HT_ (by kernel_rfl) (.inl ⟨by rfl, ?_⟩) ?_ ?_; rotate_left 2; (· intro w'; go_simp; with_reducible rfl); (· simp only [nrm]; rfl)
  refine tk_ (v := ?_) (a' := ?_) 3 (some 94) 15 rfl rfl HT_ HW_ (by kernel_rfl) (.inl ⟨by rfl, ?_⟩) hHeld ?_ ?_; rotate_left 2; (· rintro w' ⟨_, _, _, _, _, _⟩; go_simp; with_reducible rfl); (· simp only [nrm]; rfl)
  refine pu_ (v := ?_) (a' := ?_) 4 (some 95) 31 rfl rfl HT_ (by kernel_rfl) (.inl ⟨by rfl, ?_⟩) ?_ ?_; rotate_left 2; (· intro w'; go_simp; with_reducible rfl); (· simp only [nrm]; rfl)
  refine pu_ (v := ?_) (a' := ?_) 5 (some 96) 63 rfl rfl HT_ (by kernel_rfl) (.inl ⟨by rfl, ?_⟩) ?_ ?_; rotate_left 2; (· intro w'; go_simp; with_reducible rfl); (· simp only [nrm]; rfl)
  refine pu_ (v := ?_) (a' := ?_) 6 (some 97) 127 rfl rfl HT_ (by kernel_rfl) (.inl ⟨by rfl, ?_⟩) ?_ ?_; rotate_left 2; (· intro w'; go_simp; with_reducible rfl); (· simp only [nrm]; rfl)
  refine tk_ (v := ?_) (a' := ?_) 7 (some 98) 255 rfl rfl HT_ HW_ (by kernel_rfl) (.inl ⟨by rfl, ?_⟩) hHeld ?_ ?_; rotate_left 2; (· rintro w' ⟨_, _, _, _, _, _⟩; go_simp; with_reducible rfl); (· simp only [nrm]; rfl)
  refine join_ (σ := Nat) 2 (flg 15 8191) (fun g_ => [(99, .tuple #[.agg #[.int .i64 x.k, .int .i64 x.c, .int .i64 0, .int .i64 0, .int .i64 q.cyc], .int .i64 0]), (90, .tuple #[.agg #[.int .i64 x.k, .int .i64 x.c, .int .i64 0, .int .i64 0, .int .i64 q.cyc], .int .i64 0]), (100, .agg #[.int .i64 x.k, .int .i64 x.c, .int .i64 0, .int .i64 0, .int .i64 q.cyc]), (101, .int .i64 0), (5, .pointer (some ⟨g_, 0, none⟩))]) (fun g_ w' => (w'.cell? ⟨g, 4, none⟩ = some (.int .i64 q.cyc) ∧ w'.cell? ⟨g, 10, none⟩ = some (.int .i64 x.k) ∧ w'.cell? ⟨g, 11, none⟩ = some (.int .i64 x.c) ∧ w'.cell? ⟨g, 12, none⟩ = some (.int .i64 x.st) ∧ w'.cell? ⟨g, 13, none⟩ = some (.int .i64 x.o) ∧ w'.cell? ⟨g, 14, none⟩ = some (.int .i64 x.y)) ∧ St w0 w' (blk g_ #[.int .i64 0, .int .i64 0, .int .i64 0, .int .i64 0, .int .i64 0] 168 :: (Are p a gC who true X lv l cn fl ++ clB g q x (.pointer none) :: F))) ?_ ?_
  rotate_left
  · intro hjoin
    simp only [putAll, nrm] at hjoin
    refine two_ (i := 8) (j := 12) (Ni := some 99) (Nj := some 5) (flg 15 511) (flg 15 4351) rfl rfl rfl rfl (two_of HT_.out (by kernel_rfl)) (by decide) (by decide) (fun K hK => ?_) (fun K hK => ?_)
    · refine goes_ Tryd.func124 (by kernel_rfl) rfl #[.agg #[.int .i64 x.k, .int .i64 x.c, .int .i64 x.st, .int .i64 x.o, .int .i64 x.y], .int .i64 q.cyc] (by rfl) rfl rfl (by (try simp only [List.map_toArray, List.map_cons, List.map_nil]); first | done | rfl) ?_
      refine (HGV.out _).mono ?_
      rintro e w2 ⟨rfl, hb⟩
      replace H := Aside.mk (H.out.step hb)
      clear hb
      refine ⟨_, rfl, ?_⟩
      refine hK.out _ _ ⟨(H.out.pick 4 rfl).cell 4, (H.out.pick 4 rfl).cell 10, (H.out.pick 4 rfl).cell 11, (H.out.pick 4 rfl).cell 12, (H.out.pick 4 rfl).cell 13, (H.out.pick 4 rfl).cell 14⟩ (fun hHeld => ?_)
      clear hK K
      refine norm_ (a' := ?_) ?_ ?_
      rotate_left
      · show Act.put _ (some 99) _ = _
        simp only [nrm]
        rfl
      refine pu_ (v := ?_) (a' := ?_) 9 (some 90) 1023 rfl rfl HT_ (by kernel_rfl) (.inl ⟨by rfl, ?_⟩) ?_ ?_; rotate_left 2; (· intro w'; go_simp; with_reducible rfl); (· simp only [nrm]; rfl)
      refine pu_ (v := ?_) (a' := ?_) 10 (some 100) 2047 rfl rfl HT_ (by kernel_rfl) (.inl ⟨by rfl, ?_⟩) ?_ ?_; rotate_left 2; (· intro w'; go_simp; with_reducible rfl); (· simp only [nrm]; rfl)
      refine pu_ (v := ?_) (a' := ?_) 11 (some 101) 4095 rfl rfl HT_ (by kernel_rfl) (.inl ⟨by rfl, ?_⟩) ?_ ?_; rotate_left 2; (· intro w'; go_simp; with_reducible rfl); (· simp only [nrm]; rfl)
      refine on_ 12 (some 5) 8191 rfl rfl HT_ (by kernel_rfl) (by decide) (fun K hK => ?_)
      refine value_ (w1 := ?_) (v := ?_) (by rfl) rfl ?_ ?_
      rotate_left 2
      · go_simp
        constructor
        · rfl
        · rfl
      replace H := Aside.mk (H.out.alloc #[.int .i64 0, .int .i64 0, .int .i64 0, .int .i64 0, .int .i64 0] 168)
      refine hK.out _ _ ⟨(H.out.pick 5 rfl).cell 4, (H.out.pick 5 rfl).cell 10, (H.out.pick 5 rfl).cell 11, (H.out.pick 5 rfl).cell 12, (H.out.pick 5 rfl).cell 13, (H.out.pick 5 rfl).cell 14⟩ (fun hHeld => ?_)
      clear hK K
      refine norm_ (a' := ?_) ?_ ?_
      rotate_left
      · show Act.put _ (some 5) _ = _
        simp only [nrm]
        rfl
      exact hjoin _ _ ⟨hHeld, H.out⟩
    · refine value_ (w1 := ?_) (v := ?_) (by rfl) rfl ?_ ?_
      rotate_left 2
      · go_simp
        constructor
        · rfl
        · rfl
      replace H := Aside.mk (H.out.alloc #[.int .i64 0, .int .i64 0, .int .i64 0, .int .i64 0, .int .i64 0] 168)
      refine hK.out _ _ ⟨(H.out.pick 5 rfl).cell 4, (H.out.pick 5 rfl).cell 10, (H.out.pick 5 rfl).cell 11, (H.out.pick 5 rfl).cell 12, (H.out.pick 5 rfl).cell 13, (H.out.pick 5 rfl).cell 14⟩ (fun hHeld => ?_)
      clear hK K
      refine norm_ (a' := ?_) ?_ ?_
      rotate_left
      · show Act.put _ (some 5) _ = _
        simp only [nrm]
        rfl
      refine on_ 8 (some 99) 4607 rfl rfl HT_ (by kernel_rfl) (by decide) (fun K hK => ?_)
      refine goes_ Tryd.func124 (by kernel_rfl) rfl #[.agg #[.int .i64 x.k, .int .i64 x.c, .int .i64 x.st, .int .i64 x.o, .int .i64 x.y], .int .i64 q.cyc] (by rfl) rfl rfl (by (try simp only [List.map_toArray, List.map_cons, List.map_nil]); first | done | rfl) ?_
      refine (HGV.out _).mono ?_
      rintro e w2 ⟨rfl, hb⟩
      replace H := Aside.mk (H.out.step hb)
      clear hb
      refine ⟨_, rfl, ?_⟩
      refine hK.out _ _ ⟨(H.out.pick 5 rfl).cell 4, (H.out.pick 5 rfl).cell 10, (H.out.pick 5 rfl).cell 11, (H.out.pick 5 rfl).cell 12, (H.out.pick 5 rfl).cell 13, (H.out.pick 5 rfl).cell 14⟩ (fun hHeld => ?_)
      clear hK K
      refine norm_ (a' := ?_) ?_ ?_
      rotate_left
      · show Act.put _ (some 99) _ = _
        simp only [nrm]
        rfl
      refine pu_ (v := ?_) (a' := ?_) 9 (some 90) 5119 rfl rfl HT_ (by kernel_rfl) (.inl ⟨by rfl, ?_⟩) ?_ ?_; rotate_left 2; (· intro w'; go_simp; with_reducible rfl); (· simp only [nrm]; rfl)
      refine pu_ (v := ?_) (a' := ?_) 10 (some 100) 6143 rfl rfl HT_ (by kernel_rfl) (.inl ⟨by rfl, ?_⟩) ?_ ?_; rotate_left 2; (· intro w'; go_simp; with_reducible rfl); (· simp only [nrm]; rfl)
      refine pu_ (v := ?_) (a' := ?_) 11 (some 101) 8191 rfl rfl HT_ (by kernel_rfl) (.inl ⟨by rfl, ?_⟩) ?_ ?_; rotate_left 2; (· intro w'; go_simp; with_reducible rfl); (· simp only [nrm]; rfl)
      exact hjoin _ _ ⟨hHeld, H.out⟩
  rintro g_ w4 ⟨hHeld, hst⟩
  replace H := Aside.mk hst
  clear hst
  refine norm_ (a' := ?_) ?_ ?_
  rotate_left
  · simp only [putAll, nrm]
    rfl
  refine on_ 13 (none) 16383 rfl rfl HT_ (by kernel_rfl) (by decide) (fun K hK => ?_)
  refine skip_ (by rfl) rfl (st_run_store (seg := [.int .i64 x.k, .int .i64 x.c, .int .i64 0, .int .i64 0, .int .i64 q.cyc]) rfl rfl rfl rfl (Nat.le_of_ble_eq_true rfl) (by simp [Value.oneCell']) H.out) ?_
  have h8 := H.out.setCells 0 [.int .i64 x.k, .int .i64 x.c, .int .i64 0, .int .i64 0, .int .i64 q.cyc] (Nat.le_of_ble_eq_true rfl)
  generalize World.setCells _ _ _ _ = w5 at h8 ⊢
  replace H : Aside (St w0 w5 (blk g_ #[.int .i64 x.k, .int .i64 x.c, .int .i64 0, .int .i64 0, .int .i64 q.cyc] 168 :: (Are p a gC who true X lv l cn fl ++ clB g q x (.pointer none) :: F))) := Aside.mk h8
  clear h8
  refine hK.out _ _ ⟨(H.out.pick 5 rfl).cell 4, (H.out.pick 5 rfl).cell 10, (H.out.pick 5 rfl).cell 11, (H.out.pick 5 rfl).cell 12, (H.out.pick 5 rfl).cell 13, (H.out.pick 5 rfl).cell 14⟩ (fun hHeld => ?_)
  clear hK K
  refine pu_ (v := ?_) (a' := ?_) 14 (some 6) 32767 rfl rfl HT_ (by kernel_rfl) (.inl ⟨by rfl, ?_⟩) ?_ ?_; rotate_left 2; (· intro w'; go_simp; with_reducible rfl); (· simp only [nrm]; rfl)
  refine done_ (done_of HT_.out (by kernel_rfl)) ?_
  clear HT_ HW_ hHeld
  replace H : Aside (St w0 w5 (Are p a gC who true X lv l cn fl ++ clB g q x (.pointer none) :: blk g_ #[.int .i64 x.k, .int .i64 x.c, .int .i64 0, .int .i64 0, .int .i64 q.cyc] 168 :: F)) := Aside.mk (H.out.order 6 [1, 2, 3, 4, 5, 0] rfl rfl)
  go_wp2_with fail
  replace H := Aside.mk H.out.drew
  refine start_ (n := 13) (S := fun w' => w'.cell? ⟨g, 0, none⟩ = some (.int .i64 ((q.P : Int) + 1)) ∧ w'.cell? ⟨g, 1, none⟩ = some (.int .i64 ((q.T : Int) + 1)) ∧ w'.cell? ⟨g, 2, none⟩ = some (.int .i64 1) ∧ w'.cell? ⟨g, 8, none⟩ = some (.int .i64 (x.pg : Int)) ∧ w'.cell? ⟨g_, 0, none⟩ = some (.int .i64 x.k) ∧ w'.cell? ⟨g_, 1, none⟩ = some (.int .i64 x.c) ∧ w'.cell? ⟨g_, 2, none⟩ = some (.int .i64 0) ∧ w'.cell? ⟨g_, 3, none⟩ = some (.int .i64 0) ∧ w'.cell? ⟨g_, 4, none⟩ = some (.int .i64 q.cyc)) (ds := []) (flg 13 0) (by kernel_rfl) rfl rfl (⟨(H.out.pick 4 rfl).cell 0, (H.out.pick 4 rfl).cell 1, (H.out.pick 4 rfl).cell 2, (H.out.pick 4 rfl).cell 8, (H.out.pick 5 rfl).cell 0, (H.out.pick 5 rfl).cell 1, (H.out.pick 5 rfl).cell 2, (H.out.pick 5 rfl).cell 3, (H.out.pick 5 rfl).cell 4⟩) (fun hHeld => ?_)
  refine with_tabW cs.tab19 cs.bits19 (fun HT_ HW_ => ?_)
  refine pu_ (v := ?_) (a' := ?_) 0 (some 102) 1 rfl rfl HT_ (by kernel_rfl) (.inl ⟨by rfl, ?_⟩) ?_ ?_; rotate_left 2; (· intro w'; go_simp; with_reducible rfl); (· simp only [nrm]; rfl)
  refine pu_ (v := ?_) (a' := ?_) 1 (some 103) 3 rfl rfl HT_ (by kernel_rfl) (.inl ⟨by rfl, ?_⟩) ?_ ?_; rotate_left 2; (· intro w'; go_simp; with_reducible rfl); (· simp only [nrm]; rfl)
  refine pu_ (v := ?_) (a' := ?_) 2 (some 104) 7 rfl rfl HT_ (by kernel_rfl) (.inl ⟨by rfl, ?_⟩) ?_ ?_; rotate_left 2; (· intro w'; go_simp; with_reducible rfl); (· simp only [nrm]; rfl)
  refine pu_ (v := ?_) (a' := ?_) 3 (some 105) 15 rfl rfl HT_ (by kernel_rfl) (.inl ⟨by rfl, ?_⟩) ?_ ?_; rotate_left 2; (· intro w'; go_simp; with_reducible rfl); (· simp only [nrm]; rfl)
  refine tk_ (v := ?_) (a' := ?_) 4 (some 106) 31 rfl rfl HT_ HW_ (by kernel_rfl) (.inl ⟨by rfl, ?_⟩) hHeld ?_ ?_; rotate_left 2; (· rintro w' ⟨_, _, _, _, _, _, _, _, _⟩; go_simp; with_reducible rfl); (· simp only [nrm]; rfl)
  refine pu_ (v := ?_) (a' := ?_) 5 (some 107) 63 rfl rfl HT_ (by kernel_rfl) (.inl ⟨by rfl, ?_⟩) ?_ ?_; rotate_left 2; (· intro w'; go_simp; with_reducible rfl); (· simp only [nrm]; rfl)
  refine pu_ (v := ?_) (a' := ?_) 6 (some 108) 127 rfl rfl HT_ (by kernel_rfl) (.inl ⟨by rfl, ?_⟩) ?_ ?_; rotate_left 2; (· intro w'; go_simp; with_reducible rfl); (· simp only [nrm]; rfl)
  refine pu_ (v := ?_) (a' := ?_) 7 (some 109) 255 rfl rfl HT_ (by kernel_rfl) (.inl ⟨by rfl, ?_⟩) ?_ ?_; rotate_left 2; (· intro w'; go_simp; with_reducible rfl); (· simp only [nrm]; rfl)
  refine tk_ (v := ?_) (a' := ?_) 8 (some 110) 511 rfl rfl HT_ HW_ (by kernel_rfl) (.inl ⟨by rfl, ?_⟩) hHeld ?_ ?_; rotate_left 2; (· rintro w' ⟨_, _, _, _, _, _, _, _, _⟩; go_simp; with_reducible rfl); (· simp only [nrm]; rfl)
  refine tk_ (v := ?_) (a' := ?_) 10 (some 112) 1535 rfl rfl HT_ HW_ (by kernel_rfl) (.inl ⟨by rfl, ?_⟩) hHeld ?_ ?_; rotate_left 2; (· rintro w' ⟨_, _, _, _, _, _, _, _, _⟩; go_simp; with_reducible rfl); (· simp only [nrm]; rfl)
  refine on_ 9 (some 111) 2047 rfl rfl HT_ (by kernel_rfl) (by decide) (fun K hK => ?_)
  refine goes_ Tryd.func85 (by kernel_rfl) rfl #[.agg #[.int .i64 ((q.P : Int) + 1), .int .i64 ((q.T : Int) + 1), .int .i64 1], .int .i64 (x.pg : Int)] (by rfl) rfl rfl (by (try simp only [List.map_toArray, List.map_cons, List.map_nil]); first | done | rfl) ?_
  refine (layout_Plan_Entry.calls _ _ _ _ _ _ HE.out).mono ?_
  rintro e w6 ⟨rfl, hb⟩
  replace H := Aside.mk (H.out.step hb)
  clear hb
  refine ⟨_, rfl, ?_⟩
  refine hK.out _ _ ⟨(H.out.pick 4 rfl).cell 0, (H.out.pick 4 rfl).cell 1, (H.out.pick 4 rfl).cell 2, (H.out.pick 4 rfl).cell 8, (H.out.pick 5 rfl).cell 0, (H.out.pick 5 rfl).cell 1, (H.out.pick 5 rfl).cell 2, (H.out.pick 5 rfl).cell 3, (H.out.pick 5 rfl).cell 4⟩ (fun hHeld => ?_)
  clear hK K
  refine norm_ (a' := ?_) ?_ ?_
  rotate_left
  · show Act.put _ (some 111) _ = _
    simp only [nrm]
    rfl
  refine on_ 11 (some 113) 4095 rfl rfl HT_ (by kernel_rfl) (by decide) (fun K hK => ?_)
  refine goes_ Tryd.func125 (by kernel_rfl) rfl #[.agg #[.int .i64 x.k, .int .i64 x.c, .int .i64 0, .int .i64 0, .int .i64 q.cyc]] (by rfl) rfl rfl (by (try simp only [List.map_toArray, List.map_cons, List.map_nil]); first | done | rfl) ?_
  refine (HCD.out _).mono ?_
  rintro e w7 ⟨rfl, hb⟩
  replace H := Aside.mk (H.out.step hb)
  clear hb
  refine ⟨_, rfl, ?_⟩
  refine hK.out _ _ ⟨(H.out.pick 4 rfl).cell 0, (H.out.pick 4 rfl).cell 1, (H.out.pick 4 rfl).cell 2, (H.out.pick 4 rfl).cell 8, (H.out.pick 5 rfl).cell 0, (H.out.pick 5 rfl).cell 1, (H.out.pick 5 rfl).cell 2, (H.out.pick 5 rfl).cell 3, (H.out.pick 5 rfl).cell 4⟩ (fun hHeld => ?_)
  clear hK K
  refine norm_ (a' := ?_) ?_ ?_
  rotate_left
  · show Act.put _ (some 113) _ = _
    simp only [nrm]
    rfl
  refine on_ 12 (some 114) 8191 rfl rfl HT_ (by kernel_rfl) (by decide) (fun K hK => ?_)
  refine goes_ Tryd.func77 (by kernel_rfl) rfl #[.pointer (some ⟨p, 0, none⟩), .int .i64 i, .int .u64 (wordOf x.k x.c 0 0 q.cyc)] (by rfl) rfl rfl (by (try simp only [List.map_toArray, List.map_cons, List.map_nil]); first | done | rfl) ?_
  refine (hst.out _ _ H.out).mono ?_
  rintro e w8 ⟨lv1, rfl, h1⟩
  replace H := Aside.mk h1
  clear h1
  refine ⟨_, rfl, ?_⟩
  refine hK.out _ _ ⟨(H.out.pick 4 rfl).cell 0, (H.out.pick 4 rfl).cell 1, (H.out.pick 4 rfl).cell 2, (H.out.pick 4 rfl).cell 8, (H.out.pick 5 rfl).cell 0, (H.out.pick 5 rfl).cell 1, (H.out.pick 5 rfl).cell 2, (H.out.pick 5 rfl).cell 3, (H.out.pick 5 rfl).cell 4⟩ (fun hHeld => ?_)
  clear hK K
  refine norm_ (a' := ?_) ?_ ?_
  rotate_left
  · show Act.put _ (some 114) _ = _
    simp only [nrm]
    rfl
  refine done_ (done_of HT_.out (by kernel_rfl)) ?_
  clear HT_ HW_ hHeld
  go_wp2_with (go_at_call 121; refine (HN.out _ _ (H.out.pick 4 rfl)).mono ?_; rintro e w9 ⟨rfl, h8⟩; replace H : Aside (St w0 w9 (Are p a gC who false (X.set i (wordOf x.k x.c 0 0 q.cyc)) lv1 (l ++ [⟨who, 2, i, 0, (wordOf x.k x.c 0 0 q.cyc), X.getD i 0, (wordOf x.k x.c 0 0 q.cyc)⟩]) (cn + 1) fl ++ clB g q (x.next q) (.pointer none) :: F)) := Aside.mk (back_ (L := Are p a gC who false (X.set i (wordOf x.k x.c 0 0 q.cyc)) lv1 (l ++ [⟨who, 2, i, 0, (wordOf x.k x.c 0 0 q.cyc), X.getD i 0, (wordOf x.k x.c 0 0 q.cyc)⟩]) (cn + 1) fl) (R := F) (h8.pick 5 rfl).rest); clear h8; have x7 := (H.out.pick 4 rfl).cell 7)
  go_ret
  exact ⟨lv1, by simp, H.out⟩
theorem cst6 (hq : q.Right) (hp : x.pg < q.P + 1) (hat : x.at_ = 6) (hX : X.length = 128 + 64 * q.P) (hl : l.length ≤ 100000) (hc0 : 0 ≤ cn) (hc1 : cn ≤ 100000) (h : St w0 w (Are p a gC who true X lv l cn fl ++ clB g q x (.pointer none) :: F)) :
    Calls Tryd.prog 57 #[clP g, .pointer (some ⟨p, 0, none⟩)] w fun e w' => ∃ lv', e = .returned (.bool (Cl.at_ ({ x with alloc := 0, at_ := 7 } : Cl) == 9)) ∧ St w0 w' (Are p a gC who false (X.set (adr q.P q.T 1 x.pg) 0) lv' (l ++ [⟨who, 2, adr q.P q.T 1 x.pg, 0, 0, X.getD (adr q.P q.T 1 x.pg) 0, 0⟩]) (cn + 1) fl ++ clB g q ({ x with alloc := 0, at_ := 7 } : Cl) (.pointer none) :: F) := by
  have hE := alloc_in hq.hP hq.hT (i := (x.pg : Int)) (by omega) (by omega)
  rw [Int.toNat_natCast] at hE
  have HE := Aside.mk hE
  have hi : adr q.P q.T 1 x.pg < X.length := by rw [hX]; exact adr_lt hq.hP hq.hT hp (by decide)
  generalize adr q.P q.T 1 x.pg = i at HE hi ⊢
  have HX := Aside.mk (show X.length ≤ 4096 by have := hq.hP; omega)
  have HL := Aside.mk (show l.length ≤ 1000000 by omega)
  have HC := Aside.mk (show cn ≤ 1000000 by omega)
  have HI := Aside.mk hi
  have H0 := Aside.mk hc0
  have HQ := Aside.mk hq
  have HPG := Aside.mk hp
  have x7 : w.cell? ⟨g, 7, none⟩ = some (.int .i64 x.at_) := (h.pick 4 rfl).cell 7
  rw [hat] at x7
  have H := Aside.mk h
  have hst := Aside.mk (fun (w : World) (h : St w0 w (Are p a gC who true X lv l cn fl ++ clB g q x (.pointer none) :: F)) => store_ i 0 HI.out HX.out HL.out H0.out HC.out h)
  clear h hE hat hi hX hl hc0 hc1 hq hp
  go_enter Tryd.func57, Tryd.ntmps57
  go_wp2_with (first | (go_at_call 76; refine (open_ H.out).mono ?_; rintro e w1 ⟨rfl, rfl⟩))
  clear x7
  replace H := Aside.mk H.out.drew
  refine start_ (n := 11) (S := fun w' => w'.cell? ⟨g, 0, none⟩ = some (.int .i64 ((q.P : Int) + 1)) ∧ w'.cell? ⟨g, 1, none⟩ = some (.int .i64 ((q.T : Int) + 1)) ∧ w'.cell? ⟨g, 2, none⟩ = some (.int .i64 1) ∧ w'.cell? ⟨g, 8, none⟩ = some (.int .i64 (x.pg : Int))) (ds := []) (flg 11 0) (by kernel_rfl) rfl rfl (⟨(H.out.pick 4 rfl).cell 0, (H.out.pick 4 rfl).cell 1, (H.out.pick 4 rfl).cell 2, (H.out.pick 4 rfl).cell 8⟩) (fun hHeld => ?_)
  refine with_tabW cs.tab29 cs.bits29 (fun HT_ HW_ => ?_)
  refine pu_ (v := ?_) (a' := ?_) 0 (some 146) 1 rfl rfl HT_ (by kernel_rfl) (.inl ⟨by rfl, ?_⟩) ?_ ?_; rotate_left 2; (· intro w'; go_simp; with_reducible rfl); (· simp only [nrm]; rfl)
  refine pu_ (v := ?_) (a' := ?_) 1 (some 147) 3 rfl rfl HT_ (by kernel_rfl) (.inl ⟨by rfl, ?_⟩) ?_ ?_; rotate_left 2; (· intro w'; go_simp; with_reducible rfl); (· simp only [nrm]; rfl)
  refine pu_ (v := ?_) (a' := ?_) 2 (some 148) 7 rfl rfl HT_ (by kernel_rfl) (.inl ⟨by rfl, ?_⟩) ?_ ?_; rotate_left 2; (· intro w'; go_simp; with_reducible rfl); (· simp only [nrm]; rfl)
  refine pu_ (v := ?_) (a' := ?_) 3 (some 149) 15 rfl rfl HT_ (by kernel_rfl) (.inl ⟨by rfl, ?_⟩) ?_ ?_; rotate_left 2; (· intro w'; go_simp; with_reducible rfl); (· simp only [nrm]; rfl)
  refine tk_ (v := ?_) (a' := ?_) 4 (some 150) 31 rfl rfl HT_ HW_ (by kernel_rfl) (.inl ⟨by rfl, ?_⟩) hHeld ?_ ?_; rotate_left 2; (· rintro w' ⟨_, _, _, _⟩; go_simp; with_reducible rfl); (· simp only [nrm]; rfl)
  refine pu_ (v := ?_) (a' := ?_) 5 (some 151) 63 rfl rfl HT_ (by kernel_rfl) (.inl ⟨by rfl, ?_⟩) ?_ ?_; rotate_left 2; (· intro w'; go_simp; with_reducible rfl); (· simp only [nrm]; rfl)
  refine pu_ (v := ?_) (a' := ?_) 6 (some 152) 127 rfl rfl HT_ (by kernel_rfl) (.inl ⟨by rfl, ?_⟩) ?_ ?_; rotate_left 2; (· intro w'; go_simp; with_reducible rfl); (· simp only [nrm]; rfl)
  refine pu_ (v := ?_) (a' := ?_) 7 (some 153) 255 rfl rfl HT_ (by kernel_rfl) (.inl ⟨by rfl, ?_⟩) ?_ ?_; rotate_left 2; (· intro w'; go_simp; with_reducible rfl); (· simp only [nrm]; rfl)
  refine tk_ (v := ?_) (a' := ?_) 8 (some 154) 511 rfl rfl HT_ HW_ (by kernel_rfl) (.inl ⟨by rfl, ?_⟩) hHeld ?_ ?_; rotate_left 2; (· rintro w' ⟨_, _, _, _⟩; go_simp; with_reducible rfl); (· simp only [nrm]; rfl)
  refine on_ 9 (some 155) 1023 rfl rfl HT_ (by kernel_rfl) (by decide) (fun K hK => ?_)
  refine goes_ Tryd.func93 (by kernel_rfl) rfl #[.agg #[.int .i64 ((q.P : Int) + 1), .int .i64 ((q.T : Int) + 1), .int .i64 1], .int .i64 (x.pg : Int)] (by rfl) rfl rfl (by (try simp only [List.map_toArray, List.map_cons, List.map_nil]); first | done | rfl) ?_
  refine (layout_Plan_Alloc.calls _ _ _ _ _ _ HE.out).mono ?_
  rintro e w2 ⟨rfl, hb⟩
  replace H := Aside.mk (H.out.step hb)
  clear hb
  refine ⟨_, rfl, ?_⟩
  refine hK.out _ _ ⟨(H.out.pick 4 rfl).cell 0, (H.out.pick 4 rfl).cell 1, (H.out.pick 4 rfl).cell 2, (H.out.pick 4 rfl).cell 8⟩ (fun hHeld => ?_)
  clear hK K
  refine norm_ (a' := ?_) ?_ ?_
  rotate_left
  · show Act.put _ (some 155) _ = _
    simp only [nrm]
    rfl
  refine on_ 10 (some 156) 2047 rfl rfl HT_ (by kernel_rfl) (by decide) (fun K hK => ?_)
  refine goes_ Tryd.func77 (by kernel_rfl) rfl #[.pointer (some ⟨p, 0, none⟩), .int .i64 i, .int .u64 0] (by rfl) rfl rfl (by (try simp only [List.map_toArray, List.map_cons, List.map_nil]); first | done | rfl) ?_
  refine (hst.out _ H.out).mono ?_
  rintro e w3 ⟨lv1, rfl, h1⟩
  replace H := Aside.mk h1
  clear h1
  refine ⟨_, rfl, ?_⟩
  refine hK.out _ _ ⟨(H.out.pick 4 rfl).cell 0, (H.out.pick 4 rfl).cell 1, (H.out.pick 4 rfl).cell 2, (H.out.pick 4 rfl).cell 8⟩ (fun hHeld => ?_)
  clear hK K
  refine norm_ (a' := ?_) ?_ ?_
  rotate_left
  · show Act.put _ (some 156) _ = _
    simp only [nrm]
    rfl
  refine done_ (done_of HT_.out (by kernel_rfl)) ?_
  clear HT_ HW_ hHeld
  go_wp2_with (with_reducible refine stop_at (.store 22 (.tmp 160) (.const (.int .u64 0))) rfl ?_)
  refine ⟨?_⟩
  refine st_store rfl rfl rfl [.int .u64 0] (Cl.cells q ({ x with alloc := 0 } : Cl) (.pointer none)) rfl rfl rfl (Nat.le_of_ble_eq_true rfl) (by simp [Value.oneCell']) (H.out.pick 4 rfl) rfl ?_
  intro w9 h9
  replace H : Aside (St w0 w9 (Are p a gC who false (X.set i 0) lv1 (l ++ [⟨who, 2, i, 0, 0, X.getD i 0, 0⟩]) (cn + 1) fl ++ clB g q ({ x with alloc := 0 } : Cl) (.pointer none) :: F)) := Aside.mk (back_ (L := Are p a gC who false (X.set i 0) lv1 (l ++ [⟨who, 2, i, 0, 0, X.getD i 0, 0⟩]) (cn + 1) fl) (R := F) h9)
  clear h9
  go_wp2_with (with_reducible refine stop_at (.store 3 (.tmp 162) (.const (.int .i64 7))) rfl ?_)
  refine ⟨?_⟩
  refine st_store rfl rfl rfl [.int .i64 7] (Cl.cells q ({ x with alloc := 0, at_ := 7 } : Cl) (.pointer none)) rfl rfl rfl (Nat.le_of_ble_eq_true rfl) (by simp [Value.oneCell']) (H.out.pick 4 rfl) rfl ?_
  intro w8 h9
  replace H : Aside (St w0 w8 (Are p a gC who false (X.set i 0) lv1 (l ++ [⟨who, 2, i, 0, 0, X.getD i 0, 0⟩]) (cn + 1) fl ++ clB g q ({ x with alloc := 0, at_ := 7 } : Cl) (.pointer none) :: F)) := Aside.mk (back_ (L := Are p a gC who false (X.set i 0) lv1 (l ++ [⟨who, 2, i, 0, 0, X.getD i 0, 0⟩]) (cn + 1) fl) (R := F) h9)
  clear h9
  have x7 := (H.out.pick 4 rfl).cell 7
  go_wp2
  go_ret
  exact ⟨lv1, rfl, H.out⟩
theorem cst7 (hq : q.Right) (hp : x.pg < q.P + 1) (hat : x.at_ = 7) (hX : X.length = 128 + 64 * q.P) (hl : l.length ≤ 100000) (hc0 : 0 ≤ cn) (hc1 : cn ≤ 100000) (h : St w0 w (Are p a gC who true X lv l cn fl ++ clB g q x (.pointer none) :: F)) :
    Calls Tryd.prog 57 #[clP g, .pointer (some ⟨p, 0, none⟩)] w fun e w' => ∃ lv', e = .returned (.bool (Cl.at_ ({ x with got := true, at_ := 9 } : Cl) == 9)) ∧ St w0 w' (Are p a gC who false (X.set (adr q.P q.T 2 x.pg) 0) lv' (l ++ [⟨who, 2, adr q.P q.T 2 x.pg, 0, 0, X.getD (adr q.P q.T 2 x.pg) 0, 0⟩]) (cn + 1) fl ++ clB g q ({ x with got := true, at_ := 9 } : Cl) (.pointer none) :: F) := by
  have hE := mark_in hq.hP hq.hT (i := (x.pg : Int)) (by omega) (by omega)
  rw [Int.toNat_natCast] at hE
  have HE := Aside.mk hE
  have hi : adr q.P q.T 2 x.pg < X.length := by rw [hX]; exact adr_lt hq.hP hq.hT hp (by decide)
  generalize adr q.P q.T 2 x.pg = i at HE hi ⊢
  have HX := Aside.mk (show X.length ≤ 4096 by have := hq.hP; omega)
  have HL := Aside.mk (show l.length ≤ 1000000 by omega)
  have HC := Aside.mk (show cn ≤ 1000000 by omega)
  have HI := Aside.mk hi
  have H0 := Aside.mk hc0
  have HQ := Aside.mk hq
  have HPG := Aside.mk hp
  have x7 : w.cell? ⟨g, 7, none⟩ = some (.int .i64 x.at_) := (h.pick 4 rfl).cell 7
  rw [hat] at x7
  have H := Aside.mk h
  have hst := Aside.mk (fun (w : World) (h : St w0 w (Are p a gC who true X lv l cn fl ++ clB g q x (.pointer none) :: F)) => store_ i 0 HI.out HX.out HL.out H0.out HC.out h)
  clear h hE hat hi hX hl hc0 hc1 hq hp
  go_enter Tryd.func57, Tryd.ntmps57
  go_wp2_with (first | (go_at_call 76; refine (open_ H.out).mono ?_; rintro e w1 ⟨rfl, rfl⟩))
  clear x7
  replace H := Aside.mk H.out.drew
  refine start_ (n := 11) (S := fun w' => w'.cell? ⟨g, 0, none⟩ = some (.int .i64 ((q.P : Int) + 1)) ∧ w'.cell? ⟨g, 1, none⟩ = some (.int .i64 ((q.T : Int) + 1)) ∧ w'.cell? ⟨g, 2, none⟩ = some (.int .i64 1) ∧ w'.cell? ⟨g, 8, none⟩ = some (.int .i64 (x.pg : Int))) (ds := []) (flg 11 0) (by kernel_rfl) rfl rfl (⟨(H.out.pick 4 rfl).cell 0, (H.out.pick 4 rfl).cell 1, (H.out.pick 4 rfl).cell 2, (H.out.pick 4 rfl).cell 8⟩) (fun hHeld => ?_)
  refine with_tabW cs.tab32 cs.bits32 (fun HT_ HW_ => ?_)
  refine pu_ (v := ?_) (a' := ?_) 0 (some 165) 1 rfl rfl HT_ (by kernel_rfl) (.inl ⟨by rfl, ?_⟩) ?_ ?_; rotate_left 2; (· intro w'; go_simp; with_reducible rfl); (· simp only [nrm]; rfl)
  refine pu_ (v := ?_) (a' := ?_) 1 (some 166) 3 rfl rfl HT_ (by kernel_rfl) (.inl ⟨by rfl, ?_⟩) ?_ ?_; rotate_left 2; (· intro w'; go_simp; with_reducible rfl); (· simp only [nrm]; rfl)
  refine pu_ (v := ?_) (a' := ?_) 2 (some 167) 7 rfl rfl HT_ (by kernel_rfl) (.inl ⟨by rfl, ?_⟩) ?_ ?_; rotate_left 2; (· intro w'; go_simp; with_reducible rfl); (· simp only [nrm]; rfl)
  refine pu_ (v := ?_) (a' := ?_) 3 (some 168) 15 rfl rfl HT_ (by kernel_rfl) (.inl ⟨by rfl, ?_⟩) ?_ ?_; rotate_left 2; (· intro w'; go_simp; with_reducible rfl); (· simp only [nrm]; rfl)
  refine tk_ (v := ?_) (a' := ?_) 4 (some 169) 31 rfl rfl HT_ HW_ (by kernel_rfl) (.inl ⟨by rfl, ?_⟩) hHeld ?_ ?_; rotate_left 2; (· rintro w' ⟨_, _, _, _⟩; go_simp; with_reducible rfl); (· simp only [nrm]; rfl)
  refine pu_ (v := ?_) (a' := ?_) 5 (some 170) 63 rfl rfl HT_ (by kernel_rfl) (.inl ⟨by rfl, ?_⟩) ?_ ?_; rotate_left 2; (· intro w'; go_simp; with_reducible rfl); (· simp only [nrm]; rfl)
  refine pu_ (v := ?_) (a' := ?_) 6 (some 171) 127 rfl rfl HT_ (by kernel_rfl) (.inl ⟨by rfl, ?_⟩) ?_ ?_; rotate_left 2; (· intro w'; go_simp; with_reducible rfl); (· simp only [nrm]; rfl)
  refine pu_ (v := ?_) (a' := ?_) 7 (some 172) 255 rfl rfl HT_ (by kernel_rfl) (.inl ⟨by rfl, ?_⟩) ?_ ?_; rotate_left 2; (· intro w'; go_simp; with_reducible rfl); (· simp only [nrm]; rfl)
  refine tk_ (v := ?_) (a' := ?_) 8 (some 173) 511 rfl rfl HT_ HW_ (by kernel_rfl) (.inl ⟨by rfl, ?_⟩) hHeld ?_ ?_; rotate_left 2; (· rintro w' ⟨_, _, _, _⟩; go_simp; with_reducible rfl); (· simp only [nrm]; rfl)
  refine on_ 9 (some 174) 1023 rfl rfl HT_ (by kernel_rfl) (by decide) (fun K hK => ?_)
  refine goes_ Tryd.func127 (by kernel_rfl) rfl #[.agg #[.int .i64 ((q.P : Int) + 1), .int .i64 ((q.T : Int) + 1), .int .i64 1], .int .i64 (x.pg : Int)] (by rfl) rfl rfl (by (try simp only [List.map_toArray, List.map_cons, List.map_nil]); first | done | rfl) ?_
  refine (layout_Plan_Mark.calls _ _ _ _ _ _ HE.out).mono ?_
  rintro e w2 ⟨rfl, hb⟩
  replace H := Aside.mk (H.out.step hb)
  clear hb
  refine ⟨_, rfl, ?_⟩
  refine hK.out _ _ ⟨(H.out.pick 4 rfl).cell 0, (H.out.pick 4 rfl).cell 1, (H.out.pick 4 rfl).cell 2, (H.out.pick 4 rfl).cell 8⟩ (fun hHeld => ?_)
  clear hK K
  refine norm_ (a' := ?_) ?_ ?_
  rotate_left
  · show Act.put _ (some 174) _ = _
    simp only [nrm]
    rfl
  refine on_ 10 (some 175) 2047 rfl rfl HT_ (by kernel_rfl) (by decide) (fun K hK => ?_)
  refine goes_ Tryd.func77 (by kernel_rfl) rfl #[.pointer (some ⟨p, 0, none⟩), .int .i64 i, .int .u64 0] (by rfl) rfl rfl (by (try simp only [List.map_toArray, List.map_cons, List.map_nil]); first | done | rfl) ?_
  refine (hst.out _ H.out).mono ?_
  rintro e w3 ⟨lv1, rfl, h1⟩
  replace H := Aside.mk h1
  clear h1
  refine ⟨_, rfl, ?_⟩
  refine hK.out _ _ ⟨(H.out.pick 4 rfl).cell 0, (H.out.pick 4 rfl).cell 1, (H.out.pick 4 rfl).cell 2, (H.out.pick 4 rfl).cell 8⟩ (fun hHeld => ?_)
  clear hK K
  refine norm_ (a' := ?_) ?_ ?_
  rotate_left
  · show Act.put _ (some 175) _ = _
    simp only [nrm]
    rfl
  refine done_ (done_of HT_.out (by kernel_rfl)) ?_
  clear HT_ HW_ hHeld
  go_wp2_with (with_reducible refine stop_at (.store 4 (.tmp 179) (.const (.bool true))) rfl ?_)
  refine ⟨?_⟩
  refine st_store rfl rfl rfl [.bool true] (Cl.cells q ({ x with got := true } : Cl) (.pointer none)) rfl rfl rfl (Nat.le_of_ble_eq_true rfl) (by simp [Value.oneCell']) (H.out.pick 4 rfl) rfl ?_
  intro w9 h9
  replace H : Aside (St w0 w9 (Are p a gC who false (X.set i 0) lv1 (l ++ [⟨who, 2, i, 0, 0, X.getD i 0, 0⟩]) (cn + 1) fl ++ clB g q ({ x with got := true } : Cl) (.pointer none) :: F)) := Aside.mk (back_ (L := Are p a gC who false (X.set i 0) lv1 (l ++ [⟨who, 2, i, 0, 0, X.getD i 0, 0⟩]) (cn + 1) fl) (R := F) h9)
  clear h9
  go_wp2_with (with_reducible refine stop_at (.store 3 (.tmp 181) (.const (.int .i64 9))) rfl ?_)
  refine ⟨?_⟩
  refine st_store rfl rfl rfl [.int .i64 9] (Cl.cells q ({ x with got := true, at_ := 9 } : Cl) (.pointer none)) rfl rfl rfl (Nat.le_of_ble_eq_true rfl) (by simp [Value.oneCell']) (H.out.pick 4 rfl) rfl ?_
  intro w8 h9
  replace H : Aside (St w0 w8 (Are p a gC who false (X.set i 0) lv1 (l ++ [⟨who, 2, i, 0, 0, X.getD i 0, 0⟩]) (cn + 1) fl ++ clB g q ({ x with got := true, at_ := 9 } : Cl) (.pointer none) :: F)) := Aside.mk (back_ (L := Are p a gC who false (X.set i 0) lv1 (l ++ [⟨who, 2, i, 0, 0, X.getD i 0, 0⟩]) (cn + 1) fl) (R := F) h9)
  clear h9
  have x7 := (H.out.pick 4 rfl).cell 7
  go_wp2
  go_ret
  exact ⟨lv1, rfl, H.out⟩
end Go.Proofs.YtelfiegocdjnoaaDoor.Ar
