/- A Give: it is made or not; its step. Conditions: the plan is right. -/
import Derived.Test.YtelfiegocdjnoaaFd3
import Derived.Test.YtelfiegocdjnoaaHe
import Derived.Test.YtelfiegocdjnoaaMrF0
import Derived.Test.YtelfiegocdjnoaaMrF2
namespace Go.Proofs.Ytelfiegocdjnoaa.Ar
open Go Go.RowKit Go.Proofs.Ytelfiegocdjnoaa.Sep Go.Proofs.Ytelfiegocdjnoaa.Pg Go.Proofs.YtelfiegocdjnoaaW.PrintWords Go.Proofs.YtelfiegocdjnoaaW.PrintLast Go.Proofs.YtelfiegocdjnoaaW.PrintMore Go.Proofs.Ytelfiegocdjnoaa.Q
set_option linter.unusedVariables false
set_option linter.unusedSimpArgs false
set_option maxHeartbeats 8000000
set_option maxRecDepth 100000
def gw.T6 : Bool × List (List Nat × List Nat) := (true, [([], []), ([], []), ([0, 1], [0, 1]), ([], []), ([3, 2], [3]), ([2, 4], [2, 4]), ([5], [5]), ([6, 4, 0, 1, 2, 3, 4, 5, 6], [6]), ([7, 0, 1, 2, 3, 4, 5, 6, 7], [])])
def gw.B6 : List Nat := [0, 0, 3, 0, 15, 31, 63, 127, 255]
theorem gw.tab6 : rtab .any (opsOf Try.f32 6) = gw.T6 := by kernel_rfl
theorem gw.bits6 : waitsOk gw.T6.2 gw.B6 = true := by kernel_rfl
def gw.T5 : Bool × List (List Nat × List Nat) := (true, [([], []), ([], []), ([1], [1]), ([2], [2]), ([3], [3]), ([], []), ([5], [5]), ([6], [6]), ([7], [7]), ([0, 4, 8], [0, 4, 8])])
def gw.B5 : List Nat := [0, 0, 2, 6, 14, 0, 32, 96, 224, 511]
theorem gw.tab5 : rtab .any (opsOf Try.f35 5) = gw.T5 := by kernel_rfl
theorem gw.bits5 : waitsOk gw.T5.2 gw.B5 = true := by kernel_rfl
variable {w0 w : World} {F : List HP} {a gC p g : Nat} {lv : Value} {l : List Acc} {cn fl who : Int} {X : List Int}
abbrev gvB (g : Nat) (at_ wd : Int) (done : Bool) : HP := blk g #[.int .i64 at_, .int .u64 wd, .bool done] 130
theorem gover_ {at_ wd : Int} {b : Bool} (h : St w0 w (gvB g at_ wd b :: F)) : Calls Try.prog 34 #[.pointer (some ⟨g, 0, none⟩)] w fun e w' => e = .returned (.bool b) ∧ St w0 w' (gvB g at_ wd b :: F) := by
  have x2 : w.cell? ⟨g, 2, none⟩ = some (.bool b) := h.cell 2
  have H := Aside.mk h
  clear h
  go_enter Try.func34, Try.ntmps34
  go_wp2
  go_ret
  exact ⟨by simp, H.out⟩
theorem gstep_done {at_ wd : Int} {v : Value} (h : St w0 w (gvB g at_ wd true :: F)) : Calls Try.prog 35 #[.pointer (some ⟨g, 0, none⟩), v] w fun e w' => e = .returned (.bool true) ∧ St w0 w' (gvB g at_ wd true :: F) := by
  have x2 : w.cell? ⟨g, 2, none⟩ = some (.bool true) := h.cell 2
  have H := Aside.mk h
  clear h
  go_enter Try.func35, Try.ntmps35
  go_wp2
  go_ret
  exact ⟨by simp, H.out⟩
theorem gstep_shut {at_ wd : Int} (h : St w0 w (poB p a who false :: gvB g at_ wd false :: F)) : Calls Try.prog 35 #[.pointer (some ⟨g, 0, none⟩), .pointer (some ⟨p, 0, none⟩)] w fun e w' => e = .returned (.bool false) ∧ St w0 w' (poB p a who false :: gvB g at_ wd false :: F) := by
  have x2 : w.cell? ⟨g, 2, none⟩ = some (.bool false) := (h.pick 1 rfl).cell 2
  have H := Aside.mk h
  clear h
  go_enter Try.func35, Try.ntmps35
  go_wp2_with (go_at_call 47; refine (open_ H.out).mono ?_; rintro e w1 ⟨rfl, rfl⟩)
  go_ret
  exact ⟨by simp, H.out⟩
theorem gstep_ {i : Nat} {wd : Int} (hi : i < X.length) (hn : X.length ≤ 4096) (hl : l.length ≤ 1000000) (hc0 : 0 ≤ cn) (hc1 : cn ≤ 1000000) (h : St w0 w (Are p a gC who true X lv l cn fl ++ gvB g i wd false :: F)) :
    Calls Try.prog 35 #[.pointer (some ⟨g, 0, none⟩), .pointer (some ⟨p, 0, none⟩)] w fun e w' => ∃ lv', e = .returned (.bool true) ∧ St w0 w' (Are p a gC who false (X.set i wd) lv' (l ++ [⟨who, 2, i, 0, wd, X.getD i 0, wd⟩]) (cn + 1) fl ++ gvB g i wd true :: F) := by
  have x0 : w.cell? ⟨g, 0, none⟩ = some (.int .i64 i) := (h.pick 4 rfl).cell 0
  have x1 : w.cell? ⟨g, 1, none⟩ = some (.int .u64 wd) := (h.pick 4 rfl).cell 1
  have x2 : w.cell? ⟨g, 2, none⟩ = some (.bool false) := (h.pick 4 rfl).cell 2
  have hst := Aside.mk (fun (w : World) (h : St w0 w (Are p a gC who true X lv l cn fl ++ gvB g i wd false :: F)) => store_ i wd hi hn hl hc0 hc1 h)
  have H := Aside.mk h
  clear h hi hn hl hc0 hc1
  go_enter Try.func35, Try.ntmps35
  go_wp2_with (go_at_call 47; refine (open_ H.out).mono ?_; rintro e w1 ⟨rfl, rfl⟩)
  replace H := Aside.mk H.out.drew
  refine start_ (n := 10) (S := fun w' => w'.cell? ⟨g, 0, none⟩ = some (.int .i64 i) ∧ w'.cell? ⟨g, 1, none⟩ = some (.int .u64 wd)) (ds := []) (flg 10 0) (by kernel_rfl) rfl rfl (⟨(H.out.pick 4 rfl).cell 0, (H.out.pick 4 rfl).cell 1⟩) (fun hHeld => ?_)
  refine with_tabW gw.tab5 gw.bits5 (fun HT_ HW_ => ?_)
  refine pure_ (i := 0) (N := some 16) (v := ?_) (a' := ?_) (flg 10 1) rfl rfl (any_of HT_.out (by kernel_rfl)) (fun _ _ _ h => h) (Or.inl ⟨by rfl, ?_⟩) ?_ ?_
  rotate_left
  · intro w'
    go_simp
    with_reducible rfl
  rotate_left
  · simp only [nrm]
    rfl
  refine pure_ (i := 1) (N := some 17) (v := ?_) (a' := ?_) (flg 10 3) rfl rfl (any_of HT_.out (by kernel_rfl)) (fun _ _ _ h => h) (Or.inl ⟨by rfl, ?_⟩) ?_ ?_
  rotate_left
  · intro w'
    go_simp
    with_reducible rfl
  rotate_left
  · simp only [nrm]
    rfl
  refine pure_ (i := 2) (N := some 18) (v := ?_) (a' := ?_) (flg 10 7) rfl rfl (any_of HT_.out (by kernel_rfl)) (fun _ _ _ h => h) (Or.inl ⟨by rfl, ?_⟩) ?_ ?_
  rotate_left
  · intro w'
    go_simp
    with_reducible rfl
  rotate_left
  · simp only [nrm]
    rfl
  refine pure_ (i := 3) (N := some 19) (v := ?_) (a' := ?_) (flg 10 15) rfl rfl (any_of HT_.out (by kernel_rfl)) (fun _ _ _ h => h) (Or.inl ⟨by rfl, ?_⟩) ?_ ?_
  rotate_left
  · intro w'
    go_simp
    with_reducible rfl
  rotate_left
  · simp only [nrm]
    rfl
  refine take_ (i := 4) (N := some 20) (v := ?_) (a' := ?_) (flg 10 31) rfl rfl (take_ofW HT_.out HW_.out (by kernel_rfl)) (fun _ _ _ h => h) (Or.inl ⟨by rfl, ?_⟩) hHeld ?_ ?_
  rotate_left
  · rintro w' ⟨s0_, s1_⟩
    go_simp
    with_reducible rfl
  rotate_left
  · simp only [nrm]
    rfl
  refine pure_ (i := 5) (N := some 21) (v := ?_) (a' := ?_) (flg 10 63) rfl rfl (any_of HT_.out (by kernel_rfl)) (fun _ _ _ h => h) (Or.inl ⟨by rfl, ?_⟩) ?_ ?_
  rotate_left
  · intro w'
    go_simp
    with_reducible rfl
  rotate_left
  · simp only [nrm]
    rfl
  refine pure_ (i := 6) (N := some 22) (v := ?_) (a' := ?_) (flg 10 127) rfl rfl (any_of HT_.out (by kernel_rfl)) (fun _ _ _ h => h) (Or.inl ⟨by rfl, ?_⟩) ?_ ?_
  rotate_left
  · intro w'
    go_simp
    with_reducible rfl
  rotate_left
  · simp only [nrm]
    rfl
  refine pure_ (i := 7) (N := some 23) (v := ?_) (a' := ?_) (flg 10 255) rfl rfl (any_of HT_.out (by kernel_rfl)) (fun _ _ _ h => h) (Or.inl ⟨by rfl, ?_⟩) ?_ ?_
  rotate_left
  · intro w'
    go_simp
    with_reducible rfl
  rotate_left
  · simp only [nrm]
    rfl
  refine take_ (i := 8) (N := some 24) (v := ?_) (a' := ?_) (flg 10 511) rfl rfl (take_ofW HT_.out HW_.out (by kernel_rfl)) (fun _ _ _ h => h) (Or.inl ⟨by rfl, ?_⟩) hHeld ?_ ?_
  rotate_left
  · rintro w' ⟨s0_, s1_⟩
    go_simp
    with_reducible rfl
  rotate_left
  · simp only [nrm]
    rfl
  refine one_ (i := 9) (N := some 25) (flg 10 1023) rfl rfl (one_of HT_.out (by kernel_rfl)) (by decide) (fun K hK => ?_)
  refine goes_ Try.func57 (by kernel_rfl) rfl #[.pointer (some ⟨p, 0, none⟩), .int .i64 i, .int .u64 wd] (by rfl) rfl rfl (by (try simp only [List.map_toArray, List.map_cons, List.map_nil]); first | done | rfl) ?_
  refine (hst.out _ H.out).mono ?_
  rintro e w3 ⟨lv1, rfl, h1⟩
  replace H := Aside.mk h1
  clear h1
  refine ⟨_, rfl, ?_⟩
  refine hK.out _ _ ⟨(H.out.pick 4 rfl).cell 0, (H.out.pick 4 rfl).cell 1⟩ (fun hHeld => ?_)
  clear hK K
  refine norm_ (a' := ?_) ?_ ?_
  rotate_left
  · show Act.put _ (some 25) _ = _
    simp only [nrm]
    rfl
  refine done_ (done_of HT_.out (by kernel_rfl)) ?_
  clear HT_ HW_ hHeld
  have z2 := (H.out.pick 4 rfl).cell 2
  have f2 := (H.out.pick 4 rfl).frozen 2
  go_wp2
  go_ret
  exact ⟨lv1, rfl, back_ (L := Are p a gC who false (X.set i wd) lv1 (l ++ [⟨who, 2, i, 0, wd, X.getD i 0, wd⟩]) (cn + 1) fl) ((H.out.pick 4 rfl).put 2 (.bool true) rfl)⟩
theorem newgive_out {P T : Nat} (hP : P < 5) (hT : T < 3) {page k c s o y b : Int} {r1 r2 r3 r4 r5 f : Int} (HG : ∀ w : World, Calls Try.prog 74 #[.agg #[.int .i64 k, .int .i64 c, .int .i64 s, .int .i64 o, .int .i64 y], .int .i64 b] w fun e w' => e = .returned (.tuple #[.agg #[.int .i64 r1, .int .i64 r2, .int .i64 r3, .int .i64 r4, .int .i64 r5], .int .i64 f]) ∧ Below w.heap.size w w') (hp : page < 0 ∨ (P : Int) + 1 ≤ page) (h : St w0 w F) :
    Calls Try.prog 32 #[.agg #[.int .i64 ((P : Int) + 1), .int .i64 ((T : Int) + 1), .int .i64 1], .int .i64 page, .agg #[.int .i64 k, .int .i64 c, .int .i64 s, .int .i64 o, .int .i64 y], .int .i64 b] w fun e w' => e = .returned (.tuple #[.pointer none, .int .i64 1]) ∧ St w0 w' F := by
  have HE := Aside.mk (entry_out hP hT hp)
  have HGV := Aside.mk HG
  clear HG hp
  have h0 := (h.alloc #[.int .i64 ((P : Int) + 1), .int .i64 ((T : Int) + 1), .int .i64 1] 41).alloc #[.int .i64 k, .int .i64 c, .int .i64 s, .int .i64 o, .int .i64 y] 82
  rw [show (w.alloc (.cells #[.int .i64 ((P : Int) + 1), .int .i64 ((T : Int) + 1), .int .i64 1] 41)).heap.size = w.heap.size + 1 by simp] at h0
  have H := Aside.mk h0
  clear h h0 hP hT
  go_enter Try.func32, Try.ntmps32
  go_wp2_with (first
    | (go_at_call 74; refine (HGV.out _).mono ?_; rintro e w1 ⟨rfl, hb⟩; replace H := Aside.mk ((H.out.step hb).alloc #[.int .i64 r1, .int .i64 r2, .int .i64 r3, .int .i64 r4, .int .i64 r5] 82); clear hb; have x0 := (H.out.pick 2 rfl).cell 0; have x1 := (H.out.pick 2 rfl).cell 1; have x2 := (H.out.pick 2 rfl).cell 2)
    | (go_at_call 45; refine (layout_Plan_Entry.calls _ _ _ _ _ _ HE.out).mono ?_; rintro e w2 ⟨rfl, hb⟩; replace H := Aside.mk (H.out.step hb); clear hb x0 x1 x2))
  go_ret2
  exact ⟨rfl, H.out.rest.rest.rest⟩
theorem newgive_err {P T : Nat} (hP : P < 5) (hT : T < 3) {page k c s o y b : Int} {r1 r2 r3 r4 r5 : Int} (HG : ∀ w : World, Calls Try.prog 74 #[.agg #[.int .i64 k, .int .i64 c, .int .i64 s, .int .i64 o, .int .i64 y], .int .i64 b] w fun e w' => e = .returned (.tuple #[.agg #[.int .i64 r1, .int .i64 r2, .int .i64 r3, .int .i64 r4, .int .i64 r5], .int .i64 4]) ∧ Below w.heap.size w w') (hp0 : 0 ≤ page) (hp1 : page < (P : Int) + 1) (h : St w0 w F) :
    Calls Try.prog 32 #[.agg #[.int .i64 ((P : Int) + 1), .int .i64 ((T : Int) + 1), .int .i64 1], .int .i64 page, .agg #[.int .i64 k, .int .i64 c, .int .i64 s, .int .i64 o, .int .i64 y], .int .i64 b] w fun e w' => e = .returned (.tuple #[.pointer none, .int .i64 4]) ∧ St w0 w' F := by
  have HE := Aside.mk (entry_in hP hT hp0 hp1)
  have HGV := Aside.mk HG
  generalize adr P T 0 page.toNat = j at HE
  have d3 : decide ((j : Int) < 0) = false := by simp
  clear HG hp0 hp1
  have h0 := (h.alloc #[.int .i64 ((P : Int) + 1), .int .i64 ((T : Int) + 1), .int .i64 1] 41).alloc #[.int .i64 k, .int .i64 c, .int .i64 s, .int .i64 o, .int .i64 y] 82
  rw [show (w.alloc (.cells #[.int .i64 ((P : Int) + 1), .int .i64 ((T : Int) + 1), .int .i64 1] 41)).heap.size = w.heap.size + 1 by simp] at h0
  have H := Aside.mk h0
  clear h h0 hP hT
  go_enter Try.func32, Try.ntmps32
  go_wp2_with (first
    | (go_at_call 74; refine (HGV.out _).mono ?_; rintro e w1 ⟨rfl, hb⟩; replace H := Aside.mk ((H.out.step hb).alloc #[.int .i64 r1, .int .i64 r2, .int .i64 r3, .int .i64 r4, .int .i64 r5] 82); clear hb; have x0 := (H.out.pick 2 rfl).cell 0; have x1 := (H.out.pick 2 rfl).cell 1; have x2 := (H.out.pick 2 rfl).cell 2)
    | (go_at_call 45; refine (layout_Plan_Entry.calls _ _ _ _ _ _ HE.out).mono ?_; rintro e w2 ⟨rfl, hb⟩; replace H := Aside.mk (H.out.step hb); clear hb x0 x1 x2))
  go_ret2
  exact ⟨rfl, H.out.rest.rest.rest⟩
theorem newgive_yes {P T : Nat} (hP : P < 5) (hT : T < 3) {page k c s o y b : Int} {r1 r2 r3 r4 r5 wd : Int} (HG : ∀ w : World, Calls Try.prog 74 #[.agg #[.int .i64 k, .int .i64 c, .int .i64 s, .int .i64 o, .int .i64 y], .int .i64 b] w fun e w' => e = .returned (.tuple #[.agg #[.int .i64 r1, .int .i64 r2, .int .i64 r3, .int .i64 r4, .int .i64 r5], .int .i64 0]) ∧ Below w.heap.size w w') (hcd : pages_coded.f 7 r1 r2 r3 r4 r5 = some wd) (hp0 : 0 ≤ page) (hp1 : page < (P : Int) + 1) (h : St w0 w F) :
    Calls Try.prog 32 #[.agg #[.int .i64 ((P : Int) + 1), .int .i64 ((T : Int) + 1), .int .i64 1], .int .i64 page, .agg #[.int .i64 k, .int .i64 c, .int .i64 s, .int .i64 o, .int .i64 y], .int .i64 b] w fun e w' => ∃ g, e = .returned (.tuple #[.pointer (some ⟨g, 0, none⟩), .int .i64 0]) ∧ St w0 w' (gvB g (adr P T 0 page.toNat : Nat) wd false :: F) := by
  have HE := Aside.mk (entry_in hP hT hp0 hp1)
  have HGV := Aside.mk HG
  have HCD := Aside.mk hcd
  generalize adr P T 0 page.toNat = j at HE ⊢
  have d3 : decide ((j : Int) < 0) = false := by simp
  clear HG hp0 hp1 hcd
  have h0 := (h.alloc #[.int .i64 ((P : Int) + 1), .int .i64 ((T : Int) + 1), .int .i64 1] 41).alloc #[.int .i64 k, .int .i64 c, .int .i64 s, .int .i64 o, .int .i64 y] 82
  rw [show (w.alloc (.cells #[.int .i64 ((P : Int) + 1), .int .i64 ((T : Int) + 1), .int .i64 1] 41)).heap.size = w.heap.size + 1 by simp] at h0
  have H := Aside.mk h0
  clear h h0 hP hT
  go_enter Try.func32, Try.ntmps32
  go_wp2_with (first
    | (go_at_call 74; refine (HGV.out _).mono ?_; rintro e w1 ⟨rfl, hb⟩; replace H := Aside.mk ((H.out.step hb).alloc #[.int .i64 r1, .int .i64 r2, .int .i64 r3, .int .i64 r4, .int .i64 r5] 82); clear hb; have x0 := (H.out.pick 2 rfl).cell 0; have x1 := (H.out.pick 2 rfl).cell 1; have x2 := (H.out.pick 2 rfl).cell 2)
    | (go_at_call 45; refine (layout_Plan_Entry.calls _ _ _ _ _ _ HE.out).mono ?_; rintro e w2 ⟨rfl, hb⟩; replace H := Aside.mk (H.out.step hb); clear hb x0 x1 x2))
  replace H := Aside.mk H.out.drew
  refine start_ (n := 9) (S := fun w' => w'.cell? ⟨w.heap.size, 0, none⟩ = some (.int .i64 ((P : Int) + 1)) ∧ w'.cell? ⟨w.heap.size, 1, none⟩ = some (.int .i64 ((T : Int) + 1)) ∧ w'.cell? ⟨w.heap.size, 2, none⟩ = some (.int .i64 1) ∧ w'.cell? ⟨w1.heap.size, 0, none⟩ = some (.int .i64 r1) ∧ w'.cell? ⟨w1.heap.size, 1, none⟩ = some (.int .i64 r2) ∧ w'.cell? ⟨w1.heap.size, 2, none⟩ = some (.int .i64 r3) ∧ w'.cell? ⟨w1.heap.size, 3, none⟩ = some (.int .i64 r4) ∧ w'.cell? ⟨w1.heap.size, 4, none⟩ = some (.int .i64 r5)) (ds := []) (flg 9 0) (by kernel_rfl) rfl rfl (⟨(H.out.pick 2 rfl).cell 0, (H.out.pick 2 rfl).cell 1, (H.out.pick 2 rfl).cell 2, H.out.cell 0, H.out.cell 1, H.out.cell 2, H.out.cell 3, H.out.cell 4⟩) (fun hHeld => ?_)
  refine with_tabW gw.tab6 gw.bits6 (fun HT_ HW_ => ?_)
  refine take_ (i := 0) (N := some 25) (v := ?_) (a' := ?_) (flg 9 1) rfl rfl (take_ofW HT_.out HW_.out (by kernel_rfl)) (fun _ _ _ h => h) (Or.inl ⟨by rfl, ?_⟩) hHeld ?_ ?_
  rotate_left
  · rintro w' ⟨s0_, s1_, s2_, s3_, s4_, s5_, s6_, s7_⟩
    go_simp
    with_reducible rfl
  rotate_left
  · simp only [nrm]
    rfl
  refine pure_ (i := 1) (N := some 26) (v := ?_) (a' := ?_) (flg 9 3) rfl rfl (any_of HT_.out (by kernel_rfl)) (fun _ _ _ h => h) (Or.inl ⟨by rfl, ?_⟩) ?_ ?_
  rotate_left
  · intro w'
    go_simp
    with_reducible rfl
  rotate_left
  · simp only [nrm]
    rfl
  refine take_ (i := 3) (N := some 28) (v := ?_) (a' := ?_) (flg 9 11) rfl rfl (take_ofW HT_.out HW_.out (by kernel_rfl)) (fun _ _ _ h => h) (Or.inl ⟨by rfl, ?_⟩) hHeld ?_ ?_
  rotate_left
  · rintro w' ⟨s0_, s1_, s2_, s3_, s4_, s5_, s6_, s7_⟩
    go_simp
    with_reducible rfl
  rotate_left
  · simp only [nrm]
    rfl
  refine one_ (i := 2) (N := some 27) (flg 9 15) rfl rfl (one_of HT_.out (by kernel_rfl)) (by decide) (fun K hK => ?_)
  refine goes_ Try.func45 (by kernel_rfl) rfl #[.agg #[.int .i64 ((P : Int) + 1), .int .i64 ((T : Int) + 1), .int .i64 1], .int .i64 page] (by rfl) rfl rfl (by (try simp only [List.map_toArray, List.map_cons, List.map_nil]); first | done | rfl) ?_
  refine (layout_Plan_Entry.calls _ _ _ _ _ _ HE.out).mono ?_
  rintro e w5 ⟨rfl, hb⟩
  replace H := Aside.mk (H.out.step hb)
  clear hb
  refine ⟨_, rfl, ?_⟩
  refine hK.out _ _ ⟨(H.out.pick 2 rfl).cell 0, (H.out.pick 2 rfl).cell 1, (H.out.pick 2 rfl).cell 2, H.out.cell 0, H.out.cell 1, H.out.cell 2, H.out.cell 3, H.out.cell 4⟩ (fun hHeld => ?_)
  clear hK K
  refine norm_ (a' := ?_) ?_ ?_
  rotate_left
  · show Act.put _ (some 27) _ = _
    simp only [nrm]
    rfl
  refine one_ (i := 4) (N := some 29) (flg 9 31) rfl rfl (one_of HT_.out (by kernel_rfl)) (by decide) (fun K hK => ?_)
  refine goes_ Try.func53 (by kernel_rfl) rfl #[.agg #[.int .i64 r1, .int .i64 r2, .int .i64 r3, .int .i64 r4, .int .i64 r5]] (by rfl) rfl rfl (by (try simp only [List.map_toArray, List.map_cons, List.map_nil]); first | done | rfl) ?_
  refine (pages_coded.calls _ _ _ _ _ _ _ _ HCD.out).mono ?_
  rintro e w6 ⟨rfl, hb⟩
  replace H := Aside.mk (H.out.step hb)
  clear hb
  refine ⟨_, rfl, ?_⟩
  refine hK.out _ _ ⟨(H.out.pick 2 rfl).cell 0, (H.out.pick 2 rfl).cell 1, (H.out.pick 2 rfl).cell 2, H.out.cell 0, H.out.cell 1, H.out.cell 2, H.out.cell 3, H.out.cell 4⟩ (fun hHeld => ?_)
  clear hK K
  refine norm_ (a' := ?_) ?_ ?_
  rotate_left
  · show Act.put _ (some 29) _ = _
    simp only [nrm]
    rfl
  refine pure_ (i := 5) (N := some 30) (v := ?_) (a' := ?_) (flg 9 63) rfl rfl (any_of HT_.out (by kernel_rfl)) (fun _ _ _ h => h) (Or.inl ⟨by rfl, ?_⟩) ?_ ?_
  rotate_left
  · intro w'
    go_simp
    with_reducible rfl
  rotate_left
  · simp only [nrm]
    rfl
  refine one_ (i := 6) (N := some 31) (flg 9 127) rfl rfl (one_of HT_.out (by kernel_rfl)) (by decide) (fun K hK => ?_)
  refine value_ (w1 := ?_) (v := ?_) (by rfl) rfl ?_ ?_
  rotate_left 2
  · go_simp
    constructor
    · rfl
    · rfl
  replace H := Aside.mk (H.out.alloc #[.int .i64 j, .int .u64 wd, .bool false] 130)
  refine hK.out _ _ ⟨(H.out.pick 3 rfl).cell 0, (H.out.pick 3 rfl).cell 1, (H.out.pick 3 rfl).cell 2, (H.out.pick 1 rfl).cell 0, (H.out.pick 1 rfl).cell 1, (H.out.pick 1 rfl).cell 2, (H.out.pick 1 rfl).cell 3, (H.out.pick 1 rfl).cell 4⟩ (fun hHeld => ?_)
  clear hK K
  refine norm_ (a' := ?_) ?_ ?_
  rotate_left
  · show Act.put _ (some 31) _ = _
    simp only [nrm]
    rfl
  refine pure_ (i := 7) (N := some 8) (v := ?_) (a' := ?_) (flg 9 255) rfl rfl (any_of HT_.out (by kernel_rfl)) (fun _ _ _ h => h) (Or.inl ⟨by rfl, ?_⟩) ?_ ?_
  rotate_left
  · intro w'
    go_simp
    with_reducible rfl
  rotate_left
  · simp only [nrm]
    rfl
  refine pure_ (i := 8) (N := some 9) (v := ?_) (a' := ?_) (flg 9 511) rfl rfl (any_of HT_.out (by kernel_rfl)) (fun _ _ _ h => h) (Or.inl ⟨by rfl, ?_⟩) ?_ ?_
  rotate_left
  · intro w'
    go_simp
    with_reducible rfl
  rotate_left
  · simp only [nrm]
    rfl
  refine done_ (done_of HT_.out (by kernel_rfl)) ?_
  clear HT_ HW_ hHeld
  go_wp2
  go_ret2
  exact ⟨_, rfl, (((H.out.pick 1 rfl).rest.pick 1 rfl).rest.pick 1 rfl).rest⟩
end Go.Proofs.Ytelfiegocdjnoaa.Ar
