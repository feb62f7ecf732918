/- The walk of PagesGives. No condition. -/
import Derived.Test.YtelfiegocdjnoaaGv0
import Derived.Test.YtelfiegocdjnoaaHe3
import Derived.Test.YtelfiegocdjnoaaHe4
import Derived.Test.YtelfiegocdjnoaaPw3
import Derived.Test.YtelfiegocdjnoaaSp0
import Derived.Test.YtelfiegocdjnoaaMrF0
import Derived.Test.YtelfiegocdjnoaaMrF2
import Derived.Test.YtelfiegocdjnoaaMrF1
namespace Go.Proofs.Ytelfiegocdjnoaa.Ar
open Go Go.RowKit Go.Proofs.Ytelfiegocdjnoaa.Sep Go.Proofs.Ytelfiegocdjnoaa.Pg Go.Proofs.YtelfiegocdjnoaaW.PrintWords Go.Proofs.YtelfiegocdjnoaaW.PrintLast Go.Proofs.YtelfiegocdjnoaaW.PrintMore Go.Proofs.Ytelfiegocdjnoaa.Q
set_option linter.unusedVariables false
set_option linter.unusedSimpArgs false
set_option maxHeartbeats 8000000
set_option maxRecDepth 100000
def lg.T1 : Bool × List (List Nat × List Nat) := (true, [([], []), ([0], [0]), ([], []), ([2], [2]), ([], []), ([4], [4]), ([], []), ([6], [6]), ([], []), ([], []), ([8, 1, 0, 1, 8, 9], [1, 8]), ([3, 10, 0, 1, 2, 3, 8, 9, 10], [3]), ([9, 5, 11, 0, 1, 2, 3, 4, 5, 8, 9, 10, 11], [5, 9]), ([7, 12, 0, 1, 2, 3, 4, 5, 6, 7, 8, 9, 10, 11, 12], [7])])
def lg.B1 : List Nat := [0, 1, 0, 4, 0, 16, 0, 64, 0, 0, 771, 1807, 3903, 8191]
theorem lg.tab1 : rtab .any (opsOf Try.f5 1) = lg.T1 := by kernel_rfl
theorem lg.bits1 : waitsOk lg.T1.2 lg.B1 = true := by kernel_rfl
def lg.T6 : Bool × List (List Nat × List Nat) := (true, [([], []), ([0], [0]), ([1], [1]), ([2], [2]), ([3], [3]), ([], []), ([], []), ([6, 4], [6]), ([], []), ([4, 5, 7, 8, 7], [4, 5, 7, 8]), ([9], [9]), ([10], [10]), ([10], [10]), ([11, 9, 0, 1, 2, 3, 4, 5, 6, 7, 8, 9, 10, 11], [11]), ([12, 13, 0, 1, 2, 3, 4, 5, 6, 7, 8, 9, 10, 11, 12, 13], [12])])
def lg.B6 : List Nat := [0, 1, 3, 7, 15, 0, 0, 95, 0, 511, 1023, 2047, 2047, 4095, 16383]
theorem lg.tab6 : rtab .any (opsOf Try.f5 6) = lg.T6 := by kernel_rfl
theorem lg.bits6 : waitsOk lg.T6.2 lg.B6 = true := by kernel_rfl
def lg.T17 : Bool × List (List Nat × List Nat) := (true, [([], []), ([0], [0]), ([1], [1]), ([2], [2]), ([], []), ([4], [4]), ([5], [5]), ([6], [6]), ([], []), ([7, 8], [7, 8]), ([3, 9, 9], [3, 9]), ([10], [10]), ([11], [11]), ([11], [11]), ([12, 10, 0, 1, 2, 3, 4, 5, 6, 7, 8, 9, 10, 11, 12], [12]), ([13, 14, 0, 1, 2, 3, 4, 5, 6, 7, 8, 9, 10, 11, 12, 13, 14], [13])])
def lg.B17 : List Nat := [0, 1, 3, 7, 0, 16, 48, 112, 0, 496, 1023, 2047, 4095, 4095, 8191, 32767]
theorem lg.tab17 : rtab .any (opsOf Try.f5 17) = lg.T17 := by kernel_rfl
theorem lg.bits17 : waitsOk lg.T17.2 lg.B17 = true := by kernel_rfl
theorem law_gives (q1 q2 q3 page k c s o y b : Int) (w : World) :
    Calls Try.prog 5 #[.agg #[.int .i64 q1, .int .i64 q2, .int .i64 q3, .int .i64 page, .int .i64 k, .int .i64 c, .int .i64 s, .int .i64 o, .int .i64 y, .int .i64 b]] w fun e w' => e = .returned (.bool true) ∧ Below w.heap.size w w' := by
  have hgive : ∃ r1 r2 r3 r4 r5 f : Int, (∀ w : World, Calls Try.prog 31 #[.agg #[.int .i64 k, .int .i64 c, .int .i64 s, .int .i64 o, .int .i64 y], .int .i64 b] w fun e w' => e = .returned (.tuple #[.agg #[.int .i64 r1, .int .i64 r2, .int .i64 r3, .int .i64 r4, .int .i64 r5], .int .i64 f]) ∧ Below w.heap.size w w') ∧ (∀ w : World, Calls Try.prog 74 #[.agg #[.int .i64 k, .int .i64 c, .int .i64 s, .int .i64 o, .int .i64 y], .int .i64 b] w fun e w' => e = .returned (.tuple #[.agg #[.int .i64 r1, .int .i64 r2, .int .i64 r3, .int .i64 r4, .int .i64 r5], .int .i64 f]) ∧ Below w.heap.size w w') ∧ (f = 4 ∨ (f = 0 ∧ isE r1 r2 r3 r4 r5 = true)) := by
    by_cases hg : isE k c s o y = true ∧ (k = 1 ∨ k = 2) ∧ isE k c 0 0 b = true
    · exact ⟨k, c, 0, 0, b, 0, fun w => rgiven_yes hg.1 hg.2.1 hg.2.2 w, fun w => given_c hg.1 hg.2.1 hg.2.2 w, .inr ⟨rfl, hg.2.2⟩⟩
    · exact ⟨0, 0, 0, 0, 0, 4, fun w => rgiven_no hg w, fun w => given_no hg w, .inl rfl⟩
  obtain ⟨r1, r2, r3, r4, r5, f, hgr, hgv, hcase⟩ := hgive
  have HGR := Aside.mk hgr
  have HGV := Aside.mk hgv
  have HCASE := Aside.mk hcase
  have H := Aside.mk ((St.start w).alloc #[.int .i64 q1, .int .i64 q2, .int .i64 q3, .int .i64 page, .int .i64 k, .int .i64 c, .int .i64 s, .int .i64 o, .int .i64 y, .int .i64 b] 77)
  clear hgr hgv hcase
  go_enter Try.func5, Try.ntmps5
  go_wp2_with fail
  replace H := Aside.mk H.out.drew
  refine start_ (n := 14) (S := fun w' => w'.cell? ⟨w.heap.size, 0, none⟩ = some (.int .i64 q1) ∧ w'.cell? ⟨w.heap.size, 1, none⟩ = some (.int .i64 q2) ∧ w'.cell? ⟨w.heap.size, 2, none⟩ = some (.int .i64 q3) ∧ w'.cell? ⟨w.heap.size, 3, none⟩ = some (.int .i64 page) ∧ w'.cell? ⟨w.heap.size, 4, none⟩ = some (.int .i64 k) ∧ w'.cell? ⟨w.heap.size, 5, none⟩ = some (.int .i64 c) ∧ w'.cell? ⟨w.heap.size, 6, none⟩ = some (.int .i64 s) ∧ w'.cell? ⟨w.heap.size, 7, none⟩ = some (.int .i64 o) ∧ w'.cell? ⟨w.heap.size, 8, none⟩ = some (.int .i64 y) ∧ w'.cell? ⟨w.heap.size, 9, none⟩ = some (.int .i64 b)) (ds := []) (flg 14 0) (by kernel_rfl) rfl rfl (⟨H.out.cell 0, H.out.cell 1, H.out.cell 2, H.out.cell 3, H.out.cell 4, H.out.cell 5, H.out.cell 6, H.out.cell 7, H.out.cell 8, H.out.cell 9⟩) (fun hHeld => ?_)
  refine with_tabW lg.tab1 lg.bits1 (fun HT_ HW_ => ?_)
  refine pure_ (i := 0) (N := some 17) (v := ?_) (a' := ?_) (flg 14 1) rfl rfl (any_of HT_.out (by kernel_rfl)) (fun _ _ _ h => h) (Or.inl ⟨by rfl, ?_⟩) ?_ ?_
  rotate_left
  · intro w'
    go_simp
    with_reducible rfl
  rotate_left
  · simp only [nrm]
    rfl
  refine take_ (i := 1) (N := some 18) (v := ?_) (a' := ?_) (flg 14 3) rfl rfl (take_ofW HT_.out HW_.out (by kernel_rfl)) (fun _ _ _ h => h) (Or.inl ⟨by rfl, ?_⟩) hHeld ?_ ?_
  rotate_left
  · rintro w' ⟨s0_, s1_, s2_, s3_, s4_, s5_, s6_, s7_, s8_, s9_⟩
    go_simp
    with_reducible rfl
  rotate_left
  · simp only [nrm]
    rfl
  refine pure_ (i := 2) (N := some 19) (v := ?_) (a' := ?_) (flg 14 7) rfl rfl (any_of HT_.out (by kernel_rfl)) (fun _ _ _ h => h) (Or.inl ⟨by rfl, ?_⟩) ?_ ?_
  rotate_left
  · intro w'
    go_simp
    with_reducible rfl
  rotate_left
  · simp only [nrm]
    rfl
  refine take_ (i := 3) (N := some 20) (v := ?_) (a' := ?_) (flg 14 15) rfl rfl (take_ofW HT_.out HW_.out (by kernel_rfl)) (fun _ _ _ h => h) (Or.inl ⟨by rfl, ?_⟩) hHeld ?_ ?_
  rotate_left
  · rintro w' ⟨s0_, s1_, s2_, s3_, s4_, s5_, s6_, s7_, s8_, s9_⟩
    go_simp
    with_reducible rfl
  rotate_left
  · simp only [nrm]
    rfl
  refine pure_ (i := 4) (N := some 21) (v := ?_) (a' := ?_) (flg 14 31) rfl rfl (any_of HT_.out (by kernel_rfl)) (fun _ _ _ h => h) (Or.inl ⟨by rfl, ?_⟩) ?_ ?_
  rotate_left
  · intro w'
    go_simp
    with_reducible rfl
  rotate_left
  · simp only [nrm]
    rfl
  refine take_ (i := 5) (N := some 22) (v := ?_) (a' := ?_) (flg 14 63) rfl rfl (take_ofW HT_.out HW_.out (by kernel_rfl)) (fun _ _ _ h => h) (Or.inl ⟨by rfl, ?_⟩) hHeld ?_ ?_
  rotate_left
  · rintro w' ⟨s0_, s1_, s2_, s3_, s4_, s5_, s6_, s7_, s8_, s9_⟩
    go_simp
    with_reducible rfl
  rotate_left
  · simp only [nrm]
    rfl
  refine pure_ (i := 6) (N := some 23) (v := ?_) (a' := ?_) (flg 14 127) rfl rfl (any_of HT_.out (by kernel_rfl)) (fun _ _ _ h => h) (Or.inl ⟨by rfl, ?_⟩) ?_ ?_
  rotate_left
  · intro w'
    go_simp
    with_reducible rfl
  rotate_left
  · simp only [nrm]
    rfl
  refine take_ (i := 7) (N := some 24) (v := ?_) (a' := ?_) (flg 14 255) rfl rfl (take_ofW HT_.out HW_.out (by kernel_rfl)) (fun _ _ _ h => h) (Or.inl ⟨by rfl, ?_⟩) hHeld ?_ ?_
  rotate_left
  · rintro w' ⟨s0_, s1_, s2_, s3_, s4_, s5_, s6_, s7_, s8_, s9_⟩
    go_simp
    with_reducible rfl
  rotate_left
  · simp only [nrm]
    rfl
  refine join_ (σ := Nat × Nat) 4 (flg 14 1023) (fun g_ => [(3, .pointer (some ⟨g_.1, 0, none⟩)), (5, .pointer (some ⟨g_.2, 0, none⟩))]) (fun g_ w' => (w'.cell? ⟨w.heap.size, 0, none⟩ = some (.int .i64 q1) ∧ w'.cell? ⟨w.heap.size, 1, none⟩ = some (.int .i64 q2) ∧ w'.cell? ⟨w.heap.size, 2, none⟩ = some (.int .i64 q3) ∧ w'.cell? ⟨w.heap.size, 3, none⟩ = some (.int .i64 page) ∧ w'.cell? ⟨w.heap.size, 4, none⟩ = some (.int .i64 k) ∧ w'.cell? ⟨w.heap.size, 5, none⟩ = some (.int .i64 c) ∧ w'.cell? ⟨w.heap.size, 6, none⟩ = some (.int .i64 s) ∧ w'.cell? ⟨w.heap.size, 7, none⟩ = some (.int .i64 o) ∧ w'.cell? ⟨w.heap.size, 8, none⟩ = some (.int .i64 y) ∧ w'.cell? ⟨w.heap.size, 9, none⟩ = some (.int .i64 b)) ∧ St w w' (blk g_.1 #[.int .i64 0, .int .i64 0, .int .i64 0] 30 :: blk g_.2 #[.int .i64 0, .int .i64 0, .int .i64 0, .int .i64 0, .int .i64 0] 32 :: ([blk w.heap.size #[.int .i64 q1, .int .i64 q2, .int .i64 q3, .int .i64 page, .int .i64 k, .int .i64 c, .int .i64 s, .int .i64 o, .int .i64 y, .int .i64 b] 77]))) ?_ ?_
  rotate_left
  · intro hjoin
    simp only [putAll, nrm] at hjoin
    refine two_ (i := 8) (j := 9) (Ni := some 3) (Nj := some 5) (flg 14 511) (flg 14 767) rfl rfl rfl rfl (two_of HT_.out (by kernel_rfl)) (by decide) (by decide) (fun K hK => ?_) (fun K hK => ?_)
    · refine value_ (w1 := ?_) (v := ?_) (by rfl) rfl ?_ ?_
      rotate_left 2
      · go_simp
        constructor
        · rfl
        · rfl
      replace H := Aside.mk (H.out.alloc #[.int .i64 0, .int .i64 0, .int .i64 0] 30)
      refine hK.out _ _ ⟨(H.out.pick 1 rfl).cell 0, (H.out.pick 1 rfl).cell 1, (H.out.pick 1 rfl).cell 2, (H.out.pick 1 rfl).cell 3, (H.out.pick 1 rfl).cell 4, (H.out.pick 1 rfl).cell 5, (H.out.pick 1 rfl).cell 6, (H.out.pick 1 rfl).cell 7, (H.out.pick 1 rfl).cell 8, (H.out.pick 1 rfl).cell 9⟩ (fun hHeld => ?_)
      clear hK K
      refine norm_ (a' := ?_) ?_ ?_
      rotate_left
      · show Act.put _ (some 3) _ = _
        simp only [nrm]
        rfl
      refine one_ (i := 9) (N := some 5) (flg 14 1023) rfl rfl (one_of HT_.out (by kernel_rfl)) (by decide) (fun K hK => ?_)
      refine value_ (w1 := ?_) (v := ?_) (by rfl) rfl ?_ ?_
      rotate_left 2
      · go_simp
        constructor
        · rfl
        · rfl
      replace H := Aside.mk (H.out.alloc #[.int .i64 0, .int .i64 0, .int .i64 0, .int .i64 0, .int .i64 0] 32)
      refine hK.out _ _ ⟨(H.out.pick 2 rfl).cell 0, (H.out.pick 2 rfl).cell 1, (H.out.pick 2 rfl).cell 2, (H.out.pick 2 rfl).cell 3, (H.out.pick 2 rfl).cell 4, (H.out.pick 2 rfl).cell 5, (H.out.pick 2 rfl).cell 6, (H.out.pick 2 rfl).cell 7, (H.out.pick 2 rfl).cell 8, (H.out.pick 2 rfl).cell 9⟩ (fun hHeld => ?_)
      clear hK K
      refine norm_ (a' := ?_) ?_ ?_
      rotate_left
      · show Act.put _ (some 5) _ = _
        simp only [nrm]
        rfl
      have h9 := H.out.perm (.swap _ _ _)
      exact hjoin (_, _) _ ⟨hHeld, by simp at h9 ⊢; exact h9⟩
    · refine value_ (w1 := ?_) (v := ?_) (by rfl) rfl ?_ ?_
      rotate_left 2
      · go_simp
        constructor
        · rfl
        · rfl
      replace H := Aside.mk (H.out.alloc #[.int .i64 0, .int .i64 0, .int .i64 0, .int .i64 0, .int .i64 0] 32)
      refine hK.out _ _ ⟨(H.out.pick 1 rfl).cell 0, (H.out.pick 1 rfl).cell 1, (H.out.pick 1 rfl).cell 2, (H.out.pick 1 rfl).cell 3, (H.out.pick 1 rfl).cell 4, (H.out.pick 1 rfl).cell 5, (H.out.pick 1 rfl).cell 6, (H.out.pick 1 rfl).cell 7, (H.out.pick 1 rfl).cell 8, (H.out.pick 1 rfl).cell 9⟩ (fun hHeld => ?_)
      clear hK K
      refine norm_ (a' := ?_) ?_ ?_
      rotate_left
      · show Act.put _ (some 5) _ = _
        simp only [nrm]
        rfl
      refine one_ (i := 8) (N := some 3) (flg 14 1023) rfl rfl (one_of HT_.out (by kernel_rfl)) (by decide) (fun K hK => ?_)
      refine value_ (w1 := ?_) (v := ?_) (by rfl) rfl ?_ ?_
      rotate_left 2
      · go_simp
        constructor
        · rfl
        · rfl
      replace H := Aside.mk (H.out.alloc #[.int .i64 0, .int .i64 0, .int .i64 0] 30)
      refine hK.out _ _ ⟨(H.out.pick 2 rfl).cell 0, (H.out.pick 2 rfl).cell 1, (H.out.pick 2 rfl).cell 2, (H.out.pick 2 rfl).cell 3, (H.out.pick 2 rfl).cell 4, (H.out.pick 2 rfl).cell 5, (H.out.pick 2 rfl).cell 6, (H.out.pick 2 rfl).cell 7, (H.out.pick 2 rfl).cell 8, (H.out.pick 2 rfl).cell 9⟩ (fun hHeld => ?_)
      clear hK K
      refine norm_ (a' := ?_) ?_ ?_
      rotate_left
      · show Act.put _ (some 3) _ = _
        simp only [nrm]
        rfl
      have h9 := H.out
      exact hjoin (_, _) _ ⟨hHeld, by simp at h9 ⊢; exact h9⟩
  rintro ⟨g1_, g2_⟩ w4 ⟨hHeld, hst⟩
  replace H := Aside.mk hst
  clear hst
  refine norm_ (a' := ?_) ?_ ?_
  rotate_left
  · simp only [putAll, nrm]
    rfl
  refine one_ (i := 10) (N := none) (flg 14 2047) rfl rfl (one_of HT_.out (by kernel_rfl)) (by decide) (fun K hK => ?_)
  refine skip_ (by rfl) rfl (st_run_store (seg := [.int .i64 q1, .int .i64 q2, .int .i64 q3]) rfl rfl rfl rfl (Nat.le_of_ble_eq_true rfl) (by simp [Value.oneCell']) (H.out)) ?_
  have h8 := (H.out).setCells 0 [.int .i64 q1, .int .i64 q2, .int .i64 q3] (Nat.le_of_ble_eq_true rfl)
  generalize World.setCells _ _ _ _ = w5 at h8 ⊢
  replace H : Aside (St w w5 (blk g1_ #[.int .i64 q1, .int .i64 q2, .int .i64 q3] 30 :: blk g2_ #[.int .i64 0, .int .i64 0, .int .i64 0, .int .i64 0, .int .i64 0] 32 :: [blk w.heap.size #[.int .i64 q1, .int .i64 q2, .int .i64 q3, .int .i64 page, .int .i64 k, .int .i64 c, .int .i64 s, .int .i64 o, .int .i64 y, .int .i64 b] 77])) := Aside.mk (h8)
  clear h8
  refine hK.out _ _ ⟨(H.out.pick 2 rfl).cell 0, (H.out.pick 2 rfl).cell 1, (H.out.pick 2 rfl).cell 2, (H.out.pick 2 rfl).cell 3, (H.out.pick 2 rfl).cell 4, (H.out.pick 2 rfl).cell 5, (H.out.pick 2 rfl).cell 6, (H.out.pick 2 rfl).cell 7, (H.out.pick 2 rfl).cell 8, (H.out.pick 2 rfl).cell 9⟩ (fun hHeld => ?_)
  clear hK K
  refine pure_ (i := 11) (N := some 4) (v := ?_) (a' := ?_) (flg 14 4095) rfl rfl (any_of HT_.out (by kernel_rfl)) (fun _ _ _ h => h) (Or.inl ⟨by rfl, ?_⟩) ?_ ?_
  rotate_left
  · intro w'
    go_simp
    with_reducible rfl
  rotate_left
  · simp only [nrm]
    rfl
  refine one_ (i := 12) (N := none) (flg 14 8191) rfl rfl (one_of HT_.out (by kernel_rfl)) (by decide) (fun K hK => ?_)
  refine skip_ (by rfl) rfl (st_run_store (seg := [.int .i64 k, .int .i64 c, .int .i64 s, .int .i64 o, .int .i64 y]) rfl rfl rfl rfl (Nat.le_of_ble_eq_true rfl) (by simp [Value.oneCell']) (H.out.pick 1 rfl)) ?_
  have h8 := (H.out.pick 1 rfl).setCells 0 [.int .i64 k, .int .i64 c, .int .i64 s, .int .i64 o, .int .i64 y] (Nat.le_of_ble_eq_true rfl)
  generalize World.setCells _ _ _ _ = w6 at h8 ⊢
  replace H : Aside (St w w6 (blk g1_ #[.int .i64 q1, .int .i64 q2, .int .i64 q3] 30 :: blk g2_ #[.int .i64 k, .int .i64 c, .int .i64 s, .int .i64 o, .int .i64 y] 32 :: [blk w.heap.size #[.int .i64 q1, .int .i64 q2, .int .i64 q3, .int .i64 page, .int .i64 k, .int .i64 c, .int .i64 s, .int .i64 o, .int .i64 y, .int .i64 b] 77])) := Aside.mk (h8.order 2 [1, 0] rfl rfl)
  clear h8
  refine hK.out _ _ ⟨(H.out.pick 2 rfl).cell 0, (H.out.pick 2 rfl).cell 1, (H.out.pick 2 rfl).cell 2, (H.out.pick 2 rfl).cell 3, (H.out.pick 2 rfl).cell 4, (H.out.pick 2 rfl).cell 5, (H.out.pick 2 rfl).cell 6, (H.out.pick 2 rfl).cell 7, (H.out.pick 2 rfl).cell 8, (H.out.pick 2 rfl).cell 9⟩ (fun hHeld => ?_)
  clear hK K
  refine pure_ (i := 13) (N := some 6) (v := ?_) (a' := ?_) (flg 14 16383) rfl rfl (any_of HT_.out (by kernel_rfl)) (fun _ _ _ h => h) (Or.inl ⟨by rfl, ?_⟩) ?_ ?_
  rotate_left
  · intro w'
    go_simp
    with_reducible rfl
  rotate_left
  · simp only [nrm]
    rfl
  refine done_ (done_of HT_.out (by kernel_rfl)) ?_
  clear HT_ HW_ hHeld
  have y0 := H.out.cell 0
  have y1 := H.out.cell 1
  have y2 := H.out.cell 2
  have hP := pgs_lt q1
  have hT := thr_lt q2
  have HLAY := Aside.mk (fun w => lay_ q1 q2 q3 none 0 [] w (Kd.C_nil _ _) (by simp))
  have HXL := Aside.mk (show (List.replicate (128 + 64 * pgs q1) (0 : Int)).length = 128 + 64 * pgs q1 from List.length_replicate)
  have HX0 : Aside (∀ T, layX (pgs q1) T [] 0 (List.replicate (128 + 64 * pgs q1) 0) = List.replicate (128 + 64 * pgs q1) 0) := ⟨fun _ => rfl⟩
  have HP := Aside.mk hP
  have HT := Aside.mk hT
  have hlay := HLAY.out
  simp only [HX0.out] at hlay
  generalize hPP : pgs q1 = P at hlay HXL HP
  generalize hTT : thr q2 = T at hlay HT
  generalize List.replicate (128 + 64 * P) (0 : Int) = X at hlay HXL
  replace HLAY := Aside.mk hlay
  clear hP hT HX0 hlay hPP hTT
  go_wp2_with (first
    | (go_at_call 7; refine (HLAY.out _).mono ?_; rintro e w7 ⟨x, a, d, p, gD, gC, rfl, h7⟩; replace H : Aside (St w w7 (Fd x P T a d p gD gC 15 false X (.slice none 0 0) [] 0 (.slice none 0 0) [] 0 0 ++ [blk g2_ #[.int .i64 k, .int .i64 c, .int .i64 s, .int .i64 o, .int .i64 y] 32])) := Aside.mk ((((H.out.join h7).order 11 [0, 1, 2, 3, 4, 5, 6, 7, 9, 8, 10] rfl rfl).pick 9 rfl).rest.pick 9 rfl).rest; clear h7 y0 y1 y2 HLAY)
    | (go_at_call 8; refine (paged_ _).mono ?_; rintro e w8 ⟨rfl, hb⟩; replace H := Aside.mk (H.out.step hb); clear hb; have z0 := (H.out.pick 8 rfl).cell 0; have z1 := (H.out.pick 8 rfl).cell 1; have z2 := (H.out.pick 8 rfl).cell 2; have z3 := (H.out.pick 8 rfl).cell 3; have z4 := (H.out.pick 8 rfl).cell 4)
    | (go_at_call 31; refine (HGR.out _).mono ?_; rintro e w9 ⟨rfl, hb⟩; replace H : Aside (St w _ (Fd x P T a d p gD gC 15 false X (.slice none 0 0) [] 0 (.slice none 0 0) [] 0 0 ++ [blk g2_ #[.int .i64 k, .int .i64 c, .int .i64 s, .int .i64 o, .int .i64 y] 32, blk w9.heap.size #[.int .i64 r1, .int .i64 r2, .int .i64 r3, .int .i64 r4, .int .i64 r5] 32])) := Aside.mk (((H.out.step hb).alloc #[.int .i64 r1, .int .i64 r2, .int .i64 r3, .int .i64 r4, .int .i64 r5] 32).order 10 [1, 2, 3, 4, 5, 6, 7, 8, 9, 0] rfl rfl); clear hb z0 z1 z2 z3 z4))
  generalize w9.heap.size = g9 at H ⊢
  by_cases hn : page < 0
  · have HOUT := Aside.mk (show page < 0 ∨ (P : Int) + 1 ≤ page from .inl hn)
    have d0 : decide (page < 0) = true := by simp [hn]
    clear hn
    replace H := Aside.mk H.out.drew
    refine start_ (n := 15) (S := fun w' => w'.cell? ⟨x, 0, none⟩ = some (.int .i64 ((P : Int) + 1)) ∧ w'.cell? ⟨x, 1, none⟩ = some (.int .i64 ((T : Int) + 1)) ∧ w'.cell? ⟨x, 2, none⟩ = some (.int .i64 1) ∧ w'.cell? ⟨g2_, 0, none⟩ = some (.int .i64 k) ∧ w'.cell? ⟨g2_, 1, none⟩ = some (.int .i64 c) ∧ w'.cell? ⟨g2_, 2, none⟩ = some (.int .i64 s) ∧ w'.cell? ⟨g2_, 3, none⟩ = some (.int .i64 o) ∧ w'.cell? ⟨g2_, 4, none⟩ = some (.int .i64 y)) (ds := []) (flg 15 0) (by kernel_rfl) rfl rfl (⟨H.out.cell 0, H.out.cell 1, H.out.cell 2, (H.out.pick 8 rfl).cell 0, (H.out.pick 8 rfl).cell 1, (H.out.pick 8 rfl).cell 2, (H.out.pick 8 rfl).cell 3, (H.out.pick 8 rfl).cell 4⟩) (fun hHeld => ?_)
    refine with_tabW lg.tab6 lg.bits6 (fun HT_ HW_ => ?_)
    refine pure_ (i := 0) (N := some 43) (v := ?_) (a' := ?_) (flg 15 1) rfl rfl (any_of HT_.out (by kernel_rfl)) (fun _ _ _ h => h) (Or.inl ⟨by rfl, ?_⟩) ?_ ?_
    rotate_left
    · intro w'
      go_simp
      with_reducible rfl
    rotate_left
    · simp only [nrm]
      rfl
    refine pure_ (i := 1) (N := some 44) (v := ?_) (a' := ?_) (flg 15 3) rfl rfl (any_of HT_.out (by kernel_rfl)) (fun _ _ _ h => h) (Or.inl ⟨by rfl, ?_⟩) ?_ ?_
    rotate_left
    · intro w'
      go_simp
      with_reducible rfl
    rotate_left
    · simp only [nrm]
      rfl
    refine pure_ (i := 2) (N := some 45) (v := ?_) (a' := ?_) (flg 15 7) rfl rfl (any_of HT_.out (by kernel_rfl)) (fun _ _ _ h => h) (Or.inl ⟨by rfl, ?_⟩) ?_ ?_
    rotate_left
    · intro w'
      go_simp
      with_reducible rfl
    rotate_left
    · simp only [nrm]
      rfl
    refine take_ (i := 3) (N := some 46) (v := ?_) (a' := ?_) (flg 15 15) rfl rfl (take_ofW HT_.out HW_.out (by kernel_rfl)) (fun _ _ _ h => h) (Or.inl ⟨by rfl, ?_⟩) hHeld ?_ ?_
    rotate_left
    · rintro w' ⟨s0_, s1_, s2_, s3_, s4_, s5_, s6_, s7_⟩
      go_simp
      with_reducible rfl
    rotate_left
    · simp only [nrm]
      rfl
    refine pure_ (i := 5) (N := some 48) (v := ?_) (a' := ?_) (flg 15 47) rfl rfl (any_of HT_.out (by kernel_rfl)) (fun _ _ _ h => h) (Or.inl ⟨by rfl, ?_⟩) ?_ ?_
    rotate_left
    · intro w'
      go_simp
      with_reducible rfl
    rotate_left
    · simp only [nrm]
      rfl
    refine take_ (i := 6) (N := some 49) (v := ?_) (a' := ?_) (flg 15 111) rfl rfl (take_ofW HT_.out HW_.out (by kernel_rfl)) (fun _ _ _ h => h) (Or.inl ⟨by rfl, ?_⟩) hHeld ?_ ?_
    rotate_left
    · rintro w' ⟨s0_, s1_, s2_, s3_, s4_, s5_, s6_, s7_⟩
      go_simp
      with_reducible rfl
    rotate_left
    · simp only [nrm]
      rfl
    refine pure_ (i := 8) (N := some 51) (v := ?_) (a' := ?_) (flg 15 367) rfl rfl (any_of HT_.out (by kernel_rfl)) (fun _ _ _ h => h) (Or.inl ⟨by rfl, ?_⟩) ?_ ?_
    rotate_left
    · intro w'
      go_simp
      with_reducible rfl
    rotate_left
    · simp only [nrm]
      rfl
    refine one_ (i := 4) (N := some 47) (flg 15 383) rfl rfl (one_of HT_.out (by kernel_rfl)) (by decide) (fun K hK => ?_)
    refine goes_ Try.func10 (by kernel_rfl) rfl #[.agg #[.int .i64 ((P : Int) + 1), .int .i64 ((T : Int) + 1), .int .i64 1]] (by rfl) rfl rfl (by (try simp only [List.map_toArray, List.map_cons, List.map_nil]); first | done | rfl) ?_
    refine (windrowlaw09_plan.calls _ _ _ _ _ _ _ (show windrowlaw09_plan.f ((P : Int) + 1) ((T : Int) + 1) 1 = some ((P : Int) + 1, (T : Int) + 1, 1) from rfl)).mono ?_
    rintro e w2 ⟨rfl, hb⟩
    replace H := Aside.mk (H.out.step hb)
    clear hb
    refine ⟨_, rfl, ?_⟩
    refine hK.out _ _ ⟨H.out.cell 0, H.out.cell 1, H.out.cell 2, (H.out.pick 8 rfl).cell 0, (H.out.pick 8 rfl).cell 1, (H.out.pick 8 rfl).cell 2, (H.out.pick 8 rfl).cell 3, (H.out.pick 8 rfl).cell 4⟩ (fun hHeld => ?_)
    clear hK K
    refine norm_ (a' := ?_) ?_ ?_
    rotate_left
    · show Act.put _ (some 47) _ = _
      simp only [nrm]
      rfl
    refine one_ (i := 7) (N := some 50) (flg 15 511) rfl rfl (one_of HT_.out (by kernel_rfl)) (by decide) (fun K hK => ?_)
    refine goes_ Try.func33 (by kernel_rfl) rfl #[.agg #[.int .i64 k, .int .i64 c, .int .i64 s, .int .i64 o, .int .i64 y]] (by rfl) rfl rfl (by (try simp only [List.map_toArray, List.map_cons, List.map_nil]); first | done | rfl) ?_
    refine (windrowlaw09_entry.calls _ _ _ _ _ _ _ _ _ _ _ (show windrowlaw09_entry.f k c s o y = some (k, c, s, o, y) from rfl)).mono ?_
    rintro e w3 ⟨rfl, hb⟩
    replace H := Aside.mk (H.out.step hb)
    clear hb
    refine ⟨_, rfl, ?_⟩
    refine hK.out _ _ ⟨H.out.cell 0, H.out.cell 1, H.out.cell 2, (H.out.pick 8 rfl).cell 0, (H.out.pick 8 rfl).cell 1, (H.out.pick 8 rfl).cell 2, (H.out.pick 8 rfl).cell 3, (H.out.pick 8 rfl).cell 4⟩ (fun hHeld => ?_)
    clear hK K
    refine norm_ (a' := ?_) ?_ ?_
    rotate_left
    · show Act.put _ (some 50) _ = _
      simp only [nrm]
      rfl
    refine one_ (i := 9) (N := some 52) (flg 15 1023) rfl rfl (one_of HT_.out (by kernel_rfl)) (by decide) (fun K hK => ?_)
    refine goes_ Try.func32 (by kernel_rfl) rfl #[.agg #[.int .i64 ((P : Int) + 1), .int .i64 ((T : Int) + 1), .int .i64 1], .int .i64 page, .agg #[.int .i64 k, .int .i64 c, .int .i64 s, .int .i64 o, .int .i64 y], .int .i64 b] (by rfl) rfl rfl (by (try simp only [List.map_toArray, List.map_cons, List.map_nil]); first | done | rfl) ?_
    refine (newgive_out HP.out HT.out HGV.out HOUT.out H.out).mono ?_
    rintro e w5 ⟨rfl, h5⟩
    replace H : Aside (St w w5 (Fd x P T a d p gD gC 15 false X (.slice none 0 0) [] 0 (.slice none 0 0) [] 0 0 ++ [blk g2_ #[.int .i64 k, .int .i64 c, .int .i64 s, .int .i64 o, .int .i64 y] 32, blk g9 #[.int .i64 r1, .int .i64 r2, .int .i64 r3, .int .i64 r4, .int .i64 r5] 32])) := Aside.mk h5
    clear h5
    refine ⟨_, rfl, ?_⟩
    refine hK.out _ _ ⟨H.out.cell 0, H.out.cell 1, H.out.cell 2, (H.out.pick 8 rfl).cell 0, (H.out.pick 8 rfl).cell 1, (H.out.pick 8 rfl).cell 2, (H.out.pick 8 rfl).cell 3, (H.out.pick 8 rfl).cell 4⟩ (fun hHeld => ?_)
    clear hK K
    refine norm_ (a' := ?_) ?_ ?_
    rotate_left
    · show Act.put _ (some 52) _ = _
      simp only [nrm]
      rfl
    refine pure_ (i := 10) (N := some 42) (v := ?_) (a' := ?_) (flg 15 2047) rfl rfl (any_of HT_.out (by kernel_rfl)) (fun _ _ _ h => h) (Or.inl ⟨by rfl, ?_⟩) ?_ ?_
    rotate_left
    · intro w'
      go_simp
      with_reducible rfl
    rotate_left
    · simp only [nrm]
      rfl
    refine pure_ (i := 11) (N := some 53) (v := ?_) (a' := ?_) (flg 15 4095) rfl rfl (any_of HT_.out (by kernel_rfl)) (fun _ _ _ h => h) (Or.inl ⟨by rfl, ?_⟩) ?_ ?_
    rotate_left
    · intro w'
      go_simp
      with_reducible rfl
    rotate_left
    · simp only [nrm]
      rfl
    refine pure_ (i := 12) (N := some 54) (v := ?_) (a' := ?_) (flg 15 8191) rfl rfl (any_of HT_.out (by kernel_rfl)) (fun _ _ _ h => h) (Or.inl ⟨by rfl, ?_⟩) ?_ ?_
    rotate_left
    · intro w'
      go_simp
      with_reducible rfl
    rotate_left
    · simp only [nrm]
      rfl
    refine pure_ (i := 13) (N := some 11) (v := ?_) (a' := ?_) (flg 15 16383) rfl rfl (any_of HT_.out (by kernel_rfl)) (fun _ _ _ h => h) (Or.inl ⟨by rfl, ?_⟩) ?_ ?_
    rotate_left
    · intro w'
      go_simp
      with_reducible rfl
    rotate_left
    · simp only [nrm]
      rfl
    refine pure_ (i := 14) (N := some 12) (v := ?_) (a' := ?_) (flg 15 32767) rfl rfl (any_of HT_.out (by kernel_rfl)) (fun _ _ _ h => h) (Or.inl ⟨by rfl, ?_⟩) ?_ ?_
    rotate_left
    · intro w'
      go_simp
      with_reducible rfl
    rotate_left
    · simp only [nrm]
      rfl
    refine done_ (done_of HT_.out (by kernel_rfl)) ?_
    clear HT_ HW_ hHeld
    have x0 := H.out.cell 0
    go_wp2
    go_ret
    exact ⟨by simp, H.out.below⟩
  · obtain ⟨pn, rfl⟩ := Int.eq_ofNat_of_zero_le (show 0 ≤ page by omega)
    by_cases hq : (P : Int) + 1 ≤ pn
    · have HOUT := Aside.mk (show (pn : Int) < 0 ∨ (P : Int) + 1 ≤ pn from .inr hq)
      have d0 : decide ((pn : Int) < 0) = false := by simp
      have d1 : decide ((P : Int) + 1 ≤ (pn : Int)) = true := by simp; omega
      clear hn
      replace H := Aside.mk H.out.drew
      refine start_ (n := 15) (S := fun w' => w'.cell? ⟨x, 0, none⟩ = some (.int .i64 ((P : Int) + 1)) ∧ w'.cell? ⟨x, 1, none⟩ = some (.int .i64 ((T : Int) + 1)) ∧ w'.cell? ⟨x, 2, none⟩ = some (.int .i64 1) ∧ w'.cell? ⟨g2_, 0, none⟩ = some (.int .i64 k) ∧ w'.cell? ⟨g2_, 1, none⟩ = some (.int .i64 c) ∧ w'.cell? ⟨g2_, 2, none⟩ = some (.int .i64 s) ∧ w'.cell? ⟨g2_, 3, none⟩ = some (.int .i64 o) ∧ w'.cell? ⟨g2_, 4, none⟩ = some (.int .i64 y)) (ds := []) (flg 15 0) (by kernel_rfl) rfl rfl (⟨H.out.cell 0, H.out.cell 1, H.out.cell 2, (H.out.pick 8 rfl).cell 0, (H.out.pick 8 rfl).cell 1, (H.out.pick 8 rfl).cell 2, (H.out.pick 8 rfl).cell 3, (H.out.pick 8 rfl).cell 4⟩) (fun hHeld => ?_)
      refine with_tabW lg.tab6 lg.bits6 (fun HT_ HW_ => ?_)
      refine pure_ (i := 0) (N := some 43) (v := ?_) (a' := ?_) (flg 15 1) rfl rfl (any_of HT_.out (by kernel_rfl)) (fun _ _ _ h => h) (Or.inl ⟨by rfl, ?_⟩) ?_ ?_
      rotate_left
      · intro w'
        go_simp
        with_reducible rfl
      rotate_left
      · simp only [nrm]
        rfl
      refine pure_ (i := 1) (N := some 44) (v := ?_) (a' := ?_) (flg 15 3) rfl rfl (any_of HT_.out (by kernel_rfl)) (fun _ _ _ h => h) (Or.inl ⟨by rfl, ?_⟩) ?_ ?_
      rotate_left
      · intro w'
        go_simp
        with_reducible rfl
      rotate_left
      · simp only [nrm]
        rfl
      refine pure_ (i := 2) (N := some 45) (v := ?_) (a' := ?_) (flg 15 7) rfl rfl (any_of HT_.out (by kernel_rfl)) (fun _ _ _ h => h) (Or.inl ⟨by rfl, ?_⟩) ?_ ?_
      rotate_left
      · intro w'
        go_simp
        with_reducible rfl
      rotate_left
      · simp only [nrm]
        rfl
      refine take_ (i := 3) (N := some 46) (v := ?_) (a' := ?_) (flg 15 15) rfl rfl (take_ofW HT_.out HW_.out (by kernel_rfl)) (fun _ _ _ h => h) (Or.inl ⟨by rfl, ?_⟩) hHeld ?_ ?_
      rotate_left
      · rintro w' ⟨s0_, s1_, s2_, s3_, s4_, s5_, s6_, s7_⟩
        go_simp
        with_reducible rfl
      rotate_left
      · simp only [nrm]
        rfl
      refine pure_ (i := 5) (N := some 48) (v := ?_) (a' := ?_) (flg 15 47) rfl rfl (any_of HT_.out (by kernel_rfl)) (fun _ _ _ h => h) (Or.inl ⟨by rfl, ?_⟩) ?_ ?_
      rotate_left
      · intro w'
        go_simp
        with_reducible rfl
      rotate_left
      · simp only [nrm]
        rfl
      refine take_ (i := 6) (N := some 49) (v := ?_) (a' := ?_) (flg 15 111) rfl rfl (take_ofW HT_.out HW_.out (by kernel_rfl)) (fun _ _ _ h => h) (Or.inl ⟨by rfl, ?_⟩) hHeld ?_ ?_
      rotate_left
      · rintro w' ⟨s0_, s1_, s2_, s3_, s4_, s5_, s6_, s7_⟩
        go_simp
        with_reducible rfl
      rotate_left
      · simp only [nrm]
        rfl
      refine pure_ (i := 8) (N := some 51) (v := ?_) (a' := ?_) (flg 15 367) rfl rfl (any_of HT_.out (by kernel_rfl)) (fun _ _ _ h => h) (Or.inl ⟨by rfl, ?_⟩) ?_ ?_
      rotate_left
      · intro w'
        go_simp
        with_reducible rfl
      rotate_left
      · simp only [nrm]
        rfl
      refine one_ (i := 4) (N := some 47) (flg 15 383) rfl rfl (one_of HT_.out (by kernel_rfl)) (by decide) (fun K hK => ?_)
      refine goes_ Try.func10 (by kernel_rfl) rfl #[.agg #[.int .i64 ((P : Int) + 1), .int .i64 ((T : Int) + 1), .int .i64 1]] (by rfl) rfl rfl (by (try simp only [List.map_toArray, List.map_cons, List.map_nil]); first | done | rfl) ?_
      refine (windrowlaw09_plan.calls _ _ _ _ _ _ _ (show windrowlaw09_plan.f ((P : Int) + 1) ((T : Int) + 1) 1 = some ((P : Int) + 1, (T : Int) + 1, 1) from rfl)).mono ?_
      rintro e w2 ⟨rfl, hb⟩
      replace H := Aside.mk (H.out.step hb)
      clear hb
      refine ⟨_, rfl, ?_⟩
      refine hK.out _ _ ⟨H.out.cell 0, H.out.cell 1, H.out.cell 2, (H.out.pick 8 rfl).cell 0, (H.out.pick 8 rfl).cell 1, (H.out.pick 8 rfl).cell 2, (H.out.pick 8 rfl).cell 3, (H.out.pick 8 rfl).cell 4⟩ (fun hHeld => ?_)
      clear hK K
      refine norm_ (a' := ?_) ?_ ?_
      rotate_left
      · show Act.put _ (some 47) _ = _
        simp only [nrm]
        rfl
      refine one_ (i := 7) (N := some 50) (flg 15 511) rfl rfl (one_of HT_.out (by kernel_rfl)) (by decide) (fun K hK => ?_)
      refine goes_ Try.func33 (by kernel_rfl) rfl #[.agg #[.int .i64 k, .int .i64 c, .int .i64 s, .int .i64 o, .int .i64 y]] (by rfl) rfl rfl (by (try simp only [List.map_toArray, List.map_cons, List.map_nil]); first | done | rfl) ?_
      refine (windrowlaw09_entry.calls _ _ _ _ _ _ _ _ _ _ _ (show windrowlaw09_entry.f k c s o y = some (k, c, s, o, y) from rfl)).mono ?_
      rintro e w3 ⟨rfl, hb⟩
      replace H := Aside.mk (H.out.step hb)
      clear hb
      refine ⟨_, rfl, ?_⟩
      refine hK.out _ _ ⟨H.out.cell 0, H.out.cell 1, H.out.cell 2, (H.out.pick 8 rfl).cell 0, (H.out.pick 8 rfl).cell 1, (H.out.pick 8 rfl).cell 2, (H.out.pick 8 rfl).cell 3, (H.out.pick 8 rfl).cell 4⟩ (fun hHeld => ?_)
      clear hK K
      refine norm_ (a' := ?_) ?_ ?_
      rotate_left
      · show Act.put _ (some 50) _ = _
        simp only [nrm]
        rfl
      refine one_ (i := 9) (N := some 52) (flg 15 1023) rfl rfl (one_of HT_.out (by kernel_rfl)) (by decide) (fun K hK => ?_)
      refine goes_ Try.func32 (by kernel_rfl) rfl #[.agg #[.int .i64 ((P : Int) + 1), .int .i64 ((T : Int) + 1), .int .i64 1], .int .i64 (pn : Int), .agg #[.int .i64 k, .int .i64 c, .int .i64 s, .int .i64 o, .int .i64 y], .int .i64 b] (by rfl) rfl rfl (by (try simp only [List.map_toArray, List.map_cons, List.map_nil]); first | done | rfl) ?_
      refine (newgive_out HP.out HT.out HGV.out HOUT.out H.out).mono ?_
      rintro e w5 ⟨rfl, h5⟩
      replace H : Aside (St w w5 (Fd x P T a d p gD gC 15 false X (.slice none 0 0) [] 0 (.slice none 0 0) [] 0 0 ++ [blk g2_ #[.int .i64 k, .int .i64 c, .int .i64 s, .int .i64 o, .int .i64 y] 32, blk g9 #[.int .i64 r1, .int .i64 r2, .int .i64 r3, .int .i64 r4, .int .i64 r5] 32])) := Aside.mk h5
      clear h5
      refine ⟨_, rfl, ?_⟩
      refine hK.out _ _ ⟨H.out.cell 0, H.out.cell 1, H.out.cell 2, (H.out.pick 8 rfl).cell 0, (H.out.pick 8 rfl).cell 1, (H.out.pick 8 rfl).cell 2, (H.out.pick 8 rfl).cell 3, (H.out.pick 8 rfl).cell 4⟩ (fun hHeld => ?_)
      clear hK K
      refine norm_ (a' := ?_) ?_ ?_
      rotate_left
      · show Act.put _ (some 52) _ = _
        simp only [nrm]
        rfl
      refine pure_ (i := 10) (N := some 42) (v := ?_) (a' := ?_) (flg 15 2047) rfl rfl (any_of HT_.out (by kernel_rfl)) (fun _ _ _ h => h) (Or.inl ⟨by rfl, ?_⟩) ?_ ?_
      rotate_left
      · intro w'
        go_simp
        with_reducible rfl
      rotate_left
      · simp only [nrm]
        rfl
      refine pure_ (i := 11) (N := some 53) (v := ?_) (a' := ?_) (flg 15 4095) rfl rfl (any_of HT_.out (by kernel_rfl)) (fun _ _ _ h => h) (Or.inl ⟨by rfl, ?_⟩) ?_ ?_
      rotate_left
      · intro w'
        go_simp
        with_reducible rfl
      rotate_left
      · simp only [nrm]
        rfl
      refine pure_ (i := 12) (N := some 54) (v := ?_) (a' := ?_) (flg 15 8191) rfl rfl (any_of HT_.out (by kernel_rfl)) (fun _ _ _ h => h) (Or.inl ⟨by rfl, ?_⟩) ?_ ?_
      rotate_left
      · intro w'
        go_simp
        with_reducible rfl
      rotate_left
      · simp only [nrm]
        rfl
      refine pure_ (i := 13) (N := some 11) (v := ?_) (a' := ?_) (flg 15 16383) rfl rfl (any_of HT_.out (by kernel_rfl)) (fun _ _ _ h => h) (Or.inl ⟨by rfl, ?_⟩) ?_ ?_
      rotate_left
      · intro w'
        go_simp
        with_reducible rfl
      rotate_left
      · simp only [nrm]
        rfl
      refine pure_ (i := 14) (N := some 12) (v := ?_) (a' := ?_) (flg 15 32767) rfl rfl (any_of HT_.out (by kernel_rfl)) (fun _ _ _ h => h) (Or.inl ⟨by rfl, ?_⟩) ?_ ?_
      rotate_left
      · intro w'
        go_simp
        with_reducible rfl
      rotate_left
      · simp only [nrm]
        rfl
      refine done_ (done_of HT_.out (by kernel_rfl)) ?_
      clear HT_ HW_ hHeld
      have x0 := H.out.cell 0
      go_wp2
      go_ret
      exact ⟨by simp, H.out.below⟩
    · have d0 : decide ((pn : Int) < 0) = false := by simp
      have d1 : decide ((P : Int) + 1 ≤ (pn : Int)) = false := by simp; omega
      have HPN := Aside.mk (show (pn : Int) < (P : Int) + 1 by omega)
      clear hn hq
      rcases HCASE with ⟨hc | ⟨hc, hw⟩⟩
      · subst hc
        replace H := Aside.mk H.out.drew
        refine start_ (n := 15) (S := fun w' => w'.cell? ⟨x, 0, none⟩ = some (.int .i64 ((P : Int) + 1)) ∧ w'.cell? ⟨x, 1, none⟩ = some (.int .i64 ((T : Int) + 1)) ∧ w'.cell? ⟨x, 2, none⟩ = some (.int .i64 1) ∧ w'.cell? ⟨g2_, 0, none⟩ = some (.int .i64 k) ∧ w'.cell? ⟨g2_, 1, none⟩ = some (.int .i64 c) ∧ w'.cell? ⟨g2_, 2, none⟩ = some (.int .i64 s) ∧ w'.cell? ⟨g2_, 3, none⟩ = some (.int .i64 o) ∧ w'.cell? ⟨g2_, 4, none⟩ = some (.int .i64 y)) (ds := []) (flg 15 0) (by kernel_rfl) rfl rfl (⟨H.out.cell 0, H.out.cell 1, H.out.cell 2, (H.out.pick 8 rfl).cell 0, (H.out.pick 8 rfl).cell 1, (H.out.pick 8 rfl).cell 2, (H.out.pick 8 rfl).cell 3, (H.out.pick 8 rfl).cell 4⟩) (fun hHeld => ?_)
        refine with_tabW lg.tab6 lg.bits6 (fun HT_ HW_ => ?_)
        refine pure_ (i := 0) (N := some 43) (v := ?_) (a' := ?_) (flg 15 1) rfl rfl (any_of HT_.out (by kernel_rfl)) (fun _ _ _ h => h) (Or.inl ⟨by rfl, ?_⟩) ?_ ?_
        rotate_left
        · intro w'
          go_simp
          with_reducible rfl
        rotate_left
        · simp only [nrm]
          rfl
        refine pure_ (i := 1) (N := some 44) (v := ?_) (a' := ?_) (flg 15 3) rfl rfl (any_of HT_.out (by kernel_rfl)) (fun _ _ _ h => h) (Or.inl ⟨by rfl, ?_⟩) ?_ ?_
        rotate_left
        · intro w'
          go_simp
          with_reducible rfl
        rotate_left
        · simp only [nrm]
          rfl
        refine pure_ (i := 2) (N := some 45) (v := ?_) (a' := ?_) (flg 15 7) rfl rfl (any_of HT_.out (by kernel_rfl)) (fun _ _ _ h => h) (Or.inl ⟨by rfl, ?_⟩) ?_ ?_
        rotate_left
        · intro w'
          go_simp
          with_reducible rfl
        rotate_left
        · simp only [nrm]
          rfl
        refine take_ (i := 3) (N := some 46) (v := ?_) (a' := ?_) (flg 15 15) rfl rfl (take_ofW HT_.out HW_.out (by kernel_rfl)) (fun _ _ _ h => h) (Or.inl ⟨by rfl, ?_⟩) hHeld ?_ ?_
        rotate_left
        · rintro w' ⟨s0_, s1_, s2_, s3_, s4_, s5_, s6_, s7_⟩
          go_simp
          with_reducible rfl
        rotate_left
        · simp only [nrm]
          rfl
        refine pure_ (i := 5) (N := some 48) (v := ?_) (a' := ?_) (flg 15 47) rfl rfl (any_of HT_.out (by kernel_rfl)) (fun _ _ _ h => h) (Or.inl ⟨by rfl, ?_⟩) ?_ ?_
        rotate_left
        · intro w'
          go_simp
          with_reducible rfl
        rotate_left
        · simp only [nrm]
          rfl
        refine take_ (i := 6) (N := some 49) (v := ?_) (a' := ?_) (flg 15 111) rfl rfl (take_ofW HT_.out HW_.out (by kernel_rfl)) (fun _ _ _ h => h) (Or.inl ⟨by rfl, ?_⟩) hHeld ?_ ?_
        rotate_left
        · rintro w' ⟨s0_, s1_, s2_, s3_, s4_, s5_, s6_, s7_⟩
          go_simp
          with_reducible rfl
        rotate_left
        · simp only [nrm]
          rfl
        refine pure_ (i := 8) (N := some 51) (v := ?_) (a' := ?_) (flg 15 367) rfl rfl (any_of HT_.out (by kernel_rfl)) (fun _ _ _ h => h) (Or.inl ⟨by rfl, ?_⟩) ?_ ?_
        rotate_left
        · intro w'
          go_simp
          with_reducible rfl
        rotate_left
        · simp only [nrm]
          rfl
        refine one_ (i := 4) (N := some 47) (flg 15 383) rfl rfl (one_of HT_.out (by kernel_rfl)) (by decide) (fun K hK => ?_)
        refine goes_ Try.func10 (by kernel_rfl) rfl #[.agg #[.int .i64 ((P : Int) + 1), .int .i64 ((T : Int) + 1), .int .i64 1]] (by rfl) rfl rfl (by (try simp only [List.map_toArray, List.map_cons, List.map_nil]); first | done | rfl) ?_
        refine (windrowlaw09_plan.calls _ _ _ _ _ _ _ (show windrowlaw09_plan.f ((P : Int) + 1) ((T : Int) + 1) 1 = some ((P : Int) + 1, (T : Int) + 1, 1) from rfl)).mono ?_
        rintro e w2 ⟨rfl, hb⟩
        replace H := Aside.mk (H.out.step hb)
        clear hb
        refine ⟨_, rfl, ?_⟩
        refine hK.out _ _ ⟨H.out.cell 0, H.out.cell 1, H.out.cell 2, (H.out.pick 8 rfl).cell 0, (H.out.pick 8 rfl).cell 1, (H.out.pick 8 rfl).cell 2, (H.out.pick 8 rfl).cell 3, (H.out.pick 8 rfl).cell 4⟩ (fun hHeld => ?_)
        clear hK K
        refine norm_ (a' := ?_) ?_ ?_
        rotate_left
        · show Act.put _ (some 47) _ = _
          simp only [nrm]
          rfl
        refine one_ (i := 7) (N := some 50) (flg 15 511) rfl rfl (one_of HT_.out (by kernel_rfl)) (by decide) (fun K hK => ?_)
        refine goes_ Try.func33 (by kernel_rfl) rfl #[.agg #[.int .i64 k, .int .i64 c, .int .i64 s, .int .i64 o, .int .i64 y]] (by rfl) rfl rfl (by (try simp only [List.map_toArray, List.map_cons, List.map_nil]); first | done | rfl) ?_
        refine (windrowlaw09_entry.calls _ _ _ _ _ _ _ _ _ _ _ (show windrowlaw09_entry.f k c s o y = some (k, c, s, o, y) from rfl)).mono ?_
        rintro e w3 ⟨rfl, hb⟩
        replace H := Aside.mk (H.out.step hb)
        clear hb
        refine ⟨_, rfl, ?_⟩
        refine hK.out _ _ ⟨H.out.cell 0, H.out.cell 1, H.out.cell 2, (H.out.pick 8 rfl).cell 0, (H.out.pick 8 rfl).cell 1, (H.out.pick 8 rfl).cell 2, (H.out.pick 8 rfl).cell 3, (H.out.pick 8 rfl).cell 4⟩ (fun hHeld => ?_)
        clear hK K
        refine norm_ (a' := ?_) ?_ ?_
        rotate_left
        · show Act.put _ (some 50) _ = _
          simp only [nrm]
          rfl
        refine one_ (i := 9) (N := some 52) (flg 15 1023) rfl rfl (one_of HT_.out (by kernel_rfl)) (by decide) (fun K hK => ?_)
        refine goes_ Try.func32 (by kernel_rfl) rfl #[.agg #[.int .i64 ((P : Int) + 1), .int .i64 ((T : Int) + 1), .int .i64 1], .int .i64 (pn : Int), .agg #[.int .i64 k, .int .i64 c, .int .i64 s, .int .i64 o, .int .i64 y], .int .i64 b] (by rfl) rfl rfl (by (try simp only [List.map_toArray, List.map_cons, List.map_nil]); first | done | rfl) ?_
        refine (newgive_err HP.out HT.out HGV.out (Int.natCast_nonneg _) HPN.out H.out).mono ?_
        rintro e w5 ⟨rfl, h5⟩
        replace H : Aside (St w w5 (Fd x P T a d p gD gC 15 false X (.slice none 0 0) [] 0 (.slice none 0 0) [] 0 0 ++ [blk g2_ #[.int .i64 k, .int .i64 c, .int .i64 s, .int .i64 o, .int .i64 y] 32, blk g9 #[.int .i64 r1, .int .i64 r2, .int .i64 r3, .int .i64 r4, .int .i64 r5] 32])) := Aside.mk h5
        clear h5
        refine ⟨_, rfl, ?_⟩
        refine hK.out _ _ ⟨H.out.cell 0, H.out.cell 1, H.out.cell 2, (H.out.pick 8 rfl).cell 0, (H.out.pick 8 rfl).cell 1, (H.out.pick 8 rfl).cell 2, (H.out.pick 8 rfl).cell 3, (H.out.pick 8 rfl).cell 4⟩ (fun hHeld => ?_)
        clear hK K
        refine norm_ (a' := ?_) ?_ ?_
        rotate_left
        · show Act.put _ (some 52) _ = _
          simp only [nrm]
          rfl
        refine pure_ (i := 10) (N := some 42) (v := ?_) (a' := ?_) (flg 15 2047) rfl rfl (any_of HT_.out (by kernel_rfl)) (fun _ _ _ h => h) (Or.inl ⟨by rfl, ?_⟩) ?_ ?_
        rotate_left
        · intro w'
          go_simp
          with_reducible rfl
        rotate_left
        · simp only [nrm]
          rfl
        refine pure_ (i := 11) (N := some 53) (v := ?_) (a' := ?_) (flg 15 4095) rfl rfl (any_of HT_.out (by kernel_rfl)) (fun _ _ _ h => h) (Or.inl ⟨by rfl, ?_⟩) ?_ ?_
        rotate_left
        · intro w'
          go_simp
          with_reducible rfl
        rotate_left
        · simp only [nrm]
          rfl
        refine pure_ (i := 12) (N := some 54) (v := ?_) (a' := ?_) (flg 15 8191) rfl rfl (any_of HT_.out (by kernel_rfl)) (fun _ _ _ h => h) (Or.inl ⟨by rfl, ?_⟩) ?_ ?_
        rotate_left
        · intro w'
          go_simp
          with_reducible rfl
        rotate_left
        · simp only [nrm]
          rfl
        refine pure_ (i := 13) (N := some 11) (v := ?_) (a' := ?_) (flg 15 16383) rfl rfl (any_of HT_.out (by kernel_rfl)) (fun _ _ _ h => h) (Or.inl ⟨by rfl, ?_⟩) ?_ ?_
        rotate_left
        · intro w'
          go_simp
          with_reducible rfl
        rotate_left
        · simp only [nrm]
          rfl
        refine pure_ (i := 14) (N := some 12) (v := ?_) (a' := ?_) (flg 15 32767) rfl rfl (any_of HT_.out (by kernel_rfl)) (fun _ _ _ h => h) (Or.inl ⟨by rfl, ?_⟩) ?_ ?_
        rotate_left
        · intro w'
          go_simp
          with_reducible rfl
        rotate_left
        · simp only [nrm]
          rfl
        refine done_ (done_of HT_.out (by kernel_rfl)) ?_
        clear HT_ HW_ hHeld
        have x0 := H.out.cell 0
        go_wp2
        go_ret
        exact ⟨by simp, H.out.below⟩
      · subst hc
        have HCD := Aside.mk (coded_ hw)
        have HENC := Aside.mk (encR 0 r1 r2 r3 r4 r5)
        have henc := HENC.out
        rw [if_pos hw] at henc
        replace HENC := Aside.mk henc
        have hj : adr P T 0 pn < X.length := by rw [HXL.out]; exact adr_lt HP.out HT.out (by have := HPN.out; omega) (by decide)
        have HJ := Aside.mk hj
        have HN := Aside.mk (show X.length ≤ 4096 by rw [HXL.out]; have := HP.out; omega)
        have HPE := Aside.mk (pent_ P T pn HP.out HT.out (by have := HPN.out; omega))
        generalize wordOf r1 r2 r3 r4 r5 = wd at HCD HENC
        have hng := fun (w' : World) (h : St w w' (Fd x P T a d p gD gC 15 false X (.slice none 0 0) [] 0 (.slice none 0 0) [] 0 0 ++ [blk g2_ #[.int .i64 k, .int .i64 c, .int .i64 s, .int .i64 o, .int .i64 y] 32, blk g9 #[.int .i64 r1, .int .i64 r2, .int .i64 r3, .int .i64 r4, .int .i64 r5] 32])) => newgive_yes HP.out HT.out HGV.out HCD.out (Int.natCast_nonneg pn) HPN.out h
        simp only [Int.toNat_natCast] at hng
        replace hng := Aside.mk hng
        generalize adr P T 0 pn = j at hng HJ HPE
        clear hw henc hj
        replace H := Aside.mk H.out.drew
        refine start_ (n := 15) (S := fun w' => w'.cell? ⟨x, 0, none⟩ = some (.int .i64 ((P : Int) + 1)) ∧ w'.cell? ⟨x, 1, none⟩ = some (.int .i64 ((T : Int) + 1)) ∧ w'.cell? ⟨x, 2, none⟩ = some (.int .i64 1) ∧ w'.cell? ⟨g2_, 0, none⟩ = some (.int .i64 k) ∧ w'.cell? ⟨g2_, 1, none⟩ = some (.int .i64 c) ∧ w'.cell? ⟨g2_, 2, none⟩ = some (.int .i64 s) ∧ w'.cell? ⟨g2_, 3, none⟩ = some (.int .i64 o) ∧ w'.cell? ⟨g2_, 4, none⟩ = some (.int .i64 y)) (ds := []) (flg 15 0) (by kernel_rfl) rfl rfl (⟨H.out.cell 0, H.out.cell 1, H.out.cell 2, (H.out.pick 8 rfl).cell 0, (H.out.pick 8 rfl).cell 1, (H.out.pick 8 rfl).cell 2, (H.out.pick 8 rfl).cell 3, (H.out.pick 8 rfl).cell 4⟩) (fun hHeld => ?_)
        refine with_tabW lg.tab6 lg.bits6 (fun HT_ HW_ => ?_)
        refine pure_ (i := 0) (N := some 43) (v := ?_) (a' := ?_) (flg 15 1) rfl rfl (any_of HT_.out (by kernel_rfl)) (fun _ _ _ h => h) (Or.inl ⟨by rfl, ?_⟩) ?_ ?_
        rotate_left
        · intro w'
          go_simp
          with_reducible rfl
        rotate_left
        · simp only [nrm]
          rfl
        refine pure_ (i := 1) (N := some 44) (v := ?_) (a' := ?_) (flg 15 3) rfl rfl (any_of HT_.out (by kernel_rfl)) (fun _ _ _ h => h) (Or.inl ⟨by rfl, ?_⟩) ?_ ?_
        rotate_left
        · intro w'
          go_simp
          with_reducible rfl
        rotate_left
        · simp only [nrm]
          rfl
        refine pure_ (i := 2) (N := some 45) (v := ?_) (a' := ?_) (flg 15 7) rfl rfl (any_of HT_.out (by kernel_rfl)) (fun _ _ _ h => h) (Or.inl ⟨by rfl, ?_⟩) ?_ ?_
        rotate_left
        · intro w'
          go_simp
          with_reducible rfl
        rotate_left
        · simp only [nrm]
          rfl
        refine take_ (i := 3) (N := some 46) (v := ?_) (a' := ?_) (flg 15 15) rfl rfl (take_ofW HT_.out HW_.out (by kernel_rfl)) (fun _ _ _ h => h) (Or.inl ⟨by rfl, ?_⟩) hHeld ?_ ?_
        rotate_left
        · rintro w' ⟨s0_, s1_, s2_, s3_, s4_, s5_, s6_, s7_⟩
          go_simp
          with_reducible rfl
        rotate_left
        · simp only [nrm]
          rfl
        refine pure_ (i := 5) (N := some 48) (v := ?_) (a' := ?_) (flg 15 47) rfl rfl (any_of HT_.out (by kernel_rfl)) (fun _ _ _ h => h) (Or.inl ⟨by rfl, ?_⟩) ?_ ?_
        rotate_left
        · intro w'
          go_simp
          with_reducible rfl
        rotate_left
        · simp only [nrm]
          rfl
        refine take_ (i := 6) (N := some 49) (v := ?_) (a' := ?_) (flg 15 111) rfl rfl (take_ofW HT_.out HW_.out (by kernel_rfl)) (fun _ _ _ h => h) (Or.inl ⟨by rfl, ?_⟩) hHeld ?_ ?_
        rotate_left
        · rintro w' ⟨s0_, s1_, s2_, s3_, s4_, s5_, s6_, s7_⟩
          go_simp
          with_reducible rfl
        rotate_left
        · simp only [nrm]
          rfl
        refine pure_ (i := 8) (N := some 51) (v := ?_) (a' := ?_) (flg 15 367) rfl rfl (any_of HT_.out (by kernel_rfl)) (fun _ _ _ h => h) (Or.inl ⟨by rfl, ?_⟩) ?_ ?_
        rotate_left
        · intro w'
          go_simp
          with_reducible rfl
        rotate_left
        · simp only [nrm]
          rfl
        refine one_ (i := 4) (N := some 47) (flg 15 383) rfl rfl (one_of HT_.out (by kernel_rfl)) (by decide) (fun K hK => ?_)
        refine goes_ Try.func10 (by kernel_rfl) rfl #[.agg #[.int .i64 ((P : Int) + 1), .int .i64 ((T : Int) + 1), .int .i64 1]] (by rfl) rfl rfl (by (try simp only [List.map_toArray, List.map_cons, List.map_nil]); first | done | rfl) ?_
        refine (windrowlaw09_plan.calls _ _ _ _ _ _ _ (show windrowlaw09_plan.f ((P : Int) + 1) ((T : Int) + 1) 1 = some ((P : Int) + 1, (T : Int) + 1, 1) from rfl)).mono ?_
        rintro e w2 ⟨rfl, hb⟩
        replace H := Aside.mk (H.out.step hb)
        clear hb
        refine ⟨_, rfl, ?_⟩
        refine hK.out _ _ ⟨H.out.cell 0, H.out.cell 1, H.out.cell 2, (H.out.pick 8 rfl).cell 0, (H.out.pick 8 rfl).cell 1, (H.out.pick 8 rfl).cell 2, (H.out.pick 8 rfl).cell 3, (H.out.pick 8 rfl).cell 4⟩ (fun hHeld => ?_)
        clear hK K
        refine norm_ (a' := ?_) ?_ ?_
        rotate_left
        · show Act.put _ (some 47) _ = _
          simp only [nrm]
          rfl
        refine one_ (i := 7) (N := some 50) (flg 15 511) rfl rfl (one_of HT_.out (by kernel_rfl)) (by decide) (fun K hK => ?_)
        refine goes_ Try.func33 (by kernel_rfl) rfl #[.agg #[.int .i64 k, .int .i64 c, .int .i64 s, .int .i64 o, .int .i64 y]] (by rfl) rfl rfl (by (try simp only [List.map_toArray, List.map_cons, List.map_nil]); first | done | rfl) ?_
        refine (windrowlaw09_entry.calls _ _ _ _ _ _ _ _ _ _ _ (show windrowlaw09_entry.f k c s o y = some (k, c, s, o, y) from rfl)).mono ?_
        rintro e w3 ⟨rfl, hb⟩
        replace H := Aside.mk (H.out.step hb)
        clear hb
        refine ⟨_, rfl, ?_⟩
        refine hK.out _ _ ⟨H.out.cell 0, H.out.cell 1, H.out.cell 2, (H.out.pick 8 rfl).cell 0, (H.out.pick 8 rfl).cell 1, (H.out.pick 8 rfl).cell 2, (H.out.pick 8 rfl).cell 3, (H.out.pick 8 rfl).cell 4⟩ (fun hHeld => ?_)
        clear hK K
        refine norm_ (a' := ?_) ?_ ?_
        rotate_left
        · show Act.put _ (some 50) _ = _
          simp only [nrm]
          rfl
        refine one_ (i := 9) (N := some 52) (flg 15 1023) rfl rfl (one_of HT_.out (by kernel_rfl)) (by decide) (fun K hK => ?_)
        refine goes_ Try.func32 (by kernel_rfl) rfl #[.agg #[.int .i64 ((P : Int) + 1), .int .i64 ((T : Int) + 1), .int .i64 1], .int .i64 (pn : Int), .agg #[.int .i64 k, .int .i64 c, .int .i64 s, .int .i64 o, .int .i64 y], .int .i64 b] (by rfl) rfl rfl (by (try simp only [List.map_toArray, List.map_cons, List.map_nil]); first | done | rfl) ?_
        refine (hng.out _ H.out).mono ?_
        rintro e w5 ⟨g, rfl, h5⟩
        replace H : Aside (St w w5 (Are p a gC 15 false X (.slice none 0 0) [] 0 0 ++ gvB g (j : Nat) wd false :: [fdB x P T a d p, daB d gD X.length (.slice none 0 0) 0, blk gD (U X).toArray 22, row 67 7 (.slice none 0 0) 0 [], blk g2_ #[.int .i64 k, .int .i64 c, .int .i64 s, .int .i64 o, .int .i64 y] 32, blk g9 #[.int .i64 r1, .int .i64 r2, .int .i64 r3, .int .i64 r4, .int .i64 r5] 32])) := Aside.mk (h5.order 11 [5, 6, 7, 8, 0, 1, 2, 3, 4, 9, 10] rfl rfl)
        clear h5
        refine ⟨_, rfl, ?_⟩
        refine hK.out _ _ ⟨(H.out.pick 5 rfl).cell 0, (H.out.pick 5 rfl).cell 1, (H.out.pick 5 rfl).cell 2, (H.out.pick 9 rfl).cell 0, (H.out.pick 9 rfl).cell 1, (H.out.pick 9 rfl).cell 2, (H.out.pick 9 rfl).cell 3, (H.out.pick 9 rfl).cell 4⟩ (fun hHeld => ?_)
        clear hK K
        refine norm_ (a' := ?_) ?_ ?_
        rotate_left
        · show Act.put _ (some 52) _ = _
          simp only [nrm]
          rfl
        refine pure_ (i := 10) (N := some 42) (v := ?_) (a' := ?_) (flg 15 2047) rfl rfl (any_of HT_.out (by kernel_rfl)) (fun _ _ _ h => h) (Or.inl ⟨by rfl, ?_⟩) ?_ ?_
        rotate_left
        · intro w'
          go_simp
          with_reducible rfl
        rotate_left
        · simp only [nrm]
          rfl
        refine pure_ (i := 11) (N := some 53) (v := ?_) (a' := ?_) (flg 15 4095) rfl rfl (any_of HT_.out (by kernel_rfl)) (fun _ _ _ h => h) (Or.inl ⟨by rfl, ?_⟩) ?_ ?_
        rotate_left
        · intro w'
          go_simp
          with_reducible rfl
        rotate_left
        · simp only [nrm]
          rfl
        refine pure_ (i := 12) (N := some 54) (v := ?_) (a' := ?_) (flg 15 8191) rfl rfl (any_of HT_.out (by kernel_rfl)) (fun _ _ _ h => h) (Or.inl ⟨by rfl, ?_⟩) ?_ ?_
        rotate_left
        · intro w'
          go_simp
          with_reducible rfl
        rotate_left
        · simp only [nrm]
          rfl
        refine pure_ (i := 13) (N := some 11) (v := ?_) (a' := ?_) (flg 15 16383) rfl rfl (any_of HT_.out (by kernel_rfl)) (fun _ _ _ h => h) (Or.inl ⟨by rfl, ?_⟩) ?_ ?_
        rotate_left
        · intro w'
          go_simp
          with_reducible rfl
        rotate_left
        · simp only [nrm]
          rfl
        refine pure_ (i := 14) (N := some 12) (v := ?_) (a' := ?_) (flg 15 32767) rfl rfl (any_of HT_.out (by kernel_rfl)) (fun _ _ _ h => h) (Or.inl ⟨by rfl, ?_⟩) ?_ ?_
        rotate_left
        · intro w'
          go_simp
          with_reducible rfl
        rotate_left
        · simp only [nrm]
          rfl
        refine done_ (done_of HT_.out (by kernel_rfl)) ?_
        clear HT_ HW_ hHeld
        have x0 := (H.out.pick 5 rfl).cell 0
        have x11 : w5.cell? ⟨x, 11, none⟩ = some (.pointer (some ⟨p, 0, none⟩)) := (H.out.pick 5 rfl).cell 11
        go_wp2_with (first
          | (go_at_call 34; refine (gover_ (H.out.pick 4 rfl)).mono ?_; rintro e w6 ⟨rfl, h6⟩; replace H : Aside (St w w6 (Are p a gC 15 false X (.slice none 0 0) [] 0 0 ++ gvB g (j : Nat) wd false :: [fdB x P T a d p, daB d gD X.length (.slice none 0 0) 0, blk gD (U X).toArray 22, row 67 7 (.slice none 0 0) 0 [], blk g2_ #[.int .i64 k, .int .i64 c, .int .i64 s, .int .i64 o, .int .i64 y] 32, blk g9 #[.int .i64 r1, .int .i64 r2, .int .i64 r3, .int .i64 r4, .int .i64 r5] 32])) := Aside.mk (h6.order 5 [1, 2, 3, 4, 0] rfl rfl); clear h6 x0 x11; have x11 : w6.cell? ⟨x, 11, none⟩ = some (.pointer (some ⟨p, 0, none⟩)) := (H.out.pick 5 rfl).cell 11)
          | (go_at_call 35; refine (gstep_shut (a := a) (who := 15) (H.out.order 5 [0, 4, 1, 2, 3] rfl rfl)).mono ?_; rintro e w7 ⟨rfl, h7⟩; replace H : Aside (St w w7 (Are p a gC 15 false X (.slice none 0 0) [] 0 0 ++ gvB g (j : Nat) wd false :: [fdB x P T a d p, daB d gD X.length (.slice none 0 0) 0, blk gD (U X).toArray 22, row 67 7 (.slice none 0 0) 0 [], blk g2_ #[.int .i64 k, .int .i64 c, .int .i64 s, .int .i64 o, .int .i64 y] 32, blk g9 #[.int .i64 r1, .int .i64 r2, .int .i64 r3, .int .i64 r4, .int .i64 r5] 32])) := Aside.mk (h7.order 5 [0, 2, 3, 4, 1] rfl rfl); clear h7 x11; have x11 : w7.cell? ⟨x, 11, none⟩ = some (.pointer (some ⟨p, 0, none⟩)) := (H.out.pick 5 rfl).cell 11))
        refine (grant_ H.out).mono ?_
        rintro e w8 ⟨rfl, h8⟩
        replace H : Aside (St w w8 (Are p a gC 15 true X (.slice none 0 0) [] 0 0 ++ gvB g (j : Nat) wd false :: [fdB x P T a d p, daB d gD X.length (.slice none 0 0) 0, blk gD (U X).toArray 22, row 67 7 (.slice none 0 0) 0 [], blk g2_ #[.int .i64 k, .int .i64 c, .int .i64 s, .int .i64 o, .int .i64 y] 32, blk g9 #[.int .i64 r1, .int .i64 r2, .int .i64 r3, .int .i64 r4, .int .i64 r5] 32])) := Aside.mk h8
        clear h8 x11
        have z0 := (H.out.pick 10 rfl).cell 0
        have z1 := (H.out.pick 10 rfl).cell 1
        have z2 := (H.out.pick 10 rfl).cell 2
        have z3 := (H.out.pick 10 rfl).cell 3
        have z4 := (H.out.pick 10 rfl).cell 4
        go_wp2_with (go_at_call 36; refine (windrowref02_EncodeEntry.calls _ _ _ _ _ _ _ _ _ HENC.out).mono ?_; rintro e w9 ⟨rfl, hb⟩; replace H := Aside.mk (H.out.step hb); clear hb z0 z1 z2 z3 z4; have x11 : w9.cell? ⟨x, 11, none⟩ = some (.pointer (some ⟨p, 0, none⟩)) := (H.out.pick 5 rfl).cell 11)
        refine (gstep_ HJ.out HN.out (by simp) (by decide) (by decide) H.out).mono ?_
        rintro e w10 ⟨lv1, rfl, h10⟩
        replace H : Aside (St w w10 (Are p a gC 15 false (X.set j wd) lv1 ([] ++ [⟨15, 2, j, 0, wd, X.getD j 0, wd⟩]) (0 + 1) 0 ++ gvB g (j : Nat) wd true :: [fdB x P T a d p, daB d gD X.length (.slice none 0 0) 0, blk gD (U X).toArray 22, row 67 7 (.slice none 0 0) 0 [], blk g2_ #[.int .i64 k, .int .i64 c, .int .i64 s, .int .i64 o, .int .i64 y] 32, blk g9 #[.int .i64 r1, .int .i64 r2, .int .i64 r3, .int .i64 r4, .int .i64 r5] 32])) := Aside.mk h10
        clear h10 x11
        go_wp2_with (go_at_call 34; refine (gover_ (H.out.pick 4 rfl)).mono ?_; rintro e w11 ⟨rfl, h11⟩; replace H : Aside (St w w11 (Are p a gC 15 false (X.set j wd) lv1 ([] ++ [⟨15, 2, j, 0, wd, X.getD j 0, wd⟩]) (0 + 1) 0 ++ gvB g (j : Nat) wd true :: [fdB x P T a d p, daB d gD X.length (.slice none 0 0) 0, blk gD (U X).toArray 22, row 67 7 (.slice none 0 0) 0 [], blk g2_ #[.int .i64 k, .int .i64 c, .int .i64 s, .int .i64 o, .int .i64 y] 32, blk g9 #[.int .i64 r1, .int .i64 r2, .int .i64 r3, .int .i64 r4, .int .i64 r5] 32])) := Aside.mk (h11.order 5 [1, 2, 3, 4, 0] rfl rfl); clear h11; have x11 : w11.cell? ⟨x, 11, none⟩ = some (.pointer (some ⟨p, 0, none⟩)) := (H.out.pick 5 rfl).cell 11)
        refine (gstep_done (H.out.pick 4 rfl)).mono ?_
        rintro e w12 ⟨rfl, h12⟩
        replace H : Aside (St w w12 (Are p a gC 15 false (X.set j wd) lv1 ([] ++ [⟨15, 2, j, 0, wd, X.getD j 0, wd⟩]) (0 + 1) 0 ++ gvB g (j : Nat) wd true :: [fdB x P T a d p, daB d gD X.length (.slice none 0 0) 0, blk gD (U X).toArray 22, row 67 7 (.slice none 0 0) 0 [], blk g2_ #[.int .i64 k, .int .i64 c, .int .i64 s, .int .i64 o, .int .i64 y] 32, blk g9 #[.int .i64 r1, .int .i64 r2, .int .i64 r3, .int .i64 r4, .int .i64 r5] 32])) := Aside.mk (h12.order 5 [1, 2, 3, 4, 0] rfl rfl)
        clear h12 x11
        have hpk := fun (w' : World) (F : List Sep.HP) (h : St w w' (arB a gC (X.set j wd).length lv1 true (0 + 1) 0 :: ceB gC (X.set j wd) :: F)) => peek_yes j (by rw [List.length_set]; exact HJ.out) h
        have hgj : (X.set j wd).getD j 0 = wd := by rw [gset _ _ _ _ HJ.out, if_pos rfl]
        rw [hgj] at hpk
        have HPK := Aside.mk hpk
        clear hpk hgj
        go_wp2_with fail
        replace H := Aside.mk H.out.drew
        refine start_ (n := 16) (S := fun w' => w'.cell? ⟨x, 3, none⟩ = some (.int .i64 ((P : Int) + 1)) ∧ w'.cell? ⟨x, 4, none⟩ = some (.int .i64 ((T : Int) + 1)) ∧ w'.cell? ⟨x, 5, none⟩ = some (.int .i64 1) ∧ w'.cell? ⟨x, 6, none⟩ = some (.int .i64 64) ∧ w'.cell? ⟨x, 7, none⟩ = some (.int .i64 (22 + 6 * (T : Int))) ∧ w'.cell? ⟨x, 8, none⟩ = some (.int .i64 (128 + 64 * (P : Int))) ∧ w'.cell? ⟨x, 9, none⟩ = some (.pointer (some ⟨a, 0, none⟩))) (ds := []) (flg 16 0) (by kernel_rfl) rfl rfl (⟨(H.out.pick 5 rfl).cell 3, (H.out.pick 5 rfl).cell 4, (H.out.pick 5 rfl).cell 5, (H.out.pick 5 rfl).cell 6, (H.out.pick 5 rfl).cell 7, (H.out.pick 5 rfl).cell 8, (H.out.pick 5 rfl).cell 9⟩) (fun hHeld => ?_)
        refine with_tabW lg.tab17 lg.bits17 (fun HT_ HW_ => ?_)
        refine pure_ (i := 0) (N := some 130) (v := ?_) (a' := ?_) (flg 16 1) rfl rfl (any_of HT_.out (by kernel_rfl)) (fun _ _ _ h => h) (Or.inl ⟨by rfl, ?_⟩) ?_ ?_
        rotate_left
        · intro w'
          go_simp
          with_reducible rfl
        rotate_left
        · simp only [nrm]
          rfl
        refine pure_ (i := 1) (N := some 131) (v := ?_) (a' := ?_) (flg 16 3) rfl rfl (any_of HT_.out (by kernel_rfl)) (fun _ _ _ h => h) (Or.inl ⟨by rfl, ?_⟩) ?_ ?_
        rotate_left
        · intro w'
          go_simp
          with_reducible rfl
        rotate_left
        · simp only [nrm]
          rfl
        refine pure_ (i := 2) (N := some 132) (v := ?_) (a' := ?_) (flg 16 7) rfl rfl (any_of HT_.out (by kernel_rfl)) (fun _ _ _ h => h) (Or.inl ⟨by rfl, ?_⟩) ?_ ?_
        rotate_left
        · intro w'
          go_simp
          with_reducible rfl
        rotate_left
        · simp only [nrm]
          rfl
        refine take_ (i := 3) (N := some 133) (v := ?_) (a' := ?_) (flg 16 15) rfl rfl (take_ofW HT_.out HW_.out (by kernel_rfl)) (fun _ _ _ h => h) (Or.inl ⟨by rfl, ?_⟩) hHeld ?_ ?_
        rotate_left
        · rintro w' ⟨s0_, s1_, s2_, s3_, s4_, s5_, s6_⟩
          go_simp
          with_reducible rfl
        rotate_left
        · simp only [nrm]
          rfl
        refine pure_ (i := 4) (N := some 134) (v := ?_) (a' := ?_) (flg 16 31) rfl rfl (any_of HT_.out (by kernel_rfl)) (fun _ _ _ h => h) (Or.inl ⟨by rfl, ?_⟩) ?_ ?_
        rotate_left
        · intro w'
          go_simp
          with_reducible rfl
        rotate_left
        · simp only [nrm]
          rfl
        refine pure_ (i := 5) (N := some 135) (v := ?_) (a' := ?_) (flg 16 63) rfl rfl (any_of HT_.out (by kernel_rfl)) (fun _ _ _ h => h) (Or.inl ⟨by rfl, ?_⟩) ?_ ?_
        rotate_left
        · intro w'
          go_simp
          with_reducible rfl
        rotate_left
        · simp only [nrm]
          rfl
        refine pure_ (i := 6) (N := some 136) (v := ?_) (a' := ?_) (flg 16 127) rfl rfl (any_of HT_.out (by kernel_rfl)) (fun _ _ _ h => h) (Or.inl ⟨by rfl, ?_⟩) ?_ ?_
        rotate_left
        · intro w'
          go_simp
          with_reducible rfl
        rotate_left
        · simp only [nrm]
          rfl
        refine take_ (i := 7) (N := some 137) (v := ?_) (a' := ?_) (flg 16 255) rfl rfl (take_ofW HT_.out HW_.out (by kernel_rfl)) (fun _ _ _ h => h) (Or.inl ⟨by rfl, ?_⟩) hHeld ?_ ?_
        rotate_left
        · rintro w' ⟨s0_, s1_, s2_, s3_, s4_, s5_, s6_⟩
          go_simp
          with_reducible rfl
        rotate_left
        · simp only [nrm]
          rfl
        refine pure_ (i := 8) (N := some 138) (v := ?_) (a' := ?_) (flg 16 511) rfl rfl (any_of HT_.out (by kernel_rfl)) (fun _ _ _ h => h) (Or.inl ⟨by rfl, ?_⟩) ?_ ?_
        rotate_left
        · intro w'
          go_simp
          with_reducible rfl
        rotate_left
        · simp only [nrm]
          rfl
        refine one_ (i := 9) (N := some 139) (flg 16 1023) rfl rfl (one_of HT_.out (by kernel_rfl)) (by decide) (fun K hK => ?_)
        refine goes_ Try.func17 (by kernel_rfl) rfl #[.agg #[.int .i64 ((P : Int) + 1), .int .i64 ((T : Int) + 1), .int .i64 1, .int .i64 64, .int .i64 (22 + 6 * (T : Int)), .int .i64 (128 + 64 * (P : Int))], .int .i64 (pn : Int)] (by rfl) rfl rfl (by (try simp only [List.map_toArray, List.map_cons, List.map_nil]); first | done | rfl) ?_
        refine (windrowref06_Map_PageEntry.calls _ _ _ _ _ _ _ _ _ HPE.out).mono ?_
        rintro e w2 ⟨rfl, hb⟩
        replace H := Aside.mk (H.out.step hb)
        clear hb
        refine ⟨_, rfl, ?_⟩
        refine hK.out _ _ ⟨(H.out.pick 5 rfl).cell 3, (H.out.pick 5 rfl).cell 4, (H.out.pick 5 rfl).cell 5, (H.out.pick 5 rfl).cell 6, (H.out.pick 5 rfl).cell 7, (H.out.pick 5 rfl).cell 8, (H.out.pick 5 rfl).cell 9⟩ (fun hHeld => ?_)
        clear hK K
        refine norm_ (a' := ?_) ?_ ?_
        rotate_left
        · show Act.put _ (some 139) _ = _
          simp only [nrm]
          rfl
        refine one_ (i := 10) (N := some 140) (flg 16 2047) rfl rfl (one_of HT_.out (by kernel_rfl)) (by decide) (fun K hK => ?_)
        refine goes_ Try.func14 (by kernel_rfl) rfl #[.pointer (some ⟨a, 0, none⟩), .int .i64 (j : Nat)] (by rfl) rfl rfl (by (try simp only [List.map_toArray, List.map_cons, List.map_nil]); first | done | rfl) ?_
        refine (HPK.out _ _ (H.out.order 3 [1, 2, 0] rfl rfl)).mono ?_
        rintro e w3 ⟨rfl, rfl⟩
        refine ⟨_, rfl, ?_⟩
        refine hK.out _ _ ⟨(H.out.pick 5 rfl).cell 3, (H.out.pick 5 rfl).cell 4, (H.out.pick 5 rfl).cell 5, (H.out.pick 5 rfl).cell 6, (H.out.pick 5 rfl).cell 7, (H.out.pick 5 rfl).cell 8, (H.out.pick 5 rfl).cell 9⟩ (fun hHeld => ?_)
        clear hK K
        refine norm_ (a' := ?_) ?_ ?_
        rotate_left
        · show Act.put _ (some 140) _ = _
          simp only [nrm]
          rfl
        refine pure_ (i := 11) (N := some 129) (v := ?_) (a' := ?_) (flg 16 4095) rfl rfl (any_of HT_.out (by kernel_rfl)) (fun _ _ _ h => h) (Or.inl ⟨by rfl, ?_⟩) ?_ ?_
        rotate_left
        · intro w'
          go_simp
          with_reducible rfl
        rotate_left
        · simp only [nrm]
          rfl
        refine pure_ (i := 12) (N := some 141) (v := ?_) (a' := ?_) (flg 16 8191) rfl rfl (any_of HT_.out (by kernel_rfl)) (fun _ _ _ h => h) (Or.inl ⟨by rfl, ?_⟩) ?_ ?_
        rotate_left
        · intro w'
          go_simp
          with_reducible rfl
        rotate_left
        · simp only [nrm]
          rfl
        refine pure_ (i := 13) (N := some 142) (v := ?_) (a' := ?_) (flg 16 16383) rfl rfl (any_of HT_.out (by kernel_rfl)) (fun _ _ _ h => h) (Or.inl ⟨by rfl, ?_⟩) ?_ ?_
        rotate_left
        · intro w'
          go_simp
          with_reducible rfl
        rotate_left
        · simp only [nrm]
          rfl
        refine pure_ (i := 14) (N := some 15) (v := ?_) (a' := ?_) (flg 16 32767) rfl rfl (any_of HT_.out (by kernel_rfl)) (fun _ _ _ h => h) (Or.inl ⟨by rfl, ?_⟩) ?_ ?_
        rotate_left
        · intro w'
          go_simp
          with_reducible rfl
        rotate_left
        · simp only [nrm]
          rfl
        refine pure_ (i := 15) (N := some 16) (v := ?_) (a' := ?_) (flg 16 65535) rfl rfl (any_of HT_.out (by kernel_rfl)) (fun _ _ _ h => h) (Or.inl ⟨by rfl, ?_⟩) ?_ ?_
        rotate_left
        · intro w'
          go_simp
          with_reducible rfl
        rotate_left
        · simp only [nrm]
          rfl
        refine done_ (done_of HT_.out (by kernel_rfl)) ?_
        clear HT_ HW_ hHeld
        have x9 : w3.cell? ⟨x, 9, none⟩ = some (.pointer (some ⟨a, 0, none⟩)) := (H.out.pick 5 rfl).cell 9
        go_wp2_with (first
          | (go_at_call 37; refine (count_ (H.out.pick 1 rfl)).mono ?_; rintro e w13 ⟨rfl, rfl⟩)
          | (go_at_call 38; refine (faults_ (H.out.pick 1 rfl)).mono ?_; rintro e w14 ⟨rfl, rfl⟩))
        go_ret
        exact ⟨by simp, H.out.below⟩
end Go.Proofs.Ytelfiegocdjnoaa.Ar
