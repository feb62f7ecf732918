/- The walk of ObjectsBuilds. Conditions: the words lie in memory that was there; the package array of sizes reads as it was laid. -/
import Derived.Test.YtelfiegocdjnoaaDoorBu0
import Derived.Test.YtelfiegocdjnoaaDoorOb5
import Derived.Deep.CutBlock
import Derived.Test.YtelfiegocdjnoaaDoorMrF0
import Derived.Test.YtelfiegocdjnoaaDoorMrF1
import Derived.Test.YtelfiegocdjnoaaDoorMrF2
namespace Go.Proofs.YtelfiegocdjnoaaDoor.Ar
open Go Go.RowKit Go.Shelf Go.Proofs.YtelfiegocdjnoaaDoor.Sep Go.Proofs.YtelfiegocdjnoaaDoorW.PrintWords Go.Proofs.YtelfiegocdjnoaaDoorW.PrintLast Go.Proofs.YtelfiegocdjnoaaDoorW.PrintMore Go.Proofs.YtelfiegocdjnoaaDoor.Q
set_option linter.unusedVariables false
set_option linter.unusedSimpArgs false
set_option maxHeartbeats 8000000
set_option maxRecDepth 100000
attribute [local go_sem] Oper.semAt_some
def bu.T1 : Bool × List (List Nat × List Nat) := (true, [([], []), ([0], [0]), ([], []), ([2], [2]), ([], []), ([4], [4]), ([], []), ([6], [6]), ([], []), ([], []), ([8, 1, 0, 1, 8, 9], [1, 8]), ([3, 10, 0, 1, 2, 3, 8, 9, 10], [3]), ([9, 5, 11, 0, 1, 2, 3, 4, 5, 8, 9, 10, 11], [5, 9]), ([7, 12, 0, 1, 2, 3, 4, 5, 6, 7, 8, 9, 10, 11, 12], [7])])
def bu.B1 : List Nat := [0, 1, 0, 4, 0, 16, 0, 64, 0, 0, 771, 1807, 3903, 8191]
theorem bu.tab1 : rtab .any (opsOf Tryd.f7 1) = bu.T1 := by kernel_rfl
theorem bu.bits1 : waitsOk bu.T1.2 bu.B1 = true := by kernel_rfl
def bu.T7 : Bool × List (List Nat × List Nat) := (true, [([], []), ([0], [0]), ([], []), ([], []), ([3, 1], [3]), ([1, 2, 4, 4], [1, 2, 4]), ([5], [5]), ([6], [6]), ([6], [6]), ([7, 5, 0, 1, 2, 3, 4, 5, 6, 7], [7]), ([8, 9, 0, 1, 2, 3, 4, 5, 6, 7, 8, 9], [8])])
def bu.B7 : List Nat := [0, 1, 0, 0, 11, 31, 63, 127, 127, 255, 1023]
theorem bu.tab7 : rtab .any (opsOf Tryd.f7 7) = bu.T7 := by kernel_rfl
theorem bu.bits7 : waitsOk bu.T7.2 bu.B7 = true := by kernel_rfl
def bu.T25 : Bool × List (List Nat × List Nat) := (true, [([], []), ([], []), ([0, 1], [0, 1]), ([], []), ([], []), ([4], [4]), ([3, 5], [3, 5]), ([2, 6], [2, 6]), ([7, 2], [7]), ([8], [8]), ([9, 8, 8], [8, 9]), ([8], [8]), ([8], [8]), ([12, 8], [8, 12]), ([11, 13, 8], [8, 11, 13]), ([10, 14, 8], [8, 10, 14]), ([8, 15], [8, 15])])
def bu.B25 : List Nat := [0, 0, 3, 0, 0, 16, 56, 127, 255, 511, 1023, 511, 511, 4607, 14847, 32767, 65535]
theorem bu.tab25 : rtab .any (opsOf Tryd.f7 25) = bu.T25 := by kernel_rfl
theorem bu.bits25 : waitsOk bu.T25.2 bu.B25 = true := by kernel_rfl
def bu.T33 : Bool × List (List Nat × List Nat) := (true, [([], []), ([], []), ([1], [1]), ([2], [2]), ([3], [3]), ([0, 4], [0, 4]), ([5, 5], [5]), ([6], [6]), ([7, 6, 6], [6, 7]), ([6], [6]), ([9, 6], [6, 9]), ([10, 6], [6, 10]), ([11, 6], [6, 11]), ([8, 12, 8, 6], [6, 8, 12]), ([6, 13], [6, 13]), ([14, 13], [14]), ([15], [15]), ([16, 15, 15], [15, 16]), ([17, 15], [15, 17]), ([15, 18], [15, 18]), ([19, 17, 0, 1, 2, 3, 4, 5, 6, 7, 8, 9, 10, 11, 12, 13, 14, 15, 16, 17, 18, 19], [19])])
def bu.B33 : List Nat := [0, 0, 2, 6, 14, 31, 63, 127, 255, 127, 639, 1663, 3711, 8191, 16383, 32767, 65535, 131071, 262143, 524287, 1048575]
theorem bu.tab33 : rtab .any (opsOf Tryd.f7 33) = bu.T33 := by kernel_rfl
theorem bu.bits33 : waitsOk bu.T33.2 bu.B33 = true := by kernel_rfl
abbrev CX (r g1 g2 dm : Nat) (P : Nat) (c kd n : Int) (B : HP) : List HP := [blk dm #[.int .i64 ((P : Int) + 1), .int .i64 1, .int .i64 1, .int .i64 64, .int .i64 22, .int .i64 (128 + 64 * (P : Int))] 27, blk g1 #[.int .i64 ((P : Int) + 1), .int .i64 1, .int .i64 1] 25, blk g2 #[.int .i64 c, .int .i64 kd, .int .i64 n] 73, blk r #[.bool false] 4, B]
abbrev LBs (p a gC b t d gD nN : Nat) (at_ hd left : Int) (dn g : Bool) (Xp Xd : List Int) (lp ld : List Acc) (lv lv2 lh : Value) (tp : Tp) (C : List HP) : List HP :=
  poB p a 2 g :: arB a gC nN lv true lp.length 0 :: ceB gC Xp :: row 98 7 lv lp.length (accs lp) :: bdB b at_ hd left dn :: tpB t lh tp :: tpR lh tp :: daB d gD nN lv2 0 :: blk gD (U Xd).toArray 22 :: row 98 7 lv2 ld.length (accs ld) :: C
theorem law_builds (q1 q2 q3 at_ c kd n : Int) (A : Option Addr) (cc : Nat) (L : List (Int × Int)) (w0 : World) (hL : ∀ i, i < L.length → ∃ ad, A = some ad ∧ w0.cell? (ad.add (i * 2)) = some (.int .i64 (L.getD i (0, 0)).1) ∧ w0.cell? ⟨(ad.add (i * 2)).block, (ad.add (i * 2)).off + 1, none⟩ = some (.int .u64 (L.getD i (0, 0)).2)) (hT : Tab w0) :
    Calls Tryd.prog 7 #[.agg #[.int .i64 q1, .int .i64 q2, .int .i64 q3, .int .i64 at_, .int .i64 c, .int .i64 kd, .int .i64 n, .slice A L.length cc]] w0 fun e w' => e = .returned (.bool true) ∧ Below w0.heap.size w0 w' := by
  obtain ⟨P, hP, hsm⟩ := small_ q1 q2 q3
  have PS := Aside.mk hsm
  have HPp := Aside.mk hP
  have P2 : Aside (windrowref06_Draw.f 1000 ((P : Int) + 1) 1 1 = some ((P : Int) + 1, 1, 1, 64, 22, 128 + 64 * (P : Int))) := ⟨pl_draw ⟨P, hP⟩⟩
  have P5 : Aside (windrowlaw11_plan.f ((P : Int) + 1) 1 1 = some ((P : Int) + 1, 1, 1)) := ⟨rfl⟩
  have P6 : Aside (windrowlaw11_head.f c kd n = some (c, kd, n)) := ⟨rfl⟩
  obtain ⟨nN, hnN⟩ : ∃ nN, nN = 128 + 64 * P := ⟨_, rfl⟩
  have HNN := Aside.mk hnN
  obtain ⟨X0, hX0⟩ : ∃ X0, X0 = layS nN (min 300 L.length) L := ⟨_, rfl⟩
  have HXL : Aside (X0.length = nN) := ⟨by rw [hX0, layS_len]⟩
  have HLAY : Aside (∀ (w6 : World) (F : List HP), St w0 w6 F → Calls Tryd.prog 13 #[.agg #[.int .i64 ((P : Int) + 1), .int .i64 1, .int .i64 1], .slice A L.length cc] w6 fun e w' => ∃ a gC gD, e = .returned (.tuple #[.pointer (some ⟨a, 0, none⟩), .slice (some ⟨gD, 0, none⟩) nN nN, .bool true]) ∧ St w0 w' (arB a gC nN (.slice none 0 0) true 0 0 :: ceB gC X0 :: blk gD (U X0).toArray 22 :: F)) := by
    refine ⟨fun w6 F h => ?_⟩
    have hc : windrowref06_Cells.f 1000 ((P : Int) + 1) 1 1 = some (nN : Int) := by
      have := pl_ncells ⟨P, hP⟩
      rw [hnN]; simp only at this; rw [this]; push_cast; rfl
    refine (lay_ hc (by omega) (by omega) A cc L w6 ?_).mono ?_
    · intro i hi
      obtain ⟨ad, e, h0, h1⟩ := hL i hi
      exact ⟨ad, e, pw_cell_below h.below h0, pw_cell_below h.below h1⟩
    · rintro e w' ⟨a, gC, gD, rfl, h9⟩
      refine ⟨a, gC, gD, rfl, ?_⟩
      rw [hX0]
      exact h.join h9
  have HTS : Aside (∀ (w : World) (L : List HP), St w0 w L → Tab w) := ⟨fun _ _ hh => hT.st hh⟩
  have H : Aside (St w0 _ [blk (w0.heap.size + 1) #[.bool false] 4, blk w0.heap.size #[.int .i64 q1, .int .i64 q2, .int .i64 q3, .int .i64 at_, .int .i64 c, .int .i64 kd, .int .i64 n, .slice A L.length cc] 89]) := Aside.mk (by have := ((St.start w0).alloc #[.int .i64 q1, .int .i64 q2, .int .i64 q3, .int .i64 at_, .int .i64 c, .int .i64 kd, .int .i64 n, .slice A L.length cc] 89).alloc #[.bool false] 4; simpa using this)
  clear hsm hP hnN hX0 hL hT
  refine calls_bm Tryd.func7 rfl ?_
  simp only [Tryd.ntmps7, List.size_toArray, List.length_cons, List.length_nil, Nat.reduceAdd, Nat.reduceSub, Array.replicate_succ, Array.replicate_zero, List.push_toArray, List.append_toArray, List.nil_append, List.cons_append]
  go_wp2_with fail
  replace H := Aside.mk H.out.drew
  refine start_ (n := 14) (S := fun w' => w'.cell? ⟨w0.heap.size, 0, none⟩ = some (.int .i64 q1) ∧ w'.cell? ⟨w0.heap.size, 1, none⟩ = some (.int .i64 q2) ∧ w'.cell? ⟨w0.heap.size, 2, none⟩ = some (.int .i64 q3) ∧ w'.cell? ⟨w0.heap.size, 3, none⟩ = some (.int .i64 at_) ∧ w'.cell? ⟨w0.heap.size, 4, none⟩ = some (.int .i64 c) ∧ w'.cell? ⟨w0.heap.size, 5, none⟩ = some (.int .i64 kd) ∧ w'.cell? ⟨w0.heap.size, 6, none⟩ = some (.int .i64 n) ∧ w'.cell? ⟨w0.heap.size, 7, none⟩ = some (.slice A L.length cc)) (ds := []) (flg 14 0) (by kernel_rfl) rfl rfl (⟨(H.out.pick 1 rfl).cell 0, (H.out.pick 1 rfl).cell 1, (H.out.pick 1 rfl).cell 2, (H.out.pick 1 rfl).cell 3, (H.out.pick 1 rfl).cell 4, (H.out.pick 1 rfl).cell 5, (H.out.pick 1 rfl).cell 6, (H.out.pick 1 rfl).cell 7⟩) (fun hHeld => ?_)
  refine with_tabW bu.tab1 bu.bits1 (fun HT_ HW_ => ?_)
  generalize World.drew _ = w3 at H hHeld ⊢
  refine pu_ (v := ?_) (a' := ?_) 0 (some 21) 1 rfl rfl HT_ (by kernel_rfl) (.inl ⟨by rfl, ?_⟩) ?_ ?_; rotate_left 2; (· intro w'; go_simp; with_reducible rfl); (· simp only [nrm]; rfl)
  refine tk_ (v := ?_) (a' := ?_) 1 (some 22) 3 rfl rfl HT_ HW_ (by kernel_rfl) (.inl ⟨by rfl, ?_⟩) hHeld ?_ ?_; rotate_left 2; (· rintro w' ⟨_, _, _, _, _, _, _, _⟩; go_simp; with_reducible rfl); (· simp only [nrm]; rfl)
  refine pu_ (v := ?_) (a' := ?_) 2 (some 23) 7 rfl rfl HT_ (by kernel_rfl) (.inl ⟨by rfl, ?_⟩) ?_ ?_; rotate_left 2; (· intro w'; go_simp; with_reducible rfl); (· simp only [nrm]; rfl)
  refine tk_ (v := ?_) (a' := ?_) 3 (some 24) 15 rfl rfl HT_ HW_ (by kernel_rfl) (.inl ⟨by rfl, ?_⟩) hHeld ?_ ?_; rotate_left 2; (· rintro w' ⟨_, _, _, _, _, _, _, _⟩; go_simp; with_reducible rfl); (· simp only [nrm]; rfl)
  refine pu_ (v := ?_) (a' := ?_) 4 (some 25) 31 rfl rfl HT_ (by kernel_rfl) (.inl ⟨by rfl, ?_⟩) ?_ ?_; rotate_left 2; (· intro w'; go_simp; with_reducible rfl); (· simp only [nrm]; rfl)
  refine tk_ (v := ?_) (a' := ?_) 5 (some 26) 63 rfl rfl HT_ HW_ (by kernel_rfl) (.inl ⟨by rfl, ?_⟩) hHeld ?_ ?_; rotate_left 2; (· rintro w' ⟨_, _, _, _, _, _, _, _⟩; go_simp; with_reducible rfl); (· simp only [nrm]; rfl)
  refine pu_ (v := ?_) (a' := ?_) 6 (some 27) 127 rfl rfl HT_ (by kernel_rfl) (.inl ⟨by rfl, ?_⟩) ?_ ?_; rotate_left 2; (· intro w'; go_simp; with_reducible rfl); (· simp only [nrm]; rfl)
  refine tk_ (v := ?_) (a' := ?_) 7 (some 28) 255 rfl rfl HT_ HW_ (by kernel_rfl) (.inl ⟨by rfl, ?_⟩) hHeld ?_ ?_; rotate_left 2; (· rintro w' ⟨_, _, _, _, _, _, _, _⟩; go_simp; with_reducible rfl); (· simp only [nrm]; rfl)
  refine join_ (σ := Nat × Nat) 4 (flg 14 1023) (fun g_ => [(3, .pointer (some ⟨g_.1, 0, none⟩)), (5, .pointer (some ⟨g_.2, 0, none⟩))]) (fun g_ w' => (w'.cell? ⟨w0.heap.size, 0, none⟩ = some (.int .i64 q1) ∧ w'.cell? ⟨w0.heap.size, 1, none⟩ = some (.int .i64 q2) ∧ w'.cell? ⟨w0.heap.size, 2, none⟩ = some (.int .i64 q3) ∧ w'.cell? ⟨w0.heap.size, 3, none⟩ = some (.int .i64 at_) ∧ w'.cell? ⟨w0.heap.size, 4, none⟩ = some (.int .i64 c) ∧ w'.cell? ⟨w0.heap.size, 5, none⟩ = some (.int .i64 kd) ∧ w'.cell? ⟨w0.heap.size, 6, none⟩ = some (.int .i64 n) ∧ w'.cell? ⟨w0.heap.size, 7, none⟩ = some (.slice A L.length cc)) ∧ St w0 w' (blk g_.1 #[.int .i64 0, .int .i64 0, .int .i64 0] 25 :: blk g_.2 #[.int .i64 0, .int .i64 0, .int .i64 0] 73 :: (blk (w0.heap.size + 1) #[.bool false] 4 :: [blk w0.heap.size #[.int .i64 q1, .int .i64 q2, .int .i64 q3, .int .i64 at_, .int .i64 c, .int .i64 kd, .int .i64 n, .slice A L.length cc] 89]))) ?_ ?_
  rotate_left
  · intro hjoin
    simp only [putAll, nrm] at hjoin
    refine two_ (i := 8) (j := 9) (Ni := some 3) (Nj := some 5) (flg 14 511) (flg 14 767) rfl rfl rfl rfl (two_of HT_.out (by kernel_rfl)) (by decide) (by decide) (fun K hK => ?_) (fun K hK => ?_)
    · refine value_ (w1 := ?_) (v := ?_) (by rfl) rfl ?_ ?_
      rotate_left 2
      · go_simp
        constructor
        · rfl
        · rfl
      replace H := Aside.mk (H.out.alloc #[.int .i64 0, .int .i64 0, .int .i64 0] 25)
      refine hK.out _ _ ⟨(H.out.pick 2 rfl).cell 0, (H.out.pick 2 rfl).cell 1, (H.out.pick 2 rfl).cell 2, (H.out.pick 2 rfl).cell 3, (H.out.pick 2 rfl).cell 4, (H.out.pick 2 rfl).cell 5, (H.out.pick 2 rfl).cell 6, (H.out.pick 2 rfl).cell 7⟩ (fun hHeld => ?_)
      clear hK K
      refine norm_ (a' := ?_) ?_ ?_
      rotate_left
      · show Act.put _ (some 3) _ = _
        simp only [nrm]
        rfl
      refine on_ 9 (some 5) 1023 rfl rfl HT_ (by kernel_rfl) (by decide) (fun K hK => ?_)
      refine value_ (w1 := ?_) (v := ?_) (by rfl) rfl ?_ ?_
      rotate_left 2
      · go_simp
        constructor
        · rfl
        · rfl
      replace H := Aside.mk (H.out.alloc #[.int .i64 0, .int .i64 0, .int .i64 0] 73)
      refine hK.out _ _ ⟨(H.out.pick 3 rfl).cell 0, (H.out.pick 3 rfl).cell 1, (H.out.pick 3 rfl).cell 2, (H.out.pick 3 rfl).cell 3, (H.out.pick 3 rfl).cell 4, (H.out.pick 3 rfl).cell 5, (H.out.pick 3 rfl).cell 6, (H.out.pick 3 rfl).cell 7⟩ (fun hHeld => ?_)
      clear hK K
      refine norm_ (a' := ?_) ?_ ?_
      rotate_left
      · show Act.put _ (some 5) _ = _
        simp only [nrm]
        rfl
      have h9 := H.out.perm (.swap _ _ _)
      exact hjoin (_, _) _ ⟨hHeld, by simp at h9 ⊢; exact h9⟩
    · refine value_ (w1 := ?_) (v := ?_) (by rfl) rfl ?_ ?_
      rotate_left 2
      · go_simp
        constructor
        · rfl
        · rfl
      replace H := Aside.mk (H.out.alloc #[.int .i64 0, .int .i64 0, .int .i64 0] 73)
      refine hK.out _ _ ⟨(H.out.pick 2 rfl).cell 0, (H.out.pick 2 rfl).cell 1, (H.out.pick 2 rfl).cell 2, (H.out.pick 2 rfl).cell 3, (H.out.pick 2 rfl).cell 4, (H.out.pick 2 rfl).cell 5, (H.out.pick 2 rfl).cell 6, (H.out.pick 2 rfl).cell 7⟩ (fun hHeld => ?_)
      clear hK K
      refine norm_ (a' := ?_) ?_ ?_
      rotate_left
      · show Act.put _ (some 5) _ = _
        simp only [nrm]
        rfl
      refine on_ 8 (some 3) 1023 rfl rfl HT_ (by kernel_rfl) (by decide) (fun K hK => ?_)
      refine value_ (w1 := ?_) (v := ?_) (by rfl) rfl ?_ ?_
      rotate_left 2
      · go_simp
        constructor
        · rfl
        · rfl
      replace H := Aside.mk (H.out.alloc #[.int .i64 0, .int .i64 0, .int .i64 0] 25)
      refine hK.out _ _ ⟨(H.out.pick 3 rfl).cell 0, (H.out.pick 3 rfl).cell 1, (H.out.pick 3 rfl).cell 2, (H.out.pick 3 rfl).cell 3, (H.out.pick 3 rfl).cell 4, (H.out.pick 3 rfl).cell 5, (H.out.pick 3 rfl).cell 6, (H.out.pick 3 rfl).cell 7⟩ (fun hHeld => ?_)
      clear hK K
      refine norm_ (a' := ?_) ?_ ?_
      rotate_left
      · show Act.put _ (some 3) _ = _
        simp only [nrm]
        rfl
      have h9 := H.out
      exact hjoin (_, _) _ ⟨hHeld, by simp at h9 ⊢; exact h9⟩
  rintro ⟨g1_, g2_⟩ w4 ⟨hHeld, hst⟩
  replace H := Aside.mk hst
  clear hst
  refine norm_ (a' := ?_) ?_ ?_
  rotate_left
  · simp only [putAll, nrm]
    rfl
  refine on_ 10 (none) 2047 rfl rfl HT_ (by kernel_rfl) (by decide) (fun K hK => ?_)
  refine skip_ (by rfl) rfl (st_run_store (seg := [.int .i64 q1, .int .i64 q2, .int .i64 q3]) rfl rfl rfl rfl (Nat.le_of_ble_eq_true rfl) (by simp [Value.oneCell']) H.out) ?_
  have h8 := H.out.setCells 0 [.int .i64 q1, .int .i64 q2, .int .i64 q3] (Nat.le_of_ble_eq_true rfl)
  generalize World.setCells _ _ _ _ = w6 at h8 ⊢
  replace H : Aside (St w0 w6 (blk g1_ #[.int .i64 q1, .int .i64 q2, .int .i64 q3] 25 :: blk g2_ #[.int .i64 0, .int .i64 0, .int .i64 0] 73 :: blk (w0.heap.size + 1) #[.bool false] 4 :: [blk w0.heap.size #[.int .i64 q1, .int .i64 q2, .int .i64 q3, .int .i64 at_, .int .i64 c, .int .i64 kd, .int .i64 n, .slice A L.length cc] 89])) := Aside.mk (h8)
  clear h8
  refine hK.out _ _ ⟨(H.out.pick 3 rfl).cell 0, (H.out.pick 3 rfl).cell 1, (H.out.pick 3 rfl).cell 2, (H.out.pick 3 rfl).cell 3, (H.out.pick 3 rfl).cell 4, (H.out.pick 3 rfl).cell 5, (H.out.pick 3 rfl).cell 6, (H.out.pick 3 rfl).cell 7⟩ (fun hHeld => ?_)
  clear hK K
  refine pu_ (v := ?_) (a' := ?_) 11 (some 4) 4095 rfl rfl HT_ (by kernel_rfl) (.inl ⟨by rfl, ?_⟩) ?_ ?_; rotate_left 2; (· intro w'; go_simp; with_reducible rfl); (· simp only [nrm]; rfl)
  refine on_ 12 (none) 8191 rfl rfl HT_ (by kernel_rfl) (by decide) (fun K hK => ?_)
  refine skip_ (by rfl) rfl (st_run_store (seg := [.int .i64 c, .int .i64 kd, .int .i64 n]) rfl rfl rfl rfl (Nat.le_of_ble_eq_true rfl) (by simp [Value.oneCell']) (H.out.pick 1 rfl)) ?_
  have h8 := (H.out.pick 1 rfl).setCells 0 [.int .i64 c, .int .i64 kd, .int .i64 n] (Nat.le_of_ble_eq_true rfl)
  generalize World.setCells _ _ _ _ = w6 at h8 ⊢
  replace H : Aside (St w0 w6 (blk g1_ #[.int .i64 q1, .int .i64 q2, .int .i64 q3] 25 :: blk g2_ #[.int .i64 c, .int .i64 kd, .int .i64 n] 73 :: blk (w0.heap.size + 1) #[.bool false] 4 :: [blk w0.heap.size #[.int .i64 q1, .int .i64 q2, .int .i64 q3, .int .i64 at_, .int .i64 c, .int .i64 kd, .int .i64 n, .slice A L.length cc] 89])) := Aside.mk (h8.order 2 [1, 0] rfl rfl)
  clear h8
  refine hK.out _ _ ⟨(H.out.pick 3 rfl).cell 0, (H.out.pick 3 rfl).cell 1, (H.out.pick 3 rfl).cell 2, (H.out.pick 3 rfl).cell 3, (H.out.pick 3 rfl).cell 4, (H.out.pick 3 rfl).cell 5, (H.out.pick 3 rfl).cell 6, (H.out.pick 3 rfl).cell 7⟩ (fun hHeld => ?_)
  clear hK K
  refine pu_ (v := ?_) (a' := ?_) 13 (some 6) 16383 rfl rfl HT_ (by kernel_rfl) (.inl ⟨by rfl, ?_⟩) ?_ ?_; rotate_left 2; (· intro w'; go_simp; with_reducible rfl); (· simp only [nrm]; rfl)
  refine done_ (done_of HT_.out (by kernel_rfl)) ?_
  clear HT_ HW_ hHeld
  have q0 := H.out.cell 0; have q1 := H.out.cell 1; have q2 := H.out.cell 2
  go_wp2_with (first
    | (go_at_call 21; refine (windrowlaw11_small.calls _ _ _ _ _ _ _ PS.out).mono ?_; rintro e w5 ⟨rfl, hb⟩; replace H := Aside.mk (H.out.step hb); clear hb q0 q1 q2)
    | (with_reducible refine stop_at (.store 25 (.tmp 3) (.tmp 30)) rfl ?_))
  refine ⟨?_⟩
  refine st_store rfl rfl rfl [.int .i64 ((P : Int) + 1), .int .i64 1, .int .i64 1] #[.int .i64 ((P : Int) + 1), .int .i64 1, .int .i64 1] rfl rfl rfl (Nat.le_of_ble_eq_true rfl) (by simp [Value.oneCell']) H.out rfl ?_
  intro w7 h_
  replace H : Aside (St w0 w7 (blk g1_ #[.int .i64 ((P : Int) + 1), .int .i64 1, .int .i64 1] 25 :: blk g2_ #[.int .i64 c, .int .i64 kd, .int .i64 n] 73 :: blk (w0.heap.size + 1) #[.bool false] 4 :: [blk w0.heap.size #[.int .i64 q1, .int .i64 q2, .int .i64 q3, .int .i64 at_, .int .i64 c, .int .i64 kd, .int .i64 n, .slice A L.length cc] 89])) := Aside.mk h_
  clear h_
  have q0 := H.out.cell 0; have q1 := H.out.cell 1; have q2 := H.out.cell 2
  go_wp2_with (first
    | (go_at_call 13; refine (HLAY.out _ _ H.out).mono ?_; rintro e w8 ⟨a, gC, gD, rfl, h9⟩; replace H := Aside.mk h9; clear h9 q0 q1 q2)
    | (go_at_call 11; refine (built_ (HTS.out _ _ H.out)).mono ?_; rintro e w9 ⟨rfl, hb⟩; replace H := Aside.mk (H.out.step hb); clear hb; have q0 := (H.out.pick 3 rfl).cell 0; have q1 := (H.out.pick 3 rfl).cell 1; have q2 := (H.out.pick 3 rfl).cell 2)
    | (go_at_call 12; refine (windrowref06_Draw.calls _ _ _ _ _ _ _ _ _ _ _ P2.out).mono ?_; rintro e w10 ⟨rfl, hb⟩; replace H := Aside.mk (H.out.step hb); clear hb q0 q1 q2)
    | (with_reducible refine stop_at (.store 27 (.tmp 10) (.tmp 45)) rfl ?_))
  replace H := Aside.mk (H.out.alloc #[.int .i64 0, .int .i64 0, .int .i64 0, .int .i64 0, .int .i64 0, .int .i64 0] 27)
  generalize w10.heap.size = dm at H ⊢
  refine ⟨?_⟩
  refine st_store rfl rfl rfl [.int .i64 ((P : Int) + 1), .int .i64 1, .int .i64 1, .int .i64 64, .int .i64 22, .int .i64 (128 + 64 * (P : Int))] #[.int .i64 ((P : Int) + 1), .int .i64 1, .int .i64 1, .int .i64 64, .int .i64 22, .int .i64 (128 + 64 * (P : Int))] rfl rfl rfl (Nat.le_of_ble_eq_true rfl) (by simp [Value.oneCell']) H.out rfl ?_
  intro w11 h_
  obtain ⟨r, hr⟩ : ∃ r, r = w0.heap.size + 1 := ⟨_, rfl⟩
  rw [← hr] at h_ ⊢
  obtain ⟨BX, hBX⟩ : ∃ BX : HP, BX = blk w0.heap.size #[.int .i64 q1, .int .i64 q2, .int .i64 q3, .int .i64 at_, .int .i64 c, .int .i64 kd, .int .i64 n, .slice A L.length cc] 89 := ⟨_, rfl⟩
  rw [← hBX] at h_
  replace H : Aside (St w0 w11 (arB a gC nN (.slice none 0 0) true 0 0 :: ceB gC X0 :: blk gD (U X0).toArray 22 :: CX r g1_ g2_ dm P c kd n BX)) := Aside.mk (h_.order 4 [1, 2, 3, 0] rfl rfl)
  clear h_ hr hBX
  by_cases hh : isH c kd n = true
  case neg =>
    have hh2 : isH c kd n = false := by simpa using hh
    have HNB := Aside.mk (fun (w1 : World) (F : List HP) (h : St w0 w1 F) => nb_form (P := P) (at_ := at_) hh2 h)
    have HIS : Aside (windrowref02_IsHead.f c kd n = some false) := ⟨by rw [rhead_, hh2]⟩
    clear hh hh2
    go_wp2_with fail
    replace H := Aside.mk H.out.drew
    refine start_ (n := 11) (S := fun w' => w'.cell? ⟨g1_, 0, none⟩ = some (.int .i64 ((P : Int) + 1)) ∧ w'.cell? ⟨g1_, 1, none⟩ = some (.int .i64 1) ∧ w'.cell? ⟨g1_, 2, none⟩ = some (.int .i64 1) ∧ w'.cell? ⟨g2_, 0, none⟩ = some (.int .i64 c) ∧ w'.cell? ⟨g2_, 1, none⟩ = some (.int .i64 kd) ∧ w'.cell? ⟨g2_, 2, none⟩ = some (.int .i64 n)) (ds := []) (flg 11 0) (by kernel_rfl) rfl rfl (⟨(H.out.pick 4 rfl).cell 0, (H.out.pick 4 rfl).cell 1, (H.out.pick 4 rfl).cell 2, (H.out.pick 5 rfl).cell 0, (H.out.pick 5 rfl).cell 1, (H.out.pick 5 rfl).cell 2⟩) (fun hHeld => ?_)
    refine with_tabW bu.tab7 bu.bits7 (fun HT_ HW_ => ?_)
    refine tk_ (v := ?_) (a' := ?_) 0 (some 47) 1 rfl rfl HT_ HW_ (by kernel_rfl) (.inl ⟨by rfl, ?_⟩) hHeld ?_ ?_; rotate_left 2; (· rintro w' ⟨_, _, _, _, _, _⟩; go_simp; with_reducible rfl); (· simp only [nrm]; rfl)
    refine pu_ (v := ?_) (a' := ?_) 2 (some 49) 5 rfl rfl HT_ (by kernel_rfl) (.inl ⟨by rfl, ?_⟩) ?_ ?_; rotate_left 2; (· intro w'; go_simp; with_reducible rfl); (· simp only [nrm]; rfl)
    refine tk_ (v := ?_) (a' := ?_) 3 (some 50) 13 rfl rfl HT_ HW_ (by kernel_rfl) (.inl ⟨by rfl, ?_⟩) hHeld ?_ ?_; rotate_left 2; (· rintro w' ⟨_, _, _, _, _, _⟩; go_simp; with_reducible rfl); (· simp only [nrm]; rfl)
    refine on_ 1 (some 48) 15 rfl rfl HT_ (by kernel_rfl) (by decide) (fun K hK => ?_)
    refine goes_ Tryd.func15 (by kernel_rfl) rfl #[.agg #[.int .i64 ((P : Int) + 1), .int .i64 1, .int .i64 1]] (by rfl) rfl rfl (by (try simp only [List.map_toArray, List.map_cons, List.map_nil]); first | done | rfl) ?_
    refine (windrowlaw11_plan.calls _ _ _ _ _ _ _ P5.out).mono ?_
    rintro e w12 ⟨rfl, hb⟩
    replace H := Aside.mk (H.out.step hb)
    clear hb
    refine ⟨_, rfl, ?_⟩
    refine hK.out _ _ ⟨(H.out.pick 4 rfl).cell 0, (H.out.pick 4 rfl).cell 1, (H.out.pick 4 rfl).cell 2, (H.out.pick 5 rfl).cell 0, (H.out.pick 5 rfl).cell 1, (H.out.pick 5 rfl).cell 2⟩ (fun hHeld => ?_)
    clear hK K
    refine norm_ (a' := ?_) ?_ ?_
    rotate_left
    · show Act.put _ (some 48) _ = _
      simp only [nrm]
      rfl
    refine on_ 4 (some 51) 31 rfl rfl HT_ (by kernel_rfl) (by decide) (fun K hK => ?_)
    refine goes_ Tryd.func35 (by kernel_rfl) rfl #[.agg #[.int .i64 c, .int .i64 kd, .int .i64 n]] (by rfl) rfl rfl (by (try simp only [List.map_toArray, List.map_cons, List.map_nil]); first | done | rfl) ?_
    refine (windrowlaw11_head.calls _ _ _ _ _ _ _ P6.out).mono ?_
    rintro e w13 ⟨rfl, hb⟩
    replace H := Aside.mk (H.out.step hb)
    clear hb
    refine ⟨_, rfl, ?_⟩
    refine hK.out _ _ ⟨(H.out.pick 4 rfl).cell 0, (H.out.pick 4 rfl).cell 1, (H.out.pick 4 rfl).cell 2, (H.out.pick 5 rfl).cell 0, (H.out.pick 5 rfl).cell 1, (H.out.pick 5 rfl).cell 2⟩ (fun hHeld => ?_)
    clear hK K
    refine norm_ (a' := ?_) ?_ ?_
    rotate_left
    · show Act.put _ (some 51) _ = _
      simp only [nrm]
      rfl
    refine on_ 5 (some 52) 63 rfl rfl HT_ (by kernel_rfl) (by decide) (fun K hK => ?_)
    refine goes_ Tryd.func14 (by kernel_rfl) rfl #[.agg #[.int .i64 ((P : Int) + 1), .int .i64 1, .int .i64 1], .int .i64 at_, .agg #[.int .i64 c, .int .i64 kd, .int .i64 n]] (by rfl) rfl rfl (by (try simp only [List.map_toArray, List.map_cons, List.map_nil]); first | done | rfl) ?_
    refine (HNB.out _ _ H.out).mono ?_
    rintro e w14 ⟨rfl, h9⟩
    replace H := Aside.mk h9
    clear h9
    refine ⟨_, rfl, ?_⟩
    refine hK.out _ _ ⟨(H.out.pick 4 rfl).cell 0, (H.out.pick 4 rfl).cell 1, (H.out.pick 4 rfl).cell 2, (H.out.pick 5 rfl).cell 0, (H.out.pick 5 rfl).cell 1, (H.out.pick 5 rfl).cell 2⟩ (fun hHeld => ?_)
    clear hK K
    refine norm_ (a' := ?_) ?_ ?_
    rotate_left
    · show Act.put _ (some 52) _ = _
      simp only [nrm]
      rfl
    refine pu_ (v := ?_) (a' := ?_) 6 (some 46) 127 rfl rfl HT_ (by kernel_rfl) (.inl ⟨by rfl, ?_⟩) ?_ ?_; rotate_left 2; (· intro w'; go_simp; with_reducible rfl); (· simp only [nrm]; rfl)
    refine pu_ (v := ?_) (a' := ?_) 7 (some 53) 255 rfl rfl HT_ (by kernel_rfl) (.inl ⟨by rfl, ?_⟩) ?_ ?_; rotate_left 2; (· intro w'; go_simp; with_reducible rfl); (· simp only [nrm]; rfl)
    refine pu_ (v := ?_) (a' := ?_) 8 (some 54) 511 rfl rfl HT_ (by kernel_rfl) (.inl ⟨by rfl, ?_⟩) ?_ ?_; rotate_left 2; (· intro w'; go_simp; with_reducible rfl); (· simp only [nrm]; rfl)
    refine pu_ (v := ?_) (a' := ?_) 9 (some 11) 1023 rfl rfl HT_ (by kernel_rfl) (.inl ⟨by rfl, ?_⟩) ?_ ?_; rotate_left 2; (· intro w'; go_simp; with_reducible rfl); (· simp only [nrm]; rfl)
    refine pu_ (v := ?_) (a' := ?_) 10 (some 12) 2047 rfl rfl HT_ (by kernel_rfl) (.inl ⟨by rfl, ?_⟩) ?_ ?_; rotate_left 2; (· intro w'; go_simp; with_reducible rfl); (· simp only [nrm]; rfl)
    refine done_ (done_of HT_.out (by kernel_rfl)) ?_
    clear HT_ HW_ hHeld
    have h0 := (H.out.pick 5 rfl).cell 0; have h1 := (H.out.pick 5 rfl).cell 1; have h2 := (H.out.pick 5 rfl).cell 2
    go_wp2_with (first
      | (go_at_call 39; refine (windrowref02_IsHead.calls _ _ _ _ _ HIS.out).mono ?_; rintro e w15 ⟨rfl, hb⟩; replace H := Aside.mk (H.out.step hb); clear hb h0 h1 h2; have f0 := (H.out.pick 6 rfl).frozen 0; have c0 := (H.out.pick 6 rfl).cell 0))
    try simp only [Exit.inBlock, Exit.then]
    have h9 := (H.out.pick 6 rfl).put 0 (.bool true) rfl
    exact bret_ (rcell_ rfl rfl (h9.cell 0)) rfl ⟨rfl, h9.below⟩
  case pos =>
  have HIS : Aside (windrowref02_IsHead.f c kd n = some true) := ⟨by rw [rhead_, hh]⟩
  by_cases hl : liesI P at_ c kd n = true
  case neg =>
    have hl2 : liesI P at_ c kd n = false := by simpa using hl
    have HNB := Aside.mk (fun (w1 : World) (F : List HP) (h : St w0 w1 F) => nb_addr (P := P) HPp.out hh hl2 h)
    have HLI : Aside (windrowref11_Lies.f 11 ((P : Int) + 1) 1 1 64 22 (128 + 64 * (P : Int)) at_ c kd n = some false) := ⟨by rw [rlies_c P HPp.out, hl2]⟩
    clear hh hl hl2
    go_wp2_with fail
    replace H := Aside.mk H.out.drew
    refine start_ (n := 11) (S := fun w' => w'.cell? ⟨g1_, 0, none⟩ = some (.int .i64 ((P : Int) + 1)) ∧ w'.cell? ⟨g1_, 1, none⟩ = some (.int .i64 1) ∧ w'.cell? ⟨g1_, 2, none⟩ = some (.int .i64 1) ∧ w'.cell? ⟨g2_, 0, none⟩ = some (.int .i64 c) ∧ w'.cell? ⟨g2_, 1, none⟩ = some (.int .i64 kd) ∧ w'.cell? ⟨g2_, 2, none⟩ = some (.int .i64 n)) (ds := []) (flg 11 0) (by kernel_rfl) rfl rfl (⟨(H.out.pick 4 rfl).cell 0, (H.out.pick 4 rfl).cell 1, (H.out.pick 4 rfl).cell 2, (H.out.pick 5 rfl).cell 0, (H.out.pick 5 rfl).cell 1, (H.out.pick 5 rfl).cell 2⟩) (fun hHeld => ?_)
    refine with_tabW bu.tab7 bu.bits7 (fun HT_ HW_ => ?_)
    refine tk_ (v := ?_) (a' := ?_) 0 (some 47) 1 rfl rfl HT_ HW_ (by kernel_rfl) (.inl ⟨by rfl, ?_⟩) hHeld ?_ ?_; rotate_left 2; (· rintro w' ⟨_, _, _, _, _, _⟩; go_simp; with_reducible rfl); (· simp only [nrm]; rfl)
    refine pu_ (v := ?_) (a' := ?_) 2 (some 49) 5 rfl rfl HT_ (by kernel_rfl) (.inl ⟨by rfl, ?_⟩) ?_ ?_; rotate_left 2; (· intro w'; go_simp; with_reducible rfl); (· simp only [nrm]; rfl)
    refine tk_ (v := ?_) (a' := ?_) 3 (some 50) 13 rfl rfl HT_ HW_ (by kernel_rfl) (.inl ⟨by rfl, ?_⟩) hHeld ?_ ?_; rotate_left 2; (· rintro w' ⟨_, _, _, _, _, _⟩; go_simp; with_reducible rfl); (· simp only [nrm]; rfl)
    refine on_ 1 (some 48) 15 rfl rfl HT_ (by kernel_rfl) (by decide) (fun K hK => ?_)
    refine goes_ Tryd.func15 (by kernel_rfl) rfl #[.agg #[.int .i64 ((P : Int) + 1), .int .i64 1, .int .i64 1]] (by rfl) rfl rfl (by (try simp only [List.map_toArray, List.map_cons, List.map_nil]); first | done | rfl) ?_
    refine (windrowlaw11_plan.calls _ _ _ _ _ _ _ P5.out).mono ?_
    rintro e w12 ⟨rfl, hb⟩
    replace H := Aside.mk (H.out.step hb)
    clear hb
    refine ⟨_, rfl, ?_⟩
    refine hK.out _ _ ⟨(H.out.pick 4 rfl).cell 0, (H.out.pick 4 rfl).cell 1, (H.out.pick 4 rfl).cell 2, (H.out.pick 5 rfl).cell 0, (H.out.pick 5 rfl).cell 1, (H.out.pick 5 rfl).cell 2⟩ (fun hHeld => ?_)
    clear hK K
    refine norm_ (a' := ?_) ?_ ?_
    rotate_left
    · show Act.put _ (some 48) _ = _
      simp only [nrm]
      rfl
    refine on_ 4 (some 51) 31 rfl rfl HT_ (by kernel_rfl) (by decide) (fun K hK => ?_)
    refine goes_ Tryd.func35 (by kernel_rfl) rfl #[.agg #[.int .i64 c, .int .i64 kd, .int .i64 n]] (by rfl) rfl rfl (by (try simp only [List.map_toArray, List.map_cons, List.map_nil]); first | done | rfl) ?_
    refine (windrowlaw11_head.calls _ _ _ _ _ _ _ P6.out).mono ?_
    rintro e w13 ⟨rfl, hb⟩
    replace H := Aside.mk (H.out.step hb)
    clear hb
    refine ⟨_, rfl, ?_⟩
    refine hK.out _ _ ⟨(H.out.pick 4 rfl).cell 0, (H.out.pick 4 rfl).cell 1, (H.out.pick 4 rfl).cell 2, (H.out.pick 5 rfl).cell 0, (H.out.pick 5 rfl).cell 1, (H.out.pick 5 rfl).cell 2⟩ (fun hHeld => ?_)
    clear hK K
    refine norm_ (a' := ?_) ?_ ?_
    rotate_left
    · show Act.put _ (some 51) _ = _
      simp only [nrm]
      rfl
    refine on_ 5 (some 52) 63 rfl rfl HT_ (by kernel_rfl) (by decide) (fun K hK => ?_)
    refine goes_ Tryd.func14 (by kernel_rfl) rfl #[.agg #[.int .i64 ((P : Int) + 1), .int .i64 1, .int .i64 1], .int .i64 at_, .agg #[.int .i64 c, .int .i64 kd, .int .i64 n]] (by rfl) rfl rfl (by (try simp only [List.map_toArray, List.map_cons, List.map_nil]); first | done | rfl) ?_
    refine (HNB.out _ _ H.out).mono ?_
    rintro e w14 ⟨rfl, h9⟩
    replace H := Aside.mk h9
    clear h9
    refine ⟨_, rfl, ?_⟩
    refine hK.out _ _ ⟨(H.out.pick 4 rfl).cell 0, (H.out.pick 4 rfl).cell 1, (H.out.pick 4 rfl).cell 2, (H.out.pick 5 rfl).cell 0, (H.out.pick 5 rfl).cell 1, (H.out.pick 5 rfl).cell 2⟩ (fun hHeld => ?_)
    clear hK K
    refine norm_ (a' := ?_) ?_ ?_
    rotate_left
    · show Act.put _ (some 52) _ = _
      simp only [nrm]
      rfl
    refine pu_ (v := ?_) (a' := ?_) 6 (some 46) 127 rfl rfl HT_ (by kernel_rfl) (.inl ⟨by rfl, ?_⟩) ?_ ?_; rotate_left 2; (· intro w'; go_simp; with_reducible rfl); (· simp only [nrm]; rfl)
    refine pu_ (v := ?_) (a' := ?_) 7 (some 53) 255 rfl rfl HT_ (by kernel_rfl) (.inl ⟨by rfl, ?_⟩) ?_ ?_; rotate_left 2; (· intro w'; go_simp; with_reducible rfl); (· simp only [nrm]; rfl)
    refine pu_ (v := ?_) (a' := ?_) 8 (some 54) 511 rfl rfl HT_ (by kernel_rfl) (.inl ⟨by rfl, ?_⟩) ?_ ?_; rotate_left 2; (· intro w'; go_simp; with_reducible rfl); (· simp only [nrm]; rfl)
    refine pu_ (v := ?_) (a' := ?_) 9 (some 11) 1023 rfl rfl HT_ (by kernel_rfl) (.inl ⟨by rfl, ?_⟩) ?_ ?_; rotate_left 2; (· intro w'; go_simp; with_reducible rfl); (· simp only [nrm]; rfl)
    refine pu_ (v := ?_) (a' := ?_) 10 (some 12) 2047 rfl rfl HT_ (by kernel_rfl) (.inl ⟨by rfl, ?_⟩) ?_ ?_; rotate_left 2; (· intro w'; go_simp; with_reducible rfl); (· simp only [nrm]; rfl)
    refine done_ (done_of HT_.out (by kernel_rfl)) ?_
    clear HT_ HW_ hHeld
    have h0 := (H.out.pick 5 rfl).cell 0; have h1 := (H.out.pick 5 rfl).cell 1; have h2 := (H.out.pick 5 rfl).cell 2
    go_wp2_with (first
      | (go_at_call 39; refine (windrowref02_IsHead.calls _ _ _ _ _ HIS.out).mono ?_; rintro e w15 ⟨rfl, hb⟩; replace H := Aside.mk (H.out.step hb); clear hb h0 h1 h2; have m0 := (H.out.pick 3 rfl).cell 0; have m1 := (H.out.pick 3 rfl).cell 1; have m2 := (H.out.pick 3 rfl).cell 2; have m3 := (H.out.pick 3 rfl).cell 3; have m4 := (H.out.pick 3 rfl).cell 4; have m5 := (H.out.pick 3 rfl).cell 5; have h0 := (H.out.pick 5 rfl).cell 0; have h1 := (H.out.pick 5 rfl).cell 1; have h2 := (H.out.pick 5 rfl).cell 2)
      | (go_at_call 40; refine (windrowref11_Lies.calls _ _ _ _ _ _ _ _ _ _ _ _ _ HLI.out).mono ?_; rintro e w16 ⟨rfl, hb⟩; replace H := Aside.mk (H.out.step hb); clear hb m0 m1 m2 m3 m4 m5 h0 h1 h2; have f0 := (H.out.pick 6 rfl).frozen 0; have c0 := (H.out.pick 6 rfl).cell 0))
    try simp only [Exit.inBlock, Exit.then]
    have h9 := (H.out.pick 6 rfl).put 0 (.bool true) rfl
    exact bret_ (rcell_ rfl rfl (h9.cell 0)) rfl ⟨rfl, h9.below⟩
  case pos =>
  have HNB := Aside.mk (fun (w1 : World) (F : List HP) (h : St w0 w1 F) => nb_ok (P := P) HPp.out hh hl h)
  have HLI : Aside (windrowref11_Lies.f 11 ((P : Int) + 1) 1 1 64 22 (128 + 64 * (P : Int)) at_ c kd n = some true) := ⟨by rw [rlies_c P HPp.out, hl]⟩
  obtain ⟨aN, nn, rfl, rfl, ha64, hn255, hin⟩ := lies_in hh hl
  obtain ⟨hd, hhd⟩ : ∃ hd, hdW c kd nn = hd := ⟨_, rfl⟩
  rw [hhd] at HNB
  have HHD := Aside.mk hhd
  have HH := Aside.mk hh
  have HA64 := Aside.mk ha64
  have HN255 := Aside.mk hn255
  have HIN : Aside (aN + nn < nN) := ⟨by rw [HNN.out]; exact hin⟩
  clear hh hl ha64 hn255 hin hhd
  go_wp2_with fail
  replace H := Aside.mk H.out.drew
  refine start_ (n := 11) (S := fun w' => w'.cell? ⟨g1_, 0, none⟩ = some (.int .i64 ((P : Int) + 1)) ∧ w'.cell? ⟨g1_, 1, none⟩ = some (.int .i64 1) ∧ w'.cell? ⟨g1_, 2, none⟩ = some (.int .i64 1) ∧ w'.cell? ⟨g2_, 0, none⟩ = some (.int .i64 c) ∧ w'.cell? ⟨g2_, 1, none⟩ = some (.int .i64 kd) ∧ w'.cell? ⟨g2_, 2, none⟩ = some (.int .i64 nn)) (ds := []) (flg 11 0) (by kernel_rfl) rfl rfl (⟨(H.out.pick 4 rfl).cell 0, (H.out.pick 4 rfl).cell 1, (H.out.pick 4 rfl).cell 2, (H.out.pick 5 rfl).cell 0, (H.out.pick 5 rfl).cell 1, (H.out.pick 5 rfl).cell 2⟩) (fun hHeld => ?_)
  refine with_tabW bu.tab7 bu.bits7 (fun HT_ HW_ => ?_)
  refine tk_ (v := ?_) (a' := ?_) 0 (some 47) 1 rfl rfl HT_ HW_ (by kernel_rfl) (.inl ⟨by rfl, ?_⟩) hHeld ?_ ?_; rotate_left 2; (· rintro w' ⟨_, _, _, _, _, _⟩; go_simp; with_reducible rfl); (· simp only [nrm]; rfl)
  refine pu_ (v := ?_) (a' := ?_) 2 (some 49) 5 rfl rfl HT_ (by kernel_rfl) (.inl ⟨by rfl, ?_⟩) ?_ ?_; rotate_left 2; (· intro w'; go_simp; with_reducible rfl); (· simp only [nrm]; rfl)
  refine tk_ (v := ?_) (a' := ?_) 3 (some 50) 13 rfl rfl HT_ HW_ (by kernel_rfl) (.inl ⟨by rfl, ?_⟩) hHeld ?_ ?_; rotate_left 2; (· rintro w' ⟨_, _, _, _, _, _⟩; go_simp; with_reducible rfl); (· simp only [nrm]; rfl)
  refine on_ 1 (some 48) 15 rfl rfl HT_ (by kernel_rfl) (by decide) (fun K hK => ?_)
  refine goes_ Tryd.func15 (by kernel_rfl) rfl #[.agg #[.int .i64 ((P : Int) + 1), .int .i64 1, .int .i64 1]] (by rfl) rfl rfl (by (try simp only [List.map_toArray, List.map_cons, List.map_nil]); first | done | rfl) ?_
  refine (windrowlaw11_plan.calls _ _ _ _ _ _ _ P5.out).mono ?_
  rintro e w12 ⟨rfl, hb⟩
  replace H := Aside.mk (H.out.step hb)
  clear hb
  refine ⟨_, rfl, ?_⟩
  refine hK.out _ _ ⟨(H.out.pick 4 rfl).cell 0, (H.out.pick 4 rfl).cell 1, (H.out.pick 4 rfl).cell 2, (H.out.pick 5 rfl).cell 0, (H.out.pick 5 rfl).cell 1, (H.out.pick 5 rfl).cell 2⟩ (fun hHeld => ?_)
  clear hK K
  refine norm_ (a' := ?_) ?_ ?_
  rotate_left
  · show Act.put _ (some 48) _ = _
    simp only [nrm]
    rfl
  refine on_ 4 (some 51) 31 rfl rfl HT_ (by kernel_rfl) (by decide) (fun K hK => ?_)
  refine goes_ Tryd.func35 (by kernel_rfl) rfl #[.agg #[.int .i64 c, .int .i64 kd, .int .i64 nn]] (by rfl) rfl rfl (by (try simp only [List.map_toArray, List.map_cons, List.map_nil]); first | done | rfl) ?_
  refine (windrowlaw11_head.calls _ _ _ _ _ _ _ P6.out).mono ?_
  rintro e w13 ⟨rfl, hb⟩
  replace H := Aside.mk (H.out.step hb)
  clear hb
  refine ⟨_, rfl, ?_⟩
  refine hK.out _ _ ⟨(H.out.pick 4 rfl).cell 0, (H.out.pick 4 rfl).cell 1, (H.out.pick 4 rfl).cell 2, (H.out.pick 5 rfl).cell 0, (H.out.pick 5 rfl).cell 1, (H.out.pick 5 rfl).cell 2⟩ (fun hHeld => ?_)
  clear hK K
  refine norm_ (a' := ?_) ?_ ?_
  rotate_left
  · show Act.put _ (some 51) _ = _
    simp only [nrm]
    rfl
  refine on_ 5 (some 52) 63 rfl rfl HT_ (by kernel_rfl) (by decide) (fun K hK => ?_)
  refine goes_ Tryd.func14 (by kernel_rfl) rfl #[.agg #[.int .i64 ((P : Int) + 1), .int .i64 1, .int .i64 1], .int .i64 aN, .agg #[.int .i64 c, .int .i64 kd, .int .i64 nn]] (by rfl) rfl rfl (by (try simp only [List.map_toArray, List.map_cons, List.map_nil]); first | done | rfl) ?_
  refine (HNB.out _ _ H.out).mono ?_
  rintro e w14 ⟨b, rfl, h9⟩
  replace H := Aside.mk h9
  clear h9
  refine ⟨_, rfl, ?_⟩
  refine hK.out _ _ ⟨(H.out.pick 5 rfl).cell 0, (H.out.pick 5 rfl).cell 1, (H.out.pick 5 rfl).cell 2, (H.out.pick 6 rfl).cell 0, (H.out.pick 6 rfl).cell 1, (H.out.pick 6 rfl).cell 2⟩ (fun hHeld => ?_)
  clear hK K
  refine norm_ (a' := ?_) ?_ ?_
  rotate_left
  · show Act.put _ (some 52) _ = _
    simp only [nrm]
    rfl
  refine pu_ (v := ?_) (a' := ?_) 6 (some 46) 127 rfl rfl HT_ (by kernel_rfl) (.inl ⟨by rfl, ?_⟩) ?_ ?_; rotate_left 2; (· intro w'; go_simp; with_reducible rfl); (· simp only [nrm]; rfl)
  refine pu_ (v := ?_) (a' := ?_) 7 (some 53) 255 rfl rfl HT_ (by kernel_rfl) (.inl ⟨by rfl, ?_⟩) ?_ ?_; rotate_left 2; (· intro w'; go_simp; with_reducible rfl); (· simp only [nrm]; rfl)
  refine pu_ (v := ?_) (a' := ?_) 8 (some 54) 511 rfl rfl HT_ (by kernel_rfl) (.inl ⟨by rfl, ?_⟩) ?_ ?_; rotate_left 2; (· intro w'; go_simp; with_reducible rfl); (· simp only [nrm]; rfl)
  refine pu_ (v := ?_) (a' := ?_) 9 (some 11) 1023 rfl rfl HT_ (by kernel_rfl) (.inl ⟨by rfl, ?_⟩) ?_ ?_; rotate_left 2; (· intro w'; go_simp; with_reducible rfl); (· simp only [nrm]; rfl)
  refine pu_ (v := ?_) (a' := ?_) 10 (some 12) 2047 rfl rfl HT_ (by kernel_rfl) (.inl ⟨by rfl, ?_⟩) ?_ ?_; rotate_left 2; (· intro w'; go_simp; with_reducible rfl); (· simp only [nrm]; rfl)
  refine done_ (done_of HT_.out (by kernel_rfl)) ?_
  clear HT_ HW_ hHeld
  have h0 := (H.out.pick 6 rfl).cell 0; have h1 := (H.out.pick 6 rfl).cell 1; have h2 := (H.out.pick 6 rfl).cell 2
  go_upto_block 0 with (first
    | (go_at_call 39; refine (windrowref02_IsHead.calls _ _ _ _ _ HIS.out).mono ?_; rintro e w15 ⟨rfl, hb⟩; replace H := Aside.mk (H.out.step hb); clear hb h0 h1 h2; have m0 := (H.out.pick 4 rfl).cell 0; have m1 := (H.out.pick 4 rfl).cell 1; have m2 := (H.out.pick 4 rfl).cell 2; have m3 := (H.out.pick 4 rfl).cell 3; have m4 := (H.out.pick 4 rfl).cell 4; have m5 := (H.out.pick 4 rfl).cell 5; have h0 := (H.out.pick 6 rfl).cell 0; have h1 := (H.out.pick 6 rfl).cell 1; have h2 := (H.out.pick 6 rfl).cell 2)
    | (go_at_call 40; refine (windrowref11_Lies.calls _ _ _ _ _ _ _ _ _ _ _ _ _ HLI.out).mono ?_; rintro e w16 ⟨rfl, hb⟩; replace H := Aside.mk (H.out.step hb); clear hb m0 m1 m2 m3 m4 m5 h0 h1 h2)
    | (go_at_call 16; refine (port_ (who := 2) (by decide) (by decide) H.out).mono ?_; rintro e w17 ⟨p, rfl, h9⟩; replace H := Aside.mk h9; clear h9)
    | (go_at_call 18; refine (bstep_shut H.out).mono ?_; rintro e w18 ⟨rfl, h9⟩; replace H := Aside.mk h9; clear h9)
    | (go_at_call 20; refine (over_ (H.out.pick 1 rfl)).mono ?_; rintro e w19 ⟨rfl, rfl⟩; replace H := Aside.mk ((((H.out.alloc #[.slice (some ⟨gD, 0, none⟩) nN nN, .slice none 0 0, .int .i64 0] 95).alloc #[.slice none 0 0, .int .i64 0, .int .i64 0, .int .i64 0, .int .i64 0, .int .u64 0, .int .u64 0, .int .u64 0, .int .u64 0, .bool false] 100).nil_row 22 1).nil_row 98 7 |>.nil_row 98 7)))
  have h9 := H.out.order 10 [5, 7, 8, 0, 6, 3, 2, 4, 9, 1] rfl rfl
  simp only [World.size_alloc] at h9
  clear H
  generalize World.alloc (World.alloc w19 _) _ = w20 at h9 ⊢
  generalize w19.heap.size + 1 = t at h9 ⊢
  generalize w19.heap.size = d at h9 ⊢
  have H : Aside (St w0 w20 (LBs p a gC b t d gD nN aN hd nn false false X0 X0 [] [] (.slice none 0 0) (.slice none 0 0) (.slice none 0 0) ⟨[], 0, 0, 0, 0, 0, false⟩ (CX r g1_ g2_ dm P c kd nn BX))) := Aside.mk h9
  clear h9 HNB HLI HIS P2 P5 P6 PS HLAY HTS
  go_cut [17] from 21 to 168 (fun v17 wc => ∃ X l lv lv2 lh tp, Aside (X.length = nN ∧ l.length = nn + 1) ∧ Aside (St w0 wc (LBs p a gC b t d gD nN aN hd ((nn - (nn + 1) : Nat) : Int) true false X X l l lv lv2 lh tp (CX r g1_ g2_ dm P c kd nn BX))))
  case first =>
    go_wp2_with fail
    go_loopg [17] (nn + 1) (fun m v17 w' => ∃ (i : Nat) (X : List Int) (l : List Acc) (lv lv2 lh : Value) (tp : Tp), m = nn + 1 - i ∧ i ≤ nn + 1 ∧ v17 = .int .i64 i ∧ Aside (X.length = nN ∧ l.length = i ∧ tp.hist.length = i) ∧ Aside (St w0 w' (LBs p a gC b t d gD nN aN hd ((nn - i : Nat) : Int) (decide (i = nn + 1)) false X X l l lv lv2 lh tp (CX r g1_ g2_ dm P c kd nn BX))))
    case atStart => exact ⟨0, X0, [], _, _, _, ⟨[], 0, 0, 0, 0, 0, false⟩, rfl, Nat.zero_le _, rfl, ⟨HXL.out, rfl, rfl⟩, H⟩
    case round =>
      clear H
      obtain ⟨i, X, l, lv, lv2, lh, tp, rfl, hi, rfl, HF, H⟩ := hrel
      by_cases hle : i ≤ nn
      · have d1 : decide ((i : Int) ≤ (nn : Int)) = true := by simp; omega
        have n1 : (i : Int) ≤ (nn : Int) := by omega
        replace H : Aside (St w0 _ (LBs p a gC b t d gD nN aN hd ((nn - i : Nat) : Int) false false X X l l lv lv2 lh tp (CX r g1_ g2_ dm P c kd nn BX))) := Aside.mk (by have h9 := H.out; rw [show decide (i = nn + 1) = false by simp; omega] at h9; exact h9)
        obtain ⟨na, hna⟩ : ∃ na, na = if i < nn then aN + (nn - i) else aN := ⟨_, rfl⟩
        obtain ⟨np, hnp⟩ : ∃ np, np = if i < nn then 0 else hd := ⟨_, rfl⟩
        obtain ⟨ob, hob⟩ : ∃ ob, ob = decide (i = nn) := ⟨_, rfl⟩
        have hN4 : nN ≤ 4096 := by have := HNN.out; have := HPp.out; omega
        have hnaN : na < nN := by rw [hna]; have := HIN.out; split <;> omega
        have HDR := Aside.mk (fun (w1 : World) (F : List HP) (h : St w0 w1 (tpB t lh tp.again :: tpR lh tp.again :: F)) => dround_ (j := i) (nn := nn) (aN := aN) (na := na) (np := np) HH.out HHD.out HF.out.2.2 hle HN255.out (by have := HIN.out; omega) hna hnp h)
        have HMK := Aside.mk (fun (w1 : World) (F : List HP) (h : St w0 w1 (tpB t lh ⟨tp.hist, tp.hist.length, 2, na, 0, np, true⟩ :: tpR lh ⟨tp.hist, tp.hist.length, 2, na, 0, np, true⟩ :: daB d gD nN lv2 0 :: blk gD (U X).toArray 22 :: row 98 7 lv2 l.length (accs l) :: F)) => mround_ HF.out.1 hnaN hN4 (by have := HF.out.2.1; have := HN255.out; omega) (by have := HF.out.2.2; have := HN255.out; omega) h)
        have HST := Aside.mk (fun (w1 : World) (F : List HP) (h : St w0 w1 (poB p a 2 true :: arB a gC nN lv true l.length 0 :: ceB gC X :: row 98 7 lv l.length (accs l) :: bdB b aN hd ((nn - i : Nat) : Int) false :: F)) => bround_ (j := i) (nn := nn) HF.out.1 HIN.out hN4 (by have := HF.out.2.1; have := HN255.out; omega) hle hna hnp hob h)
        have HF2 : Aside ((X.set na np).length = nN ∧ (l ++ [(⟨2, 2, na, 0, np, X.getD na 0, np⟩ : Acc)]).length = i + 1 ∧ (tp.hist ++ [X.getD na 0]).length = i + 1) := ⟨by rw [List.length_set]; exact HF.out.1, by rw [List.length_append, HF.out.2.1]; rfl, by rw [List.length_append, HF.out.2.2]; rfl⟩
        generalize l ++ [(⟨2, 2, na, 0, np, X.getD na 0, np⟩ : Acc)] = l2 at HMK HST HF2
        generalize X.set na np = Xn at HMK HST HF2
        have HLE := Aside.mk hle
        have HOB := Aside.mk hob
        have he : ((i : Int) == (nn : Int)) = ob := by rw [hob, Bool.eq_iff_iff]; simp only [beq_iff_eq, decide_eq_true_eq]; omega
        have HE := Aside.mk he
        clear hna hnp hob hN4 hnaN hle hi he
        have h2 := (H.out.pick 12 rfl).cell 2
        go_wp2_with (first
          | (go_at_call 41; refine (tagain_ (H.out.order 10 [5, 6, 0, 1, 2, 3, 4, 7, 8, 9] rfl rfl)).mono ?_; rintro e w21 ⟨rfl, h9⟩; replace H : Aside (St w0 w21 (LBs p a gC b t d gD nN aN hd ((nn - i : Nat) : Int) false false X X l l lv lv2 lh tp.again (CX r g1_ g2_ dm P c kd nn BX))) := Aside.mk (h9.order 10 [2, 3, 4, 5, 6, 0, 1, 7, 8, 9] rfl rfl); clear h9 h2; have h0 := (H.out.pick 12 rfl).cell 0; have h1 := (H.out.pick 12 rfl).cell 1; have h2 := (H.out.pick 12 rfl).cell 2)
          | (go_at_call 42; refine (HDR.out _ _ (H.out.order 10 [5, 6, 0, 1, 2, 3, 4, 7, 8, 9] rfl rfl)).mono ?_; rintro e w22 ⟨rfl, h9⟩; replace H : Aside (St w0 w22 (LBs p a gC b t d gD nN aN hd ((nn - i : Nat) : Int) false false X X l l lv lv2 lh ⟨tp.hist, tp.hist.length, 2, na, 0, np, true⟩ (CX r g1_ g2_ dm P c kd nn BX))) := Aside.mk (h9.order 10 [2, 3, 4, 5, 6, 0, 1, 7, 8, 9] rfl rfl); clear h9 h0 h1 h2)
          | (go_at_call 17; refine (grant_ H.out).mono ?_; rintro e w23 ⟨rfl, h9⟩; replace H : Aside (St w0 w23 (LBs p a gC b t d gD nN aN hd ((nn - i : Nat) : Int) false true X X l l lv lv2 lh ⟨tp.hist, tp.hist.length, 2, na, 0, np, true⟩ (CX r g1_ g2_ dm P c kd nn BX))) := Aside.mk h9; clear h9)
          | (go_at_call 43; refine (HMK.out _ _ (H.out.order 10 [5, 6, 7, 8, 9, 0, 1, 2, 3, 4] rfl rfl)).mono ?_; rintro e w24 ⟨lv3, lh3, rfl, h9⟩; replace H : Aside (St w0 w24 (LBs p a gC b t d gD nN aN hd ((nn - i : Nat) : Int) false true X Xn l l2 lv lv3 lh3 ⟨tp.hist ++ [X.getD na 0], tp.hist.length, 2, na, 0, np, true⟩ (CX r g1_ g2_ dm P c kd nn BX))) := Aside.mk (h9.order 10 [5, 6, 7, 8, 9, 0, 1, 2, 3, 4] rfl rfl); clear h9))
        replace H := Aside.mk H.out.drew
        have hE := HE.out
        cases ob
        case false =>
          refine start_ (n := 17) (S := fun w' => w'.cell? ⟨g2_, 2, none⟩ = some (.int .i64 nn)) (ds := []) (flg 17 0) (by kernel_rfl) rfl rfl (((H.out.pick 12 rfl).cell 2)) (fun hHeld => ?_)
          refine with_tabW bu.tab25 bu.bits25 (fun HT_ HW_ => ?_)
          refine pu_ (v := ?_) (a' := ?_) 0 (some 121) 1 rfl rfl HT_ (by kernel_rfl) (.inl ⟨by rfl, ?_⟩) ?_ ?_; rotate_left 2; (· intro w'; go_simp; with_reducible rfl); (· simp only [nrm]; rfl)
          refine pu_ (v := ?_) (a' := ?_) 1 (some 122) 3 rfl rfl HT_ (by kernel_rfl) (.inl ⟨by rfl, ?_⟩) ?_ ?_; rotate_left 2; (· intro w'; go_simp; with_reducible rfl); (· simp only [nrm]; rfl)
          refine pu_ (v := ?_) (a' := ?_) 3 (some 124) 11 rfl rfl HT_ (by kernel_rfl) (.inl ⟨by rfl, ?_⟩) ?_ ?_; rotate_left 2; (· intro w'; go_simp; with_reducible rfl); (· simp only [nrm]; rfl)
          refine pu_ (v := ?_) (a' := ?_) 4 (some 125) 27 rfl rfl HT_ (by kernel_rfl) (.inl ⟨by rfl, ?_⟩) ?_ ?_; rotate_left 2; (· intro w'; go_simp; with_reducible rfl); (· simp only [nrm]; rfl)
          refine tk_ (v := ?_) (a' := ?_) 5 (some 126) 59 rfl rfl HT_ HW_ (by kernel_rfl) (.inl ⟨by rfl, ?_⟩) hHeld ?_ ?_; rotate_left 2; (· rintro w' _; go_simp; with_reducible rfl); (· simp only [nrm]; rfl)
          refine pu_ (v := ?_) (a' := ?_) 6 (some 127) 123 rfl rfl HT_ (by kernel_rfl) (.inl ⟨by rfl, ?_⟩) ?_ ?_; rotate_left 2; (· intro w'; go_simp; with_reducible rfl); (· simp only [nrm]; rfl)
          refine on_ 2 (some 123) 127 rfl rfl HT_ (by kernel_rfl) (by decide) (fun K hK => ?_)
          refine goes_ Tryd.func18 (by kernel_rfl) rfl #[.pointer (some ⟨b, 0, none⟩), .pointer (some ⟨p, 0, none⟩)] (by rfl) rfl rfl (by (try simp only [List.map_toArray, List.map_cons, List.map_nil]); first | done | rfl) ?_
          refine (HST.out _ _ H.out).mono ?_
          rintro e w25 ⟨lv1, rfl, h9⟩
          replace H : Aside (St w0 w25 (LBs p a gC b t d gD nN aN hd ((nn - (i + 1) : Nat) : Int) false false Xn Xn l2 l2 lv1 lv3 lh3 ⟨tp.hist ++ [X.getD na 0], tp.hist.length, 2, na, 0, np, true⟩ (CX r g1_ g2_ dm P c kd nn BX))) := Aside.mk h9
          clear h9
          refine ⟨_, rfl, ?_⟩
          refine hK.out _ _ ((H.out.pick 12 rfl).cell 2) (fun hHeld => ?_)
          clear hK K
          refine norm_ (a' := ?_) ?_ ?_
          rotate_left
          · show Act.put _ (some 123) _ = _
            simp only [nrm]
            rfl
          refine pu_ (v := ?_) (a' := ?_) 7 (some 128) 255 rfl rfl HT_ (by kernel_rfl) (.inl ⟨by rfl, ?_⟩) ?_ ?_; rotate_left 2; (· intro w'; go_simp; with_reducible rfl); (· simp only [nrm]; rfl)
          refine pu_ (v := ?_) (a' := ?_) 8 (some 129) 511 rfl rfl HT_ (by kernel_rfl) (.inl ⟨by rfl, ?_⟩) ?_ ?_; rotate_left 2; (· intro w'; go_simp; with_reducible rfl); (· simp only [nrm]; rfl)
          refine pu_ (v := ?_) (a' := ?_) 9 (some 130) 1023 rfl rfl HT_ (by kernel_rfl) (.inl ⟨by rfl, ?_⟩) ?_ ?_; rotate_left 2; (· intro w'; go_simp; with_reducible rfl); (· simp only [nrm]; rfl)
          refine pu_ (v := ?_) (a' := ?_) 11 (some 132) 3071 rfl rfl HT_ (by kernel_rfl) (.inl ⟨by rfl, ?_⟩) ?_ ?_; rotate_left 2; (· intro w'; go_simp; with_reducible rfl); (· simp only [nrm]; rfl)
          refine pu_ (v := ?_) (a' := ?_) 12 (some 133) 7167 rfl rfl HT_ (by kernel_rfl) (.inl ⟨by rfl, ?_⟩) ?_ ?_; rotate_left 2; (· intro w'; go_simp; with_reducible rfl); (· simp only [nrm]; rfl)
          refine tk_ (v := ?_) (a' := ?_) 13 (some 134) 15359 rfl rfl HT_ HW_ (by kernel_rfl) (.inl ⟨by rfl, ?_⟩) hHeld ?_ ?_; rotate_left 2; (· rintro w' _; go_simp; with_reducible rfl); (· simp only [nrm]; rfl)
          refine pu_ (v := ?_) (a' := ?_) 14 (some 135) 31743 rfl rfl HT_ (by kernel_rfl) (.inl ⟨by rfl, ?_⟩) ?_ ?_; rotate_left 2; (· intro w'; go_simp; with_reducible rfl); (· simp only [nrm]; rfl)
          refine on_ 10 (some 131) 32767 rfl rfl HT_ (by kernel_rfl) (by decide) (fun K hK => ?_)
          refine goes_ Tryd.func20 (by kernel_rfl) rfl #[.pointer (some ⟨b, 0, none⟩)] (by rfl) rfl rfl (by (try simp only [List.map_toArray, List.map_cons, List.map_nil]); first | done | rfl) ?_
          refine (over_ (H.out.pick 4 rfl)).mono ?_
          rintro e w26 ⟨rfl, rfl⟩
          refine ⟨_, rfl, ?_⟩
          refine hK.out _ _ ((H.out.pick 12 rfl).cell 2) (fun hHeld => ?_)
          clear hK K
          refine norm_ (a' := ?_) ?_ ?_
          rotate_left
          · show Act.put _ (some 131) _ = _
            simp only [nrm]
            rfl
          refine pu_ (v := ?_) (a' := ?_) 15 (some 136) 65535 rfl rfl HT_ (by kernel_rfl) (.inl ⟨by rfl, ?_⟩) ?_ ?_; rotate_left 2; (· intro w'; go_simp; with_reducible rfl); (· simp only [nrm]; rfl)
          refine pu_ (v := ?_) (a' := ?_) 16 (some 137) 131071 rfl rfl HT_ (by kernel_rfl) (.inl ⟨by rfl, ?_⟩) ?_ ?_; rotate_left 2; (· intro w'; go_simp; with_reducible rfl); (· simp only [nrm]; rfl)
          refine done_ (done_of HT_.out (by kernel_rfl)) ?_
          clear HT_ HW_ hHeld
          go_wp2
          go_roundg (nn + 1 - (i + 1))
          case measure => have := HLE.out; omega
          case rel => exact ⟨i + 1, Xn, l2, lv1, lv3, lh3, ⟨tp.hist ++ [X.getD na 0], tp.hist.length, 2, na, 0, np, true⟩, rfl, by have := HLE.out; omega, by first | rfl | (have := HLE.out; have := HN255.out; simp only [Value.int.injEq, true_and]; unfold wrap64; omega), HF2, Aside.mk (by have h9 := H.out; have h8 := HOB.out; rw [show decide (i + 1 = nn + 1) = false by rw [h8]; simp]; exact h9)⟩
        case true =>
          refine start_ (n := 17) (S := fun w' => w'.cell? ⟨g2_, 2, none⟩ = some (.int .i64 nn)) (ds := []) (flg 17 0) (by kernel_rfl) rfl rfl (((H.out.pick 12 rfl).cell 2)) (fun hHeld => ?_)
          refine with_tabW bu.tab25 bu.bits25 (fun HT_ HW_ => ?_)
          refine pu_ (v := ?_) (a' := ?_) 0 (some 121) 1 rfl rfl HT_ (by kernel_rfl) (.inl ⟨by rfl, ?_⟩) ?_ ?_; rotate_left 2; (· intro w'; go_simp; with_reducible rfl); (· simp only [nrm]; rfl)
          refine pu_ (v := ?_) (a' := ?_) 1 (some 122) 3 rfl rfl HT_ (by kernel_rfl) (.inl ⟨by rfl, ?_⟩) ?_ ?_; rotate_left 2; (· intro w'; go_simp; with_reducible rfl); (· simp only [nrm]; rfl)
          refine pu_ (v := ?_) (a' := ?_) 3 (some 124) 11 rfl rfl HT_ (by kernel_rfl) (.inl ⟨by rfl, ?_⟩) ?_ ?_; rotate_left 2; (· intro w'; go_simp; with_reducible rfl); (· simp only [nrm]; rfl)
          refine pu_ (v := ?_) (a' := ?_) 4 (some 125) 27 rfl rfl HT_ (by kernel_rfl) (.inl ⟨by rfl, ?_⟩) ?_ ?_; rotate_left 2; (· intro w'; go_simp; with_reducible rfl); (· simp only [nrm]; rfl)
          refine tk_ (v := ?_) (a' := ?_) 5 (some 126) 59 rfl rfl HT_ HW_ (by kernel_rfl) (.inl ⟨by rfl, ?_⟩) hHeld ?_ ?_; rotate_left 2; (· rintro w' _; go_simp; with_reducible rfl); (· simp only [nrm]; rfl)
          refine pu_ (v := ?_) (a' := ?_) 6 (some 127) 123 rfl rfl HT_ (by kernel_rfl) (.inl ⟨by rfl, ?_⟩) ?_ ?_; rotate_left 2; (· intro w'; go_simp; with_reducible rfl); (· simp only [nrm]; rfl)
          refine on_ 2 (some 123) 127 rfl rfl HT_ (by kernel_rfl) (by decide) (fun K hK => ?_)
          refine goes_ Tryd.func18 (by kernel_rfl) rfl #[.pointer (some ⟨b, 0, none⟩), .pointer (some ⟨p, 0, none⟩)] (by rfl) rfl rfl (by (try simp only [List.map_toArray, List.map_cons, List.map_nil]); first | done | rfl) ?_
          refine (HST.out _ _ H.out).mono ?_
          rintro e w25 ⟨lv1, rfl, h9⟩
          replace H : Aside (St w0 w25 (LBs p a gC b t d gD nN aN hd ((nn - (i + 1) : Nat) : Int) true false Xn Xn l2 l2 lv1 lv3 lh3 ⟨tp.hist ++ [X.getD na 0], tp.hist.length, 2, na, 0, np, true⟩ (CX r g1_ g2_ dm P c kd nn BX))) := Aside.mk h9
          clear h9
          refine ⟨_, rfl, ?_⟩
          refine hK.out _ _ ((H.out.pick 12 rfl).cell 2) (fun hHeld => ?_)
          clear hK K
          refine norm_ (a' := ?_) ?_ ?_
          rotate_left
          · show Act.put _ (some 123) _ = _
            simp only [nrm]
            rfl
          refine pu_ (v := ?_) (a' := ?_) 7 (some 128) 255 rfl rfl HT_ (by kernel_rfl) (.inl ⟨by rfl, ?_⟩) ?_ ?_; rotate_left 2; (· intro w'; go_simp; with_reducible rfl); (· simp only [nrm]; rfl)
          refine pu_ (v := ?_) (a' := ?_) 8 (some 129) 511 rfl rfl HT_ (by kernel_rfl) (.inl ⟨by rfl, ?_⟩) ?_ ?_; rotate_left 2; (· intro w'; go_simp; with_reducible rfl); (· simp only [nrm]; rfl)
          refine pu_ (v := ?_) (a' := ?_) 9 (some 130) 1023 rfl rfl HT_ (by kernel_rfl) (.inl ⟨by rfl, ?_⟩) ?_ ?_; rotate_left 2; (· intro w'; go_simp; with_reducible rfl); (· simp only [nrm]; rfl)
          refine pu_ (v := ?_) (a' := ?_) 11 (some 132) 3071 rfl rfl HT_ (by kernel_rfl) (.inl ⟨by rfl, ?_⟩) ?_ ?_; rotate_left 2; (· intro w'; go_simp; with_reducible rfl); (· simp only [nrm]; rfl)
          refine pu_ (v := ?_) (a' := ?_) 12 (some 133) 7167 rfl rfl HT_ (by kernel_rfl) (.inl ⟨by rfl, ?_⟩) ?_ ?_; rotate_left 2; (· intro w'; go_simp; with_reducible rfl); (· simp only [nrm]; rfl)
          refine tk_ (v := ?_) (a' := ?_) 13 (some 134) 15359 rfl rfl HT_ HW_ (by kernel_rfl) (.inl ⟨by rfl, ?_⟩) hHeld ?_ ?_; rotate_left 2; (· rintro w' _; go_simp; with_reducible rfl); (· simp only [nrm]; rfl)
          refine pu_ (v := ?_) (a' := ?_) 14 (some 135) 31743 rfl rfl HT_ (by kernel_rfl) (.inl ⟨by rfl, ?_⟩) ?_ ?_; rotate_left 2; (· intro w'; go_simp; with_reducible rfl); (· simp only [nrm]; rfl)
          refine on_ 10 (some 131) 32767 rfl rfl HT_ (by kernel_rfl) (by decide) (fun K hK => ?_)
          refine goes_ Tryd.func20 (by kernel_rfl) rfl #[.pointer (some ⟨b, 0, none⟩)] (by rfl) rfl rfl (by (try simp only [List.map_toArray, List.map_cons, List.map_nil]); first | done | rfl) ?_
          refine (over_ (H.out.pick 4 rfl)).mono ?_
          rintro e w26 ⟨rfl, rfl⟩
          refine ⟨_, rfl, ?_⟩
          refine hK.out _ _ ((H.out.pick 12 rfl).cell 2) (fun hHeld => ?_)
          clear hK K
          refine norm_ (a' := ?_) ?_ ?_
          rotate_left
          · show Act.put _ (some 131) _ = _
            simp only [nrm]
            rfl
          refine pu_ (v := ?_) (a' := ?_) 15 (some 136) 65535 rfl rfl HT_ (by kernel_rfl) (.inl ⟨by rfl, ?_⟩) ?_ ?_; rotate_left 2; (· intro w'; go_simp; with_reducible rfl); (· simp only [nrm]; rfl)
          refine pu_ (v := ?_) (a' := ?_) 16 (some 137) 131071 rfl rfl HT_ (by kernel_rfl) (.inl ⟨by rfl, ?_⟩) ?_ ?_; rotate_left 2; (· intro w'; go_simp; with_reducible rfl); (· simp only [nrm]; rfl)
          refine done_ (done_of HT_.out (by kernel_rfl)) ?_
          clear HT_ HW_ hHeld
          go_wp2
          go_roundg (nn + 1 - (i + 1))
          case measure => have := HLE.out; omega
          case rel => exact ⟨i + 1, Xn, l2, lv1, lv3, lh3, ⟨tp.hist ++ [X.getD na 0], tp.hist.length, 2, na, 0, np, true⟩, rfl, by have := HLE.out; omega, by first | rfl | (have := HLE.out; have := HN255.out; simp only [Value.int.injEq, true_and]; unfold wrap64; omega), HF2, Aside.mk (by have h9 := H.out; have h8 := HOB.out; rw [show decide (i + 1 = nn + 1) = true by rw [h8]; simp]; exact h9)⟩
      · obtain rfl : i = nn + 1 := by omega
        have d1 : decide (((nn + 1 : Nat) : Int) ≤ (nn : Int)) = false := by simp; omega
        have n1 : ¬ (((nn + 1 : Nat) : Int) ≤ (nn : Int)) := by omega
        have h2 := (H.out.pick 12 rfl).cell 2
        clear hi hle
        go_wp2
        go_meet
        case rel => exact ⟨X, l, lv, lv2, lh, tp, ⟨HF.out.1, HF.out.2.1⟩, Aside.mk (by have h9 := H.out; first | exact h9 | (simp only [decide_true] at h9; exact h9))⟩
  case rest =>
    clear H
    obtain ⟨X, l, lv, lv2, lh, tp, HF, H⟩ := hcut
    obtain ⟨g5, c5, rfl, hc5, hcell5⟩ := (H.out.pick 3 rfl).row_some (by have := HF.out.2; omega)
    obtain ⟨g6, c6, rfl, hc6, hcell6⟩ := (H.out.pick 9 rfl).row_some (by have := HF.out.2; omega)
    have a1 := (H.out.pick 1 rfl).cell 1
    have lt : ∀ (q : Addr) (v : Value), wc.cell? q = some v → q.block < wc.heap.size := fun q v h => World.block_lt_of_cell? wc q h
    have HL0 : Aside (0 < l.length) := ⟨by have := HF.out.2; omega⟩
    have HL1 : Aside (l.length ≤ 1000) := ⟨by have := HF.out.2; have := HN255.out; omega⟩
    have HN0 : Aside (0 < nN) := ⟨by have := HNN.out; omega⟩
    have HN4 : Aside (nN ≤ 4096) := ⟨by have := HNN.out; have := HPp.out; omega⟩
    have hl1 : LogAt wc g5 l := logAt_of hcell5
    have hgl : g5 < wc.heap.size := lt _ _ (hl1 0 HL0.out).1
    have hal : a < wc.heap.size := lt _ _ a1
    obtain ⟨i0, hi, hz0, hz1, hz2⟩ := info_parts info98
    clear hcell5 hcell6
    go_upto_block 2 with (go_at_call 44; refine (log_ a _).mono ?_; rintro e w27 ⟨rfl, rfl⟩)
    have b1 := (Boxed.new wc 93 (.slice none 0 0)).alloc (.cells #[.pointer (some ⟨a, 0, none⟩)] 29)
    have b2 := Boxed.new (wc.alloc (.cells #[.slice none 0 0] 93)) 29 (.pointer (some ⟨a, 0, none⟩))
    simp only [World.size_alloc] at b2
    have hB0 : Below wc.heap.size wc ((wc.alloc (.cells #[.slice none 0 0] 93)).alloc (.cells #[.pointer (some ⟨a, 0, none⟩)] 29)) := ((Below.refl _ wc).alloc (Nat.le_refl _) _).alloc (by simp) _
    have hsz : ((wc.alloc (.cells #[.slice none 0 0] 93)).alloc (.cells #[.pointer (some ⟨a, 0, none⟩)] 29)).heap.size = wc.heap.size + 2 := by simp
    try simp only [World.size_alloc]
    obtain ⟨W0, hW0⟩ : ∃ W0, ((wc.alloc (.cells #[.slice none 0 0] 93)).alloc (.cells #[.pointer (some ⟨a, 0, none⟩)] 29)) = W0 := ⟨_, rfl⟩
    rw [hW0] at b1 b2 hB0 hsz ⊢
    clear hW0
    refine (wpIn_wide (n := 6)).1 ?_
    gi_wp2_with fail
    refine wpIn_rangeFunc_ownH rfl (by decide) (gf := 103) (lb := #[.pointer (some ⟨wc.heap.size + 1, 0, none⟩)]) rfl trivial (enters_of Tryd.func103 (by kernel_rfl) rfl)
      (log_stops Fence.wide _ trivial rfl (by decide) (wc.heap.size + 1) wc.heap.size a g5 c5 l (by have := HL1.out; omega) hgl W0 (by omega) (by omega) hal b2.cell ((hB0.cell (p := ⟨a, 1, none⟩) hal).trans a1) (hl1.below hB0 hgl)) belowK_t (belowK_b (by omega)) (Below.refl _ _) (fun _ => rfl)
      (fun pre W => (∃ v, Boxed W wc.heap.size 93 v ∧ W.ownsRow wc.heap.size 98 7 v pre.length (accs (pre.map (·.2))) ∧ True) ∧ Below wc.heap.size wc W)
      (fun _ _ _ => False)
      (OwnFrom.and (Own.from (holdsRow_own wc.heap.size wc.heap.size 93 98 7 (fun (pre : List (Nat × Acc)) => pre.length) (fun (pre : List (Nat × Acc)) => accs (pre.map (·.2))) (fun _ _ => True)) _) (ownFrom_below (Nat.le_refl _) (by omega)))
      (fun _ _ _ _ _ hs _ _ => hs)
      ⟨⟨_, b1, World.ownsRow_nil _ _ _ _, trivial⟩, hB0⟩
      (fun y a' W => ∃ Bx, W.heap[Bx]? = some (.cells #[.int .i64 y.2.who, .int .i64 y.2.kind, .int .i64 y.2.at_, .int .u64 y.2.want, .int .u64 y.2.put, .int .u64 y.2.seen, .int .u64 y.2.left] 98 (0, 0)) ∧ a' = { tmps := #[.agg #[.int .i64 q1, .int .i64 q2, .int .i64 q3, .int .i64 aN, .int .i64 c, .int .i64 kd, .int .i64 nn, .slice A L.length cc], .pointer (some ⟨w0.heap.size, 0, none⟩), .pointer (some ⟨r, 0, none⟩), .pointer (some ⟨g1_, 0, none⟩), .int .i64 aN, .pointer (some ⟨g2_, 0, none⟩), .slice A L.length cc, .pointer (some ⟨a, 0, none⟩), .slice (some ⟨gD, 0, none⟩) nN nN, .bool true, .pointer (some ⟨dm, 0, none⟩), .pointer (some ⟨b, 0, none⟩), .int .i64 0, .pointer (some ⟨p, 0, none⟩), .int .i64 0, .pointer (some ⟨d, 0, none⟩), .pointer (some ⟨t, 0, none⟩), u17, .pointer (some ⟨wc.heap.size, 0, none⟩), undef, .pointer (some ⟨Bx, 0, none⟩), u21, u22, u23, u24, u25, u26, u27, u28, u29, u30, u31, u32, u33, u34, u35, u36, u37, u38, u39, u40, u41, u42, u43, u44, u45, u46, u47, u48, u49, u50, u51, u52, u53, u54, u55, u56, u57, u58, u59, u60, u61, u62, u63, u64, u65, u66, u67, u68, u69, u70, u71, u72, u73, u74, u75, u76, u77, u78, u79, u80, u81, u82, u83, u84, u85, u86, u87, u88, u89, u90, u91, u92, u93, u94, u95, u96, u97, u98, u99, u100, u101, u102, u103, u104, u105, u106, u107, u108, u109, u110, u111, u112, u113, u114, u115, u116, u117, u118, u119, u120, u121, u122, u123, u124, u125, u126, u127, u128, u129, u130, u131, u132, u133, u134, u135, u136, u137, .pointer (some ⟨a, 0, none⟩), .func (.func 103) #[] #[.pointer (some ⟨wc.heap.size + 1, 0, none⟩)], .int .i64 y.1, .agg #[.int .i64 y.2.who, .int .i64 y.2.kind, .int .i64 y.2.at_, .int .u64 y.2.want, .int .u64 y.2.put, .int .u64 y.2.seen, .int .u64 y.2.left], u142, u143, u144, u145, u146, u147, u148, u149, u150, u151, u152, u153, u154, u155, u156, u157, u158, u159, u160, u161, u162, u163, u164, u165, u166, u167, u168], defers := [] })
      (fun y a' _ X Y row hs hg hr => by
        obtain ⟨Bx, h1, h2⟩ := hs
        exact ⟨Bx, (hg.block Bx (Array.getElem?_eq_some_iff.1 h1).1 (fun e => by obtain ⟨_, o, ho, hc⟩ := hr Bx e.symm; rw [h1] at ho; cases ho; cases hc)).trans h1, h2⟩)
      ?assign ?body ?done ?stop
    case assign =>
      rintro l_ pre y W K ⟨⟨v, hv, hrow, _⟩, hB⟩ hK
      gi_wp2_with (with_reducible refine stop_atIn (.store 98 (.tmp 20) (.tmp 141)) rfl ?_)
      refine ⟨?_⟩
      refine store_newIn [.int .i64 y.2.who, .int .i64 y.2.kind, .int .i64 y.2.at_, .int .u64 y.2.want, .int .u64 y.2.put, .int .u64 y.2.seen, .int .u64 y.2.left] rfl rfl rfl rfl rfl rfl rfl (by simp [Value.oneCell']) ?_
      intro w1 hg1 hb1 hs1
      gi_wp2
      refine hK _ _ (KeepsFrom.of_grownBy hg1 (fun j e => by cases e)) ⟨hg1.os, hg1.tape, hg1.output, hg1.size, fun i hi => hg1.block i (Nat.lt_of_lt_of_le hi hB.size) (by simp)⟩ ⟨⟨v, hv.kept hg1 (by simp), hrow.kept hg1 (by rcases hrow.2 with ⟨rfl, _⟩ | ⟨g', cap', cur, rfl, _⟩; exact .inl rfl; exact .inr (by simp [Value.ownBlock])), trivial⟩, hB.trans ⟨hg1.os, hg1.tape, hg1.output, hg1.size, fun i hi => hg1.block i (Nat.lt_of_lt_of_le hi hB.size) (by simp)⟩⟩ ⟨W.heap.size, hb1, rfl⟩
    case body =>
      rintro l_ pre y a' W hl_ ⟨r_, hr_⟩ ⟨⟨v, hv, hrow, _⟩, hB⟩ ⟨Bx, hX, rfl⟩ hlt
      have hvs : ∃ A c, v = .slice A pre.length c := by
        rcases hrow.2 with ⟨rfl, h0⟩ | ⟨g', cap', cur, rfl, _⟩
        · exact ⟨none, 0, by rw [h0]⟩
        · exact ⟨_, _, rfl⟩
      obtain ⟨A1, c1, rfl⟩ := hvs
      have hc := hv.cell
      have hlim : pre.length ≤ 300 := by have := HF.out.2; have := HN255.out; omega
      have dlt : decide ((300 : Int) < (pre.length : Int)) = false := by simp; omega
      have nlt : ¬ (300 : Int) < (pre.length : Int) := by omega
      have c0 : W.cell? ⟨Bx, 0, none⟩ = some (.int .i64 y.2.who) := by simp [World.cell?, hX]
      have c1' : W.cell? ⟨Bx, 1, none⟩ = some (.int .i64 y.2.kind) := by simp [World.cell?, hX]
      have c2' : W.cell? ⟨Bx, 2, none⟩ = some (.int .i64 y.2.at_) := by simp [World.cell?, hX]
      have c3' : W.cell? ⟨Bx, 3, none⟩ = some (.int .u64 y.2.want) := by simp [World.cell?, hX]
      have c4' : W.cell? ⟨Bx, 4, none⟩ = some (.int .u64 y.2.put) := by simp [World.cell?, hX]
      have c5' : W.cell? ⟨Bx, 5, none⟩ = some (.int .u64 y.2.seen) := by simp [World.cell?, hX]
      have c6' : W.cell? ⟨Bx, 6, none⟩ = some (.int .u64 y.2.left) := by simp [World.cell?, hX]
      have HLM := Aside.mk hlim
      clear hlim
      gi_wp2_with (gi_at_builtin; refine wpListIn_append_own _ rfl _ _ 93 rfl wc.heap.size 98 i0 (.agg #[.int .i64 0, .int .i64 0, .int .i64 0, .int .u64 0, .int .u64 0, .int .u64 0, .int .u64 0]) 7 56 Tryd.underlying93 hi hz0 hz1 hz2 rfl (by decide) _ _ _ rfl (hrow.alloc _) ⟨W.heap.size, 0, none⟩ 1 1 (Acc.vs y.2) rfl rfl (new_cells W (Acc.vs y.2) 98) (by simp [Acc.vs, Value.oneCell']) (by simp only [maxLen]; have := HLM.out; omega) (by have := HLM.out; omega) (by have := hB.size; simp; omega) ?_; intro v' w1 hown' hgrow _; obtain ⟨g', cap', rfl⟩ := ownsRow_succ hown'; obtain ⟨hv1, hv2, hr2, hk2, hb2⟩ := hv.appended (by decide) hrow hB.size (by omega) hown' hgrow; have hc1 := hv1.cell; have hf1 := hv1.frozen)
      have e1 : (pre ++ [y]).length = pre.length + 1 := by simp
      have e2 : accs ((pre ++ [y]).map (·.2)) = accs (pre.map (·.2)) ++ Acc.vs y.2 := by simp [accs]
      exact ⟨hk2.from _, hb2, ⟨_, hv2, by rw [e1, e2]; exact hr2⟩, hB.trans hb2⟩
    case done =>
      rintro D ys W hD rfl ⟨⟨v, hv, hrow, _⟩, hB⟩ hK
      rw [upt_snd, upt_length] at hrow
      obtain ⟨g3, c3, rfl⟩ : ∃ g3 c3, v = .slice (some ⟨g3, 0, none⟩) l.length c3 := by
        rcases hrow.2 with ⟨_, h0⟩ | ⟨g', cap', cur, rfl, h1, h2, h3, h4, h5, h6⟩
        · have := HL0.out; omega
        · exact ⟨_, _, rfl⟩
      replace H : Aside (St w0 W (blk wc.heap.size #[.slice (some ⟨g3, 0, none⟩) l.length c3] 93 :: row 98 7 (.slice (some ⟨g3, 0, none⟩) l.length c3) l.length (accs l) :: dfB D :: LBs p a gC b t d gD nN aN hd ((nn - (nn + 1) : Nat) : Int) true false X X l l (.slice (some ⟨g5, 0, none⟩) l.length c5) (.slice (some ⟨g6, 0, none⟩) l.length c6) lh tp (CX r g1_ g2_ dm P c kd nn BX))) := Aside.mk (H.out.join (St_logD hB (Nat.le_refl _) hv hrow (by omega) hK))
      clear hrow hv hB hK b1 b2 hB0 hl1 hgl hal a1 hi hz0 hz1 hz2 hc5 hc6
      go_wp2_with fail
      replace H := Aside.mk H.out.drew
      refine start_ (n := 21) (S := fun w' => w'.cell? ⟨wc.heap.size, 0, none⟩ = some (.slice (some ⟨g3, 0, none⟩) l.length c3) ∧ w'.cell? ⟨d, 0, none⟩ = some (.slice (some ⟨gD, 0, none⟩) nN nN) ∧ w'.cell? ⟨d, 1, none⟩ = some (.slice (some ⟨g6, 0, none⟩) l.length c6)) (ds := [20]) (flg 21 0) (by kernel_rfl) rfl rfl (⟨H.out.cell 0, (H.out.pick 10 rfl).cell 0, (H.out.pick 10 rfl).cell 1⟩) (fun hHeld => ?_)
      refine with_tabW bu.tab33 bu.bits33 (fun HT_ HW_ => ?_)
      refine tk_ (v := ?_) (a' := ?_) 0 (some 149) 1 rfl rfl HT_ HW_ (by kernel_rfl) (.inl ⟨by rfl, ?_⟩) hHeld ?_ ?_; rotate_left 2; (· rintro w' ⟨_, _, _⟩; go_simp; with_reducible rfl); (· simp only [nrm]; rfl)
      refine pu_ (v := ?_) (a' := ?_) 1 (some 150) 3 rfl rfl HT_ (by kernel_rfl) (.inl ⟨by rfl, ?_⟩) ?_ ?_; rotate_left 2; (· intro w'; go_simp; with_reducible rfl); (· simp only [nrm]; rfl)
      refine pu_ (v := ?_) (a' := ?_) 2 (some 151) 7 rfl rfl HT_ (by kernel_rfl) (.inl ⟨by rfl, ?_⟩) ?_ ?_; rotate_left 2; (· intro w'; go_simp; with_reducible rfl); (· simp only [nrm]; rfl)
      refine pu_ (v := ?_) (a' := ?_) 3 (some 152) 15 rfl rfl HT_ (by kernel_rfl) (.inl ⟨by rfl, ?_⟩) ?_ ?_; rotate_left 2; (· intro w'; go_simp; with_reducible rfl); (· simp only [nrm]; rfl)
      refine tk_ (v := ?_) (a' := ?_) 4 (some 153) 31 rfl rfl HT_ HW_ (by kernel_rfl) (.inl ⟨by rfl, ?_⟩) hHeld ?_ ?_; rotate_left 2; (· rintro w' ⟨_, _, _⟩; go_simp; with_reducible rfl); (· simp only [nrm]; rfl)
      refine on_ 5 (some 154) 63 rfl rfl HT_ (by kernel_rfl) (by decide) (fun K hK => ?_)
      refine goes_ Tryd.func45 (by kernel_rfl) rfl #[.slice (some ⟨g3, 0, none⟩) l.length c3, .slice (some ⟨g6, 0, none⟩) l.length c6] (by rfl) rfl rfl (by (try simp only [List.map_toArray, List.map_cons, List.map_nil]); first | done | rfl) ?_
      refine (same_st HL0.out HL1.out (H.out.order 13 [1, 12, 0, 2, 3, 4, 5, 6, 7, 8, 9, 10, 11] rfl rfl)).mono ?_
      rintro e w31 ⟨rfl, h9⟩
      replace H : Aside (St w0 w31 (blk wc.heap.size #[.slice (some ⟨g3, 0, none⟩) l.length c3] 93 :: row 98 7 (.slice (some ⟨g3, 0, none⟩) l.length c3) l.length (accs l) :: dfB D :: LBs p a gC b t d gD nN aN hd ((nn - (nn + 1) : Nat) : Int) true false X X l l (.slice (some ⟨g5, 0, none⟩) l.length c5) (.slice (some ⟨g6, 0, none⟩) l.length c6) lh tp (CX r g1_ g2_ dm P c kd nn BX))) := Aside.mk (h9.order 13 [2, 0, 3, 4, 5, 6, 7, 8, 9, 10, 11, 12, 1] rfl rfl)
      clear h9
      refine ⟨_, rfl, ?_⟩
      refine hK.out _ _ ⟨H.out.cell 0, (H.out.pick 10 rfl).cell 0, (H.out.pick 10 rfl).cell 1⟩ (fun hHeld => ?_)
      clear hK K
      refine norm_ (a' := ?_) ?_ ?_
      rotate_left
      · show Act.put _ (some 154) _ = _
        simp only [nrm]
        rfl
      refine pu_ (v := ?_) (a' := ?_) 6 (some 155) 127 rfl rfl HT_ (by kernel_rfl) (.inl ⟨by rfl, ?_⟩) ?_ ?_; rotate_left 2; (· intro w'; go_simp; with_reducible rfl); (· simp only [nrm]; rfl)
      refine pu_ (v := ?_) (a' := ?_) 7 (some 156) 255 rfl rfl HT_ (by kernel_rfl) (.inl ⟨by rfl, ?_⟩) ?_ ?_; rotate_left 2; (· intro w'; go_simp; with_reducible rfl); (· simp only [nrm]; rfl)
      refine pu_ (v := ?_) (a' := ?_) 9 (some 158) 767 rfl rfl HT_ (by kernel_rfl) (.inl ⟨by rfl, ?_⟩) ?_ ?_; rotate_left 2; (· intro w'; go_simp; with_reducible rfl); (· simp only [nrm]; rfl)
      refine pu_ (v := ?_) (a' := ?_) 10 (some 159) 1791 rfl rfl HT_ (by kernel_rfl) (.inl ⟨by rfl, ?_⟩) ?_ ?_; rotate_left 2; (· intro w'; go_simp; with_reducible rfl); (· simp only [nrm]; rfl)
      refine pu_ (v := ?_) (a' := ?_) 11 (some 160) 3839 rfl rfl HT_ (by kernel_rfl) (.inl ⟨by rfl, ?_⟩) ?_ ?_; rotate_left 2; (· intro w'; go_simp; with_reducible rfl); (· simp only [nrm]; rfl)
      refine tk_ (v := ?_) (a' := ?_) 12 (some 161) 7935 rfl rfl HT_ HW_ (by kernel_rfl) (.inl ⟨by rfl, ?_⟩) hHeld ?_ ?_; rotate_left 2; (· rintro w' ⟨_, _, _⟩; go_simp; with_reducible rfl); (· simp only [nrm]; rfl)
      refine on_ 8 (some 157) 8191 rfl rfl HT_ (by kernel_rfl) (by decide) (fun K hK => ?_)
      refine goes_ Tryd.func34 (by kernel_rfl) rfl #[.pointer (some ⟨a, 0, none⟩)] (by rfl) rfl rfl (by (try simp only [List.map_toArray, List.map_cons, List.map_nil]); first | done | rfl) ?_
      refine (image_n HF.out.1 HN0.out HN4.out (H.out.order 6 [4, 5, 0, 1, 2, 3] rfl rfl)).mono ?_
      rintro e w32 ⟨g9, c9, rfl, h9⟩
      replace H : Aside (St w0 w32 (row 22 1 (.slice (some ⟨g9, 0, none⟩) nN c9) nN (U X) :: blk wc.heap.size #[.slice (some ⟨g3, 0, none⟩) l.length c3] 93 :: row 98 7 (.slice (some ⟨g3, 0, none⟩) l.length c3) l.length (accs l) :: dfB D :: LBs p a gC b t d gD nN aN hd ((nn - (nn + 1) : Nat) : Int) true false X X l l (.slice (some ⟨g5, 0, none⟩) l.length c5) (.slice (some ⟨g6, 0, none⟩) l.length c6) lh tp (CX r g1_ g2_ dm P c kd nn BX))) := Aside.mk (h9.order 7 [0, 3, 4, 5, 6, 1, 2] rfl rfl)
      clear h9
      refine ⟨_, rfl, ?_⟩
      refine hK.out _ _ ⟨(H.out.pick 1 rfl).cell 0, (H.out.pick 11 rfl).cell 0, (H.out.pick 11 rfl).cell 1⟩ (fun hHeld => ?_)
      clear hK K
      refine norm_ (a' := ?_) ?_ ?_
      rotate_left
      · show Act.put _ (some 157) _ = _
        simp only [nrm]
        rfl
      refine on_ 13 (some 162) 16383 rfl rfl HT_ (by kernel_rfl) (by decide) (fun K hK => ?_)
      refine goes_ Tryd.func46 (by kernel_rfl) rfl #[.slice (some ⟨g9, 0, none⟩) nN c9, .slice (some ⟨gD, 0, none⟩) nN nN] (by rfl) rfl rfl (by (try simp only [List.map_toArray, List.map_cons, List.map_nil]); first | done | rfl) ?_
      refine (words_st HF.out.1 HN0.out HN4.out (H.out.order 13 [0, 12, 1, 2, 3, 4, 5, 6, 7, 8, 9, 10, 11] rfl rfl)).mono ?_
      rintro e w33 ⟨rfl, h9⟩
      replace H : Aside (St w0 w33 (row 22 1 (.slice (some ⟨g9, 0, none⟩) nN c9) nN (U X) :: blk wc.heap.size #[.slice (some ⟨g3, 0, none⟩) l.length c3] 93 :: row 98 7 (.slice (some ⟨g3, 0, none⟩) l.length c3) l.length (accs l) :: dfB D :: LBs p a gC b t d gD nN aN hd ((nn - (nn + 1) : Nat) : Int) true false X X l l (.slice (some ⟨g5, 0, none⟩) l.length c5) (.slice (some ⟨g6, 0, none⟩) l.length c6) lh tp (CX r g1_ g2_ dm P c kd nn BX))) := Aside.mk (h9.order 13 [0, 2, 3, 4, 5, 6, 7, 8, 9, 10, 11, 12, 1] rfl rfl)
      clear h9
      refine ⟨_, rfl, ?_⟩
      refine hK.out _ _ ⟨(H.out.pick 1 rfl).cell 0, (H.out.pick 11 rfl).cell 0, (H.out.pick 11 rfl).cell 1⟩ (fun hHeld => ?_)
      clear hK K
      refine norm_ (a' := ?_) ?_ ?_
      rotate_left
      · show Act.put _ (some 162) _ = _
        simp only [nrm]
        rfl
      refine pu_ (v := ?_) (a' := ?_) 14 (some 163) 32767 rfl rfl HT_ (by kernel_rfl) (.inl ⟨by rfl, ?_⟩) ?_ ?_; rotate_left 2; (· intro w'; go_simp; with_reducible rfl); (· simp only [nrm]; rfl)
      refine pu_ (v := ?_) (a' := ?_) 15 (some 164) 65535 rfl rfl HT_ (by kernel_rfl) (.inl ⟨by rfl, ?_⟩) ?_ ?_; rotate_left 2; (· intro w'; go_simp; with_reducible rfl); (· simp only [nrm]; rfl)
      refine pu_ (v := ?_) (a' := ?_) 16 (some 165) 131071 rfl rfl HT_ (by kernel_rfl) (.inl ⟨by rfl, ?_⟩) ?_ ?_; rotate_left 2; (· intro w'; go_simp; with_reducible rfl); (· simp only [nrm]; rfl)
      refine on_ 17 (some 166) 262143 rfl rfl HT_ (by kernel_rfl) (by decide) (fun K hK => ?_)
      refine goes_ Tryd.func47 (by kernel_rfl) rfl #[.pointer (some ⟨a, 0, none⟩)] (by rfl) rfl rfl (by (try simp only [List.map_toArray, List.map_cons, List.map_nil]); first | done | rfl) ?_
      refine (faults_ (H.out.pick 5 rfl)).mono ?_
      rintro e w34 ⟨rfl, rfl⟩
      refine ⟨_, rfl, ?_⟩
      refine hK.out _ _ ⟨(H.out.pick 1 rfl).cell 0, (H.out.pick 11 rfl).cell 0, (H.out.pick 11 rfl).cell 1⟩ (fun hHeld => ?_)
      clear hK K
      refine norm_ (a' := ?_) ?_ ?_
      rotate_left
      · show Act.put _ (some 166) _ = _
        simp only [nrm]
        rfl
      refine pu_ (v := ?_) (a' := ?_) 18 (some 167) 524287 rfl rfl HT_ (by kernel_rfl) (.inl ⟨by rfl, ?_⟩) ?_ ?_; rotate_left 2; (· intro w'; go_simp; with_reducible rfl); (· simp only [nrm]; rfl)
      refine pu_ (v := ?_) (a' := ?_) 19 (some 168) 1048575 rfl rfl HT_ (by kernel_rfl) (.inl ⟨by rfl, ?_⟩) ?_ ?_; rotate_left 2; (· intro w'; go_simp; with_reducible rfl); (· simp only [nrm]; rfl)
      refine last_ (i := 20) (N := none) (flg 21 2097151) rfl rfl (one_of HT_.out (by kernel_rfl)) (by decide) (fun K hK => ?_)
      refine skip_ (by rfl) rfl (st_run_store (seg := [.bool true]) rfl rfl rfl rfl (Nat.le_of_ble_eq_true rfl) (by simp [Value.oneCell']) (H.out.pick 17 rfl)) ?_
      have h8 := (H.out.pick 17 rfl).setCells 0 [.bool true] (Nat.le_of_ble_eq_true rfl)
      generalize World.setCells _ _ _ _ = w35 at h8 ⊢
      replace H : Aside (St w0 w35 (blk r #[.bool true] 4 :: _)) := Aside.mk h8
      clear h8
      refine hK.out _ _ ?_
      refine done_ (done_of HT_.out (by kernel_rfl)) ?_
      clear HT_ HW_ hHeld
      go_wp2
      try simp only [Exit.inBlock, Exit.then]
      have hK := St.df (H.out.pick 4 rfl)
      have hDg := St.df_ge (H.out.pick 4 rfl)
      exact bretD_ hK rfl (rcell_ rfl rfl (Go.cell_kept (H.out.cell 0) (grownBy_putObj' _ D (.deferred none)) (fun r e => by cases e; exact ⟨_, hK, rfl⟩))) ⟨rfl, H.out.below.trans (belowK_b (w := w0) (Nat.le_refl _) _ D _ _ hDg hK rfl rfl)⟩
    case stop =>
      rintro D c pre W _ _ h _
      exact h.elim
end Go.Proofs.YtelfiegocdjnoaaDoor.Ar
