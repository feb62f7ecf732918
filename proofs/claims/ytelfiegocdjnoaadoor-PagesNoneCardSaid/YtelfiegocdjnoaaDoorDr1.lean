/- The document's map of a plan of at most five pages, three threads, a ring of one: walked over its spots. Conditions: such a plan. -/
import Derived.Test.YtelfiegocdjnoaaDoorSps
namespace Go.Proofs.YtelfiegocdjnoaaDoor.Ar
open Go Go.RowKit Go.Proofs.YtelfiegocdjnoaaDoor.Sep Go.Proofs.YtelfiegocdjnoaaDoorW.PrintWords Go.Proofs.YtelfiegocdjnoaaDoorW.PrintLast Go.Proofs.YtelfiegocdjnoaaDoorW.PrintMore
set_option linter.unusedVariables false
set_option linter.unusedSimpArgs false
set_option maxHeartbeats 8000000
set_option maxRecDepth 100000
def dw.T5 : Bool × List (List Nat × List Nat) := (true, [([], []), ([0], [0]), ([1], [1]), ([2], [2]), ([3], [3]), ([3], [3]), ([4, 5, 3], [3, 4, 5]), ([6, 3], [3, 6]), ([3], [3]), ([7, 8, 3], [3, 7, 8]), ([3, 9], [3, 9])])
def dw.B5 : List Nat := [0, 1, 3, 7, 15, 15, 63, 127, 15, 511, 1023]
theorem dw.tab5 : rtab .any (opsOf Tryd.f71 5) = dw.T5 := by kernel_rfl
theorem dw.bits5 : waitsOk dw.T5.2 dw.B5 = true := by kernel_rfl
def dd.T3 : Bool × List (List Nat × List Nat) := (true, [([], []), ([], []), ([1], [1]), ([], []), ([], []), ([3, 4, 2], [3, 4]), ([], []), ([6, 5], [6]), ([0, 2, 5, 7], [0, 2, 5, 7]), ([8, 7, 0, 1, 2, 3, 4, 5, 6, 7, 8], [8])])
def dd.B3 : List Nat := [0, 0, 2, 0, 0, 30, 0, 126, 255, 511]
theorem dd.tab3 : rtab .any (opsOf Tryd.f12 3) = dd.T3 := by kernel_rfl
theorem dd.bits3 : waitsOk dd.T3.2 dd.B3 = true := by kernel_rfl
theorem sp5 : ∀ P : Fin 5, ∀ T : Fin 3, (∀ i : Fin (22 + 6 * T.1), (spL P.1 T.1).getD i.1 (0, 0, 0) ≠ (5, 0, 0)) ∧ (spL P.1 T.1).getD (22 + 6 * T.1) (0, 0, 0) = (5, 0, 0) := by decide +kernel
theorem sp8 : ∀ P : Fin 5, ∀ T : Fin 3, (∀ i : Fin 64, (spL P.1 T.1).getD i.1 (0, 0, 0) ≠ (8, 0, 0)) ∧ (spL P.1 T.1).getD 64 (0, 0, 0) = (8, 0, 0) := by decide +kernel
theorem spL_l {P T : Nat} (hP : P < 5) (hT : T < 3) : (spL P T).length = 128 + 64 * P := by
  unfold spL
  rw [spI_l hP hT]
  omega
theorem spots_1 {P T : Nat} (hP : P < 5) (hT : T < 3) (w : World) : Calls Tryd.prog 133 #[.agg #[.int .i64 ((P : Int) + 1), .int .i64 ((T : Int) + 1), .int .i64 1]] w fun e w' => ∃ lv, e = .returned lv ∧ St w w' [SpR lv (spL P T)] := spots_c hP hT w
theorem sps_at : ∀ (L : List Spot) (i j : Nat), i < L.length → j < 3 → (sps L)[i * 3 + j]? = [Value.int .i64 (L.getD i (0, 0, 0)).1, .int .i64 (L.getD i (0, 0, 0)).2.1, .int .i64 (L.getD i (0, 0, 0)).2.2][j]?
  | [], i, j, h, _ => by simp at h
  | p :: l, 0, j, _, hj => by
    rw [Nat.zero_mul, Nat.zero_add]
    show ([Value.int .i64 p.1, .int .i64 p.2.1, .int .i64 p.2.2] ++ sps l)[j]? = _
    rw [List.getElem?_append_left (by simpa using hj)]
    rfl
  | p :: l, i + 1, j, h, hj => by
    have := sps_at l i j (by simpa using h) hj
    show ([Value.int .i64 p.1, .int .i64 p.2.1, .int .i64 p.2.2] ++ sps l)[(i + 1) * 3 + j]? = _
    rw [List.getElem?_append_right (by simp; omega), show (i + 1) * 3 + j - [Value.int .i64 p.1, .int .i64 p.2.1, .int .i64 p.2.2].length = i * 3 + j by simp; omega, this]
    rfl
theorem ifs_ {α : Type} {p q r : Prop} [Decidable p] [Decidable q] [Decidable r] {A B : α} (h : ¬ (p ∧ q ∧ r)) : (if p then if q then if r then A else B else B else B) = B := by
  by_cases hp : p <;> by_cases hq : q <;> by_cases hr : r <;> simp_all
theorem where_c {P T : Nat} {kk : Int} {idx : Nat} (hP : P < 5) (hT : T < 3) (hk : (kk != 0) = true) (hi : idx ≤ 64) (h0 : ∀ i, i < idx → (spL P T).getD i (0, 0, 0) ≠ (kk, 0, 0)) (h1 : (spL P T).getD idx (0, 0, 0) = (kk, 0, 0)) (w : World) :
    Calls Tryd.prog 71 #[.agg #[.int .i64 ((P : Int) + 1), .int .i64 ((T : Int) + 1), .int .i64 1], .agg #[.int .i64 kk, .int .i64 0, .int .i64 0]] w fun e w' => e = .returned (.int .i64 (idx : Int)) ∧ Below w.heap.size w w' := by
  obtain ⟨L, hL⟩ : ∃ L, spL P T = L := ⟨_, rfl⟩
  have HS := Aside.mk (fun w => spots_1 hP hT w)
  have hl := spL_l hP hT
  rw [hL] at HS h0 h1 hl
  obtain ⟨N, hN⟩ : ∃ N, L.length = N := ⟨_, rfl⟩
  have HN := Aside.mk hN
  have HNI : Aside (idx < N ∧ N ≤ 1000) := ⟨by omega⟩
  have HA := Aside.mk h0
  have HB := Aside.mk h1
  have H : Aside (St w _ [blk (w.heap.size + 1) #[.int .i64 kk, .int .i64 0, .int .i64 0] 143, blk w.heap.size #[.int .i64 ((P : Int) + 1), .int .i64 ((T : Int) + 1), .int .i64 1] 25]) := Aside.mk (by have := ((St.start w).alloc #[.int .i64 ((P : Int) + 1), .int .i64 ((T : Int) + 1), .int .i64 1] 25).alloc #[.int .i64 kk, .int .i64 0, .int .i64 0] 143; simpa using this)
  clear hP hT hl hL h0 h1 hi hN
  have z0 := (H.out.pick 1 rfl).cell 0
  have z1 := (H.out.pick 1 rfl).cell 1
  have z2 := (H.out.pick 1 rfl).cell 2
  go_enter Tryd.func71, Tryd.ntmps71
  go_wp2_with (go_at_call 133; refine (HS.out _).mono ?_; rintro e w1 ⟨lv, rfl, h9⟩; replace H := Aside.mk (H.out.join h9); clear h9 z0 z1 z2)
  obtain ⟨A5, c5, rfl, _, _⟩ := H.out.row_slice
  replace H : Aside (St w w1 [row 143 3 (.slice A5 L.length c5) L.length (sps L), blk (w.heap.size + 1) #[.int .i64 kk, .int .i64 0, .int .i64 0] 143, blk w.heap.size #[.int .i64 ((P : Int) + 1), .int .i64 ((T : Int) + 1), .int .i64 1] 25]) := H
  rw [HN.out] at H ⊢
  obtain ⟨g5, c6, e5, _, _⟩ := H.out.row_some (by have := HNI.out.1; omega)
  injection e5 with e6 e7 e8
  subst e6
  clear e7 e8
  have HC : Aside (∀ (w1 : World) (F : List HP) (i : Nat), i < N → St w w1 (row 143 3 (.slice (some ⟨g5, 0, none⟩) N c5) N (sps L) :: F) → w1.cell? ⟨g5, i * 3, none⟩ = some (.int .i64 (L.getD i (0, 0, 0)).1) ∧ w1.cell? ⟨g5, i * 3 + 1, none⟩ = some (.int .i64 (L.getD i (0, 0, 0)).2.1) ∧ w1.cell? ⟨g5, i * 3 + 2, none⟩ = some (.int .i64 (L.getD i (0, 0, 0)).2.2)) := ⟨fun w1 F i hi h => by
    obtain ⟨g9, c9, e9, _, h9⟩ := h.row_some (by omega)
    injection e9 with e9 _ _
    injection e9 with e9
    injection e9 with e9 _ _
    subst e9
    have hi2 : i < L.length := by rw [HN.out]; exact hi
    exact ⟨h9 (i * 3 + 0) _ (by rw [sps_at L i 0 hi2 (by omega)]; rfl), h9 (i * 3 + 1) _ (by rw [sps_at L i 1 hi2 (by omega)]; rfl), h9 (i * 3 + 2) _ (by rw [sps_at L i 2 hi2 (by omega)]; rfl)⟩⟩
  generalize w.heap.size + 1 = sb at H ⊢
  go_loopg [6] (idx + 1) (fun m v6 w' => ∃ i : Nat, m = idx + 1 - i ∧ i ≤ idx ∧ v6 = .int .i64 (i : Int) ∧ Aside (St w w' [row 143 3 (.slice (some ⟨g5, 0, none⟩) N c5) N (sps L), blk sb #[.int .i64 kk, .int .i64 0, .int .i64 0] 143, blk w.heap.size #[.int .i64 ((P : Int) + 1), .int .i64 ((T : Int) + 1), .int .i64 1] 25]))
  case atStart => exact ⟨0, rfl, Nat.zero_le _, rfl, H⟩
  case round =>
    clear H
    obtain ⟨i, rfl, hi, rfl, H⟩ := hrel
    have hiN : i < N := by have := HNI.out.1; omega
    have d1 : decide ((i : Int) < (N : Int)) = true := by simpa using hiN
    have n1 : (i : Int) < (N : Int) := by omega
    have hx0 : (0 : Int) ≤ (i : Int) := by omega
    have HI := Aside.mk hi
    obtain ⟨s1, s2, s3, hs⟩ : ∃ s1 s2 s3, L.getD i (0, 0, 0) = (s1, s2, s3) := ⟨_, _, _, rfl⟩
    have HCI : Aside (∀ (w1 : World) (F : List HP), St w w1 (row 143 3 (.slice (some ⟨g5, 0, none⟩) N c5) N (sps L) :: F) → w1.cell? ⟨g5, i * 3, none⟩ = some (.int .i64 s1) ∧ w1.cell? ⟨g5, i * 3 + 1, none⟩ = some (.int .i64 s2) ∧ w1.cell? ⟨g5, i * 3 + 2, none⟩ = some (.int .i64 s3)) := ⟨fun w1 F h => by have h2 := HC.out w1 F i hiN h; rw [hs] at h2; exact h2⟩
    have HSS := Aside.mk hs
    by_cases he : i = idx
    · subst he
      have h1 := HB.out
      rw [hs] at h1
      injection h1 with h2 h3
      injection h3 with h3 h4
      rw [h2, h3, h4] at HCI
      clear hi hiN hs h2 h3 h4
      go_wp2_with fail
      replace H := Aside.mk H.out.drew
      refine start_ (n := 11) (S := fun w' => w'.cell? ⟨sb, 0, none⟩ = some (.int .i64 kk) ∧ w'.cell? ⟨sb, 1, none⟩ = some (.int .i64 0) ∧ w'.cell? ⟨sb, 2, none⟩ = some (.int .i64 0) ∧ w'.cell? ⟨g5, i * 3, none⟩ = some (.int .i64 kk) ∧ w'.cell? ⟨g5, i * 3 + 1, none⟩ = some (.int .i64 0) ∧ w'.cell? ⟨g5, i * 3 + 2, none⟩ = some (.int .i64 0)) (ds := []) (flg 11 0) (by kernel_rfl) rfl rfl (⟨(H.out.pick 1 rfl).cell 0, (H.out.pick 1 rfl).cell 1, (H.out.pick 1 rfl).cell 2, (HCI.out _ _ H.out).1, (HCI.out _ _ H.out).2.1, (HCI.out _ _ H.out).2.2⟩) (fun hHeld => ?_)
      refine with_tabW dw.tab5 dw.bits5 (fun HT_ HW_ => ?_)
      generalize World.drew _ = y3 at H hHeld ⊢
      refine pu_ (v := ?_) (a' := ?_) 0 (some 15) 1 rfl rfl HT_ (by kernel_rfl) (.inl ⟨by rfl, ?_⟩) ?_ ?_; rotate_left 2; (· intro w'; go_simp; with_reducible rfl); (· simp only [nrm]; rfl)
      refine tk_ (v := ?_) (a' := ?_) 1 (some 16) 3 rfl rfl HT_ HW_ (by kernel_rfl) (.inl ⟨by rfl, ?_⟩) hHeld ?_ ?_; rotate_left 2; (· rintro w' ⟨_, _, _, _, _, _⟩; go_simp; with_reducible rfl); (· simp only [nrm]; rfl)
      refine pu_ (v := ?_) (a' := ?_) 2 (some 17) 7 rfl rfl HT_ (by kernel_rfl) (.inl ⟨by rfl, ?_⟩) ?_ ?_; rotate_left 2; (· intro w'; go_simp; with_reducible rfl); (· simp only [nrm]; rfl)
      refine pu_ (v := ?_) (a' := ?_) 3 (some 18) 15 rfl rfl HT_ (by kernel_rfl) (.inl ⟨by rfl, ?_⟩) ?_ ?_; rotate_left 2; (· intro w'; go_simp; with_reducible rfl); (· simp only [nrm]; rfl)
      refine pu_ (v := ?_) (a' := ?_) 4 (some 19) 31 rfl rfl HT_ (by kernel_rfl) (.inl ⟨by rfl, ?_⟩) ?_ ?_; rotate_left 2; (· intro w'; go_simp; with_reducible rfl); (· simp only [nrm]; rfl)
      refine pu_ (v := ?_) (a' := ?_) 5 (some 20) 63 rfl rfl HT_ (by kernel_rfl) (.inl ⟨by rfl, ?_⟩) ?_ ?_; rotate_left 2; (· intro w'; go_simp; with_reducible rfl); (· simp only [nrm]; rfl)
      refine pu_ (v := ?_) (a' := ?_) 6 (some 21) 127 rfl rfl HT_ (by kernel_rfl) (.inl ⟨by rfl, ?_⟩) ?_ ?_; rotate_left 2; (· intro w'; go_simp; with_reducible rfl); (· simp only [nrm]; rfl)
      refine tk_ (v := ?_) (a' := ?_) 7 (some 22) 255 rfl rfl HT_ HW_ (by kernel_rfl) (.inl ⟨by rfl, ?_⟩) hHeld ?_ ?_; rotate_left 2; (· rintro w' ⟨_, _, _, _, _, _⟩; go_simp; with_reducible rfl); (· simp only [nrm]; rfl)
      refine tk_ (v := ?_) (a' := ?_) 8 (some 23) 511 rfl rfl HT_ HW_ (by kernel_rfl) (.inl ⟨by rfl, ?_⟩) hHeld ?_ ?_; rotate_left 2; (· rintro w' ⟨_, _, _, _, _, _⟩; go_simp; with_reducible rfl); (· simp only [nrm]; rfl)
      refine pu_ (v := ?_) (a' := ?_) 9 (some 24) 1023 rfl rfl HT_ (by kernel_rfl) (.inl ⟨by rfl, ?_⟩) ?_ ?_; rotate_left 2; (· intro w'; go_simp; with_reducible rfl); (· simp only [nrm]; rfl)
      refine pu_ (v := ?_) (a' := ?_) 10 (some 25) 2047 rfl rfl HT_ (by kernel_rfl) (.inl ⟨by rfl, ?_⟩) ?_ ?_; rotate_left 2; (· intro w'; go_simp; with_reducible rfl); (· simp only [nrm]; rfl)
      refine done_ (done_of HT_.out (by kernel_rfl)) ?_
      clear HT_ HW_ hHeld
      go_wp2
      go_ret
      exact ⟨rfl, H.out.below⟩
    · have HNE : Aside (¬ (s1 = kk ∧ s2 = 0 ∧ s3 = 0)) := ⟨fun h => by
        obtain ⟨rfl, rfl, rfl⟩ := h
        exact HA.out i (by omega) hs⟩
      have hlt : i < idx := by omega
      have hi9 : idx ≤ 1000 := by have := HNI.out; omega
      clear hi hiN hs
      go_wp2_with fail
      replace H := Aside.mk H.out.drew
      refine start_ (n := 11) (S := fun w' => w'.cell? ⟨sb, 0, none⟩ = some (.int .i64 kk) ∧ w'.cell? ⟨sb, 1, none⟩ = some (.int .i64 0) ∧ w'.cell? ⟨sb, 2, none⟩ = some (.int .i64 0) ∧ w'.cell? ⟨g5, i * 3, none⟩ = some (.int .i64 s1) ∧ w'.cell? ⟨g5, i * 3 + 1, none⟩ = some (.int .i64 s2) ∧ w'.cell? ⟨g5, i * 3 + 2, none⟩ = some (.int .i64 s3)) (ds := []) (flg 11 0) (by kernel_rfl) rfl rfl (⟨(H.out.pick 1 rfl).cell 0, (H.out.pick 1 rfl).cell 1, (H.out.pick 1 rfl).cell 2, (HCI.out _ _ H.out).1, (HCI.out _ _ H.out).2.1, (HCI.out _ _ H.out).2.2⟩) (fun hHeld => ?_)
      refine with_tabW dw.tab5 dw.bits5 (fun HT_ HW_ => ?_)
      generalize World.drew _ = y3 at H hHeld ⊢
      refine pu_ (v := ?_) (a' := ?_) 0 (some 15) 1 rfl rfl HT_ (by kernel_rfl) (.inl ⟨by rfl, ?_⟩) ?_ ?_; rotate_left 2; (· intro w'; go_simp; with_reducible rfl); (· simp only [nrm]; rfl)
      refine tk_ (v := ?_) (a' := ?_) 1 (some 16) 3 rfl rfl HT_ HW_ (by kernel_rfl) (.inl ⟨by rfl, ?_⟩) hHeld ?_ ?_; rotate_left 2; (· rintro w' ⟨_, _, _, _, _, _⟩; go_simp; with_reducible rfl); (· simp only [nrm]; rfl)
      refine pu_ (v := ?_) (a' := ?_) 2 (some 17) 7 rfl rfl HT_ (by kernel_rfl) (.inl ⟨by rfl, ?_⟩) ?_ ?_; rotate_left 2; (· intro w'; go_simp; with_reducible rfl); (· simp only [nrm]; rfl)
      refine pu_ (v := ?_) (a' := ?_) 3 (some 18) 15 rfl rfl HT_ (by kernel_rfl) (.inl ⟨by rfl, ?_⟩) ?_ ?_; rotate_left 2; (· intro w'; go_simp; with_reducible rfl); (· simp only [nrm]; rfl)
      refine pu_ (v := ?_) (a' := ?_) 4 (some 19) 31 rfl rfl HT_ (by kernel_rfl) (.inl ⟨by rfl, ?_⟩) ?_ ?_; rotate_left 2; (· intro w'; go_simp; with_reducible rfl); (· simp only [nrm]; rfl)
      refine pu_ (v := ?_) (a' := ?_) 5 (some 20) 63 rfl rfl HT_ (by kernel_rfl) (.inl ⟨by rfl, ?_⟩) ?_ ?_; rotate_left 2; (· intro w'; go_simp; with_reducible rfl); (· simp only [nrm]; rfl)
      refine pu_ (v := ?_) (a' := ?_) 6 (some 21) 127 rfl rfl HT_ (by kernel_rfl) (.inl ⟨by rfl, ?_⟩) ?_ ?_; rotate_left 2; (· intro w'; go_simp; with_reducible rfl); (· simp only [nrm]; rfl)
      refine tk_ (v := ?_) (a' := ?_) 7 (some 22) 255 rfl rfl HT_ HW_ (by kernel_rfl) (.inl ⟨by rfl, ?_⟩) hHeld ?_ ?_; rotate_left 2; (· rintro w' ⟨_, _, _, _, _, _⟩; go_simp; with_reducible rfl); (· simp only [nrm]; rfl)
      refine tk_ (v := ?_) (a' := ?_) 8 (some 23) 511 rfl rfl HT_ HW_ (by kernel_rfl) (.inl ⟨by rfl, ?_⟩) hHeld ?_ ?_; rotate_left 2; (· rintro w' ⟨_, _, _, _, _, _⟩; go_simp; with_reducible rfl); (· simp only [nrm]; rfl)
      refine pu_ (v := ?_) (a' := ?_) 9 (some 24) 1023 rfl rfl HT_ (by kernel_rfl) (.inl ⟨by rfl, ?_⟩) ?_ ?_; rotate_left 2; (· intro w'; go_simp; (first | simp only [ifs_ HNE.out] | skip); with_reducible rfl); (· simp only [nrm]; rfl)
      refine pu_ (v := ?_) (a' := ?_) 10 (some 25) 2047 rfl rfl HT_ (by kernel_rfl) (.inl ⟨by rfl, ?_⟩) ?_ ?_; rotate_left 2; (· intro w'; go_simp; with_reducible rfl); (· simp only [nrm]; rfl)
      refine done_ (done_of HT_.out (by kernel_rfl)) ?_
      clear HT_ HW_ hHeld
      go_wp2
      go_roundg (idx + 1 - (i + 1))
      case measure => omega
      case rel => exact ⟨i + 1, rfl, by omega, by first | rfl | (unfold wrap64; congr 1; omega), H⟩
theorem where5 {P T : Nat} (hP : P < 5) (hT : T < 3) (w : World) : Calls Tryd.prog 71 #[.agg #[.int .i64 ((P : Int) + 1), .int .i64 ((T : Int) + 1), .int .i64 1], .agg #[.int .i64 5, .int .i64 0, .int .i64 0]] w fun e w' => e = .returned (.int .i64 (22 + 6 * (T : Int))) ∧ Below w.heap.size w w' := by
  have h := where_c (idx := 22 + 6 * T) hP hT (kk := 5) (by decide) (by omega) (fun i hi => (sp5 ⟨P, hP⟩ ⟨T, hT⟩).1 ⟨i, hi⟩) (sp5 ⟨P, hP⟩ ⟨T, hT⟩).2 w
  rw [show ((22 + 6 * T : Nat) : Int) = 22 + 6 * (T : Int) by push_cast; rfl] at h
  exact h
theorem where8 {P T : Nat} (hP : P < 5) (hT : T < 3) (w : World) : Calls Tryd.prog 71 #[.agg #[.int .i64 ((P : Int) + 1), .int .i64 ((T : Int) + 1), .int .i64 1], .agg #[.int .i64 8, .int .i64 0, .int .i64 0]] w fun e w' => e = .returned (.int .i64 64) ∧ Below w.heap.size w w' :=
  where_c (idx := 64) hP hT (kk := 8) (by decide) (by omega) (fun i hi => (sp8 ⟨P, hP⟩ ⟨T, hT⟩).1 ⟨i, hi⟩) (sp8 ⟨P, hP⟩ ⟨T, hT⟩).2 w
theorem base_c {P T : Nat} (hP : P < 5) (hT : T < 3) (w : World) : Calls Tryd.prog 70 #[.agg #[.int .i64 ((P : Int) + 1), .int .i64 ((T : Int) + 1), .int .i64 1]] w fun e w' => e = .returned (.int .i64 64) ∧ Below w.heap.size w w' := by
  have HW := Aside.mk (fun w => where8 hP hT w)
  have H : Aside (St w _ [blk w.heap.size #[.int .i64 ((P : Int) + 1), .int .i64 ((T : Int) + 1), .int .i64 1] 25]) := Aside.mk ((St.start w).alloc #[.int .i64 ((P : Int) + 1), .int .i64 ((T : Int) + 1), .int .i64 1] 25)
  have z0 := H.out.cell 0
  have z1 := H.out.cell 1
  have z2 := H.out.cell 2
  clear hP hT
  go_enter Tryd.func70, Tryd.ntmps70
  go_wp2_with (go_at_call 71; refine (HW.out _).mono ?_; rintro e w1 ⟨rfl, hb⟩; replace H := Aside.mk (H.out.step hb); clear hb z0 z1 z2)
  go_ret
  exact ⟨rfl, H.out.below⟩
theorem cells_c {P T : Nat} (hP : P < 5) (hT : T < 3) (w : World) : Calls Tryd.prog 72 #[.agg #[.int .i64 ((P : Int) + 1), .int .i64 ((T : Int) + 1), .int .i64 1]] w fun e w' => e = .returned (.int .i64 (128 + 64 * (P : Int))) ∧ Below w.heap.size w w' := by
  have HW := Aside.mk (fun w => spots_1 hP hT w)
  have hl : (spL P T).length = 128 + 64 * P := spL_l hP hT
  have HL : Aside (((spL P T).length : Int) = 128 + 64 * (P : Int)) := ⟨by rw [hl]; push_cast; rfl⟩
  have H : Aside (St w _ [blk w.heap.size #[.int .i64 ((P : Int) + 1), .int .i64 ((T : Int) + 1), .int .i64 1] 25]) := Aside.mk ((St.start w).alloc #[.int .i64 ((P : Int) + 1), .int .i64 ((T : Int) + 1), .int .i64 1] 25)
  have z0 := H.out.cell 0
  have z1 := H.out.cell 1
  have z2 := H.out.cell 2
  clear hP hT hl
  go_enter Tryd.func72, Tryd.ntmps72
  go_wp2_with (go_at_call 133; refine (HW.out _).mono ?_; rintro e w1 ⟨lv, rfl, h9⟩; obtain ⟨A5, c5, rfl, _, _⟩ := h9.row_slice; replace H := Aside.mk (H.out.join h9); clear h9 z0 z1 z2)
  go_ret
  exact ⟨by rw [HL.out]; rfl, H.out.below⟩
theorem right_1 {P T : Nat} (hP : P < 5) (hT : T < 3) (w : World) : Calls Tryd.prog 69 #[.agg #[.int .i64 ((P : Int) + 1), .int .i64 ((T : Int) + 1), .int .i64 1]] w fun e w' => e = .returned (.bool true) ∧ Below w.heap.size w w' := by
  exact right_pc hP hT w
theorem draw_c {P T : Nat} (hP : P < 5) (hT : T < 3) (w : World) : Calls Tryd.prog 12 #[.agg #[.int .i64 ((P : Int) + 1), .int .i64 ((T : Int) + 1), .int .i64 1]] w fun e w' => e = .returned (.agg #[.int .i64 ((P : Int) + 1), .int .i64 ((T : Int) + 1), .int .i64 1, .int .i64 64, .int .i64 (22 + 6 * (T : Int)), .int .i64 (128 + 64 * (P : Int))]) ∧ Below w.heap.size w w' := by
  have HR := Aside.mk (fun w => right_1 hP hT w)
  have HB := Aside.mk (fun w => base_c hP hT w)
  have HW := Aside.mk (fun w => where5 hP hT w)
  have HC := Aside.mk (fun w => cells_c hP hT w)
  have H : Aside (St w _ [blk (w.heap.size + 1) #[.int .i64 0, .int .i64 0, .int .i64 0, .int .i64 0, .int .i64 0, .int .i64 0] 27, blk w.heap.size #[.int .i64 ((P : Int) + 1), .int .i64 ((T : Int) + 1), .int .i64 1] 25]) := Aside.mk (by have := ((St.start w).alloc #[.int .i64 ((P : Int) + 1), .int .i64 ((T : Int) + 1), .int .i64 1] 25).alloc #[.int .i64 0, .int .i64 0, .int .i64 0, .int .i64 0, .int .i64 0, .int .i64 0] 27; simpa using this)
  have z0 := (H.out.pick 1 rfl).cell 0
  have z1 := (H.out.pick 1 rfl).cell 1
  have z2 := (H.out.pick 1 rfl).cell 2
  clear hP hT
  go_enter Tryd.func12, Tryd.ntmps12
  go_wp2_with (go_at_call 69; refine (HR.out _).mono ?_; rintro e w1 ⟨rfl, hb⟩; replace H := Aside.mk (H.out.step hb); clear hb z0 z1 z2)
  generalize w.heap.size + 1 = rb at H ⊢
  replace H := Aside.mk H.out.drew
  refine start_ (n := 10) (S := fun w' => w'.cell? ⟨w.heap.size, 0, none⟩ = some (.int .i64 ((P : Int) + 1)) ∧ w'.cell? ⟨w.heap.size, 1, none⟩ = some (.int .i64 ((T : Int) + 1)) ∧ w'.cell? ⟨w.heap.size, 2, none⟩ = some (.int .i64 1)) (ds := []) (flg 10 0) (by kernel_rfl) rfl rfl (⟨(H.out.pick 1 rfl).cell 0, (H.out.pick 1 rfl).cell 1, (H.out.pick 1 rfl).cell 2⟩) (fun hHeld => ?_)
  refine with_tabW dd.tab3 dd.bits3 (fun HT_ HW_ => ?_)
  generalize World.drew _ = y3 at H hHeld ⊢
  refine tk_ (v := ?_) (a' := ?_) 0 (some 8) 1 rfl rfl HT_ HW_ (by kernel_rfl) (.inl ⟨by rfl, ?_⟩) hHeld ?_ ?_; rotate_left 2; (· rintro w' ⟨_, _, _⟩; go_simp; with_reducible rfl); (· simp only [nrm]; rfl)
  refine tk_ (v := ?_) (a' := ?_) 1 (some 9) 3 rfl rfl HT_ HW_ (by kernel_rfl) (.inl ⟨by rfl, ?_⟩) hHeld ?_ ?_; rotate_left 2; (· rintro w' ⟨_, _, _⟩; go_simp; with_reducible rfl); (· simp only [nrm]; rfl)
  refine tk_ (v := ?_) (a' := ?_) 3 (some 11) 11 rfl rfl HT_ HW_ (by kernel_rfl) (.inl ⟨by rfl, ?_⟩) hHeld ?_ ?_; rotate_left 2; (· rintro w' ⟨_, _, _⟩; go_simp; with_reducible rfl); (· simp only [nrm]; rfl)
  refine pu_ (v := ?_) (a' := ?_) 4 (some 12) 27 rfl rfl HT_ (by kernel_rfl) (.inl ⟨by rfl, ?_⟩) ?_ ?_; rotate_left 2; (· intro w'; go_simp; with_reducible rfl); (· simp only [nrm]; rfl)
  refine tk_ (v := ?_) (a' := ?_) 6 (some 14) 91 rfl rfl HT_ HW_ (by kernel_rfl) (.inl ⟨by rfl, ?_⟩) hHeld ?_ ?_; rotate_left 2; (· rintro w' ⟨_, _, _⟩; go_simp; with_reducible rfl); (· simp only [nrm]; rfl)
  refine on_ 2 (some 10) 95 rfl rfl HT_ (by kernel_rfl) (by decide) (fun K hK => ?_)
  refine goes_ Tryd.func70 (by kernel_rfl) rfl #[.agg #[.int .i64 ((P : Int) + 1), .int .i64 ((T : Int) + 1), .int .i64 1]] (by rfl) rfl rfl (by (try simp only [List.map_toArray, List.map_cons, List.map_nil]); first | done | rfl) ?_
  refine (HB.out _).mono ?_
  rintro e y4 ⟨rfl, hb⟩
  replace H := Aside.mk (H.out.step hb)
  clear hb
  refine ⟨_, rfl, ?_⟩
  clear hHeld
  refine hK.out _ _ ⟨(H.out.pick 1 rfl).cell 0, (H.out.pick 1 rfl).cell 1, (H.out.pick 1 rfl).cell 2⟩ (fun hHeld => ?_)
  clear hK K
  refine norm_ (a' := ?_) ?_ ?_
  rotate_left
  · show Act.put _ (some 10) _ = _
    simp only [nrm]
    rfl
  refine on_ 5 (some 13) 127 rfl rfl HT_ (by kernel_rfl) (by decide) (fun K hK => ?_)
  refine goes_ Tryd.func71 (by kernel_rfl) rfl #[.agg #[.int .i64 ((P : Int) + 1), .int .i64 ((T : Int) + 1), .int .i64 1], .agg #[.int .i64 5, .int .i64 0, .int .i64 0]] (by rfl) rfl rfl (by (try simp only [List.map_toArray, List.map_cons, List.map_nil]); first | done | rfl) ?_
  refine (HW.out _).mono ?_
  rintro e y5 ⟨rfl, hb⟩
  replace H := Aside.mk (H.out.step hb)
  clear hb
  refine ⟨_, rfl, ?_⟩
  clear hHeld
  refine hK.out _ _ ⟨(H.out.pick 1 rfl).cell 0, (H.out.pick 1 rfl).cell 1, (H.out.pick 1 rfl).cell 2⟩ (fun hHeld => ?_)
  clear hK K
  refine norm_ (a' := ?_) ?_ ?_
  rotate_left
  · show Act.put _ (some 13) _ = _
    simp only [nrm]
    rfl
  refine on_ 7 (some 15) 255 rfl rfl HT_ (by kernel_rfl) (by decide) (fun K hK => ?_)
  refine goes_ Tryd.func72 (by kernel_rfl) rfl #[.agg #[.int .i64 ((P : Int) + 1), .int .i64 ((T : Int) + 1), .int .i64 1]] (by rfl) rfl rfl (by (try simp only [List.map_toArray, List.map_cons, List.map_nil]); first | done | rfl) ?_
  refine (HC.out _).mono ?_
  rintro e y6 ⟨rfl, hb⟩
  replace H := Aside.mk (H.out.step hb)
  clear hb
  refine ⟨_, rfl, ?_⟩
  clear hHeld
  refine hK.out _ _ ⟨(H.out.pick 1 rfl).cell 0, (H.out.pick 1 rfl).cell 1, (H.out.pick 1 rfl).cell 2⟩ (fun hHeld => ?_)
  clear hK K
  refine norm_ (a' := ?_) ?_ ?_
  rotate_left
  · show Act.put _ (some 15) _ = _
    simp only [nrm]
    rfl
  refine pu_ (v := ?_) (a' := ?_) 8 (some 16) 511 rfl rfl HT_ (by kernel_rfl) (.inl ⟨by rfl, ?_⟩) ?_ ?_; rotate_left 2; (· intro w'; go_simp; with_reducible rfl); (· simp only [nrm]; rfl)
  refine on_ 9 (none) 1023 rfl rfl HT_ (by kernel_rfl) (by decide) (fun K hK => ?_)
  refine skip_ (by rfl) rfl (st_run_store (seg := [.int .i64 ((P : Int) + 1), .int .i64 ((T : Int) + 1), .int .i64 1, .int .i64 64, .int .i64 (22 + 6 * (T : Int)), .int .i64 (128 + 64 * (P : Int))]) rfl rfl rfl rfl (Nat.le_of_ble_eq_true rfl) (by simp [Value.oneCell']) H.out) ?_
  have h8 := H.out.setCells 0 [.int .i64 ((P : Int) + 1), .int .i64 ((T : Int) + 1), .int .i64 1, .int .i64 64, .int .i64 (22 + 6 * (T : Int)), .int .i64 (128 + 64 * (P : Int))] (Nat.le_of_ble_eq_true rfl)
  generalize World.setCells _ _ _ _ = y8 at h8 ⊢
  replace H : Aside (St w y8 [blk rb #[.int .i64 ((P : Int) + 1), .int .i64 ((T : Int) + 1), .int .i64 1, .int .i64 64, .int .i64 (22 + 6 * (T : Int)), .int .i64 (128 + 64 * (P : Int))] 27, blk w.heap.size #[.int .i64 ((P : Int) + 1), .int .i64 ((T : Int) + 1), .int .i64 1] 25]) := Aside.mk h8
  clear h8
  clear hHeld
  refine hK.out _ _ ⟨(H.out.pick 1 rfl).cell 0, (H.out.pick 1 rfl).cell 1, (H.out.pick 1 rfl).cell 2⟩ (fun hHeld => ?_)
  clear hK K
  refine done_ (done_of HT_.out (by kernel_rfl)) ?_
  clear HT_ HW_ hHeld
  go_wp2
  refine bodyPost_ret (results_cell_row rfl _ _ rb 27 #[.int .i64 ((P : Int) + 1), .int .i64 ((T : Int) + 1), .int .i64 1, .int .i64 64, .int .i64 (22 + 6 * (T : Int)), .int .i64 (128 + 64 * (P : Int))] (0, 0) _ rfl H.out.heap Tryd.underlying27 rfl (by kernel_rfl)) rfl ?_
  exact ⟨rfl, H.out.below⟩
end Go.Proofs.YtelfiegocdjnoaaDoor.Ar
