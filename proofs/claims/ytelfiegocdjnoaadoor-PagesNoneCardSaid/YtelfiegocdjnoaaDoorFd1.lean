/- An arena's field is laid. Conditions: the pages lie in memory that is read only. -/
import Derived.Test.YtelfiegocdjnoaaDoorFd0
import Derived.Test.YtelfiegocdjnoaaDoorDr1
import Derived.Deep.CutBlock
import Derived.Test.YtelfiegocdjnoaaDoorMrF0
namespace Go.Proofs.YtelfiegocdjnoaaDoor.Ar
open Go Go.RowKit Go.Proofs.YtelfiegocdjnoaaDoor.Sep Go.Proofs.YtelfiegocdjnoaaDoor.Pg Go.Proofs.YtelfiegocdjnoaaDoorW.PrintWords Go.Proofs.YtelfiegocdjnoaaDoorW.PrintLast Go.Proofs.YtelfiegocdjnoaaDoorW.PrintMore Go.Proofs.YtelfiegocdjnoaaDoor.Q
set_option linter.unusedVariables false
set_option linter.unusedSimpArgs false
set_option maxHeartbeats 8000000
set_option maxRecDepth 100000
def ly.T14 : Bool × List (List Nat × List Nat) := (true, [([], []), ([0], [0]), ([1], [1]), ([2], [2]), ([3], [3]), ([4], [4]), ([5], [5]), ([], []), ([7], [7]), ([8], [8]), ([9], [9]), ([], []), ([10, 11], [10, 11]), ([], []), ([6, 12, 0, 1, 2, 3, 4, 5, 6, 7, 8, 9, 10, 11, 12, 13], [6, 12]), ([14, 13, 12, 0, 1, 2, 3, 4, 5, 6, 7, 8, 9, 10, 11, 12, 13], [13, 14])])
def ly.B14 : List Nat := [0, 1, 3, 7, 15, 31, 63, 0, 128, 384, 896, 0, 3968, 0, 16383, 32767]
theorem ly.tab14 : rtab .any (opsOf Tryd.f51 14) = ly.T14 := by kernel_rfl
theorem ly.bits14 : waitsOk ly.T14.2 ly.B14 = true := by kernel_rfl
def ly.T15 : Bool × List (List Nat × List Nat) := (true, [([], []), ([0], [0]), ([1], [1]), ([2], [2]), ([3], [3]), ([4], [4]), ([5], [5]), ([], []), ([7], [7]), ([8], [8]), ([9], [9]), ([], []), ([10, 11], [10, 11]), ([], []), ([], []), ([13, 14], [13, 14]), ([15], [15]), ([16], [16]), ([6, 12, 0, 1, 2, 3, 4, 5, 6, 7, 8, 9, 10, 11, 12, 13, 14, 15, 16, 17], [6, 12]), ([18, 17, 12, 0, 1, 2, 3, 4, 5, 6, 7, 8, 9, 10, 11, 12, 13, 14, 15, 16, 17], [17, 18])])
def ly.B15 : List Nat := [0, 1, 3, 7, 15, 31, 63, 0, 128, 384, 896, 0, 3968, 0, 0, 24576, 57344, 122880, 262143, 524287]
theorem ly.tab15 : rtab .any (opsOf Tryd.f51 15) = ly.T15 := by kernel_rfl
theorem ly.bits15 : waitsOk ly.T15.2 ly.B15 = true := by kernel_rfl
def ly.T16 : Bool × List (List Nat × List Nat) := (true, [([], []), ([0], [0]), ([1], [1]), ([2], [2]), ([3], [3]), ([4], [4]), ([5], [5]), ([], []), ([7], [7]), ([8], [8]), ([9], [9]), ([], []), ([10, 11], [10, 11]), ([], []), ([], []), ([13, 14], [13, 14]), ([15], [15]), ([16], [16]), ([6, 12, 0, 1, 2, 3, 4, 5, 6, 7, 8, 9, 10, 11, 12, 13, 14, 15, 16, 17], [6, 12]), ([18, 17, 12, 0, 1, 2, 3, 4, 5, 6, 7, 8, 9, 10, 11, 12, 13, 14, 15, 16, 17], [17, 18])])
def ly.B16 : List Nat := [0, 1, 3, 7, 15, 31, 63, 0, 128, 384, 896, 0, 3968, 0, 0, 24576, 57344, 122880, 262143, 524287]
theorem ly.tab16 : rtab .any (opsOf Tryd.f51 16) = ly.T16 := by kernel_rfl
theorem ly.bits16 : waitsOk ly.T16.2 ly.B16 = true := by kernel_rfl
/-- The field while it is laid. -/
abbrev FL1 (P T x d gD a gC : Nat) (X : List Int) : List HP := [blk x #[.int .i64 ((P : Int) + 1), .int .i64 ((T : Int) + 1), .int .i64 1, .int .i64 ((P : Int) + 1), .int .i64 ((T : Int) + 1), .int .i64 1, .int .i64 64, .int .i64 (22 + 6 * (T : Int)), .int .i64 (128 + 64 * (P : Int)), .pointer (some ⟨a, 0, none⟩), .pointer (some ⟨d, 0, none⟩), .pointer none] 127, blk d #[.slice (some ⟨gD, 0, none⟩) (128 + 64 * P) (128 + 64 * P), .slice none 0 0, .int .i64 0] 95, blk gD (U X).toArray 22, arB a gC (128 + 64 * P) (.slice none 0 0) true 0 0, ceB gC (List.replicate (128 + 64 * P) 0)]
abbrev FL2 (P T x d gD a gC : Nat) (X Y : List Int) : List HP := [blk x #[.int .i64 ((P : Int) + 1), .int .i64 ((T : Int) + 1), .int .i64 1, .int .i64 ((P : Int) + 1), .int .i64 ((T : Int) + 1), .int .i64 1, .int .i64 64, .int .i64 (22 + 6 * (T : Int)), .int .i64 (128 + 64 * (P : Int)), .pointer (some ⟨a, 0, none⟩), .pointer (some ⟨d, 0, none⟩), .pointer none] 127, blk d #[.slice (some ⟨gD, 0, none⟩) (128 + 64 * P) (128 + 64 * P), .slice none 0 0, .int .i64 0] 95, blk gD (U X).toArray 22, arB a gC (128 + 64 * P) (.slice none 0 0) true 0 0, ceB gC Y]
theorem zeros_ (n : Nat) : (madeCells (Value.int .u64 0).cells (n * 1)).toList.toArray = (U (List.replicate n 0)).toArray := by
  show (madeCells #[Value.int .u64 0] (n * 1)).toList.toArray = _
  rw [toList_madeCells_one, Nat.mul_one]; simp [U]
theorem pent_ (P T i : Nat) (hP : P < 5) (hT : T < 3) (hi : i < P + 1) : windrowref06_Map_PageEntry.f ((P : Int) + 1) ((T : Int) + 1) 1 64 (22 + 6 * (T : Int)) (128 + 64 * (P : Int)) i = some ((adr P T 0 i : Nat) : Int) := by
  unfold windrowref06_Map_PageEntry.f adr
  rw [w_of _ (by omega) (by omega)]
  congr 1
  push_cast
  try omega
theorem pall_ (P T i : Nat) (hP : P < 5) (hT : T < 3) (hi : i < P + 1) : windrowref06_Map_Alloc.f ((P : Int) + 1) ((T : Int) + 1) 1 64 (22 + 6 * (T : Int)) (128 + 64 * (P : Int)) i = some ((adr P T 1 i : Nat) : Int) := by
  unfold windrowref06_Map_Alloc.f adr
  rw [w_of (22 + 6 * (T : Int) + ((P : Int) + 1)) (by omega) (by omega), w_of _ (by omega) (by omega)]
  congr 1
  push_cast
  try omega
theorem pmrk_ (P T i : Nat) (hP : P < 5) (hT : T < 3) (hi : i < P + 1) : windrowref06_Map_Mark.f ((P : Int) + 1) ((T : Int) + 1) 1 64 (22 + 6 * (T : Int)) (128 + 64 * (P : Int)) i = some ((adr P T 2 i : Nat) : Int) := by
  unfold windrowref06_Map_Mark.f adr
  rw [w_of (2 * ((P : Int) + 1)) (by omega) (by omega), w_of (22 + 6 * (T : Int) + 2 * ((P : Int) + 1)) (by omega) (by omega), w_of _ (by omega) (by omega)]
  congr 1
  try omega
theorem U_size (X : List Int) (j : Nat) (v : Value) : j + [v].length ≤ (U X).toArray.size ↔ j < X.length := by simp [U]; omega
theorem put_U {w0 w : World} {gD j : Nat} {X : List Int} {v : Int} {t : TypeId} {L : List HP} (hj : j < X.length) (h : St w0 w (blk gD (putAt (U X).toArray j [.int .u64 v]) t :: L)) : St w0 w (blk gD (U (X.set j v)).toArray t :: L) := by
  have e : putAt (U X).toArray j [.int .u64 v] = (U (X.set j v)).toArray := by
    unfold putAt
    congr 1
    simp only [List.toList_toArray, List.length_singleton]
    rw [U, U, List.map_set]
    rw [List.set_eq_take_append_cons_drop, if_pos (by simpa using hj)]
    simp
  rw [e] at h
  exact h
theorem take_set (X : List Int) (i k : Nat) (h1 : i < X.length) : (X.take i ++ List.replicate (k + 1) 0).set i (X.getD i 0) = X.take (i + 1) ++ List.replicate k 0 := by
  have h2 : (X.take i).length = i := by rw [List.length_take]; omega
  rw [List.replicate_succ, List.set_append_right _ _ (by omega), h2, Nat.sub_self, List.set_cons_zero, ← List.take_append_getElem h1, List.getD_eq_getElem?_getD, List.getElem?_eq_getElem h1, List.append_assoc]
  rfl
theorem drop_cons {α : Type} (z : α) (l : List α) (i : Nat) (h : i < l.length) : l.drop i = l.getD i z :: l.drop (i + 1) := by
  rw [List.drop_eq_getElem_cons h, List.getD_eq_getElem?_getD, List.getElem?_eq_getElem h]
  rfl
theorem lay_ (q1 q2 q3 : Int) (A : Option Addr) (c : Nat) (L : List SPg) (w : World) (hL : Kd.C kPg w A L.length L) (hr : ∀ g ∈ L, rngP g) :
    Calls Tryd.prog 51 #[.agg #[.int .i64 q1, .int .i64 q2, .int .i64 q3], .slice A L.length c] w fun e w' => ∃ x a d p gD gC,
      e = .returned (.tuple #[.pointer (some ⟨x, 0, none⟩), .bool true]) ∧ St w w' (Fd x (pgs q1) (thr q2) a d p gD gC 15 false (layX (pgs q1) (thr q2) L 0 (List.replicate (128 + 64 * pgs q1) 0)) (.slice none 0 0) [] 0 (.slice none 0 0) [] 0 0) := by
  have hP := pgs_lt q1
  have hT := thr_lt q2
  have HSM := Aside.mk (small_ q1 q2 q3)
  have HDR := Aside.mk (fun w => draw_c (P := pgs q1) (T := thr q2) hP hT w)
  have HCE : Aside (∀ w, Calls Tryd.prog 72 #[.agg #[.int .i64 ((pgs q1 : Int) + 1), .int .i64 ((thr q2 : Int) + 1), .int .i64 1]] w fun e w' => e = .returned (.int .i64 ((128 + 64 * pgs q1 : Nat) : Int)) ∧ Below w.heap.size w w') := ⟨fun w => by have := cells_c (P := pgs q1) (T := thr q2) hP hT w; rwa [show (128 : Int) + 64 * (pgs q1 : Int) = ((128 + 64 * pgs q1 : Nat) : Int) by push_cast; rfl] at this⟩
  obtain ⟨i22, hi22, hz22, hs22, hb22⟩ := info_parts info22
  generalize pgs q1 = P at *
  generalize thr q2 = T at *
  have HP := Aside.mk hP
  have HT := Aside.mk hT
  have HLM := Aside.mk (Kd.C_max hL)
  have HL := Aside.mk hL
  have HR := Aside.mk hr
  have H := Aside.mk ((St.start w).alloc #[.int .i64 q1, .int .i64 q2, .int .i64 q3] 25)
  clear hP hT hL hr
  go_enter Tryd.func51, Tryd.ntmps51
  go_wp2_with (first
    | (go_at_call 108; refine (windrowlaw09_small.calls _ _ _ _ _ _ _ HSM.out).mono ?_; rintro e w1 ⟨rfl, hb⟩; replace H := Aside.mk ((H.out.step hb).rest.alloc #[.int .i64 ((P : Int) + 1), .int .i64 ((T : Int) + 1), .int .i64 1, .int .i64 0, .int .i64 0, .int .i64 0, .int .i64 0, .int .i64 0, .int .i64 0, .pointer none, .pointer none, .pointer none] 127); clear hb)
    | (go_at_call 12; refine (HDR.out _).mono ?_; rintro e w2 ⟨rfl, hb⟩; replace H := Aside.mk (H.out.step hb); clear hb)
    | (with_reducible refine stop_at (.store 27 (.tmp 24) (.tmp 22)) rfl ?_))
  generalize w1.heap.size = x at H ⊢
  refine ⟨?_⟩
  refine st_store rfl rfl rfl [.int .i64 ((P : Int) + 1), .int .i64 ((T : Int) + 1), .int .i64 1, .int .i64 64, .int .i64 (22 + 6 * (T : Int)), .int .i64 (128 + 64 * (P : Int))] #[.int .i64 ((P : Int) + 1), .int .i64 ((T : Int) + 1), .int .i64 1, .int .i64 ((P : Int) + 1), .int .i64 ((T : Int) + 1), .int .i64 1, .int .i64 64, .int .i64 (22 + 6 * (T : Int)), .int .i64 (128 + 64 * (P : Int)), .pointer none, .pointer none, .pointer none] rfl rfl rfl (Nat.le_of_ble_eq_true rfl) (by simp [Value.oneCell']) (H.out) rfl ?_
  intro w3 h_
  replace H : Aside (St w w3 ([blk x #[.int .i64 ((P : Int) + 1), .int .i64 ((T : Int) + 1), .int .i64 1, .int .i64 ((P : Int) + 1), .int .i64 ((T : Int) + 1), .int .i64 1, .int .i64 64, .int .i64 (22 + 6 * (T : Int)), .int .i64 (128 + 64 * (P : Int)), .pointer none, .pointer none, .pointer none] 127])) := Aside.mk h_
  clear h_
  have x0 := H.out.cell 0
  have x1 := H.out.cell 1
  have x2 := H.out.cell 2
  go_wp2_with (first
    | (go_at_call 72; refine (HCE.out _).mono ?_; rintro e w4 ⟨rfl, hb⟩; replace H := Aside.mk (H.out.step hb); clear hb x0 x1 x2)
    | (at_make; refine wpList_make_full _ rfl (.tmp 30) (.tmp 30) 30 rfl w.heap.size 22 _ (.int .u64 0) 1 Tryd.underlying30 hi22 hz22 hs22 .i64 .i64 (128 + 64 * P) (128 + 64 * P) (128 + 64 * P) rfl rfl rfl rfl (by rw [hb22]; have := HP.out; omega) (by simp only [maxLen]; have := HP.out; omega) H.out.size_le ?_; intro w5 ho hg; replace H := Aside.mk (St_make H.out ho hg); clear ho hg)
    | (with_reducible refine stop_at (.store 92 (.tmp 35) (.tmp 33)) rfl ?_))
  replace H := Aside.mk (H.out.alloc #[.slice (some ⟨w4.heap.size, 0, none⟩) (128 + 64 * P) (128 + 64 * P), .slice none 0 0, .int .i64 0] 95)
  rw [zeros_] at H
  generalize w4.heap.size = gD at H ⊢
  generalize w5.heap.size = d at H ⊢
  refine ⟨?_⟩
  refine st_store rfl rfl rfl [.pointer (some ⟨d, 0, none⟩)] #[.int .i64 ((P : Int) + 1), .int .i64 ((T : Int) + 1), .int .i64 1, .int .i64 ((P : Int) + 1), .int .i64 ((T : Int) + 1), .int .i64 1, .int .i64 64, .int .i64 (22 + 6 * (T : Int)), .int .i64 (128 + 64 * (P : Int)), .pointer none, .pointer (some ⟨d, 0, none⟩), .pointer none] rfl rfl rfl (Nat.le_of_ble_eq_true rfl) (by simp [Value.oneCell']) (H.out.pick 2 rfl) rfl ?_
  intro w6 h_
  replace H : Aside (St w w6 ([blk x #[.int .i64 ((P : Int) + 1), .int .i64 ((T : Int) + 1), .int .i64 1, .int .i64 ((P : Int) + 1), .int .i64 ((T : Int) + 1), .int .i64 1, .int .i64 64, .int .i64 (22 + 6 * (T : Int)), .int .i64 (128 + 64 * (P : Int)), .pointer none, .pointer (some ⟨d, 0, none⟩), .pointer none] 127, blk d #[.slice (some ⟨gD, 0, none⟩) (128 + 64 * P) (128 + 64 * P), .slice none 0 0, .int .i64 0] 95, blk gD (U (List.replicate (128 + 64 * P) 0)).toArray 22])) := Aside.mk h_
  clear h_
  have x10 := H.out.cell 10
  have d0 := (H.out.pick 1 rfl).cell 0
  go_wp2_with (first
    | (go_at_call 73; refine (new_ (128 + 64 * P) (by omega) (by have := HP.out; omega) true H.out).mono ?_; rintro e w7 ⟨a, gC, rfl, h7⟩; replace H := Aside.mk h7; clear h7 x10 d0)
    | (with_reducible refine stop_at (.store 29 (.tmp 53) (.tmp 51)) rfl ?_))
  refine ⟨?_⟩
  refine st_store rfl rfl rfl [.pointer (some ⟨a, 0, none⟩)] #[.int .i64 ((P : Int) + 1), .int .i64 ((T : Int) + 1), .int .i64 1, .int .i64 ((P : Int) + 1), .int .i64 ((T : Int) + 1), .int .i64 1, .int .i64 64, .int .i64 (22 + 6 * (T : Int)), .int .i64 (128 + 64 * (P : Int)), .pointer (some ⟨a, 0, none⟩), .pointer (some ⟨d, 0, none⟩), .pointer none] rfl rfl rfl (Nat.le_of_ble_eq_true rfl) (by simp [Value.oneCell']) (H.out.pick 2 rfl) rfl ?_
  intro w8 h_
  replace H : Aside (St w w8 (FL1 P T x d gD a gC (List.replicate (128 + 64 * P) 0))) := Aside.mk (h_.order 5 [0, 3, 4, 1, 2] rfl rfl)
  clear h_
  go_upto_block 0 with fail
  have HX0 := Aside.mk (rng_zeros 0)
  go_cut [9, 10, 11] (fun v9 v10 v11 wc => Aside (St w wc (FL1 P T x d gD a gC (layX P T L 0 (List.replicate (128 + 64 * P) 0)))))
  case first =>
    go_wp2_with fail
    go_loopg [9, 10, 11] (P + 1) (fun m v9 v10 v11 w' => ∃ i : Nat, m = P + 1 - i ∧ i ≤ P + 1 ∧ i ≤ L.length ∧ v9 = .int .i64 i ∧ ∃ X, Aside (layX P T (L.drop i) i X = layX P T L 0 (List.replicate (128 + 64 * P) 0)) ∧ Aside (X.length = (128 + 64 * P)) ∧ Aside (St w w' (FL1 P T x d gD a gC X)))
    case atStart => exact ⟨0, rfl, Nat.zero_le _, Nat.zero_le _, rfl, List.replicate (128 + 64 * P) 0, ⟨rfl⟩, ⟨List.length_replicate⟩, H⟩
    case round =>
      clear H
      obtain ⟨i, rfl, hi, hiL, rfl, X, HE, HXL, H⟩ := hrel
      have x0 := H.out.cell 0
      by_cases hlt : i < L.length
      · have dlt : decide ((i : Int) < (L.length : Int)) = true := by simp; omega
        by_cases hip : i < P + 1
        · have hdc : L.drop i = rd_Pg L i :: L.drop (i + 1) := drop_cons zPg L i hlt
          have HD := Aside.mk hdc
          clear hdc
          have hg : rd_Pg L i ∈ L := by
            have e : rd_Pg L i = L[i] := by simp [rd_Pg, List.getD_eq_getElem?_getD, hlt]
            rw [e]; exact List.getElem_mem _
          have HENC := Aside.mk (encR 0 (rd_Pg L i).f0 (rd_Pg L i).f1 (rd_Pg L i).f2 (rd_Pg L i).f3 (rd_Pg L i).f4)
          obtain ⟨ad, rfl, c0, c1, c2, c3, c4, c5, c6, c7⟩ := at_Pg HL.out i (by omega) (by omega)
          have hci : ((i : Int)).toNat = i := rfl
          rw [hci] at c0 c1 c2 c3 c4 c5 c6 c7
          have hb0 := Aside.mk H.out.below
          have e0 := pw_cell_below hb0.out c0
          have e1 := pw_cell_below hb0.out c1
          have e2 := pw_cell_below hb0.out c2
          have e3 := pw_cell_below hb0.out c3
          have e4 := pw_cell_below hb0.out c4
          have HC5 := Aside.mk c5
          have HC6 := Aside.mk c6
          have HC7 := Aside.mk c7
          clear c0 c1 c2 c3 c4 c5 c6 c7 hb0 hci
          have hk0 : adr P T 0 i < X.length := by rw [HXL.out]; exact adr_lt HP.out HT.out hip (by decide)
          have hk1 : adr P T 1 i < (X.set (adr P T 0 i) (pgW (rd_Pg L i))).length := by rw [List.length_set, HXL.out]; exact adr_lt HP.out HT.out hip (by decide)
          have hk2 : adr P T 2 i < ((X.set (adr P T 0 i) (pgW (rd_Pg L i))).set (adr P T 1 i) (rd_Pg L i).f6).length := by rw [List.length_set, List.length_set, HXL.out]; exact adr_lt HP.out HT.out hip (by decide)
          have hn0 : (adr P T 0 i : Int) < 128 + 64 * (P : Int) := by have : adr P T 0 i < (128 + 64 * P) := adr_lt HP.out HT.out hip (by decide); omega
          have hn1 : (adr P T 1 i : Int) < 128 + 64 * (P : Int) := by have : adr P T 1 i < (128 + 64 * P) := adr_lt HP.out HT.out hip (by decide); omega
          have hn2 : (adr P T 2 i : Int) < 128 + 64 * (P : Int) := by have : adr P T 2 i < (128 + 64 * P) := adr_lt HP.out HT.out hip (by decide); omega
          have HPE := Aside.mk (pent_ P T i HP.out HT.out hip)
          have HPA := Aside.mk (pall_ P T i HP.out HT.out hip)
          have HPM := Aside.mk (pmrk_ P T i HP.out HT.out hip)
          have HFX : Aside (lay1 P T X i (rd_Pg L i) = ((X.set (adr P T 0 i) (pgW (rd_Pg L i))).set (adr P T 1 i) (rd_Pg L i).f6).set (adr P T 2 i) (rd_Pg L i).f7) := ⟨rfl⟩
          have HK0 := Aside.mk hk0
          have HK1 := Aside.mk hk1
          have HK2 := Aside.mk hk2
          have HGP : Aside (pgW (rd_Pg L i) = if (rd_Pg L i).f5 = 0 then (if isE (rd_Pg L i).f0 (rd_Pg L i).f1 (rd_Pg L i).f2 (rd_Pg L i).f3 (rd_Pg L i).f4 = true then wordOf (rd_Pg L i).f0 (rd_Pg L i).f1 (rd_Pg L i).f2 (rd_Pg L i).f3 (rd_Pg L i).f4 else 0) else (rd_Pg L i).f5) := ⟨rfl⟩
          generalize hg0 : pgW (rd_Pg L i) = pw at HK0 HK1 HK2 HFX HGP
          generalize adr P T 0 i = j0 at HK0 HK1 HK2 HFX HPE hn0
          generalize adr P T 1 i = j1 at HK1 HK2 HFX HPA hn1
          generalize adr P T 2 i = j2 at HK2 HFX HPM hn2
          clear hk0 hk1 hk2 hg0
          have HHI := Aside.mk hip
          have dip : decide ((i : Int) < (P : Int) + 1) = true := by simp; omega
          obtain ⟨ew, ee, hee⟩ : ∃ ew ee, (if isE (rd_Pg L i).f0 (rd_Pg L i).f1 (rd_Pg L i).f2 (rd_Pg L i).f3 (rd_Pg L i).f4 = true then (wordOf (rd_Pg L i).f0 (rd_Pg L i).f1 (rd_Pg L i).f2 (rd_Pg L i).f3 (rd_Pg L i).f4, (0 : Int)) else (0, 4)) = (ew, ee) := ⟨_, _, rfl⟩
          have hew : (if isE (rd_Pg L i).f0 (rd_Pg L i).f1 (rd_Pg L i).f2 (rd_Pg L i).f3 (rd_Pg L i).f4 = true then wordOf (rd_Pg L i).f0 (rd_Pg L i).f1 (rd_Pg L i).f2 (rd_Pg L i).f3 (rd_Pg L i).f4 else 0) = ew := by
            by_cases hh : isE (rd_Pg L i).f0 (rd_Pg L i).f1 (rd_Pg L i).f2 (rd_Pg L i).f3 (rd_Pg L i).f4 = true
            · rw [if_pos hh] at hee ⊢; exact congrArg Prod.fst hee
            · rw [if_neg hh] at hee ⊢; exact congrArg Prod.fst hee
          replace HENC := HENC.out
          rw [hee] at HENC
          replace HENC := Aside.mk HENC
          replace HGP := HGP.out
          rw [hew] at HGP
          replace HGP := Aside.mk HGP
          clear hee hew hip hi hiL hg
          generalize hf0 : (rd_Pg L i).f0 = g0 at e0 HENC
          generalize hf1 : (rd_Pg L i).f1 = g1 at e1 HENC
          generalize hf2 : (rd_Pg L i).f2 = g2 at e2 HENC
          generalize hf3 : (rd_Pg L i).f3 = g3 at e3 HENC
          generalize hf4 : (rd_Pg L i).f4 = g4 at e4 HENC
          generalize hf5 : (rd_Pg L i).f5 = g5 at HC5 HGP
          generalize hf6 : (rd_Pg L i).f6 = g6 at HC6 HFX HK2
          generalize hf7 : (rd_Pg L i).f7 = g7 at HC7 HFX
          clear hf0 hf1 hf2 hf3 hf4 hf5 hf6 hf7
          have key : ∀ (wA : World) (b : Bool), (g5 == 0) = b → True := fun _ _ _ => trivial
          by_cases h5 : g5 = 0
          · have h5b : (g5 != 0) = false := by simp [h5]
            replace HGP := HGP.out
            rw [if_pos h5] at HGP
            subst HGP
            clear h5 key
            go_wp2_with (go_at_call 32; refine (windrowref02_EncodeEntry.calls _ _ _ _ _ _ _ _ _ HENC.out).mono ?_; rintro e w9 ⟨rfl, hb⟩; replace H := Aside.mk (H.out.step hb); clear hb x0 e0 e1 e2 e3 e4; have e5 := pw_cell_below H.out.below HC5.out)
            replace H := Aside.mk H.out.drew
            refine start_ (n := 16) (S := fun w' => w'.cell? ⟨x, 3, none⟩ = some (.int .i64 ((P : Int) + 1)) ∧ w'.cell? ⟨x, 4, none⟩ = some (.int .i64 ((T : Int) + 1)) ∧ w'.cell? ⟨x, 5, none⟩ = some (.int .i64 1) ∧ w'.cell? ⟨x, 6, none⟩ = some (.int .i64 64) ∧ w'.cell? ⟨x, 7, none⟩ = some (.int .i64 (22 + 6 * (T : Int))) ∧ w'.cell? ⟨x, 8, none⟩ = some (.int .i64 (128 + 64 * (P : Int))) ∧ w'.cell? ⟨x, 10, none⟩ = some (.pointer (some ⟨d, 0, none⟩)) ∧ w'.cell? ⟨d, 0, none⟩ = some (.slice (some ⟨gD, 0, none⟩) (128 + 64 * P) (128 + 64 * P))) (ds := []) (flg 16 0) (by kernel_rfl) rfl rfl (⟨H.out.cell 3, H.out.cell 4, H.out.cell 5, H.out.cell 6, H.out.cell 7, H.out.cell 8, H.out.cell 10, (H.out.pick 1 rfl).cell 0⟩) (fun hHeld => ?_)
            refine with_tabW ly.tab14 ly.bits14 (fun HT_ HW_ => ?_)
            refine pu_ (v := ?_) (a' := ?_) 0 (some 89) 1 rfl rfl HT_ (by kernel_rfl) (.inl ⟨by rfl, ?_⟩) ?_ ?_; rotate_left 2; (· intro w'; go_simp; with_reducible rfl); (· simp only [nrm]; rfl)
            refine pu_ (v := ?_) (a' := ?_) 1 (some 90) 3 rfl rfl HT_ (by kernel_rfl) (.inl ⟨by rfl, ?_⟩) ?_ ?_; rotate_left 2; (· intro w'; go_simp; with_reducible rfl); (· simp only [nrm]; rfl)
            refine pu_ (v := ?_) (a' := ?_) 2 (some 91) 7 rfl rfl HT_ (by kernel_rfl) (.inl ⟨by rfl, ?_⟩) ?_ ?_; rotate_left 2; (· intro w'; go_simp; with_reducible rfl); (· simp only [nrm]; rfl)
            refine tk_ (v := ?_) (a' := ?_) 3 (some 92) 15 rfl rfl HT_ HW_ (by kernel_rfl) (.inl ⟨by rfl, ?_⟩) hHeld ?_ ?_; rotate_left 2; (· rintro w' ⟨_, _, _, _, _, _, _, _⟩; go_simp; with_reducible rfl); (· simp only [nrm]; rfl)
            refine pu_ (v := ?_) (a' := ?_) 4 (some 93) 31 rfl rfl HT_ (by kernel_rfl) (.inl ⟨by rfl, ?_⟩) ?_ ?_; rotate_left 2; (· intro w'; go_simp; with_reducible rfl); (· simp only [nrm]; rfl)
            refine pu_ (v := ?_) (a' := ?_) 5 (some 94) 63 rfl rfl HT_ (by kernel_rfl) (.inl ⟨by rfl, ?_⟩) ?_ ?_; rotate_left 2; (· intro w'; go_simp; with_reducible rfl); (· simp only [nrm]; rfl)
            refine tk_ (v := ?_) (a' := ?_) 6 (some 95) 127 rfl rfl HT_ HW_ (by kernel_rfl) (.inl ⟨by rfl, ?_⟩) hHeld ?_ ?_; rotate_left 2; (· rintro w' ⟨_, _, _, _, _, _, _, _⟩; go_simp; with_reducible rfl); (· simp only [nrm]; rfl)
            refine pu_ (v := ?_) (a' := ?_) 7 (some 96) 255 rfl rfl HT_ (by kernel_rfl) (.inl ⟨by rfl, ?_⟩) ?_ ?_; rotate_left 2; (· intro w'; go_simp; with_reducible rfl); (· simp only [nrm]; rfl)
            refine pu_ (v := ?_) (a' := ?_) 8 (some 97) 511 rfl rfl HT_ (by kernel_rfl) (.inl ⟨by rfl, ?_⟩) ?_ ?_; rotate_left 2; (· intro w'; go_simp; with_reducible rfl); (· simp only [nrm]; rfl)
            refine pu_ (v := ?_) (a' := ?_) 9 (some 98) 1023 rfl rfl HT_ (by kernel_rfl) (.inl ⟨by rfl, ?_⟩) ?_ ?_; rotate_left 2; (· intro w'; go_simp; with_reducible rfl); (· simp only [nrm]; rfl)
            refine tk_ (v := ?_) (a' := ?_) 10 (some 99) 2047 rfl rfl HT_ HW_ (by kernel_rfl) (.inl ⟨by rfl, ?_⟩) hHeld ?_ ?_; rotate_left 2; (· rintro w' ⟨_, _, _, _, _, _, _, _⟩; go_simp; with_reducible rfl); (· simp only [nrm]; rfl)
            refine pu_ (v := ?_) (a' := ?_) 11 (some 100) 4095 rfl rfl HT_ (by kernel_rfl) (.inl ⟨by rfl, ?_⟩) ?_ ?_; rotate_left 2; (· intro w'; go_simp; with_reducible rfl); (· simp only [nrm]; rfl)
            refine pu_ (v := ?_) (a' := ?_) 13 (some 102) 12287 rfl rfl HT_ (by kernel_rfl) (.inl ⟨by rfl, ?_⟩) ?_ ?_; rotate_left 2; (· intro w'; go_simp; with_reducible rfl); (· simp only [nrm]; rfl)
            refine on_ 12 (some 101) 16383 rfl rfl HT_ (by kernel_rfl) (by decide) (fun K hK => ?_)
            refine goes_ Tryd.func33 (by kernel_rfl) rfl #[.agg #[.int .i64 ((P : Int) + 1), .int .i64 ((T : Int) + 1), .int .i64 1, .int .i64 64, .int .i64 (22 + 6 * (T : Int)), .int .i64 (128 + 64 * (P : Int))], .int .i64 (i : Int)] (by rfl) rfl rfl (by (try simp only [List.map_toArray, List.map_cons, List.map_nil]); first | done | rfl) ?_
            refine (windrowref06_Map_PageEntry.calls _ _ _ _ _ _ _ _ _ HPE.out).mono ?_
            rintro e w2 ⟨rfl, hb⟩
            replace H := Aside.mk (H.out.step hb)
            clear hb
            refine ⟨_, rfl, ?_⟩
            refine hK.out _ _ ⟨H.out.cell 3, H.out.cell 4, H.out.cell 5, H.out.cell 6, H.out.cell 7, H.out.cell 8, H.out.cell 10, (H.out.pick 1 rfl).cell 0⟩ (fun hHeld => ?_)
            clear hK K
            refine norm_ (a' := ?_) ?_ ?_
            rotate_left
            · show Act.put _ (some 101) _ = _
              simp only [nrm]
              rfl
            refine pu_ (v := ?_) (a' := ?_) 14 (some 103) 32767 rfl rfl HT_ (by kernel_rfl) (.inl ⟨by rfl, ?_⟩) ?_ ?_; rotate_left 2; (· intro w'; go_simp; with_reducible rfl); (· simp only [nrm]; rfl)
            refine on_ 15 (none) 65535 rfl rfl HT_ (by kernel_rfl) (by decide) (fun K hK => ?_)
            refine skip_ (by rfl) rfl (st_run_store (g := gD) (off := j0) (seg := [.int .u64 (pw)]) rfl rfl rfl rfl (by rw [U_size]; exact HK0.out) (by simp [Value.oneCell']) (H.out.pick 2 rfl)) ?_
            have h8 := (H.out.pick 2 rfl).setCells j0 [.int .u64 (pw)] (by rw [U_size]; exact HK0.out)
            generalize World.setCells _ _ _ _ = w10 at h8 ⊢
            replace H : Aside (St w w10 (FL1 P T x d gD a gC (X.set j0 pw))) := Aside.mk ((put_U HK0.out h8).order 3 [1, 2, 0] rfl rfl)
            clear h8
            refine hK.out _ _ ⟨H.out.cell 3, H.out.cell 4, H.out.cell 5, H.out.cell 6, H.out.cell 7, H.out.cell 8, H.out.cell 10, (H.out.pick 1 rfl).cell 0⟩ (fun hHeld => ?_)
            clear hK K
            refine done_ (done_of HT_.out (by kernel_rfl)) ?_
            clear HT_ HW_ hHeld
            clear e5
            go_wp2_with fail
            replace H := Aside.mk H.out.drew
            refine start_ (n := 20) (S := fun w' => w'.cell? ⟨x, 3, none⟩ = some (.int .i64 ((P : Int) + 1)) ∧ w'.cell? ⟨x, 4, none⟩ = some (.int .i64 ((T : Int) + 1)) ∧ w'.cell? ⟨x, 5, none⟩ = some (.int .i64 1) ∧ w'.cell? ⟨x, 6, none⟩ = some (.int .i64 64) ∧ w'.cell? ⟨x, 7, none⟩ = some (.int .i64 (22 + 6 * (T : Int))) ∧ w'.cell? ⟨x, 8, none⟩ = some (.int .i64 (128 + 64 * (P : Int))) ∧ w'.cell? ⟨x, 10, none⟩ = some (.pointer (some ⟨d, 0, none⟩)) ∧ w'.cell? ⟨d, 0, none⟩ = some (.slice (some ⟨gD, 0, none⟩) (128 + 64 * P) (128 + 64 * P)) ∧ w'.cell? ⟨(ad.add (i * 8)).block, (ad.add (i * 8)).off + 6, none⟩ = some (.int .u64 g6)) (ds := []) (flg 20 0) (by kernel_rfl) rfl rfl (⟨H.out.cell 3, H.out.cell 4, H.out.cell 5, H.out.cell 6, H.out.cell 7, H.out.cell 8, H.out.cell 10, (H.out.pick 1 rfl).cell 0, pw_cell_below H.out.below HC6.out⟩) (fun hHeld => ?_)
            refine with_tabW ly.tab15 ly.bits15 (fun HT_ HW_ => ?_)
            refine pu_ (v := ?_) (a' := ?_) 0 (some 104) 1 rfl rfl HT_ (by kernel_rfl) (.inl ⟨by rfl, ?_⟩) ?_ ?_; rotate_left 2; (· intro w'; go_simp; with_reducible rfl); (· simp only [nrm]; rfl)
            refine pu_ (v := ?_) (a' := ?_) 1 (some 105) 3 rfl rfl HT_ (by kernel_rfl) (.inl ⟨by rfl, ?_⟩) ?_ ?_; rotate_left 2; (· intro w'; go_simp; with_reducible rfl); (· simp only [nrm]; rfl)
            refine pu_ (v := ?_) (a' := ?_) 2 (some 106) 7 rfl rfl HT_ (by kernel_rfl) (.inl ⟨by rfl, ?_⟩) ?_ ?_; rotate_left 2; (· intro w'; go_simp; with_reducible rfl); (· simp only [nrm]; rfl)
            refine tk_ (v := ?_) (a' := ?_) 3 (some 107) 15 rfl rfl HT_ HW_ (by kernel_rfl) (.inl ⟨by rfl, ?_⟩) hHeld ?_ ?_; rotate_left 2; (· rintro w' ⟨_, _, _, _, _, _, _, _, _⟩; go_simp; with_reducible rfl); (· simp only [nrm]; rfl)
            refine pu_ (v := ?_) (a' := ?_) 4 (some 108) 31 rfl rfl HT_ (by kernel_rfl) (.inl ⟨by rfl, ?_⟩) ?_ ?_; rotate_left 2; (· intro w'; go_simp; with_reducible rfl); (· simp only [nrm]; rfl)
            refine pu_ (v := ?_) (a' := ?_) 5 (some 109) 63 rfl rfl HT_ (by kernel_rfl) (.inl ⟨by rfl, ?_⟩) ?_ ?_; rotate_left 2; (· intro w'; go_simp; with_reducible rfl); (· simp only [nrm]; rfl)
            refine tk_ (v := ?_) (a' := ?_) 6 (some 110) 127 rfl rfl HT_ HW_ (by kernel_rfl) (.inl ⟨by rfl, ?_⟩) hHeld ?_ ?_; rotate_left 2; (· rintro w' ⟨_, _, _, _, _, _, _, _, _⟩; go_simp; with_reducible rfl); (· simp only [nrm]; rfl)
            refine pu_ (v := ?_) (a' := ?_) 7 (some 111) 255 rfl rfl HT_ (by kernel_rfl) (.inl ⟨by rfl, ?_⟩) ?_ ?_; rotate_left 2; (· intro w'; go_simp; with_reducible rfl); (· simp only [nrm]; rfl)
            refine pu_ (v := ?_) (a' := ?_) 8 (some 112) 511 rfl rfl HT_ (by kernel_rfl) (.inl ⟨by rfl, ?_⟩) ?_ ?_; rotate_left 2; (· intro w'; go_simp; with_reducible rfl); (· simp only [nrm]; rfl)
            refine pu_ (v := ?_) (a' := ?_) 9 (some 113) 1023 rfl rfl HT_ (by kernel_rfl) (.inl ⟨by rfl, ?_⟩) ?_ ?_; rotate_left 2; (· intro w'; go_simp; with_reducible rfl); (· simp only [nrm]; rfl)
            refine tk_ (v := ?_) (a' := ?_) 10 (some 114) 2047 rfl rfl HT_ HW_ (by kernel_rfl) (.inl ⟨by rfl, ?_⟩) hHeld ?_ ?_; rotate_left 2; (· rintro w' ⟨_, _, _, _, _, _, _, _, _⟩; go_simp; with_reducible rfl); (· simp only [nrm]; rfl)
            refine pu_ (v := ?_) (a' := ?_) 11 (some 115) 4095 rfl rfl HT_ (by kernel_rfl) (.inl ⟨by rfl, ?_⟩) ?_ ?_; rotate_left 2; (· intro w'; go_simp; with_reducible rfl); (· simp only [nrm]; rfl)
            refine pu_ (v := ?_) (a' := ?_) 13 (some 117) 12287 rfl rfl HT_ (by kernel_rfl) (.inl ⟨by rfl, ?_⟩) ?_ ?_; rotate_left 2; (· intro w'; go_simp; with_reducible rfl); (· simp only [nrm]; rfl)
            refine pu_ (v := ?_) (a' := ?_) 14 (some 118) 28671 rfl rfl HT_ (by kernel_rfl) (.inl ⟨by rfl, ?_⟩) ?_ ?_; rotate_left 2; (· intro w'; go_simp; with_reducible rfl); (· simp only [nrm]; rfl)
            refine pu_ (v := ?_) (a' := ?_) 15 (some 119) 61439 rfl rfl HT_ (by kernel_rfl) (.inl ⟨by rfl, ?_⟩) ?_ ?_; rotate_left 2; (· intro w'; go_simp; with_reducible rfl); (· simp only [nrm]; rfl)
            refine pu_ (v := ?_) (a' := ?_) 16 (some 120) 126975 rfl rfl HT_ (by kernel_rfl) (.inl ⟨by rfl, ?_⟩) ?_ ?_; rotate_left 2; (· intro w'; go_simp; with_reducible rfl); (· simp only [nrm]; rfl)
            refine tk_ (v := ?_) (a' := ?_) 17 (some 121) 258047 rfl rfl HT_ HW_ (by kernel_rfl) (.inl ⟨by rfl, ?_⟩) hHeld ?_ ?_; rotate_left 2; (· rintro w' ⟨_, _, _, _, _, _, _, _, _⟩; go_simp; with_reducible rfl); (· simp only [nrm]; rfl)
            refine on_ 12 (some 116) 262143 rfl rfl HT_ (by kernel_rfl) (by decide) (fun K hK => ?_)
            refine goes_ Tryd.func36 (by kernel_rfl) rfl #[.agg #[.int .i64 ((P : Int) + 1), .int .i64 ((T : Int) + 1), .int .i64 1, .int .i64 64, .int .i64 (22 + 6 * (T : Int)), .int .i64 (128 + 64 * (P : Int))], .int .i64 (i : Int)] (by rfl) rfl rfl (by (try simp only [List.map_toArray, List.map_cons, List.map_nil]); first | done | rfl) ?_
            refine (windrowref06_Map_Alloc.calls _ _ _ _ _ _ _ _ _ HPA.out).mono ?_
            rintro e w2 ⟨rfl, hb⟩
            replace H := Aside.mk (H.out.step hb)
            clear hb
            refine ⟨_, rfl, ?_⟩
            refine hK.out _ _ ⟨H.out.cell 3, H.out.cell 4, H.out.cell 5, H.out.cell 6, H.out.cell 7, H.out.cell 8, H.out.cell 10, (H.out.pick 1 rfl).cell 0, pw_cell_below H.out.below HC6.out⟩ (fun hHeld => ?_)
            clear hK K
            refine norm_ (a' := ?_) ?_ ?_
            rotate_left
            · show Act.put _ (some 116) _ = _
              simp only [nrm]
              rfl
            refine pu_ (v := ?_) (a' := ?_) 18 (some 122) 524287 rfl rfl HT_ (by kernel_rfl) (.inl ⟨by rfl, ?_⟩) ?_ ?_; rotate_left 2; (· intro w'; go_simp; with_reducible rfl); (· simp only [nrm]; rfl)
            refine on_ 19 (none) 1048575 rfl rfl HT_ (by kernel_rfl) (by decide) (fun K hK => ?_)
            refine skip_ (by rfl) rfl (st_run_store (g := gD) (off := j1) (seg := [.int .u64 (g6)]) rfl rfl rfl rfl (by rw [U_size]; exact HK1.out) (by simp [Value.oneCell']) (H.out.pick 2 rfl)) ?_
            have h8 := (H.out.pick 2 rfl).setCells j1 [.int .u64 (g6)] (by rw [U_size]; exact HK1.out)
            generalize World.setCells _ _ _ _ = w11 at h8 ⊢
            replace H : Aside (St w w11 (FL1 P T x d gD a gC ((X.set j0 pw).set j1 g6))) := Aside.mk ((put_U HK1.out h8).order 3 [1, 2, 0] rfl rfl)
            clear h8
            refine hK.out _ _ ⟨H.out.cell 3, H.out.cell 4, H.out.cell 5, H.out.cell 6, H.out.cell 7, H.out.cell 8, H.out.cell 10, (H.out.pick 1 rfl).cell 0, pw_cell_below H.out.below HC6.out⟩ (fun hHeld => ?_)
            clear hK K
            refine done_ (done_of HT_.out (by kernel_rfl)) ?_
            clear HT_ HW_ hHeld
            go_wp2_with fail
            replace H := Aside.mk H.out.drew
            refine start_ (n := 20) (S := fun w' => w'.cell? ⟨x, 3, none⟩ = some (.int .i64 ((P : Int) + 1)) ∧ w'.cell? ⟨x, 4, none⟩ = some (.int .i64 ((T : Int) + 1)) ∧ w'.cell? ⟨x, 5, none⟩ = some (.int .i64 1) ∧ w'.cell? ⟨x, 6, none⟩ = some (.int .i64 64) ∧ w'.cell? ⟨x, 7, none⟩ = some (.int .i64 (22 + 6 * (T : Int))) ∧ w'.cell? ⟨x, 8, none⟩ = some (.int .i64 (128 + 64 * (P : Int))) ∧ w'.cell? ⟨x, 10, none⟩ = some (.pointer (some ⟨d, 0, none⟩)) ∧ w'.cell? ⟨d, 0, none⟩ = some (.slice (some ⟨gD, 0, none⟩) (128 + 64 * P) (128 + 64 * P)) ∧ w'.cell? ⟨(ad.add (i * 8)).block, (ad.add (i * 8)).off + 7, none⟩ = some (.int .u64 g7)) (ds := []) (flg 20 0) (by kernel_rfl) rfl rfl (⟨H.out.cell 3, H.out.cell 4, H.out.cell 5, H.out.cell 6, H.out.cell 7, H.out.cell 8, H.out.cell 10, (H.out.pick 1 rfl).cell 0, pw_cell_below H.out.below HC7.out⟩) (fun hHeld => ?_)
            refine with_tabW ly.tab16 ly.bits16 (fun HT_ HW_ => ?_)
            refine pu_ (v := ?_) (a' := ?_) 0 (some 123) 1 rfl rfl HT_ (by kernel_rfl) (.inl ⟨by rfl, ?_⟩) ?_ ?_; rotate_left 2; (· intro w'; go_simp; with_reducible rfl); (· simp only [nrm]; rfl)
            refine pu_ (v := ?_) (a' := ?_) 1 (some 124) 3 rfl rfl HT_ (by kernel_rfl) (.inl ⟨by rfl, ?_⟩) ?_ ?_; rotate_left 2; (· intro w'; go_simp; with_reducible rfl); (· simp only [nrm]; rfl)
            refine pu_ (v := ?_) (a' := ?_) 2 (some 125) 7 rfl rfl HT_ (by kernel_rfl) (.inl ⟨by rfl, ?_⟩) ?_ ?_; rotate_left 2; (· intro w'; go_simp; with_reducible rfl); (· simp only [nrm]; rfl)
            refine tk_ (v := ?_) (a' := ?_) 3 (some 126) 15 rfl rfl HT_ HW_ (by kernel_rfl) (.inl ⟨by rfl, ?_⟩) hHeld ?_ ?_; rotate_left 2; (· rintro w' ⟨_, _, _, _, _, _, _, _, _⟩; go_simp; with_reducible rfl); (· simp only [nrm]; rfl)
            refine pu_ (v := ?_) (a' := ?_) 4 (some 127) 31 rfl rfl HT_ (by kernel_rfl) (.inl ⟨by rfl, ?_⟩) ?_ ?_; rotate_left 2; (· intro w'; go_simp; with_reducible rfl); (· simp only [nrm]; rfl)
            refine pu_ (v := ?_) (a' := ?_) 5 (some 128) 63 rfl rfl HT_ (by kernel_rfl) (.inl ⟨by rfl, ?_⟩) ?_ ?_; rotate_left 2; (· intro w'; go_simp; with_reducible rfl); (· simp only [nrm]; rfl)
            refine tk_ (v := ?_) (a' := ?_) 6 (some 129) 127 rfl rfl HT_ HW_ (by kernel_rfl) (.inl ⟨by rfl, ?_⟩) hHeld ?_ ?_; rotate_left 2; (· rintro w' ⟨_, _, _, _, _, _, _, _, _⟩; go_simp; with_reducible rfl); (· simp only [nrm]; rfl)
            refine pu_ (v := ?_) (a' := ?_) 7 (some 130) 255 rfl rfl HT_ (by kernel_rfl) (.inl ⟨by rfl, ?_⟩) ?_ ?_; rotate_left 2; (· intro w'; go_simp; with_reducible rfl); (· simp only [nrm]; rfl)
            refine pu_ (v := ?_) (a' := ?_) 8 (some 131) 511 rfl rfl HT_ (by kernel_rfl) (.inl ⟨by rfl, ?_⟩) ?_ ?_; rotate_left 2; (· intro w'; go_simp; with_reducible rfl); (· simp only [nrm]; rfl)
            refine pu_ (v := ?_) (a' := ?_) 9 (some 132) 1023 rfl rfl HT_ (by kernel_rfl) (.inl ⟨by rfl, ?_⟩) ?_ ?_; rotate_left 2; (· intro w'; go_simp; with_reducible rfl); (· simp only [nrm]; rfl)
            refine tk_ (v := ?_) (a' := ?_) 10 (some 133) 2047 rfl rfl HT_ HW_ (by kernel_rfl) (.inl ⟨by rfl, ?_⟩) hHeld ?_ ?_; rotate_left 2; (· rintro w' ⟨_, _, _, _, _, _, _, _, _⟩; go_simp; with_reducible rfl); (· simp only [nrm]; rfl)
            refine pu_ (v := ?_) (a' := ?_) 11 (some 134) 4095 rfl rfl HT_ (by kernel_rfl) (.inl ⟨by rfl, ?_⟩) ?_ ?_; rotate_left 2; (· intro w'; go_simp; with_reducible rfl); (· simp only [nrm]; rfl)
            refine pu_ (v := ?_) (a' := ?_) 13 (some 136) 12287 rfl rfl HT_ (by kernel_rfl) (.inl ⟨by rfl, ?_⟩) ?_ ?_; rotate_left 2; (· intro w'; go_simp; with_reducible rfl); (· simp only [nrm]; rfl)
            refine pu_ (v := ?_) (a' := ?_) 14 (some 137) 28671 rfl rfl HT_ (by kernel_rfl) (.inl ⟨by rfl, ?_⟩) ?_ ?_; rotate_left 2; (· intro w'; go_simp; with_reducible rfl); (· simp only [nrm]; rfl)
            refine pu_ (v := ?_) (a' := ?_) 15 (some 138) 61439 rfl rfl HT_ (by kernel_rfl) (.inl ⟨by rfl, ?_⟩) ?_ ?_; rotate_left 2; (· intro w'; go_simp; with_reducible rfl); (· simp only [nrm]; rfl)
            refine pu_ (v := ?_) (a' := ?_) 16 (some 139) 126975 rfl rfl HT_ (by kernel_rfl) (.inl ⟨by rfl, ?_⟩) ?_ ?_; rotate_left 2; (· intro w'; go_simp; with_reducible rfl); (· simp only [nrm]; rfl)
            refine tk_ (v := ?_) (a' := ?_) 17 (some 140) 258047 rfl rfl HT_ HW_ (by kernel_rfl) (.inl ⟨by rfl, ?_⟩) hHeld ?_ ?_; rotate_left 2; (· rintro w' ⟨_, _, _, _, _, _, _, _, _⟩; go_simp; with_reducible rfl); (· simp only [nrm]; rfl)
            refine on_ 12 (some 135) 262143 rfl rfl HT_ (by kernel_rfl) (by decide) (fun K hK => ?_)
            refine goes_ Tryd.func109 (by kernel_rfl) rfl #[.agg #[.int .i64 ((P : Int) + 1), .int .i64 ((T : Int) + 1), .int .i64 1, .int .i64 64, .int .i64 (22 + 6 * (T : Int)), .int .i64 (128 + 64 * (P : Int))], .int .i64 (i : Int)] (by rfl) rfl rfl (by (try simp only [List.map_toArray, List.map_cons, List.map_nil]); first | done | rfl) ?_
            refine (windrowref06_Map_Mark.calls _ _ _ _ _ _ _ _ _ HPM.out).mono ?_
            rintro e w2 ⟨rfl, hb⟩
            replace H := Aside.mk (H.out.step hb)
            clear hb
            refine ⟨_, rfl, ?_⟩
            refine hK.out _ _ ⟨H.out.cell 3, H.out.cell 4, H.out.cell 5, H.out.cell 6, H.out.cell 7, H.out.cell 8, H.out.cell 10, (H.out.pick 1 rfl).cell 0, pw_cell_below H.out.below HC7.out⟩ (fun hHeld => ?_)
            clear hK K
            refine norm_ (a' := ?_) ?_ ?_
            rotate_left
            · show Act.put _ (some 135) _ = _
              simp only [nrm]
              rfl
            refine pu_ (v := ?_) (a' := ?_) 18 (some 141) 524287 rfl rfl HT_ (by kernel_rfl) (.inl ⟨by rfl, ?_⟩) ?_ ?_; rotate_left 2; (· intro w'; go_simp; with_reducible rfl); (· simp only [nrm]; rfl)
            refine on_ 19 (none) 1048575 rfl rfl HT_ (by kernel_rfl) (by decide) (fun K hK => ?_)
            refine skip_ (by rfl) rfl (st_run_store (g := gD) (off := j2) (seg := [.int .u64 (g7)]) rfl rfl rfl rfl (by rw [U_size]; exact HK2.out) (by simp [Value.oneCell']) (H.out.pick 2 rfl)) ?_
            have h8 := (H.out.pick 2 rfl).setCells j2 [.int .u64 (g7)] (by rw [U_size]; exact HK2.out)
            generalize World.setCells _ _ _ _ = w12 at h8 ⊢
            replace H : Aside (St w w12 (FL1 P T x d gD a gC (((X.set j0 pw).set j1 g6).set j2 g7))) := Aside.mk ((put_U HK2.out h8).order 3 [1, 2, 0] rfl rfl)
            clear h8
            refine hK.out _ _ ⟨H.out.cell 3, H.out.cell 4, H.out.cell 5, H.out.cell 6, H.out.cell 7, H.out.cell 8, H.out.cell 10, (H.out.pick 1 rfl).cell 0, pw_cell_below H.out.below HC7.out⟩ (fun hHeld => ?_)
            clear hK K
            refine done_ (done_of HT_.out (by kernel_rfl)) ?_
            clear HT_ HW_ hHeld
            go_wp2
            go_roundg (P + 1 - (i + 1))
            case measure => have := HHI.out; omega
            case rel => exact ⟨i + 1, rfl, HHI.out, by omega, by have := HP.out; have := HHI.out; rw [w_of ((i : Int) + 1) (by omega) (by omega)]; rfl, ((X.set j0 pw).set j1 g6).set j2 g7, ⟨by rw [← HE.out, HD.out, layX, if_pos HHI.out, HFX.out]⟩, ⟨by simp [HXL.out]⟩, H⟩

          · have h5b : (g5 != 0) = true := by simp [h5]
            replace HGP := HGP.out
            rw [if_neg h5] at HGP
            subst HGP
            clear h5 key
            go_wp2_with (go_at_call 32; refine (windrowref02_EncodeEntry.calls _ _ _ _ _ _ _ _ _ HENC.out).mono ?_; rintro e w9 ⟨rfl, hb⟩; replace H := Aside.mk (H.out.step hb); clear hb x0 e0 e1 e2 e3 e4; have e5 := pw_cell_below H.out.below HC5.out)
            replace H := Aside.mk H.out.drew
            refine start_ (n := 16) (S := fun w' => w'.cell? ⟨x, 3, none⟩ = some (.int .i64 ((P : Int) + 1)) ∧ w'.cell? ⟨x, 4, none⟩ = some (.int .i64 ((T : Int) + 1)) ∧ w'.cell? ⟨x, 5, none⟩ = some (.int .i64 1) ∧ w'.cell? ⟨x, 6, none⟩ = some (.int .i64 64) ∧ w'.cell? ⟨x, 7, none⟩ = some (.int .i64 (22 + 6 * (T : Int))) ∧ w'.cell? ⟨x, 8, none⟩ = some (.int .i64 (128 + 64 * (P : Int))) ∧ w'.cell? ⟨x, 10, none⟩ = some (.pointer (some ⟨d, 0, none⟩)) ∧ w'.cell? ⟨d, 0, none⟩ = some (.slice (some ⟨gD, 0, none⟩) (128 + 64 * P) (128 + 64 * P))) (ds := []) (flg 16 0) (by kernel_rfl) rfl rfl (⟨H.out.cell 3, H.out.cell 4, H.out.cell 5, H.out.cell 6, H.out.cell 7, H.out.cell 8, H.out.cell 10, (H.out.pick 1 rfl).cell 0⟩) (fun hHeld => ?_)
            refine with_tabW ly.tab14 ly.bits14 (fun HT_ HW_ => ?_)
            refine pu_ (v := ?_) (a' := ?_) 0 (some 89) 1 rfl rfl HT_ (by kernel_rfl) (.inl ⟨by rfl, ?_⟩) ?_ ?_; rotate_left 2; (· intro w'; go_simp; with_reducible rfl); (· simp only [nrm]; rfl)
            refine pu_ (v := ?_) (a' := ?_) 1 (some 90) 3 rfl rfl HT_ (by kernel_rfl) (.inl ⟨by rfl, ?_⟩) ?_ ?_; rotate_left 2; (· intro w'; go_simp; with_reducible rfl); (· simp only [nrm]; rfl)
            refine pu_ (v := ?_) (a' := ?_) 2 (some 91) 7 rfl rfl HT_ (by kernel_rfl) (.inl ⟨by rfl, ?_⟩) ?_ ?_; rotate_left 2; (· intro w'; go_simp; with_reducible rfl); (· simp only [nrm]; rfl)
            refine tk_ (v := ?_) (a' := ?_) 3 (some 92) 15 rfl rfl HT_ HW_ (by kernel_rfl) (.inl ⟨by rfl, ?_⟩) hHeld ?_ ?_; rotate_left 2; (· rintro w' ⟨_, _, _, _, _, _, _, _⟩; go_simp; with_reducible rfl); (· simp only [nrm]; rfl)
            refine pu_ (v := ?_) (a' := ?_) 4 (some 93) 31 rfl rfl HT_ (by kernel_rfl) (.inl ⟨by rfl, ?_⟩) ?_ ?_; rotate_left 2; (· intro w'; go_simp; with_reducible rfl); (· simp only [nrm]; rfl)
            refine pu_ (v := ?_) (a' := ?_) 5 (some 94) 63 rfl rfl HT_ (by kernel_rfl) (.inl ⟨by rfl, ?_⟩) ?_ ?_; rotate_left 2; (· intro w'; go_simp; with_reducible rfl); (· simp only [nrm]; rfl)
            refine tk_ (v := ?_) (a' := ?_) 6 (some 95) 127 rfl rfl HT_ HW_ (by kernel_rfl) (.inl ⟨by rfl, ?_⟩) hHeld ?_ ?_; rotate_left 2; (· rintro w' ⟨_, _, _, _, _, _, _, _⟩; go_simp; with_reducible rfl); (· simp only [nrm]; rfl)
            refine pu_ (v := ?_) (a' := ?_) 7 (some 96) 255 rfl rfl HT_ (by kernel_rfl) (.inl ⟨by rfl, ?_⟩) ?_ ?_; rotate_left 2; (· intro w'; go_simp; with_reducible rfl); (· simp only [nrm]; rfl)
            refine pu_ (v := ?_) (a' := ?_) 8 (some 97) 511 rfl rfl HT_ (by kernel_rfl) (.inl ⟨by rfl, ?_⟩) ?_ ?_; rotate_left 2; (· intro w'; go_simp; with_reducible rfl); (· simp only [nrm]; rfl)
            refine pu_ (v := ?_) (a' := ?_) 9 (some 98) 1023 rfl rfl HT_ (by kernel_rfl) (.inl ⟨by rfl, ?_⟩) ?_ ?_; rotate_left 2; (· intro w'; go_simp; with_reducible rfl); (· simp only [nrm]; rfl)
            refine tk_ (v := ?_) (a' := ?_) 10 (some 99) 2047 rfl rfl HT_ HW_ (by kernel_rfl) (.inl ⟨by rfl, ?_⟩) hHeld ?_ ?_; rotate_left 2; (· rintro w' ⟨_, _, _, _, _, _, _, _⟩; go_simp; with_reducible rfl); (· simp only [nrm]; rfl)
            refine pu_ (v := ?_) (a' := ?_) 11 (some 100) 4095 rfl rfl HT_ (by kernel_rfl) (.inl ⟨by rfl, ?_⟩) ?_ ?_; rotate_left 2; (· intro w'; go_simp; with_reducible rfl); (· simp only [nrm]; rfl)
            refine pu_ (v := ?_) (a' := ?_) 13 (some 102) 12287 rfl rfl HT_ (by kernel_rfl) (.inl ⟨by rfl, ?_⟩) ?_ ?_; rotate_left 2; (· intro w'; go_simp; with_reducible rfl); (· simp only [nrm]; rfl)
            refine on_ 12 (some 101) 16383 rfl rfl HT_ (by kernel_rfl) (by decide) (fun K hK => ?_)
            refine goes_ Tryd.func33 (by kernel_rfl) rfl #[.agg #[.int .i64 ((P : Int) + 1), .int .i64 ((T : Int) + 1), .int .i64 1, .int .i64 64, .int .i64 (22 + 6 * (T : Int)), .int .i64 (128 + 64 * (P : Int))], .int .i64 (i : Int)] (by rfl) rfl rfl (by (try simp only [List.map_toArray, List.map_cons, List.map_nil]); first | done | rfl) ?_
            refine (windrowref06_Map_PageEntry.calls _ _ _ _ _ _ _ _ _ HPE.out).mono ?_
            rintro e w2 ⟨rfl, hb⟩
            replace H := Aside.mk (H.out.step hb)
            clear hb
            refine ⟨_, rfl, ?_⟩
            refine hK.out _ _ ⟨H.out.cell 3, H.out.cell 4, H.out.cell 5, H.out.cell 6, H.out.cell 7, H.out.cell 8, H.out.cell 10, (H.out.pick 1 rfl).cell 0⟩ (fun hHeld => ?_)
            clear hK K
            refine norm_ (a' := ?_) ?_ ?_
            rotate_left
            · show Act.put _ (some 101) _ = _
              simp only [nrm]
              rfl
            refine pu_ (v := ?_) (a' := ?_) 14 (some 103) 32767 rfl rfl HT_ (by kernel_rfl) (.inl ⟨by rfl, ?_⟩) ?_ ?_; rotate_left 2; (· intro w'; go_simp; with_reducible rfl); (· simp only [nrm]; rfl)
            refine on_ 15 (none) 65535 rfl rfl HT_ (by kernel_rfl) (by decide) (fun K hK => ?_)
            refine skip_ (by rfl) rfl (st_run_store (g := gD) (off := j0) (seg := [.int .u64 (pw)]) rfl rfl rfl rfl (by rw [U_size]; exact HK0.out) (by simp [Value.oneCell']) (H.out.pick 2 rfl)) ?_
            have h8 := (H.out.pick 2 rfl).setCells j0 [.int .u64 (pw)] (by rw [U_size]; exact HK0.out)
            generalize World.setCells _ _ _ _ = w10 at h8 ⊢
            replace H : Aside (St w w10 (FL1 P T x d gD a gC (X.set j0 pw))) := Aside.mk ((put_U HK0.out h8).order 3 [1, 2, 0] rfl rfl)
            clear h8
            refine hK.out _ _ ⟨H.out.cell 3, H.out.cell 4, H.out.cell 5, H.out.cell 6, H.out.cell 7, H.out.cell 8, H.out.cell 10, (H.out.pick 1 rfl).cell 0⟩ (fun hHeld => ?_)
            clear hK K
            refine done_ (done_of HT_.out (by kernel_rfl)) ?_
            clear HT_ HW_ hHeld
            clear e5
            go_wp2_with fail
            replace H := Aside.mk H.out.drew
            refine start_ (n := 20) (S := fun w' => w'.cell? ⟨x, 3, none⟩ = some (.int .i64 ((P : Int) + 1)) ∧ w'.cell? ⟨x, 4, none⟩ = some (.int .i64 ((T : Int) + 1)) ∧ w'.cell? ⟨x, 5, none⟩ = some (.int .i64 1) ∧ w'.cell? ⟨x, 6, none⟩ = some (.int .i64 64) ∧ w'.cell? ⟨x, 7, none⟩ = some (.int .i64 (22 + 6 * (T : Int))) ∧ w'.cell? ⟨x, 8, none⟩ = some (.int .i64 (128 + 64 * (P : Int))) ∧ w'.cell? ⟨x, 10, none⟩ = some (.pointer (some ⟨d, 0, none⟩)) ∧ w'.cell? ⟨d, 0, none⟩ = some (.slice (some ⟨gD, 0, none⟩) (128 + 64 * P) (128 + 64 * P)) ∧ w'.cell? ⟨(ad.add (i * 8)).block, (ad.add (i * 8)).off + 6, none⟩ = some (.int .u64 g6)) (ds := []) (flg 20 0) (by kernel_rfl) rfl rfl (⟨H.out.cell 3, H.out.cell 4, H.out.cell 5, H.out.cell 6, H.out.cell 7, H.out.cell 8, H.out.cell 10, (H.out.pick 1 rfl).cell 0, pw_cell_below H.out.below HC6.out⟩) (fun hHeld => ?_)
            refine with_tabW ly.tab15 ly.bits15 (fun HT_ HW_ => ?_)
            refine pu_ (v := ?_) (a' := ?_) 0 (some 104) 1 rfl rfl HT_ (by kernel_rfl) (.inl ⟨by rfl, ?_⟩) ?_ ?_; rotate_left 2; (· intro w'; go_simp; with_reducible rfl); (· simp only [nrm]; rfl)
            refine pu_ (v := ?_) (a' := ?_) 1 (some 105) 3 rfl rfl HT_ (by kernel_rfl) (.inl ⟨by rfl, ?_⟩) ?_ ?_; rotate_left 2; (· intro w'; go_simp; with_reducible rfl); (· simp only [nrm]; rfl)
            refine pu_ (v := ?_) (a' := ?_) 2 (some 106) 7 rfl rfl HT_ (by kernel_rfl) (.inl ⟨by rfl, ?_⟩) ?_ ?_; rotate_left 2; (· intro w'; go_simp; with_reducible rfl); (· simp only [nrm]; rfl)
            refine tk_ (v := ?_) (a' := ?_) 3 (some 107) 15 rfl rfl HT_ HW_ (by kernel_rfl) (.inl ⟨by rfl, ?_⟩) hHeld ?_ ?_; rotate_left 2; (· rintro w' ⟨_, _, _, _, _, _, _, _, _⟩; go_simp; with_reducible rfl); (· simp only [nrm]; rfl)
            refine pu_ (v := ?_) (a' := ?_) 4 (some 108) 31 rfl rfl HT_ (by kernel_rfl) (.inl ⟨by rfl, ?_⟩) ?_ ?_; rotate_left 2; (· intro w'; go_simp; with_reducible rfl); (· simp only [nrm]; rfl)
            refine pu_ (v := ?_) (a' := ?_) 5 (some 109) 63 rfl rfl HT_ (by kernel_rfl) (.inl ⟨by rfl, ?_⟩) ?_ ?_; rotate_left 2; (· intro w'; go_simp; with_reducible rfl); (· simp only [nrm]; rfl)
            refine tk_ (v := ?_) (a' := ?_) 6 (some 110) 127 rfl rfl HT_ HW_ (by kernel_rfl) (.inl ⟨by rfl, ?_⟩) hHeld ?_ ?_; rotate_left 2; (· rintro w' ⟨_, _, _, _, _, _, _, _, _⟩; go_simp; with_reducible rfl); (· simp only [nrm]; rfl)
            refine pu_ (v := ?_) (a' := ?_) 7 (some 111) 255 rfl rfl HT_ (by kernel_rfl) (.inl ⟨by rfl, ?_⟩) ?_ ?_; rotate_left 2; (· intro w'; go_simp; with_reducible rfl); (· simp only [nrm]; rfl)
            refine pu_ (v := ?_) (a' := ?_) 8 (some 112) 511 rfl rfl HT_ (by kernel_rfl) (.inl ⟨by rfl, ?_⟩) ?_ ?_; rotate_left 2; (· intro w'; go_simp; with_reducible rfl); (· simp only [nrm]; rfl)
            refine pu_ (v := ?_) (a' := ?_) 9 (some 113) 1023 rfl rfl HT_ (by kernel_rfl) (.inl ⟨by rfl, ?_⟩) ?_ ?_; rotate_left 2; (· intro w'; go_simp; with_reducible rfl); (· simp only [nrm]; rfl)
            refine tk_ (v := ?_) (a' := ?_) 10 (some 114) 2047 rfl rfl HT_ HW_ (by kernel_rfl) (.inl ⟨by rfl, ?_⟩) hHeld ?_ ?_; rotate_left 2; (· rintro w' ⟨_, _, _, _, _, _, _, _, _⟩; go_simp; with_reducible rfl); (· simp only [nrm]; rfl)
            refine pu_ (v := ?_) (a' := ?_) 11 (some 115) 4095 rfl rfl HT_ (by kernel_rfl) (.inl ⟨by rfl, ?_⟩) ?_ ?_; rotate_left 2; (· intro w'; go_simp; with_reducible rfl); (· simp only [nrm]; rfl)
            refine pu_ (v := ?_) (a' := ?_) 13 (some 117) 12287 rfl rfl HT_ (by kernel_rfl) (.inl ⟨by rfl, ?_⟩) ?_ ?_; rotate_left 2; (· intro w'; go_simp; with_reducible rfl); (· simp only [nrm]; rfl)
            refine pu_ (v := ?_) (a' := ?_) 14 (some 118) 28671 rfl rfl HT_ (by kernel_rfl) (.inl ⟨by rfl, ?_⟩) ?_ ?_; rotate_left 2; (· intro w'; go_simp; with_reducible rfl); (· simp only [nrm]; rfl)
            refine pu_ (v := ?_) (a' := ?_) 15 (some 119) 61439 rfl rfl HT_ (by kernel_rfl) (.inl ⟨by rfl, ?_⟩) ?_ ?_; rotate_left 2; (· intro w'; go_simp; with_reducible rfl); (· simp only [nrm]; rfl)
            refine pu_ (v := ?_) (a' := ?_) 16 (some 120) 126975 rfl rfl HT_ (by kernel_rfl) (.inl ⟨by rfl, ?_⟩) ?_ ?_; rotate_left 2; (· intro w'; go_simp; with_reducible rfl); (· simp only [nrm]; rfl)
            refine tk_ (v := ?_) (a' := ?_) 17 (some 121) 258047 rfl rfl HT_ HW_ (by kernel_rfl) (.inl ⟨by rfl, ?_⟩) hHeld ?_ ?_; rotate_left 2; (· rintro w' ⟨_, _, _, _, _, _, _, _, _⟩; go_simp; with_reducible rfl); (· simp only [nrm]; rfl)
            refine on_ 12 (some 116) 262143 rfl rfl HT_ (by kernel_rfl) (by decide) (fun K hK => ?_)
            refine goes_ Tryd.func36 (by kernel_rfl) rfl #[.agg #[.int .i64 ((P : Int) + 1), .int .i64 ((T : Int) + 1), .int .i64 1, .int .i64 64, .int .i64 (22 + 6 * (T : Int)), .int .i64 (128 + 64 * (P : Int))], .int .i64 (i : Int)] (by rfl) rfl rfl (by (try simp only [List.map_toArray, List.map_cons, List.map_nil]); first | done | rfl) ?_
            refine (windrowref06_Map_Alloc.calls _ _ _ _ _ _ _ _ _ HPA.out).mono ?_
            rintro e w2 ⟨rfl, hb⟩
            replace H := Aside.mk (H.out.step hb)
            clear hb
            refine ⟨_, rfl, ?_⟩
            refine hK.out _ _ ⟨H.out.cell 3, H.out.cell 4, H.out.cell 5, H.out.cell 6, H.out.cell 7, H.out.cell 8, H.out.cell 10, (H.out.pick 1 rfl).cell 0, pw_cell_below H.out.below HC6.out⟩ (fun hHeld => ?_)
            clear hK K
            refine norm_ (a' := ?_) ?_ ?_
            rotate_left
            · show Act.put _ (some 116) _ = _
              simp only [nrm]
              rfl
            refine pu_ (v := ?_) (a' := ?_) 18 (some 122) 524287 rfl rfl HT_ (by kernel_rfl) (.inl ⟨by rfl, ?_⟩) ?_ ?_; rotate_left 2; (· intro w'; go_simp; with_reducible rfl); (· simp only [nrm]; rfl)
            refine on_ 19 (none) 1048575 rfl rfl HT_ (by kernel_rfl) (by decide) (fun K hK => ?_)
            refine skip_ (by rfl) rfl (st_run_store (g := gD) (off := j1) (seg := [.int .u64 (g6)]) rfl rfl rfl rfl (by rw [U_size]; exact HK1.out) (by simp [Value.oneCell']) (H.out.pick 2 rfl)) ?_
            have h8 := (H.out.pick 2 rfl).setCells j1 [.int .u64 (g6)] (by rw [U_size]; exact HK1.out)
            generalize World.setCells _ _ _ _ = w11 at h8 ⊢
            replace H : Aside (St w w11 (FL1 P T x d gD a gC ((X.set j0 pw).set j1 g6))) := Aside.mk ((put_U HK1.out h8).order 3 [1, 2, 0] rfl rfl)
            clear h8
            refine hK.out _ _ ⟨H.out.cell 3, H.out.cell 4, H.out.cell 5, H.out.cell 6, H.out.cell 7, H.out.cell 8, H.out.cell 10, (H.out.pick 1 rfl).cell 0, pw_cell_below H.out.below HC6.out⟩ (fun hHeld => ?_)
            clear hK K
            refine done_ (done_of HT_.out (by kernel_rfl)) ?_
            clear HT_ HW_ hHeld
            go_wp2_with fail
            replace H := Aside.mk H.out.drew
            refine start_ (n := 20) (S := fun w' => w'.cell? ⟨x, 3, none⟩ = some (.int .i64 ((P : Int) + 1)) ∧ w'.cell? ⟨x, 4, none⟩ = some (.int .i64 ((T : Int) + 1)) ∧ w'.cell? ⟨x, 5, none⟩ = some (.int .i64 1) ∧ w'.cell? ⟨x, 6, none⟩ = some (.int .i64 64) ∧ w'.cell? ⟨x, 7, none⟩ = some (.int .i64 (22 + 6 * (T : Int))) ∧ w'.cell? ⟨x, 8, none⟩ = some (.int .i64 (128 + 64 * (P : Int))) ∧ w'.cell? ⟨x, 10, none⟩ = some (.pointer (some ⟨d, 0, none⟩)) ∧ w'.cell? ⟨d, 0, none⟩ = some (.slice (some ⟨gD, 0, none⟩) (128 + 64 * P) (128 + 64 * P)) ∧ w'.cell? ⟨(ad.add (i * 8)).block, (ad.add (i * 8)).off + 7, none⟩ = some (.int .u64 g7)) (ds := []) (flg 20 0) (by kernel_rfl) rfl rfl (⟨H.out.cell 3, H.out.cell 4, H.out.cell 5, H.out.cell 6, H.out.cell 7, H.out.cell 8, H.out.cell 10, (H.out.pick 1 rfl).cell 0, pw_cell_below H.out.below HC7.out⟩) (fun hHeld => ?_)
            refine with_tabW ly.tab16 ly.bits16 (fun HT_ HW_ => ?_)
            refine pu_ (v := ?_) (a' := ?_) 0 (some 123) 1 rfl rfl HT_ (by kernel_rfl) (.inl ⟨by rfl, ?_⟩) ?_ ?_; rotate_left 2; (· intro w'; go_simp; with_reducible rfl); (· simp only [nrm]; rfl)
            refine pu_ (v := ?_) (a' := ?_) 1 (some 124) 3 rfl rfl HT_ (by kernel_rfl) (.inl ⟨by rfl, ?_⟩) ?_ ?_; rotate_left 2; (· intro w'; go_simp; with_reducible rfl); (· simp only [nrm]; rfl)
            refine pu_ (v := ?_) (a' := ?_) 2 (some 125) 7 rfl rfl HT_ (by kernel_rfl) (.inl ⟨by rfl, ?_⟩) ?_ ?_; rotate_left 2; (· intro w'; go_simp; with_reducible rfl); (· simp only [nrm]; rfl)
            refine tk_ (v := ?_) (a' := ?_) 3 (some 126) 15 rfl rfl HT_ HW_ (by kernel_rfl) (.inl ⟨by rfl, ?_⟩) hHeld ?_ ?_; rotate_left 2; (· rintro w' ⟨_, _, _, _, _, _, _, _, _⟩; go_simp; with_reducible rfl); (· simp only [nrm]; rfl)
            refine pu_ (v := ?_) (a' := ?_) 4 (some 127) 31 rfl rfl HT_ (by kernel_rfl) (.inl ⟨by rfl, ?_⟩) ?_ ?_; rotate_left 2; (· intro w'; go_simp; with_reducible rfl); (· simp only [nrm]; rfl)
            refine pu_ (v := ?_) (a' := ?_) 5 (some 128) 63 rfl rfl HT_ (by kernel_rfl) (.inl ⟨by rfl, ?_⟩) ?_ ?_; rotate_left 2; (· intro w'; go_simp; with_reducible rfl); (· simp only [nrm]; rfl)
            refine tk_ (v := ?_) (a' := ?_) 6 (some 129) 127 rfl rfl HT_ HW_ (by kernel_rfl) (.inl ⟨by rfl, ?_⟩) hHeld ?_ ?_; rotate_left 2; (· rintro w' ⟨_, _, _, _, _, _, _, _, _⟩; go_simp; with_reducible rfl); (· simp only [nrm]; rfl)
            refine pu_ (v := ?_) (a' := ?_) 7 (some 130) 255 rfl rfl HT_ (by kernel_rfl) (.inl ⟨by rfl, ?_⟩) ?_ ?_; rotate_left 2; (· intro w'; go_simp; with_reducible rfl); (· simp only [nrm]; rfl)
            refine pu_ (v := ?_) (a' := ?_) 8 (some 131) 511 rfl rfl HT_ (by kernel_rfl) (.inl ⟨by rfl, ?_⟩) ?_ ?_; rotate_left 2; (· intro w'; go_simp; with_reducible rfl); (· simp only [nrm]; rfl)
            refine pu_ (v := ?_) (a' := ?_) 9 (some 132) 1023 rfl rfl HT_ (by kernel_rfl) (.inl ⟨by rfl, ?_⟩) ?_ ?_; rotate_left 2; (· intro w'; go_simp; with_reducible rfl); (· simp only [nrm]; rfl)
            refine tk_ (v := ?_) (a' := ?_) 10 (some 133) 2047 rfl rfl HT_ HW_ (by kernel_rfl) (.inl ⟨by rfl, ?_⟩) hHeld ?_ ?_; rotate_left 2; (· rintro w' ⟨_, _, _, _, _, _, _, _, _⟩; go_simp; with_reducible rfl); (· simp only [nrm]; rfl)
            refine pu_ (v := ?_) (a' := ?_) 11 (some 134) 4095 rfl rfl HT_ (by kernel_rfl) (.inl ⟨by rfl, ?_⟩) ?_ ?_; rotate_left 2; (· intro w'; go_simp; with_reducible rfl); (· simp only [nrm]; rfl)
            refine pu_ (v := ?_) (a' := ?_) 13 (some 136) 12287 rfl rfl HT_ (by kernel_rfl) (.inl ⟨by rfl, ?_⟩) ?_ ?_; rotate_left 2; (· intro w'; go_simp; with_reducible rfl); (· simp only [nrm]; rfl)
            refine pu_ (v := ?_) (a' := ?_) 14 (some 137) 28671 rfl rfl HT_ (by kernel_rfl) (.inl ⟨by rfl, ?_⟩) ?_ ?_; rotate_left 2; (· intro w'; go_simp; with_reducible rfl); (· simp only [nrm]; rfl)
            refine pu_ (v := ?_) (a' := ?_) 15 (some 138) 61439 rfl rfl HT_ (by kernel_rfl) (.inl ⟨by rfl, ?_⟩) ?_ ?_; rotate_left 2; (· intro w'; go_simp; with_reducible rfl); (· simp only [nrm]; rfl)
            refine pu_ (v := ?_) (a' := ?_) 16 (some 139) 126975 rfl rfl HT_ (by kernel_rfl) (.inl ⟨by rfl, ?_⟩) ?_ ?_; rotate_left 2; (· intro w'; go_simp; with_reducible rfl); (· simp only [nrm]; rfl)
            refine tk_ (v := ?_) (a' := ?_) 17 (some 140) 258047 rfl rfl HT_ HW_ (by kernel_rfl) (.inl ⟨by rfl, ?_⟩) hHeld ?_ ?_; rotate_left 2; (· rintro w' ⟨_, _, _, _, _, _, _, _, _⟩; go_simp; with_reducible rfl); (· simp only [nrm]; rfl)
            refine on_ 12 (some 135) 262143 rfl rfl HT_ (by kernel_rfl) (by decide) (fun K hK => ?_)
            refine goes_ Tryd.func109 (by kernel_rfl) rfl #[.agg #[.int .i64 ((P : Int) + 1), .int .i64 ((T : Int) + 1), .int .i64 1, .int .i64 64, .int .i64 (22 + 6 * (T : Int)), .int .i64 (128 + 64 * (P : Int))], .int .i64 (i : Int)] (by rfl) rfl rfl (by (try simp only [List.map_toArray, List.map_cons, List.map_nil]); first | done | rfl) ?_
            refine (windrowref06_Map_Mark.calls _ _ _ _ _ _ _ _ _ HPM.out).mono ?_
            rintro e w2 ⟨rfl, hb⟩
            replace H := Aside.mk (H.out.step hb)
            clear hb
            refine ⟨_, rfl, ?_⟩
            refine hK.out _ _ ⟨H.out.cell 3, H.out.cell 4, H.out.cell 5, H.out.cell 6, H.out.cell 7, H.out.cell 8, H.out.cell 10, (H.out.pick 1 rfl).cell 0, pw_cell_below H.out.below HC7.out⟩ (fun hHeld => ?_)
            clear hK K
            refine norm_ (a' := ?_) ?_ ?_
            rotate_left
            · show Act.put _ (some 135) _ = _
              simp only [nrm]
              rfl
            refine pu_ (v := ?_) (a' := ?_) 18 (some 141) 524287 rfl rfl HT_ (by kernel_rfl) (.inl ⟨by rfl, ?_⟩) ?_ ?_; rotate_left 2; (· intro w'; go_simp; with_reducible rfl); (· simp only [nrm]; rfl)
            refine on_ 19 (none) 1048575 rfl rfl HT_ (by kernel_rfl) (by decide) (fun K hK => ?_)
            refine skip_ (by rfl) rfl (st_run_store (g := gD) (off := j2) (seg := [.int .u64 (g7)]) rfl rfl rfl rfl (by rw [U_size]; exact HK2.out) (by simp [Value.oneCell']) (H.out.pick 2 rfl)) ?_
            have h8 := (H.out.pick 2 rfl).setCells j2 [.int .u64 (g7)] (by rw [U_size]; exact HK2.out)
            generalize World.setCells _ _ _ _ = w12 at h8 ⊢
            replace H : Aside (St w w12 (FL1 P T x d gD a gC (((X.set j0 pw).set j1 g6).set j2 g7))) := Aside.mk ((put_U HK2.out h8).order 3 [1, 2, 0] rfl rfl)
            clear h8
            refine hK.out _ _ ⟨H.out.cell 3, H.out.cell 4, H.out.cell 5, H.out.cell 6, H.out.cell 7, H.out.cell 8, H.out.cell 10, (H.out.pick 1 rfl).cell 0, pw_cell_below H.out.below HC7.out⟩ (fun hHeld => ?_)
            clear hK K
            refine done_ (done_of HT_.out (by kernel_rfl)) ?_
            clear HT_ HW_ hHeld
            go_wp2
            go_roundg (P + 1 - (i + 1))
            case measure => have := HHI.out; omega
            case rel => exact ⟨i + 1, rfl, HHI.out, by omega, by have := HP.out; have := HHI.out; rw [w_of ((i : Int) + 1) (by omega) (by omega)]; rfl, ((X.set j0 pw).set j1 g6).set j2 g7, ⟨by rw [← HE.out, HD.out, layX, if_pos HHI.out, HFX.out]⟩, ⟨by simp [HXL.out]⟩, H⟩

        · have hip2 : i = P + 1 := by omega
          have HS := Aside.mk (layX_stop (T := T) (L.drop i) i X hip)
          have dip : decide ((i : Int) < (P : Int) + 1) = false := by simp; omega
          have nip : ¬ ((i : Int) < (P : Int) + 1) := by omega
          clear hip hip2 dip
          go_wp2
          go_meet
          case rel => exact ⟨by rw [← HE.out, HS.out]; exact H.out⟩
      · have HS : Aside (layX P T (L.drop i) i X = X) := ⟨by rw [List.drop_of_length_le (by omega)]; rfl⟩
        go_wp2
        go_meet
        case rel => exact ⟨by rw [← HE.out, HS.out]; exact H.out⟩
  case rest =>
    clear H HX0
    have H := hcut
    clear hcut
    have hXl : (layX P T L 0 (List.replicate (128 + 64 * P) 0)).length = 128 + 64 * P := by rw [layX_len, List.length_replicate]
    have HXL := Aside.mk hXl
    generalize hXE : layX P T L 0 (List.replicate (128 + 64 * P) 0) = X at H HXL
    have HXE := Aside.mk hXE
    clear hXl hXE
    obtain ⟨n, hn⟩ : ∃ n, n = 128 + 64 * P := ⟨_, rfl⟩
    have HN := Aside.mk hn
    go_wp2_with fail
    go_loopg [12] (128 + 64 * P) (fun m v12 w' => ∃ i : Nat, m = 128 + 64 * P - i ∧ i ≤ 128 + 64 * P ∧ v12 = .int .i64 i ∧ Aside (St w w' (FL2 P T x d gD a gC X (X.take i ++ List.replicate (128 + 64 * P - i) 0))))
    case atStart => exact ⟨0, rfl, Nat.zero_le _, rfl, H⟩
    case round =>
      clear H
      obtain ⟨i, rfl, hi, rfl, H⟩ := hrel
      have x9 := H.out.cell 9
      have x10 := H.out.cell 10
      have d0 := (H.out.pick 1 rfl).cell 0
      by_cases hlt : i < 128 + 64 * P
      · have z := ((H.out.pick 2 rfl).cell i).trans (U_getD (by rw [HXL.out]; exact hlt))
        have hYl : (X.take i ++ List.replicate (128 + 64 * P - i) (0 : Int)).length = 128 + 64 * P := by rw [List.length_append, List.length_take, List.length_replicate, HXL.out]; omega
        have hset : (X.take i ++ List.replicate (128 + 64 * P - i) (0 : Int)).set i (X.getD i 0) = X.take (i + 1) ++ List.replicate (128 + 64 * P - (i + 1)) 0 := by
          rw [show 128 + 64 * P - i = (128 + 64 * P - (i + 1)) + 1 by omega]
          exact take_set X i _ (by rw [HXL.out]; exact hlt)
        have HSET := Aside.mk hset
        have HYL := Aside.mk hYl
        have hpk := fun (w' : World) (h : St w w' (arB a gC (X.take i ++ List.replicate (128 + 64 * P - i) (0 : Int)).length (.slice none 0 0) true 0 0 :: ceB gC (X.take i ++ List.replicate (128 + 64 * P - i) 0) :: [blk x #[.int .i64 ((P : Int) + 1), .int .i64 ((T : Int) + 1), .int .i64 1, .int .i64 ((P : Int) + 1), .int .i64 ((T : Int) + 1), .int .i64 1, .int .i64 64, .int .i64 (22 + 6 * (T : Int)), .int .i64 (128 + 64 * (P : Int)), .pointer (some ⟨a, 0, none⟩), .pointer (some ⟨d, 0, none⟩), .pointer none] 127, blk d #[.slice (some ⟨gD, 0, none⟩) (128 + 64 * P) (128 + 64 * P), .slice none 0 0, .int .i64 0] 95, blk gD (U X).toArray 22])) => poke_yes i (X.getD i 0) (by rw [hYl]; exact hlt) h
        simp only [hset] at hpk
        rw [hYl, show (X.take (i + 1) ++ List.replicate (128 + 64 * P - (i + 1)) (0 : Int)).length = 128 + 64 * P by rw [← hset, List.length_set]; exact hYl] at hpk
        generalize X.getD i 0 = v at z hpk
        replace hpk := Aside.mk hpk
        have HHI := Aside.mk hlt
        have dlt : decide ((i : Int) < 128 + 64 * (P : Int)) = true := by simp; omega
        have dlt2 : (i : Int) < 128 + 64 * (P : Int) := by omega
        clear hYl hset hlt hi
        go_wp2_with (go_at_call 37; refine (hpk.out _ (H.out.order 5 [3, 4, 0, 1, 2] rfl rfl)).mono ?_; rintro e w9 ⟨rfl, h9⟩; replace H : Aside (St w w9 (FL2 P T x d gD a gC X (X.take (i + 1) ++ List.replicate (128 + 64 * P - (i + 1)) 0))) := Aside.mk (h9.order 5 [2, 3, 4, 0, 1] rfl rfl); clear h9 x9 x10 d0 z)
        go_roundg (128 + 64 * P - (i + 1))
        case measure => have := HHI.out; omega
        case rel => exact ⟨i + 1, rfl, HHI.out, by have := HP.out; have := HHI.out; rw [w_of ((i : Int) + 1) (by omega) (by omega)]; rfl, H⟩
      · have hi2 : i = 128 + 64 * P := by omega
        have dlt : decide ((i : Int) < 128 + 64 * (P : Int)) = false := by simp; omega
        have e9 : X.take i ++ List.replicate (128 + 64 * P - i) (0 : Int) = X := by rw [List.take_of_length_le (by rw [HXL.out]; omega), show 128 + 64 * P - i = 0 by omega]; simp
        rw [e9] at H
        clear hlt hi2 e9 hi
        go_wp2_with (first
          | (go_at_call 16; refine (port_ (a := a) (who := 15) (by decide) (by decide) H.out).mono ?_; rintro e w9 ⟨p, rfl, h9⟩; replace H := Aside.mk h9; clear h9 x9 x10 d0)
          | (with_reducible refine stop_at (.store 44 (.tmp 175) (.tmp 172)) rfl ?_))
        refine ⟨?_⟩
        refine st_store rfl rfl rfl [.pointer (some ⟨p, 0, none⟩)] #[.int .i64 ((P : Int) + 1), .int .i64 ((T : Int) + 1), .int .i64 1, .int .i64 ((P : Int) + 1), .int .i64 ((T : Int) + 1), .int .i64 1, .int .i64 64, .int .i64 (22 + 6 * (T : Int)), .int .i64 (128 + 64 * (P : Int)), .pointer (some ⟨a, 0, none⟩), .pointer (some ⟨d, 0, none⟩), .pointer (some ⟨p, 0, none⟩)] rfl rfl rfl (Nat.le_of_ble_eq_true rfl) (by simp [Value.oneCell']) (H.out.pick 1 rfl) rfl ?_
        intro w10 h10
        replace H := Aside.mk h10
        clear h10
        go_wp2
        go_ret2
        refine ⟨x, a, d, p, gD, gC, rfl, ?_⟩
        have h11 := ((H.out.nil_row 98 7).nil_row 98 7)
        have hl : X.length = 128 + 64 * P := HXL.out
        rw [HXE.out]
        show St w w10 (Fd x P T a d p gD gC 15 false X (.slice none 0 0) [] 0 (.slice none 0 0) [] 0 0)
        unfold Fd Are
        rw [hl]
        exact h11.order 8 [2, 4, 5, 0, 3, 6, 7, 1] rfl rfl
end Go.Proofs.YtelfiegocdjnoaaDoor.Ar
