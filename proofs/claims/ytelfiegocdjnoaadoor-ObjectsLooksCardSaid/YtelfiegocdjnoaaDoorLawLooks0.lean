/- The walk of ObjectsLooks. Conditions: what comes in reads as the kinds say; the package array of sizes reads as it was laid. -/
import Derived.Test.YtelfiegocdjnoaaDoorLk5
import Derived.Test.YtelfiegocdjnoaaDoorCn2
import Derived.Test.YtelfiegocdjnoaaDoorOb5
import Derived.Deep.CutBlock
import Derived.Test.YtelfiegocdjnoaaDoorMrF0
import Derived.Test.YtelfiegocdjnoaaDoorMrF1
import Derived.Test.YtelfiegocdjnoaaDoorMrF3
import Derived.Test.YtelfiegocdjnoaaDoorMrF2
namespace Go.Proofs.YtelfiegocdjnoaaDoor.Ar
open Go Go.RowKit Go.Proofs.YtelfiegocdjnoaaDoor.Sep Go.Proofs.YtelfiegocdjnoaaDoor.Pg Go.Proofs.YtelfiegocdjnoaaDoorW.PrintWords Go.Proofs.YtelfiegocdjnoaaDoorW.PrintLast Go.Proofs.YtelfiegocdjnoaaDoorW.PrintMore Go.Proofs.YtelfiegocdjnoaaDoor.Q
set_option linter.unusedVariables false
set_option linter.unusedSimpArgs false
set_option maxHeartbeats 8000000
set_option maxRecDepth 100000
def lo.T1 : Bool × List (List Nat × List Nat) := (true, [([], []), ([0], [0]), ([], []), ([2], [2]), ([], []), ([4], [4]), ([], []), ([6], [6]), ([], []), ([8, 1, 0, 1, 8], [1, 8]), ([3, 9, 0, 1, 2, 3, 8, 9], [3]), ([5, 10, 0, 1, 2, 3, 4, 5, 8, 9, 10], [5]), ([7, 11, 0, 1, 2, 3, 4, 5, 6, 7, 8, 9, 10, 11], [7])])
def lo.B1 : List Nat := [0, 1, 0, 4, 0, 16, 0, 64, 0, 259, 783, 1855, 4095]
theorem lo.tab1 : rtab .any (opsOf Tryd.f4 1) = lo.T1 := by kernel_rfl
theorem lo.bits1 : waitsOk lo.T1.2 lo.B1 = true := by kernel_rfl
def lo.T12 : Bool × List (List Nat × List Nat) := (true, [([], []), ([], []), ([1], [1]), ([], []), ([0, 2, 3, 2], [0, 2, 3]), ([], []), ([], []), ([], []), ([5, 6, 7, 4], [5, 6, 7]), ([4, 8], [4, 8]), ([9, 8], [9]), ([10], [10]), ([10], [10]), ([11, 12, 10, 10], [10, 11, 12]), ([10, 13], [10, 13]), ([14, 13], [14]), ([15], [15]), ([15], [15]), ([16, 17, 15], [15, 16, 17]), ([15, 18], [15, 18]), ([19, 15, 0, 1, 2, 3, 4, 5, 6, 7, 8, 9, 10, 11, 12, 13, 14, 15, 16, 17, 18, 19], [19])])
def lo.B12 : List Nat := [0, 0, 2, 0, 15, 0, 0, 0, 255, 511, 1023, 2047, 2047, 8191, 16383, 32767, 65535, 65535, 262143, 524287, 1048575]
theorem lo.tab12 : rtab .any (opsOf Tryd.f4 12) = lo.T12 := by kernel_rfl
theorem lo.bits12 : waitsOk lo.T12.2 lo.B12 = true := by kernel_rfl
theorem look_n {w0 w : World} {F : List HP} {a gC t nN : Nat} {lv : Value} {cn fl : Int} {X : List Int} {vL vM : Value} {E : List Cl} {P : Nat} {ns : List Nat} {R1 R2 R3 Re : Int} {ws : List Int} (hP : P < 5) (hX : X.length = nN) (hN : nN = 128 + 64 * P) (hr : ∀ i, 0 ≤ X.getD i 0 ∧ X.getD i 0 < 18446744073709551616) (at_ : Int) (hT : Tab w0) (hE : E.map Cl.n = ns) (hR : lookR P X ns at_ = (R1, R2, R3, ws, Re)) (h : St w0 w (arB a gC nN lv true cn fl :: ceB gC X :: tbB t vL vM :: tbR vL E :: F)) :
    Calls Tryd.prog 23 #[.pointer (some ⟨a, 0, none⟩), .agg #[.int .i64 ((P : Int) + 1), .int .i64 1, .int .i64 1], .pointer (some ⟨t, 0, none⟩), .int .i64 at_] w fun e w' => ∃ A c, e = .returned (.tuple #[.agg #[.int .i64 R1, .int .i64 R2, .int .i64 R3, .slice A ws.length c], .int .i64 Re]) ∧
      St w0 w' (row 2 1 (.slice A ws.length c) ws.length (I64 ws) :: arB a gC nN lv true cn fl :: ceB gC X :: tbB t vL vM :: tbR vL E :: F) := by
  subst hX hE
  have e := look_c hP hN hr at_ hT h
  rw [hR] at e
  refine e.mono ?_
  rintro e w' ⟨V, rfl, h9⟩
  obtain ⟨A, c, rfl, _, _⟩ := h9.row_slice
  exact ⟨A, c, rfl, h9⟩
theorem rlook_n {w0 w : World} {F : List HP} {gD nN : Nat} {X : List Int} {P : Nat} {R1 R2 R3 Re : Int} {ws : List Int} (hP : P < 5) (hX : X.length = nN) (hN : nN = 128 + 64 * P) (hr : ∀ i, 0 ≤ X.getD i 0 ∧ X.getD i 0 < 18446744073709551616) (at_ : Int) {A2 : Option Addr} {c2 : Nat} {cs : List S161} (hC : Kd.C k161 w0 A2 cs.length cs) (hc : cs.length ≤ c2) (hR : lookR P X (cs.map fun x => x.f1.length) at_ = (R1, R2, R3, ws, Re)) (h : St w0 w (blk gD (U X).toArray 22 :: F)) :
    Calls Tryd.prog 24 #[.slice (some ⟨gD, 0, none⟩) nN nN, MapV P, .slice A2 cs.length c2, .int .i64 at_] w fun e w' => ∃ A c, e = .returned (.tuple #[.agg #[.int .i64 R1, .int .i64 R2, .int .i64 R3, .slice A ws.length c], .int .i64 Re]) ∧ St w0 w' (row 2 1 (.slice A ws.length c) ws.length (I64 ws) :: blk gD (U X).toArray 22 :: F) := by
  have e := rlook_w hP hX hN hr at_ hC hc hR.symm h
  refine e.mono ?_
  rintro e w' ⟨V, rfl, h9⟩
  obtain ⟨A, c, rfl, _, _⟩ := h9.row_slice
  exact ⟨A, c, rfl, h9⟩
theorem alloc_n {w0 w : World} {F : List HP} {a gC nN : Nat} {lv : Value} {cn fl : Int} {X : List Int} {P : Nat} (hP : P < 5) (hX : X.length = nN) (hN : nN = 128 + 64 * P) (hr : ∀ i, 0 ≤ X.getD i 0 ∧ X.getD i 0 < 18446744073709551616) (at_ : Int) (hT : Tab w0) (h : St w0 w (arB a gC nN lv true cn fl :: ceB gC X :: F)) :
    Calls Tryd.prog 25 #[.pointer (some ⟨a, 0, none⟩), .agg #[.int .i64 ((P : Int) + 1), .int .i64 1, .int .i64 1], .int .i64 at_] w fun e w' => e = .returned (.bool (allR P X at_)) ∧ St w0 w' (arB a gC nN lv true cn fl :: ceB gC X :: F) := by
  subst hX
  exact allocated_g hP hN hr at_ hT h
theorem law_looks (q1 q2 q3 at_ : Int) (A : Option Addr) (cc : Nat) (L : List (Int × Int)) (A2 : Option Addr) (c2 : Nat) (cs : List S161) (w0 : World) (hL : ∀ i, i < L.length → ∃ ad, A = some ad ∧ w0.cell? (ad.add (i * 2)) = some (.int .i64 (L.getD i (0, 0)).1) ∧ w0.cell? ⟨(ad.add (i * 2)).block, (ad.add (i * 2)).off + 1, none⟩ = some (.int .u64 (L.getD i (0, 0)).2))
    (hLr : ∀ p ∈ L, 0 ≤ p.2 ∧ p.2 < 18446744073709551616) (hCs : Kd.C k161 w0 A2 cs.length cs) (hc2 : cs.length ≤ c2) (hT : Tab w0) :
    Calls Tryd.prog 4 #[.agg #[.int .i64 q1, .int .i64 q2, .int .i64 q3, .slice A L.length cc, .slice A2 cs.length c2, .int .i64 at_]] w0 fun e w' => e = .returned (.bool true) ∧ Below w0.heap.size w0 w' := by
  obtain ⟨P, hP, hsm⟩ := small_ q1 q2 q3
  have PS := Aside.mk hsm
  have HPp := Aside.mk hP
  have P2 : Aside (windrowref06_Draw.f 1000 ((P : Int) + 1) 1 1 = some ((P : Int) + 1, 1, 1, 64, 22, 128 + 64 * (P : Int))) := ⟨pl_draw ⟨P, hP⟩⟩
  have P5 : Aside (windrowlaw11_plan.f ((P : Int) + 1) 1 1 = some ((P : Int) + 1, 1, 1)) := ⟨rfl⟩
  obtain ⟨nN, hnN⟩ : ∃ nN, nN = 128 + 64 * P := ⟨_, rfl⟩
  have HNN := Aside.mk hnN
  obtain ⟨X0, hX0⟩ : ∃ X0, X0 = layS nN (min 300 L.length) L := ⟨_, rfl⟩
  have HXL : Aside (X0.length = nN) := ⟨by rw [hX0, layS_len]⟩
  have HXR : Aside (∀ i, 0 ≤ X0.getD i 0 ∧ X0.getD i 0 < 18446744073709551616) := ⟨by rw [hX0]; exact layS_rng hLr⟩
  have HLAY : Aside (∀ (w6 : World) (F : List HP), St w0 w6 F → Calls Tryd.prog 13 #[.agg #[.int .i64 ((P : Int) + 1), .int .i64 1, .int .i64 1], .slice A L.length cc] w6 fun e w' => ∃ a gC gD, e = .returned (.tuple #[.pointer (some ⟨a, 0, none⟩), .slice (some ⟨gD, 0, none⟩) nN nN, .bool true]) ∧ St w0 w' (arB a gC nN (.slice none 0 0) true 0 0 :: ceB gC X0 :: blk gD (U X0).toArray 22 :: F)) := by
    refine ⟨fun w6 F h => ?_⟩
    have hc : windrowref06_Cells.f 1000 ((P : Int) + 1) 1 1 = some (nN : Int) := by
      have := pl_ncells ⟨P, hP⟩
      rw [hnN]; simp only at this; rw [this]; push_cast; rfl
    refine (lay_ hc (by omega) (by omega) A cc L w6 ?_).mono ?_
    · intro i hi
      obtain ⟨ad, e, h0, h1⟩ := hL i hi
      exact ⟨ad, e, pw_cell_below h.below h0, pw_cell_below h.below h1⟩
    · rintro e w' ⟨a, gC, gD, rfl, h9⟩
      refine ⟨a, gC, gD, rfl, ?_⟩
      rw [hX0]
      exact h.join h9
  have HTS : Aside (∀ (w : World) (L : List HP), St w0 w L → Tab w) := ⟨fun _ _ hh => hT.st hh⟩
  have HCS := Aside.mk hCs
  have HC2 := Aside.mk hc2
  have HT0 := Aside.mk hT
  obtain ⟨R1, R2, R3, ws, Re, hR⟩ : ∃ R1 R2 R3 ws Re, lookR P X0 (cs.map fun x => x.f1.length) at_ = (R1, R2, R3, ws, Re) := ⟨_, _, _, _, _, rfl⟩
  have HRR := Aside.mk hR
  have HWL : Aside (ws.length ≤ 1000) := ⟨by have := look_len P X0 (cs.map fun x => x.f1.length) at_; rw [hR] at this; exact this⟩
  have H : Aside (St w0 _ [blk w0.heap.size #[.int .i64 q1, .int .i64 q2, .int .i64 q3, .slice A L.length cc, .slice A2 cs.length c2, .int .i64 at_] 53]) := Aside.mk ((St.start w0).alloc #[.int .i64 q1, .int .i64 q2, .int .i64 q3, .slice A L.length cc, .slice A2 cs.length c2, .int .i64 at_] 53)
  clear hsm hP hnN hX0 hL hLr hCs hc2 hT hR
  go_enter Tryd.func4, Tryd.ntmps4
  go_wp2_with fail
  replace H := Aside.mk H.out.drew
  refine start_ (n := 13) (S := fun w' => w'.cell? ⟨w0.heap.size, 0, none⟩ = some (.int .i64 q1) ∧ w'.cell? ⟨w0.heap.size, 1, none⟩ = some (.int .i64 q2) ∧ w'.cell? ⟨w0.heap.size, 2, none⟩ = some (.int .i64 q3) ∧ w'.cell? ⟨w0.heap.size, 3, none⟩ = some (.slice A L.length cc) ∧ w'.cell? ⟨w0.heap.size, 4, none⟩ = some (.slice A2 cs.length c2) ∧ w'.cell? ⟨w0.heap.size, 5, none⟩ = some (.int .i64 at_)) (ds := []) (flg 13 0) (by kernel_rfl) rfl rfl (⟨H.out.cell 0, H.out.cell 1, H.out.cell 2, H.out.cell 3, H.out.cell 4, H.out.cell 5⟩) (fun hHeld => ?_)
  refine with_tabW lo.tab1 lo.bits1 (fun HT_ HW_ => ?_)
  generalize World.drew _ = w3 at H hHeld ⊢
  refine pu_ (v := ?_) (a' := ?_) 0 (some 18) 1 rfl rfl HT_ (by kernel_rfl) (.inl ⟨by rfl, ?_⟩) ?_ ?_; rotate_left 2; (· intro w'; go_simp; with_reducible rfl); (· simp only [nrm]; rfl)
  refine tk_ (v := ?_) (a' := ?_) 1 (some 19) 3 rfl rfl HT_ HW_ (by kernel_rfl) (.inl ⟨by rfl, ?_⟩) hHeld ?_ ?_; rotate_left 2; (· rintro w' ⟨_, _, _, _, _, _⟩; go_simp; with_reducible rfl); (· simp only [nrm]; rfl)
  refine pu_ (v := ?_) (a' := ?_) 2 (some 20) 7 rfl rfl HT_ (by kernel_rfl) (.inl ⟨by rfl, ?_⟩) ?_ ?_; rotate_left 2; (· intro w'; go_simp; with_reducible rfl); (· simp only [nrm]; rfl)
  refine tk_ (v := ?_) (a' := ?_) 3 (some 21) 15 rfl rfl HT_ HW_ (by kernel_rfl) (.inl ⟨by rfl, ?_⟩) hHeld ?_ ?_; rotate_left 2; (· rintro w' ⟨_, _, _, _, _, _⟩; go_simp; with_reducible rfl); (· simp only [nrm]; rfl)
  refine pu_ (v := ?_) (a' := ?_) 4 (some 22) 31 rfl rfl HT_ (by kernel_rfl) (.inl ⟨by rfl, ?_⟩) ?_ ?_; rotate_left 2; (· intro w'; go_simp; with_reducible rfl); (· simp only [nrm]; rfl)
  refine tk_ (v := ?_) (a' := ?_) 5 (some 23) 63 rfl rfl HT_ HW_ (by kernel_rfl) (.inl ⟨by rfl, ?_⟩) hHeld ?_ ?_; rotate_left 2; (· rintro w' ⟨_, _, _, _, _, _⟩; go_simp; with_reducible rfl); (· simp only [nrm]; rfl)
  refine pu_ (v := ?_) (a' := ?_) 6 (some 24) 127 rfl rfl HT_ (by kernel_rfl) (.inl ⟨by rfl, ?_⟩) ?_ ?_; rotate_left 2; (· intro w'; go_simp; with_reducible rfl); (· simp only [nrm]; rfl)
  refine tk_ (v := ?_) (a' := ?_) 7 (some 25) 255 rfl rfl HT_ HW_ (by kernel_rfl) (.inl ⟨by rfl, ?_⟩) hHeld ?_ ?_; rotate_left 2; (· rintro w' ⟨_, _, _, _, _, _⟩; go_simp; with_reducible rfl); (· simp only [nrm]; rfl)
  refine on_ 8 (some 3) 511 rfl rfl HT_ (by kernel_rfl) (by decide) (fun K hK => ?_)
  refine value_ (w1 := ?_) (v := ?_) (by rfl) rfl ?_ ?_
  rotate_left 2
  · go_simp
    constructor
    · rfl
    · rfl
  replace H := Aside.mk (H.out.alloc #[.int .i64 0, .int .i64 0, .int .i64 0] 25)
  generalize World.alloc w3 _ = w4 at H ⊢
  generalize w3.heap.size = g1_ at H ⊢
  refine hK.out _ _ ⟨(H.out.pick 1 rfl).cell 0, (H.out.pick 1 rfl).cell 1, (H.out.pick 1 rfl).cell 2, (H.out.pick 1 rfl).cell 3, (H.out.pick 1 rfl).cell 4, (H.out.pick 1 rfl).cell 5⟩ (fun hHeld => ?_)
  clear hK K
  refine norm_ (a' := ?_) ?_ ?_
  rotate_left
  · show Act.put _ (some 3) _ = _
    simp only [nrm]
    rfl
  refine on_ 9 (none) 1023 rfl rfl HT_ (by kernel_rfl) (by decide) (fun K hK => ?_)
  refine skip_ (by rfl) rfl (st_run_store (seg := [.int .i64 q1, .int .i64 q2, .int .i64 q3]) rfl rfl rfl rfl (Nat.le_of_ble_eq_true rfl) (by simp [Value.oneCell']) H.out) ?_
  have h8 := H.out.setCells 0 [.int .i64 q1, .int .i64 q2, .int .i64 q3] (Nat.le_of_ble_eq_true rfl)
  generalize World.setCells _ _ _ _ = w6 at h8 ⊢
  replace H : Aside (St w0 w6 [blk g1_ #[.int .i64 q1, .int .i64 q2, .int .i64 q3] 25, blk w0.heap.size #[.int .i64 q1, .int .i64 q2, .int .i64 q3, .slice A L.length cc, .slice A2 cs.length c2, .int .i64 at_] 53]) := Aside.mk h8
  clear h8
  refine hK.out _ _ ⟨(H.out.pick 1 rfl).cell 0, (H.out.pick 1 rfl).cell 1, (H.out.pick 1 rfl).cell 2, (H.out.pick 1 rfl).cell 3, (H.out.pick 1 rfl).cell 4, (H.out.pick 1 rfl).cell 5⟩ (fun hHeld => ?_)
  clear hK K
  refine pu_ (v := ?_) (a' := ?_) 10 (some 4) 2047 rfl rfl HT_ (by kernel_rfl) (.inl ⟨by rfl, ?_⟩) ?_ ?_; rotate_left 2; (· intro w'; go_simp; with_reducible rfl); (· simp only [nrm]; rfl)
  refine pu_ (v := ?_) (a' := ?_) 11 (some 5) 4095 rfl rfl HT_ (by kernel_rfl) (.inl ⟨by rfl, ?_⟩) ?_ ?_; rotate_left 2; (· intro w'; go_simp; with_reducible rfl); (· simp only [nrm]; rfl)
  refine pu_ (v := ?_) (a' := ?_) 12 (some 6) 8191 rfl rfl HT_ (by kernel_rfl) (.inl ⟨by rfl, ?_⟩) ?_ ?_; rotate_left 2; (· intro w'; go_simp; with_reducible rfl); (· simp only [nrm]; rfl)
  refine done_ (done_of HT_.out (by kernel_rfl)) ?_
  clear HT_ HW_ hHeld
  have q0 := H.out.cell 0
  have q1_ := H.out.cell 1
  have q2_ := H.out.cell 2
  go_wp2_with (first
    | (go_at_call 21; refine (windrowlaw11_small.calls _ _ _ _ _ _ _ PS.out).mono ?_; rintro e w5 ⟨rfl, hb⟩; replace H := Aside.mk (H.out.step hb); clear hb q0 q1_ q2_)
    | (with_reducible refine stop_at (.store 25 (.tmp 3) (.tmp 27)) rfl ?_))
  refine ⟨?_⟩
  refine st_store rfl rfl rfl [.int .i64 ((P : Int) + 1), .int .i64 1, .int .i64 1] #[.int .i64 ((P : Int) + 1), .int .i64 1, .int .i64 1] rfl rfl rfl (Nat.le_of_ble_eq_true rfl) (by simp [Value.oneCell']) H.out rfl ?_
  intro w7 h_
  replace H : Aside (St w0 w7 [blk g1_ #[.int .i64 ((P : Int) + 1), .int .i64 1, .int .i64 1] 25, blk w0.heap.size #[.int .i64 q1, .int .i64 q2, .int .i64 q3, .slice A L.length cc, .slice A2 cs.length c2, .int .i64 at_] 53]) := Aside.mk h_
  clear h_
  have q0 := H.out.cell 0
  have q1_ := H.out.cell 1
  have q2_ := H.out.cell 2
  go_upto_region 4 with (go_at_call 13; refine (HLAY.out _ _ H.out).mono ?_; rintro e w8 ⟨a, gC, gD, rfl, h9⟩; replace H := Aside.mk h9; clear h9 q0 q1_ q2_)
  have hnew := new_c (cap := c2) (Kd.C_below HCS.out H.out.below)
  have HNEW := Aside.mk hnew
  clear hnew
  go_upto_region 5 with (go_at_call 22; refine HNEW.out.mono ?_; rintro e w9 (⟨ei, er, her, rfl, hb⟩ | ⟨t, vL, vM, E, rfl, hE, h9⟩))
  · replace H := Aside.mk (H.out.step hb)
    have de : (er != 0) = true := by simp [her]
    clear hb her
    go_wp2_with (go_at_call 11; refine (built_ (HTS.out _ _ H.out)).mono ?_; rintro e w10 ⟨rfl, hb⟩; replace H := Aside.mk (H.out.step hb); clear hb)
    go_ret
    exact ⟨rfl, H.out.below⟩
  · replace H : Aside (St w0 w9 (tbB t vL vM :: tbR vL E :: arB a gC nN (.slice none 0 0) true 0 0 :: ceB gC X0 :: blk gD (U X0).toArray 22 :: blk g1_ #[.int .i64 ((P : Int) + 1), .int .i64 1, .int .i64 1] 25 :: [blk w0.heap.size #[.int .i64 q1, .int .i64 q2, .int .i64 q3, .slice A L.length cc, .slice A2 cs.length c2, .int .i64 at_] 53])) := Aside.mk (H.out.join h9)
    have HE := Aside.mk hE
    clear h9 hE
    go_wp2_with (first
      | (go_at_call 11; refine (built_ (HTS.out _ _ H.out)).mono ?_; rintro e w10 ⟨rfl, hb⟩; replace H := Aside.mk (H.out.step hb); clear hb; have q0 := (H.out.pick 5 rfl).cell 0; have q1_ := (H.out.pick 5 rfl).cell 1; have q2_ := (H.out.pick 5 rfl).cell 2)
      | (go_at_call 12; refine (windrowref06_Draw.calls _ _ _ _ _ _ _ _ _ _ _ P2.out).mono ?_; rintro e w11 ⟨rfl, hb⟩; replace H := Aside.mk (H.out.step hb); clear hb q0 q1_ q2_)
      | (with_reducible refine stop_at (.store 27 (.tmp 13) (.tmp 50)) rfl ?_))
    replace H := Aside.mk (H.out.alloc #[.int .i64 0, .int .i64 0, .int .i64 0, .int .i64 0, .int .i64 0, .int .i64 0] 27)
    generalize w11.heap.size = dm at H ⊢
    refine ⟨?_⟩
    refine st_store rfl rfl rfl [.int .i64 ((P : Int) + 1), .int .i64 1, .int .i64 1, .int .i64 64, .int .i64 22, .int .i64 (128 + 64 * (P : Int))] #[.int .i64 ((P : Int) + 1), .int .i64 1, .int .i64 1, .int .i64 64, .int .i64 22, .int .i64 (128 + 64 * (P : Int))] rfl rfl rfl (Nat.le_of_ble_eq_true rfl) (by simp [Value.oneCell']) H.out rfl ?_
    intro w12 h_
    replace H : Aside (St w0 w12 (blk dm #[.int .i64 ((P : Int) + 1), .int .i64 1, .int .i64 1, .int .i64 64, .int .i64 22, .int .i64 (128 + 64 * (P : Int))] 27 :: tbB t vL vM :: tbR vL E :: arB a gC nN (.slice none 0 0) true 0 0 :: ceB gC X0 :: blk gD (U X0).toArray 22 :: blk g1_ #[.int .i64 ((P : Int) + 1), .int .i64 1, .int .i64 1] 25 :: [blk w0.heap.size #[.int .i64 q1, .int .i64 q2, .int .i64 q3, .slice A L.length cc, .slice A2 cs.length c2, .int .i64 at_] 53])) := Aside.mk h_
    clear h_
    have q0 := (H.out.pick 6 rfl).cell 0
    have q1_ := (H.out.pick 6 rfl).cell 1
    have q2_ := (H.out.pick 6 rfl).cell 2
    go_wp2_with (first
      | (go_at_call 15; refine (windrowlaw11_plan.calls _ _ _ _ _ _ _ P5.out).mono ?_; rintro e w13 ⟨rfl, hb⟩; replace H := Aside.mk (H.out.step hb); clear hb q0 q1_ q2_)
      | (go_at_call 23; refine (look_n HPp.out HXL.out HNN.out HXR.out at_ HT0.out HE.out HRR.out (H.out.order 5 [3, 4, 1, 2, 0] rfl rfl)).mono ?_; rintro e w14 ⟨A5, c5, rfl, h9⟩; replace H := Aside.mk h9; clear h9)
      | (with_reducible refine stop_at (.store 60 (.tmp 14) (.tmp 58)) rfl ?_))
    replace H := Aside.mk (H.out.alloc #[.int .i64 0, .int .i64 0, .int .i64 0, .slice none 0 0] 60)
    generalize w14.heap.size = cb at H ⊢
    refine ⟨?_⟩
    refine st_store rfl rfl rfl [.int .i64 R1, .int .i64 R2, .int .i64 R3, .slice A5 ws.length c5] #[.int .i64 R1, .int .i64 R2, .int .i64 R3, .slice A5 ws.length c5] rfl rfl rfl (Nat.le_of_ble_eq_true rfl) (by simp [Value.oneCell']) H.out rfl ?_
    intro w15 h_
    replace H : Aside (St w0 w15 (blk cb #[.int .i64 R1, .int .i64 R2, .int .i64 R3, .slice A5 ws.length c5] 60 :: row 2 1 (.slice A5 ws.length c5) ws.length (I64 ws) :: arB a gC nN (.slice none 0 0) true 0 0 :: ceB gC X0 :: tbB t vL vM :: tbR vL E :: blk dm #[.int .i64 ((P : Int) + 1), .int .i64 1, .int .i64 1, .int .i64 64, .int .i64 22, .int .i64 (128 + 64 * (P : Int))] 27 :: blk gD (U X0).toArray 22 :: blk g1_ #[.int .i64 ((P : Int) + 1), .int .i64 1, .int .i64 1] 25 :: [blk w0.heap.size #[.int .i64 q1, .int .i64 q2, .int .i64 q3, .slice A L.length cc, .slice A2 cs.length c2, .int .i64 at_] 53])) := Aside.mk h_
    clear h_
    have m0 := (H.out.pick 6 rfl).cell 0
    have m1 := (H.out.pick 6 rfl).cell 1
    have m2 := (H.out.pick 6 rfl).cell 2
    have m3 := (H.out.pick 6 rfl).cell 3
    have m4 := (H.out.pick 6 rfl).cell 4
    have m5 := (H.out.pick 6 rfl).cell 5
    go_wp2_with (first
      | (go_at_call 24; refine (rlook_n HPp.out HXL.out HNN.out HXR.out at_ HCS.out HC2.out HRR.out (H.out.pick 7 rfl)).mono ?_; rintro e w16 ⟨A6, c6, rfl, h9⟩; replace H := Aside.mk h9; clear h9 m0 m1 m2 m3 m4 m5)
      | (with_reducible refine stop_at (.store 60 (.tmp 16) (.tmp 66)) rfl ?_))
    replace H := Aside.mk (H.out.alloc #[.int .i64 0, .int .i64 0, .int .i64 0, .slice none 0 0] 60)
    generalize w16.heap.size = xb at H ⊢
    refine ⟨?_⟩
    refine st_store rfl rfl rfl [.int .i64 R1, .int .i64 R2, .int .i64 R3, .slice A6 ws.length c6] #[.int .i64 R1, .int .i64 R2, .int .i64 R3, .slice A6 ws.length c6] rfl rfl rfl (Nat.le_of_ble_eq_true rfl) (by simp [Value.oneCell']) H.out rfl ?_
    intro w17 h_
    replace H : Aside (St w0 w17 (blk xb #[.int .i64 R1, .int .i64 R2, .int .i64 R3, .slice A6 ws.length c6] 60 :: row 2 1 (.slice A6 ws.length c6) ws.length (I64 ws) :: blk cb #[.int .i64 R1, .int .i64 R2, .int .i64 R3, .slice A5 ws.length c5] 60 :: row 2 1 (.slice A5 ws.length c5) ws.length (I64 ws) :: blk dm #[.int .i64 ((P : Int) + 1), .int .i64 1, .int .i64 1, .int .i64 64, .int .i64 22, .int .i64 (128 + 64 * (P : Int))] 27 :: tbB t vL vM :: tbR vL E :: arB a gC nN (.slice none 0 0) true 0 0 :: ceB gC X0 :: blk gD (U X0).toArray 22 :: blk g1_ #[.int .i64 ((P : Int) + 1), .int .i64 1, .int .i64 1] 25 :: [blk w0.heap.size #[.int .i64 q1, .int .i64 q2, .int .i64 q3, .slice A L.length cc, .slice A2 cs.length c2, .int .i64 at_] 53])) := Aside.mk (h_.order 10 [0, 1, 3, 4, 9, 7, 8, 5, 6, 2] rfl rfl)
    clear h_
    obtain ⟨ab, hab⟩ : ∃ ab, allR P X0 at_ = ab := ⟨_, rfl⟩
    have HAL := Aside.mk (fun (w1 : World) (F : List HP) (h : St w0 w1 (arB a gC nN (.slice none 0 0) true 0 0 :: ceB gC X0 :: F)) => alloc_n HPp.out HXL.out HNN.out HXR.out at_ HT0.out h)
    have HRA := Aside.mk (fun (w1 : World) (F : List HP) (h : St w0 w1 (blk gD (U X0).toArray 22 :: F)) => rall_st HPp.out HXL.out HNN.out HXR.out at_ h)
    rw [hab] at HAL HRA
    have hee : (Re == Re) = true := by simp
    go_wp2_with fail
    replace H := Aside.mk H.out.drew
    clear hab
    cases ab
    case false =>
      refine start_ (n := 21) (S := fun w' => w'.cell? ⟨xb, 0, none⟩ = some (.int .i64 R1) ∧ w'.cell? ⟨xb, 1, none⟩ = some (.int .i64 R2) ∧ w'.cell? ⟨xb, 2, none⟩ = some (.int .i64 R3) ∧ w'.cell? ⟨xb, 3, none⟩ = some (.slice A6 ws.length c6) ∧ w'.cell? ⟨cb, 0, none⟩ = some (.int .i64 R1) ∧ w'.cell? ⟨cb, 1, none⟩ = some (.int .i64 R2) ∧ w'.cell? ⟨cb, 2, none⟩ = some (.int .i64 R3) ∧ w'.cell? ⟨cb, 3, none⟩ = some (.slice A5 ws.length c5) ∧ w'.cell? ⟨dm, 0, none⟩ = some (.int .i64 ((P : Int) + 1)) ∧ w'.cell? ⟨dm, 1, none⟩ = some (.int .i64 1) ∧ w'.cell? ⟨dm, 2, none⟩ = some (.int .i64 1) ∧ w'.cell? ⟨dm, 3, none⟩ = some (.int .i64 64) ∧ w'.cell? ⟨dm, 4, none⟩ = some (.int .i64 22) ∧ w'.cell? ⟨dm, 5, none⟩ = some (.int .i64 (128 + 64 * (P : Int))) ∧ w'.cell? ⟨g1_, 0, none⟩ = some (.int .i64 ((P : Int) + 1)) ∧ w'.cell? ⟨g1_, 1, none⟩ = some (.int .i64 1) ∧ w'.cell? ⟨g1_, 2, none⟩ = some (.int .i64 1)) (ds := []) (flg 21 0) (by kernel_rfl) rfl rfl (⟨H.out.cell 0, H.out.cell 1, H.out.cell 2, H.out.cell 3, (H.out.pick 2 rfl).cell 0, (H.out.pick 2 rfl).cell 1, (H.out.pick 2 rfl).cell 2, (H.out.pick 2 rfl).cell 3, (H.out.pick 4 rfl).cell 0, (H.out.pick 4 rfl).cell 1, (H.out.pick 4 rfl).cell 2, (H.out.pick 4 rfl).cell 3, (H.out.pick 4 rfl).cell 4, (H.out.pick 4 rfl).cell 5, (H.out.pick 10 rfl).cell 0, (H.out.pick 10 rfl).cell 1, (H.out.pick 10 rfl).cell 2⟩) (fun hHeld => ?_)
      refine with_tabW lo.tab12 lo.bits12 (fun HT_ HW_ => ?_)
      refine pu_ (v := ?_) (a' := ?_) 0 (some 68) 1 rfl rfl HT_ (by kernel_rfl) (.inl ⟨by rfl, ?_⟩) ?_ ?_; rotate_left 2; (· intro w'; go_simp; with_reducible rfl); (· simp only [nrm]; rfl)
      refine tk_ (v := ?_) (a' := ?_) 1 (some 69) 3 rfl rfl HT_ HW_ (by kernel_rfl) (.inl ⟨by rfl, ?_⟩) hHeld ?_ ?_; rotate_left 2; (· rintro w' ⟨_, _, _, _, _, _, _, _, _, _, _, _, _, _, _, _, _⟩; go_simp; with_reducible rfl); (· simp only [nrm]; rfl)
      refine pu_ (v := ?_) (a' := ?_) 3 (some 71) 11 rfl rfl HT_ (by kernel_rfl) (.inl ⟨by rfl, ?_⟩) ?_ ?_; rotate_left 2; (· intro w'; go_simp; with_reducible rfl); (· simp only [nrm]; rfl)
      refine pu_ (v := ?_) (a' := ?_) 5 (some 73) 43 rfl rfl HT_ (by kernel_rfl) (.inl ⟨by rfl, ?_⟩) ?_ ?_; rotate_left 2; (· intro w'; go_simp; with_reducible rfl); (· simp only [nrm]; rfl)
      refine tk_ (v := ?_) (a' := ?_) 6 (some 74) 107 rfl rfl HT_ HW_ (by kernel_rfl) (.inl ⟨by rfl, ?_⟩) hHeld ?_ ?_; rotate_left 2; (· rintro w' ⟨_, _, _, _, _, _, _, _, _, _, _, _, _, _, _, _, _⟩; go_simp; with_reducible rfl); (· simp only [nrm]; rfl)
      refine pu_ (v := ?_) (a' := ?_) 7 (some 75) 235 rfl rfl HT_ (by kernel_rfl) (.inl ⟨by rfl, ?_⟩) ?_ ?_; rotate_left 2; (· intro w'; go_simp; with_reducible rfl); (· simp only [nrm]; rfl)
      refine on_ 2 (some 70) 239 rfl rfl HT_ (by kernel_rfl) (by decide) (fun K hK => ?_)
      refine goes_ Tryd.func15 (by kernel_rfl) rfl #[.agg #[.int .i64 ((P : Int) + 1), .int .i64 1, .int .i64 1]] (by rfl) rfl rfl (by (try simp only [List.map_toArray, List.map_cons, List.map_nil]); first | done | rfl) ?_
      refine (windrowlaw11_plan.calls _ _ _ _ _ _ _ P5.out).mono ?_
      rintro e w20 ⟨rfl, hb⟩
      replace H := Aside.mk (H.out.step hb)
      clear hb
      refine ⟨_, rfl, ?_⟩
      refine hK.out _ _ ⟨H.out.cell 0, H.out.cell 1, H.out.cell 2, H.out.cell 3, (H.out.pick 2 rfl).cell 0, (H.out.pick 2 rfl).cell 1, (H.out.pick 2 rfl).cell 2, (H.out.pick 2 rfl).cell 3, (H.out.pick 4 rfl).cell 0, (H.out.pick 4 rfl).cell 1, (H.out.pick 4 rfl).cell 2, (H.out.pick 4 rfl).cell 3, (H.out.pick 4 rfl).cell 4, (H.out.pick 4 rfl).cell 5, (H.out.pick 10 rfl).cell 0, (H.out.pick 10 rfl).cell 1, (H.out.pick 10 rfl).cell 2⟩ (fun hHeld => ?_)
      clear hK K
      refine norm_ (a' := ?_) ?_ ?_
      rotate_left
      · show Act.put _ (some 70) _ = _
        simp only [nrm]
        rfl
      refine on_ 4 (some 72) 255 rfl rfl HT_ (by kernel_rfl) (by decide) (fun K hK => ?_)
      refine goes_ Tryd.func25 (by kernel_rfl) rfl #[.pointer (some ⟨a, 0, none⟩), .agg #[.int .i64 ((P : Int) + 1), .int .i64 1, .int .i64 1], .int .i64 at_] (by rfl) rfl rfl (by (try simp only [List.map_toArray, List.map_cons, List.map_nil]); first | done | rfl) ?_
      refine (HAL.out _ _ (H.out.order 9 [7, 8, 0, 1, 2, 3, 4, 5, 6] rfl rfl)).mono ?_
      rintro e w21 ⟨rfl, h9⟩
      replace H : Aside (St w0 w21 (blk xb #[.int .i64 R1, .int .i64 R2, .int .i64 R3, .slice A6 ws.length c6] 60 :: row 2 1 (.slice A6 ws.length c6) ws.length (I64 ws) :: blk cb #[.int .i64 R1, .int .i64 R2, .int .i64 R3, .slice A5 ws.length c5] 60 :: row 2 1 (.slice A5 ws.length c5) ws.length (I64 ws) :: blk dm #[.int .i64 ((P : Int) + 1), .int .i64 1, .int .i64 1, .int .i64 64, .int .i64 22, .int .i64 (128 + 64 * (P : Int))] 27 :: tbB t vL vM :: tbR vL E :: arB a gC nN (.slice none 0 0) true 0 0 :: ceB gC X0 :: blk gD (U X0).toArray 22 :: blk g1_ #[.int .i64 ((P : Int) + 1), .int .i64 1, .int .i64 1] 25 :: [blk w0.heap.size #[.int .i64 q1, .int .i64 q2, .int .i64 q3, .slice A L.length cc, .slice A2 cs.length c2, .int .i64 at_] 53])) := Aside.mk (h9.order 9 [2, 3, 4, 5, 6, 7, 8, 0, 1] rfl rfl)
      clear h9
      refine ⟨_, rfl, ?_⟩
      refine hK.out _ _ ⟨H.out.cell 0, H.out.cell 1, H.out.cell 2, H.out.cell 3, (H.out.pick 2 rfl).cell 0, (H.out.pick 2 rfl).cell 1, (H.out.pick 2 rfl).cell 2, (H.out.pick 2 rfl).cell 3, (H.out.pick 4 rfl).cell 0, (H.out.pick 4 rfl).cell 1, (H.out.pick 4 rfl).cell 2, (H.out.pick 4 rfl).cell 3, (H.out.pick 4 rfl).cell 4, (H.out.pick 4 rfl).cell 5, (H.out.pick 10 rfl).cell 0, (H.out.pick 10 rfl).cell 1, (H.out.pick 10 rfl).cell 2⟩ (fun hHeld => ?_)
      clear hK K
      refine norm_ (a' := ?_) ?_ ?_
      rotate_left
      · show Act.put _ (some 72) _ = _
        simp only [nrm]
        rfl
      refine on_ 8 (some 76) 511 rfl rfl HT_ (by kernel_rfl) (by decide) (fun K hK => ?_)
      refine goes_ Tryd.func26 (by kernel_rfl) rfl #[.slice (some ⟨gD, 0, none⟩) nN nN, MapV P, .int .i64 at_] (by rfl) rfl rfl (by (try simp only [List.map_toArray, List.map_cons, List.map_nil]); first | done | rfl) ?_
      refine (HRA.out _ _ (H.out.pick 9 rfl)).mono ?_
      rintro e w22 ⟨rfl, h9⟩
      replace H : Aside (St w0 w22 (blk xb #[.int .i64 R1, .int .i64 R2, .int .i64 R3, .slice A6 ws.length c6] 60 :: row 2 1 (.slice A6 ws.length c6) ws.length (I64 ws) :: blk cb #[.int .i64 R1, .int .i64 R2, .int .i64 R3, .slice A5 ws.length c5] 60 :: row 2 1 (.slice A5 ws.length c5) ws.length (I64 ws) :: blk dm #[.int .i64 ((P : Int) + 1), .int .i64 1, .int .i64 1, .int .i64 64, .int .i64 22, .int .i64 (128 + 64 * (P : Int))] 27 :: tbB t vL vM :: tbR vL E :: arB a gC nN (.slice none 0 0) true 0 0 :: ceB gC X0 :: blk gD (U X0).toArray 22 :: blk g1_ #[.int .i64 ((P : Int) + 1), .int .i64 1, .int .i64 1] 25 :: [blk w0.heap.size #[.int .i64 q1, .int .i64 q2, .int .i64 q3, .slice A L.length cc, .slice A2 cs.length c2, .int .i64 at_] 53])) := Aside.mk (h9.order 10 [1, 2, 3, 4, 5, 6, 7, 8, 9, 0] rfl rfl)
      clear h9
      refine ⟨_, rfl, ?_⟩
      refine hK.out _ _ ⟨H.out.cell 0, H.out.cell 1, H.out.cell 2, H.out.cell 3, (H.out.pick 2 rfl).cell 0, (H.out.pick 2 rfl).cell 1, (H.out.pick 2 rfl).cell 2, (H.out.pick 2 rfl).cell 3, (H.out.pick 4 rfl).cell 0, (H.out.pick 4 rfl).cell 1, (H.out.pick 4 rfl).cell 2, (H.out.pick 4 rfl).cell 3, (H.out.pick 4 rfl).cell 4, (H.out.pick 4 rfl).cell 5, (H.out.pick 10 rfl).cell 0, (H.out.pick 10 rfl).cell 1, (H.out.pick 10 rfl).cell 2⟩ (fun hHeld => ?_)
      clear hK K
      refine norm_ (a' := ?_) ?_ ?_
      rotate_left
      · show Act.put _ (some 76) _ = _
        simp only [nrm]
        rfl
      refine pu_ (v := ?_) (a' := ?_) 9 (some 77) 1023 rfl rfl HT_ (by kernel_rfl) (.inl ⟨by rfl, ?_⟩) ?_ ?_; rotate_left 2; (· intro w'; go_simp; with_reducible rfl); (· simp only [nrm]; rfl)
      refine pu_ (v := ?_) (a' := ?_) 10 (some 78) 2047 rfl rfl HT_ (by kernel_rfl) (.inl ⟨by rfl, ?_⟩) ?_ ?_; rotate_left 2; (· intro w'; go_simp; with_reducible rfl); (· simp only [nrm]; rfl)
      refine tk_ (v := ?_) (a' := ?_) 11 (some 79) 4095 rfl rfl HT_ HW_ (by kernel_rfl) (.inl ⟨by rfl, ?_⟩) hHeld ?_ ?_; rotate_left 2; (· rintro w' ⟨_, _, _, _, _, _, _, _, _, _, _, _, _, _, _, _, _⟩; go_simp; with_reducible rfl); (· simp only [nrm]; rfl)
      refine tk_ (v := ?_) (a' := ?_) 12 (some 80) 8191 rfl rfl HT_ HW_ (by kernel_rfl) (.inl ⟨by rfl, ?_⟩) hHeld ?_ ?_; rotate_left 2; (· rintro w' ⟨_, _, _, _, _, _, _, _, _, _, _, _, _, _, _, _, _⟩; go_simp; with_reducible rfl); (· simp only [nrm]; rfl)
      refine on_ 13 (some 81) 16383 rfl rfl HT_ (by kernel_rfl) (by decide) (fun K hK => ?_)
      refine goes_ Tryd.func27 (by kernel_rfl) rfl #[.agg #[.int .i64 R1, .int .i64 R2, .int .i64 R3, .slice A5 ws.length c5], .agg #[.int .i64 R1, .int .i64 R2, .int .i64 R3, .slice A6 ws.length c6]] (by rfl) rfl rfl (by (try simp only [List.map_toArray, List.map_cons, List.map_nil]); first | done | rfl) ?_
      refine (samecell_st HWL.out (H.out.order 4 [3, 1, 0, 2] rfl rfl)).mono ?_
      rintro e w23 ⟨rfl, h9⟩
      replace H : Aside (St w0 w23 (blk xb #[.int .i64 R1, .int .i64 R2, .int .i64 R3, .slice A6 ws.length c6] 60 :: row 2 1 (.slice A6 ws.length c6) ws.length (I64 ws) :: blk cb #[.int .i64 R1, .int .i64 R2, .int .i64 R3, .slice A5 ws.length c5] 60 :: row 2 1 (.slice A5 ws.length c5) ws.length (I64 ws) :: blk dm #[.int .i64 ((P : Int) + 1), .int .i64 1, .int .i64 1, .int .i64 64, .int .i64 22, .int .i64 (128 + 64 * (P : Int))] 27 :: tbB t vL vM :: tbR vL E :: arB a gC nN (.slice none 0 0) true 0 0 :: ceB gC X0 :: blk gD (U X0).toArray 22 :: blk g1_ #[.int .i64 ((P : Int) + 1), .int .i64 1, .int .i64 1] 25 :: [blk w0.heap.size #[.int .i64 q1, .int .i64 q2, .int .i64 q3, .slice A L.length cc, .slice A2 cs.length c2, .int .i64 at_] 53])) := Aside.mk (h9.order 4 [2, 1, 3, 0] rfl rfl)
      clear h9
      refine ⟨_, rfl, ?_⟩
      refine hK.out _ _ ⟨H.out.cell 0, H.out.cell 1, H.out.cell 2, H.out.cell 3, (H.out.pick 2 rfl).cell 0, (H.out.pick 2 rfl).cell 1, (H.out.pick 2 rfl).cell 2, (H.out.pick 2 rfl).cell 3, (H.out.pick 4 rfl).cell 0, (H.out.pick 4 rfl).cell 1, (H.out.pick 4 rfl).cell 2, (H.out.pick 4 rfl).cell 3, (H.out.pick 4 rfl).cell 4, (H.out.pick 4 rfl).cell 5, (H.out.pick 10 rfl).cell 0, (H.out.pick 10 rfl).cell 1, (H.out.pick 10 rfl).cell 2⟩ (fun hHeld => ?_)
      clear hK K
      refine norm_ (a' := ?_) ?_ ?_
      rotate_left
      · show Act.put _ (some 81) _ = _
        simp only [nrm]
        rfl
      refine pu_ (v := ?_) (a' := ?_) 14 (some 82) 32767 rfl rfl HT_ (by kernel_rfl) (.inl ⟨by rfl, ?_⟩) ?_ ?_; rotate_left 2; (· intro w'; go_simp; with_reducible rfl); (· simp only [nrm]; rfl)
      refine pu_ (v := ?_) (a' := ?_) 15 (some 83) 65535 rfl rfl HT_ (by kernel_rfl) (.inl ⟨by rfl, ?_⟩) ?_ ?_; rotate_left 2; (· intro w'; go_simp; with_reducible rfl); (· simp only [nrm]; rfl)
      refine pu_ (v := ?_) (a' := ?_) 16 (some 84) 131071 rfl rfl HT_ (by kernel_rfl) (.inl ⟨by rfl, ?_⟩) ?_ ?_; rotate_left 2; (· intro w'; go_simp; with_reducible rfl); (· simp only [nrm]; rfl)
      refine pu_ (v := ?_) (a' := ?_) 17 (some 85) 262143 rfl rfl HT_ (by kernel_rfl) (.inl ⟨by rfl, ?_⟩) ?_ ?_; rotate_left 2; (· intro w'; go_simp; with_reducible rfl); (· simp only [nrm]; rfl)
      refine pu_ (v := ?_) (a' := ?_) 18 (some 86) 524287 rfl rfl HT_ (by kernel_rfl) (.inl ⟨by rfl, ?_⟩) ?_ ?_; rotate_left 2; (· intro w'; go_simp; with_reducible rfl); (· simp only [nrm]; rfl)
      refine pu_ (v := ?_) (a' := ?_) 19 (some 87) 1048575 rfl rfl HT_ (by kernel_rfl) (.inl ⟨by rfl, ?_⟩) ?_ ?_; rotate_left 2; (· intro w'; go_simp; with_reducible rfl); (· simp only [nrm]; rfl)
      refine pu_ (v := ?_) (a' := ?_) 20 (some 2) 2097151 rfl rfl HT_ (by kernel_rfl) (.inl ⟨by rfl, ?_⟩) ?_ ?_; rotate_left 2; (· intro w'; go_simp; with_reducible rfl); (· simp only [nrm]; rfl)
      refine done_ (done_of HT_.out (by kernel_rfl)) ?_
      clear HT_ HW_ hHeld
      go_wp2
      go_ret
      exact ⟨rfl, H.out.below⟩
    case true =>
      refine start_ (n := 21) (S := fun w' => w'.cell? ⟨xb, 0, none⟩ = some (.int .i64 R1) ∧ w'.cell? ⟨xb, 1, none⟩ = some (.int .i64 R2) ∧ w'.cell? ⟨xb, 2, none⟩ = some (.int .i64 R3) ∧ w'.cell? ⟨xb, 3, none⟩ = some (.slice A6 ws.length c6) ∧ w'.cell? ⟨cb, 0, none⟩ = some (.int .i64 R1) ∧ w'.cell? ⟨cb, 1, none⟩ = some (.int .i64 R2) ∧ w'.cell? ⟨cb, 2, none⟩ = some (.int .i64 R3) ∧ w'.cell? ⟨cb, 3, none⟩ = some (.slice A5 ws.length c5) ∧ w'.cell? ⟨dm, 0, none⟩ = some (.int .i64 ((P : Int) + 1)) ∧ w'.cell? ⟨dm, 1, none⟩ = some (.int .i64 1) ∧ w'.cell? ⟨dm, 2, none⟩ = some (.int .i64 1) ∧ w'.cell? ⟨dm, 3, none⟩ = some (.int .i64 64) ∧ w'.cell? ⟨dm, 4, none⟩ = some (.int .i64 22) ∧ w'.cell? ⟨dm, 5, none⟩ = some (.int .i64 (128 + 64 * (P : Int))) ∧ w'.cell? ⟨g1_, 0, none⟩ = some (.int .i64 ((P : Int) + 1)) ∧ w'.cell? ⟨g1_, 1, none⟩ = some (.int .i64 1) ∧ w'.cell? ⟨g1_, 2, none⟩ = some (.int .i64 1)) (ds := []) (flg 21 0) (by kernel_rfl) rfl rfl (⟨H.out.cell 0, H.out.cell 1, H.out.cell 2, H.out.cell 3, (H.out.pick 2 rfl).cell 0, (H.out.pick 2 rfl).cell 1, (H.out.pick 2 rfl).cell 2, (H.out.pick 2 rfl).cell 3, (H.out.pick 4 rfl).cell 0, (H.out.pick 4 rfl).cell 1, (H.out.pick 4 rfl).cell 2, (H.out.pick 4 rfl).cell 3, (H.out.pick 4 rfl).cell 4, (H.out.pick 4 rfl).cell 5, (H.out.pick 10 rfl).cell 0, (H.out.pick 10 rfl).cell 1, (H.out.pick 10 rfl).cell 2⟩) (fun hHeld => ?_)
      refine with_tabW lo.tab12 lo.bits12 (fun HT_ HW_ => ?_)
      refine pu_ (v := ?_) (a' := ?_) 0 (some 68) 1 rfl rfl HT_ (by kernel_rfl) (.inl ⟨by rfl, ?_⟩) ?_ ?_; rotate_left 2; (· intro w'; go_simp; with_reducible rfl); (· simp only [nrm]; rfl)
      refine tk_ (v := ?_) (a' := ?_) 1 (some 69) 3 rfl rfl HT_ HW_ (by kernel_rfl) (.inl ⟨by rfl, ?_⟩) hHeld ?_ ?_; rotate_left 2; (· rintro w' ⟨_, _, _, _, _, _, _, _, _, _, _, _, _, _, _, _, _⟩; go_simp; with_reducible rfl); (· simp only [nrm]; rfl)
      refine pu_ (v := ?_) (a' := ?_) 3 (some 71) 11 rfl rfl HT_ (by kernel_rfl) (.inl ⟨by rfl, ?_⟩) ?_ ?_; rotate_left 2; (· intro w'; go_simp; with_reducible rfl); (· simp only [nrm]; rfl)
      refine pu_ (v := ?_) (a' := ?_) 5 (some 73) 43 rfl rfl HT_ (by kernel_rfl) (.inl ⟨by rfl, ?_⟩) ?_ ?_; rotate_left 2; (· intro w'; go_simp; with_reducible rfl); (· simp only [nrm]; rfl)
      refine tk_ (v := ?_) (a' := ?_) 6 (some 74) 107 rfl rfl HT_ HW_ (by kernel_rfl) (.inl ⟨by rfl, ?_⟩) hHeld ?_ ?_; rotate_left 2; (· rintro w' ⟨_, _, _, _, _, _, _, _, _, _, _, _, _, _, _, _, _⟩; go_simp; with_reducible rfl); (· simp only [nrm]; rfl)
      refine pu_ (v := ?_) (a' := ?_) 7 (some 75) 235 rfl rfl HT_ (by kernel_rfl) (.inl ⟨by rfl, ?_⟩) ?_ ?_; rotate_left 2; (· intro w'; go_simp; with_reducible rfl); (· simp only [nrm]; rfl)
      refine on_ 2 (some 70) 239 rfl rfl HT_ (by kernel_rfl) (by decide) (fun K hK => ?_)
      refine goes_ Tryd.func15 (by kernel_rfl) rfl #[.agg #[.int .i64 ((P : Int) + 1), .int .i64 1, .int .i64 1]] (by rfl) rfl rfl (by (try simp only [List.map_toArray, List.map_cons, List.map_nil]); first | done | rfl) ?_
      refine (windrowlaw11_plan.calls _ _ _ _ _ _ _ P5.out).mono ?_
      rintro e w20 ⟨rfl, hb⟩
      replace H := Aside.mk (H.out.step hb)
      clear hb
      refine ⟨_, rfl, ?_⟩
      refine hK.out _ _ ⟨H.out.cell 0, H.out.cell 1, H.out.cell 2, H.out.cell 3, (H.out.pick 2 rfl).cell 0, (H.out.pick 2 rfl).cell 1, (H.out.pick 2 rfl).cell 2, (H.out.pick 2 rfl).cell 3, (H.out.pick 4 rfl).cell 0, (H.out.pick 4 rfl).cell 1, (H.out.pick 4 rfl).cell 2, (H.out.pick 4 rfl).cell 3, (H.out.pick 4 rfl).cell 4, (H.out.pick 4 rfl).cell 5, (H.out.pick 10 rfl).cell 0, (H.out.pick 10 rfl).cell 1, (H.out.pick 10 rfl).cell 2⟩ (fun hHeld => ?_)
      clear hK K
      refine norm_ (a' := ?_) ?_ ?_
      rotate_left
      · show Act.put _ (some 70) _ = _
        simp only [nrm]
        rfl
      refine on_ 4 (some 72) 255 rfl rfl HT_ (by kernel_rfl) (by decide) (fun K hK => ?_)
      refine goes_ Tryd.func25 (by kernel_rfl) rfl #[.pointer (some ⟨a, 0, none⟩), .agg #[.int .i64 ((P : Int) + 1), .int .i64 1, .int .i64 1], .int .i64 at_] (by rfl) rfl rfl (by (try simp only [List.map_toArray, List.map_cons, List.map_nil]); first | done | rfl) ?_
      refine (HAL.out _ _ (H.out.order 9 [7, 8, 0, 1, 2, 3, 4, 5, 6] rfl rfl)).mono ?_
      rintro e w21 ⟨rfl, h9⟩
      replace H : Aside (St w0 w21 (blk xb #[.int .i64 R1, .int .i64 R2, .int .i64 R3, .slice A6 ws.length c6] 60 :: row 2 1 (.slice A6 ws.length c6) ws.length (I64 ws) :: blk cb #[.int .i64 R1, .int .i64 R2, .int .i64 R3, .slice A5 ws.length c5] 60 :: row 2 1 (.slice A5 ws.length c5) ws.length (I64 ws) :: blk dm #[.int .i64 ((P : Int) + 1), .int .i64 1, .int .i64 1, .int .i64 64, .int .i64 22, .int .i64 (128 + 64 * (P : Int))] 27 :: tbB t vL vM :: tbR vL E :: arB a gC nN (.slice none 0 0) true 0 0 :: ceB gC X0 :: blk gD (U X0).toArray 22 :: blk g1_ #[.int .i64 ((P : Int) + 1), .int .i64 1, .int .i64 1] 25 :: [blk w0.heap.size #[.int .i64 q1, .int .i64 q2, .int .i64 q3, .slice A L.length cc, .slice A2 cs.length c2, .int .i64 at_] 53])) := Aside.mk (h9.order 9 [2, 3, 4, 5, 6, 7, 8, 0, 1] rfl rfl)
      clear h9
      refine ⟨_, rfl, ?_⟩
      refine hK.out _ _ ⟨H.out.cell 0, H.out.cell 1, H.out.cell 2, H.out.cell 3, (H.out.pick 2 rfl).cell 0, (H.out.pick 2 rfl).cell 1, (H.out.pick 2 rfl).cell 2, (H.out.pick 2 rfl).cell 3, (H.out.pick 4 rfl).cell 0, (H.out.pick 4 rfl).cell 1, (H.out.pick 4 rfl).cell 2, (H.out.pick 4 rfl).cell 3, (H.out.pick 4 rfl).cell 4, (H.out.pick 4 rfl).cell 5, (H.out.pick 10 rfl).cell 0, (H.out.pick 10 rfl).cell 1, (H.out.pick 10 rfl).cell 2⟩ (fun hHeld => ?_)
      clear hK K
      refine norm_ (a' := ?_) ?_ ?_
      rotate_left
      · show Act.put _ (some 72) _ = _
        simp only [nrm]
        rfl
      refine on_ 8 (some 76) 511 rfl rfl HT_ (by kernel_rfl) (by decide) (fun K hK => ?_)
      refine goes_ Tryd.func26 (by kernel_rfl) rfl #[.slice (some ⟨gD, 0, none⟩) nN nN, MapV P, .int .i64 at_] (by rfl) rfl rfl (by (try simp only [List.map_toArray, List.map_cons, List.map_nil]); first | done | rfl) ?_
      refine (HRA.out _ _ (H.out.pick 9 rfl)).mono ?_
      rintro e w22 ⟨rfl, h9⟩
      replace H : Aside (St w0 w22 (blk xb #[.int .i64 R1, .int .i64 R2, .int .i64 R3, .slice A6 ws.length c6] 60 :: row 2 1 (.slice A6 ws.length c6) ws.length (I64 ws) :: blk cb #[.int .i64 R1, .int .i64 R2, .int .i64 R3, .slice A5 ws.length c5] 60 :: row 2 1 (.slice A5 ws.length c5) ws.length (I64 ws) :: blk dm #[.int .i64 ((P : Int) + 1), .int .i64 1, .int .i64 1, .int .i64 64, .int .i64 22, .int .i64 (128 + 64 * (P : Int))] 27 :: tbB t vL vM :: tbR vL E :: arB a gC nN (.slice none 0 0) true 0 0 :: ceB gC X0 :: blk gD (U X0).toArray 22 :: blk g1_ #[.int .i64 ((P : Int) + 1), .int .i64 1, .int .i64 1] 25 :: [blk w0.heap.size #[.int .i64 q1, .int .i64 q2, .int .i64 q3, .slice A L.length cc, .slice A2 cs.length c2, .int .i64 at_] 53])) := Aside.mk (h9.order 10 [1, 2, 3, 4, 5, 6, 7, 8, 9, 0] rfl rfl)
      clear h9
      refine ⟨_, rfl, ?_⟩
      refine hK.out _ _ ⟨H.out.cell 0, H.out.cell 1, H.out.cell 2, H.out.cell 3, (H.out.pick 2 rfl).cell 0, (H.out.pick 2 rfl).cell 1, (H.out.pick 2 rfl).cell 2, (H.out.pick 2 rfl).cell 3, (H.out.pick 4 rfl).cell 0, (H.out.pick 4 rfl).cell 1, (H.out.pick 4 rfl).cell 2, (H.out.pick 4 rfl).cell 3, (H.out.pick 4 rfl).cell 4, (H.out.pick 4 rfl).cell 5, (H.out.pick 10 rfl).cell 0, (H.out.pick 10 rfl).cell 1, (H.out.pick 10 rfl).cell 2⟩ (fun hHeld => ?_)
      clear hK K
      refine norm_ (a' := ?_) ?_ ?_
      rotate_left
      · show Act.put _ (some 76) _ = _
        simp only [nrm]
        rfl
      refine pu_ (v := ?_) (a' := ?_) 9 (some 77) 1023 rfl rfl HT_ (by kernel_rfl) (.inl ⟨by rfl, ?_⟩) ?_ ?_; rotate_left 2; (· intro w'; go_simp; with_reducible rfl); (· simp only [nrm]; rfl)
      refine pu_ (v := ?_) (a' := ?_) 10 (some 78) 2047 rfl rfl HT_ (by kernel_rfl) (.inl ⟨by rfl, ?_⟩) ?_ ?_; rotate_left 2; (· intro w'; go_simp; with_reducible rfl); (· simp only [nrm]; rfl)
      refine tk_ (v := ?_) (a' := ?_) 11 (some 79) 4095 rfl rfl HT_ HW_ (by kernel_rfl) (.inl ⟨by rfl, ?_⟩) hHeld ?_ ?_; rotate_left 2; (· rintro w' ⟨_, _, _, _, _, _, _, _, _, _, _, _, _, _, _, _, _⟩; go_simp; with_reducible rfl); (· simp only [nrm]; rfl)
      refine tk_ (v := ?_) (a' := ?_) 12 (some 80) 8191 rfl rfl HT_ HW_ (by kernel_rfl) (.inl ⟨by rfl, ?_⟩) hHeld ?_ ?_; rotate_left 2; (· rintro w' ⟨_, _, _, _, _, _, _, _, _, _, _, _, _, _, _, _, _⟩; go_simp; with_reducible rfl); (· simp only [nrm]; rfl)
      refine on_ 13 (some 81) 16383 rfl rfl HT_ (by kernel_rfl) (by decide) (fun K hK => ?_)
      refine goes_ Tryd.func27 (by kernel_rfl) rfl #[.agg #[.int .i64 R1, .int .i64 R2, .int .i64 R3, .slice A5 ws.length c5], .agg #[.int .i64 R1, .int .i64 R2, .int .i64 R3, .slice A6 ws.length c6]] (by rfl) rfl rfl (by (try simp only [List.map_toArray, List.map_cons, List.map_nil]); first | done | rfl) ?_
      refine (samecell_st HWL.out (H.out.order 4 [3, 1, 0, 2] rfl rfl)).mono ?_
      rintro e w23 ⟨rfl, h9⟩
      replace H : Aside (St w0 w23 (blk xb #[.int .i64 R1, .int .i64 R2, .int .i64 R3, .slice A6 ws.length c6] 60 :: row 2 1 (.slice A6 ws.length c6) ws.length (I64 ws) :: blk cb #[.int .i64 R1, .int .i64 R2, .int .i64 R3, .slice A5 ws.length c5] 60 :: row 2 1 (.slice A5 ws.length c5) ws.length (I64 ws) :: blk dm #[.int .i64 ((P : Int) + 1), .int .i64 1, .int .i64 1, .int .i64 64, .int .i64 22, .int .i64 (128 + 64 * (P : Int))] 27 :: tbB t vL vM :: tbR vL E :: arB a gC nN (.slice none 0 0) true 0 0 :: ceB gC X0 :: blk gD (U X0).toArray 22 :: blk g1_ #[.int .i64 ((P : Int) + 1), .int .i64 1, .int .i64 1] 25 :: [blk w0.heap.size #[.int .i64 q1, .int .i64 q2, .int .i64 q3, .slice A L.length cc, .slice A2 cs.length c2, .int .i64 at_] 53])) := Aside.mk (h9.order 4 [2, 1, 3, 0] rfl rfl)
      clear h9
      refine ⟨_, rfl, ?_⟩
      refine hK.out _ _ ⟨H.out.cell 0, H.out.cell 1, H.out.cell 2, H.out.cell 3, (H.out.pick 2 rfl).cell 0, (H.out.pick 2 rfl).cell 1, (H.out.pick 2 rfl).cell 2, (H.out.pick 2 rfl).cell 3, (H.out.pick 4 rfl).cell 0, (H.out.pick 4 rfl).cell 1, (H.out.pick 4 rfl).cell 2, (H.out.pick 4 rfl).cell 3, (H.out.pick 4 rfl).cell 4, (H.out.pick 4 rfl).cell 5, (H.out.pick 10 rfl).cell 0, (H.out.pick 10 rfl).cell 1, (H.out.pick 10 rfl).cell 2⟩ (fun hHeld => ?_)
      clear hK K
      refine norm_ (a' := ?_) ?_ ?_
      rotate_left
      · show Act.put _ (some 81) _ = _
        simp only [nrm]
        rfl
      refine pu_ (v := ?_) (a' := ?_) 14 (some 82) 32767 rfl rfl HT_ (by kernel_rfl) (.inl ⟨by rfl, ?_⟩) ?_ ?_; rotate_left 2; (· intro w'; go_simp; with_reducible rfl); (· simp only [nrm]; rfl)
      refine pu_ (v := ?_) (a' := ?_) 15 (some 83) 65535 rfl rfl HT_ (by kernel_rfl) (.inl ⟨by rfl, ?_⟩) ?_ ?_; rotate_left 2; (· intro w'; go_simp; with_reducible rfl); (· simp only [nrm]; rfl)
      refine pu_ (v := ?_) (a' := ?_) 16 (some 84) 131071 rfl rfl HT_ (by kernel_rfl) (.inl ⟨by rfl, ?_⟩) ?_ ?_; rotate_left 2; (· intro w'; go_simp; with_reducible rfl); (· simp only [nrm]; rfl)
      refine pu_ (v := ?_) (a' := ?_) 17 (some 85) 262143 rfl rfl HT_ (by kernel_rfl) (.inl ⟨by rfl, ?_⟩) ?_ ?_; rotate_left 2; (· intro w'; go_simp; with_reducible rfl); (· simp only [nrm]; rfl)
      refine pu_ (v := ?_) (a' := ?_) 18 (some 86) 524287 rfl rfl HT_ (by kernel_rfl) (.inl ⟨by rfl, ?_⟩) ?_ ?_; rotate_left 2; (· intro w'; go_simp; with_reducible rfl); (· simp only [nrm]; rfl)
      refine pu_ (v := ?_) (a' := ?_) 19 (some 87) 1048575 rfl rfl HT_ (by kernel_rfl) (.inl ⟨by rfl, ?_⟩) ?_ ?_; rotate_left 2; (· intro w'; go_simp; with_reducible rfl); (· simp only [nrm]; rfl)
      refine pu_ (v := ?_) (a' := ?_) 20 (some 2) 2097151 rfl rfl HT_ (by kernel_rfl) (.inl ⟨by rfl, ?_⟩) ?_ ?_; rotate_left 2; (· intro w'; go_simp; with_reducible rfl); (· simp only [nrm]; rfl)
      refine done_ (done_of HT_.out (by kernel_rfl)) ?_
      clear HT_ HW_ hHeld
      go_wp2
      go_ret
      exact ⟨rfl, H.out.below⟩
end Go.Proofs.YtelfiegocdjnoaaDoor.Ar
