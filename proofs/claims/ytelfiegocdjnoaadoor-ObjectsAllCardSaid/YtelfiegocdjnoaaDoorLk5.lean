/- The document's Look over what is owned, walked. Conditions: a plan of at most five pages; words of 64 bits. -/
import Derived.Test.YtelfiegocdjnoaaDoorLk4
import Derived.Test.YtelfiegocdjnoaaDoorLk7
import Derived.Deep.CutBlock
import Derived.Test.YtelfiegocdjnoaaDoorMrF0
import Derived.Test.YtelfiegocdjnoaaDoorMrF1
namespace Go.Proofs.YtelfiegocdjnoaaDoor.Ar
open Go Go.RowKit Go.Proofs.YtelfiegocdjnoaaDoor.Sep Go.Proofs.YtelfiegocdjnoaaDoor.Pg Go.Proofs.YtelfiegocdjnoaaDoorW.PrintWords Go.Proofs.YtelfiegocdjnoaaDoorW.PrintLast Go.Proofs.YtelfiegocdjnoaaDoorW.PrintMore Go.Proofs.YtelfiegocdjnoaaDoor.Q
set_option linter.unusedVariables false
set_option linter.unusedSimpArgs false
set_option maxHeartbeats 8000000
set_option maxRecDepth 100000
def rl.T12 : Bool × List (List Nat × List Nat) := (true, [([], []), ([0], [0]), ([], []), ([], []), ([], []), ([3, 4], [3, 4]), ([2, 5], [2, 5]), ([6], [6]), ([7], [7]), ([8], [8]), ([1, 9], [1, 9]), ([0, 1, 2, 3, 4, 5, 6, 7, 8, 9, 10], []), ([11, 10, 10, 0, 1, 2, 3, 4, 5, 6, 7, 8, 9, 10], [10, 11])])
def rl.B12 : List Nat := [0, 1, 0, 0, 0, 24, 60, 124, 252, 508, 1023, 2047, 4095]
theorem rl.tab12 : rtab .any (opsOf Tryd.f24 12) = rl.T12 := by kernel_rfl
theorem rl.bits12 : waitsOk rl.T12.2 rl.B12 = true := by kernel_rfl
theorem blk_cells5 {w0 w : World} {g : Nat} {cs : Array Value} {t : TypeId} {F : List HP} (h : St w0 w (blk g cs t :: F)) : ∀ (j : Nat) (u : Value), cs.toList[j]? = some u → w.cell? ((⟨g, 0, none⟩ : Addr).add j) = some u := by
  intro j u hj
  have ha : (⟨g, 0, none⟩ : Addr).add j = ⟨g, j, none⟩ := by unfold Addr.add; split <;> simp_all
  rw [ha, h.cell j]
  simpa using hj
variable {w0 w : World} {F : List HP} {gD nN : Nat} {X : List Int}
theorem entry_w {P i : Nat} {ek ec es eo ey : Int} {eb : Bool} (hX : X.length = nN) (hN : nN = 128 + 64 * P) (hP : P < 5) (he : windrowref11_Entry.f 3 X ((P : Int) + 1) 1 1 64 22 (128 + 64 * (P : Int)) (i : Int) = some (ek, ec, es, eo, ey, eb)) (h : St w0 w (blk gD (U X).toArray 22 :: F)) :
    Calls Tryd.prog 90 #[.slice (some ⟨gD, 0, none⟩) nN nN, .agg #[.int .i64 ((P : Int) + 1), .int .i64 1, .int .i64 1, .int .i64 64, .int .i64 22, .int .i64 (128 + 64 * (P : Int))], .int .i64 i] w fun e w' => e = .returned (.tuple #[.agg #[.int .i64 ek, .int .i64 ec, .int .i64 es, .int .i64 eo, .int .i64 ey], .bool eb]) ∧ Below w.heap.size w w' := by
  subst hX
  exact windrowref11_Entry.calls 3 (some ⟨gD, 0, none⟩) X.length X _ _ _ _ _ _ _ _ _ _ _ _ _ w (cells_U h (by omega)) (Nat.le_refl _) he
theorem rlook_w {P : Nat} (hP : P < 5) (hX : X.length = nN) (hN : nN = 128 + 64 * P) (hr : ∀ i, 0 ≤ X.getD i 0 ∧ X.getD i 0 < 18446744073709551616) (at_ : Int) {A2 : Option Addr} {c2 : Nat} {cs : List S161} (hC : Kd.C k161 w0 A2 cs.length cs) (hc : cs.length ≤ c2) {R : Int × Int × Int × List Int × Int} (hR : R = lookR P X (cs.map fun x => x.f1.length) at_) (h : St w0 w (blk gD (U X).toArray 22 :: F)) :
    Calls Tryd.prog 24 #[.slice (some ⟨gD, 0, none⟩) nN nN, MapV P, .slice A2 cs.length c2, .int .i64 at_] w fun e w' => ∃ V, e = .returned (.tuple #[.agg #[.int .i64 R.1, .int .i64 R.2.1, .int .i64 R.2.2.1, V], .int .i64 R.2.2.2.2]) ∧ St w0 w' (row 2 1 V R.2.2.2.1.length (I64 R.2.2.2.1) :: blk gD (U X).toArray 22 :: F) := by
  have HRA := Aside.mk (fun (w1 : World) (F : List HP) (h : St w0 w1 (blk gD (U X).toArray 22 :: F)) => rall_st hP hX hN hr at_ h)
  have H : Aside (St w0 _ (blk (w.heap.size + 1) #[.int .i64 0, .int .i64 0, .int .i64 0, .slice none 0 0] 60 :: blk w.heap.size #[.int .i64 ((P : Int) + 1), .int .i64 1, .int .i64 1, .int .i64 64, .int .i64 22, .int .i64 (128 + 64 * (P : Int))] 27 :: blk gD (U X).toArray 22 :: F)) := Aside.mk (by have := (h.alloc #[.int .i64 ((P : Int) + 1), .int .i64 1, .int .i64 1, .int .i64 64, .int .i64 22, .int .i64 (128 + 64 * (P : Int))] 27).alloc #[.int .i64 0, .int .i64 0, .int .i64 0, .slice none 0 0] 60; simpa using this)
  have HC := Aside.mk hC
  have HCC := Aside.mk hc
  unfold lookR at hR
  by_cases hall : allR P X at_ = true
  case neg =>
    rw [if_neg hall] at hR
    have HR4 := Aside.mk hR
    rw [show allR P X at_ = false by simpa using hall] at HRA
    have b0 := (H.out.pick 1 rfl).cell 0
    have b1 := (H.out.pick 1 rfl).cell 1
    have b2 := (H.out.pick 1 rfl).cell 2
    have b3 := (H.out.pick 1 rfl).cell 3
    have b4 := (H.out.pick 1 rfl).cell 4
    have b5 := (H.out.pick 1 rfl).cell 5
    clear h hX hr hP hall hN hC hc hR
    go_enter Tryd.func24, Tryd.ntmps24
    go_wp2_with (first
      | (go_at_call 26; refine (HRA.out _ _ (H.out.pick 2 rfl)).mono ?_; rintro e w1 ⟨rfl, h9⟩; replace H := Aside.mk h9; clear h9 b0 b1 b2 b3 b4 b5)
      | (with_reducible refine stop_at (.store 60 (.tmp 8) (.tmp 23)) rfl ?_))
    refine ⟨?_⟩
    refine st_store rfl rfl rfl [.int .i64 0, .int .i64 0, .int .i64 0, .slice none 0 0] #[.int .i64 0, .int .i64 0, .int .i64 0, .slice none 0 0] rfl rfl rfl (Nat.le_of_ble_eq_true rfl) (by simp [Value.oneCell']) (H.out.pick 1 rfl) rfl ?_
    intro w90 h_
    have H := Aside.mk h_
    have o0 := h_.cell 0
    have o1 := h_.cell 1
    have o2 := h_.cell 2
    have o3 := h_.cell 3
    clear h_
    go_wp2
    refine bodyPost_ret (results_ct rfl _ _ _ 60 #[.int .i64 0, .int .i64 0, .int .i64 0, .slice none 0 0] (0, 0) _ rfl H.out.heap Tryd.underlying60 rfl (by kernel_rfl)) rfl ?_
    rw [HR4.out]
    exact ⟨.slice none 0 0, rfl, ((H.out.order 3 [0, 2, 1] rfl rfl).rest.rest.nil_row 2 1)⟩
  case pos =>
  rw [if_pos hall] at hR
  rw [hall] at HRA
  obtain ⟨aN, i, j, rfl, hz, hi, hj, hNa⟩ := allR_in hall
  have P1 := Aside.mk (rheap_ P hP (aN : Int))
  rw [hz] at P1
  have PD := Aside.mk (rdech_c (X.getD aN 0) (hr aN).1 (hr aN).2)
  rw [Int.toNat_natCast] at hR
  unfold okR at hR
  obtain ⟨ek, ec, es, eo, ey, ef, he⟩ : ∃ ek ec es eo ey ef, entR P X aN = (ek, ec, es, eo, ey, ef) := ⟨_, _, _, _, _, _, rfl⟩
  have hz1 : (plI P (aN : Int)).1 = (i : Int) := by rw [hz]
  have hz2 : (plI P (aN : Int)).2 = (j : Int) := by rw [hz]
  have hd : dec (X.getD (22 + i) 0) = (ek, ec, es, eo, ey, ef) := by rw [← he]; unfold entR; rw [hz1, Int.toNat_natCast]
  have ha := hall
  unfold allR at ha
  rw [hz1, hz2, if_neg (by omega), Int.toNat_natCast, Int.toNat_natCast, he] at ha
  have PE := Aside.mk (rentry_ (P := P) (X := X) hP (by omega) hr i hi hd 3 (by decide) 1 1 64 (128 + 64 * (P : Int)))
  have hhd : (decH (X.getD aN 0)).2.2.2 = 0 → isH (decH (X.getD aN 0)).1 (decH (X.getD aN 0)).2.1 (decH (X.getD aN 0)).2.2.1 = true := decH_ok
  rw [hz1, hz2, he] at hR
  clear hz hz1 hz2 he hd hall
  generalize hq : decH (X.getD aN 0) = q at *
  obtain ⟨c, k, n, f⟩ := q
  clear hq
  dsimp only at hhd hR ha PD
  have HRE := Aside.mk hR
  have HHD := Aside.mk hhd
  have HAI := Aside.mk ha
  have HXX := Aside.mk hX
  have HNN := Aside.mk hN
  have HI := Aside.mk (And.intro hi hj)
  have HPp := Aside.mk hP
  have HNA := Aside.mk hNa
  have hi0 : (0 : Int) ≤ (aN : Int) := by omega
  have nl : (aN : Int) < (nN : Int) := by omega
  have dl : decide ((aN : Int) < (nN : Int)) = true := by simp; omega
  have HCD : Aside (∀ (w1 : World) (L : List HP) (j : Nat), j < nN → St w0 w1 (blk gD (U X).toArray 22 :: L) → w1.cell? ⟨gD, j, none⟩ = some (.int .u64 (X.getD j 0))) := ⟨fun w1 L j hj h => (h.cell j).trans (U_getD (by omega))⟩
  have HXU := Aside.mk hX
  clear h hr hX hP hi hj hhd hN hNa hc hC hR ha
  have b0 := (H.out.pick 1 rfl).cell 0
  have b1 := (H.out.pick 1 rfl).cell 1
  have b2 := (H.out.pick 1 rfl).cell 2
  have b3 := (H.out.pick 1 rfl).cell 3
  have b4 := (H.out.pick 1 rfl).cell 4
  have b5 := (H.out.pick 1 rfl).cell 5
  go_enter Tryd.func24, Tryd.ntmps24
  go_wp2_with (first
    | (go_at_call 26; refine (HRA.out _ _ (H.out.pick 2 rfl)).mono ?_; rintro e w1 ⟨rfl, h9⟩; replace H := Aside.mk h9; clear h9 b0 b1 b2 b3 b4 b5; have x0 := HCD.out _ _ aN (by have := HNN.out; have := HNA.out; have := HI.out; omega) H.out)
    | (with_reducible refine stop_at (.store 73 (.tmp 10) (.tmp 30)) rfl ?_)
    | (go_at_call 88; refine (windrowref02_DecodeHead.calls _ _ _ _ _ _ _ PD.out).mono ?_; rintro e w3 ⟨rfl, hb⟩; replace H := Aside.mk (H.out.step hb); clear hb x0))
  replace H := Aside.mk (H.out.alloc #[.int .i64 0, .int .i64 0, .int .i64 0] 73)
  generalize w3.heap.size = hb at H ⊢
  refine ⟨?_⟩
  refine st_store rfl rfl rfl [.int .i64 c, .int .i64 k, .int .i64 n] #[.int .i64 c, .int .i64 k, .int .i64 n] rfl rfl rfl (Nat.le_of_ble_eq_true rfl) (by simp [Value.oneCell']) H.out rfl ?_
  intro w4 h_
  replace H : Aside (St w0 w4 (blk hb #[.int .i64 c, .int .i64 k, .int .i64 n] 73 :: blk gD (U X).toArray 22 :: blk (w.heap.size + 1) #[.int .i64 0, .int .i64 0, .int .i64 0, .slice none 0 0] 60 :: blk w.heap.size #[.int .i64 ((P : Int) + 1), .int .i64 1, .int .i64 1, .int .i64 64, .int .i64 22, .int .i64 (128 + 64 * (P : Int))] 27 :: F)) := Aside.mk h_
  clear h_
  have b0 := (H.out.pick 3 rfl).cell 0; have b1 := (H.out.pick 3 rfl).cell 1; have b2 := (H.out.pick 3 rfl).cell 2; have b3 := (H.out.pick 3 rfl).cell 3; have b4 := (H.out.pick 3 rfl).cell 4; have b5 := (H.out.pick 3 rfl).cell 5
  go_wp2_with (first
    | (go_at_call 89; refine (windrowref06_Map_Heap.calls _ _ _ _ _ _ _ _ _ _ P1.out).mono ?_; rintro e w5 ⟨rfl, hb⟩; replace H := Aside.mk (H.out.step hb); clear hb b0 b1 b2 b3 b4 b5; have b0 := (H.out.pick 3 rfl).cell 0; have b1 := (H.out.pick 3 rfl).cell 1; have b2 := (H.out.pick 3 rfl).cell 2; have b3 := (H.out.pick 3 rfl).cell 3; have b4 := (H.out.pick 3 rfl).cell 4; have b5 := (H.out.pick 3 rfl).cell 5)
    | (go_at_call 90; refine (entry_w HXX.out HNN.out HPp.out PE.out (H.out.pick 1 rfl)).mono ?_; rintro e w6 ⟨rfl, hb⟩; replace H := Aside.mk (H.out.step hb); clear hb b0 b1 b2 b3 b4 b5)
    | (with_reducible refine stop_at (.store 75 (.tmp 14) (.tmp 43)) rfl ?_))
  replace H := Aside.mk (H.out.alloc #[.int .i64 0, .int .i64 0, .int .i64 0, .int .i64 0, .int .i64 0] 75)
  generalize w6.heap.size = en at H ⊢
  refine ⟨?_⟩
  refine st_store rfl rfl rfl [.int .i64 ek, .int .i64 ec, .int .i64 es, .int .i64 eo, .int .i64 ey] #[.int .i64 ek, .int .i64 ec, .int .i64 es, .int .i64 eo, .int .i64 ey] rfl rfl rfl (Nat.le_of_ble_eq_true rfl) (by simp [Value.oneCell']) H.out rfl ?_
  intro w10 h_
  replace H : Aside (St w0 w10 (blk en #[.int .i64 ek, .int .i64 ec, .int .i64 es, .int .i64 eo, .int .i64 ey] 75 :: blk hb #[.int .i64 c, .int .i64 k, .int .i64 n] 73 :: blk gD (U X).toArray 22 :: blk (w.heap.size + 1) #[.int .i64 0, .int .i64 0, .int .i64 0, .slice none 0 0] 60 :: blk w.heap.size #[.int .i64 ((P : Int) + 1), .int .i64 1, .int .i64 1, .int .i64 64, .int .i64 22, .int .i64 (128 + 64 * (P : Int))] 27 :: F)) := Aside.mk h_
  clear h_
  have z0 := (H.out.pick 1 rfl).cell 0
  have z1 := (H.out.pick 1 rfl).cell 1
  have z2 := (H.out.pick 1 rfl).cell 2
  by_cases hf : f = 0
  case neg =>
    have df : (f != 0) = true := by simp; exact hf
    have HR4 : Aside (R = (0, 0, 0, [], 4)) := ⟨by rw [HRE.out, if_neg (by simp [hf])]⟩
    clear hf
    go_wp2_with (with_reducible refine stop_at (.store 60 (.tmp 8) (.tmp 62)) rfl ?_)
    refine ⟨?_⟩
    refine st_store rfl rfl rfl [.int .i64 0, .int .i64 0, .int .i64 0, .slice none 0 0] #[.int .i64 0, .int .i64 0, .int .i64 0, .slice none 0 0] rfl rfl rfl (Nat.le_of_ble_eq_true rfl) (by simp [Value.oneCell']) (H.out.pick 3 rfl) rfl ?_
    intro w90 h_
    have H := Aside.mk h_
    have o0 := h_.cell 0
    have o1 := h_.cell 1
    have o2 := h_.cell 2
    have o3 := h_.cell 3
    clear h_
    go_wp2
    refine bodyPost_ret (results_ct rfl _ _ _ 60 #[.int .i64 0, .int .i64 0, .int .i64 0, .slice none 0 0] (0, 0) _ rfl H.out.heap Tryd.underlying60 rfl (by kernel_rfl)) rfl ?_
    rw [HR4.out]
    exact ⟨.slice none 0 0, rfl, ((H.out.order 5 [0, 1, 2, 4, 3] rfl rfl).rest.rest.rest.rest.nil_row 2 1)⟩
  case pos =>
  subst hf
  have hh := HHD.out rfl
  have HFT := Aside.mk (fun (w1 : World) (hb : Below w0.heap.size w0 w1) => windrowref10_Fits.calls A2 c2 cs c k n _ w1 (Kd.C_below HC.out hb) HCC.out (rfits_ cs c k n))
  by_cases hft : fitT (cs.map fun x => x.f1.length) c k n = true
  case neg =>
    have hft2 : fitT (cs.map fun x => x.f1.length) c k n = false := by simpa using hft
    rw [hft2] at HFT
    have HR4 : Aside (R = (0, 0, 0, [], 4)) := ⟨by rw [HRE.out, if_neg (by rw [hft2]; simp)]⟩
    clear hft2 hft hh
    go_wp2_with (first
      | (go_at_call 91; refine (HFT.out _ H.out.below).mono ?_; rintro e w5 ⟨rfl, hb⟩; replace H := Aside.mk (H.out.step hb); clear hb z0 z1 z2)
      | (with_reducible refine stop_at (.store 60 (.tmp 8) (.tmp 62)) rfl ?_))
    refine ⟨?_⟩
    refine st_store rfl rfl rfl [.int .i64 0, .int .i64 0, .int .i64 0, .slice none 0 0] #[.int .i64 0, .int .i64 0, .int .i64 0, .slice none 0 0] rfl rfl rfl (Nat.le_of_ble_eq_true rfl) (by simp [Value.oneCell']) (H.out.pick 3 rfl) rfl ?_
    intro w90 h_
    have H := Aside.mk h_
    have o0 := h_.cell 0
    have o1 := h_.cell 1
    have o2 := h_.cell 2
    have o3 := h_.cell 3
    clear h_
    go_wp2
    refine bodyPost_ret (results_ct rfl _ _ _ 60 #[.int .i64 0, .int .i64 0, .int .i64 0, .slice none 0 0] (0, 0) _ rfl H.out.heap Tryd.underlying60 rfl (by kernel_rfl)) rfl ?_
    rw [HR4.out]
    exact ⟨.slice none 0 0, rfl, ((H.out.order 5 [0, 1, 2, 4, 3] rfl rfl).rest.rest.rest.rest.nil_row 2 1)⟩
  case pos =>
  rw [hft] at HFT
  have HRM := Aside.mk (fun w : World => room_w (P := P) (es := es) (eo := eo) (ey := ey) HPp.out HI.out.1 HI.out.2 HAI.out hh w)
  have HFT2 := Aside.mk hft
  have HHH := Aside.mk hh
  clear hft hh
  have e0 := H.out.cell 0
  have e1 := H.out.cell 1
  have e2 := H.out.cell 2
  have e3 := H.out.cell 3
  have e4 := H.out.cell 4
  have b0 := (H.out.pick 4 rfl).cell 0; have b1 := (H.out.pick 4 rfl).cell 1; have b2 := (H.out.pick 4 rfl).cell 2; have b3 := (H.out.pick 4 rfl).cell 3; have b4 := (H.out.pick 4 rfl).cell 4; have b5 := (H.out.pick 4 rfl).cell 5
  by_cases hff : fitsI ek ec (j : Int) (hwI c k n) ((P : Int) + 1) (i : Int) = true
  case neg =>
    have hff2 : fitsI ek ec (j : Int) (hwI c k n) ((P : Int) + 1) (i : Int) = false := by simpa using hff
    rw [hff2] at HRM
    have HR4 : Aside (R = (0, 0, 0, [], 4)) := ⟨by rw [HRE.out, if_neg (by rw [hff2]; simp)]⟩
    clear hff2 hff
    go_wp2_with (first
      | (go_at_call 91; refine (HFT.out _ H.out.below).mono ?_; rintro e w5 ⟨rfl, hb⟩; replace H := Aside.mk (H.out.step hb); clear hb z0 z1 z2 e0 e1 e2 e3 e4 b0 b1 b2 b3 b4 b5; have z0 := (H.out.pick 1 rfl).cell 0; have z1 := (H.out.pick 1 rfl).cell 1; have z2 := (H.out.pick 1 rfl).cell 2; have e0 := H.out.cell 0; have e1 := H.out.cell 1; have e2 := H.out.cell 2; have e3 := H.out.cell 3; have e4 := H.out.cell 4; have b0 := (H.out.pick 4 rfl).cell 0; have b1 := (H.out.pick 4 rfl).cell 1; have b2 := (H.out.pick 4 rfl).cell 2; have b3 := (H.out.pick 4 rfl).cell 3; have b4 := (H.out.pick 4 rfl).cell 4; have b5 := (H.out.pick 4 rfl).cell 5)
      | (go_at_call 92; refine (HRM.out _).mono ?_; rintro e w11 ⟨rfl, hb⟩; replace H := Aside.mk (H.out.step hb); clear hb z0 z1 z2 e0 e1 e2 e3 e4 b0 b1 b2 b3 b4 b5)
      | (with_reducible refine stop_at (.store 60 (.tmp 8) (.tmp 62)) rfl ?_))
    refine ⟨?_⟩
    refine st_store rfl rfl rfl [.int .i64 0, .int .i64 0, .int .i64 0, .slice none 0 0] #[.int .i64 0, .int .i64 0, .int .i64 0, .slice none 0 0] rfl rfl rfl (Nat.le_of_ble_eq_true rfl) (by simp [Value.oneCell']) (H.out.pick 3 rfl) rfl ?_
    intro w90 h_
    have H := Aside.mk h_
    have o0 := h_.cell 0
    have o1 := h_.cell 1
    have o2 := h_.cell 2
    have o3 := h_.cell 3
    clear h_
    go_wp2
    refine bodyPost_ret (results_ct rfl _ _ _ 60 #[.int .i64 0, .int .i64 0, .int .i64 0, .slice none 0 0] (0, 0) _ rfl H.out.heap Tryd.underlying60 rfl (by kernel_rfl)) rfl ?_
    rw [HR4.out]
    exact ⟨.slice none 0 0, rfl, ((H.out.order 5 [0, 1, 2, 4, 3] rfl rfl).rest.rest.rest.rest.nil_row 2 1)⟩
  case pos =>
  have hn : 0 ≤ n ∧ n ≤ 255 := by have := HHH.out; simp only [isH, decide_eq_true_eq] at this; omega
  have hw : hwI c k n = 1 + n := by unfold hwI; rw [if_pos HHH.out]
  have hin := ok_in HI.out.1 HAI.out (by omega) (by omega) hff
  obtain ⟨nn, rfl⟩ := Int.eq_ofNat_of_zero_le hn.1
  have HR0 : Aside (R = ((aN : Int), c, k, wsR X aN nn, 0)) := ⟨by rw [HRE.out, if_pos (by rw [HFT2.out, hff]; simp), Int.toNat_natCast]⟩
  rw [hff] at HRM
  have HN255 : Aside (nn ≤ 255) := ⟨by omega⟩
  have HIN : Aside (aN + nn < nN) := ⟨by have := HNN.out; have := HNA.out; omega⟩
  clear hff hn hw hin HHH
  go_wp2_with (first
    | (go_at_call 91; refine (HFT.out _ H.out.below).mono ?_; rintro e w5 ⟨rfl, hb⟩; replace H := Aside.mk (H.out.step hb); clear hb z0 z1 z2 e0 e1 e2 e3 e4 b0 b1 b2 b3 b4 b5; have z0 := (H.out.pick 1 rfl).cell 0; have z1 := (H.out.pick 1 rfl).cell 1; have z2 := (H.out.pick 1 rfl).cell 2; have e0 := H.out.cell 0; have e1 := H.out.cell 1; have e2 := H.out.cell 2; have e3 := H.out.cell 3; have e4 := H.out.cell 4; have b0 := (H.out.pick 4 rfl).cell 0; have b1 := (H.out.pick 4 rfl).cell 1; have b2 := (H.out.pick 4 rfl).cell 2; have b3 := (H.out.pick 4 rfl).cell 3; have b4 := (H.out.pick 4 rfl).cell 4; have b5 := (H.out.pick 4 rfl).cell 5)
    | (go_at_call 92; refine (HRM.out _).mono ?_; rintro e w11 ⟨rfl, hb⟩; replace H := Aside.mk (H.out.step hb); clear hb z0 z1 z2 e0 e1 e2 e3 e4 b0 b1 b2 b3 b4 b5; have z0 := (H.out.pick 1 rfl).cell 0; have z1 := (H.out.pick 1 rfl).cell 1)
    | (with_reducible refine stop_at (.store 60 (.tmp 16) (.tmp 68)) rfl ?_))
  replace H := Aside.mk (H.out.alloc #[.int .i64 0, .int .i64 0, .int .i64 0, .slice none 0 0] 60)
  generalize w11.heap.size = cb at H ⊢
  refine ⟨?_⟩
  refine st_store rfl rfl rfl [.int .i64 aN, .int .i64 c, .int .i64 k, .slice none 0 0] #[.int .i64 aN, .int .i64 c, .int .i64 k, .slice none 0 0] rfl rfl rfl (Nat.le_of_ble_eq_true rfl) (by simp [Value.oneCell']) H.out rfl ?_
  intro w12 h_
  replace H : Aside (St w0 w12 (blk cb #[.int .i64 aN, .int .i64 c, .int .i64 k, (.slice none 0 0)] 60 :: row 2 1 (.slice none 0 0) (wsR X aN 0).length (I64 (wsR X aN 0)) :: blk hb #[.int .i64 c, .int .i64 k, .int .i64 nn] 73 :: blk (w.heap.size + 1) #[.int .i64 0, .int .i64 0, .int .i64 0, .slice none 0 0] 60 :: blk gD (U X).toArray 22 :: F)) := Aside.mk (((h_.order 6 [1, 5, 0, 2, 4, 3] rfl rfl).rest.rest.nil_row 2 1).order 2 [1, 0] rfl rfl)
  clear h_ z0 z1
  go_upto_block 0 with fail
  go_cut [17] (fun v17 wc => ∃ V, Aside (St w0 wc (blk cb #[.int .i64 aN, .int .i64 c, .int .i64 k, V] 60 :: row 2 1 V (wsR X aN nn).length (I64 (wsR X aN nn)) :: blk hb #[.int .i64 c, .int .i64 k, .int .i64 nn] 73 :: blk (w.heap.size + 1) #[.int .i64 0, .int .i64 0, .int .i64 0, .slice none 0 0] 60 :: blk gD (U X).toArray 22 :: F)))
  case first =>
    go_wp2_with fail
    go_loopg [17] (nn) (fun m v17 w' => ∃ (i : Nat) (V : Value), m = nn - i ∧ i ≤ nn ∧ v17 = .int .i64 ((i : Int) + 1) ∧ Aside (St w0 w' (blk cb #[.int .i64 aN, .int .i64 c, .int .i64 k, V] 60 :: row 2 1 V (wsR X aN i).length (I64 (wsR X aN i)) :: blk hb #[.int .i64 c, .int .i64 k, .int .i64 nn] 73 :: blk (w.heap.size + 1) #[.int .i64 0, .int .i64 0, .int .i64 0, .slice none 0 0] 60 :: blk gD (U X).toArray 22 :: F)))
    case atStart => exact ⟨0, _, rfl, Nat.zero_le _, rfl, H⟩
    case round =>
      clear H
      obtain ⟨i9, V, rfl, hi9, rfl, H⟩ := hrel
      have z2 := (H.out.pick 2 rfl).cell 2
      by_cases hlt : i9 < nn
      · have d1 : decide ((i9 : Int) + 1 ≤ (nn : Int)) = true := by simp; omega
        have n1 : (i9 : Int) + 1 ≤ (nn : Int) := by omega
        have ea : wrap64 ((aN : Int) + ((i9 : Int) + 1)) = ((aN + 1 + i9 : Nat) : Int) := by have := HIN.out; have := HNN.out; have := HPp.out; unfold wrap64; omega
        have hx0 : (0 : Int) ≤ ((aN + 1 + i9 : Nat) : Int) := by omega
        have nx : ((aN + 1 + i9 : Nat) : Int) < (nN : Int) := by have := HIN.out; omega
        have dx : decide (((aN + 1 + i9 : Nat) : Int) < (nN : Int)) = true := by simpa using nx
        have HWS := Aside.mk (wsR_succ X aN i9)
        have HWL := Aside.mk (wsR_len X aN i9)
        have HI2 := Aside.mk hlt
        have HCJ := Aside.mk (fun (w1 : World) (L : List HP) (h : St w0 w1 (blk gD (U X).toArray 22 :: L)) => HCD.out w1 L (aN + 1 + i9) (by have := HIN.out; omega) h)
        generalize X.getD (aN + 1 + i9) 0 = u at HCJ HWS
        generalize aN + 1 + i9 = jx at *
        clear hi9 hlt
        go_wp2_with fail
        replace H := Aside.mk H.out.drew
        refine start_ (n := 13) (S := fun w' => w'.cell? ⟨cb, 3, none⟩ = some V ∧ w'.cell? ⟨gD, jx, none⟩ = some (.int .u64 u)) (ds := [12]) (flg 13 0) (by kernel_rfl) rfl rfl (⟨H.out.cell 3, HCJ.out _ _ (H.out.pick 4 rfl)⟩) (fun hHeld => ?_)
        refine with_tabW rl.tab12 rl.bits12 (fun HT_ HW_ => ?_)
        refine pu_ (v := ?_) (a' := ?_) 0 (some 75) 1 rfl rfl HT_ (by kernel_rfl) (.inl ⟨by rfl, ?_⟩) ?_ ?_; rotate_left 2; (· intro w'; go_simp; with_reducible rfl); (· simp only [nrm]; rfl)
        refine tk_ (v := ?_) (a' := ?_) 1 (some 76) 3 rfl rfl HT_ HW_ (by kernel_rfl) (.inl ⟨by rfl, ?_⟩) hHeld ?_ ?_; rotate_left 2; (· rintro w' ⟨_, _⟩; go_simp; with_reducible rfl); (· simp only [nrm]; rfl)
        refine pu_ (v := ?_) (a' := ?_) 2 (some 77) 7 rfl rfl HT_ (by kernel_rfl) (.inl ⟨by rfl, ?_⟩) ?_ ?_; rotate_left 2; (· intro w'; go_simp; with_reducible rfl); (· simp only [nrm]; rfl)
        refine pu_ (v := ?_) (a' := ?_) 3 (some 78) 15 rfl rfl HT_ (by kernel_rfl) (.inl ⟨by rfl, ?_⟩) ?_ ?_; rotate_left 2; (· intro w'; go_simp; with_reducible rfl); (· simp only [nrm]; rfl)
        refine pu_ (v := ?_) (a' := ?_) 4 (some 79) 31 rfl rfl HT_ (by kernel_rfl) (.inl ⟨by rfl, ?_⟩) ?_ ?_; rotate_left 2; (· intro w'; go_simp; with_reducible rfl); (· simp only [nrm]; rfl)
        refine pu_ (v := ?_) (a' := ?_) 5 (some 80) 63 rfl rfl HT_ (by kernel_rfl) (.inl ⟨by rfl, ?_⟩) ?_ ?_; rotate_left 2; (· intro w'; go_simp; with_reducible rfl); (· simp only [nrm]; rfl)
        refine pu_ (v := ?_) (a' := ?_) 6 (some 81) 127 rfl rfl HT_ (by kernel_rfl) (.inl ⟨by rfl, ?_⟩) ?_ ?_; rotate_left 2; (· intro w'; go_simp; with_reducible rfl); (· simp only [nrm]; rfl)
        refine tk_ (v := ?_) (a' := ?_) 7 (some 82) 255 rfl rfl HT_ HW_ (by kernel_rfl) (.inl ⟨by rfl, ?_⟩) hHeld ?_ ?_; rotate_left 2; (· rintro w' ⟨_, _⟩; go_simp; with_reducible rfl); (· simp only [nrm]; rfl)
        refine pu_ (v := ?_) (a' := ?_) 8 (some 83) 511 rfl rfl HT_ (by kernel_rfl) (.inl ⟨by rfl, ?_⟩) ?_ ?_; rotate_left 2; (· intro w'; go_simp; with_reducible rfl); (· simp only [nrm]; rfl)
        refine on_ 9 (some 84) 1023 rfl rfl HT_ (by kernel_rfl) (by decide) (fun K hK => ?_)
        refine value_ (w1 := ?_) (v := ?_) (by rfl) rfl ?_ ?_
        rotate_left 2
        · go_simp
          constructor
          · rfl
          · rfl
        replace H := Aside.mk (H.out.alloc #[.int .i64 (wrap64 u)] 2)
        refine hK.out _ _ ⟨(H.out.pick 1 rfl).cell 3, HCJ.out _ _ (H.out.pick 5 rfl)⟩ (fun hHeld => ?_)
        clear hK K
        refine norm_ (a' := ?_) ?_ ?_
        rotate_left
        · show Act.put _ (some 84) _ = _
          simp only [nrm]
          rfl
        refine on_ 10 (some 85) 2047 rfl rfl HT_ (by kernel_rfl) (by decide) (fun K hK => ?_)
        refine append_run_step rfl (.tmp 76) (.tmp 84) 58 2 (.int .i64 0) 1 8 rfl Tryd.underlying58 info2 rfl (by decide) (by decide) V (wsR X aN i9).length (I64 (wsR X aN i9)) rfl ⟨_, 0, none⟩ 1 1 [.int .i64 (wrap64 u)] rfl rfl (blk_cells5 H.out) (by simp [Value.oneCell']) (H.out.pick 2 rfl) (by have := HWL.out; have := HN255.out; have := HI2.out; omega) ?_
        intro A9 c9 w13 hc9 h9
        replace H : Aside (St w0 w13 (blk cb #[.int .i64 aN, .int .i64 c, .int .i64 k, V] 60 :: row 2 1 (.slice A9 ((wsR X aN i9).length + 1) c9) ((wsR X aN i9).length + 1) (I64 (wsR X aN i9) ++ [.int .i64 (wrap64 u)]) :: blk hb #[.int .i64 c, .int .i64 k, .int .i64 nn] 73 :: blk (w.heap.size + 1) #[.int .i64 0, .int .i64 0, .int .i64 0, .slice none 0 0] 60 :: blk gD (U X).toArray 22 :: F)) := Aside.mk ((h9.order 3 [1, 2, 0] rfl rfl).rest)
        clear h9 hc9
        refine hK.out _ _ ⟨H.out.cell 3, HCJ.out _ _ (H.out.pick 4 rfl)⟩ (fun hHeld => ?_)
        clear hK K
        refine norm_ (a' := ?_) ?_ ?_
        rotate_left
        · show Act.put _ (some 85) _ = _
          simp only [nrm]
          rfl
        refine pu_ (v := ?_) (a' := ?_) 11 (some 86) 4095 rfl rfl HT_ (by kernel_rfl) (.inl ⟨by rfl, ?_⟩) ?_ ?_; rotate_left 2; (· intro w'; go_simp; with_reducible rfl); (· simp only [nrm]; rfl)
        refine last_ (i := 12) (N := none) (flg 13 8191) rfl rfl (one_of HT_.out (by kernel_rfl)) (by decide) (fun K hK => ?_)
        refine skip_ (by rfl) rfl (st_run_store (off := 3) (seg := [.slice A9 ((wsR X aN i9).length + 1) c9]) rfl rfl rfl rfl (Nat.le_of_ble_eq_true rfl) (by simp [Value.oneCell']) H.out) ?_
        have h8 := H.out.setCells 3 [.slice A9 ((wsR X aN i9).length + 1) c9] (Nat.le_of_ble_eq_true rfl)
        generalize World.setCells _ _ _ _ = w14 at h8 ⊢
        replace H : Aside (St w0 w14 (blk cb #[.int .i64 aN, .int .i64 c, .int .i64 k, (.slice A9 ((wsR X aN i9).length + 1) c9)] 60 :: row 2 1 (.slice A9 ((wsR X aN i9).length + 1) c9) (wsR X aN (i9 + 1)).length (I64 (wsR X aN (i9 + 1))) :: blk hb #[.int .i64 c, .int .i64 k, .int .i64 nn] 73 :: blk (w.heap.size + 1) #[.int .i64 0, .int .i64 0, .int .i64 0, .slice none 0 0] 60 :: blk gD (U X).toArray 22 :: F)) := Aside.mk (by rw [HWS.out, List.length_append]; simp only [I64, List.map_append]; exact h8)
        clear h8
        refine hK.out _ _ ?_
        refine done_ (done_of HT_.out (by kernel_rfl)) ?_
        clear HT_ HW_ hHeld
        go_wp2
        go_roundg (nn - (i9 + 1))
        case measure => have := HI2.out; omega
        case rel => exact ⟨i9 + 1, _, rfl, HI2.out, by first | rfl | (have := HI2.out; have := HN255.out; simp only [Value.int.injEq, true_and]; unfold wrap64; omega), H⟩
      · obtain rfl : i9 = nn := by omega
        have d1 : decide ((i9 : Int) + 1 ≤ (i9 : Int)) = false := by simp; omega
        have n1 : ¬ (i9 : Int) + 1 ≤ (i9 : Int) := by omega
        clear hi9 hlt
        go_wp2
        go_meet
        case rel => exact ⟨V, H⟩
  case rest =>
    clear H
    obtain ⟨V, H⟩ := hcut
    obtain ⟨A9, c9, hv9, _, _⟩ := (H.out.pick 1 rfl).row_slice
    subst hv9
    have c0 := H.out.cell 0
    have c1 := H.out.cell 1
    have c2_ := H.out.cell 2
    have c3 := H.out.cell 3
    go_wp2_with (with_reducible refine stop_at (.store 60 (.tmp 8) (.tmp 87)) rfl ?_)
    refine ⟨?_⟩
    refine st_store rfl rfl rfl [.int .i64 aN, .int .i64 c, .int .i64 k, .slice A9 (wsR X aN nn).length c9] #[.int .i64 aN, .int .i64 c, .int .i64 k, .slice A9 (wsR X aN nn).length c9] rfl rfl rfl (Nat.le_of_ble_eq_true rfl) (by simp [Value.oneCell']) (H.out.pick 3 rfl) rfl ?_
    intro w17 h_
    have H := Aside.mk h_
    have o0 := h_.cell 0
    have o1 := h_.cell 1
    have o2 := h_.cell 2
    have o3 := h_.cell 3
    clear h_
    go_wp2
    refine bodyPost_ret (results_ct rfl _ _ _ 60 #[.int .i64 aN, .int .i64 c, .int .i64 k, .slice A9 (wsR X aN nn).length c9] (0, 0) _ rfl H.out.heap Tryd.underlying60 rfl (by kernel_rfl)) rfl ?_
    rw [HR0.out]
    exact ⟨.slice A9 (wsR X aN nn).length c9, rfl, (H.out.order 4 [0, 1, 3, 2] rfl rfl).rest.rest.rest⟩
end Go.Proofs.YtelfiegocdjnoaaDoor.Ar
