/- The walk of PagesNone. Conditions: the words are words; the table of sizes reads as it was laid. -/
import Derived.Test.YtelfiegocdjnoaaDoorCl7
import Derived.Test.YtelfiegocdjnoaaDoorRm1
import Derived.Test.YtelfiegocdjnoaaDoorFd3
import Derived.Test.YtelfiegocdjnoaaDoorIe3
import Derived.Deep.CutBlock
import Derived.Deep.DeepCutAuto
import Derived.Test.YtelfiegocdjnoaaDoorMrF0
namespace Go.Proofs.YtelfiegocdjnoaaDoor.Ar
open Go Go.RowKit Go.Proofs.YtelfiegocdjnoaaDoor.Sep Go.Proofs.YtelfiegocdjnoaaDoor.Pg Go.Proofs.YtelfiegocdjnoaaDoorW.PrintWords Go.Proofs.YtelfiegocdjnoaaDoorW.PrintLast Go.Proofs.YtelfiegocdjnoaaDoorW.PrintMore Go.Proofs.YtelfiegocdjnoaaDoor.Q
set_option linter.unusedVariables false
set_option linter.unusedSimpArgs false
set_option maxHeartbeats 8000000
set_option maxRecDepth 100000
def ln.T1 : Bool × List (List Nat × List Nat) := (true, [([], []), ([0], [0]), ([], []), ([2], [2]), ([], []), ([4], [4]), ([], []), ([6], [6]), ([], []), ([8, 1, 0, 1, 8], [1, 8]), ([3, 9, 0, 1, 2, 3, 8, 9], [3]), ([5, 10, 0, 1, 2, 3, 4, 5, 8, 9, 10], [5]), ([7, 11, 0, 1, 2, 3, 4, 5, 6, 7, 8, 9, 10, 11], [7])])
def ln.B1 : List Nat := [0, 1, 0, 4, 0, 16, 0, 64, 0, 259, 783, 1855, 4095]
theorem ln.tab1 : rtab .any (opsOf Tryd.f9 1) = ln.T1 := by kernel_rfl
theorem ln.bits1 : waitsOk ln.T1.2 ln.B1 = true := by kernel_rfl
def ln.T17 : Bool × List (List Nat × List Nat) := (true, [([], []), ([0], [0]), ([1], [1]), ([2], [2]), ([], []), ([4], [4]), ([5], [5]), ([6], [6]), ([], []), ([8], [8]), ([7, 9, 9], [7, 9]), ([3, 10, 10], [3, 10]), ([11], [11]), ([12], [12]), ([12], [12]), ([13, 11, 0, 1, 2, 3, 4, 5, 6, 7, 8, 9, 10, 11, 12, 13], [13]), ([14, 15, 0, 1, 2, 3, 4, 5, 6, 7, 8, 9, 10, 11, 12, 13, 14, 15], [14])])
def ln.B17 : List Nat := [0, 1, 3, 7, 0, 16, 48, 112, 0, 256, 1008, 2047, 4095, 8191, 8191, 16383, 65535]
theorem ln.tab17 : rtab .any (opsOf Tryd.f9 17) = ln.T17 := by kernel_rfl
theorem ln.bits17 : waitsOk ln.T17.2 ln.B17 = true := by kernel_rfl
def ln.T23 : Bool × List (List Nat × List Nat) := (true, [([], []), ([0], [0]), ([1], [1]), ([2], [2]), ([], []), ([4], [4]), ([5], [5]), ([6], [6]), ([], []), ([7, 8], [7, 8]), ([3, 9, 9], [3, 9]), ([10], [10]), ([11], [11]), ([11], [11]), ([12, 10, 0, 1, 2, 3, 4, 5, 6, 7, 8, 9, 10, 11, 12], [12]), ([13, 14, 0, 1, 2, 3, 4, 5, 6, 7, 8, 9, 10, 11, 12, 13, 14], [13])])
def ln.B23 : List Nat := [0, 1, 3, 7, 0, 16, 48, 112, 0, 496, 1023, 2047, 4095, 4095, 8191, 32767]
theorem ln.tab23 : rtab .any (opsOf Tryd.f9 23) = ln.T23 := by kernel_rfl
theorem ln.bits23 : waitsOk ln.T23.2 ln.B23 = true := by kernel_rfl
def ln.T24 : Bool × List (List Nat × List Nat) := (true, [([], []), ([0], [0]), ([1], [1]), ([2], [2]), ([], []), ([4], [4]), ([5], [5]), ([6], [6]), ([], []), ([7, 8], [7, 8]), ([3, 9, 9], [3, 9]), ([10], [10]), ([11], [11]), ([11], [11]), ([12, 10, 0, 1, 2, 3, 4, 5, 6, 7, 8, 9, 10, 11, 12], [12]), ([13, 14, 0, 1, 2, 3, 4, 5, 6, 7, 8, 9, 10, 11, 12, 13, 14], [13])])
def ln.B24 : List Nat := [0, 1, 3, 7, 0, 16, 48, 112, 0, 496, 1023, 2047, 4095, 4095, 8191, 32767]
theorem ln.tab24 : rtab .any (opsOf Tryd.f9 24) = ln.T24 := by kernel_rfl
theorem ln.bits24 : waitsOk ln.T24.2 ln.B24 = true := by kernel_rfl
theorem law_none (q1 q2 q3 cy cl : Int) (A : Option Addr) (cap : Nat) (L : List SPg) (w : World) (hTb : Tab w) (hC : Kd.C kPg w A L.length L) (hr : ∀ g ∈ L, rngP g) :
    Calls Tryd.prog 9 #[.agg #[.int .i64 q1, .int .i64 q2, .int .i64 q3, .slice A L.length cap, .int .i64 cy, .int .i64 cl]] w fun e w' => e = .returned (.bool true) ∧ Below w.heap.size w w' := by
  have hYI := mod_in cy 4294967296 (by decide) (by decide)
  have HCY : Aside (windrowlaw09_cycled.f cy = some (wrap64 (Int.tmod (IntKind.u64.wrap cy) 4294967296))) := ⟨rfl⟩
  generalize wrap64 (Int.tmod (IntKind.u64.wrap cy) 4294967296) = Y at hYI HCY
  have hCI := mod_in cl 8 (by decide) (by decide)
  obtain ⟨C, hCC⟩ : ∃ C, C = wrap64 (Int.tmod (IntKind.u64.wrap cl) 8) := ⟨_, rfl⟩
  rw [← hCC] at hCI
  have HCC := Aside.mk hCC
  have hP := pgs_lt q1
  have hT := thr_lt q2
  have HLAY := Aside.mk (fun (w1 : World) (hb : Below w.heap.size w w1) => lay_ q1 q2 q3 A cap L w1 (Kd.C_below hC hb) hr)
  have hXR : Rng (layX (pgs q1) (thr q2) L 0 (List.replicate (128 + 64 * pgs q1) 0)) := layX_rng _ _ _ hr (rng_zeros _)
  have hXL : (layX (pgs q1) (thr q2) L 0 (List.replicate (128 + 64 * pgs q1) 0)).length = 128 + 64 * pgs q1 := (layX_len _ _ _).trans List.length_replicate
  have hlay := HLAY.out
  generalize layX (pgs q1) (thr q2) L 0 (List.replicate (128 + 64 * pgs q1) 0) = X at hlay hXR hXL
  generalize pgs q1 = P at hlay hP hXL
  generalize thr q2 = T at hlay hT
  replace HLAY := Aside.mk hlay
  have hq : Cp.Right ⟨P, T, 0, Y, C⟩ := ⟨hP, hT, (show (0 : Int) ≤ 0 ∧ (0 : Int) < 6 by decide), ⟨hYI.1, by have := hYI.2; show Y ≤ _; omega⟩, hCI⟩
  have HQ := Aside.mk hq
  have HNEW := Aside.mk (fun (w1 : World) (F : List HP) (h : St w w1 F) => newclaim_ (q := ⟨P, T, 0, Y, C⟩) hq (show (0 : Int) < (T : Int) + 1 by omega) hTb h)
  have hinv := CInv.start hq (X := X) hXL hXR
  obtain ⟨n0, M, hn0, hgo, hend⟩ := claims_ hq hXL
  have HTB := Aside.mk hTb
  have HXL := Aside.mk hXL
  have HXR := Aside.mk hXR
  have HINV := Aside.mk hinv
  have HN0 := Aside.mk hn0
  have HGO := Aside.mk hgo
  have HEND := Aside.mk hend
  have HM := Aside.mk (CInv.go hq hinv hgo)
  have H := Aside.mk ((St.start w).alloc #[.int .i64 q1, .int .i64 q2, .int .i64 q3, .slice A L.length cap, .int .i64 cy, .int .i64 cl] 119)
  clear hYI hCI hCC hP hT hXR hXL hlay hq hinv hn0 hgo hend hTb hC hr
  go_enter Tryd.func9, Tryd.ntmps9
  go_wp2_with fail
  replace H := Aside.mk H.out.drew
  refine start_ (n := 13) (S := fun w' => w'.cell? ⟨w.heap.size, 0, none⟩ = some (.int .i64 q1) ∧ w'.cell? ⟨w.heap.size, 1, none⟩ = some (.int .i64 q2) ∧ w'.cell? ⟨w.heap.size, 2, none⟩ = some (.int .i64 q3) ∧ w'.cell? ⟨w.heap.size, 3, none⟩ = some (.slice A L.length cap) ∧ w'.cell? ⟨w.heap.size, 4, none⟩ = some (.int .i64 cy) ∧ w'.cell? ⟨w.heap.size, 5, none⟩ = some (.int .i64 cl)) (ds := []) (flg 13 0) (by kernel_rfl) rfl rfl (⟨H.out.cell 0, H.out.cell 1, H.out.cell 2, H.out.cell 3, H.out.cell 4, H.out.cell 5⟩) (fun hHeld => ?_)
  refine with_tabW ln.tab1 ln.bits1 (fun HT_ HW_ => ?_)
  generalize World.drew _ = y0 at H hHeld ⊢
  refine pu_ (v := ?_) (a' := ?_) 0 (some 23) 1 rfl rfl HT_ (by kernel_rfl) (.inl ⟨by rfl, ?_⟩) ?_ ?_; rotate_left 2; (· intro w'; go_simp; with_reducible rfl); (· simp only [nrm]; rfl)
  refine tk_ (v := ?_) (a' := ?_) 1 (some 24) 3 rfl rfl HT_ HW_ (by kernel_rfl) (.inl ⟨by rfl, ?_⟩) hHeld ?_ ?_; rotate_left 2; (· rintro w' ⟨_, _, _, _, _, _⟩; go_simp; with_reducible rfl); (· simp only [nrm]; rfl)
  refine pu_ (v := ?_) (a' := ?_) 2 (some 25) 7 rfl rfl HT_ (by kernel_rfl) (.inl ⟨by rfl, ?_⟩) ?_ ?_; rotate_left 2; (· intro w'; go_simp; with_reducible rfl); (· simp only [nrm]; rfl)
  refine tk_ (v := ?_) (a' := ?_) 3 (some 26) 15 rfl rfl HT_ HW_ (by kernel_rfl) (.inl ⟨by rfl, ?_⟩) hHeld ?_ ?_; rotate_left 2; (· rintro w' ⟨_, _, _, _, _, _⟩; go_simp; with_reducible rfl); (· simp only [nrm]; rfl)
  refine pu_ (v := ?_) (a' := ?_) 4 (some 27) 31 rfl rfl HT_ (by kernel_rfl) (.inl ⟨by rfl, ?_⟩) ?_ ?_; rotate_left 2; (· intro w'; go_simp; with_reducible rfl); (· simp only [nrm]; rfl)
  refine tk_ (v := ?_) (a' := ?_) 5 (some 28) 63 rfl rfl HT_ HW_ (by kernel_rfl) (.inl ⟨by rfl, ?_⟩) hHeld ?_ ?_; rotate_left 2; (· rintro w' ⟨_, _, _, _, _, _⟩; go_simp; with_reducible rfl); (· simp only [nrm]; rfl)
  refine pu_ (v := ?_) (a' := ?_) 6 (some 29) 127 rfl rfl HT_ (by kernel_rfl) (.inl ⟨by rfl, ?_⟩) ?_ ?_; rotate_left 2; (· intro w'; go_simp; with_reducible rfl); (· simp only [nrm]; rfl)
  refine tk_ (v := ?_) (a' := ?_) 7 (some 30) 255 rfl rfl HT_ HW_ (by kernel_rfl) (.inl ⟨by rfl, ?_⟩) hHeld ?_ ?_; rotate_left 2; (· rintro w' ⟨_, _, _, _, _, _⟩; go_simp; with_reducible rfl); (· simp only [nrm]; rfl)
  refine on_ 8 (some 3) 511 rfl rfl HT_ (by kernel_rfl) (by decide) (fun K hK => ?_)
  refine value_ (w1 := ?_) (v := ?_) (by rfl) rfl ?_ ?_
  rotate_left 2
  · go_simp
    constructor
    · rfl
    · rfl
  replace H := Aside.mk (H.out.alloc #[.int .i64 0, .int .i64 0, .int .i64 0] 25)
  refine hK.out _ _ ⟨(H.out.pick 1 rfl).cell 0, (H.out.pick 1 rfl).cell 1, (H.out.pick 1 rfl).cell 2, (H.out.pick 1 rfl).cell 3, (H.out.pick 1 rfl).cell 4, (H.out.pick 1 rfl).cell 5⟩ (fun hHeld => ?_)
  clear hK K
  refine norm_ (a' := ?_) ?_ ?_
  rotate_left
  · show Act.put _ (some 3) _ = _
    simp only [nrm]
    rfl
  refine on_ 9 (none) 1023 rfl rfl HT_ (by kernel_rfl) (by decide) (fun K hK => ?_)
  refine skip_ (by rfl) rfl (st_run_store (seg := [.int .i64 q1, .int .i64 q2, .int .i64 q3]) rfl rfl rfl rfl (Nat.le_of_ble_eq_true rfl) (by simp [Value.oneCell']) H.out) ?_
  have h8 := H.out.setCells 0 [.int .i64 q1, .int .i64 q2, .int .i64 q3] (Nat.le_of_ble_eq_true rfl)
  generalize World.setCells _ _ _ _ = w5 at h8 ⊢
  replace H : Aside (St w w5 [blk y0.heap.size #[.int .i64 q1, .int .i64 q2, .int .i64 q3] 25, blk w.heap.size #[.int .i64 q1, .int .i64 q2, .int .i64 q3, .slice A L.length cap, .int .i64 cy, .int .i64 cl] 119]) := Aside.mk h8
  clear h8
  refine hK.out _ _ ⟨(H.out.pick 1 rfl).cell 0, (H.out.pick 1 rfl).cell 1, (H.out.pick 1 rfl).cell 2, (H.out.pick 1 rfl).cell 3, (H.out.pick 1 rfl).cell 4, (H.out.pick 1 rfl).cell 5⟩ (fun hHeld => ?_)
  clear hK K
  refine pu_ (v := ?_) (a' := ?_) 10 (some 4) 2047 rfl rfl HT_ (by kernel_rfl) (.inl ⟨by rfl, ?_⟩) ?_ ?_; rotate_left 2; (· intro w'; go_simp; with_reducible rfl); (· simp only [nrm]; rfl)
  refine pu_ (v := ?_) (a' := ?_) 11 (some 5) 4095 rfl rfl HT_ (by kernel_rfl) (.inl ⟨by rfl, ?_⟩) ?_ ?_; rotate_left 2; (· intro w'; go_simp; with_reducible rfl); (· simp only [nrm]; rfl)
  refine pu_ (v := ?_) (a' := ?_) 12 (some 6) 8191 rfl rfl HT_ (by kernel_rfl) (.inl ⟨by rfl, ?_⟩) ?_ ?_; rotate_left 2; (· intro w'; go_simp; with_reducible rfl); (· simp only [nrm]; rfl)
  refine done_ (done_of HT_.out (by kernel_rfl)) ?_
  clear HT_ HW_ hHeld
  generalize y0.heap.size = g1 at H ⊢
  have y0_ := H.out.cell 0
  have y1_ := H.out.cell 1
  have y2_ := H.out.cell 2
  go_upto_block 0 with (first
    | (go_at_call 51; refine (HLAY.out _ H.out.below).mono ?_; rintro e w7 ⟨x, a, d, p, gD, gC, rfl, h7⟩; replace H : Aside (St w w7 (Fd x P T a d p gD gC 15 false X (.slice none 0 0) [] 0 (.slice none 0 0) [] 0 0)) := Aside.mk (((H.out.join h7).pick 8 rfl).rest.pick 8 rfl).rest; clear h7 y0_ y1_ y2_ HLAY)
    | (go_at_call 52; refine (paged_ _).mono ?_; rintro e w8 ⟨rfl, hb⟩; replace H := Aside.mk (H.out.step hb); clear hb)
    | (go_at_call 53; refine (windrowlaw09_cycled.calls cy _ _ HCY.out).mono ?_; rintro e w9 ⟨rfl, ⟨nd, rfl⟩⟩; replace H := Aside.mk (H.out.drewN nd); have z0 := H.out.cell 0; have z1 := H.out.cell 1; have z2 := H.out.cell 2)
    | (go_at_call 55; refine (windrowlaw09_plan.calls _ _ _ _ _ _ _ (show windrowlaw09_plan.f ((P : Int) + 1) ((T : Int) + 1) 1 = some ((P : Int) + 1, (T : Int) + 1, 1) from rfl)).mono ?_; rintro e w2 ⟨rfl, hb⟩; replace H := Aside.mk (H.out.step hb); clear hb z0 z1 z2)
    | (go_at_call 54; simp only [← HCC.out]; refine (HNEW.out _ _ H.out).mono ?_; rintro e w3 ⟨g, rfl, h3⟩; have hcs := ClSt.none_ (q := ⟨P, T, 0, Y, C⟩) (x := cl0) (g := g) (w0 := w) (w := w3) (L := Are p a gC 15 false X (.slice none 0 0) [] 0 0) (F := [fdB x P T a d p, daB d gD X.length (.slice none 0 0) 0, blk gD (U X).toArray 22, row 98 7 (.slice none 0 0) 0 []]) rfl (h3.order 9 [5, 6, 7, 8, 0, 1, 2, 3, 4] rfl rfl); replace H := Aside.mk hcs; clear h3 hcs))
  have h9M : M.2.at_ = 9 := HEND.out.elim (fun h => h.at9) (fun h => h.1)
  have H9M := Aside.mk h9M
  clear h9M
  go_cut [11] (fun v11 wc => ∃ (b : Bool) (lv : Value) (l : List Acc) (cn : Int), Aside (ClSt w wc (Are p a gC 15 b M.1 lv l cn 0) g (⟨P, T, 0, Y, C⟩ : Cp) M.2 [fdB x P T a d p, daB d gD X.length (.slice none 0 0) 0, blk gD (U X).toArray 22, row 98 7 (.slice none 0 0) 0 []]))
  case first =>
    go_wp2_with fail
    go_loopg [11] (300) (fun m v11 w' => ∃ (i n : Nat) (X1 : List Int) (z : Cl) (b : Bool) (lv : Value) (l : List Acc) (cn : Int), m = 300 - i ∧ i ≤ 300 ∧ v11 = .int .i64 i ∧ Aside (n ≤ 300 - i) ∧ Aside (CGo (⟨P, T, 0, Y, C⟩ : Cp) n (X1, z) M) ∧ Aside (CInv (⟨P, T, 0, Y, C⟩ : Cp) (X1, z)) ∧ Aside (l.length ≤ i) ∧ Aside (0 ≤ cn ∧ cn ≤ (i : Int)) ∧ Aside (ClSt w w' (Are p a gC 15 b X1 lv l cn 0) g (⟨P, T, 0, Y, C⟩ : Cp) z [fdB x P T a d p, daB d gD X.length (.slice none 0 0) 0, blk gD (U X).toArray 22, row 98 7 (.slice none 0 0) 0 []]))
    case atStart => exact ⟨0, n0, X, cl0, false, .slice none 0 0, [], 0, rfl, Nat.zero_le _, rfl, HN0, HGO, HINV, ⟨Nat.le_refl _⟩, ⟨by decide⟩, H⟩
    case round =>
      clear H HN0 HGO HINV HXL HXR
      obtain ⟨i, n, X1, z, b, lv, l, cn, rfl, hi, rfl, HN, HG, HI, HLL, HCN, H⟩ := hrel
      have hn := HN.out
      obtain ⟨M9, hM9⟩ := H.out.pick
      have x11 : wr.cell? ⟨x, 11, none⟩ = some (.pointer (some ⟨p, 0, none⟩)) := hM9.cell 11
      clear hM9
      by_cases h9 : z.at_ = 9
      · have hM : (X1, z) = M := by
          cases n with
          | zero => exact HG.out
          | succ n => exact absurd h9 HG.out.1
        have HMM := Aside.mk hM
        have b9 : (z.at_ == 9) = true := by simp [h9]
        clear hM h9 hn
        by_cases hlt : i < 300
        all_goals
          go_wp2_with (go_at_call 56; refine (clover2_ H.out).mono ?_; rintro e w1 ⟨rfl, rfl⟩)
          go_meet
          case rel => exact ⟨b, lv, l, cn, by rw [← HMM.out]; exact H⟩
      · obtain ⟨k, rfl⟩ : ∃ k, n = k + 1 := by
          cases n with
          | zero => exact absurd (by have := HG.out; rw [← this] at H9M; exact H9M.out) h9
          | succ n => exact ⟨n, rfl⟩
        have hlt : i < 300 := by omega
        have b9 : (z.at_ == 9) = false := by simpa using h9
        have hstep := fun (w' : World) (h : ClSt w w' (Are p a gC 15 true X1 lv l cn 0) g (⟨P, T, 0, Y, C⟩ : Cp) z [fdB x P T a d p, daB d gD X.length (.slice none 0 0) 0, blk gD (U X).toArray 22, row 98 7 (.slice none 0 0) 0 []]) => cstep_ HQ.out HI.out.gd h9 HI.out.len (by have := HLL.out; omega) HCN.out.1 (by have := HCN.out.2; omega) (HI.out.rng _) HTB.out h
        have HSTP := Aside.mk hstep
        have H9 := Aside.mk h9
        clear hstep h9 hn
        go_wp2_with (first
          | (go_at_call 56; refine (clover2_ H.out).mono ?_; rintro e w1 ⟨rfl, rfl⟩)
          | (go_at_call 17; refine (clgrant_ H.out).mono ?_; rintro e w2 ⟨rfl, h2⟩; replace H := Aside.mk h2; clear h2 x11; obtain ⟨M9, hM9⟩ := H.out.pick; have x11 : w2.cell? ⟨x, 11, none⟩ = some (.pointer (some ⟨p, 0, none⟩)) := hM9.cell 11; clear hM9)
          | (go_at_call 57; refine (HSTP.out _ H.out).mono ?_; rintro e w3 ⟨lv1, rfl, h3⟩; replace H := Aside.mk h3; clear h3 x11))
        go_roundg (300 - (i + 1))
        case measure => omega
        case rel =>
          refine ⟨i + 1, k, _, _, false, lv1, _, cn + 1, rfl, by omega, by first | rfl | (rw [w_of ((i : Int) + 1) (by omega) (by omega)]; rfl), ⟨by have := HN.out; omega⟩, ⟨HG.out.2⟩, ⟨HI.out.stp HQ.out H9.out⟩, ⟨?_⟩, ⟨?_⟩, H⟩
          · have := HLL.out; simp; omega
          · have := HCN.out; push_cast; omega
  case rest =>
  clear H HN0 HGO HINV HXL HXR
  obtain ⟨b, lv, l, cn, H⟩ := hcut
  have hns := HM.out.gd.ns (by have := H9M.out; omega)
  have hout := H.out.out hns
  replace H := Aside.mk hout
  clear hout hns
  have hlen := HM.out.len
  have hrng := HM.out.rng
  have hgood := HM.out.gd
  obtain ⟨XM, z⟩ := M
  simp only at hlen hrng hgood H9M HEND H
  have HL := Aside.mk hlen
  have HRG := Aside.mk hrng
  have HGD := Aside.mk hgood
  clear hlen hrng hgood HM
  have b9 : (z.at_ == 9) = true := by simp [H9M.out]
  rcases HEND.out with hg | ⟨_, hg, _, hall⟩
  · have HGOT := Aside.mk (fun (w1 : World) (F : List HP) (h : St w w1 (clB g (⟨P, T, 0, Y, C⟩ : Cp) z (.pointer none) :: F)) => (by have := clgot_ h; rwa [show z.got = true from hg.got] at this : Calls Tryd.prog 58 #[clP g] w1 fun e w' => e = .returned (.bool true) ∧ w' = w1))
    have HPGE := Aside.mk (fun (w1 : World) (F : List HP) (h : St w w1 (clB g (⟨P, T, 0, Y, C⟩ : Cp) z (.pointer none) :: F)) => clpage_ hg.got h)
    have HAL := Aside.mk (fun (w1 : World) (F : List HP) (h : St w w1 (clB g (⟨P, T, 0, Y, C⟩ : Cp) z (.pointer none) :: F)) => clalloc_ hg.got h)
    have HPE := Aside.mk (pent_ P T z.pg HQ.out.hP HQ.out.hT hg.pg)
    have hj : adr P T 0 z.pg < XM.length := by rw [HL.out]; exact adr_lt HQ.out.hP HQ.out.hT hg.pg (by decide)
    have hen : XM.getD (adr P T 0 z.pg) 0 = Cp.word (⟨P, T, 0, Y, C⟩ : Cp) := hg.en
    have hpk := fun (w' : World) (F : List HP) (h : St w w' (arB a gC XM.length lv true cn 0 :: ceB gC XM :: F)) => peek_yes (adr P T 0 z.pg) hj h
    rw [hen] at hpk
    have hdw : dec (Cp.word (⟨P, T, 0, Y, C⟩ : Cp)) = (1, C, 1, 0, Y, 0) := decW HQ.out.isE
    have hwu := wordU HQ.out
    generalize adr P T 0 z.pg = j at hpk HPE
    generalize Cp.word (⟨P, T, 0, Y, C⟩ : Cp) = wd at hpk hdw hwu
    have HPK := Aside.mk hpk
    have HDC := Aside.mk (fun w => rdec_c hwu.1 hwu.2 hdw w)
    have hroom : 0 < room C z.alloc := hg.al
    have HFR := Aside.mk (fun w => freeL_ (c := C) (a := z.alloc) HQ.out.hc HGD.out.al w)
    generalize room C z.alloc = r at hroom HFR
    have dr1 : decide (0 < r) = true := decide_eq_true hroom
    have dr2 : decide ((0 : Int) < (r : Int)) = true := decide_eq_true (Int.ofNat_lt.2 hroom)
    clear hg hj hen hpk hdw hwu hroom HEND
    go_wp2_with (first | (go_at_call 56; refine (clover_ (H.out.pick 4 rfl)).mono ?_; rintro e w1 ⟨rfl, rfl⟩) | (go_at_call 58; refine (HGOT.out _ _ (H.out.pick 4 rfl)).mono ?_; rintro e w1 ⟨rfl, rfl⟩))
    replace H := Aside.mk H.out.drew
    refine start_ (n := 17) (S := fun w' => w'.cell? ⟨x, 3, none⟩ = some (.int .i64 ((P : Int) + 1)) ∧ w'.cell? ⟨x, 4, none⟩ = some (.int .i64 ((T : Int) + 1)) ∧ w'.cell? ⟨x, 5, none⟩ = some (.int .i64 1) ∧ w'.cell? ⟨x, 6, none⟩ = some (.int .i64 64) ∧ w'.cell? ⟨x, 7, none⟩ = some (.int .i64 (22 + 6 * (T : Int))) ∧ w'.cell? ⟨x, 8, none⟩ = some (.int .i64 (128 + 64 * (P : Int))) ∧ w'.cell? ⟨x, 9, none⟩ = some (.pointer (some ⟨a, 0, none⟩))) (ds := []) (flg 17 0) (by kernel_rfl) rfl rfl (⟨(H.out.pick 5 rfl).cell 3, (H.out.pick 5 rfl).cell 4, (H.out.pick 5 rfl).cell 5, (H.out.pick 5 rfl).cell 6, (H.out.pick 5 rfl).cell 7, (H.out.pick 5 rfl).cell 8, (H.out.pick 5 rfl).cell 9⟩) (fun hHeld => ?_)
    refine with_tabW ln.tab17 ln.bits17 (fun HT_ HW_ => ?_)
    refine pu_ (v := ?_) (a' := ?_) 0 (some 88) 1 rfl rfl HT_ (by kernel_rfl) (.inl ⟨by rfl, ?_⟩) ?_ ?_; rotate_left 2; (· intro w'; go_simp; with_reducible rfl); (· simp only [nrm]; rfl)
    refine pu_ (v := ?_) (a' := ?_) 1 (some 89) 3 rfl rfl HT_ (by kernel_rfl) (.inl ⟨by rfl, ?_⟩) ?_ ?_; rotate_left 2; (· intro w'; go_simp; with_reducible rfl); (· simp only [nrm]; rfl)
    refine pu_ (v := ?_) (a' := ?_) 2 (some 90) 7 rfl rfl HT_ (by kernel_rfl) (.inl ⟨by rfl, ?_⟩) ?_ ?_; rotate_left 2; (· intro w'; go_simp; with_reducible rfl); (· simp only [nrm]; rfl)
    refine tk_ (v := ?_) (a' := ?_) 3 (some 91) 15 rfl rfl HT_ HW_ (by kernel_rfl) (.inl ⟨by rfl, ?_⟩) hHeld ?_ ?_; rotate_left 2; (· rintro w' ⟨_, _, _, _, _, _, _⟩; go_simp; with_reducible rfl); (· simp only [nrm]; rfl)
    refine pu_ (v := ?_) (a' := ?_) 4 (some 92) 31 rfl rfl HT_ (by kernel_rfl) (.inl ⟨by rfl, ?_⟩) ?_ ?_; rotate_left 2; (· intro w'; go_simp; with_reducible rfl); (· simp only [nrm]; rfl)
    refine pu_ (v := ?_) (a' := ?_) 5 (some 93) 63 rfl rfl HT_ (by kernel_rfl) (.inl ⟨by rfl, ?_⟩) ?_ ?_; rotate_left 2; (· intro w'; go_simp; with_reducible rfl); (· simp only [nrm]; rfl)
    refine pu_ (v := ?_) (a' := ?_) 6 (some 94) 127 rfl rfl HT_ (by kernel_rfl) (.inl ⟨by rfl, ?_⟩) ?_ ?_; rotate_left 2; (· intro w'; go_simp; with_reducible rfl); (· simp only [nrm]; rfl)
    refine tk_ (v := ?_) (a' := ?_) 7 (some 95) 255 rfl rfl HT_ HW_ (by kernel_rfl) (.inl ⟨by rfl, ?_⟩) hHeld ?_ ?_; rotate_left 2; (· rintro w' ⟨_, _, _, _, _, _, _⟩; go_simp; with_reducible rfl); (· simp only [nrm]; rfl)
    refine pu_ (v := ?_) (a' := ?_) 8 (some 96) 511 rfl rfl HT_ (by kernel_rfl) (.inl ⟨by rfl, ?_⟩) ?_ ?_; rotate_left 2; (· intro w'; go_simp; with_reducible rfl); (· simp only [nrm]; rfl)
    refine on_ 9 (some 97) 1023 rfl rfl HT_ (by kernel_rfl) (by decide) (fun K hK => ?_)
    refine goes_ Tryd.func59 (by kernel_rfl) rfl #[clP g] (by rfl) rfl rfl (by (try simp only [List.map_toArray, List.map_cons, List.map_nil]); first | done | rfl) ?_
    refine (HPGE.out _ _ (H.out.pick 4 rfl)).mono ?_
    rintro e w4 ⟨rfl, rfl⟩
    refine ⟨_, rfl, ?_⟩
    refine hK.out _ _ ⟨(H.out.pick 5 rfl).cell 3, (H.out.pick 5 rfl).cell 4, (H.out.pick 5 rfl).cell 5, (H.out.pick 5 rfl).cell 6, (H.out.pick 5 rfl).cell 7, (H.out.pick 5 rfl).cell 8, (H.out.pick 5 rfl).cell 9⟩ (fun hHeld => ?_)
    clear hK K
    refine norm_ (a' := ?_) ?_ ?_
    rotate_left
    · show Act.put _ (some 97) _ = _
      simp only [nrm]
      rfl
    refine on_ 10 (some 98) 2047 rfl rfl HT_ (by kernel_rfl) (by decide) (fun K hK => ?_)
    refine goes_ Tryd.func33 (by kernel_rfl) rfl #[.agg #[.int .i64 ((P : Int) + 1), .int .i64 ((T : Int) + 1), .int .i64 1, .int .i64 64, .int .i64 (22 + 6 * (T : Int)), .int .i64 (128 + 64 * (P : Int))], .int .i64 (z.pg : Int)] (by rfl) rfl rfl (by (try simp only [List.map_toArray, List.map_cons, List.map_nil]); first | done | rfl) ?_
    refine (windrowref06_Map_PageEntry.calls _ _ _ _ _ _ _ _ _ HPE.out).mono ?_
    rintro e w2 ⟨rfl, hb⟩
    replace H := Aside.mk (H.out.step hb)
    clear hb
    refine ⟨_, rfl, ?_⟩
    refine hK.out _ _ ⟨(H.out.pick 5 rfl).cell 3, (H.out.pick 5 rfl).cell 4, (H.out.pick 5 rfl).cell 5, (H.out.pick 5 rfl).cell 6, (H.out.pick 5 rfl).cell 7, (H.out.pick 5 rfl).cell 8, (H.out.pick 5 rfl).cell 9⟩ (fun hHeld => ?_)
    clear hK K
    refine norm_ (a' := ?_) ?_ ?_
    rotate_left
    · show Act.put _ (some 98) _ = _
      simp only [nrm]
      rfl
    refine on_ 11 (some 99) 4095 rfl rfl HT_ (by kernel_rfl) (by decide) (fun K hK => ?_)
    refine goes_ Tryd.func19 (by kernel_rfl) rfl #[.pointer (some ⟨a, 0, none⟩), .int .i64 (j : Nat)] (by rfl) rfl rfl (by (try simp only [List.map_toArray, List.map_cons, List.map_nil]); first | done | rfl) ?_
    refine (HPK.out _ _ (H.out.order 3 [1, 2, 0] rfl rfl)).mono ?_
    rintro e w3 ⟨rfl, rfl⟩
    refine ⟨_, rfl, ?_⟩
    refine hK.out _ _ ⟨(H.out.pick 5 rfl).cell 3, (H.out.pick 5 rfl).cell 4, (H.out.pick 5 rfl).cell 5, (H.out.pick 5 rfl).cell 6, (H.out.pick 5 rfl).cell 7, (H.out.pick 5 rfl).cell 8, (H.out.pick 5 rfl).cell 9⟩ (fun hHeld => ?_)
    clear hK K
    refine norm_ (a' := ?_) ?_ ?_
    rotate_left
    · show Act.put _ (some 99) _ = _
      simp only [nrm]
      rfl
    refine pu_ (v := ?_) (a' := ?_) 12 (some 87) 8191 rfl rfl HT_ (by kernel_rfl) (.inl ⟨by rfl, ?_⟩) ?_ ?_; rotate_left 2; (· intro w'; go_simp; with_reducible rfl); (· simp only [nrm]; rfl)
    refine pu_ (v := ?_) (a' := ?_) 13 (some 100) 16383 rfl rfl HT_ (by kernel_rfl) (.inl ⟨by rfl, ?_⟩) ?_ ?_; rotate_left 2; (· intro w'; go_simp; with_reducible rfl); (· simp only [nrm]; rfl)
    refine pu_ (v := ?_) (a' := ?_) 14 (some 101) 32767 rfl rfl HT_ (by kernel_rfl) (.inl ⟨by rfl, ?_⟩) ?_ ?_; rotate_left 2; (· intro w'; go_simp; with_reducible rfl); (· simp only [nrm]; rfl)
    refine pu_ (v := ?_) (a' := ?_) 15 (some 12) 65535 rfl rfl HT_ (by kernel_rfl) (.inl ⟨by rfl, ?_⟩) ?_ ?_; rotate_left 2; (· intro w'; go_simp; with_reducible rfl); (· simp only [nrm]; rfl)
    refine pu_ (v := ?_) (a' := ?_) 16 (some 13) 131071 rfl rfl HT_ (by kernel_rfl) (.inl ⟨by rfl, ?_⟩) ?_ ?_; rotate_left 2; (· intro w'; go_simp; with_reducible rfl); (· simp only [nrm]; rfl)
    refine done_ (done_of HT_.out (by kernel_rfl)) ?_
    clear HT_ HW_ hHeld
    go_upto_region 19 with (go_at_call 60; refine (HDC.out _).mono ?_; rintro e w5 ⟨rfl, hb⟩; replace H := Aside.mk ((H.out.step hb).alloc #[.int .i64 1, .int .i64 C, .int .i64 1, .int .i64 0, .int .i64 Y] 75); clear hb; have b0 := H.out.cell 0; have b1 := H.out.cell 1; have b2 := H.out.cell 2; have b3 := H.out.cell 3; have b4 := H.out.cell 4)
    generalize World.alloc _ _ = w6 at H b0 b1 b2 b3 b4 ⊢
    generalize w5.heap.size = hB at H b0 b1 b2 b3 b4 ⊢
    go_wp2_with (go_at_call 62; with_reducible refine (HAL.out _ _ (H.out.pick 5 rfl)).mono ?_; rintro e w7 ⟨rfl, rfl⟩)
    clear b0 b1 b2 b3 b4
    refine (HFR.out _).mono ?_
    rintro e w8 ⟨A9, c9, rfl, hb⟩
    replace H := Aside.mk (H.out.step hb)
    clear hb
    go_wp2
    go_ret
    exact ⟨by simp, H.out.below⟩
  · have HGOT := Aside.mk (fun (w1 : World) (F : List HP) (h : St w w1 (clB g (⟨P, T, 0, Y, C⟩ : Cp) z (.pointer none) :: F)) => (by have := clgot_ h; rwa [show z.got = false from hg] at this : Calls Tryd.prog 58 #[clP g] w1 fun e w' => e = .returned (.bool false) ∧ w' = w1))
    have HALL := Aside.mk hall
    clear hg hall HEND
    go_wp2_with (first | (go_at_call 56; refine (clover_ (H.out.pick 4 rfl)).mono ?_; rintro e w1 ⟨rfl, rfl⟩) | (go_at_call 58; refine (HGOT.out _ _ (H.out.pick 4 rfl)).mono ?_; rintro e w1 ⟨rfl, rfl⟩))
    go_loopg [16] (P + 1) (fun m v16 w' => ∃ i : Nat, m = P + 1 - i ∧ i ≤ P + 1 ∧ v16 = .int .i64 i ∧ Aside (St w w' (Are p a gC 15 b XM lv l cn 0 ++ clB g (⟨P, T, 0, Y, C⟩ : Cp) z (.pointer none) :: [fdB x P T a d p, daB d gD X.length (.slice none 0 0) 0, blk gD (U X).toArray 22, row 98 7 (.slice none 0 0) 0 []])))
    case atStart => exact ⟨0, rfl, Nat.zero_le _, rfl, H⟩
    case round =>
      clear H
      obtain ⟨i, rfl, hi, rfl, H⟩ := hrel
      have hP5 := HQ.out.hP
      have xP : wr.cell? ⟨x, 0, none⟩ = some (.int .i64 ((P : Int) + 1)) := (H.out.pick 5 rfl).cell 0
      by_cases hlt : i < P + 1
      · have dlt : decide ((i : Int) < (P : Int) + 1) = true := by simp; omega
        have nlt : (i : Int) < (P : Int) + 1 := by omega
        have HI := Aside.mk hlt
        have HPE := Aside.mk (pent_ P T i HQ.out.hP HQ.out.hT hlt)
        have HPA := Aside.mk (pall_ P T i HQ.out.hP HQ.out.hT hlt)
        have hj0 : adr P T 0 i < XM.length := by rw [HL.out]; exact adr_lt HQ.out.hP HQ.out.hT hlt (by decide)
        have hj1 : adr P T 1 i < XM.length := by rw [HL.out]; exact adr_lt HQ.out.hP HQ.out.hT hlt (by decide)
        have hpk0 := fun (w' : World) (F : List HP) (h : St w w' (arB a gC XM.length lv true cn 0 :: ceB gC XM :: F)) => peek_yes (adr P T 0 i) hj0 h
        have hpk1 := fun (w' : World) (F : List HP) (h : St w w' (arB a gC XM.length lv true cn 0 :: ceB gC XM :: F)) => peek_yes (adr P T 1 i) hj1 h
        have hp2 : P2 (⟨P, T, 0, Y, C⟩ : Cp) (XM.getD (adr P T 0 i) 0) (XM.getD (adr P T 1 i) 0) := HALL.out i hlt
        have hu0 := HRG.out (adr P T 0 i)
        have hu1 := HRG.out (adr P T 1 i)
        generalize XM.getD (adr P T 0 i) 0 = ew at hpk0 hp2 hu0
        generalize XM.getD (adr P T 1 i) 0 = av at hpk1 hp2 hu1
        generalize adr P T 0 i = j at hpk0 HPE
        generalize adr P T 1 i = j1 at hpk1 HPA
        obtain ⟨k, c, s, o, y, f, hd⟩ : ∃ k c s o y f, dec ew = (k, c, s, o, y, f) := ⟨_, _, _, _, _, _, rfl⟩
        have HDC := Aside.mk (fun w => rdec_c hu0.1 hu0.2 hd w)
        have HFR := Aside.mk (fun w => freeL_ (c := C) (a := av) HQ.out.hc hu1 w)
        have e0 : (ew == 0) = false := by simpa using hp2.1.2
        have key : f = 4 ∨ (f = 0 ∧ k ≠ 1) ∨ (f = 0 ∧ k = 1 ∧ s ≠ 0) ∨ (f = 0 ∧ k = 1 ∧ s = 0 ∧ c ≠ C ∧ Y ≤ y) ∨ (f = 0 ∧ k = 1 ∧ s = 0 ∧ C = c ∧ Y < y) ∨ (f = 0 ∧ k = 1 ∧ s = 0 ∧ C = c ∧ Y = y ∧ room C av = 0) := none_key hd hp2
        have HKY := Aside.mk key
        have HPK := Aside.mk hpk0
        have HPK1 := Aside.mk hpk1
        clear key hpk0 hpk1 hp2 hu0 hu1 hd hj0 hj1 hlt
        go_wp2_with fail
        clear xP
        replace H := Aside.mk H.out.drew
        refine start_ (n := 16) (S := fun w' => w'.cell? ⟨x, 3, none⟩ = some (.int .i64 ((P : Int) + 1)) ∧ w'.cell? ⟨x, 4, none⟩ = some (.int .i64 ((T : Int) + 1)) ∧ w'.cell? ⟨x, 5, none⟩ = some (.int .i64 1) ∧ w'.cell? ⟨x, 6, none⟩ = some (.int .i64 64) ∧ w'.cell? ⟨x, 7, none⟩ = some (.int .i64 (22 + 6 * (T : Int))) ∧ w'.cell? ⟨x, 8, none⟩ = some (.int .i64 (128 + 64 * (P : Int))) ∧ w'.cell? ⟨x, 9, none⟩ = some (.pointer (some ⟨a, 0, none⟩))) (ds := []) (flg 16 0) (by kernel_rfl) rfl rfl (⟨(H.out.pick 5 rfl).cell 3, (H.out.pick 5 rfl).cell 4, (H.out.pick 5 rfl).cell 5, (H.out.pick 5 rfl).cell 6, (H.out.pick 5 rfl).cell 7, (H.out.pick 5 rfl).cell 8, (H.out.pick 5 rfl).cell 9⟩) (fun hHeld => ?_)
        refine with_tabW ln.tab23 ln.bits23 (fun HT_ HW_ => ?_)
        refine pu_ (v := ?_) (a' := ?_) 0 (some 138) 1 rfl rfl HT_ (by kernel_rfl) (.inl ⟨by rfl, ?_⟩) ?_ ?_; rotate_left 2; (· intro w'; go_simp; with_reducible rfl); (· simp only [nrm]; rfl)
        refine pu_ (v := ?_) (a' := ?_) 1 (some 139) 3 rfl rfl HT_ (by kernel_rfl) (.inl ⟨by rfl, ?_⟩) ?_ ?_; rotate_left 2; (· intro w'; go_simp; with_reducible rfl); (· simp only [nrm]; rfl)
        refine pu_ (v := ?_) (a' := ?_) 2 (some 140) 7 rfl rfl HT_ (by kernel_rfl) (.inl ⟨by rfl, ?_⟩) ?_ ?_; rotate_left 2; (· intro w'; go_simp; with_reducible rfl); (· simp only [nrm]; rfl)
        refine tk_ (v := ?_) (a' := ?_) 3 (some 141) 15 rfl rfl HT_ HW_ (by kernel_rfl) (.inl ⟨by rfl, ?_⟩) hHeld ?_ ?_; rotate_left 2; (· rintro w' ⟨_, _, _, _, _, _, _⟩; go_simp; with_reducible rfl); (· simp only [nrm]; rfl)
        refine pu_ (v := ?_) (a' := ?_) 4 (some 142) 31 rfl rfl HT_ (by kernel_rfl) (.inl ⟨by rfl, ?_⟩) ?_ ?_; rotate_left 2; (· intro w'; go_simp; with_reducible rfl); (· simp only [nrm]; rfl)
        refine pu_ (v := ?_) (a' := ?_) 5 (some 143) 63 rfl rfl HT_ (by kernel_rfl) (.inl ⟨by rfl, ?_⟩) ?_ ?_; rotate_left 2; (· intro w'; go_simp; with_reducible rfl); (· simp only [nrm]; rfl)
        refine pu_ (v := ?_) (a' := ?_) 6 (some 144) 127 rfl rfl HT_ (by kernel_rfl) (.inl ⟨by rfl, ?_⟩) ?_ ?_; rotate_left 2; (· intro w'; go_simp; with_reducible rfl); (· simp only [nrm]; rfl)
        refine tk_ (v := ?_) (a' := ?_) 7 (some 145) 255 rfl rfl HT_ HW_ (by kernel_rfl) (.inl ⟨by rfl, ?_⟩) hHeld ?_ ?_; rotate_left 2; (· rintro w' ⟨_, _, _, _, _, _, _⟩; go_simp; with_reducible rfl); (· simp only [nrm]; rfl)
        refine pu_ (v := ?_) (a' := ?_) 8 (some 146) 511 rfl rfl HT_ (by kernel_rfl) (.inl ⟨by rfl, ?_⟩) ?_ ?_; rotate_left 2; (· intro w'; go_simp; with_reducible rfl); (· simp only [nrm]; rfl)
        refine on_ 9 (some 147) 1023 rfl rfl HT_ (by kernel_rfl) (by decide) (fun K hK => ?_)
        refine goes_ Tryd.func33 (by kernel_rfl) rfl #[.agg #[.int .i64 ((P : Int) + 1), .int .i64 ((T : Int) + 1), .int .i64 1, .int .i64 64, .int .i64 (22 + 6 * (T : Int)), .int .i64 (128 + 64 * (P : Int))], .int .i64 (i : Int)] (by rfl) rfl rfl (by (try simp only [List.map_toArray, List.map_cons, List.map_nil]); first | done | rfl) ?_
        refine (windrowref06_Map_PageEntry.calls _ _ _ _ _ _ _ _ _ HPE.out).mono ?_
        rintro e w2 ⟨rfl, hb⟩
        replace H := Aside.mk (H.out.step hb)
        clear hb
        refine ⟨_, rfl, ?_⟩
        refine hK.out _ _ ⟨(H.out.pick 5 rfl).cell 3, (H.out.pick 5 rfl).cell 4, (H.out.pick 5 rfl).cell 5, (H.out.pick 5 rfl).cell 6, (H.out.pick 5 rfl).cell 7, (H.out.pick 5 rfl).cell 8, (H.out.pick 5 rfl).cell 9⟩ (fun hHeld => ?_)
        clear hK K
        refine norm_ (a' := ?_) ?_ ?_
        rotate_left
        · show Act.put _ (some 147) _ = _
          simp only [nrm]
          rfl
        refine on_ 10 (some 148) 2047 rfl rfl HT_ (by kernel_rfl) (by decide) (fun K hK => ?_)
        refine goes_ Tryd.func19 (by kernel_rfl) rfl #[.pointer (some ⟨a, 0, none⟩), .int .i64 (j : Nat)] (by rfl) rfl rfl (by (try simp only [List.map_toArray, List.map_cons, List.map_nil]); first | done | rfl) ?_
        refine (HPK.out _ _ (H.out.order 3 [1, 2, 0] rfl rfl)).mono ?_
        rintro e w3 ⟨rfl, rfl⟩
        refine ⟨_, rfl, ?_⟩
        refine hK.out _ _ ⟨(H.out.pick 5 rfl).cell 3, (H.out.pick 5 rfl).cell 4, (H.out.pick 5 rfl).cell 5, (H.out.pick 5 rfl).cell 6, (H.out.pick 5 rfl).cell 7, (H.out.pick 5 rfl).cell 8, (H.out.pick 5 rfl).cell 9⟩ (fun hHeld => ?_)
        clear hK K
        refine norm_ (a' := ?_) ?_ ?_
        rotate_left
        · show Act.put _ (some 148) _ = _
          simp only [nrm]
          rfl
        refine pu_ (v := ?_) (a' := ?_) 11 (some 137) 4095 rfl rfl HT_ (by kernel_rfl) (.inl ⟨by rfl, ?_⟩) ?_ ?_; rotate_left 2; (· intro w'; go_simp; with_reducible rfl); (· simp only [nrm]; rfl)
        refine pu_ (v := ?_) (a' := ?_) 12 (some 149) 8191 rfl rfl HT_ (by kernel_rfl) (.inl ⟨by rfl, ?_⟩) ?_ ?_; rotate_left 2; (· intro w'; go_simp; with_reducible rfl); (· simp only [nrm]; rfl)
        refine pu_ (v := ?_) (a' := ?_) 13 (some 150) 16383 rfl rfl HT_ (by kernel_rfl) (.inl ⟨by rfl, ?_⟩) ?_ ?_; rotate_left 2; (· intro w'; go_simp; with_reducible rfl); (· simp only [nrm]; rfl)
        refine pu_ (v := ?_) (a' := ?_) 14 (some 17) 32767 rfl rfl HT_ (by kernel_rfl) (.inl ⟨by rfl, ?_⟩) ?_ ?_; rotate_left 2; (· intro w'; go_simp; with_reducible rfl); (· simp only [nrm]; rfl)
        refine pu_ (v := ?_) (a' := ?_) 15 (some 18) 65535 rfl rfl HT_ (by kernel_rfl) (.inl ⟨by rfl, ?_⟩) ?_ ?_; rotate_left 2; (· intro w'; go_simp; with_reducible rfl); (· simp only [nrm]; rfl)
        refine done_ (done_of HT_.out (by kernel_rfl)) ?_
        clear HT_ HW_ hHeld
        go_wp2_with fail
        replace H := Aside.mk H.out.drew
        refine start_ (n := 16) (S := fun w' => w'.cell? ⟨x, 3, none⟩ = some (.int .i64 ((P : Int) + 1)) ∧ w'.cell? ⟨x, 4, none⟩ = some (.int .i64 ((T : Int) + 1)) ∧ w'.cell? ⟨x, 5, none⟩ = some (.int .i64 1) ∧ w'.cell? ⟨x, 6, none⟩ = some (.int .i64 64) ∧ w'.cell? ⟨x, 7, none⟩ = some (.int .i64 (22 + 6 * (T : Int))) ∧ w'.cell? ⟨x, 8, none⟩ = some (.int .i64 (128 + 64 * (P : Int))) ∧ w'.cell? ⟨x, 9, none⟩ = some (.pointer (some ⟨a, 0, none⟩))) (ds := []) (flg 16 0) (by kernel_rfl) rfl rfl (⟨(H.out.pick 5 rfl).cell 3, (H.out.pick 5 rfl).cell 4, (H.out.pick 5 rfl).cell 5, (H.out.pick 5 rfl).cell 6, (H.out.pick 5 rfl).cell 7, (H.out.pick 5 rfl).cell 8, (H.out.pick 5 rfl).cell 9⟩) (fun hHeld => ?_)
        refine with_tabW ln.tab24 ln.bits24 (fun HT_ HW_ => ?_)
        refine pu_ (v := ?_) (a' := ?_) 0 (some 152) 1 rfl rfl HT_ (by kernel_rfl) (.inl ⟨by rfl, ?_⟩) ?_ ?_; rotate_left 2; (· intro w'; go_simp; with_reducible rfl); (· simp only [nrm]; rfl)
        refine pu_ (v := ?_) (a' := ?_) 1 (some 153) 3 rfl rfl HT_ (by kernel_rfl) (.inl ⟨by rfl, ?_⟩) ?_ ?_; rotate_left 2; (· intro w'; go_simp; with_reducible rfl); (· simp only [nrm]; rfl)
        refine pu_ (v := ?_) (a' := ?_) 2 (some 154) 7 rfl rfl HT_ (by kernel_rfl) (.inl ⟨by rfl, ?_⟩) ?_ ?_; rotate_left 2; (· intro w'; go_simp; with_reducible rfl); (· simp only [nrm]; rfl)
        refine tk_ (v := ?_) (a' := ?_) 3 (some 155) 15 rfl rfl HT_ HW_ (by kernel_rfl) (.inl ⟨by rfl, ?_⟩) hHeld ?_ ?_; rotate_left 2; (· rintro w' ⟨_, _, _, _, _, _, _⟩; go_simp; with_reducible rfl); (· simp only [nrm]; rfl)
        refine pu_ (v := ?_) (a' := ?_) 4 (some 156) 31 rfl rfl HT_ (by kernel_rfl) (.inl ⟨by rfl, ?_⟩) ?_ ?_; rotate_left 2; (· intro w'; go_simp; with_reducible rfl); (· simp only [nrm]; rfl)
        refine pu_ (v := ?_) (a' := ?_) 5 (some 157) 63 rfl rfl HT_ (by kernel_rfl) (.inl ⟨by rfl, ?_⟩) ?_ ?_; rotate_left 2; (· intro w'; go_simp; with_reducible rfl); (· simp only [nrm]; rfl)
        refine pu_ (v := ?_) (a' := ?_) 6 (some 158) 127 rfl rfl HT_ (by kernel_rfl) (.inl ⟨by rfl, ?_⟩) ?_ ?_; rotate_left 2; (· intro w'; go_simp; with_reducible rfl); (· simp only [nrm]; rfl)
        refine tk_ (v := ?_) (a' := ?_) 7 (some 159) 255 rfl rfl HT_ HW_ (by kernel_rfl) (.inl ⟨by rfl, ?_⟩) hHeld ?_ ?_; rotate_left 2; (· rintro w' ⟨_, _, _, _, _, _, _⟩; go_simp; with_reducible rfl); (· simp only [nrm]; rfl)
        refine pu_ (v := ?_) (a' := ?_) 8 (some 160) 511 rfl rfl HT_ (by kernel_rfl) (.inl ⟨by rfl, ?_⟩) ?_ ?_; rotate_left 2; (· intro w'; go_simp; with_reducible rfl); (· simp only [nrm]; rfl)
        refine on_ 9 (some 161) 1023 rfl rfl HT_ (by kernel_rfl) (by decide) (fun K hK => ?_)
        refine goes_ Tryd.func36 (by kernel_rfl) rfl #[.agg #[.int .i64 ((P : Int) + 1), .int .i64 ((T : Int) + 1), .int .i64 1, .int .i64 64, .int .i64 (22 + 6 * (T : Int)), .int .i64 (128 + 64 * (P : Int))], .int .i64 (i : Int)] (by rfl) rfl rfl (by (try simp only [List.map_toArray, List.map_cons, List.map_nil]); first | done | rfl) ?_
        refine (windrowref06_Map_Alloc.calls _ _ _ _ _ _ _ _ _ HPA.out).mono ?_
        rintro e w2 ⟨rfl, hb⟩
        replace H := Aside.mk (H.out.step hb)
        clear hb
        refine ⟨_, rfl, ?_⟩
        refine hK.out _ _ ⟨(H.out.pick 5 rfl).cell 3, (H.out.pick 5 rfl).cell 4, (H.out.pick 5 rfl).cell 5, (H.out.pick 5 rfl).cell 6, (H.out.pick 5 rfl).cell 7, (H.out.pick 5 rfl).cell 8, (H.out.pick 5 rfl).cell 9⟩ (fun hHeld => ?_)
        clear hK K
        refine norm_ (a' := ?_) ?_ ?_
        rotate_left
        · show Act.put _ (some 161) _ = _
          simp only [nrm]
          rfl
        refine on_ 10 (some 162) 2047 rfl rfl HT_ (by kernel_rfl) (by decide) (fun K hK => ?_)
        refine goes_ Tryd.func19 (by kernel_rfl) rfl #[.pointer (some ⟨a, 0, none⟩), .int .i64 (j1 : Nat)] (by rfl) rfl rfl (by (try simp only [List.map_toArray, List.map_cons, List.map_nil]); first | done | rfl) ?_
        refine (HPK1.out _ _ (H.out.order 3 [1, 2, 0] rfl rfl)).mono ?_
        rintro e w3 ⟨rfl, rfl⟩
        refine ⟨_, rfl, ?_⟩
        refine hK.out _ _ ⟨(H.out.pick 5 rfl).cell 3, (H.out.pick 5 rfl).cell 4, (H.out.pick 5 rfl).cell 5, (H.out.pick 5 rfl).cell 6, (H.out.pick 5 rfl).cell 7, (H.out.pick 5 rfl).cell 8, (H.out.pick 5 rfl).cell 9⟩ (fun hHeld => ?_)
        clear hK K
        refine norm_ (a' := ?_) ?_ ?_
        rotate_left
        · show Act.put _ (some 162) _ = _
          simp only [nrm]
          rfl
        refine pu_ (v := ?_) (a' := ?_) 11 (some 151) 4095 rfl rfl HT_ (by kernel_rfl) (.inl ⟨by rfl, ?_⟩) ?_ ?_; rotate_left 2; (· intro w'; go_simp; with_reducible rfl); (· simp only [nrm]; rfl)
        refine pu_ (v := ?_) (a' := ?_) 12 (some 163) 8191 rfl rfl HT_ (by kernel_rfl) (.inl ⟨by rfl, ?_⟩) ?_ ?_; rotate_left 2; (· intro w'; go_simp; with_reducible rfl); (· simp only [nrm]; rfl)
        refine pu_ (v := ?_) (a' := ?_) 13 (some 164) 16383 rfl rfl HT_ (by kernel_rfl) (.inl ⟨by rfl, ?_⟩) ?_ ?_; rotate_left 2; (· intro w'; go_simp; with_reducible rfl); (· simp only [nrm]; rfl)
        refine pu_ (v := ?_) (a' := ?_) 14 (some 19) 32767 rfl rfl HT_ (by kernel_rfl) (.inl ⟨by rfl, ?_⟩) ?_ ?_; rotate_left 2; (· intro w'; go_simp; with_reducible rfl); (· simp only [nrm]; rfl)
        refine pu_ (v := ?_) (a' := ?_) 15 (some 20) 65535 rfl rfl HT_ (by kernel_rfl) (.inl ⟨by rfl, ?_⟩) ?_ ?_; rotate_left 2; (· intro w'; go_simp; with_reducible rfl); (· simp only [nrm]; rfl)
        refine done_ (done_of HT_.out (by kernel_rfl)) ?_
        clear HT_ HW_ hHeld
        rcases HKY.out with rfl | ⟨rfl, hk⟩ | ⟨rfl, rfl, hs⟩ | ⟨rfl, rfl, rfl, hc, hy⟩ | ⟨rfl, rfl, rfl, rfl, hy⟩ | ⟨rfl, rfl, rfl, rfl, rfl, hr0⟩
        · go_wp2_with (go_at_call 60; refine (HDC.out _).mono ?_; rintro e w5 ⟨rfl, hb⟩; replace H := Aside.mk ((H.out.step hb).alloc #[.int .i64 k, .int .i64 c, .int .i64 s, .int .i64 o, .int .i64 y] 75); clear hb; have b0 := H.out.cell 0; have b1 := H.out.cell 1; have b2 := H.out.cell 2; have b3 := H.out.cell 3; have b4 := H.out.cell 4)
          go_roundg (P + 1 - (i + 1))
          case measure => have := HI.out; omega
          case rel => exact ⟨i + 1, rfl, HI.out, by first | rfl | (rw [w_of ((i : Int) + 1) (by omega) (by omega)]; rfl), ⟨H.out.rest⟩⟩
        · have fk : (k == 1) = false := by simpa using hk
          clear hk
          go_wp2_with (go_at_call 60; refine (HDC.out _).mono ?_; rintro e w5 ⟨rfl, hb⟩; replace H := Aside.mk ((H.out.step hb).alloc #[.int .i64 k, .int .i64 c, .int .i64 s, .int .i64 o, .int .i64 y] 75); clear hb; have b0 := H.out.cell 0; have b1 := H.out.cell 1; have b2 := H.out.cell 2; have b3 := H.out.cell 3; have b4 := H.out.cell 4)
          go_roundg (P + 1 - (i + 1))
          case measure => have := HI.out; omega
          case rel => exact ⟨i + 1, rfl, HI.out, by first | rfl | (rw [w_of ((i : Int) + 1) (by omega) (by omega)]; rfl), ⟨H.out.rest⟩⟩
        · have fs : (s == 0) = false := by simpa using hs
          clear hs
          go_wp2_with (go_at_call 60; refine (HDC.out _).mono ?_; rintro e w5 ⟨rfl, hb⟩; replace H := Aside.mk ((H.out.step hb).alloc #[.int .i64 1, .int .i64 c, .int .i64 s, .int .i64 o, .int .i64 y] 75); clear hb; have b0 := H.out.cell 0; have b1 := H.out.cell 1; have b2 := H.out.cell 2; have b3 := H.out.cell 3; have b4 := H.out.cell 4)
          go_roundg (P + 1 - (i + 1))
          case measure => have := HI.out; omega
          case rel => exact ⟨i + 1, rfl, HI.out, by first | rfl | (rw [w_of ((i : Int) + 1) (by omega) (by omega)]; rfl), ⟨H.out.rest⟩⟩
        · have fc : (c == C) = false := by simpa using hc
          have fy : decide (y < Y) = false := by simp; omega
          clear hc hy
          go_wp2_with (go_at_call 60; refine (HDC.out _).mono ?_; rintro e w5 ⟨rfl, hb⟩; replace H := Aside.mk ((H.out.step hb).alloc #[.int .i64 1, .int .i64 c, .int .i64 0, .int .i64 o, .int .i64 y] 75); clear hb; have b0 := H.out.cell 0; have b1 := H.out.cell 1; have b2 := H.out.cell 2; have b3 := H.out.cell 3; have b4 := H.out.cell 4)
          go_roundg (P + 1 - (i + 1))
          case measure => have := HI.out; omega
          case rel => exact ⟨i + 1, rfl, HI.out, by first | rfl | (rw [w_of ((i : Int) + 1) (by omega) (by omega)]; rfl), ⟨H.out.rest⟩⟩
        · have f1 : decide (y ≤ Y) = false := by simp; omega
          have f2 : decide (y < Y) = false := by simp; omega
          clear hy
          go_wp2_with (go_at_call 60; refine (HDC.out _).mono ?_; rintro e w5 ⟨rfl, hb⟩; replace H := Aside.mk ((H.out.step hb).alloc #[.int .i64 1, .int .i64 C, .int .i64 0, .int .i64 o, .int .i64 y] 75); clear hb; have b0 := H.out.cell 0; have b1 := H.out.cell 1; have b2 := H.out.cell 2; have b3 := H.out.cell 3; have b4 := H.out.cell 4)
          go_roundg (P + 1 - (i + 1))
          case measure => have := HI.out; omega
          case rel => exact ⟨i + 1, rfl, HI.out, by first | rfl | (rw [w_of ((i : Int) + 1) (by omega) (by omega)]; rfl), ⟨H.out.rest⟩⟩
        · rw [hr0] at HFR
          clear hr0
          go_wp2_with (first | (go_at_call 60; refine (HDC.out _).mono ?_; rintro e w5 ⟨rfl, hb⟩; replace H := Aside.mk ((H.out.step hb).alloc #[.int .i64 1, .int .i64 C, .int .i64 0, .int .i64 o, .int .i64 Y] 75); clear hb; have b0 := H.out.cell 0; have b1 := H.out.cell 1; have b2 := H.out.cell 2; have b3 := H.out.cell 3; have b4 := H.out.cell 4) | (go_at_call 61; refine (HFR.out _).mono ?_; rintro e w7 ⟨A9, c9, rfl, hb⟩; replace H := Aside.mk (H.out.step hb); clear hb b0 b1 b2 b3 b4; have b0 := H.out.cell 0; have b1 := H.out.cell 1; have b2 := H.out.cell 2; have b3 := H.out.cell 3; have b4 := H.out.cell 4))
          go_roundg (P + 1 - (i + 1))
          case measure => have := HI.out; omega
          case rel => exact ⟨i + 1, rfl, HI.out, by first | rfl | (rw [w_of ((i : Int) + 1) (by omega) (by omega)]; rfl), ⟨H.out.rest⟩⟩
      · have dlt : decide ((i : Int) < (P : Int) + 1) = false := by simp; omega
        have nlt : ¬ (i : Int) < (P : Int) + 1 := by omega
        go_wp2
        go_ret
        exact ⟨rfl, H.out.below⟩
end Go.Proofs.YtelfiegocdjnoaaDoor.Ar
