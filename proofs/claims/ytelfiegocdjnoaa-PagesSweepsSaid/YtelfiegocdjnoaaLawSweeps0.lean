/- The walk of PagesSweeps. Conditions: what comes in reads as the kinds say. -/
import Derived.Test.YtelfiegocdjnoaaTp1
import Derived.Test.YtelfiegocdjnoaaDs3
import Derived.Test.YtelfiegocdjnoaaDs4
import Derived.Test.YtelfiegocdjnoaaLg1
import Derived.Test.YtelfiegocdjnoaaFd3
import Derived.Test.YtelfiegocdjnoaaMrF0
import Derived.Test.YtelfiegocdjnoaaMrF1
namespace Go.Proofs.Ytelfiegocdjnoaa.Ar
open Go Go.RowKit Go.Proofs.Ytelfiegocdjnoaa.Sep Go.Proofs.Ytelfiegocdjnoaa.Pg Go.Proofs.YtelfiegocdjnoaaW.PrintWords Go.Proofs.YtelfiegocdjnoaaW.PrintLast Go.Proofs.YtelfiegocdjnoaaW.PrintMore Go.Proofs.Ytelfiegocdjnoaa.Q
set_option linter.unusedVariables false
set_option linter.unusedSimpArgs false
set_option maxHeartbeats 8000000
set_option maxRecDepth 100000
def sl.T1 : Bool × List (List Nat × List Nat) := (true, [([], []), ([0], [0]), ([], []), ([2], [2]), ([], []), ([4], [4]), ([], []), ([6], [6]), ([], []), ([8], [8]), ([], []), ([10], [10]), ([], []), ([12, 1, 0, 1, 12], [1, 12]), ([3, 13, 0, 1, 2, 3, 12, 13], [3]), ([5, 14, 0, 1, 2, 3, 4, 5, 12, 13, 14], [5]), ([7, 15, 0, 1, 2, 3, 4, 5, 6, 7, 12, 13, 14, 15], [7]), ([9, 16, 0, 1, 2, 3, 4, 5, 6, 7, 8, 9, 12, 13, 14, 15, 16], [9]), ([11, 17, 0, 1, 2, 3, 4, 5, 6, 7, 8, 9, 10, 11, 12, 13, 14, 15, 16, 17], [11])])
def sl.B1 : List Nat := [0, 1, 0, 4, 0, 16, 0, 64, 0, 256, 0, 1024, 0, 4099, 12303, 28735, 61695, 127999, 262143]
theorem sl.tab1 : rtab .any (opsOf Try.f4 1) = sl.T1 := by kernel_rfl
theorem sl.bits1 : waitsOk sl.T1.2 sl.B1 = true := by kernel_rfl
def sl.T21 : Bool × List (List Nat × List Nat) := (true, [([], []), ([], []), ([1], [1]), ([2], [2]), ([3], [3]), ([0, 4], [0, 4]), ([], []), ([6], [6]), ([5, 7], [5, 7]), ([8, 5], [8]), ([9], [9]), ([10, 9, 9], [9, 10]), ([9], [9]), ([12, 9], [9, 12]), ([11, 13, 9], [9, 11, 13]), ([9, 14], [9, 14]), ([15, 11], [15]), ([16], [16]), ([17, 16, 16], [16, 17]), ([16], [16]), ([19, 16], [16, 19]), ([18, 20, 16], [16, 18, 20]), ([16, 21], [16, 21]), ([22, 18], [22]), ([23], [23]), ([24, 23, 23], [23, 24]), ([23], [23]), ([26, 23], [23, 26]), ([25, 27, 23], [23, 25, 27]), ([23, 28], [23, 28]), ([29, 25], [29]), ([30], [30]), ([31, 30, 30], [30, 31]), ([30], [30]), ([33, 30], [30, 33]), ([32, 34, 30], [30, 32, 34]), ([30, 35], [30, 35]), ([36, 32], [36]), ([37], [37]), ([38, 37, 37], [37, 38]), ([37], [37]), ([40, 37], [37, 40]), ([39, 41, 37], [37, 39, 41]), ([37, 42], [37, 42])])
def sl.B21 : List Nat := [0, 0, 2, 6, 14, 31, 0, 64, 255, 511, 1023, 2047, 1023, 5119, 16383, 32767, 65535, 131071, 262143, 131071, 655359, 2097151, 4194303, 8388607, 16777215, 33554431, 16777215, 83886079, 268435455, 536870911, 1073741823, 2147483647, 4294967295, 2147483647, 10737418239, 34359738367, 68719476735, 137438953471, 274877906943, 549755813887, 274877906943, 1374389534719, 4398046511103, 8796093022207]
theorem sl.tab21 : rtab .any (opsOf Try.f4 21) = sl.T21 := by kernel_rfl
theorem sl.bits21 : waitsOk sl.T21.2 sl.B21 = true := by kernel_rfl
/-- All that stands while the sweep goes on. -/
abbrev LSx (x P T a d p gD gC s t n : Nat) (g : Bool) (y : Sw) (Xp Xd : List Int) (lp ld : List Acc) (lv lv2 lh : Value) (tp : Tp) : List HP :=
  [poB p a 15 g, arB a gC n lv true lp.length 0, ceB gC Xp, row 67 7 lv lp.length (accs lp), swB s y, fdB x P T a d p, daB d gD n lv2 0, blk gD (U Xd).toArray 22, row 67 7 lv2 ld.length (accs ld), tpB t lh tp, tpR lh tp]
theorem step_n {P T page n : Nat} {w0 w : World} {F : List HP} {p a gC s : Nat} {lv : Value} {l : List Acc} {X : List Int} {x : Sw} {k wt pt v : Int} {ad : Nat} {left : Int} (hX : X.length = n) (hp : Pl P T page x) (hg : x.Good P page) (h8 : x.at_ ≠ 8) (hn : n = 128 + 64 * P) (hl : l.length ≤ 100000) (hac : x.acc P T page = (k, ad, wt, pt)) (hv : v = X.getD ad 0) (hu : u64 v) (hlf : left = leftOf k v wt pt)
    (h : St w0 w (poB p a 15 true :: arB a gC n lv true l.length 0 :: ceB gC X :: row 67 7 lv l.length (accs l) :: swB s x :: F)) :
    Calls Try.prog 13 #[.pointer (some ⟨s, 0, none⟩), .pointer (some ⟨p, 0, none⟩)] w fun e w' => ∃ lv', e = .returned (.bool ((x.aft v).at_ == 8)) ∧
      St w0 w' (poB p a 15 false :: arB a gC n lv' true (l ++ [(⟨15, k, ad, wt, pt, v, left⟩ : Acc)]).length 0 :: ceB gC (X.set ad left) :: row 67 7 lv' (l ++ [(⟨15, k, ad, wt, pt, v, left⟩ : Acc)]).length (accs (l ++ [⟨15, k, ad, wt, pt, v, left⟩])) :: swB s (x.aft v) :: F) := by
  subst hlf hX
  have e := step_ (lv := lv) (l := l) (cn := (l.length : Nat)) (fl := 0) (who := 15) (X := X) (a := a) (gC := gC) (p := p) (s := s) (F := F) hp hg h8 hn hl (by omega) (by omega) (by rw [hac, ← hv]; exact hu) h
  rw [hac] at e
  simp only [← hv] at e
  refine e.mono ?_
  rintro e w' ⟨lv', rfl, h2⟩
  refine ⟨lv', rfl, ?_⟩
  change St w0 w' (poB p a 15 false :: arB a gC (X.set ad (leftOf k v wt pt)).length lv' true ((l.length : Int) + 1) 0 :: ceB gC (X.set ad (leftOf k v wt pt)) :: row 67 7 lv' _ (accs _) :: swB s (x.aft v) :: F) at h2
  rw [List.length_set] at h2
  have e3 : (((l ++ [(⟨15, k, ad, wt, pt, v, leftOf k v wt pt⟩ : Acc)]).length : Nat) : Int) = (l.length : Int) + 1 := by simp
  rw [e3]
  exact h2
theorem made_n {x P T a d p t gD ad n : Nat} {w0 w : World} {F : List HP} {g : Bool} {lh lv : Value} {y : Tp} {l : List Acc} {X : List Int} {k wt pt v left : Int} (hX : X.length = n) (hj : ad < n) (hn : n ≤ 4096) (hl : l.length ≤ 1000000) (hx : y.hist.length ≤ 1000) (hk : k = 1 ∨ k = 2 ∨ k = 4) (hy : y.nk = k ∧ y.na = ad ∧ y.nw = wt ∧ y.np = pt) (hv : v = X.getD ad 0) (hlf : left = leftOf k v wt pt)
    (h : St w0 w (fdB x P T a d p :: poB p a 15 g :: tpB t lh y :: tpR lh y :: daB d gD n lv 0 :: blk gD (U X).toArray 22 :: row 67 7 lv l.length (accs l) :: F)) :
    Calls Try.prog 28 #[.pointer (some ⟨x, 0, none⟩), .pointer (some ⟨t, 0, none⟩)] w fun e w' => e = .returned (.tuple #[]) ∧ ∃ lv' lh',
      St w0 w' (fdB x P T a d p :: poB p a 15 true :: tpB t lh' ⟨y.hist ++ [v], 0, k, ad, wt, pt, false⟩ :: tpR lh' ⟨y.hist ++ [v], 0, k, ad, wt, pt, false⟩ :: daB d gD n lv' 0 :: blk gD (U (X.set ad left)).toArray 22 :: row 67 7 lv' (l ++ [(⟨15, k, ad, wt, pt, v, left⟩ : Acc)]).length (accs (l ++ [⟨15, k, ad, wt, pt, v, left⟩])) :: F) := by
  subst hlf hX
  obtain ⟨hist, pos, nk, na, nw, np, st⟩ := y
  obtain ⟨rfl, rfl, rfl, rfl⟩ := hy
  have e := made_ (F := F) (f := 0) (who := 15) (y := ⟨hist, pos, nk, ad, nw, np, st⟩) (na := ad) hj hn hl hx hk rfl h
  rw [← hv] at e
  refine e.mono ?_
  rintro e w' ⟨rfl, lv', lh', h2⟩
  refine ⟨rfl, lv', lh', ?_⟩
  have e3 : (l ++ [(⟨15, nk, ad, nw, np, v, leftOf nk v nw np⟩ : Acc)]).length = l.length + 1 := by simp
  rw [e3]
  exact h2
theorem turns_n {x P T a d p gD gC n : Nat} {w0 w : World} {F : List HP} (hP : P < 5) (hT : T < 3) (hn : n = 128 + 64 * P) {lv lv2 : Value} {cn : Int} {X0 : List Int} (hX0 : X0.length = n) (m : Int) (A : Option Addr) (cc : Nat) (L : List STu) (hL : Kd.C kTu w0 A L.length L)
    (h : St w0 w (fdB x P T a d p :: daB d gD n lv 0 :: blk gD (U X0).toArray 22 :: arB a gC n lv2 true cn 0 :: ceB gC X0 :: F)) :
    Calls Try.prog 25 #[.pointer (some ⟨x, 0, none⟩), .slice A L.length cc, .int .i64 m] w fun e w' => e = .returned (.tuple #[]) ∧
      St w0 w' (fdB x P T a d p :: daB d gD n lv 0 :: blk gD (U (trX P T m L 0 X0)).toArray 22 :: arB a gC n lv2 true cn 0 :: ceB gC (trX P T m L 0 X0) :: F) := by
  subst hn
  exact turns_ hP hT hX0 m A cc L hL h
theorem seen_over {s : Nat} {w0 w : World} {F : List HP} {y : Sw} {R : Rs} (hR : R = y.seen) (h : St w0 w (swB s y :: F)) : Calls Try.prog 11 #[.pointer (some ⟨s, 0, none⟩)] w fun e w' => e = .returned (.bool R.over) ∧ St w0 w' (swB s y :: F) := by subst hR; exact sover_ h
theorem seen_swept {s : Nat} {w0 w : World} {F : List HP} {y : Sw} {R : Rs} (hR : R = y.seen) (h : St w0 w (swB s y :: F)) : Calls Try.prog 18 #[.pointer (some ⟨s, 0, none⟩)] w fun e w' => e = .returned (.bool R.swept) ∧ St w0 w' (swB s y :: F) := by subst hR; exact sswept_ h
theorem seen_empty {s : Nat} {w0 w : World} {F : List HP} {y : Sw} {R : Rs} (hR : R = y.seen) (h : St w0 w (swB s y :: F)) : Calls Try.prog 21 #[.pointer (some ⟨s, 0, none⟩)] w fun e w' => e = .returned (.bool R.empty) ∧ St w0 w' (swB s y :: F) := by subst hR; exact sempty_ h
theorem seen_freed {s : Nat} {w0 w : World} {F : List HP} {y : Sw} {R : Rs} (hR : R = y.seen) (h : St w0 w (swB s y :: F)) : Calls Try.prog 23 #[.pointer (some ⟨s, 0, none⟩)] w fun e w' => e = .returned (.int .i64 R.freed) ∧ St w0 w' (swB s y :: F) := by subst hR; exact sfreed_ h
theorem seen_blocked {s : Nat} {w0 w : World} {F : List HP} {y : Sw} {R : Rs} (hR : R = y.seen) (h : St w0 w (swB s y :: F)) : Calls Try.prog 29 #[.pointer (some ⟨s, 0, none⟩)] w fun e w' => e = .returned (.bool R.blocked) ∧ St w0 w' (swB s y :: F) := by subst hR; exact sblocked_ h
theorem sweeps_wrong {P : Nat} {who cyc page : Int} (h : ¬ (0 ≤ page ∧ page < (P : Int) + 1 ∧ worker who ∧ 0 ≤ cyc ∧ cyc ≤ 4294967295)) : page < 0 ∨ (0 ≤ page ∧ (P : Int) + 1 ≤ page) ∨ (0 ≤ page ∧ page < (P : Int) + 1 ∧ ((who < 0) ∨ (0 ≤ who ∧ 5 < who ∧ who ≠ 15) ∨ (0 ≤ who ∧ who ≤ 5 ∧ (cyc < 0 ∨ (0 ≤ cyc ∧ 4294967295 < cyc))) ∨ (0 ≤ who ∧ 5 < who ∧ who = 15 ∧ (cyc < 0 ∨ (0 ≤ cyc ∧ 4294967295 < cyc))))) := by
  unfold worker at h
  omega
theorem law_sweeps (q1 q2 q3 who cyc page : Int) (A : Option Addr) (c : Nat) (L : List SPg) (A2 : Option Addr) (c2 : Nat) (O : List STu) (w : World) (hL : Kd.C kPg w A L.length L) (hr : ∀ g ∈ L, rngP g) (hO : Kd.C kTu w A2 O.length O) :
    Calls Try.prog 4 #[.agg #[.int .i64 q1, .int .i64 q2, .int .i64 q3, .slice A L.length c, .int .i64 who, .int .i64 cyc, .int .i64 page, .slice A2 O.length c2]] w fun e w' => e = .returned (.bool true) ∧ Below w.heap.size w w' := by
  have H := Aside.mk ((St.start w).alloc #[.int .i64 q1, .int .i64 q2, .int .i64 q3, .slice A L.length c, .int .i64 who, .int .i64 cyc, .int .i64 page, .slice A2 O.length c2] 63)
  have HLC := Aside.mk hL
  have HRC := Aside.mk hr
  have HOC := Aside.mk hO
  clear hL hr hO
  go_enter Try.func4, Try.ntmps4
  go_wp2_with fail
  replace H := Aside.mk H.out.drew
  refine start_ (n := 19) (S := fun w' => w'.cell? ⟨w.heap.size, 0, none⟩ = some (.int .i64 q1) ∧ w'.cell? ⟨w.heap.size, 1, none⟩ = some (.int .i64 q2) ∧ w'.cell? ⟨w.heap.size, 2, none⟩ = some (.int .i64 q3) ∧ w'.cell? ⟨w.heap.size, 3, none⟩ = some (.slice A L.length c) ∧ w'.cell? ⟨w.heap.size, 4, none⟩ = some (.int .i64 who) ∧ w'.cell? ⟨w.heap.size, 5, none⟩ = some (.int .i64 cyc) ∧ w'.cell? ⟨w.heap.size, 6, none⟩ = some (.int .i64 page) ∧ w'.cell? ⟨w.heap.size, 7, none⟩ = some (.slice A2 O.length c2)) (ds := []) (flg 19 0) (by kernel_rfl) rfl rfl (⟨H.out.cell 0, H.out.cell 1, H.out.cell 2, H.out.cell 3, H.out.cell 4, H.out.cell 5, H.out.cell 6, H.out.cell 7⟩) (fun hHeld => ?_)
  refine with_tabW sl.tab1 sl.bits1 (fun HT_ HW_ => ?_)
  generalize World.drew _ = w4 at H hHeld ⊢
  refine pu_ (v := ?_) (a' := ?_) 0 (some 17) 1 rfl rfl HT_ (by kernel_rfl) (.inl ⟨by rfl, ?_⟩) ?_ ?_; rotate_left 2; (· intro w'; go_simp; with_reducible rfl); (· simp only [nrm]; rfl)
  refine tk_ (v := ?_) (a' := ?_) 1 (some 18) 3 rfl rfl HT_ HW_ (by kernel_rfl) (.inl ⟨by rfl, ?_⟩) hHeld ?_ ?_; rotate_left 2; (· rintro w' ⟨_, _, _, _, _, _, _, _⟩; go_simp; with_reducible rfl); (· simp only [nrm]; rfl)
  refine pu_ (v := ?_) (a' := ?_) 2 (some 19) 7 rfl rfl HT_ (by kernel_rfl) (.inl ⟨by rfl, ?_⟩) ?_ ?_; rotate_left 2; (· intro w'; go_simp; with_reducible rfl); (· simp only [nrm]; rfl)
  refine tk_ (v := ?_) (a' := ?_) 3 (some 20) 15 rfl rfl HT_ HW_ (by kernel_rfl) (.inl ⟨by rfl, ?_⟩) hHeld ?_ ?_; rotate_left 2; (· rintro w' ⟨_, _, _, _, _, _, _, _⟩; go_simp; with_reducible rfl); (· simp only [nrm]; rfl)
  refine pu_ (v := ?_) (a' := ?_) 4 (some 21) 31 rfl rfl HT_ (by kernel_rfl) (.inl ⟨by rfl, ?_⟩) ?_ ?_; rotate_left 2; (· intro w'; go_simp; with_reducible rfl); (· simp only [nrm]; rfl)
  refine tk_ (v := ?_) (a' := ?_) 5 (some 22) 63 rfl rfl HT_ HW_ (by kernel_rfl) (.inl ⟨by rfl, ?_⟩) hHeld ?_ ?_; rotate_left 2; (· rintro w' ⟨_, _, _, _, _, _, _, _⟩; go_simp; with_reducible rfl); (· simp only [nrm]; rfl)
  refine pu_ (v := ?_) (a' := ?_) 6 (some 23) 127 rfl rfl HT_ (by kernel_rfl) (.inl ⟨by rfl, ?_⟩) ?_ ?_; rotate_left 2; (· intro w'; go_simp; with_reducible rfl); (· simp only [nrm]; rfl)
  refine tk_ (v := ?_) (a' := ?_) 7 (some 24) 255 rfl rfl HT_ HW_ (by kernel_rfl) (.inl ⟨by rfl, ?_⟩) hHeld ?_ ?_; rotate_left 2; (· rintro w' ⟨_, _, _, _, _, _, _, _⟩; go_simp; with_reducible rfl); (· simp only [nrm]; rfl)
  refine pu_ (v := ?_) (a' := ?_) 8 (some 25) 511 rfl rfl HT_ (by kernel_rfl) (.inl ⟨by rfl, ?_⟩) ?_ ?_; rotate_left 2; (· intro w'; go_simp; with_reducible rfl); (· simp only [nrm]; rfl)
  refine tk_ (v := ?_) (a' := ?_) 9 (some 26) 1023 rfl rfl HT_ HW_ (by kernel_rfl) (.inl ⟨by rfl, ?_⟩) hHeld ?_ ?_; rotate_left 2; (· rintro w' ⟨_, _, _, _, _, _, _, _⟩; go_simp; with_reducible rfl); (· simp only [nrm]; rfl)
  refine pu_ (v := ?_) (a' := ?_) 10 (some 27) 2047 rfl rfl HT_ (by kernel_rfl) (.inl ⟨by rfl, ?_⟩) ?_ ?_; rotate_left 2; (· intro w'; go_simp; with_reducible rfl); (· simp only [nrm]; rfl)
  refine tk_ (v := ?_) (a' := ?_) 11 (some 28) 4095 rfl rfl HT_ HW_ (by kernel_rfl) (.inl ⟨by rfl, ?_⟩) hHeld ?_ ?_; rotate_left 2; (· rintro w' ⟨_, _, _, _, _, _, _, _⟩; go_simp; with_reducible rfl); (· simp only [nrm]; rfl)
  refine on_ 12 (some 3) 8191 rfl rfl HT_ (by kernel_rfl) (by decide) (fun K hK => ?_)
  refine value_ (w1 := ?_) (v := ?_) (by rfl) rfl ?_ ?_
  rotate_left 2
  · go_simp
    constructor
    · rfl
    · rfl
  replace H := Aside.mk (H.out.alloc #[.int .i64 0, .int .i64 0, .int .i64 0] 30)
  generalize World.alloc w4 _ = w5 at H ⊢
  generalize w4.heap.size = g3 at H ⊢
  refine hK.out _ _ ⟨(H.out.pick 1 rfl).cell 0, (H.out.pick 1 rfl).cell 1, (H.out.pick 1 rfl).cell 2, (H.out.pick 1 rfl).cell 3, (H.out.pick 1 rfl).cell 4, (H.out.pick 1 rfl).cell 5, (H.out.pick 1 rfl).cell 6, (H.out.pick 1 rfl).cell 7⟩ (fun hHeld => ?_)
  clear hK K
  refine norm_ (a' := ?_) ?_ ?_
  rotate_left
  · show Act.put _ (some 3) _ = _
    simp only [nrm]
    rfl
  refine on_ 13 (none) 16383 rfl rfl HT_ (by kernel_rfl) (by decide) (fun K hK => ?_)
  refine skip_ (by rfl) rfl (st_run_store (seg := [.int .i64 q1, .int .i64 q2, .int .i64 q3]) rfl rfl rfl rfl (Nat.le_of_ble_eq_true rfl) (by simp [Value.oneCell']) H.out) ?_
  have h8 := H.out.setCells 0 [.int .i64 q1, .int .i64 q2, .int .i64 q3] (Nat.le_of_ble_eq_true rfl)
  generalize World.setCells _ _ _ _ = w6 at h8 ⊢
  replace H : Aside (St w w6 [blk g3 #[.int .i64 q1, .int .i64 q2, .int .i64 q3] 30, blk w.heap.size #[.int .i64 q1, .int .i64 q2, .int .i64 q3, .slice A L.length c, .int .i64 who, .int .i64 cyc, .int .i64 page, .slice A2 O.length c2] 63]) := Aside.mk h8
  clear h8
  refine hK.out _ _ ⟨(H.out.pick 1 rfl).cell 0, (H.out.pick 1 rfl).cell 1, (H.out.pick 1 rfl).cell 2, (H.out.pick 1 rfl).cell 3, (H.out.pick 1 rfl).cell 4, (H.out.pick 1 rfl).cell 5, (H.out.pick 1 rfl).cell 6, (H.out.pick 1 rfl).cell 7⟩ (fun hHeld => ?_)
  clear hK K
  refine pu_ (v := ?_) (a' := ?_) 14 (some 4) 32767 rfl rfl HT_ (by kernel_rfl) (.inl ⟨by rfl, ?_⟩) ?_ ?_; rotate_left 2; (· intro w'; go_simp; with_reducible rfl); (· simp only [nrm]; rfl)
  refine pu_ (v := ?_) (a' := ?_) 15 (some 5) 65535 rfl rfl HT_ (by kernel_rfl) (.inl ⟨by rfl, ?_⟩) ?_ ?_; rotate_left 2; (· intro w'; go_simp; with_reducible rfl); (· simp only [nrm]; rfl)
  refine pu_ (v := ?_) (a' := ?_) 16 (some 6) 131071 rfl rfl HT_ (by kernel_rfl) (.inl ⟨by rfl, ?_⟩) ?_ ?_; rotate_left 2; (· intro w'; go_simp; with_reducible rfl); (· simp only [nrm]; rfl)
  refine pu_ (v := ?_) (a' := ?_) 17 (some 7) 262143 rfl rfl HT_ (by kernel_rfl) (.inl ⟨by rfl, ?_⟩) ?_ ?_; rotate_left 2; (· intro w'; go_simp; with_reducible rfl); (· simp only [nrm]; rfl)
  refine pu_ (v := ?_) (a' := ?_) 18 (some 8) 524287 rfl rfl HT_ (by kernel_rfl) (.inl ⟨by rfl, ?_⟩) ?_ ?_; rotate_left 2; (· intro w'; go_simp; with_reducible rfl); (· simp only [nrm]; rfl)
  refine done_ (done_of HT_.out (by kernel_rfl)) ?_
  clear HT_ HW_ hHeld
  have y0 := H.out.cell 0
  have y1 := H.out.cell 1
  have y2 := H.out.cell 2
  have hP := pgs_lt q1
  have hT := thr_lt q2
  have hlay := fun (w' : World) (h : Kd.C kPg w' A L.length L) => lay_ q1 q2 q3 A c L w' h HRC.out
  have hXl : (layX (pgs q1) (thr q2) L 0 (List.replicate (128 + 64 * pgs q1) 0)).length = 128 + 64 * pgs q1 := (layX_len _ _ _).trans List.length_replicate
  have hXr : Rng (layX (pgs q1) (thr q2) L 0 (List.replicate (128 + 64 * pgs q1) 0)) := layX_rng _ _ _ HRC.out (rng_zeros _)
  generalize pgs q1 = P at hlay hP hXl hXr
  generalize thr q2 = T at hlay hT hXl hXr
  generalize layX P T L 0 (List.replicate (128 + 64 * P) 0) = X0 at hlay hXl hXr
  have HLAY := Aside.mk hlay
  have HPp := Aside.mk hP
  have HTt := Aside.mk hT
  have HXL := Aside.mk hXl
  have HXR := Aside.mk hXr
  clear hlay hP hT hXl hXr
  go_upto_region 5 with (first
    | (go_at_call 7; refine (HLAY.out _ (Kd.C_below HLC.out H.out.below)).mono ?_; rintro e w7 ⟨x, a, d, p, gD, gC, rfl, h7⟩; replace H : Aside (St w w7 (Fd x P T a d p gD gC 15 false X0 (.slice none 0 0) [] 0 (.slice none 0 0) [] 0 0)) := Aside.mk (St_dropt (H.out.join h7) 8 2); clear h7 y0 y1 y2 HLAY)
    | (go_at_call 8; refine (paged_ _).mono ?_; rintro e w8 ⟨rfl, hb⟩; replace H : Aside (St w w8 (Fd x P T a d p gD gC 15 false X0 (.slice none 0 0) [] 0 (.slice none 0 0) [] 0 0)) := Aside.mk (H.out.step hb); clear hb; have x0 : w8.cell? ⟨x, 0, none⟩ = some (.int .i64 ((P : Int) + 1)) := H.out.cell 0))
  obtain ⟨rb, hrb⟩ : ∃ rb : Bool, rb = decide (0 ≤ page ∧ page < (P : Int) + 1 ∧ worker who ∧ 0 ≤ cyc ∧ cyc ≤ 4294967295) := ⟨_, rfl⟩
  go_cut [11] (fun v11 wc => v11 = .bool rb ∧ Aside (St w wc (Fd x P T a d p gD gC 15 false X0 (.slice none 0 0) [] 0 (.slice none 0 0) [] 0 0)))
  case first =>
    by_cases hok : 0 ≤ page ∧ page < (P : Int) + 1 ∧ worker who ∧ 0 ≤ cyc ∧ cyc ≤ 4294967295
    · rw [decide_eq_true hok] at hrb
      subst hrb
      obtain ⟨h1, h2, h3, h4, h5⟩ := hok
      have d1 : decide (0 ≤ page) = true := by simp [h1]
      have d2 : decide (page < (P : Int) + 1) = true := by simp [h2]
      have d4 : decide (0 ≤ cyc) = true := by simp [h4]
      have d5 : decide (cyc ≤ 4294967295) = true := by simp [h5]
      rcases h3 with ⟨h6, h7⟩ | h6
      · have d6 : decide (0 ≤ who) = true := by simp [h6]
        have h7 : who ≤ 5 := by omega
        have d7 : decide (who ≤ 5) = true := by simp [h7]
        go_wp2
        go_meet
        case rel => exact ⟨rfl, H⟩
      · have hw0 : (0 : Int) ≤ who := by omega
        have hw1 : ¬ who ≤ 5 := by omega
        have d6 : decide (0 ≤ who) = true := by simp [hw0]
        have d7 : decide (who ≤ 5) = false := by simp only [decide_eq_false_iff_not]; exact hw1
        have d8 : (who == 15) = true := by simp [h6]
        clear h6
        go_wp2
        go_meet
        case rel => exact ⟨rfl, H⟩
    · rw [decide_eq_false hok] at hrb
      subst hrb
      rcases sweeps_wrong hok with h | ⟨h1, h2⟩ | ⟨h1, h2, h⟩
      · have d1 : decide (0 ≤ page) = false := by simp only [decide_eq_false_iff_not]; omega
        have n1 : ¬ 0 ≤ page := by omega
        go_wp2
        go_meet
        case rel => exact ⟨rfl, H⟩
      · have d1 : decide (0 ≤ page) = true := by simp [h1]
        have d2 : decide (page < (P : Int) + 1) = false := by simp only [decide_eq_false_iff_not]; omega
        have n2 : ¬ page < (P : Int) + 1 := by omega
        go_wp2
        go_meet
        case rel => exact ⟨rfl, H⟩
      · have d1 : decide (0 ≤ page) = true := by simp [h1]
        have d2 : decide (page < (P : Int) + 1) = true := by simp [h2]
        rcases h with h | ⟨h3, h4, h5⟩ | ⟨h3, h4, h | ⟨h5, h6⟩⟩ | ⟨h3, h4, h7, h | ⟨h5, h6⟩⟩
        · have d6 : decide (0 ≤ who) = false := by simp only [decide_eq_false_iff_not]; omega
          have n6 : ¬ 0 ≤ who := by omega
          have d8 : (who == 15) = false := by simp only [beq_eq_false_iff_ne, ne_eq]; omega
          go_wp2
          go_meet
          case rel => exact ⟨rfl, H⟩
        · have d6 : decide (0 ≤ who) = true := by simp [h3]
          have n7 : ¬ who ≤ 5 := by omega
          have d7 : decide (who ≤ 5) = false := by simp only [decide_eq_false_iff_not]; exact n7
          have d8 : (who == 15) = false := by simp only [beq_eq_false_iff_ne, ne_eq]; exact h5
          go_wp2
          go_meet
          case rel => exact ⟨rfl, H⟩
        · have d6 : decide (0 ≤ who) = true := by simp [h3]
          have d7 : decide (who ≤ 5) = true := by simp [h4]
          have n4 : ¬ 0 ≤ cyc := by omega
          have d4 : decide (0 ≤ cyc) = false := by simp only [decide_eq_false_iff_not]; exact n4
          go_wp2
          go_meet
          case rel => exact ⟨rfl, H⟩
        · have d6 : decide (0 ≤ who) = true := by simp [h3]
          have d7 : decide (who ≤ 5) = true := by simp [h4]
          have d4 : decide (0 ≤ cyc) = true := by simp [h5]
          have n5 : ¬ cyc ≤ 4294967295 := by omega
          have d5 : decide (cyc ≤ 4294967295) = false := by simp only [decide_eq_false_iff_not]; exact n5
          go_wp2
          go_meet
          case rel => exact ⟨rfl, H⟩
        · have d6 : decide (0 ≤ who) = true := by simp [h3]
          have n7 : ¬ who ≤ 5 := by omega
          have d7 : decide (who ≤ 5) = false := by simp only [decide_eq_false_iff_not]; exact n7
          have d8 : (who == 15) = true := by simp [h7]
          have n4 : ¬ 0 ≤ cyc := by omega
          have d4 : decide (0 ≤ cyc) = false := by simp only [decide_eq_false_iff_not]; exact n4
          clear h7
          go_wp2
          go_meet
          case rel => exact ⟨rfl, H⟩
        · have d6 : decide (0 ≤ who) = true := by simp [h3]
          have n7 : ¬ who ≤ 5 := by omega
          have d7 : decide (who ≤ 5) = false := by simp only [decide_eq_false_iff_not]; exact n7
          have d8 : (who == 15) = true := by simp [h7]
          have d4 : decide (0 ≤ cyc) = true := by simp [h5]
          have n5 : ¬ cyc ≤ 4294967295 := by omega
          have d5 : decide (cyc ≤ 4294967295) = false := by simp only [decide_eq_false_iff_not]; exact n5
          clear h7
          go_wp2
          go_meet
          case rel => exact ⟨rfl, H⟩
  case rest =>
    clear H x0
    obtain ⟨rfl, H⟩ := hcut
    have x0 := H.out.cell 0
    have x1 := H.out.cell 1
    have x2 := H.out.cell 2
    by_cases hok : 0 ≤ page ∧ page < (P : Int) + 1 ∧ worker who ∧ 0 ≤ cyc ∧ cyc ≤ 4294967295
    case neg =>
      rw [decide_eq_false hok] at hrb
      subst hrb
      have HNO := Aside.mk hok
      clear hok
      go_wp2_with (first
        | (go_at_call 10; refine (windrowlaw09_plan.calls _ _ _ _ _ _ _ (show windrowlaw09_plan.f ((P : Int) + 1) ((T : Int) + 1) 1 = some ((P : Int) + 1, (T : Int) + 1, 1) from rfl)).mono ?_; rintro e w9 ⟨rfl, hb⟩; replace H := Aside.mk (H.out.step hb); clear hb x0 x1 x2)
        | (go_at_call 9; refine (newsweep_no HPp.out HTt.out HNO.out H.out).mono ?_; rintro e w10 ⟨rfl, h10⟩; replace H := Aside.mk h10; clear h10))
      go_ret
      exact ⟨by simp, H.out.below⟩
    case pos =>
      rw [decide_eq_true hok] at hrb
      subst hrb
      obtain ⟨h1, h2, h3, h4, h5⟩ := hok
      obtain ⟨pn, rfl⟩ := Int.eq_ofNat_of_zero_le h1
      have hpn : pn < P + 1 := by omega
      have HINV := Aside.mk (inv0 HPp.out HTt.out hpn h3 ⟨h4, h5⟩ HXL.out HXR.out [])
      have HPN := Aside.mk hpn
      have HWK := Aside.mk h3
      have HCY := Aside.mk (show 0 ≤ cyc ∧ cyc ≤ 4294967295 from ⟨h4, h5⟩)
      clear h1 h2 h3 h4 h5 hpn
      go_wp2_with (first
        | (go_at_call 10; refine (windrowlaw09_plan.calls _ _ _ _ _ _ _ (show windrowlaw09_plan.f ((P : Int) + 1) ((T : Int) + 1) 1 = some ((P : Int) + 1, (T : Int) + 1, 1) from rfl)).mono ?_; rintro e w9 ⟨rfl, hb⟩; replace H := Aside.mk (H.out.step hb); clear hb x0 x1 x2)
        | (go_at_call 9; refine (newsweep_yes HPp.out HTt.out (Int.natCast_nonneg pn) (by have := HPN.out; omega) HWK.out HCY.out H.out).mono ?_; rintro e w10 ⟨s, rfl, h10⟩; replace H := Aside.mk ((h10.alloc #[.slice none 0 0, .int .i64 0, .int .i64 0, .int .i64 0, .int .i64 0, .int .u64 0, .int .u64 0, .int .u64 0, .int .u64 0, .bool false] 69).nil_row 22 1); clear h10))
      generalize w10.heap.size = t at H ⊢
      obtain ⟨n, hn⟩ : ∃ n, n = 128 + 64 * P := ⟨_, rfl⟩
      have HNN := Aside.mk hn
      have h8 : X0.length = n := by rw [hn]; exact HXL.out
      have h9 := H.out.order 11 [7, 8, 9, 10, 2, 3, 4, 5, 6, 1, 0] rfl rfl
      have H2 := Aside.mk (show St w _ (LSx x P T a d p gD gC s t X0.length false (sw0 P T who cyc pn) X0 X0 [] [] (.slice none 0 0) (.slice none 0 0) (.slice none 0 0) ⟨[], 0, 0, 0, 0, 0, false⟩) from h9)
      rw [h8] at H2
      clear H hn h8 h9
      go_loopg [15, 16] (20) (fun m v15 v16 w' => ∃ i : Nat, m = 20 - i ∧ i ≤ 20 ∧ v15 = .int .i64 i ∧ ∃ (h : List Int) (y : Sw) (X : List Int) (l : List Acc) (lv lv2 lh : Value) (tp : Tp), Aside (Sh P T pn who cyc h y) ∧ Aside (y.at_ ≠ 8) ∧ Aside (h.length = i) ∧ Aside (l.length = i) ∧ Aside ((Ma.mk X y l).Inv P T pn) ∧ Aside (tp.hist = h) ∧ Aside (St w w' (LSx x P T a d p gD gC s t n false y X X l l lv lv2 lh tp)))
      case atStart => exact ⟨0, rfl, Nat.zero_le _, rfl, [], sw0 P T who cyc pn, X0, [], .slice none 0 0, .slice none 0 0, .slice none 0 0, ⟨[], 0, 0, 0, 0, 0, false⟩, ⟨.s0⟩, ⟨show (0 : Int) ≠ 8 by decide⟩, ⟨rfl⟩, ⟨rfl⟩, HINV, ⟨rfl⟩, H2⟩
      case round =>
        clear H2 HLC HRC HXL HXR
        obtain ⟨i, rfl, hi, rfl, h, y, X, l, lv, lv2, lh, tp, HSH, H8, HHL, HLL, HIN, HTP, H⟩ := hrel
        obtain ⟨th, tpos, tk, ta, tw, tq, tst⟩ := tp
        obtain rfl : h = th := HTP.out.symm
        clear HTP
        have hi10 : i ≤ 10 := by rw [← HHL.out]; exact HSH.out.short HINV.out.pl HINV.out.gd
        have d20 : decide ((i : Int) < 20) = true := by simp; omega
        have n20 : (i : Int) < 20 := by omega
        have hXn : X.length = n := by rw [HNN.out]; exact HIN.out.len
        obtain ⟨Xt, hXt⟩ : ∃ Xt, Xt = trX P T (i : Int) O 0 X := ⟨_, rfl⟩
        have hXtn : Xt.length = n := by rw [hXt, trX_len]; exact hXn
        have hXtr : Rng Xt := by rw [hXt]; exact trX_rng _ _ _ HIN.out.rng
        obtain ⟨k, ad, wt, pt, hac⟩ : ∃ k ad wt pt, y.acc P T pn = (k, ad, wt, pt) := ⟨_, _, _, _, rfl⟩
        have had : ad < n := by have := acc_lt HIN.out.pl HIN.out.gd H8.out; rw [hac] at this; rw [HNN.out]; exact this
        have hk : k = 1 ∨ k = 2 ∨ k = 4 := by have := acc_kind (P := P) (T := T) (page := pn) y; rw [hac] at this; exact this
        obtain ⟨v, hv⟩ : ∃ v, v = Xt.getD ad 0 := ⟨_, rfl⟩
        have hvu : Ar.u64 v := by rw [hv]; exact hXtr ad
        obtain ⟨left, hlf⟩ : ∃ left, left = leftOf k v wt pt := ⟨_, rfl⟩
        have hsn := HSH.out.next H8.out hvu
        have hask := HSH.out.next_ask (a := tk) (b := ta) (c := tw) (d := tq) H8.out
        rw [hac] at hask
        have htu := fun (w' : World) (F : List HP) (q : St w w' (fdB x P T a d p :: daB d gD n lv2 0 :: blk gD (U X).toArray 22 :: arB a gC n lv true l.length 0 :: ceB gC X :: F)) => turns_n HPp.out HTt.out HNN.out hXn (i : Int) A2 c2 O HOC.out q
        rw [← hXt] at htu
        have hst := fun (w' : World) (F : List HP) (q : St w w' (poB p a 15 true :: arB a gC n lv true l.length 0 :: ceB gC Xt :: row 67 7 lv l.length (accs l) :: swB s y :: F)) => step_n hXtn HIN.out.pl HIN.out.gd H8.out HNN.out (by have := HLL.out; omega) hac hv hvu hlf q
        have hmd := fun (w' : World) (F : List HP) (q : St w w' (fdB x P T a d p :: poB p a 15 false :: tpB t lh ⟨h, h.length, k, ad, wt, pt, true⟩ :: tpR lh ⟨h, h.length, k, ad, wt, pt, true⟩ :: daB d gD n lv2 0 :: blk gD (U Xt).toArray 22 :: row 67 7 lv2 l.length (accs l) :: F)) => made_n (y := ⟨h, h.length, k, ad, wt, pt, true⟩) hXtn had (by have := HNN.out; have := HPp.out; omega) (by have := HLL.out; omega) (by have := HHL.out; show h.length ≤ 1000; omega) hk ⟨rfl, rfl, rfl, rfl⟩ hv hlf q
        dsimp only at hmd
        have hu : ∀ q ∈ h ++ [v], Ar.u64 q := hsn.words
        obtain ⟨Z, hZ⟩ : ∃ Z, Z = (dSweep P T pn who cyc ⟨h ++ [v], 0, k, ad, wt, pt, false⟩).2 := ⟨_, rfl⟩
        obtain ⟨R, hR⟩ : ∃ R, R = (y.aft v).seen := ⟨_, rfl⟩
        have hds2 : dSweep P T pn who cyc ⟨h ++ [v], 0, k, ad, wt, pt, false⟩ = (R, Z) := by rw [hR, hZ, ← hsn.res (a := k) (b := ad) (c := wt) (d := pt)]
        have hZh : Z.hist = h ++ [v] := by rw [hZ]; exact dSweep_hist _
        have hrs1 := fun (w' : World) (F : List HP) (q : St w w' (tpB t lh ⟨h, 0, tk, ta, tw, tq, false⟩ :: tpR lh ⟨h, 0, tk, ta, tw, tq, false⟩ :: F)) => rsweep_ HPp.out HTt.out HPN.out HWK.out HCY.out (by have := HHL.out; show h.length ≤ 1000; omega) (fun q hq => hu q (List.mem_append_left _ hq)) hask q
        have hrs2 := fun (w' : World) (lh : Value) (F : List HP) (q : St w w' (tpB t lh ⟨h ++ [v], 0, k, ad, wt, pt, false⟩ :: tpR lh ⟨h ++ [v], 0, k, ad, wt, pt, false⟩ :: F)) => rsweep_ HPp.out HTt.out HPN.out HWK.out HCY.out (by have := HHL.out; show (h ++ [v]).length ≤ 1000; rw [List.length_append, List.length_singleton]; omega) hu hds2 q
        have hinv2 : (Ma.mk (Xt.set ad left) (y.aft v) (l ++ [⟨15, k, ad, wt, pt, v, left⟩])).Inv P T pn := by
          have hi1 : (Ma.mk Xt y l).Inv P T pn := ⟨HIN.out.pl, HIN.out.gd, by rw [← HNN.out]; exact hXtn, hXtr⟩
          have := hi1.stp (who := 15) H8.out
          unfold Ma.stp at this
          simp only [hac, ← hv, ← hlf] at this
          exact this
        obtain ⟨l2, hl2⟩ : ∃ l2, l2 = l ++ [(⟨15, k, ad, wt, pt, v, left⟩ : Acc)] := ⟨_, rfl⟩
        have hl2n : l2.length = i + 1 := by rw [hl2, List.length_append, HLL.out]; rfl
        rw [← hl2] at hst hmd hinv2
        generalize Xt.set ad left = Xn at hst hmd hinv2
        have hh2 : (h ++ [v]).length = i + 1 := by rw [List.length_append, HHL.out]; rfl
        generalize h ++ [v] = h2 at hh2 hsn hmd hrs2 hZh hds2 hu hZ
        generalize y.aft v = yn at hst hsn hR hinv2
        have ho : (yn.at_ == 8) = R.over := by rw [hR]; rfl
        rw [ho] at hst
        have HQ11 := Aside.mk (fun (w' : World) (F : List HP) (q : St w w' (swB s yn :: F)) => seen_over hR q)
        have HQ18 := Aside.mk (fun (w' : World) (F : List HP) (q : St w w' (swB s yn :: F)) => seen_swept hR q)
        have HQ21 := Aside.mk (fun (w' : World) (F : List HP) (q : St w w' (swB s yn :: F)) => seen_empty hR q)
        have HQ23 := Aside.mk (fun (w' : World) (F : List HP) (q : St w w' (swB s yn :: F)) => seen_freed hR q)
        have HQ29 := Aside.mk (fun (w' : World) (F : List HP) (q : St w w' (swB s yn :: F)) => seen_blocked hR q)
        have HTU := Aside.mk htu
        have HSTP := Aside.mk hst
        have HMD := Aside.mk hmd
        have HRS1 := Aside.mk hrs1
        have HRS2 := Aside.mk hrs2
        have HSN := Aside.mk hsn
        have HIN2 := Aside.mk hinv2
        have HL2N := Aside.mk hl2n
        have HZH := Aside.mk hZh
        have HH2 : Aside (h2.length = i + 1) := ⟨hh2⟩
        have HOV := Aside.mk ho
        have HI10 := Aside.mk hi10
        clear hh2 htu hst hmd hrs1 hrs2 hsn hinv2 hl2n hZh ho hi10 hds2 hR hZ hu hask hl2 hlf hvu hv hk had hac hXtr hXt hXtn hXn hi HSH H8 HIN
        go_wp2_with (first
          | (go_at_call 25; refine (HTU.out _ _ (H.out.order 8 [5, 6, 7, 1, 2, 0, 3, 4] rfl rfl)).mono ?_; rintro e w11 ⟨rfl, h11⟩; replace H : Aside (St w w11 (LSx x P T a d p gD gC s t n false y Xt Xt l l lv lv2 lh ⟨h, tpos, tk, ta, tw, tq, tst⟩)) := Aside.mk (h11.order 8 [5, 3, 4, 6, 7, 0, 1, 2] rfl rfl); clear h11)
          | (go_at_call 26; refine (tagain_ (H.out.order 11 [9, 10, 0, 1, 2, 3, 4, 5, 6, 7, 8] rfl rfl)).mono ?_; rintro e w12 ⟨rfl, h12⟩; replace H : Aside (St w w12 (LSx x P T a d p gD gC s t n false y Xt Xt l l lv lv2 lh ⟨h, 0, tk, ta, tw, tq, false⟩)) := Aside.mk (h12.order 11 [2, 3, 4, 5, 6, 7, 8, 9, 10, 0, 1] rfl rfl); clear h12; have x3 := (H.out.pick 5 rfl).cell 3; have x4 := (H.out.pick 5 rfl).cell 4; have x5 := (H.out.pick 5 rfl).cell 5; have x6 := (H.out.pick 5 rfl).cell 6; have x7 := (H.out.pick 5 rfl).cell 7; have x8 := (H.out.pick 5 rfl).cell 8)
          | (go_at_call 27; refine (HRS1.out _ _ (H.out.order 11 [9, 10, 0, 1, 2, 3, 4, 5, 6, 7, 8] rfl rfl)).mono ?_; rintro e w13 ⟨rfl, h13⟩; replace H : Aside (St w _ (blk w13.heap.size #[.bool false, .bool false, .bool false, .bool false, .int .i64 0] 72 :: LSx x P T a d p gD gC s t n false y Xt Xt l l lv lv2 lh ⟨h, h.length, k, ad, wt, pt, true⟩)) := Aside.mk ((show St w w13 (LSx x P T a d p gD gC s t n false y Xt Xt l l lv lv2 lh ⟨h, h.length, k, ad, wt, pt, true⟩) from h13.order 11 [2, 3, 4, 5, 6, 7, 8, 9, 10, 0, 1] rfl rfl).alloc #[.bool false, .bool false, .bool false, .bool false, .int .i64 0] 72); clear h13; clear x3 x4 x5 x6 x7 x8)
          | (with_reducible refine stop_at (.store 72 (.tmp 16) (.tmp 118)) rfl ?_))
        generalize w13.heap.size = gr at H ⊢
        refine ⟨?_⟩
        refine st_store rfl rfl rfl [.bool false, .bool false, .bool false, .bool false, .int .i64 0] #[.bool false, .bool false, .bool false, .bool false, .int .i64 0] rfl rfl rfl (Nat.le_of_ble_eq_true rfl) (by simp [Value.oneCell']) (H.out) rfl ?_
        intro w14 h_
        replace H : Aside (St w w14 (LSx x P T a d p gD gC s t n false y Xt Xt l l lv lv2 lh ⟨h, h.length, k, ad, wt, pt, true⟩ ++ [blk gr #[.bool false, .bool false, .bool false, .bool false, .int .i64 0] 72])) := Aside.mk (h_.order 12 [1, 2, 3, 4, 5, 6, 7, 8, 9, 10, 11, 0] rfl rfl)
        clear h_
        have r0 : w14.cell? ⟨gr, 0, none⟩ = some (.bool false) := (H.out.pick 11 rfl).cell 0
        go_wp2_with (first
          | (go_at_call 28; refine (HMD.out _ _ (H.out.order 12 [5, 0, 9, 10, 6, 7, 8, 1, 2, 3, 4, 11] rfl rfl)).mono ?_; rintro e w15 ⟨rfl, lv3, lh3, h15⟩; replace H : Aside (St w w15 (LSx x P T a d p gD gC s t n true y Xt Xn l l2 lv lv3 lh3 ⟨h2, 0, k, ad, wt, pt, false⟩ ++ [blk gr #[.bool false, .bool false, .bool false, .bool false, .int .i64 0] 72])) := Aside.mk (h15.order 12 [1, 7, 8, 9, 10, 0, 4, 5, 6, 2, 3, 11] rfl rfl); clear h15 r0; have x3 := (H.out.pick 5 rfl).cell 3; have x4 := (H.out.pick 5 rfl).cell 4; have x5 := (H.out.pick 5 rfl).cell 5; have x6 := (H.out.pick 5 rfl).cell 6; have x7 := (H.out.pick 5 rfl).cell 7; have x8 := (H.out.pick 5 rfl).cell 8)
          | (go_at_call 27; refine (HRS2.out _ _ _ (H.out.order 12 [9, 10, 0, 1, 2, 3, 4, 5, 6, 7, 8, 11] rfl rfl)).mono ?_; rintro e w16 ⟨rfl, h16⟩; replace H : Aside (St w w16 (LSx x P T a d p gD gC s t n true y Xt Xn l l2 lv lv3 lh3 Z ++ [blk gr #[.bool false, .bool false, .bool false, .bool false, .int .i64 0] 72])) := Aside.mk (h16.order 12 [2, 3, 4, 5, 6, 7, 8, 9, 10, 0, 1, 11] rfl rfl); clear h16; clear x3 x4 x5 x6 x7 x8)
          | (with_reducible refine stop_at (.store 72 (.tmp 16) (.tmp 133)) rfl ?_))
        refine ⟨?_⟩
        refine st_store rfl rfl rfl [.bool R.over, .bool R.swept, .bool R.empty, .bool R.blocked, .int .i64 R.freed] #[.bool R.over, .bool R.swept, .bool R.empty, .bool R.blocked, .int .i64 R.freed] rfl rfl rfl (Nat.le_of_ble_eq_true rfl) (by simp [Value.oneCell']) (H.out.pick 11 rfl) rfl ?_
        intro w17 h_
        replace H : Aside (St w w17 (LSx x P T a d p gD gC s t n true y Xt Xn l l2 lv lv3 lh3 Z ++ [blk gr #[.bool R.over, .bool R.swept, .bool R.empty, .bool R.blocked, .int .i64 R.freed] 72])) := Aside.mk (h_.order 12 [1, 2, 3, 4, 5, 6, 7, 8, 9, 10, 11, 0] rfl rfl)
        clear h_
        have n1 : (R.over != R.over) = false := by simp
        have n2 : (R.swept != R.swept) = false := by simp
        have n3 : (R.empty != R.empty) = false := by simp
        have n4 : (R.blocked != R.blocked) = false := by simp
        have n5 : (R.freed != R.freed) = false := by simp
        go_wp2_with fail
        replace H := Aside.mk H.out.drew
        refine start_ (n := 44) (S := fun w' => w'.cell? ⟨x, 11, none⟩ = some (.pointer (some ⟨p, 0, none⟩)) ∧ w'.cell? ⟨gr, 0, none⟩ = some (.bool R.over) ∧ w'.cell? ⟨gr, 1, none⟩ = some (.bool R.swept) ∧ w'.cell? ⟨gr, 2, none⟩ = some (.bool R.empty) ∧ w'.cell? ⟨gr, 3, none⟩ = some (.bool R.blocked) ∧ w'.cell? ⟨gr, 4, none⟩ = some (.int .i64 R.freed)) (ds := []) (flg 44 0) (by kernel_rfl) rfl rfl (⟨(H.out.pick 5 rfl).cell 11, (H.out.pick 11 rfl).cell 0, (H.out.pick 11 rfl).cell 1, (H.out.pick 11 rfl).cell 2, (H.out.pick 11 rfl).cell 3, (H.out.pick 11 rfl).cell 4⟩) (fun hHeld => ?_)
        refine with_tabW sl.tab21 sl.bits21 (fun HT_ HW_ => ?_)
        refine pu_ (v := ?_) (a' := ?_) 0 (some 134) 1 rfl rfl HT_ (by kernel_rfl) (.inl ⟨by rfl, ?_⟩) ?_ ?_; rotate_left 2; (· intro w'; go_simp; with_reducible rfl); (· simp only [nrm]; rfl)
        refine pu_ (v := ?_) (a' := ?_) 1 (some 135) 3 rfl rfl HT_ (by kernel_rfl) (.inl ⟨by rfl, ?_⟩) ?_ ?_; rotate_left 2; (· intro w'; go_simp; with_reducible rfl); (· simp only [nrm]; rfl)
        refine pu_ (v := ?_) (a' := ?_) 2 (some 136) 7 rfl rfl HT_ (by kernel_rfl) (.inl ⟨by rfl, ?_⟩) ?_ ?_; rotate_left 2; (· intro w'; go_simp; with_reducible rfl); (· simp only [nrm]; rfl)
        refine pu_ (v := ?_) (a' := ?_) 3 (some 137) 15 rfl rfl HT_ (by kernel_rfl) (.inl ⟨by rfl, ?_⟩) ?_ ?_; rotate_left 2; (· intro w'; go_simp; with_reducible rfl); (· simp only [nrm]; rfl)
        refine tk_ (v := ?_) (a' := ?_) 4 (some 138) 31 rfl rfl HT_ HW_ (by kernel_rfl) (.inl ⟨by rfl, ?_⟩) hHeld ?_ ?_; rotate_left 2; (· rintro w' ⟨_, _, _, _, _, _⟩; go_simp; with_reducible rfl); (· simp only [nrm]; rfl)
        refine pu_ (v := ?_) (a' := ?_) 6 (some 140) 95 rfl rfl HT_ (by kernel_rfl) (.inl ⟨by rfl, ?_⟩) ?_ ?_; rotate_left 2; (· intro w'; go_simp; with_reducible rfl); (· simp only [nrm]; rfl)
        refine tk_ (v := ?_) (a' := ?_) 7 (some 141) 223 rfl rfl HT_ HW_ (by kernel_rfl) (.inl ⟨by rfl, ?_⟩) hHeld ?_ ?_; rotate_left 2; (· rintro w' ⟨_, _, _, _, _, _⟩; go_simp; with_reducible rfl); (· simp only [nrm]; rfl)
        refine on_ 5 (some 139) 255 rfl rfl HT_ (by kernel_rfl) (by decide) (fun K hK => ?_)
        refine goes_ Try.func13 (by kernel_rfl) rfl #[.pointer (some ⟨s, 0, none⟩), .pointer (some ⟨p, 0, none⟩)] (by rfl) rfl rfl (by (try simp only [List.map_toArray, List.map_cons, List.map_nil]); first | done | rfl) ?_
        refine (HSTP.out _ _ H.out).mono ?_
        rintro e w20 ⟨lv1, rfl, h20⟩
        replace H : Aside (St w w20 (LSx x P T a d p gD gC s t n false yn Xn Xn l2 l2 lv1 lv3 lh3 Z ++ [blk gr #[.bool R.over, .bool R.swept, .bool R.empty, .bool R.blocked, .int .i64 R.freed] 72])) := Aside.mk h20
        clear h20
        refine ⟨_, rfl, ?_⟩
        refine hK.out _ _ ⟨(H.out.pick 5 rfl).cell 11, (H.out.pick 11 rfl).cell 0, (H.out.pick 11 rfl).cell 1, (H.out.pick 11 rfl).cell 2, (H.out.pick 11 rfl).cell 3, (H.out.pick 11 rfl).cell 4⟩ (fun hHeld => ?_)
        clear hK K
        refine norm_ (a' := ?_) ?_ ?_
        rotate_left
        · show Act.put _ (some 139) _ = _
          simp only [nrm]
          rfl
        refine pu_ (v := ?_) (a' := ?_) 8 (some 142) 511 rfl rfl HT_ (by kernel_rfl) (.inl ⟨by rfl, ?_⟩) ?_ ?_; rotate_left 2; (· intro w'; go_simp; with_reducible rfl); (· simp only [nrm]; rfl)
        refine pu_ (v := ?_) (a' := ?_) 9 (some 143) 1023 rfl rfl HT_ (by kernel_rfl) (.inl ⟨by rfl, ?_⟩) ?_ ?_; rotate_left 2; (· intro w'; go_simp; with_reducible rfl); (· simp only [nrm]; rfl)
        refine pu_ (v := ?_) (a' := ?_) 10 (some 144) 2047 rfl rfl HT_ (by kernel_rfl) (.inl ⟨by rfl, ?_⟩) ?_ ?_; rotate_left 2; (· intro w'; go_simp; with_reducible rfl); (· simp only [nrm]; rfl)
        refine pu_ (v := ?_) (a' := ?_) 12 (some 146) 6143 rfl rfl HT_ (by kernel_rfl) (.inl ⟨by rfl, ?_⟩) ?_ ?_; rotate_left 2; (· intro w'; go_simp; with_reducible rfl); (· simp only [nrm]; rfl)
        refine tk_ (v := ?_) (a' := ?_) 13 (some 147) 14335 rfl rfl HT_ HW_ (by kernel_rfl) (.inl ⟨by rfl, ?_⟩) hHeld ?_ ?_; rotate_left 2; (· rintro w' ⟨_, _, _, _, _, _⟩; go_simp; with_reducible rfl); (· simp only [nrm]; rfl)
        refine on_ 11 (some 145) 16383 rfl rfl HT_ (by kernel_rfl) (by decide) (fun K hK => ?_)
        refine goes_ Try.func11 (by kernel_rfl) rfl #[.pointer (some ⟨s, 0, none⟩)] (by rfl) rfl rfl (by (try simp only [List.map_toArray, List.map_cons, List.map_nil]); first | done | rfl) ?_
        refine (HQ11.out _ _ (H.out.pick 4 rfl)).mono ?_
        rintro e w211 ⟨rfl, h211⟩
        replace H : Aside (St w w211 (LSx x P T a d p gD gC s t n false yn Xn Xn l2 l2 lv1 lv3 lh3 Z ++ [blk gr #[.bool R.over, .bool R.swept, .bool R.empty, .bool R.blocked, .int .i64 R.freed] 72])) := Aside.mk (h211.order 5 [1, 2, 3, 4, 0] rfl rfl)
        clear h211
        refine ⟨_, rfl, ?_⟩
        refine hK.out _ _ ⟨(H.out.pick 5 rfl).cell 11, (H.out.pick 11 rfl).cell 0, (H.out.pick 11 rfl).cell 1, (H.out.pick 11 rfl).cell 2, (H.out.pick 11 rfl).cell 3, (H.out.pick 11 rfl).cell 4⟩ (fun hHeld => ?_)
        clear hK K
        refine norm_ (a' := ?_) ?_ ?_
        rotate_left
        · show Act.put _ (some 145) _ = _
          simp only [nrm]
          rfl
        refine pu_ (v := ?_) (a' := ?_) 14 (some 148) 32767 rfl rfl HT_ (by kernel_rfl) (.inl ⟨by rfl, ?_⟩) ?_ ?_; rotate_left 2; (· intro w'; go_simp; with_reducible rfl); (· simp only [nrm]; rfl)
        refine pu_ (v := ?_) (a' := ?_) 15 (some 149) 65535 rfl rfl HT_ (by kernel_rfl) (.inl ⟨by rfl, ?_⟩) ?_ ?_; rotate_left 2; (· intro w'; go_simp; with_reducible rfl); (· simp only [nrm]; rfl)
        refine pu_ (v := ?_) (a' := ?_) 16 (some 150) 131071 rfl rfl HT_ (by kernel_rfl) (.inl ⟨by rfl, ?_⟩) ?_ ?_; rotate_left 2; (· intro w'; go_simp; with_reducible rfl); (· simp only [nrm]; rfl)
        refine pu_ (v := ?_) (a' := ?_) 17 (some 151) 262143 rfl rfl HT_ (by kernel_rfl) (.inl ⟨by rfl, ?_⟩) ?_ ?_; rotate_left 2; (· intro w'; go_simp; with_reducible rfl); (· simp only [nrm]; rfl)
        refine pu_ (v := ?_) (a' := ?_) 19 (some 153) 786431 rfl rfl HT_ (by kernel_rfl) (.inl ⟨by rfl, ?_⟩) ?_ ?_; rotate_left 2; (· intro w'; go_simp; with_reducible rfl); (· simp only [nrm]; rfl)
        refine tk_ (v := ?_) (a' := ?_) 20 (some 154) 1835007 rfl rfl HT_ HW_ (by kernel_rfl) (.inl ⟨by rfl, ?_⟩) hHeld ?_ ?_; rotate_left 2; (· rintro w' ⟨_, _, _, _, _, _⟩; go_simp; with_reducible rfl); (· simp only [nrm]; rfl)
        refine on_ 18 (some 152) 2097151 rfl rfl HT_ (by kernel_rfl) (by decide) (fun K hK => ?_)
        refine goes_ Try.func18 (by kernel_rfl) rfl #[.pointer (some ⟨s, 0, none⟩)] (by rfl) rfl rfl (by (try simp only [List.map_toArray, List.map_cons, List.map_nil]); first | done | rfl) ?_
        refine (HQ18.out _ _ (H.out.pick 4 rfl)).mono ?_
        rintro e w218 ⟨rfl, h218⟩
        replace H : Aside (St w w218 (LSx x P T a d p gD gC s t n false yn Xn Xn l2 l2 lv1 lv3 lh3 Z ++ [blk gr #[.bool R.over, .bool R.swept, .bool R.empty, .bool R.blocked, .int .i64 R.freed] 72])) := Aside.mk (h218.order 5 [1, 2, 3, 4, 0] rfl rfl)
        clear h218
        refine ⟨_, rfl, ?_⟩
        refine hK.out _ _ ⟨(H.out.pick 5 rfl).cell 11, (H.out.pick 11 rfl).cell 0, (H.out.pick 11 rfl).cell 1, (H.out.pick 11 rfl).cell 2, (H.out.pick 11 rfl).cell 3, (H.out.pick 11 rfl).cell 4⟩ (fun hHeld => ?_)
        clear hK K
        refine norm_ (a' := ?_) ?_ ?_
        rotate_left
        · show Act.put _ (some 152) _ = _
          simp only [nrm]
          rfl
        refine pu_ (v := ?_) (a' := ?_) 21 (some 155) 4194303 rfl rfl HT_ (by kernel_rfl) (.inl ⟨by rfl, ?_⟩) ?_ ?_; rotate_left 2; (· intro w'; go_simp; with_reducible rfl); (· simp only [nrm]; rfl)
        refine pu_ (v := ?_) (a' := ?_) 22 (some 156) 8388607 rfl rfl HT_ (by kernel_rfl) (.inl ⟨by rfl, ?_⟩) ?_ ?_; rotate_left 2; (· intro w'; go_simp; with_reducible rfl); (· simp only [nrm]; rfl)
        refine pu_ (v := ?_) (a' := ?_) 23 (some 157) 16777215 rfl rfl HT_ (by kernel_rfl) (.inl ⟨by rfl, ?_⟩) ?_ ?_; rotate_left 2; (· intro w'; go_simp; with_reducible rfl); (· simp only [nrm]; rfl)
        refine pu_ (v := ?_) (a' := ?_) 24 (some 158) 33554431 rfl rfl HT_ (by kernel_rfl) (.inl ⟨by rfl, ?_⟩) ?_ ?_; rotate_left 2; (· intro w'; go_simp; with_reducible rfl); (· simp only [nrm]; rfl)
        refine pu_ (v := ?_) (a' := ?_) 26 (some 160) 100663295 rfl rfl HT_ (by kernel_rfl) (.inl ⟨by rfl, ?_⟩) ?_ ?_; rotate_left 2; (· intro w'; go_simp; with_reducible rfl); (· simp only [nrm]; rfl)
        refine tk_ (v := ?_) (a' := ?_) 27 (some 161) 234881023 rfl rfl HT_ HW_ (by kernel_rfl) (.inl ⟨by rfl, ?_⟩) hHeld ?_ ?_; rotate_left 2; (· rintro w' ⟨_, _, _, _, _, _⟩; go_simp; with_reducible rfl); (· simp only [nrm]; rfl)
        refine on_ 25 (some 159) 268435455 rfl rfl HT_ (by kernel_rfl) (by decide) (fun K hK => ?_)
        refine goes_ Try.func21 (by kernel_rfl) rfl #[.pointer (some ⟨s, 0, none⟩)] (by rfl) rfl rfl (by (try simp only [List.map_toArray, List.map_cons, List.map_nil]); first | done | rfl) ?_
        refine (HQ21.out _ _ (H.out.pick 4 rfl)).mono ?_
        rintro e w221 ⟨rfl, h221⟩
        replace H : Aside (St w w221 (LSx x P T a d p gD gC s t n false yn Xn Xn l2 l2 lv1 lv3 lh3 Z ++ [blk gr #[.bool R.over, .bool R.swept, .bool R.empty, .bool R.blocked, .int .i64 R.freed] 72])) := Aside.mk (h221.order 5 [1, 2, 3, 4, 0] rfl rfl)
        clear h221
        refine ⟨_, rfl, ?_⟩
        refine hK.out _ _ ⟨(H.out.pick 5 rfl).cell 11, (H.out.pick 11 rfl).cell 0, (H.out.pick 11 rfl).cell 1, (H.out.pick 11 rfl).cell 2, (H.out.pick 11 rfl).cell 3, (H.out.pick 11 rfl).cell 4⟩ (fun hHeld => ?_)
        clear hK K
        refine norm_ (a' := ?_) ?_ ?_
        rotate_left
        · show Act.put _ (some 159) _ = _
          simp only [nrm]
          rfl
        refine pu_ (v := ?_) (a' := ?_) 28 (some 162) 536870911 rfl rfl HT_ (by kernel_rfl) (.inl ⟨by rfl, ?_⟩) ?_ ?_; rotate_left 2; (· intro w'; go_simp; with_reducible rfl); (· simp only [nrm]; rfl)
        refine pu_ (v := ?_) (a' := ?_) 29 (some 163) 1073741823 rfl rfl HT_ (by kernel_rfl) (.inl ⟨by rfl, ?_⟩) ?_ ?_; rotate_left 2; (· intro w'; go_simp; with_reducible rfl); (· simp only [nrm]; rfl)
        refine pu_ (v := ?_) (a' := ?_) 30 (some 164) 2147483647 rfl rfl HT_ (by kernel_rfl) (.inl ⟨by rfl, ?_⟩) ?_ ?_; rotate_left 2; (· intro w'; go_simp; with_reducible rfl); (· simp only [nrm]; rfl)
        refine pu_ (v := ?_) (a' := ?_) 31 (some 165) 4294967295 rfl rfl HT_ (by kernel_rfl) (.inl ⟨by rfl, ?_⟩) ?_ ?_; rotate_left 2; (· intro w'; go_simp; with_reducible rfl); (· simp only [nrm]; rfl)
        refine pu_ (v := ?_) (a' := ?_) 33 (some 167) 12884901887 rfl rfl HT_ (by kernel_rfl) (.inl ⟨by rfl, ?_⟩) ?_ ?_; rotate_left 2; (· intro w'; go_simp; with_reducible rfl); (· simp only [nrm]; rfl)
        refine tk_ (v := ?_) (a' := ?_) 34 (some 168) 30064771071 rfl rfl HT_ HW_ (by kernel_rfl) (.inl ⟨by rfl, ?_⟩) hHeld ?_ ?_; rotate_left 2; (· rintro w' ⟨_, _, _, _, _, _⟩; go_simp; with_reducible rfl); (· simp only [nrm]; rfl)
        refine on_ 32 (some 166) 34359738367 rfl rfl HT_ (by kernel_rfl) (by decide) (fun K hK => ?_)
        refine goes_ Try.func23 (by kernel_rfl) rfl #[.pointer (some ⟨s, 0, none⟩)] (by rfl) rfl rfl (by (try simp only [List.map_toArray, List.map_cons, List.map_nil]); first | done | rfl) ?_
        refine (HQ23.out _ _ (H.out.pick 4 rfl)).mono ?_
        rintro e w223 ⟨rfl, h223⟩
        replace H : Aside (St w w223 (LSx x P T a d p gD gC s t n false yn Xn Xn l2 l2 lv1 lv3 lh3 Z ++ [blk gr #[.bool R.over, .bool R.swept, .bool R.empty, .bool R.blocked, .int .i64 R.freed] 72])) := Aside.mk (h223.order 5 [1, 2, 3, 4, 0] rfl rfl)
        clear h223
        refine ⟨_, rfl, ?_⟩
        refine hK.out _ _ ⟨(H.out.pick 5 rfl).cell 11, (H.out.pick 11 rfl).cell 0, (H.out.pick 11 rfl).cell 1, (H.out.pick 11 rfl).cell 2, (H.out.pick 11 rfl).cell 3, (H.out.pick 11 rfl).cell 4⟩ (fun hHeld => ?_)
        clear hK K
        refine norm_ (a' := ?_) ?_ ?_
        rotate_left
        · show Act.put _ (some 166) _ = _
          simp only [nrm]
          rfl
        refine pu_ (v := ?_) (a' := ?_) 35 (some 169) 68719476735 rfl rfl HT_ (by kernel_rfl) (.inl ⟨by rfl, ?_⟩) ?_ ?_; rotate_left 2; (· intro w'; go_simp; with_reducible rfl); (· simp only [nrm]; rfl)
        refine pu_ (v := ?_) (a' := ?_) 36 (some 170) 137438953471 rfl rfl HT_ (by kernel_rfl) (.inl ⟨by rfl, ?_⟩) ?_ ?_; rotate_left 2; (· intro w'; go_simp; with_reducible rfl); (· simp only [nrm]; rfl)
        refine pu_ (v := ?_) (a' := ?_) 37 (some 171) 274877906943 rfl rfl HT_ (by kernel_rfl) (.inl ⟨by rfl, ?_⟩) ?_ ?_; rotate_left 2; (· intro w'; go_simp; with_reducible rfl); (· simp only [nrm]; rfl)
        refine pu_ (v := ?_) (a' := ?_) 38 (some 172) 549755813887 rfl rfl HT_ (by kernel_rfl) (.inl ⟨by rfl, ?_⟩) ?_ ?_; rotate_left 2; (· intro w'; go_simp; with_reducible rfl); (· simp only [nrm]; rfl)
        refine pu_ (v := ?_) (a' := ?_) 40 (some 174) 1649267441663 rfl rfl HT_ (by kernel_rfl) (.inl ⟨by rfl, ?_⟩) ?_ ?_; rotate_left 2; (· intro w'; go_simp; with_reducible rfl); (· simp only [nrm]; rfl)
        refine tk_ (v := ?_) (a' := ?_) 41 (some 175) 3848290697215 rfl rfl HT_ HW_ (by kernel_rfl) (.inl ⟨by rfl, ?_⟩) hHeld ?_ ?_; rotate_left 2; (· rintro w' ⟨_, _, _, _, _, _⟩; go_simp; with_reducible rfl); (· simp only [nrm]; rfl)
        refine on_ 39 (some 173) 4398046511103 rfl rfl HT_ (by kernel_rfl) (by decide) (fun K hK => ?_)
        refine goes_ Try.func29 (by kernel_rfl) rfl #[.pointer (some ⟨s, 0, none⟩)] (by rfl) rfl rfl (by (try simp only [List.map_toArray, List.map_cons, List.map_nil]); first | done | rfl) ?_
        refine (HQ29.out _ _ (H.out.pick 4 rfl)).mono ?_
        rintro e w229 ⟨rfl, h229⟩
        replace H : Aside (St w w229 (LSx x P T a d p gD gC s t n false yn Xn Xn l2 l2 lv1 lv3 lh3 Z ++ [blk gr #[.bool R.over, .bool R.swept, .bool R.empty, .bool R.blocked, .int .i64 R.freed] 72])) := Aside.mk (h229.order 5 [1, 2, 3, 4, 0] rfl rfl)
        clear h229
        refine ⟨_, rfl, ?_⟩
        refine hK.out _ _ ⟨(H.out.pick 5 rfl).cell 11, (H.out.pick 11 rfl).cell 0, (H.out.pick 11 rfl).cell 1, (H.out.pick 11 rfl).cell 2, (H.out.pick 11 rfl).cell 3, (H.out.pick 11 rfl).cell 4⟩ (fun hHeld => ?_)
        clear hK K
        refine norm_ (a' := ?_) ?_ ?_
        rotate_left
        · show Act.put _ (some 173) _ = _
          simp only [nrm]
          rfl
        refine pu_ (v := ?_) (a' := ?_) 42 (some 176) 8796093022207 rfl rfl HT_ (by kernel_rfl) (.inl ⟨by rfl, ?_⟩) ?_ ?_; rotate_left 2; (· intro w'; go_simp; with_reducible rfl); (· simp only [nrm]; rfl)
        refine pu_ (v := ?_) (a' := ?_) 43 (some 177) 17592186044415 rfl rfl HT_ (by kernel_rfl) (.inl ⟨by rfl, ?_⟩) ?_ ?_; rotate_left 2; (· intro w'; go_simp; with_reducible rfl); (· simp only [nrm]; rfl)
        refine done_ (done_of HT_.out (by kernel_rfl)) ?_
        clear HT_ HW_ hHeld
        go_wp2_with (with_reducible refine stop_at (.load 4 (.tmp 178)) rfl ?_)
        refine ⟨?_⟩
        obtain ⟨ob, hob⟩ : ∃ ob, ob = R.over := ⟨_, rfl⟩
        have r0 : w229.cell? ⟨gr, 0, none⟩ = some (.bool R.over) := (H.out.pick 11 rfl).cell 0
        rw [← hob] at r0
        cases ob
        case true =>
          obtain ⟨g5, c5, rfl, hc5, hcell5⟩ := (H.out.pick 3 rfl).row_some (by have := HL2N.out; omega)
          obtain ⟨g6, c6, rfl, hc6, hcell6⟩ := (H.out.pick 8 rfl).row_some (by have := HL2N.out; omega)
          have HSM := Aside.mk (same_ (w := w229) (x := x) (a := a) (d := d) (g := g5) (g2 := g6) (L := l2) (by have := HL2N.out; omega) (by have := HL2N.out; have := HI10.out; omega) hc6 ((H.out.pick 5 rfl).cell 9) ((H.out.pick 5 rfl).cell 10) ((H.out.pick 1 rfl).cell 1) ((H.out.pick 1 rfl).cell 4) ((H.out.pick 6 rfl).cell 1) (logAt_of hcell5) (logAt_of hcell6))
          clear hcell5 hcell6 hc5 hc6 n1 n2 n3 n4 n5 hob
          go_wp2_with (go_at_call 30; refine HSM.out.mono ?_; rintro e w30 ⟨rfl, hb⟩; replace H := Aside.mk (H.out.step hb); clear hb)
          go_ret
          exact ⟨rfl, H.out.below⟩
        case false =>
          have HNE : Aside (yn.at_ ≠ 8) := ⟨fun hh => by have := HOV.out; rw [← hob, hh] at this; cases this⟩
          clear n1 n2 n3 n4 n5 hob
          go_wp2
          go_roundg (20 - (i + 1))
          case measure => have := HI10.out; omega
          case rel => exact ⟨i + 1, rfl, by have := HI10.out; omega, by first | rfl | (have := HI10.out; rw [w_of ((i : Int) + 1) (by omega) (by omega)]; rfl), h2, yn, Xn, l2, lv1, lv3, lh3, Z, HSN, HNE, HH2, HL2N, HIN2, HZH, ⟨St_dropt H.out 11 1⟩⟩
end Go.Proofs.Ytelfiegocdjnoaa.Ar
