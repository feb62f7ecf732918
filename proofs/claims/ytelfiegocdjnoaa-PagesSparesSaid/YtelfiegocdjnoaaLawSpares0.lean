/- The walk of PagesSpares. Condition: the words are words. -/
import Derived.Test.YtelfiegocdjnoaaFd3
import Derived.Test.YtelfiegocdjnoaaSp0
import Derived.Deep.CutBlock
import Derived.Test.YtelfiegocdjnoaaMrF0
import Derived.Test.YtelfiegocdjnoaaMrF2
import Derived.Test.YtelfiegocdjnoaaMrF1
namespace Go.Proofs.Ytelfiegocdjnoaa.Ar
open Go Go.RowKit Go.Proofs.Ytelfiegocdjnoaa.Sep Go.Proofs.Ytelfiegocdjnoaa.Pg Go.Proofs.YtelfiegocdjnoaaW.PrintWords Go.Proofs.YtelfiegocdjnoaaW.PrintLast Go.Proofs.YtelfiegocdjnoaaW.PrintMore Go.Proofs.Ytelfiegocdjnoaa.Q
set_option linter.unusedVariables false
set_option linter.unusedSimpArgs false
set_option maxHeartbeats 8000000
set_option maxRecDepth 100000
theorem mod_in (q : Int) (n : Int) (h0 : 0 < n) (h1 : n ≤ 4294967296) : 0 ≤ wrap64 (Int.tmod (IntKind.u64.wrap q) n) ∧ wrap64 (Int.tmod (IntKind.u64.wrap q) n) < n := by
  have h : 0 ≤ IntKind.u64.wrap q := by rw [IntKind.wrap_u64]; omega
  generalize IntKind.u64.wrap q = a at *
  rw [Int.tmod_eq_emod_of_nonneg h]
  have h2 := Int.emod_nonneg a (show n ≠ 0 by omega)
  have h3 := Int.emod_lt_of_pos a h0
  rw [w64 _ h2 (by omega)]
  exact ⟨h2, h3⟩
def sp.T1 : Bool × List (List Nat × List Nat) := (true, [([], []), ([0], [0]), ([], []), ([2], [2]), ([], []), ([4], [4]), ([], []), ([6], [6]), ([], []), ([8], [8]), ([1, 0, 1], [1]), ([3, 10, 0, 1, 2, 3, 10], [3]), ([5, 11, 0, 1, 2, 3, 4, 5, 10, 11], [5]), ([7, 12, 0, 1, 2, 3, 4, 5, 6, 7, 10, 11, 12], [7]), ([9, 13, 0, 1, 2, 3, 4, 5, 6, 7, 8, 9, 10, 11, 12, 13], [9])])
def sp.B1 : List Nat := [0, 1, 0, 4, 0, 16, 0, 64, 0, 256, 3, 1039, 3135, 7423, 16383]
theorem sp.tab1 : rtab .any (opsOf Try.f3 1) = sp.T1 := by kernel_rfl
theorem sp.bits1 : waitsOk sp.T1.2 sp.B1 = true := by kernel_rfl
def sp.T14 : Bool × List (List Nat × List Nat) := (true, [([], []), ([0], [0]), ([1], [1]), ([2], [2]), ([], []), ([4], [4]), ([5], [5]), ([6], [6]), ([7], [7]), ([3, 8, 8], [3, 8]), ([9], [9]), ([10], [10]), ([10], [10]), ([11, 9, 0, 1, 2, 3, 4, 5, 6, 7, 8, 9, 10, 11], [11]), ([12, 13, 0, 1, 2, 3, 4, 5, 6, 7, 8, 9, 10, 11, 12, 13], [12])])
def sp.B14 : List Nat := [0, 1, 3, 7, 0, 16, 48, 112, 240, 511, 1023, 2047, 2047, 4095, 16383]
theorem sp.tab14 : rtab .any (opsOf Try.f3 14) = sp.T14 := by kernel_rfl
theorem sp.bits14 : waitsOk sp.T14.2 sp.B14 = true := by kernel_rfl
def sp.T15 : Bool × List (List Nat × List Nat) := (true, [([], []), ([0], [0]), ([1], [1]), ([2], [2]), ([], []), ([4], [4]), ([5], [5]), ([6], [6]), ([7], [7]), ([3, 8, 8], [3, 8]), ([9], [9]), ([10], [10]), ([10], [10]), ([11, 9, 0, 1, 2, 3, 4, 5, 6, 7, 8, 9, 10, 11], [11]), ([12, 13, 0, 1, 2, 3, 4, 5, 6, 7, 8, 9, 10, 11, 12, 13], [12])])
def sp.B15 : List Nat := [0, 1, 3, 7, 0, 16, 48, 112, 240, 511, 1023, 2047, 2047, 4095, 16383]
theorem sp.tab15 : rtab .any (opsOf Try.f3 15) = sp.T15 := by kernel_rfl
theorem sp.bits15 : waitsOk sp.T15.2 sp.B15 = true := by kernel_rfl
def sp.T16 : Bool × List (List Nat × List Nat) := (true, [([], []), ([0], [0]), ([1], [1]), ([2], [2]), ([], []), ([4], [4]), ([5], [5]), ([6], [6]), ([7], [7]), ([3, 8, 8], [3, 8]), ([9], [9]), ([10], [10]), ([10], [10]), ([11, 9, 0, 1, 2, 3, 4, 5, 6, 7, 8, 9, 10, 11], [11]), ([12, 13, 0, 1, 2, 3, 4, 5, 6, 7, 8, 9, 10, 11, 12, 13], [12])])
def sp.B16 : List Nat := [0, 1, 3, 7, 0, 16, 48, 112, 240, 511, 1023, 2047, 2047, 4095, 16383]
theorem sp.tab16 : rtab .any (opsOf Try.f3 16) = sp.T16 := by kernel_rfl
theorem sp.bits16 : waitsOk sp.T16.2 sp.B16 = true := by kernel_rfl
theorem law_spares (cl cy wa al mk : Int) (ha : u64 al) (hm : u64 mk) (w : World) :
    Calls Try.prog 3 #[.agg #[.int .i64 cl, .int .i64 cy, .int .i64 wa, .int .u64 al, .int .u64 mk]] w fun e w' => e = .returned (.bool true) ∧ Below w.heap.size w w' := by
  have hCI := mod_in cl 8 (by decide) (by decide)
  have hYI := mod_in cy 4294967296 (by decide) (by decide)
  have hWI := mod_in wa 4294967296 (by decide) (by decide)
  have HCY : Aside (windrowlaw09_cycled.f cy = some (wrap64 (Int.tmod (IntKind.u64.wrap cy) 4294967296))) := ⟨rfl⟩
  have HCW : Aside (windrowlaw09_cycled.f wa = some (wrap64 (Int.tmod (IntKind.u64.wrap wa) 4294967296))) := ⟨rfl⟩
  obtain ⟨C, hC⟩ : ∃ C, C = wrap64 (Int.tmod (IntKind.u64.wrap cl) 8) := ⟨_, rfl⟩
  rw [← hC] at hCI
  generalize wrap64 (Int.tmod (IntKind.u64.wrap cy) 4294967296) = Y at hYI HCY
  generalize wrap64 (Int.tmod (IntKind.u64.wrap wa) 4294967296) = V at hWI HCW
  have HCI := Aside.mk hCI
  have HYI := Aside.mk hYI
  have HWI := Aside.mk hWI
  have HA := Aside.mk ha
  have HM := Aside.mk hm
  have HC := Aside.mk hC
  have H := Aside.mk ((St.start w).alloc #[.int .i64 cl, .int .i64 cy, .int .i64 wa, .int .u64 al, .int .u64 mk] 24)
  clear hCI hYI hWI ha hm hC
  go_enter Try.func3, Try.ntmps3
  go_wp2_with fail
  replace H := Aside.mk H.out.drew
  refine start_ (n := 15) (S := fun w' => w'.cell? ⟨w.heap.size, 0, none⟩ = some (.int .i64 cl) ∧ w'.cell? ⟨w.heap.size, 1, none⟩ = some (.int .i64 cy) ∧ w'.cell? ⟨w.heap.size, 2, none⟩ = some (.int .i64 wa) ∧ w'.cell? ⟨w.heap.size, 3, none⟩ = some (.int .u64 al) ∧ w'.cell? ⟨w.heap.size, 4, none⟩ = some (.int .u64 mk)) (ds := []) (flg 15 0) (by kernel_rfl) rfl rfl (⟨H.out.cell 0, H.out.cell 1, H.out.cell 2, H.out.cell 3, H.out.cell 4⟩) (fun hHeld => ?_)
  refine with_tabW sp.tab1 sp.bits1 (fun HT_ HW_ => ?_)
  refine pure_ (i := 0) (N := some 21) (v := ?_) (a' := ?_) (flg 15 1) rfl rfl (any_of HT_.out (by kernel_rfl)) (fun _ _ _ h => h) (Or.inl ⟨by rfl, ?_⟩) ?_ ?_
  rotate_left
  · intro w'
    go_simp
    with_reducible rfl
  rotate_left
  · simp only [nrm]
    rfl
  refine take_ (i := 1) (N := some 22) (v := ?_) (a' := ?_) (flg 15 3) rfl rfl (take_ofW HT_.out HW_.out (by kernel_rfl)) (fun _ _ _ h => h) (Or.inl ⟨by rfl, ?_⟩) hHeld ?_ ?_
  rotate_left
  · rintro w' ⟨s0_, s1_, s2_, s3_, s4_⟩
    go_simp
    with_reducible rfl
  rotate_left
  · simp only [nrm]
    rfl
  refine pure_ (i := 2) (N := some 23) (v := ?_) (a' := ?_) (flg 15 7) rfl rfl (any_of HT_.out (by kernel_rfl)) (fun _ _ _ h => h) (Or.inl ⟨by rfl, ?_⟩) ?_ ?_
  rotate_left
  · intro w'
    go_simp
    with_reducible rfl
  rotate_left
  · simp only [nrm]
    rfl
  refine take_ (i := 3) (N := some 24) (v := ?_) (a' := ?_) (flg 15 15) rfl rfl (take_ofW HT_.out HW_.out (by kernel_rfl)) (fun _ _ _ h => h) (Or.inl ⟨by rfl, ?_⟩) hHeld ?_ ?_
  rotate_left
  · rintro w' ⟨s0_, s1_, s2_, s3_, s4_⟩
    go_simp
    with_reducible rfl
  rotate_left
  · simp only [nrm]
    rfl
  refine pure_ (i := 4) (N := some 25) (v := ?_) (a' := ?_) (flg 15 31) rfl rfl (any_of HT_.out (by kernel_rfl)) (fun _ _ _ h => h) (Or.inl ⟨by rfl, ?_⟩) ?_ ?_
  rotate_left
  · intro w'
    go_simp
    with_reducible rfl
  rotate_left
  · simp only [nrm]
    rfl
  refine take_ (i := 5) (N := some 26) (v := ?_) (a' := ?_) (flg 15 63) rfl rfl (take_ofW HT_.out HW_.out (by kernel_rfl)) (fun _ _ _ h => h) (Or.inl ⟨by rfl, ?_⟩) hHeld ?_ ?_
  rotate_left
  · rintro w' ⟨s0_, s1_, s2_, s3_, s4_⟩
    go_simp
    with_reducible rfl
  rotate_left
  · simp only [nrm]
    rfl
  refine pure_ (i := 6) (N := some 27) (v := ?_) (a' := ?_) (flg 15 127) rfl rfl (any_of HT_.out (by kernel_rfl)) (fun _ _ _ h => h) (Or.inl ⟨by rfl, ?_⟩) ?_ ?_
  rotate_left
  · intro w'
    go_simp
    with_reducible rfl
  rotate_left
  · simp only [nrm]
    rfl
  refine take_ (i := 7) (N := some 28) (v := ?_) (a' := ?_) (flg 15 255) rfl rfl (take_ofW HT_.out HW_.out (by kernel_rfl)) (fun _ _ _ h => h) (Or.inl ⟨by rfl, ?_⟩) hHeld ?_ ?_
  rotate_left
  · rintro w' ⟨s0_, s1_, s2_, s3_, s4_⟩
    go_simp
    with_reducible rfl
  rotate_left
  · simp only [nrm]
    rfl
  refine pure_ (i := 8) (N := some 29) (v := ?_) (a' := ?_) (flg 15 511) rfl rfl (any_of HT_.out (by kernel_rfl)) (fun _ _ _ h => h) (Or.inl ⟨by rfl, ?_⟩) ?_ ?_
  rotate_left
  · intro w'
    go_simp
    with_reducible rfl
  rotate_left
  · simp only [nrm]
    rfl
  refine take_ (i := 9) (N := some 30) (v := ?_) (a' := ?_) (flg 15 1023) rfl rfl (take_ofW HT_.out HW_.out (by kernel_rfl)) (fun _ _ _ h => h) (Or.inl ⟨by rfl, ?_⟩) hHeld ?_ ?_
  rotate_left
  · rintro w' ⟨s0_, s1_, s2_, s3_, s4_⟩
    go_simp
    with_reducible rfl
  rotate_left
  · simp only [nrm]
    rfl
  refine pure_ (i := 10) (N := some 3) (v := ?_) (a' := ?_) (flg 15 2047) rfl rfl (any_of HT_.out (by kernel_rfl)) (fun _ _ _ h => h) (Or.inl ⟨by rfl, ?_⟩) ?_ ?_
  rotate_left
  · intro w'
    go_simp
    with_reducible rfl
  rotate_left
  · simp only [nrm]
    rfl
  refine pure_ (i := 11) (N := some 4) (v := ?_) (a' := ?_) (flg 15 4095) rfl rfl (any_of HT_.out (by kernel_rfl)) (fun _ _ _ h => h) (Or.inl ⟨by rfl, ?_⟩) ?_ ?_
  rotate_left
  · intro w'
    go_simp
    with_reducible rfl
  rotate_left
  · simp only [nrm]
    rfl
  refine pure_ (i := 12) (N := some 5) (v := ?_) (a' := ?_) (flg 15 8191) rfl rfl (any_of HT_.out (by kernel_rfl)) (fun _ _ _ h => h) (Or.inl ⟨by rfl, ?_⟩) ?_ ?_
  rotate_left
  · intro w'
    go_simp
    with_reducible rfl
  rotate_left
  · simp only [nrm]
    rfl
  refine pure_ (i := 13) (N := some 6) (v := ?_) (a' := ?_) (flg 15 16383) rfl rfl (any_of HT_.out (by kernel_rfl)) (fun _ _ _ h => h) (Or.inl ⟨by rfl, ?_⟩) ?_ ?_
  rotate_left
  · intro w'
    go_simp
    with_reducible rfl
  rotate_left
  · simp only [nrm]
    rfl
  refine pure_ (i := 14) (N := some 7) (v := ?_) (a' := ?_) (flg 15 32767) rfl rfl (any_of HT_.out (by kernel_rfl)) (fun _ _ _ h => h) (Or.inl ⟨by rfl, ?_⟩) ?_ ?_
  rotate_left
  · intro w'
    go_simp
    with_reducible rfl
  rotate_left
  · simp only [nrm]
    rfl
  refine done_ (done_of HT_.out (by kernel_rfl)) ?_
  clear HT_ HW_ hHeld
  go_wp2_with (first
    | (go_at_call 6; refine (windrowlaw09_cycled.calls cy _ _ HCY.out).mono ?_; rintro e w2 ⟨rfl, ⟨n1, rfl⟩⟩; replace H := Aside.mk (H.out.drewN n1))
    | (go_at_call 6; refine (windrowlaw09_cycled.calls wa _ _ HCW.out).mono ?_; rintro e w3 ⟨rfl, ⟨n2, rfl⟩⟩; replace H := Aside.mk (H.out.drewN n2)))
  have H0 : Aside (St w (((w.alloc (.cells #[.int .i64 cl, .int .i64 cy, .int .i64 wa, .int .u64 al, .int .u64 mk] 24)).drewN (1 + n1 + n2)).alloc (.cells #[.int .i64 1, .int .i64 C, .int .i64 0, .int .i64 0, .int .i64 V, .int .u64 0, .int .u64 al, .int .u64 mk] 34 (0, 0))) _) := ⟨(((St.start w).alloc #[.int .i64 cl, .int .i64 cy, .int .i64 wa, .int .u64 al, .int .u64 mk] 24).drewN (1 + n1 + n2)).alloc #[.int .i64 1, .int .i64 C, .int .i64 0, .int .i64 0, .int .i64 V, .int .u64 0, .int .u64 al, .int .u64 mk] 34⟩
  have hpg := pg_new ((w.alloc (.cells #[.int .i64 cl, .int .i64 cy, .int .i64 wa, .int .u64 al, .int .u64 mk] 24)).drewN (1 + n1 + n2)) (spG C V al mk)
  have hsz : ((w.alloc (.cells #[.int .i64 cl, .int .i64 cy, .int .i64 wa, .int .u64 al, .int .u64 mk] 24)).drewN (1 + n1 + n2)).heap.size = w.heap.size + 1 := by simp [World.drewN]
  rw [hsz] at hpg
  have hr0 : ∀ g ∈ [spG C V al mk], rngP g := by
    intro g hg
    obtain rfl : g = spG C V al mk := by simpa using hg
    exact ⟨(show (0 : Int) ≤ 0 ∧ (0 : Int) < 18446744073709551616 by decide), HA.out, HM.out⟩
  have hlx : layX 2 0 [spG C V al mk] 0 (List.replicate (128 + 64 * 2) 0) = spX C V al mk := layX_sp HCI.out (by have := HWI.out; omega)
  have HI0 : Aside ((spM C V al mk Y).Inv 2 0 0) := ⟨inv0 (by decide) (by decide) (page := 0) (by decide) (.inr rfl) (by have := HYI.out; omega) (show (spX C V al mk).length = 128 + 64 * 2 from spX_len) (by rw [← hlx]; exact layX_rng _ _ _ hr0 (rng_zeros _)) []⟩
  have HLAY := lay_ 2 0 0 (some ⟨w.heap.size + 1, 0, none⟩) 1 [spG C V al mk] _ hpg hr0
  rw [show pgs 2 = 2 from by decide, show thr 0 = 0 from by decide, hlx] at HLAY
  replace HLAY := Aside.mk HLAY
  clear H hpg hsz hr0 hlx
  rw [← HC.out]
  refine HLAY.out.mono ?_
  rintro e w4 ⟨x, a, d, p, gD, gC, rfl, h4⟩
  have H : Aside (St w w4 (Fd x 2 0 a d p gD gC 15 false (spX C V al mk) (.slice none 0 0) [] 0 (.slice none 0 0) [] 0 0)) := Aside.mk (((((H0.out.join h4).pick 8 rfl).rest).pick 8 rfl).rest)
  clear h4 HLAY H0
  go_upto_block 0 with (first
    | (go_at_call 8; refine (paged_ _).mono ?_; rintro e w5 ⟨rfl, hb⟩; replace H := Aside.mk (H.out.step hb); clear hb; have x0 : w5.cell? ⟨x, 0, none⟩ = some (.int .i64 (((2 : Nat) : Int) + 1)) := H.out.cell 0; have x1 : w5.cell? ⟨x, 1, none⟩ = some (.int .i64 (((0 : Nat) : Int) + 1)) := H.out.cell 1; have x2 : w5.cell? ⟨x, 2, none⟩ = some (.int .i64 1) := H.out.cell 2)
    | (go_at_call 10; refine (windrowlaw09_plan.calls _ _ _ _ _ _ _ (show windrowlaw09_plan.f (((2 : Nat) : Int) + 1) (((0 : Nat) : Int) + 1) 1 = some (((2 : Nat) : Int) + 1, ((0 : Nat) : Int) + 1, 1) from rfl)).mono ?_; rintro e w6 ⟨rfl, hb⟩; replace H := Aside.mk (H.out.step hb); clear hb x0 x1 x2)
    | (go_at_call 9; refine (newsweep_yes (P := 2) (T := 0) (by decide) (by decide) (who := 15) (cyc := Y) (page := 0) (by decide) (by decide) (.inr rfl) (by have := HYI.out; omega) H.out).mono ?_; rintro e w3 ⟨s, rfl, h3⟩; replace H : Aside (St w w3 (Rn x 2 0 a d p gD gC s 15 false (spM C V al mk Y) (.slice none 0 0) (.slice none 0 0) (spX C V al mk) [] 0)) := Aside.mk (h3.order 9 [5, 6, 7, 8, 0, 1, 2, 3, 4] rfl rfl); clear h3))
  go_cut [12] (fun v5 wc => ∃ lv, Aside (St w wc (Rn x 2 0 a d p gD gC s 15 false ((spM C V al mk Y).runs 2 0 0 15 8) lv (.slice none 0 0) (spX C V al mk) [] 0)))
  case first =>
    go_wp2_with fail
    go_loopg [12] (8) (fun m v5 w' => ∃ i : Nat, m = 8 - i ∧ i ≤ 8 ∧ v5 = .int .i64 i ∧ ∃ (y : Ma) (lv : Value), Aside (y.runs 2 0 0 15 (8 - i) = (spM C V al mk Y).runs 2 0 0 15 8) ∧ Aside (y.Inv 2 0 0) ∧ Aside (y.l.length ≤ i) ∧ Aside (St w w' (Rn x 2 0 a d p gD gC s 15 false y lv (.slice none 0 0) (spX C V al mk) [] 0)))
    case atStart => exact ⟨0, rfl, Nat.zero_le _, rfl, (spM C V al mk Y), .slice none 0 0, ⟨rfl⟩, HI0, ⟨Nat.le_refl _⟩, H⟩
    case round =>
      clear H HI0
      obtain ⟨i, rfl, hi, rfl, y, lv, HE, HI, HN, H⟩ := hrel
      have x11 : wr.cell? ⟨x, 11, none⟩ = some (.pointer (some ⟨p, 0, none⟩)) := (H.out.pick 5 rfl).cell 11
      have hn := HN.out
      by_cases hlt : i < 8
      · by_cases h8 : y.x.at_ = 8
        · have h8b : (y.x.at_ == 8) = true := by simp [h8]
          have hE := HE.out
          rw [runs_over h8] at hE
          have HE2 := Aside.mk hE
          clear hE h8 hn
          go_wp2_with (go_at_call 11; refine (sover_ (H.out.pick 4 rfl)).mono ?_; rintro e w4 ⟨rfl, h4⟩; replace H : Aside (St w w4 (Rn x 2 0 a d p gD gC s 15 false y lv (.slice none 0 0) (spX C V al mk) [] 0)) := Aside.mk (h4.order 5 [1, 2, 3, 4, 0] rfl rfl); clear h4 x11)
          go_meet
          case rel => exact ⟨lv, by rw [← HE2.out]; exact H⟩
        · have h8b : (y.x.at_ == 8) = false := by simpa using h8
          have H8 := Aside.mk h8
          have hstep := fun (w' : World) (h : St w w' (Are p a gC 15 true y.X lv y.l y.l.length 0 ++ swB s y.x :: [fdB x 2 0 a d p, daB d gD (List.length (spX C V al mk)) (.slice none 0 0) 0, blk gD (U (spX C V al mk)).toArray 22, row 67 7 (.slice none 0 0) 0 []])) => step_ HI.out.pl HI.out.gd h8 HI.out.len (by omega) (by omega) (by omega) (HI.out.rng _) h
          replace hstep := Aside.mk hstep
          clear h8 hn
          go_wp2_with (first
            | (go_at_call 11; refine (sover_ (H.out.pick 4 rfl)).mono ?_; rintro e w4 ⟨rfl, h4⟩; replace H : Aside (St w w4 (Rn x 2 0 a d p gD gC s 15 false y lv (.slice none 0 0) (spX C V al mk) [] 0)) := Aside.mk (h4.order 5 [1, 2, 3, 4, 0] rfl rfl); clear h4 x11; have x11 : w4.cell? ⟨x, 11, none⟩ = some (.pointer (some ⟨p, 0, none⟩)) := (H.out.pick 5 rfl).cell 11)
            | (go_at_call 12; refine (grant_ H.out).mono ?_; rintro e w5 ⟨rfl, h5⟩; replace H := Aside.mk h5; clear h5 x11; have x11 : w5.cell? ⟨x, 11, none⟩ = some (.pointer (some ⟨p, 0, none⟩)) := (H.out.pick 5 rfl).cell 11)
            | (go_at_call 13; refine (hstep.out _ H.out).mono ?_; rintro e w6 ⟨lv1, rfl, h6⟩; replace H := Aside.mk h6; clear h6 x11))
          go_roundg (8 - (i + 1))
          case measure => omega
          case rel =>
            refine ⟨i + 1, rfl, by omega, by first | rfl | (rw [w_of ((i : Int) + 1) (by omega) (by omega)]; rfl), y.stp 2 0 0 15, lv1, ⟨?_⟩, ⟨HI.out.stp H8.out⟩, ⟨?_⟩, ?_⟩
            · rw [← HE.out, show 8 - i = (8 - (i + 1)) + 1 by omega, runs_step H8.out]
            · have := HN.out; simp only [Ma.stp, List.length_append, List.length_singleton]; omega
            · refine ⟨?_⟩
              have h9 := H.out
              show St w _ (Are p a gC 15 false _ lv1 _ ((y.stp 2 0 0 15).l.length : Nat) 0 ++ _)
              rw [show ((y.stp 2 0 0 15).l.length : Int) = (y.l.length : Int) + 1 by simp [Ma.stp]]
              exact h9
      · have hE := HE.out
        rw [show 8 - i = 0 by omega] at hE
        have HE2 := Aside.mk (show y = (spM C V al mk Y).runs 2 0 0 15 8 from hE)
        clear hE hn
        go_wp2
        go_meet
        case rel => exact ⟨lv, by rw [← HE2.out]; exact H⟩
  case rest =>
    clear H
    obtain ⟨lv, H⟩ := hcut
    have hinv := runs_inv (who := 15) 8 HI0.out
    by_cases hd : V < Y
    · obtain ⟨q1, q2, q3, q4, q5, q6, q7⟩ := sp_due (C := C) (was := V) (al := al) (mk := mk) (cyc := Y) HCI.out (by have := HWI.out; omega) hd HA.out HM.out
      obtain ⟨an, rfl⟩ := Int.eq_ofNat_of_zero_le HA.out.1
      obtain ⟨mn, rfl⟩ := Int.eq_ofNat_of_zero_le HM.out.1
      have ha2 : an < 18446744073709551616 := Int.ofNat_lt.1 HA.out.2
      have hm2 : mn < 18446744073709551616 := Int.ofNat_lt.1 HM.out.2
      have hsl : spL (an : Int) (mn : Int) = ((an &&& mn : Nat) : Int) := u64_and_nat an mn ha2 hm2
      have hln : an &&& mn < 18446744073709551616 := Nat.lt_of_le_of_lt Nat.and_le_left ha2
      have hbits : ∀ i : Nat, i < 64 → ∃ b1 b2 b3 : Int, windrowref01_Bit.f 64 ((an &&& mn : Nat) : Int) i = some b1 ∧ windrowref01_Bit.f 64 an i = some b2 ∧ windrowref01_Bit.f 64 mn i = some b3 ∧ (b1 != IntKind.u64.wrap (b2 * b3)) = false := by
        intro i hi
        refine ⟨_, _, _, bit_ 64 _ i hln hi (Nat.le_refl _), bit_ 64 _ i ha2 hi (Nat.le_refl _), bit_ 64 _ i hm2 hi (Nat.le_refl _), ?_⟩
        rw [Nat.testBit_and]
        cases an.testBit i <;> cases mn.testBit i <;> rfl
      have hcnt : Pop.cnt 64 (an &&& (18446744073709551615 - (an &&& mn))) + Pop.cnt 64 (an &&& mn) = Pop.cnt 64 an := Pop.cnt_less an (an &&& mn) hln 64 (Nat.le_refl _) (fun i _ hb => by rw [Nat.testBit_and, Bool.and_eq_true] at hb; exact hb.1)
      have hP1 := places_ 129 an ha2 (Nat.le_refl _)
      have hP2 := places_ 129 (an &&& mn) hln (Nat.le_refl _)
      have hL1 : ((Pop.plc 64 an).map (fun (i : Nat) => (i : Int))).length = Pop.cnt 64 an := by rw [List.length_map, Pop.plc_len]
      have hL2 : ((Pop.plc 64 (an &&& mn)).map (fun (i : Nat) => (i : Int))).length = Pop.cnt 64 (an &&& mn) := by rw [List.length_map, Pop.plc_len]
      have hle1 := Pop.cnt_le 64 an
      rw [hsl] at q3 q4 q5 q7
      have hfr : ((Pop.cnt 64 ((an : Int).toNat &&& (18446744073709551615 - ((an &&& mn : Nat) : Int).toNat)) : Nat) : Int) = ((Pop.cnt 64 an : Nat) : Int) - ((Pop.cnt 64 (an &&& mn) : Nat) : Int) := by
        rw [Int.toNat_natCast, Int.toNat_natCast]; omega
      rw [hfr] at q4
      generalize (Pop.plc 64 an).map (fun (i : Nat) => (i : Int)) = P1 at hP1 hL1
      generalize (Pop.plc 64 (an &&& mn)).map (fun (i : Nat) => (i : Int)) = P2 at hP2 hL2
      rw [← hL1, ← hL2] at q4
      have hsub : wrap64 ((P1.length : Int) - (P2.length : Int)) = (P1.length : Int) - (P2.length : Int) := by rw [w64 _ (by omega) (by omega)]
      have hdw : ∃ dk dc ds d_o dy, windrowref02_DecodeEntry.f 3 (if (((an &&& mn : Nat) : Int) == 0) = true then 0 else wordOf 1 C 0 0 Y) = some (dk, dc, ds, d_o, dy, 0) ∧ ((((an &&& mn : Nat) : Int) == 0) = true ∨ windrowref02_Ready.f 3 dk dc ds d_o dy C Y = some true) := by
        by_cases he : (((an &&& mn : Nat) : Int) == 0) = true
        · rw [if_pos he, decR 0 0 (by decide) (by decide)]
          exact ⟨_, _, _, _, _, rfl, .inl he⟩
        · have hi := isE_sp HCI.out (y := Y) (by have := HYI.out; omega)
          have hu := wordOf_u64 hi
          rw [if_neg he, decR 0 _ hu.1 hu.2, dec_word hi]
          refine ⟨_, _, _, _, _, rfl, .inr ?_⟩
          unfold windrowref02_Ready.f
          rw [entry_, Option.bind_some, if_pos hi, if_pos rfl, if_pos rfl, if_pos rfl]
          simp
      obtain ⟨dk, dc, ds, d_o, dy, hdw, hrd⟩ := hdw
      have HBITS := Aside.mk hbits
      have HP1 := Aside.mk hP1
      have HP2 := Aside.mk hP2
      generalize (spM C V an mn Y).runs 2 0 0 15 8 = M at H hinv q1 q2 q3 q4 q5 q6 q7
      obtain ⟨z, hz⟩ : ∃ z, z = (if (((an &&& mn : Nat) : Int) == 0) = true then 0 else wordOf 1 C 0 0 Y) := ⟨_, rfl⟩
      rw [← hz] at hdw q7
      have HDW := Aside.mk hdw
      have hzz : (((an &&& mn : Nat) : Int) == 0) = true → (z == 0) = true := fun h => by rw [hz, if_pos h]; rfl
      generalize hA9 : ((an &&& mn : Nat) : Int) = A9 at q3 q5 hrd HBITS HP2 hzz
      have hp5 := fun (w' : World) (F : List HP) (h : St w w' (arB a gC M.X.length lv true M.l.length 0 :: ceB gC M.X :: F)) => peek_yes 25 (by rw [hinv.len]; decide) h
      have hp8 := fun (w' : World) (F : List HP) (h : St w w' (arB a gC M.X.length lv true M.l.length 0 :: ceB gC M.X :: F)) => peek_yes 28 (by rw [hinv.len]; decide) h
      have hp2 := fun (w' : World) (F : List HP) (h : St w w' (arB a gC M.X.length lv true M.l.length 0 :: ceB gC M.X :: F)) => peek_yes 22 (by rw [hinv.len]; decide) h
      rw [q5] at hp5
      rw [q6] at hp8
      rw [q7] at hp2
      have HPK5 := Aside.mk hp5
      have HPK8 := Aside.mk hp8
      have HPK2 := Aside.mk hp2
      have HAT := Aside.mk q1
      have HSW := Aside.mk q2
      have HEM := Aside.mk q3
      have HFR := Aside.mk (q4.trans hsub.symm)
      have HRD := Aside.mk hrd
      have HZZ := Aside.mk hzz
      have dVY : decide (Y ≤ V) = false := by simp; omega
      have HPE := Aside.mk (pent_ 2 0 0 (by decide) (by decide) (by decide))
      have HPA := Aside.mk (pall_ 2 0 0 (by decide) (by decide) (by decide))
      have HPM := Aside.mk (pmrk_ 2 0 0 (by decide) (by decide) (by decide))
      clear hp5 hp8 hp2 hinv q1 q2 q3 q4 q5 q6 q7 HI0 hsl hln hbits hcnt hP1 hP2 hL1 hL2 hle1 hfr hsub hdw hrd hzz hz ha2 hm2 hd hA9
      go_wp2_with fail
      replace H := Aside.mk H.out.drew
      refine start_ (n := 15) (S := fun w' => w'.cell? ⟨x, 3, none⟩ = some (.int .i64 (((2 : Nat) : Int) + 1)) ∧ w'.cell? ⟨x, 4, none⟩ = some (.int .i64 (((0 : Nat) : Int) + 1)) ∧ w'.cell? ⟨x, 5, none⟩ = some (.int .i64 1) ∧ w'.cell? ⟨x, 6, none⟩ = some (.int .i64 64) ∧ w'.cell? ⟨x, 7, none⟩ = some (.int .i64 (22 + 6 * ((0 : Nat) : Int))) ∧ w'.cell? ⟨x, 8, none⟩ = some (.int .i64 (128 + 64 * ((2 : Nat) : Int))) ∧ w'.cell? ⟨x, 9, none⟩ = some (.pointer (some ⟨a, 0, none⟩))) (ds := []) (flg 15 0) (by kernel_rfl) rfl rfl (⟨(H.out.pick 5 rfl).cell 3, (H.out.pick 5 rfl).cell 4, (H.out.pick 5 rfl).cell 5, (H.out.pick 5 rfl).cell 6, (H.out.pick 5 rfl).cell 7, (H.out.pick 5 rfl).cell 8, (H.out.pick 5 rfl).cell 9⟩) (fun hHeld => ?_)
      refine with_tabW sp.tab14 sp.bits14 (fun HT_ HW_ => ?_)
      refine pure_ (i := 0) (N := some 90) (v := ?_) (a' := ?_) (flg 15 1) rfl rfl (any_of HT_.out (by kernel_rfl)) (fun _ _ _ h => h) (Or.inl ⟨by rfl, ?_⟩) ?_ ?_
      rotate_left
      · intro w'
        go_simp
        with_reducible rfl
      rotate_left
      · simp only [nrm]
        rfl
      refine pure_ (i := 1) (N := some 91) (v := ?_) (a' := ?_) (flg 15 3) rfl rfl (any_of HT_.out (by kernel_rfl)) (fun _ _ _ h => h) (Or.inl ⟨by rfl, ?_⟩) ?_ ?_
      rotate_left
      · intro w'
        go_simp
        with_reducible rfl
      rotate_left
      · simp only [nrm]
        rfl
      refine pure_ (i := 2) (N := some 92) (v := ?_) (a' := ?_) (flg 15 7) rfl rfl (any_of HT_.out (by kernel_rfl)) (fun _ _ _ h => h) (Or.inl ⟨by rfl, ?_⟩) ?_ ?_
      rotate_left
      · intro w'
        go_simp
        with_reducible rfl
      rotate_left
      · simp only [nrm]
        rfl
      refine take_ (i := 3) (N := some 93) (v := ?_) (a' := ?_) (flg 15 15) rfl rfl (take_ofW HT_.out HW_.out (by kernel_rfl)) (fun _ _ _ h => h) (Or.inl ⟨by rfl, ?_⟩) hHeld ?_ ?_
      rotate_left
      · rintro w' ⟨s0_, s1_, s2_, s3_, s4_, s5_, s6_⟩
        go_simp
        with_reducible rfl
      rotate_left
      · simp only [nrm]
        rfl
      refine pure_ (i := 4) (N := some 94) (v := ?_) (a' := ?_) (flg 15 31) rfl rfl (any_of HT_.out (by kernel_rfl)) (fun _ _ _ h => h) (Or.inl ⟨by rfl, ?_⟩) ?_ ?_
      rotate_left
      · intro w'
        go_simp
        with_reducible rfl
      rotate_left
      · simp only [nrm]
        rfl
      refine pure_ (i := 5) (N := some 95) (v := ?_) (a' := ?_) (flg 15 63) rfl rfl (any_of HT_.out (by kernel_rfl)) (fun _ _ _ h => h) (Or.inl ⟨by rfl, ?_⟩) ?_ ?_
      rotate_left
      · intro w'
        go_simp
        with_reducible rfl
      rotate_left
      · simp only [nrm]
        rfl
      refine pure_ (i := 6) (N := some 96) (v := ?_) (a' := ?_) (flg 15 127) rfl rfl (any_of HT_.out (by kernel_rfl)) (fun _ _ _ h => h) (Or.inl ⟨by rfl, ?_⟩) ?_ ?_
      rotate_left
      · intro w'
        go_simp
        with_reducible rfl
      rotate_left
      · simp only [nrm]
        rfl
      refine take_ (i := 7) (N := some 97) (v := ?_) (a' := ?_) (flg 15 255) rfl rfl (take_ofW HT_.out HW_.out (by kernel_rfl)) (fun _ _ _ h => h) (Or.inl ⟨by rfl, ?_⟩) hHeld ?_ ?_
      rotate_left
      · rintro w' ⟨s0_, s1_, s2_, s3_, s4_, s5_, s6_⟩
        go_simp
        with_reducible rfl
      rotate_left
      · simp only [nrm]
        rfl
      refine one_ (i := 8) (N := some 98) (flg 15 511) rfl rfl (one_of HT_.out (by kernel_rfl)) (by decide) (fun K hK => ?_)
      refine goes_ Try.func15 (by kernel_rfl) rfl #[.agg #[.int .i64 (((2 : Nat) : Int) + 1), .int .i64 (((0 : Nat) : Int) + 1), .int .i64 1, .int .i64 64, .int .i64 (22 + 6 * ((0 : Nat) : Int)), .int .i64 (128 + 64 * ((2 : Nat) : Int))], .int .i64 ((0 : Nat) : Int)] (by rfl) rfl rfl (by (try simp only [List.map_toArray, List.map_cons, List.map_nil]); first | done | rfl) ?_
      refine (windrowref06_Map_Alloc.calls _ _ _ _ _ _ _ _ _ HPA.out).mono ?_
      rintro e w2 ⟨rfl, hb⟩
      replace H := Aside.mk (H.out.step hb)
      clear hb
      refine ⟨_, rfl, ?_⟩
      refine hK.out _ _ ⟨(H.out.pick 5 rfl).cell 3, (H.out.pick 5 rfl).cell 4, (H.out.pick 5 rfl).cell 5, (H.out.pick 5 rfl).cell 6, (H.out.pick 5 rfl).cell 7, (H.out.pick 5 rfl).cell 8, (H.out.pick 5 rfl).cell 9⟩ (fun hHeld => ?_)
      clear hK K
      refine norm_ (a' := ?_) ?_ ?_
      rotate_left
      · show Act.put _ (some 98) _ = _
        simp only [nrm]
        rfl
      refine one_ (i := 9) (N := some 99) (flg 15 1023) rfl rfl (one_of HT_.out (by kernel_rfl)) (by decide) (fun K hK => ?_)
      refine goes_ Try.func14 (by kernel_rfl) rfl #[.pointer (some ⟨a, 0, none⟩), .int .i64 ((25 : Nat) : Int)] (by rfl) rfl rfl (by (try simp only [List.map_toArray, List.map_cons, List.map_nil]); first | done | rfl) ?_
      refine (HPK5.out _ _ (H.out.order 3 [1, 2, 0] rfl rfl)).mono ?_
      rintro e w3 ⟨rfl, rfl⟩
      refine ⟨_, rfl, ?_⟩
      refine hK.out _ _ ⟨(H.out.pick 5 rfl).cell 3, (H.out.pick 5 rfl).cell 4, (H.out.pick 5 rfl).cell 5, (H.out.pick 5 rfl).cell 6, (H.out.pick 5 rfl).cell 7, (H.out.pick 5 rfl).cell 8, (H.out.pick 5 rfl).cell 9⟩ (fun hHeld => ?_)
      clear hK K
      refine norm_ (a' := ?_) ?_ ?_
      rotate_left
      · show Act.put _ (some 99) _ = _
        simp only [nrm]
        rfl
      refine pure_ (i := 10) (N := some 89) (v := ?_) (a' := ?_) (flg 15 2047) rfl rfl (any_of HT_.out (by kernel_rfl)) (fun _ _ _ h => h) (Or.inl ⟨by rfl, ?_⟩) ?_ ?_
      rotate_left
      · intro w'
        go_simp
        with_reducible rfl
      rotate_left
      · simp only [nrm]
        rfl
      refine pure_ (i := 11) (N := some 100) (v := ?_) (a' := ?_) (flg 15 4095) rfl rfl (any_of HT_.out (by kernel_rfl)) (fun _ _ _ h => h) (Or.inl ⟨by rfl, ?_⟩) ?_ ?_
      rotate_left
      · intro w'
        go_simp
        with_reducible rfl
      rotate_left
      · simp only [nrm]
        rfl
      refine pure_ (i := 12) (N := some 101) (v := ?_) (a' := ?_) (flg 15 8191) rfl rfl (any_of HT_.out (by kernel_rfl)) (fun _ _ _ h => h) (Or.inl ⟨by rfl, ?_⟩) ?_ ?_
      rotate_left
      · intro w'
        go_simp
        with_reducible rfl
      rotate_left
      · simp only [nrm]
        rfl
      refine pure_ (i := 13) (N := some 13) (v := ?_) (a' := ?_) (flg 15 16383) rfl rfl (any_of HT_.out (by kernel_rfl)) (fun _ _ _ h => h) (Or.inl ⟨by rfl, ?_⟩) ?_ ?_
      rotate_left
      · intro w'
        go_simp
        with_reducible rfl
      rotate_left
      · simp only [nrm]
        rfl
      refine pure_ (i := 14) (N := some 11) (v := ?_) (a' := ?_) (flg 15 32767) rfl rfl (any_of HT_.out (by kernel_rfl)) (fun _ _ _ h => h) (Or.inl ⟨by rfl, ?_⟩) ?_ ?_
      rotate_left
      · intro w'
        go_simp
        with_reducible rfl
      rotate_left
      · simp only [nrm]
        rfl
      refine done_ (done_of HT_.out (by kernel_rfl)) ?_
      clear HT_ HW_ hHeld
      go_wp2_with fail
      replace H := Aside.mk H.out.drew
      refine start_ (n := 15) (S := fun w' => w'.cell? ⟨x, 3, none⟩ = some (.int .i64 (((2 : Nat) : Int) + 1)) ∧ w'.cell? ⟨x, 4, none⟩ = some (.int .i64 (((0 : Nat) : Int) + 1)) ∧ w'.cell? ⟨x, 5, none⟩ = some (.int .i64 1) ∧ w'.cell? ⟨x, 6, none⟩ = some (.int .i64 64) ∧ w'.cell? ⟨x, 7, none⟩ = some (.int .i64 (22 + 6 * ((0 : Nat) : Int))) ∧ w'.cell? ⟨x, 8, none⟩ = some (.int .i64 (128 + 64 * ((2 : Nat) : Int))) ∧ w'.cell? ⟨x, 9, none⟩ = some (.pointer (some ⟨a, 0, none⟩))) (ds := []) (flg 15 0) (by kernel_rfl) rfl rfl (⟨(H.out.pick 5 rfl).cell 3, (H.out.pick 5 rfl).cell 4, (H.out.pick 5 rfl).cell 5, (H.out.pick 5 rfl).cell 6, (H.out.pick 5 rfl).cell 7, (H.out.pick 5 rfl).cell 8, (H.out.pick 5 rfl).cell 9⟩) (fun hHeld => ?_)
      refine with_tabW sp.tab15 sp.bits15 (fun HT_ HW_ => ?_)
      refine pure_ (i := 0) (N := some 103) (v := ?_) (a' := ?_) (flg 15 1) rfl rfl (any_of HT_.out (by kernel_rfl)) (fun _ _ _ h => h) (Or.inl ⟨by rfl, ?_⟩) ?_ ?_
      rotate_left
      · intro w'
        go_simp
        with_reducible rfl
      rotate_left
      · simp only [nrm]
        rfl
      refine pure_ (i := 1) (N := some 104) (v := ?_) (a' := ?_) (flg 15 3) rfl rfl (any_of HT_.out (by kernel_rfl)) (fun _ _ _ h => h) (Or.inl ⟨by rfl, ?_⟩) ?_ ?_
      rotate_left
      · intro w'
        go_simp
        with_reducible rfl
      rotate_left
      · simp only [nrm]
        rfl
      refine pure_ (i := 2) (N := some 105) (v := ?_) (a' := ?_) (flg 15 7) rfl rfl (any_of HT_.out (by kernel_rfl)) (fun _ _ _ h => h) (Or.inl ⟨by rfl, ?_⟩) ?_ ?_
      rotate_left
      · intro w'
        go_simp
        with_reducible rfl
      rotate_left
      · simp only [nrm]
        rfl
      refine take_ (i := 3) (N := some 106) (v := ?_) (a' := ?_) (flg 15 15) rfl rfl (take_ofW HT_.out HW_.out (by kernel_rfl)) (fun _ _ _ h => h) (Or.inl ⟨by rfl, ?_⟩) hHeld ?_ ?_
      rotate_left
      · rintro w' ⟨s0_, s1_, s2_, s3_, s4_, s5_, s6_⟩
        go_simp
        with_reducible rfl
      rotate_left
      · simp only [nrm]
        rfl
      refine pure_ (i := 4) (N := some 107) (v := ?_) (a' := ?_) (flg 15 31) rfl rfl (any_of HT_.out (by kernel_rfl)) (fun _ _ _ h => h) (Or.inl ⟨by rfl, ?_⟩) ?_ ?_
      rotate_left
      · intro w'
        go_simp
        with_reducible rfl
      rotate_left
      · simp only [nrm]
        rfl
      refine pure_ (i := 5) (N := some 108) (v := ?_) (a' := ?_) (flg 15 63) rfl rfl (any_of HT_.out (by kernel_rfl)) (fun _ _ _ h => h) (Or.inl ⟨by rfl, ?_⟩) ?_ ?_
      rotate_left
      · intro w'
        go_simp
        with_reducible rfl
      rotate_left
      · simp only [nrm]
        rfl
      refine pure_ (i := 6) (N := some 109) (v := ?_) (a' := ?_) (flg 15 127) rfl rfl (any_of HT_.out (by kernel_rfl)) (fun _ _ _ h => h) (Or.inl ⟨by rfl, ?_⟩) ?_ ?_
      rotate_left
      · intro w'
        go_simp
        with_reducible rfl
      rotate_left
      · simp only [nrm]
        rfl
      refine take_ (i := 7) (N := some 110) (v := ?_) (a' := ?_) (flg 15 255) rfl rfl (take_ofW HT_.out HW_.out (by kernel_rfl)) (fun _ _ _ h => h) (Or.inl ⟨by rfl, ?_⟩) hHeld ?_ ?_
      rotate_left
      · rintro w' ⟨s0_, s1_, s2_, s3_, s4_, s5_, s6_⟩
        go_simp
        with_reducible rfl
      rotate_left
      · simp only [nrm]
        rfl
      refine one_ (i := 8) (N := some 111) (flg 15 511) rfl rfl (one_of HT_.out (by kernel_rfl)) (by decide) (fun K hK => ?_)
      refine goes_ Try.func16 (by kernel_rfl) rfl #[.agg #[.int .i64 (((2 : Nat) : Int) + 1), .int .i64 (((0 : Nat) : Int) + 1), .int .i64 1, .int .i64 64, .int .i64 (22 + 6 * ((0 : Nat) : Int)), .int .i64 (128 + 64 * ((2 : Nat) : Int))], .int .i64 ((0 : Nat) : Int)] (by rfl) rfl rfl (by (try simp only [List.map_toArray, List.map_cons, List.map_nil]); first | done | rfl) ?_
      refine (windrowref06_Map_Mark.calls _ _ _ _ _ _ _ _ _ HPM.out).mono ?_
      rintro e w2 ⟨rfl, hb⟩
      replace H := Aside.mk (H.out.step hb)
      clear hb
      refine ⟨_, rfl, ?_⟩
      refine hK.out _ _ ⟨(H.out.pick 5 rfl).cell 3, (H.out.pick 5 rfl).cell 4, (H.out.pick 5 rfl).cell 5, (H.out.pick 5 rfl).cell 6, (H.out.pick 5 rfl).cell 7, (H.out.pick 5 rfl).cell 8, (H.out.pick 5 rfl).cell 9⟩ (fun hHeld => ?_)
      clear hK K
      refine norm_ (a' := ?_) ?_ ?_
      rotate_left
      · show Act.put _ (some 111) _ = _
        simp only [nrm]
        rfl
      refine one_ (i := 9) (N := some 112) (flg 15 1023) rfl rfl (one_of HT_.out (by kernel_rfl)) (by decide) (fun K hK => ?_)
      refine goes_ Try.func14 (by kernel_rfl) rfl #[.pointer (some ⟨a, 0, none⟩), .int .i64 ((28 : Nat) : Int)] (by rfl) rfl rfl (by (try simp only [List.map_toArray, List.map_cons, List.map_nil]); first | done | rfl) ?_
      refine (HPK8.out _ _ (H.out.order 3 [1, 2, 0] rfl rfl)).mono ?_
      rintro e w3 ⟨rfl, rfl⟩
      refine ⟨_, rfl, ?_⟩
      refine hK.out _ _ ⟨(H.out.pick 5 rfl).cell 3, (H.out.pick 5 rfl).cell 4, (H.out.pick 5 rfl).cell 5, (H.out.pick 5 rfl).cell 6, (H.out.pick 5 rfl).cell 7, (H.out.pick 5 rfl).cell 8, (H.out.pick 5 rfl).cell 9⟩ (fun hHeld => ?_)
      clear hK K
      refine norm_ (a' := ?_) ?_ ?_
      rotate_left
      · show Act.put _ (some 112) _ = _
        simp only [nrm]
        rfl
      refine pure_ (i := 10) (N := some 102) (v := ?_) (a' := ?_) (flg 15 2047) rfl rfl (any_of HT_.out (by kernel_rfl)) (fun _ _ _ h => h) (Or.inl ⟨by rfl, ?_⟩) ?_ ?_
      rotate_left
      · intro w'
        go_simp
        with_reducible rfl
      rotate_left
      · simp only [nrm]
        rfl
      refine pure_ (i := 11) (N := some 113) (v := ?_) (a' := ?_) (flg 15 4095) rfl rfl (any_of HT_.out (by kernel_rfl)) (fun _ _ _ h => h) (Or.inl ⟨by rfl, ?_⟩) ?_ ?_
      rotate_left
      · intro w'
        go_simp
        with_reducible rfl
      rotate_left
      · simp only [nrm]
        rfl
      refine pure_ (i := 12) (N := some 114) (v := ?_) (a' := ?_) (flg 15 8191) rfl rfl (any_of HT_.out (by kernel_rfl)) (fun _ _ _ h => h) (Or.inl ⟨by rfl, ?_⟩) ?_ ?_
      rotate_left
      · intro w'
        go_simp
        with_reducible rfl
      rotate_left
      · simp only [nrm]
        rfl
      refine pure_ (i := 13) (N := some 14) (v := ?_) (a' := ?_) (flg 15 16383) rfl rfl (any_of HT_.out (by kernel_rfl)) (fun _ _ _ h => h) (Or.inl ⟨by rfl, ?_⟩) ?_ ?_
      rotate_left
      · intro w'
        go_simp
        with_reducible rfl
      rotate_left
      · simp only [nrm]
        rfl
      refine pure_ (i := 14) (N := some 15) (v := ?_) (a' := ?_) (flg 15 32767) rfl rfl (any_of HT_.out (by kernel_rfl)) (fun _ _ _ h => h) (Or.inl ⟨by rfl, ?_⟩) ?_ ?_
      rotate_left
      · intro w'
        go_simp
        with_reducible rfl
      rotate_left
      · simp only [nrm]
        rfl
      refine done_ (done_of HT_.out (by kernel_rfl)) ?_
      clear HT_ HW_ hHeld
      go_wp2_with fail
      replace H := Aside.mk H.out.drew
      refine start_ (n := 15) (S := fun w' => w'.cell? ⟨x, 3, none⟩ = some (.int .i64 (((2 : Nat) : Int) + 1)) ∧ w'.cell? ⟨x, 4, none⟩ = some (.int .i64 (((0 : Nat) : Int) + 1)) ∧ w'.cell? ⟨x, 5, none⟩ = some (.int .i64 1) ∧ w'.cell? ⟨x, 6, none⟩ = some (.int .i64 64) ∧ w'.cell? ⟨x, 7, none⟩ = some (.int .i64 (22 + 6 * ((0 : Nat) : Int))) ∧ w'.cell? ⟨x, 8, none⟩ = some (.int .i64 (128 + 64 * ((2 : Nat) : Int))) ∧ w'.cell? ⟨x, 9, none⟩ = some (.pointer (some ⟨a, 0, none⟩))) (ds := []) (flg 15 0) (by kernel_rfl) rfl rfl (⟨(H.out.pick 5 rfl).cell 3, (H.out.pick 5 rfl).cell 4, (H.out.pick 5 rfl).cell 5, (H.out.pick 5 rfl).cell 6, (H.out.pick 5 rfl).cell 7, (H.out.pick 5 rfl).cell 8, (H.out.pick 5 rfl).cell 9⟩) (fun hHeld => ?_)
      refine with_tabW sp.tab16 sp.bits16 (fun HT_ HW_ => ?_)
      refine pure_ (i := 0) (N := some 116) (v := ?_) (a' := ?_) (flg 15 1) rfl rfl (any_of HT_.out (by kernel_rfl)) (fun _ _ _ h => h) (Or.inl ⟨by rfl, ?_⟩) ?_ ?_
      rotate_left
      · intro w'
        go_simp
        with_reducible rfl
      rotate_left
      · simp only [nrm]
        rfl
      refine pure_ (i := 1) (N := some 117) (v := ?_) (a' := ?_) (flg 15 3) rfl rfl (any_of HT_.out (by kernel_rfl)) (fun _ _ _ h => h) (Or.inl ⟨by rfl, ?_⟩) ?_ ?_
      rotate_left
      · intro w'
        go_simp
        with_reducible rfl
      rotate_left
      · simp only [nrm]
        rfl
      refine pure_ (i := 2) (N := some 118) (v := ?_) (a' := ?_) (flg 15 7) rfl rfl (any_of HT_.out (by kernel_rfl)) (fun _ _ _ h => h) (Or.inl ⟨by rfl, ?_⟩) ?_ ?_
      rotate_left
      · intro w'
        go_simp
        with_reducible rfl
      rotate_left
      · simp only [nrm]
        rfl
      refine take_ (i := 3) (N := some 119) (v := ?_) (a' := ?_) (flg 15 15) rfl rfl (take_ofW HT_.out HW_.out (by kernel_rfl)) (fun _ _ _ h => h) (Or.inl ⟨by rfl, ?_⟩) hHeld ?_ ?_
      rotate_left
      · rintro w' ⟨s0_, s1_, s2_, s3_, s4_, s5_, s6_⟩
        go_simp
        with_reducible rfl
      rotate_left
      · simp only [nrm]
        rfl
      refine pure_ (i := 4) (N := some 120) (v := ?_) (a' := ?_) (flg 15 31) rfl rfl (any_of HT_.out (by kernel_rfl)) (fun _ _ _ h => h) (Or.inl ⟨by rfl, ?_⟩) ?_ ?_
      rotate_left
      · intro w'
        go_simp
        with_reducible rfl
      rotate_left
      · simp only [nrm]
        rfl
      refine pure_ (i := 5) (N := some 121) (v := ?_) (a' := ?_) (flg 15 63) rfl rfl (any_of HT_.out (by kernel_rfl)) (fun _ _ _ h => h) (Or.inl ⟨by rfl, ?_⟩) ?_ ?_
      rotate_left
      · intro w'
        go_simp
        with_reducible rfl
      rotate_left
      · simp only [nrm]
        rfl
      refine pure_ (i := 6) (N := some 122) (v := ?_) (a' := ?_) (flg 15 127) rfl rfl (any_of HT_.out (by kernel_rfl)) (fun _ _ _ h => h) (Or.inl ⟨by rfl, ?_⟩) ?_ ?_
      rotate_left
      · intro w'
        go_simp
        with_reducible rfl
      rotate_left
      · simp only [nrm]
        rfl
      refine take_ (i := 7) (N := some 123) (v := ?_) (a' := ?_) (flg 15 255) rfl rfl (take_ofW HT_.out HW_.out (by kernel_rfl)) (fun _ _ _ h => h) (Or.inl ⟨by rfl, ?_⟩) hHeld ?_ ?_
      rotate_left
      · rintro w' ⟨s0_, s1_, s2_, s3_, s4_, s5_, s6_⟩
        go_simp
        with_reducible rfl
      rotate_left
      · simp only [nrm]
        rfl
      refine one_ (i := 8) (N := some 124) (flg 15 511) rfl rfl (one_of HT_.out (by kernel_rfl)) (by decide) (fun K hK => ?_)
      refine goes_ Try.func17 (by kernel_rfl) rfl #[.agg #[.int .i64 (((2 : Nat) : Int) + 1), .int .i64 (((0 : Nat) : Int) + 1), .int .i64 1, .int .i64 64, .int .i64 (22 + 6 * ((0 : Nat) : Int)), .int .i64 (128 + 64 * ((2 : Nat) : Int))], .int .i64 ((0 : Nat) : Int)] (by rfl) rfl rfl (by (try simp only [List.map_toArray, List.map_cons, List.map_nil]); first | done | rfl) ?_
      refine (windrowref06_Map_PageEntry.calls _ _ _ _ _ _ _ _ _ HPE.out).mono ?_
      rintro e w2 ⟨rfl, hb⟩
      replace H := Aside.mk (H.out.step hb)
      clear hb
      refine ⟨_, rfl, ?_⟩
      refine hK.out _ _ ⟨(H.out.pick 5 rfl).cell 3, (H.out.pick 5 rfl).cell 4, (H.out.pick 5 rfl).cell 5, (H.out.pick 5 rfl).cell 6, (H.out.pick 5 rfl).cell 7, (H.out.pick 5 rfl).cell 8, (H.out.pick 5 rfl).cell 9⟩ (fun hHeld => ?_)
      clear hK K
      refine norm_ (a' := ?_) ?_ ?_
      rotate_left
      · show Act.put _ (some 124) _ = _
        simp only [nrm]
        rfl
      refine one_ (i := 9) (N := some 125) (flg 15 1023) rfl rfl (one_of HT_.out (by kernel_rfl)) (by decide) (fun K hK => ?_)
      refine goes_ Try.func14 (by kernel_rfl) rfl #[.pointer (some ⟨a, 0, none⟩), .int .i64 ((22 : Nat) : Int)] (by rfl) rfl rfl (by (try simp only [List.map_toArray, List.map_cons, List.map_nil]); first | done | rfl) ?_
      refine (HPK2.out _ _ (H.out.order 3 [1, 2, 0] rfl rfl)).mono ?_
      rintro e w3 ⟨rfl, rfl⟩
      refine ⟨_, rfl, ?_⟩
      refine hK.out _ _ ⟨(H.out.pick 5 rfl).cell 3, (H.out.pick 5 rfl).cell 4, (H.out.pick 5 rfl).cell 5, (H.out.pick 5 rfl).cell 6, (H.out.pick 5 rfl).cell 7, (H.out.pick 5 rfl).cell 8, (H.out.pick 5 rfl).cell 9⟩ (fun hHeld => ?_)
      clear hK K
      refine norm_ (a' := ?_) ?_ ?_
      rotate_left
      · show Act.put _ (some 125) _ = _
        simp only [nrm]
        rfl
      refine pure_ (i := 10) (N := some 115) (v := ?_) (a' := ?_) (flg 15 2047) rfl rfl (any_of HT_.out (by kernel_rfl)) (fun _ _ _ h => h) (Or.inl ⟨by rfl, ?_⟩) ?_ ?_
      rotate_left
      · intro w'
        go_simp
        with_reducible rfl
      rotate_left
      · simp only [nrm]
        rfl
      refine pure_ (i := 11) (N := some 126) (v := ?_) (a' := ?_) (flg 15 4095) rfl rfl (any_of HT_.out (by kernel_rfl)) (fun _ _ _ h => h) (Or.inl ⟨by rfl, ?_⟩) ?_ ?_
      rotate_left
      · intro w'
        go_simp
        with_reducible rfl
      rotate_left
      · simp only [nrm]
        rfl
      refine pure_ (i := 12) (N := some 127) (v := ?_) (a' := ?_) (flg 15 8191) rfl rfl (any_of HT_.out (by kernel_rfl)) (fun _ _ _ h => h) (Or.inl ⟨by rfl, ?_⟩) ?_ ?_
      rotate_left
      · intro w'
        go_simp
        with_reducible rfl
      rotate_left
      · simp only [nrm]
        rfl
      refine pure_ (i := 13) (N := some 16) (v := ?_) (a' := ?_) (flg 15 16383) rfl rfl (any_of HT_.out (by kernel_rfl)) (fun _ _ _ h => h) (Or.inl ⟨by rfl, ?_⟩) ?_ ?_
      rotate_left
      · intro w'
        go_simp
        with_reducible rfl
      rotate_left
      · simp only [nrm]
        rfl
      refine pure_ (i := 14) (N := some 17) (v := ?_) (a' := ?_) (flg 15 32767) rfl rfl (any_of HT_.out (by kernel_rfl)) (fun _ _ _ h => h) (Or.inl ⟨by rfl, ?_⟩) ?_ ?_
      rotate_left
      · intro w'
        go_simp
        with_reducible rfl
      rotate_left
      · simp only [nrm]
        rfl
      refine done_ (done_of HT_.out (by kernel_rfl)) ?_
      clear HT_ HW_ hHeld
      go_upto_block 2 with (go_at_call 11; refine (sover_ (H.out.pick 4 rfl)).mono ?_; rintro e w4 ⟨rfl, h4⟩; replace H : Aside (St w w4 (Rn x 2 0 a d p gD gC s 15 false M lv (.slice none 0 0) (spX C V an mn) [] 0)) := Aside.mk (h4.order 5 [1, 2, 3, 4, 0] rfl rfl); clear h4; rw [HAT.out])
      go_wp2_with fail
      go_loopg [18] (64) (fun m v18 w' => ∃ i : Nat, m = 64 - i ∧ i ≤ 64 ∧ v18 = .int .i64 i ∧ Aside (St w w' (Rn x 2 0 a d p gD gC s 15 false M lv (.slice none 0 0) (spX C V an mn) [] 0)))
      case atStart => exact ⟨0, rfl, Nat.zero_le _, rfl, H⟩
      case round =>
        clear H
        obtain ⟨i, rfl, hi, rfl, H⟩ := hrel
        by_cases hlt : i < 64
        · obtain ⟨b1, b2, b3, hb1, hb2, hb3, hbb⟩ := HBITS.out i hlt
          have HB1 := Aside.mk hb1
          have HB2 := Aside.mk hb2
          have HB3 := Aside.mk hb3
          clear hb1 hb2 hb3
          go_wp2_with (first
            | (go_at_call 19; with_reducible refine (windrowref01_Bit.calls 64 A9 i _ _ HB1.out).mono ?_; rintro e w5 ⟨rfl, ⟨k1, rfl⟩⟩; replace H := Aside.mk (H.out.drewN k1))
            | (go_at_call 19; with_reducible refine (windrowref01_Bit.calls 64 an i _ _ HB2.out).mono ?_; rintro e w5 ⟨rfl, ⟨k2, rfl⟩⟩; replace H := Aside.mk (H.out.drewN k2))
            | (go_at_call 19; with_reducible refine (windrowref01_Bit.calls 64 mn i _ _ HB3.out).mono ?_; rintro e w5 ⟨rfl, ⟨k3, rfl⟩⟩; replace H := Aside.mk (H.out.drewN k3)))
          go_roundg (64 - (i + 1))
          case measure => omega
          case rel => exact ⟨i + 1, rfl, by omega, by first | rfl | (rw [w_of ((i : Int) + 1) (by omega) (by omega)]; rfl), by first | exact H | (have h := H.out; simp at h ⊢; exact ⟨h⟩)⟩
        · clear HBITS
          have hem := HEM.out
          by_cases hz : (A9 == 0) = true
          · have hzb := HZZ.out hz
            rw [hz] at hem
            replace HEM := Aside.mk hem
            clear hem HZZ HRD
            go_wp2_with (first
              | (go_at_call 20; refine (windrowref02_DecodeEntry.calls 3 z _ _ _ _ _ _ _ HDW.out).mono ?_; rintro e w5 ⟨rfl, hb⟩; replace H : Aside (St w _ (blk w5.heap.size #[.int .i64 dk, .int .i64 dc, .int .i64 ds, .int .i64 d_o, .int .i64 dy] 32 :: Rn x 2 0 a d p gD gC s 15 false M lv (.slice none 0 0) (spX C V an mn) [] 0)) := Aside.mk ((H.out.step hb).alloc #[.int .i64 dk, .int .i64 dc, .int .i64 ds, .int .i64 d_o, .int .i64 dy] 32); clear hb)
              | (go_at_call 18; refine (sswept_ (H.out.pick 5 rfl)).mono ?_; rintro e w6 ⟨rfl, h6⟩; replace H : Aside (St w w6 (blk w5.heap.size #[.int .i64 dk, .int .i64 dc, .int .i64 ds, .int .i64 d_o, .int .i64 dy] 32 :: Rn x 2 0 a d p gD gC s 15 false M lv (.slice none 0 0) (spX C V an mn) [] 0)) := Aside.mk (h6.order 6 [1, 2, 3, 4, 5, 0] rfl rfl); clear h6; rw [HSW.out])
              | (go_at_call 21; refine (sempty_ (H.out.pick 5 rfl)).mono ?_; rintro e w6 ⟨rfl, h6⟩; replace H : Aside (St w w6 (blk w5.heap.size #[.int .i64 dk, .int .i64 dc, .int .i64 ds, .int .i64 d_o, .int .i64 dy] 32 :: Rn x 2 0 a d p gD gC s 15 false M lv (.slice none 0 0) (spX C V an mn) [] 0)) := Aside.mk (h6.order 6 [1, 2, 3, 4, 5, 0] rfl rfl); clear h6; rw [HSW.out, HEM.out]; have y0 := H.out.cell 0; have y1 := H.out.cell 1; have y2 := H.out.cell 2; have y3 := H.out.cell 3; have y4 := H.out.cell 4)
              | (go_at_call 23; refine (sfreed_ (H.out.pick 5 rfl)).mono ?_; rintro e w6 ⟨rfl, h6⟩; replace H : Aside (St w w6 (blk w5.heap.size #[.int .i64 dk, .int .i64 dc, .int .i64 ds, .int .i64 d_o, .int .i64 dy] 32 :: Rn x 2 0 a d p gD gC s 15 false M lv (.slice none 0 0) (spX C V an mn) [] 0)) := Aside.mk (h6.order 6 [1, 2, 3, 4, 5, 0] rfl rfl); clear h6; rw [HSW.out, HFR.out, if_pos rfl])
              | (go_at_call 24; with_reducible refine (windrowref01_Places.calls 129 an _ _ HP1.out).mono ?_; rintro e w7 ⟨v0, rfl, hR, hb⟩; obtain ⟨A1, c1, rfl⟩ := Kd.R_slice hR; replace H := Aside.mk (H.out.step hb); clear hb hR)
              | (go_at_call 24; with_reducible refine (windrowref01_Places.calls 129 A9 _ _ HP2.out).mono ?_; rintro e w7 ⟨v0, rfl, hR, hb⟩; obtain ⟨A1, c1, rfl⟩ := Kd.R_slice hR; replace H := Aside.mk (H.out.step hb); clear hb hR))
            go_ret
            exact ⟨by simp, H.out.below⟩
          · have hz2 : (A9 == 0) = false := by simpa using hz
            have hz3 : (A9 != 0) = true := by simpa using hz
            have hrd := HRD.out.resolve_left hz
            have HRD := Aside.mk hrd
            rw [hz2] at hem
            replace HEM := Aside.mk hem
            clear hem HZZ hrd hz
            go_wp2_with (first
              | (go_at_call 20; refine (windrowref02_DecodeEntry.calls 3 z _ _ _ _ _ _ _ HDW.out).mono ?_; rintro e w5 ⟨rfl, hb⟩; replace H : Aside (St w _ (blk w5.heap.size #[.int .i64 dk, .int .i64 dc, .int .i64 ds, .int .i64 d_o, .int .i64 dy] 32 :: Rn x 2 0 a d p gD gC s 15 false M lv (.slice none 0 0) (spX C V an mn) [] 0)) := Aside.mk ((H.out.step hb).alloc #[.int .i64 dk, .int .i64 dc, .int .i64 ds, .int .i64 d_o, .int .i64 dy] 32); clear hb)
              | (go_at_call 18; refine (sswept_ (H.out.pick 5 rfl)).mono ?_; rintro e w6 ⟨rfl, h6⟩; replace H : Aside (St w w6 (blk w5.heap.size #[.int .i64 dk, .int .i64 dc, .int .i64 ds, .int .i64 d_o, .int .i64 dy] 32 :: Rn x 2 0 a d p gD gC s 15 false M lv (.slice none 0 0) (spX C V an mn) [] 0)) := Aside.mk (h6.order 6 [1, 2, 3, 4, 5, 0] rfl rfl); clear h6; rw [HSW.out])
              | (go_at_call 21; refine (sempty_ (H.out.pick 5 rfl)).mono ?_; rintro e w6 ⟨rfl, h6⟩; replace H : Aside (St w w6 (blk w5.heap.size #[.int .i64 dk, .int .i64 dc, .int .i64 ds, .int .i64 d_o, .int .i64 dy] 32 :: Rn x 2 0 a d p gD gC s 15 false M lv (.slice none 0 0) (spX C V an mn) [] 0)) := Aside.mk (h6.order 6 [1, 2, 3, 4, 5, 0] rfl rfl); clear h6; rw [HSW.out, HEM.out]; have y0 := H.out.cell 0; have y1 := H.out.cell 1; have y2 := H.out.cell 2; have y3 := H.out.cell 3; have y4 := H.out.cell 4)
              | (go_at_call 22; refine (windrowref02_Ready.calls 3 _ _ _ _ _ _ _ _ _ HRD.out).mono ?_; rintro e w7 ⟨rfl, hb⟩; replace H := Aside.mk (H.out.step hb); clear hb)
              | (go_at_call 23; refine (sfreed_ (H.out.pick 5 rfl)).mono ?_; rintro e w6 ⟨rfl, h6⟩; replace H : Aside (St w w6 (blk w5.heap.size #[.int .i64 dk, .int .i64 dc, .int .i64 ds, .int .i64 d_o, .int .i64 dy] 32 :: Rn x 2 0 a d p gD gC s 15 false M lv (.slice none 0 0) (spX C V an mn) [] 0)) := Aside.mk (h6.order 6 [1, 2, 3, 4, 5, 0] rfl rfl); clear h6; rw [HSW.out, HFR.out, if_pos rfl])
              | (go_at_call 24; with_reducible refine (windrowref01_Places.calls 129 an _ _ HP1.out).mono ?_; rintro e w7 ⟨v0, rfl, hR, hb⟩; obtain ⟨A1, c1, rfl⟩ := Kd.R_slice hR; replace H := Aside.mk (H.out.step hb); clear hb hR)
              | (go_at_call 24; with_reducible refine (windrowref01_Places.calls 129 A9 _ _ HP2.out).mono ?_; rintro e w7 ⟨v0, rfl, hR, hb⟩; obtain ⟨A1, c1, rfl⟩ := Kd.R_slice hR; replace H := Aside.mk (H.out.step hb); clear hb hR))
            go_ret
            exact ⟨by simp, H.out.below⟩
    · obtain ⟨q1, q2, q5, q6⟩ := sp_not (C := C) (was := V) (al := al) (mk := mk) (cyc := Y) HCI.out (by have := HWI.out; omega) hd
      generalize (spM C V al mk Y).runs 2 0 0 15 8 = M at H hinv q1 q2 q5 q6
      obtain ⟨z, hz⟩ : ∃ z, z = M.X.getD 22 0 := ⟨_, rfl⟩
      have hp5 := fun (w' : World) (F : List HP) (h : St w w' (arB a gC M.X.length lv true M.l.length 0 :: ceB gC M.X :: F)) => peek_yes 25 (by rw [hinv.len]; decide) h
      have hp8 := fun (w' : World) (F : List HP) (h : St w w' (arB a gC M.X.length lv true M.l.length 0 :: ceB gC M.X :: F)) => peek_yes 28 (by rw [hinv.len]; decide) h
      have hp2 := fun (w' : World) (F : List HP) (h : St w w' (arB a gC M.X.length lv true M.l.length 0 :: ceB gC M.X :: F)) => peek_yes 22 (by rw [hinv.len]; decide) h
      rw [q5] at hp5
      rw [q6] at hp8
      rw [← hz] at hp2
      have HPK5 := Aside.mk hp5
      have HPK8 := Aside.mk hp8
      have HPK2 := Aside.mk hp2
      have HAT := Aside.mk q1
      have HSW := Aside.mk q2
      have dVY : decide (Y ≤ V) = true := by simp; omega
      have HPE := Aside.mk (pent_ 2 0 0 (by decide) (by decide) (by decide))
      have HPA := Aside.mk (pall_ 2 0 0 (by decide) (by decide) (by decide))
      have HPM := Aside.mk (pmrk_ 2 0 0 (by decide) (by decide) (by decide))
      clear hp5 hp8 hp2 hinv q1 q2 q5 q6 HI0 hz hd
      go_wp2_with fail
      replace H := Aside.mk H.out.drew
      refine start_ (n := 15) (S := fun w' => w'.cell? ⟨x, 3, none⟩ = some (.int .i64 (((2 : Nat) : Int) + 1)) ∧ w'.cell? ⟨x, 4, none⟩ = some (.int .i64 (((0 : Nat) : Int) + 1)) ∧ w'.cell? ⟨x, 5, none⟩ = some (.int .i64 1) ∧ w'.cell? ⟨x, 6, none⟩ = some (.int .i64 64) ∧ w'.cell? ⟨x, 7, none⟩ = some (.int .i64 (22 + 6 * ((0 : Nat) : Int))) ∧ w'.cell? ⟨x, 8, none⟩ = some (.int .i64 (128 + 64 * ((2 : Nat) : Int))) ∧ w'.cell? ⟨x, 9, none⟩ = some (.pointer (some ⟨a, 0, none⟩))) (ds := []) (flg 15 0) (by kernel_rfl) rfl rfl (⟨(H.out.pick 5 rfl).cell 3, (H.out.pick 5 rfl).cell 4, (H.out.pick 5 rfl).cell 5, (H.out.pick 5 rfl).cell 6, (H.out.pick 5 rfl).cell 7, (H.out.pick 5 rfl).cell 8, (H.out.pick 5 rfl).cell 9⟩) (fun hHeld => ?_)
      refine with_tabW sp.tab14 sp.bits14 (fun HT_ HW_ => ?_)
      refine pure_ (i := 0) (N := some 90) (v := ?_) (a' := ?_) (flg 15 1) rfl rfl (any_of HT_.out (by kernel_rfl)) (fun _ _ _ h => h) (Or.inl ⟨by rfl, ?_⟩) ?_ ?_
      rotate_left
      · intro w'
        go_simp
        with_reducible rfl
      rotate_left
      · simp only [nrm]
        rfl
      refine pure_ (i := 1) (N := some 91) (v := ?_) (a' := ?_) (flg 15 3) rfl rfl (any_of HT_.out (by kernel_rfl)) (fun _ _ _ h => h) (Or.inl ⟨by rfl, ?_⟩) ?_ ?_
      rotate_left
      · intro w'
        go_simp
        with_reducible rfl
      rotate_left
      · simp only [nrm]
        rfl
      refine pure_ (i := 2) (N := some 92) (v := ?_) (a' := ?_) (flg 15 7) rfl rfl (any_of HT_.out (by kernel_rfl)) (fun _ _ _ h => h) (Or.inl ⟨by rfl, ?_⟩) ?_ ?_
      rotate_left
      · intro w'
        go_simp
        with_reducible rfl
      rotate_left
      · simp only [nrm]
        rfl
      refine take_ (i := 3) (N := some 93) (v := ?_) (a' := ?_) (flg 15 15) rfl rfl (take_ofW HT_.out HW_.out (by kernel_rfl)) (fun _ _ _ h => h) (Or.inl ⟨by rfl, ?_⟩) hHeld ?_ ?_
      rotate_left
      · rintro w' ⟨s0_, s1_, s2_, s3_, s4_, s5_, s6_⟩
        go_simp
        with_reducible rfl
      rotate_left
      · simp only [nrm]
        rfl
      refine pure_ (i := 4) (N := some 94) (v := ?_) (a' := ?_) (flg 15 31) rfl rfl (any_of HT_.out (by kernel_rfl)) (fun _ _ _ h => h) (Or.inl ⟨by rfl, ?_⟩) ?_ ?_
      rotate_left
      · intro w'
        go_simp
        with_reducible rfl
      rotate_left
      · simp only [nrm]
        rfl
      refine pure_ (i := 5) (N := some 95) (v := ?_) (a' := ?_) (flg 15 63) rfl rfl (any_of HT_.out (by kernel_rfl)) (fun _ _ _ h => h) (Or.inl ⟨by rfl, ?_⟩) ?_ ?_
      rotate_left
      · intro w'
        go_simp
        with_reducible rfl
      rotate_left
      · simp only [nrm]
        rfl
      refine pure_ (i := 6) (N := some 96) (v := ?_) (a' := ?_) (flg 15 127) rfl rfl (any_of HT_.out (by kernel_rfl)) (fun _ _ _ h => h) (Or.inl ⟨by rfl, ?_⟩) ?_ ?_
      rotate_left
      · intro w'
        go_simp
        with_reducible rfl
      rotate_left
      · simp only [nrm]
        rfl
      refine take_ (i := 7) (N := some 97) (v := ?_) (a' := ?_) (flg 15 255) rfl rfl (take_ofW HT_.out HW_.out (by kernel_rfl)) (fun _ _ _ h => h) (Or.inl ⟨by rfl, ?_⟩) hHeld ?_ ?_
      rotate_left
      · rintro w' ⟨s0_, s1_, s2_, s3_, s4_, s5_, s6_⟩
        go_simp
        with_reducible rfl
      rotate_left
      · simp only [nrm]
        rfl
      refine one_ (i := 8) (N := some 98) (flg 15 511) rfl rfl (one_of HT_.out (by kernel_rfl)) (by decide) (fun K hK => ?_)
      refine goes_ Try.func15 (by kernel_rfl) rfl #[.agg #[.int .i64 (((2 : Nat) : Int) + 1), .int .i64 (((0 : Nat) : Int) + 1), .int .i64 1, .int .i64 64, .int .i64 (22 + 6 * ((0 : Nat) : Int)), .int .i64 (128 + 64 * ((2 : Nat) : Int))], .int .i64 ((0 : Nat) : Int)] (by rfl) rfl rfl (by (try simp only [List.map_toArray, List.map_cons, List.map_nil]); first | done | rfl) ?_
      refine (windrowref06_Map_Alloc.calls _ _ _ _ _ _ _ _ _ HPA.out).mono ?_
      rintro e w2 ⟨rfl, hb⟩
      replace H := Aside.mk (H.out.step hb)
      clear hb
      refine ⟨_, rfl, ?_⟩
      refine hK.out _ _ ⟨(H.out.pick 5 rfl).cell 3, (H.out.pick 5 rfl).cell 4, (H.out.pick 5 rfl).cell 5, (H.out.pick 5 rfl).cell 6, (H.out.pick 5 rfl).cell 7, (H.out.pick 5 rfl).cell 8, (H.out.pick 5 rfl).cell 9⟩ (fun hHeld => ?_)
      clear hK K
      refine norm_ (a' := ?_) ?_ ?_
      rotate_left
      · show Act.put _ (some 98) _ = _
        simp only [nrm]
        rfl
      refine one_ (i := 9) (N := some 99) (flg 15 1023) rfl rfl (one_of HT_.out (by kernel_rfl)) (by decide) (fun K hK => ?_)
      refine goes_ Try.func14 (by kernel_rfl) rfl #[.pointer (some ⟨a, 0, none⟩), .int .i64 ((25 : Nat) : Int)] (by rfl) rfl rfl (by (try simp only [List.map_toArray, List.map_cons, List.map_nil]); first | done | rfl) ?_
      refine (HPK5.out _ _ (H.out.order 3 [1, 2, 0] rfl rfl)).mono ?_
      rintro e w3 ⟨rfl, rfl⟩
      refine ⟨_, rfl, ?_⟩
      refine hK.out _ _ ⟨(H.out.pick 5 rfl).cell 3, (H.out.pick 5 rfl).cell 4, (H.out.pick 5 rfl).cell 5, (H.out.pick 5 rfl).cell 6, (H.out.pick 5 rfl).cell 7, (H.out.pick 5 rfl).cell 8, (H.out.pick 5 rfl).cell 9⟩ (fun hHeld => ?_)
      clear hK K
      refine norm_ (a' := ?_) ?_ ?_
      rotate_left
      · show Act.put _ (some 99) _ = _
        simp only [nrm]
        rfl
      refine pure_ (i := 10) (N := some 89) (v := ?_) (a' := ?_) (flg 15 2047) rfl rfl (any_of HT_.out (by kernel_rfl)) (fun _ _ _ h => h) (Or.inl ⟨by rfl, ?_⟩) ?_ ?_
      rotate_left
      · intro w'
        go_simp
        with_reducible rfl
      rotate_left
      · simp only [nrm]
        rfl
      refine pure_ (i := 11) (N := some 100) (v := ?_) (a' := ?_) (flg 15 4095) rfl rfl (any_of HT_.out (by kernel_rfl)) (fun _ _ _ h => h) (Or.inl ⟨by rfl, ?_⟩) ?_ ?_
      rotate_left
      · intro w'
        go_simp
        with_reducible rfl
      rotate_left
      · simp only [nrm]
        rfl
      refine pure_ (i := 12) (N := some 101) (v := ?_) (a' := ?_) (flg 15 8191) rfl rfl (any_of HT_.out (by kernel_rfl)) (fun _ _ _ h => h) (Or.inl ⟨by rfl, ?_⟩) ?_ ?_
      rotate_left
      · intro w'
        go_simp
        with_reducible rfl
      rotate_left
      · simp only [nrm]
        rfl
      refine pure_ (i := 13) (N := some 13) (v := ?_) (a' := ?_) (flg 15 16383) rfl rfl (any_of HT_.out (by kernel_rfl)) (fun _ _ _ h => h) (Or.inl ⟨by rfl, ?_⟩) ?_ ?_
      rotate_left
      · intro w'
        go_simp
        with_reducible rfl
      rotate_left
      · simp only [nrm]
        rfl
      refine pure_ (i := 14) (N := some 11) (v := ?_) (a' := ?_) (flg 15 32767) rfl rfl (any_of HT_.out (by kernel_rfl)) (fun _ _ _ h => h) (Or.inl ⟨by rfl, ?_⟩) ?_ ?_
      rotate_left
      · intro w'
        go_simp
        with_reducible rfl
      rotate_left
      · simp only [nrm]
        rfl
      refine done_ (done_of HT_.out (by kernel_rfl)) ?_
      clear HT_ HW_ hHeld
      go_wp2_with fail
      replace H := Aside.mk H.out.drew
      refine start_ (n := 15) (S := fun w' => w'.cell? ⟨x, 3, none⟩ = some (.int .i64 (((2 : Nat) : Int) + 1)) ∧ w'.cell? ⟨x, 4, none⟩ = some (.int .i64 (((0 : Nat) : Int) + 1)) ∧ w'.cell? ⟨x, 5, none⟩ = some (.int .i64 1) ∧ w'.cell? ⟨x, 6, none⟩ = some (.int .i64 64) ∧ w'.cell? ⟨x, 7, none⟩ = some (.int .i64 (22 + 6 * ((0 : Nat) : Int))) ∧ w'.cell? ⟨x, 8, none⟩ = some (.int .i64 (128 + 64 * ((2 : Nat) : Int))) ∧ w'.cell? ⟨x, 9, none⟩ = some (.pointer (some ⟨a, 0, none⟩))) (ds := []) (flg 15 0) (by kernel_rfl) rfl rfl (⟨(H.out.pick 5 rfl).cell 3, (H.out.pick 5 rfl).cell 4, (H.out.pick 5 rfl).cell 5, (H.out.pick 5 rfl).cell 6, (H.out.pick 5 rfl).cell 7, (H.out.pick 5 rfl).cell 8, (H.out.pick 5 rfl).cell 9⟩) (fun hHeld => ?_)
      refine with_tabW sp.tab15 sp.bits15 (fun HT_ HW_ => ?_)
      refine pure_ (i := 0) (N := some 103) (v := ?_) (a' := ?_) (flg 15 1) rfl rfl (any_of HT_.out (by kernel_rfl)) (fun _ _ _ h => h) (Or.inl ⟨by rfl, ?_⟩) ?_ ?_
      rotate_left
      · intro w'
        go_simp
        with_reducible rfl
      rotate_left
      · simp only [nrm]
        rfl
      refine pure_ (i := 1) (N := some 104) (v := ?_) (a' := ?_) (flg 15 3) rfl rfl (any_of HT_.out (by kernel_rfl)) (fun _ _ _ h => h) (Or.inl ⟨by rfl, ?_⟩) ?_ ?_
      rotate_left
      · intro w'
        go_simp
        with_reducible rfl
      rotate_left
      · simp only [nrm]
        rfl
      refine pure_ (i := 2) (N := some 105) (v := ?_) (a' := ?_) (flg 15 7) rfl rfl (any_of HT_.out (by kernel_rfl)) (fun _ _ _ h => h) (Or.inl ⟨by rfl, ?_⟩) ?_ ?_
      rotate_left
      · intro w'
        go_simp
        with_reducible rfl
      rotate_left
      · simp only [nrm]
        rfl
      refine take_ (i := 3) (N := some 106) (v := ?_) (a' := ?_) (flg 15 15) rfl rfl (take_ofW HT_.out HW_.out (by kernel_rfl)) (fun _ _ _ h => h) (Or.inl ⟨by rfl, ?_⟩) hHeld ?_ ?_
      rotate_left
      · rintro w' ⟨s0_, s1_, s2_, s3_, s4_, s5_, s6_⟩
        go_simp
        with_reducible rfl
      rotate_left
      · simp only [nrm]
        rfl
      refine pure_ (i := 4) (N := some 107) (v := ?_) (a' := ?_) (flg 15 31) rfl rfl (any_of HT_.out (by kernel_rfl)) (fun _ _ _ h => h) (Or.inl ⟨by rfl, ?_⟩) ?_ ?_
      rotate_left
      · intro w'
        go_simp
        with_reducible rfl
      rotate_left
      · simp only [nrm]
        rfl
      refine pure_ (i := 5) (N := some 108) (v := ?_) (a' := ?_) (flg 15 63) rfl rfl (any_of HT_.out (by kernel_rfl)) (fun _ _ _ h => h) (Or.inl ⟨by rfl, ?_⟩) ?_ ?_
      rotate_left
      · intro w'
        go_simp
        with_reducible rfl
      rotate_left
      · simp only [nrm]
        rfl
      refine pure_ (i := 6) (N := some 109) (v := ?_) (a' := ?_) (flg 15 127) rfl rfl (any_of HT_.out (by kernel_rfl)) (fun _ _ _ h => h) (Or.inl ⟨by rfl, ?_⟩) ?_ ?_
      rotate_left
      · intro w'
        go_simp
        with_reducible rfl
      rotate_left
      · simp only [nrm]
        rfl
      refine take_ (i := 7) (N := some 110) (v := ?_) (a' := ?_) (flg 15 255) rfl rfl (take_ofW HT_.out HW_.out (by kernel_rfl)) (fun _ _ _ h => h) (Or.inl ⟨by rfl, ?_⟩) hHeld ?_ ?_
      rotate_left
      · rintro w' ⟨s0_, s1_, s2_, s3_, s4_, s5_, s6_⟩
        go_simp
        with_reducible rfl
      rotate_left
      · simp only [nrm]
        rfl
      refine one_ (i := 8) (N := some 111) (flg 15 511) rfl rfl (one_of HT_.out (by kernel_rfl)) (by decide) (fun K hK => ?_)
      refine goes_ Try.func16 (by kernel_rfl) rfl #[.agg #[.int .i64 (((2 : Nat) : Int) + 1), .int .i64 (((0 : Nat) : Int) + 1), .int .i64 1, .int .i64 64, .int .i64 (22 + 6 * ((0 : Nat) : Int)), .int .i64 (128 + 64 * ((2 : Nat) : Int))], .int .i64 ((0 : Nat) : Int)] (by rfl) rfl rfl (by (try simp only [List.map_toArray, List.map_cons, List.map_nil]); first | done | rfl) ?_
      refine (windrowref06_Map_Mark.calls _ _ _ _ _ _ _ _ _ HPM.out).mono ?_
      rintro e w2 ⟨rfl, hb⟩
      replace H := Aside.mk (H.out.step hb)
      clear hb
      refine ⟨_, rfl, ?_⟩
      refine hK.out _ _ ⟨(H.out.pick 5 rfl).cell 3, (H.out.pick 5 rfl).cell 4, (H.out.pick 5 rfl).cell 5, (H.out.pick 5 rfl).cell 6, (H.out.pick 5 rfl).cell 7, (H.out.pick 5 rfl).cell 8, (H.out.pick 5 rfl).cell 9⟩ (fun hHeld => ?_)
      clear hK K
      refine norm_ (a' := ?_) ?_ ?_
      rotate_left
      · show Act.put _ (some 111) _ = _
        simp only [nrm]
        rfl
      refine one_ (i := 9) (N := some 112) (flg 15 1023) rfl rfl (one_of HT_.out (by kernel_rfl)) (by decide) (fun K hK => ?_)
      refine goes_ Try.func14 (by kernel_rfl) rfl #[.pointer (some ⟨a, 0, none⟩), .int .i64 ((28 : Nat) : Int)] (by rfl) rfl rfl (by (try simp only [List.map_toArray, List.map_cons, List.map_nil]); first | done | rfl) ?_
      refine (HPK8.out _ _ (H.out.order 3 [1, 2, 0] rfl rfl)).mono ?_
      rintro e w3 ⟨rfl, rfl⟩
      refine ⟨_, rfl, ?_⟩
      refine hK.out _ _ ⟨(H.out.pick 5 rfl).cell 3, (H.out.pick 5 rfl).cell 4, (H.out.pick 5 rfl).cell 5, (H.out.pick 5 rfl).cell 6, (H.out.pick 5 rfl).cell 7, (H.out.pick 5 rfl).cell 8, (H.out.pick 5 rfl).cell 9⟩ (fun hHeld => ?_)
      clear hK K
      refine norm_ (a' := ?_) ?_ ?_
      rotate_left
      · show Act.put _ (some 112) _ = _
        simp only [nrm]
        rfl
      refine pure_ (i := 10) (N := some 102) (v := ?_) (a' := ?_) (flg 15 2047) rfl rfl (any_of HT_.out (by kernel_rfl)) (fun _ _ _ h => h) (Or.inl ⟨by rfl, ?_⟩) ?_ ?_
      rotate_left
      · intro w'
        go_simp
        with_reducible rfl
      rotate_left
      · simp only [nrm]
        rfl
      refine pure_ (i := 11) (N := some 113) (v := ?_) (a' := ?_) (flg 15 4095) rfl rfl (any_of HT_.out (by kernel_rfl)) (fun _ _ _ h => h) (Or.inl ⟨by rfl, ?_⟩) ?_ ?_
      rotate_left
      · intro w'
        go_simp
        with_reducible rfl
      rotate_left
      · simp only [nrm]
        rfl
      refine pure_ (i := 12) (N := some 114) (v := ?_) (a' := ?_) (flg 15 8191) rfl rfl (any_of HT_.out (by kernel_rfl)) (fun _ _ _ h => h) (Or.inl ⟨by rfl, ?_⟩) ?_ ?_
      rotate_left
      · intro w'
        go_simp
        with_reducible rfl
      rotate_left
      · simp only [nrm]
        rfl
      refine pure_ (i := 13) (N := some 14) (v := ?_) (a' := ?_) (flg 15 16383) rfl rfl (any_of HT_.out (by kernel_rfl)) (fun _ _ _ h => h) (Or.inl ⟨by rfl, ?_⟩) ?_ ?_
      rotate_left
      · intro w'
        go_simp
        with_reducible rfl
      rotate_left
      · simp only [nrm]
        rfl
      refine pure_ (i := 14) (N := some 15) (v := ?_) (a' := ?_) (flg 15 32767) rfl rfl (any_of HT_.out (by kernel_rfl)) (fun _ _ _ h => h) (Or.inl ⟨by rfl, ?_⟩) ?_ ?_
      rotate_left
      · intro w'
        go_simp
        with_reducible rfl
      rotate_left
      · simp only [nrm]
        rfl
      refine done_ (done_of HT_.out (by kernel_rfl)) ?_
      clear HT_ HW_ hHeld
      go_wp2_with fail
      replace H := Aside.mk H.out.drew
      refine start_ (n := 15) (S := fun w' => w'.cell? ⟨x, 3, none⟩ = some (.int .i64 (((2 : Nat) : Int) + 1)) ∧ w'.cell? ⟨x, 4, none⟩ = some (.int .i64 (((0 : Nat) : Int) + 1)) ∧ w'.cell? ⟨x, 5, none⟩ = some (.int .i64 1) ∧ w'.cell? ⟨x, 6, none⟩ = some (.int .i64 64) ∧ w'.cell? ⟨x, 7, none⟩ = some (.int .i64 (22 + 6 * ((0 : Nat) : Int))) ∧ w'.cell? ⟨x, 8, none⟩ = some (.int .i64 (128 + 64 * ((2 : Nat) : Int))) ∧ w'.cell? ⟨x, 9, none⟩ = some (.pointer (some ⟨a, 0, none⟩))) (ds := []) (flg 15 0) (by kernel_rfl) rfl rfl (⟨(H.out.pick 5 rfl).cell 3, (H.out.pick 5 rfl).cell 4, (H.out.pick 5 rfl).cell 5, (H.out.pick 5 rfl).cell 6, (H.out.pick 5 rfl).cell 7, (H.out.pick 5 rfl).cell 8, (H.out.pick 5 rfl).cell 9⟩) (fun hHeld => ?_)
      refine with_tabW sp.tab16 sp.bits16 (fun HT_ HW_ => ?_)
      refine pure_ (i := 0) (N := some 116) (v := ?_) (a' := ?_) (flg 15 1) rfl rfl (any_of HT_.out (by kernel_rfl)) (fun _ _ _ h => h) (Or.inl ⟨by rfl, ?_⟩) ?_ ?_
      rotate_left
      · intro w'
        go_simp
        with_reducible rfl
      rotate_left
      · simp only [nrm]
        rfl
      refine pure_ (i := 1) (N := some 117) (v := ?_) (a' := ?_) (flg 15 3) rfl rfl (any_of HT_.out (by kernel_rfl)) (fun _ _ _ h => h) (Or.inl ⟨by rfl, ?_⟩) ?_ ?_
      rotate_left
      · intro w'
        go_simp
        with_reducible rfl
      rotate_left
      · simp only [nrm]
        rfl
      refine pure_ (i := 2) (N := some 118) (v := ?_) (a' := ?_) (flg 15 7) rfl rfl (any_of HT_.out (by kernel_rfl)) (fun _ _ _ h => h) (Or.inl ⟨by rfl, ?_⟩) ?_ ?_
      rotate_left
      · intro w'
        go_simp
        with_reducible rfl
      rotate_left
      · simp only [nrm]
        rfl
      refine take_ (i := 3) (N := some 119) (v := ?_) (a' := ?_) (flg 15 15) rfl rfl (take_ofW HT_.out HW_.out (by kernel_rfl)) (fun _ _ _ h => h) (Or.inl ⟨by rfl, ?_⟩) hHeld ?_ ?_
      rotate_left
      · rintro w' ⟨s0_, s1_, s2_, s3_, s4_, s5_, s6_⟩
        go_simp
        with_reducible rfl
      rotate_left
      · simp only [nrm]
        rfl
      refine pure_ (i := 4) (N := some 120) (v := ?_) (a' := ?_) (flg 15 31) rfl rfl (any_of HT_.out (by kernel_rfl)) (fun _ _ _ h => h) (Or.inl ⟨by rfl, ?_⟩) ?_ ?_
      rotate_left
      · intro w'
        go_simp
        with_reducible rfl
      rotate_left
      · simp only [nrm]
        rfl
      refine pure_ (i := 5) (N := some 121) (v := ?_) (a' := ?_) (flg 15 63) rfl rfl (any_of HT_.out (by kernel_rfl)) (fun _ _ _ h => h) (Or.inl ⟨by rfl, ?_⟩) ?_ ?_
      rotate_left
      · intro w'
        go_simp
        with_reducible rfl
      rotate_left
      · simp only [nrm]
        rfl
      refine pure_ (i := 6) (N := some 122) (v := ?_) (a' := ?_) (flg 15 127) rfl rfl (any_of HT_.out (by kernel_rfl)) (fun _ _ _ h => h) (Or.inl ⟨by rfl, ?_⟩) ?_ ?_
      rotate_left
      · intro w'
        go_simp
        with_reducible rfl
      rotate_left
      · simp only [nrm]
        rfl
      refine take_ (i := 7) (N := some 123) (v := ?_) (a' := ?_) (flg 15 255) rfl rfl (take_ofW HT_.out HW_.out (by kernel_rfl)) (fun _ _ _ h => h) (Or.inl ⟨by rfl, ?_⟩) hHeld ?_ ?_
      rotate_left
      · rintro w' ⟨s0_, s1_, s2_, s3_, s4_, s5_, s6_⟩
        go_simp
        with_reducible rfl
      rotate_left
      · simp only [nrm]
        rfl
      refine one_ (i := 8) (N := some 124) (flg 15 511) rfl rfl (one_of HT_.out (by kernel_rfl)) (by decide) (fun K hK => ?_)
      refine goes_ Try.func17 (by kernel_rfl) rfl #[.agg #[.int .i64 (((2 : Nat) : Int) + 1), .int .i64 (((0 : Nat) : Int) + 1), .int .i64 1, .int .i64 64, .int .i64 (22 + 6 * ((0 : Nat) : Int)), .int .i64 (128 + 64 * ((2 : Nat) : Int))], .int .i64 ((0 : Nat) : Int)] (by rfl) rfl rfl (by (try simp only [List.map_toArray, List.map_cons, List.map_nil]); first | done | rfl) ?_
      refine (windrowref06_Map_PageEntry.calls _ _ _ _ _ _ _ _ _ HPE.out).mono ?_
      rintro e w2 ⟨rfl, hb⟩
      replace H := Aside.mk (H.out.step hb)
      clear hb
      refine ⟨_, rfl, ?_⟩
      refine hK.out _ _ ⟨(H.out.pick 5 rfl).cell 3, (H.out.pick 5 rfl).cell 4, (H.out.pick 5 rfl).cell 5, (H.out.pick 5 rfl).cell 6, (H.out.pick 5 rfl).cell 7, (H.out.pick 5 rfl).cell 8, (H.out.pick 5 rfl).cell 9⟩ (fun hHeld => ?_)
      clear hK K
      refine norm_ (a' := ?_) ?_ ?_
      rotate_left
      · show Act.put _ (some 124) _ = _
        simp only [nrm]
        rfl
      refine one_ (i := 9) (N := some 125) (flg 15 1023) rfl rfl (one_of HT_.out (by kernel_rfl)) (by decide) (fun K hK => ?_)
      refine goes_ Try.func14 (by kernel_rfl) rfl #[.pointer (some ⟨a, 0, none⟩), .int .i64 ((22 : Nat) : Int)] (by rfl) rfl rfl (by (try simp only [List.map_toArray, List.map_cons, List.map_nil]); first | done | rfl) ?_
      refine (HPK2.out _ _ (H.out.order 3 [1, 2, 0] rfl rfl)).mono ?_
      rintro e w3 ⟨rfl, rfl⟩
      refine ⟨_, rfl, ?_⟩
      refine hK.out _ _ ⟨(H.out.pick 5 rfl).cell 3, (H.out.pick 5 rfl).cell 4, (H.out.pick 5 rfl).cell 5, (H.out.pick 5 rfl).cell 6, (H.out.pick 5 rfl).cell 7, (H.out.pick 5 rfl).cell 8, (H.out.pick 5 rfl).cell 9⟩ (fun hHeld => ?_)
      clear hK K
      refine norm_ (a' := ?_) ?_ ?_
      rotate_left
      · show Act.put _ (some 125) _ = _
        simp only [nrm]
        rfl
      refine pure_ (i := 10) (N := some 115) (v := ?_) (a' := ?_) (flg 15 2047) rfl rfl (any_of HT_.out (by kernel_rfl)) (fun _ _ _ h => h) (Or.inl ⟨by rfl, ?_⟩) ?_ ?_
      rotate_left
      · intro w'
        go_simp
        with_reducible rfl
      rotate_left
      · simp only [nrm]
        rfl
      refine pure_ (i := 11) (N := some 126) (v := ?_) (a' := ?_) (flg 15 4095) rfl rfl (any_of HT_.out (by kernel_rfl)) (fun _ _ _ h => h) (Or.inl ⟨by rfl, ?_⟩) ?_ ?_
      rotate_left
      · intro w'
        go_simp
        with_reducible rfl
      rotate_left
      · simp only [nrm]
        rfl
      refine pure_ (i := 12) (N := some 127) (v := ?_) (a' := ?_) (flg 15 8191) rfl rfl (any_of HT_.out (by kernel_rfl)) (fun _ _ _ h => h) (Or.inl ⟨by rfl, ?_⟩) ?_ ?_
      rotate_left
      · intro w'
        go_simp
        with_reducible rfl
      rotate_left
      · simp only [nrm]
        rfl
      refine pure_ (i := 13) (N := some 16) (v := ?_) (a' := ?_) (flg 15 16383) rfl rfl (any_of HT_.out (by kernel_rfl)) (fun _ _ _ h => h) (Or.inl ⟨by rfl, ?_⟩) ?_ ?_
      rotate_left
      · intro w'
        go_simp
        with_reducible rfl
      rotate_left
      · simp only [nrm]
        rfl
      refine pure_ (i := 14) (N := some 17) (v := ?_) (a' := ?_) (flg 15 32767) rfl rfl (any_of HT_.out (by kernel_rfl)) (fun _ _ _ h => h) (Or.inl ⟨by rfl, ?_⟩) ?_ ?_
      rotate_left
      · intro w'
        go_simp
        with_reducible rfl
      rotate_left
      · simp only [nrm]
        rfl
      refine done_ (done_of HT_.out (by kernel_rfl)) ?_
      clear HT_ HW_ hHeld
      go_wp2_with (first
        | (go_at_call 11; refine (sover_ (H.out.pick 4 rfl)).mono ?_; rintro e w4 ⟨rfl, h4⟩; replace H : Aside (St w w4 (Rn x 2 0 a d p gD gC s 15 false M lv (.slice none 0 0) (spX C V al mk) [] 0)) := Aside.mk (h4.order 5 [1, 2, 3, 4, 0] rfl rfl); clear h4; rw [HAT.out])
        | (go_at_call 18; refine (sswept_ (H.out.pick 4 rfl)).mono ?_; rintro e w4 ⟨rfl, h4⟩; replace H : Aside (St w w4 (Rn x 2 0 a d p gD gC s 15 false M lv (.slice none 0 0) (spX C V al mk) [] 0)) := Aside.mk (h4.order 5 [1, 2, 3, 4, 0] rfl rfl); clear h4; rw [HSW.out]))
      go_ret
      exact ⟨by simp, H.out.below⟩
end Go.Proofs.Ytelfiegocdjnoaa.Ar
