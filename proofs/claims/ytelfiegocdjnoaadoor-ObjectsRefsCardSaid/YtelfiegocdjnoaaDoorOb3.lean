/- An arena's cells are laid (windrowlaw11.lay). Conditions: the words lie in memory that was there. -/
import Derived.Test.YtelfiegocdjnoaaDoorOb2
import Derived.Deep.CutBlock
import Derived.Test.YtelfiegocdjnoaaDoorMrF0
namespace Go.Proofs.YtelfiegocdjnoaaDoor.Ar
open Go Go.RowKit Go.Proofs.YtelfiegocdjnoaaDoor.Sep Go.Proofs.YtelfiegocdjnoaaDoorW.PrintWords Go.Proofs.YtelfiegocdjnoaaDoorW.PrintLast Go.Proofs.YtelfiegocdjnoaaDoorW.PrintMore Go.Proofs.YtelfiegocdjnoaaDoor.Q
set_option linter.unusedVariables false
set_option linter.unusedSimpArgs false
set_option maxHeartbeats 8000000
set_option maxRecDepth 100000
/-- Where a word is laid. -/
def posN (N : Nat) (at_ : Int) : Nat := (IntKind.u64.wrap at_ % (N : Int)).toNat
def layS (N i : Nat) (L : List (Int × Int)) : List Int := (L.take i).foldl (fun X p => X.set (posN N p.1) p.2) (List.replicate N 0)
theorem layS_len (N i : Nat) (L : List (Int × Int)) : (layS N i L).length = N := by
  unfold layS
  generalize hX : List.replicate N (0 : Int) = X
  have h0 : X.length = N := by rw [← hX, List.length_replicate]
  clear hX
  generalize L.take i = M
  induction M generalizing X with
  | nil => exact h0
  | cons p M ih => exact ih _ (by rw [List.length_set]; exact h0)
theorem layS_s (N i : Nat) (L : List (Int × Int)) (h : i < L.length) : layS N (i + 1) L = (layS N i L).set (posN N (L.getD i (0, 0)).1) (L.getD i (0, 0)).2 := by
  unfold layS
  rw [← List.take_append_getElem h, List.foldl_append]
  simp [List.getD_eq_getElem?_getD, h]
theorem u64_nn (x : Int) : 0 ≤ IntKind.u64.wrap x ∧ IntKind.u64.wrap x < 18446744073709551616 := by
  unfold IntKind.wrap
  simp only [IntKind.bits, IntKind.signed]
  first | omega | (simp; omega) | (constructor <;> omega)
theorem posN_lt (N : Nat) (at_ : Int) (h : 1 ≤ N) : posN N at_ < N := by
  unfold posN
  have := Int.emod_lt_of_pos (IntKind.u64.wrap at_) (show (0 : Int) < (N : Int) by omega)
  have := Int.emod_nonneg (IntKind.u64.wrap at_) (show (N : Int) ≠ 0 by omega)
  omega
theorem posN_is (N : Nat) (at_ : Int) (h : 1 ≤ N) : Int.tmod (IntKind.u64.wrap at_) N = (posN N at_ : Int) := by
  rw [Int.tmod_eq_emod_of_nonneg (u64_nn at_).1]
  unfold posN
  have := Int.emod_nonneg (IntKind.u64.wrap at_) (show (N : Int) ≠ 0 by omega)
  omega
abbrev LF (a gC gD N : Nat) (X : List Int) : List HP := [arB a gC N (.slice none 0 0) true 0 0, ceB gC X, blk gD (U X).toArray 22]
theorem lay_ {p1 : Int} {k N : Nat} (hC : windrowref06_Cells.f k p1 1 1 = some (N : Int)) (h1 : 1 ≤ N) (h2 : N ≤ 4096) (A : Option Addr) (c : Nat) (L : List (Int × Int)) (w : World)
    (hL : ∀ i, i < L.length → ∃ ad, A = some ad ∧ w.cell? (ad.add (i * 2)) = some (.int .i64 (L.getD i (0, 0)).1) ∧ w.cell? ⟨(ad.add (i * 2)).block, (ad.add (i * 2)).off + 1, none⟩ = some (.int .u64 (L.getD i (0, 0)).2)) :
    Calls Tryd.prog 13 #[.agg #[.int .i64 p1, .int .i64 1, .int .i64 1], .slice A L.length c] w fun e w' => ∃ a gC gD, e = .returned (.tuple #[.pointer (some ⟨a, 0, none⟩), .slice (some ⟨gD, 0, none⟩) N N, .bool true]) ∧ St w w' (LF a gC gD N (layS N (min 300 L.length) L)) := by
  have HC := Aside.mk hC
  have HL := Aside.mk hL
  have HN1 := Aside.mk h1
  have HN2 := Aside.mk h2
  obtain ⟨i22, hi22, hz22, hs22, hb22⟩ := info_parts info22
  have H := Aside.mk ((St.start w).alloc #[.int .i64 p1, .int .i64 1, .int .i64 1] 25)
  obtain ⟨M, hM⟩ : ∃ M, M = min 300 L.length := ⟨_, rfl⟩
  rw [← hM]
  have HM := Aside.mk hM
  clear hM
  clear hC hL h1 h2
  go_enter Tryd.func13, Tryd.ntmps13
  go_upto_block 0 with (first
    | (go_at_call 72; refine (windrowref06_Cells.calls _ _ _ _ _ _ HC.out).mono ?_; rintro e w4 ⟨rfl, hb⟩; replace H := Aside.mk (H.out.step hb).rest; clear hb)
    | (at_make; refine wpList_make_full _ rfl (.tmp 13) (.tmp 13) 30 rfl w.heap.size 22 _ (.int .u64 0) 1 Tryd.underlying30 hi22 hz22 hs22 .i64 .i64 N N N rfl rfl rfl rfl (by rw [hb22]; have := HN2.out; omega) (by simp only [maxLen]; have := HN2.out; omega) H.out.size_le ?_; intro w5 ho hg; replace H := Aside.mk (St_make H.out ho hg); clear ho hg; rw [zeros_] at H)
    | (go_at_call 73; refine (new_ N HN1.out HN2.out true H.out).mono ?_; rintro e w7 ⟨a, gC, rfl, h7⟩; replace H := Aside.mk h7; clear h7))
  generalize w4.heap.size = gD at H ⊢
  have HWN : Aside (IntKind.u64.wrap (N : Int) = N) := ⟨by have := HN2.out; unfold IntKind.wrap; simp only [IntKind.bits, IntKind.signed]; first | omega | (simp; omega)⟩
  go_cut [10, 11] (fun v10 v11 wc => Aside (St w wc (LF a gC gD N (layS N M L))))
  case first =>
    go_wp2_with fail
    go_loopg [10, 11] (M) (fun m v10 v11 w' => ∃ i : Nat, m = M - i ∧ i ≤ M ∧ v10 = .int .i64 i ∧ Aside (St w w' (LF a gC gD N (layS N i L))))
    case atStart => exact ⟨0, rfl, Nat.zero_le _, rfl, H⟩
    case round =>
      clear H
      obtain ⟨i, rfl, hi, rfl, H⟩ := hrel
      by_cases hlt : i < M
      · have hil : i < L.length := by have := HM.out; omega
        have hi3 : i < 300 := by have := HM.out; omega
        have dl : decide ((i : Int) < (L.length : Int)) = true := by simp; omega
        have nl : (i : Int) < (L.length : Int) := by omega
        have d3 : decide ((i : Int) < 300) = true := by simp; omega
        have n3 : (i : Int) < 300 := by omega
        obtain ⟨ad, rfl, c0, c1⟩ := HL.out i hil
        have e0 := pw_cell_below H.out.below c0
        have C1 := Aside.mk c1
        have e1 := pw_cell_below H.out.below c1
        have HI := Aside.mk hlt
        have HS := Aside.mk (layS_s N i L hil)
        have HXL := Aside.mk (layS_len N i L)
        have hq1 := posN_is N (L.getD i (0, 0)).1 HN1.out
        have hj := posN_lt N (L.getD i (0, 0)).1 HN1.out
        clear c0 c1 hil hi3 hi hlt
        generalize (L.getD i (0, 0)).1 = at_ at e0 hq1 hj HS
        generalize (L.getD i (0, 0)).2 = v at C1 e1 HS
        generalize posN N at_ = j at hq1 hj HS
        generalize layS N i L = X at HS HXL H
        have hqN := HWN.out
        have hz : ((N : Int) == 0) = false := by simp; have := HN1.out; omega
        have hw : wrap64 (j : Int) = j := by unfold wrap64; have := HN2.out; omega
        have hw2 : wrap64 ((i : Int) + 1) = (i : Int) + 1 := by unfold wrap64; omega
        have dj : decide ((j : Int) < (N : Int)) = true := by simp; omega
        have nj : (j : Int) < (N : Int) := by omega
        have HJ := Aside.mk (show j < X.length by rw [HXL.out]; exact hj)
        clear hj
        go_wp2_with (with_reducible refine stop_at (.store 22 (.tmp 51) (.tmp 50)) rfl ?_)
        refine ⟨?_⟩
        simp only [hw]
        refine st_store (g := gD) (off := j) rfl rfl rfl [.int .u64 v] (putAt (U X).toArray j [.int .u64 v]) rfl rfl rfl (by have := HJ.out; simp [U]; omega) (by simp [Value.oneCell']) (H.out.pick 2 rfl) rfl ?_
        intro w8 h_
        replace H : Aside (St w w8 (arB a gC X.length (.slice none 0 0) true 0 0 :: ceB gC X :: [blk gD (U (X.set j v)).toArray 22])) := Aside.mk (by rw [HXL.out]; exact (put_U HJ.out h_).order 3 [1, 2, 0] rfl rfl)
        clear h_ e0 e1
        have e1 := pw_cell_below H.out.below C1.out
        go_wp2_with (go_at_call 37; refine (poke_yes j v HJ.out H.out).mono ?_; rintro e w9 ⟨rfl, h9⟩; replace H := Aside.mk h9; clear h9 e1)
        go_roundg (M - (i + 1))
        case measure => have := HI.out; omega
        case rel => exact ⟨i + 1, rfl, HI.out, by first | rfl | (rw [hw2]; rfl) | (push_cast; rfl), by rw [HS.out]; have h9 := H.out; rw [List.length_set, HXL.out] at h9; exact ⟨h9⟩⟩
      · obtain rfl : i = M := by omega
        by_cases hl : i < L.length
        · have dl : decide ((i : Int) < (L.length : Int)) = true := by simp; omega
          have nl : (i : Int) < (L.length : Int) := by omega
          have d3 : decide ((i : Int) < 300) = false := by simp; have := HM.out; omega
          have n3 : ¬ ((i : Int) < 300) := by have := HM.out; omega
          clear hl hi hlt
          go_wp2
          go_meet
          case rel => exact H
        · have dl : decide ((i : Int) < (L.length : Int)) = false := by simp; omega
          have nl : ¬ ((i : Int) < (L.length : Int)) := by omega
          clear hl hi hlt
          go_wp2
          go_meet
          case rel => exact H
  case rest =>
    clear H
    have H := hcut
    clear hcut
    go_wp2
    go_ret3
    exact ⟨a, gC, gD, rfl, H.out⟩
end Go.Proofs.YtelfiegocdjnoaaDoor.Ar
