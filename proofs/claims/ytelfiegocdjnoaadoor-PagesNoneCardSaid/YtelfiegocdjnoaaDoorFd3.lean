/- Does a sweep free a page that has nothing marked? The document's walk: it does. No condition. -/
import Derived.Test.YtelfiegocdjnoaaDoorMa0
import Derived.Deep.CutBlock
import Derived.Test.YtelfiegocdjnoaaDoorMrF0
namespace Go.Proofs.YtelfiegocdjnoaaDoor.Ar
open Go Go.RowKit Go.Proofs.YtelfiegocdjnoaaDoor.Sep Go.Proofs.YtelfiegocdjnoaaDoor.Pg Go.Proofs.YtelfiegocdjnoaaDoorW.PrintWords Go.Proofs.YtelfiegocdjnoaaDoorW.PrintLast Go.Proofs.YtelfiegocdjnoaaDoorW.PrintMore Go.Proofs.YtelfiegocdjnoaaDoor.Q
set_option linter.unusedVariables false
set_option linter.unusedSimpArgs false
set_option maxHeartbeats 8000000
set_option maxRecDepth 100000
def pd.T12 : Bool × List (List Nat × List Nat) := (true, [([], []), ([0], [0]), ([1], [1]), ([2], [2]), ([], []), ([4], [4]), ([5], [5]), ([6], [6]), ([7], [7]), ([3, 8, 8], [3, 8]), ([9], [9]), ([10], [10]), ([10], [10]), ([11, 9, 0, 1, 2, 3, 4, 5, 6, 7, 8, 9, 10, 11], [11]), ([12, 13, 0, 1, 2, 3, 4, 5, 6, 7, 8, 9, 10, 11, 12, 13], [12])])
def pd.B12 : List Nat := [0, 1, 3, 7, 0, 16, 48, 112, 240, 511, 1023, 2047, 2047, 4095, 16383]
theorem pd.tab12 : rtab .any (opsOf Tryd.f52 12) = pd.T12 := by kernel_rfl
theorem pd.bits12 : waitsOk pd.T12.2 pd.B12 = true := by kernel_rfl
/-- A sweep beside its field. -/
abbrev Rn (x P T a d p gD gC s : Nat) (who : Int) (g : Bool) (m : Ma) (lv lv2 : Value) (X2 : List Int) (l2 : List Acc) (f2 : Int) : List HP :=
  Are p a gC who g m.X lv m.l m.l.length 0 ++ swB s m.x :: [fdB x P T a d p, daB d gD X2.length lv2 f2, blk gD (U X2).toArray 22, row 98 7 lv2 l2.length (accs l2)]
theorem pg_new (w : World) (g : SPg) : Kd.C kPg (w.alloc (.cells #[.int .i64 g.f0, .int .i64 g.f1, .int .i64 g.f2, .int .i64 g.f3, .int .i64 g.f4, .int .u64 g.f5, .int .u64 g.f6, .int .u64 g.f7] 192 (0, 0))) (some ⟨w.heap.size, 0, none⟩) [g].length [g] := by
  refine ⟨rfl, (show (1 : Nat) ≤ 9223372036854775807 by decide), fun _ => ⟨_, rfl, fun j p hj => ?_⟩⟩
  have hj0 : j = 0 := by
    have := (List.getElem?_eq_some_iff.1 hj).1
    simpa using this
  subst hj0
  obtain rfl : g = p := by simpa using hj
  refine ⟨[.int .i64 g.f0, .int .i64 g.f1, .int .i64 g.f2, .int .i64 g.f3, .int .i64 g.f4, .int .u64 g.f5, .int .u64 g.f6, .int .u64 g.f7], rfl, ⟨[_], _, rfl, rfl, ⟨[_], _, rfl, rfl, ⟨[_], _, rfl, rfl, ⟨[_], _, rfl, rfl, ⟨[_], _, rfl, rfl, ⟨[_], _, rfl, rfl, ⟨[_], _, rfl, rfl, rfl⟩⟩⟩⟩⟩⟩⟩, ?_⟩
  intro i u hu
  have ha : (⟨w.heap.size, 0, none⟩ : Addr).add (0 * kPg.sz + i) = ⟨w.heap.size, i, none⟩ := by rw [add_plain]; congr 1; omega
  rw [ha]
  simp only [World.cell?, heap_new]
  simpa using hu
theorem paged_ (w : World) : Calls Tryd.prog 52 #[] w fun e w' => e = .returned (.bool true) ∧ Below w.heap.size w w' := by
  have hr0 : ∀ g ∈ [pg0], rngP g := by
    intro g hg
    obtain rfl : g = pg0 := by simpa using hg
    exact ⟨by decide, by decide, by decide⟩
  have HLAY := Aside.mk (lay_ 0 0 0 (some ⟨w.heap.size, 0, none⟩) 1 [pg0] (w.alloc (.cells #[.int .i64 1, .int .i64 2, .int .i64 0, .int .i64 0, .int .i64 1, .int .u64 0, .int .u64 17, .int .u64 0] 192 (0, 0))) (pg_new w pg0) hr0)
  have HG := Aside.mk ((St.start w).alloc #[.int .i64 1, .int .i64 2, .int .i64 0, .int .i64 0, .int .i64 1, .int .u64 0, .int .u64 17, .int .u64 0] 192)
  have HR0 : Rng mp0.X := layX_rng _ _ _ hr0 (rng_zeros _)
  have HI0 : Aside (mp0.Inv 0 0 0) := ⟨inv0 (by decide) (by decide) (page := 0) (by decide) (.inr rfl) (by decide) (show mp0.X.length = 128 + 64 * 0 from (layX_len _ _ _).trans List.length_replicate) HR0 []⟩
  clear hr0 HR0
  go_enter Tryd.func52, Tryd.ntmps52
  go_upto_block 0 with (first
    | (go_at_call 51; refine HLAY.out.mono ?_; rintro e w1 ⟨x, a, d, p, gD, gC, rfl, h1⟩; have H : Aside (St w w1 (Fd x 0 0 a d p gD gC 15 false mp0.X (.slice none 0 0) [] 0 (.slice none 0 0) [] 0 0)) := Aside.mk (((HG.out.join h1).pick 8 rfl).rest); clear h1 HLAY HG; have x0 : w1.cell? ⟨x, 0, none⟩ = some (.int .i64 (((0 : Nat) : Int) + 1)) := H.out.cell 0; have x1 : w1.cell? ⟨x, 1, none⟩ = some (.int .i64 (((0 : Nat) : Int) + 1)) := H.out.cell 1; have x2 : w1.cell? ⟨x, 2, none⟩ = some (.int .i64 1) := H.out.cell 2)
    | (go_at_call 55; refine (windrowlaw09_plan.calls _ _ _ _ _ _ _ (show windrowlaw09_plan.f (((0 : Nat) : Int) + 1) (((0 : Nat) : Int) + 1) 1 = some (((0 : Nat) : Int) + 1, ((0 : Nat) : Int) + 1, 1) from rfl)).mono ?_; rintro e w2 ⟨rfl, hb⟩; replace H := Aside.mk (H.out.step hb); clear hb x0 x1 x2)
    | (go_at_call 110; refine (newsweep_yes (P := 0) (T := 0) (by decide) (by decide) (who := 15) (cyc := 2) (page := 0) (by decide) (by decide) (.inr rfl) (by decide) H.out).mono ?_; rintro e w3 ⟨s, rfl, h3⟩; replace H : Aside (St w w3 (Rn x 0 0 a d p gD gC s 15 false mp0 (.slice none 0 0) (.slice none 0 0) mp0.X [] 0)) := Aside.mk (h3.order 9 [5, 6, 7, 8, 0, 1, 2, 3, 4] rfl rfl); clear h3))
  go_cut [5] (fun v5 wc => ∃ lv, Aside (St w wc (Rn x 0 0 a d p gD gC s 15 false (mp0.runs 0 0 0 15 8) lv (.slice none 0 0) mp0.X [] 0)))
  case first =>
    go_wp2_with fail
    go_loopg [5] (8) (fun m v5 w' => ∃ i : Nat, m = 8 - i ∧ i ≤ 8 ∧ v5 = .int .i64 i ∧ ∃ (y : Ma) (lv : Value), Aside (y.runs 0 0 0 15 (8 - i) = mp0.runs 0 0 0 15 8) ∧ Aside (y.Inv 0 0 0) ∧ Aside (y.l.length ≤ i) ∧ Aside (St w w' (Rn x 0 0 a d p gD gC s 15 false y lv (.slice none 0 0) mp0.X [] 0)))
    case atStart => exact ⟨0, rfl, Nat.zero_le _, rfl, mp0, .slice none 0 0, ⟨rfl⟩, HI0, ⟨Nat.le_refl _⟩, H⟩
    case round =>
      clear H HI0
      obtain ⟨i, rfl, hi, rfl, y, lv, HE, HI, HN, H⟩ := hrel
      have x11 : wr.cell? ⟨x, 11, none⟩ = some (.pointer (some ⟨p, 0, none⟩)) := (H.out.pick 5 rfl).cell 11
      have hn := HN.out
      by_cases hlt : i < 8
      · by_cases h8 : y.x.at_ = 8
        · have h8b : (y.x.at_ == 8) = true := by simp [h8]
          have hE := HE.out
          rw [runs_over h8] at hE
          have HE2 := Aside.mk hE
          clear hE h8 hn
          go_wp2_with (go_at_call 111; refine (sover_ (H.out.pick 4 rfl)).mono ?_; rintro e w4 ⟨rfl, h4⟩; replace H : Aside (St w w4 (Rn x 0 0 a d p gD gC s 15 false y lv (.slice none 0 0) mp0.X [] 0)) := Aside.mk (h4.order 5 [1, 2, 3, 4, 0] rfl rfl); clear h4 x11)
          go_meet
          case rel => exact ⟨lv, by rw [← HE2.out]; exact H⟩
        · have h8b : (y.x.at_ == 8) = false := by simpa using h8
          have H8 := Aside.mk h8
          have hstep := fun (w' : World) (h : St w w' (Are p a gC 15 true y.X lv y.l y.l.length 0 ++ swB s y.x :: [fdB x 0 0 a d p, daB d gD (List.length mp0.X) (.slice none 0 0) 0, blk gD (U mp0.X).toArray 22, row 98 7 (.slice none 0 0) 0 []])) => step_ HI.out.pl HI.out.gd h8 HI.out.len (by omega) (by omega) (by omega) (HI.out.rng _) h
          replace hstep := Aside.mk hstep
          clear h8 hn
          go_wp2_with (first
            | (go_at_call 111; refine (sover_ (H.out.pick 4 rfl)).mono ?_; rintro e w4 ⟨rfl, h4⟩; replace H : Aside (St w w4 (Rn x 0 0 a d p gD gC s 15 false y lv (.slice none 0 0) mp0.X [] 0)) := Aside.mk (h4.order 5 [1, 2, 3, 4, 0] rfl rfl); clear h4 x11; have x11 : w4.cell? ⟨x, 11, none⟩ = some (.pointer (some ⟨p, 0, none⟩)) := (H.out.pick 5 rfl).cell 11)
            | (go_at_call 17; refine (grant_ H.out).mono ?_; rintro e w5 ⟨rfl, h5⟩; replace H := Aside.mk h5; clear h5 x11; have x11 : w5.cell? ⟨x, 11, none⟩ = some (.pointer (some ⟨p, 0, none⟩)) := (H.out.pick 5 rfl).cell 11)
            | (go_at_call 112; refine (hstep.out _ H.out).mono ?_; rintro e w6 ⟨lv1, rfl, h6⟩; replace H := Aside.mk h6; clear h6 x11))
          go_roundg (8 - (i + 1))
          case measure => omega
          case rel =>
            refine ⟨i + 1, rfl, by omega, by first | rfl | (rw [w_of ((i : Int) + 1) (by omega) (by omega)]; rfl), y.stp 0 0 0 15, lv1, ⟨?_⟩, ⟨HI.out.stp H8.out⟩, ⟨?_⟩, ?_⟩
            · rw [← HE.out, show 8 - i = (8 - (i + 1)) + 1 by omega, runs_step H8.out]
            · have := HN.out; simp only [Ma.stp, List.length_append, List.length_singleton]; omega
            · refine ⟨?_⟩
              have h9 := H.out
              show St w _ (Are p a gC 15 false _ lv1 _ ((y.stp 0 0 0 15).l.length : Nat) 0 ++ _)
              rw [show ((y.stp 0 0 0 15).l.length : Int) = (y.l.length : Int) + 1 by simp [Ma.stp]]
              exact h9
      · have hE := HE.out
        rw [show 8 - i = 0 by omega] at hE
        have HE2 := Aside.mk (show y = mp0.runs 0 0 0 15 8 from hE)
        clear hE hn
        go_wp2
        go_meet
        case rel => exact ⟨lv, by rw [← HE2.out]; exact H⟩
  case rest =>
    clear H
    obtain ⟨lv, H⟩ := hcut
    have hinv := runs_inv (who := 15) 8 HI0.out
    obtain ⟨q1, q2, q3, q4⟩ := mp_end
    generalize mp0.runs 0 0 0 15 8 = M at H hinv q1 q2 q3 q4
    have hpk := fun (w' : World) (F : List HP) (h : St w w' (arB a gC M.X.length lv true M.l.length 0 :: ceB gC M.X :: F)) => peek_yes 22 (by rw [hinv.len]; decide) h
    rw [q1] at hpk
    have HPK := Aside.mk hpk
    have HPE := Aside.mk (pent_ 0 0 0 (by decide) (by decide) (by decide))
    have HSW := Aside.mk q2
    have HEM := Aside.mk q3
    have HFR := Aside.mk q4
    clear hpk hinv q1 q2 q3 q4 HI0
    go_wp2_with fail
    replace H := Aside.mk H.out.drew
    refine start_ (n := 15) (S := fun w' => w'.cell? ⟨x, 3, none⟩ = some (.int .i64 (((0 : Nat) : Int) + 1)) ∧ w'.cell? ⟨x, 4, none⟩ = some (.int .i64 (((0 : Nat) : Int) + 1)) ∧ w'.cell? ⟨x, 5, none⟩ = some (.int .i64 1) ∧ w'.cell? ⟨x, 6, none⟩ = some (.int .i64 64) ∧ w'.cell? ⟨x, 7, none⟩ = some (.int .i64 (22 + 6 * ((0 : Nat) : Int))) ∧ w'.cell? ⟨x, 8, none⟩ = some (.int .i64 (128 + 64 * ((0 : Nat) : Int))) ∧ w'.cell? ⟨x, 9, none⟩ = some (.pointer (some ⟨a, 0, none⟩))) (ds := []) (flg 15 0) (by kernel_rfl) rfl rfl (⟨(H.out.pick 5 rfl).cell 3, (H.out.pick 5 rfl).cell 4, (H.out.pick 5 rfl).cell 5, (H.out.pick 5 rfl).cell 6, (H.out.pick 5 rfl).cell 7, (H.out.pick 5 rfl).cell 8, (H.out.pick 5 rfl).cell 9⟩) (fun hHeld => ?_)
    refine with_tabW pd.tab12 pd.bits12 (fun HT_ HW_ => ?_)
    refine pu_ (v := ?_) (a' := ?_) 0 (some 49) 1 rfl rfl HT_ (by kernel_rfl) (.inl ⟨by rfl, ?_⟩) ?_ ?_; rotate_left 2; (· intro w'; go_simp; with_reducible rfl); (· simp only [nrm]; rfl)
    refine pu_ (v := ?_) (a' := ?_) 1 (some 50) 3 rfl rfl HT_ (by kernel_rfl) (.inl ⟨by rfl, ?_⟩) ?_ ?_; rotate_left 2; (· intro w'; go_simp; with_reducible rfl); (· simp only [nrm]; rfl)
    refine pu_ (v := ?_) (a' := ?_) 2 (some 51) 7 rfl rfl HT_ (by kernel_rfl) (.inl ⟨by rfl, ?_⟩) ?_ ?_; rotate_left 2; (· intro w'; go_simp; with_reducible rfl); (· simp only [nrm]; rfl)
    refine tk_ (v := ?_) (a' := ?_) 3 (some 52) 15 rfl rfl HT_ HW_ (by kernel_rfl) (.inl ⟨by rfl, ?_⟩) hHeld ?_ ?_; rotate_left 2; (· rintro w' ⟨_, _, _, _, _, _, _⟩; go_simp; with_reducible rfl); (· simp only [nrm]; rfl)
    refine pu_ (v := ?_) (a' := ?_) 4 (some 53) 31 rfl rfl HT_ (by kernel_rfl) (.inl ⟨by rfl, ?_⟩) ?_ ?_; rotate_left 2; (· intro w'; go_simp; with_reducible rfl); (· simp only [nrm]; rfl)
    refine pu_ (v := ?_) (a' := ?_) 5 (some 54) 63 rfl rfl HT_ (by kernel_rfl) (.inl ⟨by rfl, ?_⟩) ?_ ?_; rotate_left 2; (· intro w'; go_simp; with_reducible rfl); (· simp only [nrm]; rfl)
    refine pu_ (v := ?_) (a' := ?_) 6 (some 55) 127 rfl rfl HT_ (by kernel_rfl) (.inl ⟨by rfl, ?_⟩) ?_ ?_; rotate_left 2; (· intro w'; go_simp; with_reducible rfl); (· simp only [nrm]; rfl)
    refine tk_ (v := ?_) (a' := ?_) 7 (some 56) 255 rfl rfl HT_ HW_ (by kernel_rfl) (.inl ⟨by rfl, ?_⟩) hHeld ?_ ?_; rotate_left 2; (· rintro w' ⟨_, _, _, _, _, _, _⟩; go_simp; with_reducible rfl); (· simp only [nrm]; rfl)
    refine on_ 8 (some 57) 511 rfl rfl HT_ (by kernel_rfl) (by decide) (fun K hK => ?_)
    refine goes_ Tryd.func33 (by kernel_rfl) rfl #[.agg #[.int .i64 (((0 : Nat) : Int) + 1), .int .i64 (((0 : Nat) : Int) + 1), .int .i64 1, .int .i64 64, .int .i64 (22 + 6 * ((0 : Nat) : Int)), .int .i64 (128 + 64 * ((0 : Nat) : Int))], .int .i64 0] (by rfl) rfl rfl (by (try simp only [List.map_toArray, List.map_cons, List.map_nil]); first | done | rfl) ?_
    refine (windrowref06_Map_PageEntry.calls _ _ _ _ _ _ _ _ _ HPE.out).mono ?_
    rintro e w2 ⟨rfl, hb⟩
    replace H := Aside.mk (H.out.step hb)
    clear hb
    refine ⟨_, rfl, ?_⟩
    refine hK.out _ _ ⟨(H.out.pick 5 rfl).cell 3, (H.out.pick 5 rfl).cell 4, (H.out.pick 5 rfl).cell 5, (H.out.pick 5 rfl).cell 6, (H.out.pick 5 rfl).cell 7, (H.out.pick 5 rfl).cell 8, (H.out.pick 5 rfl).cell 9⟩ (fun hHeld => ?_)
    clear hK K
    refine norm_ (a' := ?_) ?_ ?_
    rotate_left
    · show Act.put _ (some 57) _ = _
      simp only [nrm]
      rfl
    refine on_ 9 (some 58) 1023 rfl rfl HT_ (by kernel_rfl) (by decide) (fun K hK => ?_)
    refine goes_ Tryd.func19 (by kernel_rfl) rfl #[.pointer (some ⟨a, 0, none⟩), .int .i64 ((22 : Nat) : Int)] (by rfl) rfl rfl (by (try simp only [List.map_toArray, List.map_cons, List.map_nil]); first | done | rfl) ?_
    refine (HPK.out _ _ (H.out.order 3 [1, 2, 0] rfl rfl)).mono ?_
    rintro e w3 ⟨rfl, rfl⟩
    refine ⟨_, rfl, ?_⟩
    refine hK.out _ _ ⟨(H.out.pick 5 rfl).cell 3, (H.out.pick 5 rfl).cell 4, (H.out.pick 5 rfl).cell 5, (H.out.pick 5 rfl).cell 6, (H.out.pick 5 rfl).cell 7, (H.out.pick 5 rfl).cell 8, (H.out.pick 5 rfl).cell 9⟩ (fun hHeld => ?_)
    clear hK K
    refine norm_ (a' := ?_) ?_ ?_
    rotate_left
    · show Act.put _ (some 58) _ = _
      simp only [nrm]
      rfl
    refine pu_ (v := ?_) (a' := ?_) 10 (some 48) 2047 rfl rfl HT_ (by kernel_rfl) (.inl ⟨by rfl, ?_⟩) ?_ ?_; rotate_left 2; (· intro w'; go_simp; with_reducible rfl); (· simp only [nrm]; rfl)
    refine pu_ (v := ?_) (a' := ?_) 11 (some 59) 4095 rfl rfl HT_ (by kernel_rfl) (.inl ⟨by rfl, ?_⟩) ?_ ?_; rotate_left 2; (· intro w'; go_simp; with_reducible rfl); (· simp only [nrm]; rfl)
    refine pu_ (v := ?_) (a' := ?_) 12 (some 60) 8191 rfl rfl HT_ (by kernel_rfl) (.inl ⟨by rfl, ?_⟩) ?_ ?_; rotate_left 2; (· intro w'; go_simp; with_reducible rfl); (· simp only [nrm]; rfl)
    refine pu_ (v := ?_) (a' := ?_) 13 (some 6) 16383 rfl rfl HT_ (by kernel_rfl) (.inl ⟨by rfl, ?_⟩) ?_ ?_; rotate_left 2; (· intro w'; go_simp; with_reducible rfl); (· simp only [nrm]; rfl)
    refine pu_ (v := ?_) (a' := ?_) 14 (some 4) 32767 rfl rfl HT_ (by kernel_rfl) (.inl ⟨by rfl, ?_⟩) ?_ ?_; rotate_left 2; (· intro w'; go_simp; with_reducible rfl); (· simp only [nrm]; rfl)
    refine done_ (done_of HT_.out (by kernel_rfl)) ?_
    clear HT_ HW_ hHeld
    go_wp2_with (first
      | (go_at_call 113; refine (sswept_ (H.out.pick 4 rfl)).mono ?_; rintro e w4 ⟨rfl, h4⟩; replace H : Aside (St w w4 (Rn x 0 0 a d p gD gC s 15 false M lv (.slice none 0 0) mp0.X [] 0)) := Aside.mk (h4.order 5 [1, 2, 3, 4, 0] rfl rfl); clear h4; rw [HSW.out])
      | (go_at_call 114; refine (sempty_ (H.out.pick 4 rfl)).mono ?_; rintro e w4 ⟨rfl, h4⟩; replace H : Aside (St w w4 (Rn x 0 0 a d p gD gC s 15 false M lv (.slice none 0 0) mp0.X [] 0)) := Aside.mk (h4.order 5 [1, 2, 3, 4, 0] rfl rfl); clear h4; rw [HSW.out, HEM.out])
      | (go_at_call 115; refine (sfreed_ (H.out.pick 4 rfl)).mono ?_; rintro e w4 ⟨rfl, h4⟩; replace H : Aside (St w w4 (Rn x 0 0 a d p gD gC s 15 false M lv (.slice none 0 0) mp0.X [] 0)) := Aside.mk (h4.order 5 [1, 2, 3, 4, 0] rfl rfl); clear h4; rw [HSW.out, HFR.out, if_pos rfl]))
    go_ret
    exact ⟨rfl, H.out.below⟩
end Go.Proofs.YtelfiegocdjnoaaDoor.Ar
