/- A table of classes as facts on cells: known, Fits, IsRef. They make memory only. Condition: the table's cells lie there. -/
import Derived.Test.YtelfiegocdjnoaaDoorLk1
import Derived.Test.YtelfiegocdjnoaaDoorMrF0
namespace Go.Proofs.YtelfiegocdjnoaaDoor.Ar
open Go Go.RowKit Go.Proofs.YtelfiegocdjnoaaDoor.Sep Go.Proofs.YtelfiegocdjnoaaDoorW.PrintWords Go.Proofs.YtelfiegocdjnoaaDoorW.PrintLast Go.Proofs.YtelfiegocdjnoaaDoorW.PrintMore Go.Proofs.YtelfiegocdjnoaaDoor.Q
set_option linter.unusedVariables false
set_option linter.unusedSimpArgs false
set_option maxHeartbeats 8000000
set_option maxRecDepth 100000
/-- The table's cells: of each class how many fields it has; its word. -/
structure TbC (w : World) (t : Nat) (A : Option Addr) (cap : Nat) (ns : List Nat) (B : Option Addr) (cap2 : Nat) (ms : List Nat) : Prop where
  l : w.cell? ⟨t, 0, none⟩ = some (.slice A ns.length cap)
  m : w.cell? ⟨t, 1, none⟩ = some (.slice B ns.length cap2)
  e : ∀ i, i < ns.length → ∃ ad cA cc, A = some ad ∧ w.cell? ⟨(ad.add (i * 2)).block, (ad.add (i * 2)).off + 1, none⟩ = some (.slice cA (ns.getD i 0) cc)
  f : ∀ i, i < ns.length → ∃ ad, B = some ad ∧ w.cell? (ad.add i) = some (.int .u64 ((ms.getD i 0 : Nat) : Int))
theorem TbC.below {w w' : World} {t : Nat} {A B : Option Addr} {cap cap2 : Nat} {ns ms : List Nat} (h : TbC w t A cap ns B cap2 ms) (hb : Below w.heap.size w w') : TbC w' t A cap ns B cap2 ms :=
  ⟨pw_cell_below hb h.l, pw_cell_below hb h.m, fun i hi => let ⟨ad, cA, cc, e, hc⟩ := h.e i hi; ⟨ad, cA, cc, e, pw_cell_below hb hc⟩, fun i hi => let ⟨ad, e, hc⟩ := h.f i hi; ⟨ad, e, pw_cell_below hb hc⟩⟩
variable {w : World} {t : Nat} {A B : Option Addr} {cap cap2 : Nat} {ns ms : List Nat}
theorem known_c {c : Int} (x0 : w.cell? ⟨t, 0, none⟩ = some (.slice A ns.length cap)) : Calls Tryd.prog 140 #[.pointer (some ⟨t, 0, none⟩), .int .i64 c] w fun e w' => e = .returned (.bool (decide (0 ≤ c) && decide (c < (ns.length : Int)))) ∧ w' = w := by
  generalize ns.length = m at *
  by_cases h0 : 0 ≤ c
  · have d0 : decide (0 ≤ c) = true := by simp; exact h0
    by_cases h1 : c < (m : Int)
    · have d1 : decide (c < (m : Int)) = true := by simp; exact h1
      rw [d0, d1]
      go_enter Tryd.func140, Tryd.ntmps140
      go_wp2
      go_ret
      exact ⟨rfl, rfl⟩
    · have d1 : decide (c < (m : Int)) = false := by simp; omega
      rw [d0, d1]
      go_enter Tryd.func140, Tryd.ntmps140
      go_wp2
      go_ret
      exact ⟨rfl, rfl⟩
  · have d0 : decide (0 ≤ c) = false := by simp; omega
    rw [d0, Bool.false_and]
    go_enter Tryd.func140, Tryd.ntmps140
    go_wp2
    go_ret
    exact ⟨rfl, rfl⟩
def fc3.T3 : Bool × List (List Nat × List Nat) := (true, [([], []), ([0], [0]), ([1], [1]), ([2], [2]), ([3], [3]), ([3], [3]), ([5, 3], [3, 5]), ([4, 6, 3, 3], [3, 4, 6]), ([7, 7, 3], [3, 7]), ([8], [8]), ([9, 8], [8, 9]), ([8], [8]), ([11, 8], [8, 11]), ([12, 8], [8, 12]), ([13, 8], [8, 13]), ([8], [8]), ([15, 8], [8, 15]), ([14, 16, 8], [8, 14, 16]), ([17, 8], [8, 17]), ([18, 8], [8, 18]), ([19, 8], [8, 19]), ([10, 20, 8], [8, 10, 20]), ([8, 21, 3], [3, 8, 21]), ([3, 22], [3, 22]), ([23, 8, 0, 1, 2, 3, 4, 5, 6, 7, 8, 9, 10, 11, 12, 13, 14, 15, 16, 17, 18, 19, 20, 21, 22, 23], [23])])
def fc3.B3 : List Nat := [0, 1, 3, 7, 15, 15, 47, 127, 255, 511, 1023, 511, 2559, 6655, 14847, 511, 33279, 129535, 260607, 522751, 1047039, 2097151, 4194303, 8388607, 16777215]
theorem fc3.tab3 : rtab .any (opsOf Tryd.f83 3) = fc3.T3 := by kernel_rfl
theorem fc3.bits3 : waitsOk fc3.T3.2 fc3.B3 = true := by kernel_rfl
def fc4.T4 : Bool × List (List Nat × List Nat) := (true, [([], []), ([0], [0]), ([1], [1]), ([2], [2]), ([], []), ([4], [4]), ([3, 5], [3, 5]), ([6], [6]), ([], []), ([7, 8], [7, 8]), ([9], [9]), ([10], [10]), ([11, 0, 1, 2, 3, 4, 5, 6, 7, 8, 9, 10, 11], [11])])
def fc4.B4 : List Nat := [0, 1, 3, 7, 0, 16, 63, 127, 0, 511, 1023, 2047, 4095]
theorem fc4.tab4 : rtab .any (opsOf Tryd.f167 4) = fc4.T4 := by kernel_rfl
theorem fc4.bits4 : waitsOk fc4.T4.2 fc4.B4 = true := by kernel_rfl
theorem fits_c2 {c k n : Int} (h : TbC w t A cap ns B cap2 ms) : Calls Tryd.prog 83 #[.pointer (some ⟨t, 0, none⟩), .agg #[.int .i64 c, .int .i64 k, .int .i64 n]] w fun e w' => e = .returned (.bool (fitT ns c k n)) ∧ Below w.heap.size w w' := by
  have HW := Aside.mk (hwords_ 1 c k n)
  have H : Aside (St w _ [blk w.heap.size #[.int .i64 c, .int .i64 k, .int .i64 n] 43]) := Aside.mk ((St.start w).alloc #[.int .i64 c, .int .i64 k, .int .i64 n] 43)
  unfold fitT
  by_cases hh : isH c k n = true
  case neg =>
    rw [show hwI c k n = 0 by unfold hwI; rw [if_neg hh]] at HW
    rw [show isH c k n = false by simpa using hh, Bool.false_and]
    clear h hh
    go_enter Tryd.func83, Tryd.ntmps83
    go_wp2_with (go_at_call 131; refine (header_Head_Words.calls _ _ _ _ _ _ HW.out).mono ?_; rintro e w1 ⟨rfl, hb⟩; replace H := Aside.mk (H.out.step hb); clear hb; have z0 := H.out.cell 0; have z1 := H.out.cell 1; have z2 := H.out.cell 2)
    go_ret
    exact ⟨rfl, H.out.below⟩
  case pos =>
  have hn : 0 ≤ n ∧ n ≤ 255 := by simp only [isH, decide_eq_true_eq] at hh; omega
  obtain ⟨v, hv, hv0⟩ : ∃ v : Int, hwI c k n = v ∧ v ≠ 0 := ⟨_, rfl, by unfold hwI; rw [if_pos hh]; omega⟩
  rw [hv] at HW
  rw [hh, Bool.true_and]
  have bv : (v == 0) = false := by simp; exact hv0
  clear hv
  by_cases hk : k = 1
  case neg =>
    have dk : decide (k ≠ 1) = true := by simp; exact hk
    have bk : (k != 1) = true := by simp; exact hk
    rw [dk, Bool.true_or]
    clear h hh hn dk
    go_enter Tryd.func83, Tryd.ntmps83
    go_wp2_with (go_at_call 131; refine (header_Head_Words.calls _ _ _ _ _ _ HW.out).mono ?_; rintro e w1 ⟨rfl, hb⟩; replace H := Aside.mk (H.out.step hb); clear hb; have z0 := H.out.cell 0; have z1 := H.out.cell 1; have z2 := H.out.cell 2)
    replace H := Aside.mk H.out.drew
    refine start_ (n := 25) (S := fun w' => w'.cell? ⟨w.heap.size, 0, none⟩ = some (.int .i64 c) ∧ w'.cell? ⟨w.heap.size, 1, none⟩ = some (.int .i64 k) ∧ w'.cell? ⟨w.heap.size, 2, none⟩ = some (.int .i64 n)) (ds := []) (flg 25 0) (by kernel_rfl) rfl rfl (⟨H.out.cell 0, H.out.cell 1, H.out.cell 2⟩) (fun hHeld => ?_)
    refine with_tabW fc3.tab3 fc3.bits3 (fun HT_ HW_ => ?_)
    refine pu_ (v := ?_) (a' := ?_) 0 (some 8) 1 rfl rfl HT_ (by kernel_rfl) (.inl ⟨by rfl, ?_⟩) ?_ ?_; rotate_left 2; (· intro w'; go_simp; with_reducible rfl); (· simp only [nrm]; rfl)
    refine tk_ (v := ?_) (a' := ?_) 1 (some 9) 3 rfl rfl HT_ HW_ (by kernel_rfl) (.inl ⟨by rfl, ?_⟩) hHeld ?_ ?_; rotate_left 2; (· rintro w' ⟨_, _, _⟩; go_simp; with_reducible rfl); (· simp only [nrm]; rfl)
    refine pu_ (v := ?_) (a' := ?_) 2 (some 10) 7 rfl rfl HT_ (by kernel_rfl) (.inl ⟨by rfl, ?_⟩) ?_ ?_; rotate_left 2; (· intro w'; go_simp; with_reducible rfl); (· simp only [nrm]; rfl)
    refine pu_ (v := ?_) (a' := ?_) 3 (some 11) 15 rfl rfl HT_ (by kernel_rfl) (.inl ⟨by rfl, ?_⟩) ?_ ?_; rotate_left 2; (· intro w'; go_simp; with_reducible rfl); (· simp only [nrm]; rfl)
    refine pure_ (i := 4) (N := some 12) (v := undef) (a' := ?_) (flg 25 31) rfl rfl (any_of HT_.out (by kernel_rfl)) (fun _ _ _ h => h) (Or.inr ⟨by rfl, rfl⟩) ?_ ?_
    rotate_left
    · simp only [nrm]
      rfl
    refine pure_ (i := 5) (N := some 13) (v := undef) (a' := ?_) (flg 25 63) rfl rfl (any_of HT_.out (by kernel_rfl)) (fun _ _ _ h => h) (Or.inr ⟨by rfl, rfl⟩) ?_ ?_
    rotate_left
    · simp only [nrm]
      rfl
    refine pure_ (i := 6) (N := some 14) (v := undef) (a' := ?_) (flg 25 127) rfl rfl (any_of HT_.out (by kernel_rfl)) (fun _ _ _ h => h) (Or.inr ⟨by rfl, rfl⟩) ?_ ?_
    rotate_left
    · simp only [nrm]
      rfl
    refine pure_ (i := 7) (N := some 15) (v := undef) (a' := ?_) (flg 25 255) rfl rfl (any_of HT_.out (by kernel_rfl)) (fun _ _ _ h => h) (Or.inr ⟨by rfl, rfl⟩) ?_ ?_
    rotate_left
    · simp only [nrm]
      rfl
    refine pure_ (i := 8) (N := some 16) (v := undef) (a' := ?_) (flg 25 511) rfl rfl (any_of HT_.out (by kernel_rfl)) (fun _ _ _ h => h) (Or.inr ⟨by rfl, rfl⟩) ?_ ?_
    rotate_left
    · simp only [nrm]
      rfl
    refine pure_ (i := 9) (N := some 17) (v := undef) (a' := ?_) (flg 25 1023) rfl rfl (any_of HT_.out (by kernel_rfl)) (fun _ _ _ h => h) (Or.inr ⟨by rfl, rfl⟩) ?_ ?_
    rotate_left
    · simp only [nrm]
      rfl
    refine pure_ (i := 10) (N := some 18) (v := undef) (a' := ?_) (flg 25 2047) rfl rfl (any_of HT_.out (by kernel_rfl)) (fun _ _ _ h => h) (Or.inr ⟨by rfl, rfl⟩) ?_ ?_
    rotate_left
    · simp only [nrm]
      rfl
    refine pure_ (i := 11) (N := some 19) (v := undef) (a' := ?_) (flg 25 4095) rfl rfl (any_of HT_.out (by kernel_rfl)) (fun _ _ _ h => h) (Or.inr ⟨by rfl, rfl⟩) ?_ ?_
    rotate_left
    · simp only [nrm]
      rfl
    refine pure_ (i := 12) (N := some 20) (v := undef) (a' := ?_) (flg 25 8191) rfl rfl (any_of HT_.out (by kernel_rfl)) (fun _ _ _ h => h) (Or.inr ⟨by rfl, rfl⟩) ?_ ?_
    rotate_left
    · simp only [nrm]
      rfl
    refine pure_ (i := 13) (N := some 21) (v := undef) (a' := ?_) (flg 25 16383) rfl rfl (any_of HT_.out (by kernel_rfl)) (fun _ _ _ h => h) (Or.inr ⟨by rfl, rfl⟩) ?_ ?_
    rotate_left
    · simp only [nrm]
      rfl
    refine pure_ (i := 14) (N := some 22) (v := undef) (a' := ?_) (flg 25 32767) rfl rfl (any_of HT_.out (by kernel_rfl)) (fun _ _ _ h => h) (Or.inr ⟨by rfl, rfl⟩) ?_ ?_
    rotate_left
    · simp only [nrm]
      rfl
    refine pure_ (i := 15) (N := some 23) (v := undef) (a' := ?_) (flg 25 65535) rfl rfl (any_of HT_.out (by kernel_rfl)) (fun _ _ _ h => h) (Or.inr ⟨by rfl, rfl⟩) ?_ ?_
    rotate_left
    · simp only [nrm]
      rfl
    refine pure_ (i := 16) (N := some 24) (v := undef) (a' := ?_) (flg 25 131071) rfl rfl (any_of HT_.out (by kernel_rfl)) (fun _ _ _ h => h) (Or.inr ⟨by rfl, rfl⟩) ?_ ?_
    rotate_left
    · simp only [nrm]
      rfl
    refine pure_ (i := 17) (N := some 25) (v := undef) (a' := ?_) (flg 25 262143) rfl rfl (any_of HT_.out (by kernel_rfl)) (fun _ _ _ h => h) (Or.inr ⟨by rfl, rfl⟩) ?_ ?_
    rotate_left
    · simp only [nrm]
      rfl
    refine pure_ (i := 18) (N := some 26) (v := undef) (a' := ?_) (flg 25 524287) rfl rfl (any_of HT_.out (by kernel_rfl)) (fun _ _ _ h => h) (Or.inr ⟨by rfl, rfl⟩) ?_ ?_
    rotate_left
    · simp only [nrm]
      rfl
    refine pure_ (i := 19) (N := some 27) (v := undef) (a' := ?_) (flg 25 1048575) rfl rfl (any_of HT_.out (by kernel_rfl)) (fun _ _ _ h => h) (Or.inr ⟨by rfl, rfl⟩) ?_ ?_
    rotate_left
    · simp only [nrm]
      rfl
    refine pure_ (i := 20) (N := some 28) (v := undef) (a' := ?_) (flg 25 2097151) rfl rfl (any_of HT_.out (by kernel_rfl)) (fun _ _ _ h => h) (Or.inr ⟨by rfl, rfl⟩) ?_ ?_
    rotate_left
    · simp only [nrm]
      rfl
    refine pure_ (i := 21) (N := some 29) (v := undef) (a' := ?_) (flg 25 4194303) rfl rfl (any_of HT_.out (by kernel_rfl)) (fun _ _ _ h => h) (Or.inr ⟨by rfl, rfl⟩) ?_ ?_
    rotate_left
    · simp only [nrm]
      rfl
    refine pure_ (i := 22) (N := some 30) (v := undef) (a' := ?_) (flg 25 8388607) rfl rfl (any_of HT_.out (by kernel_rfl)) (fun _ _ _ h => h) (Or.inr ⟨by rfl, rfl⟩) ?_ ?_
    rotate_left
    · simp only [nrm]
      rfl
    refine pu_ (v := ?_) (a' := ?_) 23 (some 31) 16777215 rfl rfl HT_ (by kernel_rfl) (.inl ⟨by rfl, ?_⟩) ?_ ?_; rotate_left 2; (· intro w'; go_simp; with_reducible rfl); (· simp only [nrm]; rfl)
    refine pu_ (v := ?_) (a' := ?_) 24 (some 4) 33554431 rfl rfl HT_ (by kernel_rfl) (.inl ⟨by rfl, ?_⟩) ?_ ?_; rotate_left 2; (· intro w'; go_simp; with_reducible rfl); (· simp only [nrm]; rfl)
    refine done_ (done_of HT_.out (by kernel_rfl)) ?_
    clear HT_ HW_ hHeld
    go_wp2
    go_ret
    exact ⟨rfl, H.out.below⟩
  case pos =>
  subst hk
  obtain ⟨cN, rfl⟩ : ∃ cN : Nat, c = cN := ⟨c.toNat, by simp only [isH, decide_eq_true_eq] at hh; omega⟩
  rw [show decide ((1 : Int) ≠ 1) = false by simp, Bool.false_or]
  have HT0 := Aside.mk h.l
  have HK := Aside.mk (fun (w1 : World) (h : w1.cell? ⟨t, 0, none⟩ = some (.slice A ns.length cap)) => known_c (c := (cN : Int)) h)
  rw [show decide ((0 : Int) ≤ (cN : Int)) = true by simp, Bool.true_and] at HK
  by_cases hc : cN < ns.length
  case neg =>
    have dc : decide ((cN : Int) < (ns.length : Int)) = false := by simp; omega
    rw [dc] at HK
    rw [dc, Bool.false_and]
    generalize ns.length = m at HT0 HK
    clear h hh hn dc hc
    go_enter Tryd.func83, Tryd.ntmps83
    go_wp2_with (go_at_call 131; refine (header_Head_Words.calls _ _ _ _ _ _ HW.out).mono ?_; rintro e w1 ⟨rfl, hb⟩; replace H := Aside.mk (H.out.step hb); clear hb; have z0 := H.out.cell 0; have z1 := H.out.cell 1; have z2 := H.out.cell 2)
    replace H := Aside.mk H.out.drew
    refine start_ (n := 25) (S := fun w' => w'.cell? ⟨w.heap.size, 0, none⟩ = some (.int .i64 cN) ∧ w'.cell? ⟨w.heap.size, 1, none⟩ = some (.int .i64 1) ∧ w'.cell? ⟨w.heap.size, 2, none⟩ = some (.int .i64 n) ∧ w'.cell? ⟨t, 0, none⟩ = some (.slice A m cap)) (ds := []) (flg 25 0) (by kernel_rfl) rfl rfl (⟨H.out.cell 0, H.out.cell 1, H.out.cell 2, pw_cell_below H.out.below HT0.out⟩) (fun hHeld => ?_)
    refine with_tabW fc3.tab3 fc3.bits3 (fun HT_ HW_ => ?_)
    refine pu_ (v := ?_) (a' := ?_) 0 (some 8) 1 rfl rfl HT_ (by kernel_rfl) (.inl ⟨by rfl, ?_⟩) ?_ ?_; rotate_left 2; (· intro w'; go_simp; with_reducible rfl); (· simp only [nrm]; rfl)
    refine tk_ (v := ?_) (a' := ?_) 1 (some 9) 3 rfl rfl HT_ HW_ (by kernel_rfl) (.inl ⟨by rfl, ?_⟩) hHeld ?_ ?_; rotate_left 2; (· rintro w' ⟨_, _, _, _⟩; go_simp; with_reducible rfl); (· simp only [nrm]; rfl)
    refine pu_ (v := ?_) (a' := ?_) 2 (some 10) 7 rfl rfl HT_ (by kernel_rfl) (.inl ⟨by rfl, ?_⟩) ?_ ?_; rotate_left 2; (· intro w'; go_simp; with_reducible rfl); (· simp only [nrm]; rfl)
    refine pu_ (v := ?_) (a' := ?_) 3 (some 11) 15 rfl rfl HT_ (by kernel_rfl) (.inl ⟨by rfl, ?_⟩) ?_ ?_; rotate_left 2; (· intro w'; go_simp; with_reducible rfl); (· simp only [nrm]; rfl)
    refine pu_ (v := ?_) (a' := ?_) 4 (some 12) 31 rfl rfl HT_ (by kernel_rfl) (.inl ⟨by rfl, ?_⟩) ?_ ?_; rotate_left 2; (· intro w'; go_simp; with_reducible rfl); (· simp only [nrm]; rfl)
    refine pu_ (v := ?_) (a' := ?_) 5 (some 13) 63 rfl rfl HT_ (by kernel_rfl) (.inl ⟨by rfl, ?_⟩) ?_ ?_; rotate_left 2; (· intro w'; go_simp; with_reducible rfl); (· simp only [nrm]; rfl)
    refine tk_ (v := ?_) (a' := ?_) 6 (some 14) 127 rfl rfl HT_ HW_ (by kernel_rfl) (.inl ⟨by rfl, ?_⟩) hHeld ?_ ?_; rotate_left 2; (· rintro w' ⟨_, _, _, _⟩; go_simp; with_reducible rfl); (· simp only [nrm]; rfl)
    refine on_ 7 (some 15) 255 rfl rfl HT_ (by kernel_rfl) (by decide) (fun K hK => ?_)
    refine goes_ Tryd.func140 (by kernel_rfl) rfl #[.pointer (some ⟨t, 0, none⟩), .int .i64 cN] (by rfl) rfl rfl (by (try simp only [List.map_toArray, List.map_cons, List.map_nil]); first | done | rfl) ?_
    refine (HK.out _ (pw_cell_below H.out.below HT0.out)).mono ?_
    rintro e w2 ⟨rfl, rfl⟩
    refine ⟨_, rfl, ?_⟩
    clear hHeld
    refine hK.out _ _ ⟨H.out.cell 0, H.out.cell 1, H.out.cell 2, pw_cell_below H.out.below HT0.out⟩ (fun hHeld => ?_)
    clear hK K
    refine norm_ (a' := ?_) ?_ ?_
    rotate_left
    · show Act.put _ (some 15) _ = _
      simp only [nrm]
      rfl
    refine pu_ (v := ?_) (a' := ?_) 8 (some 16) 511 rfl rfl HT_ (by kernel_rfl) (.inl ⟨by rfl, ?_⟩) ?_ ?_; rotate_left 2; (· intro w'; go_simp; with_reducible rfl); (· simp only [nrm]; rfl)
    refine pure_ (i := 9) (N := some 17) (v := undef) (a' := ?_) (flg 25 1023) rfl rfl (any_of HT_.out (by kernel_rfl)) (fun _ _ _ h => h) (Or.inr ⟨by rfl, rfl⟩) ?_ ?_
    rotate_left
    · simp only [nrm]
      rfl
    refine pure_ (i := 10) (N := some 18) (v := undef) (a' := ?_) (flg 25 2047) rfl rfl (any_of HT_.out (by kernel_rfl)) (fun _ _ _ h => h) (Or.inr ⟨by rfl, rfl⟩) ?_ ?_
    rotate_left
    · simp only [nrm]
      rfl
    refine pure_ (i := 11) (N := some 19) (v := undef) (a' := ?_) (flg 25 4095) rfl rfl (any_of HT_.out (by kernel_rfl)) (fun _ _ _ h => h) (Or.inr ⟨by rfl, rfl⟩) ?_ ?_
    rotate_left
    · simp only [nrm]
      rfl
    refine pure_ (i := 12) (N := some 20) (v := undef) (a' := ?_) (flg 25 8191) rfl rfl (any_of HT_.out (by kernel_rfl)) (fun _ _ _ h => h) (Or.inr ⟨by rfl, rfl⟩) ?_ ?_
    rotate_left
    · simp only [nrm]
      rfl
    refine pure_ (i := 13) (N := some 21) (v := undef) (a' := ?_) (flg 25 16383) rfl rfl (any_of HT_.out (by kernel_rfl)) (fun _ _ _ h => h) (Or.inr ⟨by rfl, rfl⟩) ?_ ?_
    rotate_left
    · simp only [nrm]
      rfl
    refine pure_ (i := 14) (N := some 22) (v := undef) (a' := ?_) (flg 25 32767) rfl rfl (any_of HT_.out (by kernel_rfl)) (fun _ _ _ h => h) (Or.inr ⟨by rfl, rfl⟩) ?_ ?_
    rotate_left
    · simp only [nrm]
      rfl
    refine pure_ (i := 15) (N := some 23) (v := undef) (a' := ?_) (flg 25 65535) rfl rfl (any_of HT_.out (by kernel_rfl)) (fun _ _ _ h => h) (Or.inr ⟨by rfl, rfl⟩) ?_ ?_
    rotate_left
    · simp only [nrm]
      rfl
    refine pure_ (i := 16) (N := some 24) (v := undef) (a' := ?_) (flg 25 131071) rfl rfl (any_of HT_.out (by kernel_rfl)) (fun _ _ _ h => h) (Or.inr ⟨by rfl, rfl⟩) ?_ ?_
    rotate_left
    · simp only [nrm]
      rfl
    refine pure_ (i := 17) (N := some 25) (v := undef) (a' := ?_) (flg 25 262143) rfl rfl (any_of HT_.out (by kernel_rfl)) (fun _ _ _ h => h) (Or.inr ⟨by rfl, rfl⟩) ?_ ?_
    rotate_left
    · simp only [nrm]
      rfl
    refine pure_ (i := 18) (N := some 26) (v := undef) (a' := ?_) (flg 25 524287) rfl rfl (any_of HT_.out (by kernel_rfl)) (fun _ _ _ h => h) (Or.inr ⟨by rfl, rfl⟩) ?_ ?_
    rotate_left
    · simp only [nrm]
      rfl
    refine pure_ (i := 19) (N := some 27) (v := undef) (a' := ?_) (flg 25 1048575) rfl rfl (any_of HT_.out (by kernel_rfl)) (fun _ _ _ h => h) (Or.inr ⟨by rfl, rfl⟩) ?_ ?_
    rotate_left
    · simp only [nrm]
      rfl
    refine pure_ (i := 20) (N := some 28) (v := undef) (a' := ?_) (flg 25 2097151) rfl rfl (any_of HT_.out (by kernel_rfl)) (fun _ _ _ h => h) (Or.inr ⟨by rfl, rfl⟩) ?_ ?_
    rotate_left
    · simp only [nrm]
      rfl
    refine pure_ (i := 21) (N := some 29) (v := undef) (a' := ?_) (flg 25 4194303) rfl rfl (any_of HT_.out (by kernel_rfl)) (fun _ _ _ h => h) (Or.inr ⟨by rfl, rfl⟩) ?_ ?_
    rotate_left
    · simp only [nrm]
      rfl
    refine pu_ (v := ?_) (a' := ?_) 22 (some 30) 8388607 rfl rfl HT_ (by kernel_rfl) (.inl ⟨by rfl, ?_⟩) ?_ ?_; rotate_left 2; (· intro w'; go_simp; with_reducible rfl); (· simp only [nrm]; rfl)
    refine pu_ (v := ?_) (a' := ?_) 23 (some 31) 16777215 rfl rfl HT_ (by kernel_rfl) (.inl ⟨by rfl, ?_⟩) ?_ ?_; rotate_left 2; (· intro w'; go_simp; with_reducible rfl); (· simp only [nrm]; rfl)
    refine pu_ (v := ?_) (a' := ?_) 24 (some 4) 33554431 rfl rfl HT_ (by kernel_rfl) (.inl ⟨by rfl, ?_⟩) ?_ ?_; rotate_left 2; (· intro w'; go_simp; with_reducible rfl); (· simp only [nrm]; rfl)
    refine done_ (done_of HT_.out (by kernel_rfl)) ?_
    clear HT_ HW_ hHeld
    go_wp2
    go_ret
    exact ⟨rfl, H.out.below⟩
  case pos =>
    have dc : decide ((cN : Int) < (ns.length : Int)) = true := by simp; omega
    have nc : (cN : Int) < (ns.length : Int) := by omega
    rw [dc] at HK
    rw [dc, Bool.true_and]
    obtain ⟨ad, cA, cc, rfl, hC⟩ := h.e cN hc
    have hm : ns.getD (cN : Int).toNat 0 = ns.getD cN 0 := by rw [Int.toNat_natCast]
    rw [hm]
    generalize ns.getD cN 0 = cn at hC ⊢
    have HC := Aside.mk hC
    generalize ns.length = m at HT0 HK nc
    clear h hh hn hc hm hC dc
    by_cases hnn : n = (cn : Int)
    · have bn : (n == (cn : Int)) = true := by simp; exact hnn
      rw [show decide (n = (cn : Int)) = true by simp; exact hnn]
      clear hnn
      go_enter Tryd.func83, Tryd.ntmps83
      go_wp2_with (go_at_call 131; refine (header_Head_Words.calls _ _ _ _ _ _ HW.out).mono ?_; rintro e w1 ⟨rfl, hb⟩; replace H := Aside.mk (H.out.step hb); clear hb; have z0 := H.out.cell 0; have z1 := H.out.cell 1; have z2 := H.out.cell 2)
      replace H := Aside.mk H.out.drew
      refine start_ (n := 25) (S := fun w' => w'.cell? ⟨w.heap.size, 0, none⟩ = some (.int .i64 cN) ∧ w'.cell? ⟨w.heap.size, 1, none⟩ = some (.int .i64 1) ∧ w'.cell? ⟨w.heap.size, 2, none⟩ = some (.int .i64 n) ∧ w'.cell? ⟨t, 0, none⟩ = some (.slice (some ad) m cap) ∧ w'.cell? ⟨(ad.add (cN * 2)).block, (ad.add (cN * 2)).off + 1, none⟩ = some (.slice cA cn cc)) (ds := []) (flg 25 0) (by kernel_rfl) rfl rfl (⟨H.out.cell 0, H.out.cell 1, H.out.cell 2, pw_cell_below H.out.below HT0.out, pw_cell_below H.out.below HC.out⟩) (fun hHeld => ?_)
      refine with_tabW fc3.tab3 fc3.bits3 (fun HT_ HW_ => ?_)
      refine pu_ (v := ?_) (a' := ?_) 0 (some 8) 1 rfl rfl HT_ (by kernel_rfl) (.inl ⟨by rfl, ?_⟩) ?_ ?_; rotate_left 2; (· intro w'; go_simp; with_reducible rfl); (· simp only [nrm]; rfl)
      refine tk_ (v := ?_) (a' := ?_) 1 (some 9) 3 rfl rfl HT_ HW_ (by kernel_rfl) (.inl ⟨by rfl, ?_⟩) hHeld ?_ ?_; rotate_left 2; (· rintro w' ⟨_, _, _, _, _⟩; go_simp; with_reducible rfl); (· simp only [nrm]; rfl)
      refine pu_ (v := ?_) (a' := ?_) 2 (some 10) 7 rfl rfl HT_ (by kernel_rfl) (.inl ⟨by rfl, ?_⟩) ?_ ?_; rotate_left 2; (· intro w'; go_simp; with_reducible rfl); (· simp only [nrm]; rfl)
      refine pu_ (v := ?_) (a' := ?_) 3 (some 11) 15 rfl rfl HT_ (by kernel_rfl) (.inl ⟨by rfl, ?_⟩) ?_ ?_; rotate_left 2; (· intro w'; go_simp; with_reducible rfl); (· simp only [nrm]; rfl)
      refine pu_ (v := ?_) (a' := ?_) 4 (some 12) 31 rfl rfl HT_ (by kernel_rfl) (.inl ⟨by rfl, ?_⟩) ?_ ?_; rotate_left 2; (· intro w'; go_simp; with_reducible rfl); (· simp only [nrm]; rfl)
      refine pu_ (v := ?_) (a' := ?_) 5 (some 13) 63 rfl rfl HT_ (by kernel_rfl) (.inl ⟨by rfl, ?_⟩) ?_ ?_; rotate_left 2; (· intro w'; go_simp; with_reducible rfl); (· simp only [nrm]; rfl)
      refine tk_ (v := ?_) (a' := ?_) 6 (some 14) 127 rfl rfl HT_ HW_ (by kernel_rfl) (.inl ⟨by rfl, ?_⟩) hHeld ?_ ?_; rotate_left 2; (· rintro w' ⟨_, _, _, _, _⟩; go_simp; with_reducible rfl); (· simp only [nrm]; rfl)
      refine on_ 7 (some 15) 255 rfl rfl HT_ (by kernel_rfl) (by decide) (fun K hK => ?_)
      refine goes_ Tryd.func140 (by kernel_rfl) rfl #[.pointer (some ⟨t, 0, none⟩), .int .i64 cN] (by rfl) rfl rfl (by (try simp only [List.map_toArray, List.map_cons, List.map_nil]); first | done | rfl) ?_
      refine (HK.out _ (pw_cell_below H.out.below HT0.out)).mono ?_
      rintro e w2 ⟨rfl, rfl⟩
      refine ⟨_, rfl, ?_⟩
      clear hHeld
      refine hK.out _ _ ⟨H.out.cell 0, H.out.cell 1, H.out.cell 2, pw_cell_below H.out.below HT0.out, pw_cell_below H.out.below HC.out⟩ (fun hHeld => ?_)
      clear hK K
      refine norm_ (a' := ?_) ?_ ?_
      rotate_left
      · show Act.put _ (some 15) _ = _
        simp only [nrm]
        rfl
      refine pu_ (v := ?_) (a' := ?_) 8 (some 16) 511 rfl rfl HT_ (by kernel_rfl) (.inl ⟨by rfl, ?_⟩) ?_ ?_; rotate_left 2; (· intro w'; go_simp; with_reducible rfl); (· simp only [nrm]; rfl)
      refine pu_ (v := ?_) (a' := ?_) 9 (some 17) 1023 rfl rfl HT_ (by kernel_rfl) (.inl ⟨by rfl, ?_⟩) ?_ ?_; rotate_left 2; (· intro w'; go_simp; with_reducible rfl); (· simp only [nrm]; rfl)
      refine tk_ (v := ?_) (a' := ?_) 10 (some 18) 2047 rfl rfl HT_ HW_ (by kernel_rfl) (.inl ⟨by rfl, ?_⟩) hHeld ?_ ?_; rotate_left 2; (· rintro w' ⟨_, _, _, _, _⟩; go_simp; with_reducible rfl); (· simp only [nrm]; rfl)
      refine pu_ (v := ?_) (a' := ?_) 11 (some 19) 4095 rfl rfl HT_ (by kernel_rfl) (.inl ⟨by rfl, ?_⟩) ?_ ?_; rotate_left 2; (· intro w'; go_simp; with_reducible rfl); (· simp only [nrm]; rfl)
      refine pu_ (v := ?_) (a' := ?_) 12 (some 20) 8191 rfl rfl HT_ (by kernel_rfl) (.inl ⟨by rfl, ?_⟩) ?_ ?_; rotate_left 2; (· intro w'; go_simp; with_reducible rfl); (· simp only [nrm]; rfl)
      refine pu_ (v := ?_) (a' := ?_) 13 (some 21) 16383 rfl rfl HT_ (by kernel_rfl) (.inl ⟨by rfl, ?_⟩) ?_ ?_; rotate_left 2; (· intro w'; go_simp; with_reducible rfl); (· simp only [nrm]; rfl)
      refine tk_ (v := ?_) (a' := ?_) 14 (some 22) 32767 rfl rfl HT_ HW_ (by kernel_rfl) (.inl ⟨by rfl, ?_⟩) hHeld ?_ ?_; rotate_left 2; (· rintro w' ⟨_, _, _, _, _⟩; go_simp; with_reducible rfl); (· simp only [nrm]; rfl)
      refine pu_ (v := ?_) (a' := ?_) 15 (some 23) 65535 rfl rfl HT_ (by kernel_rfl) (.inl ⟨by rfl, ?_⟩) ?_ ?_; rotate_left 2; (· intro w'; go_simp; with_reducible rfl); (· simp only [nrm]; rfl)
      refine tk_ (v := ?_) (a' := ?_) 16 (some 24) 131071 rfl rfl HT_ HW_ (by kernel_rfl) (.inl ⟨by rfl, ?_⟩) hHeld ?_ ?_; rotate_left 2; (· rintro w' ⟨_, _, _, _, _⟩; go_simp; with_reducible rfl); (· simp only [nrm]; rfl)
      refine pu_ (v := ?_) (a' := ?_) 17 (some 25) 262143 rfl rfl HT_ (by kernel_rfl) (.inl ⟨by rfl, ?_⟩) ?_ ?_; rotate_left 2; (· intro w'; go_simp; with_reducible rfl); (· simp only [nrm]; rfl)
      refine pu_ (v := ?_) (a' := ?_) 18 (some 26) 524287 rfl rfl HT_ (by kernel_rfl) (.inl ⟨by rfl, ?_⟩) ?_ ?_; rotate_left 2; (· intro w'; go_simp; with_reducible rfl); (· simp only [nrm]; rfl)
      refine tk_ (v := ?_) (a' := ?_) 19 (some 27) 1048575 rfl rfl HT_ HW_ (by kernel_rfl) (.inl ⟨by rfl, ?_⟩) hHeld ?_ ?_; rotate_left 2; (· rintro w' ⟨_, _, _, _, _⟩; go_simp; with_reducible rfl); (· simp only [nrm]; rfl)
      refine pu_ (v := ?_) (a' := ?_) 20 (some 28) 2097151 rfl rfl HT_ (by kernel_rfl) (.inl ⟨by rfl, ?_⟩) ?_ ?_; rotate_left 2; (· intro w'; go_simp; with_reducible rfl); (· simp only [nrm]; rfl)
      refine pu_ (v := ?_) (a' := ?_) 21 (some 29) 4194303 rfl rfl HT_ (by kernel_rfl) (.inl ⟨by rfl, ?_⟩) ?_ ?_; rotate_left 2; (· intro w'; go_simp; with_reducible rfl); (· simp only [nrm]; rfl)
      refine pu_ (v := ?_) (a' := ?_) 22 (some 30) 8388607 rfl rfl HT_ (by kernel_rfl) (.inl ⟨by rfl, ?_⟩) ?_ ?_; rotate_left 2; (· intro w'; go_simp; with_reducible rfl); (· simp only [nrm]; rfl)
      refine pu_ (v := ?_) (a' := ?_) 23 (some 31) 16777215 rfl rfl HT_ (by kernel_rfl) (.inl ⟨by rfl, ?_⟩) ?_ ?_; rotate_left 2; (· intro w'; go_simp; with_reducible rfl); (· simp only [nrm]; rfl)
      refine pu_ (v := ?_) (a' := ?_) 24 (some 4) 33554431 rfl rfl HT_ (by kernel_rfl) (.inl ⟨by rfl, ?_⟩) ?_ ?_; rotate_left 2; (· intro w'; go_simp; with_reducible rfl); (· simp only [nrm]; rfl)
      refine done_ (done_of HT_.out (by kernel_rfl)) ?_
      clear HT_ HW_ hHeld
      go_wp2
      go_ret
      exact ⟨rfl, H.out.below⟩
    · have bn : (n == (cn : Int)) = false := by simp; exact hnn
      rw [show decide (n = (cn : Int)) = false by simp; exact hnn]
      clear hnn
      go_enter Tryd.func83, Tryd.ntmps83
      go_wp2_with (go_at_call 131; refine (header_Head_Words.calls _ _ _ _ _ _ HW.out).mono ?_; rintro e w1 ⟨rfl, hb⟩; replace H := Aside.mk (H.out.step hb); clear hb; have z0 := H.out.cell 0; have z1 := H.out.cell 1; have z2 := H.out.cell 2)
      replace H := Aside.mk H.out.drew
      refine start_ (n := 25) (S := fun w' => w'.cell? ⟨w.heap.size, 0, none⟩ = some (.int .i64 cN) ∧ w'.cell? ⟨w.heap.size, 1, none⟩ = some (.int .i64 1) ∧ w'.cell? ⟨w.heap.size, 2, none⟩ = some (.int .i64 n) ∧ w'.cell? ⟨t, 0, none⟩ = some (.slice (some ad) m cap) ∧ w'.cell? ⟨(ad.add (cN * 2)).block, (ad.add (cN * 2)).off + 1, none⟩ = some (.slice cA cn cc)) (ds := []) (flg 25 0) (by kernel_rfl) rfl rfl (⟨H.out.cell 0, H.out.cell 1, H.out.cell 2, pw_cell_below H.out.below HT0.out, pw_cell_below H.out.below HC.out⟩) (fun hHeld => ?_)
      refine with_tabW fc3.tab3 fc3.bits3 (fun HT_ HW_ => ?_)
      refine pu_ (v := ?_) (a' := ?_) 0 (some 8) 1 rfl rfl HT_ (by kernel_rfl) (.inl ⟨by rfl, ?_⟩) ?_ ?_; rotate_left 2; (· intro w'; go_simp; with_reducible rfl); (· simp only [nrm]; rfl)
      refine tk_ (v := ?_) (a' := ?_) 1 (some 9) 3 rfl rfl HT_ HW_ (by kernel_rfl) (.inl ⟨by rfl, ?_⟩) hHeld ?_ ?_; rotate_left 2; (· rintro w' ⟨_, _, _, _, _⟩; go_simp; with_reducible rfl); (· simp only [nrm]; rfl)
      refine pu_ (v := ?_) (a' := ?_) 2 (some 10) 7 rfl rfl HT_ (by kernel_rfl) (.inl ⟨by rfl, ?_⟩) ?_ ?_; rotate_left 2; (· intro w'; go_simp; with_reducible rfl); (· simp only [nrm]; rfl)
      refine pu_ (v := ?_) (a' := ?_) 3 (some 11) 15 rfl rfl HT_ (by kernel_rfl) (.inl ⟨by rfl, ?_⟩) ?_ ?_; rotate_left 2; (· intro w'; go_simp; with_reducible rfl); (· simp only [nrm]; rfl)
      refine pu_ (v := ?_) (a' := ?_) 4 (some 12) 31 rfl rfl HT_ (by kernel_rfl) (.inl ⟨by rfl, ?_⟩) ?_ ?_; rotate_left 2; (· intro w'; go_simp; with_reducible rfl); (· simp only [nrm]; rfl)
      refine pu_ (v := ?_) (a' := ?_) 5 (some 13) 63 rfl rfl HT_ (by kernel_rfl) (.inl ⟨by rfl, ?_⟩) ?_ ?_; rotate_left 2; (· intro w'; go_simp; with_reducible rfl); (· simp only [nrm]; rfl)
      refine tk_ (v := ?_) (a' := ?_) 6 (some 14) 127 rfl rfl HT_ HW_ (by kernel_rfl) (.inl ⟨by rfl, ?_⟩) hHeld ?_ ?_; rotate_left 2; (· rintro w' ⟨_, _, _, _, _⟩; go_simp; with_reducible rfl); (· simp only [nrm]; rfl)
      refine on_ 7 (some 15) 255 rfl rfl HT_ (by kernel_rfl) (by decide) (fun K hK => ?_)
      refine goes_ Tryd.func140 (by kernel_rfl) rfl #[.pointer (some ⟨t, 0, none⟩), .int .i64 cN] (by rfl) rfl rfl (by (try simp only [List.map_toArray, List.map_cons, List.map_nil]); first | done | rfl) ?_
      refine (HK.out _ (pw_cell_below H.out.below HT0.out)).mono ?_
      rintro e w2 ⟨rfl, rfl⟩
      refine ⟨_, rfl, ?_⟩
      clear hHeld
      refine hK.out _ _ ⟨H.out.cell 0, H.out.cell 1, H.out.cell 2, pw_cell_below H.out.below HT0.out, pw_cell_below H.out.below HC.out⟩ (fun hHeld => ?_)
      clear hK K
      refine norm_ (a' := ?_) ?_ ?_
      rotate_left
      · show Act.put _ (some 15) _ = _
        simp only [nrm]
        rfl
      refine pu_ (v := ?_) (a' := ?_) 8 (some 16) 511 rfl rfl HT_ (by kernel_rfl) (.inl ⟨by rfl, ?_⟩) ?_ ?_; rotate_left 2; (· intro w'; go_simp; with_reducible rfl); (· simp only [nrm]; rfl)
      refine pu_ (v := ?_) (a' := ?_) 9 (some 17) 1023 rfl rfl HT_ (by kernel_rfl) (.inl ⟨by rfl, ?_⟩) ?_ ?_; rotate_left 2; (· intro w'; go_simp; with_reducible rfl); (· simp only [nrm]; rfl)
      refine tk_ (v := ?_) (a' := ?_) 10 (some 18) 2047 rfl rfl HT_ HW_ (by kernel_rfl) (.inl ⟨by rfl, ?_⟩) hHeld ?_ ?_; rotate_left 2; (· rintro w' ⟨_, _, _, _, _⟩; go_simp; with_reducible rfl); (· simp only [nrm]; rfl)
      refine pu_ (v := ?_) (a' := ?_) 11 (some 19) 4095 rfl rfl HT_ (by kernel_rfl) (.inl ⟨by rfl, ?_⟩) ?_ ?_; rotate_left 2; (· intro w'; go_simp; with_reducible rfl); (· simp only [nrm]; rfl)
      refine pu_ (v := ?_) (a' := ?_) 12 (some 20) 8191 rfl rfl HT_ (by kernel_rfl) (.inl ⟨by rfl, ?_⟩) ?_ ?_; rotate_left 2; (· intro w'; go_simp; with_reducible rfl); (· simp only [nrm]; rfl)
      refine pu_ (v := ?_) (a' := ?_) 13 (some 21) 16383 rfl rfl HT_ (by kernel_rfl) (.inl ⟨by rfl, ?_⟩) ?_ ?_; rotate_left 2; (· intro w'; go_simp; with_reducible rfl); (· simp only [nrm]; rfl)
      refine tk_ (v := ?_) (a' := ?_) 14 (some 22) 32767 rfl rfl HT_ HW_ (by kernel_rfl) (.inl ⟨by rfl, ?_⟩) hHeld ?_ ?_; rotate_left 2; (· rintro w' ⟨_, _, _, _, _⟩; go_simp; with_reducible rfl); (· simp only [nrm]; rfl)
      refine pu_ (v := ?_) (a' := ?_) 15 (some 23) 65535 rfl rfl HT_ (by kernel_rfl) (.inl ⟨by rfl, ?_⟩) ?_ ?_; rotate_left 2; (· intro w'; go_simp; with_reducible rfl); (· simp only [nrm]; rfl)
      refine tk_ (v := ?_) (a' := ?_) 16 (some 24) 131071 rfl rfl HT_ HW_ (by kernel_rfl) (.inl ⟨by rfl, ?_⟩) hHeld ?_ ?_; rotate_left 2; (· rintro w' ⟨_, _, _, _, _⟩; go_simp; with_reducible rfl); (· simp only [nrm]; rfl)
      refine pu_ (v := ?_) (a' := ?_) 17 (some 25) 262143 rfl rfl HT_ (by kernel_rfl) (.inl ⟨by rfl, ?_⟩) ?_ ?_; rotate_left 2; (· intro w'; go_simp; with_reducible rfl); (· simp only [nrm]; rfl)
      refine pu_ (v := ?_) (a' := ?_) 18 (some 26) 524287 rfl rfl HT_ (by kernel_rfl) (.inl ⟨by rfl, ?_⟩) ?_ ?_; rotate_left 2; (· intro w'; go_simp; with_reducible rfl); (· simp only [nrm]; rfl)
      refine tk_ (v := ?_) (a' := ?_) 19 (some 27) 1048575 rfl rfl HT_ HW_ (by kernel_rfl) (.inl ⟨by rfl, ?_⟩) hHeld ?_ ?_; rotate_left 2; (· rintro w' ⟨_, _, _, _, _⟩; go_simp; with_reducible rfl); (· simp only [nrm]; rfl)
      refine pu_ (v := ?_) (a' := ?_) 20 (some 28) 2097151 rfl rfl HT_ (by kernel_rfl) (.inl ⟨by rfl, ?_⟩) ?_ ?_; rotate_left 2; (· intro w'; go_simp; with_reducible rfl); (· simp only [nrm]; rfl)
      refine pu_ (v := ?_) (a' := ?_) 21 (some 29) 4194303 rfl rfl HT_ (by kernel_rfl) (.inl ⟨by rfl, ?_⟩) ?_ ?_; rotate_left 2; (· intro w'; go_simp; with_reducible rfl); (· simp only [nrm]; rfl)
      refine pu_ (v := ?_) (a' := ?_) 22 (some 30) 8388607 rfl rfl HT_ (by kernel_rfl) (.inl ⟨by rfl, ?_⟩) ?_ ?_; rotate_left 2; (· intro w'; go_simp; with_reducible rfl); (· simp only [nrm]; rfl)
      refine pu_ (v := ?_) (a' := ?_) 23 (some 31) 16777215 rfl rfl HT_ (by kernel_rfl) (.inl ⟨by rfl, ?_⟩) ?_ ?_; rotate_left 2; (· intro w'; go_simp; with_reducible rfl); (· simp only [nrm]; rfl)
      refine pu_ (v := ?_) (a' := ?_) 24 (some 4) 33554431 rfl rfl HT_ (by kernel_rfl) (.inl ⟨by rfl, ?_⟩) ?_ ?_; rotate_left 2; (· intro w'; go_simp; with_reducible rfl); (· simp only [nrm]; rfl)
      refine done_ (done_of HT_.out (by kernel_rfl)) ?_
      clear HT_ HW_ hHeld
      go_wp2
      go_ret
      exact ⟨rfl, H.out.below⟩
/-- Is that word of an object a reference? -/
def isrefT (ns ms : List Nat) (c k n i : Int) : Bool := fitT ns c k n && decide (0 ≤ i) && decide (i < n) && (if k = 1 then (ms.getD c.toNat 0).testBit i.toNat else k == 3)
theorem fitT_in {c k n : Int} (h : fitT ns c k n = true) : isH c k n = true ∧ (k = 1 → ∃ cN : Nat, c = cN ∧ cN < ns.length ∧ n = ns.getD cN 0) ∧ 0 ≤ n ∧ n ≤ 255 := by
  unfold fitT at h
  simp only [Bool.and_eq_true, Bool.or_eq_true, decide_eq_true_eq] at h
  have hh := h.1
  refine ⟨hh, fun hk => ?_, ?_⟩
  · rcases h.2 with h2 | ⟨h2, h3⟩
    · exact absurd hk h2
    · refine ⟨c.toNat, ?_, ?_, h3⟩ <;> (simp only [isH, decide_eq_true_eq] at hh; omega)
  · simp only [isH, decide_eq_true_eq] at hh; omega
theorem shr_bit (m i : Nat) (hi : i < 64) (hm : m < 18446744073709551616) : (bits BinOp.and IntKind.u64 (((m : Nat) : Int) / (2 ^ min i 64)) 1 == 1) = m.testBit i := by
  have e : min i 64 = i := by omega
  rw [e]
  have e2 : ((m : Nat) : Int) / (2 ^ i) = ((m / 2 ^ i : Nat) : Int) := by
    rw [Int.natCast_ediv, Int.natCast_pow]; rfl
  rw [e2]
  have hq : m / 2 ^ i < 18446744073709551616 := Nat.lt_of_le_of_lt (Nat.div_le_self _ _) hm
  have e3 := u64_and_nat (m / 2 ^ i) 1 hq (by decide)
  rw [show ((1 : Nat) : Int) = 1 from rfl] at e3
  rw [e3, Nat.and_one_is_mod, Nat.testBit_eq_decide_div_mod_eq]
  by_cases h : m / 2 ^ i % 2 = 1
  · simp [h]
  · have : m / 2 ^ i % 2 = 0 := by omega
    simp [this]
theorem isref_c {c k n i : Int} (h : TbC w t A cap ns B cap2 ms) (hns : ∀ i, ns.getD i 0 ≤ 63) (hms : ∀ m ∈ ms, m < 18446744073709551616) : Calls Tryd.prog 167 #[.pointer (some ⟨t, 0, none⟩), .agg #[.int .i64 c, .int .i64 k, .int .i64 n], .int .i64 i] w fun e w' => e = .returned (.bool (isrefT ns ms c k n i)) ∧ Below w.heap.size w w' := by
  have H : Aside (St w _ [blk w.heap.size #[.int .i64 c, .int .i64 k, .int .i64 n] 43]) := Aside.mk ((St.start w).alloc #[.int .i64 c, .int .i64 k, .int .i64 n] 43)
  have HF := Aside.mk (fun (w1 : World) (hb : Below w.heap.size w w1) => fits_c2 (c := c) (k := k) (n := n) (h.below hb))
  unfold isrefT
  cases hf : fitT ns c k n
  case false =>
    rw [hf] at HF
    clear h hf
    simp only [Bool.false_and]
    go_enter Tryd.func167, Tryd.ntmps167
    go_wp2_with (go_at_call 83; refine (HF.out _ (H.out.below)).mono ?_; rintro e w1 ⟨rfl, hb⟩; replace H := Aside.mk (H.out.step hb); clear hb; have z0 := H.out.cell 0; have z1 := H.out.cell 1; have z2 := H.out.cell 2)
    go_ret
    exact ⟨rfl, H.out.below⟩
  case true =>
  have hfi := fitT_in hf
  rw [hf] at HF
  rw [Bool.true_and]
  clear hf
  by_cases h0 : 0 ≤ i
  case neg =>
    have d0 : decide (i < 0) = true := by simp; omega
    rw [show decide (0 ≤ i) = false by simp; omega]
    clear h hfi h0 hns hms
    simp only [Bool.false_and]
    go_enter Tryd.func167, Tryd.ntmps167
    go_wp2_with (go_at_call 83; refine (HF.out _ (H.out.below)).mono ?_; rintro e w1 ⟨rfl, hb⟩; replace H := Aside.mk (H.out.step hb); clear hb; have z0 := H.out.cell 0; have z1 := H.out.cell 1; have z2 := H.out.cell 2)
    go_ret
    exact ⟨rfl, H.out.below⟩
  case pos =>
  have d0 : decide (i < 0) = false := by simp; omega
  have n0 : ¬ i < 0 := by omega
  rw [show decide (0 ≤ i) = true by simp; omega, Bool.true_and]
  by_cases h1 : i < n
  case neg =>
    have d1 : decide (n ≤ i) = true := by simp; omega
    have d2 : decide (i ≥ n) = true := by simp; omega
    rw [show decide (i < n) = false by simp; omega]
    clear h hfi h0 h1 hns hms
    simp only [Bool.false_and]
    go_enter Tryd.func167, Tryd.ntmps167
    go_wp2_with (go_at_call 83; refine (HF.out _ (H.out.below)).mono ?_; rintro e w1 ⟨rfl, hb⟩; replace H := Aside.mk (H.out.step hb); clear hb; have z0 := H.out.cell 0; have z1 := H.out.cell 1; have z2 := H.out.cell 2)
    go_ret
    exact ⟨rfl, H.out.below⟩
  case pos =>
  have d1 : decide (n ≤ i) = false := by simp; omega
  have d2 : decide (i ≥ n) = false := by simp; omega
  have n1 : ¬ n ≤ i := by omega
  rw [show decide (i < n) = true by simp; omega, Bool.true_and]
  by_cases hk : k = 1
  case neg =>
    have bk : (k == 1) = false := by simp; exact hk
    rw [if_neg hk]
    clear h hfi h0 h1 hk hns hms
    go_enter Tryd.func167, Tryd.ntmps167
    go_wp2_with (go_at_call 83; refine (HF.out _ (H.out.below)).mono ?_; rintro e w1 ⟨rfl, hb⟩; replace H := Aside.mk (H.out.step hb); clear hb; have z0 := H.out.cell 0; have z1 := H.out.cell 1; have z2 := H.out.cell 2)
    go_ret
    exact ⟨rfl, H.out.below⟩
  case pos =>
    subst hk
    obtain ⟨cN, rfl, hcN, hnn⟩ := hfi.2.1 rfl
    rw [if_pos rfl, Int.toNat_natCast]
    have hfl : ∀ j < ms.length, ms.getD j 0 < 18446744073709551616 := fun j hj => by rw [List.getD_eq_getElem?_getD, List.getElem?_eq_getElem hj]; exact hms _ (List.getElem_mem _)
    have hmm : ms.getD cN 0 < 18446744073709551616 := by
      by_cases hj : cN < ms.length
      · exact hfl _ hj
      · rw [List.getD_eq_getElem?_getD, List.getElem?_eq_none (by omega)]; decide
    obtain ⟨ad, rfl, hC⟩ := h.f cN hcN
    have HT1 := Aside.mk h.m
    have nc : (cN : Int) < (ns.length : Int) := by omega
    have dc : decide ((cN : Int) < (ns.length : Int)) = true := by simp; omega
    generalize ns.length = m at HT1 nc dc
    generalize ms.getD cN 0 = mm at hmm hC ⊢
    obtain ⟨j, rfl⟩ : ∃ j : Nat, i = j := ⟨i.toNat, by omega⟩
    have HC := Aside.mk hC
    rw [Int.toNat_natCast]
    have HB : Aside ((bits BinOp.and IntKind.u64 (((mm : Nat) : Int) / (2 ^ min j 64)) 1 == 1) = mm.testBit j) := ⟨shr_bit mm j (by have := hns cN; omega) hmm⟩
    clear h hfi h0 h1 hcN hnn hns hms hfl hC hmm
    go_enter Tryd.func167, Tryd.ntmps167
    go_wp2_with (go_at_call 83; refine (HF.out _ (H.out.below)).mono ?_; rintro e w1 ⟨rfl, hb⟩; replace H := Aside.mk (H.out.step hb); clear hb; have z0 := H.out.cell 0; have z1 := H.out.cell 1; have z2 := H.out.cell 2)
    replace H := Aside.mk H.out.drew
    refine start_ (n := 13) (S := fun w' => w'.cell? ⟨w.heap.size, 0, none⟩ = some (.int .i64 cN) ∧ w'.cell? ⟨t, 1, none⟩ = some (.slice (some ad) m cap2) ∧ w'.cell? (ad.add cN) = some (.int .u64 (mm : Int))) (ds := []) (flg 13 0) (by kernel_rfl) rfl rfl (⟨H.out.cell 0, pw_cell_below H.out.below HT1.out, pw_cell_below H.out.below HC.out⟩) (fun hHeld => ?_)
    refine with_tabW fc4.tab4 fc4.bits4 (fun HT_ HW_ => ?_)
    refine pu_ (v := ?_) (a' := ?_) 0 (some 26) 1 rfl rfl HT_ (by kernel_rfl) (.inl ⟨by rfl, ?_⟩) ?_ ?_; rotate_left 2; (· intro w'; go_simp; with_reducible rfl); (· simp only [nrm]; rfl)
    refine pu_ (v := ?_) (a' := ?_) 1 (some 27) 3 rfl rfl HT_ (by kernel_rfl) (.inl ⟨by rfl, ?_⟩) ?_ ?_; rotate_left 2; (· intro w'; go_simp; with_reducible rfl); (· simp only [nrm]; rfl)
    refine pu_ (v := ?_) (a' := ?_) 2 (some 28) 7 rfl rfl HT_ (by kernel_rfl) (.inl ⟨by rfl, ?_⟩) ?_ ?_; rotate_left 2; (· intro w'; go_simp; with_reducible rfl); (· simp only [nrm]; rfl)
    refine tk_ (v := ?_) (a' := ?_) 3 (some 29) 15 rfl rfl HT_ HW_ (by kernel_rfl) (.inl ⟨by rfl, ?_⟩) hHeld ?_ ?_; rotate_left 2; (· rintro w' ⟨_, _, _⟩; go_simp; with_reducible rfl); (· simp only [nrm]; rfl)
    refine pu_ (v := ?_) (a' := ?_) 4 (some 30) 31 rfl rfl HT_ (by kernel_rfl) (.inl ⟨by rfl, ?_⟩) ?_ ?_; rotate_left 2; (· intro w'; go_simp; with_reducible rfl); (· simp only [nrm]; rfl)
    refine tk_ (v := ?_) (a' := ?_) 5 (some 31) 63 rfl rfl HT_ HW_ (by kernel_rfl) (.inl ⟨by rfl, ?_⟩) hHeld ?_ ?_; rotate_left 2; (· rintro w' ⟨_, _, _⟩; go_simp; with_reducible rfl); (· simp only [nrm]; rfl)
    refine pu_ (v := ?_) (a' := ?_) 6 (some 32) 127 rfl rfl HT_ (by kernel_rfl) (.inl ⟨by rfl, ?_⟩) ?_ ?_; rotate_left 2; (· intro w'; go_simp; with_reducible rfl); (· simp only [nrm]; rfl)
    refine tk_ (v := ?_) (a' := ?_) 7 (some 33) 255 rfl rfl HT_ HW_ (by kernel_rfl) (.inl ⟨by rfl, ?_⟩) hHeld ?_ ?_; rotate_left 2; (· rintro w' ⟨_, _, _⟩; go_simp; with_reducible rfl); (· simp only [nrm]; rfl)
    refine pu_ (v := ?_) (a' := ?_) 8 (some 34) 511 rfl rfl HT_ (by kernel_rfl) (.inl ⟨by rfl, ?_⟩) ?_ ?_; rotate_left 2; (· intro w'; go_simp; with_reducible rfl); (· simp only [nrm]; rfl)
    refine pu_ (v := ?_) (a' := ?_) 9 (some 35) 1023 rfl rfl HT_ (by kernel_rfl) (.inl ⟨by rfl, ?_⟩) ?_ ?_; rotate_left 2; (· intro w'; go_simp; with_reducible rfl); (· simp only [nrm]; rfl)
    refine pu_ (v := ?_) (a' := ?_) 10 (some 36) 2047 rfl rfl HT_ (by kernel_rfl) (.inl ⟨by rfl, ?_⟩) ?_ ?_; rotate_left 2; (· intro w'; go_simp; with_reducible rfl); (· simp only [nrm]; rfl)
    refine pu_ (v := ?_) (a' := ?_) 11 (some 37) 4095 rfl rfl HT_ (by kernel_rfl) (.inl ⟨by rfl, ?_⟩) ?_ ?_; rotate_left 2; (· intro w'; go_simp; simp only [HB.out]; with_reducible rfl); (· simp only [nrm]; rfl)
    refine pu_ (v := ?_) (a' := ?_) 12 (some 6) 8191 rfl rfl HT_ (by kernel_rfl) (.inl ⟨by rfl, ?_⟩) ?_ ?_; rotate_left 2; (· intro w'; go_simp; with_reducible rfl); (· simp only [nrm]; rfl)
    refine done_ (done_of HT_.out (by kernel_rfl)) ?_
    clear HT_ HW_ hHeld
    go_wp2
    go_ret
    exact ⟨rfl, H.out.below⟩
end Go.Proofs.YtelfiegocdjnoaaDoor.Ar
