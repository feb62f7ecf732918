/- A sweep: what it is made of; its questions; what stays; is it due. Conditions: the sweep is a block of its own. -/
import Derived.Test.YtelfiegocdjnoaaDoorAr2
import Derived.Test.YtelfiegocdjnoaaDoorPg3
import Derived.Test.YtelfiegocdjnoaaDoorWk
import Derived.Test.YtelfiegocdjnoaaDoorIe2
import Derived.Deep.RegionHeld3
import Derived.Test.YtelfiegocdjnoaaDoorMrF0
namespace Go.Proofs.YtelfiegocdjnoaaDoor.Ar
open Go Go.RowKit Go.Proofs.YtelfiegocdjnoaaDoor.Sep Go.Proofs.YtelfiegocdjnoaaDoor.Pg Go.Proofs.YtelfiegocdjnoaaDoorW.PrintWords Go.Proofs.YtelfiegocdjnoaaDoorW.PrintLast Go.Proofs.YtelfiegocdjnoaaDoorW.PrintMore Go.Proofs.YtelfiegocdjnoaaDoor.Q
set_option linter.unusedVariables false
set_option linter.unusedSimpArgs false
set_option maxHeartbeats 8000000
set_option maxRecDepth 100000
variable {w0 w : World} {F : List HP}
def due.T1 : Bool × List (List Nat × List Nat) := (true, [([], []), ([0], [0]), ([1], [1]), ([2], [2]), ([], []), ([4], [4]), ([5], [5]), ([6], [6]), ([3, 7], [3, 7]), ([8, 8], [8]), ([9], [9]), ([10, 9], [9, 10]), ([11, 9], [9, 11]), ([12, 9], [9, 12]), ([13, 9], [9, 13]), ([14, 9], [9, 14]), ([15, 9, 9], [9, 15]), ([16], [16]), ([17, 16], [16, 17]), ([18, 16], [16, 18]), ([19, 16], [16, 19]), ([16], [16]), ([21, 16], [16, 21]), ([22, 16], [16, 22]), ([23, 16], [16, 23]), ([24, 16], [16, 24]), ([20, 25, 16], [16, 20, 25]), ([16], [16]), ([27, 16], [16, 27]), ([28, 16], [16, 28]), ([29, 16], [16, 29]), ([30, 16], [16, 30]), ([26, 31, 16], [16, 26, 31]), ([16, 32, 9], [9, 16, 32]), ([9, 33], [9, 33]), ([34, 16, 0, 1, 2, 3, 4, 5, 6, 7, 8, 9, 10, 11, 12, 13, 14, 15, 16, 17, 18, 19, 20, 21, 22, 23, 24, 25, 26, 27, 28, 29, 30, 31, 32, 33, 34], [34])])
def due.B1 : List Nat := [0, 1, 3, 7, 0, 16, 48, 112, 255, 511, 1023, 2047, 4095, 8191, 16383, 32767, 65535, 131071, 262143, 524287, 1048575, 131071, 2228223, 6422527, 14811135, 31588351, 67108863, 131071, 134348799, 402784255, 939655167, 2013396991, 4294967295, 8589934591, 17179869183, 34359738367]
theorem due.tab1 : rtab .any (opsOf Tryd.f154 1) = due.T1 := by kernel_rfl
theorem due.bits1 : waitsOk due.T1.2 due.B1 = true := by kernel_rfl
/-- A sweep's fields. -/
structure Sw where
  (pp pt pr who cyc page at_ k c st o y was mark alloc tail : Int) (swept : Bool) (freed : Int) (empty block : Bool)
abbrev Sw.cells (x : Sw) : Array Value := #[.int .i64 x.pp, .int .i64 x.pt, .int .i64 x.pr, .int .i64 x.who, .int .i64 x.cyc, .int .i64 x.page, .int .i64 x.at_, .int .i64 x.k, .int .i64 x.c, .int .i64 x.st, .int .i64 x.o, .int .i64 x.y, .int .u64 x.was, .int .u64 x.mark, .int .u64 x.alloc, .int .i64 x.tail, .bool x.swept, .int .i64 x.freed, .bool x.empty, .bool x.block]
abbrev swB (s : Nat) (x : Sw) : HP := blk s x.cells 226
abbrev swP (s : Nat) : Value := .pointer (some ⟨s, 0, none⟩)
theorem sover_ {s : Nat} {x : Sw} (h : St w0 w (swB s x :: F)) : Calls Tryd.prog 111 #[swP s] w fun e w' => e = .returned (.bool (x.at_ == 8)) ∧ St w0 w' (swB s x :: F) := by
  have x6 : w.cell? ⟨s, 6, none⟩ = some (.int .i64 x.at_) := h.cell 6
  have H := Aside.mk h
  clear h
  go_enter Tryd.func111, Tryd.ntmps111
  go_wp2
  go_ret
  exact ⟨by simp, H.out⟩
theorem sswept_ {s : Nat} {x : Sw} (h : St w0 w (swB s x :: F)) : Calls Tryd.prog 113 #[swP s] w fun e w' => e = .returned (.bool x.swept) ∧ St w0 w' (swB s x :: F) := by
  have x16 : w.cell? ⟨s, 16, none⟩ = some (.bool x.swept) := h.cell 16
  have H := Aside.mk h
  clear h
  go_enter Tryd.func113, Tryd.ntmps113
  go_wp2
  go_ret
  exact ⟨by simp, H.out⟩
theorem sempty_ {s : Nat} {x : Sw} (h : St w0 w (swB s x :: F)) : Calls Tryd.prog 114 #[swP s] w fun e w' => e = .returned (.bool (x.swept && x.empty)) ∧ St w0 w' (swB s x :: F) := by
  have x16 : w.cell? ⟨s, 16, none⟩ = some (.bool x.swept) := h.cell 16
  have x18 : w.cell? ⟨s, 18, none⟩ = some (.bool x.empty) := h.cell 18
  have H := Aside.mk h
  clear h
  obtain ⟨b, hb⟩ : ∃ b, b = x.swept := ⟨_, rfl⟩
  rw [← hb] at x16 ⊢
  clear hb
  cases b
  all_goals
    go_enter Tryd.func114, Tryd.ntmps114
    go_wp2
    go_ret
    exact ⟨by simp, H.out⟩
theorem sfreed_ {s : Nat} {x : Sw} (h : St w0 w (swB s x :: F)) : Calls Tryd.prog 115 #[swP s] w fun e w' => e = .returned (.int .i64 (if x.swept = true then x.freed else 0)) ∧ St w0 w' (swB s x :: F) := by
  have x16 : w.cell? ⟨s, 16, none⟩ = some (.bool x.swept) := h.cell 16
  have x17 : w.cell? ⟨s, 17, none⟩ = some (.int .i64 x.freed) := h.cell 17
  have H := Aside.mk h
  clear h
  obtain ⟨b, hb⟩ : ∃ b, b = x.swept := ⟨_, rfl⟩
  rw [← hb] at x16 ⊢
  clear hb
  cases b
  all_goals
    go_enter Tryd.func115, Tryd.ntmps115
    go_wp2
    go_ret
    exact ⟨by simp, H.out⟩
/-- What stays allocated. -/
def Sw.left (x : Sw) : Int := if x.k = 2 then Go.bits .and .u64 (Go.bits .and .u64 x.alloc x.mark) 1 else Go.bits .and .u64 x.alloc x.mark
theorem sleft_ {s : Nat} {x : Sw} (h : St w0 w (swB s x :: F)) : Calls Tryd.prog 156 #[swP s] w fun e w' => e = .returned (.int .u64 x.left) ∧ St w0 w' (swB s x :: F) := by
  have x7 : w.cell? ⟨s, 7, none⟩ = some (.int .i64 x.k) := h.cell 7
  have x13 : w.cell? ⟨s, 13, none⟩ = some (.int .u64 x.mark) := h.cell 13
  have x14 : w.cell? ⟨s, 14, none⟩ = some (.int .u64 x.alloc) := h.cell 14
  have H := Aside.mk h
  clear h
  by_cases hk : x.k = 2
  · have hk2 : (x.k == 2) = true := by simp [hk]
    have HL : Aside (x.left = Go.bits .and .u64 (Go.bits .and .u64 x.alloc x.mark) 1) := ⟨if_pos hk⟩
    clear hk
    go_enter Tryd.func156, Tryd.ntmps156
    go_wp2_with fail
    go_region_held3 (fun w' => w'.cell? ⟨s, 13, none⟩ = some (.int .u64 x.mark) ∧ w'.cell? ⟨s, 14, none⟩ = some (.int .u64 x.alloc)) (first | exact ⟨H.out.drew.cell 13, H.out.drew.cell 14⟩ | go_keep) (fail)
    go_wp2
    go_ret
    refine ⟨by rw [HL.out]; rfl, by first | exact H.out | exact H.out.drew⟩
  · have hk2 : (x.k == 2) = false := by simpa using hk
    have HL : Aside (x.left = Go.bits .and .u64 x.alloc x.mark) := ⟨if_neg hk⟩
    clear hk
    go_enter Tryd.func156, Tryd.ntmps156
    go_wp2_with fail
    go_region_held3 (fun w' => w'.cell? ⟨s, 13, none⟩ = some (.int .u64 x.mark) ∧ w'.cell? ⟨s, 14, none⟩ = some (.int .u64 x.alloc)) (first | exact ⟨H.out.drew.cell 13, H.out.drew.cell 14⟩ | go_keep) (fail)
    go_wp2
    go_ret
    refine ⟨by rw [HL.out]; rfl, by first | exact H.out | exact H.out.drew⟩
/-- Must the page be swept? -/
def dueE (k s y cyc : Int) : Bool := (k == 1 || k == 2) && (s == 0) && decide (y < cyc)
def Sw.due (x : Sw) : Bool := dueE x.k x.st x.y x.cyc && (!(x.k == 2) || decide (x.page + x.c ≤ x.pp))
theorem sdue_ {s : Nat} {x : Sw} (he : isE x.k x.c x.st x.o x.y = true) (hp : 0 ≤ x.page ∧ x.page ≤ 10000) (h : St w0 w (swB s x :: F)) : Calls Tryd.prog 154 #[swP s] w fun e w' => e = .returned (.bool x.due) ∧ St w0 w' (swB s x :: F) := by
  have HD := Aside.mk (fun (w : World) => hdue_c he x.cyc w)
  have hw : wrap64 (x.page + x.c) = x.page + x.c := w_of _ (by have := isE_le he; omega) (by have := isE_le he; omega)
  have x0 : w.cell? ⟨s, 0, none⟩ = some (.int .i64 x.pp) := h.cell 0
  have x4 : w.cell? ⟨s, 4, none⟩ = some (.int .i64 x.cyc) := h.cell 4
  have x5 : w.cell? ⟨s, 5, none⟩ = some (.int .i64 x.page) := h.cell 5
  have x7 : w.cell? ⟨s, 7, none⟩ = some (.int .i64 x.k) := h.cell 7
  have x8 : w.cell? ⟨s, 8, none⟩ = some (.int .i64 x.c) := h.cell 8
  have x9 : w.cell? ⟨s, 9, none⟩ = some (.int .i64 x.st) := h.cell 9
  have x10 : w.cell? ⟨s, 10, none⟩ = some (.int .i64 x.o) := h.cell 10
  have x11 : w.cell? ⟨s, 11, none⟩ = some (.int .i64 x.y) := h.cell 11
  have H := Aside.mk h
  clear h he hp
  obtain ⟨d, hd⟩ : ∃ d, d = dueE x.k x.st x.y x.cyc := ⟨_, rfl⟩
  have HR : Aside (x.due = (d && (!(x.k == 2) || decide (x.page + x.c ≤ x.pp)))) := ⟨by unfold Sw.due; rw [hd]⟩
  have HD2 : Aside (∀ w : World, Calls Tryd.prog 161 #[.agg #[.int .i64 x.k, .int .i64 x.c, .int .i64 x.st, .int .i64 x.o, .int .i64 x.y], .int .i64 x.cyc] w fun e w' => e = .returned (.bool d) ∧ Below w.heap.size w w') := ⟨by rw [hd]; exact HD.out⟩
  clear HD hd
  have hl : ∃ l, l = decide (x.page + x.c ≤ x.pp) := ⟨_, rfl⟩
  obtain ⟨l, hl⟩ := hl
  have HL := Aside.mk hl
  have hl' := hl.symm
  clear hl
  obtain ⟨b, hb⟩ : ∃ b, b = (x.k == 2) := ⟨_, rfl⟩
  have HB := Aside.mk hb
  have hb' : (x.k != 2) = !b := by rw [hb]; rfl
  clear hb
  cases d
  · clear hb' hl' hw
    go_enter Tryd.func154, Tryd.ntmps154
    go_wp2_with fail
    refine start_ (n := 36) (S := fun w' => w'.cell? ⟨s, 0, none⟩ = some (.int .i64 x.pp) ∧ w'.cell? ⟨s, 5, none⟩ = some (.int .i64 x.page) ∧ w'.cell? ⟨s, 4, none⟩ = some (.int .i64 x.cyc) ∧ w'.cell? ⟨s, 7, none⟩ = some (.int .i64 x.k) ∧ w'.cell? ⟨s, 8, none⟩ = some (.int .i64 x.c) ∧ w'.cell? ⟨s, 9, none⟩ = some (.int .i64 x.st) ∧ w'.cell? ⟨s, 10, none⟩ = some (.int .i64 x.o) ∧ w'.cell? ⟨s, 11, none⟩ = some (.int .i64 x.y)) (ds := []) (flg 36 0) (by kernel_rfl) rfl rfl (⟨H.out.drew.cell 0, H.out.drew.cell 5, H.out.drew.cell 4, H.out.drew.cell 7, H.out.drew.cell 8, H.out.drew.cell 9, H.out.drew.cell 10, H.out.drew.cell 11⟩) (fun hHeld => ?_)
    refine with_tabW due.tab1 due.bits1 (fun HT_ HW_ => ?_)
    refine pu_ (v := ?_) (a' := ?_) 0 (some 3) 1 rfl rfl HT_ (by kernel_rfl) (.inl ⟨by rfl, ?_⟩) ?_ ?_; rotate_left 2; (· intro w'; go_simp; with_reducible rfl); (· simp only [nrm]; rfl)
    refine pu_ (v := ?_) (a' := ?_) 1 (some 4) 3 rfl rfl HT_ (by kernel_rfl) (.inl ⟨by rfl, ?_⟩) ?_ ?_; rotate_left 2; (· intro w'; go_simp; with_reducible rfl); (· simp only [nrm]; rfl)
    refine pu_ (v := ?_) (a' := ?_) 2 (some 5) 7 rfl rfl HT_ (by kernel_rfl) (.inl ⟨by rfl, ?_⟩) ?_ ?_; rotate_left 2; (· intro w'; go_simp; with_reducible rfl); (· simp only [nrm]; rfl)
    refine tk_ (v := ?_) (a' := ?_) 3 (some 6) 15 rfl rfl HT_ HW_ (by kernel_rfl) (.inl ⟨by rfl, ?_⟩) hHeld ?_ ?_; rotate_left 2; (· rintro w' ⟨_, _, _, _, _, _, _, _⟩; go_simp; with_reducible rfl); (· simp only [nrm]; rfl)
    refine pu_ (v := ?_) (a' := ?_) 4 (some 7) 31 rfl rfl HT_ (by kernel_rfl) (.inl ⟨by rfl, ?_⟩) ?_ ?_; rotate_left 2; (· intro w'; go_simp; with_reducible rfl); (· simp only [nrm]; rfl)
    refine pu_ (v := ?_) (a' := ?_) 5 (some 8) 63 rfl rfl HT_ (by kernel_rfl) (.inl ⟨by rfl, ?_⟩) ?_ ?_; rotate_left 2; (· intro w'; go_simp; with_reducible rfl); (· simp only [nrm]; rfl)
    refine pu_ (v := ?_) (a' := ?_) 6 (some 9) 127 rfl rfl HT_ (by kernel_rfl) (.inl ⟨by rfl, ?_⟩) ?_ ?_; rotate_left 2; (· intro w'; go_simp; with_reducible rfl); (· simp only [nrm]; rfl)
    refine tk_ (v := ?_) (a' := ?_) 7 (some 10) 255 rfl rfl HT_ HW_ (by kernel_rfl) (.inl ⟨by rfl, ?_⟩) hHeld ?_ ?_; rotate_left 2; (· rintro w' ⟨_, _, _, _, _, _, _, _⟩; go_simp; with_reducible rfl); (· simp only [nrm]; rfl)
    refine on_ 8 (some 11) 511 rfl rfl HT_ (by kernel_rfl) (by decide) (fun K hK => ?_)
    refine goes_ Tryd.func161 (by kernel_rfl) rfl #[.agg #[.int .i64 x.k, .int .i64 x.c, .int .i64 x.st, .int .i64 x.o, .int .i64 x.y], .int .i64 x.cyc] (by rfl) rfl rfl (by (try simp only [List.map_toArray, List.map_cons, List.map_nil]); first | done | rfl) ?_
    refine (HD2.out _).mono ?_
    rintro e w1 ⟨rfl, hb⟩
    replace H := Aside.mk (H.out.drew.step hb)
    refine ⟨_, rfl, ?_⟩
    refine hK.out _ _ ⟨H.out.cell 0, H.out.cell 5, H.out.cell 4, H.out.cell 7, H.out.cell 8, H.out.cell 9, H.out.cell 10, H.out.cell 11⟩ (fun hHeld => ?_)
    clear hK K
    refine norm_ (a' := ?_) ?_ ?_
    rotate_left
    · show Act.put _ (some 11) _ = _
      simp only [nrm]
      rfl
    refine pu_ (v := ?_) (a' := ?_) 9 (some 12) 1023 rfl rfl HT_ (by kernel_rfl) (.inl ⟨by rfl, ?_⟩) ?_ ?_; rotate_left 2; (· intro w'; go_simp; with_reducible rfl); (· simp only [nrm]; rfl)
    refine pure_ (i := 10) (N := some 13) (v := undef) (a' := ?_) (flg 36 2047) rfl rfl (any_of HT_.out (by kernel_rfl)) (fun _ _ _ h => h) (Or.inr ⟨by rfl, rfl⟩) ?_ ?_
    rotate_left
    · simp only [nrm]
      rfl
    refine pure_ (i := 11) (N := some 14) (v := undef) (a' := ?_) (flg 36 4095) rfl rfl (any_of HT_.out (by kernel_rfl)) (fun _ _ _ h => h) (Or.inr ⟨by rfl, rfl⟩) ?_ ?_
    rotate_left
    · simp only [nrm]
      rfl
    refine pure_ (i := 12) (N := some 15) (v := undef) (a' := ?_) (flg 36 8191) rfl rfl (any_of HT_.out (by kernel_rfl)) (fun _ _ _ h => h) (Or.inr ⟨by rfl, rfl⟩) ?_ ?_
    rotate_left
    · simp only [nrm]
      rfl
    refine pure_ (i := 13) (N := some 16) (v := undef) (a' := ?_) (flg 36 16383) rfl rfl (any_of HT_.out (by kernel_rfl)) (fun _ _ _ h => h) (Or.inr ⟨by rfl, rfl⟩) ?_ ?_
    rotate_left
    · simp only [nrm]
      rfl
    refine pure_ (i := 14) (N := some 17) (v := undef) (a' := ?_) (flg 36 32767) rfl rfl (any_of HT_.out (by kernel_rfl)) (fun _ _ _ h => h) (Or.inr ⟨by rfl, rfl⟩) ?_ ?_
    rotate_left
    · simp only [nrm]
      rfl
    refine pure_ (i := 15) (N := some 18) (v := undef) (a' := ?_) (flg 36 65535) rfl rfl (any_of HT_.out (by kernel_rfl)) (fun _ _ _ h => h) (Or.inr ⟨by rfl, rfl⟩) ?_ ?_
    rotate_left
    · simp only [nrm]
      rfl
    refine pure_ (i := 16) (N := some 19) (v := undef) (a' := ?_) (flg 36 131071) rfl rfl (any_of HT_.out (by kernel_rfl)) (fun _ _ _ h => h) (Or.inr ⟨by rfl, rfl⟩) ?_ ?_
    rotate_left
    · simp only [nrm]
      rfl
    refine pure_ (i := 17) (N := some 20) (v := undef) (a' := ?_) (flg 36 262143) rfl rfl (any_of HT_.out (by kernel_rfl)) (fun _ _ _ h => h) (Or.inr ⟨by rfl, rfl⟩) ?_ ?_
    rotate_left
    · simp only [nrm]
      rfl
    refine pure_ (i := 18) (N := some 21) (v := undef) (a' := ?_) (flg 36 524287) rfl rfl (any_of HT_.out (by kernel_rfl)) (fun _ _ _ h => h) (Or.inr ⟨by rfl, rfl⟩) ?_ ?_
    rotate_left
    · simp only [nrm]
      rfl
    refine pure_ (i := 19) (N := some 22) (v := undef) (a' := ?_) (flg 36 1048575) rfl rfl (any_of HT_.out (by kernel_rfl)) (fun _ _ _ h => h) (Or.inr ⟨by rfl, rfl⟩) ?_ ?_
    rotate_left
    · simp only [nrm]
      rfl
    refine pure_ (i := 20) (N := some 23) (v := undef) (a' := ?_) (flg 36 2097151) rfl rfl (any_of HT_.out (by kernel_rfl)) (fun _ _ _ h => h) (Or.inr ⟨by rfl, rfl⟩) ?_ ?_
    rotate_left
    · simp only [nrm]
      rfl
    refine pure_ (i := 21) (N := some 24) (v := undef) (a' := ?_) (flg 36 4194303) rfl rfl (any_of HT_.out (by kernel_rfl)) (fun _ _ _ h => h) (Or.inr ⟨by rfl, rfl⟩) ?_ ?_
    rotate_left
    · simp only [nrm]
      rfl
    refine pure_ (i := 22) (N := some 25) (v := undef) (a' := ?_) (flg 36 8388607) rfl rfl (any_of HT_.out (by kernel_rfl)) (fun _ _ _ h => h) (Or.inr ⟨by rfl, rfl⟩) ?_ ?_
    rotate_left
    · simp only [nrm]
      rfl
    refine pure_ (i := 23) (N := some 26) (v := undef) (a' := ?_) (flg 36 16777215) rfl rfl (any_of HT_.out (by kernel_rfl)) (fun _ _ _ h => h) (Or.inr ⟨by rfl, rfl⟩) ?_ ?_
    rotate_left
    · simp only [nrm]
      rfl
    refine pure_ (i := 24) (N := some 27) (v := undef) (a' := ?_) (flg 36 33554431) rfl rfl (any_of HT_.out (by kernel_rfl)) (fun _ _ _ h => h) (Or.inr ⟨by rfl, rfl⟩) ?_ ?_
    rotate_left
    · simp only [nrm]
      rfl
    refine pure_ (i := 25) (N := some 28) (v := undef) (a' := ?_) (flg 36 67108863) rfl rfl (any_of HT_.out (by kernel_rfl)) (fun _ _ _ h => h) (Or.inr ⟨by rfl, rfl⟩) ?_ ?_
    rotate_left
    · simp only [nrm]
      rfl
    refine pure_ (i := 26) (N := some 29) (v := undef) (a' := ?_) (flg 36 134217727) rfl rfl (any_of HT_.out (by kernel_rfl)) (fun _ _ _ h => h) (Or.inr ⟨by rfl, rfl⟩) ?_ ?_
    rotate_left
    · simp only [nrm]
      rfl
    refine pure_ (i := 27) (N := some 30) (v := undef) (a' := ?_) (flg 36 268435455) rfl rfl (any_of HT_.out (by kernel_rfl)) (fun _ _ _ h => h) (Or.inr ⟨by rfl, rfl⟩) ?_ ?_
    rotate_left
    · simp only [nrm]
      rfl
    refine pure_ (i := 28) (N := some 31) (v := undef) (a' := ?_) (flg 36 536870911) rfl rfl (any_of HT_.out (by kernel_rfl)) (fun _ _ _ h => h) (Or.inr ⟨by rfl, rfl⟩) ?_ ?_
    rotate_left
    · simp only [nrm]
      rfl
    refine pure_ (i := 29) (N := some 32) (v := undef) (a' := ?_) (flg 36 1073741823) rfl rfl (any_of HT_.out (by kernel_rfl)) (fun _ _ _ h => h) (Or.inr ⟨by rfl, rfl⟩) ?_ ?_
    rotate_left
    · simp only [nrm]
      rfl
    refine pure_ (i := 30) (N := some 33) (v := undef) (a' := ?_) (flg 36 2147483647) rfl rfl (any_of HT_.out (by kernel_rfl)) (fun _ _ _ h => h) (Or.inr ⟨by rfl, rfl⟩) ?_ ?_
    rotate_left
    · simp only [nrm]
      rfl
    refine pure_ (i := 31) (N := some 34) (v := undef) (a' := ?_) (flg 36 4294967295) rfl rfl (any_of HT_.out (by kernel_rfl)) (fun _ _ _ h => h) (Or.inr ⟨by rfl, rfl⟩) ?_ ?_
    rotate_left
    · simp only [nrm]
      rfl
    refine pure_ (i := 32) (N := some 35) (v := undef) (a' := ?_) (flg 36 8589934591) rfl rfl (any_of HT_.out (by kernel_rfl)) (fun _ _ _ h => h) (Or.inr ⟨by rfl, rfl⟩) ?_ ?_
    rotate_left
    · simp only [nrm]
      rfl
    refine pure_ (i := 33) (N := some 36) (v := undef) (a' := ?_) (flg 36 17179869183) rfl rfl (any_of HT_.out (by kernel_rfl)) (fun _ _ _ h => h) (Or.inr ⟨by rfl, rfl⟩) ?_ ?_
    rotate_left
    · simp only [nrm]
      rfl
    refine pu_ (v := ?_) (a' := ?_) 34 (some 37) 34359738367 rfl rfl HT_ (by kernel_rfl) (.inl ⟨by rfl, ?_⟩) ?_ ?_; rotate_left 2; (· intro w'; go_simp; with_reducible rfl); (· simp only [nrm]; rfl)
    refine pu_ (v := ?_) (a' := ?_) 35 (some 2) 68719476735 rfl rfl HT_ (by kernel_rfl) (.inl ⟨by rfl, ?_⟩) ?_ ?_; rotate_left 2; (· intro w'; go_simp; with_reducible rfl); (· simp only [nrm]; rfl)
    refine done_ (done_of HT_.out (by kernel_rfl)) ?_
    clear HT_ HW_ hHeld
    go_wp2
    go_ret
    exact ⟨by rw [HR.out]; rfl, H.out⟩
  cases b
  · clear hl' hw
    go_enter Tryd.func154, Tryd.ntmps154
    go_wp2_with fail
    refine start_ (n := 36) (S := fun w' => w'.cell? ⟨s, 0, none⟩ = some (.int .i64 x.pp) ∧ w'.cell? ⟨s, 5, none⟩ = some (.int .i64 x.page) ∧ w'.cell? ⟨s, 4, none⟩ = some (.int .i64 x.cyc) ∧ w'.cell? ⟨s, 7, none⟩ = some (.int .i64 x.k) ∧ w'.cell? ⟨s, 8, none⟩ = some (.int .i64 x.c) ∧ w'.cell? ⟨s, 9, none⟩ = some (.int .i64 x.st) ∧ w'.cell? ⟨s, 10, none⟩ = some (.int .i64 x.o) ∧ w'.cell? ⟨s, 11, none⟩ = some (.int .i64 x.y)) (ds := []) (flg 36 0) (by kernel_rfl) rfl rfl (⟨H.out.drew.cell 0, H.out.drew.cell 5, H.out.drew.cell 4, H.out.drew.cell 7, H.out.drew.cell 8, H.out.drew.cell 9, H.out.drew.cell 10, H.out.drew.cell 11⟩) (fun hHeld => ?_)
    refine with_tabW due.tab1 due.bits1 (fun HT_ HW_ => ?_)
    refine pu_ (v := ?_) (a' := ?_) 0 (some 3) 1 rfl rfl HT_ (by kernel_rfl) (.inl ⟨by rfl, ?_⟩) ?_ ?_; rotate_left 2; (· intro w'; go_simp; with_reducible rfl); (· simp only [nrm]; rfl)
    refine pu_ (v := ?_) (a' := ?_) 1 (some 4) 3 rfl rfl HT_ (by kernel_rfl) (.inl ⟨by rfl, ?_⟩) ?_ ?_; rotate_left 2; (· intro w'; go_simp; with_reducible rfl); (· simp only [nrm]; rfl)
    refine pu_ (v := ?_) (a' := ?_) 2 (some 5) 7 rfl rfl HT_ (by kernel_rfl) (.inl ⟨by rfl, ?_⟩) ?_ ?_; rotate_left 2; (· intro w'; go_simp; with_reducible rfl); (· simp only [nrm]; rfl)
    refine tk_ (v := ?_) (a' := ?_) 3 (some 6) 15 rfl rfl HT_ HW_ (by kernel_rfl) (.inl ⟨by rfl, ?_⟩) hHeld ?_ ?_; rotate_left 2; (· rintro w' ⟨_, _, _, _, _, _, _, _⟩; go_simp; with_reducible rfl); (· simp only [nrm]; rfl)
    refine pu_ (v := ?_) (a' := ?_) 4 (some 7) 31 rfl rfl HT_ (by kernel_rfl) (.inl ⟨by rfl, ?_⟩) ?_ ?_; rotate_left 2; (· intro w'; go_simp; with_reducible rfl); (· simp only [nrm]; rfl)
    refine pu_ (v := ?_) (a' := ?_) 5 (some 8) 63 rfl rfl HT_ (by kernel_rfl) (.inl ⟨by rfl, ?_⟩) ?_ ?_; rotate_left 2; (· intro w'; go_simp; with_reducible rfl); (· simp only [nrm]; rfl)
    refine pu_ (v := ?_) (a' := ?_) 6 (some 9) 127 rfl rfl HT_ (by kernel_rfl) (.inl ⟨by rfl, ?_⟩) ?_ ?_; rotate_left 2; (· intro w'; go_simp; with_reducible rfl); (· simp only [nrm]; rfl)
    refine tk_ (v := ?_) (a' := ?_) 7 (some 10) 255 rfl rfl HT_ HW_ (by kernel_rfl) (.inl ⟨by rfl, ?_⟩) hHeld ?_ ?_; rotate_left 2; (· rintro w' ⟨_, _, _, _, _, _, _, _⟩; go_simp; with_reducible rfl); (· simp only [nrm]; rfl)
    refine on_ 8 (some 11) 511 rfl rfl HT_ (by kernel_rfl) (by decide) (fun K hK => ?_)
    refine goes_ Tryd.func161 (by kernel_rfl) rfl #[.agg #[.int .i64 x.k, .int .i64 x.c, .int .i64 x.st, .int .i64 x.o, .int .i64 x.y], .int .i64 x.cyc] (by rfl) rfl rfl (by (try simp only [List.map_toArray, List.map_cons, List.map_nil]); first | done | rfl) ?_
    refine (HD2.out _).mono ?_
    rintro e w1 ⟨rfl, hb⟩
    replace H := Aside.mk (H.out.drew.step hb)
    refine ⟨_, rfl, ?_⟩
    refine hK.out _ _ ⟨H.out.cell 0, H.out.cell 5, H.out.cell 4, H.out.cell 7, H.out.cell 8, H.out.cell 9, H.out.cell 10, H.out.cell 11⟩ (fun hHeld => ?_)
    clear hK K
    refine norm_ (a' := ?_) ?_ ?_
    rotate_left
    · show Act.put _ (some 11) _ = _
      simp only [nrm]
      rfl
    refine pu_ (v := ?_) (a' := ?_) 9 (some 12) 1023 rfl rfl HT_ (by kernel_rfl) (.inl ⟨by rfl, ?_⟩) ?_ ?_; rotate_left 2; (· intro w'; go_simp; with_reducible rfl); (· simp only [nrm]; rfl)
    refine pu_ (v := ?_) (a' := ?_) 10 (some 13) 2047 rfl rfl HT_ (by kernel_rfl) (.inl ⟨by rfl, ?_⟩) ?_ ?_; rotate_left 2; (· intro w'; go_simp; with_reducible rfl); (· simp only [nrm]; rfl)
    refine pu_ (v := ?_) (a' := ?_) 11 (some 14) 4095 rfl rfl HT_ (by kernel_rfl) (.inl ⟨by rfl, ?_⟩) ?_ ?_; rotate_left 2; (· intro w'; go_simp; with_reducible rfl); (· simp only [nrm]; rfl)
    refine pu_ (v := ?_) (a' := ?_) 12 (some 15) 8191 rfl rfl HT_ (by kernel_rfl) (.inl ⟨by rfl, ?_⟩) ?_ ?_; rotate_left 2; (· intro w'; go_simp; with_reducible rfl); (· simp only [nrm]; rfl)
    refine pu_ (v := ?_) (a' := ?_) 13 (some 16) 16383 rfl rfl HT_ (by kernel_rfl) (.inl ⟨by rfl, ?_⟩) ?_ ?_; rotate_left 2; (· intro w'; go_simp; with_reducible rfl); (· simp only [nrm]; rfl)
    refine tk_ (v := ?_) (a' := ?_) 14 (some 17) 32767 rfl rfl HT_ HW_ (by kernel_rfl) (.inl ⟨by rfl, ?_⟩) hHeld ?_ ?_; rotate_left 2; (· rintro w' ⟨_, _, _, _, _, _, _, _⟩; go_simp; with_reducible rfl); (· simp only [nrm]; rfl)
    refine pu_ (v := ?_) (a' := ?_) 15 (some 18) 65535 rfl rfl HT_ (by kernel_rfl) (.inl ⟨by rfl, ?_⟩) ?_ ?_; rotate_left 2; (· intro w'; go_simp; with_reducible rfl); (· simp only [nrm]; rfl)
    refine pu_ (v := ?_) (a' := ?_) 16 (some 19) 131071 rfl rfl HT_ (by kernel_rfl) (.inl ⟨by rfl, ?_⟩) ?_ ?_; rotate_left 2; (· intro w'; go_simp; with_reducible rfl); (· simp only [nrm]; rfl)
    refine pure_ (i := 17) (N := some 20) (v := undef) (a' := ?_) (flg 36 262143) rfl rfl (any_of HT_.out (by kernel_rfl)) (fun _ _ _ h => h) (Or.inr ⟨by rfl, rfl⟩) ?_ ?_
    rotate_left
    · simp only [nrm]
      rfl
    refine pure_ (i := 18) (N := some 21) (v := undef) (a' := ?_) (flg 36 524287) rfl rfl (any_of HT_.out (by kernel_rfl)) (fun _ _ _ h => h) (Or.inr ⟨by rfl, rfl⟩) ?_ ?_
    rotate_left
    · simp only [nrm]
      rfl
    refine pure_ (i := 19) (N := some 22) (v := undef) (a' := ?_) (flg 36 1048575) rfl rfl (any_of HT_.out (by kernel_rfl)) (fun _ _ _ h => h) (Or.inr ⟨by rfl, rfl⟩) ?_ ?_
    rotate_left
    · simp only [nrm]
      rfl
    refine pure_ (i := 20) (N := some 23) (v := undef) (a' := ?_) (flg 36 2097151) rfl rfl (any_of HT_.out (by kernel_rfl)) (fun _ _ _ h => h) (Or.inr ⟨by rfl, rfl⟩) ?_ ?_
    rotate_left
    · simp only [nrm]
      rfl
    refine pure_ (i := 21) (N := some 24) (v := undef) (a' := ?_) (flg 36 4194303) rfl rfl (any_of HT_.out (by kernel_rfl)) (fun _ _ _ h => h) (Or.inr ⟨by rfl, rfl⟩) ?_ ?_
    rotate_left
    · simp only [nrm]
      rfl
    refine pure_ (i := 22) (N := some 25) (v := undef) (a' := ?_) (flg 36 8388607) rfl rfl (any_of HT_.out (by kernel_rfl)) (fun _ _ _ h => h) (Or.inr ⟨by rfl, rfl⟩) ?_ ?_
    rotate_left
    · simp only [nrm]
      rfl
    refine pure_ (i := 23) (N := some 26) (v := undef) (a' := ?_) (flg 36 16777215) rfl rfl (any_of HT_.out (by kernel_rfl)) (fun _ _ _ h => h) (Or.inr ⟨by rfl, rfl⟩) ?_ ?_
    rotate_left
    · simp only [nrm]
      rfl
    refine pure_ (i := 24) (N := some 27) (v := undef) (a' := ?_) (flg 36 33554431) rfl rfl (any_of HT_.out (by kernel_rfl)) (fun _ _ _ h => h) (Or.inr ⟨by rfl, rfl⟩) ?_ ?_
    rotate_left
    · simp only [nrm]
      rfl
    refine pure_ (i := 25) (N := some 28) (v := undef) (a' := ?_) (flg 36 67108863) rfl rfl (any_of HT_.out (by kernel_rfl)) (fun _ _ _ h => h) (Or.inr ⟨by rfl, rfl⟩) ?_ ?_
    rotate_left
    · simp only [nrm]
      rfl
    refine pure_ (i := 26) (N := some 29) (v := undef) (a' := ?_) (flg 36 134217727) rfl rfl (any_of HT_.out (by kernel_rfl)) (fun _ _ _ h => h) (Or.inr ⟨by rfl, rfl⟩) ?_ ?_
    rotate_left
    · simp only [nrm]
      rfl
    refine pure_ (i := 27) (N := some 30) (v := undef) (a' := ?_) (flg 36 268435455) rfl rfl (any_of HT_.out (by kernel_rfl)) (fun _ _ _ h => h) (Or.inr ⟨by rfl, rfl⟩) ?_ ?_
    rotate_left
    · simp only [nrm]
      rfl
    refine pure_ (i := 28) (N := some 31) (v := undef) (a' := ?_) (flg 36 536870911) rfl rfl (any_of HT_.out (by kernel_rfl)) (fun _ _ _ h => h) (Or.inr ⟨by rfl, rfl⟩) ?_ ?_
    rotate_left
    · simp only [nrm]
      rfl
    refine pure_ (i := 29) (N := some 32) (v := undef) (a' := ?_) (flg 36 1073741823) rfl rfl (any_of HT_.out (by kernel_rfl)) (fun _ _ _ h => h) (Or.inr ⟨by rfl, rfl⟩) ?_ ?_
    rotate_left
    · simp only [nrm]
      rfl
    refine pure_ (i := 30) (N := some 33) (v := undef) (a' := ?_) (flg 36 2147483647) rfl rfl (any_of HT_.out (by kernel_rfl)) (fun _ _ _ h => h) (Or.inr ⟨by rfl, rfl⟩) ?_ ?_
    rotate_left
    · simp only [nrm]
      rfl
    refine pure_ (i := 31) (N := some 34) (v := undef) (a' := ?_) (flg 36 4294967295) rfl rfl (any_of HT_.out (by kernel_rfl)) (fun _ _ _ h => h) (Or.inr ⟨by rfl, rfl⟩) ?_ ?_
    rotate_left
    · simp only [nrm]
      rfl
    refine pure_ (i := 32) (N := some 35) (v := undef) (a' := ?_) (flg 36 8589934591) rfl rfl (any_of HT_.out (by kernel_rfl)) (fun _ _ _ h => h) (Or.inr ⟨by rfl, rfl⟩) ?_ ?_
    rotate_left
    · simp only [nrm]
      rfl
    refine pu_ (v := ?_) (a' := ?_) 33 (some 36) 17179869183 rfl rfl HT_ (by kernel_rfl) (.inl ⟨by rfl, ?_⟩) ?_ ?_; rotate_left 2; (· intro w'; go_simp; with_reducible rfl); (· simp only [nrm]; rfl)
    refine pu_ (v := ?_) (a' := ?_) 34 (some 37) 34359738367 rfl rfl HT_ (by kernel_rfl) (.inl ⟨by rfl, ?_⟩) ?_ ?_; rotate_left 2; (· intro w'; go_simp; with_reducible rfl); (· simp only [nrm]; rfl)
    refine pu_ (v := ?_) (a' := ?_) 35 (some 2) 68719476735 rfl rfl HT_ (by kernel_rfl) (.inl ⟨by rfl, ?_⟩) ?_ ?_; rotate_left 2; (· intro w'; go_simp; with_reducible rfl); (· simp only [nrm]; rfl)
    refine done_ (done_of HT_.out (by kernel_rfl)) ?_
    clear HT_ HW_ hHeld
    go_wp2
    go_ret
    exact ⟨by rw [HR.out, ← HB.out]; rfl, H.out⟩
  · go_enter Tryd.func154, Tryd.ntmps154
    go_wp2_with fail
    refine start_ (n := 36) (S := fun w' => w'.cell? ⟨s, 0, none⟩ = some (.int .i64 x.pp) ∧ w'.cell? ⟨s, 5, none⟩ = some (.int .i64 x.page) ∧ w'.cell? ⟨s, 4, none⟩ = some (.int .i64 x.cyc) ∧ w'.cell? ⟨s, 7, none⟩ = some (.int .i64 x.k) ∧ w'.cell? ⟨s, 8, none⟩ = some (.int .i64 x.c) ∧ w'.cell? ⟨s, 9, none⟩ = some (.int .i64 x.st) ∧ w'.cell? ⟨s, 10, none⟩ = some (.int .i64 x.o) ∧ w'.cell? ⟨s, 11, none⟩ = some (.int .i64 x.y)) (ds := []) (flg 36 0) (by kernel_rfl) rfl rfl (⟨H.out.drew.cell 0, H.out.drew.cell 5, H.out.drew.cell 4, H.out.drew.cell 7, H.out.drew.cell 8, H.out.drew.cell 9, H.out.drew.cell 10, H.out.drew.cell 11⟩) (fun hHeld => ?_)
    refine with_tabW due.tab1 due.bits1 (fun HT_ HW_ => ?_)
    refine pu_ (v := ?_) (a' := ?_) 0 (some 3) 1 rfl rfl HT_ (by kernel_rfl) (.inl ⟨by rfl, ?_⟩) ?_ ?_; rotate_left 2; (· intro w'; go_simp; with_reducible rfl); (· simp only [nrm]; rfl)
    refine pu_ (v := ?_) (a' := ?_) 1 (some 4) 3 rfl rfl HT_ (by kernel_rfl) (.inl ⟨by rfl, ?_⟩) ?_ ?_; rotate_left 2; (· intro w'; go_simp; with_reducible rfl); (· simp only [nrm]; rfl)
    refine pu_ (v := ?_) (a' := ?_) 2 (some 5) 7 rfl rfl HT_ (by kernel_rfl) (.inl ⟨by rfl, ?_⟩) ?_ ?_; rotate_left 2; (· intro w'; go_simp; with_reducible rfl); (· simp only [nrm]; rfl)
    refine tk_ (v := ?_) (a' := ?_) 3 (some 6) 15 rfl rfl HT_ HW_ (by kernel_rfl) (.inl ⟨by rfl, ?_⟩) hHeld ?_ ?_; rotate_left 2; (· rintro w' ⟨_, _, _, _, _, _, _, _⟩; go_simp; with_reducible rfl); (· simp only [nrm]; rfl)
    refine pu_ (v := ?_) (a' := ?_) 4 (some 7) 31 rfl rfl HT_ (by kernel_rfl) (.inl ⟨by rfl, ?_⟩) ?_ ?_; rotate_left 2; (· intro w'; go_simp; with_reducible rfl); (· simp only [nrm]; rfl)
    refine pu_ (v := ?_) (a' := ?_) 5 (some 8) 63 rfl rfl HT_ (by kernel_rfl) (.inl ⟨by rfl, ?_⟩) ?_ ?_; rotate_left 2; (· intro w'; go_simp; with_reducible rfl); (· simp only [nrm]; rfl)
    refine pu_ (v := ?_) (a' := ?_) 6 (some 9) 127 rfl rfl HT_ (by kernel_rfl) (.inl ⟨by rfl, ?_⟩) ?_ ?_; rotate_left 2; (· intro w'; go_simp; with_reducible rfl); (· simp only [nrm]; rfl)
    refine tk_ (v := ?_) (a' := ?_) 7 (some 10) 255 rfl rfl HT_ HW_ (by kernel_rfl) (.inl ⟨by rfl, ?_⟩) hHeld ?_ ?_; rotate_left 2; (· rintro w' ⟨_, _, _, _, _, _, _, _⟩; go_simp; with_reducible rfl); (· simp only [nrm]; rfl)
    refine on_ 8 (some 11) 511 rfl rfl HT_ (by kernel_rfl) (by decide) (fun K hK => ?_)
    refine goes_ Tryd.func161 (by kernel_rfl) rfl #[.agg #[.int .i64 x.k, .int .i64 x.c, .int .i64 x.st, .int .i64 x.o, .int .i64 x.y], .int .i64 x.cyc] (by rfl) rfl rfl (by (try simp only [List.map_toArray, List.map_cons, List.map_nil]); first | done | rfl) ?_
    refine (HD2.out _).mono ?_
    rintro e w1 ⟨rfl, hb⟩
    replace H := Aside.mk (H.out.drew.step hb)
    refine ⟨_, rfl, ?_⟩
    refine hK.out _ _ ⟨H.out.cell 0, H.out.cell 5, H.out.cell 4, H.out.cell 7, H.out.cell 8, H.out.cell 9, H.out.cell 10, H.out.cell 11⟩ (fun hHeld => ?_)
    clear hK K
    refine norm_ (a' := ?_) ?_ ?_
    rotate_left
    · show Act.put _ (some 11) _ = _
      simp only [nrm]
      rfl
    refine pu_ (v := ?_) (a' := ?_) 9 (some 12) 1023 rfl rfl HT_ (by kernel_rfl) (.inl ⟨by rfl, ?_⟩) ?_ ?_; rotate_left 2; (· intro w'; go_simp; with_reducible rfl); (· simp only [nrm]; rfl)
    refine pu_ (v := ?_) (a' := ?_) 10 (some 13) 2047 rfl rfl HT_ (by kernel_rfl) (.inl ⟨by rfl, ?_⟩) ?_ ?_; rotate_left 2; (· intro w'; go_simp; with_reducible rfl); (· simp only [nrm]; rfl)
    refine pu_ (v := ?_) (a' := ?_) 11 (some 14) 4095 rfl rfl HT_ (by kernel_rfl) (.inl ⟨by rfl, ?_⟩) ?_ ?_; rotate_left 2; (· intro w'; go_simp; with_reducible rfl); (· simp only [nrm]; rfl)
    refine pu_ (v := ?_) (a' := ?_) 12 (some 15) 8191 rfl rfl HT_ (by kernel_rfl) (.inl ⟨by rfl, ?_⟩) ?_ ?_; rotate_left 2; (· intro w'; go_simp; with_reducible rfl); (· simp only [nrm]; rfl)
    refine pu_ (v := ?_) (a' := ?_) 13 (some 16) 16383 rfl rfl HT_ (by kernel_rfl) (.inl ⟨by rfl, ?_⟩) ?_ ?_; rotate_left 2; (· intro w'; go_simp; with_reducible rfl); (· simp only [nrm]; rfl)
    refine tk_ (v := ?_) (a' := ?_) 14 (some 17) 32767 rfl rfl HT_ HW_ (by kernel_rfl) (.inl ⟨by rfl, ?_⟩) hHeld ?_ ?_; rotate_left 2; (· rintro w' ⟨_, _, _, _, _, _, _, _⟩; go_simp; with_reducible rfl); (· simp only [nrm]; rfl)
    refine pu_ (v := ?_) (a' := ?_) 15 (some 18) 65535 rfl rfl HT_ (by kernel_rfl) (.inl ⟨by rfl, ?_⟩) ?_ ?_; rotate_left 2; (· intro w'; go_simp; with_reducible rfl); (· simp only [nrm]; rfl)
    refine pu_ (v := ?_) (a' := ?_) 16 (some 19) 131071 rfl rfl HT_ (by kernel_rfl) (.inl ⟨by rfl, ?_⟩) ?_ ?_; rotate_left 2; (· intro w'; go_simp; with_reducible rfl); (· simp only [nrm]; rfl)
    refine pu_ (v := ?_) (a' := ?_) 17 (some 20) 262143 rfl rfl HT_ (by kernel_rfl) (.inl ⟨by rfl, ?_⟩) ?_ ?_; rotate_left 2; (· intro w'; go_simp; with_reducible rfl); (· simp only [nrm]; rfl)
    refine pu_ (v := ?_) (a' := ?_) 18 (some 21) 524287 rfl rfl HT_ (by kernel_rfl) (.inl ⟨by rfl, ?_⟩) ?_ ?_; rotate_left 2; (· intro w'; go_simp; with_reducible rfl); (· simp only [nrm]; rfl)
    refine pu_ (v := ?_) (a' := ?_) 19 (some 22) 1048575 rfl rfl HT_ (by kernel_rfl) (.inl ⟨by rfl, ?_⟩) ?_ ?_; rotate_left 2; (· intro w'; go_simp; with_reducible rfl); (· simp only [nrm]; rfl)
    refine tk_ (v := ?_) (a' := ?_) 20 (some 23) 2097151 rfl rfl HT_ HW_ (by kernel_rfl) (.inl ⟨by rfl, ?_⟩) hHeld ?_ ?_; rotate_left 2; (· rintro w' ⟨_, _, _, _, _, _, _, _⟩; go_simp; with_reducible rfl); (· simp only [nrm]; rfl)
    refine pu_ (v := ?_) (a' := ?_) 21 (some 24) 4194303 rfl rfl HT_ (by kernel_rfl) (.inl ⟨by rfl, ?_⟩) ?_ ?_; rotate_left 2; (· intro w'; go_simp; with_reducible rfl); (· simp only [nrm]; rfl)
    refine pu_ (v := ?_) (a' := ?_) 22 (some 25) 8388607 rfl rfl HT_ (by kernel_rfl) (.inl ⟨by rfl, ?_⟩) ?_ ?_; rotate_left 2; (· intro w'; go_simp; with_reducible rfl); (· simp only [nrm]; rfl)
    refine pu_ (v := ?_) (a' := ?_) 23 (some 26) 16777215 rfl rfl HT_ (by kernel_rfl) (.inl ⟨by rfl, ?_⟩) ?_ ?_; rotate_left 2; (· intro w'; go_simp; with_reducible rfl); (· simp only [nrm]; rfl)
    refine pu_ (v := ?_) (a' := ?_) 24 (some 27) 33554431 rfl rfl HT_ (by kernel_rfl) (.inl ⟨by rfl, ?_⟩) ?_ ?_; rotate_left 2; (· intro w'; go_simp; with_reducible rfl); (· simp only [nrm]; rfl)
    refine tk_ (v := ?_) (a' := ?_) 25 (some 28) 67108863 rfl rfl HT_ HW_ (by kernel_rfl) (.inl ⟨by rfl, ?_⟩) hHeld ?_ ?_; rotate_left 2; (· rintro w' ⟨_, _, _, _, _, _, _, _⟩; go_simp; with_reducible rfl); (· simp only [nrm]; rfl)
    refine pu_ (v := ?_) (a' := ?_) 26 (some 29) 134217727 rfl rfl HT_ (by kernel_rfl) (.inl ⟨by rfl, ?_⟩) ?_ ?_; rotate_left 2; (· intro w'; go_simp; with_reducible rfl); (· simp only [nrm]; rfl)
    refine pu_ (v := ?_) (a' := ?_) 27 (some 30) 268435455 rfl rfl HT_ (by kernel_rfl) (.inl ⟨by rfl, ?_⟩) ?_ ?_; rotate_left 2; (· intro w'; go_simp; with_reducible rfl); (· simp only [nrm]; rfl)
    refine pu_ (v := ?_) (a' := ?_) 28 (some 31) 536870911 rfl rfl HT_ (by kernel_rfl) (.inl ⟨by rfl, ?_⟩) ?_ ?_; rotate_left 2; (· intro w'; go_simp; with_reducible rfl); (· simp only [nrm]; rfl)
    refine pu_ (v := ?_) (a' := ?_) 29 (some 32) 1073741823 rfl rfl HT_ (by kernel_rfl) (.inl ⟨by rfl, ?_⟩) ?_ ?_; rotate_left 2; (· intro w'; go_simp; with_reducible rfl); (· simp only [nrm]; rfl)
    refine pu_ (v := ?_) (a' := ?_) 30 (some 33) 2147483647 rfl rfl HT_ (by kernel_rfl) (.inl ⟨by rfl, ?_⟩) ?_ ?_; rotate_left 2; (· intro w'; go_simp; with_reducible rfl); (· simp only [nrm]; rfl)
    refine tk_ (v := ?_) (a' := ?_) 31 (some 34) 4294967295 rfl rfl HT_ HW_ (by kernel_rfl) (.inl ⟨by rfl, ?_⟩) hHeld ?_ ?_; rotate_left 2; (· rintro w' ⟨_, _, _, _, _, _, _, _⟩; go_simp; with_reducible rfl); (· simp only [nrm]; rfl)
    refine pu_ (v := ?_) (a' := ?_) 32 (some 35) 8589934591 rfl rfl HT_ (by kernel_rfl) (.inl ⟨by rfl, ?_⟩) ?_ ?_; rotate_left 2; (· intro w'; go_simp; with_reducible rfl); (· simp only [nrm]; rfl)
    refine pu_ (v := ?_) (a' := ?_) 33 (some 36) 17179869183 rfl rfl HT_ (by kernel_rfl) (.inl ⟨by rfl, ?_⟩) ?_ ?_; rotate_left 2; (· intro w'; go_simp; with_reducible rfl); (· simp only [nrm]; rfl)
    refine pu_ (v := ?_) (a' := ?_) 34 (some 37) 34359738367 rfl rfl HT_ (by kernel_rfl) (.inl ⟨by rfl, ?_⟩) ?_ ?_; rotate_left 2; (· intro w'; go_simp; with_reducible rfl); (· simp only [nrm]; rfl)
    refine pu_ (v := ?_) (a' := ?_) 35 (some 2) 68719476735 rfl rfl HT_ (by kernel_rfl) (.inl ⟨by rfl, ?_⟩) ?_ ?_; rotate_left 2; (· intro w'; go_simp; with_reducible rfl); (· simp only [nrm]; rfl)
    refine done_ (done_of HT_.out (by kernel_rfl)) ?_
    clear HT_ HW_ hHeld
    go_wp2
    go_ret
    exact ⟨by rw [HR.out, ← HB.out, ← HL.out]; rfl, H.out⟩
end Go.Proofs.YtelfiegocdjnoaaDoor.Ar
