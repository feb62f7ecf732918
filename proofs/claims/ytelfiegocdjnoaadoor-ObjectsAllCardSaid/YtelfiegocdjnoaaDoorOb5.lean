/- 'built' is true. Conditions: the package array of sizes reads as it was laid. -/
import Derived.Test.YtelfiegocdjnoaaDoorMgM
import Derived.Test.YtelfiegocdjnoaaDoorMgI
import Derived.Deep.CutBlock
import Derived.Test.YtelfiegocdjnoaaDoorMrF0
import Derived.Test.YtelfiegocdjnoaaDoorMrF2
import Derived.Test.YtelfiegocdjnoaaDoorMrF1
namespace Go.Proofs.YtelfiegocdjnoaaDoor.Ar
open Go Go.RowKit Go.Proofs.YtelfiegocdjnoaaDoor.Sep Go.Proofs.YtelfiegocdjnoaaDoorW.PrintWords Go.Proofs.YtelfiegocdjnoaaDoorW.PrintLast Go.Proofs.YtelfiegocdjnoaaDoorW.PrintMore Go.Proofs.YtelfiegocdjnoaaDoor.Q
set_option linter.unusedVariables false
set_option linter.unusedSimpArgs false
set_option maxHeartbeats 8000000
set_option maxRecDepth 100000
def bu.T4 : Bool × List (List Nat × List Nat) := (true, [([], []), ([], []), ([1], [1]), ([], []), ([2, 3], [2, 3]), ([], []), ([5, 2], [5]), ([6], [6]), ([4, 7], [4, 7]), ([0, 8, 6], [0, 8]), ([9], [9]), ([10], [10]), ([10], [10]), ([10], [10]), ([11, 9, 0, 1, 2, 3, 4, 5, 6, 7, 8, 9, 10, 11], [11]), ([12, 14, 0, 1, 2, 3, 4, 5, 6, 7, 8, 9, 10, 11, 12, 14], [12]), ([13, 15, 0, 1, 2, 3, 4, 5, 6, 7, 8, 9, 10, 11, 12, 13, 14, 15], [13])])
def bu.B4 : List Nat := [0, 0, 2, 0, 14, 0, 38, 102, 254, 511, 1023, 2047, 2047, 2047, 4095, 24575, 65535]
theorem bu.tab4 : rtab .any (opsOf Tryd.f11 4) = bu.T4 := by kernel_rfl
theorem bu.bits4 : waitsOk bu.T4.2 bu.B4 = true := by kernel_rfl
def HD : Int := 11889503016258174978
def bL : List (Int × Int) := [(22, 65), (23, 4)]
def bX : Nat → List Int
  | 0 => layS 128 2 bL
  | 1 => (layS 128 2 bL).set 67 0
  | _ => ((layS 128 2 bL).set 67 0).set 66 HD
abbrev BQ (q : Nat) : HP := blk q #[.int .i64 1, .int .i64 1, .int .i64 1] 25
abbrev BD (d : Nat) : HP := blk d #[.int .i64 1, .int .i64 1, .int .i64 1, .int .i64 64, .int .i64 22, .int .i64 128] 27
abbrev BT (t : Nat) : HP := blk t #[.slice none 0 0, .slice none 0 0] 157
theorem bX_l (i : Nat) : (bX i).length = 128 := by
  match i with
  | 0 => exact layS_len 128 2 bL
  | 1 => show ((layS 128 2 bL).set 67 0).length = 128; rw [List.length_set, layS_len]
  | _ + 2 => show (((layS 128 2 bL).set 67 0).set 66 HD).length = 128; rw [List.length_set, List.length_set, layS_len]
theorem s0_ {w0 w : World} {F : List HP} {p a gC b : Nat} {lv : Value} (h : St w0 w (Are p a gC 0 true (bX 0) lv [] 0 0 ++ bdB b 66 HD 1 false :: F)) :
    Calls Tryd.prog 18 #[.pointer (some ⟨b, 0, none⟩), .pointer (some ⟨p, 0, none⟩)] w fun e w' => ∃ lv' l', e = .returned (.bool false) ∧ l'.length = 1 ∧ St w0 w' (Are p a gC 0 false (bX 1) lv' l' 1 0 ++ bdB b 66 HD 0 false :: F) := by
  refine (bstep_more (i := 66) (k := 0) (X := bX 0) (by rw [bX_l]; decide) (by rw [bX_l]; decide) (by simp) (by decide) (by decide) h).mono ?_
  rintro e w' ⟨lv', rfl, h9⟩
  exact ⟨lv', _, rfl, rfl, h9⟩
theorem s1_ {w0 w : World} {F : List HP} {p a gC b : Nat} {lv : Value} {l : List Acc} (hl : l.length = 1) (h : St w0 w (Are p a gC 0 true (bX 1) lv l 1 0 ++ bdB b 66 HD 0 false :: F)) :
    Calls Tryd.prog 18 #[.pointer (some ⟨b, 0, none⟩), .pointer (some ⟨p, 0, none⟩)] w fun e w' => ∃ lv' l', e = .returned (.bool true) ∧ St w0 w' (Are p a gC 0 false (bX 2) lv' l' 2 0 ++ bdB b 66 HD 0 true :: F) := by
  refine (bstep_last (i := 66) (X := bX 1) (by rw [bX_l]; decide) (by rw [bX_l]; decide) (by omega) (by decide) (by decide) h).mono ?_
  rintro e w' ⟨lv', rfl, h9⟩
  exact ⟨lv', _, rfl, h9⟩
abbrev BW (p a gC b t gD d q : Nat) (X : List Int) (lv : Value) (l : List Acc) (cn left : Int) (dn : Bool) : List HP := Are p a gC 0 false X lv l cn 0 ++ bdB b 66 HD left dn :: [BT t, blk gD (U (bX 0)).toArray 22, BD d, BQ q]
theorem built_ {w : World} (hT : Tab w) : Calls Tryd.prog 11 #[] w fun e w' => e = .returned (.bool true) ∧ Below w.heap.size w w' := by
  have P1 := Aside.mk (show windrowref02_EncodeEntry.f 10 1 0 1 0 0 = some (65, 0) by decide +kernel)
  have P3 := Aside.mk (show windrowref06_Map_PageEntry.f 1 1 1 64 22 128 0 = some 22 by decide +kernel)
  have P4 := Aside.mk (show windrowref06_Map_Alloc.f 1 1 1 64 22 128 0 = some 23 by decide +kernel)
  have P5 := Aside.mk (show windrowlaw11_plan.f 1 1 1 = some (1, 1, 1) by decide +kernel)
  have P6 := Aside.mk cells_1
  have P7 := Aside.mk (show header_EncodeHead.f 10 0 2 1 = some (11889503016258174978, 0) by decide +kernel)
  have P8 := Aside.mk (show objects_lies.f 10 1 1 1 66 0 2 1 = some true by decide +kernel)
  have HTS : Aside (∀ (w1 : World) (L : List HP), St w w1 L → Tab w1) := ⟨fun _ _ hh => hT.st hh⟩
  have HT := Aside.mk hT
  have H := Aside.mk ((St.start w).alloc #[.int .i64 0, .int .i64 0, .int .i64 0] 25)
  clear hT
  go_enter Tryd.func11, Tryd.ntmps11
  go_wp2_with (with_reducible refine stop_at (.store 25 (.tmp 1) (.tmp 17)) rfl ?_)
  obtain ⟨q, hq⟩ : ∃ q, q = w.heap.size := ⟨_, rfl⟩
  rw [← hq] at H ⊢
  refine ⟨?_⟩
  refine st_store rfl rfl rfl [.int .i64 1, .int .i64 1, .int .i64 1] #[.int .i64 1, .int .i64 1, .int .i64 1] rfl rfl rfl (Nat.le_of_ble_eq_true rfl) (by simp [Value.oneCell']) H.out rfl ?_
  intro w1 h_
  replace H : Aside (St w w1 [BQ q]) := Aside.mk h_
  clear h_ hq
  have q0 := H.out.cell 0
  have q1 := H.out.cell 1
  have q2 := H.out.cell 2
  go_wp2_with (first
    | (go_at_call 32; refine (windrowref02_EncodeEntry.calls _ _ _ _ _ _ _ _ _ P1.out).mono ?_; rintro e w2 ⟨rfl, hb⟩; replace H := Aside.mk (H.out.step hb); clear hb q0 q1 q2; have q0 := H.out.cell 0; have q1 := H.out.cell 1; have q2 := H.out.cell 2)
    | (go_at_call 12; refine (draw_1 _).mono ?_; rintro e w3 ⟨rfl, hb⟩; replace H := Aside.mk (H.out.step hb); clear hb q0 q1 q2)
    | (with_reducible refine stop_at (.store 27 (.tmp 4) (.tmp 24)) rfl ?_))
  replace H := Aside.mk (H.out.alloc #[.int .i64 0, .int .i64 0, .int .i64 0, .int .i64 0, .int .i64 0, .int .i64 0] 27)
  generalize w3.heap.size = d at H ⊢
  refine ⟨?_⟩
  refine st_store rfl rfl rfl [.int .i64 1, .int .i64 1, .int .i64 1, .int .i64 64, .int .i64 22, .int .i64 128] #[.int .i64 1, .int .i64 1, .int .i64 1, .int .i64 64, .int .i64 22, .int .i64 128] rfl rfl rfl (Nat.le_of_ble_eq_true rfl) (by simp [Value.oneCell']) H.out rfl ?_
  intro w4 h_
  replace H : Aside (St w w4 [BD d, BQ q]) := Aside.mk h_
  clear h_
  go_wp2
  replace H := Aside.mk H.out.drew
  have HLAY : Aside (∀ (w6 : World) (sl : Nat), St w w6 [blk sl #[.int .i64 22, .int .u64 65, .int .i64 23, .int .u64 4] 34, BD d, BQ q] → Calls Tryd.prog 13 #[.agg #[.int .i64 1, .int .i64 1, .int .i64 1], .slice (some ⟨sl, 0, none⟩) 2 2] w6 fun e w' => ∃ a gC gD, e = .returned (.tuple #[.pointer (some ⟨a, 0, none⟩), .slice (some ⟨gD, 0, none⟩) 128 128, .bool true]) ∧ St w w' (LF a gC gD 128 (bX 0) ++ [BD d, BQ q])) := by
    refine ⟨fun w6 sl h => ?_⟩
    refine (lay_g P6.out (by decide) (by decide) (some ⟨sl, 0, none⟩) 2 bL w6 ?_).mono ?_
    · intro i hi
      refine ⟨_, rfl, ?_⟩
      have hi2 : i < 2 := hi
      have h0 := h.cell 0
      have h1 := h.cell 1
      have h2 := h.cell 2
      have h3 := h.cell 3
      obtain rfl | rfl : i = 0 ∨ i = 1 := by omega
      · exact ⟨h0, h1⟩
      · exact ⟨h2, h3⟩
    · rintro e w' ⟨a, gC, gD, rfl, h9⟩
      exact ⟨a, gC, gD, rfl, h.rest.join h9⟩
  refine start_ (n := 17) (S := fun w' => w'.cell? ⟨d, 0, none⟩ = some (.int .i64 1) ∧ w'.cell? ⟨d, 1, none⟩ = some (.int .i64 1) ∧ w'.cell? ⟨d, 2, none⟩ = some (.int .i64 1) ∧ w'.cell? ⟨d, 3, none⟩ = some (.int .i64 64) ∧ w'.cell? ⟨d, 4, none⟩ = some (.int .i64 22) ∧ w'.cell? ⟨d, 5, none⟩ = some (.int .i64 128) ∧ w'.cell? ⟨q, 0, none⟩ = some (.int .i64 1) ∧ w'.cell? ⟨q, 1, none⟩ = some (.int .i64 1) ∧ w'.cell? ⟨q, 2, none⟩ = some (.int .i64 1)) (ds := []) (flg 17 0) (by kernel_rfl) rfl rfl (⟨H.out.cell 0, H.out.cell 1, H.out.cell 2, H.out.cell 3, H.out.cell 4, H.out.cell 5, (H.out.pick 1 rfl).cell 0, (H.out.pick 1 rfl).cell 1, (H.out.pick 1 rfl).cell 2⟩) (fun hHeld => ?_)
  refine with_tabW bu.tab4 bu.bits4 (fun HT_ HW_ => ?_)
  refine tk_ (v := ?_) (a' := ?_) 0 (some 26) 1 rfl rfl HT_ HW_ (by kernel_rfl) (.inl ⟨by rfl, ?_⟩) hHeld ?_ ?_; rotate_left 2; (· rintro w' ⟨_, _, _, _, _, _, _, _, _⟩; go_simp; with_reducible rfl); (· simp only [nrm]; rfl)
  refine tk_ (v := ?_) (a' := ?_) 1 (some 27) 3 rfl rfl HT_ HW_ (by kernel_rfl) (.inl ⟨by rfl, ?_⟩) hHeld ?_ ?_; rotate_left 2; (· rintro w' ⟨_, _, _, _, _, _, _, _, _⟩; go_simp; with_reducible rfl); (· simp only [nrm]; rfl)
  refine pu_ (v := ?_) (a' := ?_) 3 (some 29) 11 rfl rfl HT_ (by kernel_rfl) (.inl ⟨by rfl, ?_⟩) ?_ ?_; rotate_left 2; (· intro w'; go_simp; with_reducible rfl); (· simp only [nrm]; rfl)
  refine tk_ (v := ?_) (a' := ?_) 5 (some 31) 43 rfl rfl HT_ HW_ (by kernel_rfl) (.inl ⟨by rfl, ?_⟩) hHeld ?_ ?_; rotate_left 2; (· rintro w' ⟨_, _, _, _, _, _, _, _, _⟩; go_simp; with_reducible rfl); (· simp only [nrm]; rfl)
  refine on_ 2 (some 28) 47 rfl rfl HT_ (by kernel_rfl) (by decide) (fun K hK => ?_)
  refine goes_ Tryd.func33 (by kernel_rfl) rfl #[.agg #[.int .i64 1, .int .i64 1, .int .i64 1, .int .i64 64, .int .i64 22, .int .i64 128], .int .i64 0] (by rfl) rfl rfl (by (try simp only [List.map_toArray, List.map_cons, List.map_nil]); first | done | rfl) ?_
  refine (windrowref06_Map_PageEntry.calls _ _ _ _ _ _ _ _ _ P3.out).mono ?_
  rintro e w5 ⟨rfl, hb⟩
  replace H := Aside.mk (H.out.step hb)
  clear hb
  refine ⟨_, rfl, ?_⟩
  refine hK.out _ _ ⟨H.out.cell 0, H.out.cell 1, H.out.cell 2, H.out.cell 3, H.out.cell 4, H.out.cell 5, (H.out.pick 1 rfl).cell 0, (H.out.pick 1 rfl).cell 1, (H.out.pick 1 rfl).cell 2⟩ (fun hHeld => ?_)
  clear hK K
  refine norm_ (a' := ?_) ?_ ?_
  rotate_left
  · show Act.put _ (some 28) _ = _
    simp only [nrm]
    rfl
  refine pu_ (v := ?_) (a' := ?_) 4 (some 30) 63 rfl rfl HT_ (by kernel_rfl) (.inl ⟨by rfl, ?_⟩) ?_ ?_; rotate_left 2; (· intro w'; go_simp; with_reducible rfl); (· simp only [nrm]; rfl)
  refine on_ 6 (some 32) 127 rfl rfl HT_ (by kernel_rfl) (by decide) (fun K hK => ?_)
  refine goes_ Tryd.func36 (by kernel_rfl) rfl #[.agg #[.int .i64 1, .int .i64 1, .int .i64 1, .int .i64 64, .int .i64 22, .int .i64 128], .int .i64 0] (by rfl) rfl rfl (by (try simp only [List.map_toArray, List.map_cons, List.map_nil]); first | done | rfl) ?_
  refine (windrowref06_Map_Alloc.calls _ _ _ _ _ _ _ _ _ P4.out).mono ?_
  rintro e w6 ⟨rfl, hb⟩
  replace H := Aside.mk (H.out.step hb)
  clear hb
  refine ⟨_, rfl, ?_⟩
  refine hK.out _ _ ⟨H.out.cell 0, H.out.cell 1, H.out.cell 2, H.out.cell 3, H.out.cell 4, H.out.cell 5, (H.out.pick 1 rfl).cell 0, (H.out.pick 1 rfl).cell 1, (H.out.pick 1 rfl).cell 2⟩ (fun hHeld => ?_)
  clear hK K
  refine norm_ (a' := ?_) ?_ ?_
  rotate_left
  · show Act.put _ (some 32) _ = _
    simp only [nrm]
    rfl
  refine pu_ (v := ?_) (a' := ?_) 7 (some 33) 255 rfl rfl HT_ (by kernel_rfl) (.inl ⟨by rfl, ?_⟩) ?_ ?_; rotate_left 2; (· intro w'; go_simp; with_reducible rfl); (· simp only [nrm]; rfl)
  refine on_ 8 (some 34) 511 rfl rfl HT_ (by kernel_rfl) (by decide) (fun K hK => ?_)
  refine value_ (w1 := ?_) (v := ?_) (by rfl) rfl ?_ ?_
  rotate_left 2
  · go_simp
    constructor
    · rfl
    · rfl
  replace H := Aside.mk (H.out.alloc #[.int .i64 22, .int .u64 65, .int .i64 23, .int .u64 4] 34)
  generalize w6.heap.size = sl at H ⊢
  refine hK.out _ _ ⟨(H.out.pick 1 rfl).cell 0, (H.out.pick 1 rfl).cell 1, (H.out.pick 1 rfl).cell 2, (H.out.pick 1 rfl).cell 3, (H.out.pick 1 rfl).cell 4, (H.out.pick 1 rfl).cell 5, (H.out.pick 2 rfl).cell 0, (H.out.pick 2 rfl).cell 1, (H.out.pick 2 rfl).cell 2⟩ (fun hHeld => ?_)
  clear hK K
  refine norm_ (a' := ?_) ?_ ?_
  rotate_left
  · show Act.put _ (some 34) _ = _
    simp only [nrm]
    rfl
  refine on_ 9 (some 35) 1023 rfl rfl HT_ (by kernel_rfl) (by decide) (fun K hK => ?_)
  refine goes_ Tryd.func13 (by kernel_rfl) rfl #[.agg #[.int .i64 1, .int .i64 1, .int .i64 1], .slice (some ⟨sl, 0, none⟩) 2 2] (by rfl) rfl rfl (by (try simp only [List.map_toArray, List.map_cons, List.map_nil]); first | done | rfl) ?_
  refine (HLAY.out _ _ H.out).mono ?_
  rintro e w8 ⟨a, gC, gD, rfl, h9⟩
  replace H : Aside (St w w8 ([arB a gC 128 (.slice none 0 0) true 0 0, ceB gC (bX 0), blk gD (U (bX 0)).toArray 22, BD d, BQ q])) := Aside.mk h9
  clear h9
  refine ⟨_, rfl, ?_⟩
  refine hK.out _ _ ⟨(H.out.pick 3 rfl).cell 0, (H.out.pick 3 rfl).cell 1, (H.out.pick 3 rfl).cell 2, (H.out.pick 3 rfl).cell 3, (H.out.pick 3 rfl).cell 4, (H.out.pick 3 rfl).cell 5, (H.out.pick 4 rfl).cell 0, (H.out.pick 4 rfl).cell 1, (H.out.pick 4 rfl).cell 2⟩ (fun hHeld => ?_)
  clear hK K
  refine norm_ (a' := ?_) ?_ ?_
  rotate_left
  · show Act.put _ (some 35) _ = _
    simp only [nrm]
    rfl
  refine pu_ (v := ?_) (a' := ?_) 10 (some 25) 2047 rfl rfl HT_ (by kernel_rfl) (.inl ⟨by rfl, ?_⟩) ?_ ?_; rotate_left 2; (· intro w'; go_simp; with_reducible rfl); (· simp only [nrm]; rfl)
  refine pu_ (v := ?_) (a' := ?_) 11 (some 36) 4095 rfl rfl HT_ (by kernel_rfl) (.inl ⟨by rfl, ?_⟩) ?_ ?_; rotate_left 2; (· intro w'; go_simp; with_reducible rfl); (· simp only [nrm]; rfl)
  refine pu_ (v := ?_) (a' := ?_) 12 (some 37) 8191 rfl rfl HT_ (by kernel_rfl) (.inl ⟨by rfl, ?_⟩) ?_ ?_; rotate_left 2; (· intro w'; go_simp; with_reducible rfl); (· simp only [nrm]; rfl)
  refine pu_ (v := ?_) (a' := ?_) 13 (some 38) 16383 rfl rfl HT_ (by kernel_rfl) (.inl ⟨by rfl, ?_⟩) ?_ ?_; rotate_left 2; (· intro w'; go_simp; with_reducible rfl); (· simp only [nrm]; rfl)
  refine pu_ (v := ?_) (a' := ?_) 14 (some 5) 32767 rfl rfl HT_ (by kernel_rfl) (.inl ⟨by rfl, ?_⟩) ?_ ?_; rotate_left 2; (· intro w'; go_simp; with_reducible rfl); (· simp only [nrm]; rfl)
  refine pu_ (v := ?_) (a' := ?_) 15 (some 6) 65535 rfl rfl HT_ (by kernel_rfl) (.inl ⟨by rfl, ?_⟩) ?_ ?_; rotate_left 2; (· intro w'; go_simp; with_reducible rfl); (· simp only [nrm]; rfl)
  refine pu_ (v := ?_) (a' := ?_) 16 (some 7) 131071 rfl rfl HT_ (by kernel_rfl) (.inl ⟨by rfl, ?_⟩) ?_ ?_; rotate_left 2; (· intro w'; go_simp; with_reducible rfl); (· simp only [nrm]; rfl)
  refine done_ (done_of HT_.out (by kernel_rfl)) ?_
  clear HT_ HW_ hHeld
  have q0 := (H.out.pick 4 rfl).cell 0
  have q1 := (H.out.pick 4 rfl).cell 1
  have q2 := (H.out.pick 4 rfl).cell 2
  go_upto_block 0 with (first
    | (go_at_call 16; refine (port_ (who := 0) (by decide) (by decide) H.out).mono ?_; rintro e w9 ⟨p, rfl, h9⟩; replace H := Aside.mk h9; clear h9 q0 q1 q2; have q0 := (H.out.pick 5 rfl).cell 0; have q1 := (H.out.pick 5 rfl).cell 1; have q2 := (H.out.pick 5 rfl).cell 2)
    | (go_at_call 15; refine (windrowlaw11_plan.calls _ _ _ _ _ _ _ P5.out).mono ?_; rintro e w10 ⟨rfl, hb⟩; replace H := Aside.mk (H.out.step hb); clear hb q0 q1 q2)
    | (go_at_call 14; refine (newbuild_ P7.out P8.out H.out).mono ?_; rintro e w11 ⟨b, rfl, h9⟩; replace H := Aside.mk h9; clear h9)
    | (go_at_call 22; refine (newnil_ H.out).mono ?_; rintro e w12 ⟨t, rfl, h9⟩; replace H := Aside.mk h9; clear h9))
  replace H : Aside (St w w12 (BW p a gC b t gD d q (bX 0) (.slice none 0 0) [] 0 1 false)) := Aside.mk (by have h9 := (H.out.nil_row 98 7).order 9 [3, 4, 5, 0, 2, 1, 6, 7, 8] rfl rfl; show St w w12 (poB p a 0 false :: arB a gC (bX 0).length (.slice none 0 0) true 0 0 :: _); rw [bX_l]; exact h9)
  go_cut [15] (fun v15 wc => ∃ lv l, Aside (St w wc (BW p a gC b t gD d q (bX 2) lv l 2 0 true)))
  case first =>
    go_wp2_with fail
    go_loopg [15] (2) (fun m v15 w' => (m = 2 ∧ v15 = .int .i64 0 ∧ Aside (St w w' (BW p a gC b t gD d q (bX 0) (.slice none 0 0) [] 0 1 false))) ∨ (m = 1 ∧ v15 = .int .i64 1 ∧ ∃ lv l, Aside (l.length = 1 ∧ St w w' (BW p a gC b t gD d q (bX 1) lv l 1 0 false))) ∨ (m = 0 ∧ v15 = .int .i64 2 ∧ ∃ lv l, Aside (St w w' (BW p a gC b t gD d q (bX 2) lv l 2 0 true))))
    case atStart => exact .inl ⟨rfl, rfl, H⟩
    case round =>
      clear H
      obtain ⟨rfl, rfl, H⟩ | ⟨rfl, rfl, lv, l, H⟩ | ⟨rfl, rfl, lv, l, H⟩ := hrel
      · go_wp2_with (first
          | (go_at_call 17; refine (grant_ H.out).mono ?_; rintro e w13 ⟨rfl, h9⟩; replace H := Aside.mk h9; clear h9)
          | (go_at_call 18; refine (s0_ H.out).mono ?_; rintro e w14 ⟨lv1, l1, rfl, hl, h9⟩; replace H := Aside.mk (And.intro hl h9); clear hl h9))
        go_roundg (1)
        case measure => decide
        case rel => exact .inr (.inl ⟨rfl, rfl, lv1, l1, H⟩)
      · have HL := Aside.mk H.out.1
        replace H := Aside.mk H.out.2
        go_wp2_with (first
          | (go_at_call 17; refine (grant_ H.out).mono ?_; rintro e w13 ⟨rfl, h9⟩; replace H := Aside.mk h9; clear h9)
          | (go_at_call 18; refine (s1_ HL.out H.out).mono ?_; rintro e w14 ⟨lv1, l1, rfl, h9⟩; replace H := Aside.mk h9; clear h9))
        go_roundg (0)
        case measure => decide
        case rel => exact .inr (.inr ⟨rfl, rfl, lv1, l1, H⟩)
      · go_wp2
        go_meet
        case rel => exact ⟨lv, l, H⟩
  case rest =>
    clear H
    obtain ⟨lv, l, H⟩ := hcut
    have q0 := (H.out.pick 8 rfl).cell 0
    have q1 := (H.out.pick 8 rfl).cell 1
    have q2 := (H.out.pick 8 rfl).cell 2
    have HLK : Aside (∀ (w1 : World) (L : List HP), St w w1 (arB a gC (bX 2).length lv true 2 0 :: ceB gC (bX 2) :: L) → Calls Tryd.prog 23 #[.pointer (some ⟨a, 0, none⟩), .agg #[.int .i64 1, .int .i64 1, .int .i64 1], .pointer (some ⟨t, 0, none⟩), .int .i64 66] w1 fun e w' => ∃ V, e = .returned (.tuple #[.agg #[.int .i64 66, .int .i64 0, .int .i64 2, V], .int .i64 0]) ∧ St w w' (row 2 1 V 1 [.int .i64 0] :: arB a gC (bX 2).length lv true 2 0 :: ceB gC (bX 2) :: L)) :=
      ⟨fun w1 L h => look_b _ (bX_l 2) (by decide +kernel) (by decide +kernel) (by decide +kernel) (by decide +kernel) HT.out h⟩
    go_wp2_with (first
      | (go_at_call 15; refine (windrowlaw11_plan.calls _ _ _ _ _ _ _ P5.out).mono ?_; rintro e w15 ⟨rfl, hb⟩; replace H := Aside.mk (H.out.step hb); clear hb q0 q1 q2)
      | (with_reducible refine stop_at (.store 60 (.tmp 16) (.tmp 83)) rfl ?_)
      | (go_at_call 23; refine (HLK.out _ _ (H.out.order 3 [1, 2, 0] rfl rfl)).mono ?_; rintro e w16 ⟨V, rfl, h9⟩; replace H := Aside.mk h9; clear h9))
    obtain ⟨g9, c9, hv9, hc9, _⟩ := H.out.row_some (by decide)
    subst hv9
    clear hc9
    replace H := Aside.mk (H.out.alloc #[.int .i64 0, .int .i64 0, .int .i64 0, .slice none 0 0] 60)
    generalize w16.heap.size = x at H ⊢
    refine ⟨?_⟩
    refine st_store rfl rfl rfl [.int .i64 66, .int .i64 0, .int .i64 2, .slice (some ⟨g9, 0, none⟩) 1 c9] #[.int .i64 66, .int .i64 0, .int .i64 2, .slice (some ⟨g9, 0, none⟩) 1 c9] rfl rfl rfl (Nat.le_of_ble_eq_true rfl) (by simp [Value.oneCell']) H.out rfl ?_
    intro w17 h_
    replace H : Aside (St w w17 (blk x #[.int .i64 66, .int .i64 0, .int .i64 2, .slice (some ⟨g9, 0, none⟩) 1 c9] 60 :: row 2 1 (.slice (some ⟨g9, 0, none⟩) 1 c9) 1 [.int .i64 0] :: arB a gC (bX 2).length lv true 2 0 :: ceB gC (bX 2) :: poB p a 0 false :: row 98 7 lv l.length (accs l) :: bdB b 66 HD 0 true :: [BT t, blk gD (U (bX 0)).toArray 22, BD d, BQ q])) := Aside.mk h_
    clear h_
    obtain ⟨g8, c8, hv8, _, hcell⟩ := (H.out.pick 1 rfl).row_some (by decide)
    cases hv8
    have v0 : w17.cell? ⟨g9, 0, none⟩ = some (.int .i64 0) := hcell 0 _ rfl
    have x0 := H.out.cell 0
    have x2 := H.out.cell 2
    have x3 := H.out.cell 3
    clear hcell
    go_wp2_with (go_at_call 20; refine (over_ (H.out.pick 6 rfl)).mono ?_; rintro e w18 ⟨rfl, rfl⟩)
    go_ret
    exact ⟨rfl, H.out.below⟩
end Go.Proofs.YtelfiegocdjnoaaDoor.Ar
