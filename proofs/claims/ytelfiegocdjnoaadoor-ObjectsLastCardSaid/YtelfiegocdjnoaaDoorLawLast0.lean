/- ObjectsLast: the walk. Conditions: the package array of sizes reads as it was laid. -/
import Derived.Test.YtelfiegocdjnoaaDoorOb5
import Derived.Deep.CutBlock
namespace Go.Proofs.YtelfiegocdjnoaaDoor.Ar
open Go Go.RowKit Go.Proofs.YtelfiegocdjnoaaDoor.Sep Go.Proofs.YtelfiegocdjnoaaDoorW.PrintWords Go.Proofs.YtelfiegocdjnoaaDoorW.PrintLast Go.Proofs.YtelfiegocdjnoaaDoorW.PrintMore Go.Proofs.YtelfiegocdjnoaaDoor.Q
set_option linter.unusedVariables false
set_option linter.unusedSimpArgs false
set_option maxHeartbeats 8000000
set_option maxRecDepth 100000
def la.T9 : Bool × List (List Nat × List Nat) := (true, [([], []), ([0], [0]), ([], []), ([2], [2]), ([], []), ([4], [4]), ([1, 3, 5, 1], [1, 3, 5]), ([6], [6]), ([7], [7]), ([7], [7]), ([8, 6, 0, 1, 2, 3, 4, 5, 6, 7, 8], [8]), ([9, 10, 0, 1, 2, 3, 4, 5, 6, 7, 8, 9, 10], [9])])
def la.B9 : List Nat := [0, 1, 0, 4, 0, 16, 63, 127, 255, 255, 511, 2047]
theorem la.tab9 : rtab .any (opsOf Tryd.f3 9) = la.T9 := by kernel_rfl
theorem la.bits9 : waitsOk la.T9.2 la.B9 = true := by kernel_rfl
abbrev LQ (q : Nat) : HP := blk q #[.int .i64 4, .int .i64 1, .int .i64 1] 25
abbrev LD (d : Nat) : HP := blk d #[.int .i64 4, .int .i64 1, .int .i64 1, .int .i64 64, .int .i64 22, .int .i64 320] 27
abbrev LW (p a gC b gD d q : Nat) (XD X : List Int) (hd : Int) (lv : Value) (l : List Acc) (cn left : Int) (dn : Bool) : List HP := Are p a gC 1 false X lv l cn 0 ++ bdB b 64 hd left dn :: [blk gD (U XD).toArray 22, LD d, LQ q]
theorem lies_ : ∀ n : Fin 256, objects_lies.f 10 4 1 1 64 0 2 (n.val : Int) = some true := by decide +kernel
theorem enc_ : ∀ n : Fin 256, (header_EncodeHead.f 10 0 2 (n.val : Int)).map (·.2) = some 0 := by decide +kernel
theorem enc_n (n : Nat) (h : n < 256) : ∃ hd, header_EncodeHead.f 10 0 2 (n : Int) = some (hd, 0) := by
  have h1 := enc_ ⟨n, h⟩
  simp only at h1
  obtain ⟨⟨x, y⟩, h2, h3⟩ := Option.map_eq_some_iff.1 h1
  exact ⟨x, by rw [h2]; simp only at h3; rw [h3]⟩
theorem mod_n (x : Int) (m : Nat) (h : 1 ≤ m) (hm : m ≤ 1000) : ∃ k : Nat, k < m ∧ wrap64 (Int.tmod (IntKind.u64.wrap x) (m : Int)) = k := by
  refine ⟨posN m x, posN_lt m x h, ?_⟩
  rw [posN_is m x h]
  have := posN_lt m x h
  unfold wrap64
  omega
/-- What a build has done behind i steps. -/
def LI (nn i : Nat) (was : Int) (X : List Int) (left : Int) (dn : Bool) : Prop := X.length = 320 ∧ ((i ≤ nn ∧ X.getD 64 0 = was ∧ left = ((nn - i : Nat) : Int) ∧ dn = false) ∨ (i = nn + 1 ∧ left = 0 ∧ dn = true))
theorem lstep_ {w0 w : World} {F : List HP} {p a gC b nn i : Nat} {was hd : Int} {X : List Int} {lv : Value} {l : List Acc} {left : Int} {dn : Bool} (hn : nn < 256) (hi : i ≤ nn) (hl : l.length = i) (h0 : LI nn i was X left dn) (h : St w0 w (Are p a gC 1 true X lv l (i : Int) 0 ++ bdB b 64 hd left dn :: F)) :
    Calls Tryd.prog 18 #[.pointer (some ⟨b, 0, none⟩), .pointer (some ⟨p, 0, none⟩)] w fun e w' => ∃ r X' lv' l' left' dn', e = .returned (.bool r) ∧ l'.length = i + 1 ∧ LI nn (i + 1) was X' left' dn' ∧ St w0 w' (Are p a gC 1 false X' lv' l' ((i : Int) + 1) 0 ++ bdB b 64 hd left' dn' :: F) := by
  obtain ⟨hX, ⟨_, hw, rfl, rfl⟩ | ⟨h9, _, _⟩⟩ := h0
  · obtain ⟨k, hk⟩ | hk : (∃ k, nn - i = k + 1) ∨ nn - i = 0 := by
      by_cases h : nn - i = 0
      · exact .inr h
      · exact .inl ⟨nn - i - 1, by omega⟩
    · rw [hk] at h
      refine (bstep_more (i := 64) (k := k) (X := X) (by omega) (by omega) (by omega) (by omega) (by omega) h).mono ?_
      rintro e w' ⟨lv', rfl, h9⟩
      refine ⟨_, _, _, _, _, _, rfl, by simp [hl], ⟨by rw [List.length_set]; exact hX, .inl ⟨by omega, ?_, ?_, rfl⟩⟩, h9⟩
      · rw [List.getD_eq_getElem?_getD, List.getElem?_set_ne (by omega), ← List.getD_eq_getElem?_getD]; exact hw
      · congr 1; omega
    · rw [hk] at h
      refine (bstep_last (i := 64) (X := X) (by omega) (by omega) (by omega) (by omega) (by omega) h).mono ?_
      rintro e w' ⟨lv', rfl, h9⟩
      exact ⟨_, _, _, _, _, _, rfl, by simp [hl], ⟨by rw [List.length_set]; exact hX, .inr ⟨by omega, rfl, rfl⟩⟩, h9⟩
  · omega
theorem law_last (n was steps : Int) (w : World) (hT : Tab w) : Calls Tryd.prog 3 #[.int .i64 n, .int .u64 was, .int .i64 steps] w fun e w' => e = .returned (.bool true) ∧ Below w.heap.size w w' := by
  have P2 := Aside.mk (show windrowref06_Draw.f 1000 4 1 1 = some (4, 1, 1, 64, 22, 320) by decide +kernel)
  have P5 := Aside.mk (show windrowlaw11_plan.f 4 1 1 = some (4, 1, 1) by decide +kernel)
  have P6 := Aside.mk (show windrowref06_Cells.f 1000 4 1 1 = some ((320 : Nat) : Int) by decide +kernel)
  obtain ⟨nn, hnn, en⟩ := mod_n n 256 (by decide) (by decide)
  obtain ⟨hd, hhd⟩ := enc_n nn hnn
  obtain ⟨ss, hss, es⟩ := mod_n steps (nn + 2) (by omega) (by omega)
  have P7 := Aside.mk hhd
  have P8 : Aside (objects_lies.f 10 4 1 1 64 0 2 (nn : Int) = some true) := ⟨lies_ ⟨nn, hnn⟩⟩
  have HN := Aside.mk hnn
  have HS := Aside.mk hss
  have en' : wrap64 (Int.tmod (IntKind.u64.wrap n) 256) = nn := en
  have e2 : wrap64 ((nn : Int) + 2) = (nn : Int) + 2 := by unfold wrap64; omega
  have e3 : IntKind.u64.wrap ((nn : Int) + 2) = (nn : Int) + 2 := by unfold IntKind.wrap; simp only [IntKind.bits, IntKind.signed]; first | omega | (simp; omega)
  have e4 : ((nn : Int) + 2 == 0) = false := by simp; omega
  have es' : wrap64 (Int.tmod (IntKind.u64.wrap steps) ((nn : Int) + 2)) = ss := by rw [← es]; push_cast; rfl
  have ES := Aside.mk es'
  have E4 := Aside.mk e4
  have E3 := Aside.mk e3
  have E2 := Aside.mk e2
  have HLAY : Aside (∀ (w6 : World) (sl d q : Nat), St w w6 [blk sl #[.int .i64 64, .int .u64 was] 34, LD d, LQ q] → Calls Tryd.prog 13 #[.agg #[.int .i64 4, .int .i64 1, .int .i64 1], .slice (some ⟨sl, 0, none⟩) 1 1] w6 fun e w' => ∃ a gC gD, e = .returned (.tuple #[.pointer (some ⟨a, 0, none⟩), .slice (some ⟨gD, 0, none⟩) 320 320, .bool true]) ∧ St w w' (LF a gC gD 320 (layS 320 1 [(64, was)]) ++ [LD d, LQ q])) := by
    refine ⟨fun w6 sl d q h => ?_⟩
    refine (lay_ P6.out (by decide) (by decide) (some ⟨sl, 0, none⟩) 1 [(64, was)] w6 ?_).mono ?_
    · intro i hi
      refine ⟨_, rfl, ?_⟩
      have hi2 : i < 1 := hi
      have h0 := h.cell 0
      have h1 := h.cell 1
      obtain rfl : i = 0 := by omega
      exact ⟨h0, h1⟩
    · rintro e w' ⟨a, gC, gD, rfl, h9⟩
      exact ⟨a, gC, gD, rfl, h.rest.join h9⟩
  have HT := Aside.mk hT
  have H := Aside.mk (St.start w)
  clear hT hnn hhd hss es es' en e2 e3 e4
  go_enter Tryd.func3, Tryd.ntmps3
  go_wp2_with (first
    | (go_at_call 11; refine (built_ HT.out).mono ?_; rintro e w1 ⟨rfl, hb⟩; replace H := Aside.mk (H.out.step hb); clear hb)
    | (with_reducible refine stop_at (.store 25 (.tmp 7) (.tmp 21)) rfl ?_))
  replace H := Aside.mk (H.out.alloc #[.int .i64 0, .int .i64 0, .int .i64 0] 25)
  generalize w1.heap.size = q at H ⊢
  refine ⟨?_⟩
  refine st_store rfl rfl rfl [.int .i64 4, .int .i64 1, .int .i64 1] #[.int .i64 4, .int .i64 1, .int .i64 1] rfl rfl rfl (Nat.le_of_ble_eq_true rfl) (by simp [Value.oneCell']) H.out rfl ?_
  intro w2 h_
  replace H : Aside (St w w2 [LQ q]) := Aside.mk h_
  clear h_
  have q0 := H.out.cell 0
  have q1 := H.out.cell 1
  have q2 := H.out.cell 2
  go_wp2_with (first
    | (go_at_call 12; refine (windrowref06_Draw.calls _ _ _ _ _ _ _ _ _ _ _ P2.out).mono ?_; rintro e w3 ⟨rfl, hb⟩; replace H := Aside.mk (H.out.step hb); clear hb q0 q1 q2)
    | (with_reducible refine stop_at (.store 27 (.tmp 8) (.tmp 23)) rfl ?_))
  replace H := Aside.mk (H.out.alloc #[.int .i64 0, .int .i64 0, .int .i64 0, .int .i64 0, .int .i64 0, .int .i64 0] 27)
  generalize w3.heap.size = d at H ⊢
  refine ⟨?_⟩
  refine st_store rfl rfl rfl [.int .i64 4, .int .i64 1, .int .i64 1, .int .i64 64, .int .i64 22, .int .i64 320] #[.int .i64 4, .int .i64 1, .int .i64 1, .int .i64 64, .int .i64 22, .int .i64 320] rfl rfl rfl (Nat.le_of_ble_eq_true rfl) (by simp [Value.oneCell']) H.out rfl ?_
  intro w4 h_
  replace H : Aside (St w w4 [LD d, LQ q]) := Aside.mk h_
  clear h_
  have q0 := (H.out.pick 1 rfl).cell 0
  have q1 := (H.out.pick 1 rfl).cell 1
  have q2 := (H.out.pick 1 rfl).cell 2
  have d3 := H.out.cell 3
  go_wp2_with (first
    | (go_at_call 13; replace H := Aside.mk (H.out.alloc #[.int .i64 64, .int .u64 was] 34); refine (HLAY.out _ _ _ _ H.out).mono ?_; rintro e w5 ⟨a, gC, gD, rfl, h9⟩; replace H := Aside.mk h9; clear h9 q0 q1 q2 d3))
  replace H : Aside (St w (World.drew w5) [arB a gC 320 (.slice none 0 0) true 0 0, ceB gC (layS 320 1 [(64, was)]), blk gD (U (layS 320 1 [(64, was)])).toArray 22, LD d, LQ q]) := Aside.mk H.out.drew
  refine start_ (n := 12) (S := fun w' => w'.cell? ⟨d, 3, none⟩ = some (.int .i64 64) ∧ w'.cell? ⟨q, 0, none⟩ = some (.int .i64 4) ∧ w'.cell? ⟨q, 1, none⟩ = some (.int .i64 1) ∧ w'.cell? ⟨q, 2, none⟩ = some (.int .i64 1)) (ds := []) (flg 12 0) (by kernel_rfl) rfl rfl (⟨(H.out.pick 3 rfl).cell 3, (H.out.pick 4 rfl).cell 0, (H.out.pick 4 rfl).cell 1, (H.out.pick 4 rfl).cell 2⟩) (fun hHeld => ?_)
  refine with_tabW la.tab9 la.bits9 (fun HT_ HW_ => ?_)
  refine tk_ (v := ?_) (a' := ?_) 0 (some 42) 1 rfl rfl HT_ HW_ (by kernel_rfl) (.inl ⟨by rfl, ?_⟩) hHeld ?_ ?_; rotate_left 2; (· rintro w' ⟨_, _, _, _⟩; go_simp; with_reducible rfl); (· simp only [nrm]; rfl)
  refine pu_ (v := ?_) (a' := ?_) 2 (some 44) 5 rfl rfl HT_ (by kernel_rfl) (.inl ⟨by rfl, ?_⟩) ?_ ?_; rotate_left 2; (· intro w'; go_simp; with_reducible rfl); (· simp only [nrm]; rfl)
  refine tk_ (v := ?_) (a' := ?_) 3 (some 45) 13 rfl rfl HT_ HW_ (by kernel_rfl) (.inl ⟨by rfl, ?_⟩) hHeld ?_ ?_; rotate_left 2; (· rintro w' ⟨_, _, _, _⟩; go_simp; with_reducible rfl); (· simp only [nrm]; rfl)
  refine pu_ (v := ?_) (a' := ?_) 4 (some 46) 29 rfl rfl HT_ (by kernel_rfl) (.inl ⟨by rfl, ?_⟩) ?_ ?_; rotate_left 2; (· intro w'; go_simp; with_reducible rfl); (· simp only [nrm]; rfl)
  refine pu_ (v := ?_) (a' := ?_) 5 (some 47) 61 rfl rfl HT_ (by kernel_rfl) (.inl ⟨by rfl, ?_⟩) ?_ ?_; rotate_left 2; (· intro w'; go_simp; with_reducible rfl); (· simp only [nrm]; rfl)
  refine on_ 1 (some 43) 63 rfl rfl HT_ (by kernel_rfl) (by decide) (fun K hK => ?_)
  refine goes_ Tryd.func15 (by kernel_rfl) rfl #[.agg #[.int .i64 4, .int .i64 1, .int .i64 1]] (by rfl) rfl rfl (by (try simp only [List.map_toArray, List.map_cons, List.map_nil]); first | done | rfl) ?_
  refine (windrowlaw11_plan.calls _ _ _ _ _ _ _ P5.out).mono ?_
  rintro e w6 ⟨rfl, hb⟩
  replace H := Aside.mk (H.out.step hb)
  clear hb
  refine ⟨_, rfl, ?_⟩
  refine hK.out _ _ ⟨(H.out.pick 3 rfl).cell 3, (H.out.pick 4 rfl).cell 0, (H.out.pick 4 rfl).cell 1, (H.out.pick 4 rfl).cell 2⟩ (fun hHeld => ?_)
  clear hK K
  refine norm_ (a' := ?_) ?_ ?_
  rotate_left
  · show Act.put _ (some 43) _ = _
    simp only [nrm]
    rfl
  refine on_ 6 (some 48) 127 rfl rfl HT_ (by kernel_rfl) (by decide) (fun K hK => ?_)
  refine goes_ Tryd.func14 (by kernel_rfl) rfl #[.agg #[.int .i64 4, .int .i64 1, .int .i64 1], .int .i64 64, .agg #[.int .i64 0, .int .i64 2, .int .i64 nn]] (by rfl) rfl rfl (by (try simp only [List.map_toArray, List.map_cons, List.map_nil]); first | done | rfl) ?_
  refine (newbuild_ P7.out P8.out H.out).mono ?_
  rintro e w7 ⟨b, rfl, h9⟩
  replace H := Aside.mk h9
  clear h9
  refine ⟨_, rfl, ?_⟩
  refine hK.out _ _ ⟨(H.out.pick 4 rfl).cell 3, (H.out.pick 5 rfl).cell 0, (H.out.pick 5 rfl).cell 1, (H.out.pick 5 rfl).cell 2⟩ (fun hHeld => ?_)
  clear hK K
  refine norm_ (a' := ?_) ?_ ?_
  rotate_left
  · show Act.put _ (some 48) _ = _
    simp only [nrm]
    rfl
  refine pu_ (v := ?_) (a' := ?_) 7 (some 41) 255 rfl rfl HT_ (by kernel_rfl) (.inl ⟨by rfl, ?_⟩) ?_ ?_; rotate_left 2; (· intro w'; go_simp; with_reducible rfl); (· simp only [nrm]; rfl)
  refine pu_ (v := ?_) (a' := ?_) 8 (some 49) 511 rfl rfl HT_ (by kernel_rfl) (.inl ⟨by rfl, ?_⟩) ?_ ?_; rotate_left 2; (· intro w'; go_simp; with_reducible rfl); (· simp only [nrm]; rfl)
  refine pu_ (v := ?_) (a' := ?_) 9 (some 50) 1023 rfl rfl HT_ (by kernel_rfl) (.inl ⟨by rfl, ?_⟩) ?_ ?_; rotate_left 2; (· intro w'; go_simp; with_reducible rfl); (· simp only [nrm]; rfl)
  refine pu_ (v := ?_) (a' := ?_) 10 (some 12) 2047 rfl rfl HT_ (by kernel_rfl) (.inl ⟨by rfl, ?_⟩) ?_ ?_; rotate_left 2; (· intro w'; go_simp; with_reducible rfl); (· simp only [nrm]; rfl)
  refine pu_ (v := ?_) (a' := ?_) 11 (some 13) 4095 rfl rfl HT_ (by kernel_rfl) (.inl ⟨by rfl, ?_⟩) ?_ ?_; rotate_left 2; (· intro w'; go_simp; with_reducible rfl); (· simp only [nrm]; rfl)
  refine done_ (done_of HT_.out (by kernel_rfl)) ?_
  clear HT_ HW_ hHeld
  have e2 := E2.out
  have e3 := E3.out
  have e4 := E4.out
  have es := ES.out
  go_upto_block 0 with (go_at_call 16; refine (port_ (who := 1) (by decide) (by decide) H.out).mono ?_; rintro e w8 ⟨p, rfl, h9⟩; replace H := Aside.mk h9; clear h9)
  clear e2 e3 e4
  simp only [es]
  clear es
  have HL0 : Aside (LI nn 0 was (layS 320 1 [(64, was)]) nn false) := by
    refine ⟨layS_len _ _ _, .inl ⟨Nat.zero_le _, ?_, rfl, rfl⟩⟩
    have e := layS_s 320 0 [(64, was)] (by simp)
    have e5 : posN 320 64 = 64 := by decide +kernel
    have e6 : layS 320 1 [(64, was)] = (layS 320 0 [(64, was)]).set 64 was := by rw [e]; simp [e5]
    rw [e6, List.getD_eq_getElem?_getD, List.getElem?_set_self (by rw [layS_len]; decide)]
    rfl
  generalize hXD : layS 320 1 [(64, was)] = XD at H HL0
  replace H : Aside (St w w8 (LW p a gC b gD d q XD XD hd (.slice none 0 0) [] 0 nn false)) := Aside.mk (by have h9 := (H.out.nil_row 98 7).order 8 [1, 3, 4, 0, 2, 5, 6, 7] rfl rfl; show St w w8 (poB p a 1 false :: arB a gC XD.length (.slice none 0 0) true 0 0 :: _); rw [HL0.out.1]; exact h9)
  clear hXD HLAY
  go_cut [16] (fun v16 wc => ∃ X lv l left dn, Aside (LI nn ss was X left dn) ∧ Aside (St w wc (LW p a gC b gD d q XD X hd lv l ss left dn)))
  case first =>
    go_wp2_with fail
    go_loopg [16] (ss) (fun m v16 w' => ∃ (i : Nat) (X : List Int) (lv : Value) (l : List Acc) (left : Int) (dn : Bool), m = ss - i ∧ i ≤ ss ∧ v16 = .int .i64 i ∧ Aside (l.length = i ∧ LI nn i was X left dn) ∧ Aside (St w w' (LW p a gC b gD d q XD X hd lv l i left dn)))
    case atStart => exact ⟨0, XD, _, [], _, _, rfl, Nat.zero_le _, rfl, ⟨rfl, HL0.out⟩, H⟩
    case round =>
      clear H HL0
      obtain ⟨i, X, lv, l, left, dn, rfl, hi, rfl, HL, H⟩ := hrel
      by_cases hlt : i < ss
      · have d1 : decide ((i : Int) < (ss : Int)) = true := by simp; omega
        have n1 : (i : Int) < (ss : Int) := by omega
        have HI := Aside.mk hlt
        clear hi hlt
        go_wp2_with (first
          | (go_at_call 17; refine (grant_ H.out).mono ?_; rintro e w9 ⟨rfl, h9⟩; replace H := Aside.mk h9; clear h9)
          | (go_at_call 18; refine (lstep_ HN.out (by have := HI.out; have := HS.out; omega) HL.out.1 HL.out.2 H.out).mono ?_; rintro e w10 ⟨r, X', lv', l', left', dn', rfl, hl, hli, h9⟩; replace H := Aside.mk h9; clear h9; replace HL := Aside.mk (And.intro hl hli); clear hl hli))
        go_roundg (ss - (i + 1))
        case measure => have := HI.out; omega
        case rel => exact ⟨i + 1, X', lv', l', left', dn', rfl, HI.out, by first | rfl | (have := HI.out; have := HS.out; have := HN.out; simp only [Value.int.injEq, true_and]; unfold wrap64; omega), HL, H⟩
      · obtain rfl : i = ss := by omega
        clear hi hlt
        go_wp2
        go_meet
        case rel => exact ⟨X, lv, l, left, dn, ⟨HL.out.2⟩, H⟩
  case rest =>
    clear H HL0
    obtain ⟨X, lv, l, left, dn, HL, H⟩ := hcut
    obtain ⟨hX, ⟨h1, h2, h3, rfl⟩ | ⟨h1, h3, rfl⟩⟩ := HL.out
    · have d3 := (H.out.pick 6 rfl).cell 3
      have e1 : wrap64 ((nn : Int) + 1) = (nn : Int) + 1 := by have := HN.out; unfold wrap64; omega
      have b1 : ((ss : Int) == (nn : Int) + 1) = false := by simp; omega
      have b2 : decide ((ss : Int) ≤ (nn : Int)) = true := by simp; omega
      have b3 : (ss : Int) ≤ (nn : Int) := by omega
      have HPK := Aside.mk (fun (w1 : World) (L : List HP) (h : St w w1 (arB a gC X.length lv true ss 0 :: ceB gC X :: L)) => peekv_ 64 was (by omega) h2 h)
      clear h1 h2 h3 hX HL
      go_wp2_with (first
        | (go_at_call 19; refine (HPK.out _ _ (H.out.order 3 [1, 2, 0] rfl rfl)).mono ?_; rintro e w11 ⟨rfl, rfl⟩)
        | (go_at_call 20; refine (over_ (H.out.pick 4 rfl)).mono ?_; rintro e w12 ⟨rfl, rfl⟩))
      go_ret
      exact ⟨by simp [b1, b2], H.out.below⟩
    · have d3 := (H.out.pick 6 rfl).cell 3
      have e1 : wrap64 ((nn : Int) + 1) = (nn : Int) + 1 := by have := HN.out; unfold wrap64; omega
      have b1 : ((ss : Int) == (nn : Int) + 1) = true := by simp; omega
      have b2 : decide ((ss : Int) ≤ (nn : Int)) = false := by simp; omega
      have b3 : ¬ (ss : Int) ≤ (nn : Int) := by omega
      have HPK := Aside.mk (fun (w1 : World) (L : List HP) (h : St w w1 (arB a gC X.length lv true ss 0 :: ceB gC X :: L)) => peek_yes 64 (by omega) h)
      generalize X.getD 64 0 = v at HPK
      clear h1 h3 hX HL
      go_wp2_with (first
        | (go_at_call 19; refine (HPK.out _ _ (H.out.order 3 [1, 2, 0] rfl rfl)).mono ?_; rintro e w11 ⟨rfl, rfl⟩)
        | (go_at_call 20; refine (over_ (H.out.pick 4 rfl)).mono ?_; rintro e w12 ⟨rfl, rfl⟩))
      go_ret
      exact ⟨by simp [b1, b2], H.out.below⟩
end Go.Proofs.YtelfiegocdjnoaaDoor.Ar
