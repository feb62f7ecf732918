/- The walk of ObjectsRefs. Conditions: what comes in reads as the kinds say; the package array of sizes reads as it was laid. -/
import Derived.Test.YtelfiegocdjnoaaDoorMgC
import Derived.Test.YtelfiegocdjnoaaDoorOb5
import Derived.Test.YtelfiegocdjnoaaDoorMrF0
import Derived.Test.YtelfiegocdjnoaaDoorMrF2
import Derived.Test.YtelfiegocdjnoaaDoorMrF1
namespace Go.Proofs.YtelfiegocdjnoaaDoor.Ar
open Go Go.RowKit Go.Proofs.YtelfiegocdjnoaaDoor.Sep Go.Proofs.YtelfiegocdjnoaaDoor.Pg Go.Proofs.YtelfiegocdjnoaaDoorW.PrintWords Go.Proofs.YtelfiegocdjnoaaDoorW.PrintLast Go.Proofs.YtelfiegocdjnoaaDoorW.PrintMore Go.Proofs.YtelfiegocdjnoaaDoor.Q
set_option linter.unusedVariables false
set_option linter.unusedSimpArgs false
set_option maxHeartbeats 8000000
set_option maxRecDepth 100000
def rf.T4 : Bool × List (List Nat × List Nat) := (true, [([], []), ([0, 0], [0]), ([1], [1]), ([2, 1, 1], [1, 2]), ([1], [1]), ([4, 3, 1], [1, 4]), ([5, 5, 1], [1, 5]), ([3, 6, 1], [1, 3, 6]), ([1, 7], [1, 7]), ([8, 6], [8]), ([9], [9]), ([9], [9]), ([10, 11, 9, 9], [9, 10, 11]), ([9], [9]), ([9], [9]), ([13, 14, 12, 9], [9, 13, 14]), ([12, 15, 15, 9], [9, 12, 15]), ([9, 16], [9, 16]), ([17, 16], [17]), ([18], [18]), ([19, 18, 18], [18, 19]), ([18], [18]), ([21, 20, 18], [18, 21]), ([20, 22, 18], [18, 20, 22]), ([18, 23], [18, 23]), ([24, 22, 0, 1, 2, 3, 4, 5, 6, 7, 8, 9, 10, 11, 12, 13, 14, 15, 16, 17, 18, 19, 20, 21, 22, 23, 24], [24])])
def rf.B4 : List Nat := [0, 1, 3, 7, 3, 31, 63, 127, 255, 511, 1023, 1023, 4095, 1023, 1023, 32767, 65535, 131071, 262143, 524287, 1048575, 524287, 4194303, 8388607, 16777215, 33554431]
theorem rf.tab4 : rtab .any (opsOf Tryd.f10 4) = rf.T4 := by kernel_rfl
theorem rf.bits4 : waitsOk rf.T4.2 rf.B4 = true := by kernel_rfl
theorem longs_st {w0 w : World} {F : List HP} {l : List Int} {n : Nat} (hn : l.length = n) (hl : n ≤ 1000) {A A' : Option Addr} {cc cc' : Nat} (h : St w0 w (row 2 1 (.slice A n cc) n (I64 l) :: row 2 1 (.slice A' n cc') n (I64 l) :: F)) :
    Calls Tryd.prog 64 #[.slice A n cc, .slice A' n cc'] w fun e w' => e = .returned (.bool true) ∧ St w0 w' (row 2 1 (.slice A n cc) n (I64 l) :: row 2 1 (.slice A' n cc') n (I64 l) :: F) := by
  subst hn
  obtain ⟨B, b, e, h1, _⟩ := h.row_slice
  injection e with e1 e2 e3
  subst e3
  obtain ⟨B', b', e', h1', _⟩ := (h.pick 1 rfl).row_slice
  injection e' with e1' e2' e3'
  subst e3'
  refine (windrowref01_Longs.calls (l.length + 1) A cc l A' cc' l true w (C_i64 (by omega) h) h1 (C_i64 (by omega) (h.pick 1 rfl)) h1' ?_).mono ?_
  · unfold windrowref01_Longs.f
    rw [if_pos rfl, show ((0 : Int)) = ((0 : Nat) : Int) from rfl, longsL l (by omega) l.length 0 _ (by omega) (by omega)]
  · rintro e w' ⟨rfl, nd, rfl⟩
    exact ⟨rfl, h.drewN nd⟩
theorem law_refs {A0 : Option Addr} {cap : Nat} {cs : List S161} {ad cl kd : Int} {Al : Option Addr} {cc : Nat} {l : List Int} {w : World} (hCs : Kd.C k161 w A0 cs.length cs) (hcs : cs.length ≤ cap) (hC : Kd.C (Kd.int .i64) w Al l.length l) (hcc : l.length ≤ cc) (hT : Tab w) :
    Calls Tryd.prog 10 #[.slice A0 cs.length cap, .agg #[.int .i64 ad, .int .i64 cl, .int .i64 kd, .slice Al l.length cc]] w fun e w' => e = .returned (.bool true) ∧ Below w.heap.size w w' := by
  have HTB : Aside (∀ w1, Below w.heap.size w w1 → Tab w1) := ⟨fun _ hb => hT.below hb⟩
  have HNW := Aside.mk (fun (w1 : World) (hb : Below w.heap.size w w1) => new_m (cap := cap) (Kd.C_below hCs hb))
  have HHD := Aside.mk (fun (w1 : World) (hb : Below w.heap.size w w1) => objects_Head.calls ad cl kd Al cc l cl kd (l.length : Int) w1 (Kd.C_below hC hb) hcc rfl)
  have HRH := Aside.mk (fun (w1 : World) (hb : Below w.heap.size w w1) => windrowref11_Head.calls ad cl kd Al cc l cl kd (l.length : Int) w1 (Kd.C_below hC hb) hcc rfl)
  have P6 : Aside (windrowlaw11_head.f cl kd (l.length : Int) = some (cl, kd, (l.length : Int))) := ⟨rfl⟩
  have HSP := Aside.mk (fun (w1 : World) (hb : Below w.heap.size w w1) => span_c (ad := ad) (cl := cl) (kd := kd) (hT.below hb) (Kd.C_below hC hb) hcc)
  have HRS := Aside.mk (fun (w1 : World) (hb : Below w.heap.size w w1) => windrowref11_Span.calls 60 ad cl kd Al cc l _ w1 (Kd.C_below hC hb) hcc (rspan_ ad cl kd l))
  have HCS := Aside.mk hCs
  have HCC := Aside.mk hcs
  have HC := Aside.mk hC
  have HLC := Aside.mk hcc
  obtain ⟨m, hm⟩ : ∃ m, l.length = m := ⟨_, rfl⟩
  rw [hm] at HHD HRH P6 HSP HRS ⊢
  have H : Aside (St w _ [blk w.heap.size #[.int .i64 ad, .int .i64 cl, .int .i64 kd, .slice Al m cc] 60]) := Aside.mk ((St.start w).alloc #[.int .i64 ad, .int .i64 cl, .int .i64 kd, .slice Al m cc] 60)
  have HM := Aside.mk hm
  clear hT hCs hcs hC hcc hm
  go_enter Tryd.func10, Tryd.ntmps10
  go_upto_region 2 with (go_at_call 22; refine (HNW.out _ H.out.below).mono ?_; rintro e w9 (⟨ei, er, her, rfl, hb⟩ | ⟨t, vL, vM, E, rfl, hE, h15, h9⟩))
  · replace H := Aside.mk (H.out.step hb)
    have de : (er != 0) = true := by simp [her]
    clear hb her
    go_wp2_with (go_at_call 11; refine (built_ (HTB.out _ H.out.below)).mono ?_; rintro e w10 ⟨rfl, hb⟩; replace H := Aside.mk (H.out.step hb); clear hb)
    go_ret
    exact ⟨rfl, H.out.below⟩
  · replace H : Aside (St w w9 (tbB t vL vM :: tbR vL E :: [row 22 1 vM (cs.map bmC).length (U (cs.map bmC)), blk w.heap.size #[.int .i64 ad, .int .i64 cl, .int .i64 kd, .slice Al m cc] 60])) := Aside.mk (H.out.join h9)
    have HE := Aside.mk hE
    have H15 := Aside.mk h15
    clear h9 hE h15
    have x3 := (H.out.pick 3 rfl).cell 3
    by_cases h4 : 400 < m
    · have d4 : decide ((400 : Int) < (m : Int)) = true := by simp; omega
      have n4 : (400 : Int) < (m : Int) := by omega
      clear h4
      go_wp2_with (go_at_call 11; refine (built_ (HTB.out _ H.out.below)).mono ?_; rintro e w10 ⟨rfl, hb⟩; replace H := Aside.mk (H.out.step hb); clear hb)
      go_ret
      exact ⟨rfl, H.out.below⟩
    · have d4 : decide ((400 : Int) < (m : Int)) = false := by simp; omega
      have n4 : ¬ (400 : Int) < (m : Int) := by omega
      have n5 : ¬ 400 < m := h4
      have HM4 : Aside (m ≤ 400) := ⟨by omega⟩
      obtain ⟨rl, hrl⟩ : ∃ rl, rl = refsOf l (ptk l.length (fun (i : Nat) => isrefT (nsC cs) (msC cs) cl kd l.length i) l.length) := ⟨_, rfl⟩
      obtain ⟨rn, hrn⟩ : ∃ rn, rl.length = rn := ⟨_, rfl⟩
      have HRL := Aside.mk hrn
      have HRN : Aside (rn ≤ 1000) := ⟨by rw [← hrn, hrl]; have h1 := refsOf_len l (ptk l.length (fun (i : Nat) => isrefT (nsC cs) (msC cs) cl kd l.length i) l.length); have h2 := ptk_len l.length (fun (i : Nat) => isrefT (nsC cs) (msC cs) cl kd l.length i) l.length; have := HM.out; have := HM4.out; omega⟩
      have HRF : Aside (∀ (w1 : World) (F : List HP), St w w1 (tbB t vL vM :: tbR vL E :: row 22 1 vM (cs.map bmC).length (U (cs.map bmC)) :: F) → Calls Tryd.prog 65 #[.pointer (some ⟨t, 0, none⟩), .agg #[.int .i64 ad, .int .i64 cl, .int .i64 kd, .slice Al m cc]] w1 fun e w' => ∃ A1 c1, e = .returned (.slice A1 rn c1) ∧ St w1 w' [row 2 1 (.slice A1 rn c1) rn (I64 rl)]) := ⟨fun w1 F h => by
        obtain ⟨A, cap1, B, cap2, htb⟩ := tbc_of HE.out h
        have e := refs_ (ad := ad) (cl := cl) (kd := kd) htb (nsC_le H15.out) (msC_lt H15.out) (Kd.C_below HC.out h.below) HLC.out (by rw [HM.out]; exact HM4.out)
        rw [← hrl, HM.out, hrn] at e
        refine e.mono ?_
        rintro e w' ⟨V, rfl, h9⟩
        obtain ⟨A1, c1, rfl, _, _⟩ := h9.row_slice
        exact ⟨A1, c1, rfl, h9⟩⟩
      have HRR : Aside (∀ (w1 : World), Below w.heap.size w w1 → Calls Tryd.prog 66 #[.slice A0 cs.length cap, .agg #[.int .i64 ad, .int .i64 cl, .int .i64 kd, .slice Al m cc]] w1 fun e w' => ∃ A2 c2, e = .returned (.slice A2 rn c2) ∧ St w1 w' [row 2 1 (.slice A2 rn c2) rn (I64 rl)]) := ⟨fun w1 hb => by
        have e := windrowref11_Refs.calls 500 A0 cap cs ad cl kd Al cc l _ w1 (Kd.C_below HCS.out hb) HCC.out (Kd.C_below HC.out hb) HLC.out (rrefs_ H15.out ad cl kd l (by rw [HM.out]; exact HM4.out))
        rw [← hrl, HM.out] at e
        refine e.mono ?_
        rintro e w' ⟨V, rfl, hR, hb2⟩
        have h9 := St_of_R64 hR hb2
        rw [hrn] at h9
        obtain ⟨A2, c2, rfl, _, _⟩ := h9.row_slice
        exact ⟨A2, c2, rfl, h9⟩⟩
      clear h4 hrl hrn
      go_wp2_with fail
      clear x3 d4 n4 n5
      replace H := Aside.mk H.out.drew
      refine start_ (n := 26) (S := fun w' => w'.cell? ⟨w.heap.size, 0, none⟩ = some (.int .i64 ad) ∧ w'.cell? ⟨w.heap.size, 1, none⟩ = some (.int .i64 cl) ∧ w'.cell? ⟨w.heap.size, 2, none⟩ = some (.int .i64 kd) ∧ w'.cell? ⟨w.heap.size, 3, none⟩ = some (.slice Al m cc)) (ds := []) (flg 26 0) (by kernel_rfl) rfl rfl (⟨(H.out.pick 3 rfl).cell 0, (H.out.pick 3 rfl).cell 1, (H.out.pick 3 rfl).cell 2, (H.out.pick 3 rfl).cell 3⟩) (fun hHeld => ?_)
      refine with_tabW rf.tab4 rf.bits4 (fun HT_ HW_ => ?_)
      generalize World.drew _ = w4 at H hHeld ⊢
      refine on_ 0 (some 23) 1 rfl rfl HT_ (by kernel_rfl) (by decide) (fun K hK => ?_)
      refine goes_ Tryd.func11 (by kernel_rfl) rfl #[] (by rfl) rfl rfl (by (try simp only [List.map_toArray, List.map_cons, List.map_nil]); first | done | rfl) ?_
      refine (built_ (HTB.out _ H.out.below)).mono ?_
      rintro e w5 ⟨rfl, hb⟩
      replace H := Aside.mk (H.out.step hb)
      clear hb
      refine ⟨_, rfl, ?_⟩
      clear hHeld
      refine hK.out _ _ ⟨(H.out.pick 3 rfl).cell 0, (H.out.pick 3 rfl).cell 1, (H.out.pick 3 rfl).cell 2, (H.out.pick 3 rfl).cell 3⟩ (fun hHeld => ?_)
      clear hK K
      refine norm_ (a' := ?_) ?_ ?_
      rotate_left
      · show Act.put _ (some 23) _ = _
        simp only [nrm]
        rfl
      refine pu_ (v := ?_) (a' := ?_) 1 (some 24) 3 rfl rfl HT_ (by kernel_rfl) (.inl ⟨by rfl, ?_⟩) ?_ ?_; rotate_left 2; (· intro w'; go_simp; with_reducible rfl); (· simp only [nrm]; rfl)
      refine tk_ (v := ?_) (a' := ?_) 2 (some 25) 7 rfl rfl HT_ HW_ (by kernel_rfl) (.inl ⟨by rfl, ?_⟩) hHeld ?_ ?_; rotate_left 2; (· rintro w' ⟨_, _, _, _⟩; go_simp; with_reducible rfl); (· simp only [nrm]; rfl)
      refine tk_ (v := ?_) (a' := ?_) 4 (some 27) 23 rfl rfl HT_ HW_ (by kernel_rfl) (.inl ⟨by rfl, ?_⟩) hHeld ?_ ?_; rotate_left 2; (· rintro w' ⟨_, _, _, _⟩; go_simp; with_reducible rfl); (· simp only [nrm]; rfl)
      refine on_ 3 (some 26) 31 rfl rfl HT_ (by kernel_rfl) (by decide) (fun K hK => ?_)
      refine goes_ Tryd.func38 (by kernel_rfl) rfl #[.agg #[.int .i64 ad, .int .i64 cl, .int .i64 kd, .slice Al m cc]] (by rfl) rfl rfl (by (try simp only [List.map_toArray, List.map_cons, List.map_nil]); first | done | rfl) ?_
      refine (HHD.out _ H.out.below).mono ?_
      rintro e w6 ⟨rfl, hb⟩
      replace H := Aside.mk (H.out.step hb)
      clear hb
      refine ⟨_, rfl, ?_⟩
      clear hHeld
      refine hK.out _ _ ⟨(H.out.pick 3 rfl).cell 0, (H.out.pick 3 rfl).cell 1, (H.out.pick 3 rfl).cell 2, (H.out.pick 3 rfl).cell 3⟩ (fun hHeld => ?_)
      clear hK K
      refine norm_ (a' := ?_) ?_ ?_
      rotate_left
      · show Act.put _ (some 26) _ = _
        simp only [nrm]
        rfl
      refine on_ 5 (some 28) 63 rfl rfl HT_ (by kernel_rfl) (by decide) (fun K hK => ?_)
      refine goes_ Tryd.func63 (by kernel_rfl) rfl #[.agg #[.int .i64 ad, .int .i64 cl, .int .i64 kd, .slice Al m cc]] (by rfl) rfl rfl (by (try simp only [List.map_toArray, List.map_cons, List.map_nil]); first | done | rfl) ?_
      refine (HRH.out _ H.out.below).mono ?_
      rintro e w7 ⟨rfl, hb⟩
      replace H := Aside.mk (H.out.step hb)
      clear hb
      refine ⟨_, rfl, ?_⟩
      clear hHeld
      refine hK.out _ _ ⟨(H.out.pick 3 rfl).cell 0, (H.out.pick 3 rfl).cell 1, (H.out.pick 3 rfl).cell 2, (H.out.pick 3 rfl).cell 3⟩ (fun hHeld => ?_)
      clear hK K
      refine norm_ (a' := ?_) ?_ ?_
      rotate_left
      · show Act.put _ (some 28) _ = _
        simp only [nrm]
        rfl
      refine on_ 6 (some 29) 127 rfl rfl HT_ (by kernel_rfl) (by decide) (fun K hK => ?_)
      refine goes_ Tryd.func35 (by kernel_rfl) rfl #[.agg #[.int .i64 cl, .int .i64 kd, .int .i64 m]] (by rfl) rfl rfl (by (try simp only [List.map_toArray, List.map_cons, List.map_nil]); first | done | rfl) ?_
      refine (windrowlaw11_head.calls _ _ _ _ _ _ _ P6.out).mono ?_
      rintro e w8 ⟨rfl, hb⟩
      replace H := Aside.mk (H.out.step hb)
      clear hb
      refine ⟨_, rfl, ?_⟩
      clear hHeld
      refine hK.out _ _ ⟨(H.out.pick 3 rfl).cell 0, (H.out.pick 3 rfl).cell 1, (H.out.pick 3 rfl).cell 2, (H.out.pick 3 rfl).cell 3⟩ (fun hHeld => ?_)
      clear hK K
      refine norm_ (a' := ?_) ?_ ?_
      rotate_left
      · show Act.put _ (some 29) _ = _
        simp only [nrm]
        rfl
      refine pu_ (v := ?_) (a' := ?_) 7 (some 30) 255 rfl rfl HT_ (by kernel_rfl) (.inl ⟨by rfl, ?_⟩) ?_ ?_; rotate_left 2; (· intro w'; go_simp; with_reducible rfl); (· simp only [nrm]; rfl)
      refine pu_ (v := ?_) (a' := ?_) 8 (some 31) 511 rfl rfl HT_ (by kernel_rfl) (.inl ⟨by rfl, ?_⟩) ?_ ?_; rotate_left 2; (· intro w'; go_simp; with_reducible rfl); (· simp only [nrm]; rfl)
      refine pu_ (v := ?_) (a' := ?_) 9 (some 32) 1023 rfl rfl HT_ (by kernel_rfl) (.inl ⟨by rfl, ?_⟩) ?_ ?_; rotate_left 2; (· intro w'; go_simp; with_reducible rfl); (· simp only [nrm]; rfl)
      refine pu_ (v := ?_) (a' := ?_) 10 (some 33) 2047 rfl rfl HT_ (by kernel_rfl) (.inl ⟨by rfl, ?_⟩) ?_ ?_; rotate_left 2; (· intro w'; go_simp; with_reducible rfl); (· simp only [nrm]; rfl)
      refine tk_ (v := ?_) (a' := ?_) 11 (some 34) 4095 rfl rfl HT_ HW_ (by kernel_rfl) (.inl ⟨by rfl, ?_⟩) hHeld ?_ ?_; rotate_left 2; (· rintro w' ⟨_, _, _, _⟩; go_simp; with_reducible rfl); (· simp only [nrm]; rfl)
      refine pu_ (v := ?_) (a' := ?_) 13 (some 36) 12287 rfl rfl HT_ (by kernel_rfl) (.inl ⟨by rfl, ?_⟩) ?_ ?_; rotate_left 2; (· intro w'; go_simp; with_reducible rfl); (· simp only [nrm]; rfl)
      refine tk_ (v := ?_) (a' := ?_) 14 (some 37) 28671 rfl rfl HT_ HW_ (by kernel_rfl) (.inl ⟨by rfl, ?_⟩) hHeld ?_ ?_; rotate_left 2; (· rintro w' ⟨_, _, _, _⟩; go_simp; with_reducible rfl); (· simp only [nrm]; rfl)
      refine on_ 12 (some 35) 32767 rfl rfl HT_ (by kernel_rfl) (by decide) (fun K hK => ?_)
      refine goes_ Tryd.func65 (by kernel_rfl) rfl #[.pointer (some ⟨t, 0, none⟩), .agg #[.int .i64 ad, .int .i64 cl, .int .i64 kd, .slice Al m cc]] (by rfl) rfl rfl (by (try simp only [List.map_toArray, List.map_cons, List.map_nil]); first | done | rfl) ?_
      refine (HRF.out _ _ H.out).mono ?_
      rintro e w9 ⟨A1, c1, rfl, h9⟩
      replace H : Aside (St w w9 (row 2 1 (.slice A1 rn c1) rn (I64 rl) :: tbB t vL vM :: tbR vL E :: [row 22 1 vM (cs.map bmC).length (U (cs.map bmC)), blk w.heap.size #[.int .i64 ad, .int .i64 cl, .int .i64 kd, .slice Al m cc] 60])) := Aside.mk (H.out.join h9)
      clear h9
      refine ⟨_, rfl, ?_⟩
      clear hHeld
      refine hK.out _ _ ⟨(H.out.pick 4 rfl).cell 0, (H.out.pick 4 rfl).cell 1, (H.out.pick 4 rfl).cell 2, (H.out.pick 4 rfl).cell 3⟩ (fun hHeld => ?_)
      clear hK K
      refine norm_ (a' := ?_) ?_ ?_
      rotate_left
      · show Act.put _ (some 35) _ = _
        simp only [nrm]
        rfl
      refine on_ 15 (some 38) 65535 rfl rfl HT_ (by kernel_rfl) (by decide) (fun K hK => ?_)
      refine goes_ Tryd.func66 (by kernel_rfl) rfl #[.slice A0 cs.length cap, .agg #[.int .i64 ad, .int .i64 cl, .int .i64 kd, .slice Al m cc]] (by rfl) rfl rfl (by (try simp only [List.map_toArray, List.map_cons, List.map_nil]); first | done | rfl) ?_
      refine (HRR.out _ H.out.below).mono ?_
      rintro e w10 ⟨A2, c2, rfl, h9⟩
      replace H : Aside (St w w10 (row 2 1 (.slice A2 rn c2) rn (I64 rl) :: row 2 1 (.slice A1 rn c1) rn (I64 rl) :: tbB t vL vM :: tbR vL E :: [row 22 1 vM (cs.map bmC).length (U (cs.map bmC)), blk w.heap.size #[.int .i64 ad, .int .i64 cl, .int .i64 kd, .slice Al m cc] 60])) := Aside.mk (H.out.join h9)
      clear h9
      refine ⟨_, rfl, ?_⟩
      clear hHeld
      refine hK.out _ _ ⟨(H.out.pick 5 rfl).cell 0, (H.out.pick 5 rfl).cell 1, (H.out.pick 5 rfl).cell 2, (H.out.pick 5 rfl).cell 3⟩ (fun hHeld => ?_)
      clear hK K
      refine norm_ (a' := ?_) ?_ ?_
      rotate_left
      · show Act.put _ (some 38) _ = _
        simp only [nrm]
        rfl
      refine on_ 16 (some 39) 131071 rfl rfl HT_ (by kernel_rfl) (by decide) (fun K hK => ?_)
      refine goes_ Tryd.func64 (by kernel_rfl) rfl #[.slice A1 rn c1, .slice A2 rn c2] (by rfl) rfl rfl (by (try simp only [List.map_toArray, List.map_cons, List.map_nil]); first | done | rfl) ?_
      refine (longs_st HRL.out HRN.out (H.out.pick 1 rfl)).mono ?_
      rintro e w11 ⟨rfl, h9⟩
      replace H : Aside (St w w11 (row 2 1 (.slice A1 rn c1) rn (I64 rl) :: row 2 1 (.slice A2 rn c2) rn (I64 rl) :: tbB t vL vM :: tbR vL E :: [row 22 1 vM (cs.map bmC).length (U (cs.map bmC)), blk w.heap.size #[.int .i64 ad, .int .i64 cl, .int .i64 kd, .slice Al m cc] 60])) := Aside.mk h9
      clear h9
      refine ⟨_, rfl, ?_⟩
      clear hHeld
      refine hK.out _ _ ⟨(H.out.pick 5 rfl).cell 0, (H.out.pick 5 rfl).cell 1, (H.out.pick 5 rfl).cell 2, (H.out.pick 5 rfl).cell 3⟩ (fun hHeld => ?_)
      clear hK K
      refine norm_ (a' := ?_) ?_ ?_
      rotate_left
      · show Act.put _ (some 39) _ = _
        simp only [nrm]
        rfl
      refine pu_ (v := ?_) (a' := ?_) 17 (some 40) 262143 rfl rfl HT_ (by kernel_rfl) (.inl ⟨by rfl, ?_⟩) ?_ ?_; rotate_left 2; (· intro w'; go_simp; with_reducible rfl); (· simp only [nrm]; rfl)
      refine pu_ (v := ?_) (a' := ?_) 18 (some 41) 524287 rfl rfl HT_ (by kernel_rfl) (.inl ⟨by rfl, ?_⟩) ?_ ?_; rotate_left 2; (· intro w'; go_simp; with_reducible rfl); (· simp only [nrm]; rfl)
      refine tk_ (v := ?_) (a' := ?_) 19 (some 42) 1048575 rfl rfl HT_ HW_ (by kernel_rfl) (.inl ⟨by rfl, ?_⟩) hHeld ?_ ?_; rotate_left 2; (· rintro w' ⟨_, _, _, _⟩; go_simp; with_reducible rfl); (· simp only [nrm]; rfl)
      refine tk_ (v := ?_) (a' := ?_) 21 (some 44) 3145727 rfl rfl HT_ HW_ (by kernel_rfl) (.inl ⟨by rfl, ?_⟩) hHeld ?_ ?_; rotate_left 2; (· rintro w' ⟨_, _, _, _⟩; go_simp; with_reducible rfl); (· simp only [nrm]; rfl)
      refine on_ 20 (some 43) 4194303 rfl rfl HT_ (by kernel_rfl) (by decide) (fun K hK => ?_)
      refine goes_ Tryd.func67 (by kernel_rfl) rfl #[.agg #[.int .i64 ad, .int .i64 cl, .int .i64 kd, .slice Al m cc]] (by rfl) rfl rfl (by (try simp only [List.map_toArray, List.map_cons, List.map_nil]); first | done | rfl) ?_
      refine (HSP.out _ H.out.below).mono ?_
      rintro e w12 ⟨rfl, hb⟩
      replace H := Aside.mk (H.out.step hb)
      clear hb
      refine ⟨_, rfl, ?_⟩
      clear hHeld
      refine hK.out _ _ ⟨(H.out.pick 5 rfl).cell 0, (H.out.pick 5 rfl).cell 1, (H.out.pick 5 rfl).cell 2, (H.out.pick 5 rfl).cell 3⟩ (fun hHeld => ?_)
      clear hK K
      refine norm_ (a' := ?_) ?_ ?_
      rotate_left
      · show Act.put _ (some 43) _ = _
        simp only [nrm]
        rfl
      refine on_ 22 (some 45) 8388607 rfl rfl HT_ (by kernel_rfl) (by decide) (fun K hK => ?_)
      refine goes_ Tryd.func68 (by kernel_rfl) rfl #[.agg #[.int .i64 ad, .int .i64 cl, .int .i64 kd, .slice Al m cc]] (by rfl) rfl rfl (by (try simp only [List.map_toArray, List.map_cons, List.map_nil]); first | done | rfl) ?_
      refine (HRS.out _ H.out.below).mono ?_
      rintro e w13 ⟨rfl, hb⟩
      replace H := Aside.mk (H.out.step hb)
      clear hb
      refine ⟨_, rfl, ?_⟩
      clear hHeld
      refine hK.out _ _ ⟨(H.out.pick 5 rfl).cell 0, (H.out.pick 5 rfl).cell 1, (H.out.pick 5 rfl).cell 2, (H.out.pick 5 rfl).cell 3⟩ (fun hHeld => ?_)
      clear hK K
      refine norm_ (a' := ?_) ?_ ?_
      rotate_left
      · show Act.put _ (some 45) _ = _
        simp only [nrm]
        rfl
      refine pu_ (v := ?_) (a' := ?_) 23 (some 46) 16777215 rfl rfl HT_ (by kernel_rfl) (.inl ⟨by rfl, ?_⟩) ?_ ?_; rotate_left 2; (· intro w'; go_simp; with_reducible rfl); (· simp only [nrm]; rfl)
      refine pu_ (v := ?_) (a' := ?_) 24 (some 47) 33554431 rfl rfl HT_ (by kernel_rfl) (.inl ⟨by rfl, ?_⟩) ?_ ?_; rotate_left 2; (· intro w'; go_simp; with_reducible rfl); (· simp only [nrm]; rfl)
      refine pu_ (v := ?_) (a' := ?_) 25 (some 4) 67108863 rfl rfl HT_ (by kernel_rfl) (.inl ⟨by rfl, ?_⟩) ?_ ?_; rotate_left 2; (· intro w'; go_simp; with_reducible rfl); (· simp only [nrm]; rfl)
      refine done_ (done_of HT_.out (by kernel_rfl)) ?_
      clear HT_ HW_ hHeld
      go_wp2
      go_ret
      exact ⟨by simp, H.out.below⟩
end Go.Proofs.YtelfiegocdjnoaaDoor.Ar
