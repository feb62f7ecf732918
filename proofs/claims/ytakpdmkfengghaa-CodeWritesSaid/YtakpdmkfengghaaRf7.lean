/- The document's writer: Encode. Conditions: the bytes stay below 2^40. -/
import Derived.Test.YtakpdmkfengghaaProg
import Derived.Test.YtakpdmkfengghaaSep
import Derived.Test.YtakpdmkfengghaaIn0
import Derived.Test.YtakpdmkfengghaaSep2
import Derived.Test.YtakpdmkfengghaaRf6
import Derived.Test.YtakpdmkfengghaaF46
import Derived.Test.YtakpdmkfengghaaF47
import Derived.Test.YtakpdmkfengghaaQ4
import Derived.Test.YtakpdmkfengghaaWp1
import Derived.StillTailTactics
import Derived.Below
import Derived.Deep.Draws
import Derived.Deep.AppendLies
import Derived.Maps.AppendAt
import Derived.OwnWalk
import Derived.Laws.BytesArg
import Derived.Laws.MakeOwn
import Derived.Laws.OwnMore
import Derived.Deep.OwnRows
import Derived.Tactics
import Derived.Lib.ConvBytes
import Derived.Laws.Slices
import Derived.WalkKit
import Derived.KernelRfl
import Derived.RowKit3
import Derived.Deep.LoopGhost
import Derived.Deep.QuietTactic
import Derived.BigQuiet
import Derived.WideLaws
import Derived.Deep.DeepCutAuto
import Derived.Deep.CutBlock
import Derived.Deep.RegionHeld3
import Derived.Laws.Rows
import Derived.Lib.AppendStr
import Derived.ArgAppend
import Derived.Laws.IdiomCopy
import Derived.OrdersHeld
import Derived.Laws.BitsLemmas
import Derived.RowKit
import Derived.Lib.SlBytesConst
namespace Go.Proofs.Ytakpdmkfengghaa.Rf
open Go Go.RowKit Go.Proofs.Ytakpdmkfengghaa.Sep Go.Proofs.YtakpdmkfengghaaW.PrintWords Go.Proofs.YtakpdmkfengghaaW.PrintLast Go.Proofs.YtakpdmkfengghaaW.PrintMore Go.Proofs.Ytakpdmkfengghaa.Q Go.Proofs.Ytakpdmkfengghaa.Pe Go.Proofs.Ytakpdmkfengghaa.Wr
set_option linter.unusedVariables false
set_option linter.unusedSimpArgs false

theorem Rel.refl (s : Wst) : Rel s s := ⟨rfl, fun _ => rfl, Nat.le_refl _⟩
theorem pField_len (s : Wst) (f : S44) : (pField s f).1.length ≤ s.1.length + 27 := Nat.le_trans (rel_field (Rel.refl s) f).2.2 (wField_len s f)
theorem pClass_len (s : Wst) (c : S42) : (pClass s c).1.length ≤ s.1.length + 500 := Nat.le_trans (rel_class (Rel.refl s) c).2.2 (wClass_len s c)
theorem pFunc_len (s : Wst) (f : S48) (hf : wfF f) : (pFunc s f).1.length ≤ s.1.length + 6000 := Nat.le_trans (rel_func (Rel.refl s) f).2.2 (wFunc_len s f hf)
theorem pIns_len (s : Wst) {i : S23} (hi : i64ok i.f1) : (pIns s i).1.length ≤ s.1.length + 21 := Nat.le_trans (rel_ins (Rel.refl s) i).2.2 (wIns_len s hi)
theorem p_lens (s : Wst) (x : S48) : (pText s x.f0).1.length ≤ s.1.length + 26 ∧ (pKinds (pText s x.f0) x.f1 6).1.length ≤ s.1.length + 42 ∧ (pKind (pKinds (pText s x.f0) x.f1 6) x.f2).1.length ≤ s.1.length + 43 ∧ (pKinds (pKind (pKinds (pText s x.f0) x.f1 6) x.f2) x.f3 16).1.length ≤ s.1.length + 69 := by
  have h0 := rel_text (Rel.refl s) x.f0
  have h1 := rel_kinds h0 x.f1 6
  have h2 := rel_kind h1 x.f2
  have h3 := rel_kinds h2 x.f3 16
  have h := w_len_ s x
  exact ⟨Nat.le_trans h0.2.2 h.1, Nat.le_trans h1.2.2 h.2.1, Nat.le_trans h2.2.2 h.2.2.1, Nat.le_trans h3.2.2 h.2.2.2.1⟩
theorem r_len (cs : List S42) (fs : List S48) (hf : ∀ x ∈ fs, wfF x) : (r0_ cs).1.length ≤ 14 ∧ (r1_ cs).1.length ≤ 9000 ∧ (r2_ cs fs).1.length ≤ 9010 ∧ (r3_ cs fs).1.length ≤ 110000 := by
  have h := e_len cs fs hf
  have h0 := (rel0 cs).2.2
  have h1 := (rel1 cs).2.2
  have h2 := (rel2 cs fs).2.2
  have h3 := (rel3 cs fs).2.2
  omega
set_option maxHeartbeats 8000000 in
set_option maxRecDepth 100000 in
theorem ref_encode (A1 : Option Addr) (c1 : Nat) (A2 : Option Addr) (c2 : Nat) (cs : List S42) (fs : List S48) (hw : wfP cs fs) (w : World)
    (hr1 : Kd.C k42 w A1 cs.length cs) (hr2 : Kd.C k48 w A2 fs.length fs) :
    Calls Try.prog 13 #[.agg #[.slice A1 cs.length c1, .slice A2 fs.length c2]] w fun en w' => ∃ B d, en = .returned (.tuple #[.slice B (refN cs fs).1.length d, .int .i64 (refN cs fs).2]) ∧ St w w' [row 5 1 (.slice B (refN cs fs).1.length d) (refN cs fs).1.length (u8s (refN cs fs).1)] := by
  have HR1 := Aside.mk hr1
  have HR2 := Aside.mk hr2
  have HW := Aside.mk hw
  have HN := Aside.mk (r_len cs fs hw.2)
  have hlm1 := Kd.C_max hr1
  have hlm2 := Kd.C_max hr2
  clear hr1 hr2 hw
  have kc : (convert 31 31 (.slice (some ⟨w.heap.size + 1, 0, none⟩) 4 4)).run Try.prog ((w.alloc (.cells #[.slice A1 cs.length c1, .slice A2 fs.length c2] 29)).alloc (.cells #[.int .u8 87, .int .u8 68, .int .u8 82, .int .u8 49] 5)) = .ok (.slice (some ⟨w.heap.size + 1, 0, none⟩) 4 4) ((w.alloc (.cells #[.slice A1 cs.length c1, .slice A2 fs.length c2] 29)).alloc (.cells #[.int .u8 87, .int .u8 68, .int .u8 82, .int .u8 49] 5 (4, 5))) := by
    have h := Lib.run_convert_bytes_const (P := Try.prog) (w.alloc (.cells #[.slice A1 cs.length c1, .slice A2 fs.length c2] 29)) 31 5 #[.int .u8 87, .int .u8 68, .int .u8 82, .int .u8 49] 4 4 Try.underlying31 Try.underlying5
    simpa using h
  have h3 : St w (((w.alloc (.cells #[.slice A1 cs.length c1, .slice A2 fs.length c2] 29)).alloc (.cells #[.int .u8 87, .int .u8 68, .int .u8 82, .int .u8 49] 5 (4, 5))).alloc (.cells #[.slice (some ⟨w.heap.size + 1, 0, none⟩) 4 4, .int .i64 0] 61))
      (prow (.slice (some ⟨w.heap.size + 1, 0, none⟩) 4 4) ([87, 68, 82, 49], 0) :: blk (w.heap.size + 1 + 1) #[.slice (some ⟨w.heap.size + 1, 0, none⟩) 4 4, .int .i64 0] 61 :: blk w.heap.size #[.slice A1 cs.length c1, .slice A2 fs.length c2] 29 :: []) := by
    have h1 := (St.start w).alloc #[.slice A1 cs.length c1, .slice A2 fs.length c2] 29
    have h2 := h1.new_row (e := 5) (size := 1) (n := 4) #[.int .u8 87, .int .u8 68, .int .u8 82, .int .u8 49] (4, 5) rfl (by decide)
    have h4 := h2.alloc #[.slice (some ⟨w.heap.size + 1, 0, none⟩) 4 4, .int .i64 0] 61
    have h5 := h4.perm (.swap _ _ _)
    have h6 := h5
    simp at h6
    exact h6
  have H0 := Aside.mk h3
  clear h3
  go_enter Try.func13, Try.ntmps13
  go_upto_block 0 with (first | (go_at_call 25; go_loud (refine (ref_count ([87, 68, 82, 49], 0) (.slice (some ⟨w.heap.size + 1, 0, none⟩) 4 4) cs.length 16 (by decide) (by decide) w _ _ H0.out).mono ?_); rintro en w1 ⟨B1, d1, rfl, h1⟩; have H := Aside.mk h1; clear h1) | ((with_reducible refine gate_store (t := 61) (p := 4) rfl ?_); refine store_part rfl rfl rfl rfl rfl H.out ?_; intro wN hN; have q0 := hN.cell 0; have q1 := hN.cell 1; have q4 := (hN.pick 2 rfl).cell 0; have q5 := (hN.pick 2 rfl).cell 1; have H := Aside.mk hN; clear hN))
  obtain ⟨g, hg⟩ : ∃ g, g = w.heap.size + 1 + 1 := ⟨_, rfl⟩
  obtain ⟨gi, hgi⟩ : ∃ gi, gi = w.heap.size := ⟨_, rfl⟩
  rw [← hg, ← hgi] at H
  rw [← hg] at q0 q1
  rw [← hgi] at q4 q5
  rw [← hg, ← hgi]
  clear hg hgi H0 kc
  have H1 : Wr.Aside (St w wN (wst g B1 d1 (r0_ cs) [blk gi #[.slice A1 cs.length c1, .slice A2 fs.length c2] 29])) := H
  clear H
  go_cut [5] (fun v5 wc => ∃ B d, Wr.Aside (St w wc (wst g B d (r1_ cs) [blk gi #[.slice A1 cs.length c1, .slice A2 fs.length c2] 29])))
  case first =>
    go_wp2_with fail
    go_loopg [5] (cs.length) (fun m v5 w' => ∃ i : Nat, m = cs.length - i ∧ i ≤ cs.length ∧ v5 = .int .i64 i ∧ ∃ (B : Option Addr) (d : Nat) (s1 : Wst), Wr.Aside (wAll pClass s1 (cs.drop i) = r1_ cs) ∧ Wr.Aside (s1.2 = 0 → i < cs.length → s1.1.length ≤ 14 + 500 * i ∧ cs.length ≤ 16) ∧ Wr.Aside (St w w' (wst g B d s1 [blk gi #[.slice A1 cs.length c1, .slice A2 fs.length c2] 29])))
    case atStart => exact ⟨0, rfl, Nat.zero_le _, rfl, B1, d1, r0_ cs, ⟨rfl⟩, ⟨fun h _ => ⟨HN.out.1, pCount_ok h⟩⟩, H1⟩
    case round =>
      clear H1 q0 q1 q4 q5
      obtain ⟨i, rfl, hi, rfl, B0, d0, s1, HE, HB, H⟩ := hrel
      have q0 := H.out.cell 0
      have q1 := H.out.cell 1
      have q4 := (H.out.pick 2 rfl).cell 0
      have q5 := (H.out.pick 2 rfl).cell 1
      have hb0 := Aside.mk H.out.below
      have lg := World.block_lt_of_cell? _ _ q0
      have lgi := World.block_lt_of_cell? _ _ q4
      by_cases hlt : i < cs.length
      · obtain ⟨ad, A6, c6, rfl, hcell0, hcell1, hle, hr6⟩ := at_T42 HR1.out i (by omega) (by omega)
        have hd0 := pw_cell_below hb0.out hcell0
        have hd1 := pw_cell_below hb0.out hcell1
        have hci : ((i : Int)).toNat = i := rfl
        rw [hci] at hd0 hd1
        clear hcell0 hcell1 hci
        have HR6 := Aside.mk hr6
        clear hr6
        have hdc : cs.drop i = rd_T42 cs i :: cs.drop (i + 1) := drop_cons z42 cs i hlt
        have HD := Aside.mk hdc
        clear hdc
        by_cases he : s1.2 = 0
        · have hB := Aside.mk (HB.out he hlt)
          have HI := Aside.mk he
          have HT := Aside.mk (HW.out.1 _ (Wr.rdT42_mem hlt))
          have he1 : (s1.2 == 0) = true := by simpa using he
          clear HB he
          generalize hx : rd_T42 cs i = x at HD HR6 HT hd0 hd1
          have HC := Aside.mk ((((H.out.alloc #[.string x.f0, .slice A6 x.f1.length c6] 42).pick 2 rfl).perm (.cons _ (.swap _ _ _))))
          go_upto_block 2 with (first | (go_at_call 26; go_loud (refine (ref_text s1 (.slice B0 s1.1.length d0) x.f0 HT.out.1 (by have := hB.out; omega) w _ _ HC.out).mono ?_); rintro en w1 ⟨B1, d1, rfl, h1⟩; have H := Aside.mk h1; clear h1) | (go_at_call 25; go_loud (refine (ref_count (pText s1 x.f0) _ x.f1.length 15 (by decide) (by have := hB.out; have := pText_len s1 x.f0; omega) w _ _ (H.out.perm (.swap _ _ _))).mono ?_); rintro en w1 ⟨B1, d1, rfl, h1⟩; have H := Aside.mk h1; clear h1) | ((with_reducible refine gate_store (t := 61) (p := 4) rfl ?_); refine store_part rfl rfl rfl rfl rfl H.out ?_; intro wN hN; have q0 := hN.cell 0; have q1 := hN.cell 1; have q2 := (hN.pick 2 rfl).cell 0; have q3 := (hN.pick 2 rfl).cell 1; have q4 := (hN.pick 3 rfl).cell 0; have q5 := (hN.pick 3 rfl).cell 1; have H := Aside.mk hN; clear hN))
          obtain ⟨gc, hgc⟩ : ∃ gc, gc = wr.heap.size := ⟨_, rfl⟩
          rw [← hgc] at H q2 q3 ⊢
          clear hgc HC hd0 hd1 lg lgi hb0
          have H2 : Wr.Aside (St w wN (wst g B1 d1 (pCount (pText s1 x.f0) x.f1.length 15) (blk gc #[.string x.f0, .slice A6 x.f1.length c6] 42 :: [blk gi #[.slice (some ad) cs.length c1, .slice A2 fs.length c2] 29]))) := H
          clear H
          go_wp2_with fail
          go_loopg [7] (x.f1.length) (fun m v7 w' => ∃ k : Nat, m = x.f1.length - k ∧ k ≤ x.f1.length ∧ v7 = .int .i64 k ∧ ∃ (B : Option Addr) (d : Nat) (t1 : Wst), Wr.Aside (wAll pField t1 (x.f1.drop k) = pClass s1 x) ∧ Wr.Aside (t1.2 = 0 → k < x.f1.length → t1.1.length ≤ s1.1.length + 40 + 27 * k ∧ x.f1.length ≤ 15) ∧ Wr.Aside (St w w' (wst g B d t1 (blk gc #[.string x.f0, .slice A6 x.f1.length c6] 42 :: [blk gi #[.slice (some ad) cs.length c1, .slice A2 fs.length c2] 29]))))
          case atStart => exact ⟨0, rfl, Nat.zero_le _, rfl, B1, d1, _, ⟨rfl⟩, ⟨fun h _ => ⟨by have h1 := pText_len s1 x.f0; have h2 := pCount_len (pText s1 x.f0) x.f1.length 15 (by decide); omega, pCount_ok h⟩⟩, H2⟩
          case round =>
            clear H2 q0 q1 q2 q3 q4 q5
            obtain ⟨k, rfl, hk, rfl, B3, d3, t1, HE2, HB2, H⟩ := hrel
            have hlmx := Kd.C_max HR6.out
            have hN := H.out
            have q0 := hN.cell 0
            have q1 := hN.cell 1
            have q2 := (hN.pick 2 rfl).cell 0
            have q3 := (hN.pick 2 rfl).cell 1
            have q4 := (hN.pick 3 rfl).cell 0
            have q5 := (hN.pick 3 rfl).cell 1
            have hb0 := Aside.mk hN.below
            clear hN
            by_cases hlk : k < x.f1.length
            · obtain ⟨ad4, rfl, hcell0, hcell1⟩ := at_T44 HR6.out k (by omega) (by omega)
              have hci : ((k : Int)).toNat = k := rfl
              rw [hci] at hcell0 hcell1
              have HC0 := Aside.mk hcell0
              have HC1 := Aside.mk hcell1
              have e0 := pw_cell_below hb0.out HC0.out
              have e1 := pw_cell_below hb0.out HC1.out
              clear hcell0 hcell1 hci
              have hdk : x.f1.drop k = rd_T44 x.f1 k :: x.f1.drop (k + 1) := drop_cons z44 x.f1 k hlk
              have HD2 := Aside.mk hdk
              clear hdk
              by_cases he : t1.2 = 0
              · have hB2 := Aside.mk (HB2.out he hlk)
                have HI2 := Aside.mk he
                have HT2 := Aside.mk (HT.out.2 _ (Wr.rdT44_mem hlk))
                have he1 : (t1.2 == 0) = true := by simpa using he
                clear HB2 he
                go_wp2
                go_still_tail 7, (by kernel_rfl)
                change wpList _ _ _ _ _ (World.drew _)
                have H9 := Aside.mk H.out.drew
                clear H q0 q1 q2 q3 q4 q5 e0 e1 hb0
                generalize World.drew _ = w9 at H9 ⊢
                have H := H9
                clear H9
                go_wp2_with (first | (go_at_call 26; go_loud (refine (ref_text t1 _ (rd_T44 x.f1 k).f0 HT2.out (by have := hB2.out; have := hB.out; omega) w _ _ (H.out.perm (.swap _ _ _))).mono ?_); rintro en w1 ⟨B1, d1, rfl, h1⟩; have H := Aside.mk h1; clear h1) | ((with_reducible refine gate_store (t := 61) (p := 4) rfl ?_); refine store_part rfl rfl rfl rfl rfl H.out ?_; intro wN hN; have q0 := hN.cell 0; have q1 := hN.cell 1; have q2 := (hN.pick 2 rfl).cell 0; have q3 := (hN.pick 2 rfl).cell 1; have q4 := (hN.pick 3 rfl).cell 0; have q5 := (hN.pick 3 rfl).cell 1; have e0 := pw_cell_below hN.below HC0.out; have e1 := pw_cell_below hN.below HC1.out; have H := Aside.mk hN; clear hN))
                go_still_tail 7, (by kernel_rfl)
                change wpList _ _ _ _ _ (World.drew _)
                have H9 := Aside.mk H.out.drew
                clear H q0 q1 q2 q3 q4 q5 e0 e1
                generalize World.drew _ = w10 at H9 ⊢
                have H := H9
                clear H9
                go_wp2_with (first | (go_at_call 27; go_loud (refine (ref_kind (pText t1 (rd_T44 x.f1 k).f0) _ (rd_T44 x.f1 k).f1 (by have := hB2.out; have := hB.out; have := pText_len t1 (rd_T44 x.f1 k).f0; omega) w _ _ (H.out.perm (.swap _ _ _))).mono ?_); rintro en w1 ⟨B1, d1, rfl, h1⟩; have H := Aside.mk h1; clear h1) | ((with_reducible refine gate_store (t := 61) (p := 4) rfl ?_); refine store_part rfl rfl rfl rfl rfl H.out ?_; intro wN hN; have q0 := hN.cell 0; have q1 := hN.cell 1; have q2 := (hN.pick 2 rfl).cell 0; have q3 := (hN.pick 2 rfl).cell 1; have q4 := (hN.pick 3 rfl).cell 0; have q5 := (hN.pick 3 rfl).cell 1; have e0 := pw_cell_below hN.below HC0.out; have e1 := pw_cell_below hN.below HC1.out; have H := Aside.mk hN; clear hN))
                go_roundg (x.f1.length - (k + 1))
                case measure => omega
                case rel =>
                  refine ⟨k + 1, rfl, by omega, by go_num, _, _, pField t1 (rd_T44 x.f1 k), ⟨?_⟩, ⟨fun _ _ => ?_⟩, H⟩
                  · rw [← HE2.out, HD2.out, wAll, if_pos HI2.out]
                  · have h1 := pField_len t1 (rd_T44 x.f1 k)
                    have h2 := hB2.out
                    omega
              · have he1 : (t1.2 == 0) = false := by simpa using he
                have he2 : pClass s1 x = t1 := by rw [← HE2.out]; exact wAll_stop _ _ _ he
                have HI2 := Aside.mk he2
                clear he2 he
                go_wp2
                go_roundg (cs.length - (i + 1))
                case measure => omega
                case rel =>
                  have h9 : St w _ (wst g B3 d3 t1 [blk gi #[.slice (some ad) cs.length c1, .slice A2 fs.length c2] 29]) := (H.out.pick 2 rfl).rest
                  rw [← HI2.out] at h9
                  refine ⟨i + 1, rfl, by omega, by go_num, B3, d3, pClass s1 x, ⟨?_⟩, ⟨fun _ _ => ?_⟩, ⟨h9⟩⟩
                  · rw [← HE.out, HD.out, wAll, if_pos HI.out]
                  · have h1 := pClass_len s1 x
                    have h2 := hB.out
                    omega
            · have he2 : pClass s1 x = t1 := by rw [← HE2.out, List.drop_of_length_le (by omega)]; rfl
              have HI2 := Aside.mk he2
              clear he2
              go_wp2
              go_roundg (cs.length - (i + 1))
              case measure => omega
              case rel =>
                have h9 : St w _ (wst g B3 d3 t1 [blk gi #[.slice (some ad) cs.length c1, .slice A2 fs.length c2] 29]) := (H.out.pick 2 rfl).rest
                rw [← HI2.out] at h9
                refine ⟨i + 1, rfl, by omega, by go_num, B3, d3, pClass s1 x, ⟨?_⟩, ⟨fun _ _ => ?_⟩, ⟨h9⟩⟩
                · rw [← HE.out, HD.out, wAll, if_pos HI.out]
                · have h1 := pClass_len s1 x
                  have h2 := hB.out
                  omega
        · have he1 : (s1.2 == 0) = false := by simpa using he
          have he2 : r1_ cs = s1 := by rw [← HE.out]; exact wAll_stop _ _ _ he
          have HI := Aside.mk he2
          clear he2
          go_wp2
          go_meet
          case rel => exact ⟨B0, d0, ⟨by rw [HI.out]; exact H.out⟩⟩
      · have he2 : r1_ cs = s1 := by rw [← HE.out, List.drop_of_length_le (by omega)]; rfl
        have HI := Aside.mk he2
        clear he2 HE HB
        go_wp2
        go_meet
        case rel => exact ⟨B0, d0, ⟨by rw [HI.out]; exact H.out⟩⟩
  case rest =>
    clear H1 q0 q1 q4 q5
    obtain ⟨B2, d2, H⟩ := hcut
    have q0 := H.out.cell 0
    have q1 := H.out.cell 1
    have q4 := (H.out.pick 2 rfl).cell 0
    have q5 := (H.out.pick 2 rfl).cell 1
    go_upto_block 4 with (first | (go_at_call 25; go_loud (refine (ref_count (r1_ cs) _ fs.length 16 (by decide) (by have := HN.out; omega) w _ _ (H.out.perm (.swap _ _ _))).mono ?_); rintro en w1 ⟨B1, d1, rfl, h1⟩; have H := Aside.mk h1; clear h1) | ((with_reducible refine gate_store (t := 61) (p := 4) rfl ?_); refine store_part rfl rfl rfl rfl rfl H.out ?_; intro wN hN; have q0 := hN.cell 0; have q1 := hN.cell 1; have q4 := (hN.pick 2 rfl).cell 0; have q5 := (hN.pick 2 rfl).cell 1; have H := Aside.mk hN; clear hN))
    obtain ⟨H2, hH2⟩ : ∃ q : Wr.Aside (St w wN (wst g B1 d1 (r2_ cs fs) [blk gi #[.slice A1 cs.length c1, .slice A2 fs.length c2] 29])), True := ⟨H, trivial⟩
    clear hH2 H
    go_cut [8] (fun v8 wc => ∃ B d, Wr.Aside (St w wc (wst g B d (r3_ cs fs) [blk gi #[.slice A1 cs.length c1, .slice A2 fs.length c2] 29])))
    case first =>
      go_wp2_with fail
      go_loopg [8] (fs.length) (fun m v8 w' => ∃ i : Nat, m = fs.length - i ∧ i ≤ fs.length ∧ v8 = .int .i64 i ∧ ∃ (B : Option Addr) (d : Nat) (s1 : Wst), Wr.Aside (wAll pFunc s1 (fs.drop i) = r3_ cs fs) ∧ Wr.Aside (s1.2 = 0 → i < fs.length → s1.1.length ≤ 9010 + 6000 * i ∧ fs.length ≤ 16) ∧ Wr.Aside (St w w' (wst g B d s1 [blk gi #[.slice A1 cs.length c1, .slice A2 fs.length c2] 29])))
      case atStart => exact ⟨0, rfl, Nat.zero_le _, rfl, B1, d1, r2_ cs fs, ⟨rfl⟩, ⟨fun h _ => ⟨HN.out.2.2.1, pCount_ok h⟩⟩, H2⟩
      case round =>
        clear H2 q0 q1 q4 q5
        obtain ⟨i, rfl, hi, rfl, B0, d0, s1, HE, HB, H⟩ := hrel
        have q0 := H.out.cell 0
        have q1 := H.out.cell 1
        have q4 := (H.out.pick 2 rfl).cell 0
        have q5 := (H.out.pick 2 rfl).cell 1
        have hb0 := Aside.mk H.out.below
        have lg := World.block_lt_of_cell? _ _ q0
        have lgi := World.block_lt_of_cell? _ _ q4
        by_cases hlt : i < fs.length
        · obtain ⟨ad, A6, c6, A7, c7, A8, c8, rfl, hcell0, hcell1, hcell2, hcell3, hcell4, hle6, hr6, hle7, hr7, hle8, hr8⟩ := at_T48 HR2.out i (by omega) (by omega)
          have hd0 := pw_cell_below hb0.out hcell0
          have hd1 := pw_cell_below hb0.out hcell1
          have hd2 := pw_cell_below hb0.out hcell2
          have hd3 := pw_cell_below hb0.out hcell3
          have hd4 := pw_cell_below hb0.out hcell4
          have hci : ((i : Int)).toNat = i := rfl
          rw [hci] at hd0 hd1 hd2 hd3 hd4
          clear hcell0 hcell1 hcell2 hcell3 hcell4 hci
          have HR6 := Aside.mk hr6
          have HR7 := Aside.mk hr7
          have HR8 := Aside.mk hr8
          clear hr6 hr7 hr8
          have hdc : fs.drop i = rd_T48 fs i :: fs.drop (i + 1) := drop_cons z48 fs i hlt
          have HD := Aside.mk hdc
          clear hdc
          by_cases he : s1.2 = 0
          · have hB := Aside.mk (HB.out he hlt)
            have HI := Aside.mk he
            have HT := Aside.mk (HW.out.2 _ (Wr.rdT48_mem hlt))
            have he1 : (s1.2 == 0) = true := by simpa using he
            clear HB he
            generalize hx : rd_T48 fs i = x at HD HR6 HR7 HR8 HT hd0 hd1 hd2 hd3 hd4 hle6 hle7 hle8
            have HC := Aside.mk ((((H.out.alloc #[.string x.f0, .slice A6 x.f1.length c6, .int .i64 x.f2, .slice A7 x.f3.length c7, .slice A8 x.f4.length c8] 48).pick 2 rfl).perm (.cons _ (.swap _ _ _))))
            go_wp2_with (first | (go_at_call 26; go_loud (refine (ref_text s1 (.slice B0 s1.1.length d0) x.f0 HT.out.1 (by have := hB.out; have := (p_lens s1 x).1; have := (p_lens s1 x).2.1; have := (p_lens s1 x).2.2.1; have := (p_lens s1 x).2.2.2; omega) w _ _ HC.out).mono ?_); rintro en w1 ⟨B1, d1, rfl, h1⟩; have H := Aside.mk h1; clear h1) | ((with_reducible refine gate_store (t := 61) (p := 4) rfl ?_); refine store_part rfl rfl rfl rfl rfl H.out ?_; intro wN hN; have q0 := hN.cell 0; have q1 := hN.cell 1; have p0 := (hN.pick 2 rfl).cell 0; have p1 := (hN.pick 2 rfl).cell 1; have p2 := (hN.pick 2 rfl).cell 2; have p3 := (hN.pick 2 rfl).cell 3; have p4 := (hN.pick 2 rfl).cell 4; have q4 := (hN.pick 3 rfl).cell 0; have q5 := (hN.pick 3 rfl).cell 1; have H := Aside.mk hN; clear hN))
            refine (ref_kinds (pText s1 x.f0) _ A6 c6 x.f1 6 (by decide) (by have := hB.out; have := (p_lens s1 x).1; have := (p_lens s1 x).2.1; have := (p_lens s1 x).2.2.1; have := (p_lens s1 x).2.2.2; omega) w _ _ (H.out.perm (.swap _ _ _)) HR6.out).mono ?_
            rintro en w1 ⟨B1, d1, rfl, h1⟩
            clear H
            have H := Aside.mk h1
            clear h1
            go_wp2_with (first | (go_at_call 27; go_loud (refine (ref_kind (pKinds (pText s1 x.f0) x.f1 6) _ x.f2 (by have := hB.out; have := (p_lens s1 x).1; have := (p_lens s1 x).2.1; have := (p_lens s1 x).2.2.1; have := (p_lens s1 x).2.2.2; omega) w _ _ (H.out.perm (.swap _ _ _))).mono ?_); rintro en w1 ⟨B1, d1, rfl, h1⟩; have H := Aside.mk h1; clear h1) | ((with_reducible refine gate_store (t := 61) (p := 4) rfl ?_); refine store_part rfl rfl rfl rfl rfl H.out ?_; intro wN hN; have q0 := hN.cell 0; have q1 := hN.cell 1; have p0 := (hN.pick 2 rfl).cell 0; have p1 := (hN.pick 2 rfl).cell 1; have p2 := (hN.pick 2 rfl).cell 2; have p3 := (hN.pick 2 rfl).cell 3; have p4 := (hN.pick 2 rfl).cell 4; have q4 := (hN.pick 3 rfl).cell 0; have q5 := (hN.pick 3 rfl).cell 1; have H := Aside.mk hN; clear hN))
            refine (ref_kinds (pKind (pKinds (pText s1 x.f0) x.f1 6) x.f2) _ A7 c7 x.f3 16 (by decide) (by have := hB.out; have := (p_lens s1 x).1; have := (p_lens s1 x).2.1; have := (p_lens s1 x).2.2.1; have := (p_lens s1 x).2.2.2; omega) w _ _ (H.out.perm (.swap _ _ _)) HR7.out).mono ?_
            rintro en w1 ⟨B1, d1, rfl, h1⟩
            clear H
            have H := Aside.mk h1
            clear h1
            go_upto_block 6 with (first | (go_at_call 25; go_loud (refine (ref_count (pKinds (pKind (pKinds (pText s1 x.f0) x.f1 6) x.f2) x.f3 16) _ x.f4.length 256 (by decide) (by have := hB.out; have := (p_lens s1 x).1; have := (p_lens s1 x).2.1; have := (p_lens s1 x).2.2.1; have := (p_lens s1 x).2.2.2; omega) w _ _ (H.out.perm (.swap _ _ _))).mono ?_); rintro en w1 ⟨B1, d1, rfl, h1⟩; have H := Aside.mk h1; clear h1) | ((with_reducible refine gate_store (t := 61) (p := 4) rfl ?_); refine store_part rfl rfl rfl rfl rfl H.out ?_; intro wN hN; have q0 := hN.cell 0; have q1 := hN.cell 1; have p0 := (hN.pick 2 rfl).cell 0; have p1 := (hN.pick 2 rfl).cell 1; have p2 := (hN.pick 2 rfl).cell 2; have p3 := (hN.pick 2 rfl).cell 3; have p4 := (hN.pick 2 rfl).cell 4; have q4 := (hN.pick 3 rfl).cell 0; have q5 := (hN.pick 3 rfl).cell 1; have H := Aside.mk hN; clear hN))
            obtain ⟨gc, hgc⟩ : ∃ gc, gc = wr.heap.size := ⟨_, rfl⟩
            rw [← hgc] at H p0 p1 p2 p3 p4 ⊢
            clear hgc HC hd0 hd1 hd2 hd3 hd4 lg lgi hb0
            have H3 : Wr.Aside (St w wN (wst g B1 d1 (pCount (pKinds (pKind (pKinds (pText s1 x.f0) x.f1 6) x.f2) x.f3 16) x.f4.length 256) (blk gc #[.string x.f0, .slice A6 x.f1.length c6, .int .i64 x.f2, .slice A7 x.f3.length c7, .slice A8 x.f4.length c8] 48 :: [blk gi #[.slice A1 cs.length c1, .slice (some ad) fs.length c2] 29]))) := H
            clear H
            go_wp2_with fail
            go_loopg [10] (x.f4.length) (fun m v10 w' => ∃ k : Nat, m = x.f4.length - k ∧ k ≤ x.f4.length ∧ v10 = .int .i64 k ∧ ∃ (B : Option Addr) (d : Nat) (t1 : Wst), Wr.Aside (wAll pIns t1 (x.f4.drop k) = pFunc s1 x) ∧ Wr.Aside (t1.2 = 0 → k < x.f4.length → t1.1.length ≤ s1.1.length + 100 + 21 * k ∧ x.f4.length ≤ 256) ∧ Wr.Aside (St w w' (wst g B d t1 (blk gc #[.string x.f0, .slice A6 x.f1.length c6, .int .i64 x.f2, .slice A7 x.f3.length c7, .slice A8 x.f4.length c8] 48 :: [blk gi #[.slice A1 cs.length c1, .slice (some ad) fs.length c2] 29]))))
            case atStart => exact ⟨0, rfl, Nat.zero_le _, rfl, B1, d1, _, ⟨rfl⟩, ⟨fun h _ => ⟨by have h1 := (p_lens s1 x).2.2.2; have h2 := pCount_len (pKinds (pKind (pKinds (pText s1 x.f0) x.f1 6) x.f2) x.f3 16) x.f4.length 256 (by decide); omega, pCount_ok h⟩⟩, H3⟩
            case round =>
              clear H3 q0 q1 p0 p1 p2 p3 p4 q4 q5
              obtain ⟨k, rfl, hk, rfl, B3, d3, t1, HE2, HB2, H⟩ := hrel
              have hlmx := Kd.C_max HR8.out
              have hN := H.out
              have q0 := hN.cell 0
              have q1 := hN.cell 1
              have p0 := (hN.pick 2 rfl).cell 0
              have p1 := (hN.pick 2 rfl).cell 1
              have p2 := (hN.pick 2 rfl).cell 2
              have p3 := (hN.pick 2 rfl).cell 3
              have p4 := (hN.pick 2 rfl).cell 4
              have q4 := (hN.pick 3 rfl).cell 0
              have q5 := (hN.pick 3 rfl).cell 1
              have hb0 := Aside.mk hN.below
              clear hN
              by_cases hlk : k < x.f4.length
              · obtain ⟨ad4, rfl, hcell0, hcell1, hcell2⟩ := at_T23 HR8.out k (by omega) (by omega)
                have hci : ((k : Int)).toNat = k := rfl
                rw [hci] at hcell0 hcell1 hcell2
                have e0 := pw_cell_below hb0.out hcell0
                have e1 := pw_cell_below hb0.out hcell1
                have e2 := pw_cell_below hb0.out hcell2
                clear hcell0 hcell1 hcell2 hci
                have hdk : x.f4.drop k = rd_T23 x.f4 k :: x.f4.drop (k + 1) := drop_cons z23 x.f4 k hlk
                have HD2 := Aside.mk hdk
                clear hdk
                by_cases he : t1.2 = 0
                · have hB2 := Aside.mk (HB2.out he hlk)
                  have HI2 := Aside.mk he
                  have HT2 := Aside.mk (HT.out.2 _ (Wr.rdT23_mem hlk))
                  have he1 : (t1.2 == 0) = true := by simpa using he
                  clear HB2 he
                  go_wp2
                  go_still_tail 6, (by kernel_rfl)
                  change wpList _ _ _ _ _ (World.drew _)
                  have H9 := Aside.mk H.out.drew
                  clear H q0 q1 p0 p1 p2 p3 p4 q4 q5 e0 e1 e2 hb0
                  generalize World.drew _ = w9 at H9 ⊢
                  have H := H9
                  clear H9
                  go_wp2_with (first | (go_at_call 29; go_loud (refine (ref_ins t1 _ (rd_T23 x.f4 k) HT2.out (by have := hB2.out; have := hB.out; omega) w _ _ (H.out.perm (.swap _ _ _))).mono ?_); rintro en w1 ⟨B1, d1, rfl, h1⟩; have H := Aside.mk h1; clear h1) | ((with_reducible refine gate_store (t := 61) (p := 4) rfl ?_); refine store_part rfl rfl rfl rfl rfl H.out ?_; intro wN hN; have q0 := hN.cell 0; have q1 := hN.cell 1; have p0 := (hN.pick 2 rfl).cell 0; have p1 := (hN.pick 2 rfl).cell 1; have p2 := (hN.pick 2 rfl).cell 2; have p3 := (hN.pick 2 rfl).cell 3; have p4 := (hN.pick 2 rfl).cell 4; have q4 := (hN.pick 3 rfl).cell 0; have q5 := (hN.pick 3 rfl).cell 1; have H := Aside.mk hN; clear hN))
                  go_roundg (x.f4.length - (k + 1))
                  case measure => omega
                  case rel =>
                    refine ⟨k + 1, rfl, by omega, by go_num, _, _, pIns t1 (rd_T23 x.f4 k), ⟨?_⟩, ⟨fun _ _ => ?_⟩, H⟩
                    · rw [← HE2.out, HD2.out, wAll, if_pos HI2.out]
                    · have h1 := pIns_len t1 HT2.out
                      have h2 := hB2.out
                      omega
                · have he1 : (t1.2 == 0) = false := by simpa using he
                  have he2 : pFunc s1 x = t1 := by rw [← HE2.out]; exact wAll_stop _ _ _ he
                  have HI2 := Aside.mk he2
                  clear he2 he
                  go_wp2
                  go_roundg (fs.length - (i + 1))
                  case measure => omega
                  case rel =>
                    have h9 : St w _ (wst g B3 d3 t1 [blk gi #[.slice A1 cs.length c1, .slice (some ad) fs.length c2] 29]) := (H.out.pick 2 rfl).rest
                    rw [← HI2.out] at h9
                    refine ⟨i + 1, rfl, by omega, by go_num, B3, d3, pFunc s1 x, ⟨?_⟩, ⟨fun _ _ => ?_⟩, ⟨h9⟩⟩
                    · rw [← HE.out, HD.out, wAll, if_pos HI.out]
                    · have h1 := pFunc_len s1 x HT.out
                      have h2 := hB.out
                      omega
              · have he2 : pFunc s1 x = t1 := by rw [← HE2.out, List.drop_of_length_le (by omega)]; rfl
                have HI2 := Aside.mk he2
                clear he2
                go_wp2
                go_roundg (fs.length - (i + 1))
                case measure => omega
                case rel =>
                  have h9 : St w _ (wst g B3 d3 t1 [blk gi #[.slice A1 cs.length c1, .slice (some ad) fs.length c2] 29]) := (H.out.pick 2 rfl).rest
                  rw [← HI2.out] at h9
                  refine ⟨i + 1, rfl, by omega, by go_num, B3, d3, pFunc s1 x, ⟨?_⟩, ⟨fun _ _ => ?_⟩, ⟨h9⟩⟩
                  · rw [← HE.out, HD.out, wAll, if_pos HI.out]
                  · have h1 := pFunc_len s1 x HT.out
                    have h2 := hB.out
                    omega
          · have he1 : (s1.2 == 0) = false := by simpa using he
            have he2 : r3_ cs fs = s1 := by rw [← HE.out]; exact wAll_stop _ _ _ he
            have HI := Aside.mk he2
            clear he2
            go_wp2
            go_meet
            case rel => exact ⟨B0, d0, ⟨by rw [HI.out]; exact H.out⟩⟩
        · have he2 : r3_ cs fs = s1 := by rw [← HE.out, List.drop_of_length_le (by omega)]; rfl
          have HI := Aside.mk he2
          clear he2 HE HB
          go_wp2
          go_meet
          case rel => exact ⟨B0, d0, ⟨by rw [HI.out]; exact H.out⟩⟩
    case rest =>
      clear H2 q0 q1 q4 q5
      obtain ⟨B3, d3, H⟩ := hcut
      have q0 := H.out.cell 0
      have q1 := H.out.cell 1
      by_cases he : (r3_ cs fs).2 = 0
      · have hI : refN cs fs = r3_ cs fs := if_pos he
        have HI := Aside.mk hI
        have he1 : ((r3_ cs fs).2 == 0) = true := by simpa using he
        have he2 : ((r3_ cs fs).2 != 0) = false := by simpa using he
        have HE := Aside.mk he
        clear hI he
        go_wp2
        go_ret2
        refine ⟨B3, d3, ?_, ?_⟩
        · show Ending.returned (.tuple #[.slice B3 (r3_ cs fs).1.length d3, .int .i64 0]) = _
          rw [HI.out, HE.out]
        rw [HI.out]
        exact (H.out.rest.perm (.swap _ _ _)).rest
      · have hI : refN cs fs = ([], (r3_ cs fs).2) := if_neg he
        have HI := Aside.mk hI
        have he1 : ((r3_ cs fs).2 == 0) = false := by simpa using he
        have he2 : ((r3_ cs fs).2 != 0) = true := by simpa using he
        clear hI he
        go_wp2
        go_region
        all_goals
          go_wp2
          go_ret2
          refine ⟨none, 0, ?_, ?_⟩
          · show Ending.returned (.tuple #[.slice none 0 0, .int .i64 (r3_ cs fs).2]) = _
            rw [HI.out]
            rfl
          rw [HI.out]
          exact ((St.nil_row (H.out.rest.rest.rest) 5 1)).drew
end Go.Proofs.Ytakpdmkfengghaa.Rf
