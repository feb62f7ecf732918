/- The writer of a program's bytes: programs. Conditions: the bytes stay below 2^40. -/
import Derived.Test.YtakpdmkfengghaaProg
import Derived.Test.YtakpdmkfengghaaSep
import Derived.Test.YtakpdmkfengghaaWr5
import Derived.Test.YtakpdmkfengghaaWp1
import Derived.StillTailTactics
import Derived.Below
import Derived.Deep.Draws
import Derived.Deep.AppendLies
import Derived.Maps.AppendAt
import Derived.OwnWalk
import Derived.Laws.BytesArg
import Derived.Laws.MakeOwn
import Derived.Laws.OwnMore
import Derived.Deep.OwnRows
import Derived.Tactics
import Derived.Lib.ConvBytes
import Derived.Laws.Slices
import Derived.WalkKit
import Derived.KernelRfl
import Derived.RowKit3
import Derived.Deep.LoopGhost
import Derived.Deep.QuietTactic
import Derived.BigQuiet
import Derived.WideLaws
import Derived.Deep.DeepCutAuto
import Derived.Deep.CutBlock
import Derived.Deep.RegionHeld3
import Derived.Laws.Rows
import Derived.Lib.AppendStr
import Derived.ArgAppend
import Derived.Laws.IdiomCopy
import Derived.OrdersHeld
import Derived.Laws.BitsLemmas
import Derived.RowKit
import Derived.Lib.SlBytesConst
namespace Go.Proofs.Ytakpdmkfengghaa.Wr
open Go Go.RowKit Go.Proofs.Ytakpdmkfengghaa.Sep Go.Proofs.YtakpdmkfengghaaW.PrintWords Go.Proofs.YtakpdmkfengghaaW.PrintLast Go.Proofs.YtakpdmkfengghaaW.PrintMore Go.Proofs.Ytakpdmkfengghaa.Q
set_option linter.unusedVariables false
set_option linter.unusedSimpArgs false

def wfP (cs : List S42) (fs : List S48) : Prop := (∀ x ∈ cs, wfC x) ∧ ∀ x ∈ fs, wfF x
def e0_ (cs : List S42) : Wst := wCount ([87, 68, 82, 49], 0) cs.length 16
def e1_ (cs : List S42) : Wst := wAll wClass (e0_ cs) cs
def e2_ (cs : List S42) (fs : List S48) : Wst := wCount (e1_ cs) fs.length 16
def e3_ (cs : List S42) (fs : List S48) : Wst := wAll wFunc (e2_ cs fs) fs
/-- A program's bytes, or none, and an error. -/
def encN (cs : List S42) (fs : List S48) : Wst := if (e3_ cs fs).2 = 0 then e3_ cs fs else ([], (e3_ cs fs).2)
theorem e_len (cs : List S42) (fs : List S48) (hf : ∀ x ∈ fs, wfF x) : (e0_ cs).1.length ≤ 14 ∧ (e1_ cs).1.length ≤ 9000 ∧ (e2_ cs fs).1.length ≤ 9010 ∧ (e3_ cs fs).1.length ≤ 110000 := by
  have h0 := wCount_len (s := (([87, 68, 82, 49] : List Int), (0 : Int))) (n := cs.length) (most := 16) (by decide)
  have h1 := wAll_len_if wClass 500 16 cs (e0_ cs) (fun s x _ => wClass_len s x) (fun h => (wCount_ok h).1)
  have h2 := wCount_len (s := e1_ cs) (n := fs.length) (most := 16) (by decide)
  have h3 := wAll_len_if wFunc 6000 16 fs (e2_ cs fs) (fun s x hx => wFunc_len s x (hf x hx)) (fun h => (wCount_ok h).1)
  have g0 : e0_ cs = wCount ([87, 68, 82, 49], 0) cs.length 16 := rfl
  have g1 : e1_ cs = wAll wClass (e0_ cs) cs := rfl
  have g2 : e2_ cs fs = wCount (e1_ cs) fs.length 16 := rfl
  have g3 : e3_ cs fs = wAll wFunc (e2_ cs fs) fs := rfl
  rw [← g0] at h0
  rw [← g1] at h1
  rw [← g2] at h2
  rw [← g3] at h3
  simp only [List.length_cons, List.length_nil] at h0
  omega
set_option maxHeartbeats 8000000 in
set_option maxRecDepth 100000 in
theorem encode (A1 : Option Addr) (c1 : Nat) (A2 : Option Addr) (c2 : Nat) (cs : List S42) (fs : List S48) (hw : wfP cs fs) (w : World)
    (hr1 : k42.C w A1 cs.length cs) (hr2 : k48.C w A2 fs.length fs) :
    Calls Try.prog 12 #[.agg #[.slice A1 cs.length c1, .slice A2 fs.length c2]] w fun en w' => ∃ v, en = .returned (.tuple #[v, .int .i64 (encN cs fs).2]) ∧ St w w' [row 5 1 v (encN cs fs).1.length (u8s (encN cs fs).1)] := by
  have HR1 := Aside.mk hr1
  have HR2 := Aside.mk hr2
  have HW := Aside.mk hw
  have HN := Aside.mk (e_len cs fs hw.2)
  have hlm1 := Kd.C_max hr1
  have hlm2 := Kd.C_max hr2
  clear hr1 hr2 hw
  have kc : (convert 31 31 (.slice (some ⟨w.heap.size + 1, 0, none⟩) 4 4)).run Try.prog ((w.alloc (.cells #[.slice A1 cs.length c1, .slice A2 fs.length c2] 29)).alloc (.cells #[.int .u8 87, .int .u8 68, .int .u8 82, .int .u8 49] 5)) = .ok (.slice (some ⟨w.heap.size + 1, 0, none⟩) 4 4) ((w.alloc (.cells #[.slice A1 cs.length c1, .slice A2 fs.length c2] 29)).alloc (.cells #[.int .u8 87, .int .u8 68, .int .u8 82, .int .u8 49] 5 (4, 5))) := by
    have h := Lib.run_convert_bytes_const (P := Try.prog) (w.alloc (.cells #[.slice A1 cs.length c1, .slice A2 fs.length c2] 29)) 31 5 #[.int .u8 87, .int .u8 68, .int .u8 82, .int .u8 49] 4 4 Try.underlying31 Try.underlying5
    simpa using h
  have h3 : St w (((w.alloc (.cells #[.slice A1 cs.length c1, .slice A2 fs.length c2] 29)).alloc (.cells #[.int .u8 87, .int .u8 68, .int .u8 82, .int .u8 49] 5 (4, 5))).alloc (.cells #[.slice (some ⟨w.heap.size + 1, 0, none⟩) 4 4, .int .i64 0] 56))
      (wrt (w.heap.size + 1 + 1) [87, 68, 82, 49] 0 :: blk w.heap.size #[.slice A1 cs.length c1, .slice A2 fs.length c2] 29 :: []) := by
    have h1 := (St.start w).alloc #[.slice A1 cs.length c1, .slice A2 fs.length c2] 29
    have h2 := h1.new_row (e := 5) (size := 1) (n := 4) #[.int .u8 87, .int .u8 68, .int .u8 82, .int .u8 49] (4, 5) rfl (by decide)
    have h4 := h2.alloc #[.slice (some ⟨w.heap.size + 1, 0, none⟩) 4 4, .int .i64 0] 56
    refine wrt_shut (v := .slice (some ⟨w.heap.size + 1, 0, none⟩) 4 4) ?_
    simpa [u8s] using h4
  have H0 := Aside.mk h3
  clear h3
  go_enter Try.func12, Try.ntmps12
  go_upto_block 0 with (go_at_call 22; refine (w_count (w.heap.size + 1 + 1) ([87, 68, 82, 49], 0) cs.length 16 (by decide) (by decide) w _ _ H0.out).mono ?_; rintro en w1 ⟨rfl, h1⟩; have hi0 := (h1.perm (.swap _ _ _)).cell 0; have H1 : Aside (St w w1 (wrt _ (e0_ cs).1 (e0_ cs).2 :: _)) := Aside.mk h1; clear h1)
  obtain ⟨g, hg⟩ : ∃ g, g = w.heap.size + 1 + 1 := ⟨_, rfl⟩
  obtain ⟨gi, hgi⟩ : ∃ gi, gi = w.heap.size := ⟨_, rfl⟩
  rw [← hg, ← hgi] at H1
  rw [← hgi] at hi0
  rw [← hg, ← hgi]
  clear hg hgi H0 kc
  obtain ⟨F2, hF2⟩ : ∃ F2, F2 = blk gi #[.slice A1 cs.length c1, .slice A2 fs.length c2] 29 :: [] := ⟨_, rfl⟩
  have HF2 := Aside.mk hF2
  rw [← hF2] at H1
  clear hF2
  go_cut [5] (fun v5 wc => Aside (St w wc (wrt g (e1_ cs).1 (e1_ cs).2 :: F2)))
  case first =>
    go_wp2_with fail
    go_loopg [5] (cs.length) (fun m v5 w' => ∃ i : Nat, m = cs.length - i ∧ i ≤ cs.length ∧ v5 = .int .i64 i ∧ ∃ s1 : Wst, Aside (wAll wClass s1 (cs.drop i) = e1_ cs) ∧ Aside (s1.2 = 0 → i < cs.length → s1.1.length ≤ 14 + 500 * i ∧ cs.length ≤ 16) ∧ Aside (St w w' (wrt g s1.1 s1.2 :: F2)))
    case atStart => exact ⟨0, rfl, Nat.zero_le _, rfl, e0_ cs, ⟨rfl⟩, ⟨fun h _ => ⟨HN.out.1, (wCount_ok h).1⟩⟩, H1⟩
    case round =>
      clear H1 hi0
      obtain ⟨i, rfl, hi, rfl, s1, HE, HB, H⟩ := hrel
      have h0 := H.out
      rw [HF2.out] at h0
      have hi0 := (h0.perm (.swap _ _ _)).cell 0
      clear h0
      obtain ⟨A5, cp, hcp, h⟩ := wrt_open H.out
      have hc1 := h.cell 1
      have hb0 := Aside.mk h.below
      clear h
      by_cases hlt : i < cs.length
      · obtain ⟨ad, A6, c6, rfl, hcell0, hcell1, hle, hr6⟩ := at_T42 HR1.out i (by omega) (by omega)
        have hd0 := pw_cell_below hb0.out hcell0
        have hd1 := pw_cell_below hb0.out hcell1
        have hci : ((i : Int)).toNat = i := rfl
        rw [hci] at hd0 hd1
        clear hcell0 hcell1 hci
        have HR6 := Aside.mk hr6
        clear hr6
        have hdc : cs.drop i = rd_T42 cs i :: cs.drop (i + 1) := drop_cons z42 cs i hlt
        have HD := Aside.mk hdc
        clear hdc
        by_cases he : s1.2 = 0
        · have hB := Aside.mk (HB.out he hlt)
          have HI := Aside.mk he
          have HT := Aside.mk (HW.out.1 _ (rdT42_mem hlt))
          clear HB
          go_wp2_with (first | (go_at_call 23; refine (w_class g s1 A6 c6 (rd_T42 cs i) HT.out (by have := hB.out; omega) w _ _ H.out HR6.out).mono ?_; rintro en w1 ⟨rfl, h1⟩; have H2 := Aside.mk h1; clear h1))
          go_roundg (cs.length - (i + 1))
          case measure => omega
          case rel =>
            refine ⟨i + 1, rfl, by omega, by go_num, wClass s1 (rd_T42 cs i), ⟨?_⟩, ⟨fun _ _ => ?_⟩, H2⟩
            · rw [← HE.out, HD.out, wAll, if_pos HI.out]
            · have h1 := wClass_len s1 (rd_T42 cs i)
              have h2 := hB.out
              omega
        · have he1 : (s1.2 == 0) = false := by simpa using he
          have he2 : e1_ cs = s1 := by rw [← HE.out]; exact wAll_stop _ _ _ he
          have HI := Aside.mk he2
          clear he2
          go_wp2
          go_meet
          case rel => exact ⟨by rw [HI.out]; exact H.out⟩
      · have he2 : e1_ cs = s1 := by rw [← HE.out, List.drop_of_length_le (by omega)]; rfl
        have HI := Aside.mk he2
        clear he2 HE HB
        go_wp2
        go_meet
        case rel => exact ⟨by rw [HI.out]; exact H.out⟩
  case rest =>
    clear H1 hi0
    have H := hcut
    clear hcut
    have h0 := H.out
    rw [HF2.out] at h0
    have hi1 := (h0.perm (.swap _ _ _)).cell 1
    clear h0
    go_upto_block 2 with (go_at_call 22; refine (w_count g (e1_ cs) fs.length 16 (by decide) (by have := HN.out; omega) w _ _ H.out).mono ?_; rintro en w2 ⟨rfl, h1⟩; have H2 : Aside (St w w2 (wrt g (e2_ cs fs).1 (e2_ cs fs).2 :: F2)) := Aside.mk h1; clear h1)
    clear H hi1
    go_cut [6] (fun v6 wc => Aside (St w wc (wrt g (e3_ cs fs).1 (e3_ cs fs).2 :: F2)))
    case first =>
      go_wp2_with fail
      go_loopg [6] (fs.length) (fun m v6 w' => ∃ i : Nat, m = fs.length - i ∧ i ≤ fs.length ∧ v6 = .int .i64 i ∧ ∃ s1 : Wst, Aside (wAll wFunc s1 (fs.drop i) = e3_ cs fs) ∧ Aside (s1.2 = 0 → i < fs.length → s1.1.length ≤ 9010 + 6000 * i ∧ fs.length ≤ 16) ∧ Aside (St w w' (wrt g s1.1 s1.2 :: F2)))
      case atStart => exact ⟨0, rfl, Nat.zero_le _, rfl, e2_ cs fs, ⟨rfl⟩, ⟨fun h _ => ⟨HN.out.2.2.1, (wCount_ok h).1⟩⟩, H2⟩
      case round =>
        clear H2
        obtain ⟨i, rfl, hi, rfl, s1, HE, HB, H⟩ := hrel
        have h0 := H.out
        rw [HF2.out] at h0
        have hi0 := (h0.perm (.swap _ _ _)).cell 1
        clear h0
        obtain ⟨A5, cp, hcp, h⟩ := wrt_open H.out
        have hc1 := h.cell 1
        have hb0 := Aside.mk h.below
        clear h
        by_cases hlt : i < fs.length
        · obtain ⟨ad, A6, c6, A7, c7, A8, c8, rfl, hcell0, hcell1, hcell2, hcell3, hcell4, hle6, hr6, hle7, hr7, hle8, hr8⟩ := at_T48 HR2.out i (by omega) (by omega)
          have hd0 := pw_cell_below hb0.out hcell0
          have hd1 := pw_cell_below hb0.out hcell1
          have hd2 := pw_cell_below hb0.out hcell2
          have hd3 := pw_cell_below hb0.out hcell3
          have hd4 := pw_cell_below hb0.out hcell4
          have hci : ((i : Int)).toNat = i := rfl
          rw [hci] at hd0 hd1 hd2 hd3 hd4
          clear hcell0 hcell1 hcell2 hcell3 hcell4 hci
          have HR6 := Aside.mk hr6
          have HR7 := Aside.mk hr7
          have HR8 := Aside.mk hr8
          clear hr6 hr7 hr8
          have hdc : fs.drop i = rd_T48 fs i :: fs.drop (i + 1) := drop_cons z48 fs i hlt
          have HD := Aside.mk hdc
          clear hdc
          by_cases he : s1.2 = 0
          · have hB := Aside.mk (HB.out he hlt)
            have HI := Aside.mk he
            have HT := Aside.mk (HW.out.2 _ (rdT48_mem hlt))
            clear HB
            go_wp2_with (first | (go_at_call 24; refine (w_func g s1 A6 c6 A7 c7 A8 c8 (rd_T48 fs i) HT.out (by have := hB.out; omega) w _ _ H.out HR6.out HR7.out HR8.out).mono ?_; rintro en w1 ⟨rfl, h1⟩; have H2 := Aside.mk h1; clear h1))
            go_roundg (fs.length - (i + 1))
            case measure => omega
            case rel =>
              refine ⟨i + 1, rfl, by omega, by go_num, wFunc s1 (rd_T48 fs i), ⟨?_⟩, ⟨fun _ _ => ?_⟩, H2⟩
              · rw [← HE.out, HD.out, wAll, if_pos HI.out]
              · have h1 := wFunc_len s1 (rd_T48 fs i) HT.out
                have h2 := hB.out
                omega
          · have he1 : (s1.2 == 0) = false := by simpa using he
            have he2 : e3_ cs fs = s1 := by rw [← HE.out]; exact wAll_stop _ _ _ he
            have HI := Aside.mk he2
            clear he2
            go_wp2
            go_meet
            case rel => exact ⟨by rw [HI.out]; exact H.out⟩
        · have he2 : e3_ cs fs = s1 := by rw [← HE.out, List.drop_of_length_le (by omega)]; rfl
          have HI := Aside.mk he2
          clear he2 HE HB
          go_wp2
          go_meet
          case rel => exact ⟨by rw [HI.out]; exact H.out⟩
    case rest =>
      clear H2
      have H := hcut
      clear hcut
      obtain ⟨A5, cp, hcp, h⟩ := wrt_open H.out
      have hc0 := h.cell 0
      have hc1 := h.cell 1
      have H3 := Aside.mk h
      clear h H
      by_cases he : (e3_ cs fs).2 = 0
      · have hI : encN cs fs = e3_ cs fs := if_pos he
        have HI := Aside.mk hI
        have he1 : ((e3_ cs fs).2 == 0) = true := by simpa using he
        have he2 : ((e3_ cs fs).2 != 0) = false := by simpa using he
        have HE := Aside.mk he
        clear hI he
        go_wp2
        go_ret2
        refine ⟨.slice A5 (e3_ cs fs).1.length cp, ?_, ?_⟩
        · show Ending.returned (.tuple #[.slice A5 (e3_ cs fs).1.length cp, .int .i64 0]) = _
          rw [HI.out, HE.out]
        have h := H3.out
        rw [HF2.out] at h
        rw [HI.out]
        exact (h.rest.perm (.swap _ _ _)).rest
      · have hI : encN cs fs = ([], (e3_ cs fs).2) := if_neg he
        have HI := Aside.mk hI
        have he1 : ((e3_ cs fs).2 == 0) = false := by simpa using he
        have he2 : ((e3_ cs fs).2 != 0) = true := by simpa using he
        clear hI he
        go_wp2
        go_region
        all_goals
          go_wp2
          go_ret2
          refine ⟨.slice none 0 0, ?_, ?_⟩
          · show Ending.returned (.tuple #[.slice none 0 0, .int .i64 (e3_ cs fs).2]) = _
            rw [HI.out]
          have h := H3.out
          rw [HF2.out] at h
          rw [HI.out]
          exact ((St.nil_row (h.rest.rest.rest) 5 1)).drew
end Go.Proofs.Ytakpdmkfengghaa.Wr
