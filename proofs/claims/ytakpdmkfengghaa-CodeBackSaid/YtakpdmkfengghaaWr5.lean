/- The writer of a program's bytes: functions and programs. Conditions: the bytes stay below 2^40. -/
import Derived.Test.YtakpdmkfengghaaProg
import Derived.Test.YtakpdmkfengghaaSep
import Derived.Test.YtakpdmkfengghaaWr4
import Derived.Test.YtakpdmkfengghaaWp1
import Derived.StillTailTactics
import Derived.Below
import Derived.Deep.Draws
import Derived.Deep.AppendLies
import Derived.Maps.AppendAt
import Derived.OwnWalk
import Derived.Laws.BytesArg
import Derived.Laws.MakeOwn
import Derived.Laws.OwnMore
import Derived.Deep.OwnRows
import Derived.Tactics
import Derived.Lib.ConvBytes
import Derived.Laws.Slices
import Derived.WalkKit
import Derived.KernelRfl
import Derived.RowKit3
import Derived.Deep.LoopGhost
import Derived.Deep.QuietTactic
import Derived.BigQuiet
import Derived.WideLaws
import Derived.Deep.DeepCutAuto
import Derived.Deep.CutBlock
import Derived.Deep.RegionHeld3
import Derived.Laws.Rows
import Derived.Lib.AppendStr
import Derived.ArgAppend
import Derived.Laws.IdiomCopy
import Derived.OrdersHeld
import Derived.Laws.BitsLemmas
import Derived.RowKit
namespace Go.Proofs.Ytakpdmkfengghaa.Wr
open Go Go.RowKit Go.Proofs.Ytakpdmkfengghaa.Sep Go.Proofs.YtakpdmkfengghaaW.PrintWords Go.Proofs.YtakpdmkfengghaaW.PrintLast Go.Proofs.YtakpdmkfengghaaW.PrintMore Go.Proofs.Ytakpdmkfengghaa.Q
set_option linter.unusedVariables false
set_option linter.unusedSimpArgs false

theorem w_ins (g : Nat) (s : Wst) (i : S23) (hi : i64ok i.f1) (hl : s.1.length ≤ 1099511627000) (w0 w : World) (F : List HP) (h : St w0 w (wrt g s.1 s.2 :: F)) :
    Calls Try.prog 44 #[.pointer (some ⟨g, 0, none⟩), .agg #[.int .i64 i.f0, .int .i64 i.f1, .int .i64 i.f2]] w fun en w' => en = .returned (.tuple #[]) ∧ St w0 w' (wrt g (wIns s i).1 (wIns s i).2 :: F) := by
  by_cases ho : okI i = true
  · exact w_ins_yes g s i ho hi hl w0 w F h
  · exact w_ins_no g s i (by simpa using ho) w0 w F h

def w0_ (s : Wst) (x : S48) : Wst := wText s x.f0
def w1_ (s : Wst) (x : S48) : Wst := wKinds (w0_ s x) x.f1 6
def w2_ (s : Wst) (x : S48) : Wst := wKind (w1_ s x) x.f2
def w3_ (s : Wst) (x : S48) : Wst := wKinds (w2_ s x) x.f3 16
def w4_ (s : Wst) (x : S48) : Wst := wCount (w3_ s x) x.f4.length 256
theorem w_len_ (s : Wst) (x : S48) : (w0_ s x).1.length ≤ s.1.length + 26 ∧ (w1_ s x).1.length ≤ s.1.length + 42 ∧ (w2_ s x).1.length ≤ s.1.length + 43 ∧ (w3_ s x).1.length ≤ s.1.length + 69 ∧ (w4_ s x).1.length ≤ s.1.length + 79 := by
  have h1 := wText_len s x.f0
  have h2 := wKinds_len (w0_ s x) x.f1 6 (by decide)
  have h3 := wKind_len (w1_ s x) x.f2
  have h4 := wKinds_len (w2_ s x) x.f3 16 (by decide)
  have h5 := wCount_len (s := w3_ s x) (n := x.f4.length) (most := 256) (by decide)
  have e0 : w0_ s x = wText s x.f0 := rfl
  have e1 : w1_ s x = wKinds (w0_ s x) x.f1 6 := rfl
  have e2 : w2_ s x = wKind (w1_ s x) x.f2 := rfl
  have e3 : w3_ s x = wKinds (w2_ s x) x.f3 16 := rfl
  have e4 : w4_ s x = wCount (w3_ s x) x.f4.length 256 := rfl
  rw [← e0] at h1
  rw [← e1] at h2
  rw [← e2] at h3
  rw [← e3] at h4
  rw [← e4] at h5
  omega

set_option maxHeartbeats 8000000 in
set_option maxRecDepth 100000 in
theorem w_func (g : Nat) (s : Wst) (A1 : Option Addr) (c1 : Nat) (A3 : Option Addr) (c3 : Nat) (A4 : Option Addr) (c4 : Nat) (x : S48) (hw : wfF x) (hl : s.1.length ≤ 1099511600000) (w0 w : World) (F : List HP) (h : St w0 w (wrt g s.1 s.2 :: F))
    (hr1 : (Kd.int .i64).C w0 A1 x.f1.length x.f1) (hr3 : (Kd.int .i64).C w0 A3 x.f3.length x.f3) (hr4 : k23.C w0 A4 x.f4.length x.f4) :
    Calls Try.prog 24 #[.pointer (some ⟨g, 0, none⟩), .agg #[.string x.f0, .slice A1 x.f1.length c1, .int .i64 x.f2, .slice A3 x.f3.length c3, .slice A4 x.f4.length c4]] w fun en w' => en = .returned (.tuple #[]) ∧ St w0 w' (wrt g (wFunc s x).1 (wFunc s x).2 :: F) := by
  have H := Aside.mk h
  have HL := Aside.mk hl
  have HR1 := Aside.mk hr1
  have HR3 := Aside.mk hr3
  have HR4 := Aside.mk hr4
  have HW := Aside.mk hw
  have HN := Aside.mk (w_len_ s x)
  have hlm := Kd.C_max hr4
  clear h hl hr1 hr3 hr4 hw
  go_enter Try.func24, Try.ntmps24
  have HC := Aside.mk ((H.out.alloc #[.string x.f0, .slice A1 x.f1.length c1, .int .i64 x.f2, .slice A3 x.f3.length c3, .slice A4 x.f4.length c4] 48).perm (.swap _ _ _))
  go_wp2_with (first
    | (go_at_call 41; refine (w_text g s x.f0 HW.out.1 (by have := HL.out; omega) w0 _ _ HC.out).mono ?_; rintro en w1 ⟨rfl, h1⟩; have hj := h1.perm (.swap _ _ _); have hi1 := hj.cell 1; have hi2 := hj.cell 2; have hi3 := hj.cell 3; have hi4 := hj.cell 4; have H1 := Aside.mk h1; clear h1 hj)
    | (go_at_call 42; refine (w_kind g (w1_ s x) x.f2 (by have := HL.out; have := HN.out; omega) w0 _ _ H2.out).mono ?_; rintro en w3 ⟨rfl, h1⟩; have hj := h1.perm (.swap _ _ _); have hi3 := hj.cell 3; have hi4 := hj.cell 4; have H3 : Aside (St w0 w3 (wrt g (w2_ s x).1 (w2_ s x).2 :: _)) := Aside.mk h1; clear h1 hj)
    | (go_at_call 43; have H3' := H3; refine (w_kinds g (w2_ s x) A3 c3 x.f3 16 (by decide) (by have := HL.out; have := HN.out; omega) w0 _ _ H3'.out HR3.out).mono ?_; rintro en w4 ⟨rfl, h1⟩; have hj := h1.perm (.swap _ _ _); have hi4 := hj.cell 4; have H4 : Aside (St w0 w4 (wrt g (w3_ s x).1 (w3_ s x).2 :: _)) := Aside.mk h1; clear h1 hj)
    | (go_at_call 43; refine (w_kinds g (w0_ s x) A1 c1 x.f1 6 (by decide) (by have := HL.out; have := HN.out; omega) w0 _ _ H1.out HR1.out).mono ?_; rintro en w2 ⟨rfl, h1⟩; have hj := h1.perm (.swap _ _ _); have hi2 := hj.cell 2; have hi3 := hj.cell 3; have hi4 := hj.cell 4; have H2 : Aside (St w0 w2 (wrt g (w1_ s x).1 (w1_ s x).2 :: _)) := Aside.mk h1; clear h1 hj)
    | (go_at_call 22; refine (w_count g (w3_ s x) x.f4.length 256 (by decide) (by have := HL.out; have := HN.out; omega) w0 _ _ H4.out).mono ?_; rintro en w5 ⟨rfl, h2⟩; have hi4 := (h2.perm (.swap _ _ _)).cell 4; have H5 : Aside (St w0 w5 (wrt g (w4_ s x).1 (w4_ s x).2 :: _)) := Aside.mk h2; clear h2))
  obtain ⟨gi, hgi⟩ : ∃ gi, gi = w.heap.size := ⟨_, rfl⟩
  rw [← hgi] at H5 hi4 ⊢
  clear hgi H HC H1 H2 H3 H4
  obtain ⟨F2, hF2⟩ : ∃ F2, F2 = blk gi #[.string x.f0, .slice A1 x.f1.length c1, .int .i64 x.f2, .slice A3 x.f3.length c3, .slice A4 x.f4.length c4] 48 :: F := ⟨_, rfl⟩
  have HF2 := Aside.mk hF2
  rw [← hF2] at H5
  clear hF2
  go_loopg [4] (x.f4.length) (fun m v4 w' => ∃ i : Nat, m = x.f4.length - i ∧ i ≤ x.f4.length ∧ v4 = .int .i64 i ∧ ∃ s1 : Wst, Aside (wAll wIns s1 (x.f4.drop i) = wFunc s x) ∧ Aside (s1.2 = 0 → i < x.f4.length → s1.1.length ≤ s.1.length + 100 + 21 * i ∧ x.f4.length ≤ 256) ∧ Aside (St w0 w' (wrt g s1.1 s1.2 :: F2)))
  case atStart => exact ⟨0, rfl, Nat.zero_le _, rfl, w4_ s x, ⟨rfl⟩, ⟨fun h _ => ⟨by have := HN.out; omega, (wCount_ok h).1⟩⟩, H5⟩
  case round =>
    clear H5 hi4
    obtain ⟨i, rfl, hi, rfl, s1, HE, HB, H⟩ := hrel
    have h0 := H.out
    rw [HF2.out] at h0
    have hi4 := (h0.perm (.swap _ _ _)).cell 4
    clear h0
    obtain ⟨A5, cp, hcp, h⟩ := wrt_open H.out
    have hc1 := h.cell 1
    have hb0 := Aside.mk h.below
    clear h
    by_cases hlt : i < x.f4.length
    · obtain ⟨ad, rfl, hcell0, hcell1, hcell2⟩ := at_T23 HR4.out i (by omega) (by omega)
      have hd0 := pw_cell_below hb0.out hcell0
      have hd1 := pw_cell_below hb0.out hcell1
      have hd2 := pw_cell_below hb0.out hcell2
      have hci : ((i : Int)).toNat = i := rfl
      rw [hci] at hd0 hd1 hd2
      clear hcell0 hcell1 hcell2 hci
      have hdc : x.f4.drop i = rd_T23 x.f4 i :: x.f4.drop (i + 1) := drop_cons z23 x.f4 i hlt
      have HD := Aside.mk hdc
      clear hdc
      by_cases he : s1.2 = 0
      · have hB := Aside.mk (HB.out he hlt)
        have HI := Aside.mk he
        have HT := Aside.mk (HW.out.2 _ (rdT23_mem hlt))
        clear HB
        go_wp2_with (first | (go_at_call 44; refine (w_ins g s1 (rd_T23 x.f4 i) HT.out (by have := hB.out; have := HL.out; omega) w0 _ _ H.out).mono ?_; rintro en w1 ⟨rfl, h1⟩; have H2 := Aside.mk h1; clear h1))
        go_roundg (x.f4.length - (i + 1))
        case measure => omega
        case rel =>
          refine ⟨i + 1, rfl, by omega, by go_num, wIns s1 (rd_T23 x.f4 i), ⟨?_⟩, ⟨fun _ _ => ?_⟩, H2⟩
          · rw [← HE.out, HD.out, wAll, if_pos HI.out]
          · have h1 := wIns_len s1 HT.out
            have h2 := hB.out
            omega
      · have he1 : (s1.2 == 0) = false := by simpa using he
        have he2 : wFunc s x = s1 := by rw [← HE.out]; exact wAll_stop _ _ _ he
        have HI := Aside.mk he2
        clear he2
        go_wp2
        go_end0
        exact ⟨rfl, by rw [HI.out]; have h := H.out; rw [HF2.out] at h; exact (h.perm (.swap _ _ _)).rest⟩
    · have he2 : wFunc s x = s1 := by rw [← HE.out, List.drop_of_length_le (by omega)]; rfl
      have HI := Aside.mk he2
      clear he2 HE HB
      go_wp2
      go_end0
      exact ⟨rfl, by rw [HI.out]; have h := H.out; rw [HF2.out] at h; exact (h.perm (.swap _ _ _)).rest⟩
end Go.Proofs.Ytakpdmkfengghaa.Wr
