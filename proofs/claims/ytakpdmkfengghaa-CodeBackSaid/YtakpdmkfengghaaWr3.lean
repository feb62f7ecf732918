/- The writer of a program's bytes: lists of types, instructions. Conditions: the bytes stay below 2^40. -/
import Derived.Test.YtakpdmkfengghaaProg
import Derived.Test.YtakpdmkfengghaaSep
import Derived.Test.YtakpdmkfengghaaWr2
import Derived.Test.YtakpdmkfengghaaWp1
import Derived.StillTailTactics
import Derived.Below
import Derived.Deep.Draws
import Derived.Deep.AppendLies
import Derived.Maps.AppendAt
import Derived.OwnWalk
import Derived.Laws.BytesArg
import Derived.Laws.MakeOwn
import Derived.Laws.OwnMore
import Derived.Deep.OwnRows
import Derived.Tactics
import Derived.Lib.ConvBytes
import Derived.Laws.Slices
import Derived.WalkKit
import Derived.KernelRfl
import Derived.RowKit3
import Derived.Deep.LoopGhost
import Derived.Deep.QuietTactic
import Derived.BigQuiet
import Derived.WideLaws
import Derived.Deep.DeepCutAuto
import Derived.Deep.CutBlock
import Derived.Deep.RegionHeld3
import Derived.Laws.Rows
import Derived.Lib.AppendStr
import Derived.ArgAppend
import Derived.Laws.IdiomCopy
import Derived.OrdersHeld
import Derived.Laws.BitsLemmas
import Derived.RowKit
namespace Go.Proofs.Ytakpdmkfengghaa.Wr
open Go Go.RowKit Go.Proofs.Ytakpdmkfengghaa.Sep Go.Proofs.YtakpdmkfengghaaW.PrintWords Go.Proofs.YtakpdmkfengghaaW.PrintLast Go.Proofs.YtakpdmkfengghaaW.PrintMore Go.Proofs.Ytakpdmkfengghaa.Q
set_option linter.unusedVariables false
set_option linter.unusedSimpArgs false

/-- One after the other, till there is an error. -/
def wAll {α : Type} (f : Wst → α → Wst) : Wst → List α → Wst
  | s, [] => s
  | s, x :: r => if s.2 = 0 then wAll f (f s x) r else s
def wKinds (s : Wst) (l : List Int) (most : Nat) : Wst := wAll wKind (wCount s l.length most) l
theorem wAll_stop {α : Type} (f : Wst → α → Wst) (s : Wst) (l : List α) (h : s.2 ≠ 0) : wAll f s l = s := by cases l <;> simp [wAll, h]
theorem drop_cons {α : Type} (z : α) (l : List α) (i : Nat) (h : i < l.length) : l.drop i = l.getD i z :: l.drop (i + 1) := by
  rw [List.drop_eq_getElem_cons h]
  simp [List.getD_eq_getElem?_getD, h]
theorem failed_ne (e c : Int) (hc : c ≠ 0) : failed e c ≠ 0 := by unfold failed; split <;> assumption
theorem wCount_ok {s : Wst} {n most : Nat} (h : (wCount s n most).2 = 0) : n ≤ most ∧ s.2 = 0 := by
  unfold wCount at h
  split at h
  · exact ⟨by assumption, h⟩
  · exact absurd h (failed_ne _ _ (by decide))
theorem wCount_len {s : Wst} {n most : Nat} (hm : most ≤ 1000) : (wCount s n most).1.length ≤ s.1.length + 10 := by
  unfold wCount
  split
  · have := vint_len10 (n := n) (by omega)
    simp only [List.length_append]
    omega
  · show s.1.length ≤ _
    omega
theorem wKind_len (s : Wst) (t : Int) : (wKind s t).1.length ≤ s.1.length + 1 := by
  unfold wKind
  split <;> simp

set_option maxHeartbeats 8000000 in
set_option maxRecDepth 100000 in
theorem w_kinds (g : Nat) (s : Wst) (A : Option Addr) (c : Nat) (l : List Int) (most : Nat) (hm : most ≤ 1000) (hl : s.1.length ≤ 1099511626000) (w0 w : World) (F : List HP) (h : St w0 w (wrt g s.1 s.2 :: F))
    (hr : (Kd.int .i64).C w0 A l.length l) :
    Calls Try.prog 43 #[.pointer (some ⟨g, 0, none⟩), .slice A l.length c, .int .i64 most] w fun en w' => en = .returned (.tuple #[]) ∧ St w0 w' (wrt g (wKinds s l most).1 (wKinds s l most).2 :: F) := by
  have H := Aside.mk h
  have HL := Aside.mk hl
  have HR := Aside.mk hr
  have HM := Aside.mk hm
  have hlm := Kd.C_max hr
  clear h hl hr hm
  go_enter Try.func43, Try.ntmps43
  go_wp2_with (go_at_call 22; refine (w_count g s l.length most HM.out (Nat.le_trans HL.out (by decide)) w0 _ F H.out).mono ?_; rintro en w1 ⟨rfl, h1⟩; have H1 := Aside.mk h1; clear h1)
  go_loopg [6] (l.length) (fun m v6 w' => ∃ i : Nat, m = l.length - i ∧ i ≤ l.length ∧ v6 = .int .i64 i ∧ ∃ s1 : Wst, Aside (wAll wKind s1 (l.drop i) = wKinds s l most) ∧ Aside (s1.2 = 0 → i < l.length → s1.1.length ≤ s.1.length + 10 + i ∧ l.length ≤ most) ∧ Aside (St w0 w' (wrt g s1.1 s1.2 :: F)))
  case atStart => exact ⟨0, rfl, Nat.zero_le _, rfl, wCount s l.length most, ⟨rfl⟩, ⟨fun h _ => ⟨wCount_len HM.out, (wCount_ok h).1⟩⟩, H1⟩
  case round =>
    clear H H1
    obtain ⟨i, rfl, hi, rfl, s1, HE, HB, H⟩ := hrel
    obtain ⟨A1, cp, hcp, h⟩ := wrt_open H.out
    have hc1 := h.cell 1
    have hb0 := Aside.mk h.below
    clear h
    by_cases hlt : i < l.length
    · obtain ⟨ad, rfl, hcell⟩ := Kd.at_int HR.out i (by omega) (by omega)
      have hcell2 := pw_cell_below hb0.out hcell
      have hci : ((i : Int)).toNat = i := rfl
      rw [hci] at hcell2
      clear hcell hci
      have hdc : l.drop i = rd l i :: l.drop (i + 1) := drop_cons 0 l i hlt
      have HD := Aside.mk hdc
      clear hdc
      by_cases he : s1.2 = 0
      · have hB := Aside.mk (HB.out he hlt)
        have HI := Aside.mk he
        clear HB
        go_wp2_with (go_at_call 42; refine (w_kind g s1 (rd l i) (by have := hB.out; have := HL.out; have := HM.out; omega) w0 _ F H.out).mono ?_; rintro en w2 ⟨rfl, h1⟩; have H2 := Aside.mk h1; clear h1)
        go_roundg (l.length - (i + 1))
        case measure => omega
        case rel =>
          refine ⟨i + 1, rfl, by omega, by go_num, wKind s1 (rd l i), ⟨?_⟩, ⟨fun _ _ => ?_⟩, H2⟩
          · rw [← HE.out, HD.out, wAll, if_pos HI.out]
          · have h1 := wKind_len s1 (rd l i)
            have h2 := hB.out
            omega
      · have he1 : (s1.2 == 0) = false := by simpa using he
        have he2 : wKinds s l most = s1 := by rw [← HE.out]; exact wAll_stop _ _ _ he
        have HI := Aside.mk he2
        clear he2
        go_wp2
        go_end0
        exact ⟨rfl, by rw [HI.out]; exact H.out⟩
    · have he2 : wKinds s l most = s1 := by rw [← HE.out, List.drop_of_length_le (by omega)]; rfl
      have HI := Aside.mk he2
      clear he2 HE HB
      go_wp2
      go_end0
      exact ⟨rfl, by rw [HI.out]; exact H.out⟩

def i64ok (a : Int) : Prop := -9223372036854775808 ≤ a ∧ a ≤ 9223372036854775807
def insB (i : S23) : List Int :=
  [i.f0] ++ if i.f0 = 1 then vint (zigN i.f1) else if opN i.f0 = 1 then vint i.f1.toNat else if opN i.f0 = 2 then vint i.f1.toNat ++ vint i.f2.toNat else []
def wIns (s : Wst) (i : S23) : Wst := if okI i = true then (s.1 ++ insB i, s.2) else (s.1, failed s.2 30)

theorem opN_pos {a : Int} (h : ¬ opN a < 0) : 1 ≤ a ∧ a ≤ 39 := by
  unfold opN at h
  split at h
  · rename_i h1; rcases h1 with rfl | rfl | rfl | rfl | rfl | rfl | rfl | rfl | rfl | rfl <;> decide
  · split at h
    · rename_i h1; rcases h1 with rfl | rfl | rfl <;> decide
    · split at h
      · exact absurd (by decide) h
      · omega
theorem okI_parts {i : S23} (h : okI i = true) : (¬ opN i.f0 < 0) ∧ ¬ (opN i.f0 < 2 ∧ i.f2 ≠ 0) ∧ ¬ (opN i.f0 < 1 ∧ i.f1 ≠ 0) ∧ (i.f0 = 1 ∨ 0 ≤ i.f1 ∧ i.f1 ≤ 2147483647 ∧ 0 ≤ i.f2 ∧ i.f2 ≤ 2147483647) := of_decide_eq_true h
theorem byte_ok {i : S23} (h : okI i = true) : IntKind.u8.wrap i.f0 = i.f0 := by
  show i.f0 % 256 = i.f0
  have := opN_pos (okI_parts h).1
  omega

set_option maxHeartbeats 8000000 in
set_option maxRecDepth 100000 in
theorem w_ins_no (g : Nat) (s : Wst) (i : S23) (ho : okI i = false) (w0 w : World) (F : List HP) (h : St w0 w (wrt g s.1 s.2 :: F)) :
    Calls Try.prog 44 #[.pointer (some ⟨g, 0, none⟩), .agg #[.int .i64 i.f0, .int .i64 i.f1, .int .i64 i.f2]] w fun en w' => en = .returned (.tuple #[]) ∧ St w0 w' (wrt g (wIns s i).1 (wIns s i).2 :: F) := by
  have e : wIns s i = (s.1, failed s.2 30) := if_neg (by rw [ho]; decide)
  rw [e]
  clear e
  have H := Aside.mk h
  have HO := Aside.mk ((okI_code i).trans (congrArg some ho))
  clear h ho
  go_enter Try.func44, Try.ntmps44
  go_wp2_with (first | (go_at_call 9; refine (code_Right.calls 2 i.f0 i.f1 i.f2 false _ HO.out).mono ?_; rintro en w1 ⟨rfl, h1⟩; have H1 := Aside.mk ((H.out.alloc _ _).rest.step h1); clear h1) | (go_at_call 39; refine (w_fail g s.1 s.2 30 w0 _ F H1.out).mono ?_; rintro en w2 ⟨rfl, h2⟩; have H2 := Aside.mk h2; clear h2))
  refine bodyPost_ret (results_none rfl _ _ _) rfl ?_
  exact ⟨rfl, H2.out⟩

set_option maxHeartbeats 8000000 in
set_option maxRecDepth 100000 in
theorem w_ins_yes (g : Nat) (s : Wst) (i : S23) (ho : okI i = true) (hi : i64ok i.f1) (hl : s.1.length ≤ 1099511627000) (w0 w : World) (F : List HP) (h : St w0 w (wrt g s.1 s.2 :: F)) :
    Calls Try.prog 44 #[.pointer (some ⟨g, 0, none⟩), .agg #[.int .i64 i.f0, .int .i64 i.f1, .int .i64 i.f2]] w fun en w' => en = .returned (.tuple #[]) ∧ St w0 w' (wrt g (wIns s i).1 (wIns s i).2 :: F) := by
  have e : wIns s i = (s.1 ++ insB i, s.2) := if_pos ho
  rw [e]
  clear e
  have H := Aside.mk h
  have HO := Aside.mk ((okI_code i).trans (congrArg some ho))
  have HL := Aside.mk hl
  have HI := Aside.mk hi
  have HO2 := Aside.mk ho
  clear h ho hl hi
  go_enter Try.func44, Try.ntmps44
  go_wp2_with (first | (go_at_call 9; refine (code_Right.calls 2 i.f0 i.f1 i.f2 true _ HO.out).mono ?_; rintro en w1 ⟨rfl, h1⟩; have hb : St w0 _ (blk _ _ _ :: wrt g s.1 s.2 :: F) := (H.out.alloc _ _).step h1; have H1 := Aside.mk hb; clear h1 hb))
  obtain ⟨gi, hgi⟩ : ∃ gi, gi = w.heap.size := ⟨_, rfl⟩
  rw [← hgi] at H1 ⊢
  clear hgi H HO
  have hi0 := H1.out.cell 0
  have hi1 := H1.out.cell 1
  have hi2 := H1.out.cell 2
  obtain ⟨A, cp, hcp, h⟩ := wrt_open (H1.out.perm (.swap _ _ _))
  have hc0 := h.cell 0
  have hf0 := h.frozen 0
  have lg := World.block_lt_of_cell? _ _ hc0
  have lgi := World.block_lt_of_cell? _ _ hi0
  have H := Aside.mk h
  clear h H1
  go_region_law ((refine append1_step rfl (.tmp 14) (.tmp 18) 31 5 (.int .u8 0) 1 rfl Try.underlying31 info5 rfl (by decide) _ _ _ _ _ rfl rfl rfl ((H.out.perm (.swap _ _ _)).garbage _).drew (cell_new_drew _ _ _) (by have := HL.out; omega) ?_; intro A1 c1 w2 hc1 h1; have h := h1.perm (.swap _ _ _); have hd0 := h.cell 0; have hf0 := h.frozen 0; have H2 := Aside.mk h; clear h h1))
  all_goals
    have h3 := H2.out.put 0 (.slice A1 (s.1.length + 1) c1) rfl
    obtain ⟨w3, hw3⟩ : ∃ w3, w3 = w2.setCell ⟨g, 0, none⟩ (.slice A1 (s.1.length + 1) c1) := ⟨_, rfl⟩
    rw [← hw3] at h3 ⊢
    clear hw3 hd0 hf0 hc0 hi0 hi1 hi2 lg lgi H2 H
    have h4 : St w0 w3 (wrt g (s.1 ++ [i.f0]) s.2 :: blk gi #[.int .i64 i.f0, .int .i64 i.f1, .int .i64 i.f2] 23 :: F) :=
      wrt_shut (v := .slice A1 (s.1.length + 1) c1) (by simpa [u8s, byte_ok HO2.out] using h3)
    have h5 := h4.perm (.swap _ _ _)
    have hi0 := h5.cell 0
    have hi1 := h5.cell 1
    have hi2 := h5.cell 2
    have H := Aside.mk h4
    clear h3 h4 h5
    have HS : Aside (Calls Try.prog 20 #[.int .i64 i.f0] w3 fun en w' => en = .returned (.int .i64 (opN i.f0)) ∧ Drawn0 w3 w') := ⟨code_Operands.calls 2 i.f0 (opN i.f0) w3 (opN_code i.f0)⟩
    by_cases c1 : i.f0 = 1
    · have ho : opN i.f0 = 1 := by rw [c1]; rfl
      have c1b : (i.f0 == 1) = true := by simpa using c1
      have hz := zigN_code i.f1 HI.out.1 HI.out.2
      have HZ := Aside.mk hz
      have HZ2 := Aside.mk (zigN_lt i.f1 HI.out.1 HI.out.2)
      have hB : Aside (insB i = [i.f0] ++ vint (zigN i.f1)) := ⟨by unfold insB; rw [if_pos c1]⟩
      clear hz ho c1
      go_wp2_with (first | (go_at_call 20; refine HS.out.mono ?_; rintro en w4 ⟨rfl, ⟨n, rfl⟩⟩) | (go_at_call 55; refine (code_zig.calls i.f1 _ _ HZ.out).mono ?_; rintro en w5 ⟨rfl, ⟨n2, rfl⟩⟩) | (go_at_call 40; refine (w_number g (s.1 ++ [i.f0]) s.2 (zigN i.f1) HZ2.out (by have := HL.out; simp only [List.length_append, List.length_singleton]; omega) w0 _ _ (by repeat (first | exact H.out | apply St.drewN | apply St.drew))).mono ?_; rintro en w6 ⟨rfl, h6⟩; have H6 := Aside.mk h6; clear h6))
      go_end0
      refine ⟨rfl, ?_⟩
      rw [hB.out, ← List.append_assoc]
      exact (H6.out.perm (.swap _ _ _)).rest
    · have c1b : (i.f0 == 1) = false := by simpa using c1
      obtain ⟨p1, p2, p3, p4⟩ := okI_parts HO2.out
      have hr := p4.resolve_left c1
      by_cases c2 : opN i.f0 = 1
      · have hB : Aside (insB i = [i.f0] ++ vint i.f1.toNat) := ⟨by unfold insB; rw [if_neg c1, if_pos c2]⟩
        have c2b : (opN i.f0 == 1) = true := by simpa using c2
        obtain ⟨n, hn⟩ := Int.eq_ofNat_of_zero_le hr.1
        have hn2 : n ≤ 2147483647 := by omega
        have hn3 : i.f1.toNat = n := by omega
        rw [hn3] at hB
        rw [hn] at hi1
        clear p1 p2 p3 p4 c1 c2 hr hn3
        go_wp2_with (first | (go_at_call 20; refine HS.out.mono ?_; rintro en w4 ⟨rfl, ⟨m, rfl⟩⟩) | (go_at_call 40; refine (w_number g (s.1 ++ [i.f0]) s.2 n (by omega) (by have := HL.out; simp only [List.length_append, List.length_singleton]; omega) w0 _ _ (by repeat (first | exact H.out | apply St.drewN | apply St.drew))).mono ?_; rintro en w6 ⟨rfl, h6⟩; have H6 := Aside.mk h6; clear h6))
        go_end0
        refine ⟨rfl, ?_⟩
        rw [hB.out, ← List.append_assoc]
        exact (H6.out.perm (.swap _ _ _)).rest
      · have c2b : (opN i.f0 == 1) = false := by simpa using c2
        by_cases c3 : opN i.f0 = 2
        · have hB : Aside (insB i = [i.f0] ++ (vint i.f1.toNat ++ vint i.f2.toNat)) := ⟨by unfold insB; rw [if_neg c1, if_neg c2, if_pos c3]⟩
          have c3b : (opN i.f0 == 2) = true := by simpa using c3
          obtain ⟨n, hn⟩ := Int.eq_ofNat_of_zero_le hr.1
          obtain ⟨q, hq⟩ := Int.eq_ofNat_of_zero_le hr.2.2.1
          have hn2 : n ≤ 2147483647 := by omega
          have hq2 : q ≤ 2147483647 := by omega
          have hn3 : i.f1.toNat = n := by omega
          have hq3 : i.f2.toNat = q := by omega
          rw [hn3, hq3] at hB
          rw [hn] at hi1
          rw [hq] at hi2
          clear p1 p2 p3 p4 c1 c2 c3 hr hn3 hq3
          go_wp2_with (first | (go_at_call 20; refine HS.out.mono ?_; rintro en w4 ⟨rfl, ⟨m, rfl⟩⟩) | (go_at_call 40; have H6' := H6; refine (w_number g (s.1 ++ [i.f0] ++ vint n) s.2 q (by omega) (by have := HL.out; have := vint_len10 (n := n) (by omega); simp only [List.length_append, List.length_singleton]; omega) w0 _ _ H6'.out).mono ?_; rintro en w7 ⟨rfl, h8⟩; have H7 := Aside.mk h8; clear h8 H6 H6') | (go_at_call 40; refine (w_number g (s.1 ++ [i.f0]) s.2 n (by omega) (by have := HL.out; simp only [List.length_append, List.length_singleton]; omega) w0 _ _ (by repeat (first | exact H.out | apply St.drewN | apply St.drew))).mono ?_; rintro en w6 ⟨rfl, h6⟩; have h7 := h6.perm (.swap _ _ _); have hi2 := h7.cell 2; clear h7; have H6 := Aside.mk h6; clear h6))
          go_end0
          refine ⟨rfl, ?_⟩
          rw [hB.out, ← List.append_assoc, ← List.append_assoc]
          exact (H7.out.perm (.swap _ _ _)).rest
        · have hB : Aside (insB i = [i.f0] ++ []) := ⟨by unfold insB; rw [if_neg c1, if_neg c2, if_neg c3]⟩
          have c3b : (opN i.f0 == 2) = false := by simpa using c3
          clear p1 p2 p3 p4 c1 c2 c3 hr
          go_wp2_with (first | (go_at_call 20; refine HS.out.mono ?_; rintro en w4 ⟨rfl, ⟨m, rfl⟩⟩))
          go_end0
          refine ⟨rfl, ?_⟩
          rw [hB.out, List.append_nil]
          exact (St.perm ((by repeat (first | exact H.out | apply St.drewN | apply St.drew)) : St w0 _ (_ :: _ :: F)) (.swap _ _ _)).rest
end Go.Proofs.Ytakpdmkfengghaa.Wr
