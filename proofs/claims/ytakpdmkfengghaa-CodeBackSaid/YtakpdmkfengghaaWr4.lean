/- The writer of a program's bytes: classes, functions, programs. Conditions: the bytes stay below 2^40. -/
import Derived.Test.YtakpdmkfengghaaProg
import Derived.Test.YtakpdmkfengghaaSep
import Derived.Test.YtakpdmkfengghaaWr3
import Derived.Test.YtakpdmkfengghaaWp1
import Derived.StillTailTactics
import Derived.Below
import Derived.Deep.Draws
import Derived.Deep.AppendLies
import Derived.Maps.AppendAt
import Derived.OwnWalk
import Derived.Laws.BytesArg
import Derived.Laws.MakeOwn
import Derived.Laws.OwnMore
import Derived.Deep.OwnRows
import Derived.Tactics
import Derived.Lib.ConvBytes
import Derived.Laws.Slices
import Derived.WalkKit
import Derived.KernelRfl
import Derived.RowKit3
import Derived.Deep.LoopGhost
import Derived.Deep.QuietTactic
import Derived.BigQuiet
import Derived.WideLaws
import Derived.Deep.DeepCutAuto
import Derived.Deep.CutBlock
import Derived.Deep.RegionHeld3
import Derived.Laws.Rows
import Derived.Lib.AppendStr
import Derived.ArgAppend
import Derived.Laws.IdiomCopy
import Derived.OrdersHeld
import Derived.Laws.BitsLemmas
import Derived.RowKit
namespace Go.Proofs.Ytakpdmkfengghaa.Wr
open Go Go.RowKit Go.Proofs.Ytakpdmkfengghaa.Sep Go.Proofs.YtakpdmkfengghaaW.PrintWords Go.Proofs.YtakpdmkfengghaaW.PrintLast Go.Proofs.YtakpdmkfengghaaW.PrintMore Go.Proofs.Ytakpdmkfengghaa.Q
set_option linter.unusedVariables false
set_option linter.unusedSimpArgs false

def okS (t : ByteArray) : Prop := t.size ≤ 9223372036854775807
def wField (s : Wst) (f : S44) : Wst := wKind (wText s f.f0) f.f1
def wClass (s : Wst) (c : S42) : Wst := wAll wField (wCount (wText s c.f0) c.f1.length 15) c.f1
def wFunc (s : Wst) (f : S48) : Wst := wAll wIns (wCount (wKinds (wKind (wKinds (wText s f.f0) f.f1 6) f.f2) f.f3 16) f.f4.length 256) f.f4
def wfC (c : S42) : Prop := okS c.f0 ∧ ∀ x ∈ c.f1, okS x.f0
def wfF (f : S48) : Prop := okS f.f0 ∧ ∀ x ∈ f.f4, i64ok x.f1

theorem wText_len (s : Wst) (t : ByteArray) : (wText s t).1.length ≤ s.1.length + 26 := by
  unfold wText
  split
  · rename_i h
    have h1 := (wCount_ok h).1
    have h2 := wCount_len (s := s) (n := t.size) (most := 16) (by decide)
    simp only [List.length_append, chars_length]
    omega
  · have h2 := wCount_len (s := s) (n := t.size) (most := 16) (by decide)
    omega
theorem wField_len (s : Wst) (f : S44) : (wField s f).1.length ≤ s.1.length + 27 := by
  have h1 := wText_len s f.f0
  have h2 := wKind_len (wText s f.f0) f.f1
  show (wKind _ _).1.length ≤ _
  omega
theorem wAll_len {α : Type} (f : Wst → α → Wst) (B : Nat) : ∀ (l : List α) (s : Wst), (∀ s, ∀ x ∈ l, (f s x).1.length ≤ s.1.length + B) → (wAll f s l).1.length ≤ s.1.length + B * l.length
  | [], s, _ => by simp [wAll]
  | x :: r, s, hf => by
    unfold wAll
    split
    · have h1 := wAll_len f B r (f s x) (fun s y hy => hf s y (List.mem_cons_of_mem _ hy))
      have h2 := hf s x (List.mem_cons_self ..)
      simp only [List.length_cons, Nat.mul_add]
      omega
    · omega
theorem wAll_len_if {α : Type} (f : Wst → α → Wst) (B m : Nat) (l : List α) (s : Wst) (hf : ∀ s, ∀ x ∈ l, (f s x).1.length ≤ s.1.length + B) (h : s.2 = 0 → l.length ≤ m) : (wAll f s l).1.length ≤ s.1.length + B * m := by
  by_cases h0 : s.2 = 0
  · have h1 := wAll_len f B l s hf
    have h2 := Nat.mul_le_mul_left B (h h0)
    omega
  · rw [wAll_stop f s l h0]; omega
theorem wClass_len (s : Wst) (c : S42) : (wClass s c).1.length ≤ s.1.length + 500 := by
  have h1 := wText_len s c.f0
  have h2 := wCount_len (s := wText s c.f0) (n := c.f1.length) (most := 15) (by decide)
  have h3 := wAll_len_if wField 27 15 c.f1 (wCount (wText s c.f0) c.f1.length 15) (fun s x _ => wField_len s x) (fun h => (wCount_ok h).1)
  show (wAll _ _ _).1.length ≤ _
  omega
theorem wKinds_len (s : Wst) (l : List Int) (most : Nat) (hm : most ≤ 1000) : (wKinds s l most).1.length ≤ s.1.length + 10 + most := by
  have h2 := wCount_len (s := s) (n := l.length) hm
  have h3 := wAll_len_if wKind 1 most l (wCount s l.length most) (fun s x _ => wKind_len s x) (fun h => (wCount_ok h).1)
  show (wAll _ _ _).1.length ≤ _
  omega
theorem insB_len {i : S23} (hi : i64ok i.f1) (ho : okI i = true) : (insB i).length ≤ 21 := by
  obtain ⟨p1, p2, p3, p4⟩ := okI_parts ho
  unfold insB
  by_cases c1 : i.f0 = 1
  · rw [if_pos c1]
    have := vint_len10 (zigN_lt i.f1 hi.1 hi.2)
    simp only [List.length_append, List.length_singleton]
    omega
  · have hr := p4.resolve_left c1
    rw [if_neg c1]
    have h1 := vint_len10 (n := i.f1.toNat) (by omega)
    have h2 := vint_len10 (n := i.f2.toNat) (by omega)
    split
    · simp only [List.length_append, List.length_singleton]
      omega
    · split
      · simp only [List.length_append, List.length_singleton]
        omega
      · simp
theorem wIns_len (s : Wst) {i : S23} (hi : i64ok i.f1) : (wIns s i).1.length ≤ s.1.length + 21 := by
  unfold wIns
  split
  · rename_i h
    have := insB_len hi h
    simp only [List.length_append]
    omega
  · show s.1.length ≤ _
    omega
theorem wFunc_len (s : Wst) (f : S48) (hf : wfF f) : (wFunc s f).1.length ≤ s.1.length + 6000 := by
  have h1 := wText_len s f.f0
  have h2 := wKinds_len (wText s f.f0) f.f1 6 (by decide)
  have h3 := wKind_len (wKinds (wText s f.f0) f.f1 6) f.f2
  have h4 := wKinds_len (wKind (wKinds (wText s f.f0) f.f1 6) f.f2) f.f3 16 (by decide)
  have h5 := wCount_len (s := wKinds (wKind (wKinds (wText s f.f0) f.f1 6) f.f2) f.f3 16) (n := f.f4.length) (most := 256) (by decide)
  have h6 := wAll_len_if wIns 21 256 f.f4 (wCount (wKinds (wKind (wKinds (wText s f.f0) f.f1 6) f.f2) f.f3 16) f.f4.length 256) (fun s x hx => wIns_len s (hf.2 x hx)) (fun h => (wCount_ok h).1)
  show (wAll _ _ _).1.length ≤ _
  omega
theorem rdT44_mem {l : List S44} {i : Nat} (h : i < l.length) : rd_T44 l i ∈ l := by
  have e : rd_T44 l (i : Int) = l[i] := by simp [rd_T44, List.getD_eq_getElem?_getD, h]
  rw [e]; exact List.getElem_mem h
theorem rdT23_mem {l : List S23} {i : Nat} (h : i < l.length) : rd_T23 l i ∈ l := by
  have e : rd_T23 l (i : Int) = l[i] := by simp [rd_T23, List.getD_eq_getElem?_getD, h]
  rw [e]; exact List.getElem_mem h
theorem rdT42_mem {l : List S42} {i : Nat} (h : i < l.length) : rd_T42 l i ∈ l := by
  have e : rd_T42 l (i : Int) = l[i] := by simp [rd_T42, List.getD_eq_getElem?_getD, h]
  rw [e]; exact List.getElem_mem h
theorem rdT48_mem {l : List S48} {i : Nat} (h : i < l.length) : rd_T48 l i ∈ l := by
  have e : rd_T48 l (i : Int) = l[i] := by simp [rd_T48, List.getD_eq_getElem?_getD, h]
  rw [e]; exact List.getElem_mem h

set_option maxHeartbeats 8000000 in
set_option maxRecDepth 100000 in
theorem w_class (g : Nat) (s : Wst) (A : Option Addr) (c : Nat) (x : S42) (hw : wfC x) (hl : s.1.length ≤ 1099511600000) (w0 w : World) (F : List HP) (h : St w0 w (wrt g s.1 s.2 :: F))
    (hr : k44.C w0 A x.f1.length x.f1) :
    Calls Try.prog 23 #[.pointer (some ⟨g, 0, none⟩), .agg #[.string x.f0, .slice A x.f1.length c]] w fun en w' => en = .returned (.tuple #[]) ∧ St w0 w' (wrt g (wClass s x).1 (wClass s x).2 :: F) := by
  have H := Aside.mk h
  have HL := Aside.mk hl
  have HR := Aside.mk hr
  have HW := Aside.mk hw
  have hlm := Kd.C_max hr
  clear h hl hr hw
  go_enter Try.func23, Try.ntmps23
  have HC := Aside.mk ((H.out.alloc #[.string x.f0, .slice A x.f1.length c] 42).perm (.swap _ _ _))
  go_wp2_with (first | (go_at_call 41; refine (w_text g s x.f0 HW.out.1 (by have := HL.out; omega) w0 _ _ HC.out).mono ?_; rintro en w1 ⟨rfl, h1⟩; have hi1 := (h1.perm (.swap _ _ _)).cell 1; have H1 := Aside.mk h1; clear h1) | (go_at_call 22; refine (w_count g (wText s x.f0) x.f1.length 15 (by decide) (by have := HL.out; have := wText_len s x.f0; omega) w0 _ _ H1.out).mono ?_; rintro en w2 ⟨rfl, h2⟩; have hi1 := (h2.perm (.swap _ _ _)).cell 1; have H2 := Aside.mk h2; clear h2))
  obtain ⟨gi, hgi⟩ : ∃ gi, gi = w.heap.size := ⟨_, rfl⟩
  rw [← hgi] at H2 hi1 ⊢
  clear hgi H HC H1
  obtain ⟨F2, hF2⟩ : ∃ F2, F2 = blk gi #[.string x.f0, .slice A x.f1.length c] 42 :: F := ⟨_, rfl⟩
  have HF2 := Aside.mk hF2
  rw [← hF2] at H2
  clear hF2
  go_loopg [4] (x.f1.length) (fun m v4 w' => ∃ i : Nat, m = x.f1.length - i ∧ i ≤ x.f1.length ∧ v4 = .int .i64 i ∧ ∃ s1 : Wst, Aside (wAll wField s1 (x.f1.drop i) = wClass s x) ∧ Aside (s1.2 = 0 → i < x.f1.length → s1.1.length ≤ s.1.length + 40 + 27 * i ∧ x.f1.length ≤ 15) ∧ Aside (St w0 w' (wrt g s1.1 s1.2 :: F2)))
  case atStart => exact ⟨0, rfl, Nat.zero_le _, rfl, _, ⟨rfl⟩, ⟨fun h _ => ⟨by have h1 := wText_len s x.f0; have h2 := wCount_len (s := wText s x.f0) (n := x.f1.length) (most := 15) (by decide); omega, (wCount_ok h).1⟩⟩, H2⟩
  case round =>
    clear H2 hi1
    obtain ⟨i, rfl, hi, rfl, s1, HE, HB, H⟩ := hrel
    have h0 := H.out
    rw [HF2.out] at h0
    have hi1 := (h0.perm (.swap _ _ _)).cell 1
    clear h0
    obtain ⟨A1, cp, hcp, h⟩ := wrt_open H.out
    have hc1 := h.cell 1
    have hb0 := Aside.mk h.below
    clear h
    by_cases hlt : i < x.f1.length
    · obtain ⟨ad, rfl, hcell0, hcell1⟩ := at_T44 HR.out i (by omega) (by omega)
      have hcell2 := pw_cell_below hb0.out hcell0
      have hcell3 := pw_cell_below hb0.out hcell1
      have hci : ((i : Int)).toNat = i := rfl
      rw [hci] at hcell2 hcell3
      clear hcell0 hcell1 hci
      have hdc : x.f1.drop i = rd_T44 x.f1 i :: x.f1.drop (i + 1) := drop_cons z44 x.f1 i hlt
      have HD := Aside.mk hdc
      clear hdc
      by_cases he : s1.2 = 0
      · have hB := Aside.mk (HB.out he hlt)
        have HI := Aside.mk he
        have HT := Aside.mk (HW.out.2 _ (rdT44_mem hlt))
        clear HB
        go_wp2_with (first | (go_at_call 41; refine (w_text g s1 (rd_T44 x.f1 i).f0 HT.out (by have := hB.out; have := HL.out; omega) w0 _ _ H.out).mono ?_; rintro en w1 ⟨rfl, h1⟩; have H1 := Aside.mk h1; have hb1 := Aside.mk h1.below; rw [HF2.out] at h1; have hi1 := (h1.perm (.swap _ _ _)).cell 1; obtain ⟨ad1, hae, hcell4, hcell5⟩ := at_T44 HR.out i (by omega) (by omega); cases hae; have hcell6 := pw_cell_below hb1.out hcell5; have hci : ((i : Int)).toNat = i := rfl; rw [hci] at hcell6; clear h1 hcell4 hcell5 hci) | (go_at_call 42; refine (w_kind g (wText s1 (rd_T44 x.f1 i).f0) (rd_T44 x.f1 i).f1 (by have := hB.out; have := HL.out; have := wText_len s1 (rd_T44 x.f1 i).f0; omega) w0 _ _ H1.out).mono ?_; rintro en w2 ⟨rfl, h2⟩; have H2 := Aside.mk h2; clear h2))
        go_roundg (x.f1.length - (i + 1))
        case measure => omega
        case rel =>
          refine ⟨i + 1, rfl, by omega, by go_num, wField s1 (rd_T44 x.f1 i), ⟨?_⟩, ⟨fun _ _ => ?_⟩, H2⟩
          · rw [← HE.out, HD.out, wAll, if_pos HI.out]
          · have h1 := wField_len s1 (rd_T44 x.f1 i)
            have h2 := hB.out
            omega
      · have he1 : (s1.2 == 0) = false := by simpa using he
        have he2 : wClass s x = s1 := by rw [← HE.out]; exact wAll_stop _ _ _ he
        have HI := Aside.mk he2
        clear he2
        go_wp2
        go_end0
        exact ⟨rfl, by rw [HI.out]; have h := H.out; rw [HF2.out] at h; exact (h.perm (.swap _ _ _)).rest⟩
    · have he2 : wClass s x = s1 := by rw [← HE.out, List.drop_of_length_le (by omega)]; rfl
      have HI := Aside.mk he2
      clear he2 HE HB
      go_wp2
      go_end0
      exact ⟨rfl, by rw [HI.out]; have h := H.out; rw [HF2.out] at h; exact (h.perm (.swap _ _ _)).rest⟩
end Go.Proofs.Ytakpdmkfengghaa.Wr
