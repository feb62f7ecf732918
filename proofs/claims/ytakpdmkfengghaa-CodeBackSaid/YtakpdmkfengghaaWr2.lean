/- The writer of a program's bytes: what more of its methods do. Conditions: the bytes stay below 2^40. -/
import Derived.Test.YtakpdmkfengghaaProg
import Derived.Test.YtakpdmkfengghaaSep
import Derived.Test.YtakpdmkfengghaaWr1
import Derived.Below
import Derived.Deep.Draws
import Derived.Deep.AppendLies
import Derived.Maps.AppendAt
import Derived.OwnWalk
import Derived.Laws.BytesArg
import Derived.Laws.MakeOwn
import Derived.Laws.OwnMore
import Derived.Deep.OwnRows
import Derived.Tactics
import Derived.Lib.ConvBytes
import Derived.Laws.Slices
import Derived.WalkKit
import Derived.KernelRfl
import Derived.RowKit3
import Derived.Deep.LoopGhost
import Derived.Deep.QuietTactic
import Derived.BigQuiet
import Derived.WideLaws
import Derived.Deep.DeepCutAuto
import Derived.Deep.CutBlock
import Derived.Deep.RegionHeld3
import Derived.Laws.Rows
import Derived.Lib.AppendStr
import Derived.ArgAppend
import Derived.Laws.IdiomCopy
import Derived.OrdersHeld
import Derived.Laws.BitsLemmas
import Derived.RowKit
namespace Go.Proofs.Ytakpdmkfengghaa.Wr
open Go Go.RowKit Go.Proofs.Ytakpdmkfengghaa.Sep
set_option linter.unusedVariables false
set_option linter.unusedSimpArgs false

/-- What a writer has: its bytes, its error. -/
abbrev Wst := List Int × Int
def wCount (s : Wst) (n : Nat) (most : Nat) : Wst := if n ≤ most then (s.1 ++ vint n, s.2) else (s.1, failed s.2 3)
def chars (t : ByteArray) : List Int := t.data.toList.map fun b => (b.toNat : Int)
theorem chars_cells (t : ByteArray) : Lib.strCells t = u8s (chars t) := by simp [Lib.strCells, u8s, chars]
theorem chars_length (t : ByteArray) : (chars t).length = t.size := by simp [chars]
def wText (s : Wst) (t : ByteArray) : Wst := if (wCount s t.size 16).2 = 0 then ((wCount s t.size 16).1 ++ chars t, 0) else wCount s t.size 16
def wKind (s : Wst) (t : Int) : Wst := if 0 ≤ t ∧ t ≤ 2 then (s.1 ++ [t], s.2) else (s.1, failed s.2 32)

set_option maxHeartbeats 8000000 in
set_option maxRecDepth 100000 in
theorem w_count (g : Nat) (s : Wst) (n most : Nat) (hm : most ≤ 1000) (hl : s.1.length ≤ 1099511627776) (w0 w : World) (F : List HP) (h : St w0 w (wrt g s.1 s.2 :: F)) :
    Calls Try.prog 22 #[.pointer (some ⟨g, 0, none⟩), .int .i64 n, .int .i64 most] w fun en w' => en = .returned (.tuple #[]) ∧ St w0 w' (wrt g (wCount s n most).1 (wCount s n most).2 :: F) := by
  have H := Aside.mk h
  have HL := Aside.mk hl
  clear h hl
  by_cases hs : n ≤ most
  · have e : wCount s n most = (s.1 ++ vint n, s.2) := if_pos hs
    rw [e]
    clear e
    have hb : n ≤ 1000 := by omega
    go_enter Try.func22, Try.ntmps22
    go_wp2_with (go_at_call 40; refine (w_number g s.1 s.2 n (by omega) HL.out w0 _ F H.out).mono ?_; rintro en w1 ⟨rfl, h1⟩; have H1 := Aside.mk h1; clear h1)
    go_end0
    exact ⟨rfl, H1.out⟩
  · have e : wCount s n most = (s.1, failed s.2 3) := if_neg hs
    rw [e]
    clear e
    have hs2 : most < n := by omega
    clear hs
    go_enter Try.func22, Try.ntmps22
    go_wp2_with (go_at_call 39; refine (w_fail g s.1 s.2 3 w0 _ F H.out).mono ?_; rintro en w1 ⟨rfl, h1⟩; have H1 := Aside.mk h1; clear h1)
    refine bodyPost_ret (results_none rfl _ _ _) rfl ?_
    exact ⟨rfl, H1.out⟩

set_option maxHeartbeats 8000000 in
set_option maxRecDepth 100000 in
theorem w_kind (g : Nat) (s : Wst) (t : Int) (hl : s.1.length ≤ 1099511627786) (w0 w : World) (F : List HP) (h : St w0 w (wrt g s.1 s.2 :: F)) :
    Calls Try.prog 42 #[.pointer (some ⟨g, 0, none⟩), .int .i64 t] w fun en w' => en = .returned (.tuple #[]) ∧ St w0 w' (wrt g (wKind s t).1 (wKind s t).2 :: F) := by
  by_cases hs : 0 ≤ t ∧ t ≤ 2
  · have e : wKind s t = (s.1 ++ [t], s.2) := if_pos hs
    rw [e]
    clear e
    obtain ⟨h0, h2⟩ := hs
    obtain ⟨A, cp, hcp, h⟩ := wrt_open h
    have hc0 := h.cell 0
    have hf0 := h.frozen 0
    have H := Aside.mk h
    have HL := Aside.mk hl
    clear h hl
    go_enter Try.func42, Try.ntmps42
    go_wp2_with (at_builtin; refine append1 rfl (.tmp 16) (.tmp 19) 31 5 (.int .u8 0) 1 rfl Try.underlying31 info5 rfl (by decide) _ _ _ _ rfl rfl rfl (H.out.perm (.swap _ _ _)) ?hl ?_)
    case hl => have := HL.out; omega
    intro A1 c1 w1 hc1 h1
    have h := h1.perm (.swap _ _ _)
    clear h1 H hc0 hf0
    have hd0 := h.cell 0
    have hf0 := h.frozen 0
    have H := Aside.mk h
    clear h
    go_wp2
    go_end0
    have et : t % 256 = t := by omega
    refine ⟨rfl, wrt_shut (v := .slice A1 (s.1.length + 1) c1) (by simpa [u8s, et] using H.out.put 0 _ rfl)⟩
  · have e : wKind s t = (s.1, failed s.2 32) := if_neg hs
    rw [e]
    clear e
    have H := Aside.mk h
    clear h hl
    by_cases ht : t < 0
    all_goals
      have ht2 : ¬ (0 ≤ t ∧ t ≤ 2) := hs
      clear hs
      (try have ht3 : 2 < t := by omega)
      clear ht2
      go_enter Try.func42, Try.ntmps42
      go_wp2_with (go_at_call 39; refine (w_fail g s.1 s.2 32 w0 _ F H.out).mono ?_; rintro en w1 ⟨rfl, h1⟩; have H1 := Aside.mk h1; clear h1)
      refine bodyPost_ret (results_none rfl _ _ _) rfl ?_
      exact ⟨rfl, H1.out⟩

set_option maxHeartbeats 8000000 in
set_option maxRecDepth 100000 in
theorem w_text (g : Nat) (s : Wst) (t : ByteArray) (ht : t.size ≤ 9223372036854775807) (hl : s.1.length ≤ 1099511627776) (w0 w : World) (F : List HP) (h : St w0 w (wrt g s.1 s.2 :: F)) :
    Calls Try.prog 41 #[.pointer (some ⟨g, 0, none⟩), .string t] w fun en w' => en = .returned (.tuple #[]) ∧ St w0 w' (wrt g (wText s t).1 (wText s t).2 :: F) := by
  have H := Aside.mk h
  have HN := Aside.mk ht
  have HL := Aside.mk hl
  clear h ht hl
  obtain ⟨s1, e1, hs1⟩ : ∃ s1 e1, wCount s t.size 16 = (s1, e1) := ⟨_, _, rfl⟩
  by_cases he : e1 = 0
  · subst he
    have e : wText s t = (s1 ++ chars t, 0) := by unfold wText; rw [hs1]; exact if_pos rfl
    rw [e]
    clear e
    have HE := Aside.mk hs1
    clear hs1
    have HS : Aside (t.size ≤ 16 ∧ s1.length ≤ 1099511627786) := by
      have h1 := HE.out
      have h2 := HL.out
      unfold wCount at h1
      split at h1
      · rename_i h3
        have h4 := congrArg (fun z => z.1.length) h1
        have h5 := vint_len10 (n := t.size) (by omega)
        simp only [List.length_append] at h4
        exact ⟨h3, by omega⟩
      · have h4 := congrArg (fun z => z.2) h1
        simp only [failed] at h4
        split at h4 <;> omega
    go_enter Try.func41, Try.ntmps41
    go_wp2_with (first | (go_at_call 22; refine (w_count g s t.size 16 (by decide) HL.out w0 _ F H.out).mono ?_; rw [HE.out]; rintro en w1 ⟨rfl, h1⟩; obtain ⟨A, cp, hcp, h⟩ := wrt_open h1; have hc0 := h.cell 0; have hc1 := h.cell 1; have hf0 := h.frozen 0; have H1 := Aside.mk h; clear h1 h) | (at_builtin; refine append_str rfl (.tmp 17) (.tmp 18) 31 9 5 rfl Try.underlying31 Try.underlying9 info5 _ _ _ _ rfl rfl (H1.out.perm (.swap _ _ _)) ?hl ?_))
    case hl => have := HS.out; omega
    intro A1 c1 w2 hc1 h1
    have h := h1.perm (.swap _ _ _)
    clear h1 H1 hc0 hf0
    have hd0 := h.cell 0
    have hf0 := h.frozen 0
    have H1 := Aside.mk h
    clear h
    go_wp2
    go_end0
    refine ⟨rfl, wrt_shut (v := .slice A1 (s1.length + t.size) c1) ?_⟩
    have h2 := H1.out.put 0 (.slice A1 (s1.length + t.size) c1) rfl
    rw [chars_cells] at h2
    simpa [u8s, chars_length] using h2
  · have e : wText s t = (s1, e1) := by unfold wText; rw [hs1]; exact if_neg he
    rw [e]
    clear e
    have HE := Aside.mk hs1
    clear hs1
    have he1 : (e1 == 0) = false := by simpa using he
    go_enter Try.func41, Try.ntmps41
    go_wp2_with (go_at_call 22; refine (w_count g s t.size 16 (by decide) HL.out w0 _ F H.out).mono ?_; rw [HE.out]; rintro en w1 ⟨rfl, h1⟩; obtain ⟨A, cp, hcp, h⟩ := wrt_open h1; have hc0 := h.cell 0; have hc1 := h.cell 1; have hf0 := h.frozen 0; have H1 := Aside.mk h; clear h1 h)
    go_end0
    exact ⟨rfl, wrt_shut H1.out⟩
end Go.Proofs.Ytakpdmkfengghaa.Wr
