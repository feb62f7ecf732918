/- The writer of a program's bytes: what its methods do. Conditions: the bytes stay below 2^40. -/
import Derived.Test.YtakpdmkfengghaaProg
import Derived.Test.YtakpdmkfengghaaSep
import Derived.Below
import Derived.Deep.Draws
import Derived.Deep.AppendLies
import Derived.Maps.AppendAt
import Derived.OwnWalk
import Derived.Laws.BytesArg
import Derived.Laws.MakeOwn
import Derived.Laws.OwnMore
import Derived.Deep.OwnRows
import Derived.Tactics
import Derived.Lib.ConvBytes
import Derived.Laws.Slices
import Derived.WalkKit
import Derived.KernelRfl
import Derived.RowKit3
import Derived.Deep.LoopGhost
import Derived.Deep.QuietTactic
import Derived.BigQuiet
import Derived.WideLaws
import Derived.Deep.DeepCutAuto
import Derived.Deep.CutBlock
import Derived.Deep.RegionHeld3
import Derived.Laws.Rows
import Derived.Lib.AppendStr
import Derived.ArgAppend
import Derived.Laws.IdiomCopy
import Derived.OrdersHeld
import Derived.Laws.BitsLemmas
import Derived.RowKit
namespace Go.Proofs.Ytakpdmkfengghaa.Wr
open Go Go.RowKit Go.Proofs.Ytakpdmkfengghaa.Sep
set_option linter.unusedVariables false
set_option linter.unusedSimpArgs false

/-- A fact that the walk's simp doesn't look into. -/
structure Aside (p : Prop) : Prop where mk :: (out : p)

theorem info5 : (Try.prog.info? 5).map (fun i => (i.zero, i.size, i.bytes)) = some (some (.int .u8 0), 1, 1) := by kernel_rfl
def u8s (l : List Int) : List Value := l.map (.int .u8)
/-- The writer at block g: its bytes, its error. -/
def wrt (g : Nat) (bs : List Int) (e : Int) : HP := ex fun v => star (blk g #[v, .int .i64 e] 56) (row 5 1 v bs.length (u8s bs))
def failed (e c : Int) : Int := if e = 0 then c else e

theorem wrt_open {w0 w : World} {F : List HP} {g : Nat} {bs : List Int} {e : Int} (h : St w0 w (wrt g bs e :: F)) :
    ∃ A c, bs.length ≤ c ∧ St w0 w (blk g #[.slice A bs.length c, .int .i64 e] 56 :: row 5 1 (.slice A bs.length c) bs.length (u8s bs) :: F) := by
  obtain ⟨v, h⟩ := h.ex_
  have h := h.star_
  obtain ⟨A, c, rfl, h1, _⟩ := (h.perm (.swap _ _ _)).row_slice
  exact ⟨A, c, h1, h⟩
theorem wrt_shut {w0 w : World} {F : List HP} {g : Nat} {bs : List Int} {e : Int} {v : Value} (h : St w0 w (blk g #[v, .int .i64 e] 56 :: row 5 1 v bs.length (u8s bs) :: F)) : St w0 w (wrt g bs e :: F) := St.in_ v h.fold_

set_option maxHeartbeats 8000000 in
set_option maxRecDepth 100000 in
theorem w_fail (g : Nat) (bs : List Int) (e c : Int) (w0 w : World) (F : List HP) (h : St w0 w (wrt g bs e :: F)) :
    Calls Try.prog 39 #[.pointer (some ⟨g, 0, none⟩), .int .i64 c] w fun en w' => en = .returned (.tuple #[]) ∧ St w0 w' (wrt g bs (failed e c) :: F) := by
  obtain ⟨A, cp, hcp, h⟩ := wrt_open h
  have hc0 := h.cell 0
  have hc1 := h.cell 1
  have hf1 := h.frozen 1
  have H := Aside.mk h
  clear h
  by_cases he : e = 0
  · subst he
    go_enter Try.func39, Try.ntmps39
    go_wp2
    go_end0
    exact ⟨rfl, wrt_shut (H.out.put 1 _ rfl)⟩
  · have he1 : (e == 0) = false := by simpa using he
    have he' : failed e c = e := if_neg he
    rw [he']
    clear he'
    go_enter Try.func39, Try.ntmps39
    go_wp2
    go_end0
    exact ⟨rfl, wrt_shut H.out⟩

/-- A number's bytes. -/
def vint (n : Nat) : List Int := if n < 128 then [(n : Int)] else ((n % 128 + 128 : Nat) : Int) :: vint (n / 128)
termination_by n
decreasing_by omega

theorem or128_ : ∀ m : Fin 256, bits .or .u8 (m.1 : Int) 128 = ((m.1 % 128 + 128 : Nat) : Int) := by decide +kernel
theorem or128 (n : Nat) : bits .or .u8 ((n : Int) % 256) 128 = ((n % 128 + 128 : Nat) : Int) := by
  have h := or128_ ⟨n % 256, by omega⟩
  have e : n % 256 % 128 = n % 128 := by omega
  simpa [e] using h
theorem vint_small {n : Nat} (h : n < 128) : vint n = [(n : Int)] := by rw [vint, if_pos h]
theorem vint_step {n : Nat} (h : ¬ n < 128) : vint n = ((n % 128 + 128 : Nat) : Int) :: vint (n / 128) := by rw [vint, if_neg h]
theorem vint_len (k : Nat) : ∀ n : Nat, n < 128 ^ (k + 1) → (vint n).length ≤ k + 1 := by
  induction k with
  | zero => intro n h; rw [vint_small (by omega)]; simp
  | succ k ih =>
    intro n h
    by_cases hn : n < 128
    · rw [vint_small hn]; simp
    · rw [vint_step hn]
      have := ih (n / 128) (by rw [Nat.pow_succ] at h; omega)
      simp; omega
theorem vint_len10 {n : Nat} (h : n < 18446744073709551616) : (vint n).length ≤ 10 := vint_len 9 n (by omega)

set_option maxHeartbeats 8000000 in
set_option maxRecDepth 100000 in
theorem w_number (g : Nat) (bs : List Int) (e : Int) (n : Nat) (hn : n < 18446744073709551616) (hl : bs.length ≤ 1099511627776) (w0 w : World) (F : List HP) (h : St w0 w (wrt g bs e :: F)) :
    Calls Try.prog 40 #[.pointer (some ⟨g, 0, none⟩), .int .u64 n] w fun en w' => en = .returned (.tuple #[]) ∧ St w0 w' (wrt g (bs ++ vint n) e :: F) := by
  have H := Aside.mk h
  clear h
  have HN := Aside.mk hn
  have HL := Aside.mk hl
  clear hn hl
  go_enter Try.func40, Try.ntmps40
  go_wp2
  go_loopg [1] n (fun m v1 w' => v1 = .int .u64 (m : Int) ∧ Aside (m < 18446744073709551616) ∧ ∃ pre : List Int, Aside (pre ++ vint m = bs ++ vint n) ∧ Aside (St w0 w' (wrt g pre e :: F)))
  case atStart => exact ⟨rfl, HN, bs, ⟨rfl⟩, H⟩
  case round =>
    clear H
    obtain ⟨rfl, HM, pre, HE, H⟩ := hrel

    obtain ⟨A, cp, hcp, h⟩ := wrt_open H.out
    clear H
    have hc0 := h.cell 0
    have hc1 := h.cell 1
    have hf0 := h.frozen 0
    have H := Aside.mk h
    clear h
    have hpl : pre.length ≤ 1099511627786 := by
      have h1 := congrArg List.length HE.out
      have h2 := vint_len10 HN.out
      have h3 := HL.out
      simp only [List.length_append] at h1
      omega
    have HP := Aside.mk hpl
    clear hpl
    by_cases hs : gk < 128
    · go_wp2_with (at_builtin; refine append1 rfl (.tmp 24) (.tmp 27) 31 5 (.int .u8 0) 1 rfl Try.underlying31 info5 rfl (by decide) _ _ _ _ rfl rfl rfl (H.out.perm (.swap _ _ _)) ?hl ?_)
      case hl => have := HP.out; omega
      intro A1 c1 w1 hc1 h1
      have h := h1.perm (.swap _ _ _)
      clear h1 H hc0 hc1 hf0
      have hd0 := h.cell 0
      have hf0 := h.frozen 0
      have H := Aside.mk h
      clear h
      go_wp2
      go_end0
      have HE2 : pre ++ [(gk : Int)] = bs ++ vint n := by rw [← vint_small hs]; exact HE.out
      refine ⟨rfl, ?_⟩
      rw [← HE2]
      exact wrt_shut (v := .slice A1 (pre.length + 1) c1) (by simpa [u8s] using H.out.put 0 _ rfl)
    · go_wp2_with (at_builtin; refine append1 rfl (.tmp 10) (.tmp 14) 31 5 (.int .u8 0) 1 rfl Try.underlying31 info5 rfl (by decide) _ _ _ _ rfl rfl rfl (H.out.perm (.swap _ _ _)) ?hl ?_)
      case hl => have := HP.out; omega
      intro A1 c1 w1 hc1 h1
      have h := h1.perm (.swap _ _ _)
      clear h1 H hc0 hc1 hf0
      have hd0 := h.cell 0
      have hf0 := h.frozen 0
      have H := Aside.mk h
      clear h
      go_wp2
      go_roundg (gk / 128)
      case measure => omega
      case rel =>
        refine ⟨by rw [Int.natCast_ediv]; rfl, ⟨by have := HM.out; omega⟩, pre ++ [((gk % 128 + 128 : Nat) : Int)], ⟨?_⟩, ⟨?_⟩⟩
        · rw [List.append_assoc, List.singleton_append, ← vint_step hs]; exact HE.out
        · exact wrt_shut (v := .slice A1 (pre.length + 1) c1) (by simpa [u8s, or128 gk] using H.out.put 0 _ rfl)
end Go.Proofs.Ytakpdmkfengghaa.Wr
