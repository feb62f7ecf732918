/- A program that came in: what light, Encode and bytes answer of it. Conditions: the bytes stay below 2^40. -/
import Derived.Test.YtakpdmkfengghaaProg
import Derived.Test.YtakpdmkfengghaaSep
import Derived.Test.YtakpdmkfengghaaWr7
import Derived.Test.YtakpdmkfengghaaInA
import Derived.Test.YtakpdmkfengghaaPinj
import Derived.Test.YtakpdmkfengghaaPl
import Derived.Test.YtakpdmkfengghaaMrC
import Derived.Test.YtakpdmkfengghaaWp1
import Derived.StillTailTactics
import Derived.Below
import Derived.Deep.Draws
import Derived.Deep.AppendLies
import Derived.Maps.AppendAt
import Derived.OwnWalk
import Derived.Laws.BytesArg
import Derived.Laws.MakeOwn
import Derived.Laws.OwnMore
import Derived.Deep.OwnRows
import Derived.Tactics
import Derived.Lib.ConvBytes
import Derived.Laws.Slices
import Derived.WalkKit
import Derived.KernelRfl
import Derived.RowKit3
import Derived.Deep.LoopGhost
import Derived.Deep.QuietTactic
import Derived.BigQuiet
import Derived.WideLaws
import Derived.Deep.DeepCutAuto
import Derived.Deep.CutBlock
import Derived.Deep.RegionHeld3
import Derived.Laws.Rows
import Derived.Lib.AppendStr
import Derived.ArgAppend
import Derived.Laws.IdiomCopy
import Derived.OrdersHeld
import Derived.Laws.BitsLemmas
import Derived.RowKit
import Derived.Lib.SlBytesConst
namespace Go.Proofs.Ytakpdmkfengghaa.Wr
open Go Go.RowKit Go.Proofs.Ytakpdmkfengghaa.Sep Go.Proofs.YtakpdmkfengghaaW.PrintWords Go.Proofs.YtakpdmkfengghaaW.PrintLast Go.Proofs.YtakpdmkfengghaaW.PrintMore Go.Proofs.Ytakpdmkfengghaa.Q Go.Proofs.Ytakpdmkfengghaa.Pe
set_option linter.unusedVariables false
set_option linter.unusedSimpArgs false

/-- What a row of bytes reads as. -/
theorem row_reads {w0 w : World} {F : List HP} {A : Option Addr} {n c : Nat} {l : List Int} (h : St w0 w (row 5 1 (.slice A n c) n (u8s l) :: F)) : l.length = n ∧ Kd.C (Kd.int .u8) w A l.length l := by
  have ho := h.owns
  have hl : l.length = n := by have := ho.len; simpa [u8s] using this
  refine ⟨hl, rfl, ?_, fun h0 => ?_⟩
  · obtain ⟨A1, c1, he, h1, h2⟩ := ho.slice
    simp only [maxLen] at h2
    omega
  · obtain ⟨g, c1, he, hc, hcell⟩ := h.row_some (by omega)
    injection he with hA
    subst hA
    refine ⟨_, rfl, fun j p hj => ⟨[.int .u8 p], rfl, rfl, fun i u hi => ?_⟩⟩
    match i, hi with
    | 0, hi =>
      simp only [List.getElem?_cons_zero, Option.some.injEq] at hi
      subst hi
      have ha : (⟨g, 0, none⟩ : Addr).add j = ⟨g, j, none⟩ := by unfold Addr.add; split <;> simp_all
      show w.cell? ((⟨g, 0, none⟩ : Addr).add (j * 1 + 0)) = _
      rw [Nat.mul_one, Nat.add_zero, ha]
      exact hcell j _ (by simp [u8s, hj])
theorem row_cap {w0 w : World} {F : List HP} {A : Option Addr} {n c : Nat} {l : List Int} (h : St w0 w (row 5 1 (.slice A n c) n (u8s l) :: F)) : n ≤ c := by
  obtain ⟨A1, c1, he, h1, h2⟩ := h.owns.slice
  injection he with _ _ hc
  omega
theorem two_ {w w' : World} {F : List HP} {g0 g1 : Nat} {a b c d : Value} {t : TypeId} (h : St w w' (blk g1 #[c, d] t :: blk g0 #[a, b] t :: F)) :
    w'.cell? ⟨g0, 0, none⟩ = some a ∧ w'.cell? ⟨g0, 1, none⟩ = some b ∧ w'.cell? ⟨g1, 0, none⟩ = some c ∧ w'.cell? ⟨g1, 1, none⟩ = some d :=
  ⟨(h.perm (.swap _ _ _)).cell 0, (h.perm (.swap _ _ _)).cell 1, h.cell 0, h.cell 1⟩
theorem In.encode {w : World} {A1 : Option Addr} {c1 : Nat} {A2 : Option Addr} {c2 : Nat} {cs : List S42} {fs : List S48} (h : In w A1 c1 A2 c2 cs fs) :
    Calls Try.prog 12 #[.agg #[.slice A1 cs.length c1, .slice A2 fs.length c2]] w fun en w' => ∃ B d, en = .returned (.tuple #[.slice B (encN cs fs).1.length d, .int .i64 (encN cs fs).2]) ∧ St w w' [row 5 1 (.slice B (encN cs fs).1.length d) (encN cs fs).1.length (u8s (encN cs fs).1)] :=
  (Wr.encode A1 c1 A2 c2 cs fs h.wf w h.r1 h.r2).mono fun en w' ⟨v, he, hs⟩ => by
    obtain ⟨B, d, rfl, _⟩ := hs.row_slice
    exact ⟨B, d, he, hs⟩
theorem bytes_ {w : World} {A B : Option Addr} {c d : Nat} {a b : List Int} (ha : Kd.C (Kd.int .u8) w A a.length a) (hc : a.length ≤ c) (hb : Kd.C (Kd.int .u8) w B b.length b) (hd : b.length ≤ d) (h1 : isB a) (h2 : isB b) :
    Calls Try.prog 14 #[.slice A a.length c, .slice B b.length d] w fun e w' => e = .returned (.bool (decide (a = b))) ∧ Below w.heap.size w w' := by
  have h : windrowlaw13_bytes.f a b = some (decide (a = b)) := by
    unfold windrowlaw13_bytes.f
    congr 1
    rw [Bool.eq_iff_iff, beq_iff_eq, decide_eq_true_eq, str_eq]
    exact ⟨str_inj h1 h2, fun h => by rw [h]⟩
  exact (windrowlaw13_bytes.calls A c a B d b _ w ha hc hb hd h).mono fun e w' h => ⟨h.1, by first | exact h.2 | exact h.2.below⟩

end Go.Proofs.Ytakpdmkfengghaa.Wr
