/- Whether an instruction may be: the statement's walk. Conditions: the bytes stay below 2^40. -/
import Derived.Test.YtakpdmkfengghaaProg
import Derived.Test.YtakpdmkfengghaaSep
import Derived.Test.YtakpdmkfengghaaWr7
import Derived.Test.YtakpdmkfengghaaWp1
import Derived.StillTailTactics
import Derived.Below
import Derived.Deep.Draws
import Derived.Deep.AppendLies
import Derived.Maps.AppendAt
import Derived.OwnWalk
import Derived.Laws.BytesArg
import Derived.Laws.MakeOwn
import Derived.Laws.OwnMore
import Derived.Deep.OwnRows
import Derived.Tactics
import Derived.Lib.ConvBytes
import Derived.Laws.Slices
import Derived.WalkKit
import Derived.KernelRfl
import Derived.RowKit3
import Derived.Deep.LoopGhost
import Derived.Deep.QuietTactic
import Derived.BigQuiet
import Derived.WideLaws
import Derived.Deep.DeepCutAuto
import Derived.Deep.CutBlock
import Derived.Deep.RegionHeld3
import Derived.Laws.Rows
import Derived.Lib.AppendStr
import Derived.ArgAppend
import Derived.Laws.IdiomCopy
import Derived.OrdersHeld
import Derived.Laws.BitsLemmas
import Derived.RowKit
import Derived.Lib.SlBytesConst
namespace Go.Proofs.Ytakpdmkfengghaa.Wr
open Go Go.RowKit Go.Proofs.Ytakpdmkfengghaa.Sep Go.Proofs.YtakpdmkfengghaaW.PrintWords Go.Proofs.YtakpdmkfengghaaW.PrintLast Go.Proofs.YtakpdmkfengghaaW.PrintMore Go.Proofs.Ytakpdmkfengghaa.Q
set_option linter.unusedVariables false
set_option linter.unusedSimpArgs false

theorem s3_ {w w' : World} {g : Nat} {a b c : Value} {t : TypeId} (h : St w w' [blk g #[a, b, c] t]) :
    w'.cell? ⟨g, 0, none⟩ = some a ∧ w'.cell? ⟨g, 1, none⟩ = some b ∧ w'.cell? ⟨g, 2, none⟩ = some c ∧ Aside (St w w' [blk g #[a, b, c] t]) := ⟨h.cell 0, h.cell 1, h.cell 2, ⟨h⟩⟩
theorem s3_next {w w' w1 : World} {g : Nat} {a b c : Value} {t : TypeId} (h : Aside (St w w' [blk g #[a, b, c] t])) (hb : Below w'.heap.size w' w1) :
    w1.cell? ⟨g, 0, none⟩ = some a ∧ w1.cell? ⟨g, 1, none⟩ = some b ∧ w1.cell? ⟨g, 2, none⟩ = some c ∧ Aside (St w w1 [blk g #[a, b, c] t]) := s3_ (h.out.step hb)

theorem ref_two (a : Int) (l : List Int) (h3 : l.length ≤ 100) : ∀ (d i q : Nat), l.length ≤ i + d → d ≤ q → i ≤ l.length → windrowref13_Operands.l1 (q + 1) a l i = some (if a ∈ l.drop i then 1 else 0)
  | d, i, q, h1, h2, h4 => by
    simp only [windrowref13_Operands.l1]
    by_cases hi : i < l.length
    · have hd : l.drop i = rd l i :: l.drop (i + 1) := by
        rw [List.drop_eq_getElem_cons hi]
        simp [rd, List.getD_eq_getElem?_getD, hi]
      rw [if_pos (by omega), if_pos (by omega), hd]
      by_cases he : rd l i = a
      · rw [if_pos he]; simp [he]
      · rw [if_neg he]
        have hw : wrap64 ((i : Int) + 1) = ((i + 1 : Nat) : Int) := by unfold wrap64; omega
        obtain ⟨d', rfl⟩ : ∃ m, d = m + 1 := ⟨d - 1, by omega⟩
        obtain ⟨q', rfl⟩ : ∃ m, q = m + 1 := ⟨q - 1, by omega⟩
        rw [hw, ref_two a l h3 d' (i + 1) q' (by omega) (by omega) (by omega)]
        have he2 : ¬ a = rd l i := fun h => he h.symm
        simp [he2]
    · rw [if_neg (by omega), List.drop_of_length_le (by omega)]
      simp
theorem ref_one (a : Int) (m l : List Int) (hm : m.length ≤ 50) (h3 : l.length ≤ 100) : ∀ (d i q : Nat), l.length ≤ i + d → d + 55 ≤ q → i ≤ l.length → windrowref13_Operands.l0 (q + 1) a l m i = some (if a ∈ l.drop i then 2 else if a ∈ m then 1 else 0)
  | d, i, q, h1, h2, h4 => by
    simp only [windrowref13_Operands.l0]
    by_cases hi : i < l.length
    · have hd : l.drop i = rd l i :: l.drop (i + 1) := by
        rw [List.drop_eq_getElem_cons hi]
        simp [rd, List.getD_eq_getElem?_getD, hi]
      rw [if_pos (by omega), if_pos (by omega), hd]
      by_cases he : rd l i = a
      · rw [if_pos he]; simp [he]
      · rw [if_neg he]
        have hw : wrap64 ((i : Int) + 1) = ((i + 1 : Nat) : Int) := by unfold wrap64; omega
        obtain ⟨d', rfl⟩ : ∃ m, d = m + 1 := ⟨d - 1, by omega⟩
        obtain ⟨q', rfl⟩ : ∃ m, q = m + 1 := ⟨q - 1, by omega⟩
        rw [hw, ref_one a m l hm h3 d' (i + 1) q' (by omega) (by omega) (by omega)]
        have he2 : ¬ a = rd l i := fun h => he h.symm
        simp [he2]
    · rw [if_neg (by omega), List.drop_of_length_le (by omega)]
      obtain ⟨q', rfl⟩ : ∃ m, q = m + 1 := ⟨q - 1, by omega⟩
      have := ref_two a m (by omega) m.length 0 q' (by omega) (by omega) (by omega)
      simpa using this
theorem opN_ref (a : Int) : windrowref13_Operands.f 70 a = some (opN a) := by
  have ht : windrowref13_Operands.j0 70 a true = some (-1) := by rw [windrowref13_Operands.j0, if_pos rfl]
  have hf : windrowref13_Operands.j0 70 a false = windrowref13_Operands.l0 69 a [25, 26, 27] [1, 3, 4, 18, 19, 20, 22, 33, 34, 35] 0 := by rw [windrowref13_Operands.j0, if_neg (by decide)]
  unfold windrowref13_Operands.f
  by_cases h1 : a < 1
  · rw [if_pos h1, ht]
    unfold opN
    rw [if_neg (by omega), if_neg (by omega), if_pos (.inl h1)]
  · rw [if_neg h1]
    by_cases h2 : a > 39
    · rw [decide_eq_true h2, ht]
      unfold opN
      rw [if_neg (by omega), if_neg (by omega), if_pos (.inr h2)]
    · rw [decide_eq_false h2, hf]
      have := ref_one a [1, 3, 4, 18, 19, 20, 22, 33, 34, 35] [25, 26, 27] (by decide) (by decide) 3 0 68 (by decide) (by decide) (by decide)
      refine this.trans ?_
      unfold opN
      simp only [List.mem_cons, List.not_mem_nil, or_false, List.drop_zero]
      congr 1
      by_cases h3 : a = 25 ∨ a = 26 ∨ a = 27
      · have h4 : ¬ (a = 1 ∨ a = 3 ∨ a = 4 ∨ a = 18 ∨ a = 19 ∨ a = 20 ∨ a = 22 ∨ a = 33 ∨ a = 34 ∨ a = 35) := by omega
        rw [if_pos h3, if_neg h4, if_pos h3]
      · rw [if_neg h3, if_neg h3]
        split
        · rfl
        · rw [if_neg (by omega)]
theorem okI_ref (i : S23) : windrowref13_Right.f 70 i.f0 i.f1 i.f2 = some (okI i) := by
  have h := okI_code i
  unfold code_Right.f at h
  rw [opN_code] at h
  unfold windrowref13_Right.f
  rw [opN_ref]
  have e1 : ∀ (k q : Nat) (b : Bool), windrowref13_Right.j0 (k + 1) b i.f0 i.f1 i.f2 = code_Right.j0 (q + 1) b i.f0 i.f1 i.f2 := fun k q b => by rw [windrowref13_Right.j0, code_Right.j0]
  have e2 : windrowref13_Right.j0 70 true i.f0 i.f1 i.f2 = some false := by rw [windrowref13_Right.j0, if_pos rfl]
  have e3 : code_Right.j0 2 true i.f0 i.f1 i.f2 = some false := by rw [code_Right.j0, if_pos rfl]
  simp only [Option.bind_some] at h ⊢
  rw [← h, e2, e3, e1 69 1, e1 69 1]

set_option maxHeartbeats 8000000 in
set_option maxRecDepth 100000 in
theorem law_right (i : S23) (w : World) : Calls Try.prog 3 #[.agg #[.int .i64 i.f0, .int .i64 i.f1, .int .i64 i.f2]] w fun en w' => en = .returned (.bool true) ∧ Below w.heap.size w w' := by
  have HO := Aside.mk (okI_code i)
  have HR := Aside.mk (okI_ref i)
  have H0 := Aside.mk ((St.start w).alloc #[.int .i64 i.f0, .int .i64 i.f1, .int .i64 i.f2] 23)
  go_enter Try.func3, Try.ntmps3
  go_wp2_with fail
  go_region_held3 (fun w' => w'.cell? ⟨w.heap.size, 0, none⟩ = some (.int .i64 i.f0) ∧ w'.cell? ⟨w.heap.size, 1, none⟩ = some (.int .i64 i.f1) ∧ w'.cell? ⟨w.heap.size, 2, none⟩ = some (.int .i64 i.f2) ∧ Aside (St w w' [blk w.heap.size #[.int .i64 i.f0, .int .i64 i.f1, .int .i64 i.f2] 23]))
    (first | exact s3_ H0.out.drew | (go_split_ands; refine s3_next ?_ hb; assumption) | go_keep)
    ((first | (go_at_call 8; refine (coded _).mono ?_; rintro e w1 ⟨rfl, hb⟩) | (go_at_call 9; refine (code_Right.calls 2 i.f0 i.f1 i.f2 _ _ HO.out).mono ?_; rintro e w2 ⟨rfl, hb⟩) | (go_at_call 10; refine (windrowref13_Right.calls 70 i.f0 i.f1 i.f2 _ _ HR.out).mono ?_; rintro e w3 ⟨rfl, hb⟩)))
  have h : w3.cell? ⟨w.heap.size, 0, none⟩ = some (.int .i64 i.f0) ∧ w3.cell? ⟨w.heap.size, 1, none⟩ = some (.int .i64 i.f1) ∧ w3.cell? ⟨w.heap.size, 2, none⟩ = some (.int .i64 i.f2) ∧ Aside (St w w3 [blk w.heap.size #[.int .i64 i.f0, .int .i64 i.f1, .int .i64 i.f2] 23]) := by assumption
  go_wp2
  go_ret
  exact ⟨rfl, h.2.2.2.out.below⟩
end Go.Proofs.Ytakpdmkfengghaa.Wr
