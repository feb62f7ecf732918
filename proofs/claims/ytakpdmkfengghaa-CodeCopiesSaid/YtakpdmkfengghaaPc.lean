/- Plain facts: a copy is the same program. No memory; programs of few parts. -/
import Derived.Test.YtakpdmkfengghaaF15a
import Derived.Test.YtakpdmkfengghaaPl
namespace Go.Proofs.Ytakpdmkfengghaa.Pe
open Go Go.RowKit Go.Proofs.Ytakpdmkfengghaa.Q Go.Proofs.YtakpdmkfengghaaW.PrintWords
set_option linter.unusedVariables false
set_option linter.unusedSimpArgs false

theorem take_next {α : Type} {l : List α} {i : Nat} {x : α} (h : i < l.length) (hx : l[i] = x) : l.take i ++ [x] = l.take (i + 1) := by
  rw [List.take_succ_eq_append_getElem h, hx]
theorem copy_loop1 (cs : List S42) (fs : List S48) (hl : ∀ x ∈ fs, x.f4.length ≤ 400 ∧ x.f1.length ≤ 40 ∧ x.f3.length ≤ 40) (hn : fs.length ≤ 40) : ∀ (d i : Nat), fs.length = i + d → Evt (fun k => code_Copy.l1 k fs fs.length i cs (fs.take i)) (cs, fs)
  | 0, i, h => Evt.succ (fun k => by simp only [code_Copy.l1]; rw [if_neg (by omega)]) ((Evt.const _).to (by rw [List.take_of_length_le (by omega)]))
  | d + 1, i, h => by
    have hi : i < fs.length := by omega
    have hx : rd_T48 fs (i : Int) = fs[i] := by simp [rd_T48, List.getD_eq_getElem?_getD, hi]
    have hm := hl _ (List.getElem_mem hi)
    refine Evt.succ (g := fun k => code_Copy.l1 k fs fs.length ((i + 1 : Nat) : Int) cs (fs.take (i + 1))) (fun k => ?_) (copy_loop1 cs fs hl hn d (i + 1) (by omega))
    have ht : (fs.take i).length ≤ 40 := by rw [List.length_take]; omega
    simp only [code_Copy.l1, Option.bind_some, List.nil_append, List.length_nil]
    rw [hx]
    rw [if_pos (by omega), if_pos (by omega), if_pos (by omega), if_pos (by omega), if_pos (by omega), if_pos (by omega), if_pos (by omega), wrap_succ (n := fs.length) hi (by omega)]
    congr 1
    exact take_next hi rfl
theorem copy_loop0 (cs : List S42) (fs : List S48) (hc : ∀ x ∈ cs, x.f1.length ≤ 40) (hcn : cs.length ≤ 40) (hl : ∀ x ∈ fs, x.f4.length ≤ 400 ∧ x.f1.length ≤ 40 ∧ x.f3.length ≤ 40) (hn : fs.length ≤ 40) : ∀ (d i : Nat), cs.length = i + d → Evt (fun k => code_Copy.l0 k cs cs.length i cs fs (cs.take i)) (cs, fs)
  | 0, i, h => by
    refine Evt.succ (g := fun k => code_Copy.l1 k fs fs.length (0 : Nat) cs (fs.take 0)) (fun k => ?_) (copy_loop1 cs fs hl hn fs.length 0 (by omega))
    simp only [code_Copy.l0]
    rw [if_neg (by omega), List.take_of_length_le (by omega)]
    rfl
  | d + 1, i, h => by
    have hi : i < cs.length := by omega
    have hx : rd_T42 cs (i : Int) = cs[i] := by simp [rd_T42, List.getD_eq_getElem?_getD, hi]
    have hm := hc _ (List.getElem_mem hi)
    refine Evt.succ (g := fun k => code_Copy.l0 k cs cs.length ((i + 1 : Nat) : Int) cs fs (cs.take (i + 1))) (fun k => ?_) (copy_loop0 cs fs hc hcn hl hn d (i + 1) (by omega))
    have ht : (cs.take i).length ≤ 40 := by rw [List.length_take]; omega
    simp only [code_Copy.l0, Option.bind_some, List.nil_append, List.length_nil]
    rw [hx]
    rw [if_pos (by omega), if_pos (by omega), if_pos (by omega), if_pos (by omega), if_pos (by omega), wrap_succ (n := cs.length) hi (by omega)]
    congr 1
    exact take_next hi rfl
theorem light_parts {cs : List S42} {fs : List S48} (h : lightP cs fs = true) : cs.length ≤ 40 ∧ fs.length ≤ 40 ∧ (∀ x ∈ cs, x.f1.length ≤ 40) ∧ ∀ x ∈ fs, x.f4.length ≤ 400 ∧ x.f1.length ≤ 40 ∧ x.f3.length ≤ 40 := by
  unfold lightP at h
  simp only [Bool.and_eq_true, decide_eq_true_eq, List.all_eq_true, lightC, lightF] at h
  exact ⟨h.1.1, h.1.2, h.2.1, h.2.2⟩
theorem copy_code {cs : List S42} {fs : List S48} (h : lightP cs fs = true) : Evt (fun k => code_Copy.f k cs fs) (cs, fs) := by
  obtain ⟨h1, h2, h3, h4⟩ := light_parts h
  exact Evt.eq (fun k => rfl) (copy_loop0 cs fs h3 h1 h4 h2 cs.length 0 (by omega))
end Go.Proofs.Ytakpdmkfengghaa.Pe
