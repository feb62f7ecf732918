/- What a copy's own rows are made of: blocks, cells. And code.Copy's contract. Conditions: a program of few parts. -/
import Derived.Test.YtakpdmkfengghaaMu
import Derived.Test.YtakpdmkfengghaaPc
import Derived.Test.YtakpdmkfengghaaF15
import Derived.Test.YtakpdmkfengghaaInA
namespace Go.Proofs.Ytakpdmkfengghaa.Wr
open Go Go.RowKit Go.Proofs.Ytakpdmkfengghaa.Sep Go.Proofs.YtakpdmkfengghaaW.PrintWords Go.Proofs.YtakpdmkfengghaaW.PrintLast Go.Proofs.YtakpdmkfengghaaW.PrintMore Go.Proofs.Ytakpdmkfengghaa.Q Go.Proofs.Ytakpdmkfengghaa.Pe
set_option linter.unusedVariables false
set_option linter.unusedSimpArgs false

theorem own_at {w : World} {base e size n : Nat} {v : Value} {xs : List Value} (h : w.ownsRow base e size v n xs) (h0 : 0 < n) :
    ∃ g c cur, v = .slice (some ⟨g, 0, none⟩) n c ∧ base ≤ g ∧ w.heap[g]? = some (.cells cur e (0, 0)) ∧ n * size ≤ cur.size ∧ ∀ j, j < n * size → cur[j]? = xs[j]? := by
  rcases h.2 with ⟨_, h1⟩ | ⟨g, cap, cur, hv, hb, hg, h1, h2, h3, h4⟩
  · omega
  · refine ⟨g, cap, cur, hv, hb, hg, by rw [h3]; exact Nat.mul_le_mul_right _ h1, fun j hj => ?_⟩
    rw [← h4, List.getElem?_take, if_pos hj, Array.getElem?_toList]
theorem R_at {α : Type} {d : Kd α} {e : Nat} {w : World} {base : Nat} {ok : Nat → Prop} {v : Value} {xs : List α} (h : d.R e w base ok v xs) (i : Nat) (hi : i < xs.length) :
    ∃ g c cur, v = .slice (some ⟨g, 0, none⟩) xs.length c ∧ base ≤ g ∧ w.heap[g]? = some (.cells cur e (0, 0)) ∧ xs.length * d.sz ≤ cur.size ∧
      ∃ cs, d.M w base (fun k => ok k ∧ some k ≠ v.ownBlock) xs[i] cs ∧ ∀ j u, cs[j]? = some u → cur[i * d.sz + j]? = some u := by
  obtain ⟨h0, inner, ho, hr⟩ := h
  obtain ⟨g, c, cur, hv, hb, hg, hl, hc⟩ := own_at ho (by omega)
  refine ⟨g, c, cur, hv, hb, hg, hl, _, hr.2 i xs[i] (List.getElem?_eq_getElem hi), fun j u hj => ?_⟩
  rw [List.getElem?_take] at hj
  split at hj
  · rename_i hjs
    rw [List.getElem?_drop] at hj
    have h1 : i * d.sz + j < xs.length * d.sz := by
      have : i * d.sz + d.sz ≤ xs.length * d.sz := by rw [← Nat.succ_mul]; exact Nat.mul_le_mul_right _ hi
      omega
    rw [hc _ h1]
    exact hj
  · cases hj
/-- A copy. -/
theorem In.copy {w : World} {A1 : Option Addr} {c1 : Nat} {A2 : Option Addr} {c2 : Nat} {cs : List S42} {fs : List S48} (h : In w A1 c1 A2 c2 cs fs) (hl : lightP cs fs = true) :
    Calls Try.prog 15 #[.agg #[.slice A1 cs.length c1, .slice A2 fs.length c2]] w fun e w' => ∃ B1 d1 B2 d2, e = .returned (.agg #[.slice B1 cs.length d1, .slice B2 fs.length d2]) ∧ In w' B1 d1 B2 d2 cs fs ∧
      k42.R 42 w' w.heap.size (fun _ => True) (.slice B1 cs.length d1) cs ∧ k48.R 48 w' w.heap.size (fun _ => True) (.slice B2 fs.length d2) fs ∧ Below w.heap.size w w' := by
  obtain ⟨k, hk⟩ := Evt_at (copy_code hl)
  refine (code_Copy.calls k A1 c1 cs A2 c2 fs cs fs w h.r1 h.l1 h.r2 h.l2 hk).mono fun e w' ⟨v0, v1, he, hs0, hs1, hb⟩ => ?_
  have hr0 := Kd.S_R hs0
  have hr1 := Kd.S_R hs1
  obtain ⟨B1, d1, rfl⟩ := Kd.R_slice hr0
  obtain ⟨B2, d2, rfl⟩ := Kd.R_slice hr1
  have g0 := Kd.R_reads' hr0
  have g1 := Kd.R_reads' hr1
  exact ⟨B1, d1, B2, d2, he, ⟨g0.2.2, g0.2.1, g1.2.2, g1.2.1, h.wf⟩, hr0, hr1, hb⟩
end Go.Proofs.Ytakpdmkfengghaa.Wr
