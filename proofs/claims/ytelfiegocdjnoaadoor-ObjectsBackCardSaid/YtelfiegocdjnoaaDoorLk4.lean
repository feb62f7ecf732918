/- Look, Allocated and SameCell of the document over what is owned. Conditions: a plan of at most five pages; words of 64 bits. -/
import Derived.Test.YtelfiegocdjnoaaDoorLk3
import Derived.Test.YtelfiegocdjnoaaDoorSm
import Derived.Test.YtelfiegocdjnoaaDoorMrF0
namespace Go.Proofs.YtelfiegocdjnoaaDoor.Ar
open Go Go.RowKit Go.Proofs.YtelfiegocdjnoaaDoor.Sep Go.Proofs.YtelfiegocdjnoaaDoor.Pg Go.Proofs.YtelfiegocdjnoaaDoorW.PrintWords Go.Proofs.YtelfiegocdjnoaaDoorW.PrintLast Go.Proofs.YtelfiegocdjnoaaDoorW.PrintMore Go.Proofs.YtelfiegocdjnoaaDoor.Q
set_option linter.unusedVariables false
set_option linter.unusedSimpArgs false
set_option maxHeartbeats 8000000
set_option maxRecDepth 100000
abbrev I64 (l : List Int) : List Value := l.map (.int .i64)
theorem C_i64 {w0 w : World} {A : Option Addr} {c : Nat} {l : List Int} {F : List HP} (hl : l.length ≤ 4096) (h : St w0 w (row 2 1 (.slice A l.length c) l.length (I64 l) :: F)) : Kd.C (Kd.int .i64) w A l.length l := by
  refine ⟨rfl, by omega, fun hn => ?_⟩
  obtain ⟨g, c', e, _, hcell⟩ := h.row_some hn
  injection e with e1
  subst e1
  refine ⟨_, rfl, fun j p hj => ⟨[.int .i64 p], rfl, rfl, fun i u hu => ?_⟩⟩
  match i, hu with
  | 0, hu =>
    obtain rfl : _ = u := by simpa using hu
    have ha : (⟨g, 0, none⟩ : Addr).add (j * (Kd.int IntKind.i64).sz + 0) = ⟨g, j, none⟩ := by
      show (⟨g, 0, none⟩ : Addr).add (j * 1 + 0) = _
      rw [show j * 1 + 0 = j by omega]
      unfold Addr.add; split <;> simp_all
    rw [ha]
    exact hcell j _ (by simp [I64, hj])
  | i + 1, hu => simp at hu
theorem layS_rng {N k : Nat} {L : List (Int × Int)} (h : ∀ p ∈ L, 0 ≤ p.2 ∧ p.2 < 18446744073709551616) : ∀ i, 0 ≤ (layS N k L).getD i 0 ∧ (layS N k L).getD i 0 < 18446744073709551616 := by
  unfold layS
  have h0 : ∀ i, 0 ≤ (List.replicate N (0 : Int)).getD i 0 ∧ (List.replicate N (0 : Int)).getD i 0 < 18446744073709551616 := by
    intro i
    rw [List.getD_eq_getElem?_getD]
    by_cases hi : i < N
    · simp [hi]
    · simp [List.getElem?_eq_none, hi]
  have hM : ∀ p ∈ L.take k, 0 ≤ p.2 ∧ p.2 < 18446744073709551616 := fun p hp => h p (List.mem_of_mem_take hp)
  generalize List.replicate N (0 : Int) = X at h0 ⊢
  generalize L.take k = M at hM ⊢
  clear h
  induction M generalizing X with
  | nil => exact h0
  | cons p M ih =>
    refine ih _ (fun i => ?_) (fun q hq => hM q (List.mem_cons_of_mem _ hq))
    have hp := hM p (List.mem_cons_self ..)
    rw [List.getD_eq_getElem?_getD]
    by_cases hi : posN N p.1 = i
    · subst hi
      by_cases hl : posN N p.1 < X.length
      · rw [List.getElem?_set_self hl]; exact hp
      · rw [List.getElem?_eq_none (by rw [List.length_set]; omega)]; simp
    · rw [List.getElem?_set_ne hi, ← List.getD_eq_getElem?_getD]; exact h0 i
variable {w0 w : World} {F : List HP} {gD nN : Nat} {X : List Int}
end Go.Proofs.YtelfiegocdjnoaaDoor.Ar
