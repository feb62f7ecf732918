/- The document's free cells of a page. No condition but the words' ranges. -/
import Derived.Test.YtelfiegocdjnoaaDoorCm0
import Derived.Test.YtelfiegocdjnoaaDoorPw
import Derived.Test.YtelfiegocdjnoaaDoorMrF0
namespace Go.Proofs.YtelfiegocdjnoaaDoor.Ar
open Go Go.RowKit Go.Proofs.YtelfiegocdjnoaaDoor.Sep Go.Proofs.YtelfiegocdjnoaaDoor.Pg Go.Proofs.YtelfiegocdjnoaaDoorW.PrintWords Go.Proofs.YtelfiegocdjnoaaDoorW.PrintLast Go.Proofs.YtelfiegocdjnoaaDoorW.PrintMore Go.Proofs.YtelfiegocdjnoaaDoor.Q
set_option linter.unusedVariables false
set_option linter.unusedSimpArgs false
set_option maxHeartbeats 8000000
set_option maxRecDepth 100000
theorem begins_8 : ∀ c : Fin 8, windrowref05_Begins.f 80 (c.val : Int) = some ((bgn (c.val : Int)).map fun (i : Nat) => (i : Int)) := by decide +kernel
theorem bgn_8 : ∀ c : Fin 8, (bgn (c.val : Int)).length ≤ 64 ∧ (bgn (c.val : Int)).all (fun p => decide (p < 64)) = true := by decide +kernel
theorem begins_ {c : Int} (h : 0 ≤ c ∧ c < 8) (k : Nat) (hk : 80 ≤ k) : windrowref05_Begins.f k c = some ((bgn c).map fun (i : Nat) => (i : Int)) := by
  obtain ⟨n, rfl⟩ := Int.eq_ofNat_of_zero_le h.1
  obtain ⟨d, rfl⟩ := Nat.exists_eq_add_of_le hk
  induction d with
  | zero => exact begins_8 ⟨n, by omega⟩
  | succ d ih => exact windrowref05_Begins.mono _ _ _ (ih (by omega))
theorem free_l (L : List Nat) (hL : ∀ p ∈ L, p < 64) (hn : L.length ≤ 64) (a : Nat) (ha : a < 18446744073709551616) : ∀ (d i q : Nat) (out : List Int), i + d = L.length → d + 64 < q → out.length ≤ i →
    windrowref05_Free.l0 q (a : Int) out (L.map fun (i : Nat) => (i : Int)) (i : Int) = some (out ++ ((L.drop i).filter fun p => !a.testBit p).map fun (p : Nat) => (p : Int)) := by
  intro d
  induction d with
  | zero =>
    intro i q out hi hq ho
    obtain ⟨q, rfl⟩ : ∃ k, q = k + 1 := ⟨q - 1, by omega⟩
    unfold windrowref05_Free.l0
    rw [if_neg (by rw [List.length_map]; omega), List.drop_of_length_le (by omega)]
    simp
  | succ d ih =>
    intro i q out hi hq ho
    obtain ⟨q, rfl⟩ : ∃ k, q = k + 1 := ⟨q - 1, by omega⟩
    have hlt : i < L.length := by omega
    have hr : rd (L.map fun (i : Nat) => (i : Int)) (i : Int) = ((L[i] : Nat) : Int) := by
      unfold rd
      simp [List.getD_eq_getElem?_getD, hlt]
    have hp := hL L[i] (List.getElem_mem hlt)
    have hw : wrap64 ((i : Int) + 1) = ((i + 1 : Nat) : Int) := by unfold wrap64; omega
    have hd : L.drop i = L[i] :: L.drop (i + 1) := List.drop_eq_getElem_cons hlt
    unfold windrowref05_Free.l0
    rw [if_pos (by rw [List.length_map]; omega), if_pos (by omega), hr, bit_ q a L[i] ha hp (by omega), Option.bind_some, hw, hd]
    by_cases ht : a.testBit L[i] = true
    · rw [if_pos ht, if_neg (by decide), ih (i + 1) q out (by omega) (by omega) (by omega), List.filter_cons_of_neg (by simp [ht])]
    · rw [if_neg ht, if_pos rfl, if_pos (by omega), ih (i + 1) q _ (by omega) (by omega) (by simp; omega), List.filter_cons_of_pos (by simp [ht])]
      simp
theorem free_ {c a : Int} (hc : 0 ≤ c ∧ c < 8) (ha : u64 a) (k : Nat) (hk : 200 ≤ k) : windrowref05_Free.f k c a = some ((frees c a).map fun (i : Nat) => (i : Int)) := by
  obtain ⟨n, rfl⟩ := Int.eq_ofNat_of_zero_le ha.1
  have hb : (bgn c).length ≤ 64 ∧ (bgn c).all (fun p => decide (p < 64)) = true := by
    obtain ⟨m, rfl⟩ := Int.eq_ofNat_of_zero_le hc.1
    exact bgn_8 ⟨m, by omega⟩
  unfold windrowref05_Free.f
  rw [begins_ hc k (by omega), Option.bind_some]
  have h := free_l (bgn c) (fun p hp => by simpa using List.all_eq_true.1 hb.2 p hp) hb.1 n (by have := ha.2; omega) (bgn c).length 0 k [] (by omega) (by have := hb.1; omega) (Nat.le_refl _)
  rw [List.drop_zero, List.nil_append] at h
  exact h
end Go.Proofs.YtelfiegocdjnoaaDoor.Ar
