/- Plain facts on words and entries of the document's. No memory. -/
import Derived.Test.YtelfiegocdjnoaaPw
import Derived.Test.YtelfiegocdjnoaaMrF0
import Derived.Test.YtelfiegocdjnoaaMrF1
namespace Go.Proofs.Ytelfiegocdjnoaa.Pg
open Go Go.RowKit Go.Proofs.YtelfiegocdjnoaaW.PrintWords Go.Proofs.YtelfiegocdjnoaaW.PrintLast Go.Proofs.YtelfiegocdjnoaaW.PrintMore Go.Proofs.Ytelfiegocdjnoaa.Q Go.Proofs.Ytelfiegocdjnoaa.Pop
set_option linter.unusedVariables false
set_option linter.unusedSimpArgs false
set_option maxRecDepth 100000
theorem both_l (a b : Nat) (hb : b < 18446744073709551616) (l : List Nat) (hl : ∀ p ∈ l, p < 64) (hn : l.length ≤ 64) (hf : l.foldl (addB b) 0 < 18446744073709551616) :
    ∀ (r : List Nat) (j q s : Nat), j + r.length = l.length → r = l.drop j → (r.foldl (addB b) s) = l.foldl (addB b) 0 → r.length + 64 < q → windrowref09_Both.l0 q b s (l.map (fun (i : Nat) => (i : Int))) j = some ((l.foldl (addB b) 0 : Nat) : Int) := by
  intro r
  induction r with
  | nil =>
    intro j q s hj hr hs hq
    obtain ⟨q, rfl⟩ : ∃ m, q = m + 1 := ⟨q - 1, by omega⟩
    simp only [List.foldl_nil] at hs
    rw [windrowref09_Both.l0, if_neg (by rw [List.length_map]; simp at hj; omega), hs]
  | cons x r ih =>
    intro j q s hj hr hs hq
    obtain ⟨q, rfl⟩ : ∃ m, q = m + 1 := ⟨q - 1, by omega⟩
    simp only [List.length_cons] at hj hq
    have hjl : j < l.length := by omega
    have hd : l.drop j = l[j] :: l.drop (j + 1) := List.drop_eq_getElem_cons hjl
    rw [hd] at hr
    injection hr with hx hr
    have hx64 : x < 64 := by rw [hx]; exact hl _ (List.getElem_mem _)
    have hrd : rd (l.map (fun (i : Nat) => (i : Int))) j = (x : Int) := by simp [rd, List.getD_eq_getElem?_getD, hjl, hx]
    rw [windrowref09_Both.l0, if_pos (by rw [List.length_map]; omega), if_pos (by omega), hrd, bit_ q b x hb hx64 (by omega), Option.bind_some, show (j : Int) + 1 = ((j + 1 : Nat) : Int) by omega, w64 _ (by omega) (by omega)]
    rw [List.foldl_cons] at hs
    have h2 := ih (j + 1) q (addB b s x) (by omega) hr hs (by omega)
    cases hbx : b.testBit x
    · have e : addB b s x = s := by unfold addB; rw [hbx]; rfl
      rw [e] at h2
      rw [if_neg (by decide)]
      exact h2
    · have e : addB b s x = s + 2 ^ x := by unfold addB; rw [hbx]; rfl
      rw [e] at h2 hs
      rw [if_pos rfl, if_pos rfl, power_ q x hx64 (by omega), Option.bind_some]
      have hle : s + 2 ^ x ≤ l.foldl (addB b) 0 := by
        rw [← hs]
        exact fold_le b r (s + 2 ^ x)
      rw [show (s : Int) + ((2 ^ x : Nat) : Int) = ((s + 2 ^ x : Nat) : Int) by push_cast; rfl, wuN _ (by omega)]
      exact h2
theorem both_ (q a b : Nat) (ha : a < 18446744073709551616) (hb : b < 18446744073709551616) (hq : 200 ≤ q) : windrowref09_Both.f q a b = some (((a &&& b : Nat)) : Int) := by
  unfold windrowref09_Both.f
  rw [places_ q a ha (by omega), Option.bind_some]
  have e : (plc 64 a).foldl (addB b) 0 = a &&& b := by
    rw [fold_both]
    exact Nat.mod_eq_of_lt (Nat.lt_of_le_of_lt Nat.and_le_left (by rw [show 2 ^ 64 = 18446744073709551616 by decide]; exact ha))
  have hn : (plc 64 a).length ≤ 64 := by rw [plc_len]; exact cnt_le 64 a
  have := both_l a b hb (plc 64 a) (fun p hp => plc_lt hp) hn (by rw [e]; exact Nat.lt_of_le_of_lt Nat.and_le_left ha) (plc 64 a) 0 q 0 (by omega) (by simp) rfl (by omega)
  rw [e] at this
  exact this
theorem wordR (q : Nat) {k c s o y : Int} (h1 : isE k c s o y = true) : windrowref09_word.f (q + 3) k c s o y = some (wordOf k c s o y) := by
  unfold windrowref09_word.f
  rw [encR, Option.bind_some, if_pos h1]
end Go.Proofs.Ytelfiegocdjnoaa.Pg
