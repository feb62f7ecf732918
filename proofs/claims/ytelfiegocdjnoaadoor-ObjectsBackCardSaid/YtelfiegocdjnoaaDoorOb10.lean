/- A header's word, in a closed form, for the code and the document: plain. No condition. -/
import Derived.Test.YtelfiegocdjnoaaDoorOb9
import Derived.Test.YtelfiegocdjnoaaDoorMrF0
namespace Go.Proofs.YtelfiegocdjnoaaDoor.Ar
open Go Go.RowKit Go.Proofs.YtelfiegocdjnoaaDoor.Sep Go.Proofs.YtelfiegocdjnoaaDoorW.PrintWords Go.Proofs.YtelfiegocdjnoaaDoorW.PrintLast Go.Proofs.YtelfiegocdjnoaaDoorW.PrintMore Go.Proofs.YtelfiegocdjnoaaDoor.Q
set_option linter.unusedVariables false
set_option linter.unusedSimpArgs false
set_option maxHeartbeats 8000000
set_option maxRecDepth 100000
/-- A header's word. -/
def hdW (c k n : Int) : Int := 11889503016258109440 + n * 65536 + c * 256 + k
theorem eh1 : ∀ c n : Fin 16, header_EncodeHead.f 2 (c.val : Int) 1 (n.val : Int) = some (hdW c.val 1 n.val, 0) := by decide +kernel
theorem eh2 : ∀ n : Fin 256, header_EncodeHead.f 2 0 2 (n.val : Int) = some (hdW 0 2 n.val, 0) := by decide +kernel
theorem eh3 : ∀ n : Fin 256, header_EncodeHead.f 2 0 3 (n.val : Int) = some (hdW 0 3 n.val, 0) := by decide +kernel
theorem isH_cases {c k n : Int} (h : isH c k n = true) : (∃ a b : Nat, a < 16 ∧ b < 16 ∧ c = a ∧ k = 1 ∧ n = b) ∨ (∃ b : Nat, b < 256 ∧ c = 0 ∧ (k = 2 ∨ k = 3) ∧ n = b) := by
  simp only [isH, decide_eq_true_eq] at h
  rcases h with h | h
  · exact .inl ⟨c.toNat, n.toNat, by omega, by omega, by omega, by omega, by omega⟩
  · exact .inr ⟨n.toNat, by omega, by omega, by omega, by omega⟩
theorem enc_c (c k n : Int) : header_EncodeHead.f 2 c k n = some (if isH c k n = true then (hdW c k n, 0) else (0, 4)) := by
  by_cases h : isH c k n = true
  · rw [if_pos h]
    obtain ⟨a, b, ha, hb, rfl, rfl, rfl⟩ | ⟨b, hb, rfl, rfl | rfl, rfl⟩ := isH_cases h
    · exact eh1 ⟨a, ha⟩ ⟨b, hb⟩
    · exact eh2 ⟨b, hb⟩
    · exact eh3 ⟨b, hb⟩
  · rw [if_neg h]
    unfold header_EncodeHead.f
    rw [hright_]
    simp [h]
end Go.Proofs.YtelfiegocdjnoaaDoor.Ar
