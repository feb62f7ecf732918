/- A small plan; a row of words that is read. No condition. -/
import Derived.Test.YtelfiegocdjnoaaDoorMgJ
import Derived.Test.YtelfiegocdjnoaaDoorMrF0
import Derived.Test.YtelfiegocdjnoaaDoorMrF1
namespace Go.Proofs.YtelfiegocdjnoaaDoor.Ar
open Go Go.RowKit Go.Proofs.YtelfiegocdjnoaaDoor.Sep Go.Proofs.YtelfiegocdjnoaaDoorW.PrintWords Go.Proofs.YtelfiegocdjnoaaDoorW.PrintLast Go.Proofs.YtelfiegocdjnoaaDoorW.PrintMore Go.Proofs.YtelfiegocdjnoaaDoor.Q
set_option linter.unusedVariables false
set_option linter.unusedSimpArgs false
set_option maxHeartbeats 8000000
set_option maxRecDepth 100000
theorem small_ (q1 q2 q3 : Int) : ∃ P : Nat, P < 5 ∧ windrowlaw11_small.f q1 q2 q3 = some ((P : Int) + 1, 1, 1) := by
  have h := posN_is 5 q1 (by decide)
  have h2 := posN_lt 5 q1 (by decide)
  refine ⟨posN 5 q1, h2, ?_⟩
  unfold windrowlaw11_small.f
  rw [show ((5 : Nat) : Int) = 5 from rfl] at h
  rw [h]
  rw [show wrap64 ((posN 5 q1 : Nat) : Int) = ((posN 5 q1 : Nat) : Int) by unfold wrap64; omega, show wrap64 (1 + ((posN 5 q1 : Nat) : Int)) = ((posN 5 q1 : Nat) : Int) + 1 by unfold wrap64; omega]
theorem C_u64 {w : World} {g : Nat} {X : List Int} (hl : X.length ≤ 4096) (h : ∀ j u, (U X)[j]? = some u → w.cell? ⟨g, j, none⟩ = some u) : Kd.C (Kd.int .u64) w (some ⟨g, 0, none⟩) X.length X := by
  refine ⟨rfl, by omega, fun _ => ⟨_, rfl, fun j p hj => ⟨[.int .u64 p], rfl, rfl, fun i u hu => ?_⟩⟩⟩
  match i, hu with
  | 0, hu =>
    obtain rfl : _ = u := by simpa using hu
    have ha : (⟨g, 0, none⟩ : Addr).add (j * (Kd.int IntKind.u64).sz + 0) = ⟨g, j, none⟩ := by
      show (⟨g, 0, none⟩ : Addr).add (j * 1 + 0) = _
      rw [show j * 1 + 0 = j by omega]
      unfold Addr.add; split <;> simp_all
    rw [ha]
    exact h j _ (by simp [U, hj])
  | i + 1, hu => simp at hu
end Go.Proofs.YtelfiegocdjnoaaDoor.Ar
