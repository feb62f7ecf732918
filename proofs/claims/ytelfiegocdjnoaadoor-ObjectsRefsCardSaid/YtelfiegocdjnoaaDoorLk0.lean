/- A word's header, in a closed form, for the code and the document: plain. Conditions: a word of 64 bits. -/
import Derived.Test.YtelfiegocdjnoaaDoorMgA
import Derived.Test.YtelfiegocdjnoaaDoorPg3
import Derived.Test.YtelfiegocdjnoaaDoorMrF0
import Derived.Test.YtelfiegocdjnoaaDoorMrF1
namespace Go.Proofs.YtelfiegocdjnoaaDoor.Ar
open Go Go.RowKit Go.Proofs.YtelfiegocdjnoaaDoor.Sep Go.Proofs.YtelfiegocdjnoaaDoor.Pg Go.Proofs.YtelfiegocdjnoaaDoorW.PrintWords Go.Proofs.YtelfiegocdjnoaaDoorW.PrintLast Go.Proofs.YtelfiegocdjnoaaDoorW.PrintMore Go.Proofs.YtelfiegocdjnoaaDoor.Q
set_option linter.unusedVariables false
set_option linter.unusedSimpArgs false
set_option maxHeartbeats 8000000
set_option maxRecDepth 100000
/-- The header (c, k, n), and 0, if it has this word; or none, and 4. -/
def hdOf (c k n w : Int) : Int × Int × Int × Int := if isH c k n = true ∧ hdW c k n = w then (c, k, n, 0) else (0, 0, 0, 4)
def decH (w : Int) : Int × Int × Int × Int := hdOf (w / 256 % 256) (w % 256) (w / 65536 % 256) w
theorem enc_x (c k n : Int) : ∃ x, hdW c k n = x ∧ header_EncodeHead.f 2 c k n = some (if isH c k n = true then (x, 0) else (0, 4)) := ⟨_, rfl, enc_c c k n⟩
theorem w8 (x : Int) (h0 : 0 ≤ x) (h : x < 256) : wrap64 x = x := by unfold wrap64; omega
theorem gg (w sh : Nat) (hw : w < 18446744073709551616) (h : sh + 8 ≤ 64) : word_Get.f (w : Int) (sh : Int) 8 = some ((((w / 2 ^ sh) % 2 ^ 8 : Nat) : Int), 0) := get_ w sh 8 hw (by decide) (by decide) h
theorem p0 (n : Nat) : n / 2 ^ 0 % 2 ^ 8 = n % 256 := by rw [show (2 : Nat) ^ 0 = 1 from rfl, show (2 : Nat) ^ 8 = 256 from rfl, Nat.div_one]
theorem p1 (n : Nat) : n / 2 ^ 8 % 2 ^ 8 = n / 256 % 256 := by rw [show (2 : Nat) ^ 8 = 256 from rfl]
theorem p2 (n : Nat) : n / 2 ^ 16 % 2 ^ 8 = n / 65536 % 256 := by rw [show (2 : Nat) ^ 16 = 65536 from rfl, show (2 : Nat) ^ 8 = 256 from rfl]
theorem gt0 (n : Nat) (hw : n < 18446744073709551616) : word_Get.f (n : Int) 0 8 = some ((n : Int) % 256, 0) := by
  have g := gg n 0 hw (by decide)
  rw [p0] at g
  exact g
theorem gt1 (n : Nat) (hw : n < 18446744073709551616) : word_Get.f (n : Int) 8 8 = some ((n : Int) / 256 % 256, 0) := by
  have g := gg n 8 hw (by decide)
  rw [p1] at g
  exact g
theorem gt2 (n : Nat) (hw : n < 18446744073709551616) : word_Get.f (n : Int) 16 8 = some ((n : Int) / 65536 % 256, 0) := by
  have g := gg n 16 hw (by decide)
  rw [p2] at g
  exact g
end Go.Proofs.YtelfiegocdjnoaaDoor.Ar
