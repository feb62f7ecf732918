/- ObjectsField: the walk. Conditions: the package array of sizes reads as it was laid. -/
import Derived.Test.YtelfiegocdjnoaaDoorOb5
import Derived.Test.YtelfiegocdjnoaaDoorMrF0
namespace Go.Proofs.YtelfiegocdjnoaaDoor.Ar
open Go Go.RowKit Go.Proofs.YtelfiegocdjnoaaDoor.Sep Go.Proofs.YtelfiegocdjnoaaDoorW.PrintWords Go.Proofs.YtelfiegocdjnoaaDoorW.PrintLast Go.Proofs.YtelfiegocdjnoaaDoorW.PrintMore Go.Proofs.YtelfiegocdjnoaaDoor.Q
set_option linter.unusedVariables false
set_option linter.unusedSimpArgs false
set_option maxHeartbeats 8000000
set_option maxRecDepth 100000
theorem law_field (at_ i : Int) (w : World) (hT : Tab w) : Calls Tryd.prog 5 #[.int .i64 at_, .int .i64 i] w fun e w' => e = .returned (.bool true) ∧ Below w.heap.size w w' := by
  have HT := Aside.mk hT
  have HF := Aside.mk (show objects_Field.f at_ i = some (wrap64 ((wrap64 (at_ + 1)) + i)) from rfl)
  have H := Aside.mk (Below.refl w.heap.size w)
  clear hT
  go_enter Tryd.func5, Tryd.ntmps5
  go_wp2_with (first
    | (go_at_call 11; refine (built_ HT.out).mono ?_; rintro e w1 ⟨rfl, hb⟩; replace H := Aside.mk hb; clear hb)
    | (go_at_call 28; refine (objects_Field.calls _ _ _ _ HF.out).mono ?_; rintro e w2 ⟨rfl, hb⟩; replace H := Aside.mk (H.out.trans (hb.below.mono H.out.size)); clear hb))
  go_ret
  exact ⟨by simp, H.out⟩
end Go.Proofs.YtelfiegocdjnoaaDoor.Ar
