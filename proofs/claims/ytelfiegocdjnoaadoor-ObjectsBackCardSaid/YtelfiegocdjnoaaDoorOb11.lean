/- NewBuild in all its ways. Conditions: a plan of at most five pages. -/
import Derived.Test.YtelfiegocdjnoaaDoorOb10
import Derived.Test.YtelfiegocdjnoaaDoorOb2
import Derived.Test.YtelfiegocdjnoaaDoorMrF0
namespace Go.Proofs.YtelfiegocdjnoaaDoor.Ar
open Go Go.RowKit Go.Proofs.YtelfiegocdjnoaaDoor.Sep Go.Proofs.YtelfiegocdjnoaaDoorW.PrintWords Go.Proofs.YtelfiegocdjnoaaDoorW.PrintLast Go.Proofs.YtelfiegocdjnoaaDoorW.PrintMore Go.Proofs.YtelfiegocdjnoaaDoor.Q
set_option linter.unusedVariables false
set_option linter.unusedSimpArgs false
set_option maxHeartbeats 8000000
set_option maxRecDepth 100000
variable {w0 w : World} {F : List HP}
theorem nb_ok {P : Nat} (hP : P < 5) {at_ c kd n : Int} (hh : isH c kd n = true) (hl : liesI P at_ c kd n = true) (h : St w0 w F) :
    Calls Tryd.prog 14 #[.agg #[.int .i64 ((P : Int) + 1), .int .i64 1, .int .i64 1], .int .i64 at_, .agg #[.int .i64 c, .int .i64 kd, .int .i64 n]] w fun e w' => ∃ b, e = .returned (.tuple #[.pointer (some ⟨b, 0, none⟩), .int .i64 0]) ∧ St w0 w' (bdB b at_ (hdW c kd n) n false :: F) :=
  newbuild_ (k1 := 2) (k2 := 1) (by rw [enc_c, hh]; rfl) (by rw [lies_c 0 P hP, hl]) h
end Go.Proofs.YtelfiegocdjnoaaDoor.Ar
