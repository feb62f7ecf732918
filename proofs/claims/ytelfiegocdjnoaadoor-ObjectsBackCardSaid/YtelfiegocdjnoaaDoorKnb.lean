/- What the argument of ObjectsBack reads as. No condition. -/
import Derived.Test.YtelfiegocdjnoaaDoorKno
import Derived.KernelRfl
namespace Go.Proofs.YtelfiegocdjnoaaDoor.Open
open Go Go.RowKit Go.Proofs.YtelfiegocdjnoaaDoorW.PrintWords Go.Proofs.YtelfiegocdjnoaaDoor.Ar Go.Proofs.YtelfiegocdjnoaaDoor.Sep
set_option linter.unusedVariables false
structure SBk where
  a : Int
  b : Int
  c : Int
  d : Int
  r : Bool
  l : List SWd
def kBk : Kd SBk := Kd.iso (Kd.pair (Kd.int .i64) (Kd.pair (Kd.int .i64) (Kd.pair (Kd.int .i64) (Kd.pair (Kd.int .i64) (Kd.pair Kd.bool (Kd.slice 34 kWd)))))) (fun x : SBk => (x.a, x.b, x.c, x.d, x.r, x.l))
theorem kBk_open {w : World} {x : SBk} {cs : List Value} (h : kBk.K w x cs) : ∃ A c, cs = [.int .i64 x.a, .int .i64 x.b, .int .i64 x.c, .int .i64 x.d, .bool x.r, .slice A x.l.length c] ∧ Kd.C kWd w A x.l.length x.l ∧ x.l.length ≤ c := by
  obtain ⟨_, _, rfl, rfl, ⟨_, _, rfl, rfl, ⟨_, _, rfl, rfl, ⟨_, _, rfl, rfl, ⟨_, _, rfl, rfl, ⟨A, c, rfl, hc, hA⟩⟩⟩⟩⟩⟩ := h
  exact ⟨A, c, rfl, hA, hc⟩
def wBk (x : SBk) : Prop := w64 x.a ∧ w64 x.b ∧ w64 x.c ∧ w64 x.d ∧ True ∧ ∀ g ∈ x.l, wWd g
theorem oBk : Opens Tryd.prog 72 kBk wBk :=
  opens_iso (g := fun a => ⟨a.1, a.2.1, a.2.2.1, a.2.2.2.1, a.2.2.2.2.1, a.2.2.2.2.2⟩) (fun _ => rfl) (opens_struct Tryd.underlying72 (by kernel_rfl) rfl (opensF_cons (by kernel_rfl) rfl (by decide) (o_i64 Tryd.underlying3) (opensF_cons (by kernel_rfl) rfl (by decide) (o_i64 Tryd.underlying3) (opensF_cons (by kernel_rfl) rfl (by decide) (o_i64 Tryd.underlying3) (opensF_cons (by kernel_rfl) rfl (by decide) (o_i64 Tryd.underlying3) (opensF_cons (by kernel_rfl) rfl (by decide) (opens_bool Tryd.underlying4) (opensF_one (by kernel_rfl) (opens_slice Tryd.underlying35 (by kernel_rfl) oWd))))))))
end Go.Proofs.YtelfiegocdjnoaaDoor.Open
