/- What classes and the argument of ObjectsLooks read as. No condition. -/
import Derived.Test.YtelfiegocdjnoaaDoorKno
import Derived.Test.YtelfiegocdjnoaaDoorMrF0
import Derived.KernelRfl
namespace Go.Proofs.YtelfiegocdjnoaaDoor.Open
open Go Go.RowKit Go.Proofs.YtelfiegocdjnoaaDoorW.PrintWords Go.Proofs.YtelfiegocdjnoaaDoor.Ar Go.Proofs.YtelfiegocdjnoaaDoor.Sep Go.Proofs.YtelfiegocdjnoaaDoor.Q
set_option linter.unusedVariables false
def wS (s : ByteArray) : Prop := s.size ≤ 9223372036854775807
theorem o_str {t : TypeId} (ht : Tryd.prog.underlying t = some .string) : Opens Tryd.prog t Kd.string wS := opens_imp (opens_string ht) fun _ h => h
def w215 (x : S215) : Prop := wS x.f0 ∧ w64 x.f1
def w161 (x : S161) : Prop := wS x.f0 ∧ ∀ y ∈ x.f1, w215 y
theorem o215 : Opens Tryd.prog 215 k215 w215 :=
  opens_iso (g := fun a => ⟨a.1, a.2⟩) (fun _ => rfl) (opens_struct Tryd.underlying215 (by kernel_rfl) rfl (opensF_cons (by kernel_rfl) rfl (by decide) (o_str Tryd.underlying9) (opensF_one (by kernel_rfl) (o_i64 Tryd.underlying3))))
theorem o161 : Opens Tryd.prog 161 k161 w161 :=
  opens_iso (g := fun a => ⟨a.1, a.2⟩) (fun _ => rfl) (opens_struct Tryd.underlying161 (by kernel_rfl) rfl (opensF_cons (by kernel_rfl) rfl (by decide) (o_str Tryd.underlying9) (opensF_one (by kernel_rfl) (opens_slice Tryd.underlying159 (by kernel_rfl) o215))))
structure SLk where
  q : SQ
  l : List SWd
  cs : List S161
  at_ : Int
def kLk : Kd SLk := Kd.iso (Kd.pair kQ (Kd.pair (Kd.slice 34 kWd) (Kd.pair (Kd.slice 161 k161) (Kd.int .i64)))) (fun x : SLk => (x.q, x.l, x.cs, x.at_))
theorem kLk_open {w : World} {x : SLk} {cs : List Value} (h : kLk.K w x cs) : ∃ A c A2 c2, cs = [.int .i64 x.q.f0, .int .i64 x.q.f1, .int .i64 x.q.f2, .slice A x.l.length c, .slice A2 x.cs.length c2, .int .i64 x.at_] ∧ Kd.C kWd w A x.l.length x.l ∧ Kd.C k161 w A2 x.cs.length x.cs ∧ x.cs.length ≤ c2 := by
  obtain ⟨_, _, rfl, hq, ⟨_, _, rfl, ⟨A, c, rfl, hc, hA⟩, ⟨_, _, rfl, ⟨A2, c2, rfl, hc2, hA2⟩, rfl⟩⟩⟩ := h
  obtain rfl := kQ_open hq
  exact ⟨A, c, A2, c2, rfl, hA, hA2, hc2⟩
def wLk (x : SLk) : Prop := wQ x.q ∧ (∀ g ∈ x.l, wWd g) ∧ (∀ g ∈ x.cs, w161 g) ∧ w64 x.at_
theorem oLk : Opens Tryd.prog 53 kLk wLk :=
  opens_iso (g := fun a => ⟨a.1, a.2.1, a.2.2.1, a.2.2.2⟩) (fun _ => rfl) (opens_struct Tryd.underlying53 (by kernel_rfl) rfl (opensF_cons (by kernel_rfl) rfl (by decide) oQ (opensF_cons (by kernel_rfl) rfl (by decide) (opens_slice Tryd.underlying35 (by kernel_rfl) oWd) (opensF_cons (by kernel_rfl) rfl (by decide) (opens_slice Tryd.underlying51 (by kernel_rfl) o161) (opensF_one (by kernel_rfl) (o_i64 Tryd.underlying3))))))
end Go.Proofs.YtelfiegocdjnoaaDoor.Open
