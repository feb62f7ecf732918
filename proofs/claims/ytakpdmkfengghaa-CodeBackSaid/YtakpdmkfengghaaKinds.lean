/- What the arguments of the statements read as: instructions, classes, functions, programs. No condition. -/
import Derived.Test.YtakpdmkfengghaaOpen
import Derived.Test.YtakpdmkfengghaaQ0
import Derived.KernelRfl
namespace Go.Proofs.Ytakpdmkfengghaa.Open
open Go Go.RowKit Go.Proofs.YtakpdmkfengghaaW.PrintWords Go.Proofs.Ytakpdmkfengghaa.Q
set_option linter.unusedVariables false

def w64 (n : Int) : Prop := -9223372036854775808 ≤ n ∧ n ≤ 9223372036854775807
theorem wf_w64 {n : Int} (h : (Lit.int .i64 n).wf = true) : w64 n := by
  simp only [Lit.wf, Bool.and_eq_true, decide_eq_true_eq] at h
  exact h
def wS (s : ByteArray) : Prop := s.size ≤ 9223372036854775807
def w23 (x : S23) : Prop := w64 x.f0 ∧ w64 x.f1 ∧ w64 x.f2
def w44 (x : S44) : Prop := wS x.f0 ∧ w64 x.f1
def w42 (x : S42) : Prop := wS x.f0 ∧ ∀ y ∈ x.f1, w44 y
def w48 (x : S48) : Prop := wS x.f0 ∧ (∀ y ∈ x.f1, w64 y) ∧ w64 x.f2 ∧ (∀ y ∈ x.f3, w64 y) ∧ ∀ y ∈ x.f4, w23 y
theorem o_i64 {t : TypeId} (ht : Try.prog.underlying t = some (.int .i64)) : Opens Try.prog t (Kd.int .i64) w64 := opens_imp (opens_int ht) fun _ h => wf_w64 h
theorem o_str {t : TypeId} (ht : Try.prog.underlying t = some .string) : Opens Try.prog t Kd.string wS := opens_imp (opens_string ht) fun _ h => h
theorem o23 : Opens Try.prog 23 k23 w23 :=
  opens_iso (g := fun a => ⟨a.1, a.2.1, a.2.2⟩) (fun _ => rfl) (opens_struct Try.underlying23 (by kernel_rfl) rfl (opensF_cons (by kernel_rfl) rfl (by decide) (o_i64 Try.underlying3) (opensF_cons (by kernel_rfl) rfl (by decide) (o_i64 Try.underlying2) (opensF_one (by kernel_rfl) (o_i64 Try.underlying2)))))
theorem o44 : Opens Try.prog 44 k44 w44 :=
  opens_iso (g := fun a => ⟨a.1, a.2⟩) (fun _ => rfl) (opens_struct Try.underlying44 (by kernel_rfl) rfl (opensF_cons (by kernel_rfl) rfl (by decide) (o_str Try.underlying9) (opensF_one (by kernel_rfl) (o_i64 Try.underlying3))))
theorem o42 : Opens Try.prog 42 k42 w42 :=
  opens_iso (g := fun a => ⟨a.1, a.2⟩) (fun _ => rfl) (opens_struct Try.underlying42 (by kernel_rfl) rfl (opensF_cons (by kernel_rfl) rfl (by decide) (o_str Try.underlying9) (opensF_one (by kernel_rfl) (opens_slice Try.underlying40 (by kernel_rfl) o44))))
theorem o48 : Opens Try.prog 48 k48 w48 :=
  opens_iso (g := fun a => ⟨a.1, a.2.1, a.2.2.1, a.2.2.2.1, a.2.2.2.2⟩) (fun _ => rfl) (opens_struct Try.underlying48 (by kernel_rfl) rfl (opensF_cons (by kernel_rfl) rfl (by decide) (o_str Try.underlying9) (opensF_cons (by kernel_rfl) rfl (by decide) (opens_slice Try.underlying45 (by kernel_rfl) (o_i64 Try.underlying3)) (opensF_cons (by kernel_rfl) rfl (by decide) (o_i64 Try.underlying3) (opensF_cons (by kernel_rfl) rfl (by decide) (opens_slice Try.underlying45 (by kernel_rfl) (o_i64 Try.underlying3)) (opensF_one (by kernel_rfl) (opens_slice Try.underlying46 (by kernel_rfl) o23)))))))
/-- A program: its classes, its functions. -/
def w29 (x : List S42 × List S48) : Prop := (∀ y ∈ x.1, w42 y) ∧ ∀ y ∈ x.2, w48 y
theorem o29 : Opens Try.prog 29 (Kd.pair (Kd.slice 42 k42) (Kd.slice 48 k48)) w29 :=
  opens_struct Try.underlying29 (by kernel_rfl) rfl (opensF_cons (by kernel_rfl) rfl (by decide) (opens_slice Try.underlying26 (by kernel_rfl) o42) (opensF_one (by kernel_rfl) (opens_slice Try.underlying27 (by kernel_rfl) o48)))
end Go.Proofs.Ytakpdmkfengghaa.Open
