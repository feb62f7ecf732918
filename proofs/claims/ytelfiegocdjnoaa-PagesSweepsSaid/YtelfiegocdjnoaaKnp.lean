/- What the arguments of the pages' statements read as. No condition. -/
import Derived.Test.YtelfiegocdjnoaaFd0
import Derived.KernelRfl
namespace Go.Proofs.Ytelfiegocdjnoaa.Open
open Go Go.RowKit Go.Proofs.YtelfiegocdjnoaaW.PrintWords Go.Proofs.Ytelfiegocdjnoaa.Ar
set_option linter.unusedVariables false
def w64 (n : Int) : Prop := -9223372036854775808 ≤ n ∧ n ≤ 9223372036854775807
theorem wf_w64 {n : Int} (h : (Lit.int .i64 n).wf = true) : w64 n := by
  simp only [Lit.wf, Bool.and_eq_true, decide_eq_true_eq] at h
  exact h
def wu64 (n : Int) : Prop := 0 ≤ n ∧ n < 18446744073709551616
theorem wf_wu64 {n : Int} (h : (Lit.int .u64 n).wf = true) : wu64 n := by
  simp only [Lit.wf, Bool.and_eq_true, decide_eq_true_eq] at h
  have h1 : (0 : Int) ≤ n := h.1
  have h2 : n ≤ 18446744073709551615 := h.2
  unfold wu64
  omega
theorem o_i64 {t : TypeId} (ht : Try.prog.underlying t = some (.int .i64)) : Opens Try.prog t (Kd.int .i64) w64 := opens_imp (opens_int ht) fun _ h => wf_w64 h
theorem o_u64 {t : TypeId} (ht : Try.prog.underlying t = some (.int .u64)) : Opens Try.prog t (Kd.int .u64) wu64 := opens_imp (opens_int ht) fun _ h => wf_wu64 h
structure SSp where
  f0 : Int
  f1 : Int
  f2 : Int
  f3 : Int
  f4 : Int
structure SQ where
  f0 : Int
  f1 : Int
  f2 : Int
def kQ : Kd SQ := Kd.iso (Kd.pair (Kd.int .i64) (Kd.pair (Kd.int .i64) (Kd.int .i64))) (fun x : SQ => (x.f0, x.f1, x.f2))
theorem kQ_open {w : World} {x : SQ} {cs : List Value} (h : kQ.K w x cs) : cs = [.int .i64 x.f0, .int .i64 x.f1, .int .i64 x.f2] := by
  obtain ⟨_, _, rfl, rfl, ⟨_, _, rfl, rfl, rfl⟩⟩ := h
  exact rfl
def wQ (x : SQ) : Prop := w64 x.f0 ∧ w64 x.f1 ∧ w64 x.f2
theorem oQ : Opens Try.prog 30 kQ wQ :=
  opens_iso (g := fun a => ⟨a.1, a.2.1, a.2.2⟩) (fun _ => rfl) (opens_struct Try.underlying30 (by kernel_rfl) rfl (opensF_cons (by kernel_rfl) rfl (by decide) (o_i64 Try.underlying3) (opensF_cons (by kernel_rfl) rfl (by decide) (o_i64 Try.underlying3) (opensF_one (by kernel_rfl) (o_i64 Try.underlying3)))))
structure SE where
  f0 : Int
  f1 : Int
  f2 : Int
  f3 : Int
  f4 : Int
def kE : Kd SE := Kd.iso (Kd.pair (Kd.int .i64) (Kd.pair (Kd.int .i64) (Kd.pair (Kd.int .i64) (Kd.pair (Kd.int .i64) (Kd.int .i64))))) (fun x : SE => (x.f0, x.f1, x.f2, x.f3, x.f4))
theorem kE_open {w : World} {x : SE} {cs : List Value} (h : kE.K w x cs) : cs = [.int .i64 x.f0, .int .i64 x.f1, .int .i64 x.f2, .int .i64 x.f3, .int .i64 x.f4] := by
  obtain ⟨_, _, rfl, rfl, ⟨_, _, rfl, rfl, ⟨_, _, rfl, rfl, ⟨_, _, rfl, rfl, rfl⟩⟩⟩⟩ := h
  exact rfl
def wE (x : SE) : Prop := w64 x.f0 ∧ w64 x.f1 ∧ w64 x.f2 ∧ w64 x.f3 ∧ w64 x.f4
theorem oE : Opens Try.prog 32 kE wE :=
  opens_iso (g := fun a => ⟨a.1, a.2.1, a.2.2.1, a.2.2.2.1, a.2.2.2.2⟩) (fun _ => rfl) (opens_struct Try.underlying32 (by kernel_rfl) rfl (opensF_cons (by kernel_rfl) rfl (by decide) (o_i64 Try.underlying3) (opensF_cons (by kernel_rfl) rfl (by decide) (o_i64 Try.underlying3) (opensF_cons (by kernel_rfl) rfl (by decide) (o_i64 Try.underlying3) (opensF_cons (by kernel_rfl) rfl (by decide) (o_i64 Try.underlying3) (opensF_one (by kernel_rfl) (o_i64 Try.underlying3)))))))
structure SGv where
  q : SQ
  page : Int
  e : SE
  b : Int
end Go.Proofs.Ytelfiegocdjnoaa.Open
