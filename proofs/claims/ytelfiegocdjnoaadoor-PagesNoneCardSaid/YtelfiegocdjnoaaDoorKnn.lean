/- What the argument of PagesNone reads as. No condition. -/
import Derived.Test.YtelfiegocdjnoaaDoorOpen
import Derived.Test.YtelfiegocdjnoaaDoorMrW0
import Derived.Test.YtelfiegocdjnoaaDoorFd0
import Derived.KernelRfl
namespace Go.Proofs.YtelfiegocdjnoaaDoor.Open
open Go Go.RowKit Go.Proofs.YtelfiegocdjnoaaDoorW.PrintWords Go.Proofs.YtelfiegocdjnoaaDoor.Ar Go.Proofs.YtelfiegocdjnoaaDoor.Sep
set_option linter.unusedVariables false
def w64 (n : Int) : Prop := -9223372036854775808 ≤ n ∧ n ≤ 9223372036854775807
theorem wf_w64 {n : Int} (h : (Lit.int .i64 n).wf = true) : w64 n := by
  simp only [Lit.wf, Bool.and_eq_true, decide_eq_true_eq] at h
  exact h
def wu64 (n : Int) : Prop := 0 ≤ n ∧ n < 18446744073709551616
theorem wf_wu64 {n : Int} (h : (Lit.int .u64 n).wf = true) : wu64 n := by
  simp only [Lit.wf, Bool.and_eq_true, decide_eq_true_eq] at h
  have h1 : (0 : Int) ≤ n := h.1
  have h2 : n ≤ 18446744073709551615 := h.2
  unfold wu64
  omega
theorem o_i64 {t : TypeId} (ht : Tryd.prog.underlying t = some (.int .i64)) : Opens Tryd.prog t (Kd.int .i64) w64 := opens_imp (opens_int ht) fun _ h => wf_w64 h
theorem o_u64 {t : TypeId} (ht : Tryd.prog.underlying t = some (.int .u64)) : Opens Tryd.prog t (Kd.int .u64) wu64 := opens_imp (opens_int ht) fun _ h => wf_wu64 h
structure SQ where
  f0 : Int
  f1 : Int
  f2 : Int
def kQ : Kd SQ := Kd.iso (Kd.pair (Kd.int .i64) (Kd.pair (Kd.int .i64) (Kd.int .i64))) (fun x : SQ => (x.f0, x.f1, x.f2))
theorem kQ_open {w : World} {x : SQ} {cs : List Value} (h : kQ.K w x cs) : cs = [.int .i64 x.f0, .int .i64 x.f1, .int .i64 x.f2] := by
  obtain ⟨_, _, rfl, rfl, ⟨_, _, rfl, rfl, rfl⟩⟩ := h
  exact rfl
def wQ (x : SQ) : Prop := w64 x.f0 ∧ w64 x.f1 ∧ w64 x.f2
theorem oQ : Opens Tryd.prog 25 kQ wQ :=
  opens_iso (g := fun a => ⟨a.1, a.2.1, a.2.2⟩) (fun _ => rfl) (opens_struct Tryd.underlying25 (by kernel_rfl) rfl (opensF_cons (by kernel_rfl) rfl (by decide) (o_i64 Tryd.underlying3) (opensF_cons (by kernel_rfl) rfl (by decide) (o_i64 Tryd.underlying3) (opensF_one (by kernel_rfl) (o_i64 Tryd.underlying3)))))
structure SE where
  f0 : Int
  f1 : Int
  f2 : Int
  f3 : Int
  f4 : Int
def kE : Kd SE := Kd.iso (Kd.pair (Kd.int .i64) (Kd.pair (Kd.int .i64) (Kd.pair (Kd.int .i64) (Kd.pair (Kd.int .i64) (Kd.int .i64))))) (fun x : SE => (x.f0, x.f1, x.f2, x.f3, x.f4))
theorem kE_open {w : World} {x : SE} {cs : List Value} (h : kE.K w x cs) : cs = [.int .i64 x.f0, .int .i64 x.f1, .int .i64 x.f2, .int .i64 x.f3, .int .i64 x.f4] := by
  obtain ⟨_, _, rfl, rfl, ⟨_, _, rfl, rfl, ⟨_, _, rfl, rfl, ⟨_, _, rfl, rfl, rfl⟩⟩⟩⟩ := h
  exact rfl
def wE (x : SE) : Prop := w64 x.f0 ∧ w64 x.f1 ∧ w64 x.f2 ∧ w64 x.f3 ∧ w64 x.f4
theorem oE : Opens Tryd.prog 75 kE wE :=
  opens_iso (g := fun a => ⟨a.1, a.2.1, a.2.2.1, a.2.2.2.1, a.2.2.2.2⟩) (fun _ => rfl) (opens_struct Tryd.underlying75 (by kernel_rfl) rfl (opensF_cons (by kernel_rfl) rfl (by decide) (o_i64 Tryd.underlying3) (opensF_cons (by kernel_rfl) rfl (by decide) (o_i64 Tryd.underlying3) (opensF_cons (by kernel_rfl) rfl (by decide) (o_i64 Tryd.underlying3) (opensF_cons (by kernel_rfl) rfl (by decide) (o_i64 Tryd.underlying3) (opensF_one (by kernel_rfl) (o_i64 Tryd.underlying3)))))))
def kPg2 : Kd SPg := Kd.iso (Kd.pair kE (Kd.pair (Kd.int .u64) (Kd.pair (Kd.int .u64) (Kd.int .u64)))) (fun x : SPg => (⟨x.f0, x.f1, x.f2, x.f3, x.f4⟩, x.f5, x.f6, x.f7))
theorem kPg2_to {w : World} {x : SPg} {cs : List Value} (h : kPg2.K w x cs) : kPg.K w x cs := by
  obtain ⟨_, _, rfl, he, ⟨_, _, rfl, rfl, ⟨_, _, rfl, rfl, rfl⟩⟩⟩ := h
  obtain rfl := kE_open he
  exact ⟨[_], _, rfl, rfl, ⟨[_], _, rfl, rfl, ⟨[_], _, rfl, rfl, ⟨[_], _, rfl, rfl, ⟨[_], _, rfl, rfl, ⟨[_], _, rfl, rfl, ⟨[_], _, rfl, rfl, rfl⟩⟩⟩⟩⟩⟩⟩
def wPg (x : SPg) : Prop := wE ⟨x.f0, x.f1, x.f2, x.f3, x.f4⟩ ∧ wu64 x.f5 ∧ wu64 x.f6 ∧ wu64 x.f7
theorem oPg : Opens Tryd.prog 192 kPg2 wPg :=
  opens_iso (g := fun a => ⟨a.1.f0, a.1.f1, a.1.f2, a.1.f3, a.1.f4, a.2.1, a.2.2.1, a.2.2.2⟩) (fun _ => rfl) (opens_struct Tryd.underlying192 (by kernel_rfl) rfl (opensF_cons (by kernel_rfl) rfl (by decide) oE (opensF_cons (by kernel_rfl) rfl (by decide) (o_u64 Tryd.underlying22) (opensF_cons (by kernel_rfl) rfl (by decide) (o_u64 Tryd.underlying22) (opensF_one (by kernel_rfl) (o_u64 Tryd.underlying22))))))
structure SNn where
  q : SQ
  l : List SPg
  cyc : Int
  cls : Int
def kNn : Kd SNn := Kd.iso (Kd.pair kQ (Kd.pair (Kd.slice 192 kPg2) (Kd.pair (Kd.int .i64) (Kd.int .i64)))) (fun x : SNn => (x.q, x.l, x.cyc, x.cls))
theorem kNn_open {w : World} {x : SNn} {cs : List Value} (h : kNn.K w x cs) : ∃ A c, cs = [.int .i64 x.q.f0, .int .i64 x.q.f1, .int .i64 x.q.f2, .slice A x.l.length c, .int .i64 x.cyc, .int .i64 x.cls] ∧ Kd.C kPg w A x.l.length x.l := by
  obtain ⟨_, _, rfl, hq, ⟨_, _, rfl, ⟨A, c, rfl, hc, hA⟩, ⟨_, _, rfl, rfl, rfl⟩⟩⟩ := h
  obtain rfl := kQ_open hq
  exact ⟨A, c, rfl, Kd.C_imp (d := kPg2) (d' := kPg) rfl (fun _ _ _ h => kPg2_to h) hA⟩
def wNn (x : SNn) : Prop := wQ x.q ∧ (∀ g ∈ x.l, wPg g) ∧ w64 x.cyc ∧ w64 x.cls
theorem oNn : Opens Tryd.prog 119 kNn wNn :=
  opens_iso (g := fun a => ⟨a.1, a.2.1, a.2.2.1, a.2.2.2⟩) (fun _ => rfl) (opens_struct Tryd.underlying119 (by kernel_rfl) rfl (opensF_cons (by kernel_rfl) rfl (by decide) oQ (opensF_cons (by kernel_rfl) rfl (by decide) (opens_slice Tryd.underlying117 (by kernel_rfl) oPg) (opensF_cons (by kernel_rfl) rfl (by decide) (o_i64 Tryd.underlying3) (opensF_one (by kernel_rfl) (o_i64 Tryd.underlying3))))))
theorem wNn_rng {x : SNn} (h : wNn x) : ∀ g ∈ x.l, rngP g := fun g hg => (h.2.1 g hg).2
end Go.Proofs.YtelfiegocdjnoaaDoor.Open
