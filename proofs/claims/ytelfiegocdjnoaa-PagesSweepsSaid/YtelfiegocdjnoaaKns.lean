/- What the argument of PagesSweeps reads as. No condition. -/
import Derived.Test.YtelfiegocdjnoaaKnp
import Derived.KernelRfl
namespace Go.Proofs.Ytelfiegocdjnoaa.Open
open Go Go.RowKit Go.Proofs.YtelfiegocdjnoaaW.PrintWords Go.Proofs.Ytelfiegocdjnoaa.Ar
set_option linter.unusedVariables false
def kPg2 : Kd SPg := Kd.iso (Kd.pair kE (Kd.pair (Kd.int .u64) (Kd.pair (Kd.int .u64) (Kd.int .u64)))) (fun x : SPg => (⟨x.f0, x.f1, x.f2, x.f3, x.f4⟩, x.f5, x.f6, x.f7))
def kTu2 : Kd STu := Kd.iso (Kd.pair (Kd.int .i64) (Kd.pair (Kd.int .i64) kE)) (fun x : STu => (x.f0, x.f1, ⟨x.f2, x.f3, x.f4, x.f5, x.f6⟩))
theorem kPg2_to {w : World} {x : SPg} {cs : List Value} (h : kPg2.K w x cs) : kPg.K w x cs := by
  obtain ⟨_, _, rfl, he, ⟨_, _, rfl, rfl, ⟨_, _, rfl, rfl, rfl⟩⟩⟩ := h
  obtain rfl := kE_open he
  exact ⟨[_], _, rfl, rfl, ⟨[_], _, rfl, rfl, ⟨[_], _, rfl, rfl, ⟨[_], _, rfl, rfl, ⟨[_], _, rfl, rfl, ⟨[_], _, rfl, rfl, ⟨[_], _, rfl, rfl, rfl⟩⟩⟩⟩⟩⟩⟩
theorem kTu2_to {w : World} {x : STu} {cs : List Value} (h : kTu2.K w x cs) : kTu.K w x cs := by
  obtain ⟨_, _, rfl, rfl, ⟨_, _, rfl, rfl, he⟩⟩ := h
  obtain rfl := kE_open he
  exact ⟨[_], _, rfl, rfl, ⟨[_], _, rfl, rfl, ⟨[_], _, rfl, rfl, ⟨[_], _, rfl, rfl, ⟨[_], _, rfl, rfl, ⟨[_], _, rfl, rfl, rfl⟩⟩⟩⟩⟩⟩
def wPg (x : SPg) : Prop := wE ⟨x.f0, x.f1, x.f2, x.f3, x.f4⟩ ∧ wu64 x.f5 ∧ wu64 x.f6 ∧ wu64 x.f7
theorem oPg : Opens Try.prog 34 kPg2 wPg :=
  opens_iso (g := fun a => ⟨a.1.f0, a.1.f1, a.1.f2, a.1.f3, a.1.f4, a.2.1, a.2.2.1, a.2.2.2⟩) (fun _ => rfl) (opens_struct Try.underlying34 (by kernel_rfl) rfl (opensF_cons (by kernel_rfl) rfl (by decide) oE (opensF_cons (by kernel_rfl) rfl (by decide) (o_u64 Try.underlying22) (opensF_cons (by kernel_rfl) rfl (by decide) (o_u64 Try.underlying22) (opensF_one (by kernel_rfl) (o_u64 Try.underlying22))))))
def wTu (x : STu) : Prop := w64 x.f0 ∧ w64 x.f1 ∧ wE ⟨x.f2, x.f3, x.f4, x.f5, x.f6⟩
theorem oTu : Opens Try.prog 117 kTu2 wTu :=
  opens_iso (g := fun a => ⟨a.1, a.2.1, a.2.2.f0, a.2.2.f1, a.2.2.f2, a.2.2.f3, a.2.2.f4⟩) (fun _ => rfl) (opens_struct Try.underlying117 (by kernel_rfl) rfl (opensF_cons (by kernel_rfl) rfl (by decide) (o_i64 Try.underlying3) (opensF_cons (by kernel_rfl) rfl (by decide) (o_i64 Try.underlying3) (opensF_one (by kernel_rfl) oE))))
structure SSw where
  q : SQ
  l : List SPg
  who : Int
  cyc : Int
  page : Int
  o : List STu
def kSw : Kd SSw := Kd.iso (Kd.pair kQ (Kd.pair (Kd.slice 34 kPg2) (Kd.pair (Kd.int .i64) (Kd.pair (Kd.int .i64) (Kd.pair (Kd.int .i64) (Kd.slice 117 kTu2)))))) (fun x : SSw => (x.q, x.l, x.who, x.cyc, x.page, x.o))
theorem kSw_open {w : World} {x : SSw} {cs : List Value} (h : kSw.K w x cs) : ∃ A c A2 c2, cs = [.int .i64 x.q.f0, .int .i64 x.q.f1, .int .i64 x.q.f2, .slice A x.l.length c, .int .i64 x.who, .int .i64 x.cyc, .int .i64 x.page, .slice A2 x.o.length c2] ∧ Kd.C kPg w A x.l.length x.l ∧ Kd.C kTu w A2 x.o.length x.o := by
  obtain ⟨_, _, rfl, hq, ⟨_, _, rfl, ⟨A, c, rfl, hc, hA⟩, ⟨_, _, rfl, rfl, ⟨_, _, rfl, rfl, ⟨_, _, rfl, rfl, ⟨A2, c2, rfl, hc2, hA2⟩⟩⟩⟩⟩⟩ := h
  obtain rfl := kQ_open hq
  exact ⟨A, c, A2, c2, rfl, Kd.C_imp (d := kPg2) (d' := kPg) rfl (fun _ _ _ h => kPg2_to h) hA, Kd.C_imp (d := kTu2) (d' := kTu) rfl (fun _ _ _ h => kTu2_to h) hA2⟩
def wSw (x : SSw) : Prop := wQ x.q ∧ (∀ g ∈ x.l, wPg g) ∧ w64 x.who ∧ w64 x.cyc ∧ w64 x.page ∧ ∀ g ∈ x.o, wTu g
theorem oSw : Opens Try.prog 63 kSw wSw :=
  opens_iso (g := fun a => ⟨a.1, a.2.1, a.2.2.1, a.2.2.2.1, a.2.2.2.2.1, a.2.2.2.2.2⟩) (fun _ => rfl) (opens_struct Try.underlying63 (by kernel_rfl) rfl (opensF_cons (by kernel_rfl) rfl (by decide) oQ (opensF_cons (by kernel_rfl) rfl (by decide) (opens_slice Try.underlying35 (by kernel_rfl) oPg) (opensF_cons (by kernel_rfl) rfl (by decide) (o_i64 Try.underlying3) (opensF_cons (by kernel_rfl) rfl (by decide) (o_i64 Try.underlying3) (opensF_cons (by kernel_rfl) rfl (by decide) (o_i64 Try.underlying3) (opensF_one (by kernel_rfl) (opens_slice Try.underlying61 (by kernel_rfl) oTu))))))))
theorem wSw_rng {x : SSw} (h : wSw x) : ∀ g ∈ x.l, rngP g := fun g hg => (h.2.1 g hg).2
end Go.Proofs.Ytelfiegocdjnoaa.Open
