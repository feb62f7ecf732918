/- What the arguments of the objects' statements read as. No condition. -/
import Derived.Test.YtelfiegocdjnoaaDoorOpen
import Derived.Test.YtelfiegocdjnoaaDoorMrW0
import Derived.Test.YtelfiegocdjnoaaDoorOb3
import Derived.KernelRfl
namespace Go.Proofs.YtelfiegocdjnoaaDoor.Open
open Go Go.RowKit Go.Proofs.YtelfiegocdjnoaaDoorW.PrintWords Go.Proofs.YtelfiegocdjnoaaDoor.Ar Go.Proofs.YtelfiegocdjnoaaDoor.Sep
set_option linter.unusedVariables false
def w64 (n : Int) : Prop := -9223372036854775808 ≤ n ∧ n ≤ 9223372036854775807
theorem wf_w64 {n : Int} (h : (Lit.int .i64 n).wf = true) : w64 n := by
  simp only [Lit.wf, Bool.and_eq_true, decide_eq_true_eq] at h
  exact h
def wu64 (n : Int) : Prop := 0 ≤ n ∧ n < 18446744073709551616
theorem wf_wu64 {n : Int} (h : (Lit.int .u64 n).wf = true) : wu64 n := by
  simp only [Lit.wf, Bool.and_eq_true, decide_eq_true_eq] at h
  have h1 : (0 : Int) ≤ n := h.1
  have h2 : n ≤ 18446744073709551615 := h.2
  unfold wu64
  omega
theorem o_i64 {t : TypeId} (ht : Tryd.prog.underlying t = some (.int .i64)) : Opens Tryd.prog t (Kd.int .i64) w64 := opens_imp (opens_int ht) fun _ h => wf_w64 h
theorem o_u64 {t : TypeId} (ht : Tryd.prog.underlying t = some (.int .u64)) : Opens Tryd.prog t (Kd.int .u64) wu64 := opens_imp (opens_int ht) fun _ h => wf_wu64 h
structure SQ where
  f0 : Int
  f1 : Int
  f2 : Int
structure SHd where
  f0 : Int
  f1 : Int
  f2 : Int
structure SWd where
  f0 : Int
  f1 : Int
def zWd : SWd := ⟨(0 : Int), (0 : Int)⟩
def kWd : Kd SWd := Kd.iso (Kd.pair (Kd.int .i64) (Kd.int .u64)) (fun x : SWd => (x.f0, x.f1))
theorem kWd_open {w : World} {x : SWd} {cs : List Value} (h : kWd.K w x cs) : cs = [.int .i64 x.f0, .int .u64 x.f1] := by
  obtain ⟨_, _, rfl, rfl, rfl⟩ := h
  exact rfl
def rd_Wd (xs : List SWd) (i : Int) : SWd := xs.getD i.toNat zWd
theorem at_Wd {w : World} {A : Option Addr} {n : Nat} {xs : List SWd} (h : Kd.C kWd w A n xs) (i : Int) (h0 : 0 ≤ i) (h1 : i < n) : ∃ ad , A = some ad ∧ w.cell? (ad.add (i.toNat * 2)) = some (.int .i64 (rd_Wd xs i).f0) ∧ w.cell? ⟨(ad.add (i.toNat * 2)).block, (ad.add (i.toNat * 2)).off + 1, none⟩ = some (.int .u64 (rd_Wd xs i).f1) := by
  obtain ⟨ad, c, e, _, hK, hc0⟩ := Kd.C_get h zWd i h0 h1
  have hc : ∀ j u, c[j]? = some u → w.cell? (ad.add (i.toNat * 2 + j)) = some u := hc0
  obtain rfl := kWd_open hK
  exact ⟨ad, e, hc 0 _ rfl, by rw [← add_field _ _ 1 (by omega)]; exact hc 1 _ rfl⟩
def wWd (x : SWd) : Prop := w64 x.f0 ∧ wu64 x.f1
theorem oWd : Opens Tryd.prog 34 kWd wWd :=
  opens_iso (g := fun a => ⟨a.1, a.2⟩) (fun _ => rfl) (opens_struct Tryd.underlying34 (by kernel_rfl) rfl (opensF_cons (by kernel_rfl) rfl (by decide) (o_i64 Tryd.underlying3) (opensF_one (by kernel_rfl) (o_u64 Tryd.underlying22))))
/-- A list of words, as pairs. -/
def prs (l : List SWd) : List (Int × Int) := l.map fun x => (x.f0, x.f1)
theorem prs_len (l : List SWd) : (prs l).length = l.length := List.length_map ..
theorem prs_at {w : World} {A : Option Addr} {l : List SWd} (h : Kd.C kWd w A l.length l) : ∀ i, i < (prs l).length → ∃ ad, A = some ad ∧ w.cell? (ad.add (i * 2)) = some (.int .i64 ((prs l).getD i (0, 0)).1) ∧ w.cell? ⟨(ad.add (i * 2)).block, (ad.add (i * 2)).off + 1, none⟩ = some (.int .u64 ((prs l).getD i (0, 0)).2) := by
  intro i hi
  rw [prs_len] at hi
  obtain ⟨ad, e, h0, h1⟩ := at_Wd h (i : Int) (by omega) (by omega)
  have e2 : rd_Wd l (i : Int) = l.getD i zWd := rfl
  have e3 : (prs l).getD i (0, 0) = ((l.getD i zWd).f0, (l.getD i zWd).f1) := by
    simp [prs, List.getD_eq_getElem?_getD, hi]
  rw [e2, Int.toNat_natCast] at h0 h1
  rw [e3]
  exact ⟨ad, e, h0, h1⟩
theorem prs_rng {l : List SWd} (h : ∀ x ∈ l, wWd x) : ∀ p ∈ prs l, 0 ≤ p.2 ∧ p.2 < 18446744073709551616 := by
  intro p hp
  obtain ⟨x, hx, rfl⟩ := List.mem_map.1 hp
  exact (h x hx).2
structure SBu where
  q : SQ
  at_ : Int
  h : SHd
  l : List SWd
end Go.Proofs.YtelfiegocdjnoaaDoor.Open
