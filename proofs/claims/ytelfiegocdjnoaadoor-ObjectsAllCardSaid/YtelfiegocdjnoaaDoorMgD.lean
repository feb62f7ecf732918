/- What a statement's arguments read as, type by type: plain lemmas on the form's own reading. No condition. -/
import Derived.WalkKit
import Derived.ProofKit
import Derived.OpenShut
import Derived.ShutString
import Derived.ChangeOld
import Derived.Below
import Derived.SizedLaws
import Derived.DataReads
import Derived.DataElems
import Derived.Test.YtelfiegocdjnoaaDoorMrW0
import Derived.Test.YtelfiegocdjnoaaDoorMgJ
import Derived.KernelRfl
import Derived.Test.YtelfiegocdjnoaaDoorMrF0
namespace Go.Proofs.YtelfiegocdjnoaaDoor.Open
set_option linter.unusedVariables false
section
open Go Go.RowKit Go.Proofs.YtelfiegocdjnoaaDoorW.PrintWords Go.WideShapes Go.ChangeShapes
set_option linter.unusedSimpArgs false

/-- What is read of a type's cells. -/
def Opens (P : Program) (t : TypeId) {α : Type} (d : Kd α) (wf : α → Prop) : Prop :=
  ∀ {H : Type} {enc : TypeId × Value → H} {W : World} {cs : List Value} {fuel : Nat} {x : DataW H × List MemPlace}, DataW.trod enc P W 0 (fun _ => true) true fuel t cs = some x → ∃ a, d.K W a cs ∧ wf a

theorem opens_int {P : Program} {t : TypeId} {k : IntKind} (ht : P.underlying t = some (.int k)) : Opens P t (Kd.int k) (fun n => (Lit.int k n).wf = true) := by
  intro H enc W cs fuel x h
  obtain ⟨n, rfl, _, hw⟩ := DataW.trod_int ht h
  exact ⟨n, rfl, hw⟩
theorem opens_string {P : Program} {t : TypeId} (ht : P.underlying t = some .string) : Opens P t Kd.string (fun s => s.size ≤ maxLen) := by
  intro H enc W cs fuel x h
  obtain ⟨s, rfl, _, hw⟩ := DataW.trod_string ht h
  exact ⟨s, rfl, hw⟩
theorem choose_list {α : Type} (n : Nat) (R : Nat → α → Prop) (h : ∀ i, i < n → ∃ a, R i a) : ∃ l : List α, l.length = n ∧ ∀ i a, l[i]? = some a → R i a := by
  induction n with
  | zero => exact ⟨[], rfl, fun i a h => by simp at h⟩
  | succ n ih =>
    obtain ⟨l, hl, hr⟩ := ih fun i hi => h i (by omega)
    obtain ⟨a, ha⟩ := h n (by omega)
    refine ⟨l ++ [a], by simp [hl], fun i b hb => ?_⟩
    rcases Nat.lt_or_ge i n with hi | hi
    · rw [List.getElem?_append_left (by omega)] at hb
      exact hr i b hb
    · rw [List.getElem?_append_right (by omega), hl] at hb
      have hi2 : i = n := by
        rcases Nat.eq_or_lt_of_le hi with h1 | h1
        · exact h1.symm
        · rw [List.getElem?_eq_none (by simp; omega)] at hb; cases hb
      subst hi2
      simp at hb
      exact hb ▸ ha
theorem opens_slice {P : Program} {t e : TypeId} {α : Type} {d : Kd α} {wf : α → Prop} (ht : P.underlying t = some (.slice e)) (hc : P.cellsOf e = d.sz) (he : Opens P e d wf) :
    Opens P t (Kd.slice e d) (fun xs => ∀ x ∈ xs, wf x) := by
  intro H enc W cs fuel x h
  rcases DataW.trod_slice ht h with ⟨rfl, _⟩ | ⟨a, len, cap, elems, rest, n, _, rfl, rfl, hb, hl, hm, hlen, hel, _, _⟩
  · exact ⟨[], ⟨none, 0, rfl, Nat.le_refl _, Kd.C_nil d W⟩, fun x hx => by cases hx⟩
  · have each : ∀ i, i < len → ∃ p : α, ∃ c, c.length = d.sz ∧ d.K W p c ∧ wf p ∧ ∀ j u, c[j]? = some u → W.cell? (a.add (i * d.sz + j)) = some u := by
      intro i hi
      have h1 := hel i hi
      rw [List.getElem?_eq_getElem (by omega)] at h1
      obtain ⟨c, hc1, hc2⟩ := Option.bind_eq_some_iff.1 h1
      obtain ⟨p, hK, hw⟩ := he hc2
      obtain ⟨_, hcl, hcg⟩ := World.cells?_some hc1
      refine ⟨p, c, d.K_len hK, hK, hw, fun j u hj => ?_⟩
      have hjl : j < c.length := (List.getElem?_eq_some_iff.1 hj).1
      have h2 := hcg j (by omega)
      rw [Addr.add_add, hc] at h2
      rw [h2, hj]
    obtain ⟨l, hll, hr⟩ := choose_list len (fun i p => ∃ c, c.length = d.sz ∧ d.K W p c ∧ wf p ∧ ∀ j u, c[j]? = some u → W.cell? (a.add (i * d.sz + j)) = some u) each
    subst hll
    refine ⟨l, ⟨some a, cap, rfl, hl, rfl, by simp only [maxLen] at hm; omega, fun _ => ⟨a, rfl, fun j p hj => ?_⟩⟩, fun p hp => ?_⟩
    · obtain ⟨c, h1, h2, _, h3⟩ := hr j p hj
      exact ⟨c, h1, h2, h3⟩
    · obtain ⟨j, hj⟩ := List.getElem?_of_mem hp
      exact (hr j p hj).choose_spec.2.2.1
theorem opens_iso {P : Program} {t : TypeId} {α β : Type} {d : Kd α} {f : β → α} {g : α → β} {wf : α → Prop} (hfg : ∀ a, f (g a) = a) (h : Opens P t d wf) : Opens P t (Kd.iso d f) (fun b => wf (f b)) := by
  intro H enc W cs fuel x hx
  obtain ⟨a, hK, hw⟩ := h hx
  exact ⟨g a, by show d.K W (f (g a)) cs; rw [hfg]; exact hK, by show wf (f (g a)); rw [hfg]; exact hw⟩
theorem opens_imp {P : Program} {t : TypeId} {α : Type} {d : Kd α} {wf wf' : α → Prop} (h : Opens P t d wf) (hi : ∀ a, wf a → wf' a) : Opens P t d wf' := by
  intro H enc W cs fuel x hx
  obtain ⟨a, hK, hw⟩ := h hx
  exact ⟨a, hK, hi a hw⟩

/-- What is read of a row of fields, from an offset on. -/
def OpensF (P : Program) (fs : List Field) {α : Type} (d : Kd α) (wf : α → Prop) : Prop :=
  ∀ {H : Type} {enc : TypeId × Value → H} {W : World} {cs : List Value} {n : Nat}, cs.length = d.sz →
    (∀ f ∈ fs, ∃ x, DataW.trod enc P W 0 (fun _ => true) true n f.type ((cs.drop (f.offset - (fs.head?.map (·.offset)).getD 0)).take (P.cellsOf f.type)) = some x) → ∃ a, d.K W a cs ∧ wf a
theorem opensF_one {P : Program} {f : Field} {α : Type} {d : Kd α} {wf : α → Prop} (hc : P.cellsOf f.type = d.sz) (h : Opens P f.type d wf) : OpensF P [f] d wf := by
  intro H enc W cs n hl hf
  obtain ⟨x, hx⟩ := hf f (List.mem_singleton.2 rfl)
  simp only [List.head?_cons, Option.map_some, Option.getD_some, Nat.sub_self, List.drop_zero] at hx
  rw [List.take_of_length_le (by omega)] at hx
  exact h hx
theorem opensF_cons {P : Program} {f f2 : Field} {fs : List Field} {α β : Type} {d : Kd α} {d2 : Kd β} {wf : α → Prop} {wf2 : β → Prop} (hc : P.cellsOf f.type = d.sz) (ho : f2.offset = f.offset + d.sz)
    (hm : ∀ g ∈ f2 :: fs, f2.offset ≤ g.offset) (h : Opens P f.type d wf) (h2 : OpensF P (f2 :: fs) d2 wf2) : OpensF P (f :: f2 :: fs) (Kd.pair d d2) (fun x => wf x.1 ∧ wf2 x.2) := by
  intro H enc W cs n hl hf
  have hl : cs.length = d.sz + d2.sz := hl
  obtain ⟨x, hx⟩ := hf f (List.mem_cons_self ..)
  simp only [List.head?_cons, Option.map_some, Option.getD_some, Nat.sub_self, List.drop_zero] at hx
  obtain ⟨a, hK, hw⟩ := h hx
  obtain ⟨b, hK2, hw2⟩ := h2 (enc := enc) (W := W) (cs := cs.drop d.sz) (n := n) (by rw [List.length_drop]; omega) (fun g hg => by
    obtain ⟨y, hy⟩ := hf g (List.mem_cons_of_mem _ hg)
    refine ⟨y, ?_⟩
    simp only [List.head?_cons, Option.map_some, Option.getD_some] at hy ⊢
    rw [List.drop_drop]
    have := hm g hg
    rw [show d.sz + (g.offset - f2.offset) = g.offset - f.offset by omega]
    exact hy)
  rw [hc] at hK
  exact ⟨(a, b), ⟨cs.take d.sz, cs.drop d.sz, (List.take_append_drop _ _).symm, hK, hK2⟩, hw, hw2⟩
theorem opens_struct {P : Program} {t : TypeId} {f : Field} {fs : List Field} {α : Type} {d : Kd α} {wf : α → Prop} (ht : P.underlying t = some (.struct (f :: fs).toArray)) (hc : P.cellsOf t = d.sz) (h0 : f.offset = 0) (h : OpensF P (f :: fs) d wf) : Opens P t d wf := by
  intro H enc W cs fuel x hx
  obtain ⟨xs, n, _, rfl, hl, hlen, hfs⟩ := DataW.trod_struct ht hx
  refine h (enc := enc) (W := W) (cs := cs) (n := n) (by omega) fun g hg => ?_
  obtain ⟨i, hi⟩ := List.getElem?_of_mem hg
  have h1 := hfs i g (by simpa using hi)
  have hil : i < (f :: fs).length := (List.getElem?_eq_some_iff.1 hi).1
  rw [List.getElem?_eq_getElem (by rw [hlen]; simpa using hil)] at h1
  exact ⟨xs[i]'(by rw [hlen]; simpa using hil), by simpa [h0] using h1⟩
/-- An argument that is no struct: its one cell. -/
theorem arg_one {P : Program} {t : TypeId} {α : Type} {d : Kd α} {wf : α → Prop} (h : Opens P t d wf) {H : Type} {enc : TypeId × Value → H} {W : World} {v : Value} {x : DataW H} {ps : List MemPlace}
    (hx : DataW.Trod enc P W 0 (fun _ => true) true t v x ps) : ∃ a, d.K W a v.cells.toList ∧ wf a := by
  obtain ⟨fuel, hf⟩ := hx
  exact h hf
/-- An argument that is a struct. -/
theorem arg_agg {P : Program} {t : TypeId} {fs : Array Field} {α : Type} {d : Kd α} {wf : α → Prop} (ht : P.underlying t = some (.struct fs)) (h : Opens P t d wf) {H : Type} {enc : TypeId × Value → H} {W : World} {r : Reach} {b : Nat} {v : Value} {x : DataW H} {ps : List MemPlace}
    (hv : Value.okWide P W r b t v) (hx : DataW.Trod enc P W 0 (fun _ => true) true t v x ps) : ∃ a cs, v = .agg cs ∧ d.K W a cs.toList ∧ wf a := by
  obtain ⟨cs, rfl, _⟩ := okWide_struct ht hv
  obtain ⟨fuel, hf⟩ := hx
  obtain ⟨a, h1, h2⟩ := h hf
  exact ⟨a, cs, rfl, h1, h2⟩
end
section
open Go Go.RowKit Go.Proofs.YtelfiegocdjnoaaDoorW.PrintWords Go.Proofs.YtelfiegocdjnoaaDoor.Ar Go.Proofs.YtelfiegocdjnoaaDoor.Sep
def w64 (n : Int) : Prop := -9223372036854775808 ≤ n ∧ n ≤ 9223372036854775807
theorem wf_w64 {n : Int} (h : (Lit.int .i64 n).wf = true) : w64 n := by
  simp only [Lit.wf, Bool.and_eq_true, decide_eq_true_eq] at h
  exact h
def wu64 (n : Int) : Prop := 0 ≤ n ∧ n < 18446744073709551616
theorem wf_wu64 {n : Int} (h : (Lit.int .u64 n).wf = true) : wu64 n := by
  simp only [Lit.wf, Bool.and_eq_true, decide_eq_true_eq] at h
  have h1 : (0 : Int) ≤ n := h.1
  have h2 : n ≤ 18446744073709551615 := h.2
  unfold wu64
  omega
theorem o_i64 {t : TypeId} (ht : Tryd.prog.underlying t = some (.int .i64)) : Opens Tryd.prog t (Kd.int .i64) w64 := opens_imp (opens_int ht) fun _ h => wf_w64 h
theorem o_u64 {t : TypeId} (ht : Tryd.prog.underlying t = some (.int .u64)) : Opens Tryd.prog t (Kd.int .u64) wu64 := opens_imp (opens_int ht) fun _ h => wf_wu64 h
structure SQ where
  f0 : Int
  f1 : Int
  f2 : Int
def kQ : Kd SQ := Kd.iso (Kd.pair (Kd.int .i64) (Kd.pair (Kd.int .i64) (Kd.int .i64))) (fun x : SQ => (x.f0, x.f1, x.f2))
theorem kQ_open {w : World} {x : SQ} {cs : List Value} (h : kQ.K w x cs) : cs = [.int .i64 x.f0, .int .i64 x.f1, .int .i64 x.f2] := by
  obtain ⟨_, _, rfl, rfl, ⟨_, _, rfl, rfl, rfl⟩⟩ := h
  exact rfl
def wQ (x : SQ) : Prop := w64 x.f0 ∧ w64 x.f1 ∧ w64 x.f2
theorem oQ : Opens Tryd.prog 25 kQ wQ :=
  opens_iso (g := fun a => ⟨a.1, a.2.1, a.2.2⟩) (fun _ => rfl) (opens_struct Tryd.underlying25 (by kernel_rfl) rfl (opensF_cons (by kernel_rfl) rfl (by decide) (o_i64 Tryd.underlying3) (opensF_cons (by kernel_rfl) rfl (by decide) (o_i64 Tryd.underlying3) (opensF_one (by kernel_rfl) (o_i64 Tryd.underlying3)))))
structure SHd where
  f0 : Int
  f1 : Int
  f2 : Int
structure SWd where
  f0 : Int
  f1 : Int
def zWd : SWd := ⟨(0 : Int), (0 : Int)⟩
def kWd : Kd SWd := Kd.iso (Kd.pair (Kd.int .i64) (Kd.int .u64)) (fun x : SWd => (x.f0, x.f1))
theorem kWd_open {w : World} {x : SWd} {cs : List Value} (h : kWd.K w x cs) : cs = [.int .i64 x.f0, .int .u64 x.f1] := by
  obtain ⟨_, _, rfl, rfl, rfl⟩ := h
  exact rfl
def rd_Wd (xs : List SWd) (i : Int) : SWd := xs.getD i.toNat zWd
theorem at_Wd {w : World} {A : Option Addr} {n : Nat} {xs : List SWd} (h : Kd.C kWd w A n xs) (i : Int) (h0 : 0 ≤ i) (h1 : i < n) : ∃ ad , A = some ad ∧ w.cell? (ad.add (i.toNat * 2)) = some (.int .i64 (rd_Wd xs i).f0) ∧ w.cell? ⟨(ad.add (i.toNat * 2)).block, (ad.add (i.toNat * 2)).off + 1, none⟩ = some (.int .u64 (rd_Wd xs i).f1) := by
  obtain ⟨ad, c, e, _, hK, hc0⟩ := Kd.C_get h zWd i h0 h1
  have hc : ∀ j u, c[j]? = some u → w.cell? (ad.add (i.toNat * 2 + j)) = some u := hc0
  obtain rfl := kWd_open hK
  exact ⟨ad, e, hc 0 _ rfl, by rw [← add_field _ _ 1 (by omega)]; exact hc 1 _ rfl⟩
def wWd (x : SWd) : Prop := w64 x.f0 ∧ wu64 x.f1
theorem oWd : Opens Tryd.prog 34 kWd wWd :=
  opens_iso (g := fun a => ⟨a.1, a.2⟩) (fun _ => rfl) (opens_struct Tryd.underlying34 (by kernel_rfl) rfl (opensF_cons (by kernel_rfl) rfl (by decide) (o_i64 Tryd.underlying3) (opensF_one (by kernel_rfl) (o_u64 Tryd.underlying22))))
/-- A list of words, as pairs. -/
def prs (l : List SWd) : List (Int × Int) := l.map fun x => (x.f0, x.f1)
theorem prs_len (l : List SWd) : (prs l).length = l.length := List.length_map ..
theorem prs_at {w : World} {A : Option Addr} {l : List SWd} (h : Kd.C kWd w A l.length l) : ∀ i, i < (prs l).length → ∃ ad, A = some ad ∧ w.cell? (ad.add (i * 2)) = some (.int .i64 ((prs l).getD i (0, 0)).1) ∧ w.cell? ⟨(ad.add (i * 2)).block, (ad.add (i * 2)).off + 1, none⟩ = some (.int .u64 ((prs l).getD i (0, 0)).2) := by
  intro i hi
  rw [prs_len] at hi
  obtain ⟨ad, e, h0, h1⟩ := at_Wd h (i : Int) (by omega) (by omega)
  have e2 : rd_Wd l (i : Int) = l.getD i zWd := rfl
  have e3 : (prs l).getD i (0, 0) = ((l.getD i zWd).f0, (l.getD i zWd).f1) := by
    simp [prs, List.getD_eq_getElem?_getD, hi]
  rw [e2, Int.toNat_natCast] at h0 h1
  rw [e3]
  exact ⟨ad, e, h0, h1⟩
theorem prs_rng {l : List SWd} (h : ∀ x ∈ l, wWd x) : ∀ p ∈ prs l, 0 ≤ p.2 ∧ p.2 < 18446744073709551616 := by
  intro p hp
  obtain ⟨x, hx, rfl⟩ := List.mem_map.1 hp
  exact (h x hx).2
structure SBu where
  q : SQ
  at_ : Int
  h : SHd
  l : List SWd
end
section
open Go Go.RowKit Go.Proofs.YtelfiegocdjnoaaDoorW.PrintWords Go.Proofs.YtelfiegocdjnoaaDoor.Ar Go.Proofs.YtelfiegocdjnoaaDoor.Sep Go.Proofs.YtelfiegocdjnoaaDoor.Q
def wS (s : ByteArray) : Prop := s.size ≤ 9223372036854775807
theorem o_str {t : TypeId} (ht : Tryd.prog.underlying t = some .string) : Opens Tryd.prog t Kd.string wS := opens_imp (opens_string ht) fun _ h => h
def w215 (x : S215) : Prop := wS x.f0 ∧ w64 x.f1
def w161 (x : S161) : Prop := wS x.f0 ∧ ∀ y ∈ x.f1, w215 y
theorem o215 : Opens Tryd.prog 215 k215 w215 :=
  opens_iso (g := fun a => ⟨a.1, a.2⟩) (fun _ => rfl) (opens_struct Tryd.underlying215 (by kernel_rfl) rfl (opensF_cons (by kernel_rfl) rfl (by decide) (o_str Tryd.underlying9) (opensF_one (by kernel_rfl) (o_i64 Tryd.underlying3))))
theorem o161 : Opens Tryd.prog 161 k161 w161 :=
  opens_iso (g := fun a => ⟨a.1, a.2⟩) (fun _ => rfl) (opens_struct Tryd.underlying161 (by kernel_rfl) rfl (opensF_cons (by kernel_rfl) rfl (by decide) (o_str Tryd.underlying9) (opensF_one (by kernel_rfl) (opens_slice Tryd.underlying159 (by kernel_rfl) o215))))
structure SLk where
  q : SQ
  l : List SWd
  cs : List S161
  at_ : Int
end
section
open Go Go.RowKit Go.Proofs.YtelfiegocdjnoaaDoorW.PrintWords Go.Proofs.YtelfiegocdjnoaaDoor.Ar Go.Proofs.YtelfiegocdjnoaaDoor.Sep Go.Proofs.YtelfiegocdjnoaaDoor.Q
structure SCe where
  a : Int
  c : Int
  k : Int
  l : List Int
theorem oCs : Opens Tryd.prog 51 (Kd.slice 161 k161) (fun xs => ∀ x ∈ xs, w161 x) := opens_slice Tryd.underlying51 (by kernel_rfl) o161
theorem oWs : Opens Tryd.prog 35 (Kd.slice 34 kWd) (fun xs => ∀ x ∈ xs, wWd x) := opens_slice Tryd.underlying35 (by kernel_rfl) oWd
theorem kS_open {α : Type} {e : TypeId} {d : Kd α} {w : World} {x : List α} {A : Option Addr} {n c : Nat} (h : (Kd.slice e d).K w x (Value.slice A n c).cells.toList) : n = x.length ∧ Kd.C d w A x.length x ∧ x.length ≤ c := by
  obtain ⟨A', c', he, hc, hA⟩ := h
  have he' : [Value.slice A n c] = [Value.slice A' x.length c'] := he
  injection he' with he' _
  injection he' with e1 e2 e3
  subst e1 e2 e3
  exact ⟨rfl, hA, hc⟩
end
end Go.Proofs.YtelfiegocdjnoaaDoor.Open
