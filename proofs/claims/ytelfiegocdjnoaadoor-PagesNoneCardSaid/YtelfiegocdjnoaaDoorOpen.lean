/- What a statement's arguments read as, type by type: plain lemmas on the form's own reading. No condition. -/
import Derived.WalkKit
import Derived.ProofKit
import Derived.OpenShut
import Derived.ShutString
import Derived.ChangeOld
import Derived.Below
import Derived.SizedLaws
import Derived.DataReads
import Derived.DataElems
import Derived.Test.YtelfiegocdjnoaaDoorMrW0
namespace Go.Proofs.YtelfiegocdjnoaaDoor.Open
open Go Go.RowKit Go.Proofs.YtelfiegocdjnoaaDoorW.PrintWords Go.WideShapes Go.ChangeShapes
set_option linter.unusedVariables false
set_option linter.unusedSimpArgs false

/-- What is read of a type's cells. -/
def Opens (P : Program) (t : TypeId) {α : Type} (d : Kd α) (wf : α → Prop) : Prop :=
  ∀ {H : Type} {enc : TypeId × Value → H} {W : World} {cs : List Value} {fuel : Nat} {x : DataW H × List MemPlace}, DataW.trod enc P W 0 (fun _ => true) true fuel t cs = some x → ∃ a, d.K W a cs ∧ wf a

theorem opens_int {P : Program} {t : TypeId} {k : IntKind} (ht : P.underlying t = some (.int k)) : Opens P t (Kd.int k) (fun n => (Lit.int k n).wf = true) := by
  intro H enc W cs fuel x h
  obtain ⟨n, rfl, _, hw⟩ := DataW.trod_int ht h
  exact ⟨n, rfl, hw⟩
theorem choose_list {α : Type} (n : Nat) (R : Nat → α → Prop) (h : ∀ i, i < n → ∃ a, R i a) : ∃ l : List α, l.length = n ∧ ∀ i a, l[i]? = some a → R i a := by
  induction n with
  | zero => exact ⟨[], rfl, fun i a h => by simp at h⟩
  | succ n ih =>
    obtain ⟨l, hl, hr⟩ := ih fun i hi => h i (by omega)
    obtain ⟨a, ha⟩ := h n (by omega)
    refine ⟨l ++ [a], by simp [hl], fun i b hb => ?_⟩
    rcases Nat.lt_or_ge i n with hi | hi
    · rw [List.getElem?_append_left (by omega)] at hb
      exact hr i b hb
    · rw [List.getElem?_append_right (by omega), hl] at hb
      have hi2 : i = n := by
        rcases Nat.eq_or_lt_of_le hi with h1 | h1
        · exact h1.symm
        · rw [List.getElem?_eq_none (by simp; omega)] at hb; cases hb
      subst hi2
      simp at hb
      exact hb ▸ ha
theorem opens_slice {P : Program} {t e : TypeId} {α : Type} {d : Kd α} {wf : α → Prop} (ht : P.underlying t = some (.slice e)) (hc : P.cellsOf e = d.sz) (he : Opens P e d wf) :
    Opens P t (Kd.slice e d) (fun xs => ∀ x ∈ xs, wf x) := by
  intro H enc W cs fuel x h
  rcases DataW.trod_slice ht h with ⟨rfl, _⟩ | ⟨a, len, cap, elems, rest, n, _, rfl, rfl, hb, hl, hm, hlen, hel, _, _⟩
  · exact ⟨[], ⟨none, 0, rfl, Nat.le_refl _, Kd.C_nil d W⟩, fun x hx => by cases hx⟩
  · have each : ∀ i, i < len → ∃ p : α, ∃ c, c.length = d.sz ∧ d.K W p c ∧ wf p ∧ ∀ j u, c[j]? = some u → W.cell? (a.add (i * d.sz + j)) = some u := by
      intro i hi
      have h1 := hel i hi
      rw [List.getElem?_eq_getElem (by omega)] at h1
      obtain ⟨c, hc1, hc2⟩ := Option.bind_eq_some_iff.1 h1
      obtain ⟨p, hK, hw⟩ := he hc2
      obtain ⟨_, hcl, hcg⟩ := World.cells?_some hc1
      refine ⟨p, c, d.K_len hK, hK, hw, fun j u hj => ?_⟩
      have hjl : j < c.length := (List.getElem?_eq_some_iff.1 hj).1
      have h2 := hcg j (by omega)
      rw [Addr.add_add, hc] at h2
      rw [h2, hj]
    obtain ⟨l, hll, hr⟩ := choose_list len (fun i p => ∃ c, c.length = d.sz ∧ d.K W p c ∧ wf p ∧ ∀ j u, c[j]? = some u → W.cell? (a.add (i * d.sz + j)) = some u) each
    subst hll
    refine ⟨l, ⟨some a, cap, rfl, hl, rfl, by simp only [maxLen] at hm; omega, fun _ => ⟨a, rfl, fun j p hj => ?_⟩⟩, fun p hp => ?_⟩
    · obtain ⟨c, h1, h2, _, h3⟩ := hr j p hj
      exact ⟨c, h1, h2, h3⟩
    · obtain ⟨j, hj⟩ := List.getElem?_of_mem hp
      exact (hr j p hj).choose_spec.2.2.1
theorem opens_iso {P : Program} {t : TypeId} {α β : Type} {d : Kd α} {f : β → α} {g : α → β} {wf : α → Prop} (hfg : ∀ a, f (g a) = a) (h : Opens P t d wf) : Opens P t (Kd.iso d f) (fun b => wf (f b)) := by
  intro H enc W cs fuel x hx
  obtain ⟨a, hK, hw⟩ := h hx
  exact ⟨g a, by show d.K W (f (g a)) cs; rw [hfg]; exact hK, by show wf (f (g a)); rw [hfg]; exact hw⟩
theorem opens_imp {P : Program} {t : TypeId} {α : Type} {d : Kd α} {wf wf' : α → Prop} (h : Opens P t d wf) (hi : ∀ a, wf a → wf' a) : Opens P t d wf' := by
  intro H enc W cs fuel x hx
  obtain ⟨a, hK, hw⟩ := h hx
  exact ⟨a, hK, hi a hw⟩

/-- What is read of a row of fields, from an offset on. -/
def OpensF (P : Program) (fs : List Field) {α : Type} (d : Kd α) (wf : α → Prop) : Prop :=
  ∀ {H : Type} {enc : TypeId × Value → H} {W : World} {cs : List Value} {n : Nat}, cs.length = d.sz →
    (∀ f ∈ fs, ∃ x, DataW.trod enc P W 0 (fun _ => true) true n f.type ((cs.drop (f.offset - (fs.head?.map (·.offset)).getD 0)).take (P.cellsOf f.type)) = some x) → ∃ a, d.K W a cs ∧ wf a
theorem opensF_one {P : Program} {f : Field} {α : Type} {d : Kd α} {wf : α → Prop} (hc : P.cellsOf f.type = d.sz) (h : Opens P f.type d wf) : OpensF P [f] d wf := by
  intro H enc W cs n hl hf
  obtain ⟨x, hx⟩ := hf f (List.mem_singleton.2 rfl)
  simp only [List.head?_cons, Option.map_some, Option.getD_some, Nat.sub_self, List.drop_zero] at hx
  rw [List.take_of_length_le (by omega)] at hx
  exact h hx
theorem opensF_cons {P : Program} {f f2 : Field} {fs : List Field} {α β : Type} {d : Kd α} {d2 : Kd β} {wf : α → Prop} {wf2 : β → Prop} (hc : P.cellsOf f.type = d.sz) (ho : f2.offset = f.offset + d.sz)
    (hm : ∀ g ∈ f2 :: fs, f2.offset ≤ g.offset) (h : Opens P f.type d wf) (h2 : OpensF P (f2 :: fs) d2 wf2) : OpensF P (f :: f2 :: fs) (Kd.pair d d2) (fun x => wf x.1 ∧ wf2 x.2) := by
  intro H enc W cs n hl hf
  have hl : cs.length = d.sz + d2.sz := hl
  obtain ⟨x, hx⟩ := hf f (List.mem_cons_self ..)
  simp only [List.head?_cons, Option.map_some, Option.getD_some, Nat.sub_self, List.drop_zero] at hx
  obtain ⟨a, hK, hw⟩ := h hx
  obtain ⟨b, hK2, hw2⟩ := h2 (enc := enc) (W := W) (cs := cs.drop d.sz) (n := n) (by rw [List.length_drop]; omega) (fun g hg => by
    obtain ⟨y, hy⟩ := hf g (List.mem_cons_of_mem _ hg)
    refine ⟨y, ?_⟩
    simp only [List.head?_cons, Option.map_some, Option.getD_some] at hy ⊢
    rw [List.drop_drop]
    have := hm g hg
    rw [show d.sz + (g.offset - f2.offset) = g.offset - f.offset by omega]
    exact hy)
  rw [hc] at hK
  exact ⟨(a, b), ⟨cs.take d.sz, cs.drop d.sz, (List.take_append_drop _ _).symm, hK, hK2⟩, hw, hw2⟩
theorem opens_struct {P : Program} {t : TypeId} {f : Field} {fs : List Field} {α : Type} {d : Kd α} {wf : α → Prop} (ht : P.underlying t = some (.struct (f :: fs).toArray)) (hc : P.cellsOf t = d.sz) (h0 : f.offset = 0) (h : OpensF P (f :: fs) d wf) : Opens P t d wf := by
  intro H enc W cs fuel x hx
  obtain ⟨xs, n, _, rfl, hl, hlen, hfs⟩ := DataW.trod_struct ht hx
  refine h (enc := enc) (W := W) (cs := cs) (n := n) (by omega) fun g hg => ?_
  obtain ⟨i, hi⟩ := List.getElem?_of_mem hg
  have h1 := hfs i g (by simpa using hi)
  have hil : i < (f :: fs).length := (List.getElem?_eq_some_iff.1 hi).1
  rw [List.getElem?_eq_getElem (by rw [hlen]; simpa using hil)] at h1
  exact ⟨xs[i]'(by rw [hlen]; simpa using hil), by simpa [h0] using h1⟩
/-- An argument that is a struct. -/
theorem arg_agg {P : Program} {t : TypeId} {fs : Array Field} {α : Type} {d : Kd α} {wf : α → Prop} (ht : P.underlying t = some (.struct fs)) (h : Opens P t d wf) {H : Type} {enc : TypeId × Value → H} {W : World} {r : Reach} {b : Nat} {v : Value} {x : DataW H} {ps : List MemPlace}
    (hv : Value.okWide P W r b t v) (hx : DataW.Trod enc P W 0 (fun _ => true) true t v x ps) : ∃ a cs, v = .agg cs ∧ d.K W a cs.toList ∧ wf a := by
  obtain ⟨cs, rfl, _⟩ := okWide_struct ht hv
  obtain ⟨fuel, hf⟩ := hx
  obtain ⟨a, h1, h2⟩ := h hf
  exact ⟨a, cs, rfl, h1, h2⟩
end Go.Proofs.YtelfiegocdjnoaaDoor.Open
