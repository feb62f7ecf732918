/- Plain facts: a program's bytes are a code without prefixes: unlike programs have unlike bytes. No memory; numbers of 64 bits. -/
import Derived.Test.YtakpdmkfengghaaWr6
namespace Go.Proofs.Ytakpdmkfengghaa.Wr
open Go Go.RowKit Go.Proofs.Ytakpdmkfengghaa.Q Go.Proofs.YtakpdmkfengghaaW.PrintWords
set_option linter.unusedVariables false
set_option linter.unusedSimpArgs false

/-! ### The codes -/
def cText (t : ByteArray) : List Int := vint t.size ++ chars t
def cKinds (l : List Int) : List Int := vint l.length ++ l
def cField (f : S44) : List Int := cText f.f0 ++ [f.f1]
def cClass (c : S42) : List Int := cText c.f0 ++ (vint c.f1.length ++ c.f1.flatMap cField)
def cFunc (f : S48) : List Int := cText f.f0 ++ (cKinds f.f1 ++ (f.f2 :: (cKinds f.f3 ++ (vint f.f4.length ++ f.f4.flatMap insB))))
def cProg (cs : List S42) (fs : List S48) : List Int := vint cs.length ++ (cs.flatMap cClass ++ (vint fs.length ++ fs.flatMap cFunc))
/-! ### What has a code -/
def vText (t : ByteArray) : Prop := t.size ≤ 16
def vKind (t : Int) : Prop := 0 ≤ t ∧ t ≤ 2
def vField (f : S44) : Prop := vText f.f0 ∧ vKind f.f1
def vClass (c : S42) : Prop := vText c.f0 ∧ c.f1.length ≤ 15 ∧ ∀ f ∈ c.f1, vField f
def vIns (i : S23) : Prop := okI i = true
def vFunc (f : S48) : Prop := vText f.f0 ∧ (f.f1.length ≤ 6 ∧ ∀ t ∈ f.f1, vKind t) ∧ vKind f.f2 ∧ (f.f3.length ≤ 16 ∧ ∀ t ∈ f.f3, vKind t) ∧ f.f4.length ≤ 256 ∧ ∀ i ∈ f.f4, vIns i
def vProg (cs : List S42) (fs : List S48) : Prop := cs.length ≤ 16 ∧ (∀ c ∈ cs, vClass c) ∧ fs.length ≤ 16 ∧ ∀ f ∈ fs, vFunc f

/-! ### The writer, without an error -/
/-- A step without an error: it was without one before, it appends a code, and what it writes has one. -/
def Step {α : Type} (f : Wst → α → Wst) (c : α → List Int) (v : α → Prop) : Prop := ∀ s x, ((f s x).2 = 0 ↔ s.2 = 0 ∧ v x) ∧ ((f s x).2 = 0 → (f s x).1 = s.1 ++ c x)
theorem failed_iff (e c : Int) (hc : c ≠ 0) : ¬ failed e c = 0 := failed_ne e c hc
theorem step_count (most : Nat) : Step (fun s n => wCount s n most) vint (fun n => n ≤ most) := by
  intro s n
  unfold wCount
  by_cases h : n ≤ most
  · simp [h]
  · simp [h, failed_iff s.2 3 (by decide)]
theorem step_text : Step wText cText vText := by
  intro s t
  have h := step_count 16 s t.size
  unfold wText
  by_cases h0 : (wCount s t.size 16).2 = 0
  · rw [if_pos h0]
    have h1 := h.1.1 h0
    exact ⟨⟨fun _ => h1, fun _ => rfl⟩, fun _ => by show (wCount s t.size 16).1 ++ chars t = _; rw [h.2 h0, List.append_assoc]; rfl⟩
  · rw [if_neg h0]
    exact ⟨⟨fun h2 => absurd h2 h0, fun h2 => h.1.2 h2⟩, fun h2 => absurd h2 h0⟩
theorem step_kind : Step wKind (fun t => [t]) vKind := by
  intro s t
  unfold wKind vKind
  by_cases h : 0 ≤ t ∧ t ≤ 2
  · simp [h]
  · rw [if_neg h]
    simp [h, failed_iff s.2 32 (by decide)]
theorem step_ins : Step wIns insB vIns := by
  intro s i
  unfold wIns vIns
  by_cases h : okI i = true
  · simp [h]
  · rw [if_neg h]
    simp [h, failed_iff s.2 30 (by decide)]
theorem step_all {α : Type} {f : Wst → α → Wst} {c : α → List Int} {v : α → Prop} (h : Step f c v) : Step (fun s l => wAll f s l) (fun l => l.flatMap c) (fun l => ∀ x ∈ l, v x) := by
  intro s l
  induction l generalizing s with
  | nil => simp [wAll]
  | cons x r ih =>
    simp only [wAll]
    by_cases h0 : s.2 = 0
    · rw [if_pos h0]
      obtain ⟨i1, i2⟩ := ih (f s x)
      obtain ⟨h1, h2⟩ := h s x
      refine ⟨⟨fun hx => ?_, fun hx => ?_⟩, fun hx => ?_⟩
      · obtain ⟨g1, g2⟩ := i1.1 hx
        exact ⟨h0, fun y hy => by rcases List.mem_cons.1 hy with rfl | hy; exact (h1.1 g1).2; exact g2 y hy⟩
      · exact i1.2 ⟨h1.2 ⟨h0, hx.2 x (List.mem_cons_self ..)⟩, fun y hy => hx.2 y (List.mem_cons_of_mem _ hy)⟩
      · rw [i2 hx, h2 (i1.1 hx).1, List.append_assoc]; rfl
    · rw [if_neg h0]
      exact ⟨⟨fun hx => absurd hx h0, fun hx => absurd hx.1 h0⟩, fun hx => absurd hx h0⟩
/-- One step behind another. -/
theorem step_then {α β γ : Type} {f : Wst → α → Wst} {g : Wst → β → Wst} {c : α → List Int} {d : β → List Int} {v : α → Prop} {u : β → Prop} (hf : Step f c v) (hg : Step g d u) (p : γ → α) (q : γ → β) :
    Step (fun s z => g (f s (p z)) (q z)) (fun z => c (p z) ++ d (q z)) (fun z => v (p z) ∧ u (q z)) := by
  intro s z
  obtain ⟨f1, f2⟩ := hf s (p z)
  obtain ⟨g1, g2⟩ := hg (f s (p z)) (q z)
  refine ⟨⟨fun h => ?_, fun h => ?_⟩, fun h => ?_⟩
  · obtain ⟨a, b⟩ := g1.1 h
    obtain ⟨a1, a2⟩ := f1.1 a
    exact ⟨a1, a2, b⟩
  · exact g1.2 ⟨f1.2 ⟨h.1, h.2.1⟩, h.2.2⟩
  · show (g _ _).1 = _
    rw [g2 h, f2 (g1.1 h).1, List.append_assoc]
theorem step_eq {α : Type} {f : Wst → α → Wst} {c c' : α → List Int} {v v' : α → Prop} (h : Step f c v) (hc : ∀ x, c x = c' x) (hv : ∀ x, v x ↔ v' x) : Step f c' v' := fun s x => ⟨by rw [← hv]; exact (h s x).1, by rw [← hc]; exact (h s x).2⟩
theorem flat_one (l : List Int) : l.flatMap (fun t => [t]) = l := by induction l with | nil => rfl | cons x r ih => simp [ih]
theorem step_kinds (most : Nat) : Step (fun s l => wKinds s l most) cKinds (fun l => l.length ≤ most ∧ ∀ t ∈ l, vKind t) :=
  step_eq (step_then (step_count most) (step_all step_kind) (fun l : List Int => l.length) id) (fun l => by simp [cKinds, flat_one]) (fun l => Iff.rfl)
theorem step_field : Step wField cField vField := step_then step_text step_kind S44.f0 S44.f1
theorem step_class : Step wClass cClass vClass :=
  step_eq (step_then (step_then step_text (step_count 15) S42.f0 (fun c : S42 => c.f1.length)) (step_all step_field) id S42.f1) (fun c => by simp [cClass]) (fun c => by simp [vClass, and_assoc])
theorem step_func : Step wFunc cFunc vFunc := by
  have h1 := step_then step_text (step_kinds 6) S48.f0 S48.f1
  have h2 := step_then h1 step_kind id S48.f2
  have h3 := step_then h2 (step_kinds 16) id S48.f3
  have h4 := step_then h3 (step_count 256) id (fun f : S48 => f.f4.length)
  have h5 := step_then h4 (step_all step_ins) id S48.f4
  exact step_eq h5 (fun c => by simp [cFunc]) (fun c => by simp [vFunc, and_assoc])
theorem e3_code (cs : List S42) (fs : List S48) : ((e3_ cs fs).2 = 0 ↔ vProg cs fs) ∧ ((e3_ cs fs).2 = 0 → (e3_ cs fs).1 = [87, 68, 82, 49] ++ cProg cs fs) := by
  have h := step_then (step_then (step_then (step_count 16) (step_all step_class) (fun p : List S42 × List S48 => p.1.length) (fun p => p.1)) (step_count 16) id (fun p => p.2.length)) (step_all step_func) id (fun p => p.2)
  have h2 := h (([87, 68, 82, 49] : List Int), (0 : Int)) (cs, fs)
  refine ⟨h2.1.trans ?_, fun h0 => (h2.2 h0).trans ?_⟩
  · simp [vProg, and_assoc]
  · simp [cProg]

/-! ### No code begins another -/
theorem opN_vals (a : Int) : opN a = 1 ∨ opN a = 2 ∨ opN a = -1 ∨ opN a = 0 := by
  unfold opN
  split
  · exact .inl rfl
  · split
    · exact .inr (.inl rfl)
    · split
      · exact .inr (.inr (.inl rfl))
      · exact .inr (.inr (.inr rfl))
/-! ### Bytes are bytes -/
def isB (l : List Int) : Prop := ∀ x ∈ l, 0 ≤ x ∧ x < 256
theorem isB_app {a b : List Int} (ha : isB a) (hb : isB b) : isB (a ++ b) := fun x hx => (List.mem_append.1 hx).elim (ha x) (hb x)
theorem isB_vint (n : Nat) : isB (vint n) := by
  induction n using Nat.strongRecOn with
  | _ n ih =>
    by_cases h : n < 128
    · rw [vint_small h]; intro x hx; simp at hx; omega
    · rw [vint_step h]
      intro x hx
      rcases List.mem_cons.1 hx with rfl | hx
      · omega
      · exact ih (n / 128) (by omega) x hx
theorem isB_chars (t : ByteArray) : isB (chars t) := by
  intro x hx
  simp only [chars, List.mem_map] at hx
  obtain ⟨b, _, rfl⟩ := hx
  have := b.toNat_lt
  omega
theorem isB_flat {α : Type} {c : α → List Int} {v : α → Prop} (h : ∀ x, v x → isB (c x)) : ∀ l : List α, (∀ x ∈ l, v x) → isB (l.flatMap c) := by
  intro l hl x hx
  obtain ⟨y, hy, hx⟩ := List.mem_flatMap.1 hx
  exact h y (hl y hy) x hx
theorem isB_text (t : ByteArray) : isB (cText t) := isB_app (isB_vint _) (isB_chars _)
theorem isB_kinds (l : List Int) (h : ∀ t ∈ l, vKind t) : isB (cKinds l) := isB_app (isB_vint _) fun x hx => by have := h x hx; unfold vKind at this; omega
theorem isB_one {t : Int} (h : vKind t) : isB [t] := by intro x hx; simp at hx; unfold vKind at h; omega
theorem isB_ins {i : S23} (h : vIns i) : isB (insB i) := by
  have := opN_pos (okI_parts h).1
  unfold insB
  refine isB_app (by intro x hx; simp at hx; omega) ?_
  split
  · exact isB_vint _
  · split
    · exact isB_vint _
    · split
      · exact isB_app (isB_vint _) (isB_vint _)
      · intro x hx; cases hx
theorem isB_class {c : S42} (h : vClass c) : isB (cClass c) :=
  isB_app (isB_text _) (isB_app (isB_vint _) (isB_flat (v := vField) (fun f hf => isB_app (isB_text _) (isB_one hf.2)) _ h.2.2))
theorem isB_func {f : S48} (h : vFunc f) : isB (cFunc f) :=
  isB_app (isB_text _) (isB_app (isB_kinds _ h.2.1.2) (isB_app (isB_one h.2.2.1) (isB_app (isB_kinds _ h.2.2.2.1.2) (isB_app (isB_vint _) (isB_flat (v := vIns) (fun i hi => isB_ins hi) _ h.2.2.2.2.2)))))
theorem isB_prog {cs : List S42} {fs : List S48} (h : vProg cs fs) : isB ([87, 68, 82, 49] ++ cProg cs fs) :=
  isB_app (by intro x hx; simp at hx; omega) (isB_app (isB_vint _) (isB_app (isB_flat (v := vClass) (fun _ h => isB_class h) _ h.2.1) (isB_app (isB_vint _) (isB_flat (v := vFunc) (fun _ h => isB_func h) _ h.2.2.2))))
theorem str_inj {a b : List Int} (ha : isB a) (hb : isB b) (h : strOfNums a = strOfNums b) : a = b := by
  have h2 := congrArg (fun s => s.data.toList) h
  simp only [strOfNums_data] at h2
  have h3 : ∀ (l m : List Int), isB l → isB m → l.map (fun n => UInt8.ofNat n.toNat) = m.map (fun n => UInt8.ofNat n.toNat) → l = m := by
    intro l
    induction l with
    | nil => intro m _ _ h; cases m with | nil => rfl | cons y m => simp at h
    | cons x l ih =>
      intro m hl hm h
      cases m with
      | nil => simp at h
      | cons y m =>
        simp only [List.map_cons, List.cons.injEq] at h
        have hx := hl x (List.mem_cons_self ..)
        have hy := hm y (List.mem_cons_self ..)
        have e := congrArg UInt8.toNat h.1
        simp only [UInt8.toNat_ofNat'] at e
        rw [ih m (fun z hz => hl z (List.mem_cons_of_mem _ hz)) (fun z hz => hm z (List.mem_cons_of_mem _ hz)) h.2]
        have : x = y := by omega
        rw [this]
  exact h3 a b ha hb h2
end Go.Proofs.Ytakpdmkfengghaa.Wr
