/- Plain facts: the document's writer writes what the code's writer writes. No memory, no conditions. -/
import Derived.Test.YtakpdmkfengghaaWr6
namespace Go.Proofs.Ytakpdmkfengghaa.Wr
open Go Go.RowKit Go.Proofs.Ytakpdmkfengghaa.Q Go.Proofs.YtakpdmkfengghaaW.PrintWords
set_option linter.unusedVariables false
set_option linter.unusedSimpArgs false

def pPut (s : Wst) (l : List Int) (e : Int) : Wst := if s.2 = 0 then (if e = 0 then (s.1 ++ l, 0) else ([], e)) else s
def pCount (s : Wst) (n most : Nat) : Wst := if n ≤ most then pPut s (vint n) 0 else pPut s [] 3
def pText (s : Wst) (t : ByteArray) : Wst := pPut (pCount s t.size 16) (chars t) 0
def pKind (s : Wst) (t : Int) : Wst := if 0 ≤ t ∧ t ≤ 2 then pPut s [t] 0 else pPut s [] 32
def pKinds (s : Wst) (l : List Int) (most : Nat) : Wst := wAll pKind (pCount s l.length most) l
def pIns (s : Wst) (i : S23) : Wst := if okI i = true then pPut s (insB i) 0 else pPut s [] 30
def pField (s : Wst) (f : S44) : Wst := pKind (pText s f.f0) f.f1
def pClass (s : Wst) (c : S42) : Wst := wAll pField (pCount (pText s c.f0) c.f1.length 15) c.f1
def pFunc (s : Wst) (f : S48) : Wst := wAll pIns (pCount (pKinds (pKind (pKinds (pText s f.f0) f.f1 6) f.f2) f.f3 16) f.f4.length 256) f.f4
def r0_ (cs : List S42) : Wst := pCount ([87, 68, 82, 49], 0) cs.length 16
def r1_ (cs : List S42) : Wst := wAll pClass (r0_ cs) cs
def r2_ (cs : List S42) (fs : List S48) : Wst := pCount (r1_ cs) fs.length 16
def r3_ (cs : List S42) (fs : List S48) : Wst := wAll pFunc (r2_ cs fs) fs
def refN (cs : List S42) (fs : List S48) : Wst := if (r3_ cs fs).2 = 0 then r3_ cs fs else ([], (r3_ cs fs).2)

theorem pPut_len (s : Wst) (l : List Int) (e : Int) : (pPut s l e).1.length ≤ s.1.length + l.length := by
  unfold pPut
  split
  · split
    · simp only [List.length_append]; omega
    · simp
  · omega
theorem pCount_len (s : Wst) (n most : Nat) (hm : most ≤ 1000) : (pCount s n most).1.length ≤ s.1.length + 10 := by
  unfold pCount
  split
  · have := pPut_len s (vint n) 0
    have := vint_len10 (n := n) (by omega)
    omega
  · have := pPut_len s [] 3
    simp only [List.length_nil] at this
    omega
theorem pCount_ok {s : Wst} {n most : Nat} (h : (pCount s n most).2 = 0) : n ≤ most := by
  by_cases h1 : n ≤ most
  · exact h1
  · unfold pCount at h
    rw [if_neg h1] at h
    unfold pPut at h
    by_cases h2 : s.2 = 0
    · rw [if_pos h2] at h; simp at h
    · rw [if_neg h2] at h; exact absurd h h2
theorem pText_len (s : Wst) (t : ByteArray) : (pText s t).1.length ≤ s.1.length + 26 := by
  have h1 := pCount_len s t.size 16 (by decide)
  unfold pText
  by_cases h2 : (pCount s t.size 16).2 = 0
  · have h3 := pPut_len (pCount s t.size 16) (chars t) 0
    have h4 := pCount_ok h2
    rw [chars_length] at h3
    omega
  · have : pPut (pCount s t.size 16) (chars t) 0 = pCount s t.size 16 := if_neg h2
    rw [this]
    omega
theorem pKind_len (s : Wst) (t : Int) : (pKind s t).1.length ≤ s.1.length + 1 := by
  unfold pKind
  split
  · exact pPut_len s [t] 0
  · have := pPut_len s [] 32
    simp only [List.length_nil] at this
    omega
/-- The code's bytes and error, the document's. -/
def Rel (s p : Wst) : Prop := s.2 = p.2 ∧ (s.2 = 0 → s.1 = p.1) ∧ p.1.length ≤ s.1.length
theorem Rel.good {s p : Wst} (h : Rel s p) (l : List Int) : Rel (s.1 ++ l, s.2) (pPut p l 0) := by
  obtain ⟨h1, h2, h3⟩ := h
  unfold pPut
  by_cases he : s.2 = 0
  · rw [if_pos (h1 ▸ he), if_pos rfl, ← h2 he, he]
    exact ⟨rfl, fun _ => rfl, Nat.le_refl _⟩
  · rw [if_neg (h1 ▸ he)]
    exact ⟨h1, fun h => absurd h he, by simp only [List.length_append]; omega⟩
theorem Rel.bad {s p : Wst} (h : Rel s p) (c : Int) (hc : c ≠ 0) : Rel (s.1, failed s.2 c) (pPut p [] c) := by
  obtain ⟨h1, h2, h3⟩ := h
  unfold pPut failed
  by_cases he : s.2 = 0
  · have hp : p.2 = 0 := h1.symm.trans he
    rw [if_pos hp, if_neg hc, if_pos he]
    exact ⟨rfl, fun h => absurd h hc, Nat.zero_le _⟩
  · have hp : ¬ p.2 = 0 := fun h => he (h1.trans h)
    rw [if_neg hp, if_neg he]
    exact ⟨h1, fun h => absurd h he, h3⟩
theorem rel_count {s p : Wst} (h : Rel s p) (n most : Nat) : Rel (wCount s n most) (pCount p n most) := by
  unfold wCount pCount
  split
  · exact h.good _
  · exact h.bad 3 (by decide)
theorem rel_text {s p : Wst} (h : Rel s p) (t : ByteArray) : Rel (wText s t) (pText p t) := by
  have hc := rel_count h t.size 16
  unfold wText pText
  split
  · rename_i he
    have := hc.good (chars t)
    rwa [he] at this
  · rename_i he
    have hp : pPut (pCount p t.size 16) (chars t) 0 = pCount p t.size 16 := if_neg (hc.1 ▸ he)
    rwa [hp]
theorem rel_kind {s p : Wst} (h : Rel s p) (t : Int) : Rel (wKind s t) (pKind p t) := by
  unfold wKind pKind
  split
  · exact h.good _
  · exact h.bad 32 (by decide)
theorem rel_ins {s p : Wst} (h : Rel s p) (i : S23) : Rel (wIns s i) (pIns p i) := by
  unfold wIns pIns
  split
  · exact h.good _
  · exact h.bad 30 (by decide)
theorem rel_all {α : Type} {f g : Wst → α → Wst} (hfg : ∀ s p x, Rel s p → Rel (f s x) (g p x)) : ∀ (l : List α) (s p : Wst), Rel s p → Rel (wAll f s l) (wAll g p l) := by
  intro l
  induction l with
  | nil => exact fun s p h => h
  | cons x l ih =>
    intro s p h
    unfold wAll
    by_cases he : s.2 = 0
    · rw [if_pos he, if_pos (h.1 ▸ he)]
      exact ih _ _ (hfg _ _ _ h)
    · rw [if_neg he, if_neg (h.1 ▸ he)]
      exact h
theorem rel_kinds {s p : Wst} (h : Rel s p) (l : List Int) (most : Nat) : Rel (wKinds s l most) (pKinds p l most) := rel_all (fun _ _ x h => rel_kind h x) _ _ _ (rel_count h _ _)
theorem rel_field {s p : Wst} (h : Rel s p) (f : S44) : Rel (wField s f) (pField p f) := rel_kind (rel_text h _) _
theorem rel_class {s p : Wst} (h : Rel s p) (c : S42) : Rel (wClass s c) (pClass p c) := rel_all (fun _ _ x h => rel_field h x) _ _ _ (rel_count (rel_text h _) _ _)
theorem rel_func {s p : Wst} (h : Rel s p) (f : S48) : Rel (wFunc s f) (pFunc p f) := rel_all (fun _ _ x h => rel_ins h x) _ _ _ (rel_count (rel_kinds (rel_kind (rel_kinds (rel_text h _) _ _) _) _ _) _ _)
theorem rel0 (cs : List S42) : Rel (e0_ cs) (r0_ cs) := rel_count ⟨rfl, fun _ => rfl, Nat.le_refl _⟩ _ _
theorem rel1 (cs : List S42) : Rel (e1_ cs) (r1_ cs) := rel_all (fun _ _ x h => rel_class h x) _ _ _ (rel0 cs)
theorem rel2 (cs : List S42) (fs : List S48) : Rel (e2_ cs fs) (r2_ cs fs) := rel_count (rel1 cs) _ _
theorem rel3 (cs : List S42) (fs : List S48) : Rel (e3_ cs fs) (r3_ cs fs) := rel_all (fun _ _ x h => rel_func h x) _ _ _ (rel2 cs fs)
theorem ref_enc (cs : List S42) (fs : List S48) : refN cs fs = encN cs fs := by
  obtain ⟨h1, h2, _⟩ := rel3 cs fs
  unfold refN encN
  rw [← h1]
  split
  · rename_i he
    exact (Prod.ext (h2 he) h1).symm
  · rfl
end Go.Proofs.Ytakpdmkfengghaa.Wr
