/- Ownership of memory, as lists of parts that lie apart: plain definitions and lemmas over the model's worlds. No condition. -/
import Derived.Below
import Derived.Deep.Draws
import Derived.Deep.RegionLaw
import Derived.Maps.AppendAt
import Derived.Laws.MakeOwn
import Derived.Laws.OwnMore
import Derived.OneCell
import Derived.Lib.AppendStr
set_option linter.unusedVariables false
set_option linter.unusedSimpArgs false
namespace Go.Proofs.YtelfiegocdjnoaaDoor.Sep
open Go Go.RowKit

/-- A part of memory: what holds of a world and of the set of blocks that the part is. -/
structure HP where
  h : World → (Nat → Prop) → Prop
  loc : ∀ {w w' : World} {S : Nat → Prop}, (∀ k, S k → w'.heap[k]? = w.heap[k]?) → h w S → h w' S
  lt : ∀ {w : World} {S : Nat → Prop}, h w S → ∀ k, S k → k < w.heap.size

def emp : HP := ⟨fun _ S => ∀ k, ¬ S k, fun _ h => h, fun h k hk => absurd hk (h k)⟩
def star (P Q : HP) : HP :=
  ⟨fun w S => ∃ S1 S2 : Nat → Prop, (∀ k, S k ↔ S1 k ∨ S2 k) ∧ (∀ k, S1 k → ¬ S2 k) ∧ P.h w S1 ∧ Q.h w S2,
   fun hk ⟨S1, S2, hS, hd, h1, h2⟩ => ⟨S1, S2, hS, hd, P.loc (fun k h => hk k ((hS k).2 (.inl h))) h1, Q.loc (fun k h => hk k ((hS k).2 (.inr h))) h2⟩,
   fun ⟨S1, S2, hS, _, h1, h2⟩ k hk => ((hS k).1 hk).elim (P.lt h1 k) (Q.lt h2 k)⟩
def ex {α : Type} (P : α → HP) : HP := ⟨fun w S => ∃ x, (P x).h w S, fun hk ⟨x, h⟩ => ⟨x, (P x).loc hk h⟩, fun ⟨x, h⟩ k hk => (P x).lt h k hk⟩
def fact (p : Prop) : HP := ⟨fun _ S => p ∧ ∀ k, ¬ S k, fun _ h => h, fun h k hk => absurd hk (h.2 k)⟩
/-- A block, known whole. -/
def blk (g : Nat) (cs : Array Value) (t : TypeId) : HP :=
  ⟨fun w S => (∀ k, S k ↔ k = g) ∧ w.heap[g]? = some (.cells cs t (0, 0)),
   fun hk ⟨hS, h⟩ => ⟨hS, (hk g ((hS g).2 rfl)).trans h⟩,
   fun ⟨hS, h⟩ k hk => by rw [(hS k).1 hk]; exact (Array.getElem?_eq_some_iff.1 h).1⟩
/-- A slice's own row: nil; or it begins its block, of which no cell is frozen; or it is all of its block. -/
def Owns (w : World) (b : Nat) (e : TypeId) (size : Nat) (v : Value) (n : Nat) (xs : List Value) : Prop :=
  w.ownsRow b e size v n xs ∨ ∃ g cur fz, v = .slice (some ⟨g, 0, none⟩) n n ∧ b ≤ g ∧ w.heap[g]? = some (.cells cur e fz) ∧ n ≤ maxLen ∧ cur.size = n * size ∧ cur.toList = xs
theorem Owns.len {w : World} {b : Nat} {e : TypeId} {size n : Nat} {v : Value} {xs : List Value} (h : Owns w b e size v n xs) : xs.length = n * size := by
  rcases h with h | ⟨g, cur, fz, _, _, _, _, h1, h2⟩
  · exact h.1
  · rw [← h2, ← h1]; simp
theorem Owns.slice {w : World} {b : Nat} {e : TypeId} {size n : Nat} {v : Value} {xs : List Value} (h : Owns w b e size v n xs) : ∃ A c, v = .slice A n c ∧ n ≤ c ∧ c ≤ maxLen := by
  rcases h with h | ⟨g, cur, fz, rfl, _, _, h0, _⟩
  · rcases h.2 with ⟨rfl, rfl⟩ | ⟨g, cap, cur, rfl, _, _, h1, h2, _⟩
    · exact ⟨none, 0, rfl, Nat.le_refl _, by simp [maxLen]⟩
    · exact ⟨_, cap, rfl, h1, h2⟩
  · exact ⟨_, n, rfl, Nat.le_refl _, h0⟩
theorem Owns.at {w : World} {b : Nat} {e : TypeId} {size n : Nat} {v : Value} {xs : List Value} (h : Owns w b e size v n xs) (k : Nat) (hk : v.ownBlock = some k) :
    b ≤ k ∧ ∃ cur fz, w.heap[k]? = some (.cells cur e fz) := by
  rcases h with h | ⟨g, cur, fz, rfl, hb, hh, h0, _⟩
  · rcases h.2 with ⟨rfl, rfl⟩ | ⟨g, cap, cur, rfl, hb, hh, h1, h2, _⟩
    · simp [Value.ownBlock] at hk
    · have : g = k := by simpa [Value.ownBlock] using hk
      subst this
      exact ⟨hb, _, _, hh⟩
  · have : g = k := by simpa [Value.ownBlock] using hk
    subst this
    exact ⟨hb, _, _, hh⟩
theorem Owns.rebase {w : World} {b b' : Nat} {e : TypeId} {size n : Nat} {v : Value} {xs : List Value} (h : Owns w b e size v n xs) (hb : ∀ k, v.ownBlock = some k → b' ≤ k) : Owns w b' e size v n xs := by
  rcases h with h | ⟨g, cur, fz, rfl, h0, hr⟩
  · exact .inl ⟨h.1, h.2.imp id fun ⟨g, cap, cur, h1, _, h2⟩ => ⟨g, cap, cur, h1, hb g (by rw [h1]; rfl), h2⟩⟩
  · exact .inr ⟨g, cur, fz, rfl, hb g rfl, hr⟩
theorem Owns.move {w w' : World} {b : Nat} {e : TypeId} {size n : Nat} {v : Value} {xs : List Value} (h : Owns w b e size v n xs) (hm : ∀ k, v.ownBlock = some k → w'.heap[k]? = w.heap[k]?) : Owns w' b e size v n xs := by
  rcases h with h | ⟨g, cur, fz, rfl, h0, hh, hr⟩
  · exact .inl ⟨h.1, h.2.imp id fun ⟨g, cap, cur, h1, h0, hh, h2⟩ => ⟨g, cap, cur, h1, h0, (hm g (by rw [h1]; rfl)).trans hh, h2⟩⟩
  · exact .inr ⟨g, cur, fz, rfl, h0, (hm g rfl).trans hh, hr⟩
theorem Owns.cells {w : World} {b : Nat} {e : TypeId} {size n c : Nat} {ad : Addr} {xs : List Value} (h : Owns w b e size (.slice (some ad) n c) n xs) : ∀ j u, xs[j]? = some u → w.cell? (ad.add j) = some u := by
  intro j u hj
  rcases h with h | ⟨g, cur, fz, he, h0, hh, hm, hs, hl⟩
  · rcases h.2 with ⟨he, _⟩ | ⟨g, cap, cur, he, _⟩
    · cases he
    · injection he with he
      injection he with he
      subst he
      exact h.cells (g := g) rfl j u hj
  · injection he with he
    injection he with he
    subst he
    have ha : (⟨g, 0, none⟩ : Addr).add j = ⟨g, j, none⟩ := by unfold Addr.add; split <;> simp_all
    rw [ha]
    simp only [World.cell?, hh]
    rw [← hl, Array.getElem?_toList] at hj
    simpa using hj
def row (e : TypeId) (size : Nat) (v : Value) (n : Nat) (xs : List Value) : HP :=
  ⟨fun w S => (∀ k, S k ↔ v.ownBlock = some k) ∧ Owns w 0 e size v n xs,
   fun hk ⟨hS, h⟩ => ⟨hS, h.move fun k hv => hk k ((hS k).2 hv)⟩,
   fun ⟨hS, h⟩ k hk => by
     obtain ⟨_, cur, fz, hh⟩ := h.at k ((hS k).1 hk)
     exact (Array.getElem?_eq_some_iff.1 hh).1⟩

def seps (L : List HP) : HP := L.foldr star emp

/-- The world w, come from w0: all that lay there lies there still; what L tells lies in blocks that are new since. -/
structure St (w0 w : World) (L : List HP) : Prop where
  below : Below w0.heap.size w0 w
  own : ∃ S : Nat → Prop, (∀ k, S k → w0.heap.size ≤ k) ∧ (seps L).h w S

theorem seps_perm {L L' : List HP} (hp : L.Perm L') : ∀ {w : World} {S : Nat → Prop}, (seps L).h w S → (seps L').h w S := by
  induction hp with
  | nil => exact id
  | cons x _ ih =>
    rintro w S ⟨S1, S2, hS, hd, h1, h2⟩
    exact ⟨S1, S2, hS, hd, h1, ih h2⟩
  | swap x y l =>
    rintro w S ⟨S1, S2, hS, hd, h1, S3, S4, hS', hd', h3, h4⟩
    refine ⟨S3, fun k => S1 k ∨ S4 k, fun k => ?_, fun k hk => ?_, h3, S1, S4, fun k => Iff.rfl, fun k hk => ?_, h1, h4⟩
    · rw [hS, hS']
      constructor
      · rintro (h | h | h)
        · exact .inr (.inl h)
        · exact .inl h
        · exact .inr (.inr h)
      · rintro (h | h | h)
        · exact .inr (.inl h)
        · exact .inl h
        · exact .inr (.inr h)
    · rintro (h | h)
      · exact hd k h ((hS' k).2 (.inl hk))
      · exact hd' k hk h
    · exact fun h => hd k hk ((hS' k).2 (.inr h))
  | trans _ _ ih1 ih2 => exact fun h => ih2 (ih1 h)

theorem seps_append {L L' : List HP} : ∀ {w : World} {S S' : Nat → Prop}, (∀ k, S k → ¬ S' k) → (seps L).h w S → (seps L').h w S' → (seps (L ++ L')).h w (fun k => S k ∨ S' k) := by
  induction L with
  | nil =>
    intro w S S' hd h h'
    have e : (fun k => S k ∨ S' k) = S' := funext fun k => propext ⟨fun hk => hk.elim (fun z => absurd z (h k)) id, .inr⟩
    rw [e]
    exact h'
  | cons x l ih =>
    rintro w S S' hd ⟨S1, S2, hS, hd', h1, h2⟩ h'
    refine ⟨S1, fun k => S2 k ∨ S' k, fun k => ?_, fun k hk => ?_, h1, ih (fun k hk => hd k ((hS k).2 (.inr hk))) h2 h'⟩
    · show S k ∨ S' k ↔ S1 k ∨ S2 k ∨ S' k
      rw [hS, or_assoc]
    · rintro (h | h)
      · exact hd' k hk h
      · exact hd k ((hS k).2 (.inl hk)) h

section
variable {w0 w w1 : World} {L L' : List HP} {P Q : HP}
theorem List.getElem_cons_eraseIdx_perm' {α : Type _} : ∀ {l : List α} {i : Nat} (h : i < l.length), (l[i] :: l.eraseIdx i).Perm l
  | x :: l, 0, _ => List.Perm.refl _
  | x :: l, i + 1, h => (List.Perm.swap _ _ _).trans ((List.getElem_cons_eraseIdx_perm' (l := l) (i := i) (by simpa using h)).cons x)
theorem St.start (w : World) : St w w [] := ⟨Below.refl _ _, fun _ => False, fun _ h => h.elim, fun _ h => h⟩
theorem St.perm (h : St w0 w L) (hp : L.Perm L') : St w0 w L' := ⟨h.below, let ⟨S, h1, h2⟩ := h.own; ⟨S, h1, seps_perm hp h2⟩⟩
theorem St.pick (h : St w0 w L) (i : Nat) (hi : L[i]? = some P) : St w0 w (P :: L.eraseIdx i) := by
  refine h.perm ?_
  obtain ⟨hl, rfl⟩ := List.getElem?_eq_some_iff.1 hi
  exact (List.getElem_cons_eraseIdx_perm' hl).symm
theorem St.rest (h : St w0 w (P :: L)) : St w0 w L := by
  obtain ⟨S, h1, S1, S2, hS, hd, h2, h3⟩ := h.own
  exact ⟨h.below, S2, fun k hk => h1 k ((hS k).2 (.inr hk)), h3⟩
theorem St.size_le (h : St w0 w L) : w0.heap.size ≤ w.heap.size := h.below.size
theorem St.drew (h : St w0 w L) : St w0 w.drew L := ⟨h.below.drew, let ⟨S, h1, h2⟩ := h.own; ⟨S, h1, (seps L).loc (w := w) (fun _ _ => rfl) h2⟩⟩
theorem below_drewN' {B : Nat} {w W : World} (h : Below B w W) (n : Nat) : Below B w (W.drewN n) := ⟨h.os, h.tape, h.output, h.size, h.block⟩
theorem St.drewN (h : St w0 w L) (n : Nat) : St w0 (w.drewN n) L := ⟨below_drewN' h.below n, let ⟨S, h1, h2⟩ := h.own; ⟨S, h1, (seps L).loc (w := w) (fun _ _ => rfl) h2⟩⟩
/-- All that lay there lies there still. -/
theorem St.step (h : St w0 w L) (hb : Below w.heap.size w w1) : St w0 w1 L := by
  obtain ⟨S, h1, h2⟩ := h.own
  refine ⟨h.below.trans (hb.mono h.size_le), S, h1, (seps L).loc (fun k hk => hb.block k ((seps L).lt h2 k hk)) h2⟩
/-- What a call made lies apart from all that was. -/
theorem St.join (h : St w0 w L) (hn : St w w1 L') : St w0 w1 (L' ++ L) := by
  obtain ⟨S, h1, h2⟩ := h.own
  obtain ⟨S', h1', h2'⟩ := hn.own
  have hl := (seps L).lt h2
  refine ⟨h.below.trans (hn.below.mono h.size_le), fun k => S' k ∨ S k, fun k hk => hk.elim (fun z => Nat.le_trans h.size_le (h1' k z)) (h1 k), seps_append (fun k hk hk2 => ?_) h2' ((seps L).loc (fun k hk => hn.below.block k (hl k hk)) h2)⟩
  have := h1' k hk
  have := hl k hk2
  omega
theorem St.mono (h : St w0 w (P :: L)) (hpq : ∀ {S}, P.h w S → Q.h w S) : St w0 w (Q :: L) := by
  obtain ⟨S, h1, S1, S2, hS, hd, h2, h3⟩ := h.own
  exact ⟨h.below, S, h1, S1, S2, hS, hd, hpq h2, h3⟩
/-! ### Blocks -/
theorem St.heap {g : Nat} {cs : Array Value} {t : TypeId} (h : St w0 w (blk g cs t :: L)) : w.heap[g]? = some (.cells cs t (0, 0)) := by
  obtain ⟨S, h1, S1, S2, hS, hd, h2, h3⟩ := h.own
  exact h2.2
theorem St.ge {g : Nat} {cs : Array Value} {t : TypeId} (h : St w0 w (blk g cs t :: L)) : w0.heap.size ≤ g := by
  obtain ⟨S, h1, S1, S2, hS, hd, h2, h3⟩ := h.own
  exact h1 g ((hS g).2 (.inl ((h2.1 g).2 rfl)))
theorem heap_new (w : World) (o : Obj) : (w.alloc o).heap[w.heap.size]? = some o := by unfold World.alloc; simp
theorem St.alloc (h : St w0 w L) (cs : Array Value) (t : TypeId) : St w0 (w.alloc (.cells cs t (0, 0))) (blk w.heap.size cs t :: L) := by
  obtain ⟨S, h1, h2⟩ := h.own
  have hl := (seps L).lt h2
  refine ⟨h.below.alloc h.size_le _, fun k => k = w.heap.size ∨ S k, ?_, fun k => k = w.heap.size, S, fun k => Iff.rfl, ?_, ⟨fun k => Iff.rfl, heap_new w _⟩, (seps L).loc (fun k hk => Below.heap_alloc w _ k (hl k hk)) h2⟩
  · rintro k (rfl | hk)
    · exact h.size_le
    · exact h1 k hk
  · rintro k rfl hk
    exact absurd (hl _ hk) (Nat.lt_irrefl _)
theorem St.garbage (h : St w0 w L) (o : Obj) : St w0 (w.alloc o) L := by
  obtain ⟨S, h1, h2⟩ := h.own
  exact ⟨h.below.alloc h.size_le _, S, h1, (seps L).loc (fun k hk => Below.heap_alloc w _ k ((seps L).lt h2 k hk)) h2⟩
theorem St.set {g : Nat} {cs : Array Value} {t : TypeId} (h : St w0 w (blk g cs t :: L)) (i : Nat) (u : Value) :
    St w0 (w.setCell ⟨g, i, none⟩ u) (blk g (cs.setIfInBounds i u) t :: L) := by
  have hg := h.ge
  obtain ⟨S, h1, S1, S2, hS, hd, h2, h3⟩ := h.own
  refine ⟨h.below.setCell hg u, S, h1, S1, S2, hS, hd, ⟨h2.1, ?_⟩, (seps L).loc (fun k hk => Below.heap_setCell w ⟨g, i, none⟩ u k ?_) h3⟩
  · simp [World.setCell, Array.getElem?_modify, h2.2]
  · rintro rfl
    exact hd _ ((h2.1 _).2 rfl) hk
theorem St.put {g : Nat} {cs cs' : Array Value} {t : TypeId} (h : St w0 w (blk g cs t :: L)) (i : Nat) (u : Value) (e : cs.setIfInBounds i u = cs') :
    St w0 (w.setCell ⟨g, i, none⟩ u) (blk g cs' t :: L) := e ▸ h.set i u
theorem St.cell {g : Nat} {cs : Array Value} {t : TypeId} (h : St w0 w (blk g cs t :: L)) (i : Nat) : w.cell? ⟨g, i, none⟩ = cs[i]? := by simp [World.cell?, h.heap]
theorem St.frozen {g : Nat} {cs : Array Value} {t : TypeId} (h : St w0 w (blk g cs t :: L)) (i : Nat) : w.frozen? ⟨g, i, none⟩ = false := by simp [World.frozen?, h.heap]

/-! ### Rows -/
section
variable {e : TypeId} {size n : Nat} {v : Value} {xs : List Value}
theorem St.owns (h : St w0 w (row e size v n xs :: L)) : Owns w w0.heap.size e size v n xs := by
  obtain ⟨S, h1, S1, S2, hS, hd, h2, h3⟩ := h.own
  exact h2.2.rebase fun k hk => h1 k ((hS k).2 (.inl ((h2.1 k).2 hk)))
/-- The row has been written to, or lies elsewhere now; nothing else has changed. -/
theorem St.grown (h : St w0 w (row e size v n xs :: L)) {v1 : Value} {n1 : Nat} {xs1 : List Value} (ho : Owns w1 w0.heap.size e size v1 n1 xs1)
    (hg : w.grownBy w1 v.ownBlock) (hat : v1.ownBlock = v.ownBlock ∨ ∃ b, v1.ownBlock = some b ∧ w.heap.size ≤ b) : St w0 w1 (row e size v1 n1 xs1 :: L) := by
  have hb := h.owns
  obtain ⟨S, h1, S1, S2, hS, hd, h2, h3⟩ := h.own
  have hl := (seps L).lt h3
  have hbase : ∀ k, v.ownBlock = some k → w0.heap.size ≤ k := fun k hk => h1 k ((hS k).2 (.inl ((h2.1 k).2 hk)))
  refine ⟨h.below.grown hg h.size_le hbase, fun k => v1.ownBlock = some k ∨ S2 k, ?_, fun k => v1.ownBlock = some k, S2, fun k => Iff.rfl, ?_, ⟨fun k => Iff.rfl, ho.rebase fun _ _ => Nat.zero_le _⟩, (seps L).loc (fun k hk => hg.block k (hl k hk) fun hk2 => hd k ((h2.1 k).2 hk2.symm) hk) h3⟩
  · rintro k (hk | hk)
    · rcases hat with hat | ⟨b, hat, hle⟩
      · exact hbase k (hat ▸ hk)
      · rw [hat] at hk
        have : b = k := by simpa using hk
        subst this
        exact Nat.le_trans h.size_le hle
    · exact h1 k ((hS k).2 (.inr hk))
  · intro k hk hk2
    rcases hat with hat | ⟨b, hat, hle⟩
    · exact hd k ((h2.1 k).2 (hat ▸ hk)) hk2
    · rw [hat] at hk
      have : b = k := by simpa using hk
      subst this
      exact absurd (hl _ hk2) (by omega)
theorem St.nil_row (h : St w0 w L) (e : TypeId) (size : Nat) : St w0 w (row e size (.slice none 0 0) 0 [] :: L) := by
  obtain ⟨S, h1, h2⟩ := h.own
  exact ⟨h.below, S, h1, fun _ => False, S, fun k => by simp, fun _ h => h.elim, ⟨fun k => by simp [Value.ownBlock], .inl ⟨by simp, .inl ⟨rfl, rfl⟩⟩⟩, h2⟩
/-- A row that isn't empty. -/
theorem St.row_some (h : St w0 w (row e size v n xs :: L)) (hn : 0 < n) : ∃ g c, v = .slice (some ⟨g, 0, none⟩) n c ∧ n ≤ c ∧ ∀ j u, xs[j]? = some u → w.cell? ⟨g, j, none⟩ = some u := by
  have ho := h.owns
  have ha : ∀ g j, (⟨g, 0, none⟩ : Addr).add j = ⟨g, j, none⟩ := fun g j => by unfold Addr.add; split <;> simp_all
  rcases ho with ho2 | ⟨g, cur, fz, rfl, hr⟩
  · rcases ho2.2 with ⟨_, h0⟩ | ⟨g, cap, cur, rfl, _, _, h1, _⟩
    · omega
    · exact ⟨g, cap, rfl, h1, fun j u hj => ha g j ▸ h.owns.cells j u hj⟩
  · exact ⟨g, n, rfl, Nat.le_refl _, fun j u hj => ha g j ▸ h.owns.cells j u hj⟩
theorem St.row_slice (h : St w0 w (row e size v n xs :: L)) : ∃ A c, v = .slice A n c ∧ n ≤ c ∧ c ≤ maxLen := h.owns.slice
end
end

/-! ### append -/
section
variable {P : Program}
/-- What lies in a new row that is made by growing. -/
theorem owns_grown (w : World) (b : Nat) (e : TypeId) (z : Value) (size need old : Nat) (xs : List Value) (hz : z.cells.size = size) (hl : xs.length = need * size) (hn : need ≤ maxLen) (hb : b ≤ w.heap.size) (zs : Array Value)
    (hzs : zs = Builtin.zeroCells z.cells (grownCap w need old e - need)) :
    Owns (w.drew.alloc (.cells (xs.toArray ++ zs) e)) b e size (.slice (some ⟨w.heap.size, 0, none⟩) need (grownCap w need old e)) need xs := by
  have hge := grownCap_ge w need old e
  have hcm := grownCap_le_maxLen w need old e hn
  refine .inl ⟨hl, .inr ⟨w.heap.size, _, _, rfl, hb, heap_new w.drew _, hge, hcm, ?_, ?_⟩⟩
  · rw [hzs, Array.size_append, size_zeroCells, hz, List.size_toArray, hl, ← Nat.add_mul]
    congr 1
    omega
  · rw [Array.toList_append, ← hl]
    exact List.take_left' rfl
theorem grown_new (w : World) (o : Obj) (row : Option Nat) : w.grownBy (w.drew.alloc o) row := ⟨rfl, rfl, rfl, by simp, fun k hk _ => Below.heap_alloc w.drew o k hk⟩
/-- THE LAW: what is appended to an own row. -/
theorem run_append_owns (w : World) (base : Nat) (t ty e : TypeId) (i : TypeInfo) (z : Value) (size bytes : Nat) (ht : P.underlying t = some (.slice e)) (hi : P.info? e = some i) (hz : i.zero = some z)
    (hsize : i.size = size) (hby : i.bytes = bytes) (hzs : z.cells.size = size) (hsz : 0 < size) (v : Value) (n : Nat) (xs : List Value) (hown : Owns w base e size v n xs)
    (a : Addr) (m c : Nat) (news : List Value) (hl : news.length = m * size) (hnews : ∀ j u, news[j]? = some u → w.cell? (a.add j) = some u) (h1 : ∀ u ∈ news, u.oneCell' = true)
    (h63 : n + m ≤ maxLen) (hbytes : (n + m) * bytes ≤ 140737488355328) (hbase : base ≤ w.heap.size) :
    ∃ v' w', (Builtin.append_ #[t, t] ty #[v, .slice (some a) m c]).run P w = .ok v' w' ∧ Owns w' base e size v' (n + m) (xs ++ news) ∧ w.grownBy w' v.ownBlock ∧
      (v'.ownBlock = v.ownBlock ∨ ∃ b, v'.ownBlock = some b ∧ w.heap.size ≤ b) := by
  rcases hown with hown | ⟨g, cur, fz, rfl, hb, hh, hm, hs, hx⟩
  · obtain ⟨v1, w1, hr, ho, hg, _, hat⟩ := run_append_own_at (P := P) w base t ty e i z size bytes ht hi hz hsize hby hzs hsz v n xs hown a m c news hl hnews h1 h63 hbytes hbase
    exact ⟨v1, w1, hr, .inl ho, hg, hat.imp id fun hat => ⟨_, hat, Nat.le_refl _⟩⟩
  · have hxl : xs.length = n * size := by rw [← hx, ← hs]; simp
    have hcells := Owns.cells (c := n) (Or.inr ⟨g, cur, fz, rfl, hb, hh, hm, hs, hx⟩ : Owns w base e size (.slice (some ⟨g, 0, none⟩) n n) n xs)
    by_cases h0 : m = 0
    · subst h0
      obtain rfl : news = [] := List.eq_nil_of_length_eq_zero (by simpa using hl)
      refine ⟨.slice (some ⟨g, 0, none⟩) n n, w, ?_, by rw [List.append_nil]; exact Or.inr ⟨g, cur, fz, rfl, hb, hh, hm, hs, hx⟩, ⟨rfl, rfl, rfl, Nat.le_refl _, fun _ _ _ => rfl⟩, .inl rfl⟩
      have hf := run_firstCells_some (P := P) w i.size 0 a 0 c [] (by simp) (by simp)
      simp [Builtin.append_, run_underlying ht, sizeOf, typeInfo, hi, Builtin.lenOf, hf, storeCells]
    · have hr := run_append_grow (P := P) w t ty e i z ht hi hz ⟨g, 0, none⟩ n n xs (by rw [hsize]; exact hxl) hcells a m c news (by rw [hsize]; exact hl) hnews (by omega) (by simp only [maxLen] at h63; omega) (growslice_fits (by omega) (by rw [hby]; exact hbytes))
      refine ⟨_, _, hr, ?_, grown_new _ _ _, .inr ⟨_, rfl, Nat.le_refl _⟩⟩
      have := owns_grown w base e z size (n + m) n (xs ++ news) hzs (by rw [List.length_append, hxl, hl, Nat.add_mul]) h63 hbase _ rfl
      simpa using this
end
section
variable {P : Program} {ops : Array Oper} {rest : List Oper} {o : Oper} {a : Act} {Q : Exit → Act → World → Prop} {w0 W : World} {F : List HP}
/-- append(s, t...), t a slice that reads. -/
theorem append_run (hgd : o.guard = none) (s x : Operand) (t e : TypeId) (z : Value) (size bytes : Nat)
    (ho : o.op = .call { callee := .builtin .append, args := #[s, x], argTypes := #[t, t] })
    (ht : P.underlying t = some (.slice e)) (hinfo : (P.info? e).map (fun i => (i.zero, i.size, i.bytes)) = some (some z, size, bytes)) (hz : z.cells.size = size) (hsz : 0 < size) (hb0 : 0 < bytes)
    (v : Value) (n : Nat) (xs : List Value) (hs : a.eval s = v) (ad : Addr) (m c : Nat) (ys : List Value) (hx : a.eval x = .slice (some ad) m c) (hyl : ys.length = m * size)
    (hys : ∀ j u, ys[j]? = some u → W.cell? (ad.add j) = some u) (h1 : ∀ u ∈ ys, u.oneCell' = true)
    (H : St w0 W (row e size v n xs :: F)) (hl : (n + m) * bytes ≤ 140737488355328)
    (h : ∀ A1 c1 w1, n + m ≤ c1 → St w0 w1 (row e size (.slice A1 (n + m) c1) (n + m) (xs ++ ys) :: F) → wpList P ops Q rest (a.put o.dst (.slice A1 (n + m) c1)) w1) :
    wpList P ops Q (o :: rest) a W := by
  obtain ⟨i0, hi, hzz⟩ := Option.map_eq_some_iff.1 hinfo
  simp only [Prod.mk.injEq] at hzz
  obtain ⟨hz0, hz1, hz2⟩ := hzz
  have hlen : n + m ≤ 140737488355328 := Nat.le_trans (Nat.le_mul_of_pos_right _ hb0) hl
  refine wpList_plain hgd fun K hK => ?_
  obtain ⟨v1, w1, hr, hown, hg, hat⟩ := run_append_owns (P := P) W w0.heap.size t o.type e i0 z size bytes ht hi hz0 hz1 hz2 hz hsz v n xs H.owns ad m c ys hyl hys h1 (by simp only [maxLen]; omega) hl H.size_le
  have H2 := H.grown hown hg hat
  obtain ⟨A1, c1, rfl, hc1, _⟩ := H2.row_slice
  unfold Oper.wp execOp
  simp only [ho, resolve, invoke, builtin, Sem.run_bind, Sem.run_pure, Result.andThen_ok, List.map_toArray, List.map_cons, List.map_nil, hs, hx, hr]
  exact hK _ _ (h A1 c1 w1 hc1 H2)
end
end Go.Proofs.YtelfiegocdjnoaaDoor.Sep
