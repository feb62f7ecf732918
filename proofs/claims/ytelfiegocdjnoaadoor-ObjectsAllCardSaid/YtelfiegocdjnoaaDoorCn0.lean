/- Maps from texts to numbers, as parts of memory; is a text a name. Conditions: texts that are no longer than a text can be. -/
import Derived.Test.YtelfiegocdjnoaaDoorMgN
import Derived.Maps.OwnOps
import Derived.StringKeys
import Derived.Test.YtelfiegocdjnoaaDoorMrF0
import Derived.Test.YtelfiegocdjnoaaDoorMrF1
import Derived.Test.YtelfiegocdjnoaaDoorMrF2
namespace Go.Proofs.YtelfiegocdjnoaaDoor.Ar
open Go Go.RowKit Go.Maps Go.Proofs.YtelfiegocdjnoaaDoor.Sep Go.Proofs.YtelfiegocdjnoaaDoorW.PrintWords Go.Proofs.YtelfiegocdjnoaaDoorW.PrintLast Go.Proofs.YtelfiegocdjnoaaDoorW.PrintMore Go.Proofs.YtelfiegocdjnoaaDoor.Q
set_option linter.unusedVariables false
set_option linter.unusedSimpArgs false
set_option maxHeartbeats 8000000
set_option maxRecDepth 100000
theorem keys_ : Keyed Tryd.prog 9 := string_keyed Tryd.underlying9
theorem zero3_ (w : World) : (zeroValue 3).run Tryd.prog w = .ok (.int .i64 0) w := by kernel_rfl
theorem OwnsMap_move {w w' : World} {b n : Nat} {D : DataW Nat} (h : w.ownsMap Tryd.prog 9 (plainElem Tryd.prog 3) b n D) (hm : w'.heap[b]? = w.heap[b]?) : w'.ownsMap Tryd.prog 9 (plainElem Tryd.prog 3) b n D := by
  obtain ⟨es, clock, hb, F, hs, hD⟩ := h
  exact ⟨es, clock, hm.trans hb, F, hs, hD⟩
/-- A map from texts to numbers, of so many entries at most. -/
def mapP (b n : Nat) : HP :=
  ⟨fun w S => (∀ k, S k ↔ k = b) ∧ ∃ D : DataW Nat, w.ownsMap Tryd.prog 9 (plainElem Tryd.prog 3) b n D,
   fun hk ⟨hS, D, h⟩ => ⟨hS, D, OwnsMap_move h (hk b ((hS b).2 rfl))⟩,
   fun ⟨hS, D, h⟩ k hk => by rw [(hS k).1 hk]; exact h.lt⟩
theorem map_made {w0 w : World} {L : List HP} (h : St w0 w L) : St w0 (w.alloc (.map #[] 0)) (mapP w.heap.size 0 :: L) := by
  obtain ⟨S, h1, h2⟩ := h.own
  have hl := (seps L).lt h2
  refine ⟨h.below.alloc h.size_le _, fun k => k = w.heap.size ∨ S k, ?_, fun k => k = w.heap.size, S, fun k => Iff.rfl, ?_, ⟨fun k => Iff.rfl, _, World.ownsMap_made w _ _ _⟩, (seps L).loc (fun k hk => Below.heap_alloc w _ k (hl k hk)) h2⟩
  · rintro k (rfl | hk)
    · exact h.size_le
    · exact h1 k hk
  · rintro k rfl hk
    exact absurd (hl _ hk) (Nat.lt_irrefl _)
theorem map_owns {w0 w : World} {L : List HP} {b n : Nat} (h : St w0 w (mapP b n :: L)) : ∃ D : DataW Nat, w.ownsMap Tryd.prog 9 (plainElem Tryd.prog 3) b n D := by
  obtain ⟨S, h1, S1, S2, hS, hd, h2, h3⟩ := h.own
  exact h2.2
theorem map_put {w0 w w1 : World} {L : List HP} {b n n' : Nat} {D : DataW Nat} (h : St w0 w (mapP b n :: L)) (ho : w1.ownsMap Tryd.prog 9 (plainElem Tryd.prog 3) b n' D) (hg : w.grownBy w1 (some b)) : St w0 w1 (mapP b n' :: L) := by
  obtain ⟨S, h1, S1, S2, hS, hd, h2, h3⟩ := h.own
  have hl := (seps L).lt h3
  have hb : w0.heap.size ≤ b := h1 b ((hS b).2 (.inl ((h2.1 b).2 rfl)))
  refine ⟨h.below.grown hg h.size_le (fun k hk => by cases hk; exact hb), S, h1, S1, S2, hS, hd, ⟨h2.1, D, ho⟩, (seps L).loc (fun k hk => hg.block k (hl k hk) fun hk2 => ?_) h3⟩
  cases hk2
  exact hd b ((h2.1 b).2 rfl) hk
section
variable {ops : Array Oper} {rest : List Oper} {o : Oper} {a : Act} {Q : Exit → Act → World → Prop} {w0 W : World} {F : List HP} {b n : Nat}
theorem map_look (hg : o.guard = none) (m x : Operand) (hop : o.op = Op.lookup 158 m x false) (s : ByteArray) (hs : s.size ≤ maxLen) (hm : a.eval m = .map (some b)) (hx : a.eval x = .string s) (H : St w0 W (mapP b n :: F))
    (h : ∀ c : Int, wpList Tryd.prog ops Q rest (a.put o.dst (.int .i64 c)) W) : wpList Tryd.prog ops Q (o :: rest) a W := by
  obtain ⟨D, hD⟩ := map_owns H
  exact wpList_lookup_own_int W hg m x 158 hop 9 3 .i64 keys_ Tryd.underlying158 Tryd.underlying3 (zero3_ W) b n D hm hD _ _ hx (WideMaps.keyOf_string_mk Tryd.underlying9 hs) fun c _ _ => h c
theorem map_upd (hg : o.guard = none) (m x v : Operand) (hop : o.op = Op.mapUpdate 158 m x v) (s : ByteArray) (c : Int) (hs : s.size ≤ maxLen) (hc : (Lit.int .i64 c).wf = true) (hn : n < maxLen) (hm : a.eval m = .map (some b)) (hx : a.eval x = .string s) (hv : a.eval v = .int .i64 c) (H : St w0 W (mapP b n :: F))
    (h : ∀ w1, St w0 w1 (mapP b (n + 1) :: F) → wpList Tryd.prog ops Q rest (a.put o.dst undef) w1) : wpList Tryd.prog ops Q (o :: rest) a W := by
  obtain ⟨D, hD⟩ := map_owns H
  exact wpList_mapUpdate_own W hg m x v 158 hop 9 3 keys_ Tryd.underlying158 (plainElem Tryd.prog 3) b n D hm hD hn _ _ _ hx hv (WideMaps.keyOf_string_mk Tryd.underlying9 hs) _ [] (plainElem_int Tryd.underlying3 hc) fun w' h1 h2 => h w' (map_put H h1 h2)
end
theorem letter_ : ∀ c : Fin 256, ∀ b : Bool, (classes_letter.f 5 (c.val : Int) b).isSome = true := by decide +kernel
theorem name_l (s : ByteArray) (h : s.size ≤ 16) : ∀ (d i k : Nat), i + d = s.size → d + 6 < k → ∃ r, classes_IsName.l0 k s (s.size : Int) (i : Int) = some r := by
  intro d
  induction d with
  | zero =>
    intro i k hi hk
    obtain ⟨k, rfl⟩ : ∃ q, k = q + 1 := ⟨k - 1, by omega⟩
    unfold classes_IsName.l0
    rw [if_neg (by omega)]
    exact ⟨_, rfl⟩
  | succ d ih =>
    intro i k hi hk
    obtain ⟨k, rfl⟩ : ∃ q, k = q + 1 := ⟨k - 1, by omega⟩
    unfold classes_IsName.l0
    rw [if_pos (by omega), if_pos (by omega), if_pos (by omega)]
    have hb := bt_range s (i : Int)
    obtain ⟨c, hc⟩ := Int.eq_ofNat_of_zero_le hb.1
    have hl := letter_ ⟨c, by omega⟩ ((i : Int) == 0)
    obtain ⟨r, hr⟩ := Option.isSome_iff_exists.1 hl
    have hr2 : classes_letter.f k (bt s (i : Int)) ((i : Int) == 0) = some r := by
      rw [hc]
      exact at_rounds (g := fun k => classes_letter.f k (c : Int) ((i : Int) == 0)) (classes_letter.mono _ _) (show 5 ≤ k by omega) hr
    rw [hr2, Option.bind_some]
    by_cases h1 : r = true
    · rw [if_pos h1, show wrap64 ((i : Int) + 1) = ((i + 1 : Nat) : Int) by unfold wrap64; omega]
      exact ih (i + 1) k (by omega) (by omega)
    · rw [if_neg h1]; exact ⟨_, rfl⟩
/-- A text is a name, or isn't; a name is short. -/
theorem name_ (s : ByteArray) : ∃ r, classes_IsName.f 30 s = some r ∧ (r = true → s.size ≤ 16) := by
  unfold classes_IsName.f
  by_cases h1 : (s.size : Int) < 1
  · rw [if_pos h1]; exact ⟨false, rfl, fun h => by cases h⟩
  · rw [if_neg h1]
    by_cases h2 : (s.size : Int) > 16
    · rw [decide_eq_true h2]; exact ⟨false, rfl, fun h => by cases h⟩
    · rw [decide_eq_false h2]
      obtain ⟨r, hr⟩ := name_l s (by omega) s.size 0 29 (by omega) (by omega)
      refine ⟨r, ?_, fun _ => by omega⟩
      exact hr
end Go.Proofs.YtelfiegocdjnoaaDoor.Ar
