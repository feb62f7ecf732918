/- The arena's cells, one by one: what is looked at, set, counted. Conditions: the arena is there; its cells are a row of their own. -/
import Derived.Test.YtelfiegocdjnoaaDoorProg
import Derived.Test.YtelfiegocdjnoaaDoorSep
import Derived.Test.YtelfiegocdjnoaaDoorMrW0
import Derived.Test.YtelfiegocdjnoaaDoorMrF0
import Derived.StillTailTactics
import Derived.OwnWalk
import Derived.WalkKit
import Derived.KernelRfl
import Derived.BigQuiet
import Derived.Deep.QuietTactic
import Derived.Deep.LoopGhost
namespace Go.Proofs.YtelfiegocdjnoaaDoor.Ar
open Go Go.RowKit Go.Proofs.YtelfiegocdjnoaaDoor.Sep Go.Proofs.YtelfiegocdjnoaaDoorW.PrintWords Go.Proofs.YtelfiegocdjnoaaDoorW.PrintLast Go.Proofs.YtelfiegocdjnoaaDoorW.PrintMore Go.Proofs.YtelfiegocdjnoaaDoor.Q
set_option linter.unusedVariables false
set_option linter.unusedSimpArgs false
structure Aside (p : Prop) : Prop where mk :: (out : p)

abbrev U (l : List Int) : List Value := l.map (.int .u64)
/-- The arena's own block; its cells' block. -/
abbrev arB (a gC : Nat) (n : Nat) (lv : Value) (keep : Bool) (cn fl : Int) : HP := blk a #[.slice (some ⟨gC, 0, none⟩) n n, lv, .bool keep, .int .i64 cn, .int .i64 fl] 155
abbrev ceB (gC : Nat) (X : List Int) : HP := blk gC (U X).toArray 22
abbrev poB (p a : Nat) (who : Int) (g : Bool) : HP := blk p #[.pointer (some ⟨a, 0, none⟩), .int .i64 who, .bool g] 151
theorem U_get {X : List Int} {i : Nat} (h : i < X.length) : (U X).toArray[i]? = some (.int .u64 X[i]) := by simp [U, h]
theorem U_set {X : List Int} {i : Nat} (v : Int) : (U X).toArray.setIfInBounds i (.int .u64 v) = (U (X.set i v)).toArray := by
  simp [U, List.map_set]
theorem U_getD {X : List Int} {i : Nat} (h : i < X.length) : (U X).toArray[i]? = some (.int .u64 (X.getD i 0)) := by simp [U, h, List.getD_eq_getElem?_getD]
/-- A row that 'make' made is a block, known whole. -/
theorem St_make {w0 w w' : World} {F : List HP} {e : TypeId} {n : Nat} {xs : List Value} (h : St w0 w F) (hown : w'.ownsRow w0.heap.size e 1 (.slice (some ⟨w.heap.size, 0, none⟩) n n) n xs) (hg : w.grownBy w' none) :
    St w0 w' (blk w.heap.size xs.toArray e :: F) := by
  have h2 := (h.nil_row e 1).grown (.inl hown) hg (.inr ⟨_, rfl, Nat.le_refl _⟩)
  refine h2.mono fun {S} ⟨hS, _⟩ => ⟨fun k => by rw [hS k]; simp [Value.ownBlock, eq_comm], ?_⟩
  obtain ⟨hl, hr⟩ := hown
  rcases hr with ⟨hv, _⟩ | ⟨g, cap, cur, hv, _, hh, h1, h2, h3, h4⟩
  · cases hv
  · injection hv with hv1 _ hv2
    injection hv1 with hv1
    injection hv1 with hv1
    subst hv1
    subst hv2
    rw [hh]
    have : cur = xs.toArray := by
      rw [← h4, List.take_of_length_le (by simp; omega)]
    rw [this]
set_option maxHeartbeats 8000000
set_option maxRecDepth 100000
variable {w0 w : World} {F : List HP} {a gC p n : Nat} {lv : Value} {keep g : Bool} {cn fl who : Int} {X : List Int}
theorem inside_yes (i : Nat) (hi : i < n) (h : St w0 w (arB a gC n lv keep cn fl :: F)) :
    Calls Tryd.prog 78 #[.pointer (some ⟨a, 0, none⟩), .int .i64 i] w fun e w' => e = .returned (.bool true) ∧ w' = w := by
  have x0 := h.cell 0
  have d1 : decide ((i : Int) < (n : Int)) = true := by simp; omega
  clear h
  go_enter Tryd.func78, Tryd.ntmps78
  go_wp2
  go_ret
  exact ⟨rfl, rfl⟩
theorem peek_yes (i : Nat) (hi : i < X.length) (h : St w0 w (arB a gC X.length lv keep cn fl :: ceB gC X :: F)) :
    Calls Tryd.prog 19 #[.pointer (some ⟨a, 0, none⟩), .int .i64 i] w fun e w' => e = .returned (.tuple #[.int .u64 (X.getD i 0), .int .i64 0]) ∧ w' = w := by
  have x0 := h.cell 0
  have x1 := ((h.perm (.swap _ _ _)).cell i).trans (U_getD hi)
  have H := Aside.mk h
  generalize X.getD i 0 = v at x1 ⊢
  generalize X.length = n at *
  clear h
  go_enter Tryd.func19, Tryd.ntmps19
  go_wp2_with (go_at_call 78; refine (inside_yes i hi H.out).mono ?_; rintro e w1 ⟨rfl, rfl⟩)
  go_ret2
  exact ⟨rfl, rfl⟩
theorem poke_yes (i : Nat) (v : Int) (hi : i < X.length) (h : St w0 w (arB a gC X.length lv keep cn fl :: ceB gC X :: F)) :
    Calls Tryd.prog 37 #[.pointer (some ⟨a, 0, none⟩), .int .i64 i, .int .u64 v] w fun e w' => e = .returned (.int .i64 0) ∧ St w0 w' (arB a gC (X.set i v).length lv keep cn fl :: ceB gC (X.set i v) :: F) := by
  have x0 := h.cell 0
  have x1 := ((h.perm (.swap _ _ _)).cell i).trans (U_get hi)
  have f1 := (h.perm (.swap _ _ _)).frozen i
  have H := Aside.mk h
  have H2 := Aside.mk (((h.perm (.swap _ _ _)).put i (.int .u64 v) (U_set (X := X) v)).perm (.swap _ _ _))
  generalize X[i] = u at x1
  have hi2 := hi
  rw [List.length_set]
  generalize X.length = n at *
  clear h
  go_enter Tryd.func37, Tryd.ntmps37
  go_wp2_with (go_at_call 78; refine (inside_yes i hi2 H.out).mono ?_; rintro e w1 ⟨rfl, rfl⟩)
  go_ret
  exact ⟨rfl, H2.out⟩
theorem grant_ (h : St w0 w (poB p a who g :: F)) : Calls Tryd.prog 17 #[.pointer (some ⟨p, 0, none⟩)] w fun e w' => e = .returned (.tuple #[]) ∧ St w0 w' (poB p a who true :: F) := by
  have x0 := h.cell 2
  have f0 := h.frozen 2
  have H := Aside.mk (h.put 2 (.bool true) rfl)
  clear h
  go_enter Tryd.func17, Tryd.ntmps17
  go_wp2
  go_end0
  exact ⟨rfl, H.out⟩
theorem open_ (h : St w0 w (poB p a who g :: F)) : Calls Tryd.prog 76 #[.pointer (some ⟨p, 0, none⟩)] w fun e w' => e = .returned (.bool g) ∧ w' = w := by
  have x0 := h.cell 2
  clear h
  go_enter Tryd.func76, Tryd.ntmps76
  go_wp2
  go_ret
  exact ⟨rfl, rfl⟩
theorem info22 : (Tryd.prog.info? 22).map (fun i => (i.zero, i.size, i.bytes)) = some (some (.int .u64 0), 1, 8) := by kernel_rfl
theorem new_ (n : Nat) (h1 : 1 ≤ n) (h2 : n ≤ 4096) (keep : Bool) (h : St w0 w F) : Calls Tryd.prog 73 #[.int .i64 n, .bool keep] w fun e w' => ∃ a gC, e = .returned (.tuple #[.pointer (some ⟨a, 0, none⟩), .int .i64 0]) ∧ St w0 w' (arB a gC n (.slice none 0 0) keep 0 0 :: ceB gC (List.replicate n 0) :: F) := by
  have H := Aside.mk h
  have d1 : decide ((n : Int) < 1) = false := by simp; omega
  have d2 : decide ((4096 : Int) < (n : Int)) = false := by simp; omega
  obtain ⟨i22, hi22, hz22, hs22, hb22⟩ := info_parts info22
  clear h
  go_enter Tryd.func73, Tryd.ntmps73
  go_wp2_with (at_make; refine wpList_make_full _ rfl (.tmp 12) (.tmp 12) 30 rfl w0.heap.size 22 _ (.int .u64 0) 1 Tryd.underlying30 hi22 hz22 hs22 .i64 .i64 n n n rfl rfl rfl rfl (by rw [hb22]; omega) (by simp only [maxLen]; omega) H.out.size_le ?_; intro w1 ho hg; have h1 := St_make H.out ho hg; have H1 := Aside.mk (h1.alloc #[.slice (some ⟨w.heap.size, 0, none⟩) n n, .slice none 0 0, .bool keep, .int .i64 0, .int .i64 0] 155); clear ho hg h1 H)
  go_ret2
  refine ⟨_, w.heap.size, rfl, ?_⟩
  have h9 := H1.out
  have e9 : (madeCells (Value.int .u64 0).cells (n * 1)).toList.toArray = (U (List.replicate n 0)).toArray := by
    show (madeCells #[Value.int .u64 0] (n * 1)).toList.toArray = _
    rw [toList_madeCells_one, Nat.mul_one]; simp [U]
  rw [e9] at h9
  exact h9
theorem port_ (h0 : 0 ≤ who) (h15 : who ≤ 15) (h : St w0 w F) : Calls Tryd.prog 16 #[.pointer (some ⟨a, 0, none⟩), .int .i64 who] w fun e w' => ∃ p, e = .returned (.tuple #[.pointer (some ⟨p, 0, none⟩), .int .i64 0]) ∧ St w0 w' (poB p a who false :: F) := by
  have H := Aside.mk (h.alloc #[.pointer (some ⟨a, 0, none⟩), .int .i64 who, .bool false] 151)
  have d1 : decide (who < 0) = false := by simp; omega
  have d2 : decide ((15 : Int) < who) = false := by simp; omega
  clear h
  go_enter Tryd.func16, Tryd.ntmps16
  go_wp2
  go_ret2
  exact ⟨_, rfl, H.out⟩
end Go.Proofs.YtelfiegocdjnoaaDoor.Ar
