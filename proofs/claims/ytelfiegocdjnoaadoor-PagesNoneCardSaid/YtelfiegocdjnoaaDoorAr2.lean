/- The arena's accesses by name: load, store, compare and swap. Conditions: the port has a grant, the cell is there, accesses are kept. -/
import Derived.Test.YtelfiegocdjnoaaDoorAr1
namespace Go.Proofs.YtelfiegocdjnoaaDoor.Ar
open Go Go.RowKit Go.Proofs.YtelfiegocdjnoaaDoor.Sep Go.Proofs.YtelfiegocdjnoaaDoorW.PrintWords Go.Proofs.YtelfiegocdjnoaaDoorW.PrintLast Go.Proofs.YtelfiegocdjnoaaDoorW.PrintMore Go.Proofs.YtelfiegocdjnoaaDoor.Q
set_option linter.unusedVariables false
set_option linter.unusedSimpArgs false
set_option maxHeartbeats 8000000
set_option maxRecDepth 100000
variable {w0 w : World} {F : List HP} {a gC p : Nat} {lv : Value} {l : List Acc} {cn fl who : Int} {X : List Int}
theorem set_same (X : List Int) (i : Nat) : X.set i (X.getD i 0) = X := by
  by_cases h : i < X.length
  · apply List.ext_getElem?
    intro j
    by_cases hj : i = j
    · subst hj
      rw [List.getElem?_set_self h]
      simp [List.getD_eq_getElem?_getD, h]
    · rw [List.getElem?_set_ne hj]
  · rw [List.set_eq_of_length_le (by omega)]
theorem back_ {P : HP} {L R : List HP} (h : St w0 w (P :: (L ++ R))) : St w0 w (L ++ P :: R) := h.perm List.perm_middle.symm
theorem load_ (i : Nat) (hi : i < X.length) (hn : X.length ≤ 4096) (hl : l.length ≤ 1000000) (hc0 : 0 ≤ cn) (hc1 : cn ≤ 1000000) (h : St w0 w (Are p a gC who true X lv l cn fl ++ F)) :
    Calls Tryd.prog 122 #[.pointer (some ⟨p, 0, none⟩), .int .i64 i] w fun e w' => ∃ lv', e = .returned (.int .u64 (X.getD i 0)) ∧ St w0 w' (Are p a gC who false X lv' (l ++ [⟨who, 1, i, 0, 0, X.getD i 0, X.getD i 0⟩]) (cn + 1) fl ++ F) := by
  have hA := access_81 (F := F) (F' := F) i 1 0 0 (X.getD i 0) hi hn hl hc0 hc1 (fun u hu => by
    have HU := Aside.mk hu
    clear hu h
    go_enter Tryd.func163, Tryd.ntmps163
    go_wp2
    go_ret
    exact ⟨rfl, HU.out⟩) h
  rw [set_same] at hA
  generalize X.getD i 0 = s at hA ⊢
  have HA := Aside.mk hA
  clear hA h
  go_enter Tryd.func122, Tryd.ntmps122
  go_wp2_with (go_at_call 136; refine HA.out.mono ?_; rintro e w1 ⟨lv', rfl, h1⟩; have H1 := Aside.mk h1; clear h1)
  go_ret
  exact ⟨lv', rfl, H1.out⟩
theorem store_ (i : Nat) (v : Int) (hi : i < X.length) (hn : X.length ≤ 4096) (hl : l.length ≤ 1000000) (hc0 : 0 ≤ cn) (hc1 : cn ≤ 1000000) (h : St w0 w (Are p a gC who true X lv l cn fl ++ F)) :
    Calls Tryd.prog 77 #[.pointer (some ⟨p, 0, none⟩), .int .i64 i, .int .u64 v] w fun e w' => ∃ lv', e = .returned (.tuple #[]) ∧ St w0 w' (Are p a gC who false (X.set i v) lv' (l ++ [⟨who, 2, i, 0, v, X.getD i 0, v⟩]) (cn + 1) fl ++ F) := by
  have hS : St w0 (w.alloc (.cells #[.int .u64 v] 22)) (Are p a gC who true X lv l cn fl ++ (blk w.heap.size #[.int .u64 v] 22 :: F)) := (h.alloc #[.int .u64 v] 22).perm (by simpa using (List.perm_middle (a := blk w.heap.size #[.int .u64 v] 22) (l₁ := Are p a gC who true X lv l cn fl) (l₂ := F)).symm)
  have hA := access_87 w.heap.size (F := blk w.heap.size #[.int .u64 v] 22 :: F) (F' := blk w.heap.size #[.int .u64 v] 22 :: F) i 2 0 v v hi hn hl hc0 hc1 (fun u hu => by
    have x0 := (hu.pick 4 rfl).cell 0
    have HU := Aside.mk hu
    clear hu h hS
    go_enter Tryd.func137, Tryd.ntmps137
    go_wp2
    go_ret
    exact ⟨rfl, HU.out⟩) hS
  have HA := Aside.mk hA
  clear hA h hS
  go_enter Tryd.func77, Tryd.ntmps77
  go_wp2_with (go_at_call 136; refine HA.out.mono ?_; rintro e w1 ⟨lv', rfl, h1⟩; have H1 := Aside.mk (h1.pick 4 rfl).rest; clear h1)
  go_end0
  exact ⟨lv', rfl, H1.out⟩
theorem three_ (h : St w0 w (Are p a gC who true X lv l cn fl ++ F)) (want v : Int) :
    St w0 (((w.alloc (.cells #[.int .u64 want] 22)).alloc (.cells #[.int .u64 v] 22)).alloc (.cells #[.bool false] 4)) (Are p a gC who true X lv l cn fl ++ (blk (w.heap.size + 2) #[.bool false] 4 :: blk (w.heap.size + 1) #[.int .u64 v] 22 :: blk w.heap.size #[.int .u64 want] 22 :: F)) := by
  have h3 := ((h.alloc #[.int .u64 want] 22).alloc #[.int .u64 v] 22).alloc #[.bool false] 4
  have e1 : (w.alloc (.cells #[.int .u64 want] 22)).heap.size = w.heap.size + 1 := by simp
  have e2 : ((w.alloc (.cells #[.int .u64 want] 22)).alloc (.cells #[.int .u64 v] 22)).heap.size = w.heap.size + 2 := by simp
  rw [e1, e2] at h3
  refine h3.perm ?_
  have := List.perm_append_comm (l₁ := [blk (w.heap.size + 2) #[.bool false] 4, blk (w.heap.size + 1) #[.int .u64 v] 22, blk w.heap.size #[.int .u64 want] 22]) (l₂ := Are p a gC who true X lv l cn fl)
  have h2 := this.append_right F
  simpa using h2
theorem cas_yes (i : Nat) (v : Int) (hi : i < X.length) (hn : X.length ≤ 4096) (hl : l.length ≤ 1000000) (hc0 : 0 ≤ cn) (hc1 : cn ≤ 1000000) (h : St w0 w (Are p a gC who true X lv l cn fl ++ F)) :
    Calls Tryd.prog 119 #[.pointer (some ⟨p, 0, none⟩), .int .i64 i, .int .u64 (X.getD i 0), .int .u64 v] w fun e w' => ∃ lv', e = .returned (.bool true) ∧ St w0 w' (Are p a gC who false (X.set i v) lv' (l ++ [⟨who, 4, i, X.getD i 0, v, X.getD i 0, v⟩]) (cn + 1) fl ++ F) := by
  have hS := three_ h (X.getD i 0) v
  have hA := access_86 w.heap.size (w.heap.size + 2) (w.heap.size + 1) (F := blk (w.heap.size + 2) #[.bool false] 4 :: blk (w.heap.size + 1) #[.int .u64 v] 22 :: blk w.heap.size #[.int .u64 (X.getD i 0)] 22 :: F) (F' := blk (w.heap.size + 2) #[.bool true] 4 :: blk (w.heap.size + 1) #[.int .u64 v] 22 :: blk w.heap.size #[.int .u64 (X.getD i 0)] 22 :: F) i 4 (X.getD i 0) v v hi hn hl hc0 hc1 (fun u hu => by
    have x0 := (hu.pick 6 rfl).cell 0
    have x1 := (hu.pick 5 rfl).cell 0
    have f2 := (hu.pick 4 rfl).frozen 0
    have n1 : w.heap.size + 2 ≠ w.heap.size + 1 := by omega
    have n2 : w.heap.size + 2 ≠ w.heap.size := by omega
    have n3 := n1.symm
    have n4 := n2.symm
    have x2 := (hu.pick 4 rfl).cell 0
    have HU := Aside.mk (back_ (L := Are p a gC who false X lv l cn fl) (R := blk (w.heap.size + 1) #[.int .u64 v] 22 :: blk w.heap.size #[.int .u64 (X.getD i 0)] 22 :: F) ((hu.pick 4 rfl).put 0 (.bool true) rfl))
    generalize X.getD i 0 = s at *
    generalize hg0 : w.heap.size = g0 at *
    generalize g0 + 2 = g2 at *
    generalize g0 + 1 = g1 at *
    clear hu h hS hg0
    go_enter Tryd.func162, Tryd.ntmps162
    go_wp2
    go_ret
    exact ⟨rfl, HU.out⟩) hS
  have HA := Aside.mk hA
  generalize X.getD i 0 = s at *
  clear hA h hS
  go_enter Tryd.func119, Tryd.ntmps119
  go_wp2_with (go_at_call 136; refine HA.out.mono ?_; rintro e w1 ⟨lv', rfl, h1⟩; have z0 := (h1.pick 4 rfl).cell 0; have H1 := Aside.mk ((((h1.pick 4 rfl).rest).pick 4 rfl).rest.pick 4 rfl).rest; clear h1)
  go_ret
  exact ⟨lv', rfl, H1.out⟩
theorem cas_no (i : Nat) (want v : Int) (hne : want ≠ X.getD i 0) (hi : i < X.length) (hn : X.length ≤ 4096) (hl : l.length ≤ 1000000) (hc0 : 0 ≤ cn) (hc1 : cn ≤ 1000000) (h : St w0 w (Are p a gC who true X lv l cn fl ++ F)) :
    Calls Tryd.prog 119 #[.pointer (some ⟨p, 0, none⟩), .int .i64 i, .int .u64 want, .int .u64 v] w fun e w' => ∃ lv', e = .returned (.bool false) ∧ St w0 w' (Are p a gC who false X lv' (l ++ [⟨who, 4, i, want, v, X.getD i 0, X.getD i 0⟩]) (cn + 1) fl ++ F) := by
  have hS := three_ h want v
  have hA := access_86 w.heap.size (w.heap.size + 2) (w.heap.size + 1) (F := blk (w.heap.size + 2) #[.bool false] 4 :: blk (w.heap.size + 1) #[.int .u64 v] 22 :: blk w.heap.size #[.int .u64 want] 22 :: F) (F' := blk (w.heap.size + 2) #[.bool false] 4 :: blk (w.heap.size + 1) #[.int .u64 v] 22 :: blk w.heap.size #[.int .u64 want] 22 :: F) i 4 want v (X.getD i 0) hi hn hl hc0 hc1 (fun u hu => by
    have x0 := (hu.pick 6 rfl).cell 0
    have HU := Aside.mk hu
    have hb : (X.getD i 0 != want) = true := by simpa using fun h => hne h.symm
    generalize X.getD i 0 = s at *
    generalize w.heap.size = g0 at *
    clear hu h hS
    go_enter Tryd.func162, Tryd.ntmps162
    go_wp2
    go_ret
    exact ⟨rfl, HU.out⟩) hS
  rw [set_same] at hA
  have HA := Aside.mk hA
  generalize X.getD i 0 = s at *
  clear hA h hS
  go_enter Tryd.func119, Tryd.ntmps119
  go_wp2_with (go_at_call 136; refine HA.out.mono ?_; rintro e w1 ⟨lv', rfl, h1⟩; have z0 := (h1.pick 4 rfl).cell 0; have H1 := Aside.mk ((((h1.pick 4 rfl).rest).pick 4 rfl).rest.pick 4 rfl).rest; clear h1)
  go_ret
  exact ⟨lv', rfl, H1.out⟩
end Go.Proofs.YtelfiegocdjnoaaDoor.Ar
