/- The arena's accesses by name: load, store, compare and swap. Conditions: the port has a grant, the cell is there, accesses are kept. -/
import Derived.Test.YtelfiegocdjnoaaDoorAr1
namespace Go.Proofs.YtelfiegocdjnoaaDoor.Ar
open Go Go.RowKit Go.Proofs.YtelfiegocdjnoaaDoor.Sep Go.Proofs.YtelfiegocdjnoaaDoorW.PrintWords Go.Proofs.YtelfiegocdjnoaaDoorW.PrintLast Go.Proofs.YtelfiegocdjnoaaDoorW.PrintMore Go.Proofs.YtelfiegocdjnoaaDoor.Q
set_option linter.unusedVariables false
set_option linter.unusedSimpArgs false
set_option maxHeartbeats 8000000
set_option maxRecDepth 100000
variable {w0 w : World} {F : List HP} {a gC p : Nat} {lv : Value} {l : List Acc} {cn fl who : Int} {X : List Int}
theorem back_ {P : HP} {L R : List HP} (h : St w0 w (P :: (L ++ R))) : St w0 w (L ++ P :: R) := h.perm List.perm_middle.symm
theorem store_ (i : Nat) (v : Int) (hi : i < X.length) (hn : X.length ≤ 4096) (hl : l.length ≤ 1000000) (hc0 : 0 ≤ cn) (hc1 : cn ≤ 1000000) (h : St w0 w (Are p a gC who true X lv l cn fl ++ F)) :
    Calls Tryd.prog 77 #[.pointer (some ⟨p, 0, none⟩), .int .i64 i, .int .u64 v] w fun e w' => ∃ lv', e = .returned (.tuple #[]) ∧ St w0 w' (Are p a gC who false (X.set i v) lv' (l ++ [⟨who, 2, i, 0, v, X.getD i 0, v⟩]) (cn + 1) fl ++ F) := by
  have hS : St w0 (w.alloc (.cells #[.int .u64 v] 22)) (Are p a gC who true X lv l cn fl ++ (blk w.heap.size #[.int .u64 v] 22 :: F)) := (h.alloc #[.int .u64 v] 22).perm (by simpa using (List.perm_middle (a := blk w.heap.size #[.int .u64 v] 22) (l₁ := Are p a gC who true X lv l cn fl) (l₂ := F)).symm)
  have hA := access_87 w.heap.size (F := blk w.heap.size #[.int .u64 v] 22 :: F) (F' := blk w.heap.size #[.int .u64 v] 22 :: F) i 2 0 v v hi hn hl hc0 hc1 (fun u hu => by
    have x0 := (hu.pick 4 rfl).cell 0
    have HU := Aside.mk hu
    clear hu h hS
    go_enter Tryd.func137, Tryd.ntmps137
    go_wp2
    go_ret
    exact ⟨rfl, HU.out⟩) hS
  have HA := Aside.mk hA
  clear hA h hS
  go_enter Tryd.func77, Tryd.ntmps77
  go_wp2_with (go_at_call 136; refine HA.out.mono ?_; rintro e w1 ⟨lv', rfl, h1⟩; have H1 := Aside.mk (h1.pick 4 rfl).rest; clear h1)
  go_end0
  exact ⟨lv', rfl, H1.out⟩
theorem three_ (h : St w0 w (Are p a gC who true X lv l cn fl ++ F)) (want v : Int) :
    St w0 (((w.alloc (.cells #[.int .u64 want] 22)).alloc (.cells #[.int .u64 v] 22)).alloc (.cells #[.bool false] 4)) (Are p a gC who true X lv l cn fl ++ (blk (w.heap.size + 2) #[.bool false] 4 :: blk (w.heap.size + 1) #[.int .u64 v] 22 :: blk w.heap.size #[.int .u64 want] 22 :: F)) := by
  have h3 := ((h.alloc #[.int .u64 want] 22).alloc #[.int .u64 v] 22).alloc #[.bool false] 4
  have e1 : (w.alloc (.cells #[.int .u64 want] 22)).heap.size = w.heap.size + 1 := by simp
  have e2 : ((w.alloc (.cells #[.int .u64 want] 22)).alloc (.cells #[.int .u64 v] 22)).heap.size = w.heap.size + 2 := by simp
  rw [e1, e2] at h3
  refine h3.perm ?_
  have := List.perm_append_comm (l₁ := [blk (w.heap.size + 2) #[.bool false] 4, blk (w.heap.size + 1) #[.int .u64 v] 22, blk w.heap.size #[.int .u64 want] 22]) (l₂ := Are p a gC who true X lv l cn fl)
  have h2 := this.append_right F
  simpa using h2
end Go.Proofs.YtelfiegocdjnoaaDoor.Ar
