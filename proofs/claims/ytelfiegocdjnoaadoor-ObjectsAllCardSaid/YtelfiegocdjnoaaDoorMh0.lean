/- The document's place of an address: a short contract. No condition. -/
import Derived.Test.YtelfiegocdjnoaaDoorStp
import Derived.Test.YtelfiegocdjnoaaDoorWk
import Derived.Test.YtelfiegocdjnoaaDoorProg
namespace Go.Proofs.YtelfiegocdjnoaaDoor.Ar
open Go Go.RowKit Go.Proofs.YtelfiegocdjnoaaDoor.Sep Go.Proofs.YtelfiegocdjnoaaDoorW.PrintWords Go.Proofs.YtelfiegocdjnoaaDoorW.PrintLast Go.Proofs.YtelfiegocdjnoaaDoorW.PrintMore
set_option linter.unusedVariables false
set_option linter.unusedSimpArgs false
set_option maxHeartbeats 8000000
set_option maxRecDepth 100000
def mh.T3 : Bool × List (List Nat × List Nat) := (true, [([], []), ([], []), ([1], [1]), ([0, 2], [0, 2]), ([3], [3]), ([], []), ([], []), ([6], [6]), ([5, 7], [5, 7]), ([8], [8]), ([4, 0, 1, 2, 3, 4], [4]), ([9, 10, 0, 1, 2, 3, 4, 5, 6, 7, 8, 9, 10], [9])])
def mh.B3 : List Nat := [0, 0, 2, 7, 15, 0, 0, 64, 224, 480, 31, 2047]
theorem mh.tab3 : rtab .any (opsOf Tryd.f89 3) = mh.T3 := by kernel_rfl
theorem mh.bits3 : waitsOk mh.T3.2 mh.B3 = true := by kernel_rfl
theorem heap_c (a0 a1 a2 b t c v : Int) (w : World) :
    Calls Tryd.prog 89 #[.agg #[.int .i64 a0, .int .i64 a1, .int .i64 a2, .int .i64 b, .int .i64 t, .int .i64 c], .int .i64 v] w fun e w' =>
      e = .returned (.tuple (if b < 0 ∨ v < b ∨ c ≤ v then #[.int .i64 (-1), .int .i64 (-1)] else #[.int .i64 (wrap64 (Int.tdiv (wrap64 (v - b)) 64)), .int .i64 (Int.tmod (wrap64 (v - b)) 64)])) ∧ Below w.heap.size w w' := by
  have h0 := (St.start w).alloc #[.int .i64 a0, .int .i64 a1, .int .i64 a2, .int .i64 b, .int .i64 t, .int .i64 c] 27
  have x3 := h0.cell 3
  have x5 := h0.cell 5
  have H := Aside0.mk h0
  clear h0
  by_cases h1 : b < 0 ∨ v < b ∨ c ≤ v
  · rw [if_pos h1]
    have d : decide (b < 0) = true ∨ decide (b < 0) = false ∧ (decide (v < b) = true ∨ decide (v < b) = false ∧ decide (c ≤ v) = true) := by
      by_cases h2 : b < 0
      · exact .inl (decide_eq_true h2)
      · by_cases h3 : v < b
        · exact .inr ⟨decide_eq_false h2, .inl (decide_eq_true h3)⟩
        · exact .inr ⟨decide_eq_false h2, .inr ⟨decide_eq_false h3, decide_eq_true (by omega)⟩⟩
    clear h1
    rcases d with d | ⟨d1, d | ⟨d2, d3⟩⟩
    all_goals
      go_enter Tryd.func89, Tryd.ntmps89
      go_wp2
      go_ret2
      exact ⟨rfl, H.out.below⟩
  · rw [if_neg h1]
    have d1 : decide (b < 0) = false := by simp; omega
    have d2 : decide (v < b) = false := by simp; omega
    have d3 : decide (c ≤ v) = false := by simp; omega
    clear h1
    go_enter Tryd.func89, Tryd.ntmps89
    go_wp2_with fail
    replace H := Aside0.mk H.out.drew
    refine start_ (n := 12) (S := fun w' => w'.cell? ⟨w.heap.size, 3, none⟩ = some (.int .i64 b)) (ds := []) (flg 12 0) (by kernel_rfl) rfl rfl (H.out.cell 3) (fun hHeld => ?_)
    refine with_tabW mh.tab3 mh.bits3 (fun HT_ HW_ => ?_)
    refine pu_ (v := ?_) (a' := ?_) 0 (some 21) 1 rfl rfl HT_ (by kernel_rfl) (.inl ⟨by rfl, ?_⟩) ?_ ?_; rotate_left 2; (· intro w'; go_simp; with_reducible rfl); (· simp only [nrm]; rfl)
    refine pu_ (v := ?_) (a' := ?_) 1 (some 22) 3 rfl rfl HT_ (by kernel_rfl) (.inl ⟨by rfl, ?_⟩) ?_ ?_; rotate_left 2; (· intro w'; go_simp; with_reducible rfl); (· simp only [nrm]; rfl)
    refine tk_ (v := ?_) (a' := ?_) 2 (some 23) 7 rfl rfl HT_ HW_ (by kernel_rfl) (.inl ⟨by rfl, ?_⟩) hHeld ?_ ?_; rotate_left 2; (· rintro w' _; go_simp; with_reducible rfl); (· simp only [nrm]; rfl)
    refine pu_ (v := ?_) (a' := ?_) 3 (some 24) 15 rfl rfl HT_ (by kernel_rfl) (.inl ⟨by rfl, ?_⟩) ?_ ?_; rotate_left 2; (· intro w'; go_simp; with_reducible rfl); (· simp only [nrm]; rfl)
    refine pu_ (v := ?_) (a' := ?_) 4 (some 25) 31 rfl rfl HT_ (by kernel_rfl) (.inl ⟨by rfl, ?_⟩) ?_ ?_; rotate_left 2; (· intro w'; go_simp; with_reducible rfl); (· simp only [nrm]; rfl)
    refine pu_ (v := ?_) (a' := ?_) 5 (some 26) 63 rfl rfl HT_ (by kernel_rfl) (.inl ⟨by rfl, ?_⟩) ?_ ?_; rotate_left 2; (· intro w'; go_simp; with_reducible rfl); (· simp only [nrm]; rfl)
    refine pu_ (v := ?_) (a' := ?_) 6 (some 27) 127 rfl rfl HT_ (by kernel_rfl) (.inl ⟨by rfl, ?_⟩) ?_ ?_; rotate_left 2; (· intro w'; go_simp; with_reducible rfl); (· simp only [nrm]; rfl)
    refine tk_ (v := ?_) (a' := ?_) 7 (some 28) 255 rfl rfl HT_ HW_ (by kernel_rfl) (.inl ⟨by rfl, ?_⟩) hHeld ?_ ?_; rotate_left 2; (· rintro w' _; go_simp; with_reducible rfl); (· simp only [nrm]; rfl)
    refine pu_ (v := ?_) (a' := ?_) 8 (some 29) 511 rfl rfl HT_ (by kernel_rfl) (.inl ⟨by rfl, ?_⟩) ?_ ?_; rotate_left 2; (· intro w'; go_simp; with_reducible rfl); (· simp only [nrm]; rfl)
    refine pu_ (v := ?_) (a' := ?_) 9 (some 30) 1023 rfl rfl HT_ (by kernel_rfl) (.inl ⟨by rfl, ?_⟩) ?_ ?_; rotate_left 2; (· intro w'; go_simp; with_reducible rfl); (· simp only [nrm]; rfl)
    refine pu_ (v := ?_) (a' := ?_) 10 (some 4) 2047 rfl rfl HT_ (by kernel_rfl) (.inl ⟨by rfl, ?_⟩) ?_ ?_; rotate_left 2; (· intro w'; go_simp; with_reducible rfl); (· simp only [nrm]; rfl)
    refine pu_ (v := ?_) (a' := ?_) 11 (some 5) 4095 rfl rfl HT_ (by kernel_rfl) (.inl ⟨by rfl, ?_⟩) ?_ ?_; rotate_left 2; (· intro w'; go_simp; with_reducible rfl); (· simp only [nrm]; rfl)
    refine done_ (done_of HT_.out (by kernel_rfl)) ?_
    clear HT_ HW_ hHeld
    go_wp2
    go_ret2
    exact ⟨rfl, H.out.below⟩
end Go.Proofs.YtelfiegocdjnoaaDoor.Ar
