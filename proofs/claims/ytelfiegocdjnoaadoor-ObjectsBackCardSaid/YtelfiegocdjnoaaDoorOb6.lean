/- Where a cell of a class begins, how many words it has: in general. Conditions: the package array reads as it was laid. -/
import Derived.Test.YtelfiegocdjnoaaDoorOb3
import Derived.Test.YtelfiegocdjnoaaDoorMrF0
namespace Go.Proofs.YtelfiegocdjnoaaDoor.Ar
open Go Go.RowKit Go.Proofs.YtelfiegocdjnoaaDoor.Sep Go.Proofs.YtelfiegocdjnoaaDoorW.PrintWords Go.Proofs.YtelfiegocdjnoaaDoorW.PrintLast Go.Proofs.YtelfiegocdjnoaaDoorW.PrintMore Go.Proofs.YtelfiegocdjnoaaDoor.Q
set_option linter.unusedVariables false
set_option linter.unusedSimpArgs false
set_option maxHeartbeats 8000000
set_option maxRecDepth 100000
theorem known_ (c : Int) : sizes_known.f c = some (decide (0 ≤ c ∧ c < 8)) := by
  unfold sizes_known.f
  by_cases h : c ≥ 0 <;> simp [h]
theorem szT_r : ∀ i : Fin 8, 2 ≤ szT.getD i.val 0 ∧ szT.getD i.val 0 ≤ 32 := by decide
/-- A class's words. -/
def szI (c : Int) : Int := szT.getD c.toNat 0
def cellI (c at_ : Int) : Int := if (0 ≤ c ∧ c < 8) ∧ 0 ≤ at_ ∧ at_ < 64 then (if at_ - at_ % szI c + szI c > 64 then -1 else at_ - at_ % szI c) else -1
theorem words_c (c : Int) {w : World} (h : Tab w) : Calls Tryd.prog 116 #[.int .i64 c] w fun e w' => e = .returned (if 0 ≤ c ∧ c < 8 then .tuple #[.int .i64 (szI c), .int .i64 0] else .tuple #[.int .i64 0, .int .i64 1]) ∧ Below w.heap.size w w' := by
  have HT := Aside.mk h
  have HK := Aside.mk (known_ c)
  clear h
  by_cases hc : 0 ≤ c ∧ c < 8
  · obtain ⟨i, rfl⟩ : ∃ i : Nat, c = i := ⟨c.toNat, by omega⟩
    rw [if_pos hc]
    have hi : i < 8 := by omega
    have e9 : szI (i : Int) = szT.getD i 0 := rfl
    have hd : decide (0 ≤ (i : Int) ∧ (i : Int) < 8) = true := by simp; omega
    rw [e9]
    rw [hd] at HK
    have HI := Aside.mk hi
    have nlt : (i : Int) < 8 := by omega
    have dlt : decide ((i : Int) < 8) = true := by simp; omega
    clear hd hc e9 hi
    go_enter Tryd.func116, Tryd.ntmps116
    go_wp2_with (go_at_call 146; refine (sizes_known.calls _ _ _ HK.out).mono ?_; rintro e w1 ⟨rfl, hb⟩; replace HT := Aside.mk (HT.out.below hb.below); have z0 := HT.out i HI.out)
    go_ret2
    exact ⟨rfl, hb.below⟩
  · rw [if_neg hc]
    rw [decide_eq_false hc] at HK
    clear hc
    go_enter Tryd.func116, Tryd.ntmps116
    go_wp2_with (go_at_call 146; refine (sizes_known.calls _ _ _ HK.out).mono ?_; rintro e w1 ⟨rfl, hb⟩)
    go_ret2
    exact ⟨rfl, hb.below⟩
theorem cell_c (c at_ : Int) {w : World} (h : Tab w) : Calls Tryd.prog 94 #[.int .i64 c, .int .i64 at_] w fun e w' => e = .returned (.int .i64 (cellI c at_)) ∧ Below w.heap.size w w' := by
  have HT := Aside.mk h
  have HK := Aside.mk (known_ c)
  clear h
  by_cases hc : 0 ≤ c ∧ c < 8
  · obtain ⟨i, rfl⟩ : ∃ i : Nat, c = i := ⟨c.toNat, by omega⟩
    have hi : i < 8 := by omega
    have hd : decide (0 ≤ (i : Int) ∧ (i : Int) < 8) = true := by simp; omega
    rw [hd] at HK
    have e9 : cellI (i : Int) at_ = if 0 ≤ at_ ∧ at_ < 64 then (if at_ - at_ % szT.getD i 0 + szT.getD i 0 > 64 then -1 else at_ - at_ % szT.getD i 0) else -1 := by unfold cellI; simp only [hc, true_and]; rfl
    have hr := szT_r ⟨i, hi⟩
    simp only at hr
    have HI := Aside.mk hi
    have nlt : (i : Int) < 8 := by omega
    have dlt : decide ((i : Int) < 8) = true := by simp; omega
    have hm : ∀ w1, Tab w1 → w1.cell? ⟨0, i, none⟩ = some (.int .i64 (szT.getD i 0)) := fun w1 h1 => h1 i hi
    rw [e9]
    generalize szT.getD i 0 = n at hr hm ⊢
    have hz : ¬ n = 0 := by omega
    have HM := Aside.mk hm
    have HR := Aside.mk hr
    clear hd hc e9 hi hm hr
    by_cases ha : 0 ≤ at_ ∧ at_ < 64
    · rw [if_pos ha]
      have d1 : decide (at_ < 0) = false := by simp; omega
      have d2 : decide ((64 : Int) ≤ at_) = false := by simp; omega
      have n1 : ¬ at_ < 0 := by omega
      have n2 : ¬ (64 : Int) ≤ at_ := by omega
      have e1 : Int.tmod at_ n = at_ % n := Int.tmod_eq_emod_of_nonneg ha.1
      have e2 : wrap64 (at_ - at_ % n) = at_ - at_ % n := by
        have := Int.emod_lt_of_pos at_ (show 0 < n by have := HR.out; omega)
        have := Int.emod_nonneg at_ (show n ≠ 0 by have := HR.out; omega)
        have := HR.out
        unfold wrap64; omega
      have e3 : wrap64 (at_ - at_ % n + n) = at_ - at_ % n + n := by
        have := Int.emod_lt_of_pos at_ (show 0 < n by have := HR.out; omega)
        have := Int.emod_nonneg at_ (show n ≠ 0 by have := HR.out; omega)
        have := HR.out
        unfold wrap64; omega
      have e0 : wrap64 (at_ % n) = at_ % n := by
        have := Int.emod_lt_of_pos at_ (show 0 < n by have := HR.out; omega)
        have := Int.emod_nonneg at_ (show n ≠ 0 by have := HR.out; omega)
        have := HR.out
        unfold wrap64; omega
      clear ha
      generalize at_ % n = m at *
      by_cases h6 : at_ - m + n > 64
      · rw [if_pos h6]
        have d3 : decide (64 < at_ - m + n) = true := by simp; omega
        have n3 : 64 < at_ - m + n := h6
        clear h6
        go_enter Tryd.func94, Tryd.ntmps94
        go_wp2_with (go_at_call 146; refine (sizes_known.calls _ _ _ HK.out).mono ?_; rintro e w1 ⟨rfl, hb⟩; replace HT := Aside.mk (HT.out.below hb.below); have z0 := HM.out _ HT.out)
        go_ret
        exact ⟨rfl, hb.below⟩
      · rw [if_neg h6]
        have d3 : decide (64 < at_ - m + n) = false := by simp; omega
        have n3 : at_ - m + n ≤ 64 := by omega
        have n4 : ¬ 64 < at_ - m + n := by omega
        clear h6
        go_enter Tryd.func94, Tryd.ntmps94
        go_wp2_with (go_at_call 146; refine (sizes_known.calls _ _ _ HK.out).mono ?_; rintro e w1 ⟨rfl, hb⟩; replace HT := Aside.mk (HT.out.below hb.below); have z0 := HM.out _ HT.out)
        go_ret
        exact ⟨congrArg (fun b : Int => Ending.returned (Value.int .i64 b)) e2, hb.below⟩
    · rw [if_neg ha]
      by_cases h0 : at_ < 0
      · have d1 : decide (at_ < 0) = true := by simp; omega
        clear ha
        go_enter Tryd.func94, Tryd.ntmps94
        go_wp2_with (go_at_call 146; refine (sizes_known.calls _ _ _ HK.out).mono ?_; rintro e w1 ⟨rfl, hb⟩)
        go_ret
        exact ⟨rfl, hb.below⟩
      · have d1 : decide (at_ < 0) = false := by simp; omega
        have d2 : decide ((64 : Int) ≤ at_) = true := by simp; omega
        have n2 : (64 : Int) ≤ at_ := by omega
        clear ha
        go_enter Tryd.func94, Tryd.ntmps94
        go_wp2_with (go_at_call 146; refine (sizes_known.calls _ _ _ HK.out).mono ?_; rintro e w1 ⟨rfl, hb⟩)
        go_ret
        exact ⟨rfl, hb.below⟩
  · rw [show cellI c at_ = -1 by unfold cellI; rw [if_neg (fun h => hc h.1)]]
    rw [decide_eq_false hc] at HK
    clear hc
    go_enter Tryd.func94, Tryd.ntmps94
    go_wp2_with (go_at_call 146; refine (sizes_known.calls _ _ _ HK.out).mono ?_; rintro e w1 ⟨rfl, hb⟩)
    go_ret
    exact ⟨rfl, hb.below⟩
end Go.Proofs.YtelfiegocdjnoaaDoor.Ar
