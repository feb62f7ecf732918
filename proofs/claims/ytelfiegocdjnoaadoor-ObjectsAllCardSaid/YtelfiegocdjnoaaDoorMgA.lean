/- Where a cell of a class begins, how many words it has: in general. Conditions: the package array reads as it was laid. -/
import Derived.Test.YtelfiegocdjnoaaDoorMgJ
import Derived.Test.YtelfiegocdjnoaaDoorMrF0
namespace Go.Proofs.YtelfiegocdjnoaaDoor.Ar
open Go Go.RowKit Go.Proofs.YtelfiegocdjnoaaDoor.Sep Go.Proofs.YtelfiegocdjnoaaDoorW.PrintWords Go.Proofs.YtelfiegocdjnoaaDoorW.PrintLast Go.Proofs.YtelfiegocdjnoaaDoorW.PrintMore Go.Proofs.YtelfiegocdjnoaaDoor.Q
set_option linter.unusedVariables false
set_option linter.unusedSimpArgs false
set_option maxHeartbeats 8000000
set_option maxRecDepth 100000
section
theorem known_ (c : Int) : sizes_known.f c = some (decide (0 ≤ c ∧ c < 8)) := by
  unfold sizes_known.f
  by_cases h : c ≥ 0 <;> simp [h]
theorem szT_r : ∀ i : Fin 8, 2 ≤ szT.getD i.val 0 ∧ szT.getD i.val 0 ≤ 32 := by decide
/-- A class's words. -/
def szI (c : Int) : Int := szT.getD c.toNat 0
def cellI (c at_ : Int) : Int := if (0 ≤ c ∧ c < 8) ∧ 0 ≤ at_ ∧ at_ < 64 then (if at_ - at_ % szI c + szI c > 64 then -1 else at_ - at_ % szI c) else -1
theorem words_c (c : Int) {w : World} (h : Tab w) : Calls Tryd.prog 116 #[.int .i64 c] w fun e w' => e = .returned (if 0 ≤ c ∧ c < 8 then .tuple #[.int .i64 (szI c), .int .i64 0] else .tuple #[.int .i64 0, .int .i64 1]) ∧ Below w.heap.size w w' := by
  have HT := Aside.mk h
  have HK := Aside.mk (known_ c)
  clear h
  by_cases hc : 0 ≤ c ∧ c < 8
  · obtain ⟨i, rfl⟩ : ∃ i : Nat, c = i := ⟨c.toNat, by omega⟩
    rw [if_pos hc]
    have hi : i < 8 := by omega
    have e9 : szI (i : Int) = szT.getD i 0 := rfl
    have hd : decide (0 ≤ (i : Int) ∧ (i : Int) < 8) = true := by simp; omega
    rw [e9]
    rw [hd] at HK
    have HI := Aside.mk hi
    have nlt : (i : Int) < 8 := by omega
    have dlt : decide ((i : Int) < 8) = true := by simp; omega
    clear hd hc e9 hi
    go_enter Tryd.func116, Tryd.ntmps116
    go_wp2_with (go_at_call 146; refine (sizes_known.calls _ _ _ HK.out).mono ?_; rintro e w1 ⟨rfl, hb⟩; replace HT := Aside.mk (HT.out.below hb.below); have z0 := HT.out i HI.out)
    go_ret2
    exact ⟨rfl, hb.below⟩
  · rw [if_neg hc]
    rw [decide_eq_false hc] at HK
    clear hc
    go_enter Tryd.func116, Tryd.ntmps116
    go_wp2_with (go_at_call 146; refine (sizes_known.calls _ _ _ HK.out).mono ?_; rintro e w1 ⟨rfl, hb⟩)
    go_ret2
    exact ⟨rfl, hb.below⟩
theorem cell_c (c at_ : Int) {w : World} (h : Tab w) : Calls Tryd.prog 94 #[.int .i64 c, .int .i64 at_] w fun e w' => e = .returned (.int .i64 (cellI c at_)) ∧ Below w.heap.size w w' := by
  have HT := Aside.mk h
  have HK := Aside.mk (known_ c)
  clear h
  by_cases hc : 0 ≤ c ∧ c < 8
  · obtain ⟨i, rfl⟩ : ∃ i : Nat, c = i := ⟨c.toNat, by omega⟩
    have hi : i < 8 := by omega
    have hd : decide (0 ≤ (i : Int) ∧ (i : Int) < 8) = true := by simp; omega
    rw [hd] at HK
    have e9 : cellI (i : Int) at_ = if 0 ≤ at_ ∧ at_ < 64 then (if at_ - at_ % szT.getD i 0 + szT.getD i 0 > 64 then -1 else at_ - at_ % szT.getD i 0) else -1 := by unfold cellI; simp only [hc, true_and]; rfl
    have hr := szT_r ⟨i, hi⟩
    simp only at hr
    have HI := Aside.mk hi
    have nlt : (i : Int) < 8 := by omega
    have dlt : decide ((i : Int) < 8) = true := by simp; omega
    have hm : ∀ w1, Tab w1 → w1.cell? ⟨0, i, none⟩ = some (.int .i64 (szT.getD i 0)) := fun w1 h1 => h1 i hi
    rw [e9]
    generalize szT.getD i 0 = n at hr hm ⊢
    have hz : ¬ n = 0 := by omega
    have HM := Aside.mk hm
    have HR := Aside.mk hr
    clear hd hc e9 hi hm hr
    by_cases ha : 0 ≤ at_ ∧ at_ < 64
    · rw [if_pos ha]
      have d1 : decide (at_ < 0) = false := by simp; omega
      have d2 : decide ((64 : Int) ≤ at_) = false := by simp; omega
      have n1 : ¬ at_ < 0 := by omega
      have n2 : ¬ (64 : Int) ≤ at_ := by omega
      have e1 : Int.tmod at_ n = at_ % n := Int.tmod_eq_emod_of_nonneg ha.1
      have e2 : wrap64 (at_ - at_ % n) = at_ - at_ % n := by
        have := Int.emod_lt_of_pos at_ (show 0 < n by have := HR.out; omega)
        have := Int.emod_nonneg at_ (show n ≠ 0 by have := HR.out; omega)
        have := HR.out
        unfold wrap64; omega
      have e3 : wrap64 (at_ - at_ % n + n) = at_ - at_ % n + n := by
        have := Int.emod_lt_of_pos at_ (show 0 < n by have := HR.out; omega)
        have := Int.emod_nonneg at_ (show n ≠ 0 by have := HR.out; omega)
        have := HR.out
        unfold wrap64; omega
      have e0 : wrap64 (at_ % n) = at_ % n := by
        have := Int.emod_lt_of_pos at_ (show 0 < n by have := HR.out; omega)
        have := Int.emod_nonneg at_ (show n ≠ 0 by have := HR.out; omega)
        have := HR.out
        unfold wrap64; omega
      clear ha
      generalize at_ % n = m at *
      by_cases h6 : at_ - m + n > 64
      · rw [if_pos h6]
        have d3 : decide (64 < at_ - m + n) = true := by simp; omega
        have n3 : 64 < at_ - m + n := h6
        clear h6
        go_enter Tryd.func94, Tryd.ntmps94
        go_wp2_with (go_at_call 146; refine (sizes_known.calls _ _ _ HK.out).mono ?_; rintro e w1 ⟨rfl, hb⟩; replace HT := Aside.mk (HT.out.below hb.below); have z0 := HM.out _ HT.out)
        go_ret
        exact ⟨rfl, hb.below⟩
      · rw [if_neg h6]
        have d3 : decide (64 < at_ - m + n) = false := by simp; omega
        have n3 : at_ - m + n ≤ 64 := by omega
        have n4 : ¬ 64 < at_ - m + n := by omega
        clear h6
        go_enter Tryd.func94, Tryd.ntmps94
        go_wp2_with (go_at_call 146; refine (sizes_known.calls _ _ _ HK.out).mono ?_; rintro e w1 ⟨rfl, hb⟩; replace HT := Aside.mk (HT.out.below hb.below); have z0 := HM.out _ HT.out)
        go_ret
        exact ⟨congrArg (fun b : Int => Ending.returned (Value.int .i64 b)) e2, hb.below⟩
    · rw [if_neg ha]
      by_cases h0 : at_ < 0
      · have d1 : decide (at_ < 0) = true := by simp; omega
        clear ha
        go_enter Tryd.func94, Tryd.ntmps94
        go_wp2_with (go_at_call 146; refine (sizes_known.calls _ _ _ HK.out).mono ?_; rintro e w1 ⟨rfl, hb⟩)
        go_ret
        exact ⟨rfl, hb.below⟩
      · have d1 : decide (at_ < 0) = false := by simp; omega
        have d2 : decide ((64 : Int) ≤ at_) = true := by simp; omega
        have n2 : (64 : Int) ≤ at_ := by omega
        clear ha
        go_enter Tryd.func94, Tryd.ntmps94
        go_wp2_with (go_at_call 146; refine (sizes_known.calls _ _ _ HK.out).mono ?_; rintro e w1 ⟨rfl, hb⟩)
        go_ret
        exact ⟨rfl, hb.below⟩
  · rw [show cellI c at_ = -1 by unfold cellI; rw [if_neg (fun h => hc h.1)]]
    rw [decide_eq_false hc] at HK
    clear hc
    go_enter Tryd.func94, Tryd.ntmps94
    go_wp2_with (go_at_call 146; refine (sizes_known.calls _ _ _ HK.out).mono ?_; rintro e w1 ⟨rfl, hb⟩)
    go_ret
    exact ⟨rfl, hb.below⟩
end
section
theorem pl_right : ∀ P : Fin 5, layout_Plan_right.f ((P.val : Int) + 1) 1 1 = some true := by decide +kernel
theorem pl_base : ∀ P : Fin 5, layout_Plan_Base.f ((P.val : Int) + 1) 1 1 = some 64 := by decide +kernel
theorem pl_cells : ∀ P : Fin 5, layout_Plan_Cells.f ((P.val : Int) + 1) 1 1 = some (128 + 64 * (P.val : Int)) := by decide +kernel
theorem pl_entry : ∀ P : Fin 5, ∀ i : Fin 5, i.val ≤ P.val → layout_Plan_Entry.f ((P.val : Int) + 1) 1 1 (i.val : Int) = some (22 + (i.val : Int)) := by decide +kernel
theorem pl_alloc : ∀ P : Fin 5, ∀ i : Fin 5, i.val ≤ P.val → layout_Plan_Alloc.f ((P.val : Int) + 1) 1 1 (i.val : Int) = some (22 + ((P.val : Int) + 1) + (i.val : Int)) := by decide +kernel
/-- The page and the word of an address. -/
def plI (P : Nat) (at_ : Int) : Int × Int := if 64 ≤ at_ ∧ at_ < 128 + 64 * (P : Int) then ((at_ - 64) / 64, (at_ - 64) % 64) else (-1, -1)
theorem place_ (P : Nat) (hP : P < 5) (at_ : Int) : layout_Plan_Place.f ((P : Int) + 1) 1 1 at_ = some (plI P at_) := by
  unfold layout_Plan_Place.f plI
  have h1 := pl_right ⟨P, hP⟩
  have h2 := pl_base ⟨P, hP⟩
  have h3 := pl_cells ⟨P, hP⟩
  simp only at h1 h2 h3
  rw [h1, h2, h3]
  simp only [Option.bind_some, if_true]
  by_cases ha : at_ < 64
  · rw [if_pos ha, if_neg (by omega)]
  · rw [if_neg ha]
    by_cases hb : at_ ≥ 128 + 64 * (P : Int)
    · rw [if_pos hb, if_neg (by omega)]
    · rw [if_neg hb, if_pos (by omega)]
      have e1 : wrap64 (at_ - 64) = at_ - 64 := by unfold wrap64; omega
      have e2 : Int.tdiv (at_ - 64) 64 = (at_ - 64) / 64 := Int.tdiv_eq_ediv_of_nonneg (by omega)
      have e3 : Int.tmod (at_ - 64) 64 = (at_ - 64) % 64 := Int.tmod_eq_emod_of_nonneg (by omega)
      rw [e1, e2, e3]
      have e4 : wrap64 ((at_ - 64) / 64) = (at_ - 64) / 64 := by unfold wrap64; omega
      rw [e4]
end
section
/-- Is it a header? -/
def isH (c k n : Int) : Bool := decide ((k = 1 ∧ 0 ≤ c ∧ c ≤ 15 ∧ 0 ≤ n ∧ n ≤ 15) ∨ ((k = 2 ∨ k = 3) ∧ c = 0 ∧ 0 ≤ n ∧ n ≤ 255))
theorem rhead_ (c k n : Int) : windrowref02_IsHead.f c k n = some (isH c k n) := by
  unfold windrowref02_IsHead.f isH
  repeat' split
  all_goals (refine congrArg some ?_; first | rfl | (simp only [decide_eq_decide, eq_comm (a := false), decide_eq_false_iff_not]; omega) | (simp; omega))
/-- Its words. -/
def hwI (c k n : Int) : Int := if isH c k n = true then 1 + n else 0
theorem rwords_ (c k n : Int) : windrowref02_Words.f c k n = some (hwI c k n) := by
  unfold windrowref02_Words.f hwI
  rw [rhead_]
  simp only [Option.bind_some]
  by_cases h : isH c k n = true
  · simp only [h, if_true, Bool.not_true, Bool.false_eq_true, if_false]
    have : 0 ≤ n ∧ n ≤ 255 := by simp [isH] at h; omega
    congr 1
    first | (unfold wrap64; omega) | (rw [Int.add_comm]; unfold wrap64; omega)
  · simp [h]
theorem hright_ (q : Nat) (c k n : Int) : header_Head_right.f (q + 1) c k n = some (isH c k n) := by
  unfold header_Head_right.f
  simp only [header_Head_right.j0]
  by_cases h : n < 0
  · rw [if_pos h, if_pos trivial]
    congr 1
    unfold isH
    symm
    rw [decide_eq_false_iff_not]
    omega
  · rw [if_neg h]
    by_cases h2 : n > 255
    · rw [if_pos (by simp [h2])]
      congr 1
      unfold isH
      symm
      rw [decide_eq_false_iff_not]
      omega
    · rw [if_neg (by simp [h2])]
      unfold isH
      repeat' split
      all_goals (refine congrArg some ?_; rw [Bool.eq_iff_iff]; simp only [decide_eq_true_eq, beq_iff_eq, Bool.false_eq_true, false_iff]; omega)
theorem hwords_ (q : Nat) (c k n : Int) : header_Head_Words.f (q + 1) c k n = some (hwI c k n) := by
  unfold header_Head_Words.f hwI
  rw [hright_]
  simp only [Option.bind_some]
  by_cases h : isH c k n = true
  · simp only [h, if_true]
    have : 0 ≤ n ∧ n ≤ 255 := by simp [isH] at h; omega
    congr 1
    unfold wrap64; omega
  · simp [h]
end
section
theorem rheap_ (P : Nat) (hP : P < 5) (at_ : Int) : windrowref06_Map_Heap.f ((P : Int) + 1) 1 1 64 22 (128 + 64 * (P : Int)) at_ = some (plI P at_) := by
  unfold windrowref06_Map_Heap.f plI
  rw [if_neg (by decide)]
  by_cases ha : at_ < 64
  · rw [if_pos ha, if_neg (by omega)]
  · rw [if_neg ha]
    by_cases hb : at_ ≥ 128 + 64 * (P : Int)
    · rw [if_pos hb, if_neg (by omega)]
    · rw [if_neg hb, if_pos (by omega)]
      have e1 : wrap64 (at_ - 64) = at_ - 64 := by unfold wrap64; omega
      have e2 : Int.tdiv (at_ - 64) 64 = (at_ - 64) / 64 := Int.tdiv_eq_ediv_of_nonneg (by omega)
      have e3 : Int.tmod (at_ - 64) 64 = (at_ - 64) % 64 := Int.tmod_eq_emod_of_nonneg (by omega)
      rw [e1, e2, e3]
      have e4 : wrap64 ((at_ - 64) / 64) = (at_ - 64) / 64 := by unfold wrap64; omega
      rw [e4]
theorem spages_ : ∀ w : Fin 257, 33 ≤ w.val → sizes_Pages.f (w.val : Int) = some (((w.val : Int) + 63) / 64, 0) := by decide +kernel
theorem rpages_ : ∀ w : Fin 257, 33 ≤ w.val → windrowref05_Pages.f 10 (w.val : Int) = some (((w.val : Int) + 63) / 64, 0) := by decide +kernel
/-- May it lie there? -/
def liesI (P : Nat) (at_ c k n : Int) : Bool :=
  if (plI P at_).1 < 0 ∨ hwI c k n = 0 then false
  else if hwI c k n ≤ 32 then decide ((plI P at_).2 + hwI c k n ≤ 64)
  else decide ((plI P at_).2 = 0 ∧ (plI P at_).1 + (hwI c k n + 63) / 64 ≤ (P : Int) + 1)
theorem hwI_r (c k n : Int) : 0 ≤ hwI c k n ∧ hwI c k n ≤ 256 := by
  unfold hwI
  by_cases h : isH c k n = true
  · rw [if_pos h]
    simp [isH] at h
    omega
  · rw [if_neg h]; omega
end
section
/-- A header's word. -/
def hdW (c k n : Int) : Int := 11889503016258109440 + n * 65536 + c * 256 + k
theorem eh1 : ∀ c n : Fin 16, header_EncodeHead.f 2 (c.val : Int) 1 (n.val : Int) = some (hdW c.val 1 n.val, 0) := by decide +kernel
theorem eh2 : ∀ n : Fin 256, header_EncodeHead.f 2 0 2 (n.val : Int) = some (hdW 0 2 n.val, 0) := by decide +kernel
theorem eh3 : ∀ n : Fin 256, header_EncodeHead.f 2 0 3 (n.val : Int) = some (hdW 0 3 n.val, 0) := by decide +kernel
theorem reh1 : ∀ c n : Fin 16, windrowref02_EncodeHead.f 20 (c.val : Int) 1 (n.val : Int) = some (hdW c.val 1 n.val, 0) := by decide +kernel
theorem reh2 : ∀ n : Fin 256, windrowref02_EncodeHead.f 20 0 2 (n.val : Int) = some (hdW 0 2 n.val, 0) := by decide +kernel
theorem reh3 : ∀ n : Fin 256, windrowref02_EncodeHead.f 20 0 3 (n.val : Int) = some (hdW 0 3 n.val, 0) := by decide +kernel
theorem isH_cases {c k n : Int} (h : isH c k n = true) : (∃ a b : Nat, a < 16 ∧ b < 16 ∧ c = a ∧ k = 1 ∧ n = b) ∨ (∃ b : Nat, b < 256 ∧ c = 0 ∧ (k = 2 ∨ k = 3) ∧ n = b) := by
  simp only [isH, decide_eq_true_eq] at h
  rcases h with h | h
  · exact .inl ⟨c.toNat, n.toNat, by omega, by omega, by omega, by omega, by omega⟩
  · exact .inr ⟨n.toNat, by omega, by omega, by omega, by omega⟩
theorem enc_c (c k n : Int) : header_EncodeHead.f 2 c k n = some (if isH c k n = true then (hdW c k n, 0) else (0, 4)) := by
  by_cases h : isH c k n = true
  · rw [if_pos h]
    obtain ⟨a, b, ha, hb, rfl, rfl, rfl⟩ | ⟨b, hb, rfl, rfl | rfl, rfl⟩ := isH_cases h
    · exact eh1 ⟨a, ha⟩ ⟨b, hb⟩
    · exact eh2 ⟨b, hb⟩
    · exact eh3 ⟨b, hb⟩
  · rw [if_neg h]
    unfold header_EncodeHead.f
    rw [hright_]
    simp [h]
theorem renc_c (c k n : Int) : windrowref02_EncodeHead.f 20 c k n = some (if isH c k n = true then (hdW c k n, 0) else (0, 4)) := by
  by_cases h : isH c k n = true
  · rw [if_pos h]
    obtain ⟨a, b, ha, hb, rfl, rfl, rfl⟩ | ⟨b, hb, rfl, rfl | rfl, rfl⟩ := isH_cases h
    · exact reh1 ⟨a, ha⟩ ⟨b, hb⟩
    · exact reh2 ⟨b, hb⟩
    · exact reh3 ⟨b, hb⟩
  · rw [if_neg h]
    unfold windrowref02_EncodeHead.f
    rw [rhead_]
    simp [h]
end
end Go.Proofs.YtelfiegocdjnoaaDoor.Ar
