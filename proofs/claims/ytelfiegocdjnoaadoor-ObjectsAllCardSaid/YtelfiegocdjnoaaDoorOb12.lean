/- Whether an object fits where it is, in general. Conditions: the package array reads as it was laid; small numbers. -/
import Derived.Test.YtelfiegocdjnoaaDoorMgA
import Derived.Test.YtelfiegocdjnoaaDoorMrF0
namespace Go.Proofs.YtelfiegocdjnoaaDoor.Ar
open Go Go.RowKit Go.Proofs.YtelfiegocdjnoaaDoor.Sep Go.Proofs.YtelfiegocdjnoaaDoorW.PrintWords Go.Proofs.YtelfiegocdjnoaaDoorW.PrintLast Go.Proofs.YtelfiegocdjnoaaDoorW.PrintMore Go.Proofs.YtelfiegocdjnoaaDoor.Q
set_option linter.unusedVariables false
set_option linter.unusedSimpArgs false
set_option maxHeartbeats 8000000
set_option maxRecDepth 100000
/-- How many pages so many words have. -/
def pgI (w : Int) : Int := if w ≤ 32 then 0 else (w + 63) / 64
theorem pages_c (w : Int) (h0 : 0 ≤ w) (h1 : w ≤ 256) : sizes_Pages.f w = some (if w = 0 then (0, 1) else (pgI w, 0)) := by
  unfold pgI
  by_cases hw : w = 0
  · subst hw; rfl
  · rw [if_neg hw]
    by_cases h32 : w ≤ 32
    · rw [if_pos h32]; unfold sizes_Pages.f; rw [if_neg (by omega), if_neg (by omega), if_pos h32]
    · rw [if_neg h32]
      obtain ⟨m, rfl⟩ : ∃ m : Nat, w = m := ⟨w.toNat, by omega⟩
      exact spages_ ⟨m, by omega⟩ (by show 33 ≤ m; omega)
def fitsI (k c fi w p pg : Int) : Bool := if k = 2 then decide (w ≠ 0 ∧ pgI w = c ∧ pg + pgI w ≤ p) else decide ((0 ≤ c ∧ c < 8) ∧ w ≤ szI c ∧ fi + szI c ≤ 64)
theorem szI_r (c : Int) (h0 : 0 ≤ c) (h1 : c < 8) : 2 ≤ szI c ∧ szI c ≤ 32 := szT_r ⟨c.toNat, by omega⟩
theorem fits_large {c s o y fi hc hk hn p pg : Int} (hp0 : 0 ≤ pg) (hp1 : pg ≤ 100) {w : World} : Calls Tryd.prog 87 #[.agg #[.int .i64 2, .int .i64 c, .int .i64 s, .int .i64 o, .int .i64 y], .int .i64 fi, .agg #[.int .i64 hc, .int .i64 hk, .int .i64 hn], .int .i64 p, .int .i64 pg] w fun e w' => e = .returned (.bool (fitsI 2 c fi (hwI hc hk hn) p pg)) ∧ Below w.heap.size w w' := by
  have HW := Aside.mk (hwords_ 0 hc hk hn)
  have hr := hwI_r hc hk hn
  have HP := Aside.mk (pages_c (hwI hc hk hn) hr.1 hr.2)
  have H : Aside (St w _ [blk (w.heap.size + 1) #[.int .i64 hc, .int .i64 hk, .int .i64 hn] 43, blk w.heap.size #[.int .i64 2, .int .i64 c, .int .i64 s, .int .i64 o, .int .i64 y] 168]) := Aside.mk (by have := ((St.start w).alloc #[.int .i64 2, .int .i64 c, .int .i64 s, .int .i64 o, .int .i64 y] 168).alloc #[.int .i64 hc, .int .i64 hk, .int .i64 hn] 43; simpa using this)
  have hg : 0 ≤ pgI (hwI hc hk hn) ∧ pgI (hwI hc hk hn) ≤ 4 := by unfold pgI; split <;> omega
  have hF : fitsI 2 c fi (hwI hc hk hn) p pg = decide (hwI hc hk hn ≠ 0 ∧ pgI (hwI hc hk hn) = c ∧ pg + pgI (hwI hc hk hn) ≤ p) := by unfold fitsI; rw [if_pos rfl]
  rw [hF]
  have e1 : wrap64 (pg + pgI (hwI hc hk hn)) = pg + pgI (hwI hc hk hn) := by unfold wrap64; omega
  clear hF hr
  generalize hwI hc hk hn = v at *
  generalize pgI v = n at *
  clear hg hp0 hp1
  by_cases hv : v = 0
  · rw [if_pos hv] at HP
    have hd : decide (v ≠ 0 ∧ n = c ∧ pg + n ≤ p) = false := by simp [hv]
    rw [hd]
    clear hd hv
    go_enter Tryd.func87, Tryd.ntmps87
    go_wp2_with (first
      | (go_at_call 131; refine (header_Head_Words.calls _ _ _ _ _ _ HW.out).mono ?_; rintro e w1 ⟨rfl, hb⟩; replace H := Aside.mk (H.out.step hb); clear hb)
      | (go_at_call 135; refine (sizes_Pages.calls _ _ _ _ HP.out).mono ?_; rintro e w2 ⟨rfl, hb⟩; replace H := Aside.mk (H.out.step hb.below); clear hb))
    go_ret
    exact ⟨rfl, H.out.below⟩
  · rw [if_neg hv] at HP
    have hd : decide (v ≠ 0 ∧ n = c ∧ pg + n ≤ p) = decide (n = c ∧ pg + n ≤ p) := by simp [hv]
    rw [hd]
    clear hd hv
    go_enter Tryd.func87, Tryd.ntmps87
    go_wp2_with (first
      | (go_at_call 131; refine (header_Head_Words.calls _ _ _ _ _ _ HW.out).mono ?_; rintro e w1 ⟨rfl, hb⟩; replace H := Aside.mk (H.out.step hb); clear hb)
      | (go_at_call 135; refine (sizes_Pages.calls _ _ _ _ HP.out).mono ?_; rintro e w2 ⟨rfl, hb⟩; replace H := Aside.mk (H.out.step hb.below); clear hb; have z1 := (H.out.pick 1 rfl).cell 1))
    all_goals (go_ret; refine ⟨congrArg (fun b : Bool => Ending.returned (Value.bool b)) ?_, H.out.below⟩)
    all_goals grind
theorem fits_small {k c s o y fi hc hk hn p pg : Int} (hk2 : k ≠ 2) (hf0 : 0 ≤ fi) (hf1 : fi ≤ 100) {w : World} (h : Tab w) : Calls Tryd.prog 87 #[.agg #[.int .i64 k, .int .i64 c, .int .i64 s, .int .i64 o, .int .i64 y], .int .i64 fi, .agg #[.int .i64 hc, .int .i64 hk, .int .i64 hn], .int .i64 p, .int .i64 pg] w fun e w' => e = .returned (.bool (fitsI k c fi (hwI hc hk hn) p pg)) ∧ Below w.heap.size w w' := by
  have HT := Aside.mk h
  have HW := Aside.mk (hwords_ 0 hc hk hn)
  have hr := hwI_r hc hk hn
  have H : Aside (St w _ [blk (w.heap.size + 1) #[.int .i64 hc, .int .i64 hk, .int .i64 hn] 43, blk w.heap.size #[.int .i64 k, .int .i64 c, .int .i64 s, .int .i64 o, .int .i64 y] 168]) := Aside.mk (by have := ((St.start w).alloc #[.int .i64 k, .int .i64 c, .int .i64 s, .int .i64 o, .int .i64 y] 168).alloc #[.int .i64 hc, .int .i64 hk, .int .i64 hn] 43; simpa using this)
  have hF : fitsI k c fi (hwI hc hk hn) p pg = decide ((0 ≤ c ∧ c < 8) ∧ hwI hc hk hn ≤ szI c ∧ fi + szI c ≤ 64) := by unfold fitsI; rw [if_neg hk2]
  rw [hF]
  clear hF
  by_cases hcc : 0 ≤ c ∧ c < 8
  · have hs := szI_r c hcc.1 hcc.2
    have e1 : wrap64 (fi + szI c) = fi + szI c := by unfold wrap64; omega
    have HWC : Aside (∀ w1, Tab w1 → Calls Tryd.prog 116 #[.int .i64 c] w1 fun e w' => e = .returned (.tuple #[.int .i64 (szI c), .int .i64 0]) ∧ Below w1.heap.size w1 w') := ⟨fun w1 h1 => by have := words_c c h1; rw [if_pos hcc] at this; exact this⟩
    have hd : decide ((0 ≤ c ∧ c < 8) ∧ hwI hc hk hn ≤ szI c ∧ fi + szI c ≤ 64) = decide (hwI hc hk hn ≤ szI c ∧ fi + szI c ≤ 64) := by simp [hcc]
    rw [hd]
    generalize hwI hc hk hn = v at *
    generalize szI c = n at *
    clear h hd hcc hs hr hf0 hf1
    go_enter Tryd.func87, Tryd.ntmps87
    go_wp2_with (first
      | (go_at_call 116; refine (HWC.out _ (HT.out.st H.out)).mono ?_; rintro e w1 ⟨rfl, hb⟩; replace H := Aside.mk (H.out.step hb); clear hb; have z0 := H.out.cell 0; have z1 := H.out.cell 1; have z2 := H.out.cell 2)
      | (go_at_call 131; refine (header_Head_Words.calls _ _ _ _ _ _ HW.out).mono ?_; rintro e w2 ⟨rfl, hb⟩; replace H := Aside.mk (H.out.step hb); clear hb))
    all_goals (go_ret; refine ⟨congrArg (fun b : Bool => Ending.returned (Value.bool b)) ?_, H.out.below⟩)
    all_goals grind
  · have HWC : Aside (∀ w1, Tab w1 → Calls Tryd.prog 116 #[.int .i64 c] w1 fun e w' => e = .returned (.tuple #[.int .i64 0, .int .i64 1]) ∧ Below w1.heap.size w1 w') := ⟨fun w1 h1 => by have := words_c c h1; rw [if_neg hcc] at this; exact this⟩
    have hd : decide ((0 ≤ c ∧ c < 8) ∧ hwI hc hk hn ≤ szI c ∧ fi + szI c ≤ 64) = false := by simp only [hcc, false_and, decide_false]
    rw [hd]
    clear h hd hcc hr hf0 hf1
    go_enter Tryd.func87, Tryd.ntmps87
    go_wp2_with (go_at_call 116; refine (HWC.out _ (HT.out.st H.out)).mono ?_; rintro e w1 ⟨rfl, hb⟩; replace H := Aside.mk (H.out.step hb); clear hb)
    go_ret
    exact ⟨rfl, H.out.below⟩
end Go.Proofs.YtelfiegocdjnoaaDoor.Ar
