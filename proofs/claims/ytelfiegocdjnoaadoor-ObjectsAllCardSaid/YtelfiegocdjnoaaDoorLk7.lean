/- Does an object find room where it is: the document's, walked. Conditions: it is allocated there; a header. -/
import Derived.Test.YtelfiegocdjnoaaDoorLk3
import Derived.Test.YtelfiegocdjnoaaDoorStp
import Derived.Test.YtelfiegocdjnoaaDoorMrF0
import Derived.Test.YtelfiegocdjnoaaDoorMrF1
namespace Go.Proofs.YtelfiegocdjnoaaDoor.Ar
open Go Go.RowKit Go.Proofs.YtelfiegocdjnoaaDoor.Sep Go.Proofs.YtelfiegocdjnoaaDoor.Pg Go.Proofs.YtelfiegocdjnoaaDoorW.PrintWords Go.Proofs.YtelfiegocdjnoaaDoorW.PrintLast Go.Proofs.YtelfiegocdjnoaaDoorW.PrintMore Go.Proofs.YtelfiegocdjnoaaDoor.Q
set_option linter.unusedVariables false
set_option linter.unusedSimpArgs false
set_option maxHeartbeats 8000000
set_option maxRecDepth 100000
theorem room_w {P : Nat} {ek ec es eo ey ef al hc hk hn : Int} {i j : Nat} (hP : P < 5) (hi : i ≤ P) (hj : j < 64) (ha : allI ek ec ef al j = true) (hh : isH hc hk hn = true) (w : World) :
    Calls Tryd.prog 92 #[.agg #[.int .i64 ((P : Int) + 1), .int .i64 1, .int .i64 1, .int .i64 64, .int .i64 22, .int .i64 (128 + 64 * (P : Int))], .agg #[.int .i64 ek, .int .i64 ec, .int .i64 es, .int .i64 eo, .int .i64 ey], .int .i64 i, .int .i64 j, .agg #[.int .i64 hc, .int .i64 hk, .int .i64 hn]] w fun e w' => e = .returned (.bool (fitsI ek ec (j : Int) (hwI hc hk hn) ((P : Int) + 1) (i : Int))) ∧ Below w.heap.size w w' := by
  have hw : 1 ≤ hwI hc hk hn ∧ hwI hc hk hn ≤ 256 := by
    have hn : 0 ≤ hn ∧ hn ≤ 255 := by simp only [isH, decide_eq_true_eq] at hh; omega
    unfold hwI; rw [if_pos hh]; omega
  have P1 := Aside.mk (rwords_ hc hk hn)
  have H : Aside (St w _ [blk (w.heap.size + 2) #[.int .i64 hc, .int .i64 hk, .int .i64 hn] 73, blk (w.heap.size + 1) #[.int .i64 ek, .int .i64 ec, .int .i64 es, .int .i64 eo, .int .i64 ey] 75, blk w.heap.size #[.int .i64 ((P : Int) + 1), .int .i64 1, .int .i64 1, .int .i64 64, .int .i64 22, .int .i64 (128 + 64 * (P : Int))] 27]) := Aside.mk (by have := (((St.start w).alloc #[.int .i64 ((P : Int) + 1), .int .i64 1, .int .i64 1, .int .i64 64, .int .i64 22, .int .i64 (128 + 64 * (P : Int))] 27).alloc #[.int .i64 ek, .int .i64 ec, .int .i64 es, .int .i64 eo, .int .i64 ey] 75).alloc #[.int .i64 hc, .int .i64 hk, .int .i64 hn] 73; simpa using this)
  generalize hwI hc hk hn = v at hw P1 ⊢
  obtain ⟨_, ⟨rfl, hce⟩ | ⟨rfl, rfl⟩⟩ := allI_k ha
  · obtain ⟨⟨h0, h8⟩, h64⟩ := cellI_j hce
    obtain ⟨m, rfl⟩ := Int.eq_ofNat_of_zero_le h0
    have P2 : Aside (windrowref05_Words.f (m : Int) = some (szI (m : Int), 0)) := ⟨rwords5_ ⟨m, by omega⟩⟩
    have hb : fitsI 1 (m : Int) (j : Int) v ((P : Int) + 1) (i : Int) = decide (v ≤ szI (m : Int)) := by
      unfold fitsI
      rw [if_neg (by decide), Bool.eq_iff_iff]
      simp only [decide_eq_true_eq]
      exact ⟨fun h => h.2.1, fun h => ⟨⟨h0, h8⟩, h, h64⟩⟩
    rw [hb]
    generalize szI (m : Int) = z at *
    clear hb ha hce h0 h8 h64 hw hh hj hi hP
    go_enter Tryd.func92, Tryd.ntmps92
    go_wp2_with (first
      | (go_at_call 99; refine (windrowref02_Words.calls _ _ _ _ _ P1.out).mono ?_; rintro e w1 ⟨rfl, hb⟩; replace H := Aside.mk (H.out.step hb); clear hb; have z0 := (H.out.pick 1 rfl).cell 0; have z1 := (H.out.pick 1 rfl).cell 1)
      | (go_at_call 97; refine (windrowref05_Words.calls _ _ _ _ P2.out).mono ?_; rintro e w2 ⟨rfl, hb⟩; replace H := Aside.mk (H.out.step hb); clear hb))
    go_ret
    exact ⟨rfl, H.out.below⟩
  · have P2 := Aside.mk (rpages2_ 10 (Nat.le_refl _) v hw.1 hw.2)
    have hp : 0 ≤ pgI v ∧ pgI v ≤ 4 := by unfold pgI; split <;> omega
    have e1 : wrap64 ((i : Int) + pgI v) = (i : Int) + pgI v := by unfold wrap64; omega
    have hb : fitsI 2 ec ((0 : Nat) : Int) v ((P : Int) + 1) (i : Int) = (decide (pgI v = ec) && decide ((i : Int) + pgI v ≤ (P : Int) + 1)) := by
      unfold fitsI
      rw [if_pos rfl, Bool.eq_iff_iff]
      simp only [decide_eq_true_eq, Bool.and_eq_true]
      exact ⟨fun h => ⟨h.2.1, h.2.2⟩, fun h => ⟨by omega, h.1, h.2⟩⟩
    rw [hb]
    generalize pgI v = z at *
    clear hb ha hw hh hj hi hP hp
    by_cases hz : z = ec
    · have bz : (z == ec) = true := by simp [hz]
      rw [show decide (z = ec) = true by simp [hz], Bool.true_and]
      clear hz
      go_enter Tryd.func92, Tryd.ntmps92
      go_wp2_with (first
        | (go_at_call 99; refine (windrowref02_Words.calls _ _ _ _ _ P1.out).mono ?_; rintro e w1 ⟨rfl, hb⟩; replace H := Aside.mk (H.out.step hb); clear hb; have z0 := (H.out.pick 1 rfl).cell 0; have z1 := (H.out.pick 1 rfl).cell 1; have y0 := (H.out.pick 2 rfl).cell 0)
        | (go_at_call 29; refine (windrowref05_Pages.calls _ _ _ _ _ P2.out).mono ?_; rintro e w2 ⟨rfl, hb⟩; replace H := Aside.mk (H.out.step hb.below); clear hb z0 z1 y0; have z1 := (H.out.pick 1 rfl).cell 1; have y0 := (H.out.pick 2 rfl).cell 0))
      go_ret
      exact ⟨rfl, H.out.below⟩
    · have bz : (z == ec) = false := by simp [hz]
      rw [show decide (z = ec) = false by simp [hz], Bool.false_and]
      clear hz
      go_enter Tryd.func92, Tryd.ntmps92
      go_wp2_with (first
        | (go_at_call 99; refine (windrowref02_Words.calls _ _ _ _ _ P1.out).mono ?_; rintro e w1 ⟨rfl, hb⟩; replace H := Aside.mk (H.out.step hb); clear hb; have z0 := (H.out.pick 1 rfl).cell 0; have z1 := (H.out.pick 1 rfl).cell 1; have y0 := (H.out.pick 2 rfl).cell 0)
        | (go_at_call 29; refine (windrowref05_Pages.calls _ _ _ _ _ P2.out).mono ?_; rintro e w2 ⟨rfl, hb⟩; replace H := Aside.mk (H.out.step hb.below); clear hb z0 z1 y0; have z1 := (H.out.pick 1 rfl).cell 1; have y0 := (H.out.pick 2 rfl).cell 0))
      go_ret
      exact ⟨rfl, H.out.below⟩
end Go.Proofs.YtelfiegocdjnoaaDoor.Ar
