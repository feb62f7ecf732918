-- PRINTED by print.py (a twelfth state) out of the translation. Not trusted: Lean checks it.
import Derived.Test.YtakpdmkfengghaaQ0
import Derived.Test.YtakpdmkfengghaaF17
import Derived.Test.YtakpdmkfengghaaF30
import Derived.Test.YtakpdmkfengghaaQ1
namespace Go.Proofs.Ytakpdmkfengghaa.Q
open Go.RowKit Go.Proofs.YtakpdmkfengghaaW.PrintWords Go.Proofs.YtakpdmkfengghaaW.PrintLast Go.Proofs.YtakpdmkfengghaaW.PrintMore
attribute [local go_sem] max2_int min2_int max_two min_two max_three min_three max_four min_four   -- for this text's walks alone
set_option linter.unusedVariables false
set_option linter.unusedSimpArgs false
attribute [local go_sem high] eqA23

/-! ### windrowref13_Same: function 16 -/
mutual
def windrowref13_Same.j0 : Nat → Bool → List (S42) → List (S48) → List (S42) → List (S48) → Option (Bool)
  | 0, _, _, _, _, _ => none
  | k + 1, x23, x291000, x291001, x292000, x292001 => if x23 = true then (some false) else (windrowref13_Same.l0 k 0 x291000 x291001 x292000 x292001)
def windrowref13_Same.l0 : Nat → Int → List (S42) → List (S48) → List (S42) → List (S48) → Option (Bool)
  | 0, _, _, _, _, _ => none
  | k + 1, x5, x291000, x291001, x292000, x292001 => if x5 < (x291001.length : Int) then (if 0 ≤ x5 then (if x5 < (x292001.length : Int) then (if ((rd_T48 x291001 x5).f0).toList = ((rd_T48 x292001 x5).f0).toList then (if ((rd_T48 x291001 x5).f2) = ((rd_T48 x292001 x5).f2) then ((windrowref13_sameInts.f k ((rd_T48 x291001 x5).f1) ((rd_T48 x292001 x5).f1)).bind fun t297 => (if t297 = true then ((windrowref13_sameInts.f k ((rd_T48 x291001 x5).f3) ((rd_T48 x292001 x5).f3)).bind fun t298 => (if t298 = true then (windrowref13_Same.j2 k x5 ((((rd_T48 x291001 x5).f4).length : Int) != (((rd_T48 x292001 x5).f4).length : Int)) x291000 x291001 x292000 x292001 ((rd_T48 x291001 x5).f0) ((rd_T48 x291001 x5).f1) ((rd_T48 x291001 x5).f2) ((rd_T48 x291001 x5).f3) ((rd_T48 x291001 x5).f4) ((rd_T48 x292001 x5).f0) ((rd_T48 x292001 x5).f1) ((rd_T48 x292001 x5).f2) ((rd_T48 x292001 x5).f3) ((rd_T48 x292001 x5).f4)) else (windrowref13_Same.j2 k x5 true x291000 x291001 x292000 x292001 ((rd_T48 x291001 x5).f0) ((rd_T48 x291001 x5).f1) ((rd_T48 x291001 x5).f2) ((rd_T48 x291001 x5).f3) ((rd_T48 x291001 x5).f4) ((rd_T48 x292001 x5).f0) ((rd_T48 x292001 x5).f1) ((rd_T48 x292001 x5).f2) ((rd_T48 x292001 x5).f3) ((rd_T48 x292001 x5).f4)))) else (windrowref13_Same.j2 k x5 true x291000 x291001 x292000 x292001 ((rd_T48 x291001 x5).f0) ((rd_T48 x291001 x5).f1) ((rd_T48 x291001 x5).f2) ((rd_T48 x291001 x5).f3) ((rd_T48 x291001 x5).f4) ((rd_T48 x292001 x5).f0) ((rd_T48 x292001 x5).f1) ((rd_T48 x292001 x5).f2) ((rd_T48 x292001 x5).f3) ((rd_T48 x292001 x5).f4)))) else (windrowref13_Same.j2 k x5 true x291000 x291001 x292000 x292001 ((rd_T48 x291001 x5).f0) ((rd_T48 x291001 x5).f1) ((rd_T48 x291001 x5).f2) ((rd_T48 x291001 x5).f3) ((rd_T48 x291001 x5).f4) ((rd_T48 x292001 x5).f0) ((rd_T48 x292001 x5).f1) ((rd_T48 x292001 x5).f2) ((rd_T48 x292001 x5).f3) ((rd_T48 x292001 x5).f4))) else (windrowref13_Same.j2 k x5 true x291000 x291001 x292000 x292001 ((rd_T48 x291001 x5).f0) ((rd_T48 x291001 x5).f1) ((rd_T48 x291001 x5).f2) ((rd_T48 x291001 x5).f3) ((rd_T48 x291001 x5).f4) ((rd_T48 x292001 x5).f0) ((rd_T48 x292001 x5).f1) ((rd_T48 x292001 x5).f2) ((rd_T48 x292001 x5).f3) ((rd_T48 x292001 x5).f4))) else (none)) else (none)) else (some true)
def windrowref13_Same.j2 : Nat → Int → Bool → List (S42) → List (S48) → List (S42) → List (S48) → ByteArray → List Int → Int → List Int → List (S23) → ByteArray → List Int → Int → List Int → List (S23) → Option (Bool)
  | 0, _, _, _, _, _, _, _, _, _, _, _, _, _, _, _, _ => none
  | k + 1, x5, x77, x291000, x291001, x292000, x292001, x295000, x295001, x295002, x295003, x295004, x297000, x297001, x297002, x297003, x297004 => if x77 = true then (some false) else (windrowref13_Same.l1 k x5 0 x291000 x291001 x292000 x292001 x295000 x295001 x295002 x295003 x295004 x297000 x297001 x297002 x297003 x297004)
def windrowref13_Same.l1 : Nat → Int → Int → List (S42) → List (S48) → List (S42) → List (S48) → ByteArray → List Int → Int → List Int → List (S23) → ByteArray → List Int → Int → List Int → List (S23) → Option (Bool)
  | 0, _, _, _, _, _, _, _, _, _, _, _, _, _, _, _, _ => none
  | k + 1, x5, x8, x291000, x291001, x292000, x292001, x295000, x295001, x295002, x295003, x295004, x297000, x297001, x297002, x297003, x297004 => if x8 < (x295004.length : Int) then (if 0 ≤ x8 then (if x8 < (x297004.length : Int) then (if (!(((rd_T23 x295004 x8).f0) == ((rd_T23 x297004 x8).f0)) || (!(((rd_T23 x295004 x8).f1) == ((rd_T23 x297004 x8).f1)) || (!(((rd_T23 x295004 x8).f2) == ((rd_T23 x297004 x8).f2))))) = true then (some false) else (windrowref13_Same.l1 k x5 (wrap64 (x8 + 1)) x291000 x291001 x292000 x292001 x295000 x295001 x295002 x295003 x295004 x297000 x297001 x297002 x297003 x297004)) else (none)) else (none)) else (windrowref13_Same.l0 k (wrap64 (x5 + 1)) x291000 x291001 x292000 x292001)
end
def windrowref13_Same.f (k : Nat) (l0_0 : List (S42)) (l0_1 : List (S48)) (l1_0 : List (S42)) (l1_1 : List (S48)) : Option (Bool) := (windrowref10_Same.f k l0_0 l1_0).bind fun t292 => (if t292 = true then (windrowref13_Same.j0 k ((l0_1.length : Int) != (l1_1.length : Int)) l0_0 l0_1 l1_0 l1_1) else (windrowref13_Same.j0 k true l0_0 l0_1 l1_0 l1_1))
theorem windrowref13_Same.mono_l : ∀ k, (∀ y0 y1 y2 y3 y4, LeO (windrowref13_Same.j0 k y0 y1 y2 y3 y4) (windrowref13_Same.j0 (k + 1) y0 y1 y2 y3 y4)) ∧ (∀ y0 y1 y2 y3 y4, LeO (windrowref13_Same.l0 k y0 y1 y2 y3 y4) (windrowref13_Same.l0 (k + 1) y0 y1 y2 y3 y4)) ∧ (∀ y0 y1 y2 y3 y4 y5 y6 y7 y8 y9 y10 y11 y12 y13 y14 y15, LeO (windrowref13_Same.j2 k y0 y1 y2 y3 y4 y5 y6 y7 y8 y9 y10 y11 y12 y13 y14 y15) (windrowref13_Same.j2 (k + 1) y0 y1 y2 y3 y4 y5 y6 y7 y8 y9 y10 y11 y12 y13 y14 y15)) ∧ (∀ y0 y1 y2 y3 y4 y5 y6 y7 y8 y9 y10 y11 y12 y13 y14 y15, LeO (windrowref13_Same.l1 k y0 y1 y2 y3 y4 y5 y6 y7 y8 y9 y10 y11 y12 y13 y14 y15) (windrowref13_Same.l1 (k + 1) y0 y1 y2 y3 y4 y5 y6 y7 y8 y9 y10 y11 y12 y13 y14 y15))
  | 0 => ⟨fun _ _ _ _ _ r h => by simp [windrowref13_Same.j0] at h, fun _ _ _ _ _ r h => by simp [windrowref13_Same.l0] at h, fun _ _ _ _ _ _ _ _ _ _ _ _ _ _ _ _ r h => by simp [windrowref13_Same.j2] at h, fun _ _ _ _ _ _ _ _ _ _ _ _ _ _ _ _ r h => by simp [windrowref13_Same.l1] at h⟩
  | k + 1 => by
    obtain ⟨ih0, ih1, ih2, ih3⟩ := windrowref13_Same.mono_l k
    refine ⟨?_, ?_, ?_, ?_⟩
    · intro y0 y1 y2 y3 y4
      unfold windrowref13_Same.j0
      repeat' first
      | (with_reducible exact ih0 _ _ _ _ _)
      | (with_reducible exact ih1 _ _ _ _ _)
      | (with_reducible exact ih2 _ _ _ _ _ _ _ _ _ _ _ _ _ _ _ _)
      | (with_reducible exact ih3 _ _ _ _ _ _ _ _ _ _ _ _ _ _ _ _)
      | (with_reducible exact windrowref10_Same.mono _ _ _)
      | (with_reducible exact windrowref13_sameInts.mono _ _ _)
      | (with_reducible exact LeO.refl _)
      | (with_reducible exact LeO.none _)
      | (with_reducible refine LeO.ite ?_ ?_)
      | (with_reducible refine LeO.bind ?_ (fun _ => ?_))
      | exact ih0 _ _ _ _ _
      | exact ih1 _ _ _ _ _
      | exact ih2 _ _ _ _ _ _ _ _ _ _ _ _ _ _ _ _
      | exact ih3 _ _ _ _ _ _ _ _ _ _ _ _ _ _ _ _
      | exact windrowref10_Same.mono _ _ _
      | exact windrowref13_sameInts.mono _ _ _
      | exact LeO.none _
      | refine LeO.ite ?_ ?_
      | refine LeO.bind ?_ (fun _ => ?_)
    · intro y0 y1 y2 y3 y4
      unfold windrowref13_Same.l0
      repeat' first
      | (with_reducible exact ih0 _ _ _ _ _)
      | (with_reducible exact ih1 _ _ _ _ _)
      | (with_reducible exact ih2 _ _ _ _ _ _ _ _ _ _ _ _ _ _ _ _)
      | (with_reducible exact ih3 _ _ _ _ _ _ _ _ _ _ _ _ _ _ _ _)
      | (with_reducible exact windrowref10_Same.mono _ _ _)
      | (with_reducible exact windrowref13_sameInts.mono _ _ _)
      | (with_reducible exact LeO.refl _)
      | (with_reducible exact LeO.none _)
      | (with_reducible refine LeO.ite ?_ ?_)
      | (with_reducible refine LeO.bind ?_ (fun _ => ?_))
      | exact ih0 _ _ _ _ _
      | exact ih1 _ _ _ _ _
      | exact ih2 _ _ _ _ _ _ _ _ _ _ _ _ _ _ _ _
      | exact ih3 _ _ _ _ _ _ _ _ _ _ _ _ _ _ _ _
      | exact windrowref10_Same.mono _ _ _
      | exact windrowref13_sameInts.mono _ _ _
      | exact LeO.none _
      | refine LeO.ite ?_ ?_
      | refine LeO.bind ?_ (fun _ => ?_)
    · intro y0 y1 y2 y3 y4 y5 y6 y7 y8 y9 y10 y11 y12 y13 y14 y15
      unfold windrowref13_Same.j2
      repeat' first
      | (with_reducible exact ih0 _ _ _ _ _)
      | (with_reducible exact ih1 _ _ _ _ _)
      | (with_reducible exact ih2 _ _ _ _ _ _ _ _ _ _ _ _ _ _ _ _)
      | (with_reducible exact ih3 _ _ _ _ _ _ _ _ _ _ _ _ _ _ _ _)
      | (with_reducible exact windrowref10_Same.mono _ _ _)
      | (with_reducible exact windrowref13_sameInts.mono _ _ _)
      | (with_reducible exact LeO.refl _)
      | (with_reducible exact LeO.none _)
      | (with_reducible refine LeO.ite ?_ ?_)
      | (with_reducible refine LeO.bind ?_ (fun _ => ?_))
      | exact ih0 _ _ _ _ _
      | exact ih1 _ _ _ _ _
      | exact ih2 _ _ _ _ _ _ _ _ _ _ _ _ _ _ _ _
      | exact ih3 _ _ _ _ _ _ _ _ _ _ _ _ _ _ _ _
      | exact windrowref10_Same.mono _ _ _
      | exact windrowref13_sameInts.mono _ _ _
      | exact LeO.none _
      | refine LeO.ite ?_ ?_
      | refine LeO.bind ?_ (fun _ => ?_)
    · intro y0 y1 y2 y3 y4 y5 y6 y7 y8 y9 y10 y11 y12 y13 y14 y15
      unfold windrowref13_Same.l1
      repeat' first
      | (with_reducible exact ih0 _ _ _ _ _)
      | (with_reducible exact ih1 _ _ _ _ _)
      | (with_reducible exact ih2 _ _ _ _ _ _ _ _ _ _ _ _ _ _ _ _)
      | (with_reducible exact ih3 _ _ _ _ _ _ _ _ _ _ _ _ _ _ _ _)
      | (with_reducible exact windrowref10_Same.mono _ _ _)
      | (with_reducible exact windrowref13_sameInts.mono _ _ _)
      | (with_reducible exact LeO.refl _)
      | (with_reducible exact LeO.none _)
      | (with_reducible refine LeO.ite ?_ ?_)
      | (with_reducible refine LeO.bind ?_ (fun _ => ?_))
      | exact ih0 _ _ _ _ _
      | exact ih1 _ _ _ _ _
      | exact ih2 _ _ _ _ _ _ _ _ _ _ _ _ _ _ _ _
      | exact ih3 _ _ _ _ _ _ _ _ _ _ _ _ _ _ _ _
      | exact windrowref10_Same.mono _ _ _
      | exact windrowref13_sameInts.mono _ _ _
      | exact LeO.none _
      | refine LeO.ite ?_ ?_
      | refine LeO.bind ?_ (fun _ => ?_)
theorem windrowref13_Same.mono : ∀ a0 a1 a2 a3 k, LeO (windrowref13_Same.f k a0 a1 a2 a3) (windrowref13_Same.f (k + 1) a0 a1 a2 a3) := by
  intro a0 a1 a2 a3 k
  obtain ⟨ih0, ih1, ih2, ih3⟩ := windrowref13_Same.mono_l k
  unfold windrowref13_Same.f
  repeat' first
      | (with_reducible exact ih0 _ _ _ _ _)
      | (with_reducible exact ih1 _ _ _ _ _)
      | (with_reducible exact ih2 _ _ _ _ _ _ _ _ _ _ _ _ _ _ _ _)
      | (with_reducible exact ih3 _ _ _ _ _ _ _ _ _ _ _ _ _ _ _ _)
      | (with_reducible exact windrowref10_Same.mono _ _ _)
      | (with_reducible exact windrowref13_sameInts.mono _ _ _)
      | (with_reducible exact LeO.refl _)
      | (with_reducible exact LeO.none _)
      | (with_reducible refine LeO.ite ?_ ?_)
      | (with_reducible refine LeO.bind ?_ (fun _ => ?_))
      | exact ih0 _ _ _ _ _
      | exact ih1 _ _ _ _ _
      | exact ih2 _ _ _ _ _ _ _ _ _ _ _ _ _ _ _ _
      | exact ih3 _ _ _ _ _ _ _ _ _ _ _ _ _ _ _ _
      | exact windrowref10_Same.mono _ _ _
      | exact windrowref13_sameInts.mono _ _ _
      | exact LeO.none _
      | refine LeO.ite ?_ ?_
      | refine LeO.bind ?_ (fun _ => ?_)
set_option maxHeartbeats 8000000 in
set_option maxRecDepth 100000 in
theorem windrowref13_Same.calls (k : Nat) (A0_0 : Option Addr) (c0_0 : Nat) (l0_0 : List (S42)) (A0_1 : Option Addr) (c0_1 : Nat) (l0_1 : List (S48)) (A1_0 : Option Addr) (c1_0 : Nat) (l1_0 : List (S42)) (A1_1 : Option Addr) (c1_1 : Nat) (l1_1 : List (S48)) (r : Bool) (w : World) (hr0_0 : Kd.C k42 w A0_0 l0_0.length l0_0) (hc0_0 : l0_0.length ≤ c0_0) (hr0_1 : Kd.C k48 w A0_1 l0_1.length l0_1) (hc0_1 : l0_1.length ≤ c0_1) (hr1_0 : Kd.C k42 w A1_0 l1_0.length l1_0) (hc1_0 : l1_0.length ≤ c1_0) (hr1_1 : Kd.C k48 w A1_1 l1_1.length l1_1) (hc1_1 : l1_1.length ≤ c1_1) (h : windrowref13_Same.f k l0_0 l0_1 l1_0 l1_1 = some r) :
    Calls Try.prog 16 #[.agg #[.slice A0_0 l0_0.length c0_0, .slice A0_1 l0_1.length c0_1], .agg #[.slice A1_0 l1_0.length c1_0, .slice A1_1 l1_1.length c1_1]] w fun e w' => e = .returned (.bool r) ∧ Below w.heap.size w w' := by
  have hu29 := Try.underlying29
  have hu48 := Try.underlying48
  have hu23 := Try.underlying23
  have HR0_0 := Aside0.mk hr0_0
  have HC0_0 := Aside0.mk hc0_0
  clear hr0_0 hc0_0
  have HR0_1 := Aside0.mk hr0_1
  have HC0_1 := Aside0.mk hc0_1
  clear hr0_1 hc0_1
  have HR1_0 := Aside0.mk hr1_0
  have HC1_0 := Aside0.mk hc1_0
  clear hr1_0 hc1_0
  have HR1_1 := Aside0.mk hr1_1
  have HC1_1 := Aside0.mk hc1_1
  clear hr1_1 hc1_1
  have HB := Aside0.mk (Below.refl w.heap.size w)
  have H : ((windrowref10_Same.f k l0_0 l1_0).bind fun t292 => (if t292 = true then (windrowref13_Same.j0 k ((l0_1.length : Int) != (l1_1.length : Int)) l0_0 l0_1 l1_0 l1_1) else (windrowref13_Same.j0 k true l0_0 l0_1 l1_0 l1_1))) = some r := h
  clear h
  have HC3 := Aside0.mk H
  clear H
  go_enter Try.func16, Try.ntmps16
  go_upto_region 1 with (first | ((with_reducible refine gate_dst (N := 2) rfl ?_); (try (refine gate_guard (by rfl) ?_; dsimp only)); refine box_event ?hg (N := 2) ?hd (cs := #[.slice A0_0 l0_0.length c0_0, .slice A0_1 l0_1.length c0_1]) (t := 29) ?hr ?_; (case hd => rfl); (case hg => rfl); (case hr => first | (go_simp; done) | (go_simp; rfl)); intro gb290 hg w4 hbox hb; have n0_ := Aside0.mk (below_step (by repeat (first | (with_reducible first | exact HB.out | apply below_alloc | apply pw_below_drewN | apply below_drew1) | exact HB.out)) hb); have n1_ := Aside0.mk (hbox); have n2_ := Aside0.mk ((by rw [hg]; exact (below_size (by repeat (first | (with_reducible first | exact HB.out | apply below_alloc | apply pw_below_drewN | apply below_drew1) | exact HB.out))) : w.heap.size ≤ gb290)); have n3_ := Aside0.mk ((by rw [hg]; exact (below_size (by repeat (first | (with_reducible first | exact HB.out | apply below_alloc | apply pw_below_drewN | apply below_drew1) | exact HB.out))) : w.heap.size ≤ gb290)); clear HB; have HB := n0_; have BK290 := n1_; have GW290 := n2_; have GE290 := n3_; clear n0_ n1_ n2_ n3_; clear hb hbox hg) | ((with_reducible refine gate_dst (N := 3) rfl ?_); (try (refine gate_guard (by rfl) ?_; dsimp only)); refine box_event ?hg (N := 3) ?hd (cs := #[.slice A1_0 l1_0.length c1_0, .slice A1_1 l1_1.length c1_1]) (t := 29) ?hr ?_; (case hd => rfl); (case hg => rfl); (case hr => first | (go_simp; done) | (go_simp; rfl)); intro gb291 hg w5 hbox hb; have n0_ := Aside0.mk (blk_below (g := gb290) (o := .cells #[.slice A0_0 l0_0.length c0_0, .slice A0_1 l0_1.length c0_1] 29 (0, 0)) (by (with_reducible repeat (first | refine blk_drewN ?_ _ | refine blk_drew ?_ | refine blk_alloc ?_ _)); exact BK290.out) hb); have n1_ := Aside0.mk (below_step (by repeat (first | (with_reducible first | exact HB.out | apply below_alloc | apply pw_below_drewN | apply below_drew1 | refine below_set ?_ GE290.out) | exact HB.out)) hb); have n2_ := Aside0.mk (hbox); have n3_ := Aside0.mk ((by rw [hg]; exact (below_size (by repeat (first | (with_reducible first | exact HB.out | apply below_alloc | apply pw_below_drewN | apply below_drew1 | refine below_set ?_ GE290.out) | exact HB.out))) : w.heap.size ≤ gb291)); have n4_ := Aside0.mk ((by rw [hg]; exact (below_size (by repeat (first | (with_reducible first | exact HB.out | apply below_alloc | apply pw_below_drewN | apply below_drew1 | refine below_set ?_ GE290.out) | exact HB.out))) : w.heap.size ≤ gb291)); have n5_ := Aside0.mk ((by rw [hg]; exact Nat.ne_of_lt (blk_lt (g := gb290) (o := .cells #[.slice A0_0 l0_0.length c0_0, .slice A0_1 l0_1.length c0_1] 29 (0, 0)) (by (with_reducible repeat (first | refine blk_drewN ?_ _ | refine blk_drew ?_ | refine blk_alloc ?_ _)); exact BK290.out)) : gb290 ≠ gb291)); have n6_ := Aside0.mk ((by rw [hg]; exact Nat.ne_of_gt (blk_lt (g := gb290) (o := .cells #[.slice A0_0 l0_0.length c0_0, .slice A0_1 l0_1.length c0_1] 29 (0, 0)) (by (with_reducible repeat (first | refine blk_drewN ?_ _ | refine blk_drew ?_ | refine blk_alloc ?_ _)); exact BK290.out)) : gb291 ≠ gb290)); clear BK290; clear HB; have BK290 := n0_; have HB := n1_; have BK291 := n2_; have GW291 := n3_; have GE291 := n4_; have NB290_291 := n5_; have NB291_290 := n6_; clear n0_ n1_ n2_ n3_ n4_ n5_ n6_; clear hb hbox hg))
  repeat (go_quiet (first | ((with_reducible refine gate_dst (N := 2) rfl ?_); (try (refine gate_guard (by rfl) ?_; dsimp only)); refine box_event ?hg (N := 2) ?hd (cs := #[.slice A0_0 l0_0.length c0_0, .slice A0_1 l0_1.length c0_1]) (t := 29) ?hr ?_; (case hd => rfl); (case hg => rfl); (case hr => first | (go_simp; done) | (go_simp; rfl)); intro gb290 hg w4 hbox hb; have n0_ := Aside0.mk (below_step (by repeat (first | (with_reducible first | exact HB.out | apply below_alloc | apply pw_below_drewN | apply below_drew1) | exact HB.out)) hb); have n1_ := Aside0.mk (hbox); have n2_ := Aside0.mk ((by rw [hg]; exact (below_size (by repeat (first | (with_reducible first | exact HB.out | apply below_alloc | apply pw_below_drewN | apply below_drew1) | exact HB.out))) : w.heap.size ≤ gb290)); have n3_ := Aside0.mk ((by rw [hg]; exact (below_size (by repeat (first | (with_reducible first | exact HB.out | apply below_alloc | apply pw_below_drewN | apply below_drew1) | exact HB.out))) : w.heap.size ≤ gb290)); clear HB; have HB := n0_; have BK290 := n1_; have GW290 := n2_; have GE290 := n3_; clear n0_ n1_ n2_ n3_; clear hb hbox hg) | ((with_reducible refine gate_dst (N := 3) rfl ?_); (try (refine gate_guard (by rfl) ?_; dsimp only)); refine box_event ?hg (N := 3) ?hd (cs := #[.slice A1_0 l1_0.length c1_0, .slice A1_1 l1_1.length c1_1]) (t := 29) ?hr ?_; (case hd => rfl); (case hg => rfl); (case hr => first | (go_simp; done) | (go_simp; rfl)); intro gb291 hg w5 hbox hb; have n0_ := Aside0.mk (blk_below (g := gb290) (o := .cells #[.slice A0_0 l0_0.length c0_0, .slice A0_1 l0_1.length c0_1] 29 (0, 0)) (by (with_reducible repeat (first | refine blk_drewN ?_ _ | refine blk_drew ?_ | refine blk_alloc ?_ _)); exact BK290.out) hb); have n1_ := Aside0.mk (below_step (by repeat (first | (with_reducible first | exact HB.out | apply below_alloc | apply pw_below_drewN | apply below_drew1 | refine below_set ?_ GE290.out) | exact HB.out)) hb); have n2_ := Aside0.mk (hbox); have n3_ := Aside0.mk ((by rw [hg]; exact (below_size (by repeat (first | (with_reducible first | exact HB.out | apply below_alloc | apply pw_below_drewN | apply below_drew1 | refine below_set ?_ GE290.out) | exact HB.out))) : w.heap.size ≤ gb291)); have n4_ := Aside0.mk ((by rw [hg]; exact (below_size (by repeat (first | (with_reducible first | exact HB.out | apply below_alloc | apply pw_below_drewN | apply below_drew1 | refine below_set ?_ GE290.out) | exact HB.out))) : w.heap.size ≤ gb291)); have n5_ := Aside0.mk ((by rw [hg]; exact Nat.ne_of_lt (blk_lt (g := gb290) (o := .cells #[.slice A0_0 l0_0.length c0_0, .slice A0_1 l0_1.length c0_1] 29 (0, 0)) (by (with_reducible repeat (first | refine blk_drewN ?_ _ | refine blk_drew ?_ | refine blk_alloc ?_ _)); exact BK290.out)) : gb290 ≠ gb291)); have n6_ := Aside0.mk ((by rw [hg]; exact Nat.ne_of_gt (blk_lt (g := gb290) (o := .cells #[.slice A0_0 l0_0.length c0_0, .slice A0_1 l0_1.length c0_1] 29 (0, 0)) (by (with_reducible repeat (first | refine blk_drewN ?_ _ | refine blk_drew ?_ | refine blk_alloc ?_ _)); exact BK290.out)) : gb291 ≠ gb290)); clear BK290; clear HB; have BK290 := n0_; have HB := n1_; have BK291 := n2_; have GW291 := n3_; have GE291 := n4_; have NB290_291 := n5_; have NB291_290 := n6_; clear n0_ n1_ n2_ n3_ n4_ n5_ n6_; clear hb hbox hg)); go_upto_region 1 with (first | ((with_reducible refine gate_dst (N := 2) rfl ?_); (try (refine gate_guard (by rfl) ?_; dsimp only)); refine box_event ?hg (N := 2) ?hd (cs := #[.slice A0_0 l0_0.length c0_0, .slice A0_1 l0_1.length c0_1]) (t := 29) ?hr ?_; (case hd => rfl); (case hg => rfl); (case hr => first | (go_simp; done) | (go_simp; rfl)); intro gb290 hg w4 hbox hb; have n0_ := Aside0.mk (below_step (by repeat (first | (with_reducible first | exact HB.out | apply below_alloc | apply pw_below_drewN | apply below_drew1) | exact HB.out)) hb); have n1_ := Aside0.mk (hbox); have n2_ := Aside0.mk ((by rw [hg]; exact (below_size (by repeat (first | (with_reducible first | exact HB.out | apply below_alloc | apply pw_below_drewN | apply below_drew1) | exact HB.out))) : w.heap.size ≤ gb290)); have n3_ := Aside0.mk ((by rw [hg]; exact (below_size (by repeat (first | (with_reducible first | exact HB.out | apply below_alloc | apply pw_below_drewN | apply below_drew1) | exact HB.out))) : w.heap.size ≤ gb290)); clear HB; have HB := n0_; have BK290 := n1_; have GW290 := n2_; have GE290 := n3_; clear n0_ n1_ n2_ n3_; clear hb hbox hg) | ((with_reducible refine gate_dst (N := 3) rfl ?_); (try (refine gate_guard (by rfl) ?_; dsimp only)); refine box_event ?hg (N := 3) ?hd (cs := #[.slice A1_0 l1_0.length c1_0, .slice A1_1 l1_1.length c1_1]) (t := 29) ?hr ?_; (case hd => rfl); (case hg => rfl); (case hr => first | (go_simp; done) | (go_simp; rfl)); intro gb291 hg w5 hbox hb; have n0_ := Aside0.mk (blk_below (g := gb290) (o := .cells #[.slice A0_0 l0_0.length c0_0, .slice A0_1 l0_1.length c0_1] 29 (0, 0)) (by (with_reducible repeat (first | refine blk_drewN ?_ _ | refine blk_drew ?_ | refine blk_alloc ?_ _)); exact BK290.out) hb); have n1_ := Aside0.mk (below_step (by repeat (first | (with_reducible first | exact HB.out | apply below_alloc | apply pw_below_drewN | apply below_drew1 | refine below_set ?_ GE290.out) | exact HB.out)) hb); have n2_ := Aside0.mk (hbox); have n3_ := Aside0.mk ((by rw [hg]; exact (below_size (by repeat (first | (with_reducible first | exact HB.out | apply below_alloc | apply pw_below_drewN | apply below_drew1 | refine below_set ?_ GE290.out) | exact HB.out))) : w.heap.size ≤ gb291)); have n4_ := Aside0.mk ((by rw [hg]; exact (below_size (by repeat (first | (with_reducible first | exact HB.out | apply below_alloc | apply pw_below_drewN | apply below_drew1 | refine below_set ?_ GE290.out) | exact HB.out))) : w.heap.size ≤ gb291)); have n5_ := Aside0.mk ((by rw [hg]; exact Nat.ne_of_lt (blk_lt (g := gb290) (o := .cells #[.slice A0_0 l0_0.length c0_0, .slice A0_1 l0_1.length c0_1] 29 (0, 0)) (by (with_reducible repeat (first | refine blk_drewN ?_ _ | refine blk_drew ?_ | refine blk_alloc ?_ _)); exact BK290.out)) : gb290 ≠ gb291)); have n6_ := Aside0.mk ((by rw [hg]; exact Nat.ne_of_gt (blk_lt (g := gb290) (o := .cells #[.slice A0_0 l0_0.length c0_0, .slice A0_1 l0_1.length c0_1] 29 (0, 0)) (by (with_reducible repeat (first | refine blk_drewN ?_ _ | refine blk_drew ?_ | refine blk_alloc ?_ _)); exact BK290.out)) : gb291 ≠ gb290)); clear BK290; clear HB; have BK290 := n0_; have HB := n1_; have BK291 := n2_; have GW291 := n3_; have GE291 := n4_; have NB290_291 := n5_; have NB291_290 := n6_; clear n0_ n1_ n2_ n3_ n4_ n5_ n6_; clear hb hbox hg)))
  (try simp only [Act.put, List.setIfInBounds_toArray, List.set_cons_zero, List.set_cons_succ])
  go_cut [23] (fun v23 wc => ∃ (kq : Nat) (x23_2 : Bool), v23 = .bool x23_2 ∧ Aside0 (windrowref13_Same.j0 kq x23_2 l0_0 l0_1 l1_0 l1_1 = some r) ∧ Aside0 (kq ≤ k) ∧ Aside0 (wc.heap[gb290]? = some (.cells #[(.slice A0_0 l0_0.length c0_0), (.slice A0_1 l0_1.length c0_1)] 29 (0, 0))) ∧ Aside0 (wc.heap[gb291]? = some (.cells #[(.slice A1_0 l1_0.length c1_0), (.slice A1_1 l1_1.length c1_1)] 29 (0, 0))) ∧ Aside0 (Below w.heap.size w wc))
  case first =>
    have H := HC3.out
    clear HC3
    replace H := Option.bind_eq_some_iff.mp H
    obtain ⟨t292, A60, H⟩ := H
    replace H : (if t292 = true then (windrowref13_Same.j0 k ((l0_1.length : Int) != (l1_1.length : Int)) l0_0 l0_1 l1_0 l1_1) else (windrowref13_Same.j0 k true l0_0 l0_1 l1_0 l1_1)) = some r := H
    have A6 := Aside0.mk A60
    clear A60
    by_cases c7 : t292 = true
    · subst c7
      have H1 : (windrowref13_Same.j0 k ((l0_1.length : Int) != (l1_1.length : Int)) l0_0 l0_1 l1_0 l1_1) = some r := by rw [if_pos rfl] at H; exact H
      clear H
      have H := H1
      clear H1
      have H' := Aside0.mk H
      clear H
      have hnb8 := NB290_291.out
      have hnc8 := NB291_290.out
      have hcz9_0 : w5.cell? ⟨gb290, 0, none⟩ = some (.slice A0_0 l0_0.length c0_0) := (blk_cell BK290.out 0).trans rfl
      have hcz9_1 : w5.cell? ⟨gb290, 1, none⟩ = some (.slice A0_1 l0_1.length c0_1) := (blk_cell BK290.out 1).trans rfl
      have hfz9_0 := blk_frozen BK290.out 0
      have hfz9_1 := blk_frozen BK290.out 1
      have hcz10_0 : w5.cell? ⟨gb291, 0, none⟩ = some (.slice A1_0 l1_0.length c1_0) := (blk_cell BK291.out 0).trans rfl
      have hcz10_1 : w5.cell? ⟨gb291, 1, none⟩ = some (.slice A1_1 l1_1.length c1_1) := (blk_cell BK291.out 1).trans rfl
      have hfz10_0 := blk_frozen BK291.out 0
      have hfz10_1 := blk_frozen BK291.out 1
      go_wp2_with (first | (go_at_call 17; (with_reducible refine (windrowref10_Same.calls k _ _ l0_0 _ _ l1_0 true _ ?side1 ?side2 ?side3 ?side4 A6.out).mono ?_); (case side1 => repeat (first | exact (Kd.C_below HR0_0.out HB.out) | (with_reducible refine Kd.C_alloc ?_ _) | (with_reducible refine Kd.C_drewN ?_ _) | (with_reducible refine Kd.C_drew ?_))); (case side2 => exact HC0_0.out); (case side3 => repeat (first | exact (Kd.C_below HR1_0.out HB.out) | (with_reducible refine Kd.C_alloc ?_ _) | (with_reducible refine Kd.C_drewN ?_ _) | (with_reducible refine Kd.C_drew ?_))); (case side4 => exact HC1_0.out); rintro e w11 ⟨rfl, hb⟩; have n0_ := Aside0.mk (blk_below (g := gb290) (o := .cells #[.slice A0_0 l0_0.length c0_0, .slice A0_1 l0_1.length c0_1] 29 (0, 0)) (by (with_reducible repeat (first | refine blk_drewN ?_ _ | refine blk_drew ?_ | refine blk_alloc ?_ _)); exact BK290.out) hb); have n1_ := Aside0.mk (blk_below (g := gb291) (o := .cells #[.slice A1_0 l1_0.length c1_0, .slice A1_1 l1_1.length c1_1] 29 (0, 0)) (by (with_reducible repeat (first | refine blk_drewN ?_ _ | refine blk_drew ?_ | refine blk_alloc ?_ _)); exact BK291.out) hb); have n2_ := Aside0.mk (below_step (by repeat (first | (with_reducible first | exact HB.out | apply below_alloc | apply pw_below_drewN | apply below_drew1 | refine below_set ?_ GE290.out | refine below_set ?_ GE291.out) | exact HB.out)) hb); clear BK290; clear BK291; clear HB; have BK290 := n0_; have BK291 := n1_; have HB := n2_; clear n0_ n1_ n2_; (try clear hb); (try clear hb2); (try clear hk); (try clear hi); have hcz12_0 : w11.cell? ⟨gb290, 0, none⟩ = some (.slice A0_0 l0_0.length c0_0) := (blk_cell BK290.out 0).trans rfl; have hcz12_1 : w11.cell? ⟨gb290, 1, none⟩ = some (.slice A0_1 l0_1.length c0_1) := (blk_cell BK290.out 1).trans rfl; have hfz12_0 := blk_frozen BK290.out 0; have hfz12_1 := blk_frozen BK290.out 1; have hcz13_0 : w11.cell? ⟨gb291, 0, none⟩ = some (.slice A1_0 l1_0.length c1_0) := (blk_cell BK291.out 0).trans rfl; have hcz13_1 : w11.cell? ⟨gb291, 1, none⟩ = some (.slice A1_1 l1_1.length c1_1) := (blk_cell BK291.out 1).trans rfl; have hfz13_0 := blk_frozen BK291.out 0; have hfz13_1 := blk_frozen BK291.out 1))
      repeat (go_quiet (first | (go_at_call 17; (with_reducible refine (windrowref10_Same.calls k _ _ l0_0 _ _ l1_0 true _ ?side1 ?side2 ?side3 ?side4 A6.out).mono ?_); (case side1 => repeat (first | exact (Kd.C_below HR0_0.out HB.out) | (with_reducible refine Kd.C_alloc ?_ _) | (with_reducible refine Kd.C_drewN ?_ _) | (with_reducible refine Kd.C_drew ?_))); (case side2 => exact HC0_0.out); (case side3 => repeat (first | exact (Kd.C_below HR1_0.out HB.out) | (with_reducible refine Kd.C_alloc ?_ _) | (with_reducible refine Kd.C_drewN ?_ _) | (with_reducible refine Kd.C_drew ?_))); (case side4 => exact HC1_0.out); rintro e w11 ⟨rfl, hb⟩; have n0_ := Aside0.mk (blk_below (g := gb290) (o := .cells #[.slice A0_0 l0_0.length c0_0, .slice A0_1 l0_1.length c0_1] 29 (0, 0)) (by (with_reducible repeat (first | refine blk_drewN ?_ _ | refine blk_drew ?_ | refine blk_alloc ?_ _)); exact BK290.out) hb); have n1_ := Aside0.mk (blk_below (g := gb291) (o := .cells #[.slice A1_0 l1_0.length c1_0, .slice A1_1 l1_1.length c1_1] 29 (0, 0)) (by (with_reducible repeat (first | refine blk_drewN ?_ _ | refine blk_drew ?_ | refine blk_alloc ?_ _)); exact BK291.out) hb); have n2_ := Aside0.mk (below_step (by repeat (first | (with_reducible first | exact HB.out | apply below_alloc | apply pw_below_drewN | apply below_drew1 | refine below_set ?_ GE290.out | refine below_set ?_ GE291.out) | exact HB.out)) hb); clear BK290; clear BK291; clear HB; have BK290 := n0_; have BK291 := n1_; have HB := n2_; clear n0_ n1_ n2_; (try clear hb); (try clear hb2); (try clear hk); (try clear hi); have hcz12_0 : w11.cell? ⟨gb290, 0, none⟩ = some (.slice A0_0 l0_0.length c0_0) := (blk_cell BK290.out 0).trans rfl; have hcz12_1 : w11.cell? ⟨gb290, 1, none⟩ = some (.slice A0_1 l0_1.length c0_1) := (blk_cell BK290.out 1).trans rfl; have hfz12_0 := blk_frozen BK290.out 0; have hfz12_1 := blk_frozen BK290.out 1; have hcz13_0 : w11.cell? ⟨gb291, 0, none⟩ = some (.slice A1_0 l1_0.length c1_0) := (blk_cell BK291.out 0).trans rfl; have hcz13_1 : w11.cell? ⟨gb291, 1, none⟩ = some (.slice A1_1 l1_1.length c1_1) := (blk_cell BK291.out 1).trans rfl; have hfz13_0 := blk_frozen BK291.out 0; have hfz13_1 := blk_frozen BK291.out 1)); try go_wp2_with (first | (go_at_call 17; (with_reducible refine (windrowref10_Same.calls k _ _ l0_0 _ _ l1_0 true _ ?side1 ?side2 ?side3 ?side4 A6.out).mono ?_); (case side1 => repeat (first | exact (Kd.C_below HR0_0.out HB.out) | (with_reducible refine Kd.C_alloc ?_ _) | (with_reducible refine Kd.C_drewN ?_ _) | (with_reducible refine Kd.C_drew ?_))); (case side2 => exact HC0_0.out); (case side3 => repeat (first | exact (Kd.C_below HR1_0.out HB.out) | (with_reducible refine Kd.C_alloc ?_ _) | (with_reducible refine Kd.C_drewN ?_ _) | (with_reducible refine Kd.C_drew ?_))); (case side4 => exact HC1_0.out); rintro e w11 ⟨rfl, hb⟩; have n0_ := Aside0.mk (blk_below (g := gb290) (o := .cells #[.slice A0_0 l0_0.length c0_0, .slice A0_1 l0_1.length c0_1] 29 (0, 0)) (by (with_reducible repeat (first | refine blk_drewN ?_ _ | refine blk_drew ?_ | refine blk_alloc ?_ _)); exact BK290.out) hb); have n1_ := Aside0.mk (blk_below (g := gb291) (o := .cells #[.slice A1_0 l1_0.length c1_0, .slice A1_1 l1_1.length c1_1] 29 (0, 0)) (by (with_reducible repeat (first | refine blk_drewN ?_ _ | refine blk_drew ?_ | refine blk_alloc ?_ _)); exact BK291.out) hb); have n2_ := Aside0.mk (below_step (by repeat (first | (with_reducible first | exact HB.out | apply below_alloc | apply pw_below_drewN | apply below_drew1 | refine below_set ?_ GE290.out | refine below_set ?_ GE291.out) | exact HB.out)) hb); clear BK290; clear BK291; clear HB; have BK290 := n0_; have BK291 := n1_; have HB := n2_; clear n0_ n1_ n2_; (try clear hb); (try clear hb2); (try clear hk); (try clear hi); have hcz12_0 : w11.cell? ⟨gb290, 0, none⟩ = some (.slice A0_0 l0_0.length c0_0) := (blk_cell BK290.out 0).trans rfl; have hcz12_1 : w11.cell? ⟨gb290, 1, none⟩ = some (.slice A0_1 l0_1.length c0_1) := (blk_cell BK290.out 1).trans rfl; have hfz12_0 := blk_frozen BK290.out 0; have hfz12_1 := blk_frozen BK290.out 1; have hcz13_0 : w11.cell? ⟨gb291, 0, none⟩ = some (.slice A1_0 l1_0.length c1_0) := (blk_cell BK291.out 0).trans rfl; have hcz13_1 : w11.cell? ⟨gb291, 1, none⟩ = some (.slice A1_1 l1_1.length c1_1) := (blk_cell BK291.out 1).trans rfl; have hfz13_0 := blk_frozen BK291.out 0; have hfz13_1 := blk_frozen BK291.out 1)))
      go_meet
      case rel => exact ⟨_, (((l0_1.length : Int) != (l1_1.length : Int))), (by first | rfl | (simp; done) | (simp [*]; done)), H', ⟨by first | omega | exact Nat.le_refl _⟩, ⟨by (with_reducible repeat (first | refine blk_drewN ?_ _ | refine blk_drew ?_ | refine blk_alloc ?_ _)); exact BK290.out⟩, ⟨by (with_reducible repeat (first | refine blk_drewN ?_ _ | refine blk_drew ?_ | refine blk_alloc ?_ _)); exact BK291.out⟩, ⟨by repeat (first | (with_reducible first | exact HB.out | apply below_alloc | apply pw_below_drewN | apply below_drew1 | refine below_set ?_ GE290.out | refine below_set ?_ GE291.out) | exact HB.out)⟩⟩
    · replace c7 := Bool.eq_false_iff.mpr c7
      subst c7
      have H1 : (windrowref13_Same.j0 k true l0_0 l0_1 l1_0 l1_1) = some r := by rw [if_neg (show ¬ (false = true) by decide)] at H; exact H
      clear H
      have H := H1
      clear H1
      have H' := Aside0.mk H
      clear H
      have hnb14 := NB290_291.out
      have hnc14 := NB291_290.out
      have hcz15_0 : w5.cell? ⟨gb290, 0, none⟩ = some (.slice A0_0 l0_0.length c0_0) := (blk_cell BK290.out 0).trans rfl
      have hcz15_1 : w5.cell? ⟨gb290, 1, none⟩ = some (.slice A0_1 l0_1.length c0_1) := (blk_cell BK290.out 1).trans rfl
      have hfz15_0 := blk_frozen BK290.out 0
      have hfz15_1 := blk_frozen BK290.out 1
      have hcz16_0 : w5.cell? ⟨gb291, 0, none⟩ = some (.slice A1_0 l1_0.length c1_0) := (blk_cell BK291.out 0).trans rfl
      have hcz16_1 : w5.cell? ⟨gb291, 1, none⟩ = some (.slice A1_1 l1_1.length c1_1) := (blk_cell BK291.out 1).trans rfl
      have hfz16_0 := blk_frozen BK291.out 0
      have hfz16_1 := blk_frozen BK291.out 1
      go_wp2_with (first | (go_at_call 17; (with_reducible refine (windrowref10_Same.calls k _ _ l0_0 _ _ l1_0 false _ ?side1 ?side2 ?side3 ?side4 A6.out).mono ?_); (case side1 => repeat (first | exact (Kd.C_below HR0_0.out HB.out) | (with_reducible refine Kd.C_alloc ?_ _) | (with_reducible refine Kd.C_drewN ?_ _) | (with_reducible refine Kd.C_drew ?_))); (case side2 => exact HC0_0.out); (case side3 => repeat (first | exact (Kd.C_below HR1_0.out HB.out) | (with_reducible refine Kd.C_alloc ?_ _) | (with_reducible refine Kd.C_drewN ?_ _) | (with_reducible refine Kd.C_drew ?_))); (case side4 => exact HC1_0.out); rintro e w17 ⟨rfl, hb⟩; have n0_ := Aside0.mk (blk_below (g := gb290) (o := .cells #[.slice A0_0 l0_0.length c0_0, .slice A0_1 l0_1.length c0_1] 29 (0, 0)) (by (with_reducible repeat (first | refine blk_drewN ?_ _ | refine blk_drew ?_ | refine blk_alloc ?_ _)); exact BK290.out) hb); have n1_ := Aside0.mk (blk_below (g := gb291) (o := .cells #[.slice A1_0 l1_0.length c1_0, .slice A1_1 l1_1.length c1_1] 29 (0, 0)) (by (with_reducible repeat (first | refine blk_drewN ?_ _ | refine blk_drew ?_ | refine blk_alloc ?_ _)); exact BK291.out) hb); have n2_ := Aside0.mk (below_step (by repeat (first | (with_reducible first | exact HB.out | apply below_alloc | apply pw_below_drewN | apply below_drew1 | refine below_set ?_ GE290.out | refine below_set ?_ GE291.out) | exact HB.out)) hb); clear BK290; clear BK291; clear HB; have BK290 := n0_; have BK291 := n1_; have HB := n2_; clear n0_ n1_ n2_; (try clear hb); (try clear hb2); (try clear hk); (try clear hi)))
      repeat (go_quiet (first | (go_at_call 17; (with_reducible refine (windrowref10_Same.calls k _ _ l0_0 _ _ l1_0 false _ ?side1 ?side2 ?side3 ?side4 A6.out).mono ?_); (case side1 => repeat (first | exact (Kd.C_below HR0_0.out HB.out) | (with_reducible refine Kd.C_alloc ?_ _) | (with_reducible refine Kd.C_drewN ?_ _) | (with_reducible refine Kd.C_drew ?_))); (case side2 => exact HC0_0.out); (case side3 => repeat (first | exact (Kd.C_below HR1_0.out HB.out) | (with_reducible refine Kd.C_alloc ?_ _) | (with_reducible refine Kd.C_drewN ?_ _) | (with_reducible refine Kd.C_drew ?_))); (case side4 => exact HC1_0.out); rintro e w17 ⟨rfl, hb⟩; have n0_ := Aside0.mk (blk_below (g := gb290) (o := .cells #[.slice A0_0 l0_0.length c0_0, .slice A0_1 l0_1.length c0_1] 29 (0, 0)) (by (with_reducible repeat (first | refine blk_drewN ?_ _ | refine blk_drew ?_ | refine blk_alloc ?_ _)); exact BK290.out) hb); have n1_ := Aside0.mk (blk_below (g := gb291) (o := .cells #[.slice A1_0 l1_0.length c1_0, .slice A1_1 l1_1.length c1_1] 29 (0, 0)) (by (with_reducible repeat (first | refine blk_drewN ?_ _ | refine blk_drew ?_ | refine blk_alloc ?_ _)); exact BK291.out) hb); have n2_ := Aside0.mk (below_step (by repeat (first | (with_reducible first | exact HB.out | apply below_alloc | apply pw_below_drewN | apply below_drew1 | refine below_set ?_ GE290.out | refine below_set ?_ GE291.out) | exact HB.out)) hb); clear BK290; clear BK291; clear HB; have BK290 := n0_; have BK291 := n1_; have HB := n2_; clear n0_ n1_ n2_; (try clear hb); (try clear hb2); (try clear hk); (try clear hi))); try go_wp2_with (first | (go_at_call 17; (with_reducible refine (windrowref10_Same.calls k _ _ l0_0 _ _ l1_0 false _ ?side1 ?side2 ?side3 ?side4 A6.out).mono ?_); (case side1 => repeat (first | exact (Kd.C_below HR0_0.out HB.out) | (with_reducible refine Kd.C_alloc ?_ _) | (with_reducible refine Kd.C_drewN ?_ _) | (with_reducible refine Kd.C_drew ?_))); (case side2 => exact HC0_0.out); (case side3 => repeat (first | exact (Kd.C_below HR1_0.out HB.out) | (with_reducible refine Kd.C_alloc ?_ _) | (with_reducible refine Kd.C_drewN ?_ _) | (with_reducible refine Kd.C_drew ?_))); (case side4 => exact HC1_0.out); rintro e w17 ⟨rfl, hb⟩; have n0_ := Aside0.mk (blk_below (g := gb290) (o := .cells #[.slice A0_0 l0_0.length c0_0, .slice A0_1 l0_1.length c0_1] 29 (0, 0)) (by (with_reducible repeat (first | refine blk_drewN ?_ _ | refine blk_drew ?_ | refine blk_alloc ?_ _)); exact BK290.out) hb); have n1_ := Aside0.mk (blk_below (g := gb291) (o := .cells #[.slice A1_0 l1_0.length c1_0, .slice A1_1 l1_1.length c1_1] 29 (0, 0)) (by (with_reducible repeat (first | refine blk_drewN ?_ _ | refine blk_drew ?_ | refine blk_alloc ?_ _)); exact BK291.out) hb); have n2_ := Aside0.mk (below_step (by repeat (first | (with_reducible first | exact HB.out | apply below_alloc | apply pw_below_drewN | apply below_drew1 | refine below_set ?_ GE290.out | refine below_set ?_ GE291.out) | exact HB.out)) hb); clear BK290; clear BK291; clear HB; have BK290 := n0_; have BK291 := n1_; have HB := n2_; clear n0_ n1_ n2_; (try clear hb); (try clear hb2); (try clear hk); (try clear hi))))
      go_meet
      case rel => exact ⟨_, (true), (by first | rfl | (simp; done) | (simp [*]; done)), H', ⟨by first | omega | exact Nat.le_refl _⟩, ⟨by (with_reducible repeat (first | refine blk_drewN ?_ _ | refine blk_drew ?_ | refine blk_alloc ?_ _)); exact BK290.out⟩, ⟨by (with_reducible repeat (first | refine blk_drewN ?_ _ | refine blk_drew ?_ | refine blk_alloc ?_ _)); exact BK291.out⟩, ⟨by repeat (first | (with_reducible first | exact HB.out | apply below_alloc | apply pw_below_drewN | apply below_drew1 | refine below_set ?_ GE290.out | refine below_set ?_ GE291.out) | exact HB.out)⟩⟩
  case rest =>
    clear HC3
    try clear c1
    try clear p2
    try clear c7
    try clear c8
    try clear c14
    try clear c16
    try clear hcz10_0
    try clear hcz10_1
    try clear hcz12_0
    try clear hcz12_1
    try clear hcz13_0
    try clear hcz13_1
    try clear hcz15_0
    try clear hcz15_1
    try clear hcz16_0
    try clear hcz16_1
    try clear hcz9_0
    try clear hcz9_1
    try clear hfz10_0
    try clear hfz10_1
    try clear hfz12_0
    try clear hfz12_1
    try clear hfz13_0
    try clear hfz13_1
    try clear hfz15_0
    try clear hfz15_1
    try clear hfz16_0
    try clear hfz16_1
    try clear hfz9_0
    try clear hfz9_1
    obtain ⟨kq, x23_2, rfl, HA, HJ2, BK290, BK291, HB⟩ := hcut
    cases kq with
    | zero => exact absurd HA.out (by simp [windrowref13_Same.j0])
    | succ kj2 =>
      have H := HA.out
      clear HA
      simp only [windrowref13_Same.j0] at H
      by_cases c18 : x23_2 = true
      · subst c18
        have H1 : (some false) = some r := by rw [if_pos rfl] at H; exact H
        clear H
        have H := H1
        clear H1
        obtain rfl := Option.some.inj H
        go_wp2
        repeat (go_quiet (fail); try go_wp2)
        go_ret
        exact ⟨by first | rfl | (simp [errW_none, errW_some] <;> rfl) | (simp [*, errW_none, errW_some] <;> rfl), by repeat (first | (with_reducible first | exact HB.out | apply below_alloc | apply pw_below_drewN | apply below_drew1 | refine below_set ?_ GE290.out | refine below_set ?_ GE291.out) | exact HB.out)⟩
      · replace c18 := Bool.eq_false_iff.mpr c18
        subst c18
        have H1 : (windrowref13_Same.l0 kj2 0 l0_0 l0_1 l1_0 l1_1) = some r := by rw [if_neg (show ¬ (false = true) by decide)] at H; exact H
        clear H
        have H := H1
        clear H1
        have H' := Aside0.mk H
        clear H
        go_wp2
        repeat (go_quiet (fail); try go_wp2)
        go_loopg [5] kj2 (fun kq v5 w' => ∃ (x5_2 : Int), v5 = .int .i64 x5_2 ∧ Aside0 (windrowref13_Same.l0 kq x5_2 l0_0 l0_1 l1_0 l1_1 = some r) ∧ Aside0 (kq ≤ kj2) ∧ Aside0 (w'.heap[gb290]? = some (.cells #[(.slice A0_0 l0_0.length c0_0), (.slice A0_1 l0_1.length c0_1)] 29 (0, 0))) ∧ Aside0 (w'.heap[gb291]? = some (.cells #[(.slice A1_0 l1_0.length c1_0), (.slice A1_1 l1_1.length c1_1)] 29 (0, 0))) ∧ Aside0 (Below w.heap.size w w'))
        case atStart => exact ⟨(0), (by first | rfl | (simp; done) | (simp [*]; done)), H', ⟨Nat.le_refl _⟩, ⟨by (with_reducible repeat (first | refine blk_drewN ?_ _ | refine blk_drew ?_ | refine blk_alloc ?_ _)); exact BK290.out⟩, ⟨by (with_reducible repeat (first | refine blk_drewN ?_ _ | refine blk_drew ?_ | refine blk_alloc ?_ _)); exact BK291.out⟩, ⟨by repeat (first | (with_reducible first | exact HB.out | apply below_alloc | apply pw_below_drewN | apply below_drew1 | refine below_set ?_ GE290.out | refine below_set ?_ GE291.out) | exact HB.out)⟩⟩
        case round =>
          clear H'
          try clear c1
          try clear p2
          try clear c7
          try clear c8
          try clear c14
          try clear c16
          try clear c18
          try clear hcz10_0
          try clear hcz10_1
          try clear hcz12_0
          try clear hcz12_1
          try clear hcz13_0
          try clear hcz13_1
          try clear hcz15_0
          try clear hcz15_1
          try clear hcz16_0
          try clear hcz16_1
          try clear hcz9_0
          try clear hcz9_1
          try clear hfz10_0
          try clear hfz10_1
          try clear hfz12_0
          try clear hfz12_1
          try clear hfz13_0
          try clear hfz13_1
          try clear hfz15_0
          try clear hfz15_1
          try clear hfz16_0
          try clear hfz16_1
          try clear hfz9_0
          try clear hfz9_1
          try clear p2
          obtain ⟨x5_2, rfl, HA, HK2, BK290, BK291, HB⟩ := hrel
          cases gk with
          | zero => exact absurd HA.out (by simp [windrowref13_Same.l0])
          | succ k2 =>
            have H := HA.out
            clear HA
            simp only [windrowref13_Same.l0] at H
            by_cases c19 : x5_2 < (l0_1.length : Int)
            · rw [if_pos c19] at H
              have c19b0 : decide (x5_2 < (l0_1.length : Int)) = true := decide_eq_true c19
              clear c19
              by_cases c20 : 0 ≤ x5_2
              · rw [if_pos c20] at H
                have c20b0 : decide (0 ≤ x5_2) = true := decide_eq_true c20
                clear c20
                by_cases c21 : x5_2 < (l1_1.length : Int)
                · rw [if_pos c21] at H
                  have c21b0 : decide (x5_2 < (l1_1.length : Int)) = true := decide_eq_true c21
                  clear c21
                  have HC22 := Aside0.mk H
                  clear H
                  have hnb23 := NB290_291.out
                  have hnc23 := NB291_290.out
                  have hcz24_0 : wr.cell? ⟨gb290, 0, none⟩ = some (.slice A0_0 l0_0.length c0_0) := (blk_cell BK290.out 0).trans rfl
                  have hcz24_1 : wr.cell? ⟨gb290, 1, none⟩ = some (.slice A0_1 l0_1.length c0_1) := (blk_cell BK290.out 1).trans rfl
                  have hfz24_0 := blk_frozen BK290.out 0
                  have hfz24_1 := blk_frozen BK290.out 1
                  have p293 : 0 ≤ (x5_2 : Int) := of_decide_eq_true (by first | (with_reducible assumption) | assumption)
                  have q293 : x5_2 < (l0_1.length : Int) := of_decide_eq_true (by first | (with_reducible assumption) | assumption)
                  obtain ⟨ad293, A293_1, c293_1, A293_3, c293_3, A293_4, c293_4, e293, hx293_0, hx293_1, hx293_2, hx293_3, hx293_4, hl293_1, hi293_1, hl293_3, hi293_3, hl293_4, hi293_4⟩ := at_T48 HR0_1.out x5_2 p293 q293
                  cases e293
                  replace hx293_0 := (HB.out.cell (World.block_lt_of_cell? w _ hx293_0)).trans hx293_0
                  replace hx293_1 := (HB.out.cell (World.block_lt_of_cell? w _ hx293_1)).trans hx293_1
                  replace hx293_2 := (HB.out.cell (World.block_lt_of_cell? w _ hx293_2)).trans hx293_2
                  replace hx293_3 := (HB.out.cell (World.block_lt_of_cell? w _ hx293_3)).trans hx293_3
                  replace hx293_4 := (HB.out.cell (World.block_lt_of_cell? w _ hx293_4)).trans hx293_4
                  have HR293_1 := Aside0.mk hi293_1
                  have HC293_1 := Aside0.mk hl293_1
                  clear hi293_1 hl293_1
                  have HR293_3 := Aside0.mk hi293_3
                  have HC293_3 := Aside0.mk hl293_3
                  clear hi293_3 hl293_3
                  have HR293_4 := Aside0.mk hi293_4
                  have HC293_4 := Aside0.mk hl293_4
                  clear hi293_4 hl293_4
                  replace p293 := eq_true p293
                  replace q293 := eq_true q293
                  go_upto_region 8 with (first | ((with_reducible refine gate_dst (N := 6) rfl ?_); (try (refine gate_guard (by rfl) ?_; dsimp only)); refine box_event ?hg (N := 6) ?hd (cs := #[.string (⟨#[]⟩ : ByteArray), .slice none 0 0, .int .i64 0, .slice none 0 0, .slice none 0 0]) (t := 48) ?hr ?_; (case hd => rfl); (case hg => rfl); (case hr => first | (go_simp; done) | (go_simp; rfl)); intro gb294 hg w25 hbox hb; have n0_ := Aside0.mk (blk_below (g := gb290) (o := .cells #[.slice A0_0 l0_0.length c0_0, .slice (some ad293) l0_1.length c0_1] 29 (0, 0)) (by (with_reducible repeat (first | refine blk_drewN ?_ _ | refine blk_drew ?_ | refine blk_alloc ?_ _)); exact BK290.out) hb); have n1_ := Aside0.mk (blk_below (g := gb291) (o := .cells #[.slice A1_0 l1_0.length c1_0, .slice A1_1 l1_1.length c1_1] 29 (0, 0)) (by (with_reducible repeat (first | refine blk_drewN ?_ _ | refine blk_drew ?_ | refine blk_alloc ?_ _)); exact BK291.out) hb); have n2_ := Aside0.mk (below_step (by repeat (first | (with_reducible first | exact HB.out | apply below_alloc | apply pw_below_drewN | apply below_drew1 | refine below_set ?_ GE290.out | refine below_set ?_ GE291.out) | exact HB.out)) hb); have n3_ := Aside0.mk (hbox); have n4_ := Aside0.mk ((by rw [hg]; exact (below_size (by repeat (first | (with_reducible first | exact HB.out | apply below_alloc | apply pw_below_drewN | apply below_drew1 | refine below_set ?_ GE290.out | refine below_set ?_ GE291.out) | exact HB.out))) : w.heap.size ≤ gb294)); have n5_ := Aside0.mk ((by rw [hg]; exact (below_size (by repeat (first | (with_reducible first | exact HB.out | apply below_alloc | apply pw_below_drewN | apply below_drew1 | refine below_set ?_ GE290.out | refine below_set ?_ GE291.out) | exact HB.out))) : w.heap.size ≤ gb294)); have n6_ := Aside0.mk ((by rw [hg]; exact Nat.ne_of_lt (blk_lt (g := gb290) (o := .cells #[.slice A0_0 l0_0.length c0_0, .slice (some ad293) l0_1.length c0_1] 29 (0, 0)) (by (with_reducible repeat (first | refine blk_drewN ?_ _ | refine blk_drew ?_ | refine blk_alloc ?_ _)); exact BK290.out)) : gb290 ≠ gb294)); have n7_ := Aside0.mk ((by rw [hg]; exact Nat.ne_of_gt (blk_lt (g := gb290) (o := .cells #[.slice A0_0 l0_0.length c0_0, .slice (some ad293) l0_1.length c0_1] 29 (0, 0)) (by (with_reducible repeat (first | refine blk_drewN ?_ _ | refine blk_drew ?_ | refine blk_alloc ?_ _)); exact BK290.out)) : gb294 ≠ gb290)); have n8_ := Aside0.mk ((by rw [hg]; exact Nat.ne_of_lt (blk_lt (g := gb291) (o := .cells #[.slice A1_0 l1_0.length c1_0, .slice A1_1 l1_1.length c1_1] 29 (0, 0)) (by (with_reducible repeat (first | refine blk_drewN ?_ _ | refine blk_drew ?_ | refine blk_alloc ?_ _)); exact BK291.out)) : gb291 ≠ gb294)); have n9_ := Aside0.mk ((by rw [hg]; exact Nat.ne_of_gt (blk_lt (g := gb291) (o := .cells #[.slice A1_0 l1_0.length c1_0, .slice A1_1 l1_1.length c1_1] 29 (0, 0)) (by (with_reducible repeat (first | refine blk_drewN ?_ _ | refine blk_drew ?_ | refine blk_alloc ?_ _)); exact BK291.out)) : gb294 ≠ gb291)); clear BK290; clear BK291; clear HB; have BK290 := n0_; have BK291 := n1_; have HB := n2_; have BK294 := n3_; have GW294 := n4_; have GE294 := n5_; have NB290_294 := n6_; have NB294_290 := n7_; have NB291_294 := n8_; have NB294_291 := n9_; clear n0_ n1_ n2_ n3_ n4_ n5_ n6_ n7_ n8_ n9_; clear hb hbox hg; have hnb26 := NB294_290.out; have hnc26 := NB290_294.out; have hnb27 := NB294_291.out; have hnc27 := NB291_294.out; have hcz28_0 : w25.cell? ⟨gb294, 0, none⟩ = some (.string (⟨#[]⟩ : ByteArray)) := (blk_cell BK294.out 0).trans rfl; have hcz28_1 : w25.cell? ⟨gb294, 1, none⟩ = some (.slice none 0 0) := (blk_cell BK294.out 1).trans rfl; have hcz28_2 : w25.cell? ⟨gb294, 2, none⟩ = some (.int .i64 0) := (blk_cell BK294.out 2).trans rfl; have hcz28_3 : w25.cell? ⟨gb294, 3, none⟩ = some (.slice none 0 0) := (blk_cell BK294.out 3).trans rfl; have hcz28_4 : w25.cell? ⟨gb294, 4, none⟩ = some (.slice none 0 0) := (blk_cell BK294.out 4).trans rfl; have hfz28_0 := blk_frozen BK294.out 0; have hfz28_1 := blk_frozen BK294.out 1; have hfz28_2 := blk_frozen BK294.out 2; have hfz28_3 := blk_frozen BK294.out 3; have hfz28_4 := blk_frozen BK294.out 4; have hcz29_0 : w25.cell? ⟨gb291, 0, none⟩ = some (.slice A1_0 l1_0.length c1_0) := (blk_cell BK291.out 0).trans rfl; have hcz29_1 : w25.cell? ⟨gb291, 1, none⟩ = some (.slice A1_1 l1_1.length c1_1) := (blk_cell BK291.out 1).trans rfl; have hfz29_0 := blk_frozen BK291.out 0; have hfz29_1 := blk_frozen BK291.out 1; have p295 : 0 ≤ (x5_2 : Int) := of_decide_eq_true (by first | (with_reducible assumption) | assumption); have q295 : x5_2 < (l1_1.length : Int) := of_decide_eq_true (by first | (with_reducible assumption) | assumption); obtain ⟨ad295, A295_1, c295_1, A295_3, c295_3, A295_4, c295_4, e295, hx295_0, hx295_1, hx295_2, hx295_3, hx295_4, hl295_1, hi295_1, hl295_3, hi295_3, hl295_4, hi295_4⟩ := at_T48 HR1_1.out x5_2 p295 q295; cases e295; have hn295_0 : ad295.block ≠ gb294 := Nat.ne_of_lt (Nat.lt_of_lt_of_le (by have := World.block_lt_of_cell? _ _ hx295_0; first | rwa [add_block] at this | exact this) GW294.out); have hn295_1 : ad295.block ≠ gb294 := Nat.ne_of_lt (Nat.lt_of_lt_of_le (by have := World.block_lt_of_cell? _ _ hx295_0; first | rwa [add_block] at this | exact this) GW294.out); have hn295_2 : ad295.block ≠ gb294 := Nat.ne_of_lt (Nat.lt_of_lt_of_le (by have := World.block_lt_of_cell? _ _ hx295_0; first | rwa [add_block] at this | exact this) GW294.out); have hn295_3 : ad295.block ≠ gb294 := Nat.ne_of_lt (Nat.lt_of_lt_of_le (by have := World.block_lt_of_cell? _ _ hx295_0; first | rwa [add_block] at this | exact this) GW294.out); have hn295_4 : ad295.block ≠ gb294 := Nat.ne_of_lt (Nat.lt_of_lt_of_le (by have := World.block_lt_of_cell? _ _ hx295_0; first | rwa [add_block] at this | exact this) GW294.out); replace hx295_0 := (HB.out.cell (World.block_lt_of_cell? w _ hx295_0)).trans hx295_0; replace hx295_1 := (HB.out.cell (World.block_lt_of_cell? w _ hx295_1)).trans hx295_1; replace hx295_2 := (HB.out.cell (World.block_lt_of_cell? w _ hx295_2)).trans hx295_2; replace hx295_3 := (HB.out.cell (World.block_lt_of_cell? w _ hx295_3)).trans hx295_3; replace hx295_4 := (HB.out.cell (World.block_lt_of_cell? w _ hx295_4)).trans hx295_4; have HR295_1 := Aside0.mk hi295_1; have HC295_1 := Aside0.mk hl295_1; clear hi295_1 hl295_1; have HR295_3 := Aside0.mk hi295_3; have HC295_3 := Aside0.mk hl295_3; clear hi295_3 hl295_3; have HR295_4 := Aside0.mk hi295_4; have HC295_4 := Aside0.mk hl295_4; clear hi295_4 hl295_4; replace hx295_0 := (cell_far (p := ⟨gb294, 0, none⟩) (by first | (rw [add_block]; exact hn295_0) | (show (Addr.add _ _).block ≠ _; rw [add_block]; exact hn295_0) | exact hn295_0) (.string ((rd_T48 l0_1 x5_2).f0))).trans hx295_0; replace hx295_1 := (cell_far (p := ⟨gb294, 0, none⟩) (by first | (rw [add_block]; exact hn295_0) | (show (Addr.add _ _).block ≠ _; rw [add_block]; exact hn295_0) | exact hn295_0) (.string ((rd_T48 l0_1 x5_2).f0))).trans hx295_1; replace hx295_2 := (cell_far (p := ⟨gb294, 0, none⟩) (by first | (rw [add_block]; exact hn295_0) | (show (Addr.add _ _).block ≠ _; rw [add_block]; exact hn295_0) | exact hn295_0) (.string ((rd_T48 l0_1 x5_2).f0))).trans hx295_2; replace hx295_3 := (cell_far (p := ⟨gb294, 0, none⟩) (by first | (rw [add_block]; exact hn295_0) | (show (Addr.add _ _).block ≠ _; rw [add_block]; exact hn295_0) | exact hn295_0) (.string ((rd_T48 l0_1 x5_2).f0))).trans hx295_3; replace hx295_4 := (cell_far (p := ⟨gb294, 0, none⟩) (by first | (rw [add_block]; exact hn295_0) | (show (Addr.add _ _).block ≠ _; rw [add_block]; exact hn295_0) | exact hn295_0) (.string ((rd_T48 l0_1 x5_2).f0))).trans hx295_4; replace hx295_0 := (cell_far (p := ⟨gb294, 1, none⟩) (by first | (rw [add_block]; exact hn295_1) | (show (Addr.add _ _).block ≠ _; rw [add_block]; exact hn295_1) | exact hn295_1) (.slice A293_1 ((rd_T48 l0_1 x5_2).f1).length c293_1)).trans hx295_0; replace hx295_1 := (cell_far (p := ⟨gb294, 1, none⟩) (by first | (rw [add_block]; exact hn295_1) | (show (Addr.add _ _).block ≠ _; rw [add_block]; exact hn295_1) | exact hn295_1) (.slice A293_1 ((rd_T48 l0_1 x5_2).f1).length c293_1)).trans hx295_1; replace hx295_2 := (cell_far (p := ⟨gb294, 1, none⟩) (by first | (rw [add_block]; exact hn295_1) | (show (Addr.add _ _).block ≠ _; rw [add_block]; exact hn295_1) | exact hn295_1) (.slice A293_1 ((rd_T48 l0_1 x5_2).f1).length c293_1)).trans hx295_2; replace hx295_3 := (cell_far (p := ⟨gb294, 1, none⟩) (by first | (rw [add_block]; exact hn295_1) | (show (Addr.add _ _).block ≠ _; rw [add_block]; exact hn295_1) | exact hn295_1) (.slice A293_1 ((rd_T48 l0_1 x5_2).f1).length c293_1)).trans hx295_3; replace hx295_4 := (cell_far (p := ⟨gb294, 1, none⟩) (by first | (rw [add_block]; exact hn295_1) | (show (Addr.add _ _).block ≠ _; rw [add_block]; exact hn295_1) | exact hn295_1) (.slice A293_1 ((rd_T48 l0_1 x5_2).f1).length c293_1)).trans hx295_4; replace hx295_0 := (cell_far (p := ⟨gb294, 2, none⟩) (by first | (rw [add_block]; exact hn295_2) | (show (Addr.add _ _).block ≠ _; rw [add_block]; exact hn295_2) | exact hn295_2) (.int .i64 ((rd_T48 l0_1 x5_2).f2))).trans hx295_0; replace hx295_1 := (cell_far (p := ⟨gb294, 2, none⟩) (by first | (rw [add_block]; exact hn295_2) | (show (Addr.add _ _).block ≠ _; rw [add_block]; exact hn295_2) | exact hn295_2) (.int .i64 ((rd_T48 l0_1 x5_2).f2))).trans hx295_1; replace hx295_2 := (cell_far (p := ⟨gb294, 2, none⟩) (by first | (rw [add_block]; exact hn295_2) | (show (Addr.add _ _).block ≠ _; rw [add_block]; exact hn295_2) | exact hn295_2) (.int .i64 ((rd_T48 l0_1 x5_2).f2))).trans hx295_2; replace hx295_3 := (cell_far (p := ⟨gb294, 2, none⟩) (by first | (rw [add_block]; exact hn295_2) | (show (Addr.add _ _).block ≠ _; rw [add_block]; exact hn295_2) | exact hn295_2) (.int .i64 ((rd_T48 l0_1 x5_2).f2))).trans hx295_3; replace hx295_4 := (cell_far (p := ⟨gb294, 2, none⟩) (by first | (rw [add_block]; exact hn295_2) | (show (Addr.add _ _).block ≠ _; rw [add_block]; exact hn295_2) | exact hn295_2) (.int .i64 ((rd_T48 l0_1 x5_2).f2))).trans hx295_4; replace hx295_0 := (cell_far (p := ⟨gb294, 3, none⟩) (by first | (rw [add_block]; exact hn295_3) | (show (Addr.add _ _).block ≠ _; rw [add_block]; exact hn295_3) | exact hn295_3) (.slice A293_3 ((rd_T48 l0_1 x5_2).f3).length c293_3)).trans hx295_0; replace hx295_1 := (cell_far (p := ⟨gb294, 3, none⟩) (by first | (rw [add_block]; exact hn295_3) | (show (Addr.add _ _).block ≠ _; rw [add_block]; exact hn295_3) | exact hn295_3) (.slice A293_3 ((rd_T48 l0_1 x5_2).f3).length c293_3)).trans hx295_1; replace hx295_2 := (cell_far (p := ⟨gb294, 3, none⟩) (by first | (rw [add_block]; exact hn295_3) | (show (Addr.add _ _).block ≠ _; rw [add_block]; exact hn295_3) | exact hn295_3) (.slice A293_3 ((rd_T48 l0_1 x5_2).f3).length c293_3)).trans hx295_2; replace hx295_3 := (cell_far (p := ⟨gb294, 3, none⟩) (by first | (rw [add_block]; exact hn295_3) | (show (Addr.add _ _).block ≠ _; rw [add_block]; exact hn295_3) | exact hn295_3) (.slice A293_3 ((rd_T48 l0_1 x5_2).f3).length c293_3)).trans hx295_3; replace hx295_4 := (cell_far (p := ⟨gb294, 3, none⟩) (by first | (rw [add_block]; exact hn295_3) | (show (Addr.add _ _).block ≠ _; rw [add_block]; exact hn295_3) | exact hn295_3) (.slice A293_3 ((rd_T48 l0_1 x5_2).f3).length c293_3)).trans hx295_4; replace hx295_0 := (cell_far (p := ⟨gb294, 4, none⟩) (by first | (rw [add_block]; exact hn295_4) | (show (Addr.add _ _).block ≠ _; rw [add_block]; exact hn295_4) | exact hn295_4) (.slice A293_4 ((rd_T48 l0_1 x5_2).f4).length c293_4)).trans hx295_0; replace hx295_1 := (cell_far (p := ⟨gb294, 4, none⟩) (by first | (rw [add_block]; exact hn295_4) | (show (Addr.add _ _).block ≠ _; rw [add_block]; exact hn295_4) | exact hn295_4) (.slice A293_4 ((rd_T48 l0_1 x5_2).f4).length c293_4)).trans hx295_1; replace hx295_2 := (cell_far (p := ⟨gb294, 4, none⟩) (by first | (rw [add_block]; exact hn295_4) | (show (Addr.add _ _).block ≠ _; rw [add_block]; exact hn295_4) | exact hn295_4) (.slice A293_4 ((rd_T48 l0_1 x5_2).f4).length c293_4)).trans hx295_2; replace hx295_3 := (cell_far (p := ⟨gb294, 4, none⟩) (by first | (rw [add_block]; exact hn295_4) | (show (Addr.add _ _).block ≠ _; rw [add_block]; exact hn295_4) | exact hn295_4) (.slice A293_4 ((rd_T48 l0_1 x5_2).f4).length c293_4)).trans hx295_3; replace hx295_4 := (cell_far (p := ⟨gb294, 4, none⟩) (by first | (rw [add_block]; exact hn295_4) | (show (Addr.add _ _).block ≠ _; rw [add_block]; exact hn295_4) | exact hn295_4) (.slice A293_4 ((rd_T48 l0_1 x5_2).f4).length c293_4)).trans hx295_4; (try have hy295_0 := fun (n_ : Nat) => (show (((((((w25.drewN n_).setCell ⟨gb294, 0, none⟩ (.string ((rd_T48 l0_1 x5_2).f0))).setCell ⟨gb294, 1, none⟩ (.slice A293_1 ((rd_T48 l0_1 x5_2).f1).length c293_1)).setCell ⟨gb294, 2, none⟩ (.int .i64 ((rd_T48 l0_1 x5_2).f2))).setCell ⟨gb294, 3, none⟩ (.slice A293_3 ((rd_T48 l0_1 x5_2).f3).length c293_3)).setCell ⟨gb294, 4, none⟩ (.slice A293_4 ((rd_T48 l0_1 x5_2).f4).length c293_4))).cell? _ = some _ from hx295_0)); (try have hy295_1 := fun (n_ : Nat) => (show (((((((w25.drewN n_).setCell ⟨gb294, 0, none⟩ (.string ((rd_T48 l0_1 x5_2).f0))).setCell ⟨gb294, 1, none⟩ (.slice A293_1 ((rd_T48 l0_1 x5_2).f1).length c293_1)).setCell ⟨gb294, 2, none⟩ (.int .i64 ((rd_T48 l0_1 x5_2).f2))).setCell ⟨gb294, 3, none⟩ (.slice A293_3 ((rd_T48 l0_1 x5_2).f3).length c293_3)).setCell ⟨gb294, 4, none⟩ (.slice A293_4 ((rd_T48 l0_1 x5_2).f4).length c293_4))).cell? _ = some _ from hx295_1)); (try have hy295_2 := fun (n_ : Nat) => (show (((((((w25.drewN n_).setCell ⟨gb294, 0, none⟩ (.string ((rd_T48 l0_1 x5_2).f0))).setCell ⟨gb294, 1, none⟩ (.slice A293_1 ((rd_T48 l0_1 x5_2).f1).length c293_1)).setCell ⟨gb294, 2, none⟩ (.int .i64 ((rd_T48 l0_1 x5_2).f2))).setCell ⟨gb294, 3, none⟩ (.slice A293_3 ((rd_T48 l0_1 x5_2).f3).length c293_3)).setCell ⟨gb294, 4, none⟩ (.slice A293_4 ((rd_T48 l0_1 x5_2).f4).length c293_4))).cell? _ = some _ from hx295_2)); (try have hy295_3 := fun (n_ : Nat) => (show (((((((w25.drewN n_).setCell ⟨gb294, 0, none⟩ (.string ((rd_T48 l0_1 x5_2).f0))).setCell ⟨gb294, 1, none⟩ (.slice A293_1 ((rd_T48 l0_1 x5_2).f1).length c293_1)).setCell ⟨gb294, 2, none⟩ (.int .i64 ((rd_T48 l0_1 x5_2).f2))).setCell ⟨gb294, 3, none⟩ (.slice A293_3 ((rd_T48 l0_1 x5_2).f3).length c293_3)).setCell ⟨gb294, 4, none⟩ (.slice A293_4 ((rd_T48 l0_1 x5_2).f4).length c293_4))).cell? _ = some _ from hx295_3)); (try have hy295_4 := fun (n_ : Nat) => (show (((((((w25.drewN n_).setCell ⟨gb294, 0, none⟩ (.string ((rd_T48 l0_1 x5_2).f0))).setCell ⟨gb294, 1, none⟩ (.slice A293_1 ((rd_T48 l0_1 x5_2).f1).length c293_1)).setCell ⟨gb294, 2, none⟩ (.int .i64 ((rd_T48 l0_1 x5_2).f2))).setCell ⟨gb294, 3, none⟩ (.slice A293_3 ((rd_T48 l0_1 x5_2).f3).length c293_3)).setCell ⟨gb294, 4, none⟩ (.slice A293_4 ((rd_T48 l0_1 x5_2).f4).length c293_4))).cell? _ = some _ from hx295_4)); clear hn295_0; clear hn295_1; clear hn295_2; clear hn295_3; clear hn295_4; replace p295 := eq_true p295; replace q295 := eq_true q295) | ((with_reducible refine gate_dst (N := 7) rfl ?_); (try (refine gate_guard (by rfl) ?_; dsimp only)); refine box_event ?hg (N := 7) ?hd (cs := #[.string (⟨#[]⟩ : ByteArray), .slice none 0 0, .int .i64 0, .slice none 0 0, .slice none 0 0]) (t := 48) ?hr ?_; (case hd => rfl); (case hg => rfl); (case hr => first | (go_simp; done) | (go_simp; rfl)); intro gb296 hg w30 hbox hb; have n0_ := Aside0.mk (blk_below (g := gb290) (o := .cells #[.slice A0_0 l0_0.length c0_0, .slice (some ad293) l0_1.length c0_1] 29 (0, 0)) (by (with_reducible repeat (first | refine blk_drewN ?_ _ | refine blk_drew ?_ | refine blk_alloc ?_ _)); refine blk_far ?_ NB290_294.out _; (with_reducible repeat (first | refine blk_drewN ?_ _ | refine blk_drew ?_ | refine blk_alloc ?_ _)); refine blk_far ?_ NB290_294.out _; (with_reducible repeat (first | refine blk_drewN ?_ _ | refine blk_drew ?_ | refine blk_alloc ?_ _)); refine blk_far ?_ NB290_294.out _; (with_reducible repeat (first | refine blk_drewN ?_ _ | refine blk_drew ?_ | refine blk_alloc ?_ _)); refine blk_far ?_ NB290_294.out _; (with_reducible repeat (first | refine blk_drewN ?_ _ | refine blk_drew ?_ | refine blk_alloc ?_ _)); refine blk_far ?_ NB290_294.out _; (with_reducible repeat (first | refine blk_drewN ?_ _ | refine blk_drew ?_ | refine blk_alloc ?_ _)); exact BK290.out) hb); have n1_ := Aside0.mk (blk_below (g := gb291) (o := .cells #[.slice A1_0 l1_0.length c1_0, .slice (some ad295) l1_1.length c1_1] 29 (0, 0)) (by (with_reducible repeat (first | refine blk_drewN ?_ _ | refine blk_drew ?_ | refine blk_alloc ?_ _)); refine blk_far ?_ NB291_294.out _; (with_reducible repeat (first | refine blk_drewN ?_ _ | refine blk_drew ?_ | refine blk_alloc ?_ _)); refine blk_far ?_ NB291_294.out _; (with_reducible repeat (first | refine blk_drewN ?_ _ | refine blk_drew ?_ | refine blk_alloc ?_ _)); refine blk_far ?_ NB291_294.out _; (with_reducible repeat (first | refine blk_drewN ?_ _ | refine blk_drew ?_ | refine blk_alloc ?_ _)); refine blk_far ?_ NB291_294.out _; (with_reducible repeat (first | refine blk_drewN ?_ _ | refine blk_drew ?_ | refine blk_alloc ?_ _)); refine blk_far ?_ NB291_294.out _; (with_reducible repeat (first | refine blk_drewN ?_ _ | refine blk_drew ?_ | refine blk_alloc ?_ _)); exact BK291.out) hb); have n2_ := Aside0.mk (blk_below (g := gb294) (o := .cells #[.string ((rd_T48 l0_1 x5_2).f0), .slice A293_1 ((rd_T48 l0_1 x5_2).f1).length c293_1, .int .i64 ((rd_T48 l0_1 x5_2).f2), .slice A293_3 ((rd_T48 l0_1 x5_2).f3).length c293_3, .slice A293_4 ((rd_T48 l0_1 x5_2).f4).length c293_4] 48 (0, 0)) (by (with_reducible repeat (first | refine blk_drewN ?_ _ | refine blk_drew ?_ | refine blk_alloc ?_ _)); refine blk_put (cs := #[.string ((rd_T48 l0_1 x5_2).f0), .slice A293_1 ((rd_T48 l0_1 x5_2).f1).length c293_1, .int .i64 ((rd_T48 l0_1 x5_2).f2), .slice A293_3 ((rd_T48 l0_1 x5_2).f3).length c293_3, .slice none 0 0]) ?_ 4 _ rfl; (with_reducible repeat (first | refine blk_drewN ?_ _ | refine blk_drew ?_ | refine blk_alloc ?_ _)); refine blk_put (cs := #[.string ((rd_T48 l0_1 x5_2).f0), .slice A293_1 ((rd_T48 l0_1 x5_2).f1).length c293_1, .int .i64 ((rd_T48 l0_1 x5_2).f2), .slice none 0 0, .slice none 0 0]) ?_ 3 _ rfl; (with_reducible repeat (first | refine blk_drewN ?_ _ | refine blk_drew ?_ | refine blk_alloc ?_ _)); refine blk_put (cs := #[.string ((rd_T48 l0_1 x5_2).f0), .slice A293_1 ((rd_T48 l0_1 x5_2).f1).length c293_1, .int .i64 0, .slice none 0 0, .slice none 0 0]) ?_ 2 _ rfl; (with_reducible repeat (first | refine blk_drewN ?_ _ | refine blk_drew ?_ | refine blk_alloc ?_ _)); refine blk_put (cs := #[.string ((rd_T48 l0_1 x5_2).f0), .slice none 0 0, .int .i64 0, .slice none 0 0, .slice none 0 0]) ?_ 1 _ rfl; (with_reducible repeat (first | refine blk_drewN ?_ _ | refine blk_drew ?_ | refine blk_alloc ?_ _)); refine blk_put (cs := #[.string (⟨#[]⟩ : ByteArray), .slice none 0 0, .int .i64 0, .slice none 0 0, .slice none 0 0]) ?_ 0 _ rfl; (with_reducible repeat (first | refine blk_drewN ?_ _ | refine blk_drew ?_ | refine blk_alloc ?_ _)); exact BK294.out) hb); have n3_ := Aside0.mk (below_step (by repeat (first | (with_reducible first | exact HB.out | apply below_alloc | apply pw_below_drewN | apply below_drew1 | refine below_set ?_ GE290.out | refine below_set ?_ GE291.out | refine below_set ?_ GE294.out) | exact HB.out)) hb); have n4_ := Aside0.mk (hbox); have n5_ := Aside0.mk ((by rw [hg]; exact (below_size (by repeat (first | (with_reducible first | exact HB.out | apply below_alloc | apply pw_below_drewN | apply below_drew1 | refine below_set ?_ GE290.out | refine below_set ?_ GE291.out | refine below_set ?_ GE294.out) | exact HB.out))) : w.heap.size ≤ gb296)); have n6_ := Aside0.mk ((by rw [hg]; exact (below_size (by repeat (first | (with_reducible first | exact HB.out | apply below_alloc | apply pw_below_drewN | apply below_drew1 | refine below_set ?_ GE290.out | refine below_set ?_ GE291.out | refine below_set ?_ GE294.out) | exact HB.out))) : w.heap.size ≤ gb296)); have n7_ := Aside0.mk ((by rw [hg]; exact Nat.ne_of_lt (blk_lt (g := gb290) (o := .cells #[.slice A0_0 l0_0.length c0_0, .slice (some ad293) l0_1.length c0_1] 29 (0, 0)) (by (with_reducible repeat (first | refine blk_drewN ?_ _ | refine blk_drew ?_ | refine blk_alloc ?_ _)); refine blk_far ?_ NB290_294.out _; (with_reducible repeat (first | refine blk_drewN ?_ _ | refine blk_drew ?_ | refine blk_alloc ?_ _)); refine blk_far ?_ NB290_294.out _; (with_reducible repeat (first | refine blk_drewN ?_ _ | refine blk_drew ?_ | refine blk_alloc ?_ _)); refine blk_far ?_ NB290_294.out _; (with_reducible repeat (first | refine blk_drewN ?_ _ | refine blk_drew ?_ | refine blk_alloc ?_ _)); refine blk_far ?_ NB290_294.out _; (with_reducible repeat (first | refine blk_drewN ?_ _ | refine blk_drew ?_ | refine blk_alloc ?_ _)); refine blk_far ?_ NB290_294.out _; (with_reducible repeat (first | refine blk_drewN ?_ _ | refine blk_drew ?_ | refine blk_alloc ?_ _)); exact BK290.out)) : gb290 ≠ gb296)); have n8_ := Aside0.mk ((by rw [hg]; exact Nat.ne_of_gt (blk_lt (g := gb290) (o := .cells #[.slice A0_0 l0_0.length c0_0, .slice (some ad293) l0_1.length c0_1] 29 (0, 0)) (by (with_reducible repeat (first | refine blk_drewN ?_ _ | refine blk_drew ?_ | refine blk_alloc ?_ _)); refine blk_far ?_ NB290_294.out _; (with_reducible repeat (first | refine blk_drewN ?_ _ | refine blk_drew ?_ | refine blk_alloc ?_ _)); refine blk_far ?_ NB290_294.out _; (with_reducible repeat (first | refine blk_drewN ?_ _ | refine blk_drew ?_ | refine blk_alloc ?_ _)); refine blk_far ?_ NB290_294.out _; (with_reducible repeat (first | refine blk_drewN ?_ _ | refine blk_drew ?_ | refine blk_alloc ?_ _)); refine blk_far ?_ NB290_294.out _; (with_reducible repeat (first | refine blk_drewN ?_ _ | refine blk_drew ?_ | refine blk_alloc ?_ _)); refine blk_far ?_ NB290_294.out _; (with_reducible repeat (first | refine blk_drewN ?_ _ | refine blk_drew ?_ | refine blk_alloc ?_ _)); exact BK290.out)) : gb296 ≠ gb290)); have n9_ := Aside0.mk ((by rw [hg]; exact Nat.ne_of_lt (blk_lt (g := gb291) (o := .cells #[.slice A1_0 l1_0.length c1_0, .slice (some ad295) l1_1.length c1_1] 29 (0, 0)) (by (with_reducible repeat (first | refine blk_drewN ?_ _ | refine blk_drew ?_ | refine blk_alloc ?_ _)); refine blk_far ?_ NB291_294.out _; (with_reducible repeat (first | refine blk_drewN ?_ _ | refine blk_drew ?_ | refine blk_alloc ?_ _)); refine blk_far ?_ NB291_294.out _; (with_reducible repeat (first | refine blk_drewN ?_ _ | refine blk_drew ?_ | refine blk_alloc ?_ _)); refine blk_far ?_ NB291_294.out _; (with_reducible repeat (first | refine blk_drewN ?_ _ | refine blk_drew ?_ | refine blk_alloc ?_ _)); refine blk_far ?_ NB291_294.out _; (with_reducible repeat (first | refine blk_drewN ?_ _ | refine blk_drew ?_ | refine blk_alloc ?_ _)); refine blk_far ?_ NB291_294.out _; (with_reducible repeat (first | refine blk_drewN ?_ _ | refine blk_drew ?_ | refine blk_alloc ?_ _)); exact BK291.out)) : gb291 ≠ gb296)); have n10_ := Aside0.mk ((by rw [hg]; exact Nat.ne_of_gt (blk_lt (g := gb291) (o := .cells #[.slice A1_0 l1_0.length c1_0, .slice (some ad295) l1_1.length c1_1] 29 (0, 0)) (by (with_reducible repeat (first | refine blk_drewN ?_ _ | refine blk_drew ?_ | refine blk_alloc ?_ _)); refine blk_far ?_ NB291_294.out _; (with_reducible repeat (first | refine blk_drewN ?_ _ | refine blk_drew ?_ | refine blk_alloc ?_ _)); refine blk_far ?_ NB291_294.out _; (with_reducible repeat (first | refine blk_drewN ?_ _ | refine blk_drew ?_ | refine blk_alloc ?_ _)); refine blk_far ?_ NB291_294.out _; (with_reducible repeat (first | refine blk_drewN ?_ _ | refine blk_drew ?_ | refine blk_alloc ?_ _)); refine blk_far ?_ NB291_294.out _; (with_reducible repeat (first | refine blk_drewN ?_ _ | refine blk_drew ?_ | refine blk_alloc ?_ _)); refine blk_far ?_ NB291_294.out _; (with_reducible repeat (first | refine blk_drewN ?_ _ | refine blk_drew ?_ | refine blk_alloc ?_ _)); exact BK291.out)) : gb296 ≠ gb291)); have n11_ := Aside0.mk ((by rw [hg]; exact Nat.ne_of_lt (blk_lt (g := gb294) (o := .cells #[.string ((rd_T48 l0_1 x5_2).f0), .slice A293_1 ((rd_T48 l0_1 x5_2).f1).length c293_1, .int .i64 ((rd_T48 l0_1 x5_2).f2), .slice A293_3 ((rd_T48 l0_1 x5_2).f3).length c293_3, .slice A293_4 ((rd_T48 l0_1 x5_2).f4).length c293_4] 48 (0, 0)) (by (with_reducible repeat (first | refine blk_drewN ?_ _ | refine blk_drew ?_ | refine blk_alloc ?_ _)); refine blk_put (cs := #[.string ((rd_T48 l0_1 x5_2).f0), .slice A293_1 ((rd_T48 l0_1 x5_2).f1).length c293_1, .int .i64 ((rd_T48 l0_1 x5_2).f2), .slice A293_3 ((rd_T48 l0_1 x5_2).f3).length c293_3, .slice none 0 0]) ?_ 4 _ rfl; (with_reducible repeat (first | refine blk_drewN ?_ _ | refine blk_drew ?_ | refine blk_alloc ?_ _)); refine blk_put (cs := #[.string ((rd_T48 l0_1 x5_2).f0), .slice A293_1 ((rd_T48 l0_1 x5_2).f1).length c293_1, .int .i64 ((rd_T48 l0_1 x5_2).f2), .slice none 0 0, .slice none 0 0]) ?_ 3 _ rfl; (with_reducible repeat (first | refine blk_drewN ?_ _ | refine blk_drew ?_ | refine blk_alloc ?_ _)); refine blk_put (cs := #[.string ((rd_T48 l0_1 x5_2).f0), .slice A293_1 ((rd_T48 l0_1 x5_2).f1).length c293_1, .int .i64 0, .slice none 0 0, .slice none 0 0]) ?_ 2 _ rfl; (with_reducible repeat (first | refine blk_drewN ?_ _ | refine blk_drew ?_ | refine blk_alloc ?_ _)); refine blk_put (cs := #[.string ((rd_T48 l0_1 x5_2).f0), .slice none 0 0, .int .i64 0, .slice none 0 0, .slice none 0 0]) ?_ 1 _ rfl; (with_reducible repeat (first | refine blk_drewN ?_ _ | refine blk_drew ?_ | refine blk_alloc ?_ _)); refine blk_put (cs := #[.string (⟨#[]⟩ : ByteArray), .slice none 0 0, .int .i64 0, .slice none 0 0, .slice none 0 0]) ?_ 0 _ rfl; (with_reducible repeat (first | refine blk_drewN ?_ _ | refine blk_drew ?_ | refine blk_alloc ?_ _)); exact BK294.out)) : gb294 ≠ gb296)); have n12_ := Aside0.mk ((by rw [hg]; exact Nat.ne_of_gt (blk_lt (g := gb294) (o := .cells #[.string ((rd_T48 l0_1 x5_2).f0), .slice A293_1 ((rd_T48 l0_1 x5_2).f1).length c293_1, .int .i64 ((rd_T48 l0_1 x5_2).f2), .slice A293_3 ((rd_T48 l0_1 x5_2).f3).length c293_3, .slice A293_4 ((rd_T48 l0_1 x5_2).f4).length c293_4] 48 (0, 0)) (by (with_reducible repeat (first | refine blk_drewN ?_ _ | refine blk_drew ?_ | refine blk_alloc ?_ _)); refine blk_put (cs := #[.string ((rd_T48 l0_1 x5_2).f0), .slice A293_1 ((rd_T48 l0_1 x5_2).f1).length c293_1, .int .i64 ((rd_T48 l0_1 x5_2).f2), .slice A293_3 ((rd_T48 l0_1 x5_2).f3).length c293_3, .slice none 0 0]) ?_ 4 _ rfl; (with_reducible repeat (first | refine blk_drewN ?_ _ | refine blk_drew ?_ | refine blk_alloc ?_ _)); refine blk_put (cs := #[.string ((rd_T48 l0_1 x5_2).f0), .slice A293_1 ((rd_T48 l0_1 x5_2).f1).length c293_1, .int .i64 ((rd_T48 l0_1 x5_2).f2), .slice none 0 0, .slice none 0 0]) ?_ 3 _ rfl; (with_reducible repeat (first | refine blk_drewN ?_ _ | refine blk_drew ?_ | refine blk_alloc ?_ _)); refine blk_put (cs := #[.string ((rd_T48 l0_1 x5_2).f0), .slice A293_1 ((rd_T48 l0_1 x5_2).f1).length c293_1, .int .i64 0, .slice none 0 0, .slice none 0 0]) ?_ 2 _ rfl; (with_reducible repeat (first | refine blk_drewN ?_ _ | refine blk_drew ?_ | refine blk_alloc ?_ _)); refine blk_put (cs := #[.string ((rd_T48 l0_1 x5_2).f0), .slice none 0 0, .int .i64 0, .slice none 0 0, .slice none 0 0]) ?_ 1 _ rfl; (with_reducible repeat (first | refine blk_drewN ?_ _ | refine blk_drew ?_ | refine blk_alloc ?_ _)); refine blk_put (cs := #[.string (⟨#[]⟩ : ByteArray), .slice none 0 0, .int .i64 0, .slice none 0 0, .slice none 0 0]) ?_ 0 _ rfl; (with_reducible repeat (first | refine blk_drewN ?_ _ | refine blk_drew ?_ | refine blk_alloc ?_ _)); exact BK294.out)) : gb296 ≠ gb294)); clear BK290; clear BK291; clear BK294; clear HB; have BK290 := n0_; have BK291 := n1_; have BK294 := n2_; have HB := n3_; have BK296 := n4_; have GW296 := n5_; have GE296 := n6_; have NB290_296 := n7_; have NB296_290 := n8_; have NB291_296 := n9_; have NB296_291 := n10_; have NB294_296 := n11_; have NB296_294 := n12_; clear n0_ n1_ n2_ n3_ n4_ n5_ n6_ n7_ n8_ n9_ n10_ n11_ n12_; clear hb hbox hg; have hnb31 := NB296_290.out; have hnc31 := NB290_296.out; have hnb32 := NB296_291.out; have hnc32 := NB291_296.out; have hnb33 := NB296_294.out; have hnc33 := NB294_296.out; have hcz34_0 : w30.cell? ⟨gb296, 0, none⟩ = some (.string (⟨#[]⟩ : ByteArray)) := (blk_cell BK296.out 0).trans rfl; have hcz34_1 : w30.cell? ⟨gb296, 1, none⟩ = some (.slice none 0 0) := (blk_cell BK296.out 1).trans rfl; have hcz34_2 : w30.cell? ⟨gb296, 2, none⟩ = some (.int .i64 0) := (blk_cell BK296.out 2).trans rfl; have hcz34_3 : w30.cell? ⟨gb296, 3, none⟩ = some (.slice none 0 0) := (blk_cell BK296.out 3).trans rfl; have hcz34_4 : w30.cell? ⟨gb296, 4, none⟩ = some (.slice none 0 0) := (blk_cell BK296.out 4).trans rfl; have hfz34_0 := blk_frozen BK296.out 0; have hfz34_1 := blk_frozen BK296.out 1; have hfz34_2 := blk_frozen BK296.out 2; have hfz34_3 := blk_frozen BK296.out 3; have hfz34_4 := blk_frozen BK296.out 4))
                  repeat (go_quiet (first | ((with_reducible refine gate_dst (N := 6) rfl ?_); (try (refine gate_guard (by rfl) ?_; dsimp only)); refine box_event ?hg (N := 6) ?hd (cs := #[.string (⟨#[]⟩ : ByteArray), .slice none 0 0, .int .i64 0, .slice none 0 0, .slice none 0 0]) (t := 48) ?hr ?_; (case hd => rfl); (case hg => rfl); (case hr => first | (go_simp; done) | (go_simp; rfl)); intro gb294 hg w25 hbox hb; have n0_ := Aside0.mk (blk_below (g := gb290) (o := .cells #[.slice A0_0 l0_0.length c0_0, .slice (some ad293) l0_1.length c0_1] 29 (0, 0)) (by (with_reducible repeat (first | refine blk_drewN ?_ _ | refine blk_drew ?_ | refine blk_alloc ?_ _)); exact BK290.out) hb); have n1_ := Aside0.mk (blk_below (g := gb291) (o := .cells #[.slice A1_0 l1_0.length c1_0, .slice A1_1 l1_1.length c1_1] 29 (0, 0)) (by (with_reducible repeat (first | refine blk_drewN ?_ _ | refine blk_drew ?_ | refine blk_alloc ?_ _)); exact BK291.out) hb); have n2_ := Aside0.mk (below_step (by repeat (first | (with_reducible first | exact HB.out | apply below_alloc | apply pw_below_drewN | apply below_drew1 | refine below_set ?_ GE290.out | refine below_set ?_ GE291.out) | exact HB.out)) hb); have n3_ := Aside0.mk (hbox); have n4_ := Aside0.mk ((by rw [hg]; exact (below_size (by repeat (first | (with_reducible first | exact HB.out | apply below_alloc | apply pw_below_drewN | apply below_drew1 | refine below_set ?_ GE290.out | refine below_set ?_ GE291.out) | exact HB.out))) : w.heap.size ≤ gb294)); have n5_ := Aside0.mk ((by rw [hg]; exact (below_size (by repeat (first | (with_reducible first | exact HB.out | apply below_alloc | apply pw_below_drewN | apply below_drew1 | refine below_set ?_ GE290.out | refine below_set ?_ GE291.out) | exact HB.out))) : w.heap.size ≤ gb294)); have n6_ := Aside0.mk ((by rw [hg]; exact Nat.ne_of_lt (blk_lt (g := gb290) (o := .cells #[.slice A0_0 l0_0.length c0_0, .slice (some ad293) l0_1.length c0_1] 29 (0, 0)) (by (with_reducible repeat (first | refine blk_drewN ?_ _ | refine blk_drew ?_ | refine blk_alloc ?_ _)); exact BK290.out)) : gb290 ≠ gb294)); have n7_ := Aside0.mk ((by rw [hg]; exact Nat.ne_of_gt (blk_lt (g := gb290) (o := .cells #[.slice A0_0 l0_0.length c0_0, .slice (some ad293) l0_1.length c0_1] 29 (0, 0)) (by (with_reducible repeat (first | refine blk_drewN ?_ _ | refine blk_drew ?_ | refine blk_alloc ?_ _)); exact BK290.out)) : gb294 ≠ gb290)); have n8_ := Aside0.mk ((by rw [hg]; exact Nat.ne_of_lt (blk_lt (g := gb291) (o := .cells #[.slice A1_0 l1_0.length c1_0, .slice A1_1 l1_1.length c1_1] 29 (0, 0)) (by (with_reducible repeat (first | refine blk_drewN ?_ _ | refine blk_drew ?_ | refine blk_alloc ?_ _)); exact BK291.out)) : gb291 ≠ gb294)); have n9_ := Aside0.mk ((by rw [hg]; exact Nat.ne_of_gt (blk_lt (g := gb291) (o := .cells #[.slice A1_0 l1_0.length c1_0, .slice A1_1 l1_1.length c1_1] 29 (0, 0)) (by (with_reducible repeat (first | refine blk_drewN ?_ _ | refine blk_drew ?_ | refine blk_alloc ?_ _)); exact BK291.out)) : gb294 ≠ gb291)); clear BK290; clear BK291; clear HB; have BK290 := n0_; have BK291 := n1_; have HB := n2_; have BK294 := n3_; have GW294 := n4_; have GE294 := n5_; have NB290_294 := n6_; have NB294_290 := n7_; have NB291_294 := n8_; have NB294_291 := n9_; clear n0_ n1_ n2_ n3_ n4_ n5_ n6_ n7_ n8_ n9_; clear hb hbox hg; have hnb26 := NB294_290.out; have hnc26 := NB290_294.out; have hnb27 := NB294_291.out; have hnc27 := NB291_294.out; have hcz28_0 : w25.cell? ⟨gb294, 0, none⟩ = some (.string (⟨#[]⟩ : ByteArray)) := (blk_cell BK294.out 0).trans rfl; have hcz28_1 : w25.cell? ⟨gb294, 1, none⟩ = some (.slice none 0 0) := (blk_cell BK294.out 1).trans rfl; have hcz28_2 : w25.cell? ⟨gb294, 2, none⟩ = some (.int .i64 0) := (blk_cell BK294.out 2).trans rfl; have hcz28_3 : w25.cell? ⟨gb294, 3, none⟩ = some (.slice none 0 0) := (blk_cell BK294.out 3).trans rfl; have hcz28_4 : w25.cell? ⟨gb294, 4, none⟩ = some (.slice none 0 0) := (blk_cell BK294.out 4).trans rfl; have hfz28_0 := blk_frozen BK294.out 0; have hfz28_1 := blk_frozen BK294.out 1; have hfz28_2 := blk_frozen BK294.out 2; have hfz28_3 := blk_frozen BK294.out 3; have hfz28_4 := blk_frozen BK294.out 4; have hcz29_0 : w25.cell? ⟨gb291, 0, none⟩ = some (.slice A1_0 l1_0.length c1_0) := (blk_cell BK291.out 0).trans rfl; have hcz29_1 : w25.cell? ⟨gb291, 1, none⟩ = some (.slice A1_1 l1_1.length c1_1) := (blk_cell BK291.out 1).trans rfl; have hfz29_0 := blk_frozen BK291.out 0; have hfz29_1 := blk_frozen BK291.out 1; have p295 : 0 ≤ (x5_2 : Int) := of_decide_eq_true (by first | (with_reducible assumption) | assumption); have q295 : x5_2 < (l1_1.length : Int) := of_decide_eq_true (by first | (with_reducible assumption) | assumption); obtain ⟨ad295, A295_1, c295_1, A295_3, c295_3, A295_4, c295_4, e295, hx295_0, hx295_1, hx295_2, hx295_3, hx295_4, hl295_1, hi295_1, hl295_3, hi295_3, hl295_4, hi295_4⟩ := at_T48 HR1_1.out x5_2 p295 q295; cases e295; have hn295_0 : ad295.block ≠ gb294 := Nat.ne_of_lt (Nat.lt_of_lt_of_le (by have := World.block_lt_of_cell? _ _ hx295_0; first | rwa [add_block] at this | exact this) GW294.out); have hn295_1 : ad295.block ≠ gb294 := Nat.ne_of_lt (Nat.lt_of_lt_of_le (by have := World.block_lt_of_cell? _ _ hx295_0; first | rwa [add_block] at this | exact this) GW294.out); have hn295_2 : ad295.block ≠ gb294 := Nat.ne_of_lt (Nat.lt_of_lt_of_le (by have := World.block_lt_of_cell? _ _ hx295_0; first | rwa [add_block] at this | exact this) GW294.out); have hn295_3 : ad295.block ≠ gb294 := Nat.ne_of_lt (Nat.lt_of_lt_of_le (by have := World.block_lt_of_cell? _ _ hx295_0; first | rwa [add_block] at this | exact this) GW294.out); have hn295_4 : ad295.block ≠ gb294 := Nat.ne_of_lt (Nat.lt_of_lt_of_le (by have := World.block_lt_of_cell? _ _ hx295_0; first | rwa [add_block] at this | exact this) GW294.out); replace hx295_0 := (HB.out.cell (World.block_lt_of_cell? w _ hx295_0)).trans hx295_0; replace hx295_1 := (HB.out.cell (World.block_lt_of_cell? w _ hx295_1)).trans hx295_1; replace hx295_2 := (HB.out.cell (World.block_lt_of_cell? w _ hx295_2)).trans hx295_2; replace hx295_3 := (HB.out.cell (World.block_lt_of_cell? w _ hx295_3)).trans hx295_3; replace hx295_4 := (HB.out.cell (World.block_lt_of_cell? w _ hx295_4)).trans hx295_4; have HR295_1 := Aside0.mk hi295_1; have HC295_1 := Aside0.mk hl295_1; clear hi295_1 hl295_1; have HR295_3 := Aside0.mk hi295_3; have HC295_3 := Aside0.mk hl295_3; clear hi295_3 hl295_3; have HR295_4 := Aside0.mk hi295_4; have HC295_4 := Aside0.mk hl295_4; clear hi295_4 hl295_4; replace hx295_0 := (cell_far (p := ⟨gb294, 0, none⟩) (by first | (rw [add_block]; exact hn295_0) | (show (Addr.add _ _).block ≠ _; rw [add_block]; exact hn295_0) | exact hn295_0) (.string ((rd_T48 l0_1 x5_2).f0))).trans hx295_0; replace hx295_1 := (cell_far (p := ⟨gb294, 0, none⟩) (by first | (rw [add_block]; exact hn295_0) | (show (Addr.add _ _).block ≠ _; rw [add_block]; exact hn295_0) | exact hn295_0) (.string ((rd_T48 l0_1 x5_2).f0))).trans hx295_1; replace hx295_2 := (cell_far (p := ⟨gb294, 0, none⟩) (by first | (rw [add_block]; exact hn295_0) | (show (Addr.add _ _).block ≠ _; rw [add_block]; exact hn295_0) | exact hn295_0) (.string ((rd_T48 l0_1 x5_2).f0))).trans hx295_2; replace hx295_3 := (cell_far (p := ⟨gb294, 0, none⟩) (by first | (rw [add_block]; exact hn295_0) | (show (Addr.add _ _).block ≠ _; rw [add_block]; exact hn295_0) | exact hn295_0) (.string ((rd_T48 l0_1 x5_2).f0))).trans hx295_3; replace hx295_4 := (cell_far (p := ⟨gb294, 0, none⟩) (by first | (rw [add_block]; exact hn295_0) | (show (Addr.add _ _).block ≠ _; rw [add_block]; exact hn295_0) | exact hn295_0) (.string ((rd_T48 l0_1 x5_2).f0))).trans hx295_4; replace hx295_0 := (cell_far (p := ⟨gb294, 1, none⟩) (by first | (rw [add_block]; exact hn295_1) | (show (Addr.add _ _).block ≠ _; rw [add_block]; exact hn295_1) | exact hn295_1) (.slice A293_1 ((rd_T48 l0_1 x5_2).f1).length c293_1)).trans hx295_0; replace hx295_1 := (cell_far (p := ⟨gb294, 1, none⟩) (by first | (rw [add_block]; exact hn295_1) | (show (Addr.add _ _).block ≠ _; rw [add_block]; exact hn295_1) | exact hn295_1) (.slice A293_1 ((rd_T48 l0_1 x5_2).f1).length c293_1)).trans hx295_1; replace hx295_2 := (cell_far (p := ⟨gb294, 1, none⟩) (by first | (rw [add_block]; exact hn295_1) | (show (Addr.add _ _).block ≠ _; rw [add_block]; exact hn295_1) | exact hn295_1) (.slice A293_1 ((rd_T48 l0_1 x5_2).f1).length c293_1)).trans hx295_2; replace hx295_3 := (cell_far (p := ⟨gb294, 1, none⟩) (by first | (rw [add_block]; exact hn295_1) | (show (Addr.add _ _).block ≠ _; rw [add_block]; exact hn295_1) | exact hn295_1) (.slice A293_1 ((rd_T48 l0_1 x5_2).f1).length c293_1)).trans hx295_3; replace hx295_4 := (cell_far (p := ⟨gb294, 1, none⟩) (by first | (rw [add_block]; exact hn295_1) | (show (Addr.add _ _).block ≠ _; rw [add_block]; exact hn295_1) | exact hn295_1) (.slice A293_1 ((rd_T48 l0_1 x5_2).f1).length c293_1)).trans hx295_4; replace hx295_0 := (cell_far (p := ⟨gb294, 2, none⟩) (by first | (rw [add_block]; exact hn295_2) | (show (Addr.add _ _).block ≠ _; rw [add_block]; exact hn295_2) | exact hn295_2) (.int .i64 ((rd_T48 l0_1 x5_2).f2))).trans hx295_0; replace hx295_1 := (cell_far (p := ⟨gb294, 2, none⟩) (by first | (rw [add_block]; exact hn295_2) | (show (Addr.add _ _).block ≠ _; rw [add_block]; exact hn295_2) | exact hn295_2) (.int .i64 ((rd_T48 l0_1 x5_2).f2))).trans hx295_1; replace hx295_2 := (cell_far (p := ⟨gb294, 2, none⟩) (by first | (rw [add_block]; exact hn295_2) | (show (Addr.add _ _).block ≠ _; rw [add_block]; exact hn295_2) | exact hn295_2) (.int .i64 ((rd_T48 l0_1 x5_2).f2))).trans hx295_2; replace hx295_3 := (cell_far (p := ⟨gb294, 2, none⟩) (by first | (rw [add_block]; exact hn295_2) | (show (Addr.add _ _).block ≠ _; rw [add_block]; exact hn295_2) | exact hn295_2) (.int .i64 ((rd_T48 l0_1 x5_2).f2))).trans hx295_3; replace hx295_4 := (cell_far (p := ⟨gb294, 2, none⟩) (by first | (rw [add_block]; exact hn295_2) | (show (Addr.add _ _).block ≠ _; rw [add_block]; exact hn295_2) | exact hn295_2) (.int .i64 ((rd_T48 l0_1 x5_2).f2))).trans hx295_4; replace hx295_0 := (cell_far (p := ⟨gb294, 3, none⟩) (by first | (rw [add_block]; exact hn295_3) | (show (Addr.add _ _).block ≠ _; rw [add_block]; exact hn295_3) | exact hn295_3) (.slice A293_3 ((rd_T48 l0_1 x5_2).f3).length c293_3)).trans hx295_0; replace hx295_1 := (cell_far (p := ⟨gb294, 3, none⟩) (by first | (rw [add_block]; exact hn295_3) | (show (Addr.add _ _).block ≠ _; rw [add_block]; exact hn295_3) | exact hn295_3) (.slice A293_3 ((rd_T48 l0_1 x5_2).f3).length c293_3)).trans hx295_1; replace hx295_2 := (cell_far (p := ⟨gb294, 3, none⟩) (by first | (rw [add_block]; exact hn295_3) | (show (Addr.add _ _).block ≠ _; rw [add_block]; exact hn295_3) | exact hn295_3) (.slice A293_3 ((rd_T48 l0_1 x5_2).f3).length c293_3)).trans hx295_2; replace hx295_3 := (cell_far (p := ⟨gb294, 3, none⟩) (by first | (rw [add_block]; exact hn295_3) | (show (Addr.add _ _).block ≠ _; rw [add_block]; exact hn295_3) | exact hn295_3) (.slice A293_3 ((rd_T48 l0_1 x5_2).f3).length c293_3)).trans hx295_3; replace hx295_4 := (cell_far (p := ⟨gb294, 3, none⟩) (by first | (rw [add_block]; exact hn295_3) | (show (Addr.add _ _).block ≠ _; rw [add_block]; exact hn295_3) | exact hn295_3) (.slice A293_3 ((rd_T48 l0_1 x5_2).f3).length c293_3)).trans hx295_4; replace hx295_0 := (cell_far (p := ⟨gb294, 4, none⟩) (by first | (rw [add_block]; exact hn295_4) | (show (Addr.add _ _).block ≠ _; rw [add_block]; exact hn295_4) | exact hn295_4) (.slice A293_4 ((rd_T48 l0_1 x5_2).f4).length c293_4)).trans hx295_0; replace hx295_1 := (cell_far (p := ⟨gb294, 4, none⟩) (by first | (rw [add_block]; exact hn295_4) | (show (Addr.add _ _).block ≠ _; rw [add_block]; exact hn295_4) | exact hn295_4) (.slice A293_4 ((rd_T48 l0_1 x5_2).f4).length c293_4)).trans hx295_1; replace hx295_2 := (cell_far (p := ⟨gb294, 4, none⟩) (by first | (rw [add_block]; exact hn295_4) | (show (Addr.add _ _).block ≠ _; rw [add_block]; exact hn295_4) | exact hn295_4) (.slice A293_4 ((rd_T48 l0_1 x5_2).f4).length c293_4)).trans hx295_2; replace hx295_3 := (cell_far (p := ⟨gb294, 4, none⟩) (by first | (rw [add_block]; exact hn295_4) | (show (Addr.add _ _).block ≠ _; rw [add_block]; exact hn295_4) | exact hn295_4) (.slice A293_4 ((rd_T48 l0_1 x5_2).f4).length c293_4)).trans hx295_3; replace hx295_4 := (cell_far (p := ⟨gb294, 4, none⟩) (by first | (rw [add_block]; exact hn295_4) | (show (Addr.add _ _).block ≠ _; rw [add_block]; exact hn295_4) | exact hn295_4) (.slice A293_4 ((rd_T48 l0_1 x5_2).f4).length c293_4)).trans hx295_4; (try have hy295_0 := fun (n_ : Nat) => (show (((((((w25.drewN n_).setCell ⟨gb294, 0, none⟩ (.string ((rd_T48 l0_1 x5_2).f0))).setCell ⟨gb294, 1, none⟩ (.slice A293_1 ((rd_T48 l0_1 x5_2).f1).length c293_1)).setCell ⟨gb294, 2, none⟩ (.int .i64 ((rd_T48 l0_1 x5_2).f2))).setCell ⟨gb294, 3, none⟩ (.slice A293_3 ((rd_T48 l0_1 x5_2).f3).length c293_3)).setCell ⟨gb294, 4, none⟩ (.slice A293_4 ((rd_T48 l0_1 x5_2).f4).length c293_4))).cell? _ = some _ from hx295_0)); (try have hy295_1 := fun (n_ : Nat) => (show (((((((w25.drewN n_).setCell ⟨gb294, 0, none⟩ (.string ((rd_T48 l0_1 x5_2).f0))).setCell ⟨gb294, 1, none⟩ (.slice A293_1 ((rd_T48 l0_1 x5_2).f1).length c293_1)).setCell ⟨gb294, 2, none⟩ (.int .i64 ((rd_T48 l0_1 x5_2).f2))).setCell ⟨gb294, 3, none⟩ (.slice A293_3 ((rd_T48 l0_1 x5_2).f3).length c293_3)).setCell ⟨gb294, 4, none⟩ (.slice A293_4 ((rd_T48 l0_1 x5_2).f4).length c293_4))).cell? _ = some _ from hx295_1)); (try have hy295_2 := fun (n_ : Nat) => (show (((((((w25.drewN n_).setCell ⟨gb294, 0, none⟩ (.string ((rd_T48 l0_1 x5_2).f0))).setCell ⟨gb294, 1, none⟩ (.slice A293_1 ((rd_T48 l0_1 x5_2).f1).length c293_1)).setCell ⟨gb294, 2, none⟩ (.int .i64 ((rd_T48 l0_1 x5_2).f2))).setCell ⟨gb294, 3, none⟩ (.slice A293_3 ((rd_T48 l0_1 x5_2).f3).length c293_3)).setCell ⟨gb294, 4, none⟩ (.slice A293_4 ((rd_T48 l0_1 x5_2).f4).length c293_4))).cell? _ = some _ from hx295_2)); (try have hy295_3 := fun (n_ : Nat) => (show (((((((w25.drewN n_).setCell ⟨gb294, 0, none⟩ (.string ((rd_T48 l0_1 x5_2).f0))).setCell ⟨gb294, 1, none⟩ (.slice A293_1 ((rd_T48 l0_1 x5_2).f1).length c293_1)).setCell ⟨gb294, 2, none⟩ (.int .i64 ((rd_T48 l0_1 x5_2).f2))).setCell ⟨gb294, 3, none⟩ (.slice A293_3 ((rd_T48 l0_1 x5_2).f3).length c293_3)).setCell ⟨gb294, 4, none⟩ (.slice A293_4 ((rd_T48 l0_1 x5_2).f4).length c293_4))).cell? _ = some _ from hx295_3)); (try have hy295_4 := fun (n_ : Nat) => (show (((((((w25.drewN n_).setCell ⟨gb294, 0, none⟩ (.string ((rd_T48 l0_1 x5_2).f0))).setCell ⟨gb294, 1, none⟩ (.slice A293_1 ((rd_T48 l0_1 x5_2).f1).length c293_1)).setCell ⟨gb294, 2, none⟩ (.int .i64 ((rd_T48 l0_1 x5_2).f2))).setCell ⟨gb294, 3, none⟩ (.slice A293_3 ((rd_T48 l0_1 x5_2).f3).length c293_3)).setCell ⟨gb294, 4, none⟩ (.slice A293_4 ((rd_T48 l0_1 x5_2).f4).length c293_4))).cell? _ = some _ from hx295_4)); clear hn295_0; clear hn295_1; clear hn295_2; clear hn295_3; clear hn295_4; replace p295 := eq_true p295; replace q295 := eq_true q295) | ((with_reducible refine gate_dst (N := 7) rfl ?_); (try (refine gate_guard (by rfl) ?_; dsimp only)); refine box_event ?hg (N := 7) ?hd (cs := #[.string (⟨#[]⟩ : ByteArray), .slice none 0 0, .int .i64 0, .slice none 0 0, .slice none 0 0]) (t := 48) ?hr ?_; (case hd => rfl); (case hg => rfl); (case hr => first | (go_simp; done) | (go_simp; rfl)); intro gb296 hg w30 hbox hb; have n0_ := Aside0.mk (blk_below (g := gb290) (o := .cells #[.slice A0_0 l0_0.length c0_0, .slice (some ad293) l0_1.length c0_1] 29 (0, 0)) (by (with_reducible repeat (first | refine blk_drewN ?_ _ | refine blk_drew ?_ | refine blk_alloc ?_ _)); refine blk_far ?_ NB290_294.out _; (with_reducible repeat (first | refine blk_drewN ?_ _ | refine blk_drew ?_ | refine blk_alloc ?_ _)); refine blk_far ?_ NB290_294.out _; (with_reducible repeat (first | refine blk_drewN ?_ _ | refine blk_drew ?_ | refine blk_alloc ?_ _)); refine blk_far ?_ NB290_294.out _; (with_reducible repeat (first | refine blk_drewN ?_ _ | refine blk_drew ?_ | refine blk_alloc ?_ _)); refine blk_far ?_ NB290_294.out _; (with_reducible repeat (first | refine blk_drewN ?_ _ | refine blk_drew ?_ | refine blk_alloc ?_ _)); refine blk_far ?_ NB290_294.out _; (with_reducible repeat (first | refine blk_drewN ?_ _ | refine blk_drew ?_ | refine blk_alloc ?_ _)); exact BK290.out) hb); have n1_ := Aside0.mk (blk_below (g := gb291) (o := .cells #[.slice A1_0 l1_0.length c1_0, .slice (some ad295) l1_1.length c1_1] 29 (0, 0)) (by (with_reducible repeat (first | refine blk_drewN ?_ _ | refine blk_drew ?_ | refine blk_alloc ?_ _)); refine blk_far ?_ NB291_294.out _; (with_reducible repeat (first | refine blk_drewN ?_ _ | refine blk_drew ?_ | refine blk_alloc ?_ _)); refine blk_far ?_ NB291_294.out _; (with_reducible repeat (first | refine blk_drewN ?_ _ | refine blk_drew ?_ | refine blk_alloc ?_ _)); refine blk_far ?_ NB291_294.out _; (with_reducible repeat (first | refine blk_drewN ?_ _ | refine blk_drew ?_ | refine blk_alloc ?_ _)); refine blk_far ?_ NB291_294.out _; (with_reducible repeat (first | refine blk_drewN ?_ _ | refine blk_drew ?_ | refine blk_alloc ?_ _)); refine blk_far ?_ NB291_294.out _; (with_reducible repeat (first | refine blk_drewN ?_ _ | refine blk_drew ?_ | refine blk_alloc ?_ _)); exact BK291.out) hb); have n2_ := Aside0.mk (blk_below (g := gb294) (o := .cells #[.string ((rd_T48 l0_1 x5_2).f0), .slice A293_1 ((rd_T48 l0_1 x5_2).f1).length c293_1, .int .i64 ((rd_T48 l0_1 x5_2).f2), .slice A293_3 ((rd_T48 l0_1 x5_2).f3).length c293_3, .slice A293_4 ((rd_T48 l0_1 x5_2).f4).length c293_4] 48 (0, 0)) (by (with_reducible repeat (first | refine blk_drewN ?_ _ | refine blk_drew ?_ | refine blk_alloc ?_ _)); refine blk_put (cs := #[.string ((rd_T48 l0_1 x5_2).f0), .slice A293_1 ((rd_T48 l0_1 x5_2).f1).length c293_1, .int .i64 ((rd_T48 l0_1 x5_2).f2), .slice A293_3 ((rd_T48 l0_1 x5_2).f3).length c293_3, .slice none 0 0]) ?_ 4 _ rfl; (with_reducible repeat (first | refine blk_drewN ?_ _ | refine blk_drew ?_ | refine blk_alloc ?_ _)); refine blk_put (cs := #[.string ((rd_T48 l0_1 x5_2).f0), .slice A293_1 ((rd_T48 l0_1 x5_2).f1).length c293_1, .int .i64 ((rd_T48 l0_1 x5_2).f2), .slice none 0 0, .slice none 0 0]) ?_ 3 _ rfl; (with_reducible repeat (first | refine blk_drewN ?_ _ | refine blk_drew ?_ | refine blk_alloc ?_ _)); refine blk_put (cs := #[.string ((rd_T48 l0_1 x5_2).f0), .slice A293_1 ((rd_T48 l0_1 x5_2).f1).length c293_1, .int .i64 0, .slice none 0 0, .slice none 0 0]) ?_ 2 _ rfl; (with_reducible repeat (first | refine blk_drewN ?_ _ | refine blk_drew ?_ | refine blk_alloc ?_ _)); refine blk_put (cs := #[.string ((rd_T48 l0_1 x5_2).f0), .slice none 0 0, .int .i64 0, .slice none 0 0, .slice none 0 0]) ?_ 1 _ rfl; (with_reducible repeat (first | refine blk_drewN ?_ _ | refine blk_drew ?_ | refine blk_alloc ?_ _)); refine blk_put (cs := #[.string (⟨#[]⟩ : ByteArray), .slice none 0 0, .int .i64 0, .slice none 0 0, .slice none 0 0]) ?_ 0 _ rfl; (with_reducible repeat (first | refine blk_drewN ?_ _ | refine blk_drew ?_ | refine blk_alloc ?_ _)); exact BK294.out) hb); have n3_ := Aside0.mk (below_step (by repeat (first | (with_reducible first | exact HB.out | apply below_alloc | apply pw_below_drewN | apply below_drew1 | refine below_set ?_ GE290.out | refine below_set ?_ GE291.out | refine below_set ?_ GE294.out) | exact HB.out)) hb); have n4_ := Aside0.mk (hbox); have n5_ := Aside0.mk ((by rw [hg]; exact (below_size (by repeat (first | (with_reducible first | exact HB.out | apply below_alloc | apply pw_below_drewN | apply below_drew1 | refine below_set ?_ GE290.out | refine below_set ?_ GE291.out | refine below_set ?_ GE294.out) | exact HB.out))) : w.heap.size ≤ gb296)); have n6_ := Aside0.mk ((by rw [hg]; exact (below_size (by repeat (first | (with_reducible first | exact HB.out | apply below_alloc | apply pw_below_drewN | apply below_drew1 | refine below_set ?_ GE290.out | refine below_set ?_ GE291.out | refine below_set ?_ GE294.out) | exact HB.out))) : w.heap.size ≤ gb296)); have n7_ := Aside0.mk ((by rw [hg]; exact Nat.ne_of_lt (blk_lt (g := gb290) (o := .cells #[.slice A0_0 l0_0.length c0_0, .slice (some ad293) l0_1.length c0_1] 29 (0, 0)) (by (with_reducible repeat (first | refine blk_drewN ?_ _ | refine blk_drew ?_ | refine blk_alloc ?_ _)); refine blk_far ?_ NB290_294.out _; (with_reducible repeat (first | refine blk_drewN ?_ _ | refine blk_drew ?_ | refine blk_alloc ?_ _)); refine blk_far ?_ NB290_294.out _; (with_reducible repeat (first | refine blk_drewN ?_ _ | refine blk_drew ?_ | refine blk_alloc ?_ _)); refine blk_far ?_ NB290_294.out _; (with_reducible repeat (first | refine blk_drewN ?_ _ | refine blk_drew ?_ | refine blk_alloc ?_ _)); refine blk_far ?_ NB290_294.out _; (with_reducible repeat (first | refine blk_drewN ?_ _ | refine blk_drew ?_ | refine blk_alloc ?_ _)); refine blk_far ?_ NB290_294.out _; (with_reducible repeat (first | refine blk_drewN ?_ _ | refine blk_drew ?_ | refine blk_alloc ?_ _)); exact BK290.out)) : gb290 ≠ gb296)); have n8_ := Aside0.mk ((by rw [hg]; exact Nat.ne_of_gt (blk_lt (g := gb290) (o := .cells #[.slice A0_0 l0_0.length c0_0, .slice (some ad293) l0_1.length c0_1] 29 (0, 0)) (by (with_reducible repeat (first | refine blk_drewN ?_ _ | refine blk_drew ?_ | refine blk_alloc ?_ _)); refine blk_far ?_ NB290_294.out _; (with_reducible repeat (first | refine blk_drewN ?_ _ | refine blk_drew ?_ | refine blk_alloc ?_ _)); refine blk_far ?_ NB290_294.out _; (with_reducible repeat (first | refine blk_drewN ?_ _ | refine blk_drew ?_ | refine blk_alloc ?_ _)); refine blk_far ?_ NB290_294.out _; (with_reducible repeat (first | refine blk_drewN ?_ _ | refine blk_drew ?_ | refine blk_alloc ?_ _)); refine blk_far ?_ NB290_294.out _; (with_reducible repeat (first | refine blk_drewN ?_ _ | refine blk_drew ?_ | refine blk_alloc ?_ _)); refine blk_far ?_ NB290_294.out _; (with_reducible repeat (first | refine blk_drewN ?_ _ | refine blk_drew ?_ | refine blk_alloc ?_ _)); exact BK290.out)) : gb296 ≠ gb290)); have n9_ := Aside0.mk ((by rw [hg]; exact Nat.ne_of_lt (blk_lt (g := gb291) (o := .cells #[.slice A1_0 l1_0.length c1_0, .slice (some ad295) l1_1.length c1_1] 29 (0, 0)) (by (with_reducible repeat (first | refine blk_drewN ?_ _ | refine blk_drew ?_ | refine blk_alloc ?_ _)); refine blk_far ?_ NB291_294.out _; (with_reducible repeat (first | refine blk_drewN ?_ _ | refine blk_drew ?_ | refine blk_alloc ?_ _)); refine blk_far ?_ NB291_294.out _; (with_reducible repeat (first | refine blk_drewN ?_ _ | refine blk_drew ?_ | refine blk_alloc ?_ _)); refine blk_far ?_ NB291_294.out _; (with_reducible repeat (first | refine blk_drewN ?_ _ | refine blk_drew ?_ | refine blk_alloc ?_ _)); refine blk_far ?_ NB291_294.out _; (with_reducible repeat (first | refine blk_drewN ?_ _ | refine blk_drew ?_ | refine blk_alloc ?_ _)); refine blk_far ?_ NB291_294.out _; (with_reducible repeat (first | refine blk_drewN ?_ _ | refine blk_drew ?_ | refine blk_alloc ?_ _)); exact BK291.out)) : gb291 ≠ gb296)); have n10_ := Aside0.mk ((by rw [hg]; exact Nat.ne_of_gt (blk_lt (g := gb291) (o := .cells #[.slice A1_0 l1_0.length c1_0, .slice (some ad295) l1_1.length c1_1] 29 (0, 0)) (by (with_reducible repeat (first | refine blk_drewN ?_ _ | refine blk_drew ?_ | refine blk_alloc ?_ _)); refine blk_far ?_ NB291_294.out _; (with_reducible repeat (first | refine blk_drewN ?_ _ | refine blk_drew ?_ | refine blk_alloc ?_ _)); refine blk_far ?_ NB291_294.out _; (with_reducible repeat (first | refine blk_drewN ?_ _ | refine blk_drew ?_ | refine blk_alloc ?_ _)); refine blk_far ?_ NB291_294.out _; (with_reducible repeat (first | refine blk_drewN ?_ _ | refine blk_drew ?_ | refine blk_alloc ?_ _)); refine blk_far ?_ NB291_294.out _; (with_reducible repeat (first | refine blk_drewN ?_ _ | refine blk_drew ?_ | refine blk_alloc ?_ _)); refine blk_far ?_ NB291_294.out _; (with_reducible repeat (first | refine blk_drewN ?_ _ | refine blk_drew ?_ | refine blk_alloc ?_ _)); exact BK291.out)) : gb296 ≠ gb291)); have n11_ := Aside0.mk ((by rw [hg]; exact Nat.ne_of_lt (blk_lt (g := gb294) (o := .cells #[.string ((rd_T48 l0_1 x5_2).f0), .slice A293_1 ((rd_T48 l0_1 x5_2).f1).length c293_1, .int .i64 ((rd_T48 l0_1 x5_2).f2), .slice A293_3 ((rd_T48 l0_1 x5_2).f3).length c293_3, .slice A293_4 ((rd_T48 l0_1 x5_2).f4).length c293_4] 48 (0, 0)) (by (with_reducible repeat (first | refine blk_drewN ?_ _ | refine blk_drew ?_ | refine blk_alloc ?_ _)); refine blk_put (cs := #[.string ((rd_T48 l0_1 x5_2).f0), .slice A293_1 ((rd_T48 l0_1 x5_2).f1).length c293_1, .int .i64 ((rd_T48 l0_1 x5_2).f2), .slice A293_3 ((rd_T48 l0_1 x5_2).f3).length c293_3, .slice none 0 0]) ?_ 4 _ rfl; (with_reducible repeat (first | refine blk_drewN ?_ _ | refine blk_drew ?_ | refine blk_alloc ?_ _)); refine blk_put (cs := #[.string ((rd_T48 l0_1 x5_2).f0), .slice A293_1 ((rd_T48 l0_1 x5_2).f1).length c293_1, .int .i64 ((rd_T48 l0_1 x5_2).f2), .slice none 0 0, .slice none 0 0]) ?_ 3 _ rfl; (with_reducible repeat (first | refine blk_drewN ?_ _ | refine blk_drew ?_ | refine blk_alloc ?_ _)); refine blk_put (cs := #[.string ((rd_T48 l0_1 x5_2).f0), .slice A293_1 ((rd_T48 l0_1 x5_2).f1).length c293_1, .int .i64 0, .slice none 0 0, .slice none 0 0]) ?_ 2 _ rfl; (with_reducible repeat (first | refine blk_drewN ?_ _ | refine blk_drew ?_ | refine blk_alloc ?_ _)); refine blk_put (cs := #[.string ((rd_T48 l0_1 x5_2).f0), .slice none 0 0, .int .i64 0, .slice none 0 0, .slice none 0 0]) ?_ 1 _ rfl; (with_reducible repeat (first | refine blk_drewN ?_ _ | refine blk_drew ?_ | refine blk_alloc ?_ _)); refine blk_put (cs := #[.string (⟨#[]⟩ : ByteArray), .slice none 0 0, .int .i64 0, .slice none 0 0, .slice none 0 0]) ?_ 0 _ rfl; (with_reducible repeat (first | refine blk_drewN ?_ _ | refine blk_drew ?_ | refine blk_alloc ?_ _)); exact BK294.out)) : gb294 ≠ gb296)); have n12_ := Aside0.mk ((by rw [hg]; exact Nat.ne_of_gt (blk_lt (g := gb294) (o := .cells #[.string ((rd_T48 l0_1 x5_2).f0), .slice A293_1 ((rd_T48 l0_1 x5_2).f1).length c293_1, .int .i64 ((rd_T48 l0_1 x5_2).f2), .slice A293_3 ((rd_T48 l0_1 x5_2).f3).length c293_3, .slice A293_4 ((rd_T48 l0_1 x5_2).f4).length c293_4] 48 (0, 0)) (by (with_reducible repeat (first | refine blk_drewN ?_ _ | refine blk_drew ?_ | refine blk_alloc ?_ _)); refine blk_put (cs := #[.string ((rd_T48 l0_1 x5_2).f0), .slice A293_1 ((rd_T48 l0_1 x5_2).f1).length c293_1, .int .i64 ((rd_T48 l0_1 x5_2).f2), .slice A293_3 ((rd_T48 l0_1 x5_2).f3).length c293_3, .slice none 0 0]) ?_ 4 _ rfl; (with_reducible repeat (first | refine blk_drewN ?_ _ | refine blk_drew ?_ | refine blk_alloc ?_ _)); refine blk_put (cs := #[.string ((rd_T48 l0_1 x5_2).f0), .slice A293_1 ((rd_T48 l0_1 x5_2).f1).length c293_1, .int .i64 ((rd_T48 l0_1 x5_2).f2), .slice none 0 0, .slice none 0 0]) ?_ 3 _ rfl; (with_reducible repeat (first | refine blk_drewN ?_ _ | refine blk_drew ?_ | refine blk_alloc ?_ _)); refine blk_put (cs := #[.string ((rd_T48 l0_1 x5_2).f0), .slice A293_1 ((rd_T48 l0_1 x5_2).f1).length c293_1, .int .i64 0, .slice none 0 0, .slice none 0 0]) ?_ 2 _ rfl; (with_reducible repeat (first | refine blk_drewN ?_ _ | refine blk_drew ?_ | refine blk_alloc ?_ _)); refine blk_put (cs := #[.string ((rd_T48 l0_1 x5_2).f0), .slice none 0 0, .int .i64 0, .slice none 0 0, .slice none 0 0]) ?_ 1 _ rfl; (with_reducible repeat (first | refine blk_drewN ?_ _ | refine blk_drew ?_ | refine blk_alloc ?_ _)); refine blk_put (cs := #[.string (⟨#[]⟩ : ByteArray), .slice none 0 0, .int .i64 0, .slice none 0 0, .slice none 0 0]) ?_ 0 _ rfl; (with_reducible repeat (first | refine blk_drewN ?_ _ | refine blk_drew ?_ | refine blk_alloc ?_ _)); exact BK294.out)) : gb296 ≠ gb294)); clear BK290; clear BK291; clear BK294; clear HB; have BK290 := n0_; have BK291 := n1_; have BK294 := n2_; have HB := n3_; have BK296 := n4_; have GW296 := n5_; have GE296 := n6_; have NB290_296 := n7_; have NB296_290 := n8_; have NB291_296 := n9_; have NB296_291 := n10_; have NB294_296 := n11_; have NB296_294 := n12_; clear n0_ n1_ n2_ n3_ n4_ n5_ n6_ n7_ n8_ n9_ n10_ n11_ n12_; clear hb hbox hg; have hnb31 := NB296_290.out; have hnc31 := NB290_296.out; have hnb32 := NB296_291.out; have hnc32 := NB291_296.out; have hnb33 := NB296_294.out; have hnc33 := NB294_296.out; have hcz34_0 : w30.cell? ⟨gb296, 0, none⟩ = some (.string (⟨#[]⟩ : ByteArray)) := (blk_cell BK296.out 0).trans rfl; have hcz34_1 : w30.cell? ⟨gb296, 1, none⟩ = some (.slice none 0 0) := (blk_cell BK296.out 1).trans rfl; have hcz34_2 : w30.cell? ⟨gb296, 2, none⟩ = some (.int .i64 0) := (blk_cell BK296.out 2).trans rfl; have hcz34_3 : w30.cell? ⟨gb296, 3, none⟩ = some (.slice none 0 0) := (blk_cell BK296.out 3).trans rfl; have hcz34_4 : w30.cell? ⟨gb296, 4, none⟩ = some (.slice none 0 0) := (blk_cell BK296.out 4).trans rfl; have hfz34_0 := blk_frozen BK296.out 0; have hfz34_1 := blk_frozen BK296.out 1; have hfz34_2 := blk_frozen BK296.out 2; have hfz34_3 := blk_frozen BK296.out 3; have hfz34_4 := blk_frozen BK296.out 4)); go_upto_region 8 with (first | ((with_reducible refine gate_dst (N := 6) rfl ?_); (try (refine gate_guard (by rfl) ?_; dsimp only)); refine box_event ?hg (N := 6) ?hd (cs := #[.string (⟨#[]⟩ : ByteArray), .slice none 0 0, .int .i64 0, .slice none 0 0, .slice none 0 0]) (t := 48) ?hr ?_; (case hd => rfl); (case hg => rfl); (case hr => first | (go_simp; done) | (go_simp; rfl)); intro gb294 hg w25 hbox hb; have n0_ := Aside0.mk (blk_below (g := gb290) (o := .cells #[.slice A0_0 l0_0.length c0_0, .slice (some ad293) l0_1.length c0_1] 29 (0, 0)) (by (with_reducible repeat (first | refine blk_drewN ?_ _ | refine blk_drew ?_ | refine blk_alloc ?_ _)); exact BK290.out) hb); have n1_ := Aside0.mk (blk_below (g := gb291) (o := .cells #[.slice A1_0 l1_0.length c1_0, .slice A1_1 l1_1.length c1_1] 29 (0, 0)) (by (with_reducible repeat (first | refine blk_drewN ?_ _ | refine blk_drew ?_ | refine blk_alloc ?_ _)); exact BK291.out) hb); have n2_ := Aside0.mk (below_step (by repeat (first | (with_reducible first | exact HB.out | apply below_alloc | apply pw_below_drewN | apply below_drew1 | refine below_set ?_ GE290.out | refine below_set ?_ GE291.out) | exact HB.out)) hb); have n3_ := Aside0.mk (hbox); have n4_ := Aside0.mk ((by rw [hg]; exact (below_size (by repeat (first | (with_reducible first | exact HB.out | apply below_alloc | apply pw_below_drewN | apply below_drew1 | refine below_set ?_ GE290.out | refine below_set ?_ GE291.out) | exact HB.out))) : w.heap.size ≤ gb294)); have n5_ := Aside0.mk ((by rw [hg]; exact (below_size (by repeat (first | (with_reducible first | exact HB.out | apply below_alloc | apply pw_below_drewN | apply below_drew1 | refine below_set ?_ GE290.out | refine below_set ?_ GE291.out) | exact HB.out))) : w.heap.size ≤ gb294)); have n6_ := Aside0.mk ((by rw [hg]; exact Nat.ne_of_lt (blk_lt (g := gb290) (o := .cells #[.slice A0_0 l0_0.length c0_0, .slice (some ad293) l0_1.length c0_1] 29 (0, 0)) (by (with_reducible repeat (first | refine blk_drewN ?_ _ | refine blk_drew ?_ | refine blk_alloc ?_ _)); exact BK290.out)) : gb290 ≠ gb294)); have n7_ := Aside0.mk ((by rw [hg]; exact Nat.ne_of_gt (blk_lt (g := gb290) (o := .cells #[.slice A0_0 l0_0.length c0_0, .slice (some ad293) l0_1.length c0_1] 29 (0, 0)) (by (with_reducible repeat (first | refine blk_drewN ?_ _ | refine blk_drew ?_ | refine blk_alloc ?_ _)); exact BK290.out)) : gb294 ≠ gb290)); have n8_ := Aside0.mk ((by rw [hg]; exact Nat.ne_of_lt (blk_lt (g := gb291) (o := .cells #[.slice A1_0 l1_0.length c1_0, .slice A1_1 l1_1.length c1_1] 29 (0, 0)) (by (with_reducible repeat (first | refine blk_drewN ?_ _ | refine blk_drew ?_ | refine blk_alloc ?_ _)); exact BK291.out)) : gb291 ≠ gb294)); have n9_ := Aside0.mk ((by rw [hg]; exact Nat.ne_of_gt (blk_lt (g := gb291) (o := .cells #[.slice A1_0 l1_0.length c1_0, .slice A1_1 l1_1.length c1_1] 29 (0, 0)) (by (with_reducible repeat (first | refine blk_drewN ?_ _ | refine blk_drew ?_ | refine blk_alloc ?_ _)); exact BK291.out)) : gb294 ≠ gb291)); clear BK290; clear BK291; clear HB; have BK290 := n0_; have BK291 := n1_; have HB := n2_; have BK294 := n3_; have GW294 := n4_; have GE294 := n5_; have NB290_294 := n6_; have NB294_290 := n7_; have NB291_294 := n8_; have NB294_291 := n9_; clear n0_ n1_ n2_ n3_ n4_ n5_ n6_ n7_ n8_ n9_; clear hb hbox hg; have hnb26 := NB294_290.out; have hnc26 := NB290_294.out; have hnb27 := NB294_291.out; have hnc27 := NB291_294.out; have hcz28_0 : w25.cell? ⟨gb294, 0, none⟩ = some (.string (⟨#[]⟩ : ByteArray)) := (blk_cell BK294.out 0).trans rfl; have hcz28_1 : w25.cell? ⟨gb294, 1, none⟩ = some (.slice none 0 0) := (blk_cell BK294.out 1).trans rfl; have hcz28_2 : w25.cell? ⟨gb294, 2, none⟩ = some (.int .i64 0) := (blk_cell BK294.out 2).trans rfl; have hcz28_3 : w25.cell? ⟨gb294, 3, none⟩ = some (.slice none 0 0) := (blk_cell BK294.out 3).trans rfl; have hcz28_4 : w25.cell? ⟨gb294, 4, none⟩ = some (.slice none 0 0) := (blk_cell BK294.out 4).trans rfl; have hfz28_0 := blk_frozen BK294.out 0; have hfz28_1 := blk_frozen BK294.out 1; have hfz28_2 := blk_frozen BK294.out 2; have hfz28_3 := blk_frozen BK294.out 3; have hfz28_4 := blk_frozen BK294.out 4; have hcz29_0 : w25.cell? ⟨gb291, 0, none⟩ = some (.slice A1_0 l1_0.length c1_0) := (blk_cell BK291.out 0).trans rfl; have hcz29_1 : w25.cell? ⟨gb291, 1, none⟩ = some (.slice A1_1 l1_1.length c1_1) := (blk_cell BK291.out 1).trans rfl; have hfz29_0 := blk_frozen BK291.out 0; have hfz29_1 := blk_frozen BK291.out 1; have p295 : 0 ≤ (x5_2 : Int) := of_decide_eq_true (by first | (with_reducible assumption) | assumption); have q295 : x5_2 < (l1_1.length : Int) := of_decide_eq_true (by first | (with_reducible assumption) | assumption); obtain ⟨ad295, A295_1, c295_1, A295_3, c295_3, A295_4, c295_4, e295, hx295_0, hx295_1, hx295_2, hx295_3, hx295_4, hl295_1, hi295_1, hl295_3, hi295_3, hl295_4, hi295_4⟩ := at_T48 HR1_1.out x5_2 p295 q295; cases e295; have hn295_0 : ad295.block ≠ gb294 := Nat.ne_of_lt (Nat.lt_of_lt_of_le (by have := World.block_lt_of_cell? _ _ hx295_0; first | rwa [add_block] at this | exact this) GW294.out); have hn295_1 : ad295.block ≠ gb294 := Nat.ne_of_lt (Nat.lt_of_lt_of_le (by have := World.block_lt_of_cell? _ _ hx295_0; first | rwa [add_block] at this | exact this) GW294.out); have hn295_2 : ad295.block ≠ gb294 := Nat.ne_of_lt (Nat.lt_of_lt_of_le (by have := World.block_lt_of_cell? _ _ hx295_0; first | rwa [add_block] at this | exact this) GW294.out); have hn295_3 : ad295.block ≠ gb294 := Nat.ne_of_lt (Nat.lt_of_lt_of_le (by have := World.block_lt_of_cell? _ _ hx295_0; first | rwa [add_block] at this | exact this) GW294.out); have hn295_4 : ad295.block ≠ gb294 := Nat.ne_of_lt (Nat.lt_of_lt_of_le (by have := World.block_lt_of_cell? _ _ hx295_0; first | rwa [add_block] at this | exact this) GW294.out); replace hx295_0 := (HB.out.cell (World.block_lt_of_cell? w _ hx295_0)).trans hx295_0; replace hx295_1 := (HB.out.cell (World.block_lt_of_cell? w _ hx295_1)).trans hx295_1; replace hx295_2 := (HB.out.cell (World.block_lt_of_cell? w _ hx295_2)).trans hx295_2; replace hx295_3 := (HB.out.cell (World.block_lt_of_cell? w _ hx295_3)).trans hx295_3; replace hx295_4 := (HB.out.cell (World.block_lt_of_cell? w _ hx295_4)).trans hx295_4; have HR295_1 := Aside0.mk hi295_1; have HC295_1 := Aside0.mk hl295_1; clear hi295_1 hl295_1; have HR295_3 := Aside0.mk hi295_3; have HC295_3 := Aside0.mk hl295_3; clear hi295_3 hl295_3; have HR295_4 := Aside0.mk hi295_4; have HC295_4 := Aside0.mk hl295_4; clear hi295_4 hl295_4; replace hx295_0 := (cell_far (p := ⟨gb294, 0, none⟩) (by first | (rw [add_block]; exact hn295_0) | (show (Addr.add _ _).block ≠ _; rw [add_block]; exact hn295_0) | exact hn295_0) (.string ((rd_T48 l0_1 x5_2).f0))).trans hx295_0; replace hx295_1 := (cell_far (p := ⟨gb294, 0, none⟩) (by first | (rw [add_block]; exact hn295_0) | (show (Addr.add _ _).block ≠ _; rw [add_block]; exact hn295_0) | exact hn295_0) (.string ((rd_T48 l0_1 x5_2).f0))).trans hx295_1; replace hx295_2 := (cell_far (p := ⟨gb294, 0, none⟩) (by first | (rw [add_block]; exact hn295_0) | (show (Addr.add _ _).block ≠ _; rw [add_block]; exact hn295_0) | exact hn295_0) (.string ((rd_T48 l0_1 x5_2).f0))).trans hx295_2; replace hx295_3 := (cell_far (p := ⟨gb294, 0, none⟩) (by first | (rw [add_block]; exact hn295_0) | (show (Addr.add _ _).block ≠ _; rw [add_block]; exact hn295_0) | exact hn295_0) (.string ((rd_T48 l0_1 x5_2).f0))).trans hx295_3; replace hx295_4 := (cell_far (p := ⟨gb294, 0, none⟩) (by first | (rw [add_block]; exact hn295_0) | (show (Addr.add _ _).block ≠ _; rw [add_block]; exact hn295_0) | exact hn295_0) (.string ((rd_T48 l0_1 x5_2).f0))).trans hx295_4; replace hx295_0 := (cell_far (p := ⟨gb294, 1, none⟩) (by first | (rw [add_block]; exact hn295_1) | (show (Addr.add _ _).block ≠ _; rw [add_block]; exact hn295_1) | exact hn295_1) (.slice A293_1 ((rd_T48 l0_1 x5_2).f1).length c293_1)).trans hx295_0; replace hx295_1 := (cell_far (p := ⟨gb294, 1, none⟩) (by first | (rw [add_block]; exact hn295_1) | (show (Addr.add _ _).block ≠ _; rw [add_block]; exact hn295_1) | exact hn295_1) (.slice A293_1 ((rd_T48 l0_1 x5_2).f1).length c293_1)).trans hx295_1; replace hx295_2 := (cell_far (p := ⟨gb294, 1, none⟩) (by first | (rw [add_block]; exact hn295_1) | (show (Addr.add _ _).block ≠ _; rw [add_block]; exact hn295_1) | exact hn295_1) (.slice A293_1 ((rd_T48 l0_1 x5_2).f1).length c293_1)).trans hx295_2; replace hx295_3 := (cell_far (p := ⟨gb294, 1, none⟩) (by first | (rw [add_block]; exact hn295_1) | (show (Addr.add _ _).block ≠ _; rw [add_block]; exact hn295_1) | exact hn295_1) (.slice A293_1 ((rd_T48 l0_1 x5_2).f1).length c293_1)).trans hx295_3; replace hx295_4 := (cell_far (p := ⟨gb294, 1, none⟩) (by first | (rw [add_block]; exact hn295_1) | (show (Addr.add _ _).block ≠ _; rw [add_block]; exact hn295_1) | exact hn295_1) (.slice A293_1 ((rd_T48 l0_1 x5_2).f1).length c293_1)).trans hx295_4; replace hx295_0 := (cell_far (p := ⟨gb294, 2, none⟩) (by first | (rw [add_block]; exact hn295_2) | (show (Addr.add _ _).block ≠ _; rw [add_block]; exact hn295_2) | exact hn295_2) (.int .i64 ((rd_T48 l0_1 x5_2).f2))).trans hx295_0; replace hx295_1 := (cell_far (p := ⟨gb294, 2, none⟩) (by first | (rw [add_block]; exact hn295_2) | (show (Addr.add _ _).block ≠ _; rw [add_block]; exact hn295_2) | exact hn295_2) (.int .i64 ((rd_T48 l0_1 x5_2).f2))).trans hx295_1; replace hx295_2 := (cell_far (p := ⟨gb294, 2, none⟩) (by first | (rw [add_block]; exact hn295_2) | (show (Addr.add _ _).block ≠ _; rw [add_block]; exact hn295_2) | exact hn295_2) (.int .i64 ((rd_T48 l0_1 x5_2).f2))).trans hx295_2; replace hx295_3 := (cell_far (p := ⟨gb294, 2, none⟩) (by first | (rw [add_block]; exact hn295_2) | (show (Addr.add _ _).block ≠ _; rw [add_block]; exact hn295_2) | exact hn295_2) (.int .i64 ((rd_T48 l0_1 x5_2).f2))).trans hx295_3; replace hx295_4 := (cell_far (p := ⟨gb294, 2, none⟩) (by first | (rw [add_block]; exact hn295_2) | (show (Addr.add _ _).block ≠ _; rw [add_block]; exact hn295_2) | exact hn295_2) (.int .i64 ((rd_T48 l0_1 x5_2).f2))).trans hx295_4; replace hx295_0 := (cell_far (p := ⟨gb294, 3, none⟩) (by first | (rw [add_block]; exact hn295_3) | (show (Addr.add _ _).block ≠ _; rw [add_block]; exact hn295_3) | exact hn295_3) (.slice A293_3 ((rd_T48 l0_1 x5_2).f3).length c293_3)).trans hx295_0; replace hx295_1 := (cell_far (p := ⟨gb294, 3, none⟩) (by first | (rw [add_block]; exact hn295_3) | (show (Addr.add _ _).block ≠ _; rw [add_block]; exact hn295_3) | exact hn295_3) (.slice A293_3 ((rd_T48 l0_1 x5_2).f3).length c293_3)).trans hx295_1; replace hx295_2 := (cell_far (p := ⟨gb294, 3, none⟩) (by first | (rw [add_block]; exact hn295_3) | (show (Addr.add _ _).block ≠ _; rw [add_block]; exact hn295_3) | exact hn295_3) (.slice A293_3 ((rd_T48 l0_1 x5_2).f3).length c293_3)).trans hx295_2; replace hx295_3 := (cell_far (p := ⟨gb294, 3, none⟩) (by first | (rw [add_block]; exact hn295_3) | (show (Addr.add _ _).block ≠ _; rw [add_block]; exact hn295_3) | exact hn295_3) (.slice A293_3 ((rd_T48 l0_1 x5_2).f3).length c293_3)).trans hx295_3; replace hx295_4 := (cell_far (p := ⟨gb294, 3, none⟩) (by first | (rw [add_block]; exact hn295_3) | (show (Addr.add _ _).block ≠ _; rw [add_block]; exact hn295_3) | exact hn295_3) (.slice A293_3 ((rd_T48 l0_1 x5_2).f3).length c293_3)).trans hx295_4; replace hx295_0 := (cell_far (p := ⟨gb294, 4, none⟩) (by first | (rw [add_block]; exact hn295_4) | (show (Addr.add _ _).block ≠ _; rw [add_block]; exact hn295_4) | exact hn295_4) (.slice A293_4 ((rd_T48 l0_1 x5_2).f4).length c293_4)).trans hx295_0; replace hx295_1 := (cell_far (p := ⟨gb294, 4, none⟩) (by first | (rw [add_block]; exact hn295_4) | (show (Addr.add _ _).block ≠ _; rw [add_block]; exact hn295_4) | exact hn295_4) (.slice A293_4 ((rd_T48 l0_1 x5_2).f4).length c293_4)).trans hx295_1; replace hx295_2 := (cell_far (p := ⟨gb294, 4, none⟩) (by first | (rw [add_block]; exact hn295_4) | (show (Addr.add _ _).block ≠ _; rw [add_block]; exact hn295_4) | exact hn295_4) (.slice A293_4 ((rd_T48 l0_1 x5_2).f4).length c293_4)).trans hx295_2; replace hx295_3 := (cell_far (p := ⟨gb294, 4, none⟩) (by first | (rw [add_block]; exact hn295_4) | (show (Addr.add _ _).block ≠ _; rw [add_block]; exact hn295_4) | exact hn295_4) (.slice A293_4 ((rd_T48 l0_1 x5_2).f4).length c293_4)).trans hx295_3; replace hx295_4 := (cell_far (p := ⟨gb294, 4, none⟩) (by first | (rw [add_block]; exact hn295_4) | (show (Addr.add _ _).block ≠ _; rw [add_block]; exact hn295_4) | exact hn295_4) (.slice A293_4 ((rd_T48 l0_1 x5_2).f4).length c293_4)).trans hx295_4; (try have hy295_0 := fun (n_ : Nat) => (show (((((((w25.drewN n_).setCell ⟨gb294, 0, none⟩ (.string ((rd_T48 l0_1 x5_2).f0))).setCell ⟨gb294, 1, none⟩ (.slice A293_1 ((rd_T48 l0_1 x5_2).f1).length c293_1)).setCell ⟨gb294, 2, none⟩ (.int .i64 ((rd_T48 l0_1 x5_2).f2))).setCell ⟨gb294, 3, none⟩ (.slice A293_3 ((rd_T48 l0_1 x5_2).f3).length c293_3)).setCell ⟨gb294, 4, none⟩ (.slice A293_4 ((rd_T48 l0_1 x5_2).f4).length c293_4))).cell? _ = some _ from hx295_0)); (try have hy295_1 := fun (n_ : Nat) => (show (((((((w25.drewN n_).setCell ⟨gb294, 0, none⟩ (.string ((rd_T48 l0_1 x5_2).f0))).setCell ⟨gb294, 1, none⟩ (.slice A293_1 ((rd_T48 l0_1 x5_2).f1).length c293_1)).setCell ⟨gb294, 2, none⟩ (.int .i64 ((rd_T48 l0_1 x5_2).f2))).setCell ⟨gb294, 3, none⟩ (.slice A293_3 ((rd_T48 l0_1 x5_2).f3).length c293_3)).setCell ⟨gb294, 4, none⟩ (.slice A293_4 ((rd_T48 l0_1 x5_2).f4).length c293_4))).cell? _ = some _ from hx295_1)); (try have hy295_2 := fun (n_ : Nat) => (show (((((((w25.drewN n_).setCell ⟨gb294, 0, none⟩ (.string ((rd_T48 l0_1 x5_2).f0))).setCell ⟨gb294, 1, none⟩ (.slice A293_1 ((rd_T48 l0_1 x5_2).f1).length c293_1)).setCell ⟨gb294, 2, none⟩ (.int .i64 ((rd_T48 l0_1 x5_2).f2))).setCell ⟨gb294, 3, none⟩ (.slice A293_3 ((rd_T48 l0_1 x5_2).f3).length c293_3)).setCell ⟨gb294, 4, none⟩ (.slice A293_4 ((rd_T48 l0_1 x5_2).f4).length c293_4))).cell? _ = some _ from hx295_2)); (try have hy295_3 := fun (n_ : Nat) => (show (((((((w25.drewN n_).setCell ⟨gb294, 0, none⟩ (.string ((rd_T48 l0_1 x5_2).f0))).setCell ⟨gb294, 1, none⟩ (.slice A293_1 ((rd_T48 l0_1 x5_2).f1).length c293_1)).setCell ⟨gb294, 2, none⟩ (.int .i64 ((rd_T48 l0_1 x5_2).f2))).setCell ⟨gb294, 3, none⟩ (.slice A293_3 ((rd_T48 l0_1 x5_2).f3).length c293_3)).setCell ⟨gb294, 4, none⟩ (.slice A293_4 ((rd_T48 l0_1 x5_2).f4).length c293_4))).cell? _ = some _ from hx295_3)); (try have hy295_4 := fun (n_ : Nat) => (show (((((((w25.drewN n_).setCell ⟨gb294, 0, none⟩ (.string ((rd_T48 l0_1 x5_2).f0))).setCell ⟨gb294, 1, none⟩ (.slice A293_1 ((rd_T48 l0_1 x5_2).f1).length c293_1)).setCell ⟨gb294, 2, none⟩ (.int .i64 ((rd_T48 l0_1 x5_2).f2))).setCell ⟨gb294, 3, none⟩ (.slice A293_3 ((rd_T48 l0_1 x5_2).f3).length c293_3)).setCell ⟨gb294, 4, none⟩ (.slice A293_4 ((rd_T48 l0_1 x5_2).f4).length c293_4))).cell? _ = some _ from hx295_4)); clear hn295_0; clear hn295_1; clear hn295_2; clear hn295_3; clear hn295_4; replace p295 := eq_true p295; replace q295 := eq_true q295) | ((with_reducible refine gate_dst (N := 7) rfl ?_); (try (refine gate_guard (by rfl) ?_; dsimp only)); refine box_event ?hg (N := 7) ?hd (cs := #[.string (⟨#[]⟩ : ByteArray), .slice none 0 0, .int .i64 0, .slice none 0 0, .slice none 0 0]) (t := 48) ?hr ?_; (case hd => rfl); (case hg => rfl); (case hr => first | (go_simp; done) | (go_simp; rfl)); intro gb296 hg w30 hbox hb; have n0_ := Aside0.mk (blk_below (g := gb290) (o := .cells #[.slice A0_0 l0_0.length c0_0, .slice (some ad293) l0_1.length c0_1] 29 (0, 0)) (by (with_reducible repeat (first | refine blk_drewN ?_ _ | refine blk_drew ?_ | refine blk_alloc ?_ _)); refine blk_far ?_ NB290_294.out _; (with_reducible repeat (first | refine blk_drewN ?_ _ | refine blk_drew ?_ | refine blk_alloc ?_ _)); refine blk_far ?_ NB290_294.out _; (with_reducible repeat (first | refine blk_drewN ?_ _ | refine blk_drew ?_ | refine blk_alloc ?_ _)); refine blk_far ?_ NB290_294.out _; (with_reducible repeat (first | refine blk_drewN ?_ _ | refine blk_drew ?_ | refine blk_alloc ?_ _)); refine blk_far ?_ NB290_294.out _; (with_reducible repeat (first | refine blk_drewN ?_ _ | refine blk_drew ?_ | refine blk_alloc ?_ _)); refine blk_far ?_ NB290_294.out _; (with_reducible repeat (first | refine blk_drewN ?_ _ | refine blk_drew ?_ | refine blk_alloc ?_ _)); exact BK290.out) hb); have n1_ := Aside0.mk (blk_below (g := gb291) (o := .cells #[.slice A1_0 l1_0.length c1_0, .slice (some ad295) l1_1.length c1_1] 29 (0, 0)) (by (with_reducible repeat (first | refine blk_drewN ?_ _ | refine blk_drew ?_ | refine blk_alloc ?_ _)); refine blk_far ?_ NB291_294.out _; (with_reducible repeat (first | refine blk_drewN ?_ _ | refine blk_drew ?_ | refine blk_alloc ?_ _)); refine blk_far ?_ NB291_294.out _; (with_reducible repeat (first | refine blk_drewN ?_ _ | refine blk_drew ?_ | refine blk_alloc ?_ _)); refine blk_far ?_ NB291_294.out _; (with_reducible repeat (first | refine blk_drewN ?_ _ | refine blk_drew ?_ | refine blk_alloc ?_ _)); refine blk_far ?_ NB291_294.out _; (with_reducible repeat (first | refine blk_drewN ?_ _ | refine blk_drew ?_ | refine blk_alloc ?_ _)); refine blk_far ?_ NB291_294.out _; (with_reducible repeat (first | refine blk_drewN ?_ _ | refine blk_drew ?_ | refine blk_alloc ?_ _)); exact BK291.out) hb); have n2_ := Aside0.mk (blk_below (g := gb294) (o := .cells #[.string ((rd_T48 l0_1 x5_2).f0), .slice A293_1 ((rd_T48 l0_1 x5_2).f1).length c293_1, .int .i64 ((rd_T48 l0_1 x5_2).f2), .slice A293_3 ((rd_T48 l0_1 x5_2).f3).length c293_3, .slice A293_4 ((rd_T48 l0_1 x5_2).f4).length c293_4] 48 (0, 0)) (by (with_reducible repeat (first | refine blk_drewN ?_ _ | refine blk_drew ?_ | refine blk_alloc ?_ _)); refine blk_put (cs := #[.string ((rd_T48 l0_1 x5_2).f0), .slice A293_1 ((rd_T48 l0_1 x5_2).f1).length c293_1, .int .i64 ((rd_T48 l0_1 x5_2).f2), .slice A293_3 ((rd_T48 l0_1 x5_2).f3).length c293_3, .slice none 0 0]) ?_ 4 _ rfl; (with_reducible repeat (first | refine blk_drewN ?_ _ | refine blk_drew ?_ | refine blk_alloc ?_ _)); refine blk_put (cs := #[.string ((rd_T48 l0_1 x5_2).f0), .slice A293_1 ((rd_T48 l0_1 x5_2).f1).length c293_1, .int .i64 ((rd_T48 l0_1 x5_2).f2), .slice none 0 0, .slice none 0 0]) ?_ 3 _ rfl; (with_reducible repeat (first | refine blk_drewN ?_ _ | refine blk_drew ?_ | refine blk_alloc ?_ _)); refine blk_put (cs := #[.string ((rd_T48 l0_1 x5_2).f0), .slice A293_1 ((rd_T48 l0_1 x5_2).f1).length c293_1, .int .i64 0, .slice none 0 0, .slice none 0 0]) ?_ 2 _ rfl; (with_reducible repeat (first | refine blk_drewN ?_ _ | refine blk_drew ?_ | refine blk_alloc ?_ _)); refine blk_put (cs := #[.string ((rd_T48 l0_1 x5_2).f0), .slice none 0 0, .int .i64 0, .slice none 0 0, .slice none 0 0]) ?_ 1 _ rfl; (with_reducible repeat (first | refine blk_drewN ?_ _ | refine blk_drew ?_ | refine blk_alloc ?_ _)); refine blk_put (cs := #[.string (⟨#[]⟩ : ByteArray), .slice none 0 0, .int .i64 0, .slice none 0 0, .slice none 0 0]) ?_ 0 _ rfl; (with_reducible repeat (first | refine blk_drewN ?_ _ | refine blk_drew ?_ | refine blk_alloc ?_ _)); exact BK294.out) hb); have n3_ := Aside0.mk (below_step (by repeat (first | (with_reducible first | exact HB.out | apply below_alloc | apply pw_below_drewN | apply below_drew1 | refine below_set ?_ GE290.out | refine below_set ?_ GE291.out | refine below_set ?_ GE294.out) | exact HB.out)) hb); have n4_ := Aside0.mk (hbox); have n5_ := Aside0.mk ((by rw [hg]; exact (below_size (by repeat (first | (with_reducible first | exact HB.out | apply below_alloc | apply pw_below_drewN | apply below_drew1 | refine below_set ?_ GE290.out | refine below_set ?_ GE291.out | refine below_set ?_ GE294.out) | exact HB.out))) : w.heap.size ≤ gb296)); have n6_ := Aside0.mk ((by rw [hg]; exact (below_size (by repeat (first | (with_reducible first | exact HB.out | apply below_alloc | apply pw_below_drewN | apply below_drew1 | refine below_set ?_ GE290.out | refine below_set ?_ GE291.out | refine below_set ?_ GE294.out) | exact HB.out))) : w.heap.size ≤ gb296)); have n7_ := Aside0.mk ((by rw [hg]; exact Nat.ne_of_lt (blk_lt (g := gb290) (o := .cells #[.slice A0_0 l0_0.length c0_0, .slice (some ad293) l0_1.length c0_1] 29 (0, 0)) (by (with_reducible repeat (first | refine blk_drewN ?_ _ | refine blk_drew ?_ | refine blk_alloc ?_ _)); refine blk_far ?_ NB290_294.out _; (with_reducible repeat (first | refine blk_drewN ?_ _ | refine blk_drew ?_ | refine blk_alloc ?_ _)); refine blk_far ?_ NB290_294.out _; (with_reducible repeat (first | refine blk_drewN ?_ _ | refine blk_drew ?_ | refine blk_alloc ?_ _)); refine blk_far ?_ NB290_294.out _; (with_reducible repeat (first | refine blk_drewN ?_ _ | refine blk_drew ?_ | refine blk_alloc ?_ _)); refine blk_far ?_ NB290_294.out _; (with_reducible repeat (first | refine blk_drewN ?_ _ | refine blk_drew ?_ | refine blk_alloc ?_ _)); refine blk_far ?_ NB290_294.out _; (with_reducible repeat (first | refine blk_drewN ?_ _ | refine blk_drew ?_ | refine blk_alloc ?_ _)); exact BK290.out)) : gb290 ≠ gb296)); have n8_ := Aside0.mk ((by rw [hg]; exact Nat.ne_of_gt (blk_lt (g := gb290) (o := .cells #[.slice A0_0 l0_0.length c0_0, .slice (some ad293) l0_1.length c0_1] 29 (0, 0)) (by (with_reducible repeat (first | refine blk_drewN ?_ _ | refine blk_drew ?_ | refine blk_alloc ?_ _)); refine blk_far ?_ NB290_294.out _; (with_reducible repeat (first | refine blk_drewN ?_ _ | refine blk_drew ?_ | refine blk_alloc ?_ _)); refine blk_far ?_ NB290_294.out _; (with_reducible repeat (first | refine blk_drewN ?_ _ | refine blk_drew ?_ | refine blk_alloc ?_ _)); refine blk_far ?_ NB290_294.out _; (with_reducible repeat (first | refine blk_drewN ?_ _ | refine blk_drew ?_ | refine blk_alloc ?_ _)); refine blk_far ?_ NB290_294.out _; (with_reducible repeat (first | refine blk_drewN ?_ _ | refine blk_drew ?_ | refine blk_alloc ?_ _)); refine blk_far ?_ NB290_294.out _; (with_reducible repeat (first | refine blk_drewN ?_ _ | refine blk_drew ?_ | refine blk_alloc ?_ _)); exact BK290.out)) : gb296 ≠ gb290)); have n9_ := Aside0.mk ((by rw [hg]; exact Nat.ne_of_lt (blk_lt (g := gb291) (o := .cells #[.slice A1_0 l1_0.length c1_0, .slice (some ad295) l1_1.length c1_1] 29 (0, 0)) (by (with_reducible repeat (first | refine blk_drewN ?_ _ | refine blk_drew ?_ | refine blk_alloc ?_ _)); refine blk_far ?_ NB291_294.out _; (with_reducible repeat (first | refine blk_drewN ?_ _ | refine blk_drew ?_ | refine blk_alloc ?_ _)); refine blk_far ?_ NB291_294.out _; (with_reducible repeat (first | refine blk_drewN ?_ _ | refine blk_drew ?_ | refine blk_alloc ?_ _)); refine blk_far ?_ NB291_294.out _; (with_reducible repeat (first | refine blk_drewN ?_ _ | refine blk_drew ?_ | refine blk_alloc ?_ _)); refine blk_far ?_ NB291_294.out _; (with_reducible repeat (first | refine blk_drewN ?_ _ | refine blk_drew ?_ | refine blk_alloc ?_ _)); refine blk_far ?_ NB291_294.out _; (with_reducible repeat (first | refine blk_drewN ?_ _ | refine blk_drew ?_ | refine blk_alloc ?_ _)); exact BK291.out)) : gb291 ≠ gb296)); have n10_ := Aside0.mk ((by rw [hg]; exact Nat.ne_of_gt (blk_lt (g := gb291) (o := .cells #[.slice A1_0 l1_0.length c1_0, .slice (some ad295) l1_1.length c1_1] 29 (0, 0)) (by (with_reducible repeat (first | refine blk_drewN ?_ _ | refine blk_drew ?_ | refine blk_alloc ?_ _)); refine blk_far ?_ NB291_294.out _; (with_reducible repeat (first | refine blk_drewN ?_ _ | refine blk_drew ?_ | refine blk_alloc ?_ _)); refine blk_far ?_ NB291_294.out _; (with_reducible repeat (first | refine blk_drewN ?_ _ | refine blk_drew ?_ | refine blk_alloc ?_ _)); refine blk_far ?_ NB291_294.out _; (with_reducible repeat (first | refine blk_drewN ?_ _ | refine blk_drew ?_ | refine blk_alloc ?_ _)); refine blk_far ?_ NB291_294.out _; (with_reducible repeat (first | refine blk_drewN ?_ _ | refine blk_drew ?_ | refine blk_alloc ?_ _)); refine blk_far ?_ NB291_294.out _; (with_reducible repeat (first | refine blk_drewN ?_ _ | refine blk_drew ?_ | refine blk_alloc ?_ _)); exact BK291.out)) : gb296 ≠ gb291)); have n11_ := Aside0.mk ((by rw [hg]; exact Nat.ne_of_lt (blk_lt (g := gb294) (o := .cells #[.string ((rd_T48 l0_1 x5_2).f0), .slice A293_1 ((rd_T48 l0_1 x5_2).f1).length c293_1, .int .i64 ((rd_T48 l0_1 x5_2).f2), .slice A293_3 ((rd_T48 l0_1 x5_2).f3).length c293_3, .slice A293_4 ((rd_T48 l0_1 x5_2).f4).length c293_4] 48 (0, 0)) (by (with_reducible repeat (first | refine blk_drewN ?_ _ | refine blk_drew ?_ | refine blk_alloc ?_ _)); refine blk_put (cs := #[.string ((rd_T48 l0_1 x5_2).f0), .slice A293_1 ((rd_T48 l0_1 x5_2).f1).length c293_1, .int .i64 ((rd_T48 l0_1 x5_2).f2), .slice A293_3 ((rd_T48 l0_1 x5_2).f3).length c293_3, .slice none 0 0]) ?_ 4 _ rfl; (with_reducible repeat (first | refine blk_drewN ?_ _ | refine blk_drew ?_ | refine blk_alloc ?_ _)); refine blk_put (cs := #[.string ((rd_T48 l0_1 x5_2).f0), .slice A293_1 ((rd_T48 l0_1 x5_2).f1).length c293_1, .int .i64 ((rd_T48 l0_1 x5_2).f2), .slice none 0 0, .slice none 0 0]) ?_ 3 _ rfl; (with_reducible repeat (first | refine blk_drewN ?_ _ | refine blk_drew ?_ | refine blk_alloc ?_ _)); refine blk_put (cs := #[.string ((rd_T48 l0_1 x5_2).f0), .slice A293_1 ((rd_T48 l0_1 x5_2).f1).length c293_1, .int .i64 0, .slice none 0 0, .slice none 0 0]) ?_ 2 _ rfl; (with_reducible repeat (first | refine blk_drewN ?_ _ | refine blk_drew ?_ | refine blk_alloc ?_ _)); refine blk_put (cs := #[.string ((rd_T48 l0_1 x5_2).f0), .slice none 0 0, .int .i64 0, .slice none 0 0, .slice none 0 0]) ?_ 1 _ rfl; (with_reducible repeat (first | refine blk_drewN ?_ _ | refine blk_drew ?_ | refine blk_alloc ?_ _)); refine blk_put (cs := #[.string (⟨#[]⟩ : ByteArray), .slice none 0 0, .int .i64 0, .slice none 0 0, .slice none 0 0]) ?_ 0 _ rfl; (with_reducible repeat (first | refine blk_drewN ?_ _ | refine blk_drew ?_ | refine blk_alloc ?_ _)); exact BK294.out)) : gb294 ≠ gb296)); have n12_ := Aside0.mk ((by rw [hg]; exact Nat.ne_of_gt (blk_lt (g := gb294) (o := .cells #[.string ((rd_T48 l0_1 x5_2).f0), .slice A293_1 ((rd_T48 l0_1 x5_2).f1).length c293_1, .int .i64 ((rd_T48 l0_1 x5_2).f2), .slice A293_3 ((rd_T48 l0_1 x5_2).f3).length c293_3, .slice A293_4 ((rd_T48 l0_1 x5_2).f4).length c293_4] 48 (0, 0)) (by (with_reducible repeat (first | refine blk_drewN ?_ _ | refine blk_drew ?_ | refine blk_alloc ?_ _)); refine blk_put (cs := #[.string ((rd_T48 l0_1 x5_2).f0), .slice A293_1 ((rd_T48 l0_1 x5_2).f1).length c293_1, .int .i64 ((rd_T48 l0_1 x5_2).f2), .slice A293_3 ((rd_T48 l0_1 x5_2).f3).length c293_3, .slice none 0 0]) ?_ 4 _ rfl; (with_reducible repeat (first | refine blk_drewN ?_ _ | refine blk_drew ?_ | refine blk_alloc ?_ _)); refine blk_put (cs := #[.string ((rd_T48 l0_1 x5_2).f0), .slice A293_1 ((rd_T48 l0_1 x5_2).f1).length c293_1, .int .i64 ((rd_T48 l0_1 x5_2).f2), .slice none 0 0, .slice none 0 0]) ?_ 3 _ rfl; (with_reducible repeat (first | refine blk_drewN ?_ _ | refine blk_drew ?_ | refine blk_alloc ?_ _)); refine blk_put (cs := #[.string ((rd_T48 l0_1 x5_2).f0), .slice A293_1 ((rd_T48 l0_1 x5_2).f1).length c293_1, .int .i64 0, .slice none 0 0, .slice none 0 0]) ?_ 2 _ rfl; (with_reducible repeat (first | refine blk_drewN ?_ _ | refine blk_drew ?_ | refine blk_alloc ?_ _)); refine blk_put (cs := #[.string ((rd_T48 l0_1 x5_2).f0), .slice none 0 0, .int .i64 0, .slice none 0 0, .slice none 0 0]) ?_ 1 _ rfl; (with_reducible repeat (first | refine blk_drewN ?_ _ | refine blk_drew ?_ | refine blk_alloc ?_ _)); refine blk_put (cs := #[.string (⟨#[]⟩ : ByteArray), .slice none 0 0, .int .i64 0, .slice none 0 0, .slice none 0 0]) ?_ 0 _ rfl; (with_reducible repeat (first | refine blk_drewN ?_ _ | refine blk_drew ?_ | refine blk_alloc ?_ _)); exact BK294.out)) : gb296 ≠ gb294)); clear BK290; clear BK291; clear BK294; clear HB; have BK290 := n0_; have BK291 := n1_; have BK294 := n2_; have HB := n3_; have BK296 := n4_; have GW296 := n5_; have GE296 := n6_; have NB290_296 := n7_; have NB296_290 := n8_; have NB291_296 := n9_; have NB296_291 := n10_; have NB294_296 := n11_; have NB296_294 := n12_; clear n0_ n1_ n2_ n3_ n4_ n5_ n6_ n7_ n8_ n9_ n10_ n11_ n12_; clear hb hbox hg; have hnb31 := NB296_290.out; have hnc31 := NB290_296.out; have hnb32 := NB296_291.out; have hnc32 := NB291_296.out; have hnb33 := NB296_294.out; have hnc33 := NB294_296.out; have hcz34_0 : w30.cell? ⟨gb296, 0, none⟩ = some (.string (⟨#[]⟩ : ByteArray)) := (blk_cell BK296.out 0).trans rfl; have hcz34_1 : w30.cell? ⟨gb296, 1, none⟩ = some (.slice none 0 0) := (blk_cell BK296.out 1).trans rfl; have hcz34_2 : w30.cell? ⟨gb296, 2, none⟩ = some (.int .i64 0) := (blk_cell BK296.out 2).trans rfl; have hcz34_3 : w30.cell? ⟨gb296, 3, none⟩ = some (.slice none 0 0) := (blk_cell BK296.out 3).trans rfl; have hcz34_4 : w30.cell? ⟨gb296, 4, none⟩ = some (.slice none 0 0) := (blk_cell BK296.out 4).trans rfl; have hfz34_0 := blk_frozen BK296.out 0; have hfz34_1 := blk_frozen BK296.out 1; have hfz34_2 := blk_frozen BK296.out 2; have hfz34_3 := blk_frozen BK296.out 3; have hfz34_4 := blk_frozen BK296.out 4)))
                  (try simp only [Act.put, List.setIfInBounds_toArray, List.set_cons_zero, List.set_cons_succ])
                  go_cut [77] (fun v77 wc => ∃ (kq : Nat) (x77_21 : Bool), v77 = .bool x77_21 ∧ Aside0 (windrowref13_Same.j2 kq x5_2 x77_21 l0_0 l0_1 l1_0 l1_1 ((rd_T48 l0_1 x5_2).f0) ((rd_T48 l0_1 x5_2).f1) ((rd_T48 l0_1 x5_2).f2) ((rd_T48 l0_1 x5_2).f3) ((rd_T48 l0_1 x5_2).f4) ((rd_T48 l1_1 x5_2).f0) ((rd_T48 l1_1 x5_2).f1) ((rd_T48 l1_1 x5_2).f2) ((rd_T48 l1_1 x5_2).f3) ((rd_T48 l1_1 x5_2).f4) = some r) ∧ Aside0 (kq ≤ k2) ∧ Aside0 (wc.heap[gb290]? = some (.cells #[(.slice A0_0 l0_0.length c0_0), (.slice (some ad293) l0_1.length c0_1)] 29 (0, 0))) ∧ Aside0 (wc.heap[gb291]? = some (.cells #[(.slice A1_0 l1_0.length c1_0), (.slice (some ad295) l1_1.length c1_1)] 29 (0, 0))) ∧ Aside0 (wc.heap[gb294]? = some (.cells #[.string ((rd_T48 l0_1 x5_2).f0), (.slice A293_1 ((rd_T48 l0_1 x5_2).f1).length c293_1), .int .i64 ((rd_T48 l0_1 x5_2).f2), (.slice A293_3 ((rd_T48 l0_1 x5_2).f3).length c293_3), (.slice A293_4 ((rd_T48 l0_1 x5_2).f4).length c293_4)] 48 (0, 0))) ∧ Aside0 (wc.heap[gb296]? = some (.cells #[.string ((rd_T48 l1_1 x5_2).f0), (.slice A295_1 ((rd_T48 l1_1 x5_2).f1).length c295_1), .int .i64 ((rd_T48 l1_1 x5_2).f2), (.slice A295_3 ((rd_T48 l1_1 x5_2).f3).length c295_3), (.slice A295_4 ((rd_T48 l1_1 x5_2).f4).length c295_4)] 48 (0, 0))) ∧ Aside0 (Below w.heap.size w wc))
                  case first =>
                    have H := HC22.out
                    clear HC22
                    by_cases c35 : ((rd_T48 l0_1 x5_2).f0).toList = ((rd_T48 l1_1 x5_2).f0).toList
                    · rw [if_pos c35] at H
                      have c35b0 : (((rd_T48 l0_1 x5_2).f0).toList == ((rd_T48 l1_1 x5_2).f0).toList) = true := beq_iff_eq.mpr c35
                      have c35b1 : (((rd_T48 l0_1 x5_2).f0).toList != ((rd_T48 l1_1 x5_2).f0).toList) = false := bne_eq_false_iff_eq.mpr c35
                      clear c35
                      (first | rw [c35b0] | (simp only [i64_w, i32_w]; rw [c35b0]) | skip)
                      by_cases c36 : ((rd_T48 l0_1 x5_2).f2) = ((rd_T48 l1_1 x5_2).f2)
                      · rw [if_pos c36] at H
                        have c36b0 : (((rd_T48 l0_1 x5_2).f2) == ((rd_T48 l1_1 x5_2).f2)) = true := beq_iff_eq.mpr c36
                        have c36b1 : (((rd_T48 l0_1 x5_2).f2) != ((rd_T48 l1_1 x5_2).f2)) = false := bne_eq_false_iff_eq.mpr c36
                        clear c36
                        replace H := Option.bind_eq_some_iff.mp H
                        obtain ⟨t297, A370, H⟩ := H
                        replace H : (if t297 = true then ((windrowref13_sameInts.f k2 ((rd_T48 l0_1 x5_2).f3) ((rd_T48 l1_1 x5_2).f3)).bind fun t298 => (if t298 = true then (windrowref13_Same.j2 k2 x5_2 ((((rd_T48 l0_1 x5_2).f4).length : Int) != (((rd_T48 l1_1 x5_2).f4).length : Int)) l0_0 l0_1 l1_0 l1_1 ((rd_T48 l0_1 x5_2).f0) ((rd_T48 l0_1 x5_2).f1) ((rd_T48 l0_1 x5_2).f2) ((rd_T48 l0_1 x5_2).f3) ((rd_T48 l0_1 x5_2).f4) ((rd_T48 l1_1 x5_2).f0) ((rd_T48 l1_1 x5_2).f1) ((rd_T48 l1_1 x5_2).f2) ((rd_T48 l1_1 x5_2).f3) ((rd_T48 l1_1 x5_2).f4)) else (windrowref13_Same.j2 k2 x5_2 true l0_0 l0_1 l1_0 l1_1 ((rd_T48 l0_1 x5_2).f0) ((rd_T48 l0_1 x5_2).f1) ((rd_T48 l0_1 x5_2).f2) ((rd_T48 l0_1 x5_2).f3) ((rd_T48 l0_1 x5_2).f4) ((rd_T48 l1_1 x5_2).f0) ((rd_T48 l1_1 x5_2).f1) ((rd_T48 l1_1 x5_2).f2) ((rd_T48 l1_1 x5_2).f3) ((rd_T48 l1_1 x5_2).f4)))) else (windrowref13_Same.j2 k2 x5_2 true l0_0 l0_1 l1_0 l1_1 ((rd_T48 l0_1 x5_2).f0) ((rd_T48 l0_1 x5_2).f1) ((rd_T48 l0_1 x5_2).f2) ((rd_T48 l0_1 x5_2).f3) ((rd_T48 l0_1 x5_2).f4) ((rd_T48 l1_1 x5_2).f0) ((rd_T48 l1_1 x5_2).f1) ((rd_T48 l1_1 x5_2).f2) ((rd_T48 l1_1 x5_2).f3) ((rd_T48 l1_1 x5_2).f4))) = some r := H
                        have A37 := Aside0.mk A370
                        clear A370
                        by_cases c38 : t297 = true
                        · subst c38
                          have H1 : ((windrowref13_sameInts.f k2 ((rd_T48 l0_1 x5_2).f3) ((rd_T48 l1_1 x5_2).f3)).bind fun t298 => (if t298 = true then (windrowref13_Same.j2 k2 x5_2 ((((rd_T48 l0_1 x5_2).f4).length : Int) != (((rd_T48 l1_1 x5_2).f4).length : Int)) l0_0 l0_1 l1_0 l1_1 ((rd_T48 l0_1 x5_2).f0) ((rd_T48 l0_1 x5_2).f1) ((rd_T48 l0_1 x5_2).f2) ((rd_T48 l0_1 x5_2).f3) ((rd_T48 l0_1 x5_2).f4) ((rd_T48 l1_1 x5_2).f0) ((rd_T48 l1_1 x5_2).f1) ((rd_T48 l1_1 x5_2).f2) ((rd_T48 l1_1 x5_2).f3) ((rd_T48 l1_1 x5_2).f4)) else (windrowref13_Same.j2 k2 x5_2 true l0_0 l0_1 l1_0 l1_1 ((rd_T48 l0_1 x5_2).f0) ((rd_T48 l0_1 x5_2).f1) ((rd_T48 l0_1 x5_2).f2) ((rd_T48 l0_1 x5_2).f3) ((rd_T48 l0_1 x5_2).f4) ((rd_T48 l1_1 x5_2).f0) ((rd_T48 l1_1 x5_2).f1) ((rd_T48 l1_1 x5_2).f2) ((rd_T48 l1_1 x5_2).f3) ((rd_T48 l1_1 x5_2).f4)))) = some r := by rw [if_pos rfl] at H; exact H
                          clear H
                          have H := H1
                          clear H1
                          replace H := Option.bind_eq_some_iff.mp H
                          obtain ⟨t298, A390, H⟩ := H
                          replace H : (if t298 = true then (windrowref13_Same.j2 k2 x5_2 ((((rd_T48 l0_1 x5_2).f4).length : Int) != (((rd_T48 l1_1 x5_2).f4).length : Int)) l0_0 l0_1 l1_0 l1_1 ((rd_T48 l0_1 x5_2).f0) ((rd_T48 l0_1 x5_2).f1) ((rd_T48 l0_1 x5_2).f2) ((rd_T48 l0_1 x5_2).f3) ((rd_T48 l0_1 x5_2).f4) ((rd_T48 l1_1 x5_2).f0) ((rd_T48 l1_1 x5_2).f1) ((rd_T48 l1_1 x5_2).f2) ((rd_T48 l1_1 x5_2).f3) ((rd_T48 l1_1 x5_2).f4)) else (windrowref13_Same.j2 k2 x5_2 true l0_0 l0_1 l1_0 l1_1 ((rd_T48 l0_1 x5_2).f0) ((rd_T48 l0_1 x5_2).f1) ((rd_T48 l0_1 x5_2).f2) ((rd_T48 l0_1 x5_2).f3) ((rd_T48 l0_1 x5_2).f4) ((rd_T48 l1_1 x5_2).f0) ((rd_T48 l1_1 x5_2).f1) ((rd_T48 l1_1 x5_2).f2) ((rd_T48 l1_1 x5_2).f3) ((rd_T48 l1_1 x5_2).f4))) = some r := H
                          have A39 := Aside0.mk A390
                          clear A390
                          by_cases c40 : t298 = true
                          · subst c40
                            have H1 : (windrowref13_Same.j2 k2 x5_2 ((((rd_T48 l0_1 x5_2).f4).length : Int) != (((rd_T48 l1_1 x5_2).f4).length : Int)) l0_0 l0_1 l1_0 l1_1 ((rd_T48 l0_1 x5_2).f0) ((rd_T48 l0_1 x5_2).f1) ((rd_T48 l0_1 x5_2).f2) ((rd_T48 l0_1 x5_2).f3) ((rd_T48 l0_1 x5_2).f4) ((rd_T48 l1_1 x5_2).f0) ((rd_T48 l1_1 x5_2).f1) ((rd_T48 l1_1 x5_2).f2) ((rd_T48 l1_1 x5_2).f3) ((rd_T48 l1_1 x5_2).f4)) = some r := by rw [if_pos rfl] at H; exact H
                            clear H
                            have H := H1
                            clear H1
                            have H' := Aside0.mk H
                            clear H
                            have hnb41 := NB294_290.out
                            have hnc41 := NB290_294.out
                            have hnb42 := NB294_291.out
                            have hnc42 := NB291_294.out
                            have hnb43 := NB294_296.out
                            have hnc43 := NB296_294.out
                            have hcz44_0 : w30.cell? ⟨gb294, 0, none⟩ = some (.string ((rd_T48 l0_1 x5_2).f0)) := (blk_cell BK294.out 0).trans rfl
                            have hcz44_1 : w30.cell? ⟨gb294, 1, none⟩ = some (.slice A293_1 ((rd_T48 l0_1 x5_2).f1).length c293_1) := (blk_cell BK294.out 1).trans rfl
                            have hcz44_2 : w30.cell? ⟨gb294, 2, none⟩ = some (.int .i64 ((rd_T48 l0_1 x5_2).f2)) := (blk_cell BK294.out 2).trans rfl
                            have hcz44_3 : w30.cell? ⟨gb294, 3, none⟩ = some (.slice A293_3 ((rd_T48 l0_1 x5_2).f3).length c293_3) := (blk_cell BK294.out 3).trans rfl
                            have hcz44_4 : w30.cell? ⟨gb294, 4, none⟩ = some (.slice A293_4 ((rd_T48 l0_1 x5_2).f4).length c293_4) := (blk_cell BK294.out 4).trans rfl
                            have hfz44_0 := blk_frozen BK294.out 0
                            have hfz44_1 := blk_frozen BK294.out 1
                            have hfz44_2 := blk_frozen BK294.out 2
                            have hfz44_3 := blk_frozen BK294.out 3
                            have hfz44_4 := blk_frozen BK294.out 4
                            have hnb45 := NB296_290.out
                            have hnc45 := NB290_296.out
                            have hnb46 := NB296_291.out
                            have hnc46 := NB291_296.out
                            have hcz47_0 : w30.cell? ⟨gb296, 0, none⟩ = some (.string (⟨#[]⟩ : ByteArray)) := (blk_cell BK296.out 0).trans rfl
                            have hcz47_1 : w30.cell? ⟨gb296, 1, none⟩ = some (.slice none 0 0) := (blk_cell BK296.out 1).trans rfl
                            have hcz47_2 : w30.cell? ⟨gb296, 2, none⟩ = some (.int .i64 0) := (blk_cell BK296.out 2).trans rfl
                            have hcz47_3 : w30.cell? ⟨gb296, 3, none⟩ = some (.slice none 0 0) := (blk_cell BK296.out 3).trans rfl
                            have hcz47_4 : w30.cell? ⟨gb296, 4, none⟩ = some (.slice none 0 0) := (blk_cell BK296.out 4).trans rfl
                            have hfz47_0 := blk_frozen BK296.out 0
                            have hfz47_1 := blk_frozen BK296.out 1
                            have hfz47_2 := blk_frozen BK296.out 2
                            have hfz47_3 := blk_frozen BK296.out 3
                            have hfz47_4 := blk_frozen BK296.out 4
                            go_wp2_with (first | (go_at_call 30; (with_reducible refine (windrowref13_sameInts.calls k2 _ _ ((rd_T48 l0_1 x5_2).f1) _ _ ((rd_T48 l1_1 x5_2).f1) true _ ?side1 ?side2 ?side3 ?side4 A37.out).mono ?_); (case side1 => exact Kd.C_below HR293_1.out (by repeat (first | (with_reducible first | exact HB.out | apply below_alloc | apply pw_below_drewN | apply below_drew1 | refine below_set ?_ GE290.out | refine below_set ?_ GE291.out | refine below_set ?_ GE294.out | refine below_set ?_ GE296.out) | exact HB.out))); (case side2 => exact HC293_1.out); (case side3 => exact Kd.C_below HR295_1.out (by repeat (first | (with_reducible first | exact HB.out | apply below_alloc | apply pw_below_drewN | apply below_drew1 | refine below_set ?_ GE290.out | refine below_set ?_ GE291.out | refine below_set ?_ GE294.out | refine below_set ?_ GE296.out) | exact HB.out))); (case side4 => exact HC295_1.out); rintro e w' ⟨rfl, ⟨nd, rfl⟩⟩; (try first | exact ⟨rfl, _, World.drewN_drewN _ _ _⟩ | exact ⟨rfl, _, Eq.trans (World.drewN_drewN _ _ _) (congrArg (World.drewN _) (Nat.add_assoc _ _ _))⟩)) | (go_at_call 30; (with_reducible refine (windrowref13_sameInts.calls k2 _ _ ((rd_T48 l0_1 x5_2).f3) _ _ ((rd_T48 l1_1 x5_2).f3) true _ ?side1 ?side2 ?side3 ?side4 A39.out).mono ?_); (case side1 => exact Kd.C_below HR293_3.out (by repeat (first | (with_reducible first | exact HB.out | apply below_alloc | apply pw_below_drewN | apply below_drew1 | refine below_set ?_ GE290.out | refine below_set ?_ GE291.out | refine below_set ?_ GE294.out | refine below_set ?_ GE296.out) | exact HB.out))); (case side2 => exact HC293_3.out); (case side3 => exact Kd.C_below HR295_3.out (by repeat (first | (with_reducible first | exact HB.out | apply below_alloc | apply pw_below_drewN | apply below_drew1 | refine below_set ?_ GE290.out | refine below_set ?_ GE291.out | refine below_set ?_ GE294.out | refine below_set ?_ GE296.out) | exact HB.out))); (case side4 => exact HC295_3.out); rintro e w' ⟨rfl, ⟨nd, rfl⟩⟩; (try first | exact ⟨rfl, _, World.drewN_drewN _ _ _⟩ | exact ⟨rfl, _, Eq.trans (World.drewN_drewN _ _ _) (congrArg (World.drewN _) (Nat.add_assoc _ _ _))⟩)))
                            repeat (go_quiet (first | (go_at_call 30; (with_reducible refine (windrowref13_sameInts.calls k2 _ _ ((rd_T48 l0_1 x5_2).f1) _ _ ((rd_T48 l1_1 x5_2).f1) true _ ?side1 ?side2 ?side3 ?side4 A37.out).mono ?_); (case side1 => exact Kd.C_below HR293_1.out (by repeat (first | (with_reducible first | exact HB.out | apply below_alloc | apply pw_below_drewN | apply below_drew1 | refine below_set ?_ GE290.out | refine below_set ?_ GE291.out | refine below_set ?_ GE294.out | refine below_set ?_ GE296.out) | exact HB.out))); (case side2 => exact HC293_1.out); (case side3 => exact Kd.C_below HR295_1.out (by repeat (first | (with_reducible first | exact HB.out | apply below_alloc | apply pw_below_drewN | apply below_drew1 | refine below_set ?_ GE290.out | refine below_set ?_ GE291.out | refine below_set ?_ GE294.out | refine below_set ?_ GE296.out) | exact HB.out))); (case side4 => exact HC295_1.out); rintro e w' ⟨rfl, ⟨nd, rfl⟩⟩; (try first | exact ⟨rfl, _, World.drewN_drewN _ _ _⟩ | exact ⟨rfl, _, Eq.trans (World.drewN_drewN _ _ _) (congrArg (World.drewN _) (Nat.add_assoc _ _ _))⟩)) | (go_at_call 30; (with_reducible refine (windrowref13_sameInts.calls k2 _ _ ((rd_T48 l0_1 x5_2).f3) _ _ ((rd_T48 l1_1 x5_2).f3) true _ ?side1 ?side2 ?side3 ?side4 A39.out).mono ?_); (case side1 => exact Kd.C_below HR293_3.out (by repeat (first | (with_reducible first | exact HB.out | apply below_alloc | apply pw_below_drewN | apply below_drew1 | refine below_set ?_ GE290.out | refine below_set ?_ GE291.out | refine below_set ?_ GE294.out | refine below_set ?_ GE296.out) | exact HB.out))); (case side2 => exact HC293_3.out); (case side3 => exact Kd.C_below HR295_3.out (by repeat (first | (with_reducible first | exact HB.out | apply below_alloc | apply pw_below_drewN | apply below_drew1 | refine below_set ?_ GE290.out | refine below_set ?_ GE291.out | refine below_set ?_ GE294.out | refine below_set ?_ GE296.out) | exact HB.out))); (case side4 => exact HC295_3.out); rintro e w' ⟨rfl, ⟨nd, rfl⟩⟩; (try first | exact ⟨rfl, _, World.drewN_drewN _ _ _⟩ | exact ⟨rfl, _, Eq.trans (World.drewN_drewN _ _ _) (congrArg (World.drewN _) (Nat.add_assoc _ _ _))⟩))); try go_wp2_with (first | (go_at_call 30; (with_reducible refine (windrowref13_sameInts.calls k2 _ _ ((rd_T48 l0_1 x5_2).f1) _ _ ((rd_T48 l1_1 x5_2).f1) true _ ?side1 ?side2 ?side3 ?side4 A37.out).mono ?_); (case side1 => exact Kd.C_below HR293_1.out (by repeat (first | (with_reducible first | exact HB.out | apply below_alloc | apply pw_below_drewN | apply below_drew1 | refine below_set ?_ GE290.out | refine below_set ?_ GE291.out | refine below_set ?_ GE294.out | refine below_set ?_ GE296.out) | exact HB.out))); (case side2 => exact HC293_1.out); (case side3 => exact Kd.C_below HR295_1.out (by repeat (first | (with_reducible first | exact HB.out | apply below_alloc | apply pw_below_drewN | apply below_drew1 | refine below_set ?_ GE290.out | refine below_set ?_ GE291.out | refine below_set ?_ GE294.out | refine below_set ?_ GE296.out) | exact HB.out))); (case side4 => exact HC295_1.out); rintro e w' ⟨rfl, ⟨nd, rfl⟩⟩; (try first | exact ⟨rfl, _, World.drewN_drewN _ _ _⟩ | exact ⟨rfl, _, Eq.trans (World.drewN_drewN _ _ _) (congrArg (World.drewN _) (Nat.add_assoc _ _ _))⟩)) | (go_at_call 30; (with_reducible refine (windrowref13_sameInts.calls k2 _ _ ((rd_T48 l0_1 x5_2).f3) _ _ ((rd_T48 l1_1 x5_2).f3) true _ ?side1 ?side2 ?side3 ?side4 A39.out).mono ?_); (case side1 => exact Kd.C_below HR293_3.out (by repeat (first | (with_reducible first | exact HB.out | apply below_alloc | apply pw_below_drewN | apply below_drew1 | refine below_set ?_ GE290.out | refine below_set ?_ GE291.out | refine below_set ?_ GE294.out | refine below_set ?_ GE296.out) | exact HB.out))); (case side2 => exact HC293_3.out); (case side3 => exact Kd.C_below HR295_3.out (by repeat (first | (with_reducible first | exact HB.out | apply below_alloc | apply pw_below_drewN | apply below_drew1 | refine below_set ?_ GE290.out | refine below_set ?_ GE291.out | refine below_set ?_ GE294.out | refine below_set ?_ GE296.out) | exact HB.out))); (case side4 => exact HC295_3.out); rintro e w' ⟨rfl, ⟨nd, rfl⟩⟩; (try first | exact ⟨rfl, _, World.drewN_drewN _ _ _⟩ | exact ⟨rfl, _, Eq.trans (World.drewN_drewN _ _ _) (congrArg (World.drewN _) (Nat.add_assoc _ _ _))⟩))))
                            go_meet
                            case rel => exact ⟨_, (((((rd_T48 l0_1 x5_2).f4).length : Int) != (((rd_T48 l1_1 x5_2).f4).length : Int))), (by first | rfl | (simp; done) | (simp [*]; done)), H', ⟨by have := HJ2.out; have := HK2.out; first | omega | exact Nat.le_refl _⟩, ⟨by (with_reducible repeat (first | refine blk_drewN ?_ _ | refine blk_drew ?_ | refine blk_alloc ?_ _)); refine blk_far ?_ NB290_296.out _; (with_reducible repeat (first | refine blk_drewN ?_ _ | refine blk_drew ?_ | refine blk_alloc ?_ _)); refine blk_far ?_ NB290_296.out _; (with_reducible repeat (first | refine blk_drewN ?_ _ | refine blk_drew ?_ | refine blk_alloc ?_ _)); refine blk_far ?_ NB290_296.out _; (with_reducible repeat (first | refine blk_drewN ?_ _ | refine blk_drew ?_ | refine blk_alloc ?_ _)); refine blk_far ?_ NB290_296.out _; (with_reducible repeat (first | refine blk_drewN ?_ _ | refine blk_drew ?_ | refine blk_alloc ?_ _)); refine blk_far ?_ NB290_296.out _; (with_reducible repeat (first | refine blk_drewN ?_ _ | refine blk_drew ?_ | refine blk_alloc ?_ _)); exact BK290.out⟩, ⟨by (with_reducible repeat (first | refine blk_drewN ?_ _ | refine blk_drew ?_ | refine blk_alloc ?_ _)); refine blk_far ?_ NB291_296.out _; (with_reducible repeat (first | refine blk_drewN ?_ _ | refine blk_drew ?_ | refine blk_alloc ?_ _)); refine blk_far ?_ NB291_296.out _; (with_reducible repeat (first | refine blk_drewN ?_ _ | refine blk_drew ?_ | refine blk_alloc ?_ _)); refine blk_far ?_ NB291_296.out _; (with_reducible repeat (first | refine blk_drewN ?_ _ | refine blk_drew ?_ | refine blk_alloc ?_ _)); refine blk_far ?_ NB291_296.out _; (with_reducible repeat (first | refine blk_drewN ?_ _ | refine blk_drew ?_ | refine blk_alloc ?_ _)); refine blk_far ?_ NB291_296.out _; (with_reducible repeat (first | refine blk_drewN ?_ _ | refine blk_drew ?_ | refine blk_alloc ?_ _)); exact BK291.out⟩, ⟨by (with_reducible repeat (first | refine blk_drewN ?_ _ | refine blk_drew ?_ | refine blk_alloc ?_ _)); refine blk_far ?_ NB294_296.out _; (with_reducible repeat (first | refine blk_drewN ?_ _ | refine blk_drew ?_ | refine blk_alloc ?_ _)); refine blk_far ?_ NB294_296.out _; (with_reducible repeat (first | refine blk_drewN ?_ _ | refine blk_drew ?_ | refine blk_alloc ?_ _)); refine blk_far ?_ NB294_296.out _; (with_reducible repeat (first | refine blk_drewN ?_ _ | refine blk_drew ?_ | refine blk_alloc ?_ _)); refine blk_far ?_ NB294_296.out _; (with_reducible repeat (first | refine blk_drewN ?_ _ | refine blk_drew ?_ | refine blk_alloc ?_ _)); refine blk_far ?_ NB294_296.out _; (with_reducible repeat (first | refine blk_drewN ?_ _ | refine blk_drew ?_ | refine blk_alloc ?_ _)); exact BK294.out⟩, ⟨by (with_reducible repeat (first | refine blk_drewN ?_ _ | refine blk_drew ?_ | refine blk_alloc ?_ _)); refine blk_put (cs := #[.string ((rd_T48 l1_1 x5_2).f0), .slice A295_1 ((rd_T48 l1_1 x5_2).f1).length c295_1, .int .i64 ((rd_T48 l1_1 x5_2).f2), .slice A295_3 ((rd_T48 l1_1 x5_2).f3).length c295_3, .slice none 0 0]) ?_ 4 _ rfl; (with_reducible repeat (first | refine blk_drewN ?_ _ | refine blk_drew ?_ | refine blk_alloc ?_ _)); refine blk_put (cs := #[.string ((rd_T48 l1_1 x5_2).f0), .slice A295_1 ((rd_T48 l1_1 x5_2).f1).length c295_1, .int .i64 ((rd_T48 l1_1 x5_2).f2), .slice none 0 0, .slice none 0 0]) ?_ 3 _ rfl; (with_reducible repeat (first | refine blk_drewN ?_ _ | refine blk_drew ?_ | refine blk_alloc ?_ _)); refine blk_put (cs := #[.string ((rd_T48 l1_1 x5_2).f0), .slice A295_1 ((rd_T48 l1_1 x5_2).f1).length c295_1, .int .i64 0, .slice none 0 0, .slice none 0 0]) ?_ 2 _ rfl; (with_reducible repeat (first | refine blk_drewN ?_ _ | refine blk_drew ?_ | refine blk_alloc ?_ _)); refine blk_put (cs := #[.string ((rd_T48 l1_1 x5_2).f0), .slice none 0 0, .int .i64 0, .slice none 0 0, .slice none 0 0]) ?_ 1 _ rfl; (with_reducible repeat (first | refine blk_drewN ?_ _ | refine blk_drew ?_ | refine blk_alloc ?_ _)); refine blk_put (cs := #[.string (⟨#[]⟩ : ByteArray), .slice none 0 0, .int .i64 0, .slice none 0 0, .slice none 0 0]) ?_ 0 _ rfl; (with_reducible repeat (first | refine blk_drewN ?_ _ | refine blk_drew ?_ | refine blk_alloc ?_ _)); exact BK296.out⟩, ⟨by repeat (first | (with_reducible first | exact HB.out | apply below_alloc | apply pw_below_drewN | apply below_drew1 | refine below_set ?_ GE290.out | refine below_set ?_ GE291.out | refine below_set ?_ GE294.out | refine below_set ?_ GE296.out) | exact HB.out)⟩⟩
                          · replace c40 := Bool.eq_false_iff.mpr c40
                            subst c40
                            have H1 : (windrowref13_Same.j2 k2 x5_2 true l0_0 l0_1 l1_0 l1_1 ((rd_T48 l0_1 x5_2).f0) ((rd_T48 l0_1 x5_2).f1) ((rd_T48 l0_1 x5_2).f2) ((rd_T48 l0_1 x5_2).f3) ((rd_T48 l0_1 x5_2).f4) ((rd_T48 l1_1 x5_2).f0) ((rd_T48 l1_1 x5_2).f1) ((rd_T48 l1_1 x5_2).f2) ((rd_T48 l1_1 x5_2).f3) ((rd_T48 l1_1 x5_2).f4)) = some r := by rw [if_neg (show ¬ (false = true) by decide)] at H; exact H
                            clear H
                            have H := H1
                            clear H1
                            have H' := Aside0.mk H
                            clear H
                            have hnb48 := NB294_290.out
                            have hnc48 := NB290_294.out
                            have hnb49 := NB294_291.out
                            have hnc49 := NB291_294.out
                            have hnb50 := NB294_296.out
                            have hnc50 := NB296_294.out
                            have hcz51_0 : w30.cell? ⟨gb294, 0, none⟩ = some (.string ((rd_T48 l0_1 x5_2).f0)) := (blk_cell BK294.out 0).trans rfl
                            have hcz51_1 : w30.cell? ⟨gb294, 1, none⟩ = some (.slice A293_1 ((rd_T48 l0_1 x5_2).f1).length c293_1) := (blk_cell BK294.out 1).trans rfl
                            have hcz51_2 : w30.cell? ⟨gb294, 2, none⟩ = some (.int .i64 ((rd_T48 l0_1 x5_2).f2)) := (blk_cell BK294.out 2).trans rfl
                            have hcz51_3 : w30.cell? ⟨gb294, 3, none⟩ = some (.slice A293_3 ((rd_T48 l0_1 x5_2).f3).length c293_3) := (blk_cell BK294.out 3).trans rfl
                            have hcz51_4 : w30.cell? ⟨gb294, 4, none⟩ = some (.slice A293_4 ((rd_T48 l0_1 x5_2).f4).length c293_4) := (blk_cell BK294.out 4).trans rfl
                            have hfz51_0 := blk_frozen BK294.out 0
                            have hfz51_1 := blk_frozen BK294.out 1
                            have hfz51_2 := blk_frozen BK294.out 2
                            have hfz51_3 := blk_frozen BK294.out 3
                            have hfz51_4 := blk_frozen BK294.out 4
                            have hnb52 := NB296_290.out
                            have hnc52 := NB290_296.out
                            have hnb53 := NB296_291.out
                            have hnc53 := NB291_296.out
                            have hcz54_0 : w30.cell? ⟨gb296, 0, none⟩ = some (.string (⟨#[]⟩ : ByteArray)) := (blk_cell BK296.out 0).trans rfl
                            have hcz54_1 : w30.cell? ⟨gb296, 1, none⟩ = some (.slice none 0 0) := (blk_cell BK296.out 1).trans rfl
                            have hcz54_2 : w30.cell? ⟨gb296, 2, none⟩ = some (.int .i64 0) := (blk_cell BK296.out 2).trans rfl
                            have hcz54_3 : w30.cell? ⟨gb296, 3, none⟩ = some (.slice none 0 0) := (blk_cell BK296.out 3).trans rfl
                            have hcz54_4 : w30.cell? ⟨gb296, 4, none⟩ = some (.slice none 0 0) := (blk_cell BK296.out 4).trans rfl
                            have hfz54_0 := blk_frozen BK296.out 0
                            have hfz54_1 := blk_frozen BK296.out 1
                            have hfz54_2 := blk_frozen BK296.out 2
                            have hfz54_3 := blk_frozen BK296.out 3
                            have hfz54_4 := blk_frozen BK296.out 4
                            go_wp2_with (first | (go_at_call 30; (with_reducible refine (windrowref13_sameInts.calls k2 _ _ ((rd_T48 l0_1 x5_2).f1) _ _ ((rd_T48 l1_1 x5_2).f1) true _ ?side1 ?side2 ?side3 ?side4 A37.out).mono ?_); (case side1 => exact Kd.C_below HR293_1.out (by repeat (first | (with_reducible first | exact HB.out | apply below_alloc | apply pw_below_drewN | apply below_drew1 | refine below_set ?_ GE290.out | refine below_set ?_ GE291.out | refine below_set ?_ GE294.out | refine below_set ?_ GE296.out) | exact HB.out))); (case side2 => exact HC293_1.out); (case side3 => exact Kd.C_below HR295_1.out (by repeat (first | (with_reducible first | exact HB.out | apply below_alloc | apply pw_below_drewN | apply below_drew1 | refine below_set ?_ GE290.out | refine below_set ?_ GE291.out | refine below_set ?_ GE294.out | refine below_set ?_ GE296.out) | exact HB.out))); (case side4 => exact HC295_1.out); rintro e w' ⟨rfl, ⟨nd, rfl⟩⟩; (try first | exact ⟨rfl, _, World.drewN_drewN _ _ _⟩ | exact ⟨rfl, _, Eq.trans (World.drewN_drewN _ _ _) (congrArg (World.drewN _) (Nat.add_assoc _ _ _))⟩)) | (go_at_call 30; (with_reducible refine (windrowref13_sameInts.calls k2 _ _ ((rd_T48 l0_1 x5_2).f3) _ _ ((rd_T48 l1_1 x5_2).f3) false _ ?side1 ?side2 ?side3 ?side4 A39.out).mono ?_); (case side1 => exact Kd.C_below HR293_3.out (by repeat (first | (with_reducible first | exact HB.out | apply below_alloc | apply pw_below_drewN | apply below_drew1 | refine below_set ?_ GE290.out | refine below_set ?_ GE291.out | refine below_set ?_ GE294.out | refine below_set ?_ GE296.out) | exact HB.out))); (case side2 => exact HC293_3.out); (case side3 => exact Kd.C_below HR295_3.out (by repeat (first | (with_reducible first | exact HB.out | apply below_alloc | apply pw_below_drewN | apply below_drew1 | refine below_set ?_ GE290.out | refine below_set ?_ GE291.out | refine below_set ?_ GE294.out | refine below_set ?_ GE296.out) | exact HB.out))); (case side4 => exact HC295_3.out); rintro e w' ⟨rfl, ⟨nd, rfl⟩⟩; (try first | exact ⟨rfl, _, World.drewN_drewN _ _ _⟩ | exact ⟨rfl, _, Eq.trans (World.drewN_drewN _ _ _) (congrArg (World.drewN _) (Nat.add_assoc _ _ _))⟩)))
                            repeat (go_quiet (first | (go_at_call 30; (with_reducible refine (windrowref13_sameInts.calls k2 _ _ ((rd_T48 l0_1 x5_2).f1) _ _ ((rd_T48 l1_1 x5_2).f1) true _ ?side1 ?side2 ?side3 ?side4 A37.out).mono ?_); (case side1 => exact Kd.C_below HR293_1.out (by repeat (first | (with_reducible first | exact HB.out | apply below_alloc | apply pw_below_drewN | apply below_drew1 | refine below_set ?_ GE290.out | refine below_set ?_ GE291.out | refine below_set ?_ GE294.out | refine below_set ?_ GE296.out) | exact HB.out))); (case side2 => exact HC293_1.out); (case side3 => exact Kd.C_below HR295_1.out (by repeat (first | (with_reducible first | exact HB.out | apply below_alloc | apply pw_below_drewN | apply below_drew1 | refine below_set ?_ GE290.out | refine below_set ?_ GE291.out | refine below_set ?_ GE294.out | refine below_set ?_ GE296.out) | exact HB.out))); (case side4 => exact HC295_1.out); rintro e w' ⟨rfl, ⟨nd, rfl⟩⟩; (try first | exact ⟨rfl, _, World.drewN_drewN _ _ _⟩ | exact ⟨rfl, _, Eq.trans (World.drewN_drewN _ _ _) (congrArg (World.drewN _) (Nat.add_assoc _ _ _))⟩)) | (go_at_call 30; (with_reducible refine (windrowref13_sameInts.calls k2 _ _ ((rd_T48 l0_1 x5_2).f3) _ _ ((rd_T48 l1_1 x5_2).f3) false _ ?side1 ?side2 ?side3 ?side4 A39.out).mono ?_); (case side1 => exact Kd.C_below HR293_3.out (by repeat (first | (with_reducible first | exact HB.out | apply below_alloc | apply pw_below_drewN | apply below_drew1 | refine below_set ?_ GE290.out | refine below_set ?_ GE291.out | refine below_set ?_ GE294.out | refine below_set ?_ GE296.out) | exact HB.out))); (case side2 => exact HC293_3.out); (case side3 => exact Kd.C_below HR295_3.out (by repeat (first | (with_reducible first | exact HB.out | apply below_alloc | apply pw_below_drewN | apply below_drew1 | refine below_set ?_ GE290.out | refine below_set ?_ GE291.out | refine below_set ?_ GE294.out | refine below_set ?_ GE296.out) | exact HB.out))); (case side4 => exact HC295_3.out); rintro e w' ⟨rfl, ⟨nd, rfl⟩⟩; (try first | exact ⟨rfl, _, World.drewN_drewN _ _ _⟩ | exact ⟨rfl, _, Eq.trans (World.drewN_drewN _ _ _) (congrArg (World.drewN _) (Nat.add_assoc _ _ _))⟩))); try go_wp2_with (first | (go_at_call 30; (with_reducible refine (windrowref13_sameInts.calls k2 _ _ ((rd_T48 l0_1 x5_2).f1) _ _ ((rd_T48 l1_1 x5_2).f1) true _ ?side1 ?side2 ?side3 ?side4 A37.out).mono ?_); (case side1 => exact Kd.C_below HR293_1.out (by repeat (first | (with_reducible first | exact HB.out | apply below_alloc | apply pw_below_drewN | apply below_drew1 | refine below_set ?_ GE290.out | refine below_set ?_ GE291.out | refine below_set ?_ GE294.out | refine below_set ?_ GE296.out) | exact HB.out))); (case side2 => exact HC293_1.out); (case side3 => exact Kd.C_below HR295_1.out (by repeat (first | (with_reducible first | exact HB.out | apply below_alloc | apply pw_below_drewN | apply below_drew1 | refine below_set ?_ GE290.out | refine below_set ?_ GE291.out | refine below_set ?_ GE294.out | refine below_set ?_ GE296.out) | exact HB.out))); (case side4 => exact HC295_1.out); rintro e w' ⟨rfl, ⟨nd, rfl⟩⟩; (try first | exact ⟨rfl, _, World.drewN_drewN _ _ _⟩ | exact ⟨rfl, _, Eq.trans (World.drewN_drewN _ _ _) (congrArg (World.drewN _) (Nat.add_assoc _ _ _))⟩)) | (go_at_call 30; (with_reducible refine (windrowref13_sameInts.calls k2 _ _ ((rd_T48 l0_1 x5_2).f3) _ _ ((rd_T48 l1_1 x5_2).f3) false _ ?side1 ?side2 ?side3 ?side4 A39.out).mono ?_); (case side1 => exact Kd.C_below HR293_3.out (by repeat (first | (with_reducible first | exact HB.out | apply below_alloc | apply pw_below_drewN | apply below_drew1 | refine below_set ?_ GE290.out | refine below_set ?_ GE291.out | refine below_set ?_ GE294.out | refine below_set ?_ GE296.out) | exact HB.out))); (case side2 => exact HC293_3.out); (case side3 => exact Kd.C_below HR295_3.out (by repeat (first | (with_reducible first | exact HB.out | apply below_alloc | apply pw_below_drewN | apply below_drew1 | refine below_set ?_ GE290.out | refine below_set ?_ GE291.out | refine below_set ?_ GE294.out | refine below_set ?_ GE296.out) | exact HB.out))); (case side4 => exact HC295_3.out); rintro e w' ⟨rfl, ⟨nd, rfl⟩⟩; (try first | exact ⟨rfl, _, World.drewN_drewN _ _ _⟩ | exact ⟨rfl, _, Eq.trans (World.drewN_drewN _ _ _) (congrArg (World.drewN _) (Nat.add_assoc _ _ _))⟩))))
                            go_meet
                            case rel => exact ⟨_, (true), (by first | rfl | (simp; done) | (simp [*]; done)), H', ⟨by have := HJ2.out; have := HK2.out; first | omega | exact Nat.le_refl _⟩, ⟨by (with_reducible repeat (first | refine blk_drewN ?_ _ | refine blk_drew ?_ | refine blk_alloc ?_ _)); refine blk_far ?_ NB290_296.out _; (with_reducible repeat (first | refine blk_drewN ?_ _ | refine blk_drew ?_ | refine blk_alloc ?_ _)); refine blk_far ?_ NB290_296.out _; (with_reducible repeat (first | refine blk_drewN ?_ _ | refine blk_drew ?_ | refine blk_alloc ?_ _)); refine blk_far ?_ NB290_296.out _; (with_reducible repeat (first | refine blk_drewN ?_ _ | refine blk_drew ?_ | refine blk_alloc ?_ _)); refine blk_far ?_ NB290_296.out _; (with_reducible repeat (first | refine blk_drewN ?_ _ | refine blk_drew ?_ | refine blk_alloc ?_ _)); refine blk_far ?_ NB290_296.out _; (with_reducible repeat (first | refine blk_drewN ?_ _ | refine blk_drew ?_ | refine blk_alloc ?_ _)); exact BK290.out⟩, ⟨by (with_reducible repeat (first | refine blk_drewN ?_ _ | refine blk_drew ?_ | refine blk_alloc ?_ _)); refine blk_far ?_ NB291_296.out _; (with_reducible repeat (first | refine blk_drewN ?_ _ | refine blk_drew ?_ | refine blk_alloc ?_ _)); refine blk_far ?_ NB291_296.out _; (with_reducible repeat (first | refine blk_drewN ?_ _ | refine blk_drew ?_ | refine blk_alloc ?_ _)); refine blk_far ?_ NB291_296.out _; (with_reducible repeat (first | refine blk_drewN ?_ _ | refine blk_drew ?_ | refine blk_alloc ?_ _)); refine blk_far ?_ NB291_296.out _; (with_reducible repeat (first | refine blk_drewN ?_ _ | refine blk_drew ?_ | refine blk_alloc ?_ _)); refine blk_far ?_ NB291_296.out _; (with_reducible repeat (first | refine blk_drewN ?_ _ | refine blk_drew ?_ | refine blk_alloc ?_ _)); exact BK291.out⟩, ⟨by (with_reducible repeat (first | refine blk_drewN ?_ _ | refine blk_drew ?_ | refine blk_alloc ?_ _)); refine blk_far ?_ NB294_296.out _; (with_reducible repeat (first | refine blk_drewN ?_ _ | refine blk_drew ?_ | refine blk_alloc ?_ _)); refine blk_far ?_ NB294_296.out _; (with_reducible repeat (first | refine blk_drewN ?_ _ | refine blk_drew ?_ | refine blk_alloc ?_ _)); refine blk_far ?_ NB294_296.out _; (with_reducible repeat (first | refine blk_drewN ?_ _ | refine blk_drew ?_ | refine blk_alloc ?_ _)); refine blk_far ?_ NB294_296.out _; (with_reducible repeat (first | refine blk_drewN ?_ _ | refine blk_drew ?_ | refine blk_alloc ?_ _)); refine blk_far ?_ NB294_296.out _; (with_reducible repeat (first | refine blk_drewN ?_ _ | refine blk_drew ?_ | refine blk_alloc ?_ _)); exact BK294.out⟩, ⟨by (with_reducible repeat (first | refine blk_drewN ?_ _ | refine blk_drew ?_ | refine blk_alloc ?_ _)); refine blk_put (cs := #[.string ((rd_T48 l1_1 x5_2).f0), .slice A295_1 ((rd_T48 l1_1 x5_2).f1).length c295_1, .int .i64 ((rd_T48 l1_1 x5_2).f2), .slice A295_3 ((rd_T48 l1_1 x5_2).f3).length c295_3, .slice none 0 0]) ?_ 4 _ rfl; (with_reducible repeat (first | refine blk_drewN ?_ _ | refine blk_drew ?_ | refine blk_alloc ?_ _)); refine blk_put (cs := #[.string ((rd_T48 l1_1 x5_2).f0), .slice A295_1 ((rd_T48 l1_1 x5_2).f1).length c295_1, .int .i64 ((rd_T48 l1_1 x5_2).f2), .slice none 0 0, .slice none 0 0]) ?_ 3 _ rfl; (with_reducible repeat (first | refine blk_drewN ?_ _ | refine blk_drew ?_ | refine blk_alloc ?_ _)); refine blk_put (cs := #[.string ((rd_T48 l1_1 x5_2).f0), .slice A295_1 ((rd_T48 l1_1 x5_2).f1).length c295_1, .int .i64 0, .slice none 0 0, .slice none 0 0]) ?_ 2 _ rfl; (with_reducible repeat (first | refine blk_drewN ?_ _ | refine blk_drew ?_ | refine blk_alloc ?_ _)); refine blk_put (cs := #[.string ((rd_T48 l1_1 x5_2).f0), .slice none 0 0, .int .i64 0, .slice none 0 0, .slice none 0 0]) ?_ 1 _ rfl; (with_reducible repeat (first | refine blk_drewN ?_ _ | refine blk_drew ?_ | refine blk_alloc ?_ _)); refine blk_put (cs := #[.string (⟨#[]⟩ : ByteArray), .slice none 0 0, .int .i64 0, .slice none 0 0, .slice none 0 0]) ?_ 0 _ rfl; (with_reducible repeat (first | refine blk_drewN ?_ _ | refine blk_drew ?_ | refine blk_alloc ?_ _)); exact BK296.out⟩, ⟨by repeat (first | (with_reducible first | exact HB.out | apply below_alloc | apply pw_below_drewN | apply below_drew1 | refine below_set ?_ GE290.out | refine below_set ?_ GE291.out | refine below_set ?_ GE294.out | refine below_set ?_ GE296.out) | exact HB.out)⟩⟩
                        · replace c38 := Bool.eq_false_iff.mpr c38
                          subst c38
                          have H1 : (windrowref13_Same.j2 k2 x5_2 true l0_0 l0_1 l1_0 l1_1 ((rd_T48 l0_1 x5_2).f0) ((rd_T48 l0_1 x5_2).f1) ((rd_T48 l0_1 x5_2).f2) ((rd_T48 l0_1 x5_2).f3) ((rd_T48 l0_1 x5_2).f4) ((rd_T48 l1_1 x5_2).f0) ((rd_T48 l1_1 x5_2).f1) ((rd_T48 l1_1 x5_2).f2) ((rd_T48 l1_1 x5_2).f3) ((rd_T48 l1_1 x5_2).f4)) = some r := by rw [if_neg (show ¬ (false = true) by decide)] at H; exact H
                          clear H
                          have H := H1
                          clear H1
                          have H' := Aside0.mk H
                          clear H
                          have hnb55 := NB294_290.out
                          have hnc55 := NB290_294.out
                          have hnb56 := NB294_291.out
                          have hnc56 := NB291_294.out
                          have hnb57 := NB294_296.out
                          have hnc57 := NB296_294.out
                          have hcz58_0 : w30.cell? ⟨gb294, 0, none⟩ = some (.string ((rd_T48 l0_1 x5_2).f0)) := (blk_cell BK294.out 0).trans rfl
                          have hcz58_1 : w30.cell? ⟨gb294, 1, none⟩ = some (.slice A293_1 ((rd_T48 l0_1 x5_2).f1).length c293_1) := (blk_cell BK294.out 1).trans rfl
                          have hcz58_2 : w30.cell? ⟨gb294, 2, none⟩ = some (.int .i64 ((rd_T48 l0_1 x5_2).f2)) := (blk_cell BK294.out 2).trans rfl
                          have hcz58_3 : w30.cell? ⟨gb294, 3, none⟩ = some (.slice A293_3 ((rd_T48 l0_1 x5_2).f3).length c293_3) := (blk_cell BK294.out 3).trans rfl
                          have hcz58_4 : w30.cell? ⟨gb294, 4, none⟩ = some (.slice A293_4 ((rd_T48 l0_1 x5_2).f4).length c293_4) := (blk_cell BK294.out 4).trans rfl
                          have hfz58_0 := blk_frozen BK294.out 0
                          have hfz58_1 := blk_frozen BK294.out 1
                          have hfz58_2 := blk_frozen BK294.out 2
                          have hfz58_3 := blk_frozen BK294.out 3
                          have hfz58_4 := blk_frozen BK294.out 4
                          have hnb59 := NB296_290.out
                          have hnc59 := NB290_296.out
                          have hnb60 := NB296_291.out
                          have hnc60 := NB291_296.out
                          have hcz61_0 : w30.cell? ⟨gb296, 0, none⟩ = some (.string (⟨#[]⟩ : ByteArray)) := (blk_cell BK296.out 0).trans rfl
                          have hcz61_1 : w30.cell? ⟨gb296, 1, none⟩ = some (.slice none 0 0) := (blk_cell BK296.out 1).trans rfl
                          have hcz61_2 : w30.cell? ⟨gb296, 2, none⟩ = some (.int .i64 0) := (blk_cell BK296.out 2).trans rfl
                          have hcz61_3 : w30.cell? ⟨gb296, 3, none⟩ = some (.slice none 0 0) := (blk_cell BK296.out 3).trans rfl
                          have hcz61_4 : w30.cell? ⟨gb296, 4, none⟩ = some (.slice none 0 0) := (blk_cell BK296.out 4).trans rfl
                          have hfz61_0 := blk_frozen BK296.out 0
                          have hfz61_1 := blk_frozen BK296.out 1
                          have hfz61_2 := blk_frozen BK296.out 2
                          have hfz61_3 := blk_frozen BK296.out 3
                          have hfz61_4 := blk_frozen BK296.out 4
                          go_wp2_with (first | (go_at_call 30; (with_reducible refine (windrowref13_sameInts.calls k2 _ _ ((rd_T48 l0_1 x5_2).f1) _ _ ((rd_T48 l1_1 x5_2).f1) false _ ?side1 ?side2 ?side3 ?side4 A37.out).mono ?_); (case side1 => exact Kd.C_below HR293_1.out (by repeat (first | (with_reducible first | exact HB.out | apply below_alloc | apply pw_below_drewN | apply below_drew1 | refine below_set ?_ GE290.out | refine below_set ?_ GE291.out | refine below_set ?_ GE294.out | refine below_set ?_ GE296.out) | exact HB.out))); (case side2 => exact HC293_1.out); (case side3 => exact Kd.C_below HR295_1.out (by repeat (first | (with_reducible first | exact HB.out | apply below_alloc | apply pw_below_drewN | apply below_drew1 | refine below_set ?_ GE290.out | refine below_set ?_ GE291.out | refine below_set ?_ GE294.out | refine below_set ?_ GE296.out) | exact HB.out))); (case side4 => exact HC295_1.out); rintro e w' ⟨rfl, ⟨nd, rfl⟩⟩; (try first | exact ⟨rfl, _, World.drewN_drewN _ _ _⟩ | exact ⟨rfl, _, Eq.trans (World.drewN_drewN _ _ _) (congrArg (World.drewN _) (Nat.add_assoc _ _ _))⟩)))
                          repeat (go_quiet (first | (go_at_call 30; (with_reducible refine (windrowref13_sameInts.calls k2 _ _ ((rd_T48 l0_1 x5_2).f1) _ _ ((rd_T48 l1_1 x5_2).f1) false _ ?side1 ?side2 ?side3 ?side4 A37.out).mono ?_); (case side1 => exact Kd.C_below HR293_1.out (by repeat (first | (with_reducible first | exact HB.out | apply below_alloc | apply pw_below_drewN | apply below_drew1 | refine below_set ?_ GE290.out | refine below_set ?_ GE291.out | refine below_set ?_ GE294.out | refine below_set ?_ GE296.out) | exact HB.out))); (case side2 => exact HC293_1.out); (case side3 => exact Kd.C_below HR295_1.out (by repeat (first | (with_reducible first | exact HB.out | apply below_alloc | apply pw_below_drewN | apply below_drew1 | refine below_set ?_ GE290.out | refine below_set ?_ GE291.out | refine below_set ?_ GE294.out | refine below_set ?_ GE296.out) | exact HB.out))); (case side4 => exact HC295_1.out); rintro e w' ⟨rfl, ⟨nd, rfl⟩⟩; (try first | exact ⟨rfl, _, World.drewN_drewN _ _ _⟩ | exact ⟨rfl, _, Eq.trans (World.drewN_drewN _ _ _) (congrArg (World.drewN _) (Nat.add_assoc _ _ _))⟩))); try go_wp2_with (first | (go_at_call 30; (with_reducible refine (windrowref13_sameInts.calls k2 _ _ ((rd_T48 l0_1 x5_2).f1) _ _ ((rd_T48 l1_1 x5_2).f1) false _ ?side1 ?side2 ?side3 ?side4 A37.out).mono ?_); (case side1 => exact Kd.C_below HR293_1.out (by repeat (first | (with_reducible first | exact HB.out | apply below_alloc | apply pw_below_drewN | apply below_drew1 | refine below_set ?_ GE290.out | refine below_set ?_ GE291.out | refine below_set ?_ GE294.out | refine below_set ?_ GE296.out) | exact HB.out))); (case side2 => exact HC293_1.out); (case side3 => exact Kd.C_below HR295_1.out (by repeat (first | (with_reducible first | exact HB.out | apply below_alloc | apply pw_below_drewN | apply below_drew1 | refine below_set ?_ GE290.out | refine below_set ?_ GE291.out | refine below_set ?_ GE294.out | refine below_set ?_ GE296.out) | exact HB.out))); (case side4 => exact HC295_1.out); rintro e w' ⟨rfl, ⟨nd, rfl⟩⟩; (try first | exact ⟨rfl, _, World.drewN_drewN _ _ _⟩ | exact ⟨rfl, _, Eq.trans (World.drewN_drewN _ _ _) (congrArg (World.drewN _) (Nat.add_assoc _ _ _))⟩))))
                          go_meet
                          case rel => exact ⟨_, (true), (by first | rfl | (simp; done) | (simp [*]; done)), H', ⟨by have := HJ2.out; have := HK2.out; first | omega | exact Nat.le_refl _⟩, ⟨by (with_reducible repeat (first | refine blk_drewN ?_ _ | refine blk_drew ?_ | refine blk_alloc ?_ _)); refine blk_far ?_ NB290_296.out _; (with_reducible repeat (first | refine blk_drewN ?_ _ | refine blk_drew ?_ | refine blk_alloc ?_ _)); refine blk_far ?_ NB290_296.out _; (with_reducible repeat (first | refine blk_drewN ?_ _ | refine blk_drew ?_ | refine blk_alloc ?_ _)); refine blk_far ?_ NB290_296.out _; (with_reducible repeat (first | refine blk_drewN ?_ _ | refine blk_drew ?_ | refine blk_alloc ?_ _)); refine blk_far ?_ NB290_296.out _; (with_reducible repeat (first | refine blk_drewN ?_ _ | refine blk_drew ?_ | refine blk_alloc ?_ _)); refine blk_far ?_ NB290_296.out _; (with_reducible repeat (first | refine blk_drewN ?_ _ | refine blk_drew ?_ | refine blk_alloc ?_ _)); exact BK290.out⟩, ⟨by (with_reducible repeat (first | refine blk_drewN ?_ _ | refine blk_drew ?_ | refine blk_alloc ?_ _)); refine blk_far ?_ NB291_296.out _; (with_reducible repeat (first | refine blk_drewN ?_ _ | refine blk_drew ?_ | refine blk_alloc ?_ _)); refine blk_far ?_ NB291_296.out _; (with_reducible repeat (first | refine blk_drewN ?_ _ | refine blk_drew ?_ | refine blk_alloc ?_ _)); refine blk_far ?_ NB291_296.out _; (with_reducible repeat (first | refine blk_drewN ?_ _ | refine blk_drew ?_ | refine blk_alloc ?_ _)); refine blk_far ?_ NB291_296.out _; (with_reducible repeat (first | refine blk_drewN ?_ _ | refine blk_drew ?_ | refine blk_alloc ?_ _)); refine blk_far ?_ NB291_296.out _; (with_reducible repeat (first | refine blk_drewN ?_ _ | refine blk_drew ?_ | refine blk_alloc ?_ _)); exact BK291.out⟩, ⟨by (with_reducible repeat (first | refine blk_drewN ?_ _ | refine blk_drew ?_ | refine blk_alloc ?_ _)); refine blk_far ?_ NB294_296.out _; (with_reducible repeat (first | refine blk_drewN ?_ _ | refine blk_drew ?_ | refine blk_alloc ?_ _)); refine blk_far ?_ NB294_296.out _; (with_reducible repeat (first | refine blk_drewN ?_ _ | refine blk_drew ?_ | refine blk_alloc ?_ _)); refine blk_far ?_ NB294_296.out _; (with_reducible repeat (first | refine blk_drewN ?_ _ | refine blk_drew ?_ | refine blk_alloc ?_ _)); refine blk_far ?_ NB294_296.out _; (with_reducible repeat (first | refine blk_drewN ?_ _ | refine blk_drew ?_ | refine blk_alloc ?_ _)); refine blk_far ?_ NB294_296.out _; (with_reducible repeat (first | refine blk_drewN ?_ _ | refine blk_drew ?_ | refine blk_alloc ?_ _)); exact BK294.out⟩, ⟨by (with_reducible repeat (first | refine blk_drewN ?_ _ | refine blk_drew ?_ | refine blk_alloc ?_ _)); refine blk_put (cs := #[.string ((rd_T48 l1_1 x5_2).f0), .slice A295_1 ((rd_T48 l1_1 x5_2).f1).length c295_1, .int .i64 ((rd_T48 l1_1 x5_2).f2), .slice A295_3 ((rd_T48 l1_1 x5_2).f3).length c295_3, .slice none 0 0]) ?_ 4 _ rfl; (with_reducible repeat (first | refine blk_drewN ?_ _ | refine blk_drew ?_ | refine blk_alloc ?_ _)); refine blk_put (cs := #[.string ((rd_T48 l1_1 x5_2).f0), .slice A295_1 ((rd_T48 l1_1 x5_2).f1).length c295_1, .int .i64 ((rd_T48 l1_1 x5_2).f2), .slice none 0 0, .slice none 0 0]) ?_ 3 _ rfl; (with_reducible repeat (first | refine blk_drewN ?_ _ | refine blk_drew ?_ | refine blk_alloc ?_ _)); refine blk_put (cs := #[.string ((rd_T48 l1_1 x5_2).f0), .slice A295_1 ((rd_T48 l1_1 x5_2).f1).length c295_1, .int .i64 0, .slice none 0 0, .slice none 0 0]) ?_ 2 _ rfl; (with_reducible repeat (first | refine blk_drewN ?_ _ | refine blk_drew ?_ | refine blk_alloc ?_ _)); refine blk_put (cs := #[.string ((rd_T48 l1_1 x5_2).f0), .slice none 0 0, .int .i64 0, .slice none 0 0, .slice none 0 0]) ?_ 1 _ rfl; (with_reducible repeat (first | refine blk_drewN ?_ _ | refine blk_drew ?_ | refine blk_alloc ?_ _)); refine blk_put (cs := #[.string (⟨#[]⟩ : ByteArray), .slice none 0 0, .int .i64 0, .slice none 0 0, .slice none 0 0]) ?_ 0 _ rfl; (with_reducible repeat (first | refine blk_drewN ?_ _ | refine blk_drew ?_ | refine blk_alloc ?_ _)); exact BK296.out⟩, ⟨by repeat (first | (with_reducible first | exact HB.out | apply below_alloc | apply pw_below_drewN | apply below_drew1 | refine below_set ?_ GE290.out | refine below_set ?_ GE291.out | refine below_set ?_ GE294.out | refine below_set ?_ GE296.out) | exact HB.out)⟩⟩
                      · rw [if_neg c36] at H
                        have c36b0 : (((rd_T48 l0_1 x5_2).f2) == ((rd_T48 l1_1 x5_2).f2)) = false := beq_eq_false_iff_ne.mpr c36
                        have c36b1 : (((rd_T48 l0_1 x5_2).f2) != ((rd_T48 l1_1 x5_2).f2)) = true := bne_iff_ne.mpr c36
                        have H' := Aside0.mk H
                        clear H
                        have hnb62 := NB294_290.out
                        have hnc62 := NB290_294.out
                        have hnb63 := NB294_291.out
                        have hnc63 := NB291_294.out
                        have hnb64 := NB294_296.out
                        have hnc64 := NB296_294.out
                        have hcz65_0 : w30.cell? ⟨gb294, 0, none⟩ = some (.string ((rd_T48 l0_1 x5_2).f0)) := (blk_cell BK294.out 0).trans rfl
                        have hcz65_1 : w30.cell? ⟨gb294, 1, none⟩ = some (.slice A293_1 ((rd_T48 l0_1 x5_2).f1).length c293_1) := (blk_cell BK294.out 1).trans rfl
                        have hcz65_2 : w30.cell? ⟨gb294, 2, none⟩ = some (.int .i64 ((rd_T48 l0_1 x5_2).f2)) := (blk_cell BK294.out 2).trans rfl
                        have hcz65_3 : w30.cell? ⟨gb294, 3, none⟩ = some (.slice A293_3 ((rd_T48 l0_1 x5_2).f3).length c293_3) := (blk_cell BK294.out 3).trans rfl
                        have hcz65_4 : w30.cell? ⟨gb294, 4, none⟩ = some (.slice A293_4 ((rd_T48 l0_1 x5_2).f4).length c293_4) := (blk_cell BK294.out 4).trans rfl
                        have hfz65_0 := blk_frozen BK294.out 0
                        have hfz65_1 := blk_frozen BK294.out 1
                        have hfz65_2 := blk_frozen BK294.out 2
                        have hfz65_3 := blk_frozen BK294.out 3
                        have hfz65_4 := blk_frozen BK294.out 4
                        have hnb66 := NB296_290.out
                        have hnc66 := NB290_296.out
                        have hnb67 := NB296_291.out
                        have hnc67 := NB291_296.out
                        have hcz68_0 : w30.cell? ⟨gb296, 0, none⟩ = some (.string (⟨#[]⟩ : ByteArray)) := (blk_cell BK296.out 0).trans rfl
                        have hcz68_1 : w30.cell? ⟨gb296, 1, none⟩ = some (.slice none 0 0) := (blk_cell BK296.out 1).trans rfl
                        have hcz68_2 : w30.cell? ⟨gb296, 2, none⟩ = some (.int .i64 0) := (blk_cell BK296.out 2).trans rfl
                        have hcz68_3 : w30.cell? ⟨gb296, 3, none⟩ = some (.slice none 0 0) := (blk_cell BK296.out 3).trans rfl
                        have hcz68_4 : w30.cell? ⟨gb296, 4, none⟩ = some (.slice none 0 0) := (blk_cell BK296.out 4).trans rfl
                        have hfz68_0 := blk_frozen BK296.out 0
                        have hfz68_1 := blk_frozen BK296.out 1
                        have hfz68_2 := blk_frozen BK296.out 2
                        have hfz68_3 := blk_frozen BK296.out 3
                        have hfz68_4 := blk_frozen BK296.out 4
                        go_wp2
                        repeat (go_quiet (fail); try go_wp2)
                        go_meet
                        case rel => exact ⟨_, (true), (by first | rfl | (simp; done) | (simp [*]; done)), H', ⟨by have := HJ2.out; have := HK2.out; first | omega | exact Nat.le_refl _⟩, ⟨by (with_reducible repeat (first | refine blk_drewN ?_ _ | refine blk_drew ?_ | refine blk_alloc ?_ _)); refine blk_far ?_ NB290_296.out _; (with_reducible repeat (first | refine blk_drewN ?_ _ | refine blk_drew ?_ | refine blk_alloc ?_ _)); refine blk_far ?_ NB290_296.out _; (with_reducible repeat (first | refine blk_drewN ?_ _ | refine blk_drew ?_ | refine blk_alloc ?_ _)); refine blk_far ?_ NB290_296.out _; (with_reducible repeat (first | refine blk_drewN ?_ _ | refine blk_drew ?_ | refine blk_alloc ?_ _)); refine blk_far ?_ NB290_296.out _; (with_reducible repeat (first | refine blk_drewN ?_ _ | refine blk_drew ?_ | refine blk_alloc ?_ _)); refine blk_far ?_ NB290_296.out _; (with_reducible repeat (first | refine blk_drewN ?_ _ | refine blk_drew ?_ | refine blk_alloc ?_ _)); exact BK290.out⟩, ⟨by (with_reducible repeat (first | refine blk_drewN ?_ _ | refine blk_drew ?_ | refine blk_alloc ?_ _)); refine blk_far ?_ NB291_296.out _; (with_reducible repeat (first | refine blk_drewN ?_ _ | refine blk_drew ?_ | refine blk_alloc ?_ _)); refine blk_far ?_ NB291_296.out _; (with_reducible repeat (first | refine blk_drewN ?_ _ | refine blk_drew ?_ | refine blk_alloc ?_ _)); refine blk_far ?_ NB291_296.out _; (with_reducible repeat (first | refine blk_drewN ?_ _ | refine blk_drew ?_ | refine blk_alloc ?_ _)); refine blk_far ?_ NB291_296.out _; (with_reducible repeat (first | refine blk_drewN ?_ _ | refine blk_drew ?_ | refine blk_alloc ?_ _)); refine blk_far ?_ NB291_296.out _; (with_reducible repeat (first | refine blk_drewN ?_ _ | refine blk_drew ?_ | refine blk_alloc ?_ _)); exact BK291.out⟩, ⟨by (with_reducible repeat (first | refine blk_drewN ?_ _ | refine blk_drew ?_ | refine blk_alloc ?_ _)); refine blk_far ?_ NB294_296.out _; (with_reducible repeat (first | refine blk_drewN ?_ _ | refine blk_drew ?_ | refine blk_alloc ?_ _)); refine blk_far ?_ NB294_296.out _; (with_reducible repeat (first | refine blk_drewN ?_ _ | refine blk_drew ?_ | refine blk_alloc ?_ _)); refine blk_far ?_ NB294_296.out _; (with_reducible repeat (first | refine blk_drewN ?_ _ | refine blk_drew ?_ | refine blk_alloc ?_ _)); refine blk_far ?_ NB294_296.out _; (with_reducible repeat (first | refine blk_drewN ?_ _ | refine blk_drew ?_ | refine blk_alloc ?_ _)); refine blk_far ?_ NB294_296.out _; (with_reducible repeat (first | refine blk_drewN ?_ _ | refine blk_drew ?_ | refine blk_alloc ?_ _)); exact BK294.out⟩, ⟨by (with_reducible repeat (first | refine blk_drewN ?_ _ | refine blk_drew ?_ | refine blk_alloc ?_ _)); refine blk_put (cs := #[.string ((rd_T48 l1_1 x5_2).f0), .slice A295_1 ((rd_T48 l1_1 x5_2).f1).length c295_1, .int .i64 ((rd_T48 l1_1 x5_2).f2), .slice A295_3 ((rd_T48 l1_1 x5_2).f3).length c295_3, .slice none 0 0]) ?_ 4 _ rfl; (with_reducible repeat (first | refine blk_drewN ?_ _ | refine blk_drew ?_ | refine blk_alloc ?_ _)); refine blk_put (cs := #[.string ((rd_T48 l1_1 x5_2).f0), .slice A295_1 ((rd_T48 l1_1 x5_2).f1).length c295_1, .int .i64 ((rd_T48 l1_1 x5_2).f2), .slice none 0 0, .slice none 0 0]) ?_ 3 _ rfl; (with_reducible repeat (first | refine blk_drewN ?_ _ | refine blk_drew ?_ | refine blk_alloc ?_ _)); refine blk_put (cs := #[.string ((rd_T48 l1_1 x5_2).f0), .slice A295_1 ((rd_T48 l1_1 x5_2).f1).length c295_1, .int .i64 0, .slice none 0 0, .slice none 0 0]) ?_ 2 _ rfl; (with_reducible repeat (first | refine blk_drewN ?_ _ | refine blk_drew ?_ | refine blk_alloc ?_ _)); refine blk_put (cs := #[.string ((rd_T48 l1_1 x5_2).f0), .slice none 0 0, .int .i64 0, .slice none 0 0, .slice none 0 0]) ?_ 1 _ rfl; (with_reducible repeat (first | refine blk_drewN ?_ _ | refine blk_drew ?_ | refine blk_alloc ?_ _)); refine blk_put (cs := #[.string (⟨#[]⟩ : ByteArray), .slice none 0 0, .int .i64 0, .slice none 0 0, .slice none 0 0]) ?_ 0 _ rfl; (with_reducible repeat (first | refine blk_drewN ?_ _ | refine blk_drew ?_ | refine blk_alloc ?_ _)); exact BK296.out⟩, ⟨by repeat (first | (with_reducible first | exact HB.out | apply below_alloc | apply pw_below_drewN | apply below_drew1 | refine below_set ?_ GE290.out | refine below_set ?_ GE291.out | refine below_set ?_ GE294.out | refine below_set ?_ GE296.out) | exact HB.out)⟩⟩
                    · rw [if_neg c35] at H
                      have c35b0 : (((rd_T48 l0_1 x5_2).f0).toList == ((rd_T48 l1_1 x5_2).f0).toList) = false := beq_eq_false_iff_ne.mpr c35
                      have c35b1 : (((rd_T48 l0_1 x5_2).f0).toList != ((rd_T48 l1_1 x5_2).f0).toList) = true := bne_iff_ne.mpr c35
                      (first | rw [c35b0] | (simp only [i64_w, i32_w]; rw [c35b0]) | skip)
                      have H' := Aside0.mk H
                      clear H
                      have hnb69 := NB294_290.out
                      have hnc69 := NB290_294.out
                      have hnb70 := NB294_291.out
                      have hnc70 := NB291_294.out
                      have hnb71 := NB294_296.out
                      have hnc71 := NB296_294.out
                      have hcz72_0 : w30.cell? ⟨gb294, 0, none⟩ = some (.string ((rd_T48 l0_1 x5_2).f0)) := (blk_cell BK294.out 0).trans rfl
                      have hcz72_1 : w30.cell? ⟨gb294, 1, none⟩ = some (.slice A293_1 ((rd_T48 l0_1 x5_2).f1).length c293_1) := (blk_cell BK294.out 1).trans rfl
                      have hcz72_2 : w30.cell? ⟨gb294, 2, none⟩ = some (.int .i64 ((rd_T48 l0_1 x5_2).f2)) := (blk_cell BK294.out 2).trans rfl
                      have hcz72_3 : w30.cell? ⟨gb294, 3, none⟩ = some (.slice A293_3 ((rd_T48 l0_1 x5_2).f3).length c293_3) := (blk_cell BK294.out 3).trans rfl
                      have hcz72_4 : w30.cell? ⟨gb294, 4, none⟩ = some (.slice A293_4 ((rd_T48 l0_1 x5_2).f4).length c293_4) := (blk_cell BK294.out 4).trans rfl
                      have hfz72_0 := blk_frozen BK294.out 0
                      have hfz72_1 := blk_frozen BK294.out 1
                      have hfz72_2 := blk_frozen BK294.out 2
                      have hfz72_3 := blk_frozen BK294.out 3
                      have hfz72_4 := blk_frozen BK294.out 4
                      have hnb73 := NB296_290.out
                      have hnc73 := NB290_296.out
                      have hnb74 := NB296_291.out
                      have hnc74 := NB291_296.out
                      have hcz75_0 : w30.cell? ⟨gb296, 0, none⟩ = some (.string (⟨#[]⟩ : ByteArray)) := (blk_cell BK296.out 0).trans rfl
                      have hcz75_1 : w30.cell? ⟨gb296, 1, none⟩ = some (.slice none 0 0) := (blk_cell BK296.out 1).trans rfl
                      have hcz75_2 : w30.cell? ⟨gb296, 2, none⟩ = some (.int .i64 0) := (blk_cell BK296.out 2).trans rfl
                      have hcz75_3 : w30.cell? ⟨gb296, 3, none⟩ = some (.slice none 0 0) := (blk_cell BK296.out 3).trans rfl
                      have hcz75_4 : w30.cell? ⟨gb296, 4, none⟩ = some (.slice none 0 0) := (blk_cell BK296.out 4).trans rfl
                      have hfz75_0 := blk_frozen BK296.out 0
                      have hfz75_1 := blk_frozen BK296.out 1
                      have hfz75_2 := blk_frozen BK296.out 2
                      have hfz75_3 := blk_frozen BK296.out 3
                      have hfz75_4 := blk_frozen BK296.out 4
                      go_wp2
                      repeat (go_quiet (fail); try go_wp2)
                      go_meet
                      case rel => exact ⟨_, (true), (by first | rfl | (simp; done) | (simp [*]; done)), H', ⟨by have := HJ2.out; have := HK2.out; first | omega | exact Nat.le_refl _⟩, ⟨by (with_reducible repeat (first | refine blk_drewN ?_ _ | refine blk_drew ?_ | refine blk_alloc ?_ _)); refine blk_far ?_ NB290_296.out _; (with_reducible repeat (first | refine blk_drewN ?_ _ | refine blk_drew ?_ | refine blk_alloc ?_ _)); refine blk_far ?_ NB290_296.out _; (with_reducible repeat (first | refine blk_drewN ?_ _ | refine blk_drew ?_ | refine blk_alloc ?_ _)); refine blk_far ?_ NB290_296.out _; (with_reducible repeat (first | refine blk_drewN ?_ _ | refine blk_drew ?_ | refine blk_alloc ?_ _)); refine blk_far ?_ NB290_296.out _; (with_reducible repeat (first | refine blk_drewN ?_ _ | refine blk_drew ?_ | refine blk_alloc ?_ _)); refine blk_far ?_ NB290_296.out _; (with_reducible repeat (first | refine blk_drewN ?_ _ | refine blk_drew ?_ | refine blk_alloc ?_ _)); exact BK290.out⟩, ⟨by (with_reducible repeat (first | refine blk_drewN ?_ _ | refine blk_drew ?_ | refine blk_alloc ?_ _)); refine blk_far ?_ NB291_296.out _; (with_reducible repeat (first | refine blk_drewN ?_ _ | refine blk_drew ?_ | refine blk_alloc ?_ _)); refine blk_far ?_ NB291_296.out _; (with_reducible repeat (first | refine blk_drewN ?_ _ | refine blk_drew ?_ | refine blk_alloc ?_ _)); refine blk_far ?_ NB291_296.out _; (with_reducible repeat (first | refine blk_drewN ?_ _ | refine blk_drew ?_ | refine blk_alloc ?_ _)); refine blk_far ?_ NB291_296.out _; (with_reducible repeat (first | refine blk_drewN ?_ _ | refine blk_drew ?_ | refine blk_alloc ?_ _)); refine blk_far ?_ NB291_296.out _; (with_reducible repeat (first | refine blk_drewN ?_ _ | refine blk_drew ?_ | refine blk_alloc ?_ _)); exact BK291.out⟩, ⟨by (with_reducible repeat (first | refine blk_drewN ?_ _ | refine blk_drew ?_ | refine blk_alloc ?_ _)); refine blk_far ?_ NB294_296.out _; (with_reducible repeat (first | refine blk_drewN ?_ _ | refine blk_drew ?_ | refine blk_alloc ?_ _)); refine blk_far ?_ NB294_296.out _; (with_reducible repeat (first | refine blk_drewN ?_ _ | refine blk_drew ?_ | refine blk_alloc ?_ _)); refine blk_far ?_ NB294_296.out _; (with_reducible repeat (first | refine blk_drewN ?_ _ | refine blk_drew ?_ | refine blk_alloc ?_ _)); refine blk_far ?_ NB294_296.out _; (with_reducible repeat (first | refine blk_drewN ?_ _ | refine blk_drew ?_ | refine blk_alloc ?_ _)); refine blk_far ?_ NB294_296.out _; (with_reducible repeat (first | refine blk_drewN ?_ _ | refine blk_drew ?_ | refine blk_alloc ?_ _)); exact BK294.out⟩, ⟨by (with_reducible repeat (first | refine blk_drewN ?_ _ | refine blk_drew ?_ | refine blk_alloc ?_ _)); refine blk_put (cs := #[.string ((rd_T48 l1_1 x5_2).f0), .slice A295_1 ((rd_T48 l1_1 x5_2).f1).length c295_1, .int .i64 ((rd_T48 l1_1 x5_2).f2), .slice A295_3 ((rd_T48 l1_1 x5_2).f3).length c295_3, .slice none 0 0]) ?_ 4 _ rfl; (with_reducible repeat (first | refine blk_drewN ?_ _ | refine blk_drew ?_ | refine blk_alloc ?_ _)); refine blk_put (cs := #[.string ((rd_T48 l1_1 x5_2).f0), .slice A295_1 ((rd_T48 l1_1 x5_2).f1).length c295_1, .int .i64 ((rd_T48 l1_1 x5_2).f2), .slice none 0 0, .slice none 0 0]) ?_ 3 _ rfl; (with_reducible repeat (first | refine blk_drewN ?_ _ | refine blk_drew ?_ | refine blk_alloc ?_ _)); refine blk_put (cs := #[.string ((rd_T48 l1_1 x5_2).f0), .slice A295_1 ((rd_T48 l1_1 x5_2).f1).length c295_1, .int .i64 0, .slice none 0 0, .slice none 0 0]) ?_ 2 _ rfl; (with_reducible repeat (first | refine blk_drewN ?_ _ | refine blk_drew ?_ | refine blk_alloc ?_ _)); refine blk_put (cs := #[.string ((rd_T48 l1_1 x5_2).f0), .slice none 0 0, .int .i64 0, .slice none 0 0, .slice none 0 0]) ?_ 1 _ rfl; (with_reducible repeat (first | refine blk_drewN ?_ _ | refine blk_drew ?_ | refine blk_alloc ?_ _)); refine blk_put (cs := #[.string (⟨#[]⟩ : ByteArray), .slice none 0 0, .int .i64 0, .slice none 0 0, .slice none 0 0]) ?_ 0 _ rfl; (with_reducible repeat (first | refine blk_drewN ?_ _ | refine blk_drew ?_ | refine blk_alloc ?_ _)); exact BK296.out⟩, ⟨by repeat (first | (with_reducible first | exact HB.out | apply below_alloc | apply pw_below_drewN | apply below_drew1 | refine below_set ?_ GE290.out | refine below_set ?_ GE291.out | refine below_set ?_ GE294.out | refine below_set ?_ GE296.out) | exact HB.out)⟩⟩
                  case rest =>
                    clear HC22
                    try clear c1
                    try clear c2
                    try clear p2
                    try clear q2
                    try clear hx2
                    try clear c3
                    try clear c4
                    try clear c5
                    try clear c6
                    try clear c7
                    try clear c8
                    try clear c14
                    try clear c16
                    try clear c18
                    try clear c19
                    try clear c19b0
                    try clear c20
                    try clear c20b0
                    try clear c21
                    try clear c21b0
                    try clear c23
                    try clear c26
                    try clear c27
                    try clear c29
                    try clear p29
                    try clear q29
                    try clear hx29
                    try clear c31
                    try clear c32
                    try clear c33
                    try clear c35
                    try clear c35b0
                    try clear c35b1
                    try clear c36
                    try clear c36b0
                    try clear c36b1
                    try clear c38
                    try clear c40
                    try clear c41
                    try clear c42
                    try clear c43
                    try clear c45
                    try clear c46
                    try clear c48
                    try clear c49
                    try clear c50
                    try clear c52
                    try clear c53
                    try clear c55
                    try clear c56
                    try clear c57
                    try clear c59
                    try clear c60
                    try clear c62
                    try clear c63
                    try clear c64
                    try clear c66
                    try clear c67
                    try clear c69
                    try clear c70
                    try clear c71
                    try clear c73
                    try clear c74
                    try clear hcz10_0
                    try clear hcz10_1
                    try clear hcz12_0
                    try clear hcz12_1
                    try clear hcz13_0
                    try clear hcz13_1
                    try clear hcz15_0
                    try clear hcz15_1
                    try clear hcz16_0
                    try clear hcz16_1
                    try clear hcz24_0
                    try clear hcz24_1
                    try clear hcz28_0
                    try clear hcz28_1
                    try clear hcz28_2
                    try clear hcz28_3
                    try clear hcz28_4
                    try clear hcz29_0
                    try clear hcz29_1
                    try clear hcz34_0
                    try clear hcz34_1
                    try clear hcz34_2
                    try clear hcz34_3
                    try clear hcz34_4
                    try clear hcz44_0
                    try clear hcz44_1
                    try clear hcz44_2
                    try clear hcz44_3
                    try clear hcz44_4
                    try clear hcz47_0
                    try clear hcz47_1
                    try clear hcz47_2
                    try clear hcz47_3
                    try clear hcz47_4
                    try clear hcz51_0
                    try clear hcz51_1
                    try clear hcz51_2
                    try clear hcz51_3
                    try clear hcz51_4
                    try clear hcz54_0
                    try clear hcz54_1
                    try clear hcz54_2
                    try clear hcz54_3
                    try clear hcz54_4
                    try clear hcz58_0
                    try clear hcz58_1
                    try clear hcz58_2
                    try clear hcz58_3
                    try clear hcz58_4
                    try clear hcz61_0
                    try clear hcz61_1
                    try clear hcz61_2
                    try clear hcz61_3
                    try clear hcz61_4
                    try clear hcz65_0
                    try clear hcz65_1
                    try clear hcz65_2
                    try clear hcz65_3
                    try clear hcz65_4
                    try clear hcz68_0
                    try clear hcz68_1
                    try clear hcz68_2
                    try clear hcz68_3
                    try clear hcz68_4
                    try clear hcz72_0
                    try clear hcz72_1
                    try clear hcz72_2
                    try clear hcz72_3
                    try clear hcz72_4
                    try clear hcz75_0
                    try clear hcz75_1
                    try clear hcz75_2
                    try clear hcz75_3
                    try clear hcz75_4
                    try clear hcz9_0
                    try clear hcz9_1
                    try clear hfz10_0
                    try clear hfz10_1
                    try clear hfz12_0
                    try clear hfz12_1
                    try clear hfz13_0
                    try clear hfz13_1
                    try clear hfz15_0
                    try clear hfz15_1
                    try clear hfz16_0
                    try clear hfz16_1
                    try clear hfz24_0
                    try clear hfz24_1
                    try clear hfz28_0
                    try clear hfz28_1
                    try clear hfz28_2
                    try clear hfz28_3
                    try clear hfz28_4
                    try clear hfz29_0
                    try clear hfz29_1
                    try clear hfz34_0
                    try clear hfz34_1
                    try clear hfz34_2
                    try clear hfz34_3
                    try clear hfz34_4
                    try clear hfz44_0
                    try clear hfz44_1
                    try clear hfz44_2
                    try clear hfz44_3
                    try clear hfz44_4
                    try clear hfz47_0
                    try clear hfz47_1
                    try clear hfz47_2
                    try clear hfz47_3
                    try clear hfz47_4
                    try clear hfz51_0
                    try clear hfz51_1
                    try clear hfz51_2
                    try clear hfz51_3
                    try clear hfz51_4
                    try clear hfz54_0
                    try clear hfz54_1
                    try clear hfz54_2
                    try clear hfz54_3
                    try clear hfz54_4
                    try clear hfz58_0
                    try clear hfz58_1
                    try clear hfz58_2
                    try clear hfz58_3
                    try clear hfz58_4
                    try clear hfz61_0
                    try clear hfz61_1
                    try clear hfz61_2
                    try clear hfz61_3
                    try clear hfz61_4
                    try clear hfz65_0
                    try clear hfz65_1
                    try clear hfz65_2
                    try clear hfz65_3
                    try clear hfz65_4
                    try clear hfz68_0
                    try clear hfz68_1
                    try clear hfz68_2
                    try clear hfz68_3
                    try clear hfz68_4
                    try clear hfz72_0
                    try clear hfz72_1
                    try clear hfz72_2
                    try clear hfz72_3
                    try clear hfz72_4
                    try clear hfz75_0
                    try clear hfz75_1
                    try clear hfz75_2
                    try clear hfz75_3
                    try clear hfz75_4
                    try clear hfz9_0
                    try clear hfz9_1
                    try clear hx293_0
                    try clear hx293_1
                    try clear hx293_2
                    try clear hx293_3
                    try clear hx293_4
                    try clear hx295_0
                    try clear hx295_1
                    try clear hx295_2
                    try clear hx295_3
                    try clear hx295_4
                    try clear p2
                    try clear p293
                    try clear p295
                    try clear q293
                    try clear q295
                    obtain ⟨kq, x77_21, rfl, HA, HJ21, BK290, BK291, BK294, BK296, HB⟩ := hcut
                    cases kq with
                    | zero => exact absurd HA.out (by simp [windrowref13_Same.j2])
                    | succ kj21 =>
                      have H := HA.out
                      clear HA
                      simp only [windrowref13_Same.j2] at H
                      by_cases c76 : x77_21 = true
                      · subst c76
                        have H1 : (some false) = some r := by rw [if_pos rfl] at H; exact H
                        clear H
                        have H := H1
                        clear H1
                        obtain rfl := Option.some.inj H
                        go_wp2
                        repeat (go_quiet (fail); try go_wp2)
                        go_ret
                        exact ⟨by first | rfl | (simp [errW_none, errW_some] <;> rfl) | (simp [*, errW_none, errW_some] <;> rfl), by repeat (first | (with_reducible first | exact HB.out | apply below_alloc | apply pw_below_drewN | apply below_drew1 | refine below_set ?_ GE290.out | refine below_set ?_ GE291.out | refine below_set ?_ GE294.out | refine below_set ?_ GE296.out) | exact HB.out)⟩
                      · replace c76 := Bool.eq_false_iff.mpr c76
                        subst c76
                        have H1 : (windrowref13_Same.l1 kj21 x5_2 0 l0_0 l0_1 l1_0 l1_1 ((rd_T48 l0_1 x5_2).f0) ((rd_T48 l0_1 x5_2).f1) ((rd_T48 l0_1 x5_2).f2) ((rd_T48 l0_1 x5_2).f3) ((rd_T48 l0_1 x5_2).f4) ((rd_T48 l1_1 x5_2).f0) ((rd_T48 l1_1 x5_2).f1) ((rd_T48 l1_1 x5_2).f2) ((rd_T48 l1_1 x5_2).f3) ((rd_T48 l1_1 x5_2).f4)) = some r := by rw [if_neg (show ¬ (false = true) by decide)] at H; exact H
                        clear H
                        have H := H1
                        clear H1
                        have H' := Aside0.mk H
                        clear H
                        go_wp2
                        repeat (go_quiet (fail); try go_wp2)
                        go_loopg [8] kj21 (fun kq v8 w' => ∃ (x8_4 : Int), v8 = .int .i64 x8_4 ∧ Aside0 (windrowref13_Same.l1 kq x5_2 x8_4 l0_0 l0_1 l1_0 l1_1 ((rd_T48 l0_1 x5_2).f0) ((rd_T48 l0_1 x5_2).f1) ((rd_T48 l0_1 x5_2).f2) ((rd_T48 l0_1 x5_2).f3) ((rd_T48 l0_1 x5_2).f4) ((rd_T48 l1_1 x5_2).f0) ((rd_T48 l1_1 x5_2).f1) ((rd_T48 l1_1 x5_2).f2) ((rd_T48 l1_1 x5_2).f3) ((rd_T48 l1_1 x5_2).f4) = some r) ∧ Aside0 (kq ≤ kj21) ∧ Aside0 (w'.heap[gb290]? = some (.cells #[(.slice A0_0 l0_0.length c0_0), (.slice (some ad293) l0_1.length c0_1)] 29 (0, 0))) ∧ Aside0 (w'.heap[gb291]? = some (.cells #[(.slice A1_0 l1_0.length c1_0), (.slice (some ad295) l1_1.length c1_1)] 29 (0, 0))) ∧ Aside0 (w'.heap[gb294]? = some (.cells #[.string ((rd_T48 l0_1 x5_2).f0), (.slice A293_1 ((rd_T48 l0_1 x5_2).f1).length c293_1), .int .i64 ((rd_T48 l0_1 x5_2).f2), (.slice A293_3 ((rd_T48 l0_1 x5_2).f3).length c293_3), (.slice A293_4 ((rd_T48 l0_1 x5_2).f4).length c293_4)] 48 (0, 0))) ∧ Aside0 (w'.heap[gb296]? = some (.cells #[.string ((rd_T48 l1_1 x5_2).f0), (.slice A295_1 ((rd_T48 l1_1 x5_2).f1).length c295_1), .int .i64 ((rd_T48 l1_1 x5_2).f2), (.slice A295_3 ((rd_T48 l1_1 x5_2).f3).length c295_3), (.slice A295_4 ((rd_T48 l1_1 x5_2).f4).length c295_4)] 48 (0, 0))) ∧ Aside0 (Below w.heap.size w w'))
                        case atStart => exact ⟨(0), (by first | rfl | (simp; done) | (simp [*]; done)), H', ⟨Nat.le_refl _⟩, ⟨by (with_reducible repeat (first | refine blk_drewN ?_ _ | refine blk_drew ?_ | refine blk_alloc ?_ _)); exact BK290.out⟩, ⟨by (with_reducible repeat (first | refine blk_drewN ?_ _ | refine blk_drew ?_ | refine blk_alloc ?_ _)); exact BK291.out⟩, ⟨by (with_reducible repeat (first | refine blk_drewN ?_ _ | refine blk_drew ?_ | refine blk_alloc ?_ _)); exact BK294.out⟩, ⟨by (with_reducible repeat (first | refine blk_drewN ?_ _ | refine blk_drew ?_ | refine blk_alloc ?_ _)); exact BK296.out⟩, ⟨by repeat (first | (with_reducible first | exact HB.out | apply below_alloc | apply pw_below_drewN | apply below_drew1 | refine below_set ?_ GE290.out | refine below_set ?_ GE291.out | refine below_set ?_ GE294.out | refine below_set ?_ GE296.out) | exact HB.out)⟩⟩
                        case round =>
                          clear H'
                          try clear c1
                          try clear c2
                          try clear p2
                          try clear q2
                          try clear hx2
                          try clear c3
                          try clear c4
                          try clear c5
                          try clear c6
                          try clear c7
                          try clear c8
                          try clear c14
                          try clear c16
                          try clear c18
                          try clear c19
                          try clear c19b0
                          try clear c20
                          try clear c20b0
                          try clear c21
                          try clear c21b0
                          try clear c23
                          try clear c26
                          try clear c27
                          try clear c29
                          try clear p29
                          try clear q29
                          try clear hx29
                          try clear c31
                          try clear c32
                          try clear c33
                          try clear c35
                          try clear c35b0
                          try clear c35b1
                          try clear c36
                          try clear c36b0
                          try clear c36b1
                          try clear c38
                          try clear c40
                          try clear c41
                          try clear c42
                          try clear c43
                          try clear c45
                          try clear c46
                          try clear c48
                          try clear c49
                          try clear c50
                          try clear c52
                          try clear c53
                          try clear c55
                          try clear c56
                          try clear c57
                          try clear c59
                          try clear c60
                          try clear c62
                          try clear c63
                          try clear c64
                          try clear c66
                          try clear c67
                          try clear c69
                          try clear c70
                          try clear c71
                          try clear c73
                          try clear c74
                          try clear c76
                          try clear hcz10_0
                          try clear hcz10_1
                          try clear hcz12_0
                          try clear hcz12_1
                          try clear hcz13_0
                          try clear hcz13_1
                          try clear hcz15_0
                          try clear hcz15_1
                          try clear hcz16_0
                          try clear hcz16_1
                          try clear hcz24_0
                          try clear hcz24_1
                          try clear hcz28_0
                          try clear hcz28_1
                          try clear hcz28_2
                          try clear hcz28_3
                          try clear hcz28_4
                          try clear hcz29_0
                          try clear hcz29_1
                          try clear hcz34_0
                          try clear hcz34_1
                          try clear hcz34_2
                          try clear hcz34_3
                          try clear hcz34_4
                          try clear hcz44_0
                          try clear hcz44_1
                          try clear hcz44_2
                          try clear hcz44_3
                          try clear hcz44_4
                          try clear hcz47_0
                          try clear hcz47_1
                          try clear hcz47_2
                          try clear hcz47_3
                          try clear hcz47_4
                          try clear hcz51_0
                          try clear hcz51_1
                          try clear hcz51_2
                          try clear hcz51_3
                          try clear hcz51_4
                          try clear hcz54_0
                          try clear hcz54_1
                          try clear hcz54_2
                          try clear hcz54_3
                          try clear hcz54_4
                          try clear hcz58_0
                          try clear hcz58_1
                          try clear hcz58_2
                          try clear hcz58_3
                          try clear hcz58_4
                          try clear hcz61_0
                          try clear hcz61_1
                          try clear hcz61_2
                          try clear hcz61_3
                          try clear hcz61_4
                          try clear hcz65_0
                          try clear hcz65_1
                          try clear hcz65_2
                          try clear hcz65_3
                          try clear hcz65_4
                          try clear hcz68_0
                          try clear hcz68_1
                          try clear hcz68_2
                          try clear hcz68_3
                          try clear hcz68_4
                          try clear hcz72_0
                          try clear hcz72_1
                          try clear hcz72_2
                          try clear hcz72_3
                          try clear hcz72_4
                          try clear hcz75_0
                          try clear hcz75_1
                          try clear hcz75_2
                          try clear hcz75_3
                          try clear hcz75_4
                          try clear hcz9_0
                          try clear hcz9_1
                          try clear hfz10_0
                          try clear hfz10_1
                          try clear hfz12_0
                          try clear hfz12_1
                          try clear hfz13_0
                          try clear hfz13_1
                          try clear hfz15_0
                          try clear hfz15_1
                          try clear hfz16_0
                          try clear hfz16_1
                          try clear hfz24_0
                          try clear hfz24_1
                          try clear hfz28_0
                          try clear hfz28_1
                          try clear hfz28_2
                          try clear hfz28_3
                          try clear hfz28_4
                          try clear hfz29_0
                          try clear hfz29_1
                          try clear hfz34_0
                          try clear hfz34_1
                          try clear hfz34_2
                          try clear hfz34_3
                          try clear hfz34_4
                          try clear hfz44_0
                          try clear hfz44_1
                          try clear hfz44_2
                          try clear hfz44_3
                          try clear hfz44_4
                          try clear hfz47_0
                          try clear hfz47_1
                          try clear hfz47_2
                          try clear hfz47_3
                          try clear hfz47_4
                          try clear hfz51_0
                          try clear hfz51_1
                          try clear hfz51_2
                          try clear hfz51_3
                          try clear hfz51_4
                          try clear hfz54_0
                          try clear hfz54_1
                          try clear hfz54_2
                          try clear hfz54_3
                          try clear hfz54_4
                          try clear hfz58_0
                          try clear hfz58_1
                          try clear hfz58_2
                          try clear hfz58_3
                          try clear hfz58_4
                          try clear hfz61_0
                          try clear hfz61_1
                          try clear hfz61_2
                          try clear hfz61_3
                          try clear hfz61_4
                          try clear hfz65_0
                          try clear hfz65_1
                          try clear hfz65_2
                          try clear hfz65_3
                          try clear hfz65_4
                          try clear hfz68_0
                          try clear hfz68_1
                          try clear hfz68_2
                          try clear hfz68_3
                          try clear hfz68_4
                          try clear hfz72_0
                          try clear hfz72_1
                          try clear hfz72_2
                          try clear hfz72_3
                          try clear hfz72_4
                          try clear hfz75_0
                          try clear hfz75_1
                          try clear hfz75_2
                          try clear hfz75_3
                          try clear hfz75_4
                          try clear hfz9_0
                          try clear hfz9_1
                          try clear hx293_0
                          try clear hx293_1
                          try clear hx293_2
                          try clear hx293_3
                          try clear hx293_4
                          try clear hx295_0
                          try clear hx295_1
                          try clear hx295_2
                          try clear hx295_3
                          try clear hx295_4
                          try clear p2
                          try clear p29
                          try clear p293
                          try clear p295
                          try clear q2
                          try clear q29
                          try clear q293
                          try clear q295
                          obtain ⟨x8_4, rfl, HA, HK4, BK290, BK291, BK294, BK296, HB⟩ := hrel
                          cases gk with
                          | zero => exact absurd HA.out (by simp [windrowref13_Same.l1])
                          | succ k4 =>
                            have H := HA.out
                            clear HA
                            simp only [windrowref13_Same.l1] at H
                            by_cases c77 : x8_4 < (((rd_T48 l0_1 x5_2).f4).length : Int)
                            · rw [if_pos c77] at H
                              have c77b0 : decide (x8_4 < (((rd_T48 l0_1 x5_2).f4).length : Int)) = true := decide_eq_true c77
                              clear c77
                              by_cases c78 : 0 ≤ x8_4
                              · rw [if_pos c78] at H
                                have c78b0 : decide (0 ≤ x8_4) = true := decide_eq_true c78
                                clear c78
                                by_cases c79 : x8_4 < (((rd_T48 l1_1 x5_2).f4).length : Int)
                                · rw [if_pos c79] at H
                                  have c79b0 : decide (x8_4 < (((rd_T48 l1_1 x5_2).f4).length : Int)) = true := decide_eq_true c79
                                  clear c79
                                  by_cases c80 : (!(((rd_T23 ((rd_T48 l0_1 x5_2).f4) x8_4).f0) == ((rd_T23 ((rd_T48 l1_1 x5_2).f4) x8_4).f0)) || (!(((rd_T23 ((rd_T48 l0_1 x5_2).f4) x8_4).f1) == ((rd_T23 ((rd_T48 l1_1 x5_2).f4) x8_4).f1)) || (!(((rd_T23 ((rd_T48 l0_1 x5_2).f4) x8_4).f2) == ((rd_T23 ((rd_T48 l1_1 x5_2).f4) x8_4).f2))))) = true
                                  · rw [if_pos c80] at H
                                    have c80b0 : (!(((rd_T23 ((rd_T48 l0_1 x5_2).f4) x8_4).f0) == ((rd_T23 ((rd_T48 l1_1 x5_2).f4) x8_4).f0)) || (!(((rd_T23 ((rd_T48 l0_1 x5_2).f4) x8_4).f1) == ((rd_T23 ((rd_T48 l1_1 x5_2).f4) x8_4).f1)) || (!(((rd_T23 ((rd_T48 l0_1 x5_2).f4) x8_4).f2) == ((rd_T23 ((rd_T48 l1_1 x5_2).f4) x8_4).f2))))) = true := c80
                                    clear c80
                                    obtain rfl := Option.some.inj H
                                    have hnb81 := NB294_290.out
                                    have hnc81 := NB290_294.out
                                    have hnb82 := NB294_291.out
                                    have hnc82 := NB291_294.out
                                    have hnb83 := NB294_296.out
                                    have hnc83 := NB296_294.out
                                    have hcz84_0 : wr.cell? ⟨gb294, 0, none⟩ = some (.string ((rd_T48 l0_1 x5_2).f0)) := (blk_cell BK294.out 0).trans rfl
                                    have hcz84_1 : wr.cell? ⟨gb294, 1, none⟩ = some (.slice A293_1 ((rd_T48 l0_1 x5_2).f1).length c293_1) := (blk_cell BK294.out 1).trans rfl
                                    have hcz84_2 : wr.cell? ⟨gb294, 2, none⟩ = some (.int .i64 ((rd_T48 l0_1 x5_2).f2)) := (blk_cell BK294.out 2).trans rfl
                                    have hcz84_3 : wr.cell? ⟨gb294, 3, none⟩ = some (.slice A293_3 ((rd_T48 l0_1 x5_2).f3).length c293_3) := (blk_cell BK294.out 3).trans rfl
                                    have hcz84_4 : wr.cell? ⟨gb294, 4, none⟩ = some (.slice A293_4 ((rd_T48 l0_1 x5_2).f4).length c293_4) := (blk_cell BK294.out 4).trans rfl
                                    have hfz84_0 := blk_frozen BK294.out 0
                                    have hfz84_1 := blk_frozen BK294.out 1
                                    have hfz84_2 := blk_frozen BK294.out 2
                                    have hfz84_3 := blk_frozen BK294.out 3
                                    have hfz84_4 := blk_frozen BK294.out 4
                                    have p299 : 0 ≤ (x8_4 : Int) := of_decide_eq_true (by first | (with_reducible assumption) | assumption)
                                    have q299 : x8_4 < (((rd_T48 l0_1 x5_2).f4).length : Int) := of_decide_eq_true (by first | (with_reducible assumption) | assumption)
                                    obtain ⟨ad299, e299, hx299_0, hx299_1, hx299_2⟩ := at_T23 HR293_4.out x8_4 p299 q299
                                    cases e299
                                    replace hx299_0 := (HB.out.cell (World.block_lt_of_cell? w _ hx299_0)).trans hx299_0
                                    replace hx299_1 := (HB.out.cell (World.block_lt_of_cell? w _ hx299_1)).trans hx299_1
                                    replace hx299_2 := (HB.out.cell (World.block_lt_of_cell? w _ hx299_2)).trans hx299_2
                                    replace p299 := eq_true p299
                                    replace q299 := eq_true q299
                                    have hnb85 := NB296_290.out
                                    have hnc85 := NB290_296.out
                                    have hnb86 := NB296_291.out
                                    have hnc86 := NB291_296.out
                                    have hcz87_0 : wr.cell? ⟨gb296, 0, none⟩ = some (.string ((rd_T48 l1_1 x5_2).f0)) := (blk_cell BK296.out 0).trans rfl
                                    have hcz87_1 : wr.cell? ⟨gb296, 1, none⟩ = some (.slice A295_1 ((rd_T48 l1_1 x5_2).f1).length c295_1) := (blk_cell BK296.out 1).trans rfl
                                    have hcz87_2 : wr.cell? ⟨gb296, 2, none⟩ = some (.int .i64 ((rd_T48 l1_1 x5_2).f2)) := (blk_cell BK296.out 2).trans rfl
                                    have hcz87_3 : wr.cell? ⟨gb296, 3, none⟩ = some (.slice A295_3 ((rd_T48 l1_1 x5_2).f3).length c295_3) := (blk_cell BK296.out 3).trans rfl
                                    have hcz87_4 : wr.cell? ⟨gb296, 4, none⟩ = some (.slice A295_4 ((rd_T48 l1_1 x5_2).f4).length c295_4) := (blk_cell BK296.out 4).trans rfl
                                    have hfz87_0 := blk_frozen BK296.out 0
                                    have hfz87_1 := blk_frozen BK296.out 1
                                    have hfz87_2 := blk_frozen BK296.out 2
                                    have hfz87_3 := blk_frozen BK296.out 3
                                    have hfz87_4 := blk_frozen BK296.out 4
                                    have p300 : 0 ≤ (x8_4 : Int) := of_decide_eq_true (by first | (with_reducible assumption) | assumption)
                                    have q300 : x8_4 < (((rd_T48 l1_1 x5_2).f4).length : Int) := of_decide_eq_true (by first | (with_reducible assumption) | assumption)
                                    obtain ⟨ad300, e300, hx300_0, hx300_1, hx300_2⟩ := at_T23 HR295_4.out x8_4 p300 q300
                                    cases e300
                                    replace hx300_0 := (HB.out.cell (World.block_lt_of_cell? w _ hx300_0)).trans hx300_0
                                    replace hx300_1 := (HB.out.cell (World.block_lt_of_cell? w _ hx300_1)).trans hx300_1
                                    replace hx300_2 := (HB.out.cell (World.block_lt_of_cell? w _ hx300_2)).trans hx300_2
                                    replace p300 := eq_true p300
                                    replace q300 := eq_true q300
                                    go_wp2
                                    repeat (go_quiet (fail); try go_wp2)
                                    go_ret
                                    exact ⟨by first | rfl | (simp [errW_none, errW_some] <;> rfl) | (simp [*, errW_none, errW_some] <;> rfl), by repeat (first | (with_reducible first | exact HB.out | apply below_alloc | apply pw_below_drewN | apply below_drew1 | refine below_set ?_ GE290.out | refine below_set ?_ GE291.out | refine below_set ?_ GE294.out | refine below_set ?_ GE296.out) | exact HB.out)⟩
                                  · rw [if_neg c80] at H
                                    have c80b0 : (!(((rd_T23 ((rd_T48 l0_1 x5_2).f4) x8_4).f0) == ((rd_T23 ((rd_T48 l1_1 x5_2).f4) x8_4).f0)) || (!(((rd_T23 ((rd_T48 l0_1 x5_2).f4) x8_4).f1) == ((rd_T23 ((rd_T48 l1_1 x5_2).f4) x8_4).f1)) || (!(((rd_T23 ((rd_T48 l0_1 x5_2).f4) x8_4).f2) == ((rd_T23 ((rd_T48 l1_1 x5_2).f4) x8_4).f2))))) = false := by simpa using c80
                                    clear c80
                                    have H' := Aside0.mk H
                                    clear H
                                    have hnb88 := NB294_290.out
                                    have hnc88 := NB290_294.out
                                    have hnb89 := NB294_291.out
                                    have hnc89 := NB291_294.out
                                    have hnb90 := NB294_296.out
                                    have hnc90 := NB296_294.out
                                    have hcz91_0 : wr.cell? ⟨gb294, 0, none⟩ = some (.string ((rd_T48 l0_1 x5_2).f0)) := (blk_cell BK294.out 0).trans rfl
                                    have hcz91_1 : wr.cell? ⟨gb294, 1, none⟩ = some (.slice A293_1 ((rd_T48 l0_1 x5_2).f1).length c293_1) := (blk_cell BK294.out 1).trans rfl
                                    have hcz91_2 : wr.cell? ⟨gb294, 2, none⟩ = some (.int .i64 ((rd_T48 l0_1 x5_2).f2)) := (blk_cell BK294.out 2).trans rfl
                                    have hcz91_3 : wr.cell? ⟨gb294, 3, none⟩ = some (.slice A293_3 ((rd_T48 l0_1 x5_2).f3).length c293_3) := (blk_cell BK294.out 3).trans rfl
                                    have hcz91_4 : wr.cell? ⟨gb294, 4, none⟩ = some (.slice A293_4 ((rd_T48 l0_1 x5_2).f4).length c293_4) := (blk_cell BK294.out 4).trans rfl
                                    have hfz91_0 := blk_frozen BK294.out 0
                                    have hfz91_1 := blk_frozen BK294.out 1
                                    have hfz91_2 := blk_frozen BK294.out 2
                                    have hfz91_3 := blk_frozen BK294.out 3
                                    have hfz91_4 := blk_frozen BK294.out 4
                                    have p299 : 0 ≤ (x8_4 : Int) := of_decide_eq_true (by first | (with_reducible assumption) | assumption)
                                    have q299 : x8_4 < (((rd_T48 l0_1 x5_2).f4).length : Int) := of_decide_eq_true (by first | (with_reducible assumption) | assumption)
                                    obtain ⟨ad299, e299, hx299_0, hx299_1, hx299_2⟩ := at_T23 HR293_4.out x8_4 p299 q299
                                    cases e299
                                    replace hx299_0 := (HB.out.cell (World.block_lt_of_cell? w _ hx299_0)).trans hx299_0
                                    replace hx299_1 := (HB.out.cell (World.block_lt_of_cell? w _ hx299_1)).trans hx299_1
                                    replace hx299_2 := (HB.out.cell (World.block_lt_of_cell? w _ hx299_2)).trans hx299_2
                                    replace p299 := eq_true p299
                                    replace q299 := eq_true q299
                                    have hnb92 := NB296_290.out
                                    have hnc92 := NB290_296.out
                                    have hnb93 := NB296_291.out
                                    have hnc93 := NB291_296.out
                                    have hcz94_0 : wr.cell? ⟨gb296, 0, none⟩ = some (.string ((rd_T48 l1_1 x5_2).f0)) := (blk_cell BK296.out 0).trans rfl
                                    have hcz94_1 : wr.cell? ⟨gb296, 1, none⟩ = some (.slice A295_1 ((rd_T48 l1_1 x5_2).f1).length c295_1) := (blk_cell BK296.out 1).trans rfl
                                    have hcz94_2 : wr.cell? ⟨gb296, 2, none⟩ = some (.int .i64 ((rd_T48 l1_1 x5_2).f2)) := (blk_cell BK296.out 2).trans rfl
                                    have hcz94_3 : wr.cell? ⟨gb296, 3, none⟩ = some (.slice A295_3 ((rd_T48 l1_1 x5_2).f3).length c295_3) := (blk_cell BK296.out 3).trans rfl
                                    have hcz94_4 : wr.cell? ⟨gb296, 4, none⟩ = some (.slice A295_4 ((rd_T48 l1_1 x5_2).f4).length c295_4) := (blk_cell BK296.out 4).trans rfl
                                    have hfz94_0 := blk_frozen BK296.out 0
                                    have hfz94_1 := blk_frozen BK296.out 1
                                    have hfz94_2 := blk_frozen BK296.out 2
                                    have hfz94_3 := blk_frozen BK296.out 3
                                    have hfz94_4 := blk_frozen BK296.out 4
                                    have p300 : 0 ≤ (x8_4 : Int) := of_decide_eq_true (by first | (with_reducible assumption) | assumption)
                                    have q300 : x8_4 < (((rd_T48 l1_1 x5_2).f4).length : Int) := of_decide_eq_true (by first | (with_reducible assumption) | assumption)
                                    obtain ⟨ad300, e300, hx300_0, hx300_1, hx300_2⟩ := at_T23 HR295_4.out x8_4 p300 q300
                                    cases e300
                                    replace hx300_0 := (HB.out.cell (World.block_lt_of_cell? w _ hx300_0)).trans hx300_0
                                    replace hx300_1 := (HB.out.cell (World.block_lt_of_cell? w _ hx300_1)).trans hx300_1
                                    replace hx300_2 := (HB.out.cell (World.block_lt_of_cell? w _ hx300_2)).trans hx300_2
                                    replace p300 := eq_true p300
                                    replace q300 := eq_true q300
                                    go_wp2
                                    repeat (go_quiet (fail); try go_wp2)
                                    go_roundg k4
                                    case measure => have := HJ2.out; have := HK2.out; have := HJ21.out; have := HK4.out; omega
                                    case rel => exact ⟨(wrap64 (x8_4 + 1)), (by first | rfl | (simp; done) | (simp [*]; done)), H', ⟨by have := HJ2.out; have := HK2.out; have := HJ21.out; have := HK4.out; omega⟩, ⟨by (with_reducible repeat (first | refine blk_drewN ?_ _ | refine blk_drew ?_ | refine blk_alloc ?_ _)); exact BK290.out⟩, ⟨by (with_reducible repeat (first | refine blk_drewN ?_ _ | refine blk_drew ?_ | refine blk_alloc ?_ _)); exact BK291.out⟩, ⟨by (with_reducible repeat (first | refine blk_drewN ?_ _ | refine blk_drew ?_ | refine blk_alloc ?_ _)); exact BK294.out⟩, ⟨by (with_reducible repeat (first | refine blk_drewN ?_ _ | refine blk_drew ?_ | refine blk_alloc ?_ _)); exact BK296.out⟩, ⟨by repeat (first | (with_reducible first | exact HB.out | apply below_alloc | apply pw_below_drewN | apply below_drew1 | refine below_set ?_ GE290.out | refine below_set ?_ GE291.out | refine below_set ?_ GE294.out | refine below_set ?_ GE296.out) | exact HB.out)⟩⟩
                                · rw [if_neg c79] at H
                                  exact absurd H (by simp)
                              · rw [if_neg c78] at H
                                exact absurd H (by simp)
                            · rw [if_neg c77] at H
                              have c77b0 : decide (x8_4 < (((rd_T48 l0_1 x5_2).f4).length : Int)) = false := decide_eq_false c77
                              clear c77
                              have H' := Aside0.mk H
                              clear H
                              have hnb95 := NB294_290.out
                              have hnc95 := NB290_294.out
                              have hnb96 := NB294_291.out
                              have hnc96 := NB291_294.out
                              have hnb97 := NB294_296.out
                              have hnc97 := NB296_294.out
                              have hcz98_0 : wr.cell? ⟨gb294, 0, none⟩ = some (.string ((rd_T48 l0_1 x5_2).f0)) := (blk_cell BK294.out 0).trans rfl
                              have hcz98_1 : wr.cell? ⟨gb294, 1, none⟩ = some (.slice A293_1 ((rd_T48 l0_1 x5_2).f1).length c293_1) := (blk_cell BK294.out 1).trans rfl
                              have hcz98_2 : wr.cell? ⟨gb294, 2, none⟩ = some (.int .i64 ((rd_T48 l0_1 x5_2).f2)) := (blk_cell BK294.out 2).trans rfl
                              have hcz98_3 : wr.cell? ⟨gb294, 3, none⟩ = some (.slice A293_3 ((rd_T48 l0_1 x5_2).f3).length c293_3) := (blk_cell BK294.out 3).trans rfl
                              have hcz98_4 : wr.cell? ⟨gb294, 4, none⟩ = some (.slice A293_4 ((rd_T48 l0_1 x5_2).f4).length c293_4) := (blk_cell BK294.out 4).trans rfl
                              have hfz98_0 := blk_frozen BK294.out 0
                              have hfz98_1 := blk_frozen BK294.out 1
                              have hfz98_2 := blk_frozen BK294.out 2
                              have hfz98_3 := blk_frozen BK294.out 3
                              have hfz98_4 := blk_frozen BK294.out 4
                              go_wp2
                              repeat (go_quiet (fail); try go_wp2)
                              go_roundg k4
                              case measure => have := HJ2.out; have := HK2.out; have := HJ21.out; have := HK4.out; omega
                              case rel => exact ⟨(wrap64 (x5_2 + 1)), (by first | rfl | (simp; done) | (simp [*]; done)), H', ⟨by have := HJ2.out; have := HK2.out; have := HJ21.out; have := HK4.out; omega⟩, ⟨by (with_reducible repeat (first | refine blk_drewN ?_ _ | refine blk_drew ?_ | refine blk_alloc ?_ _)); exact BK290.out⟩, ⟨by (with_reducible repeat (first | refine blk_drewN ?_ _ | refine blk_drew ?_ | refine blk_alloc ?_ _)); exact BK291.out⟩, ⟨by repeat (first | (with_reducible first | exact HB.out | apply below_alloc | apply pw_below_drewN | apply below_drew1 | refine below_set ?_ GE290.out | refine below_set ?_ GE291.out | refine below_set ?_ GE294.out | refine below_set ?_ GE296.out) | exact HB.out)⟩⟩
                · rw [if_neg c21] at H
                  exact absurd H (by simp)
              · rw [if_neg c20] at H
                exact absurd H (by simp)
            · rw [if_neg c19] at H
              have c19b0 : decide (x5_2 < (l0_1.length : Int)) = false := decide_eq_false c19
              clear c19
              obtain rfl := Option.some.inj H
              have hnb99 := NB290_291.out
              have hnc99 := NB291_290.out
              have hcz100_0 : wr.cell? ⟨gb290, 0, none⟩ = some (.slice A0_0 l0_0.length c0_0) := (blk_cell BK290.out 0).trans rfl
              have hcz100_1 : wr.cell? ⟨gb290, 1, none⟩ = some (.slice A0_1 l0_1.length c0_1) := (blk_cell BK290.out 1).trans rfl
              have hfz100_0 := blk_frozen BK290.out 0
              have hfz100_1 := blk_frozen BK290.out 1
              go_wp2
              repeat (go_quiet (fail); try go_wp2)
              go_ret
              exact ⟨by first | rfl | (simp [errW_none, errW_some] <;> rfl) | (simp [*, errW_none, errW_some] <;> rfl), by repeat (first | (with_reducible first | exact HB.out | apply below_alloc | apply pw_below_drewN | apply below_drew1 | refine below_set ?_ GE290.out | refine below_set ?_ GE291.out) | exact HB.out)⟩
end Go.Proofs.Ytakpdmkfengghaa.Q
