-- PRINTED by print.py (a twelfth state) out of the translation. Not trusted: Lean checks it.
import Derived.Test.YtakpdmkfengghaaQ0
namespace Go.Proofs.Ytakpdmkfengghaa.Q
open Go.RowKit Go.Proofs.YtakpdmkfengghaaW.PrintWords Go.Proofs.YtakpdmkfengghaaW.PrintLast Go.Proofs.YtakpdmkfengghaaW.PrintMore
attribute [local go_sem] max2_int min2_int max_two min_two max_three min_three max_four min_four   -- for this text's walks alone
set_option linter.unusedVariables false
set_option linter.unusedSimpArgs false

/-! ### windrowlaw13_light: function 11 -/
mutual
def windrowlaw13_light.j0 : Nat → Bool → List (S42) → List (S48) → Option (Bool)
  | 0, _, _, _ => none
  | k + 1, x14, x134000, x134001 => if x14 = true then (some false) else (windrowlaw13_light.l0 k 0 x134000 x134001)
def windrowlaw13_light.l0 : Nat → Int → List (S42) → List (S48) → Option (Bool)
  | 0, _, _, _ => none
  | k + 1, x3, x134000, x134001 => if x3 < (x134000.length : Int) then (if 0 ≤ x3 then (if (((rd_T42 x134000 x3).f1).length : Int) > 40 then (some false) else (windrowlaw13_light.l0 k (wrap64 (x3 + 1)) x134000 x134001)) else (none)) else (windrowlaw13_light.l1 k 0 x134000 x134001)
def windrowlaw13_light.l1 : Nat → Int → List (S42) → List (S48) → Option (Bool)
  | 0, _, _, _ => none
  | k + 1, x4, x134000, x134001 => if x4 < (x134001.length : Int) then (if 0 ≤ x4 then (if (((rd_T48 x134001 x4).f4).length : Int) > 400 then (some false) else (if (((rd_T48 x134001 x4).f1).length : Int) > 40 then (some false) else (if (((rd_T48 x134001 x4).f3).length : Int) > 40 then (some false) else (windrowlaw13_light.l1 k (wrap64 (x4 + 1)) x134000 x134001)))) else (none)) else (some true)
end
def windrowlaw13_light.f (k : Nat) (l0_0 : List (S42)) (l0_1 : List (S48)) : Option (Bool) := if (l0_0.length : Int) > 40 then (windrowlaw13_light.j0 k true l0_0 l0_1) else (windrowlaw13_light.j0 k (decide ((l0_1.length : Int) > 40)) l0_0 l0_1)
theorem windrowlaw13_light.mono_l : ∀ k, (∀ y0 y1 y2, LeO (windrowlaw13_light.j0 k y0 y1 y2) (windrowlaw13_light.j0 (k + 1) y0 y1 y2)) ∧ (∀ y0 y1 y2, LeO (windrowlaw13_light.l0 k y0 y1 y2) (windrowlaw13_light.l0 (k + 1) y0 y1 y2)) ∧ (∀ y0 y1 y2, LeO (windrowlaw13_light.l1 k y0 y1 y2) (windrowlaw13_light.l1 (k + 1) y0 y1 y2))
  | 0 => ⟨fun _ _ _ r h => by simp [windrowlaw13_light.j0] at h, fun _ _ _ r h => by simp [windrowlaw13_light.l0] at h, fun _ _ _ r h => by simp [windrowlaw13_light.l1] at h⟩
  | k + 1 => by
    obtain ⟨ih0, ih1, ih2⟩ := windrowlaw13_light.mono_l k;(refine ⟨?_, ?_, ?_⟩)
    · intro y0 y1 y2
      unfold windrowlaw13_light.j0
      repeat' first
      | (with_reducible exact ih0 _ _ _)
      | (with_reducible exact ih1 _ _ _)
      | (with_reducible exact ih2 _ _ _)
      | (with_reducible exact LeO.refl _)
      | (with_reducible exact LeO.none _)
      | (with_reducible refine LeO.ite ?_ ?_)
      | (with_reducible refine LeO.bind ?_ (fun _ => ?_))
      | exact ih0 _ _ _
      | exact ih1 _ _ _
      | exact ih2 _ _ _
      | exact LeO.none _
      | refine LeO.ite ?_ ?_
      | refine LeO.bind ?_ (fun _ => ?_)
    · intro y0 y1 y2
      unfold windrowlaw13_light.l0
      repeat' first
      | (with_reducible exact ih0 _ _ _)
      | (with_reducible exact ih1 _ _ _)
      | (with_reducible exact ih2 _ _ _)
      | (with_reducible exact LeO.refl _)
      | (with_reducible exact LeO.none _)
      | (with_reducible refine LeO.ite ?_ ?_)
      | (with_reducible refine LeO.bind ?_ (fun _ => ?_))
      | exact ih0 _ _ _
      | exact ih1 _ _ _
      | exact ih2 _ _ _
      | exact LeO.none _
      | refine LeO.ite ?_ ?_
      | refine LeO.bind ?_ (fun _ => ?_)
    · intro y0 y1 y2
      unfold windrowlaw13_light.l1
      repeat' first
      | (with_reducible exact ih0 _ _ _)
      | (with_reducible exact ih1 _ _ _)
      | (with_reducible exact ih2 _ _ _)
      | (with_reducible exact LeO.refl _)
      | (with_reducible exact LeO.none _)
      | (with_reducible refine LeO.ite ?_ ?_)
      | (with_reducible refine LeO.bind ?_ (fun _ => ?_))
      | exact ih0 _ _ _
      | exact ih1 _ _ _
      | exact ih2 _ _ _
      | exact LeO.none _
      | refine LeO.ite ?_ ?_
      | refine LeO.bind ?_ (fun _ => ?_)
theorem windrowlaw13_light.mono : ∀ a0 a1 k, LeO (windrowlaw13_light.f k a0 a1) (windrowlaw13_light.f (k + 1) a0 a1) := by
  intro a0 a1 k
  obtain ⟨ih0, ih1, ih2⟩ := windrowlaw13_light.mono_l k
  unfold windrowlaw13_light.f
  repeat' first
      | (with_reducible exact ih0 _ _ _)
      | (with_reducible exact ih1 _ _ _)
      | (with_reducible exact ih2 _ _ _)
      | (with_reducible exact LeO.refl _)
      | (with_reducible exact LeO.none _)
      | (with_reducible refine LeO.ite ?_ ?_)
      | (with_reducible refine LeO.bind ?_ (fun _ => ?_))
      | exact ih0 _ _ _
      | exact ih1 _ _ _
      | exact ih2 _ _ _
      | exact LeO.none _
      | refine LeO.ite ?_ ?_
      | refine LeO.bind ?_ (fun _ => ?_)
set_option maxHeartbeats 8000000 in
set_option maxRecDepth 100000 in
theorem windrowlaw13_light.calls (k : Nat) (A0_0 : Option Addr) (c0_0 : Nat) (l0_0 : List (S42)) (A0_1 : Option Addr) (c0_1 : Nat) (l0_1 : List (S48)) (r : Bool) (w : World) (hr0_0 : Kd.C k42 w A0_0 l0_0.length l0_0) (hc0_0 : l0_0.length ≤ c0_0) (hr0_1 : Kd.C k48 w A0_1 l0_1.length l0_1) (hc0_1 : l0_1.length ≤ c0_1) (h : windrowlaw13_light.f k l0_0 l0_1 = some r) :
    Calls Try.prog 11 #[.agg #[.slice A0_0 l0_0.length c0_0, .slice A0_1 l0_1.length c0_1]] w fun e w' => e = .returned (.bool r) ∧ Below w.heap.size w w' := by
  have hu29 := Try.underlying29
  have HR0_0 := Aside0.mk hr0_0
  have HC0_0 := Aside0.mk hc0_0
  clear hr0_0 hc0_0
  have HR0_1 := Aside0.mk hr0_1
  have HC0_1 := Aside0.mk hc0_1
  clear hr0_1 hc0_1
  have HB := Aside0.mk (Below.refl w.heap.size w)
  have H : (if (l0_0.length : Int) > 40 then (windrowlaw13_light.j0 k true l0_0 l0_1) else (windrowlaw13_light.j0 k (decide ((l0_1.length : Int) > 40)) l0_0 l0_1)) = some r := h
  clear h
  have HC2 := Aside0.mk H
  clear H
  go_enter Try.func11, Try.ntmps11
  go_upto_region 1 with (first | ((with_reducible refine gate_dst (N := 1) rfl ?_); (try (refine gate_guard (by rfl) ?_; dsimp only)); refine box_event ?hg (N := 1) ?hd (cs := #[.slice A0_0 l0_0.length c0_0, .slice A0_1 l0_1.length c0_1]) (t := 29) ?hr ?_; (case hd => rfl); (case hg => rfl); (case hr => first | (go_simp; done) | (go_simp; rfl)); intro gb133 hg w3 hbox hb; have n0_ := Aside0.mk (below_step (by repeat (first | (with_reducible first | exact HB.out | apply below_alloc | apply pw_below_drewN | apply below_drew1) | exact HB.out)) hb); have n1_ := Aside0.mk (hbox); have n2_ := Aside0.mk ((by rw [hg]; exact (below_size (by repeat (first | (with_reducible first | exact HB.out | apply below_alloc | apply pw_below_drewN | apply below_drew1) | exact HB.out))) : w.heap.size ≤ gb133)); have n3_ := Aside0.mk ((by rw [hg]; exact (below_size (by repeat (first | (with_reducible first | exact HB.out | apply below_alloc | apply pw_below_drewN | apply below_drew1) | exact HB.out))) : w.heap.size ≤ gb133)); clear HB; have HB := n0_; have BK133 := n1_; have GW133 := n2_; have GE133 := n3_; clear n0_ n1_ n2_ n3_; clear hb hbox hg))
  (try simp only [Act.put, List.setIfInBounds_toArray, List.set_cons_zero, List.set_cons_succ])
  go_cut [14] (fun v14 wc => ∃ (kq : Nat) (x14_1 : Bool), v14 = .bool x14_1 ∧ Aside0 (windrowlaw13_light.j0 kq x14_1 l0_0 l0_1 = some r) ∧ Aside0 (kq ≤ k) ∧ Aside0 (wc.heap[gb133]? = some (.cells #[(.slice A0_0 l0_0.length c0_0), (.slice A0_1 l0_1.length c0_1)] 29 (0, 0))) ∧ Aside0 (Below w.heap.size w wc))
  case first =>
    have H := HC2.out;clear HC2
    by_cases c4 : (l0_0.length : Int) > 40
    · rw [if_pos c4] at H
      have c4b0 : decide (40 < (l0_0.length : Int)) = true := decide_eq_true c4;(have c4b1 : decide (40 < l0_0.length) = true := decide_eq_true (by omega));clear c4;((first | rw [c4b0] | (simp only [i64_w, i32_w]; rw [c4b0]) | skip));have H' := Aside0.mk H;clear H;have hcz5_0 : w3.cell? ⟨gb133, 0, none⟩ = some (.slice A0_0 l0_0.length c0_0) := (blk_cell BK133.out 0).trans rfl;have hcz5_1 : w3.cell? ⟨gb133, 1, none⟩ = some (.slice A0_1 l0_1.length c0_1) := (blk_cell BK133.out 1).trans rfl;have hfz5_0 := blk_frozen BK133.out 0;have hfz5_1 := blk_frozen BK133.out 1;(go_wp2);(go_meet)
      case rel => exact ⟨_, (true), (by first | rfl | (simp; done) | (simp [*]; done)), H', ⟨by first | omega | exact Nat.le_refl _⟩, ⟨by (with_reducible repeat (first | refine blk_drewN ?_ _ | refine blk_drew ?_ | refine blk_alloc ?_ _)); exact BK133.out⟩, ⟨by repeat (first | (with_reducible first | exact HB.out | apply below_alloc | apply pw_below_drewN | apply below_drew1 | refine below_set ?_ GE133.out) | exact HB.out)⟩⟩
    · rw [if_neg c4] at H
      have c4b0 : decide (40 < (l0_0.length : Int)) = false := decide_eq_false c4;(have c4b1 : decide (40 < l0_0.length) = false := decide_eq_false (by omega));clear c4;((first | rw [c4b0] | (simp only [i64_w, i32_w]; rw [c4b0]) | skip));have H' := Aside0.mk H;clear H;have hcz6_0 : w3.cell? ⟨gb133, 0, none⟩ = some (.slice A0_0 l0_0.length c0_0) := (blk_cell BK133.out 0).trans rfl;have hcz6_1 : w3.cell? ⟨gb133, 1, none⟩ = some (.slice A0_1 l0_1.length c0_1) := (blk_cell BK133.out 1).trans rfl;have hfz6_0 := blk_frozen BK133.out 0;have hfz6_1 := blk_frozen BK133.out 1;(go_wp2);(go_meet)
      case rel => exact ⟨_, (decide ((l0_1.length : Int) > 40)), (by first | rfl | (simp; done) | (simp [*]; done)), H', ⟨by first | omega | exact Nat.le_refl _⟩, ⟨by (with_reducible repeat (first | refine blk_drewN ?_ _ | refine blk_drew ?_ | refine blk_alloc ?_ _)); exact BK133.out⟩, ⟨by repeat (first | (with_reducible first | exact HB.out | apply below_alloc | apply pw_below_drewN | apply below_drew1 | refine below_set ?_ GE133.out) | exact HB.out)⟩⟩
  case rest =>
    clear HC2;(try clear c1);(try clear p2);(try clear c4);(try clear c4b0);(try clear c4b1);(try clear hcz5_0);(try clear hcz5_1);(try clear hcz6_0);(try clear hcz6_1);(try clear hfz5_0);(try clear hfz5_1);(try clear hfz6_0);(try clear hfz6_1);obtain ⟨kq, x14_1, rfl, HA, HJ1, BK133, HB⟩ := hcut
    cases kq with
    | zero => exact absurd HA.out (by simp [windrowlaw13_light.j0])
    | succ kj1 =>
      have H := HA.out;clear HA;(simp only [windrowlaw13_light.j0] at H)
      by_cases c7 : x14_1 = true
      · subst c7
        (have H1 : (some false) = some r := by rw [if_pos rfl] at H; exact H);clear H;have H := H1;clear H1;obtain rfl := Option.some.inj H;(go_wp2);(go_ret);(exact ⟨by first | rfl | (simp [errW_none, errW_some] <;> rfl) | (simp [*, errW_none, errW_some] <;> rfl), by repeat (first | (with_reducible first | exact HB.out | apply below_alloc | apply pw_below_drewN | apply below_drew1 | refine below_set ?_ GE133.out) | exact HB.out)⟩)
      · replace c7 := Bool.eq_false_iff.mpr c7
        subst c7;(have H1 : (windrowlaw13_light.l0 kj1 0 l0_0 l0_1) = some r := by rw [if_neg (show ¬ (false = true) by decide)] at H; exact H);clear H;have H := H1;clear H1;have H' := Aside0.mk H;clear H;(go_wp2);(go_loopg [3] kj1 (fun kq v3 w' => ∃ (x3_2 : Int), v3 = .int .i64 x3_2 ∧ Aside0 (windrowlaw13_light.l0 kq x3_2 l0_0 l0_1 = some r) ∧ Aside0 (kq ≤ kj1) ∧ Aside0 (w'.heap[gb133]? = some (.cells #[(.slice A0_0 l0_0.length c0_0), (.slice A0_1 l0_1.length c0_1)] 29 (0, 0))) ∧ Aside0 (Below w.heap.size w w')))
        case atStart => exact ⟨(0), (by first | rfl | (simp; done) | (simp [*]; done)), H', ⟨Nat.le_refl _⟩, ⟨by (with_reducible repeat (first | refine blk_drewN ?_ _ | refine blk_drew ?_ | refine blk_alloc ?_ _)); exact BK133.out⟩, ⟨by repeat (first | (with_reducible first | exact HB.out | apply below_alloc | apply pw_below_drewN | apply below_drew1 | refine below_set ?_ GE133.out) | exact HB.out)⟩⟩
        case round =>
          clear H';(try clear c1);(try clear p2);(try clear c4);(try clear c4b0);(try clear c4b1);(try clear c7);(try clear hcz5_0);(try clear hcz5_1);(try clear hcz6_0);(try clear hcz6_1);(try clear hfz5_0);(try clear hfz5_1);(try clear hfz6_0);(try clear hfz6_1);(try clear p2);obtain ⟨x3_2, rfl, HA, HK2, BK133, HB⟩ := hrel
          cases gk with
          | zero => exact absurd HA.out (by simp [windrowlaw13_light.l0])
          | succ k2 =>
            have H := HA.out;clear HA;(simp only [windrowlaw13_light.l0] at H)
            by_cases c8 : x3_2 < (l0_0.length : Int)
            · rw [if_pos c8] at H
              have c8b0 : decide (x3_2 < (l0_0.length : Int)) = true := decide_eq_true c8;clear c8
              by_cases c9 : 0 ≤ x3_2
              · rw [if_pos c9] at H
                have c9b0 : decide (0 ≤ x3_2) = true := decide_eq_true c9;clear c9
                by_cases c10 : (((rd_T42 l0_0 x3_2).f1).length : Int) > 40
                · rw [if_pos c10] at H
                  have c10b0 : decide (40 < (((rd_T42 l0_0 x3_2).f1).length : Int)) = true := decide_eq_true c10;(have c10b1 : decide (40 < ((rd_T42 l0_0 x3_2).f1).length) = true := decide_eq_true (by omega));clear c10;obtain rfl := Option.some.inj H;have hcz11_0 : wr.cell? ⟨gb133, 0, none⟩ = some (.slice A0_0 l0_0.length c0_0) := (blk_cell BK133.out 0).trans rfl;have hcz11_1 : wr.cell? ⟨gb133, 1, none⟩ = some (.slice A0_1 l0_1.length c0_1) := (blk_cell BK133.out 1).trans rfl;have hfz11_0 := blk_frozen BK133.out 0;have hfz11_1 := blk_frozen BK133.out 1;(have p134 : 0 ≤ (x3_2 : Int) := of_decide_eq_true (by first | (with_reducible assumption) | assumption));(have q134 : x3_2 < (l0_0.length : Int) := of_decide_eq_true (by first | (with_reducible assumption) | assumption));obtain ⟨ad134, A134_1, c134_1, e134, hx134_0, hx134_1, hl134_1, hi134_1⟩ := at_T42 HR0_0.out x3_2 p134 q134
                  cases e134
                  (replace hx134_0 := (HB.out.cell (World.block_lt_of_cell? w _ hx134_0)).trans hx134_0);(replace hx134_1 := (HB.out.cell (World.block_lt_of_cell? w _ hx134_1)).trans hx134_1);have HR134_1 := Aside0.mk hi134_1;have HC134_1 := Aside0.mk hl134_1;clear hi134_1 hl134_1;(replace p134 := eq_true p134);(replace q134 := eq_true q134);(go_wp2);(go_ret);(exact ⟨by first | rfl | (simp [errW_none, errW_some] <;> rfl) | (simp [*, errW_none, errW_some] <;> rfl), by repeat (first | (with_reducible first | exact HB.out | apply below_alloc | apply pw_below_drewN | apply below_drew1 | refine below_set ?_ GE133.out) | exact HB.out)⟩)
                · rw [if_neg c10] at H
                  have c10b0 : decide (40 < (((rd_T42 l0_0 x3_2).f1).length : Int)) = false := decide_eq_false c10;(have c10b1 : decide (40 < ((rd_T42 l0_0 x3_2).f1).length) = false := decide_eq_false (by omega));clear c10;have H' := Aside0.mk H;clear H;have hcz12_0 : wr.cell? ⟨gb133, 0, none⟩ = some (.slice A0_0 l0_0.length c0_0) := (blk_cell BK133.out 0).trans rfl;have hcz12_1 : wr.cell? ⟨gb133, 1, none⟩ = some (.slice A0_1 l0_1.length c0_1) := (blk_cell BK133.out 1).trans rfl;have hfz12_0 := blk_frozen BK133.out 0;have hfz12_1 := blk_frozen BK133.out 1;(have p134 : 0 ≤ (x3_2 : Int) := of_decide_eq_true (by first | (with_reducible assumption) | assumption));(have q134 : x3_2 < (l0_0.length : Int) := of_decide_eq_true (by first | (with_reducible assumption) | assumption));obtain ⟨ad134, A134_1, c134_1, e134, hx134_0, hx134_1, hl134_1, hi134_1⟩ := at_T42 HR0_0.out x3_2 p134 q134
                  cases e134
                  (replace hx134_0 := (HB.out.cell (World.block_lt_of_cell? w _ hx134_0)).trans hx134_0);(replace hx134_1 := (HB.out.cell (World.block_lt_of_cell? w _ hx134_1)).trans hx134_1);have HR134_1 := Aside0.mk hi134_1;have HC134_1 := Aside0.mk hl134_1;clear hi134_1 hl134_1;(replace p134 := eq_true p134);(replace q134 := eq_true q134);(go_wp2);(go_roundg k2)
                  case measure => have := HJ1.out; have := HK2.out; omega
                  case rel => exact ⟨(wrap64 (x3_2 + 1)), (by first | rfl | (simp; done) | (simp [*]; done)), H', ⟨by have := HJ1.out; have := HK2.out; omega⟩, ⟨by (with_reducible repeat (first | refine blk_drewN ?_ _ | refine blk_drew ?_ | refine blk_alloc ?_ _)); exact BK133.out⟩, ⟨by repeat (first | (with_reducible first | exact HB.out | apply below_alloc | apply pw_below_drewN | apply below_drew1 | refine below_set ?_ GE133.out) | exact HB.out)⟩⟩
              · rw [if_neg c9] at H
                exact absurd H (by simp)
            · rw [if_neg c8] at H
              have c8b0 : decide (x3_2 < (l0_0.length : Int)) = false := decide_eq_false c8;clear c8;have H' := Aside0.mk H;clear H;have hcz13_0 : wr.cell? ⟨gb133, 0, none⟩ = some (.slice A0_0 l0_0.length c0_0) := (blk_cell BK133.out 0).trans rfl;have hcz13_1 : wr.cell? ⟨gb133, 1, none⟩ = some (.slice A0_1 l0_1.length c0_1) := (blk_cell BK133.out 1).trans rfl;have hfz13_0 := blk_frozen BK133.out 0;have hfz13_1 := blk_frozen BK133.out 1;(go_wp2);(go_loopg [4] k2 (fun kq v4 w' => ∃ (x4_3 : Int), v4 = .int .i64 x4_3 ∧ Aside0 (windrowlaw13_light.l1 kq x4_3 l0_0 l0_1 = some r) ∧ Aside0 (kq ≤ k2) ∧ Aside0 (w'.heap[gb133]? = some (.cells #[(.slice A0_0 l0_0.length c0_0), (.slice A0_1 l0_1.length c0_1)] 29 (0, 0))) ∧ Aside0 (Below w.heap.size w w')))
              case atStart => exact ⟨(0), (by first | rfl | (simp; done) | (simp [*]; done)), H', ⟨Nat.le_refl _⟩, ⟨by (with_reducible repeat (first | refine blk_drewN ?_ _ | refine blk_drew ?_ | refine blk_alloc ?_ _)); exact BK133.out⟩, ⟨by repeat (first | (with_reducible first | exact HB.out | apply below_alloc | apply pw_below_drewN | apply below_drew1 | refine below_set ?_ GE133.out) | exact HB.out)⟩⟩
              case round =>
                clear H';(try clear c1);(try clear p1);(try clear q1);(try clear hx1);(try clear p2);(try clear c4);(try clear c4b0);(try clear c4b1);(try clear p6);(try clear c7);(try clear c8);(try clear c8b0);(try clear c9);(try clear c9b0);(try clear c10);(try clear c10b0);(try clear c10b1);(try clear c11);(try clear c13);(try clear p13);(try clear q13);(try clear hx13);(try clear hcz11_0);(try clear hcz11_1);(try clear hcz12_0);(try clear hcz12_1);(try clear hcz13_0);(try clear hcz13_1);(try clear hcz5_0);(try clear hcz5_1);(try clear hcz6_0);(try clear hcz6_1);(try clear hfz11_0);(try clear hfz11_1);(try clear hfz12_0);(try clear hfz12_1);(try clear hfz13_0);(try clear hfz13_1);(try clear hfz5_0);(try clear hfz5_1);(try clear hfz6_0);(try clear hfz6_1);(try clear hx134_0);(try clear hx134_1);(try clear p134);(try clear p2);(try clear q134);obtain ⟨x4_3, rfl, HA, HK3, BK133, HB⟩ := hrel
                cases gk with
                | zero => exact absurd HA.out (by simp [windrowlaw13_light.l1])
                | succ k3 =>
                  have H := HA.out;clear HA;(simp only [windrowlaw13_light.l1] at H)
                  by_cases c14 : x4_3 < (l0_1.length : Int)
                  · rw [if_pos c14] at H
                    have c14b0 : decide (x4_3 < (l0_1.length : Int)) = true := decide_eq_true c14;clear c14
                    by_cases c15 : 0 ≤ x4_3
                    · rw [if_pos c15] at H
                      have c15b0 : decide (0 ≤ x4_3) = true := decide_eq_true c15;clear c15
                      by_cases c16 : (((rd_T48 l0_1 x4_3).f4).length : Int) > 400
                      · rw [if_pos c16] at H
                        have c16b0 : decide (400 < (((rd_T48 l0_1 x4_3).f4).length : Int)) = true := decide_eq_true c16;(have c16b1 : decide (400 < ((rd_T48 l0_1 x4_3).f4).length) = true := decide_eq_true (by omega));clear c16;obtain rfl := Option.some.inj H;have hcz17_0 : wr.cell? ⟨gb133, 0, none⟩ = some (.slice A0_0 l0_0.length c0_0) := (blk_cell BK133.out 0).trans rfl;have hcz17_1 : wr.cell? ⟨gb133, 1, none⟩ = some (.slice A0_1 l0_1.length c0_1) := (blk_cell BK133.out 1).trans rfl;have hfz17_0 := blk_frozen BK133.out 0;have hfz17_1 := blk_frozen BK133.out 1;(have p135 : 0 ≤ (x4_3 : Int) := of_decide_eq_true (by first | (with_reducible assumption) | assumption));(have q135 : x4_3 < (l0_1.length : Int) := of_decide_eq_true (by first | (with_reducible assumption) | assumption));obtain ⟨ad135, A135_1, c135_1, A135_3, c135_3, A135_4, c135_4, e135, hx135_0, hx135_1, hx135_2, hx135_3, hx135_4, hl135_1, hi135_1, hl135_3, hi135_3, hl135_4, hi135_4⟩ := at_T48 HR0_1.out x4_3 p135 q135
                        cases e135
                        (replace hx135_0 := (HB.out.cell (World.block_lt_of_cell? w _ hx135_0)).trans hx135_0);(replace hx135_1 := (HB.out.cell (World.block_lt_of_cell? w _ hx135_1)).trans hx135_1);(replace hx135_2 := (HB.out.cell (World.block_lt_of_cell? w _ hx135_2)).trans hx135_2);(replace hx135_3 := (HB.out.cell (World.block_lt_of_cell? w _ hx135_3)).trans hx135_3);(replace hx135_4 := (HB.out.cell (World.block_lt_of_cell? w _ hx135_4)).trans hx135_4);have HR135_1 := Aside0.mk hi135_1;have HC135_1 := Aside0.mk hl135_1;clear hi135_1 hl135_1;have HR135_3 := Aside0.mk hi135_3;have HC135_3 := Aside0.mk hl135_3;clear hi135_3 hl135_3;have HR135_4 := Aside0.mk hi135_4;have HC135_4 := Aside0.mk hl135_4;clear hi135_4 hl135_4;(replace p135 := eq_true p135);(replace q135 := eq_true q135);(go_wp2);(go_ret);(exact ⟨by first | rfl | (simp [errW_none, errW_some] <;> rfl) | (simp [*, errW_none, errW_some] <;> rfl), by repeat (first | (with_reducible first | exact HB.out | apply below_alloc | apply pw_below_drewN | apply below_drew1 | refine below_set ?_ GE133.out) | exact HB.out)⟩)
                      · rw [if_neg c16] at H
                        have c16b0 : decide (400 < (((rd_T48 l0_1 x4_3).f4).length : Int)) = false := decide_eq_false c16;(have c16b1 : decide (400 < ((rd_T48 l0_1 x4_3).f4).length) = false := decide_eq_false (by omega));clear c16
                        by_cases c18 : (((rd_T48 l0_1 x4_3).f1).length : Int) > 40
                        · rw [if_pos c18] at H
                          have c18b0 : decide (40 < (((rd_T48 l0_1 x4_3).f1).length : Int)) = true := decide_eq_true c18;(have c18b1 : decide (40 < ((rd_T48 l0_1 x4_3).f1).length) = true := decide_eq_true (by omega));clear c18;obtain rfl := Option.some.inj H;have hcz19_0 : wr.cell? ⟨gb133, 0, none⟩ = some (.slice A0_0 l0_0.length c0_0) := (blk_cell BK133.out 0).trans rfl;have hcz19_1 : wr.cell? ⟨gb133, 1, none⟩ = some (.slice A0_1 l0_1.length c0_1) := (blk_cell BK133.out 1).trans rfl;have hfz19_0 := blk_frozen BK133.out 0;have hfz19_1 := blk_frozen BK133.out 1;(have p135 : 0 ≤ (x4_3 : Int) := of_decide_eq_true (by first | (with_reducible assumption) | assumption));(have q135 : x4_3 < (l0_1.length : Int) := of_decide_eq_true (by first | (with_reducible assumption) | assumption));obtain ⟨ad135, A135_1, c135_1, A135_3, c135_3, A135_4, c135_4, e135, hx135_0, hx135_1, hx135_2, hx135_3, hx135_4, hl135_1, hi135_1, hl135_3, hi135_3, hl135_4, hi135_4⟩ := at_T48 HR0_1.out x4_3 p135 q135
                          cases e135
                          (replace hx135_0 := (HB.out.cell (World.block_lt_of_cell? w _ hx135_0)).trans hx135_0);(replace hx135_1 := (HB.out.cell (World.block_lt_of_cell? w _ hx135_1)).trans hx135_1);(replace hx135_2 := (HB.out.cell (World.block_lt_of_cell? w _ hx135_2)).trans hx135_2);(replace hx135_3 := (HB.out.cell (World.block_lt_of_cell? w _ hx135_3)).trans hx135_3);(replace hx135_4 := (HB.out.cell (World.block_lt_of_cell? w _ hx135_4)).trans hx135_4);have HR135_1 := Aside0.mk hi135_1;have HC135_1 := Aside0.mk hl135_1;clear hi135_1 hl135_1;have HR135_3 := Aside0.mk hi135_3;have HC135_3 := Aside0.mk hl135_3;clear hi135_3 hl135_3;have HR135_4 := Aside0.mk hi135_4;have HC135_4 := Aside0.mk hl135_4;clear hi135_4 hl135_4;(replace p135 := eq_true p135);(replace q135 := eq_true q135);(have p136 : 0 ≤ (x4_3 : Int) := of_decide_eq_true (by first | (with_reducible assumption) | assumption));(have q136 : x4_3 < (l0_1.length : Int) := of_decide_eq_true (by first | (with_reducible assumption) | assumption));obtain ⟨ad136, A136_1, c136_1, A136_3, c136_3, A136_4, c136_4, e136, hx136_0, hx136_1, hx136_2, hx136_3, hx136_4, hl136_1, hi136_1, hl136_3, hi136_3, hl136_4, hi136_4⟩ := at_T48 HR0_1.out x4_3 p136 q136;(obtain rfl : ad135 = ad136 := (by injection e136));(replace hx136_0 := (HB.out.cell (World.block_lt_of_cell? w _ hx136_0)).trans hx136_0);(replace hx136_1 := (HB.out.cell (World.block_lt_of_cell? w _ hx136_1)).trans hx136_1);(replace hx136_2 := (HB.out.cell (World.block_lt_of_cell? w _ hx136_2)).trans hx136_2);(replace hx136_3 := (HB.out.cell (World.block_lt_of_cell? w _ hx136_3)).trans hx136_3);(replace hx136_4 := (HB.out.cell (World.block_lt_of_cell? w _ hx136_4)).trans hx136_4);have HR136_1 := Aside0.mk hi136_1;have HC136_1 := Aside0.mk hl136_1;clear hi136_1 hl136_1;have HR136_3 := Aside0.mk hi136_3;have HC136_3 := Aside0.mk hl136_3;clear hi136_3 hl136_3;have HR136_4 := Aside0.mk hi136_4;have HC136_4 := Aside0.mk hl136_4;clear hi136_4 hl136_4;(replace p136 := eq_true p136);(replace q136 := eq_true q136);have ea_ := Option.some.inj (hx135_1.symm.trans hx136_1);(injection ea_ with ea_ en_ ec_);subst ea_;subst ec_;clear en_;have ea_ := Option.some.inj (hx135_3.symm.trans hx136_3);(injection ea_ with ea_ en_ ec_);subst ea_;subst ec_;clear en_;have ea_ := Option.some.inj (hx135_4.symm.trans hx136_4);(injection ea_ with ea_ en_ ec_);subst ea_;subst ec_;clear en_;(go_wp2);(go_ret);(exact ⟨by first | rfl | (simp [errW_none, errW_some] <;> rfl) | (simp [*, errW_none, errW_some] <;> rfl), by repeat (first | (with_reducible first | exact HB.out | apply below_alloc | apply pw_below_drewN | apply below_drew1 | refine below_set ?_ GE133.out) | exact HB.out)⟩)
                        · rw [if_neg c18] at H
                          have c18b0 : decide (40 < (((rd_T48 l0_1 x4_3).f1).length : Int)) = false := decide_eq_false c18;(have c18b1 : decide (40 < ((rd_T48 l0_1 x4_3).f1).length) = false := decide_eq_false (by omega));clear c18
                          by_cases c20 : (((rd_T48 l0_1 x4_3).f3).length : Int) > 40
                          · rw [if_pos c20] at H
                            have c20b0 : decide (40 < (((rd_T48 l0_1 x4_3).f3).length : Int)) = true := decide_eq_true c20;(have c20b1 : decide (40 < ((rd_T48 l0_1 x4_3).f3).length) = true := decide_eq_true (by omega));clear c20;obtain rfl := Option.some.inj H;have hcz21_0 : wr.cell? ⟨gb133, 0, none⟩ = some (.slice A0_0 l0_0.length c0_0) := (blk_cell BK133.out 0).trans rfl;have hcz21_1 : wr.cell? ⟨gb133, 1, none⟩ = some (.slice A0_1 l0_1.length c0_1) := (blk_cell BK133.out 1).trans rfl;have hfz21_0 := blk_frozen BK133.out 0;have hfz21_1 := blk_frozen BK133.out 1;(have p135 : 0 ≤ (x4_3 : Int) := of_decide_eq_true (by first | (with_reducible assumption) | assumption));(have q135 : x4_3 < (l0_1.length : Int) := of_decide_eq_true (by first | (with_reducible assumption) | assumption));obtain ⟨ad135, A135_1, c135_1, A135_3, c135_3, A135_4, c135_4, e135, hx135_0, hx135_1, hx135_2, hx135_3, hx135_4, hl135_1, hi135_1, hl135_3, hi135_3, hl135_4, hi135_4⟩ := at_T48 HR0_1.out x4_3 p135 q135
                            cases e135
                            (replace hx135_0 := (HB.out.cell (World.block_lt_of_cell? w _ hx135_0)).trans hx135_0);(replace hx135_1 := (HB.out.cell (World.block_lt_of_cell? w _ hx135_1)).trans hx135_1);(replace hx135_2 := (HB.out.cell (World.block_lt_of_cell? w _ hx135_2)).trans hx135_2);(replace hx135_3 := (HB.out.cell (World.block_lt_of_cell? w _ hx135_3)).trans hx135_3);(replace hx135_4 := (HB.out.cell (World.block_lt_of_cell? w _ hx135_4)).trans hx135_4);have HR135_1 := Aside0.mk hi135_1;have HC135_1 := Aside0.mk hl135_1;clear hi135_1 hl135_1;have HR135_3 := Aside0.mk hi135_3;have HC135_3 := Aside0.mk hl135_3;clear hi135_3 hl135_3;have HR135_4 := Aside0.mk hi135_4;have HC135_4 := Aside0.mk hl135_4;clear hi135_4 hl135_4;(replace p135 := eq_true p135);(replace q135 := eq_true q135);(have p136 : 0 ≤ (x4_3 : Int) := of_decide_eq_true (by first | (with_reducible assumption) | assumption));(have q136 : x4_3 < (l0_1.length : Int) := of_decide_eq_true (by first | (with_reducible assumption) | assumption));obtain ⟨ad136, A136_1, c136_1, A136_3, c136_3, A136_4, c136_4, e136, hx136_0, hx136_1, hx136_2, hx136_3, hx136_4, hl136_1, hi136_1, hl136_3, hi136_3, hl136_4, hi136_4⟩ := at_T48 HR0_1.out x4_3 p136 q136;(obtain rfl : ad135 = ad136 := (by injection e136));(replace hx136_0 := (HB.out.cell (World.block_lt_of_cell? w _ hx136_0)).trans hx136_0);(replace hx136_1 := (HB.out.cell (World.block_lt_of_cell? w _ hx136_1)).trans hx136_1);(replace hx136_2 := (HB.out.cell (World.block_lt_of_cell? w _ hx136_2)).trans hx136_2);(replace hx136_3 := (HB.out.cell (World.block_lt_of_cell? w _ hx136_3)).trans hx136_3);(replace hx136_4 := (HB.out.cell (World.block_lt_of_cell? w _ hx136_4)).trans hx136_4);have HR136_1 := Aside0.mk hi136_1;have HC136_1 := Aside0.mk hl136_1;clear hi136_1 hl136_1;have HR136_3 := Aside0.mk hi136_3;have HC136_3 := Aside0.mk hl136_3;clear hi136_3 hl136_3;have HR136_4 := Aside0.mk hi136_4;have HC136_4 := Aside0.mk hl136_4;clear hi136_4 hl136_4;(replace p136 := eq_true p136);(replace q136 := eq_true q136);have ea_ := Option.some.inj (hx135_1.symm.trans hx136_1);(injection ea_ with ea_ en_ ec_);subst ea_;subst ec_;clear en_;have ea_ := Option.some.inj (hx135_3.symm.trans hx136_3);(injection ea_ with ea_ en_ ec_);subst ea_;subst ec_;clear en_;have ea_ := Option.some.inj (hx135_4.symm.trans hx136_4);(injection ea_ with ea_ en_ ec_);subst ea_;subst ec_;clear en_;(have p137 : 0 ≤ (x4_3 : Int) := of_decide_eq_true (by first | (with_reducible assumption) | assumption));(have q137 : x4_3 < (l0_1.length : Int) := of_decide_eq_true (by first | (with_reducible assumption) | assumption));obtain ⟨ad137, A137_1, c137_1, A137_3, c137_3, A137_4, c137_4, e137, hx137_0, hx137_1, hx137_2, hx137_3, hx137_4, hl137_1, hi137_1, hl137_3, hi137_3, hl137_4, hi137_4⟩ := at_T48 HR0_1.out x4_3 p137 q137;(obtain rfl : ad135 = ad137 := (by injection e137));(replace hx137_0 := (HB.out.cell (World.block_lt_of_cell? w _ hx137_0)).trans hx137_0);(replace hx137_1 := (HB.out.cell (World.block_lt_of_cell? w _ hx137_1)).trans hx137_1);(replace hx137_2 := (HB.out.cell (World.block_lt_of_cell? w _ hx137_2)).trans hx137_2);(replace hx137_3 := (HB.out.cell (World.block_lt_of_cell? w _ hx137_3)).trans hx137_3);(replace hx137_4 := (HB.out.cell (World.block_lt_of_cell? w _ hx137_4)).trans hx137_4);have HR137_1 := Aside0.mk hi137_1;have HC137_1 := Aside0.mk hl137_1;clear hi137_1 hl137_1;have HR137_3 := Aside0.mk hi137_3;have HC137_3 := Aside0.mk hl137_3;clear hi137_3 hl137_3;have HR137_4 := Aside0.mk hi137_4;have HC137_4 := Aside0.mk hl137_4;clear hi137_4 hl137_4;(replace p137 := eq_true p137);(replace q137 := eq_true q137);have ea_ := Option.some.inj (hx135_1.symm.trans hx137_1);(injection ea_ with ea_ en_ ec_);subst ea_;subst ec_;clear en_;have ea_ := Option.some.inj (hx135_3.symm.trans hx137_3);(injection ea_ with ea_ en_ ec_);subst ea_;subst ec_;clear en_;have ea_ := Option.some.inj (hx135_4.symm.trans hx137_4);(injection ea_ with ea_ en_ ec_);subst ea_;subst ec_;clear en_;(go_wp2);(go_ret);(exact ⟨by first | rfl | (simp [errW_none, errW_some] <;> rfl) | (simp [*, errW_none, errW_some] <;> rfl), by repeat (first | (with_reducible first | exact HB.out | apply below_alloc | apply pw_below_drewN | apply below_drew1 | refine below_set ?_ GE133.out) | exact HB.out)⟩)
                          · rw [if_neg c20] at H
                            have c20b0 : decide (40 < (((rd_T48 l0_1 x4_3).f3).length : Int)) = false := decide_eq_false c20;(have c20b1 : decide (40 < ((rd_T48 l0_1 x4_3).f3).length) = false := decide_eq_false (by omega));clear c20;have H' := Aside0.mk H;clear H;have hcz22_0 : wr.cell? ⟨gb133, 0, none⟩ = some (.slice A0_0 l0_0.length c0_0) := (blk_cell BK133.out 0).trans rfl;have hcz22_1 : wr.cell? ⟨gb133, 1, none⟩ = some (.slice A0_1 l0_1.length c0_1) := (blk_cell BK133.out 1).trans rfl;have hfz22_0 := blk_frozen BK133.out 0;have hfz22_1 := blk_frozen BK133.out 1;(have p135 : 0 ≤ (x4_3 : Int) := of_decide_eq_true (by first | (with_reducible assumption) | assumption));(have q135 : x4_3 < (l0_1.length : Int) := of_decide_eq_true (by first | (with_reducible assumption) | assumption));obtain ⟨ad135, A135_1, c135_1, A135_3, c135_3, A135_4, c135_4, e135, hx135_0, hx135_1, hx135_2, hx135_3, hx135_4, hl135_1, hi135_1, hl135_3, hi135_3, hl135_4, hi135_4⟩ := at_T48 HR0_1.out x4_3 p135 q135
                            cases e135
                            (replace hx135_0 := (HB.out.cell (World.block_lt_of_cell? w _ hx135_0)).trans hx135_0);(replace hx135_1 := (HB.out.cell (World.block_lt_of_cell? w _ hx135_1)).trans hx135_1);(replace hx135_2 := (HB.out.cell (World.block_lt_of_cell? w _ hx135_2)).trans hx135_2);(replace hx135_3 := (HB.out.cell (World.block_lt_of_cell? w _ hx135_3)).trans hx135_3);(replace hx135_4 := (HB.out.cell (World.block_lt_of_cell? w _ hx135_4)).trans hx135_4);have HR135_1 := Aside0.mk hi135_1;have HC135_1 := Aside0.mk hl135_1;clear hi135_1 hl135_1;have HR135_3 := Aside0.mk hi135_3;have HC135_3 := Aside0.mk hl135_3;clear hi135_3 hl135_3;have HR135_4 := Aside0.mk hi135_4;have HC135_4 := Aside0.mk hl135_4;clear hi135_4 hl135_4;(replace p135 := eq_true p135);(replace q135 := eq_true q135);(have p136 : 0 ≤ (x4_3 : Int) := of_decide_eq_true (by first | (with_reducible assumption) | assumption));(have q136 : x4_3 < (l0_1.length : Int) := of_decide_eq_true (by first | (with_reducible assumption) | assumption));obtain ⟨ad136, A136_1, c136_1, A136_3, c136_3, A136_4, c136_4, e136, hx136_0, hx136_1, hx136_2, hx136_3, hx136_4, hl136_1, hi136_1, hl136_3, hi136_3, hl136_4, hi136_4⟩ := at_T48 HR0_1.out x4_3 p136 q136;(obtain rfl : ad135 = ad136 := (by injection e136));(replace hx136_0 := (HB.out.cell (World.block_lt_of_cell? w _ hx136_0)).trans hx136_0);(replace hx136_1 := (HB.out.cell (World.block_lt_of_cell? w _ hx136_1)).trans hx136_1);(replace hx136_2 := (HB.out.cell (World.block_lt_of_cell? w _ hx136_2)).trans hx136_2);(replace hx136_3 := (HB.out.cell (World.block_lt_of_cell? w _ hx136_3)).trans hx136_3);(replace hx136_4 := (HB.out.cell (World.block_lt_of_cell? w _ hx136_4)).trans hx136_4);have HR136_1 := Aside0.mk hi136_1;have HC136_1 := Aside0.mk hl136_1;clear hi136_1 hl136_1;have HR136_3 := Aside0.mk hi136_3;have HC136_3 := Aside0.mk hl136_3;clear hi136_3 hl136_3;have HR136_4 := Aside0.mk hi136_4;have HC136_4 := Aside0.mk hl136_4;clear hi136_4 hl136_4;(replace p136 := eq_true p136);(replace q136 := eq_true q136);have ea_ := Option.some.inj (hx135_1.symm.trans hx136_1);(injection ea_ with ea_ en_ ec_);subst ea_;subst ec_;clear en_;have ea_ := Option.some.inj (hx135_3.symm.trans hx136_3);(injection ea_ with ea_ en_ ec_);subst ea_;subst ec_;clear en_;have ea_ := Option.some.inj (hx135_4.symm.trans hx136_4);(injection ea_ with ea_ en_ ec_);subst ea_;subst ec_;clear en_;(have p137 : 0 ≤ (x4_3 : Int) := of_decide_eq_true (by first | (with_reducible assumption) | assumption));(have q137 : x4_3 < (l0_1.length : Int) := of_decide_eq_true (by first | (with_reducible assumption) | assumption));obtain ⟨ad137, A137_1, c137_1, A137_3, c137_3, A137_4, c137_4, e137, hx137_0, hx137_1, hx137_2, hx137_3, hx137_4, hl137_1, hi137_1, hl137_3, hi137_3, hl137_4, hi137_4⟩ := at_T48 HR0_1.out x4_3 p137 q137;(obtain rfl : ad135 = ad137 := (by injection e137));(replace hx137_0 := (HB.out.cell (World.block_lt_of_cell? w _ hx137_0)).trans hx137_0);(replace hx137_1 := (HB.out.cell (World.block_lt_of_cell? w _ hx137_1)).trans hx137_1);(replace hx137_2 := (HB.out.cell (World.block_lt_of_cell? w _ hx137_2)).trans hx137_2);(replace hx137_3 := (HB.out.cell (World.block_lt_of_cell? w _ hx137_3)).trans hx137_3);(replace hx137_4 := (HB.out.cell (World.block_lt_of_cell? w _ hx137_4)).trans hx137_4);have HR137_1 := Aside0.mk hi137_1;have HC137_1 := Aside0.mk hl137_1;clear hi137_1 hl137_1;have HR137_3 := Aside0.mk hi137_3;have HC137_3 := Aside0.mk hl137_3;clear hi137_3 hl137_3;have HR137_4 := Aside0.mk hi137_4;have HC137_4 := Aside0.mk hl137_4;clear hi137_4 hl137_4;(replace p137 := eq_true p137);(replace q137 := eq_true q137);have ea_ := Option.some.inj (hx135_1.symm.trans hx137_1);(injection ea_ with ea_ en_ ec_);subst ea_;subst ec_;clear en_;have ea_ := Option.some.inj (hx135_3.symm.trans hx137_3);(injection ea_ with ea_ en_ ec_);subst ea_;subst ec_;clear en_;have ea_ := Option.some.inj (hx135_4.symm.trans hx137_4);(injection ea_ with ea_ en_ ec_);subst ea_;subst ec_;clear en_;(go_wp2);(go_roundg k3)
                            case measure => have := HJ1.out; have := HK2.out; have := HK3.out; omega
                            case rel => exact ⟨(wrap64 (x4_3 + 1)), (by first | rfl | (simp; done) | (simp [*]; done)), H', ⟨by have := HJ1.out; have := HK2.out; have := HK3.out; omega⟩, ⟨by (with_reducible repeat (first | refine blk_drewN ?_ _ | refine blk_drew ?_ | refine blk_alloc ?_ _)); exact BK133.out⟩, ⟨by repeat (first | (with_reducible first | exact HB.out | apply below_alloc | apply pw_below_drewN | apply below_drew1 | refine below_set ?_ GE133.out) | exact HB.out)⟩⟩
                    · rw [if_neg c15] at H
                      exact absurd H (by simp)
                  · rw [if_neg c14] at H
                    have c14b0 : decide (x4_3 < (l0_1.length : Int)) = false := decide_eq_false c14;clear c14;obtain rfl := Option.some.inj H;have hcz23_0 : wr.cell? ⟨gb133, 0, none⟩ = some (.slice A0_0 l0_0.length c0_0) := (blk_cell BK133.out 0).trans rfl;have hcz23_1 : wr.cell? ⟨gb133, 1, none⟩ = some (.slice A0_1 l0_1.length c0_1) := (blk_cell BK133.out 1).trans rfl;have hfz23_0 := blk_frozen BK133.out 0;have hfz23_1 := blk_frozen BK133.out 1;(go_wp2);(go_ret);(exact ⟨by first | rfl | (simp [errW_none, errW_some] <;> rfl) | (simp [*, errW_none, errW_some] <;> rfl), by repeat (first | (with_reducible first | exact HB.out | apply below_alloc | apply pw_below_drewN | apply below_drew1 | refine below_set ?_ GE133.out) | exact HB.out)⟩)
end Go.Proofs.Ytakpdmkfengghaa.Q
