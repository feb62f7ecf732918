/- objects.Refs: the references of an object that aren't to nothing. Conditions: the table's cells lie there; no more than 400 words. -/
import Derived.Test.YtelfiegocdjnoaaDoorFc1
import Derived.Test.YtelfiegocdjnoaaDoorLk4
import Derived.Test.YtelfiegocdjnoaaDoorRg0
import Derived.Test.YtelfiegocdjnoaaDoorBb0
import Derived.Test.YtelfiegocdjnoaaDoorMrF0
import Derived.Test.YtelfiegocdjnoaaDoorMrF2
namespace Go.Proofs.YtelfiegocdjnoaaDoor.Ar
open Go Go.RowKit Go.Shelf Go.Proofs.YtelfiegocdjnoaaDoor.Sep Go.Proofs.YtelfiegocdjnoaaDoorW.PrintWords Go.Proofs.YtelfiegocdjnoaaDoorW.PrintLast Go.Proofs.YtelfiegocdjnoaaDoorW.PrintMore Go.Proofs.YtelfiegocdjnoaaDoor.Q
set_option linter.unusedVariables false
set_option linter.unusedSimpArgs false
set_option maxHeartbeats 8000000
set_option maxRecDepth 100000
attribute [local go_sem] Oper.semAt_some
def fr.T5 : Bool × List (List Nat × List Nat) := (true, [([], []), ([], []), ([1], [1]), ([], []), ([2, 3], [2, 3]), ([4], [4]), ([5], [5]), ([0, 6], [0, 6]), ([7, 7, 0, 1, 2, 3, 4, 5, 6, 7], [7])])
def fr.B5 : List Nat := [0, 0, 2, 0, 14, 30, 62, 127, 255]
theorem fr.tab5 : rtab .any (opsOf Tryd.f65 5) = fr.T5 := by kernel_rfl
theorem fr.bits5 : waitsOk fr.T5.2 fr.B5 = true := by kernel_rfl
/-- The words at these places that aren't 0. -/
def refsOf {m : Nat} (l : List Int) (ps : List {x : Nat // x < m}) : List Int := ps.filterMap fun i => if l.getD i.1 0 = 0 then none else some (l.getD i.1 0)
theorem refsOf_no {m : Nat} {l : List Int} {ps : List {x : Nat // x < m}} {i : {x : Nat // x < m}} (h : l.getD i.1 0 = 0) : refsOf l (ps ++ [i]) = refsOf l ps := by
  unfold refsOf
  rw [List.filterMap_append, List.filterMap_cons_none (by rw [if_pos h])]
  simp
theorem refsOf_yes {m : Nat} {l : List Int} {ps : List {x : Nat // x < m}} {i : {x : Nat // x < m}} (h : l.getD i.1 0 ≠ 0) : refsOf l (ps ++ [i]) = refsOf l ps ++ [l.getD i.1 0] := by
  unfold refsOf
  rw [List.filterMap_append, List.filterMap_cons_some (by rw [if_neg h])]
  simp
theorem refsOf_len {m : Nat} (l : List Int) (ps : List {x : Nat // x < m}) : (refsOf l ps).length ≤ ps.length := List.length_filterMap_le _ _
theorem C_cell {w : World} {A : Option Addr} {l : List Int} (h : Kd.C (Kd.int .i64) w A l.length l) {i : Nat} (hi : i < l.length) : ∃ ad, A = some ad ∧ w.cell? (ad.add i) = some (.int .i64 (l.getD i 0)) := by
  obtain ⟨_, _, h3⟩ := h
  obtain ⟨ad, rfl, hc⟩ := h3 (by omega)
  obtain ⟨cs, hl, hK, hcell⟩ := hc i l[i] (List.getElem?_eq_getElem hi)
  have e : cs = [.int .i64 l[i]] := hK
  subst e
  have h0 := hcell 0 _ rfl
  refine ⟨ad, rfl, ?_⟩
  rw [List.getD_eq_getElem?_getD, List.getElem?_eq_getElem hi]
  have e2 : i * (Kd.int .i64).sz + 0 = i := by show i * 1 + 0 = i; omega
  rw [e2] at h0
  exact h0
theorem heap_own {β : Type} (k : Nat) (cs : Array Value) (ty : TypeId) (fz : Nat × Nat) : Own (fun (_ : β) W => W.heap[k]? = some (.cells cs ty fz)) := fun _ X Y row hs hg hr =>
  (hg.block k (Array.getElem?_eq_some_iff.1 hs).1 (fun e => by obtain ⟨o, ho, hc⟩ := hr k e.symm; rw [hs] at ho; cases ho; cases hc)).trans hs
theorem St_row {w W : World} {e : TypeId} {size k : Nat} {v : Value} {xs : List Value} (hB : Below w.heap.size w W) (ho : W.ownsRow w.heap.size e size v k xs) : St w W [row e size v k xs] :=
  ⟨hB, fun k => v.ownBlock = some k, fun k hk => own_base ho k hk, fun k => v.ownBlock = some k, fun _ => False, fun k => by simp, fun _ _ h => h, ⟨fun k => Iff.rfl, .inl (own_weaken ho (Nat.zero_le _))⟩, fun k h => h⟩
variable {w : World} {t : Nat} {A B : Option Addr} {cap cap2 : Nat} {ns ms : List Nat}
theorem refs_ {ad cl kd : Int} {l : List Int} {Al : Option Addr} {cc : Nat} (hT : TbC w t A cap ns B cap2 ms) (hns : ∀ i, ns.getD i 0 ≤ 63) (hms : ∀ m ∈ ms, m < 18446744073709551616) (hC : Kd.C (Kd.int .i64) w Al l.length l) (hcc : l.length ≤ cc) (hl : l.length ≤ 400) :
    Calls Tryd.prog 65 #[.pointer (some ⟨t, 0, none⟩), .agg #[.int .i64 ad, .int .i64 cl, .int .i64 kd, .slice Al l.length cc]] w fun e w' => ∃ V, e = .returned V ∧ St w w' [row 2 1 V (refsOf l (ptk l.length (fun (i : Nat) => isrefT ns ms cl kd l.length i) l.length)).length (I64 (refsOf l (ptk l.length (fun (i : Nat) => isrefT ns ms cl kd l.length i) l.length)))] := by
  obtain ⟨p, hp⟩ : ∃ p : Nat → Bool, p = fun (i : Nat) => isrefT ns ms cl kd l.length i := ⟨_, rfl⟩
  rw [← hp]
  refine (callsIn_wide (n := 6)).1 ?_
  obtain ⟨i0, hi, hz0, hz1, hz2⟩ := info_parts info2
  refine callsIn_of_wp_marks Tryd.func65 rfl trivial ?_ rfl
  simp only [Tryd.ntmps65, List.size_toArray, List.length_cons, List.length_nil, Nat.reduceAdd, Nat.reduceSub, Array.replicate_succ, Array.replicate_zero, List.push_toArray, List.append_toArray, List.nil_append, List.cons_append]
  have HC := Aside.mk hC
  have HH := Aside.mk (fun (w1 : World) (hb : Below w.heap.size w w1) => objects_Head.calls ad cl kd Al cc l cl kd (l.length : Int) w1 (Kd.C_below hC hb) hcc rfl)
  have H : Aside (St w _ [blk (w.heap.size + 1) #[.slice none 0 0] 58, blk w.heap.size #[.int .i64 ad, .int .i64 cl, .int .i64 kd, .slice Al l.length cc] 60]) := Aside.mk (by have := ((St.start w).alloc #[.int .i64 ad, .int .i64 cl, .int .i64 kd, .slice Al l.length cc] 60).alloc #[.slice none 0 0] 58; simpa using this)
  gi_wp2_with (refine ⟨trivial, ?_⟩; first
    | (gi_at_call 38; refine (callsIn_wide.2 (HH.out _ H.out.below)).mono ?_; rintro e w1 ⟨rfl, hb⟩; replace H := Aside.mk (H.out.step hb); clear hb)
    | (gi_at_call 128; refine (callsIn_wide.2 (pointers_ _)).mono ?_; rintro e w2 ⟨rfl, rfl⟩))
  obtain ⟨W0, hW0⟩ : ∃ W0, (w1.alloc (.cells #[.pointer (some ⟨t, 0, none⟩)] 55)).alloc (.cells #[.int .i64 cl, .int .i64 kd, .int .i64 l.length] 43) = W0 := ⟨_, rfl⟩
  have hs1 : w.heap.size + 2 ≤ w1.heap.size := by
    have h0 := (Array.getElem?_eq_some_iff.1 H.out.heap).1
    omega
  obtain ⟨bt, hbt⟩ : ∃ bt, bt = w1.heap.size := ⟨_, rfl⟩
  have hB0 : Below w.heap.size w W0 := by rw [← hW0]; exact (H.out.below.alloc (by omega) _).alloc (by simp; omega) _
  have hsz : W0.heap.size = bt + 2 := by rw [← hW0, hbt]; simp
  have b0 : Boxed W0 (w.heap.size + 1) 58 (.slice none 0 0) := by rw [← hW0]; exact (Boxed.alloc (show Boxed w1 _ _ _ from H.out.heap) _).alloc _
  have b1 : W0.heap[w.heap.size]? = some (.cells #[.int .i64 ad, .int .i64 cl, .int .i64 kd, .slice Al l.length cc] 60 (0, 0)) := by
    rw [← hW0]
    exact (Below.heap_alloc _ _ _ (by simp; omega)).trans ((Below.heap_alloc _ _ _ (by omega)).trans (H.out.pick 1 rfl).heap)
  have b2 : W0.heap[bt]? = some (.cells #[.pointer (some ⟨t, 0, none⟩)] 55 (0, 0)) := by
    rw [← hW0, hbt]
    exact (Below.heap_alloc _ _ _ (by simp)).trans (heap_new _ _)
  have b3 : W0.heap[bt + 1]? = some (.cells #[.int .i64 cl, .int .i64 kd, .int .i64 l.length] 43 (0, 0)) := by
    rw [← hW0, hbt]
    have := heap_new (w1.alloc (.cells #[.pointer (some ⟨t, 0, none⟩)] 55)) (.cells #[.int .i64 cl, .int .i64 kd, .int .i64 l.length] 43)
    simpa using this
  rw [hW0]
  rw [← hbt]
  have hbt2 : w.heap.size + 2 ≤ bt := by omega
  clear hW0 hs1 hbt H
  refine wpIn_rangeFunc_ownG rfl (by decide) (gf := 166) (lb := #[.pointer (some ⟨bt, 0, none⟩), .pointer (some ⟨bt + 1, 0, none⟩)]) rfl trivial (enters_of Tryd.func166 (by kernel_rfl) rfl)
    (pointers_stops 5 (by decide) bt (bt + 1) hT hns hms cl kd l.length hl hB0 b2 b3) KpP.trans (fun W l_ o o' hl_ ho hc _ => ⟨belowK_b (by omega) W l_ o o' hl_ ho hc ‹_›, World.putObj_heap_other (by omega), World.putObj_heap_other (by omega)⟩) (Below.refl _ _) (fun _ => rfl)
    (fun pre W => ((∃ v, Boxed W (w.heap.size + 1) 58 v ∧ W.ownsRow w.heap.size 2 1 v (refsOf l pre).length (I64 (refsOf l pre)) ∧ True) ∧ W.heap[w.heap.size]? = some (.cells #[.int .i64 ad, .int .i64 cl, .int .i64 kd, .slice Al l.length cc] 60 (0, 0)) ∧ W.heap[bt]? = some (.cells #[.pointer (some ⟨t, 0, none⟩)] 55 (0, 0)) ∧ W.heap[bt + 1]? = some (.cells #[.int .i64 cl, .int .i64 kd, .int .i64 l.length] 43 (0, 0))) ∧ Below w.heap.size w W)
    (fun _ _ _ => False)
    (OwnFrom.and (OwnFrom.and (Own.from (holdsRow_own w.heap.size (w.heap.size + 1) 58 2 1 (fun (pre : List {x : Nat // x < l.length}) => (refsOf l pre).length) (fun pre => I64 (refsOf l pre)) (fun _ _ => True)) _) (OwnFrom.and (Own.from (heap_own _ _ _ _) _) (OwnFrom.and (Own.from (heap_own _ _ _ _) _) (Own.from (heap_own _ _ _ _) _)))) (ownFrom_below (Nat.le_refl _) (by omega)))
    (fun _ _ _ _ _ hs _ _ => hs)
    ⟨⟨⟨_, b0, World.ownsRow_nil _ _ _ _, trivial⟩, b1, b2, b3⟩, hB0⟩
    (fun x => { tmps := #[.pointer (some ⟨t, 0, none⟩), .agg #[.int .i64 ad, .int .i64 cl, .int .i64 kd, .slice Al l.length cc], undef, .pointer (some ⟨w.heap.size, 0, none⟩), .slice none 0 0, .pointer (some ⟨w.heap.size + 1, 0, none⟩), .int .i64 ((x.1 : Nat) : Int), .pointer (some ⟨t, 0, none⟩), .agg #[.int .i64 ad, .int .i64 cl, .int .i64 kd, .slice Al l.length cc], .agg #[.int .i64 cl, .int .i64 kd, .int .i64 l.length], .func (.func 166) #[] #[.pointer (some ⟨bt, 0, none⟩), .pointer (some ⟨bt + 1, 0, none⟩)], .int .i64 ((x.1 : Nat) : Int), undef, undef, undef, undef, undef, undef, undef, undef, undef, undef, undef, undef, undef, undef, undef], defers := [] })
    ?assign ?body ?done ?stop
  case assign =>
    intro l_ x W K hK
    gi_wp2
    exact hK
  case body =>
    rintro l_ pre x W ⟨⟨⟨v, hv, hrow, _⟩, h1, h2, h3⟩, hB⟩ hlt
    obtain ⟨ad1, rfl, hx⟩ := C_cell (Kd.C_below HC.out hB) x.2
    have c3 : W.cell? ⟨w.heap.size, 3, none⟩ = some (.slice (some ad1) l.length cc) := by simp [World.cell?, h1]
    have nx : ((x.1 : Nat) : Int) < (l.length : Int) := by have := x.2; omega
    have hv0 : (0 : Int) ≤ ((x.1 : Nat) : Int) := by omega
    have nx2 := x.2
    by_cases hz : l.getD x.1 0 = 0
    · rw [hz] at hx
      gi_wp2
      exact ⟨KeepsFrom.refl _ _, ⟨Below.refl _ _, rfl, rfl⟩, ⟨⟨v, hv, by rw [refsOf_no hz]; exact hrow, trivial⟩, h1, h2, h3⟩, hB⟩
    · have bz : (l.getD x.1 0 != 0) = true := by simpa using hz
      generalize hq : l.getD x.1 0 = q at hx bz hz
      have hvs : ∃ A c, v = .slice A (refsOf l pre).length c := by
        rcases hrow.2 with ⟨rfl, h0⟩ | ⟨g', cap', cur, rfl, _⟩
        · exact ⟨none, 0, by rw [h0]⟩
        · exact ⟨_, _, rfl⟩
      obtain ⟨A1, c1, rfl⟩ := hvs
      have hc := hv.cell
      gi_wp2_with fail
      have hvd : Boxed W.drew (w.heap.size + 1) 58 (.slice A1 (refsOf l pre).length c1) := hv
      have hrowd : W.drew.ownsRow w.heap.size 2 1 (.slice A1 (refsOf l pre).length c1) (refsOf l pre).length (I64 (refsOf l pre)) := hrow
      have hBd : Below w.heap.size w W.drew := hB.drew
      refine roundR_ (m := 9) (K := fun _ W' => KeepsFrom W0.heap.size W W' ∧ KpP w.heap.size bt (bt + 1) W W' ∧ (((∃ v, Boxed W' (w.heap.size + 1) 58 v ∧ W'.ownsRow w.heap.size 2 1 v (refsOf l (pre ++ [x])).length (I64 (refsOf l (pre ++ [x]))) ∧ True) ∧ W'.heap[w.heap.size]? = some (.cells #[.int .i64 ad, .int .i64 cl, .int .i64 kd, .slice (some ad1) l.length cc] 60 (0, 0)) ∧ W'.heap[bt]? = some (.cells #[.pointer (some ⟨t, 0, none⟩)] 55 (0, 0)) ∧ W'.heap[bt + 1]? = some (.cells #[.int .i64 cl, .int .i64 kd, .int .i64 l.length] 43 (0, 0))) ∧ Below w.heap.size w W')) (S := fun w' => w'.cell? ⟨w.heap.size + 1, 0, none⟩ = some (.slice A1 (refsOf l pre).length c1) ∧ w'.cell? ⟨w.heap.size, 3, none⟩ = some (.slice (some ad1) l.length cc) ∧ w'.cell? (ad1.add x.1) = some (.int .i64 q)) (ds := [7, 8]) (flg 9 0) (by kernel_rfl) (by kernel_rfl) rfl rfl (⟨hvd.cell, c3, hx⟩) (fun hHeld => ?_) (fun _ _ h => h)
      refine with_tabW fr.tab5 fr.bits5 (fun HT_ HW_ => ?_)
      refine tk_ (v := ?_) (a' := ?_) 0 (some 18) 1 rfl rfl HT_ HW_ (by kernel_rfl) (.inl ⟨by rfl, ?_⟩) hHeld ?_ ?_; rotate_left 2; (· rintro w' ⟨_, _, _⟩; go_simp; with_reducible rfl); (· simp only [nrm]; rfl)
      refine pu_ (v := ?_) (a' := ?_) 1 (some 19) 3 rfl rfl HT_ (by kernel_rfl) (.inl ⟨by rfl, ?_⟩) ?_ ?_; rotate_left 2; (· intro w'; go_simp; with_reducible rfl); (· simp only [nrm]; rfl)
      refine tk_ (v := ?_) (a' := ?_) 2 (some 20) 7 rfl rfl HT_ HW_ (by kernel_rfl) (.inl ⟨by rfl, ?_⟩) hHeld ?_ ?_; rotate_left 2; (· rintro w' ⟨_, _, _⟩; go_simp; with_reducible rfl); (· simp only [nrm]; rfl)
      refine pu_ (v := ?_) (a' := ?_) 3 (some 21) 15 rfl rfl HT_ (by kernel_rfl) (.inl ⟨by rfl, ?_⟩) ?_ ?_; rotate_left 2; (· intro w'; go_simp; with_reducible rfl); (· simp only [nrm]; rfl)
      refine pu_ (v := ?_) (a' := ?_) 4 (some 22) 31 rfl rfl HT_ (by kernel_rfl) (.inl ⟨by rfl, ?_⟩) ?_ ?_; rotate_left 2; (· intro w'; go_simp; with_reducible rfl); (· simp only [nrm]; rfl)
      refine tk_ (v := ?_) (a' := ?_) 5 (some 23) 63 rfl rfl HT_ HW_ (by kernel_rfl) (.inl ⟨by rfl, ?_⟩) hHeld ?_ ?_; rotate_left 2; (· rintro w' ⟨_, _, _⟩; go_simp; with_reducible rfl); (· simp only [nrm]; rfl)
      refine on_ 6 (some 24) 127 rfl rfl HT_ (by kernel_rfl) (by decide) (fun K hK => ?_)
      refine value_ (w1 := ?_) (v := ?_) (by rfl) rfl ?_ ?_
      rotate_left 2
      · go_simp
        constructor
        · rfl
        · rfl
      refine hK.out _ _ ⟨cell_alc _ hHeld.1, cell_alc _ hHeld.2.1, cell_alc _ hHeld.2.2⟩ (fun hHeld => ?_)
      clear hK K
      refine norm_ (a' := ?_) ?_ ?_
      rotate_left
      · show Act.put _ (some 24) _ = _
        simp only [nrm]
        rfl
      refine last_ (i := 7) (N := some 25) (flg 9 255) rfl rfl (one_of HT_.out (by kernel_rfl)) (by decide) (fun K hK => ?_)
      refine append_grow_step rfl (.tmp 18) (.tmp 24) 58 2 (.int .i64 0) 1 8 rfl Tryd.underlying58 info2 rfl (by decide) (by decide) w.heap.size (.slice A1 (refsOf l pre).length c1) (refsOf l pre).length (I64 (refsOf l pre)) rfl (World.ownsRow.alloc hrowd _) (by have := hBd.size; simp at this ⊢; omega) ⟨W.heap.size, 0, none⟩ 1 1 [.int .i64 q] rfl rfl (new_cells W.drew [.int .i64 q] 2) (by simp [Value.oneCell']) (by have := refsOf_len l pre; omega) ?_
      intro A2 c2 w5 hown5 hg5
      obtain ⟨hv1, hv2, hr2, hk2, hb2⟩ := hvd.appended (by decide) hrowd hBd.size (by omega) hown5 hg5
      refine hK.out _ _ ?_
      clear hK K
      refine norm_ (a' := ?_) ?_ ?_
      rotate_left
      · show Act.put _ (some 25) _ = _
        simp only [nrm]
        rfl
      refine last_ (i := 8) (N := none) (flg 9 511) rfl rfl (one_of HT_.out (by kernel_rfl)) (by decide) (fun K hK => ?_)
      refine skip_ (w1 := ?_) (by rfl) rfl ?_ ?_
      rotate_left
      · have x6 := hv1.cell
        have x7 := hv1.frozen
        go_simp
        rfl
      refine hK.out _ _ ?_
      clear hK K
      refine done_ (done_of HT_.out (by kernel_rfl)) ?_
      clear HT_ HW_ hHeld
      refine only_normal ⟨⟨hk2.size, fun k o _ h hc => hk2.same k o h hc⟩, ⟨((Below.refl w.heap.size W).drew).trans hb2, ?_, ?_⟩, ⟨⟨_, hv2, ?_, trivial⟩, ?_, ?_, ?_⟩, hB.drew.trans hb2⟩
      · exact (keep_cells (W := W.drew) h2 (by decide) hrowd hg5 (by omega)).trans h2.symm
      · exact (keep_cells (W := W.drew) h3 (by decide) hrowd hg5 (by omega)).trans h3.symm
      · rw [refsOf_yes (by rw [hq]; exact hz), hq, List.length_append, show I64 (refsOf l pre ++ [q]) = I64 (refsOf l pre) ++ [.int .i64 q] by simp [I64]]
        exact hr2
      · exact keep_cells (W := W.drew) h1 (by decide) hrowd hg5 (by omega)
      · exact keep_cells (W := W.drew) h2 (by decide) hrowd hg5 (by omega)
      · exact keep_cells (W := W.drew) h3 (by decide) hrowd hg5 (by omega)
  case done =>
    rintro D ys W hD rfl ⟨⟨⟨v, hv, hrow, _⟩, h1, h2, h3⟩, hB⟩ hK
    subst hp
    have hvs : ∃ A c, v = .slice A (refsOf l (ptk l.length (fun (i : Nat) => isrefT ns ms cl kd l.length i) l.length)).length c := by
      rcases hrow.2 with ⟨rfl, h0⟩ | ⟨g', cap', cur, rfl, _⟩
      · exact ⟨none, 0, by rw [h0]⟩
      · exact ⟨_, _, rfl⟩
    have hc := hv.cell
    gi_wp2
    refine ⟨by simp, .inl ⟨_, _, rfl, run_takeDeferred hK, ?_⟩⟩
    exact ⟨_, results_tmp rfl _ _ _, v, rfl, St_row (hB.trans (belowK_b (w := w) (Nat.le_refl _) W D _ _ (by omega) hK rfl rfl)) (ownsRow_putObj hrow _ hK rfl)⟩
  case stop =>
    rintro D c pre W _ _ h _
    exact h.elim
end Go.Proofs.YtelfiegocdjnoaaDoor.Ar
