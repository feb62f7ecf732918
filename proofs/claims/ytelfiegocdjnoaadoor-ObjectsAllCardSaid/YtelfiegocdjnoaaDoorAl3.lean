/- objects.All: the walk. Conditions: a plan of at most five pages; the cells are words; the package's tables read as they were laid. -/
import Derived.Test.YtelfiegocdjnoaaDoorMgF
import Derived.Sort.LoopGhostIn
import Derived.Test.YtelfiegocdjnoaaDoorMrF0
import Derived.Test.YtelfiegocdjnoaaDoorMrF2
namespace Go.Proofs.YtelfiegocdjnoaaDoor.Ar
open Go Go.RowKit Go.Shelf Go.Proofs.YtelfiegocdjnoaaDoor.Sep Go.Proofs.YtelfiegocdjnoaaDoor.Pg Go.Proofs.YtelfiegocdjnoaaDoorW.PrintWords Go.Proofs.YtelfiegocdjnoaaDoorW.PrintLast Go.Proofs.YtelfiegocdjnoaaDoorW.PrintMore Go.Proofs.YtelfiegocdjnoaaDoor.Q
set_option linter.unusedVariables false
set_option linter.unusedSectionVars false
set_option linter.unusedSimpArgs false
set_option maxHeartbeats 8000000
set_option maxRecDepth 100000
attribute [local go_sem] Oper.semAt_some
variable [fr : FR]
def alw.T7 : Bool × List (List Nat × List Nat) := (true, [([], []), ([], []), ([], []), ([1, 2], [1, 2]), ([0, 3, 3], [0, 3]), ([4], [4]), ([5], [5]), ([5], [5]), ([6, 4, 0, 1, 2, 3, 4, 5, 6], [6]), ([7, 8, 0, 1, 2, 3, 4, 5, 6, 7, 8], [7])])
def alw.B7 : List Nat := [0, 0, 0, 6, 15, 31, 63, 63, 127, 511]
theorem alw.tab7 : rtab .any (opsOf Tryd.f48 7) = alw.T7 := by kernel_rfl
theorem alw.bits7 : waitsOk alw.T7.2 alw.B7 = true := by kernel_rfl
def alw.T12 : Bool × List (List Nat × List Nat) := (true, [([], []), ([], []), ([], []), ([], []), ([], []), ([], []), ([3, 4, 5], [3, 4, 5]), ([0, 1, 2, 6, 6], [0, 1, 2, 6]), ([7], [7]), ([8], [8]), ([8], [8]), ([], []), ([11, 9, 7, 0, 1, 2, 3, 4, 5, 6, 7, 8, 9, 11], [9, 11]), ([10, 12, 0, 1, 2, 3, 4, 5, 6, 7, 8, 9, 10, 11, 12], [10])])
def alw.B12 : List Nat := [0, 0, 0, 0, 0, 0, 56, 127, 255, 511, 511, 0, 3071, 8191]
theorem alw.tab12 : rtab .any (opsOf Tryd.f48 12) = alw.T12 := by kernel_rfl
theorem alw.bits12 : waitsOk alw.T12.2 alw.B12 = true := by kernel_rfl
def Ip (w0 : World) (a gC t nN P : Nat) (X : List Int) (vL vM : Value) (E : List Cl) (b ob pb pg : Nat) (ps : List PS) (Ds : List Nat) (pre : List J64) (W : World) : Prop := ∃ v ps2, AllI w0 W a gC t nN P X vL vM E b ob (.slice none 0 0) 0 v ps2 ∧ W.heap[pb]? = some (.cells #[.int .i64 ((pg : Nat) : Int)] 3 (0, 0)) ∧ (okL P X (E.map Cl.n) pg pre ∧ ps2.map (·.1) = ps.map (·.1) ++ pre.map (fun j => (lkS P X (E.map Cl.n) pg j).1) ∧ ps2.length ≤ ps.length + pre.length) ∧ (∀ D ∈ Ds, W.heap[D]? = some (.deferred (some [])))
def IXp (w0 : World) (a gC t nN P : Nat) (X : List Int) (vL vM : Value) (E : List Cl) (b ob pb pg : Nat) (ps : List PS) (Ds : List Nat) (c : Code) (pre : List J64) (W : World) : Prop := c = .ret ∧ ∃ v ps2 pre' j e, pre = pre' ++ [j] ∧ okL P X (E.map Cl.n) pg pre' ∧ (lkS P X (E.map Cl.n) pg j).2 = e ∧ e ≠ 0 ∧ AllI w0 W a gC t nN P X vL vM E b ob (.slice none 0 0) e v ps2 ∧ (∀ D ∈ Ds, W.heap[D]? = some (.deferred (some [])))
theorem info60 : (Tryd.prog.info? 60).map (fun i => (i.zero, i.size, i.bytes)) = some (some (.agg #[.int .i64 0, .int .i64 0, .int .i64 0, .slice none 0 0]), 4, 48) := by kernel_rfl
theorem res2_ {tmps : Array Value} {Y : World} {g6 g7 : Nat} {u6 u7 : Value} (h6 : tmps[6]? = some (.pointer (some ⟨g6, 0, none⟩))) (h7 : tmps[7]? = some (.pointer (some ⟨g7, 0, none⟩))) (x6 : Y.cell? ⟨g6, 0, none⟩ = some u6) (x7 : Y.cell? ⟨g7, 0, none⟩ = some u7) (hu6 : ∃ A n c, u6 = .slice A n c) (hu7 : ∃ k i, u7 = .int k i) : (results Tryd.f48 tmps).run Tryd.prog Y = .ok (.tuple #[u6, u7]) Y := by
  obtain ⟨A, n, c, rfl⟩ := hu6
  obtain ⟨k, i, rfl⟩ := hu7
  have h6' : tmps[6]?.getD undef = .pointer (some ⟨g6, 0, none⟩) := by rw [h6]; rfl
  have h7' : tmps[7]?.getD undef = .pointer (some ⟨g7, 0, none⟩) := by rw [h7]; rfl
  simp [results, Tryd.f48, go_sem, h6', h7', x6, x7]
theorem all_end {w0 W : World} {a gC t nN P b ob : Nat} {X : List Int} {vL vM r6 : Value} {E : List Cl} {ps : List PS} {Ds : List Nat} {A : Option Addr} {c : Nat} {r7 : Int} {tmps : Array Value} (h : AllI w0 W a gC t nN P X vL vM E b ob r6 r7 (.slice A ps.length c) ps) (hD : Ds.Nodup ∧ ∀ D ∈ Ds, w0.heap.size ≤ D ∧ W.heap[D]? = some (.deferred (some [])))
    (hO : outS P X (E.map Cl.n) (P + 1) 0 [] = (ps.map (·.1), 0)) (h6 : tmps[6]? = some (.pointer (some ⟨b + 3, 0, none⟩))) (h7 : tmps[7]? = some (.pointer (some ⟨b + 4, 0, none⟩))) :
    LeavesInM Fence.wide 6 Tryd.prog Tryd.f48 tmps (fun e w' => ∃ A c l er, e = .returned (.tuple #[.slice A l.length c, .int .i64 er]) ∧ (l, er) = outS P X (E.map Cl.n) (P + 1) 0 [] ∧ l.length ≤ c ∧ Kd.C k60 w' A l.length l ∧ St w0 w' (ar4 a gC t nN X vL vM E)) (Ds.map coll) .returning ((W.setCell ⟨b + 3, 0, none⟩ (.slice A ps.length c)).setCell ⟨b + 4, 0, none⟩ (.int .i64 0)) := by
  refine leaves_all (fun Y => AllI w0 Y a gC t nN P X vL vM E b ob (.slice A ps.length c) 0 (.slice A ps.length c) ps) w0.heap.size (fun Y D hY hge hK => hY.grow (grownBy_putObj' Y D _) (fun r e => by cases e; exact ⟨hge, _, hK, rfl⟩)) (fun Y hY => ?_) Ds _ hD.1 (fun D hm => ⟨(hD.2 D hm).1, (res_keeps h _ 0).2.same D _ (hD.2 D hm).2 rfl⟩) (h.res _ 0)
  obtain ⟨A', c', e, hc', hC'⟩ := hY.reads
  injection e with e1 e2 e3
  subst e1 e3
  have x6 := cell_h hY.b6 0 rfl
  have x7 := cell_h hY.b7 0 rfl
  have hl : (ps.map (·.1)).length = ps.length := List.length_map ..
  refine ⟨.tuple #[.slice A ps.length c, .int .i64 0], ?_, A, c, ps.map (·.1), 0, by rw [hl], hO.symm, by rw [hl]; exact hc', hC', hY.ar⟩
  exact res2_ h6 h7 x6 x7 ⟨_, _, _, rfl⟩ ⟨_, _, rfl⟩
theorem all_err {w0 W : World} {a gC t nN P b ob : Nat} {X : List Int} {vL vM v : Value} {E : List Cl} {ps : List PS} {Ds : List Nat} {e : Int} {tmps : Array Value} (h : AllI w0 W a gC t nN P X vL vM E b ob (.slice none 0 0) e v ps) (hD : Ds.Nodup ∧ ∀ D ∈ Ds, w0.heap.size ≤ D ∧ W.heap[D]? = some (.deferred (some [])))
    (hO : outS P X (E.map Cl.n) (P + 1) 0 [] = ([], e)) (h6 : tmps[6]? = some (.pointer (some ⟨b + 3, 0, none⟩))) (h7 : tmps[7]? = some (.pointer (some ⟨b + 4, 0, none⟩))) :
    LeavesInM Fence.wide 6 Tryd.prog Tryd.f48 tmps (fun e w' => ∃ A c l er, e = .returned (.tuple #[.slice A l.length c, .int .i64 er]) ∧ (l, er) = outS P X (E.map Cl.n) (P + 1) 0 [] ∧ l.length ≤ c ∧ Kd.C k60 w' A l.length l ∧ St w0 w' (ar4 a gC t nN X vL vM E)) (Ds.map coll) .returning W := by
  refine leaves_all (fun Y => AllI w0 Y a gC t nN P X vL vM E b ob (.slice none 0 0) e v ps) w0.heap.size (fun Y D hY hge hK => hY.grow (grownBy_putObj' Y D _) (fun r e => by cases e; exact ⟨hge, _, hK, rfl⟩)) (fun Y hY => ?_) Ds _ hD.1 hD.2 h
  have x6 := cell_h hY.b6 0 rfl
  have x7 := cell_h hY.b7 0 rfl
  refine ⟨.tuple #[.slice none 0 0, .int .i64 e], ?_, none, 0, [], e, rfl, hO.symm, by simp, ⟨rfl, by simp, fun h => absurd h (by simp)⟩, hY.ar⟩
  exact res2_ h6 h7 x6 x7 ⟨_, _, _, rfl⟩ ⟨_, _, rfl⟩
theorem all_w {w0 w : World} {a gC t nN P : Nat} {X : List Int} {vL vM : Value} {E : List Cl} (hP : P < 5) (hX : X.length = nN) (hN : nN = 128 + 64 * P) (hr : ∀ i, 0 ≤ X.getD i 0 ∧ X.getD i 0 < 18446744073709551616) (hT : Tab w0) (hZ : TabZ w0) (h : St w0 w (ar4 a gC t nN X vL vM E)) :
    Calls Tryd.prog 48 #[.pointer (some ⟨a, 0, none⟩), .agg #[.int .i64 ((P : Int) + 1), .int .i64 1, .int .i64 1], .pointer (some ⟨t, 0, none⟩)] w fun e w' => ∃ A c l er, e = .returned (.tuple #[.slice A l.length c, .int .i64 er]) ∧ (l, er) = outS P X (E.map Cl.n) (P + 1) 0 [] ∧ l.length ≤ c ∧ Kd.C k60 w' A l.length l ∧ St w0 w' (ar4 a gC t nN X vL vM E) := by
  refine (callsIn_wide (n := 6)).1 ?_
  refine callsIn_of_wp_marks Tryd.func48 rfl trivial ?_ rfl
  simp only [Tryd.ntmps48, List.size_toArray, List.length_cons, List.length_nil, Nat.reduceAdd, Nat.reduceSub, Array.replicate_succ, Array.replicate_zero, List.push_toArray, List.append_toArray, List.nil_append, List.cons_append]
  have PB : Aside (layout_Plan_Base.f ((P : Int) + 1) 1 1 = some 64) := ⟨pl_base ⟨P, hP⟩⟩
  have H : Aside (St w _ [blk (w.heap.size + 4) #[.int .i64 0] 37, blk (w.heap.size + 3) #[.slice none 0 0] 110, blk (w.heap.size + 2) #[.pointer (some ⟨t, 0, none⟩)] 55, blk (w.heap.size + 1) #[.int .i64 ((P : Int) + 1), .int .i64 1, .int .i64 1] 40, blk w.heap.size #[.pointer (some ⟨a, 0, none⟩)] 29]) := Aside.mk (by have := (((((St.start w).alloc #[.pointer (some ⟨a, 0, none⟩)] 29).alloc #[.int .i64 ((P : Int) + 1), .int .i64 1, .int .i64 1] 40).alloc #[.pointer (some ⟨t, 0, none⟩)] 55).alloc #[.slice none 0 0] 110).alloc #[.int .i64 0] 37; simpa using this)
  have HH := Aside.mk h
  have HPp := Aside.mk hP
  have HXL := Aside.mk hX
  have HNN := Aside.mk hN
  have HXR := Aside.mk hr
  have HT := Aside.mk hT
  have HZ := Aside.mk hZ
  clear h hP hX hN hr hT hZ
  have x0 := (H.out.pick 3 rfl).cell 0
  have x1 := (H.out.pick 3 rfl).cell 1
  have x2 := (H.out.pick 3 rfl).cell 2
  gi_wp2_with (refine ⟨trivial, ?_⟩; gi_at_call 104; refine (callsIn_wide.2 (layout_Plan_Base.calls _ _ _ _ _ PB.out)).mono ?_; rintro e w1 ⟨rfl, hb⟩; replace H := Aside.mk (H.out.step hb); clear hb x0 x1 x2; have x0 := (H.out.pick 3 rfl).cell 0; have x0' := cell_alc (.cells #[.slice none 0 0] 110) x0)
  have H1 := H.out.alloc #[.slice none 0 0] 110
  have hlt := (Array.getElem?_eq_some_iff.1 H.out.heap).1
  have HA : Aside (AllI w0 (w1.alloc (.cells #[.slice none 0 0] 110)) a gC t nN P X vL vM E w.heap.size w1.heap.size (.slice none 0 0) 0 (.slice none 0 0) []) := ⟨{
    ar := HH.out.step H1.below
    hb := HH.out.size_le
    b3 := (H1.pick 5 rfl).heap
    b4 := (H1.pick 4 rfl).heap
    b5 := (H1.pick 3 rfl).heap
    b6 := (H1.pick 2 rfl).heap
    b7 := (H1.pick 1 rfl).heap
    hob := hlt
    b8 := H1.heap
    row := World.ownsRow_nil _ _ _ _
    wd := fun p hp => by cases hp }⟩
  clear H H1 HH hlt x0 x0' PB
  simp only [Nat.add_assoc, Nat.reduceAdd]
  generalize w.heap.size = b at HA ⊢
  generalize World.alloc w1 _ = W0 at HA ⊢
  generalize w1.heap.size = ob at HA ⊢
  refine wpIn_loop_ghost_k (fun n a' W => ∃ (pg : Nat) (v : Value) (ps : List PS) (Ds : List Nat) (u9 u10 u11 u12 u13 u14 u21 u22 u23 u24 u25 u26 u27 u28 u29 u30 u31 u32 u33 u34 u35 u36 u37 u38 u39 u40 u41 u42 u43 u44 u45 u46 u47 u48 u49 u50 u51 u52 u53 u54 u55 u56 : Value), n = P + 1 - pg ∧ pg ≤ P + 1 ∧ a' = { tmps := #[.pointer (some ⟨a, 0, none⟩), .agg #[.int .i64 ((P : Int) + 1), .int .i64 1, .int .i64 1], .pointer (some ⟨t, 0, none⟩), .pointer (some ⟨b, 0, none⟩), .pointer (some ⟨b + 1, 0, none⟩), .pointer (some ⟨b + 2, 0, none⟩), .pointer (some ⟨b + 3, 0, none⟩), .pointer (some ⟨b + 4, 0, none⟩), .pointer (some ⟨ob, 0, none⟩), u9, u10, u11, u12, u13, u14, .agg #[.int .i64 ((P : Int) + 1), .int .i64 1, .int .i64 1], .int .i64 64, .bool false, .pointer (some ⟨b + 1, 0, none⟩), .int .i64 ((P : Int) + 1), .int .i64 ((pg : Nat) : Int), u21, u22, u23, u24, u25, u26, u27, u28, u29, u30, u31, u32, u33, u34, u35, u36, u37, u38, u39, u40, u41, u42, u43, u44, u45, u46, u47, u48, u49, u50, u51, u52, u53, u54, u55, u56], defers := Ds.map coll } ∧ Aside (AllI w0 W a gC t nN P X vL vM E b ob (.slice none 0 0) 0 v ps) ∧ Aside (outS P X (E.map Cl.n) (P + 1 - pg) pg (ps.map (·.1)) = outS P X (E.map Cl.n) (P + 1) 0 []) ∧ Aside (ps.length ≤ 64 * pg) ∧ Aside (Ds.Nodup ∧ ∀ D ∈ Ds, w0.heap.size ≤ D ∧ W.heap[D]? = some (.deferred (some [])))) (P + 1) ?_ ?_
  · exact ⟨0, _, [], [], _, _, _, _, _, _, _, _, _, _, _, _, _, _, _, _, _, _, _, _, _, _, _, _, _, _, _, _, _, _, _, _, _, _, _, _, _, _, _, _, _, _, rfl, Nat.zero_le _, rfl, HA, ⟨rfl⟩, ⟨Nat.le_refl _⟩, ⟨List.nodup_nil, fun D hD => by cases hD⟩⟩
  · clear HA
    rintro n a' W ⟨pg, v, ps, Ds, u9, u10, u11, u12, u13, u14, u21, u22, u23, u24, u25, u26, u27, u28, u29, u30, u31, u32, u33, u34, u35, u36, u37, u38, u39, u40, u41, u42, u43, u44, u45, u46, u47, u48, u49, u50, u51, u52, u53, u54, u55, u56, rfl, hpg, rfl, HA, HO, HL, HD⟩ J K hJ hK
    by_cases hle : pg ≤ P
    · have d1 : decide ((pg : Int) < (P : Int) + 1) = true := by simp; omega
      have n1 : (pg : Int) < (P : Int) + 1 := by omega
      have HPG := Aside.mk hle
      have HDL : Aside (∀ D ∈ Ds, D < W.heap.size) := ⟨fun D hm => (Array.getElem?_eq_some_iff.1 (HD.out.2 D hm).2).1⟩
      have hNs := HA.out.ar.size_le
      clear hpg hle
      gi_wp2_with (with_reducible refine stop_atIn (.store 3 (.tmp 9) (.tmp 22)) rfl ?_)
      refine ⟨?_⟩
      refine store_newIn [.int .i64 ((pg : Nat) : Int)] rfl rfl rfl rfl rfl rfl rfl (by simp [Value.oneCell']) ?_
      intro w2 hg2 hb2 hs2
      clear d1 n1
      obtain ⟨pb, hpb⟩ : ∃ pb, pb = W.heap.size := ⟨_, rfl⟩
      rw [← hpb] at hb2 ⊢
      have HDL2 : Aside (∀ D ∈ Ds, D < w2.heap.size ∧ w2.heap[D]? = some (.deferred (some []))) := ⟨fun D hm => ⟨by have := HDL.out D hm; omega, (hg2.block D (HDL.out D hm) (by simp)).trans (HD.out.2 D hm).2⟩⟩
      have HPB : Aside (b + 4 < pb ∧ ob < pb ∧ w0.heap.size ≤ pb) := ⟨by have := HA.out.lt; have := HA.out.hob; have := HA.out.hb; omega⟩
      have H : Aside (AllI w0 w2 a gC t nN P X vL vM E b ob (.slice none 0 0) 0 v ps ∧ w2.heap[pb]? = some (.cells #[.int .i64 ((pg : Nat) : Int)] 3 (0, 0))) := ⟨HA.out.grow hg2 (fun r hr => by cases hr), hb2⟩
      have HDN := Aside.mk HD.out.1
      have HDG : Aside (∀ D ∈ Ds, w0.heap.size ≤ D) := ⟨fun D hm => (HD.out.2 D hm).1⟩
      clear HA HD HDL hNs hg2 hb2 hs2 hpb
      obtain ⟨ia, hia⟩ : ∃ ia, ia = 22 + (P + 1) + pg := ⟨_, rfl⟩
      have HIA : Aside (ia < nN) := ⟨by have := HNN.out; have := HPG.out; have := HPp.out; omega⟩
      have HAC : Aside (layout_Plan_Alloc.f ((P : Int) + 1) 1 1 (pg : Int) = some (ia : Int)) := ⟨by have e := pl_alloc ⟨P, HPp.out⟩ ⟨pg, by have := HPG.out; have := HPp.out; omega⟩ HPG.out; simp only at e; rw [e, hia]; push_cast; rfl⟩
      obtain ⟨al, hal⟩ : ∃ al, alN P X pg = al := ⟨_, rfl⟩
      have HAL : Aside (al < 18446744073709551616 ∧ X.getD ia 0 = (al : Int)) := ⟨by rw [← hal, hia]; unfold alN; have := HXR.out (22 + (P + 1) + pg); omega⟩
      have HALE := Aside.mk hal
      clear hal hia
      gi_wp2_with fail
      refine wpIn_wide.2 (only_ ?_)
      replace H : Aside (AllI w0 w2.drew a gC t nN P X vL vM E b ob (.slice none 0 0) 0 v ps ∧ w2.drew.heap[pb]? = some (.cells #[.int .i64 ((pg : Nat) : Int)] 3 (0, 0))) := ⟨H.out.1.step (Below.refl _ _).drew, H.out.2⟩
      replace HDL2 : Aside (∀ D ∈ Ds, D < w2.drew.heap.size ∧ w2.drew.heap[D]? = some (.deferred (some []))) := HDL2
      refine start_ (n := 10) (S := fun w' => w'.cell? ⟨b, 0, none⟩ = some (.pointer (some ⟨a, 0, none⟩)) ∧ w'.cell? ⟨b + 1, 0, none⟩ = some (.int .i64 ((P : Int) + 1)) ∧ w'.cell? ⟨b + 1, 1, none⟩ = some (.int .i64 1) ∧ w'.cell? ⟨b + 1, 2, none⟩ = some (.int .i64 1) ∧ w'.cell? ⟨pb, 0, none⟩ = some (.int .i64 ((pg : Nat) : Int))) (ds := []) (flg 10 0) (by kernel_rfl) rfl rfl (⟨cell_h H.out.1.b3 0 rfl, cell_h H.out.1.b4 0 rfl, cell_h H.out.1.b4 1 rfl, cell_h H.out.1.b4 2 rfl, cell_h H.out.2 0 rfl⟩) (fun hHeld => ?_)
      refine with_tabW alw.tab7 alw.bits7 (fun HT_ HW_ => ?_)
      generalize World.drew _ = w3 at H HDL2 hHeld ⊢
      refine tk_ (v := ?_) (a' := ?_) 0 (some 24) 1 rfl rfl HT_ HW_ (by kernel_rfl) (.inl ⟨by rfl, ?_⟩) hHeld ?_ ?_; rotate_left 2; (· rintro w' ⟨_, _, _, _, _⟩; go_simp; with_reducible rfl); (· simp only [nrm]; rfl)
      refine tk_ (v := ?_) (a' := ?_) 1 (some 25) 3 rfl rfl HT_ HW_ (by kernel_rfl) (.inl ⟨by rfl, ?_⟩) hHeld ?_ ?_; rotate_left 2; (· rintro w' ⟨_, _, _, _, _⟩; go_simp; with_reducible rfl); (· simp only [nrm]; rfl)
      refine tk_ (v := ?_) (a' := ?_) 2 (some 26) 7 rfl rfl HT_ HW_ (by kernel_rfl) (.inl ⟨by rfl, ?_⟩) hHeld ?_ ?_; rotate_left 2; (· rintro w' ⟨_, _, _, _, _⟩; go_simp; with_reducible rfl); (· simp only [nrm]; rfl)
      refine on_ 3 (some 27) 15 rfl rfl HT_ (by kernel_rfl) (by decide) (fun K hK => ?_)
      refine goes_ Tryd.func93 (by kernel_rfl) rfl #[.agg #[.int .i64 ((P : Int) + 1), .int .i64 1, .int .i64 1], .int .i64 ((pg : Nat) : Int)] (by rfl) rfl rfl (by (try simp only [List.map_toArray, List.map_cons, List.map_nil]); first | done | rfl) ?_
      refine (layout_Plan_Alloc.calls _ _ _ _ _ _ HAC.out).mono ?_
      rintro e w4 ⟨rfl, hb⟩
      have hlt := (Array.getElem?_eq_some_iff.1 H.out.2).1
      replace HDL2 : Aside (∀ D ∈ Ds, D < w4.heap.size ∧ w4.heap[D]? = some (.deferred (some []))) := ⟨fun D hm => ⟨by have := (HDL2.out D hm).1; have := hb.size; omega, (hb.block D (HDL2.out D hm).1).trans (HDL2.out D hm).2⟩⟩
      replace H : Aside (AllI w0 w4 a gC t nN P X vL vM E b ob (.slice none 0 0) 0 v ps ∧ w4.heap[pb]? = some (.cells #[.int .i64 ((pg : Nat) : Int)] 3 (0, 0))) := ⟨H.out.1.step hb, (hb.block pb hlt).trans H.out.2⟩
      clear hb hlt
      refine ⟨_, rfl, ?_⟩
      clear hHeld
      refine hK.out _ _ ⟨cell_h H.out.1.b3 0 rfl, cell_h H.out.1.b4 0 rfl, cell_h H.out.1.b4 1 rfl, cell_h H.out.1.b4 2 rfl, cell_h H.out.2 0 rfl⟩ (fun hHeld => ?_)
      clear hK
      refine norm_ (a' := ?_) ?_ ?_
      rotate_left
      · show Act.put _ (some 27) _ = _
        simp only [nrm]
        rfl
      refine on_ 4 (some 28) 31 rfl rfl HT_ (by kernel_rfl) (by decide) (fun K hK => ?_)
      refine goes_ Tryd.func19 (by kernel_rfl) rfl #[.pointer (some ⟨a, 0, none⟩), .int .i64 (ia : Int)] (by rfl) rfl rfl (by (try simp only [List.map_toArray, List.map_cons, List.map_nil]); first | done | rfl) ?_
      refine (peekn_ HXL.out HIA.out HAL.out.2 H.out.1.ar).mono ?_
      rintro e w5 ⟨rfl, rfl⟩
      refine ⟨_, rfl, ?_⟩
      clear hHeld
      refine hK.out _ _ ⟨cell_h H.out.1.b3 0 rfl, cell_h H.out.1.b4 0 rfl, cell_h H.out.1.b4 1 rfl, cell_h H.out.1.b4 2 rfl, cell_h H.out.2 0 rfl⟩ (fun hHeld => ?_)
      clear hK
      refine norm_ (a' := ?_) ?_ ?_
      rotate_left
      · show Act.put _ (some 28) _ = _
        simp only [nrm]
        rfl
      refine pu_ (v := ?_) (a' := ?_) 5 (some 23) 63 rfl rfl HT_ (by kernel_rfl) (.inl ⟨by rfl, ?_⟩) ?_ ?_; rotate_left 2; (· intro w'; go_simp; with_reducible rfl); (· simp only [nrm]; rfl)
      refine pu_ (v := ?_) (a' := ?_) 6 (some 29) 127 rfl rfl HT_ (by kernel_rfl) (.inl ⟨by rfl, ?_⟩) ?_ ?_; rotate_left 2; (· intro w'; go_simp; with_reducible rfl); (· simp only [nrm]; rfl)
      refine pu_ (v := ?_) (a' := ?_) 7 (some 30) 255 rfl rfl HT_ (by kernel_rfl) (.inl ⟨by rfl, ?_⟩) ?_ ?_; rotate_left 2; (· intro w'; go_simp; with_reducible rfl); (· simp only [nrm]; rfl)
      refine pu_ (v := ?_) (a' := ?_) 8 (some 10) 511 rfl rfl HT_ (by kernel_rfl) (.inl ⟨by rfl, ?_⟩) ?_ ?_; rotate_left 2; (· intro w'; go_simp; with_reducible rfl); (· simp only [nrm]; rfl)
      refine pu_ (v := ?_) (a' := ?_) 9 (some 11) 1023 rfl rfl HT_ (by kernel_rfl) (.inl ⟨by rfl, ?_⟩) ?_ ?_; rotate_left 2; (· intro w'; go_simp; with_reducible rfl); (· simp only [nrm]; rfl)
      refine done_ (done_of HT_.out (by kernel_rfl)) ?_
      clear HT_ HW_ hHeld
      refine only_normal ?_
      gi_wp2_with (refine ⟨trivial, ?_⟩; gi_at_call 105; refine (callsIn_wide.2 (bits_ _)).mono ?_; rintro e w6 ⟨rfl, rfl⟩)
      obtain ⟨bw, hbw⟩ : ∃ bw, bw = w5.heap.size := ⟨_, rfl⟩
      have hcw : (w5.alloc (.cells #[.int .u64 (al : Int)] 22)).cell? ⟨bw, 0, none⟩ = some (.int .u64 (al : Int)) := by rw [hbw]; exact cell_h (heap_new w5 _) 0 rfl
      have hbA : Below w5.heap.size w5 (w5.alloc (.cells #[.int .u64 (al : Int)] 22)) := (Below.refl _ _).alloc (Nat.le_refl _) _
      have hA1 := H.out.1.step hbA
      have hP1 := (hbA.block pb (Array.getElem?_eq_some_iff.1 H.out.2).1).trans H.out.2
      have hD1 : ∀ D ∈ Ds, D < (w5.alloc (.cells #[.int .u64 (al : Int)] 22)).heap.size ∧ (w5.alloc (.cells #[.int .u64 (al : Int)] 22)).heap[D]? = some (.deferred (some [])) := fun D hm => ⟨Nat.lt_of_lt_of_le (HDL2.out D hm).1 hbA.size, (hbA.block D (HDL2.out D hm).1).trans (HDL2.out D hm).2⟩
      rw [← hbw]
      generalize World.alloc w5 _ = W1 at hcw hA1 hP1 hD1 ⊢
      clear H HDL2 hbA hbw HAC
      have hNs := hA1.ar.size_le
      refine wpIn_rangeFunc_ownG rfl (by decide) (gf := 151) (lb := #[.pointer (some ⟨bw, 0, none⟩)]) rfl trivial (enters_of Tryd.func151 (by kernel_rfl) rfl)
        (bits_stops 5 (by decide) bw HZ.out al HAL.out.1 hA1.ar.below hcw) (fun h g => h.trans g) (fun W l_ o o' hl_ ho hc hw => belowK_b hNs W l_ o o' hl_ ho hc hw) (Below.refl _ _) (fun _ => rfl)
        (fun pre W => Ip w0 a gC t nN P X vL vM E b ob pb pg ps Ds pre W)
        (fun c pre W => IXp w0 a gC t nN P X vL vM E b ob pb pg ps Ds c pre W)
        ?hI ?hIx ?h0
        (fun x => { tmps := #[.pointer (some ⟨a, 0, none⟩), .agg #[.int .i64 ((P : Int) + 1), .int .i64 1, .int .i64 1], .pointer (some ⟨t, 0, none⟩), .pointer (some ⟨b, 0, none⟩), .pointer (some ⟨b + 1, 0, none⟩), .pointer (some ⟨b + 2, 0, none⟩), .pointer (some ⟨b + 3, 0, none⟩), .pointer (some ⟨b + 4, 0, none⟩), .pointer (some ⟨ob, 0, none⟩), .pointer (some ⟨pb, 0, none⟩), .int .u64 (al : Int), .int .i64 0, .int .i64 ((x.1 : Nat) : Int), u13, u14, .agg #[.int .i64 ((P : Int) + 1), .int .i64 1, .int .i64 1], .int .i64 64, .bool false, .pointer (some ⟨b + 1, 0, none⟩), .int .i64 ((P : Int) + 1), .int .i64 ((pg : Nat) : Int), .bool true, .int .i64 ((pg : Nat) : Int), .tuple #[.int .u64 (al : Int), .int .i64 0], .pointer (some ⟨a, 0, none⟩), .agg #[.int .i64 ((P : Int) + 1), .int .i64 1, .int .i64 1], .int .i64 ((pg : Nat) : Int), .int .i64 (ia : Int), .tuple #[.int .u64 (al : Int), .int .i64 0], .int .u64 (al : Int), .int .i64 0, .int .i64 0, .bool false, u33, .int .u64 (al : Int), .func (.func 151) #[] #[.pointer (some ⟨bw, 0, none⟩)], .int .i64 ((x.1 : Nat) : Int), u37, u38, u39, u40, u41, u42, u43, u44, u45, u46, u47, u48, u49, u50, u51, u52, u53, u54, u55, u56], defers := [] })
        ?assign ?body ?done ?stop
      case hI =>
        rintro pre Xw Y row ⟨v, ps, h1, h2, h3, h4⟩ hg hr
        exact ⟨v, ps, h1.grow hg (fun r e => ⟨by have := (hr r e).1; omega, (hr r e).2⟩), heap_k h2 hg (fun r e => (hr r e).2), h3, fun D hm => (hg.block D (Array.getElem?_eq_some_iff.1 (h4 D hm)).1 (fun e => by have h5 := (hr D e.symm).1; have h6 := (hD1 D hm).1; omega)).trans (h4 D hm)⟩
      case hIx =>
        rintro c pre Xw Y row ⟨hc, v, ps, pre', j, e, he1, he2, he3, he4, h1, h4⟩ hg hr
        exact ⟨hc, v, ps, pre', j, e, he1, he2, he3, he4, h1.grow hg (fun r e => ⟨by have := (hr r e).1; omega, (hr r e).2⟩), fun D hm => (hg.block D (Array.getElem?_eq_some_iff.1 (h4 D hm)).1 (fun e => by have h5 := (hr D e.symm).1; have h6 := (hD1 D hm).1; omega)).trans (h4 D hm)⟩
      case h0 => exact ⟨v, ps, hA1, hP1, ⟨(fun _ h => by cases h), by simp, by simp⟩, fun D hm => (hD1 D hm).2⟩
      case assign =>
        intro l_ x W K hK
        gi_wp2
        exact hK
      case body =>
        as_aux_lemma =>
        rintro l_ pre x W ⟨v, ps2, hA, hpb, ⟨hok, hps, hpl⟩, hD⟩ hlt
        obtain ⟨R1, R2, R3, ws, Re, hR⟩ : ∃ R1 R2 R3 ws Re, lookR P X (E.map Cl.n) ((64 + 64 * pg + x.1 : Nat) : Int) = (R1, R2, R3, ws, Re) := ⟨_, _, _, _, _, rfl⟩
        obtain ⟨at_, hat⟩ : ∃ at_ : Nat, at_ = 64 + 64 * pg + x.1 := ⟨_, rfl⟩
        have HLK : Aside (∀ Y, St w0 Y (ar4 a gC t nN X vL vM E) → Calls Tryd.prog 23 #[.pointer (some ⟨a, 0, none⟩), .agg #[.int .i64 ((P : Int) + 1), .int .i64 1, .int .i64 1], .pointer (some ⟨t, 0, none⟩), .int .i64 (at_ : Int)] Y fun e w' => ∃ A c, e = .returned (.tuple #[.agg #[.int .i64 R1, .int .i64 R2, .int .i64 R3, .slice A ws.length c], .int .i64 Re]) ∧ WdAt w0.heap.size w' (⟨R1, R2, R3, ws⟩, A, c) ∧ St w0 w' (ar4 a gC t nN X vL vM E) ∧ Y.grownBy w' vL.ownBlock) := ⟨fun Y hY => by
          have e := look_grow HPp.out HXL.out HNN.out HXR.out (at_ : Int) HT.out hY
          rw [hat, hR] at e
          rw [hat]
          refine e.mono ?_
          rintro e w' ⟨V, rfl, h9, hg⟩
          obtain ⟨A, c, rfl, _, _⟩ := (h9.pick 6 rfl).row_slice
          exact ⟨A, c, rfl, WdAt.of_row (x := ⟨R1, R2, R3, ws⟩) (h9.pick 6 rfl), h9.drop 6, hg⟩⟩
        have HAD : Aside (layout_Plan_Addr.f ((P : Int) + 1) 1 1 ((pg : Nat) : Int) ((x.1 : Nat) : Int) = some (at_ : Int)) := ⟨by have e := pl_addr ⟨P, HPp.out⟩ ⟨pg, by have := HPG.out; have := HPp.out; omega⟩ ⟨x.1, x.2⟩ HPG.out; simp only at e; rw [e, hat]⟩
        have HLKS : Aside (lkS P X (E.map Cl.n) pg x = (⟨R1, R2, R3, ws⟩, Re)) := ⟨by unfold lkS; rw [hR]⟩
        have HOK := Aside.mk hok
        have HPS := Aside.mk hps
        have HPL := Aside.mk hpl
        have HDD := Aside.mk hD
        have HLT := Aside.mk hlt
        have H : Aside (BI w0 W a gC t nN P X vL vM E b ob v ps2 pb ((pg : Nat) : Int) W.drew) := ⟨⟨hA.step (Below.refl _ _).drew, hpb, GR.step hA.ar.size_le (Below.refl _ _).drew⟩⟩
        clear hR hat hok hps hpl hD hA hpb hlt hA1 hP1 hD1 hcw
        gi_wp2_with fail
        refine roundR_ (m := 14) (K := _) (S := fun w' => w'.cell? ⟨b, 0, none⟩ = some (.pointer (some ⟨a, 0, none⟩)) ∧ w'.cell? ⟨b + 1, 0, none⟩ = some (.int .i64 ((P : Int) + 1)) ∧ w'.cell? ⟨b + 1, 1, none⟩ = some (.int .i64 1) ∧ w'.cell? ⟨b + 1, 2, none⟩ = some (.int .i64 1) ∧ w'.cell? ⟨b + 2, 0, none⟩ = some (.pointer (some ⟨t, 0, none⟩)) ∧ w'.cell? ⟨pb, 0, none⟩ = some (.int .i64 ((pg : Nat) : Int))) (ds := []) (flg 14 0) (by kernel_rfl) (by kernel_rfl) rfl rfl (⟨cell_h H.out.1.b3 0 rfl, cell_h H.out.1.b4 0 rfl, cell_h H.out.1.b4 1 rfl, cell_h H.out.1.b4 2 rfl, cell_h H.out.1.b5 0 rfl, cell_h H.out.2.1 0 rfl⟩) (fun hHeld => ?_) (fun _ _ h => h)
        refine with_tabW alw.tab12 alw.bits12 (fun HT_ HW_ => ?_)
        generalize World.drew _ = y3 at H hHeld ⊢
        refine tk_ (v := ?_) (a' := ?_) 0 (some 38) 1 rfl rfl HT_ HW_ (by kernel_rfl) (.inl ⟨by rfl, ?_⟩) hHeld ?_ ?_; rotate_left 2; (· rintro w' ⟨_, _, _, _, _, _⟩; go_simp; with_reducible rfl); (· simp only [nrm]; rfl)
        refine tk_ (v := ?_) (a' := ?_) 1 (some 39) 3 rfl rfl HT_ HW_ (by kernel_rfl) (.inl ⟨by rfl, ?_⟩) hHeld ?_ ?_; rotate_left 2; (· rintro w' ⟨_, _, _, _, _, _⟩; go_simp; with_reducible rfl); (· simp only [nrm]; rfl)
        refine tk_ (v := ?_) (a' := ?_) 2 (some 40) 7 rfl rfl HT_ HW_ (by kernel_rfl) (.inl ⟨by rfl, ?_⟩) hHeld ?_ ?_; rotate_left 2; (· rintro w' ⟨_, _, _, _, _, _⟩; go_simp; with_reducible rfl); (· simp only [nrm]; rfl)
        refine tk_ (v := ?_) (a' := ?_) 3 (some 41) 15 rfl rfl HT_ HW_ (by kernel_rfl) (.inl ⟨by rfl, ?_⟩) hHeld ?_ ?_; rotate_left 2; (· rintro w' ⟨_, _, _, _, _, _⟩; go_simp; with_reducible rfl); (· simp only [nrm]; rfl)
        refine tk_ (v := ?_) (a' := ?_) 4 (some 42) 31 rfl rfl HT_ HW_ (by kernel_rfl) (.inl ⟨by rfl, ?_⟩) hHeld ?_ ?_; rotate_left 2; (· rintro w' ⟨_, _, _, _, _, _⟩; go_simp; with_reducible rfl); (· simp only [nrm]; rfl)
        refine pu_ (v := ?_) (a' := ?_) 5 (some 43) 63 rfl rfl HT_ (by kernel_rfl) (.inl ⟨by rfl, ?_⟩) ?_ ?_; rotate_left 2; (· intro w'; go_simp; with_reducible rfl); (· simp only [nrm]; rfl)
        refine join_ (σ := Nat × Option Addr × Nat) 2 (flg 14 4095) (fun g_ => [(44, .int .i64 (at_ : Int)), (45, .tuple #[.agg #[.int .i64 R1, .int .i64 R2, .int .i64 R3, .slice g_.2.1 ws.length g_.2.2], .int .i64 Re]), (37, .tuple #[.agg #[.int .i64 R1, .int .i64 R2, .int .i64 R3, .slice g_.2.1 ws.length g_.2.2], .int .i64 Re]), (46, .agg #[.int .i64 R1, .int .i64 R2, .int .i64 R3, .slice g_.2.1 ws.length g_.2.2]), (47, .int .i64 Re), (13, .pointer (some ⟨g_.1, 0, none⟩))]) (fun g_ w' => (w'.cell? ⟨b, 0, none⟩ = some (.pointer (some ⟨a, 0, none⟩)) ∧ w'.cell? ⟨b + 1, 0, none⟩ = some (.int .i64 ((P : Int) + 1)) ∧ w'.cell? ⟨b + 1, 1, none⟩ = some (.int .i64 1) ∧ w'.cell? ⟨b + 1, 2, none⟩ = some (.int .i64 1) ∧ w'.cell? ⟨b + 2, 0, none⟩ = some (.pointer (some ⟨t, 0, none⟩)) ∧ w'.cell? ⟨pb, 0, none⟩ = some (.int .i64 ((pg : Nat) : Int))) ∧ BI w0 W a gC t nN P X vL vM E b ob v ps2 pb ((pg : Nat) : Int) w' ∧ CB w0 v g_.1 w' ∧ WdAt w0.heap.size w' (⟨R1, R2, R3, ws⟩, g_.2.1, g_.2.2)) ?_ ?_
        rotate_left
        · intro hjoin
          simp only [putAll, nrm] at hjoin
          refine two_ (i := 6) (j := 11) (Ni := some 44) (Nj := some 13) (flg 14 127) (flg 14 2111) rfl rfl rfl rfl (two_of HT_.out (by kernel_rfl)) (by decide) (by decide) (fun K hK => ?_) (fun K hK => ?_)
          · refine goes_ Tryd.func106 (by kernel_rfl) rfl #[.agg #[.int .i64 ((P : Int) + 1), .int .i64 1, .int .i64 1], .int .i64 ((pg : Nat) : Int), .int .i64 ((x.1 : Nat) : Int)] (by rfl) rfl rfl (by (try simp only [List.map_toArray, List.map_cons, List.map_nil]); first | done | rfl) ?_
            refine (layout_Plan_Addr.calls _ _ _ _ _ _ _ HAD.out).mono ?_
            rintro e y4 ⟨rfl, hb⟩
            replace H : Aside (BI w0 W a gC t nN P X vL vM E b ob v ps2 pb ((pg : Nat) : Int) y4) := Aside.mk (H.out.step hb)
            clear hb
            refine ⟨_, rfl, ?_⟩
            clear hHeld
            refine hK.out _ _ ⟨cell_h H.out.1.b3 0 rfl, cell_h H.out.1.b4 0 rfl, cell_h H.out.1.b4 1 rfl, cell_h H.out.1.b4 2 rfl, cell_h H.out.1.b5 0 rfl, cell_h H.out.2.1 0 rfl⟩ (fun hHeld => ?_)
            clear hK K
            refine norm_ (a' := ?_) ?_ ?_
            rotate_left
            · show Act.put _ (some 44) _ = _
              simp only [nrm]
              rfl
            refine two_ (i := 7) (j := 11) (Ni := some 45) (Nj := some 13) (flg 14 255) (flg 14 2175) rfl rfl rfl rfl (two_of HT_.out (by kernel_rfl)) (by decide) (by decide) (fun K hK => ?_) (fun K hK => ?_)
            · refine goes_ Tryd.func23 (by kernel_rfl) rfl #[.pointer (some ⟨a, 0, none⟩), .agg #[.int .i64 ((P : Int) + 1), .int .i64 1, .int .i64 1], .pointer (some ⟨t, 0, none⟩), .int .i64 (at_ : Int)] (by rfl) rfl rfl (by (try simp only [List.map_toArray, List.map_cons, List.map_nil]); first | done | rfl) ?_
              refine (HLK.out _ H.out.1.ar).mono ?_
              rintro e y5 ⟨A5, c5, rfl, hwd, har, hg⟩
              replace H : Aside (BI w0 W a gC t nN P X vL vM E b ob v ps2 pb ((pg : Nat) : Int) y5) := Aside.mk (H.out.look hg har)
              have HWD := Aside.mk hwd
              clear hwd har hg
              refine ⟨_, rfl, ?_⟩
              clear hHeld
              refine hK.out _ _ ⟨cell_h H.out.1.b3 0 rfl, cell_h H.out.1.b4 0 rfl, cell_h H.out.1.b4 1 rfl, cell_h H.out.1.b4 2 rfl, cell_h H.out.1.b5 0 rfl, cell_h H.out.2.1 0 rfl⟩ (fun hHeld => ?_)
              clear hK K
              refine norm_ (a' := ?_) ?_ ?_
              rotate_left
              · show Act.put _ (some 45) _ = _
                simp only [nrm]
                rfl
              refine pu_ (v := ?_) (a' := ?_) 8 (some 37) 511 rfl rfl HT_ (by kernel_rfl) (.inl ⟨by rfl, ?_⟩) ?_ ?_; rotate_left 2; (· intro w'; go_simp; with_reducible rfl); (· simp only [nrm]; rfl)
              refine pu_ (v := ?_) (a' := ?_) 9 (some 46) 1023 rfl rfl HT_ (by kernel_rfl) (.inl ⟨by rfl, ?_⟩) ?_ ?_; rotate_left 2; (· intro w'; go_simp; with_reducible rfl); (· simp only [nrm]; rfl)
              refine pu_ (v := ?_) (a' := ?_) 10 (some 47) 2047 rfl rfl HT_ (by kernel_rfl) (.inl ⟨by rfl, ?_⟩) ?_ ?_; rotate_left 2; (· intro w'; go_simp; with_reducible rfl); (· simp only [nrm]; rfl)
              refine on_ 11 (some 13) 4095 rfl rfl HT_ (by kernel_rfl) (by decide) (fun K hK => ?_)
              refine value_ (w1 := ?_) (v := ?_) (by rfl) rfl ?_ ?_
              rotate_left 2
              · go_simp
                constructor
                · rfl
                · rfl
              have HCB := Aside.mk (CB.new H.out)
              replace HWD := Aside.mk (HWD.out.step ((Below.refl y5.heap.size y5).alloc (Nat.le_refl _) (.cells #[.int .i64 0, .int .i64 0, .int .i64 0, .slice none 0 0] 60)))
              replace H := Aside.mk (H.out.step ((Below.refl y5.heap.size y5).alloc (Nat.le_refl _) (.cells #[.int .i64 0, .int .i64 0, .int .i64 0, .slice none 0 0] 60)))
              generalize World.alloc y5 _ = y6 at H HCB HWD ⊢
              generalize y5.heap.size = cb at HCB ⊢
              clear hHeld
              refine hK.out _ _ ⟨cell_h H.out.1.b3 0 rfl, cell_h H.out.1.b4 0 rfl, cell_h H.out.1.b4 1 rfl, cell_h H.out.1.b4 2 rfl, cell_h H.out.1.b5 0 rfl, cell_h H.out.2.1 0 rfl⟩ (fun hHeld => ?_)
              clear hK K
              refine norm_ (a' := ?_) ?_ ?_
              rotate_left
              · show Act.put _ (some 13) _ = _
                simp only [nrm]
                rfl
              exact hjoin (_, _, _) _ ⟨hHeld, H.out, HCB.out, HWD.out⟩
            · refine value_ (w1 := ?_) (v := ?_) (by rfl) rfl ?_ ?_
              rotate_left 2
              · go_simp
                constructor
                · rfl
                · rfl
              have HCB := Aside.mk (CB.new H.out)
              replace H := Aside.mk (H.out.step ((Below.refl y4.heap.size y4).alloc (Nat.le_refl _) (.cells #[.int .i64 0, .int .i64 0, .int .i64 0, .slice none 0 0] 60)))
              generalize World.alloc y4 _ = y5 at H HCB ⊢
              generalize y4.heap.size = cb at HCB ⊢
              clear hHeld
              refine hK.out _ _ ⟨cell_h H.out.1.b3 0 rfl, cell_h H.out.1.b4 0 rfl, cell_h H.out.1.b4 1 rfl, cell_h H.out.1.b4 2 rfl, cell_h H.out.1.b5 0 rfl, cell_h H.out.2.1 0 rfl⟩ (fun hHeld => ?_)
              clear hK K
              refine norm_ (a' := ?_) ?_ ?_
              rotate_left
              · show Act.put _ (some 13) _ = _
                simp only [nrm]
                rfl
              refine on_ 7 (some 45) 2303 rfl rfl HT_ (by kernel_rfl) (by decide) (fun K hK => ?_)
              refine goes_ Tryd.func23 (by kernel_rfl) rfl #[.pointer (some ⟨a, 0, none⟩), .agg #[.int .i64 ((P : Int) + 1), .int .i64 1, .int .i64 1], .pointer (some ⟨t, 0, none⟩), .int .i64 (at_ : Int)] (by rfl) rfl rfl (by (try simp only [List.map_toArray, List.map_cons, List.map_nil]); first | done | rfl) ?_
              refine (HLK.out _ H.out.1.ar).mono ?_
              rintro e y6 ⟨A5, c5, rfl, hwd, har, hg⟩
              replace HCB : Aside (CB w0 v cb y6) := Aside.mk (HCB.out.look H.out hg)
              replace H : Aside (BI w0 W a gC t nN P X vL vM E b ob v ps2 pb ((pg : Nat) : Int) y6) := Aside.mk (H.out.look hg har)
              have HWD := Aside.mk hwd
              clear hwd har hg
              refine ⟨_, rfl, ?_⟩
              clear hHeld
              refine hK.out _ _ ⟨cell_h H.out.1.b3 0 rfl, cell_h H.out.1.b4 0 rfl, cell_h H.out.1.b4 1 rfl, cell_h H.out.1.b4 2 rfl, cell_h H.out.1.b5 0 rfl, cell_h H.out.2.1 0 rfl⟩ (fun hHeld => ?_)
              clear hK K
              refine norm_ (a' := ?_) ?_ ?_
              rotate_left
              · show Act.put _ (some 45) _ = _
                simp only [nrm]
                rfl
              refine pu_ (v := ?_) (a' := ?_) 8 (some 37) 2559 rfl rfl HT_ (by kernel_rfl) (.inl ⟨by rfl, ?_⟩) ?_ ?_; rotate_left 2; (· intro w'; go_simp; with_reducible rfl); (· simp only [nrm]; rfl)
              refine pu_ (v := ?_) (a' := ?_) 9 (some 46) 3071 rfl rfl HT_ (by kernel_rfl) (.inl ⟨by rfl, ?_⟩) ?_ ?_; rotate_left 2; (· intro w'; go_simp; with_reducible rfl); (· simp only [nrm]; rfl)
              refine pu_ (v := ?_) (a' := ?_) 10 (some 47) 4095 rfl rfl HT_ (by kernel_rfl) (.inl ⟨by rfl, ?_⟩) ?_ ?_; rotate_left 2; (· intro w'; go_simp; with_reducible rfl); (· simp only [nrm]; rfl)
              exact hjoin (_, _, _) _ ⟨hHeld, H.out, HCB.out, HWD.out⟩
          · refine value_ (w1 := ?_) (v := ?_) (by rfl) rfl ?_ ?_
            rotate_left 2
            · go_simp
              constructor
              · rfl
              · rfl
            have HCB := Aside.mk (CB.new H.out)
            replace H := Aside.mk (H.out.step ((Below.refl y3.heap.size y3).alloc (Nat.le_refl _) (.cells #[.int .i64 0, .int .i64 0, .int .i64 0, .slice none 0 0] 60)))
            generalize World.alloc y3 _ = y4 at H HCB ⊢
            generalize y3.heap.size = cb at HCB ⊢
            clear hHeld
            refine hK.out _ _ ⟨cell_h H.out.1.b3 0 rfl, cell_h H.out.1.b4 0 rfl, cell_h H.out.1.b4 1 rfl, cell_h H.out.1.b4 2 rfl, cell_h H.out.1.b5 0 rfl, cell_h H.out.2.1 0 rfl⟩ (fun hHeld => ?_)
            clear hK K
            refine norm_ (a' := ?_) ?_ ?_
            rotate_left
            · show Act.put _ (some 13) _ = _
              simp only [nrm]
              rfl
            refine on_ 6 (some 44) 2175 rfl rfl HT_ (by kernel_rfl) (by decide) (fun K hK => ?_)
            refine goes_ Tryd.func106 (by kernel_rfl) rfl #[.agg #[.int .i64 ((P : Int) + 1), .int .i64 1, .int .i64 1], .int .i64 ((pg : Nat) : Int), .int .i64 ((x.1 : Nat) : Int)] (by rfl) rfl rfl (by (try simp only [List.map_toArray, List.map_cons, List.map_nil]); first | done | rfl) ?_
            refine (layout_Plan_Addr.calls _ _ _ _ _ _ _ HAD.out).mono ?_
            rintro e y5 ⟨rfl, hb⟩
            replace H : Aside (BI w0 W a gC t nN P X vL vM E b ob v ps2 pb ((pg : Nat) : Int) y5) := Aside.mk (H.out.step hb)
            replace HCB : Aside (CB w0 v cb y5) := Aside.mk (HCB.out.step hb)
            clear hb
            refine ⟨_, rfl, ?_⟩
            clear hHeld
            refine hK.out _ _ ⟨cell_h H.out.1.b3 0 rfl, cell_h H.out.1.b4 0 rfl, cell_h H.out.1.b4 1 rfl, cell_h H.out.1.b4 2 rfl, cell_h H.out.1.b5 0 rfl, cell_h H.out.2.1 0 rfl⟩ (fun hHeld => ?_)
            clear hK K
            refine norm_ (a' := ?_) ?_ ?_
            rotate_left
            · show Act.put _ (some 44) _ = _
              simp only [nrm]
              rfl
            refine on_ 7 (some 45) 2303 rfl rfl HT_ (by kernel_rfl) (by decide) (fun K hK => ?_)
            refine goes_ Tryd.func23 (by kernel_rfl) rfl #[.pointer (some ⟨a, 0, none⟩), .agg #[.int .i64 ((P : Int) + 1), .int .i64 1, .int .i64 1], .pointer (some ⟨t, 0, none⟩), .int .i64 (at_ : Int)] (by rfl) rfl rfl (by (try simp only [List.map_toArray, List.map_cons, List.map_nil]); first | done | rfl) ?_
            refine (HLK.out _ H.out.1.ar).mono ?_
            rintro e y6 ⟨A5, c5, rfl, hwd, har, hg⟩
            replace HCB : Aside (CB w0 v cb y6) := Aside.mk (HCB.out.look H.out hg)
            replace H : Aside (BI w0 W a gC t nN P X vL vM E b ob v ps2 pb ((pg : Nat) : Int) y6) := Aside.mk (H.out.look hg har)
            have HWD := Aside.mk hwd
            clear hwd har hg
            refine ⟨_, rfl, ?_⟩
            clear hHeld
            refine hK.out _ _ ⟨cell_h H.out.1.b3 0 rfl, cell_h H.out.1.b4 0 rfl, cell_h H.out.1.b4 1 rfl, cell_h H.out.1.b4 2 rfl, cell_h H.out.1.b5 0 rfl, cell_h H.out.2.1 0 rfl⟩ (fun hHeld => ?_)
            clear hK K
            refine norm_ (a' := ?_) ?_ ?_
            rotate_left
            · show Act.put _ (some 45) _ = _
              simp only [nrm]
              rfl
            refine pu_ (v := ?_) (a' := ?_) 8 (some 37) 2559 rfl rfl HT_ (by kernel_rfl) (.inl ⟨by rfl, ?_⟩) ?_ ?_; rotate_left 2; (· intro w'; go_simp; with_reducible rfl); (· simp only [nrm]; rfl)
            refine pu_ (v := ?_) (a' := ?_) 9 (some 46) 3071 rfl rfl HT_ (by kernel_rfl) (.inl ⟨by rfl, ?_⟩) ?_ ?_; rotate_left 2; (· intro w'; go_simp; with_reducible rfl); (· simp only [nrm]; rfl)
            refine pu_ (v := ?_) (a' := ?_) 10 (some 47) 4095 rfl rfl HT_ (by kernel_rfl) (.inl ⟨by rfl, ?_⟩) ?_ ?_; rotate_left 2; (· intro w'; go_simp; with_reducible rfl); (· simp only [nrm]; rfl)
            exact hjoin (_, _, _) _ ⟨hHeld, H.out, HCB.out, HWD.out⟩
        rintro ⟨cb, A5, c5⟩ y7 ⟨hHeld, hst1, hst2, hst3⟩
        replace H := Aside.mk hst1
        have HCB := Aside.mk hst2
        have HWD := Aside.mk hst3
        clear hst1 hst2 hst3
        refine norm_ (a' := ?_) ?_ ?_
        rotate_left
        · simp only [putAll, nrm]
          rfl
        refine on_ 12 (none) 8191 rfl rfl HT_ (by kernel_rfl) (by decide) (fun K hK => ?_)
        refine skip_ (by rfl) rfl (sc_run (seg := [.int .i64 R1, .int .i64 R2, .int .i64 R3, .slice A5 ws.length c5]) rfl rfl rfl rfl HCB.out.1 rfl (by simp [Value.oneCell'])) ?_
        obtain ⟨hs1, hs2⟩ := sc_ HCB.out.1 [.int .i64 R1, .int .i64 R2, .int .i64 R3, .slice A5 ws.length c5] rfl
        replace H := Aside.mk (H.out.store HCB.out hs2)
        replace HWD := Aside.mk (HWD.out.store HCB.out hs2)
        have HCC := Aside.mk hs1
        have HCN := Aside.mk HCB.out.2
        clear hs1 hs2 HCB
        generalize World.setCells _ _ _ _ = y8 at H HWD HCC ⊢
        clear hHeld
        refine hK.out _ _ ⟨cell_h H.out.1.b3 0 rfl, cell_h H.out.1.b4 0 rfl, cell_h H.out.1.b4 1 rfl, cell_h H.out.1.b4 2 rfl, cell_h H.out.1.b5 0 rfl, cell_h H.out.2.1 0 rfl⟩ (fun hHeld => ?_)
        clear hK K
        refine pu_ (v := ?_) (a' := ?_) 13 (some 14) 16383 rfl rfl HT_ (by kernel_rfl) (.inl ⟨by rfl, ?_⟩) ?_ ?_; rotate_left 2; (· intro w'; go_simp; with_reducible rfl); (· simp only [nrm]; rfl)
        refine done_ (done_of HT_.out (by kernel_rfl)) ?_
        clear HT_ HW_ hHeld
        refine only_normal ?_
        by_cases h0 : Re = 0
        · subst h0
          have f8 := frozen_h H.out.1.b8 0
          have x8 := cell_h H.out.1.b8 0 rfl
          have y0 := cell_h HCC.out 0 rfl
          have y1 := cell_h HCC.out 1 rfl
          have y2 := cell_h HCC.out 2 rfl
          have y3 := cell_h HCC.out 3 rfl
          obtain ⟨i0, hi, hz0, hz1, hz2⟩ := info_parts info60
          obtain ⟨Av, cv, rfl, hcv, _⟩ := H.out.1.reads
          have hrow := H.out.1.row
          have hNs8 := H.out.1.ar.size_le
          have hpn : ps2.length ≤ 1000 := by have h1 := HPL.out; have h2 := HL.out; have h3 := HLT.out; have := HPG.out; have := HPp.out; omega
          gi_wp2_with (gi_at_builtin; refine wpListIn_append_own _ rfl _ _ 110 rfl w0.heap.size 60 i0 (.agg #[.int .i64 0, .int .i64 0, .int .i64 0, .slice none 0 0]) 4 48 Tryd.underlying110 hi hz0 hz1 hz2 rfl (by decide) _ _ _ rfl (hrow.alloc _) ⟨y8.heap.size, 0, none⟩ 1 1 [.int .i64 R1, .int .i64 R2, .int .i64 R3, .slice A5 ws.length c5] rfl rfl (new_cells y8 [.int .i64 R1, .int .i64 R2, .int .i64 R3, .slice A5 ws.length c5] 60) (by simp [Value.oneCell']) (by simp only [maxLen]; omega) (by omega) (by simp; omega) ?_; intro v' w1' hown' hgrow _; obtain ⟨g', cap', rfl⟩ := ownsRow_succ hown'; obtain ⟨hA2, hG2⟩ := H.out.1.appended HWD.out hown' hgrow; obtain ⟨hv1, _, _, _, _⟩ := H.out.1.b8.appended (by decide) hrow hNs8 (by have := H.out.1.hob; have := H.out.1.hb; omega) hown' hgrow; have hc1 := hv1.cell; have hf1 := hv1.frozen)
          have hG := H.out.2.2.trans hG2
          have hpbo := HPB.out.2.1
          refine ⟨hG.2.from _, hG.1, ⟨_, ps2 ++ [(⟨R1, R2, R3, ws⟩, A5, c5)], hA2, keep_cells (W := y8) H.out.2.1 (by decide) hrow hgrow (by omega), ⟨okL_snoc HOK.out (by rw [HLKS.out]), ?_, ?_⟩, fun D hm => hG.2.same D _ (HDD.out D hm) rfl⟩⟩
          · rw [List.map_append, HPS.out, List.map_append, List.append_assoc]
            simp [HLKS.out]
          · have h1 := HPL.out
            simp only [List.length_append, List.length_singleton]
            omega
        · have de : (Re != 0) = true := by simpa using h0
          have f6 := frozen_h H.out.1.b6 0
          have f7 := frozen_h H.out.1.b7 0
          have f7' : (y8.setCell ⟨b + 3, 0, none⟩ (.slice none 0 0)).frozen? ⟨b + 4, 0, none⟩ = false := by rw [World.frozen?_setCell]; exact f7
          have c6 := cell_h H.out.1.b6 0 rfl
          have c7 := cell_h H.out.1.b7 0 rfl
          have H0 := Aside.mk h0
          clear h0
          gi_wp2
          have hk := res_keeps H.out.1 (.slice none 0 0) Re
          have hG := H.out.2.2.trans hk
          exact ⟨hG.2.from _, ⟨rfl, v, ps2, pre, x, Re, rfl, HOK.out, by rw [HLKS.out], H0.out, H.out.1.res (.slice none 0 0) Re, fun D hm => hG.2.same D _ (HDD.out D hm) rfl⟩⟩
      case done =>
        rintro D ys W hD9 hS ⟨v, ps2, hA, hpb, ⟨hok, hps, hpl⟩, hD⟩ hK9
        have hO2 : outS P X (E.map Cl.n) (P + 1 - (pg + 1)) (pg + 1) (ps2.map (·.1)) = outS P X (E.map Cl.n) (P + 1) 0 [] := by
          have hO := HO.out
          rw [show P + 1 - pg = (P + 1 - (pg + 1)) + 1 by have := HPG.out; omega, outS] at hO
          have hys : plcA P X pg = ys := by unfold plcA; rw [HALE.out]; exact hS.symm
          rw [hys, inS_all hok, if_pos rfl] at hO
          rw [← hO, hps]
        have hL2 : ps2.length ≤ 64 * (pg + 1) := by
          have h1 := HL.out
          have h2 : ys.length ≤ 64 := by rw [hS]; exact ptk_len _ _ _
          omega
        have hDs2 : (D :: Ds).Nodup ∧ ∀ q ∈ D :: Ds, w0.heap.size ≤ q ∧ W.heap[q]? = some (.deferred (some [])) := by
          refine ⟨List.nodup_cons.2 ⟨fun hm => by have := (hD1 D hm).1; omega, HDN.out⟩, fun q hq => ?_⟩
          rcases List.mem_cons.1 hq with rfl | hq
          · exact ⟨by omega, hK9⟩
          · exact ⟨HDG.out q hq, hD q hq⟩
        have HPG9 := HPG.out
        have HPP9 := HPp.out
        have e9 : Value.int .i64 (wrap64 ((pg : Int) + 1)) = .int .i64 ((pg + 1 : Nat) : Int) := idx_ (m := 300) (by omega) (by omega)
        gi_wp2
        exact Handed.intro (P + 1 - (pg + 1)) (by omega) (hJ _ _ _ ⟨pg + 1, v, ps2, D :: Ds, _, _, _, _, _, _, _, _, _, _, _, _, _, _, _, _, _, _, _, _, _, _, _, _, _, _, _, _, _, _, _, _, _, _, _, _, _, _, _, _, _, _, rfl, by omega, by first | rfl | (simp only [e9]; rfl) | (rw [← e9]; rfl) | exact (1 : Nat), ⟨hA⟩, ⟨hO2⟩, ⟨hL2⟩, ⟨hDs2⟩⟩)
      case stop =>
        rintro D c pre W hD9 hSp ⟨rfl, v, ps2, pre', j, e, he1, he2, he3, he4, hA, hD⟩ hK9
        have hO2 : outS P X (E.map Cl.n) (P + 1) 0 [] = ([], e) := by
          have hO := HO.out
          rw [show P + 1 - pg = (P + 1 - (pg + 1)) + 1 by have := HPG.out; omega, outS] at hO
          obtain ⟨k, hk, hx, hpre⟩ := hSp
          have hb := stop_at_ (P := P) (X := X) (ns := E.map Cl.n) (pg := pg) (acc := ps.map (·.1)) hk (by rw [HALE.out]; exact hx) (pre := pre') (j := j) (by rw [← he1, hpre, HALE.out]) he2 he3 he4
          rw [hb, if_neg he4] at hO
          exact hO.symm
        have hDs2 : (D :: Ds).Nodup ∧ ∀ q ∈ D :: Ds, w0.heap.size ≤ q ∧ W.heap[q]? = some (.deferred (some [])) := by
          refine ⟨List.nodup_cons.2 ⟨fun hm => by have := (hD1 D hm).1; omega, HDN.out⟩, fun q hq => ?_⟩
          rcases List.mem_cons.1 hq with rfl | hq
          · exact ⟨by omega, hK9⟩
          · exact ⟨HDG.out q hq, hD q hq⟩
        gi_wp2
        exact all_err (Ds := D :: Ds) hA hDs2 hO2 rfl rfl
    · obtain rfl : pg = P + 1 := by omega
      have d1 : decide (((P + 1 : Nat) : Int) < (P : Int) + 1) = false := by simp
      have n1 : ¬ (((P + 1 : Nat) : Int) < (P : Int) + 1) := by omega
      have n2 : ¬ ((P : Int) + 1 < (P : Int) + 1) := by omega
      obtain ⟨Av, cv, rfl, hcv, _⟩ := HA.out.reads
      have x8 := cell_h HA.out.b8 0 rfl
      have f6 := frozen_h HA.out.b6 0
      have f7 := frozen_h HA.out.b7 0
      have f7' : (W.setCell ⟨b + 3, 0, none⟩ (.slice Av ps.length cv)).frozen? ⟨b + 4, 0, none⟩ = false := by rw [World.frozen?_setCell]; exact f7
      have c6 := cell_h HA.out.b6 0 rfl
      have c7 := cell_h HA.out.b7 0 rfl
      clear hpg hle
      gi_wp2
      have hO := HO.out
      rw [Nat.sub_self, outS] at hO
      exact all_end HA.out HD.out hO.symm rfl rfl
end Go.Proofs.YtelfiegocdjnoaaDoor.Ar
