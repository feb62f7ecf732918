/- All objects: what comes is the same as what comes; nothing from a plan of nought pages; the document's over what is owned. Conditions: a plan of at most five pages; words of 64 bits. -/
import Derived.Test.YtelfiegocdjnoaaDoorAl3
import Derived.Test.YtelfiegocdjnoaaDoorAl5
import Derived.Test.YtelfiegocdjnoaaDoorMrF0
import Derived.Test.YtelfiegocdjnoaaDoorMrF2
import Derived.Test.YtelfiegocdjnoaaDoorMrF1
namespace Go.Proofs.YtelfiegocdjnoaaDoor.Ar
open Go Go.RowKit Go.Shelf Go.Proofs.YtelfiegocdjnoaaDoor.Sep Go.Proofs.YtelfiegocdjnoaaDoor.Pg Go.Proofs.YtelfiegocdjnoaaDoorW.PrintWords Go.Proofs.YtelfiegocdjnoaaDoorW.PrintLast Go.Proofs.YtelfiegocdjnoaaDoorW.PrintMore Go.Proofs.YtelfiegocdjnoaaDoor.Q
set_option linter.unusedVariables false
set_option linter.unusedSimpArgs false
set_option maxHeartbeats 8000000
set_option maxRecDepth 100000
theorem sameC_l (l : List S60) (hl : l.length ≤ 10000) (hg : ∀ x ∈ l, x.f3.length ≤ 1000) : ∀ (d i k : Nat), i + d = l.length → 1010 + d < k → windrowref11_SameCells.l0 k l l (i : Int) = some true := by
  intro d
  induction d with
  | zero =>
    intro i k hi hk
    obtain ⟨k, rfl⟩ : ∃ q, k = q + 1 := ⟨k - 1, by omega⟩
    unfold windrowref11_SameCells.l0
    rw [if_neg (by omega)]
  | succ d ih =>
    intro i k hi hk
    obtain ⟨k, rfl⟩ : ∃ q, k = q + 1 := ⟨k - 1, by omega⟩
    have hx : (rd_T60 l (i : Int)).f3.length ≤ 1000 := by
      unfold rd_T60
      rw [Int.toNat_natCast, List.getD_eq_getElem?_getD, List.getElem?_eq_getElem (by omega)]
      exact hg _ (List.getElem_mem _)
    have hs : windrowref11_SameCell.f k (rd_T60 l (i : Int)).f0 (rd_T60 l (i : Int)).f1 (rd_T60 l (i : Int)).f2 (rd_T60 l (i : Int)).f3 (rd_T60 l (i : Int)).f0 (rd_T60 l (i : Int)).f1 (rd_T60 l (i : Int)).f2 (rd_T60 l (i : Int)).f3 = some true := by
      generalize rd_T60 l (i : Int) = x at hx ⊢
      unfold windrowref11_SameCell.f windrowref01_Longs.f
      rw [if_pos rfl, if_pos rfl, if_pos rfl, if_pos rfl]
      rw [show ((0 : Int)) = ((0 : Nat) : Int) from rfl, longsL x.f3 (by omega) x.f3.length 0 k (by omega) (by omega)]
      rfl
    unfold windrowref11_SameCells.l0
    rw [if_pos (by omega), if_pos (by omega), if_pos (by omega), hs, Option.bind_some, if_pos rfl, show wrap64 ((i : Int) + 1) = ((i + 1 : Nat) : Int) from by unfold wrap64; omega]
    exact ih (i + 1) k (by omega) (by omega)
variable {P : Nat} {X : List Int} {ns : List Nat}
theorem lkS_len (pg : Nat) (j : J64) : (lkS P X ns pg j).1.f3.length ≤ 1000 := look_len P X ns _
theorem inS_good {pg : Nat} : ∀ (js : List J64) (acc : List S60), (∀ x ∈ acc, x.f3.length ≤ 1000) → ∀ x ∈ (inS P X ns pg js acc).1, x.f3.length ≤ 1000
  | [], acc, h => by simpa [inS] using h
  | j :: js, acc, h => by
    rw [inS]
    split
    · refine inS_good js _ (fun x hx => ?_)
      rcases List.mem_append.1 hx with hx | hx
      · exact h x hx
      · rw [List.mem_singleton] at hx; subst hx; exact lkS_len pg j
    · intro x hx; cases hx
theorem outS_good : ∀ (d pg : Nat) (acc : List S60), (∀ x ∈ acc, x.f3.length ≤ 1000) → (∀ x ∈ (outS P X ns d pg acc).1, x.f3.length ≤ 1000) ∧ (outS P X ns d pg acc).1.length ≤ acc.length + 64 * d
  | 0, pg, acc, h => by simpa [outS] using h
  | d + 1, pg, acc, h => by
    rw [outS]
    split
    · have h1 := outS_good d (pg + 1) (inS P X ns pg (plcA P X pg) acc).1 (inS_good _ _ h)
      have h2 := inS_len (P := P) (X := X) (ns := ns) (pg := pg) (plcA P X pg) acc
      have h3 : (plcA P X pg).length ≤ 64 := ptk_len _ _ _
      exact ⟨h1.1, by omega⟩
    · exact ⟨fun x hx => (by cases hx), by simp⟩
theorem same_all {w : World} {l : List S60} {A A' : Option Addr} {c c' n : Nat} (hn : l.length = n) (hl : n ≤ 10000) (hg : ∀ x ∈ l, x.f3.length ≤ 1000) (h1 : Kd.C k60 w A n l) (hc : n ≤ c) (h2 : Kd.C k60 w A' n l) (hc' : n ≤ c') :
    Calls Tryd.prog 50 #[.slice A n c, .slice A' n c'] w fun e w' => e = .returned (.bool true) ∧ Below w.heap.size w w' := by
  subst hn
  refine windrowref11_SameCells.calls (l.length + 1011) A c l A' c' l true w h1 hc h2 hc' ?_
  unfold windrowref11_SameCells.f
  rw [if_pos rfl, show ((0 : Int)) = ((0 : Nat) : Int) from rfl, sameC_l l hl hg l.length 0 _ (by omega) (by omega)]
theorem rall_n {w0 w : World} {F : List HP} {gD nN n : Nat} {l : List S60} {er : Int} (hP : P < 5) (hX : X.length = nN) (hN : nN = 128 + 64 * P) (hr : ∀ i, 0 ≤ X.getD i 0 ∧ X.getD i 0 < 18446744073709551616) {A2 : Option Addr} {c2 : Nat} {cs : List S161} (hC : Kd.C k161 w0 A2 cs.length cs) (hc : cs.length ≤ c2) (hO : outS P X (cs.map fun x => x.f1.length) (P + 1) 0 [] = (l, er)) (hn : l.length = n) (h : St w0 w (blk gD (U X).toArray 22 :: F)) :
    Calls Tryd.prog 49 #[.slice (some ⟨gD, 0, none⟩) nN nN, .agg #[.int .i64 ((P : Int) + 1), .int .i64 1, .int .i64 1, .int .i64 64, .int .i64 22, .int .i64 (128 + 64 * (P : Int))], .slice A2 cs.length c2] w fun e w' => ∃ A c, e = .returned (.tuple #[.slice A n c, .int .i64 er]) ∧ n ≤ c ∧ Kd.C k60 w' A n l ∧ Below w.heap.size w w' := by
  have h1 : St w0 w [blk gD (U X).toArray 22] := h.drop 1
  obtain ⟨S, hS, hs⟩ := h1.withSnap
  refine (rallS_ hP hX hN hr hC hc hO hn hs).mono ?_
  rintro e w' ⟨A, c, rfl, h2, h3, h9⟩
  refine ⟨A, c, rfl, h2, h3, ?_⟩
  have hsn := (h9.pick 1 rfl).snapped
  have hk : ∀ k, k < w.heap.size → w'.heap[k]? = w.heap[k]? := by
    intro k hk
    by_cases h0 : k < w0.heap.size
    · rw [h1.below.block k h0, h9.below.block k h0]
    · by_cases hSk : S k
      · obtain ⟨S1, R1, e1, _, p1, e2⟩ := hS
        rcases (e1 k).1 hSk with hk2 | hk2
        · have := (p1.1 k).1 hk2
          subst this
          exact h9.heap.trans h1.heap.symm
        · exact absurd hk2 (e2 k)
      · exact hsn k ⟨by omega, hk, hSk⟩
  refine ⟨h9.below.os.trans h1.below.os.symm, h9.below.tape.trans h1.below.tape.symm, h9.below.output.trans h1.below.output.symm, ?_, hk⟩
  obtain ⟨q, hq⟩ : ∃ q, w.heap.size = q + 1 := ⟨w.heap.size - 1, by have := (Array.getElem?_eq_some_iff.1 h1.heap).1; omega⟩
  have e := hk q (by omega)
  rw [Array.getElem?_eq_getElem (show q < w.heap.size by omega)] at e
  have := (Array.getElem?_eq_some_iff.1 e).1
  omega
/-- The arena has no objects by a plan of nought pages: no plan at all. -/
theorem all_empty {w : World} (a t : Nat) :
    Calls Tryd.prog 48 #[.pointer (some ⟨a, 0, none⟩), .agg #[.int .i64 0, .int .i64 0, .int .i64 0], .pointer (some ⟨t, 0, none⟩)] w fun e w' => e = .returned (.tuple #[.slice none 0 0, .int .i64 1]) ∧ Below w.heap.size w w' := by
  refine (callsIn_wide (n := 6)).1 ?_
  refine callsIn_of_wp_marks Tryd.func48 rfl trivial ?_ rfl
  simp only [Tryd.ntmps48, List.size_toArray, List.length_cons, List.length_nil, Nat.reduceAdd, Nat.reduceSub, Array.replicate_succ, Array.replicate_zero, List.push_toArray, List.append_toArray, List.nil_append, List.cons_append]
  have PB : Aside (layout_Plan_Base.f 0 0 0 = some (-1)) := ⟨by rfl⟩
  have H : Aside (St w _ [blk (w.heap.size + 4) #[.int .i64 0] 37, blk (w.heap.size + 3) #[.slice none 0 0] 110, blk (w.heap.size + 2) #[.pointer (some ⟨t, 0, none⟩)] 55, blk (w.heap.size + 1) #[.int .i64 0, .int .i64 0, .int .i64 0] 40, blk w.heap.size #[.pointer (some ⟨a, 0, none⟩)] 29]) := Aside.mk (by have := (((((St.start w).alloc #[.pointer (some ⟨a, 0, none⟩)] 29).alloc #[.int .i64 0, .int .i64 0, .int .i64 0] 40).alloc #[.pointer (some ⟨t, 0, none⟩)] 55).alloc #[.slice none 0 0] 110).alloc #[.int .i64 0] 37; simpa using this)
  have x0 := (H.out.pick 3 rfl).cell 0
  have x1 := (H.out.pick 3 rfl).cell 1
  have x2 := (H.out.pick 3 rfl).cell 2
  gi_wp2_with (refine ⟨trivial, ?_⟩; gi_at_call 104; refine (callsIn_wide.2 (layout_Plan_Base.calls _ _ _ _ _ PB.out)).mono ?_; rintro e w1 ⟨rfl, hb⟩; replace H := Aside.mk (H.out.step hb); clear hb x0 x1 x2; have f6 := (H.out.pick 1 rfl).frozen 0; have f7 := (H.out.pick 0 rfl).frozen 0; have f7' : (w1.setCell ⟨w.heap.size + 3, 0, none⟩ (.slice none 0 0)).frozen? ⟨w.heap.size + 4, 0, none⟩ = false := (by rw [World.frozen?_setCell]; exact f7); have c6 := (H.out.pick 1 rfl).cell 0; have c7 := (H.out.pick 0 rfl).cell 0)
  have hb2 : Below w.heap.size w ((w1.setCell ⟨w.heap.size + 3, 0, none⟩ (.slice none 0 0)).setCell ⟨w.heap.size + 4, 0, none⟩ (.int .i64 1)) := below_set (below_set H.out.below (Nat.le_add_right _ _)) (Nat.le_add_right _ _)
  letI : FR := ⟨0, #[], 0, #[]⟩
  have hh6 : w1.heap[w.heap.size + 3]? = some (.cells #[.slice none 0 0] 110 (0, 0)) := (H.out.pick 1 rfl).heap
  have hh7 : w1.heap[w.heap.size + 4]? = some (.cells #[.int .i64 0] 37 (0, 0)) := (H.out.pick 0 rfl).heap
  have k6 := cell_h ((set_heap (u := .int .i64 1) (show w.heap.size + 3 ≠ w.heap.size + 4 by omega)).trans (set_heap_at (u := .slice none 0 0) hh6)) 0 rfl
  have k7 := cell_h (set_heap_at (u := .int .i64 1) ((set_heap (u := .slice none 0 0) (show w.heap.size + 4 ≠ w.heap.size + 3 by omega)).trans hh7)) 0 rfl
  exact ⟨_, res2_ rfl rfl k6 k7 ⟨_, _, _, rfl⟩ ⟨_, _, rfl⟩, rfl, hb2⟩
end Go.Proofs.YtelfiegocdjnoaaDoor.Ar
