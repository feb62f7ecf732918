/- Are all accesses the same, and none a fault? They are, if both logs are the same ones. Conditions: the log is not empty, and not very long. -/
import Derived.Test.YtelfiegocdjnoaaLg0
import Derived.Test.YtelfiegocdjnoaaWk
import Derived.Deep.RegionHeld3
import Derived.Test.YtelfiegocdjnoaaMrF0
import Derived.Test.YtelfiegocdjnoaaMrF1
namespace Go.Proofs.Ytelfiegocdjnoaa.Ar
open Go Go.RowKit Go.Shelf Go.Proofs.Ytelfiegocdjnoaa.Sep Go.Proofs.YtelfiegocdjnoaaW.PrintWords Go.Proofs.YtelfiegocdjnoaaW.PrintLast Go.Proofs.YtelfiegocdjnoaaW.PrintMore Go.Proofs.Ytelfiegocdjnoaa.Q
set_option linter.unusedVariables false
set_option linter.unusedSimpArgs false
set_option maxHeartbeats 8000000
set_option maxRecDepth 100000
attribute [local go_sem] Oper.semAt_some
def sm.T7 : Bool × List (List Nat × List Nat) := (true, [([], []), ([0], [0]), ([1], [1]), ([2], [2]), ([3], [3]), ([4], [4]), ([5, 4], [5]), ([6], [6]), ([6], [6]), ([8, 6], [6, 8]), ([9, 6], [6, 9]), ([10, 6], [6, 10]), ([11, 6], [6, 11]), ([12, 6], [6, 12]), ([13, 6], [6, 13]), ([7, 14, 6, 6], [6, 7, 14]), ([6, 15], [6, 15]), ([16, 15, 0, 1, 2, 3, 4, 5, 6, 7, 8, 9, 10, 11, 12, 13, 14, 15, 16], [16])])
def sm.B7 : List Nat := [0, 1, 3, 7, 15, 31, 63, 127, 127, 383, 895, 1919, 3967, 8063, 16255, 32767, 65535, 131071]
theorem sm.tab7 : rtab .any (opsOf Try.f30 7) = sm.T7 := by kernel_rfl
theorem sm.bits7 : waitsOk sm.T7.2 sm.B7 = true := by kernel_rfl
def sAcc (x : Acc) : S67 := ⟨x.who, x.kind, x.at_, x.want, x.put, x.seen, x.left⟩
theorem accs_get (L : List Acc) : ∀ (j i : Nat), j < L.length → i < 7 → (accs L)[j * 7 + i]? = (Acc.vs (L[j]?.getD zAcc))[i]? := by
  induction L with
  | nil => intro j i hj; simp at hj
  | cons x L ih =>
    intro j i hj hi
    have e : accs (x :: L) = Acc.vs x ++ accs L := by simp [accs]
    rw [e]
    cases j with
    | zero => rw [Nat.zero_mul, Nat.zero_add, List.getElem?_append_left (by simp [Acc.vs]; omega)]; rfl
    | succ j =>
      rw [List.getElem?_append_right (by simp [Acc.vs]; omega)]
      have e2 : (j + 1) * 7 + i - (Acc.vs x).length = j * 7 + i := by simp [Acc.vs]; omega
      rw [e2, ih j i (by simpa using hj) hi]
      simp
theorem logAt_of {w : World} {g : Nat} {L : List Acc} (h : ∀ j u, (accs L)[j]? = some u → w.cell? ⟨g, j, none⟩ = some u) : LogAt w g L := fun j hj => by
  have k := fun i hi => accs_get L j i hj hi
  exact ⟨h _ _ (k 0 (by decide)), h _ _ (k 1 (by decide)), h _ _ (k 2 (by decide)), h _ _ (k 3 (by decide)), h _ _ (k 4 (by decide)), h _ _ (k 5 (by decide)), h _ _ (k 6 (by decide))⟩
theorem logAt_C {w : World} {g : Nat} {L : List Acc} (h : LogAt w g L) (hl : L.length ≤ 10000) : Kd.C k67 w (some ⟨g, 0, none⟩) (L.map sAcc).length (L.map sAcc) := by
  refine ⟨rfl, by rw [List.length_map]; omega, fun _ => ⟨_, rfl, fun j p hj => ?_⟩⟩
  have hj0 : j < L.length := by simpa using (List.getElem?_eq_some_iff.1 hj).1
  have hp : p = sAcc (L[j]?.getD zAcc) := by
    rw [List.getElem?_map, List.getElem?_eq_getElem hj0] at hj
    rw [List.getElem?_eq_getElem hj0]
    simpa using hj.symm
  subst hp
  obtain ⟨h0, h1, h2, h3, h4, h5, h6⟩ := h j hj0
  generalize L[j]?.getD zAcc = x at *
  refine ⟨[.int .i64 x.who, .int .i64 x.kind, .int .i64 x.at_, .int .u64 x.want, .int .u64 x.put, .int .u64 x.seen, .int .u64 x.left], rfl, k67_mk w (sAcc x), ?_⟩
  intro i u hu
  have ha : (⟨g, 0, none⟩ : Addr).add (j * k67.sz + i) = ⟨g, j * 7 + i, none⟩ := by
    rw [add_plain]
    congr 1
  rw [ha]
  match i, hu with
  | 0, hu => obtain rfl : _ = u := by simpa using hu
             exact h0
  | 1, hu => obtain rfl : _ = u := by simpa using hu
             exact h1
  | 2, hu => obtain rfl : _ = u := by simpa using hu
             exact h2
  | 3, hu => obtain rfl : _ = u := by simpa using hu
             exact h3
  | 4, hu => obtain rfl : _ = u := by simpa using hu
             exact h4
  | 5, hu => obtain rfl : _ = u := by simpa using hu
             exact h5
  | 6, hu => obtain rfl : _ = u := by simpa using hu
             exact h6
  | i + 7, hu => simp at hu
theorem sameL (l : List S67) (hl : l.length ≤ 10000) : ∀ (d i k : Nat), i + d = l.length → d < k → windrowref03_SameLog.l0 k l l (i : Int) = some true := by
  intro d
  induction d with
  | zero =>
    intro i k hi hk
    obtain ⟨k, rfl⟩ : ∃ q, k = q + 1 := ⟨k - 1, by omega⟩
    unfold windrowref03_SameLog.l0
    rw [if_neg (by omega)]
  | succ d ih =>
    intro i k hi hk
    obtain ⟨k, rfl⟩ : ∃ q, k = q + 1 := ⟨k - 1, by omega⟩
    unfold windrowref03_SameLog.l0
    rw [if_pos (by omega), if_pos (by omega), if_pos (by omega)]
    simp only [beq_self_eq_true, Bool.not_true, Bool.false_or, Bool.false_eq_true, if_false]
    have hs := ih (i + 1) k (by omega) (by omega)
    rw [show wrap64 ((i : Int) + 1) = ((i + 1 : Nat) : Int) by unfold wrap64; omega]
    exact hs
theorem same_call {w : World} {g3 g2 c3 c2 : Nat} {L : List Acc} (h3 : Kd.C k67 w (some ⟨g3, 0, none⟩) (L.map sAcc).length (L.map sAcc)) (hc3 : L.length ≤ c3) (h2 : Kd.C k67 w (some ⟨g2, 0, none⟩) (L.map sAcc).length (L.map sAcc)) (hc2 : L.length ≤ c2) (hl0 : L.length ≤ 10000) :
    Calls Try.prog 73 #[.slice (some ⟨g3, 0, none⟩) L.length c3, .slice (some ⟨g2, 0, none⟩) L.length c2] w fun e w' => e = .returned (.bool true) ∧ Drawn0 w w' := by
  have hl : (L.map sAcc).length = L.length := List.length_map ..
  have h := windrowref03_SameLog.calls (L.length + 1) (some ⟨g3, 0, none⟩) c3 (L.map sAcc) (some ⟨g2, 0, none⟩) c2 (L.map sAcc) true w h3 (by omega) h2 (by omega) (by
    unfold windrowref03_SameLog.f
    rw [if_pos rfl]
    exact sameL _ (by omega) L.length 0 _ (by omega) (by omega))
  rw [hl] at h
  exact h
theorem faults_c {w : World} {a : Nat} (h : w.cell? ⟨a, 4, none⟩ = some (.int .i64 0)) : Calls Try.prog 38 #[.pointer (some ⟨a, 0, none⟩)] w fun e w' => e = .returned (.int .i64 0) ∧ w' = w := by
  go_enter Try.func38, Try.ntmps38
  go_wp2
  go_ret
  exact ⟨rfl, rfl⟩
theorem log_ (a : Nat) (w : World) : Calls Try.prog 72 #[.pointer (some ⟨a, 0, none⟩)] w fun e w' => e = .returned (.func (.func 91) #[] #[.pointer (some ⟨w.heap.size, 0, none⟩)]) ∧ w' = w.alloc (.cells #[.pointer (some ⟨a, 0, none⟩)] 45) := by
  go_enter Try.func72, Try.ntmps72
  go_wp2
  go_ret
  exact ⟨rfl, rfl⟩
theorem log_stops (F : Fence) (n : Nat) (h91 : F.fn 91) (hro : F.round = none) (hn : 1 ≤ n) (Bs n₀ a g cap : Nat) (L : List Acc) (hreach : L.length ≤ 10000) (hg : g < n₀) (w : World) (hBs : Bs < w.heap.size) (hn0 : n₀ ≤ w.heap.size) (ha0 : a < n₀)
    (hc : w.cell? ⟨Bs, 0, none⟩ = some (.pointer (some ⟨a, 0, none⟩))) (ha : w.cell? ⟨a, 1, none⟩ = some (.slice (some ⟨g, 0, none⟩) L.length cap)) (hl : LogAt w g L) :
    SeqStopsK F n Try.prog 91 #[.pointer (some ⟨Bs, 0, none⟩)] encA (Below n₀) (fun ys => ys = upt L L.length) (fun pre => ∃ k, k ≤ L.length ∧ pre = upt L k) L.length w := fun l J Jx W hW hJ _ hY h0 =>
  log1_in F n h91 hro hn l Bs n₀ a g cap L hreach hg J Jx W hJ hY ((hW.cell (p := ⟨Bs, 0, none⟩) hBs).trans hc) ((hW.cell (p := ⟨a, 1, none⟩) (Nat.lt_of_lt_of_le ha0 hn0)).trans ha) (hl.below hW (Nat.lt_of_lt_of_le hg hn0)) (Nat.le_trans hn0 hW.size) h0
theorem cell_alc {W : World} {a : Addr} {v : Value} (o : Obj) (h : W.cell? a = some v) : (W.alloc o).cell? a = some v := Go.cell_kept h (World.grownBy_alloc W o none) (fun r e => by cases e)
theorem upt_snd (L : List Acc) : (upt L L.length).map (·.2) = L := by
  refine List.ext_getElem ?_ fun i h1 h2 => ?_
  · simp [upt]
  · simp [upt, h2]
theorem heldN {w : World} {x a d g3 g2 c3 c2 D : Nat} {L : List Acc} {w' : World} (h : w'.cell? ⟨x, 9, none⟩ = some (.pointer (some ⟨a, 0, none⟩)) ∧ w'.cell? ⟨x, 10, none⟩ = some (.pointer (some ⟨d, 0, none⟩)) ∧ w'.cell? ⟨w.heap.size + 1, 0, none⟩ = some (.slice (some ⟨g3, 0, none⟩) L.length c3) ∧ w'.cell? ⟨a, 4, none⟩ = some (.int .i64 0) ∧ w'.cell? ⟨d, 1, none⟩ = some (.slice (some ⟨g2, 0, none⟩) L.length c2) ∧ w'.cell? ⟨w.heap.size, 0, none⟩ = some (.bool false) ∧ w'.frozen? ⟨w.heap.size, 0, none⟩ = false ∧ Kd.C k67 w' (some ⟨g3, 0, none⟩) (L.map sAcc).length (L.map sAcc) ∧ Kd.C k67 w' (some ⟨g2, 0, none⟩) (L.map sAcc).length (L.map sAcc) ∧ w'.heap[D]? = some (.deferred (some [])) ∧ Below w.heap.size w w') (n : Nat) : ((w'.drewN n).cell? ⟨x, 9, none⟩ = some (.pointer (some ⟨a, 0, none⟩)) ∧ (w'.drewN n).cell? ⟨x, 10, none⟩ = some (.pointer (some ⟨d, 0, none⟩)) ∧ (w'.drewN n).cell? ⟨w.heap.size + 1, 0, none⟩ = some (.slice (some ⟨g3, 0, none⟩) L.length c3) ∧ (w'.drewN n).cell? ⟨a, 4, none⟩ = some (.int .i64 0) ∧ (w'.drewN n).cell? ⟨d, 1, none⟩ = some (.slice (some ⟨g2, 0, none⟩) L.length c2) ∧ (w'.drewN n).cell? ⟨w.heap.size, 0, none⟩ = some (.bool false) ∧ (w'.drewN n).frozen? ⟨w.heap.size, 0, none⟩ = false ∧ Kd.C k67 (w'.drewN n) (some ⟨g3, 0, none⟩) (L.map sAcc).length (L.map sAcc) ∧ Kd.C k67 (w'.drewN n) (some ⟨g2, 0, none⟩) (L.map sAcc).length (L.map sAcc) ∧ (w'.drewN n).heap[D]? = some (.deferred (some [])) ∧ Below w.heap.size w (w'.drewN n)) := by
  obtain ⟨h1, h2, h3, h4, h5, h6, h7, h8, h9, h10, h11⟩ := h
  exact ⟨h1, h2, h3, h4, h5, h6, h7, Kd.C_drewN h8 n, Kd.C_drewN h9 n, h10, below_drewN' h11 n⟩
theorem heldD {w : World} {x a d g3 g2 c3 c2 D : Nat} {L : List Acc} {w' : World} (h : w'.cell? ⟨x, 9, none⟩ = some (.pointer (some ⟨a, 0, none⟩)) ∧ w'.cell? ⟨x, 10, none⟩ = some (.pointer (some ⟨d, 0, none⟩)) ∧ w'.cell? ⟨w.heap.size + 1, 0, none⟩ = some (.slice (some ⟨g3, 0, none⟩) L.length c3) ∧ w'.cell? ⟨a, 4, none⟩ = some (.int .i64 0) ∧ w'.cell? ⟨d, 1, none⟩ = some (.slice (some ⟨g2, 0, none⟩) L.length c2) ∧ w'.cell? ⟨w.heap.size, 0, none⟩ = some (.bool false) ∧ w'.frozen? ⟨w.heap.size, 0, none⟩ = false ∧ Kd.C k67 w' (some ⟨g3, 0, none⟩) (L.map sAcc).length (L.map sAcc) ∧ Kd.C k67 w' (some ⟨g2, 0, none⟩) (L.map sAcc).length (L.map sAcc) ∧ w'.heap[D]? = some (.deferred (some [])) ∧ Below w.heap.size w w') : (w'.drew.cell? ⟨x, 9, none⟩ = some (.pointer (some ⟨a, 0, none⟩)) ∧ w'.drew.cell? ⟨x, 10, none⟩ = some (.pointer (some ⟨d, 0, none⟩)) ∧ w'.drew.cell? ⟨w.heap.size + 1, 0, none⟩ = some (.slice (some ⟨g3, 0, none⟩) L.length c3) ∧ w'.drew.cell? ⟨a, 4, none⟩ = some (.int .i64 0) ∧ w'.drew.cell? ⟨d, 1, none⟩ = some (.slice (some ⟨g2, 0, none⟩) L.length c2) ∧ w'.drew.cell? ⟨w.heap.size, 0, none⟩ = some (.bool false) ∧ w'.drew.frozen? ⟨w.heap.size, 0, none⟩ = false ∧ Kd.C k67 w'.drew (some ⟨g3, 0, none⟩) (L.map sAcc).length (L.map sAcc) ∧ Kd.C k67 w'.drew (some ⟨g2, 0, none⟩) (L.map sAcc).length (L.map sAcc) ∧ w'.drew.heap[D]? = some (.deferred (some [])) ∧ Below w.heap.size w w'.drew) := by
  obtain ⟨h1, h2, h3, h4, h5, h6, h7, h8, h9, h10, h11⟩ := h
  exact ⟨h1, h2, h3, h4, h5, h6, h7, Kd.C_drew h8, Kd.C_drew h9, h10, h11.drew⟩
/-- A region's end, whatever its panics mean. -/
def Only (K : Act → World → Prop) : Exit → Act → World → Prop
  | .normal, a, w => K a w
  | _, _, _ => False
theorem only_normal {K : Act → World → Prop} {a : Act} {w : World} (h : K a w) : Only K .normal a w := h
theorem only_ {P : Program} {c : Code} {Q : Exit → Act → World → Prop} {a : Act} {w : World} (h : c.wp P (Only (fun a w => Q .normal a w)) a w) : c.wp P Q a w :=
  Go.wp_mono h fun e a w hh => by cases e <;> first | exact hh | exact hh.elim
theorem same_ {w : World} {x a d g g2 cap c2 : Nat} {L : List Acc} (hL0 : 0 < L.length) (hL : L.length ≤ 5000) (hc2 : L.length ≤ c2)
    (x9 : w.cell? ⟨x, 9, none⟩ = some (.pointer (some ⟨a, 0, none⟩))) (x10 : w.cell? ⟨x, 10, none⟩ = some (.pointer (some ⟨d, 0, none⟩))) (a1 : w.cell? ⟨a, 1, none⟩ = some (.slice (some ⟨g, 0, none⟩) L.length cap)) (a4 : w.cell? ⟨a, 4, none⟩ = some (.int .i64 0))
    (d1 : w.cell? ⟨d, 1, none⟩ = some (.slice (some ⟨g2, 0, none⟩) L.length c2)) (hl1 : LogAt w g L) (hl2 : LogAt w g2 L) : Calls Try.prog 30 #[.pointer (some ⟨x, 0, none⟩)] w fun e w' => e = .returned (.bool true) ∧ Below w.heap.size w w' := by
  have lt : ∀ (q : Addr) (v : Value), w.cell? q = some v → q.block < w.heap.size := fun q v h => by
    unfold World.cell? at h
    cases ho : w.heap[q.block]? with
    | none => rw [ho] at h; cases h
    | some _ => exact (Array.getElem?_eq_some_iff.1 ho).1
  have hgl : g < w.heap.size := lt _ _ (hl1 0 hL0).1
  have hgl2 : g2 < w.heap.size := lt _ _ (hl2 0 hL0).1
  have hal : a < w.heap.size := lt _ _ a1
  refine (callsIn_wide (n := 6)).1 ?_
  obtain ⟨i0, hi, hz0, hz1, hz2⟩ := info_parts info67
  refine callsIn_of_wp_marks Try.func30 rfl trivial ?_ rfl
  simp only [Try.ntmps30, List.size_toArray, List.length_cons, List.length_nil, Nat.reduceAdd, Nat.reduceSub, Array.replicate_succ, Array.replicate_zero, List.push_toArray, List.append_toArray, List.nil_append, List.cons_append]
  have x9' := cell_alc (.cells #[.slice none 0 0] 90) (cell_alc (.cells #[.bool false] 4) x9)
  gi_wp2_with (refine ⟨trivial, ?_⟩; gi_at_call 72; refine (callsIn_wide.2 (log_ a _)).mono ?_; rintro e w' ⟨rfl, rfl⟩)
  have b0 := ((Boxed.new w 4 (.bool false)).alloc (.cells #[.slice none 0 0] 90)).alloc (.cells #[.pointer (some ⟨a, 0, none⟩)] 45)
  have b1 := (Boxed.new (w.alloc (.cells #[.bool false] 4)) 90 (.slice none 0 0)).alloc (.cells #[.pointer (some ⟨a, 0, none⟩)] 45)
  have b2 := Boxed.new ((w.alloc (.cells #[.bool false] 4)).alloc (.cells #[.slice none 0 0] 90)) 45 (.pointer (some ⟨a, 0, none⟩))
  simp only [World.size_alloc] at b1 b2
  have hB0 : Below w.heap.size w (((w.alloc (.cells #[.bool false] 4)).alloc (.cells #[.slice none 0 0] 90)).alloc (.cells #[.pointer (some ⟨a, 0, none⟩)] 45)) := (((Below.refl _ w).alloc (Nat.le_refl _) _).alloc (by simp) _).alloc (by simp; omega) _
  have hsz : (((w.alloc (.cells #[.bool false] 4)).alloc (.cells #[.slice none 0 0] 90)).alloc (.cells #[.pointer (some ⟨a, 0, none⟩)] 45)).heap.size = w.heap.size + 3 := by simp
  clear x9'
  obtain ⟨W0, hW0⟩ : ∃ W0, (((w.alloc (.cells #[.bool false] 4)).alloc (.cells #[.slice none 0 0] 90)).alloc (.cells #[.pointer (some ⟨a, 0, none⟩)] 45)) = W0 := ⟨_, rfl⟩
  rw [hW0] at b0 b1 b2 hB0 hsz ⊢
  clear hW0
  refine wpIn_rangeFunc_ownH rfl (by decide) (gf := 91) (lb := #[.pointer (some ⟨w.heap.size + 1 + 1, 0, none⟩)]) rfl trivial (enters_of Try.func91 (by kernel_rfl) rfl)
    (log_stops Fence.wide _ trivial rfl (by decide) (w.heap.size + 1 + 1) w.heap.size a g cap L (by omega) hgl W0 (by omega) (by omega) hal b2.cell ((hB0.cell (p := ⟨a, 1, none⟩) hal).trans a1) (hl1.below hB0 hgl)) belowK_t (belowK_b (by omega)) (Below.refl _ _) (fun _ => rfl)
    (fun pre W => ((∃ v, Boxed W (w.heap.size + 1) 90 v ∧ W.ownsRow w.heap.size 67 7 v pre.length (accs (pre.map (·.2))) ∧ True) ∧ Boxed W w.heap.size 4 (.bool false)) ∧ Below w.heap.size w W)
    (fun _ _ _ => False)
    (OwnFrom.and (OwnFrom.and (Own.from (holdsRow_own w.heap.size (w.heap.size + 1) 90 67 7 (fun (pre : List (Nat × Acc)) => pre.length) (fun (pre : List (Nat × Acc)) => accs (pre.map (·.2))) (fun _ _ => True)) _) (Own.from (boxed_own _ _ _) _)) (ownFrom_below (Nat.le_refl _) (by omega)))
    (fun _ _ _ _ _ hs _ _ => hs)
    ⟨⟨⟨_, b1, World.ownsRow_nil _ _ _ _, trivial⟩, b0⟩, hB0⟩
    (fun y a' W => ∃ Bx, W.heap[Bx]? = some (.cells #[.int .i64 y.2.who, .int .i64 y.2.kind, .int .i64 y.2.at_, .int .u64 y.2.want, .int .u64 y.2.put, .int .u64 y.2.seen, .int .u64 y.2.left] 67 (0, 0)) ∧ a' = { tmps := #[.pointer (some ⟨x, 0, none⟩), undef, .pointer (some ⟨w.heap.size, 0, none⟩), .pointer (some ⟨w.heap.size + 1, 0, none⟩), undef, .pointer (some ⟨Bx, 0, none⟩), .pointer (some ⟨x, 0, none⟩), .pointer (some ⟨x, 0, none⟩), .pointer (some ⟨x, 9, none⟩), .pointer (some ⟨a, 0, none⟩), .func (.func 91) #[] #[.pointer (some ⟨w.heap.size + 1 + 1, 0, none⟩)], .int .i64 y.1, .agg #[.int .i64 y.2.who, .int .i64 y.2.kind, .int .i64 y.2.at_, .int .u64 y.2.want, .int .u64 y.2.put, .int .u64 y.2.seen, .int .u64 y.2.left], undef, undef, undef, undef, undef, undef, undef, undef, undef, undef, undef, undef, undef, undef, undef, undef, undef, undef, undef, undef, undef, undef, undef, undef], defers := [] })
    (fun y a' _ X Y row hs hg hr => by
      obtain ⟨Bx, h1, h2⟩ := hs
      exact ⟨Bx, (hg.block Bx (Array.getElem?_eq_some_iff.1 h1).1 (fun e => by obtain ⟨_, o, ho, hc⟩ := hr Bx e.symm; rw [h1] at ho; cases ho; cases hc)).trans h1, h2⟩)
    ?assign ?body ?done ?stop
  case assign =>
    rintro l pre y W K ⟨⟨⟨v, hv, hrow, _⟩, hb0⟩, hB⟩ hK
    gi_wp2_with (with_reducible refine stop_atIn (.store 67 (.tmp 5) (.tmp 12)) rfl ?_)
    refine ⟨?_⟩
    refine store_newIn [.int .i64 y.2.who, .int .i64 y.2.kind, .int .i64 y.2.at_, .int .u64 y.2.want, .int .u64 y.2.put, .int .u64 y.2.seen, .int .u64 y.2.left] rfl rfl rfl rfl rfl rfl rfl (by simp [Value.oneCell']) ?_
    intro w1 hg1 hb1 hs1
    gi_wp2
    refine hK _ _ (KeepsFrom.of_grownBy hg1 (fun j e => by cases e)) ⟨hg1.os, hg1.tape, hg1.output, hg1.size, fun i hi => hg1.block i (Nat.lt_of_lt_of_le hi hB.size) (by simp)⟩ ⟨⟨⟨v, hv.kept hg1 (by simp), hrow.kept hg1 (by rcases hrow.2 with ⟨rfl, _⟩ | ⟨g', cap', cur, rfl, _⟩; exact .inl rfl; exact .inr (by simp [Value.ownBlock])), trivial⟩, hb0.kept hg1 (by simp)⟩, hB.trans ⟨hg1.os, hg1.tape, hg1.output, hg1.size, fun i hi => hg1.block i (Nat.lt_of_lt_of_le hi hB.size) (by simp)⟩⟩ ⟨W.heap.size, hb1, rfl⟩
  case body =>
    rintro l pre y a' W hl ⟨r, hr⟩ ⟨⟨⟨v, hv, hrow, _⟩, hb0⟩, hB⟩ ⟨Bx, hX, rfl⟩ hlt
    have hvs : ∃ A c, v = .slice A pre.length c := by
      rcases hrow.2 with ⟨rfl, h0⟩ | ⟨g', cap', cur, rfl, _⟩
      · exact ⟨none, 0, by rw [h0]⟩
      · exact ⟨_, _, rfl⟩
    obtain ⟨A1, c1, rfl⟩ := hvs
    have hc := hv.cell
    have dlt : decide ((5000 : Int) < (pre.length : Int)) = false := by simp; omega
    have nlt : ¬ (5000 : Int) < (pre.length : Int) := by omega
    have c0 : W.cell? ⟨Bx, 0, none⟩ = some (.int .i64 y.2.who) := by simp [World.cell?, hX]
    have c1' : W.cell? ⟨Bx, 1, none⟩ = some (.int .i64 y.2.kind) := by simp [World.cell?, hX]
    have c2' : W.cell? ⟨Bx, 2, none⟩ = some (.int .i64 y.2.at_) := by simp [World.cell?, hX]
    have c3' : W.cell? ⟨Bx, 3, none⟩ = some (.int .u64 y.2.want) := by simp [World.cell?, hX]
    have c4' : W.cell? ⟨Bx, 4, none⟩ = some (.int .u64 y.2.put) := by simp [World.cell?, hX]
    have c5' : W.cell? ⟨Bx, 5, none⟩ = some (.int .u64 y.2.seen) := by simp [World.cell?, hX]
    have c6' : W.cell? ⟨Bx, 6, none⟩ = some (.int .u64 y.2.left) := by simp [World.cell?, hX]
    gi_wp2_with (gi_at_builtin; refine wpListIn_append_own _ rfl _ _ 90 rfl w.heap.size 67 i0 (.agg #[.int .i64 0, .int .i64 0, .int .i64 0, .int .u64 0, .int .u64 0, .int .u64 0, .int .u64 0]) 7 56 Try.underlying90 hi hz0 hz1 hz2 rfl (by decide) _ _ _ rfl (hrow.alloc _) ⟨W.heap.size, 0, none⟩ 1 1 (Acc.vs y.2) rfl rfl (new_cells W (Acc.vs y.2) 67) (by simp [Acc.vs, Value.oneCell']) (by simp only [maxLen]; omega) (by omega) (by have := hB.size; simp; omega) ?_; intro v' w1 hown' hgrow _; obtain ⟨g', cap', rfl⟩ := ownsRow_succ hown'; obtain ⟨hv1, hv2, hr2, hk2, hb2⟩ := hv.appended (by decide) hrow hB.size (by omega) hown' hgrow; have hc1 := hv1.cell; have hf1 := hv1.frozen)
    have e1 : (pre ++ [y]).length = pre.length + 1 := by simp
    have e2 : accs ((pre ++ [y]).map (·.2)) = accs (pre.map (·.2)) ++ Acc.vs y.2 := by simp [accs]
    exact ⟨hk2.from _, hb2, ⟨⟨_, hv2, by rw [e1, e2]; exact hr2⟩, ((hb0.alloc _).kept hgrow (hb0.not_row (by decide) hrow)).other (by omega) _⟩, hB.trans hb2⟩
  case done =>
    rintro D ys W hD rfl ⟨⟨⟨v, hv, hrow, _⟩, hb0⟩, hB⟩ hK
    rw [upt_snd, upt_length] at hrow
    obtain ⟨g3, c3, cur, rfl, hg3, hcur, hc3, hm3, _, htk⟩ : ∃ g3 c3 cur, v = .slice (some ⟨g3, 0, none⟩) L.length c3 ∧ w.heap.size ≤ g3 ∧ W.heap[g3]? = some (.cells cur 67 (0, 0)) ∧ L.length ≤ c3 ∧ c3 ≤ maxLen ∧ cur.size = c3 * 7 ∧ cur.toList.take (L.length * 7) = accs L := by
      rcases hrow.2 with ⟨_, h0⟩ | ⟨g', cap', cur, rfl, h1, h2, h3, h4, h5, h6⟩
      · omega
      · exact ⟨_, _, cur, rfl, h1, h2, h3, h4, h5, h6⟩
    have hlg : LogAt W g3 L := logAt_of fun j u hj => by
      rw [← htk] at hj
      have hj2 : cur.toList[j]? = some u := by
        rw [List.getElem?_take] at hj
        split at hj
        · exact hj
        · cases hj
      simp only [World.cell?, hcur]
      simpa using hj2
    have hc := hv.cell
    have hhold : W.cell? ⟨x, 9, none⟩ = some (.pointer (some ⟨a, 0, none⟩)) ∧ W.cell? ⟨x, 10, none⟩ = some (.pointer (some ⟨d, 0, none⟩)) ∧ W.cell? ⟨w.heap.size + 1, 0, none⟩ = some (.slice (some ⟨g3, 0, none⟩) L.length c3) ∧ W.cell? ⟨a, 4, none⟩ = some (.int .i64 0) ∧ W.cell? ⟨d, 1, none⟩ = some (.slice (some ⟨g2, 0, none⟩) L.length c2) ∧ W.cell? ⟨w.heap.size, 0, none⟩ = some (.bool false) ∧ W.frozen? ⟨w.heap.size, 0, none⟩ = false ∧ Kd.C k67 W (some ⟨g3, 0, none⟩) (L.map sAcc).length (L.map sAcc) ∧ Kd.C k67 W (some ⟨g2, 0, none⟩) (L.map sAcc).length (L.map sAcc) ∧ W.heap[D]? = some (.deferred (some [])) ∧ Below w.heap.size w W := ⟨(hB.cell (p := ⟨x, 9, none⟩) (lt _ _ x9)).trans x9, (hB.cell (p := ⟨x, 10, none⟩) (lt _ _ x10)).trans x10, hc, (hB.cell (p := ⟨a, 4, none⟩) hal).trans a4, (hB.cell (p := ⟨d, 1, none⟩) (lt _ _ d1)).trans d1, hb0.cell, hb0.frozen, logAt_C hlg (by omega), logAt_C (hl2.below hB hgl2) (by omega), hK, hB⟩
    clear hrow hv hb0 hK hB b0 b1 b2 hB0 hlg hcur htk hc x9 x10 a1 a4 d1 hl1 hl2
    gi_wp2_with fail
    refine wpIn_wide.2 (only_ ?_)
    refine start_ (n := 18) (S := fun w' => w'.cell? ⟨x, 9, none⟩ = some (.pointer (some ⟨a, 0, none⟩)) ∧ w'.cell? ⟨x, 10, none⟩ = some (.pointer (some ⟨d, 0, none⟩)) ∧ w'.cell? ⟨w.heap.size + 1, 0, none⟩ = some (.slice (some ⟨g3, 0, none⟩) L.length c3) ∧ w'.cell? ⟨a, 4, none⟩ = some (.int .i64 0) ∧ w'.cell? ⟨d, 1, none⟩ = some (.slice (some ⟨g2, 0, none⟩) L.length c2) ∧ w'.cell? ⟨w.heap.size, 0, none⟩ = some (.bool false) ∧ w'.frozen? ⟨w.heap.size, 0, none⟩ = false ∧ Kd.C k67 w' (some ⟨g3, 0, none⟩) (L.map sAcc).length (L.map sAcc) ∧ Kd.C k67 w' (some ⟨g2, 0, none⟩) (L.map sAcc).length (L.map sAcc) ∧ w'.heap[D]? = some (.deferred (some [])) ∧ Below w.heap.size w w') (ds := [17]) (flg 18 0) (by kernel_rfl) rfl rfl (heldD hhold) (fun hHeld => ?_)
    refine with_tabW sm.tab7 sm.bits7 (fun HT_ HW_ => ?_)
    refine pu_ (v := ?_) (a' := ?_) 0 (some 20) 1 rfl rfl HT_ (by kernel_rfl) (.inl ⟨by rfl, ?_⟩) ?_ ?_; rotate_left 2; (· intro w'; go_simp; with_reducible rfl); (· simp only [nrm]; rfl)
    refine pu_ (v := ?_) (a' := ?_) 1 (some 21) 3 rfl rfl HT_ (by kernel_rfl) (.inl ⟨by rfl, ?_⟩) ?_ ?_; rotate_left 2; (· intro w'; go_simp; with_reducible rfl); (· simp only [nrm]; rfl)
    refine pu_ (v := ?_) (a' := ?_) 2 (some 22) 7 rfl rfl HT_ (by kernel_rfl) (.inl ⟨by rfl, ?_⟩) ?_ ?_; rotate_left 2; (· intro w'; go_simp; with_reducible rfl); (· simp only [nrm]; rfl)
    refine tk_ (v := ?_) (a' := ?_) 3 (some 23) 15 rfl rfl HT_ HW_ (by kernel_rfl) (.inl ⟨by rfl, ?_⟩) hHeld ?_ ?_; rotate_left 2; (· rintro w' ⟨_, _, _, _, _, _, _, _, _, _, _⟩; go_simp; with_reducible rfl); (· simp only [nrm]; rfl)
    refine on_ 4 (some 24) 31 rfl rfl HT_ (by kernel_rfl) (by decide) (fun K hK => ?_)
    refine goes_ Try.func38 (by kernel_rfl) rfl #[.pointer (some ⟨a, 0, none⟩)] (by rfl) rfl rfl (by (try simp only [List.map_toArray, List.map_cons, List.map_nil]); first | done | rfl) ?_
    refine (faults_c hHeld.2.2.2.1).mono ?_
    rintro e w2 ⟨rfl, rfl⟩
    refine ⟨_, rfl, ?_⟩
    refine hK.out _ _ hHeld (fun hHeld => ?_)
    clear hK K
    refine norm_ (a' := ?_) ?_ ?_
    rotate_left
    · show Act.put _ (some 24) _ = _
      simp only [nrm]
      rfl
    refine pu_ (v := ?_) (a' := ?_) 5 (some 25) 63 rfl rfl HT_ (by kernel_rfl) (.inl ⟨by rfl, ?_⟩) ?_ ?_; rotate_left 2; (· intro w'; go_simp; with_reducible rfl); (· simp only [nrm]; rfl)
    refine pu_ (v := ?_) (a' := ?_) 6 (some 26) 127 rfl rfl HT_ (by kernel_rfl) (.inl ⟨by rfl, ?_⟩) ?_ ?_; rotate_left 2; (· intro w'; go_simp; with_reducible rfl); (· simp only [nrm]; rfl)
    refine tk_ (v := ?_) (a' := ?_) 7 (some 27) 255 rfl rfl HT_ HW_ (by kernel_rfl) (.inl ⟨by rfl, ?_⟩) hHeld ?_ ?_; rotate_left 2; (· rintro w' ⟨_, _, _, _, _, _, _, _, _, _, _⟩; go_simp; with_reducible rfl); (· simp only [nrm]; rfl)
    refine pu_ (v := ?_) (a' := ?_) 8 (some 28) 511 rfl rfl HT_ (by kernel_rfl) (.inl ⟨by rfl, ?_⟩) ?_ ?_; rotate_left 2; (· intro w'; go_simp; with_reducible rfl); (· simp only [nrm]; rfl)
    refine pu_ (v := ?_) (a' := ?_) 9 (some 29) 1023 rfl rfl HT_ (by kernel_rfl) (.inl ⟨by rfl, ?_⟩) ?_ ?_; rotate_left 2; (· intro w'; go_simp; with_reducible rfl); (· simp only [nrm]; rfl)
    refine pu_ (v := ?_) (a' := ?_) 10 (some 30) 2047 rfl rfl HT_ (by kernel_rfl) (.inl ⟨by rfl, ?_⟩) ?_ ?_; rotate_left 2; (· intro w'; go_simp; with_reducible rfl); (· simp only [nrm]; rfl)
    refine tk_ (v := ?_) (a' := ?_) 11 (some 31) 4095 rfl rfl HT_ HW_ (by kernel_rfl) (.inl ⟨by rfl, ?_⟩) hHeld ?_ ?_; rotate_left 2; (· rintro w' ⟨_, _, _, _, _, _, _, _, _, _, _⟩; go_simp; with_reducible rfl); (· simp only [nrm]; rfl)
    refine pu_ (v := ?_) (a' := ?_) 12 (some 32) 8191 rfl rfl HT_ (by kernel_rfl) (.inl ⟨by rfl, ?_⟩) ?_ ?_; rotate_left 2; (· intro w'; go_simp; with_reducible rfl); (· simp only [nrm]; rfl)
    refine pu_ (v := ?_) (a' := ?_) 13 (some 33) 16383 rfl rfl HT_ (by kernel_rfl) (.inl ⟨by rfl, ?_⟩) ?_ ?_; rotate_left 2; (· intro w'; go_simp; with_reducible rfl); (· simp only [nrm]; rfl)
    refine tk_ (v := ?_) (a' := ?_) 14 (some 34) 32767 rfl rfl HT_ HW_ (by kernel_rfl) (.inl ⟨by rfl, ?_⟩) hHeld ?_ ?_; rotate_left 2; (· rintro w' ⟨_, _, _, _, _, _, _, _, _, _, _⟩; go_simp; with_reducible rfl); (· simp only [nrm]; rfl)
    refine on_ 15 (some 35) 65535 rfl rfl HT_ (by kernel_rfl) (by decide) (fun K hK => ?_)
    refine goes_ Try.func73 (by kernel_rfl) rfl #[.slice (some ⟨g3, 0, none⟩) L.length c3, .slice (some ⟨g2, 0, none⟩) L.length c2] (by rfl) rfl rfl (by (try simp only [List.map_toArray, List.map_cons, List.map_nil]); first | done | rfl) ?_
    refine (same_call hHeld.2.2.2.2.2.2.2.1 hc3 hHeld.2.2.2.2.2.2.2.2.1 hc2 (by omega)).mono ?_
    rintro e w3 ⟨rfl, ⟨nd, rfl⟩⟩
    refine ⟨_, rfl, ?_⟩
    refine hK.out _ _ (heldN hHeld nd) (fun hHeld => ?_)
    clear hK K
    refine norm_ (a' := ?_) ?_ ?_
    rotate_left
    · show Act.put _ (some 35) _ = _
      simp only [nrm]
      rfl
    refine pu_ (v := ?_) (a' := ?_) 16 (some 36) 131071 rfl rfl HT_ (by kernel_rfl) (.inl ⟨by rfl, ?_⟩) ?_ ?_; rotate_left 2; (· intro w'; go_simp; with_reducible rfl); (· simp only [nrm]; rfl)
    refine last_ (i := 17) (N := none) (flg 18 262143) rfl rfl (one_of HT_.out (by kernel_rfl)) (by decide) (fun K hK => ?_)
    refine skip_ (w1 := ?_) (by rfl) rfl ?_ ?_
    rotate_left
    · have x6 := hHeld.2.2.2.2.2.1
      have x7 := hHeld.2.2.2.2.2.2.1
      go_simp
      rfl
    have hfin := hHeld
    refine hK.out _ _ ?_
    refine done_ (done_of HT_.out (by kernel_rfl)) ?_
    clear HT_ HW_ hHeld
    refine only_normal ?_
    obtain ⟨f1, f2, f3, f4, f5, f6, f7, f8, f9, f10, f11⟩ := hfin
    have ew : W.drew.drewN nd = W.drewN (1 + nd) := by simp
    rw [ew] at f6 f10 f11
    gi_wp2
    have hK' := (KeepsOthers.setCell _ ⟨w.heap.size, 0, none⟩ (.bool true)).same D _ f10 rfl
    refine ⟨by simp, .inl ⟨_, _, rfl, run_takeDeferred hK', ?_⟩⟩
    have hc5 := Go.cell_kept (World.cell?_setCell_same' _ ⟨w.heap.size, 0, none⟩ (.bool true) (by rw [f6]; rfl)) (grownBy_putObj' _ D (.deferred none)) (fun r e => by cases e; exact ⟨_, hK', rfl⟩)
    refine ⟨.bool true, ?_, rfl, (f11.setCell (p := ⟨w.heap.size, 0, none⟩) (by simp) _).trans (belowK_b (w := w) (Nat.le_refl _) _ D _ _ (by omega) hK' rfl rfl)⟩
    simp [results, Try.f30, go_sem, hc5]
  case stop =>
    rintro D c pre W _ _ h _
    exact h.elim
end Go.Proofs.Ytelfiegocdjnoaa.Ar
