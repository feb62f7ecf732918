/- The arena's log and the document's, held against each other; the ends of a function that holds a range over a function. Conditions: logs that are not very long. -/
import Derived.Test.YtelfiegocdjnoaaDoorLg0
import Derived.Test.YtelfiegocdjnoaaDoorWk
import Derived.Test.YtelfiegocdjnoaaDoorOb3
import Derived.Deep.RegionHeld3
import Derived.Test.YtelfiegocdjnoaaDoorMrF0
namespace Go.Proofs.YtelfiegocdjnoaaDoor.Ar
open Go Go.RowKit Go.Shelf Go.Proofs.YtelfiegocdjnoaaDoor.Sep Go.Proofs.YtelfiegocdjnoaaDoorW.PrintWords Go.Proofs.YtelfiegocdjnoaaDoorW.PrintLast Go.Proofs.YtelfiegocdjnoaaDoorW.PrintMore Go.Proofs.YtelfiegocdjnoaaDoor.Q
set_option linter.unusedVariables false
set_option linter.unusedSimpArgs false
set_option maxHeartbeats 8000000
set_option maxRecDepth 100000
attribute [local go_sem] Oper.semAt_some
def sAcc (x : Acc) : S98 := ⟨x.who, x.kind, x.at_, x.want, x.put, x.seen, x.left⟩
theorem accs_get (L : List Acc) : ∀ (j i : Nat), j < L.length → i < 7 → (accs L)[j * 7 + i]? = (Acc.vs (L[j]?.getD zAcc))[i]? := by
  induction L with
  | nil => intro j i hj; simp at hj
  | cons x L ih =>
    intro j i hj hi
    have e : accs (x :: L) = Acc.vs x ++ accs L := by simp [accs]
    rw [e]
    cases j with
    | zero => rw [Nat.zero_mul, Nat.zero_add, List.getElem?_append_left (by simp [Acc.vs]; omega)]; rfl
    | succ j =>
      rw [List.getElem?_append_right (by simp [Acc.vs]; omega)]
      have e2 : (j + 1) * 7 + i - (Acc.vs x).length = j * 7 + i := by simp [Acc.vs]; omega
      rw [e2, ih j i (by simpa using hj) hi]
      simp
theorem logAt_of {w : World} {g : Nat} {L : List Acc} (h : ∀ j u, (accs L)[j]? = some u → w.cell? ⟨g, j, none⟩ = some u) : LogAt w g L := fun j hj => by
  have k := fun i hi => accs_get L j i hj hi
  exact ⟨h _ _ (k 0 (by decide)), h _ _ (k 1 (by decide)), h _ _ (k 2 (by decide)), h _ _ (k 3 (by decide)), h _ _ (k 4 (by decide)), h _ _ (k 5 (by decide)), h _ _ (k 6 (by decide))⟩
theorem logAt_C {w : World} {g : Nat} {L : List Acc} (h : LogAt w g L) (hl : L.length ≤ 10000) : Kd.C k98 w (some ⟨g, 0, none⟩) (L.map sAcc).length (L.map sAcc) := by
  refine ⟨rfl, by rw [List.length_map]; omega, fun _ => ⟨_, rfl, fun j p hj => ?_⟩⟩
  have hj0 : j < L.length := by simpa using (List.getElem?_eq_some_iff.1 hj).1
  have hp : p = sAcc (L[j]?.getD zAcc) := by
    rw [List.getElem?_map, List.getElem?_eq_getElem hj0] at hj
    rw [List.getElem?_eq_getElem hj0]
    simpa using hj.symm
  subst hp
  obtain ⟨h0, h1, h2, h3, h4, h5, h6⟩ := h j hj0
  generalize L[j]?.getD zAcc = x at *
  refine ⟨[.int .i64 x.who, .int .i64 x.kind, .int .i64 x.at_, .int .u64 x.want, .int .u64 x.put, .int .u64 x.seen, .int .u64 x.left], rfl, k98_mk w (sAcc x), ?_⟩
  intro i u hu
  have ha : (⟨g, 0, none⟩ : Addr).add (j * k98.sz + i) = ⟨g, j * 7 + i, none⟩ := by
    rw [add_plain]
    congr 1
  rw [ha]
  match i, hu with
  | 0, hu => obtain rfl : _ = u := by simpa using hu
             exact h0
  | 1, hu => obtain rfl : _ = u := by simpa using hu
             exact h1
  | 2, hu => obtain rfl : _ = u := by simpa using hu
             exact h2
  | 3, hu => obtain rfl : _ = u := by simpa using hu
             exact h3
  | 4, hu => obtain rfl : _ = u := by simpa using hu
             exact h4
  | 5, hu => obtain rfl : _ = u := by simpa using hu
             exact h5
  | 6, hu => obtain rfl : _ = u := by simpa using hu
             exact h6
  | i + 7, hu => simp at hu
theorem sameL (l : List S98) (hl : l.length ≤ 10000) : ∀ (d i k : Nat), i + d = l.length → d < k → windrowref03_SameLog.l0 k l l (i : Int) = some true := by
  intro d
  induction d with
  | zero =>
    intro i k hi hk
    obtain ⟨k, rfl⟩ : ∃ q, k = q + 1 := ⟨k - 1, by omega⟩
    unfold windrowref03_SameLog.l0
    rw [if_neg (by omega)]
  | succ d ih =>
    intro i k hi hk
    obtain ⟨k, rfl⟩ : ∃ q, k = q + 1 := ⟨k - 1, by omega⟩
    unfold windrowref03_SameLog.l0
    rw [if_pos (by omega), if_pos (by omega), if_pos (by omega)]
    simp only [beq_self_eq_true, Bool.not_true, Bool.false_or, Bool.false_eq_true, if_false]
    have hs := ih (i + 1) k (by omega) (by omega)
    rw [show wrap64 ((i : Int) + 1) = ((i + 1 : Nat) : Int) by unfold wrap64; omega]
    exact hs
theorem same_call {w : World} {g3 g2 c3 c2 : Nat} {L : List Acc} (h3 : Kd.C k98 w (some ⟨g3, 0, none⟩) (L.map sAcc).length (L.map sAcc)) (hc3 : L.length ≤ c3) (h2 : Kd.C k98 w (some ⟨g2, 0, none⟩) (L.map sAcc).length (L.map sAcc)) (hc2 : L.length ≤ c2) (hl0 : L.length ≤ 10000) :
    Calls Tryd.prog 45 #[.slice (some ⟨g3, 0, none⟩) L.length c3, .slice (some ⟨g2, 0, none⟩) L.length c2] w fun e w' => e = .returned (.bool true) ∧ Drawn0 w w' := by
  have hl : (L.map sAcc).length = L.length := List.length_map ..
  have h := windrowref03_SameLog.calls (L.length + 1) (some ⟨g3, 0, none⟩) c3 (L.map sAcc) (some ⟨g2, 0, none⟩) c2 (L.map sAcc) true w h3 (by omega) h2 (by omega) (by
    unfold windrowref03_SameLog.f
    rw [if_pos rfl]
    exact sameL _ (by omega) L.length 0 _ (by omega) (by omega))
  rw [hl] at h
  exact h
theorem log_ (a : Nat) (w : World) : Calls Tryd.prog 44 #[.pointer (some ⟨a, 0, none⟩)] w fun e w' => e = .returned (.func (.func 103) #[] #[.pointer (some ⟨w.heap.size, 0, none⟩)]) ∧ w' = w.alloc (.cells #[.pointer (some ⟨a, 0, none⟩)] 29) := by
  go_enter Tryd.func44, Tryd.ntmps44
  go_wp2
  go_ret
  exact ⟨rfl, rfl⟩
theorem log_stops (F : Fence) (n : Nat) (h91 : F.fn 103) (hro : F.round = none) (hn : 1 ≤ n) (Bs n₀ a g cap : Nat) (L : List Acc) (hreach : L.length ≤ 10000) (hg : g < n₀) (w : World) (hBs : Bs < w.heap.size) (hn0 : n₀ ≤ w.heap.size) (ha0 : a < n₀)
    (hc : w.cell? ⟨Bs, 0, none⟩ = some (.pointer (some ⟨a, 0, none⟩))) (ha : w.cell? ⟨a, 1, none⟩ = some (.slice (some ⟨g, 0, none⟩) L.length cap)) (hl : LogAt w g L) :
    SeqStopsK F n Tryd.prog 103 #[.pointer (some ⟨Bs, 0, none⟩)] encA (Below n₀) (fun ys => ys = upt L L.length) (fun pre => ∃ k, k ≤ L.length ∧ pre = upt L k) L.length w := fun l J Jx W hW hJ _ hY h0 =>
  log1_in F n h91 hro hn l Bs n₀ a g cap L hreach hg J Jx W hJ hY ((hW.cell (p := ⟨Bs, 0, none⟩) hBs).trans hc) ((hW.cell (p := ⟨a, 1, none⟩) (Nat.lt_of_lt_of_le ha0 hn0)).trans ha) (hl.below hW (Nat.lt_of_lt_of_le hg hn0)) (Nat.le_trans hn0 hW.size) h0
theorem upt_snd (L : List Acc) : (upt L L.length).map (·.2) = L := by
  refine List.ext_getElem ?_ fun i h1 h2 => ?_
  · simp [upt]
  · simp [upt, h2]
/-- A variable and its row, as parts. -/
theorem St_log {wA W : World} {lb n : Nat} {v : Value} {xs : List Value} (hB : Below wA.heap.size wA W) (hl : wA.heap.size ≤ lb) (hv : Boxed W lb 93 v) (hr : W.ownsRow wA.heap.size 98 7 v n xs) : St wA W [blk lb #[v] 93, row 98 7 v n xs] := by
  have hne := hv.not_row (by decide) hr
  have ho : Owns W wA.heap.size 98 7 v n xs := .inl hr
  refine ⟨hB, fun k => k = lb ∨ v.ownBlock = some k, fun k hk => ?_, ?_⟩
  · rcases hk with rfl | hk
    · exact hl
    · exact (ho.at k hk).1
  · refine ⟨fun k => k = lb, fun k => v.ownBlock = some k, fun k => Iff.rfl, ?_, ⟨fun k => Iff.rfl, hv⟩, fun k => v.ownBlock = some k, fun _ => False, fun k => by simp, fun _ _ h => h, ⟨fun k => Iff.rfl, ho.rebase fun k _ => Nat.zero_le _⟩, fun k h => h⟩
    rintro k rfl hk
    exact hne hk.symm
theorem C_u64 {w : World} {g : Nat} {X : List Int} (hl : X.length ≤ 4096) (h : ∀ j u, (U X)[j]? = some u → w.cell? ⟨g, j, none⟩ = some u) : Kd.C (Kd.int .u64) w (some ⟨g, 0, none⟩) X.length X := by
  refine ⟨rfl, by omega, fun _ => ⟨_, rfl, fun j p hj => ⟨[.int .u64 p], rfl, rfl, fun i u hu => ?_⟩⟩⟩
  match i, hu with
  | 0, hu =>
    obtain rfl : _ = u := by simpa using hu
    have ha : (⟨g, 0, none⟩ : Addr).add (j * (Kd.int IntKind.u64).sz + 0) = ⟨g, j, none⟩ := by
      show (⟨g, 0, none⟩ : Addr).add (j * 1 + 0) = _
      rw [show j * 1 + 0 = j by omega]
      unfold Addr.add; split <;> simp_all
    rw [ha]
    exact h j _ (by simp [U, hj])
  | i + 1, hu => simp at hu
theorem wordsL (l : List Int) (hl : l.length ≤ 10000) : ∀ (d i k : Nat), i + d = l.length → d < k → windrowref01_Words.l0 k l l (i : Int) = some true := by
  intro d
  induction d with
  | zero =>
    intro i k hi hk
    obtain ⟨k, rfl⟩ : ∃ q, k = q + 1 := ⟨k - 1, by omega⟩
    unfold windrowref01_Words.l0
    rw [if_neg (by omega)]
  | succ d ih =>
    intro i k hi hk
    obtain ⟨k, rfl⟩ : ∃ q, k = q + 1 := ⟨k - 1, by omega⟩
    unfold windrowref01_Words.l0
    rw [if_pos (by omega), if_pos (by omega), if_pos (by omega), if_pos rfl]
    have hs := ih (i + 1) k (by omega) (by omega)
    rw [show wrap64 ((i : Int) + 1) = ((i + 1 : Nat) : Int) by unfold wrap64; omega]
    exact hs
theorem words_same {w : World} {g3 g2 c3 c2 : Nat} {L : List Int} (h3 : Kd.C (Kd.int .u64) w (some ⟨g3, 0, none⟩) L.length L) (hc3 : L.length ≤ c3) (h2 : Kd.C (Kd.int .u64) w (some ⟨g2, 0, none⟩) L.length L) (hc2 : L.length ≤ c2) (hl0 : L.length ≤ 10000) :
    Calls Tryd.prog 46 #[.slice (some ⟨g3, 0, none⟩) L.length c3, .slice (some ⟨g2, 0, none⟩) L.length c2] w fun e w' => e = .returned (.bool true) ∧ Drawn0 w w' :=
  windrowref01_Words.calls (L.length + 1) (some ⟨g3, 0, none⟩) c3 L (some ⟨g2, 0, none⟩) c2 L true w h3 hc3 h2 hc2 (by
    unfold windrowref01_Words.f
    rw [if_pos rfl]
    exact wordsL _ (by omega) L.length 0 _ (by omega) (by omega))
/-- The same, with panics shut out (so that nothing depends on temporaries there). -/
def bm (P : Program) (fn : Func) (R : Ending → World → Prop) : Exit → Act → World → Prop
  | .normal, a, w | .ret, a, w => LeavesInM Fence.wide 6 P fn a.tmps R a.defers .returning w
  | _, _, _ => False
theorem calls_bm {P : Program} {f : FuncId} {fn : Func} {c : Code} {args : Array Value} {w : World} {R : Ending → World → Prop} (hf : P.funcs[f]? = some fn) (hb : fn.body = some c)
    (h : c.wp P (bm P fn R) { tmps := args ++ Array.replicate (fn.ntmps - args.size) undef, defers := [] } w) : Calls P f args w R :=
  (callsIn_wide (n := 6)).1 (callsIn_of_wp_marks hf hb trivial (wpIn_wide.2 (Code.wp_mono (fun e a w h => by cases e <;> first | exact h | exact h.elim) h)) rfl)
theorem bret_ {P : Program} {fn : Func} {R : Ending → World → Prop} {a : Act} {w : World} {v : Value} (hr : (results fn a.tmps).run P w = .ok v w) (hd : a.defers = []) (hR : R (.returned v) w) : bm P fn R .ret a w := by
  show LeavesInM Fence.wide 6 P fn a.tmps R a.defers .returning w
  rw [hd]
  exact ⟨v, hr, hR⟩
/-- The block of a loop's deferred calls, as a part. -/
def dfB (D : Nat) : HP :=
  ⟨fun w S => (∀ k, S k ↔ k = D) ∧ w.heap[D]? = some (.deferred (some [])),
   fun hk ⟨hS, h⟩ => ⟨hS, (hk D ((hS D).2 rfl)).trans h⟩,
   fun ⟨hS, h⟩ k hk => by rw [(hS k).1 hk]; exact (Array.getElem?_eq_some_iff.1 h).1⟩
theorem St_logD {wA W : World} {lb n D : Nat} {v : Value} {xs : List Value} (hB : Below wA.heap.size wA W) (hl : wA.heap.size ≤ lb) (hv : Boxed W lb 93 v) (hr : W.ownsRow wA.heap.size 98 7 v n xs) (hD : wA.heap.size ≤ D) (hK : W.heap[D]? = some (.deferred (some []))) : St wA W [blk lb #[v] 93, row 98 7 v n xs, dfB D] := by
  obtain ⟨_, S, h1, S1, S2, hS, hd, h2, S3, S4, hS2, hd2, h3, h4⟩ := St_log hB hl hv hr
  have n1 : ∀ k, S1 k → k ≠ D := by
    rintro k hk rfl
    have e := (h2.1 _).1 hk
    subst e
    rw [show W.heap[_]? = _ from hv] at hK
    cases hK
  have n2 : ∀ k, S3 k → k ≠ D := by
    rintro k hk rfl
    obtain ⟨cur, fz, hh⟩ := (h3.2.at k ((h3.1 k).1 hk)).2
    rw [hh] at hK
    cases hK
  refine ⟨hB, fun k => S k ∨ k = D, fun k hk => hk.elim (h1 k) (fun h => h ▸ hD), S1, fun k => S2 k ∨ k = D, fun k => by show S k ∨ k = D ↔ S1 k ∨ (S2 k ∨ k = D); rw [hS k]; simp only [or_assoc], fun k hk h => h.elim (hd k hk) (n1 k hk), h2, S3, fun k => k = D, fun k => by show S2 k ∨ k = D ↔ S3 k ∨ k = D; rw [hS2 k]; exact ⟨fun h => h.elim (fun h => h.elim .inl (fun h => absurd h (h4 k))) .inr, fun h => h.elim (fun h => .inl (.inl h)) .inr⟩, n2, h3, fun k => k = D, fun _ => False, fun k => by simp, fun _ _ h => h, ⟨fun k => Iff.rfl, hK⟩, fun _ h => h⟩
theorem St.df {w0 w : World} {D : Nat} {L : List HP} (h : St w0 w (dfB D :: L)) : w.heap[D]? = some (.deferred (some [])) := by
  obtain ⟨S, h1, S1, S2, hS, hd, h2, h3⟩ := h.own
  exact h2.2
theorem St.df_ge {w0 w : World} {D : Nat} {L : List HP} (h : St w0 w (dfB D :: L)) : w0.heap.size ≤ D := by
  obtain ⟨S, h1, S1, S2, hS, hd, h2, h3⟩ := h.own
  exact h1 D ((hS D).2 (.inl ((h2.1 D).2 rfl)))
theorem bretD_ {P : Program} {fn : Func} {R : Ending → World → Prop} {a : Act} {w : World} {v : Value} {D : Nat} (hK : w.heap[D]? = some (.deferred (some []))) (hd : a.defers = [{ target := .collected D, args := #[] }])
    (hr : (results fn a.tmps).run P (w.putObj D (.deferred none)) = .ok v (w.putObj D (.deferred none))) (hR : R (.returned v) (w.putObj D (.deferred none))) : bm P fn R .ret a w := by
  show LeavesInM Fence.wide 6 P fn a.tmps R a.defers .returning w
  rw [hd]
  exact ⟨by simp, .inl ⟨_, _, rfl, run_takeDeferred hK, ⟨v, hr, hR⟩⟩⟩
/-- A result that lies in a cell. -/
theorem rcell_ {fn : Func} {tmps : Array Value} {p : Tmp} {w : World} {g : Nat} {b : Bool} (hf : fn.results = #[.cell p 4]) (hp : tmps.getD p undef = .pointer (some ⟨g, 0, none⟩)) (hc : w.cell? ⟨g, 0, none⟩ = some (.bool b)) : (results fn tmps).run Tryd.prog w = .ok (.bool b) w := by
  have hp' : tmps[p]?.getD undef = .pointer (some ⟨g, 0, none⟩) := by simpa using hp
  simp [results, hf, go_sem, hp', hc]
end Go.Proofs.YtelfiegocdjnoaaDoor.Ar
