/- What has grown when an object was looked at: memory alone was made, but for the row of the table's classes. Conditions: as Look's contract. -/
import Derived.Test.YtelfiegocdjnoaaDoorMgE
import Derived.Test.YtelfiegocdjnoaaDoorBb0
import Derived.Test.YtelfiegocdjnoaaDoorMrF0
import Derived.Test.YtelfiegocdjnoaaDoorLk3
import Derived.Test.YtelfiegocdjnoaaDoorMrF2
import Derived.Test.YtelfiegocdjnoaaDoorMrF1
import Derived.RangeFuncWrites
namespace Go.Proofs.YtelfiegocdjnoaaDoor.Ar
open Go Go.RowKit Go.Proofs.YtelfiegocdjnoaaDoor.Sep Go.Proofs.YtelfiegocdjnoaaDoor.Pg Go.Proofs.YtelfiegocdjnoaaDoorW.PrintWords Go.Proofs.YtelfiegocdjnoaaDoorW.PrintLast Go.Proofs.YtelfiegocdjnoaaDoorW.PrintMore Go.Proofs.YtelfiegocdjnoaaDoor.Q
set_option linter.unusedVariables false
set_option linter.unusedSimpArgs false
set_option maxHeartbeats 8000000
set_option maxRecDepth 100000
section
/-- These blocks lie as they lay in a world. -/
def snapP (w1 : World) (T : Nat → Prop) : HP :=
  ⟨fun w S => (∀ k, S k ↔ T k) ∧ ∀ k, T k → k < w1.heap.size ∧ w.heap[k]? = w1.heap[k]?,
   fun hk ⟨hS, h⟩ => ⟨hS, fun k ht => ⟨(h k ht).1, (hk k ((hS k).2 ht)).trans (h k ht).2⟩⟩,
   fun {w S} ⟨hS, h⟩ k hk => by
     obtain ⟨h1, h2⟩ := h k ((hS k).1 hk)
     have h3 : w1.heap[k]? = some w1.heap[k] := Array.getElem?_eq_getElem h1
     exact (Array.getElem?_eq_some_iff.1 (h2.trans h3)).1⟩
theorem _root_.Go.Proofs.YtelfiegocdjnoaaDoor.Sep.St.withSnap {w0 w : World} {L : List HP} (h : St w0 w L) : ∃ S : Nat → Prop, (seps L).h w S ∧ St w0 w (L ++ [snapP w (fun k => w0.heap.size ≤ k ∧ k < w.heap.size ∧ ¬ S k)]) := by
  obtain ⟨S, h1, h2⟩ := h.own
  refine ⟨S, h2, h.below, fun k => S k ∨ (w0.heap.size ≤ k ∧ k < w.heap.size ∧ ¬ S k), ?_, seps_append (fun k hk hn => hn.2.2 hk) h2 ⟨_, fun _ => False, fun k => by simp, fun _ _ h => h, ⟨fun k => Iff.rfl, fun k hk => ⟨hk.2.1, rfl⟩⟩, fun _ h => h⟩⟩
  rintro k (hk | hk)
  · exact h1 k hk
  · exact hk.1
theorem _root_.Go.Proofs.YtelfiegocdjnoaaDoor.Sep.St.snapped {w0 w w1 : World} {L : List HP} {T : Nat → Prop} (h : St w0 w (snapP w1 T :: L)) : ∀ k, T k → w.heap[k]? = w1.heap[k]? := by
  obtain ⟨S, h1, S1, S2, hS, hd, h2, h3⟩ := h.own
  exact fun k hk => (h2.2 k hk).2
section
variable {w0 w : World} {a gC t nN P gD g0 : Nat} {cD cQ : Array Value} {lv vL vM : Value} {cn fl : Int} {X : List Int} {E : List Cl}
theorem four_ {S : Nat → Prop} (h : (seps [arB a gC nN lv true cn fl, ceB gC X, tbB t vL vM, tbR vL E, blk gD cD 22, blk g0 cQ 25]).h w S) : ∀ k, S k → k = a ∨ k = gC ∨ k = t ∨ vL.ownBlock = some k ∨ k = gD ∨ k = g0 := by
  obtain ⟨S1, R1, h1, _, p1, S2, R2, h2, _, p2, S3, R3, h3, _, p3, S4, R4, h4, _, p4, S5, R5, h5, _, p5, S6, R6, h6, _, p6, h7⟩ := h
  intro k hk
  rcases (h1 k).1 hk with hk | hk
  · exact .inl ((p1.1 k).1 hk)
  · rcases (h2 k).1 hk with hk | hk
    · exact .inr (.inl ((p2.1 k).1 hk))
    · rcases (h3 k).1 hk with hk | hk
      · exact .inr (.inr (.inl ((p3.1 k).1 hk)))
      · rcases (h4 k).1 hk with hk | hk
        · exact .inr (.inr (.inr (.inl ((p4.1 k).1 hk))))
        · rcases (h5 k).1 hk with hk | hk
          · exact .inr (.inr (.inr (.inr (.inl ((p5.1 k).1 hk)))))
          · rcases (h6 k).1 hk with hk | hk
            · exact .inr (.inr (.inr (.inr (.inr ((p6.1 k).1 hk)))))
            · exact absurd hk (h7 k)
theorem look_grow (hP : P < 5) (hX : X.length = nN) (hN : nN = 128 + 64 * P) (hr : ∀ i, 0 ≤ X.getD i 0 ∧ X.getD i 0 < 18446744073709551616) (at_ : Int) (hT : Tab w0) (h : St w0 w [arB a gC nN lv true cn fl, ceB gC X, tbB t vL vM, tbR vL E, blk gD cD 22, blk g0 cQ 25]) :
    Calls Tryd.prog 23 #[.pointer (some ⟨a, 0, none⟩), .agg #[.int .i64 ((P : Int) + 1), .int .i64 1, .int .i64 1], .pointer (some ⟨t, 0, none⟩), .int .i64 at_] w fun e w' => ∃ V, e = .returned (.tuple #[.agg #[.int .i64 (lookR P X (E.map Cl.n) at_).1, .int .i64 (lookR P X (E.map Cl.n) at_).2.1, .int .i64 (lookR P X (E.map Cl.n) at_).2.2.1, V], .int .i64 (lookR P X (E.map Cl.n) at_).2.2.2.2]) ∧
      St w0 w' [arB a gC nN lv true cn fl, ceB gC X, tbB t vL vM, tbR vL E, blk gD cD 22, blk g0 cQ 25, row 2 1 V (lookR P X (E.map Cl.n) at_).2.2.2.1.length ((lookR P X (E.map Cl.n) at_).2.2.2.1.map (.int .i64))] ∧ w.grownBy w' vL.ownBlock := by
  subst hX
  obtain ⟨S, hS, hs⟩ := h.withSnap
  refine (look_c hP hN hr at_ hT hs).mono ?_
  rintro e w' ⟨V, rfl, h9⟩
  have h10 := h9.order 7 [1, 2, 3, 4, 5, 6, 0] rfl rfl
  refine ⟨V, rfl, by exact (h9.order 7 [1, 2, 3, 4, 5, 6, 0] rfl rfl).drop 7, ?_⟩
  have hsn := (h9.pick 7 rfl).snapped
  have hk : ∀ k, k < w.heap.size → some k ≠ vL.ownBlock → w'.heap[k]? = w.heap[k]? := by
    intro k hk hne
    by_cases h0 : k < w0.heap.size
    · rw [h.below.block k h0, h9.below.block k h0]
    · by_cases hSk : S k
      · rcases four_ hS k hSk with rfl | rfl | rfl | hv | rfl | rfl
        · exact ((h9.pick 1 rfl).heap).trans h.heap.symm
        · exact ((h9.pick 2 rfl).heap).trans (h.pick 1 rfl).heap.symm
        · exact ((h9.pick 3 rfl).heap).trans (h.pick 2 rfl).heap.symm
        · exact absurd hv.symm hne
        · exact ((h9.pick 5 rfl).heap).trans (h.pick 4 rfl).heap.symm
        · exact ((h9.pick 6 rfl).heap).trans (h.pick 5 rfl).heap.symm
      · exact hsn k ⟨by omega, hk, hSk⟩
  refine ⟨h9.below.os.trans h.below.os.symm, h9.below.tape.trans h.below.tape.symm, h9.below.output.trans h.below.output.symm, ?_, fun k h1 h2 => hk k h1 h2⟩
  by_cases hz : w.heap.size = 0
  · omega
  · obtain ⟨q, hq⟩ : ∃ q, w.heap.size = q + 1 := ⟨w.heap.size - 1, by omega⟩
    have hqs : q < w'.heap.size := by
      by_cases hv : some q = vL.ownBlock
      · obtain ⟨_, cur, fz, hh⟩ := (h10.pick 3 rfl).owns.at q hv.symm
        exact (Array.getElem?_eq_some_iff.1 hh).1
      · have e := hk q (by omega) hv
        rw [Array.getElem?_eq_getElem (show q < w.heap.size by omega)] at e
        exact (Array.getElem?_eq_some_iff.1 e).1
    omega
end
end
section
abbrev J64 := {i : Nat // i < 64}
/-- The object at a bit of a page, or why there is none. -/
def lkS (P : Nat) (X : List Int) (ns : List Nat) (pg : Nat) (j : J64) : S60 × Int :=
  (⟨(lookR P X ns ((64 + 64 * pg + j.1 : Nat) : Int)).1, (lookR P X ns ((64 + 64 * pg + j.1 : Nat) : Int)).2.1, (lookR P X ns ((64 + 64 * pg + j.1 : Nat) : Int)).2.2.1, (lookR P X ns ((64 + 64 * pg + j.1 : Nat) : Int)).2.2.2.1⟩, (lookR P X ns ((64 + 64 * pg + j.1 : Nat) : Int)).2.2.2.2)
def inS (P : Nat) (X : List Int) (ns : List Nat) (pg : Nat) : List J64 → List S60 → List S60 × Int
  | [], acc => (acc, 0)
  | j :: js, acc => if (lkS P X ns pg j).2 = 0 then inS P X ns pg js (acc ++ [(lkS P X ns pg j).1]) else ([], (lkS P X ns pg j).2)
def alN (P : Nat) (X : List Int) (pg : Nat) : Nat := (X.getD (22 + (P + 1) + pg) 0).toNat
def plcA (P : Nat) (X : List Int) (pg : Nat) : List J64 := ptk 64 (fun i => (alN P X pg).testBit i) 64
def outS (P : Nat) (X : List Int) (ns : List Nat) : Nat → Nat → List S60 → List S60 × Int
  | 0, _, acc => (acc, 0)
  | d + 1, pg, acc => if (inS P X ns pg (plcA P X pg) acc).2 = 0 then outS P X ns d (pg + 1) (inS P X ns pg (plcA P X pg) acc).1 else ([], (inS P X ns pg (plcA P X pg) acc).2)
/-- All so far could be looked at. -/
def okL (P : Nat) (X : List Int) (ns : List Nat) (pg : Nat) (pre : List J64) : Prop := ∀ j ∈ pre, (lkS P X ns pg j).2 = 0
variable {P : Nat} {X : List Int} {ns : List Nat} {pg : Nat}
theorem inS_ok : ∀ (pre r : List J64) (acc : List S60), okL P X ns pg pre → inS P X ns pg (pre ++ r) acc = inS P X ns pg r (acc ++ pre.map fun j => (lkS P X ns pg j).1)
  | [], r, acc, _ => by simp
  | j :: js, r, acc, h => by
    rw [List.cons_append, inS, if_pos (h j (by simp)), inS_ok js r _ (fun q hq => h q (by simp [hq]))]
    simp
theorem inS_all {pre : List J64} {acc : List S60} (h : okL P X ns pg pre) : inS P X ns pg pre acc = (acc ++ pre.map fun j => (lkS P X ns pg j).1, 0) := by
  have := inS_ok pre [] acc h
  rw [List.append_nil] at this
  rw [this]; rfl
theorem inS_bad {pre r : List J64} {j : J64} {acc : List S60} {e : Int} (h : okL P X ns pg pre) (he : (lkS P X ns pg j).2 = e) (h0 : e ≠ 0) : inS P X ns pg (pre ++ j :: r) acc = ([], e) := by
  rw [inS_ok _ _ _ h, inS, if_neg (by rw [he]; exact h0), he]
theorem inS_len : ∀ (js : List J64) (acc : List S60), (inS P X ns pg js acc).1.length ≤ acc.length + js.length
  | [], acc => by simp [inS]
  | j :: js, acc => by
    rw [inS]
    split
    · have := inS_len js (acc ++ [(lkS P X ns pg j).1])
      simp at this ⊢
      omega
    · simp
theorem okL_snoc {pre : List J64} {j : J64} (h : okL P X ns pg pre) (hj : (lkS P X ns pg j).2 = 0) : okL P X ns pg (pre ++ [j]) := fun q hq => by
  rcases List.mem_append.1 hq with hq | hq
  · exact h q hq
  · rw [List.mem_singleton] at hq; subst hq; exact hj
theorem ptk_grow {m : Nat} {p : Nat → Bool} (b : Nat) : ∀ d, ∃ r, ptk m p (b + d) = ptk m p b ++ r
  | 0 => ⟨[], by simp⟩
  | d + 1 => by
    obtain ⟨r, hr⟩ := ptk_grow (m := m) (p := p) b d
    rw [← Nat.add_assoc]
    rw [ptk]
    split
    · split
      · exact ⟨_, by rw [hr, List.append_assoc]⟩
      · exact ⟨r, hr⟩
    · exact ⟨r, hr⟩
/-- A stop at a bit is the first one that can't be told. -/
theorem stop_at_ {k : Nat} (hk : k < 64) (hx : (alN P X pg).testBit k = true) {pre : List J64} {j : J64} {acc : List S60} {e : Int} (hpre : pre ++ [j] = ptk 64 (fun i => (alN P X pg).testBit i) k ++ [⟨k, hk⟩]) (h : okL P X ns pg pre) (he : (lkS P X ns pg j).2 = e) (h0 : e ≠ 0) :
    inS P X ns pg (plcA P X pg) acc = ([], e) := by
  obtain ⟨h1, h2⟩ := List.append_inj' hpre rfl
  obtain ⟨r, hr⟩ := ptk_grow (m := 64) (p := fun i => (alN P X pg).testBit i) (k + 1) (63 - k)
  rw [show k + 1 + (63 - k) = 64 by omega, ptk_yes hk hx, List.append_assoc] at hr
  unfold plcA
  rw [hr, ← h1]
  simp at h2
  rw [← h2]
  exact inS_bad h he h0
/-! ### The document's -/
theorem wuN2 (x : Nat) (h : x < 18446744073709551616) : IntKind.u64.wrap (x : Int) = (x : Int) := wu _ (by omega) (by omega)
theorem power_l2 (i : Nat) (hi : i < 64) : ∀ d j q : Nat, j + d = i → d < q → windrowref01_Power.l0 q i ((2 ^ j : Nat) : Int) j = some ((2 ^ i : Nat) : Int) := by
  intro d
  induction d with
  | zero =>
    intro j q hj hq
    obtain ⟨q, rfl⟩ : ∃ m, q = m + 1 := ⟨q - 1, by omega⟩
    have : j = i := by omega
    subst this
    rw [windrowref01_Power.l0, if_neg (by omega)]
  | succ d ih =>
    intro j q hj hq
    obtain ⟨q, rfl⟩ : ∃ m, q = m + 1 := ⟨q - 1, by omega⟩
    have hp : 2 ^ (j + 1) < 18446744073709551616 := by
      rw [show 18446744073709551616 = 2 ^ 64 by decide]
      exact Nat.pow_lt_pow_right (by decide) (by omega)
    rw [windrowref01_Power.l0, if_pos (by omega), show ((2 ^ j : Nat) : Int) * 2 = ((2 ^ (j + 1) : Nat) : Int) by rw [Nat.pow_succ]; push_cast; rfl, wuN2 _ hp, w64s (by omega)]
    exact ih (j + 1) q (by omega) (by omega)
theorem bit2_ (q a i : Nat) (ha : a < 18446744073709551616) (hi : i < 64) (hq : 64 ≤ q) : windrowref01_Bit.f q a i = some (if a.testBit i = true then 1 else 0) := by
  unfold windrowref01_Bit.f
  have hp : 2 ^ i ≠ 0 := by have := Nat.two_pow_pos i; omega
  have hd : a / 2 ^ i ≤ a := Nat.div_le_self _ _
  have hpw : windrowref01_Power.f q i = some ((2 ^ i : Nat) : Int) := power_l2 i hi i 0 q (by omega) (by omega)
  rw [hpw, Option.bind_some, if_neg (by omega)]
  have e : Int.tdiv (a : Int) ((2 ^ i : Nat) : Int) = ((a / 2 ^ i : Nat) : Int) := rfl
  rw [e, wuN2 _ (by omega)]
  have e2 : Int.tmod ((a / 2 ^ i : Nat) : Int) 2 = ((a / 2 ^ i % 2 : Nat) : Int) := rfl
  rw [e2, ← Nat.toNat_testBit]
  cases a.testBit i <;> rfl
abbrev iJ (l : List J64) : List Int := l.map fun x => ((x.1 : Nat) : Int)
theorem places2_l (a : Nat) (ha : a < 18446744073709551616) : ∀ d j q : Nat, j + d = 64 → d + 64 < q → windrowref01_Places.l0 q a (iJ (ptk 64 (fun i => a.testBit i) j)) j = some (iJ (ptk 64 (fun i => a.testBit i) 64)) := by
  intro d
  induction d with
  | zero =>
    intro j q hj hq
    obtain ⟨q, rfl⟩ : ∃ m, q = m + 1 := ⟨q - 1, by omega⟩
    have : j = 64 := by omega
    subst this
    rw [windrowref01_Places.l0, if_neg (by decide)]
  | succ d ih =>
    intro j q hj hq
    obtain ⟨q, rfl⟩ : ∃ m, q = m + 1 := ⟨q - 1, by omega⟩
    have hl := ptk_len 64 (fun i => a.testBit i) j
    rw [windrowref01_Places.l0, if_pos (by omega), bit2_ q a j ha (by omega) (by omega), Option.bind_some, w64s (by omega)]
    have h2 := ih (j + 1) q (by omega) (by omega)
    cases hb : a.testBit j
    · rw [ptk_no hb] at h2
      rw [if_neg (by decide)]
      exact h2
    · rw [ptk_yes (by omega) hb] at h2
      rw [if_pos rfl, if_pos rfl, if_pos (by rw [List.length_map]; omega)]
      rw [iJ, List.map_append] at h2
      exact h2
theorem places2_ (q a : Nat) (ha : a < 18446744073709551616) (hq : 129 ≤ q) : windrowref01_Places.f q a = some (iJ (ptk 64 (fun i => a.testBit i) 64)) := places2_l a ha 64 0 q (by omega) (by omega)
theorem at_w {P p j : Nat} (hP : P < 5) (hp : p ≤ P) (hj : j < 64) : wrap64 (wrap64 (64 + wrap64 (64 * (p : Int))) + (j : Int)) = ((64 + 64 * p + j : Nat) : Int) := by unfold wrap64; omega
theorem pl_addr : ∀ P : Fin 5, ∀ i : Fin 5, ∀ j : Fin 64, i.val ≤ P.val → layout_Plan_Addr.f ((P.val : Int) + 1) 1 1 (i.val : Int) (j.val : Int) = some ((64 + 64 * i.val + j.val : Nat) : Int) := by decide +kernel
theorem al_w {P pg : Nat} (hP : P < 5) (hp : pg ≤ P) : windrowref06_Map_Alloc.f ((P : Int) + 1) 1 1 64 22 (128 + 64 * (P : Int)) (pg : Int) = some ((22 + (P + 1) + pg : Nat) : Int) := by unfold windrowref06_Map_Alloc.f; congr 1; unfold wrap64; omega
end
section
set_option linter.unusedSectionVars false
/-- No cells of these types lie in the block that is written. -/
def Off (W : World) (row : Option Nat) (tys : List TypeId) : Prop := ∀ r, row = some r → ∀ cs ty fz, W.heap[r]? = some (.cells cs ty fz) → ty ∉ tys
theorem Off.none (W : World) (tys : List TypeId) : Off W none tys := fun r h => by cases h
theorem Off.notCells {W : World} {row : Option Nat} {tys : List TypeId} (h : ∀ r, row = some r → ∃ o : Obj, W.heap[r]? = some o ∧ o.isCells = false) : Off W row tys := fun r hr cs ty fz hh => by
  obtain ⟨o, ho, hc⟩ := h r hr
  rw [hh] at ho; cases ho; cases hc
theorem Off.heap {W Y : World} {row : Option Nat} {tys : List TypeId} (h : Off W row tys) (hg : W.grownBy Y row) {k : Nat} {cs : Array Value} {ty : TypeId} {fz : Nat × Nat} (hk : W.heap[k]? = some (.cells cs ty fz)) (hty : ty ∈ tys) : Y.heap[k]? = some (.cells cs ty fz) :=
  (hg.block k (Array.getElem?_eq_some_iff.1 hk).1 (fun e => h k e.symm cs ty fz hk hty)).trans hk
class FR where
  gD : Nat
  cD : Array Value
  g0 : Nat
  cQ : Array Value
variable [fr : FR]
abbrev ar4 (a gC t nN : Nat) (X : List Int) (vL vM : Value) (E : List Cl) : List HP := [arB a gC nN (.slice none 0 0) true 0 0, ceB gC X, tbB t vL vM, tbR vL E, blk fr.gD fr.cD 22, blk fr.g0 fr.cQ 25]
theorem ar_grown {w0 W Y : World} {a gC t nN : Nat} {X : List Int} {vL vM : Value} {E : List Cl} {row : Option Nat} (h : St w0 W (ar4 a gC t nN X vL vM E)) (hg : W.grownBy Y row) (ho : Off W row [155, 22, 157, 161, 25]) (hb : ∀ k, row = some k → w0.heap.size ≤ k) : St w0 Y (ar4 a gC t nN X vL vM E) := by
  obtain ⟨S, h1, h2⟩ := h.own
  refine ⟨h.below.grown hg h.size_le hb, S, h1, (seps _).loc (fun k hk => ?_) h2⟩
  have hlt := (seps _).lt h2 k hk
  refine hg.block k hlt (fun e => ?_)
  rcases four_ h2 k hk with rfl | rfl | rfl | hv | rfl | rfl
  · exact ho _ e.symm _ _ _ h.heap (by simp)
  · exact ho _ e.symm _ _ _ (h.pick 1 rfl).heap (by simp)
  · exact ho _ e.symm _ _ _ (h.pick 2 rfl).heap (by simp)
  · obtain ⟨_, cur, fz, hh⟩ := (h.pick 3 rfl).owns.at k hv
    exact ho _ e.symm _ _ _ hh (by simp)
  · exact ho _ e.symm _ _ _ (h.pick 4 rfl).heap (by simp)
  · exact ho _ e.symm _ _ _ (h.pick 5 rfl).heap (by simp)
/-- An object, with its words' slice. -/
abbrev PS := S60 × Option Addr × Nat
abbrev psC (ps : List PS) : List Value := ps.flatMap fun p => [.int .i64 p.1.f0, .int .i64 p.1.f1, .int .i64 p.1.f2, .slice p.2.1 p.1.f3.length p.2.2]
omit fr in
theorem psC_at : ∀ (ps : List PS) (i j : Nat), i < ps.length → j < 4 → (psC ps)[i * 4 + j]? = (match ps[i]? with | some p => [Value.int .i64 p.1.f0, .int .i64 p.1.f1, .int .i64 p.1.f2, .slice p.2.1 p.1.f3.length p.2.2] | none => [])[j]?
  | [], i, j, h, _ => by simp at h
  | p :: l, 0, j, _, hj => by
    rw [Nat.zero_mul, Nat.zero_add]
    show ([Value.int .i64 p.1.f0, .int .i64 p.1.f1, .int .i64 p.1.f2, .slice p.2.1 p.1.f3.length p.2.2] ++ psC l)[j]? = _
    rw [List.getElem?_append_left (by simpa using hj)]
    rfl
  | p :: l, i + 1, j, h, hj => by
    have := psC_at l i j (by simpa using h) hj
    show ([Value.int .i64 p.1.f0, .int .i64 p.1.f1, .int .i64 p.1.f2, .slice p.2.1 p.1.f3.length p.2.2] ++ psC l)[(i + 1) * 4 + j]? = _
    rw [List.getElem?_append_right (by simp; omega), show (i + 1) * 4 + j - [Value.int .i64 p.1.f0, .int .i64 p.1.f1, .int .i64 p.1.f2, .slice p.2.1 p.1.f3.length p.2.2].length = i * 4 + j by simp; omega, this]
    rfl
/-- An object's words lie in a row of their own. -/
def WdAt (n0 : Nat) (W : World) (p : PS) : Prop := p.1.f3.length ≤ p.2.2 ∧ p.2.2 ≤ maxLen ∧ (p.1.f3 = [] ∨ ∃ g cur fz, p.2.1 = some ⟨g, 0, none⟩ ∧ n0 ≤ g ∧ W.heap[g]? = some (.cells cur 2 fz) ∧ ∀ (i : Nat) (u : Value), (I64 p.1.f3)[i]? = some u → cur[i]? = some u)
omit fr in
theorem WdAt.grown {n0 : Nat} {W Y : World} {p : PS} {row : Option Nat} (h : WdAt n0 W p) (hg : W.grownBy Y row) (ho : Off W row [2]) : WdAt n0 Y p := by
  obtain ⟨h1, h2, h3⟩ := h
  refine ⟨h1, h2, h3.imp id ?_⟩
  rintro ⟨g, cur, fz, e, hn, hh, hc⟩
  exact ⟨g, cur, fz, e, hn, ho.heap hg hh (by simp), hc⟩
omit fr in
theorem WdAt.of_row {w0 W : World} {F : List HP} {A : Option Addr} {c : Nat} {x : S60} (h : St w0 W (row 2 1 (.slice A x.f3.length c) x.f3.length (I64 x.f3) :: F)) : WdAt w0.heap.size W (x, A, c) := by
  obtain ⟨A', c', e, h1, h2⟩ := h.row_slice
  injection e with e1 e2 e3
  subst e1 e3
  refine ⟨h1, h2, ?_⟩
  by_cases hn : x.f3 = []
  · exact .inl hn
  · have hp : 0 < x.f3.length := List.length_pos_iff.2 hn
    obtain ⟨g, c', e, _, hc⟩ := h.row_some hp
    injection e with e1 _ _
    subst e1
    obtain ⟨hge, cur, fz, hh⟩ := h.owns.at g rfl
    refine .inr ⟨g, cur, fz, rfl, hge, hh, fun i u hu => ?_⟩
    have := hc i u hu
    simpa [World.cell?, hh] using this
/-- All that is known at a time: acc, with their slices: ps. -/
structure AllI (w0 W : World) (a gC t nN P : Nat) (X : List Int) (vL vM : Value) (E : List Cl) (b ob : Nat) (r6 : Value) (r7 : Int) (v : Value) (ps : List PS) : Prop where
  ar : St w0 W (ar4 a gC t nN X vL vM E)
  hb : w0.heap.size ≤ b
  b3 : W.heap[b]? = some (.cells #[.pointer (some ⟨a, 0, none⟩)] 29 (0, 0))
  b4 : W.heap[b + 1]? = some (.cells #[.int .i64 ((P : Int) + 1), .int .i64 1, .int .i64 1] 40 (0, 0))
  b5 : W.heap[b + 2]? = some (.cells #[.pointer (some ⟨t, 0, none⟩)] 55 (0, 0))
  b6 : W.heap[b + 3]? = some (.cells #[r6] 110 (0, 0))
  b7 : W.heap[b + 4]? = some (.cells #[.int .i64 r7] 37 (0, 0))
  hob : b + 4 < ob
  b8 : Boxed W ob 110 v
  row : W.ownsRow w0.heap.size 60 4 v ps.length (psC ps)
  wd : ∀ p ∈ ps, WdAt w0.heap.size W p
variable {w0 W Y : World} {a gC t nN P b ob : Nat} {X : List Int} {vL vM v r6 : Value} {r7 : Int} {E : List Cl} {ps : List PS} {row : Option Nat}
theorem AllI.grown (h : AllI w0 W a gC t nN P X vL vM E b ob r6 r7 v ps) (hg : W.grownBy Y row) (ho : Off W row [29, 40, 55, 110, 37, 2]) (hv : v.ownBlock = none ∨ v.ownBlock ≠ row) (har : St w0 Y (ar4 a gC t nN X vL vM E)) : AllI w0 Y a gC t nN P X vL vM E b ob r6 r7 v ps where
  ar := har
  hb := h.hb
  b3 := ho.heap hg h.b3 (by simp)
  b4 := ho.heap hg h.b4 (by simp)
  b5 := ho.heap hg h.b5 (by simp)
  b6 := ho.heap hg h.b6 (by simp)
  b7 := ho.heap hg h.b7 (by simp)
  hob := h.hob
  b8 := ho.heap hg h.b8 (by simp)
  row := by
    refine h.row.kept hg ?_
    rcases h.row.2 with ⟨rfl, _⟩ | ⟨g, cap, cur, rfl, _, hgb, _⟩
    · exact .inl rfl
    · refine .inr (fun e => ?_)
      rcases hv with hv | hv
      · simp [Value.ownBlock] at hv
      · exact hv e
  wd := fun p hp => (h.wd p hp).grown hg (fun r hr cs ty fz hh hm => ho r hr cs ty fz hh (by simp at hm; simp [hm]))
/-- The row's block holds objects. -/
theorem AllI.own_ty (h : AllI w0 W a gC t nN P X vL vM E b ob r6 r7 v ps) {r : Nat} (hr : v.ownBlock = some r) : ∃ cur fz, W.heap[r]? = some (.cells cur 60 fz) := by
  rcases h.row.2 with ⟨rfl, _⟩ | ⟨g, cap, cur, rfl, _, hgb, _⟩
  · simp [Value.ownBlock] at hr
  · obtain rfl : g = r := by simpa [Value.ownBlock] using hr
    exact ⟨_, _, hgb⟩
theorem AllI.off_row (h : AllI w0 W a gC t nN P X vL vM E b ob r6 r7 v ps) (ho : Off W row [60]) : v.ownBlock = none ∨ v.ownBlock ≠ row := by
  cases hv : v.ownBlock with
  | none => exact .inl rfl
  | some r =>
    refine .inr (fun e => ?_)
    obtain ⟨cur, fz, hh⟩ := h.own_ty hv
    exact ho r e.symm _ _ _ hh (by simp)
theorem AllI.grow (h : AllI w0 W a gC t nN P X vL vM E b ob r6 r7 v ps) (hg : W.grownBy Y row) (ho : ∀ r, row = some r → w0.heap.size ≤ r ∧ ∃ o : Obj, W.heap[r]? = some o ∧ o.isCells = false) : AllI w0 Y a gC t nN P X vL vM E b ob r6 r7 v ps :=
  h.grown hg (Off.notCells fun r hr => (ho r hr).2) (h.off_row (Off.notCells fun r hr => (ho r hr).2)) (ar_grown h.ar hg (Off.notCells fun r hr => (ho r hr).2) fun r hr => (ho r hr).1)
theorem AllI.step (h : AllI w0 W a gC t nN P X vL vM E b ob r6 r7 v ps) (hb : Below W.heap.size W Y) : AllI w0 Y a gC t nN P X vL vM E b ob r6 r7 v ps :=
  h.grow (grown_of hb) (fun r hr => by cases hr)
/-- When an object was looked at. -/
theorem AllI.look (h : AllI w0 W a gC t nN P X vL vM E b ob r6 r7 v ps) (hg : W.grownBy Y vL.ownBlock) (har : St w0 Y (ar4 a gC t nN X vL vM E)) : AllI w0 Y a gC t nN P X vL vM E b ob r6 r7 v ps := by
  have ho : ∀ tys : List TypeId, 161 ∉ tys → Off W vL.ownBlock tys := fun tys ht r hr cs ty fz hh hm => by
    obtain ⟨_, cur, fz', hh2⟩ := (h.ar.pick 3 rfl).owns.at r hr
    rw [hh] at hh2
    simp at hh2
    exact ht (hh2.2.1 ▸ hm)
  exact h.grown hg (ho _ (by decide)) (h.off_row (ho _ (by decide))) har
/-- What lies apart from the arena is kept, and what is no cells. -/
def GR (w0 W Y : World) : Prop := Below w0.heap.size W Y ∧ KeepsOthers W Y
theorem GR.refl (w0 W : World) : GR w0 W W := ⟨Below.refl _ _, .refl _⟩
theorem GR.trans {A B C : World} (h : GR w0 A B) (g : GR w0 B C) : GR w0 A C := ⟨h.1.trans g.1, h.2.trans g.2⟩
theorem GR.grown (hW : w0.heap.size ≤ W.heap.size) (hg : W.grownBy Y row) (hr : ∀ r, row = some r → w0.heap.size ≤ r ∧ ∃ cs ty fz, W.heap[r]? = some (.cells cs ty fz)) : GR w0 W Y :=
  ⟨⟨hg.os, hg.tape, hg.output, hg.size, fun k hk => hg.block k (by omega) (fun e => by have := (hr k e.symm).1; omega)⟩,
   ⟨hg.size, fun k o ho hc => (hg.block k (Array.getElem?_eq_some_iff.1 ho).1 (fun e => by obtain ⟨_, cs, ty, fz, hh⟩ := hr k e.symm; rw [hh] at ho; cases ho; cases hc)).trans ho⟩⟩
theorem GR.step (hW : w0.heap.size ≤ W.heap.size) (h : Below W.heap.size W Y) : GR w0 W Y :=
  ⟨h.mono hW, ⟨h.size, fun k o ho _ => (h.block k (Array.getElem?_eq_some_iff.1 ho).1).trans ho⟩⟩
omit fr in
/-- Objects that lie in a row read as the print's kind. -/
theorem psC_reads {n0 : Nat} {W : World} {ps : List PS} {A : Option Addr} {c : Nat} (hc : ps.length ≤ c) (hm : c ≤ maxLen) (hwd : ∀ p ∈ ps, WdAt n0 W p) (hA : 0 < ps.length → ∃ g, A = some ⟨g, 0, none⟩ ∧ ∀ (i : Nat) (u : Value), (psC ps)[i]? = some u → W.cell? ⟨g, i, none⟩ = some u) : Kd.C k60 W A (ps.map (·.1)).length (ps.map (·.1)) := by
  have hn : (ps.map (·.1)).length = ps.length := List.length_map ..
  refine ⟨rfl, by rw [hn]; exact Nat.le_trans hc hm, fun h0 => ?_⟩
  rw [hn] at h0
  obtain ⟨g, rfl, hg⟩ := hA h0
  refine ⟨_, rfl, fun j x hj => ?_⟩
  have hj0 : j < ps.length := by have := (List.getElem?_eq_some_iff.1 hj).1; omega
  have hp : ps[j]? = some ps[j] := List.getElem?_eq_getElem hj0
  have hx : x = ps[j].1 := by
    rw [List.getElem?_map, hp] at hj
    simpa using hj.symm
  subst hx
  have hw := hwd ps[j] (List.getElem_mem _)
  have hK : Kd.C (Kd.int .i64) W ps[j].2.1 ps[j].1.f3.length ps[j].1.f3 := by
    refine ⟨rfl, Nat.le_trans hw.1 hw.2.1, fun h0 => ?_⟩
    rcases hw.2.2 with h9 | ⟨g2, cur, fz, e, _, hh, hcur⟩
    · rw [h9] at h0; simp at h0
    · refine ⟨_, e, fun q y hq => ⟨[.int .i64 y], rfl, rfl, fun i u hu => ?_⟩⟩
      match i, hu with
      | 0, hu =>
        obtain rfl : Value.int .i64 y = u := by simpa using hu
        have hq2 := hcur q (.int .i64 y) (by simp [I64, hq])
        rw [add0]
        show W.cell? ⟨g2, q * 1 + 0, none⟩ = _
        simp only [World.cell?, hh, Nat.mul_one, Nat.add_zero]
        exact hq2
      | i + 1, hu => simp at hu
  refine ⟨[.int .i64 ps[j].1.f0, .int .i64 ps[j].1.f1, .int .i64 ps[j].1.f2, .slice ps[j].2.1 ps[j].1.f3.length ps[j].2.2], rfl, ⟨_, _, rfl, rfl, ⟨_, _, rfl, rfl, ⟨_, _, rfl, rfl, ⟨ps[j].2.1, ps[j].2.2, rfl, hw.1, hK⟩⟩⟩⟩, fun i u hu => ?_⟩
  have hi : i < 4 := by
    have := (List.getElem?_eq_some_iff.1 hu).1
    simpa using this
  rw [add0]
  show W.cell? ⟨g, j * 4 + i, none⟩ = some u
  refine hg _ u ?_
  rw [psC_at ps j i hj0 hi, hp]
  exact hu
/-- The objects that have come, as the print's kind. -/
theorem AllI.reads (h : AllI w0 W a gC t nN P X vL vM E b ob r6 r7 v ps) : ∃ A c, v = .slice A ps.length c ∧ ps.length ≤ c ∧ Kd.C k60 W A (ps.map (·.1)).length (ps.map (·.1)) := by
  have hrow := h.row
  rcases hrow.2 with ⟨hv, h0⟩ | ⟨g, cap, cur, hv, _, hgb, h1, h2, _, h5⟩
  · refine ⟨none, 0, by rw [hv, h0], by omega, psC_reads (c := 0) (by omega) (by simp [maxLen]) h.wd (fun h9 => by omega)⟩
  · refine ⟨_, cap, hv, h1, psC_reads h1 h2 h.wd (fun _ => ⟨g, rfl, fun i u hu => ?_⟩)⟩
    rw [← h5] at hu
    have hu2 : cur.toList[i]? = some u := by
      rw [List.getElem?_take] at hu
      split at hu
      · exact hu
      · cases hu
    simp only [World.cell?, hgb]
    simpa using hu2
end
section
set_option linter.unusedSectionVars false
variable [fr : FR]
theorem cell_h {W : World} {k : Nat} {cs : Array Value} {ty : TypeId} {fz : Nat × Nat} (h : W.heap[k]? = some (.cells cs ty fz)) (i : Nat) {u : Value} (hi : cs[i]? = some u) : W.cell? ⟨k, i, none⟩ = some u := by
  simp only [World.cell?, h]; exact hi
theorem heap_k {W Y : World} {row : Option Nat} {k : Nat} {cs : Array Value} {ty : TypeId} {fz : Nat × Nat} (h : W.heap[k]? = some (.cells cs ty fz)) (hg : W.grownBy Y row) (hr : ∀ r, row = some r → ∃ o : Obj, W.heap[r]? = some o ∧ o.isCells = false) : Y.heap[k]? = some (.cells cs ty fz) := (Off.notCells hr : Off W row [ty]).heap hg h (by simp)
theorem frozen_h {W : World} {k : Nat} {cs : Array Value} {ty : TypeId} (h : W.heap[k]? = some (.cells cs ty (0, 0))) (i : Nat) : W.frozen? ⟨k, i, none⟩ = false := by simp [World.frozen?, h]
/-- A struct is put into a block. -/
theorem sc_ {W : World} {g : Nat} {zs : Array Value} {ty : TypeId} (hh : W.heap[g]? = some (.cells zs ty (0, 0))) (seg : List Value) (hl : seg.length = zs.size) : (W.setCells g 0 seg).heap[g]? = some (.cells seg.toArray ty (0, 0)) ∧ W.grownBy (W.setCells g 0 seg) (some g) := by
  obtain ⟨s1, s2, s3, s4⟩ := setCells_same g seg 0 W
  obtain ⟨cur, h4, h5, h6⟩ := setCells_row seg 0 W zs hh (by omega)
  have hc : cur = seg.toArray := by
    have : cur.toList = seg := by rw [h6, List.take_zero, List.drop_of_length_le (by rw [Array.length_toList]; omega)]; simp
    rw [← this]
  exact ⟨by rw [h4, hc], s1, s2, s3, by rw [s4]; exact Nat.le_refl _, fun k _ hk => setCells_far _ _ k (fun e => hk (by rw [e]))⟩
theorem sc_run {P : Program} {a : Act} {o : Oper} {t : TypeId} {p v : Operand} (ho : o.op = .store t p v) {W : World} {g : Nat} {zs : Array Value} {ty : TypeId} {seg : List Value} (hp : a.eval p = .pointer (some ⟨g, 0, none⟩)) (hv : (a.eval v).cells.toList = seg) (ht : (P.info? t).map (·.size) = some seg.length)
    (hh : W.heap[g]? = some (.cells zs ty (0, 0))) (hl : seg.length = zs.size) (h1 : ∀ q ∈ seg, q.oneCell' = true) : (execOp a.eval o).run P W = .ok .skip (W.setCells g 0 seg) := by
  have hr := run_store_run (P := P) (o := 0) t (a.eval v) seg hh hv ht (by omega) h1
  unfold execOp
  simp only [ho, hp, Sem.run_bind, Sem.run_pure, Result.andThen_ok, hr]
theorem set_heap {W : World} {g k : Nat} {u : Value} (h : k ≠ g) : (W.setCell ⟨g, 0, none⟩ u).heap[k]? = W.heap[k]? := by
  simp only [World.setCell]
  rw [Array.getElem?_modify, if_neg (by omega)]
theorem set_heap_at {W : World} {g : Nat} {x u : Value} {ty : TypeId} (h : W.heap[g]? = some (.cells #[x] ty (0, 0))) : (W.setCell ⟨g, 0, none⟩ u).heap[g]? = some (.cells #[u] ty (0, 0)) := by
  simp only [World.setCell]
  rw [Array.getElem?_modify, if_pos rfl, h]
  rfl
section
variable {w0 W Y w1 : World} {a gC t nN P b ob : Nat} {X : List Int} {vL vM v v' r6 : Value} {r7 : Int} {E : List Cl} {ps : List PS} {p : PS} {tmp : Obj}
theorem AllI.lt (h : AllI w0 W a gC t nN P X vL vM E b ob r6 r7 v ps) : ob < W.heap.size := (Array.getElem?_eq_some_iff.1 h.b8).1
/-- The results are stored. -/
theorem AllI.res (h : AllI w0 W a gC t nN P X vL vM E b ob r6 r7 v ps) (u : Value) (e : Int) : AllI w0 ((W.setCell ⟨b + 3, 0, none⟩ u).setCell ⟨b + 4, 0, none⟩ (.int .i64 e)) a gC t nN P X vL vM E b ob u e v ps := by
  have h0 := h.hb
  have h9 := h.hob
  have hr : ∀ k, k ≠ b + 3 → k ≠ b + 4 → ((W.setCell ⟨b + 3, 0, none⟩ u).setCell ⟨b + 4, 0, none⟩ (.int .i64 e)).heap[k]? = W.heap[k]? := fun k h1 h2 => (set_heap h2).trans (set_heap h1)
  have off1 : Off W (some (b + 3)) [155, 22, 157, 161, 25] := fun r e1 cs ty fz hh hm => by cases e1; rw [h.b6] at hh; cases hh; simp at hm
  have g1 : W.grownBy (W.setCell ⟨b + 3, 0, none⟩ u) (some (b + 3)) := grownBy_setCell' W (b + 3) u
  have ar1 := ar_grown h.ar g1 off1 (fun k e1 => by cases e1; omega)
  have hb7 : (W.setCell ⟨b + 3, 0, none⟩ u).heap[b + 4]? = some (.cells #[.int .i64 r7] 37 (0, 0)) := (set_heap (by omega)).trans h.b7
  have off2 : Off (W.setCell ⟨b + 3, 0, none⟩ u) (some (b + 4)) [155, 22, 157, 161, 25] := fun r e1 cs ty fz hh hm => by cases e1; rw [hb7] at hh; cases hh; simp at hm
  have ar2 := ar_grown ar1 (grownBy_setCell' (W.setCell ⟨b + 3, 0, none⟩ u) (b + 4) (.int .i64 e)) off2 (fun k e1 => by cases e1; omega)
  refine ⟨ar2, h0, (hr _ (by omega) (by omega)).trans h.b3, (hr _ (by omega) (by omega)).trans h.b4, (hr _ (by omega) (by omega)).trans h.b5, (set_heap (by omega)).trans (set_heap_at h.b6), set_heap_at hb7, h9, (hr _ (by omega) (by omega)).trans h.b8, ?_, fun q hq => ?_⟩
  · refine ⟨h.row.1, h.row.2.imp id ?_⟩
    rintro ⟨g, cap, cur, e1, h1, hh, r⟩
    exact ⟨g, cap, cur, e1, h1, (hr g (fun e2 => by rw [e2, h.b6] at hh; cases hh) (fun e2 => by rw [e2, h.b7] at hh; cases hh)).trans hh, r⟩
  · obtain ⟨h1, h2, h3⟩ := h.wd q hq
    refine ⟨h1, h2, h3.imp id ?_⟩
    rintro ⟨g, cur, fz, e1, hn, hh, hc⟩
    exact ⟨g, cur, fz, e1, hn, (hr g (fun e2 => by rw [e2, h.b6] at hh; cases hh) (fun e2 => by rw [e2, h.b7] at hh; cases hh)).trans hh, hc⟩
theorem res_keeps (h : AllI w0 W a gC t nN P X vL vM E b ob r6 r7 v ps) (u : Value) (e : Int) : GR w0 W ((W.setCell ⟨b + 3, 0, none⟩ u).setCell ⟨b + 4, 0, none⟩ (.int .i64 e)) := by
  have h0 := h.hb
  have hs := h.ar.size_le
  have g1 := GR.grown (w0 := w0) hs (grownBy_setCell' W (b + 3) u) (fun r e1 => by cases e1; exact ⟨by omega, _, _, _, h.b6⟩)
  have hb7 : (W.setCell ⟨b + 3, 0, none⟩ u).heap[b + 4]? = some (.cells #[.int .i64 r7] 37 (0, 0)) := (set_heap (by omega)).trans h.b7
  exact g1.trans (GR.grown (Nat.le_trans hs g1.1.size) (grownBy_setCell' _ (b + 4) (.int .i64 e)) (fun r e1 => by cases e1; exact ⟨by omega, _, _, _, hb7⟩))
/-- An object is appended. -/
theorem AllI.appended (h : AllI w0 W a gC t nN P X vL vM E b ob r6 r7 v ps) (hp : WdAt w0.heap.size W p) (hown : w1.ownsRow w0.heap.size 60 4 v' (ps.length + 1) (psC ps ++ [.int .i64 p.1.f0, .int .i64 p.1.f1, .int .i64 p.1.f2, .slice p.2.1 p.1.f3.length p.2.2])) (hg : (W.alloc tmp).grownBy w1 v.ownBlock) :
    AllI w0 (w1.setCell ⟨ob, 0, none⟩ v') a gC t nN P X vL vM E b ob r6 r7 v' (ps ++ [p]) ∧ GR w0 W (w1.setCell ⟨ob, 0, none⟩ v') := by
  have hs := h.ar.size_le
  have h9 := h.hob
  have h0 := h.hb
  obtain ⟨hv1, hv2, hr2, hk2, hb2⟩ := h.b8.appended (by decide) h.row hs (by omega) hown hg
  have hal := h.step (Y := W.alloc tmp) ((Below.refl _ _).alloc (Nat.le_refl _) _)
  have hty : ∀ r, v.ownBlock = some r → ∃ cur fz, (W.alloc tmp).heap[r]? = some (.cells cur 60 fz) := fun r hr => hal.own_ty hr
  have off : ∀ tys : List TypeId, 60 ∉ tys → Off (W.alloc tmp) v.ownBlock tys := fun tys ht r hr cs ty fz hh hm => by
    obtain ⟨cur, fz', h2⟩ := hty r hr
    rw [hh] at h2
    simp at h2
    exact ht (h2.2.1 ▸ hm)
  have hge : ∀ r, v.ownBlock = some r → w0.heap.size ≤ r := fun r hr => by
    rcases h.row.2 with ⟨rfl, _⟩ | ⟨g, cap, cur, rfl, hge, _⟩
    · simp [Value.ownBlock] at hr
    · obtain rfl : g = r := by simpa [Value.ownBlock] using hr
      exact hge
  have ar1 := ar_grown hal.ar hg (off _ (by decide)) hge
  have hset : ∀ k, k ≠ ob → (w1.setCell ⟨ob, 0, none⟩ v').heap[k]? = w1.heap[k]? := fun k hk => set_heap hk
  have ar2 := ar_grown ar1 (grownBy_setCell' w1 ob v') (fun r e1 cs ty fz hh hm => by cases e1; rw [show w1.heap[ob]? = _ from hv1] at hh; cases hh; simp at hm) (fun k e1 => by cases e1; omega)
  have kp : ∀ {k : Nat} {cs : Array Value} {ty : TypeId} {fz : Nat × Nat}, W.heap[k]? = some (.cells cs ty fz) → ty ≠ 60 → k ≠ ob → (w1.setCell ⟨ob, 0, none⟩ v').heap[k]? = some (.cells cs ty fz) := fun hk hty hko => keep_cells hk hty h.row hg hko
  have wdk : ∀ q, WdAt w0.heap.size W q → WdAt w0.heap.size (w1.setCell ⟨ob, 0, none⟩ v') q := fun q ⟨h1, h2, h3⟩ => ⟨h1, h2, h3.imp id fun ⟨g, cur, fz, e1, hn, hh, hc⟩ => ⟨g, cur, fz, e1, hn, kp hh (by decide) (fun e2 => by rw [e2, show W.heap[ob]? = _ from h.b8] at hh; cases hh), hc⟩⟩
  refine ⟨⟨ar2, h0, kp h.b3 (by decide) (by omega), kp h.b4 (by decide) (by omega), kp h.b5 (by decide) (by omega), kp h.b6 (by decide) (by omega), kp h.b7 (by decide) (by omega), h9, hv2, ?_, fun q hq => ?_⟩, hb2, hk2⟩
  · rw [List.length_append, List.length_singleton, show psC (ps ++ [p]) = psC ps ++ [.int .i64 p.1.f0, .int .i64 p.1.f1, .int .i64 p.1.f2, .slice p.2.1 p.1.f3.length p.2.2] by simp [psC]]
    exact hr2
  · rcases List.mem_append.1 hq with hq | hq
    · exact wdk q (h.wd q hq)
    · rw [List.mem_singleton] at hq; subst hq; exact wdk _ hp
/-- What is known within a round. -/
def BI (w0 W : World) (a gC t nN P : Nat) (X : List Int) (vL vM : Value) (E : List Cl) (b ob : Nat) (v : Value) (ps : List PS) (pb : Nat) (pg : Int) (Y : World) : Prop :=
  AllI w0 Y a gC t nN P X vL vM E b ob (.slice none 0 0) 0 v ps ∧ Y.heap[pb]? = some (.cells #[.int .i64 pg] 3 (0, 0)) ∧ GR w0 W Y
variable {Z : World} {pb cb : Nat} {pg : Int}
theorem BI.step (h : BI w0 W a gC t nN P X vL vM E b ob v ps pb pg Y) (hb : Below Y.heap.size Y Z) : BI w0 W a gC t nN P X vL vM E b ob v ps pb pg Z :=
  ⟨h.1.step hb, (hb.block pb (Array.getElem?_eq_some_iff.1 h.2.1).1).trans h.2.1, h.2.2.trans (GR.step h.1.ar.size_le hb)⟩
theorem vL_off (h : AllI w0 Y a gC t nN P X vL vM E b ob r6 r7 v ps) : ∀ tys : List TypeId, 161 ∉ tys → Off Y vL.ownBlock tys := fun tys ht r hr cs ty fz hh hm => by
  obtain ⟨_, cur, fz', hh2⟩ := (h.ar.pick 3 rfl).owns.at r hr
  rw [hh] at hh2
  simp at hh2
  exact ht (hh2.2.1 ▸ hm)
theorem BI.look (h : BI w0 W a gC t nN P X vL vM E b ob v ps pb pg Y) (hg : Y.grownBy Z vL.ownBlock) (har : St w0 Z (ar4 a gC t nN X vL vM E)) : BI w0 W a gC t nN P X vL vM E b ob v ps pb pg Z :=
  ⟨h.1.look hg har, (vL_off h.1 [3] (by decide)).heap hg h.2.1 (by simp), h.2.2.trans (GR.grown h.1.ar.size_le hg fun r hr => by
    obtain ⟨h1, cur, fz, hh⟩ := (h.1.ar.pick 3 rfl).owns.at r hr
    exact ⟨h1, cur, 161, fz, hh⟩)⟩
/-- A new object's variable. -/
def CB (w0 : World) (v : Value) (cb : Nat) (Y : World) : Prop := Y.heap[cb]? = some (.cells #[.int .i64 0, .int .i64 0, .int .i64 0, .slice none 0 0] 60 (0, 0)) ∧ w0.heap.size ≤ cb ∧ v.ownBlock ≠ some cb
theorem CB.step (h : CB w0 v cb Y) (hb : Below Y.heap.size Y Z) : CB w0 v cb Z := ⟨(hb.block cb (Array.getElem?_eq_some_iff.1 h.1).1).trans h.1, h.2⟩
theorem CB.look (h : CB w0 v cb Y) (hB : BI w0 W a gC t nN P X vL vM E b ob v ps pb pg Y) (hg : Y.grownBy Z vL.ownBlock) : CB w0 v cb Z := ⟨(vL_off hB.1 [60] (by decide)).heap hg h.1 (by simp), h.2⟩
theorem CB.new (hB : BI w0 W a gC t nN P X vL vM E b ob v ps pb pg Y) : CB w0 v Y.heap.size (Y.alloc (.cells #[.int .i64 0, .int .i64 0, .int .i64 0, .slice none 0 0] 60)) :=
  ⟨heap_new _ _, hB.1.ar.size_le, fun e => by
    obtain ⟨cur, fz, hh⟩ := hB.1.own_ty e
    have := (Array.getElem?_eq_some_iff.1 hh).1
    omega⟩
theorem WdAt.step {n0 : Nat} (h : WdAt n0 Y p) (hb : Below Y.heap.size Y Z) : WdAt n0 Z p := h.grown (grown_of hb) (Off.none _ _)
theorem BI.store (h : BI w0 W a gC t nN P X vL vM E b ob v ps pb pg Y) (hc : CB w0 v cb Y) (hg : Y.grownBy Z (some cb)) : BI w0 W a gC t nN P X vL vM E b ob v ps pb pg Z := by
  have off : ∀ tys : List TypeId, 60 ∉ tys → Off Y (some cb) tys := fun tys ht r hr cs ty fz hh hm => by
    cases hr
    rw [hc.1] at hh
    cases hh
    exact ht hm
  refine ⟨h.1.grown hg (off _ (by decide)) (.inr hc.2.2) (ar_grown h.1.ar hg (off _ (by decide)) (fun k e => by cases e; exact hc.2.1)), (off [3] (by decide)).heap hg h.2.1 (by simp), h.2.2.trans (GR.grown h.1.ar.size_le hg (fun r e => by cases e; exact ⟨hc.2.1, _, _, _, hc.1⟩))⟩
theorem WdAt.store {n0 : Nat} (h : WdAt n0 Y p) (hc : CB w0 v cb Y) (hg : Y.grownBy Z (some cb)) : WdAt n0 Z p := h.grown hg (fun r hr cs ty fz hh hm => by
  cases hr
  rw [hc.1] at hh
  cases hh
  simp at hm)
end
def coll (D : Nat) : Deferred := { target := .collected D, args := #[] }
/-- A function's end behind many ranges over functions. -/
theorem leaves_all {n : Nat} {P : Program} {fn : Func} {tmps : Array Value} {R : Ending → World → Prop} (Pr : World → Prop) (B : Nat) (hstep : ∀ W D, Pr W → B ≤ D → W.heap[D]? = some (.deferred (some [])) → Pr (W.putObj D (.deferred none)))
    (hfin : ∀ W, Pr W → ∃ v, (results fn tmps).run P W = .ok v W ∧ R (.returned v) W) : ∀ (Ds : List Nat) (W : World), Ds.Nodup → (∀ D ∈ Ds, B ≤ D ∧ W.heap[D]? = some (.deferred (some []))) → Pr W → LeavesInM Fence.wide n P fn tmps R (Ds.map coll) .returning W
  | [], W, _, _, h => hfin W h
  | D :: Ds, W, hn, hD, h => by
    have h1 := hD D (by simp)
    obtain ⟨hn1, hn2⟩ := List.nodup_cons.1 hn
    refine ⟨by simp, .inl ⟨D, _, rfl, run_takeDeferred h1.2, leaves_all Pr B hstep hfin Ds _ hn2 (fun q hq => ?_) (hstep W D h h1.1 h1.2)⟩⟩
    have h2 := hD q (by simp [hq])
    refine ⟨h2.1, ?_⟩
    have hne : q ≠ D := fun e => hn1 (by rw [← e]; exact hq)
    exact (World.putObj_heap_other (by omega)).trans h2.2
end
end Go.Proofs.YtelfiegocdjnoaaDoor.Ar
