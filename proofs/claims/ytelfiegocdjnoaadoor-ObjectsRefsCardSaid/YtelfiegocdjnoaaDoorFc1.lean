/- Table.Pointers: the words of an object that are references, gone through: the iterator. Conditions: the table's cells lie below what the loop's body changes. -/
import Derived.Test.YtelfiegocdjnoaaDoorFc0
import Derived.Test.YtelfiegocdjnoaaDoorLg0
namespace Go.Proofs.YtelfiegocdjnoaaDoor.Ar
open Go Go.RowKit Go.Shelf Go.Proofs.YtelfiegocdjnoaaDoor.Sep Go.Proofs.YtelfiegocdjnoaaDoorW.PrintWords Go.Proofs.YtelfiegocdjnoaaDoorW.PrintLast Go.Proofs.YtelfiegocdjnoaaDoorW.PrintMore Go.Proofs.YtelfiegocdjnoaaDoor.Q
set_option linter.unusedVariables false
set_option linter.unusedSimpArgs false
set_option maxHeartbeats 8000000
set_option maxRecDepth 100000
attribute [local go_sem] Oper.semAt_some
theorem pointers_ {t : Nat} {c k n : Int} (w : World) : Calls Tryd.prog 128 #[.pointer (some ⟨t, 0, none⟩), .agg #[.int .i64 c, .int .i64 k, .int .i64 n]] w fun e w' => e = .returned (.func (.func 166) #[] #[.pointer (some ⟨w.heap.size, 0, none⟩), .pointer (some ⟨w.heap.size + 1, 0, none⟩)]) ∧ w' = (w.alloc (.cells #[.pointer (some ⟨t, 0, none⟩)] 55)).alloc (.cells #[.int .i64 c, .int .i64 k, .int .i64 n] 43) := by
  go_enter Tryd.func128, Tryd.ntmps128
  go_wp2
  go_ret
  exact ⟨by simp, rfl⟩
/-- What a round keeps: what lies below, and the two boxes. -/
def KpP (n0 bt bh : Nat) (X Y : World) : Prop := Below n0 X Y ∧ Y.heap[bt]? = X.heap[bt]? ∧ Y.heap[bh]? = X.heap[bh]?
theorem KpP.trans {n0 bt bh : Nat} {X Y Z : World} (h : KpP n0 bt bh X Y) (g : KpP n0 bt bh Y Z) : KpP n0 bt bh X Z := ⟨h.1.trans g.1, g.2.1.trans h.2.1, g.2.2.trans h.2.2⟩
/-- The places among the first ones that are chosen. -/
def ptk (m : Nat) (p : Nat → Bool) : Nat → List {x : Nat // x < m}
  | 0 => []
  | j + 1 => if h : j < m then (if p j = true then ptk m p j ++ [⟨j, h⟩] else ptk m p j) else ptk m p j
theorem ptk_yes {m : Nat} {p : Nat → Bool} {j : Nat} (h : j < m) (hp : p j = true) : ptk m p (j + 1) = ptk m p j ++ [⟨j, h⟩] := by rw [ptk, dif_pos h, if_pos hp]
theorem ptk_no {m : Nat} {p : Nat → Bool} {j : Nat} (hp : p j = false) : ptk m p (j + 1) = ptk m p j := by
  rw [ptk]
  split
  · rw [if_neg (by simp [hp])]
  · rfl
theorem ptk_len (m : Nat) (p : Nat → Bool) : ∀ j, (ptk m p j).length ≤ j
  | 0 => by simp [ptk]
  | j + 1 => by
    have := ptk_len m p j
    rw [ptk]
    split
    · split
      · simp; omega
      · omega
    · omega
theorem ptk_nil (m : Nat) (p : Nat → Bool) (hp : ∀ i, p i = false) : ∀ j, ptk m p j = []
  | 0 => rfl
  | j + 1 => by rw [ptk_no (hp j)]; exact ptk_nil m p hp j
theorem grown_of {X Y : World} (h : Below X.heap.size X Y) : X.grownBy Y none := ⟨h.os, h.tape, h.output, h.size, fun i hi _ => h.block i hi⟩
theorem w64s {j : Nat} (h : j < 400) : wrap64 ((j : Int) + 1) = ((j + 1 : Nat) : Int) := by unfold wrap64; omega
theorem meas_ {j m : Nat} (h : j < m) (hm : m ≤ 400) : m - (intOf (Value.int IntKind.i64 (wrap64 ((j : Int) + 1)))).toNat < m - (intOf (Value.int IntKind.i64 (j : Int))).toNat := by
  rw [w64s (by omega)]
  show m - (j + 1) < m - j
  omega
theorem idx_ {j m : Nat} (h : j < m) (hm : m ≤ 400) : Value.int .i64 (wrap64 ((j : Int) + 1)) = Value.int .i64 ((j + 1 : Nat) : Int) := by congr 1; unfold wrap64; omega
variable {t : Nat} {A B : Option Addr} {cap cap2 : Nat} {ns ms : List Nat}
theorem ptr1_in (q : Nat) (hq : 1 ≤ q) (l bt bh : Nat) {w1 : World} (hT : TbC w1 t A cap ns B cap2 ms) (hns : ∀ i, ns.getD i 0 ≤ 63) (hms : ∀ m ∈ ms, m < 18446744073709551616) (c k : Int) (m : Nat) (hm : m ≤ 400) (J Jx : List {x : Nat // x < m} → World → Prop) (W : World) (hJ : AbidesFrom W.heap.size J)
    (hY : ∀ pre x W, J pre W → pre.length < m → YieldAt Fence.wide (q - 1) Tryd.prog l #[.int .i64 ((x.1 : Nat) : Int)] W fun e W' =>
      (e = .returned (.bool true) ∧ J (pre ++ [x]) W' ∧ KpP w1.heap.size bt bh W W') ∨ (e = .returned (.bool false) ∧ Jx (pre ++ [x]) W'))
    (hw : Below w1.heap.size w1 W) (ht : W.heap[bt]? = some (.cells #[.pointer (some ⟨t, 0, none⟩)] 55 (0, 0))) (hh : W.heap[bh]? = some (.cells #[.int .i64 c, .int .i64 k, .int .i64 m] 43 (0, 0))) (h0 : J [] W) :
    CallsIn Fence.wide q Tryd.prog 166 #[.func (.yield l) #[] #[], .pointer (some ⟨bt, 0, none⟩), .pointer (some ⟨bh, 0, none⟩)] W fun e W' => (∃ v, e = .returned v) ∧
      ((∃ ys, ys = ptk m (fun (i : Nat) => isrefT ns ms c k m i) m ∧ J ys W') ∨ (∃ pre, True ∧ Jx pre W')) := by
  obtain ⟨p, hp⟩ : ∃ p : Nat → Bool, p = fun (i : Nat) => isrefT ns ms c k m i := ⟨_, rfl⟩
  rw [← hp]
  refine callsIn_of_wp Tryd.func166 rfl trivial ?_ rfl
  simp only [Tryd.ntmps166, List.size_toArray, List.length_cons, List.length_nil, Nat.reduceAdd, Nat.reduceSub, Array.replicate_succ, Array.replicate_zero, List.push_toArray, List.append_toArray, List.nil_append, List.cons_append]
  have cells : ∀ {X : World}, X.heap[bt]? = some (.cells #[.pointer (some ⟨t, 0, none⟩)] 55 (0, 0)) → X.heap[bh]? = some (.cells #[.int .i64 c, .int .i64 k, .int .i64 m] 43 (0, 0)) → X.cell? ⟨bt, 0, none⟩ = some (.pointer (some ⟨t, 0, none⟩)) ∧ X.cell? ⟨bh, 0, none⟩ = some (.int .i64 c) ∧ X.cell? ⟨bh, 1, none⟩ = some (.int .i64 k) ∧ X.cell? ⟨bh, 2, none⟩ = some (.int .i64 m) := fun h1 h2 => by simp [World.cell?, h1, h2]
  have CELLS := Aside.mk @cells
  obtain ⟨x0, y0, y1, y2⟩ := cells ht hh
  have HT := Aside.mk hT
  have HNS := Aside.mk hns
  have HMS := Aside.mk hms
  have HJ := Aside.mk hJ
  have HY := Aside.mk hY
  have HW := Aside.mk hw
  have HTT := Aside.mk ht
  have HHH := Aside.mk hh
  have H0 := Aside.mk h0
  have HM := Aside.mk hm
  have HP := Aside.mk hp
  clear cells hT hns hms hJ hY hw ht hh h0 hm hp
  cases hf : fitT ns c k m
  case false =>
    have HF := Aside.mk (fun (w2 : World) (hb : Below w1.heap.size w1 w2) => fits_c2 (c := c) (k := k) (n := (m : Int)) (HT.out.below hb))
    rw [hf] at HF
    have hpf : ptk m p m = [] := ptk_nil m p (fun i => by rw [HP.out]; unfold isrefT; simp [hf]) m
    clear hf
    gi_wp2_with (refine ⟨trivial, ?_⟩; gi_at_call 83; refine (callsIn_wide.2 (HF.out _ HW.out)).mono ?_; rintro e w3 ⟨rfl, hb⟩; have HB := Aside.mk hb; clear hb)
    refine bodyPost_ret (results_none rfl _ _ _) rfl ?_
    exact ⟨⟨_, rfl⟩, .inl ⟨_, hpf.symm, HJ.out _ _ _ none H0.out (grown_of HB.out) (fun r e => by cases e)⟩⟩
  case true =>
  have HF := Aside.mk (fun (w2 : World) (hb : Below w1.heap.size w1 w2) => fits_c2 (c := c) (k := k) (n := (m : Int)) (HT.out.below hb))
  rw [hf] at HF
  clear hf
  gi_wp2_with (refine ⟨trivial, ?_⟩; gi_at_call 83; refine (callsIn_wide.2 (HF.out _ HW.out)).mono ?_; rintro e w3 ⟨rfl, hb⟩; have HB := Aside.mk hb; clear hb; have HT3 := Aside.mk ((HB.out.block bt (Array.getElem?_eq_some_iff.1 HTT.out).1).trans HTT.out); have HH3 := Aside.mk ((HB.out.block bh (Array.getElem?_eq_some_iff.1 HHH.out).1).trans HHH.out); obtain ⟨x0, y0, y1, y2⟩ := CELLS.out HT3.out HH3.out)
  have HB3 : Aside (Below w1.heap.size w1 w3) := ⟨HW.out.trans (HB.out.mono (HW.out.size))⟩
  have H3 := Aside.mk (HJ.out _ _ _ none H0.out (grown_of HB.out) (fun r e => by cases e))
  have HSZ := Aside.mk HB.out.size
  clear HB HF H0 HW HTT HHH x0 y0 y1 y2
  gi_loopw [11, 4] (fun i i4 wr => ∃ j : Nat, j ≤ m ∧ i = .int .i64 j ∧ Aside (J (ptk m p j) wr) ∧ Aside (Below w1.heap.size w1 wr) ∧ Aside (wr.heap[bt]? = some (.cells #[.pointer (some ⟨t, 0, none⟩)] 55 (0, 0))) ∧ Aside (wr.heap[bh]? = some (.cells #[.int .i64 c, .int .i64 k, .int .i64 m] 43 (0, 0))) ∧ Aside (W.heap.size ≤ wr.heap.size))
    (fun i _ _ => m - (intOf i).toNat)
  case atStart => exact ⟨0, Nat.zero_le _, rfl, H3, HB3, HT3, HH3, HSZ⟩
  case round =>
    clear H3 HB3 HT3 HH3 HSZ
    obtain ⟨j, hj, rfl, H3, HB3, HT3, HH3, HSZ⟩ := hrel
    by_cases hlt : j < m
    · have d1 : decide ((j : Int) < (m : Int)) = true := by simp; omega
      have n1 : (j : Int) < (m : Int) := by omega
      obtain ⟨x0, y0, y1, y2⟩ := CELLS.out HT3.out HH3.out
      have HR := Aside.mk (isref_c (c := c) (k := k) (n := (m : Int)) (i := (j : Int)) (HT.out.below HB3.out) HNS.out HMS.out)
      have HLT := Aside.mk hlt
      have hpj : isrefT ns ms c k m (j : Int) = p j := by rw [HP.out]
      rw [hpj] at HR
      clear hpj hj hlt
      cases hpb : p j
      case false =>
        rw [hpb] at HR
        gi_wp2_with (refine ⟨trivial, ?_⟩; gi_at_call 167; refine (callsIn_wide.2 HR.out).mono ?_; rintro e w4 ⟨rfl, hb⟩; have HB := Aside.mk hb; clear hb)
        have HB4 := Aside.mk (HB3.out.trans (HB.out.mono HB3.out.size))
        have HT4 := Aside.mk ((HB.out.block bt (Array.getElem?_eq_some_iff.1 HT3.out).1).trans HT3.out)
        have HH4 := Aside.mk ((HB.out.block bh (Array.getElem?_eq_some_iff.1 HH3.out).1).trans HH3.out)
        have H4 := Aside.mk (HJ.out _ _ _ none H3.out (grown_of HB.out) (fun r e => by cases e))
        refine ⟨fun _ h => (by cases h), ?_⟩
        gi_wp2
        go_roundw
        case rel => exact ⟨j + 1, HLT.out, idx_ HLT.out HM.out, ⟨by rw [ptk_no hpb]; exact H4.out⟩, HB4, HT4, HH4, ⟨Nat.le_trans HSZ.out HB.out.size⟩⟩
        case measure => exact meas_ HLT.out HM.out
      case true =>
        rw [hpb] at HR
        gi_wp2_with (refine ⟨trivial, ?_⟩; gi_at_call 167; refine (callsIn_wide.2 HR.out).mono ?_; rintro e w4 ⟨rfl, hb⟩; have HB := Aside.mk hb; clear hb; have H4 := Aside.mk (HJ.out _ _ _ none H3.out (grown_of HB.out) (fun r e => by cases e)); obtain ⟨fn, tmps, assign, body, hy, hR⟩ := HY.out _ ⟨j, HLT.out⟩ w4 H4.out (Nat.lt_of_le_of_lt (ptk_len _ _ _) HLT.out))
        have HB4 := Aside.mk (HB3.out.trans (HB.out.mono HB3.out.size))
        have HT4 := Aside.mk ((HB.out.block bt (Array.getElem?_eq_some_iff.1 HT3.out).1).trans HT3.out)
        have HH4 := Aside.mk ((HB.out.block bh (Array.getElem?_eq_some_iff.1 HH3.out).1).trans HH3.out)
        refine hR.mono ?_
        rintro e W3 (⟨rfl, hJ3, hk1, hk2, hk3⟩ | ⟨rfl, hJx3⟩)
        · gi_wp2
          go_roundw
          case rel => exact ⟨j + 1, HLT.out, idx_ HLT.out HM.out, ⟨by rw [ptk_yes HLT.out hpb]; exact hJ3⟩, ⟨HB4.out.trans hk1⟩, ⟨hk2.trans HT4.out⟩, ⟨hk3.trans HH4.out⟩, ⟨Nat.le_trans HSZ.out (Nat.le_trans HB.out.size hk1.size)⟩⟩
          case measure => exact meas_ HLT.out HM.out
        · gi_wp2
          refine bodyPost_ret (results_none rfl _ _ _) rfl ?_
          exact ⟨⟨_, rfl⟩, .inr ⟨_, trivial, hJx3⟩⟩
    · obtain rfl : j = m := by omega
      have d1 : decide ((j : Int) < (j : Int)) = false := by simp
      have n1 : ¬ (j : Int) < (j : Int) := by omega
      clear hj hlt
      gi_wp2
      go_end0
      exact ⟨⟨_, rfl⟩, .inl H3.out⟩
theorem pointers_stops (q : Nat) (hq : 1 ≤ q) (bt bh : Nat) {w1 w : World} (hT : TbC w1 t A cap ns B cap2 ms) (hns : ∀ i, ns.getD i 0 ≤ 63) (hms : ∀ m ∈ ms, m < 18446744073709551616) (c k : Int) (m : Nat) (hm : m ≤ 400)
    (hw : Below w1.heap.size w1 w) (ht : w.heap[bt]? = some (.cells #[.pointer (some ⟨t, 0, none⟩)] 55 (0, 0))) (hh : w.heap[bh]? = some (.cells #[.int .i64 c, .int .i64 k, .int .i64 m] 43 (0, 0))) :
    SeqStopsK Fence.wide q Tryd.prog 166 #[.pointer (some ⟨bt, 0, none⟩), .pointer (some ⟨bh, 0, none⟩)] (fun (x : {x : Nat // x < m}) => #[.int .i64 ((x.1 : Nat) : Int)]) (KpP w1.heap.size bt bh) (fun ys => ys = ptk m (fun (i : Nat) => isrefT ns ms c k m i) m) (fun _ => True) m w := fun l J Jx W hW hJ _ hY h0 =>
  ptr1_in q hq l bt bh hT hns hms c k m hm J Jx W hJ hY (hw.trans (hW.mono hw.size)) ((hW.block bt (Array.getElem?_eq_some_iff.1 ht).1).trans ht) ((hW.block bh (Array.getElem?_eq_some_iff.1 hh).1).trans hh) h0
end Go.Proofs.YtelfiegocdjnoaaDoor.Ar
