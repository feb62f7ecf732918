/- The bits of a word that are 1, gone through: the iterator (word.Bits). Conditions: the package's table of places reads as it was laid. -/
import Derived.Test.YtelfiegocdjnoaaDoorFc1
import Derived.Test.YtelfiegocdjnoaaDoorRg0
import Derived.Shelf.Spec.TrailingZeros
namespace Go.Proofs.YtelfiegocdjnoaaDoor.Ar
open Go Go.RowKit Go.Shelf Go.Proofs.YtelfiegocdjnoaaDoor.Sep Go.Proofs.YtelfiegocdjnoaaDoorW.PrintWords Go.Proofs.YtelfiegocdjnoaaDoorW.PrintLast Go.Proofs.YtelfiegocdjnoaaDoorW.PrintMore Go.Proofs.YtelfiegocdjnoaaDoor.Q
set_option linter.unusedVariables false
set_option linter.unusedSimpArgs false
set_option maxHeartbeats 8000000
set_option maxRecDepth 100000
section
attribute [local go_sem] Oper.semAt_some
/-- The table of places, in its variable. -/
def TabZ (w : World) : Prop := ∀ j, j < 64 → w.cell? ⟨1, j, none⟩ = some (.int .u8 ((Lib.deBruijn64tab.getD j 0 : Nat) : Int))
theorem TabZ.below {w w' : World} (h : TabZ w) (hb : Below w.heap.size w w') : TabZ w' := fun i hi => pw_cell_below hb (h i hi)
theorem tz_core (x k idx : Nat) (w : World) (h0 : ((x : Int) == 0) = false)
    (key : IntKind.u64.wrap (bits BinOp.and IntKind.u64 (x : Int) (IntKind.u64.wrap (-(x : Int))) * 285870213051353865) / 288230376151711744 = (idx : Int))
    (hi : idx < 64) (hcell : w.cell? ⟨1, idx, none⟩ = some (.int .u8 k)) (hk : k < 64) : Calls Tryd.prog 174 #[.int .u64 x] w fun e w' => e = .returned (.int .i64 k) ∧ w' = w := by
  go_enter Tryd.func174, Tryd.ntmps174
  go_wp2_with (simp only [key])
  go_ret
  exact ⟨rfl, rfl⟩
theorem tz_c {x : Nat} (hx : x < 18446744073709551616) (hx0 : x ≠ 0) {w : World} (hT : TabZ w) : Calls Tryd.prog 174 #[.int .u64 x] w fun e w' => e = .returned (.int .i64 (Lib.ctz 64 x : Nat)) ∧ w' = w := by
  obtain ⟨hlow, hk⟩ := Lib.lowest_bit 64 x hx0 hx
  obtain ⟨hi, htab⟩ := Lib.deBruijn64_at _ hk
  have hcell := hT _ hi
  rw [htab] at hcell
  exact tz_core x _ _ w (by simp; omega) (tz64_key x _ hx hx0 hlow) hi hcell hk
theorem low_c {x : Nat} (hx : x < 18446744073709551616) (hx0 : x ≠ 0) {w : World} (hT : TabZ w) : Calls Tryd.prog 152 #[.int .u64 x] w fun e w' => e = .returned (.int .i64 (Lib.ctz 64 x : Nat)) ∧ w' = w := by
  have HC := Aside.mk (tz_c hx hx0 hT)
  clear hx hx0 hT
  go_enter Tryd.func152, Tryd.ntmps152
  go_wp2_with (go_at_call 174; refine HC.out.mono ?_; rintro e w1 ⟨rfl, rfl⟩)
  go_ret
  exact ⟨rfl, rfl⟩
theorem bits_ {x : Int} (w : World) : Calls Tryd.prog 105 #[.int .u64 x] w fun e w' => e = .returned (.func (.func 151) #[] #[.pointer (some ⟨w.heap.size, 0, none⟩)]) ∧ w' = w.alloc (.cells #[.int .u64 x] 22) := by
  go_enter Tryd.func105, Tryd.ntmps105
  go_wp2
  go_ret
  exact ⟨rfl, rfl⟩
theorem ptk_gap {m : Nat} {p : Nat → Bool} {b : Nat} : ∀ (d : Nat), (∀ i, b ≤ i → i < b + d → p i = false) → ptk m p (b + d) = ptk m p b
  | 0, _ => rfl
  | d + 1, h => by
    rw [← Nat.add_assoc, ptk_no (h (b + d) (by omega) (by omega))]
    exact ptk_gap d (fun i h1 h2 => h i h1 (by omega))
/-- What is left of a word's bits from a place on. -/
structure Rst (x b r : Nat) : Prop where
  lt : r < 18446744073709551616
  at_ : ∀ i, r.testBit i = (decide (b ≤ i) && x.testBit i)
theorem Rst.start {x : Nat} (hx : x < 18446744073709551616) : Rst x 0 x := ⟨hx, fun i => by simp⟩
theorem Rst.low {x b r : Nat} (h : Rst x b r) (h0 : r ≠ 0) : ∃ k, Lib.ctz 64 r = k ∧ b ≤ k ∧ k < 64 ∧ x.testBit k = true ∧ (∀ i, b ≤ i → i < k → x.testBit i = false) ∧ Rst x (k + 1) (r &&& (r - 1)) := by
  obtain ⟨m, hm, hk⟩ := Lib.ctzFrom_spec 64 r (by omega) h.lt
  have hc : Lib.ctz 64 r = Lib.ctzFrom 64 r := by unfold Lib.ctz; rw [if_neg h0]
  generalize Lib.ctzFrom 64 r = k at hm hk hc
  have hp := Nat.two_pow_pos k
  have tb : ∀ a i, (2 ^ k * a).testBit i = (decide (k ≤ i) && a.testBit (i - k)) := fun a i => by
    rw [Nat.mul_comm, Nat.testBit_mul_two_pow]
  have hrk : r.testBit k = true := by rw [hm, tb]; simp
  have hlo : ∀ i, i < k → r.testBit i = false := fun i hi => by rw [hm, tb]; simp; omega
  have hbk : b ≤ k := by
    have := h.at_ k
    rw [hrk] at this
    simp at this
    exact this.1
  have hxk : x.testBit k = true := by
    have := h.at_ k
    rw [hrk] at this
    simp at this
    exact this.2
  have hr1 : r - 1 = 2 ^ k * (2 * m) + (2 ^ k - 1) := by rw [hm, Nat.mul_add, Nat.mul_one]; omega
  have tb1 : ∀ i, (r - 1).testBit i = (if i < k then true else (2 * m).testBit (i - k)) := fun i => by
    rw [hr1, Nat.testBit_two_pow_mul_add _ (by omega)]
    by_cases hi : i < k
    · rw [if_pos hi, if_pos hi, Nat.testBit_two_pow_sub_one]; simp [hi]
    · rw [if_neg hi, if_neg hi]
  refine ⟨k, hc, hbk, hk, hxk, fun i h1 h2 => ?_, Nat.lt_of_le_of_lt Nat.and_le_left h.lt, fun i => ?_⟩
  · have := h.at_ i
    rw [hlo i h2] at this
    simp at this
    exact this h1
  · rw [Nat.testBit_and, tb1]
    by_cases hi : i < k
    · rw [hlo i hi]; simp; omega
    · rw [if_neg hi]
      by_cases he : i = k
      · subst he; simp; intro h9; omega
      · obtain ⟨d, hd⟩ : ∃ d, i - k = d + 1 := ⟨i - k - 1, by omega⟩
        have e1 : (2 * m).testBit (d + 1) = m.testBit d := by rw [Nat.testBit_succ]; congr 1; omega
        have e2 : r.testBit i = m.testBit d := by
          rw [hm, tb, hd, Nat.testBit_succ, show (2 * m + 1) / 2 = m by omega]
          simp; omega
        have e3 := h.at_ i
        rw [e2] at e3
        rw [hd, e1, e2, e3]
        by_cases hxi : x.testBit i = true
        · simp [hxi]; omega
        · simp [hxi]
theorem Rst.done {x b r : Nat} (h : Rst x b r) (h0 : r = 0) (i : Nat) (hi : b ≤ i) : x.testBit i = false := by
  have := h.at_ i
  rw [h0] at this
  simp at this
  exact this hi
theorem pred_u {r : Nat} (h0 : r ≠ 0) (h : r < 18446744073709551616) : bits BinOp.and IntKind.u64 (r : Int) (IntKind.u64.wrap ((r : Int) - 1)) = ((r &&& (r - 1) : Nat) : Int) := by
  rw [show (r : Int) - 1 = ((r - 1 : Nat) : Int) by omega]
  rw [show IntKind.u64.wrap ((r - 1 : Nat) : Int) = ((r - 1 : Nat) : Int) by unfold IntKind.wrap; simp only [IntKind.bits, IntKind.signed]; first | omega | (simp; omega)]
  exact u64_and_nat r (r - 1) h (by omega)
end
section
attribute [local go_sem] Oper.semAt_some
theorem and_less {r : Nat} (h : r ≠ 0) : r &&& (r - 1) < r := Nat.lt_of_le_of_lt Nat.and_le_right (by omega)
theorem meas_and {r : Nat} (h : r ≠ 0) : (intOf (Value.int IntKind.u64 ((r &&& (r - 1) : Nat) : Int))).toNat < (intOf (Value.int IntKind.u64 (r : Int))).toNat := by
  show (((r &&& (r - 1) : Nat) : Int)).toNat < ((r : Int)).toNat
  rw [Int.toNat_natCast, Int.toNat_natCast]
  exact and_less h
theorem bit1_in (q : Nat) (hq : 1 ≤ q) (l bw : Nat) {w1 : World} (hT : TabZ w1) (x : Nat) (hx : x < 18446744073709551616) (J Jx : List {i : Nat // i < 64} → World → Prop) (W : World) (hJ : AbidesFrom W.heap.size J)
    (hY : ∀ pre y W, J pre W → pre.length < 64 → YieldAt Fence.wide (q - 1) Tryd.prog l #[.int .i64 ((y.1 : Nat) : Int)] W fun e W' =>
      (e = .returned (.bool true) ∧ J (pre ++ [y]) W' ∧ Below w1.heap.size W W') ∨ (e = .returned (.bool false) ∧ Jx (pre ++ [y]) W'))
    (hw : Below w1.heap.size w1 W) (hb : W.cell? ⟨bw, 0, none⟩ = some (.int .u64 (x : Int))) (h0 : J [] W) :
    CallsIn Fence.wide q Tryd.prog 151 #[.func (.yield l) #[] #[], .pointer (some ⟨bw, 0, none⟩)] W fun e W' => (∃ v, e = .returned v) ∧
      ((∃ ys, ys = ptk 64 (fun i => x.testBit i) 64 ∧ J ys W') ∨ (∃ pre, (∃ k, ∃ h : k < 64, x.testBit k = true ∧ pre = ptk 64 (fun i => x.testBit i) k ++ [⟨k, h⟩]) ∧ Jx pre W')) := by
  refine callsIn_of_wp Tryd.func151 rfl trivial ?_ rfl
  simp only [Tryd.ntmps151, List.size_toArray, List.length_cons, List.length_nil, Nat.reduceAdd, Nat.reduceSub, Array.replicate_succ, Array.replicate_zero, List.push_toArray, List.append_toArray, List.nil_append, List.cons_append]
  have HT := Aside.mk hT
  have HJ := Aside.mk hJ
  have HY := Aside.mk hY
  have HW := Aside.mk hw
  have H0 := Aside.mk h0
  have HR0 := Aside.mk (Rst.start hx)
  clear hT hJ hY hw h0 hx
  gi_wp2
  gi_loopw [3] (fun v3 wr => ∃ b r : Nat, b ≤ 64 ∧ v3 = .int .u64 ((r : Nat) : Int) ∧ Aside (Rst x b r) ∧ Aside (J (ptk 64 (fun i => x.testBit i) b) wr) ∧ Aside (Below w1.heap.size w1 wr) ∧ Aside (W.heap.size ≤ wr.heap.size))
    (fun v3 _ => (intOf v3).toNat)
  case atStart => exact ⟨0, x, Nat.zero_le _, rfl, HR0, H0, HW, ⟨Nat.le_refl _⟩⟩
  case round =>
    clear H0 HW HR0 hb
    obtain ⟨b, r, hb64, rfl, HR, H0, HW, HSZ⟩ := hrel
    by_cases hr : r = 0
    · have hpk : ptk 64 (fun i => x.testBit i) 64 = ptk 64 (fun i => x.testBit i) b := by
        obtain ⟨d, hd⟩ : ∃ d, 64 = b + d := ⟨64 - b, by omega⟩
        have e := ptk_gap (m := 64) (p := fun i => x.testBit i) (b := b) d (fun i h1 _ => HR.out.done hr i h1)
        rw [← hd] at e
        exact e
      subst hr
      gi_wp2
      go_end0
      exact ⟨⟨_, rfl⟩, .inl ⟨_, rfl, by rw [hpk]; exact H0.out⟩⟩
    · have dr : ((r : Int) != 0) = true := by simp; omega
      have nr : ¬ (r : Int) = 0 := by omega
      have nr2 : ¬ r = 0 := hr
      obtain ⟨k, hk, hbk, hk64, hxk, hgap, HR2⟩ := HR.out.low hr
      have HL := Aside.mk (low_c HR.out.lt hr (HT.out.below HW.out))
      rw [hk] at HL
      have HPR := Aside.mk (pred_u hr HR.out.lt)
      have HMS := Aside.mk (meas_and hr)
      have HPT : Aside (ptk 64 (fun i => x.testBit i) k = ptk 64 (fun i => x.testBit i) b) := ⟨by
        obtain ⟨d, rfl⟩ : ∃ d, k = b + d := ⟨k - b, by omega⟩
        exact ptk_gap d (fun i h1 h2 => hgap i h1 (by omega))⟩
      have HR3 := Aside.mk HR2
      have HK := Aside.mk hk64
      have HX := Aside.mk hxk
      clear hk hbk hk64 hxk hgap HR2 hb64 hr
      obtain ⟨fn, tmps, assign, body, hy, hR⟩ := HY.out _ ⟨k, HK.out⟩ wr H0.out (Nat.lt_of_le_of_lt (by rw [← HPT.out]; exact ptk_len _ _ _) HK.out)
      gi_wp2_with (refine ⟨trivial, ?_⟩; gi_at_call 152; refine (callsIn_wide.2 HL.out).mono ?_; rintro e w4 ⟨rfl, rfl⟩)
      refine hR.mono ?_
      rintro e W3 (⟨rfl, hJ3, hk1⟩ | ⟨rfl, hJx3⟩)
      · gi_wp2
        simp only [HPR.out]
        go_roundw
        case rel => exact ⟨k + 1, _, HK.out, rfl, HR3, ⟨by rw [ptk_yes HK.out HX.out, HPT.out]; exact hJ3⟩, ⟨HW.out.trans hk1⟩, ⟨Nat.le_trans HSZ.out hk1.size⟩⟩
        case measure => exact HMS.out
      · gi_wp2
        refine bodyPost_ret (results_none rfl _ _ _) rfl ?_
        exact ⟨⟨_, rfl⟩, .inr ⟨_, ⟨k, HK.out, HX.out, by rw [HPT.out]⟩, hJx3⟩⟩
theorem bits_stops (q : Nat) (hq : 1 ≤ q) (bw : Nat) {w1 w : World} (hT : TabZ w1) (x : Nat) (hx : x < 18446744073709551616) (hw : Below w1.heap.size w1 w) (hb : w.cell? ⟨bw, 0, none⟩ = some (.int .u64 (x : Int))) :
    SeqStopsK Fence.wide q Tryd.prog 151 #[.pointer (some ⟨bw, 0, none⟩)] (fun (y : {i : Nat // i < 64}) => #[.int .i64 ((y.1 : Nat) : Int)]) (Below w1.heap.size) (fun ys => ys = ptk 64 (fun i => x.testBit i) 64) (fun pre => ∃ k, ∃ h : k < 64, x.testBit k = true ∧ pre = ptk 64 (fun i => x.testBit i) k ++ [⟨k, h⟩]) 64 w := fun l J Jx W hW hJ _ hY h0 =>
  bit1_in q hq l bw hT x hx J Jx W hJ hY (hw.trans (hW.mono hw.size)) (pw_cell_below hW hb) h0
end
end Go.Proofs.YtelfiegocdjnoaaDoor.Ar
