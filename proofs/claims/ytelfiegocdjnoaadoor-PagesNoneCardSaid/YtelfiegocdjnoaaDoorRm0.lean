/- How many cells of a class aren't allocated: sizes.Starts, sizes.Room, and the document's Free. Conditions: the package's table reads as it was laid. -/
import Derived.Test.YtelfiegocdjnoaaDoorCm0
import Derived.Test.YtelfiegocdjnoaaDoorOb1
import Derived.Test.YtelfiegocdjnoaaDoorRr0
import Derived.Test.YtelfiegocdjnoaaDoorPw
import Derived.Test.YtelfiegocdjnoaaDoorMrF0
namespace Go.Proofs.YtelfiegocdjnoaaDoor.Ar
open Go Go.RowKit Go.Shelf Go.Proofs.YtelfiegocdjnoaaDoor.Sep Go.Proofs.YtelfiegocdjnoaaDoor.Pg Go.Proofs.YtelfiegocdjnoaaDoorW.PrintWords Go.Proofs.YtelfiegocdjnoaaDoorW.PrintLast Go.Proofs.YtelfiegocdjnoaaDoorW.PrintMore Go.Proofs.YtelfiegocdjnoaaDoor.Q
set_option linter.unusedVariables false
set_option linter.unusedSimpArgs false
set_option maxHeartbeats 8000000
set_option maxRecDepth 100000
attribute [local go_sem] Oper.semAt_some
def rm.T6 : Bool × List (List Nat × List Nat) := (true, [([], []), ([], []), ([1], [1]), ([0, 2], [0, 2]), ([3, 0, 1, 2, 3], [3])])
def rm.B6 : List Nat := [0, 0, 2, 7, 15]
theorem rm.tab6 : rtab .any (opsOf Tryd.f164 6) = rm.T6 := by kernel_rfl
theorem rm.bits6 : waitsOk rm.T6.2 rm.B6 = true := by kernel_rfl
/-- The first j places. -/
def fst_ (m : Nat) : Nat → List {x : Nat // x < m}
  | 0 => []
  | j + 1 => if h : j < m then fst_ m j ++ [⟨j, h⟩] else fst_ m j
theorem fst_succ {m j : Nat} (h : j < m) : fst_ m (j + 1) = fst_ m j ++ [⟨j, h⟩] := by rw [fst_, dif_pos h]
theorem fst_len (m : Nat) : ∀ j, (fst_ m j).length ≤ j
  | 0 => by simp [fst_]
  | j + 1 => by
    have := fst_len m j
    rw [fst_]
    split
    · simp; omega
    · omega
theorem starts_ {c : Int} (w : World) : Calls Tryd.prog 176 #[.int .i64 c] w fun e w' => e = .returned (.func (.func 179) #[] #[.pointer (some ⟨w.heap.size, 0, none⟩)]) ∧ w' = w.alloc (.cells #[.int .i64 c] 3) := by
  go_enter Tryd.func176, Tryd.ntmps176
  go_wp2
  go_ret
  exact ⟨rfl, rfl⟩
theorem mul_step {n j a : Nat} (h : a = n * j) : a + n = n * (j + 1) := by rw [h, Nat.mul_succ]
theorem mul_le {n j m : Nat} (hn : 2 ≤ n) (hm : m = 64 / n) : n * (j + 1) ≤ 64 ↔ j < m := by
  rw [hm, Nat.lt_iff_add_one_le, Nat.le_div_iff_mul_le (by omega), Nat.mul_comm]
theorem starts1_in (q : Nat) (hq : 1 ≤ q) (l bc : Nat) {w1 : World} (hT : Tab w1) (c n m : Nat) (hc : c < 8) (hn : szT.getD c 0 = (n : Int)) (h2 : 2 ≤ n) (h32 : n ≤ 32) (hm : m = 64 / n) (J Jx : List {x : Nat // x < m} → World → Prop) (W : World)
    (hY : ∀ pre y W, J pre W → pre.length < m → YieldAt Fence.wide (q - 1) Tryd.prog l #[.int .i64 ((n * y.1 : Nat) : Int)] W fun e W' =>
      (e = .returned (.bool true) ∧ J (pre ++ [y]) W' ∧ Below w1.heap.size W W') ∨ (e = .returned (.bool false) ∧ Jx (pre ++ [y]) W'))
    (hw : Below w1.heap.size w1 W) (hb : W.cell? ⟨bc, 0, none⟩ = some (.int .i64 (c : Int))) (h0 : J [] W) :
    CallsIn Fence.wide q Tryd.prog 179 #[.func (.yield l) #[] #[], .pointer (some ⟨bc, 0, none⟩)] W fun e W' => (∃ v, e = .returned v) ∧
      ((∃ ys, ys = fst_ m m ∧ J ys W') ∨ (∃ pre, True ∧ Jx pre W')) := by
  refine callsIn_of_wp Tryd.func179 rfl trivial ?_ rfl
  simp only [Tryd.ntmps179, List.size_toArray, List.length_cons, List.length_nil, Nat.reduceAdd, Nat.reduceSub, Array.replicate_succ, Array.replicate_zero, List.push_toArray, List.append_toArray, List.nil_append, List.cons_append]
  have HY := Aside.mk hY
  have HW := Aside.mk hw
  have H0 := Aside.mk h0
  have HM := Aside.mk hm
  have H2 := Aside.mk h2
  have H32 := Aside.mk h32
  have tc : W.cell? ⟨0, c, none⟩ = some (.int .i64 (n : Int)) := by rw [← hn]; exact (hT.below hw) c hc
  have hci : (c : Int) < 8 := by omega
  have hci0 : (0 : Int) ≤ (c : Int) := by omega
  clear hT hY hw h0 hm h2 h32 hn
  gi_wp2
  gi_loopw [4] (fun v4 wr => ∃ j a : Nat, j ≤ m ∧ Aside (a = n * j) ∧ v4 = .int .i64 (a : Int) ∧ Aside (J (fst_ m j) wr) ∧ Aside (Below w1.heap.size w1 wr) ∧ Aside (a ≤ 64))
    (fun v4 _ => 200 - (intOf v4).toNat)
  case atStart => exact ⟨0, 0, Nat.zero_le _, ⟨by simp⟩, rfl, H0, HW, ⟨by omega⟩⟩
  case round =>
    clear H0 HW hb tc
    obtain ⟨j, a, hj, HA, rfl, H0, HW, HA64⟩ := hrel
    obtain ⟨b, hbb⟩ : ∃ b, b = n * (j + 1) := ⟨_, rfl⟩
    have hab : a + n = b := by rw [hbb]; exact mul_step HA.out
    have hn64 := H32.out
    have ha64 := HA64.out
    have hw1 : wrap64 ((a : Int) + (n : Int)) = (b : Int) := by unfold wrap64; omega
    by_cases hlt : j < m
    · have hb64 : b ≤ 64 := by rw [hbb]; exact (mul_le H2.out HM.out).2 hlt
      have d0 : decide ((b : Int) ≤ 64) = true := decide_eq_true (by omega)
      have d1 : decide (b ≤ 64) = true := decide_eq_true hb64
      have HLT := Aside.mk hlt
      have hyy := HY.out _ ⟨j, HLT.out⟩ wr H0.out (Nat.lt_of_le_of_lt (fst_len _ _) HLT.out)
      dsimp only at hyy
      rw [← HA.out] at hyy
      obtain ⟨fn, tmps, assign, body, hy, hR⟩ := hyy
      have HB := Aside.mk hbb
      have HAB := Aside.mk hab
      have HN2 := H2.out
      have HB64 := Aside.mk hb64
      clear hbb hab hlt hj hn64 ha64 HN2 hb64
      gi_wp2_with (simp only [hw1])
      refine hR.mono ?_
      rintro e W3 (⟨rfl, hJ3, hk1⟩ | ⟨rfl, hJx3⟩)
      · gi_wp2_with (simp only [hw1])
        go_roundw
        case rel => exact ⟨j + 1, b, HLT.out, HB, by simp only [hw1], ⟨by rw [fst_succ HLT.out]; exact hJ3⟩, ⟨HW.out.trans hk1⟩, HB64⟩
        case measure =>
          have e1 := HAB.out
          have e2 := H2.out
          have e3 := HB64.out
          try simp only [hw1]
          show 200 - ((b : Int)).toNat < 200 - ((a : Int)).toNat
          rw [Int.toNat_natCast, Int.toNat_natCast]
          omega
      · gi_wp2
        refine bodyPost_ret (results_none rfl _ _ _) rfl ?_
        exact ⟨⟨_, rfl⟩, .inr ⟨_, trivial, hJx3⟩⟩
    · have hjm : j = m := by omega
      have d1 : decide (b ≤ 64) = false := decide_eq_false (fun hh => hlt ((mul_le H2.out HM.out).1 (by rw [← hbb]; exact hh)))
      have d0 : decide ((b : Int) ≤ 64) = false := by have := of_decide_eq_false d1; exact decide_eq_false (by omega)
      subst hjm
      clear hbb hab hlt hj hn64 ha64
      gi_wp2_with (simp only [hw1])
      go_end0
      exact ⟨⟨_, rfl⟩, .inl ⟨_, rfl, H0.out⟩⟩
theorem starts_stops (q : Nat) (hq : 1 ≤ q) (bc : Nat) {w1 w : World} (hT : Tab w1) (c n m : Nat) (hc : c < 8) (hn : szT.getD c 0 = (n : Int)) (h2 : 2 ≤ n) (h32 : n ≤ 32) (hm : m = 64 / n) (hw : Below w1.heap.size w1 w) (hb : w.cell? ⟨bc, 0, none⟩ = some (.int .i64 (c : Int))) :
    SeqStopsK Fence.wide q Tryd.prog 179 #[.pointer (some ⟨bc, 0, none⟩)] (fun (y : {i : Nat // i < m}) => #[.int .i64 ((n * y.1 : Nat) : Int)]) (Below w1.heap.size) (fun ys => ys = fst_ m m) (fun pre => True) m w := fun l J Jx W hW hJ _ hY h0 =>
  starts1_in q hq l bc hT c n m hc hn h2 h32 hm J Jx W hY (hw.trans (hW.mono hw.size)) (pw_cell_below hW hb) h0
/-- The bits of such places. -/
def accS {m : Nat} (n : Nat) (pre : List {x : Nat // x < m}) : Nat := pre.foldl (fun a y => a ||| 2 ^ (n * y.1)) 0
theorem accS_snoc {m n : Nat} (pre : List {x : Nat // x < m}) (y : {x : Nat // x < m}) : accS n (pre ++ [y]) = accS n pre ||| 2 ^ (n * y.1) := by simp [accS]
theorem place_lt {n m : Nat} (h2 : 2 ≤ n) (hm : m = 64 / n) (y : {x : Nat // x < m}) : n * y.1 < 64 := by
  have h1 := (mul_le h2 hm).2 y.2
  rw [Nat.mul_succ] at h1
  omega
theorem accS_lt {n m : Nat} (h2 : 2 ≤ n) (hm : m = 64 / n) (pre : List {x : Nat // x < m}) : accS n pre < 18446744073709551616 := by
  have key : ∀ (l : List {x : Nat // x < m}) (a : Nat), a < 2 ^ 64 → l.foldl (fun a y => a ||| 2 ^ (n * y.1)) a < 2 ^ 64 := by
    intro l
    induction l with
    | nil => exact fun a h => h
    | cons y l ih => exact fun a h => ih _ (Nat.or_lt_two_pow h (Nat.pow_lt_pow_right (by decide) (place_lt h2 hm y)))
  exact key pre 0 (by decide)
theorem shl_u {k : Nat} (h : k < 64) : IntKind.u64.wrap ((2 : Int) ^ k) = ((2 ^ k : Nat) : Int) := by
  rw [show ((2 : Int) ^ k) = ((2 ^ k : Nat) : Int) by push_cast; rfl]
  have := Nat.pow_lt_pow_right (show 1 < 2 by decide) h
  generalize 2 ^ k = p at this
  exact wu _ (by omega) (by omega)
theorem starts_c0 (c n m : Nat) (hc : c < 8) (hn : szT.getD c 0 = (n : Int)) (h2 : 2 ≤ n) (h32 : n ≤ 32) (hm : m = 64 / n) {w : World} (hT : Tab w) :
    Calls Tryd.prog 164 #[.int .i64 (c : Int)] w fun e w' => e = .returned (.tuple #[.int .u64 ((accS n (fst_ m m) : Nat) : Int), .int .i64 0]) ∧ Below w.heap.size w w' := by
  refine (callsIn_wide (n := 6)).1 ?_
  refine callsIn_of_wp_marks Tryd.func164 rfl trivial ?_ rfl
  simp only [Tryd.ntmps164, List.size_toArray, List.length_cons, List.length_nil, Nat.reduceAdd, Nat.reduceSub, Array.replicate_succ, Array.replicate_zero, List.push_toArray, List.append_toArray, List.nil_append, List.cons_append]
  have HT := Aside.mk hT
  have HKN : Aside (sizes_known.f (c : Int) = some true) := ⟨by unfold sizes_known.f; rw [if_pos (by omega)]; congr 1; simp; omega⟩
  have HB := Aside.mk (Below.refl w.heap.size w)
  gi_wp2_with (refine ⟨trivial, ?_⟩; first
    | (gi_at_call 146; refine (callsIn_wide.2 (sizes_known.calls _ _ _ HKN.out)).mono ?_; rintro e w1 ⟨rfl, hb⟩; replace HB := Aside.mk (HB.out.trans (hb.below.mono HB.out.size)); clear hb)
    | (gi_at_call 176; refine (callsIn_wide.2 (starts_ _)).mono ?_; rintro e w2 ⟨rfl, rfl⟩))
  obtain ⟨W0, hW0⟩ : ∃ W0, (w1.alloc (.cells #[.int .u64 0] 22)).alloc (.cells #[.int .i64 (c : Int)] 3) = W0 := ⟨_, rfl⟩
  obtain ⟨bw, hbw⟩ : ∃ bw, bw = w1.heap.size := ⟨_, rfl⟩
  have hsz1 : w.heap.size ≤ w1.heap.size := HB.out.size
  have hB0 : Below w.heap.size w W0 := by rw [← hW0]; exact (HB.out.alloc hsz1 _).alloc (by simp; omega) _
  have hsz : W0.heap.size = bw + 2 := by rw [← hW0, hbw]; simp
  have b0 : Boxed W0 bw 22 (.int .u64 ((accS n ([] : List {x : Nat // x < m}) : Nat) : Int)) := by rw [← hW0, hbw]; exact (Boxed.new w1 22 (.int .u64 0)).alloc _
  have b1 : Boxed W0 (bw + 1) 3 (.int .i64 (c : Int)) := by
    rw [← hW0, hbw]
    have := Boxed.new (w1.alloc (.cells #[.int .u64 0] 22)) 3 (.int .i64 (c : Int))
    simpa using this
  rw [hW0]
  rw [← hbw]
  have hbw2 : w.heap.size ≤ bw := by omega
  clear hW0 hbw hsz1 HB
  refine wpIn_rangeFunc_ownG rfl (by decide) (gf := 179) (lb := #[.pointer (some ⟨bw + 1, 0, none⟩)]) rfl trivial (enters_of Tryd.func179 (by kernel_rfl) rfl)
    (starts_stops 5 (by decide) (bw + 1) HT.out c n m hc hn h2 h32 hm hB0 b1.cell) (fun h g => h.trans g) (belowK_b (by omega)) (Below.refl _ _) (fun _ => rfl)
    (fun pre W => (Boxed W bw 22 (.int .u64 ((accS n pre : Nat) : Int)) ∧ Boxed W (bw + 1) 3 (.int .i64 (c : Int))) ∧ Below w.heap.size w W)
    (fun _ _ _ => False)
    (OwnFrom.and (OwnFrom.and (Own.from (boxed_own _ _ _) _) (Own.from (boxed_own _ _ _) _)) (ownFrom_below (Nat.le_refl _) (by omega)))
    (fun _ _ _ _ _ hs _ _ => hs)
    ⟨⟨b0, b1⟩, hB0⟩
    (fun x => { tmps := #[.int .i64 (c : Int), undef, .int .u64 0, .int .i64 0, .pointer (some ⟨bw, 0, none⟩), .int .i64 ((n * x.1 : Nat) : Int), .int .i64 (c : Int), .bool true, .bool false, .int .i64 (c : Int), .func (.func 179) #[] #[.pointer (some ⟨bw + 1, 0, none⟩)], .int .i64 ((n * x.1 : Nat) : Int), undef, undef, undef, undef, undef], defers := [] })
    ?assign ?body ?done ?stop
  case assign =>
    intro l_ x W K hK
    gi_wp2
    exact hK
  case body =>
    rintro l_ pre x W ⟨⟨hv, hb1⟩, hB⟩ hlt
    have e9 := accS_snoc (n := n) pre x
    have e8 := accS_lt h2 hm pre
    have hp := place_lt h2 hm x
    have hsh := shl_u hp
    have hle : Nat.lor (accS n pre) (2 ^ (n * x.1)) < 18446744073709551616 := Nat.or_lt_two_pow (n := 64) e8 (Nat.pow_lt_pow_right (by decide) hp)
    have hor : bits BinOp.or IntKind.u64 ((accS n pre : Nat) : Int) ((2 ^ (n * x.1) : Nat) : Int) = ((accS n (pre ++ [x]) : Nat) : Int) := by
      rw [e9]
      exact u64_or_nat _ _ e8 (Nat.pow_lt_pow_right (by decide) hp)
    have hv2 := hv
    have HOR := Aside.mk hor
    have HSH := Aside.mk hsh
    have hp0 : (0 : Int) ≤ ((n * x.1 : Nat) : Int) := by omega
    generalize hk : n * x.1 = k at hp hp0 HOR HSH ⊢
    generalize hac : accS n pre = ac at hv hv2 HOR ⊢
    have hvd : Boxed W.drew bw 22 (.int .u64 (ac : Int)) := hv
    have hc0 := hvd.cell
    gi_wp2_with fail
    refine roundR_ (m := 5) (K := fun _ W' => KeepsFrom W0.heap.size W W' ∧ Below w.heap.size W W' ∧ (Boxed W' bw 22 (.int .u64 ((accS n (pre ++ [x]) : Nat) : Int)) ∧ Boxed W' (bw + 1) 3 (.int .i64 (c : Int))) ∧ Below w.heap.size w W') (S := fun w' => w'.cell? ⟨bw, 0, none⟩ = some (.int .u64 (ac : Int))) [4] (flg 5 0) (by kernel_rfl) rfl rfl rfl hc0 (fun hHeld => ?_) (fun _ _ h => h)
    refine with_tabW rm.tab6 rm.bits6 (fun HT_ HW_ => ?_)
    refine tk_ (v := ?_) (a' := ?_) 0 (some 12) 1 rfl rfl HT_ HW_ (by kernel_rfl) (.inl ⟨by rfl, ?_⟩) hHeld ?_ ?_; rotate_left 2; (· rintro w' _; go_simp; with_reducible rfl); (· simp only [nrm]; rfl)
    refine pu_ (v := ?_) (a' := ?_) 1 (some 13) 3 rfl rfl HT_ (by kernel_rfl) (.inl ⟨by rfl, ?_⟩) ?_ ?_; rotate_left 2; (· intro w'; go_simp; with_reducible rfl); (· simp only [nrm]; rfl)
    refine pu_ (v := ?_) (a' := ?_) 2 (some 14) 7 rfl rfl HT_ (by kernel_rfl) (.inl ⟨by rfl, ?_⟩) ?_ ?_; rotate_left 2; (· intro w'; go_simp; with_reducible rfl); (· simp only [nrm]; rfl)
    refine pu_ (v := ?_) (a' := ?_) 3 (some 15) 15 rfl rfl HT_ (by kernel_rfl) (.inl ⟨by rfl, ?_⟩) ?_ ?_; rotate_left 2; (· intro w'; go_simp; with_reducible rfl); (· simp only [nrm]; rfl)
    refine last_ (i := 4) (N := none) (flg 5 31) rfl rfl (one_of HT_.out (by kernel_rfl)) (by decide) (fun K hK => ?_)
    refine skip_ (w1 := ?_) (by rfl) rfl ?_ ?_
    rotate_left
    · have x7 := hv.frozen
      go_simp
      rfl
    refine hK.out _ _ ?_
    clear hK K
    refine done_ (done_of HT_.out (by kernel_rfl)) ?_
    clear HT_ HW_ hHeld
    refine only_normal ⟨?_, ?_, ⟨?_, ?_⟩, ?_⟩
    · exact KeepsFrom.of_grownBy (row := some bw) ⟨rfl, rfl, rfl, by simp [World.setCell], fun i hi hne => Below.heap_setCell W.drew ⟨bw, 0, none⟩ _ i (by simpa using hne)⟩ (fun j e => by cases e; omega)
    · exact ((Below.refl w.heap.size W).drew).setCell hbw2 _
    · show Boxed (W.drew.setCell ⟨bw, 0, none⟩ _) bw 22 _
      rw [HSH.out, HOR.out]
      exact hvd.set _
    · exact (show Boxed W.drew (bw + 1) 3 _ from hb1).other (by omega) _
    · exact hB.drew.setCell hbw2 _
  case done =>
    rintro D ys W hD rfl ⟨⟨hv, hb1⟩, hB⟩ hK
    have hc0 := hv.cell
    clear hm hn h2 h32
    gi_wp2
    refine ⟨by simp, .inl ⟨_, _, rfl, run_takeDeferred hK, ?_⟩⟩
    exact ⟨_, results_tmp2 rfl _ _ _, rfl, hB.trans (belowK_b (w := w) (Nat.le_refl _) W D _ _ (by omega) hK rfl rfl)⟩
  case stop =>
    rintro D c pre W _ _ h _
    exact h.elim
/-- The bits where cells begin. -/
def stN (c : Nat) : Nat := (bgn (c : Int)).foldl (fun a i => a ||| 2 ^ i) 0
theorem st8 : ∀ c : Fin 8, ∃ n m : Nat, szT.getD c.val 0 = (n : Int) ∧ 2 ≤ n ∧ n ≤ 32 ∧ m = 64 / n ∧ accS n (fst_ m m) = stN c.val := fun c => ⟨(szT.getD c.val 0).toNat, 64 / (szT.getD c.val 0).toNat, by revert c; decide +kernel⟩
theorem starts_c (c : Nat) (hc : c < 8) {w : World} (hT : Tab w) : Calls Tryd.prog 164 #[.int .i64 (c : Int)] w fun e w' => e = .returned (.tuple #[.int .u64 ((stN c : Nat) : Int), .int .i64 0]) ∧ Below w.heap.size w w' := by
  obtain ⟨n, m, h1, h2, h3, h4, h5⟩ := st8 ⟨c, hc⟩
  have h6 : accS n (fst_ m m) = stN c := h5
  rw [← h6]
  exact starts_c0 c n m hc h1 h2 h3 h4 hT
theorem st_bits : ∀ c : Fin 8, stN c.val < 18446744073709551616 ∧ (List.range 64).filter (fun i => (stN c.val).testBit i) = bgn (c.val : Int) := by decide +kernel
theorem andNot_u {a b : Nat} (hb : b < 18446744073709551616) (i : Nat) (hi : i < 64) : (a &&& (18446744073709551615 - b)).testBit i = (a.testBit i && !b.testBit i) := by
  rw [Nat.testBit_and, show 18446744073709551615 - b = 2 ^ 64 - (b + 1) by omega, Nat.testBit_two_pow_sub_succ (by omega)]
  simp [hi]
theorem room_cnt (c a : Nat) (hc : c < 8) (ha : a < 18446744073709551616) : Pop.cnt 64 (stN c &&& (18446744073709551615 - a)) = room (c : Int) (a : Int) := by
  rw [← Pop.plc_len]
  unfold Pop.plc room frees
  rw [← (st_bits ⟨c, hc⟩).2, List.filter_filter]
  congr 1
  refine List.filter_congr fun i hi => ?_
  rw [andNot_u ha i (List.mem_range.1 hi), Int.toNat_natCast, Bool.and_comm]
theorem room_c {c a : Int} (hc : 0 ≤ c ∧ c < 8) (ha : u64 a) {w : World} (hT : Tab w) : Calls Tryd.prog 123 #[.int .i64 c, .int .u64 a] w fun e w' => e = .returned (.int .i64 ((room c a : Nat) : Int)) ∧ Below w.heap.size w w' := by
  obtain ⟨c, rfl⟩ := Int.eq_ofNat_of_zero_le hc.1
  obtain ⟨a, rfl⟩ := Int.eq_ofNat_of_zero_le ha.1
  have hc8 : c < 8 := by omega
  have ha2 : a < 18446744073709551616 := by have := ha.2; omega
  have hs := (st_bits ⟨c, hc8⟩).1
  have HS := Aside.mk (starts_c c hc8 hT)
  have h1 : word_Ones.f (bits .andNot .u64 ((stN c : Nat) : Int) (a : Int)) = some ((room (c : Int) (a : Int) : Nat) : Int) := by
    rw [u64_andNot _ _ (by omega) (by show ((stN c : Nat) : Int) < _; have : stN c < 18446744073709551616 := hs; omega) (by omega) (by omega), Int.toNat_natCast, Int.toNat_natCast, ← room_cnt c a hc8 ha2]
    exact ones_ _ (Nat.lt_of_le_of_lt Nat.and_le_left hs)
  have HO := Aside.mk h1
  have HB := Aside.mk (Below.refl w.heap.size w)
  clear hT hc ha hc8 ha2 hs h1
  go_enter Tryd.func123, Tryd.ntmps123
  go_wp2_with (first
    | (go_at_call 164; refine HS.out.mono ?_; rintro e w1 ⟨rfl, hb⟩; replace HB := Aside.mk (HB.out.trans hb); clear hb)
    | (go_at_call 157; refine (word_Ones.calls _ _ _ HO.out).mono ?_; rintro e w2 ⟨rfl, hb⟩; replace HB := Aside.mk (HB.out.trans (hb.below.mono HB.out.size)); clear hb))
  go_ret
  exact ⟨rfl, HB.out⟩
end Go.Proofs.YtelfiegocdjnoaaDoor.Ar
