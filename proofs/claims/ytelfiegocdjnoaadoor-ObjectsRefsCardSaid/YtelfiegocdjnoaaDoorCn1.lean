/- A class's fields are looked over: that comes to an end, and touches nothing. Conditions: the fields lie in memory that was there. -/
import Derived.Test.YtelfiegocdjnoaaDoorCn0
import Derived.Deep.CutBlock
import Derived.Test.YtelfiegocdjnoaaDoorMrF0
import Derived.Test.YtelfiegocdjnoaaDoorMrF1
namespace Go.Proofs.YtelfiegocdjnoaaDoor.Ar
open Go Go.RowKit Go.Maps Go.Proofs.YtelfiegocdjnoaaDoor.Sep Go.Proofs.YtelfiegocdjnoaaDoorW.PrintWords Go.Proofs.YtelfiegocdjnoaaDoorW.PrintLast Go.Proofs.YtelfiegocdjnoaaDoorW.PrintMore Go.Proofs.YtelfiegocdjnoaaDoor.Q
set_option linter.unusedVariables false
set_option linter.unusedSimpArgs false
set_option maxHeartbeats 8000000
set_option maxRecDepth 100000
theorem wf_small (c : Int) (h0 : 0 ≤ c) (h1 : c ≤ 1000) : (Lit.int .i64 c).wf = true := by
  simp only [Lit.wf, Bool.and_eq_true, decide_eq_true_eq]
  exact ⟨by show (-9223372036854775808 : Int) ≤ c; omega, by show c ≤ (9223372036854775807 : Int); omega⟩
/-- Which of the first fields are references, as bits. -/
def bitF (fs : List S215) : Nat → Nat
  | 0 => 0
  | i + 1 => bitF fs i ||| (if (rd_T215 fs (i : Int)).f1 = 2 then 2 ^ i else 0)
theorem bitF_lt (fs : List S215) : ∀ i, i ≤ 63 → bitF fs i < 18446744073709551616
  | 0, _ => by simp [bitF]
  | i + 1, h => by
    have h1 := bitF_lt fs i (by omega)
    have h2 : (if (rd_T215 fs (i : Int)).f1 = 2 then 2 ^ i else 0) < 18446744073709551616 := by
      split
      · exact Nat.lt_of_lt_of_le (Nat.pow_lt_pow_right (by decide) (show i < 64 by omega)) (by decide)
      · decide
    have : bitF fs (i + 1) < 2 ^ 64 := Nat.or_lt_two_pow (by simpa using h1) (by simpa using h2)
    simpa using this
theorem bitF_at (fs : List S215) (j : Nat) : ∀ i, (bitF fs i).testBit j = (decide (j < i) && decide ((rd_T215 fs (j : Int)).f1 = 2))
  | 0 => by simp [bitF]
  | i + 1 => by
    rw [bitF, Nat.testBit_or, bitF_at fs j i]
    by_cases hj : j = i
    · subst hj
      by_cases h2 : (rd_T215 fs (j : Int)).f1 = 2
      · rw [if_pos h2, Nat.testBit_two_pow_self]; simp [h2]
      · rw [if_neg h2]; simp [h2]
    · have : (if (rd_T215 fs (i : Int)).f1 = 2 then 2 ^ i else 0).testBit j = false := by
        split
        · rw [Nat.testBit_two_pow]; simp; omega
        · simp
      rw [this, Bool.or_false]
      congr 1
      by_cases h : j < i
      · simp [h]; omega
      · simp [h]; omega
theorem bitF_ref {fs : List S215} {i : Nat} {r : Int} (hi : i < 16) (hr : r = ((bitF fs i : Nat) : Int)) (h2 : (rd_T215 fs (i : Int)).f1 = 2) : bits BinOp.or IntKind.u64 r (IntKind.u64.wrap (2 ^ min i 64)) = ((bitF fs (i + 1) : Nat) : Int) := by
  have e : min i 64 = i := by omega
  have hp : 2 ^ i < 18446744073709551616 := Nat.lt_of_lt_of_le (Nat.pow_lt_pow_right (by decide) (show i < 64 by omega)) (by decide)
  have e2 : ((2 : Int) ^ i) = ((2 ^ i : Nat) : Int) := by push_cast; rfl
  rw [e, e2, bitF, if_pos h2, hr]
  have hb := bitF_lt fs i (by omega)
  generalize 2 ^ i = q at hp
  rw [show IntKind.u64.wrap (q : Int) = (q : Int) by unfold IntKind.wrap; simp only [IntKind.bits, IntKind.signed]; first | omega | (simp; omega)]
  exact u64_or_nat _ _ hb hp
theorem bitF_int {fs : List S215} {i : Nat} (h1 : (rd_T215 fs (i : Int)).f1 = 1) : bitF fs (i + 1) = bitF fs i := by
  rw [bitF, if_neg (by rw [h1]; decide), Nat.or_zero]
theorem fields_ {nm : ByteArray} {A : Option Addr} {cap : Nat} {fs : List S215} {w : World} (hC : Kd.C k215 w A fs.length fs) : Calls Tryd.prog 80 #[.agg #[.string nm, .slice A fs.length cap]] w fun e w' => ∃ r er, e = .returned (.tuple #[.int .u64 r, .int .i64 er]) ∧ (er = 0 → fs.length ≤ 15 ∧ r = ((bitF fs fs.length : Nat) : Int)) ∧ Below w.heap.size w w' := by
  have HC := Aside.mk hC
  have H : Aside (St w (w.alloc (.cells #[.string nm, .slice A fs.length cap] 161 (0, 0))) [blk w.heap.size #[.string nm, .slice A fs.length cap] 161]) := Aside.mk ((St.start w).alloc #[.string nm, .slice A fs.length cap] 161)
  obtain ⟨m, hm⟩ : ∃ m, m = fs.length := ⟨_, rfl⟩
  rw [← hm] at H ⊢
  have HM := Aside.mk hm
  clear hC hm
  by_cases h15 : (m : Int) > 15
  · have d1 : decide ((15 : Int) < (m : Int)) = true := by simp; omega
    have n1 : (15 : Int) < (m : Int) := by omega
    go_enter Tryd.func80, Tryd.ntmps80
    go_wp2
    go_ret2
    exact ⟨0, 3, rfl, (fun h => by cases h), H.out.below⟩
  have HM15 : Aside (m ≤ 15) := ⟨by omega⟩
  have d1 : decide ((15 : Int) < (m : Int)) = false := by simp; omega
  have n1 : ¬ (15 : Int) < (m : Int) := by omega
  clear h15
  go_enter Tryd.func80, Tryd.ntmps80
  go_wp2_with (with_reducible refine stop_at (.makeMap 158 none) rfl ?_)
  refine ⟨?_⟩
  refine makeMap_run rfl rfl ?_
  replace H := Aside.mk (map_made H.out)
  generalize hmb : (World.alloc w _).heap.size = mb at H ⊢
  generalize World.alloc (World.alloc w _) _ = w1 at H ⊢
  clear hmb d1 n1
  have b1 := (H.out.pick 1 rfl).cell 1
  go_upto_block 0 with fail
  go_cut [4, 6, 7, 16, 37, 39] (fun v4 v6 v7 v16 v37 v39 wc => ∃ r : Int, v4 = .int .u64 r ∧ Aside (r = ((bitF fs m : Nat) : Int)) ∧ Aside (Below w.heap.size w wc))
  case first =>
    go_wp2_with fail
    go_loopg [4, 6, 7, 16, 37, 39] (m) (fun q v4 v6 v7 v16 v37 v39 w' => ∃ (i : Nat) (r : Int), q = m - i ∧ i ≤ m ∧ v4 = .int .u64 r ∧ v16 = .int .i64 i ∧ Aside (r = ((bitF fs i : Nat) : Int)) ∧ Aside (St w w' [mapP mb i, blk w.heap.size #[.string nm, .slice A m cap] 161]))
    case atStart => exact ⟨0, 0, rfl, Nat.zero_le _, rfl, rfl, ⟨rfl⟩, H⟩
    case round =>
      clear H b1
      obtain ⟨i, r, rfl, hi, rfl, rfl, HRR, H⟩ := hrel
      by_cases hlt : i < m
      · have dl : decide ((i : Int) < (m : Int)) = true := by simp; omega
        have nl : (i : Int) < (m : Int) := by omega
        obtain ⟨ad, rfl, c0, c1⟩ := at_T215 HC.out (i : Int) (by omega) (by rw [← HM.out]; omega)
        rw [Int.toNat_natCast] at c0 c1
        have e0 := pw_cell_below H.out.below c0
        have e1 := pw_cell_below H.out.below c1
        have HI := Aside.mk hlt
        generalize (rd_T215 fs (i : Int)).f0 = s at e0 e1 c0 c1
        generalize hty : (rd_T215 fs (i : Int)).f1 = ty at e0 e1 c0 c1
        have HTY := Aside.mk hty
        clear hty
        have hi0 : (0 : Int) ≤ (i : Int) := by omega
        clear c0 c1 hi hlt
        go_wp2_with (with_reducible refine stop_at (.store 215 (.tmp 7) (.tmp 20)) rfl ?_)
        replace H := Aside.mk (H.out.alloc #[.string ⟨#[]⟩, .int .i64 0] 215)
        generalize wr.heap.size = fb at H ⊢
        refine ⟨?_⟩
        refine st_store rfl rfl rfl [.string s, .int .i64 ty] #[.string s, .int .i64 ty] rfl rfl rfl (Nat.le_of_ble_eq_true rfl) (by simp [Value.oneCell']) H.out rfl ?_
        intro w2 h_
        replace H : Aside (St w w2 [blk fb #[.string s, .int .i64 ty] 215, mapP mb i, blk w.heap.size #[.string nm, .slice (some ad) m cap] 161]) := Aside.mk h_
        clear h_ e0 e1
        have f0 := H.out.cell 0
        have f1 := H.out.cell 1
        obtain ⟨rn, hrn, hsz⟩ := name_ s
        have HRN := Aside.mk hrn
        clear hrn
        cases rn
        case false =>
          go_wp2_with (go_at_call 79; refine (classes_IsName.calls _ _ _ _ HRN.out).mono ?_; rintro e w3 ⟨rfl, nd, rfl⟩; replace H : Aside (St w (w2.drewN nd) [blk fb #[.string s, .int .i64 ty] 215, mapP mb i, blk w.heap.size #[.string nm, .slice (some ad) m cap] 161]) := Aside.mk (H.out.drewN nd); clear f0 f1)
          go_ret2
          exact ⟨0, 20, rfl, (fun h => by cases h), H.out.below⟩
        case true =>
          have HS : Aside (s.size ≤ maxLen) := ⟨by have := hsz rfl; simp only [maxLen]; omega⟩
          clear hsz
          go_wp2_with (first
            | (go_at_call 79; refine (classes_IsName.calls _ _ _ _ HRN.out).mono ?_; rintro e w3 ⟨rfl, nd, rfl⟩; replace H : Aside (St w (w2.drewN nd) [blk fb #[.string s, .int .i64 ty] 215, mapP mb i, blk w.heap.size #[.string nm, .slice (some ad) m cap] 161]) := Aside.mk (H.out.drewN nd); clear f0 f1; have f0 := H.out.cell 0; have f1 := H.out.cell 1)
            | (with_reducible refine stop_at (.lookup 158 (.tmp 25) (.tmp 27) false) rfl ?_))
          refine ⟨?_⟩
          refine map_look rfl (.tmp 25) (.tmp 27) rfl s HS.out rfl rfl (H.out.pick 1 rfl) ?_
          intro cc
          by_cases hcc : 0 < cc
          · have dc : decide (0 < cc) = true := by simpa using hcc
            go_wp2
            go_ret2
            exact ⟨0, 41, rfl, (fun h => by cases h), H.out.below⟩
          · have dc : decide (0 < cc) = false := by simpa using hcc
            have e9 : wrap64 ((i : Int) + 1) = (i : Int) + 1 := by have := HI.out; have := HM15.out; unfold wrap64; omega
            go_wp2_with (with_reducible refine stop_at (.mapUpdate 158 (.tmp 30) (.tmp 32) (.tmp 34)) rfl ?_)
            refine ⟨?_⟩
            refine map_upd rfl (.tmp 30) (.tmp 32) (.tmp 34) rfl s ((i : Int) + 1) HS.out (wf_small _ (by omega) (by have := HI.out; have := HM15.out; omega)) (by have := HI.out; have := HM15.out; simp only [maxLen]; omega) rfl rfl (by first | rfl | (show Value.int .i64 (wrap64 ((i : Int) + 1)) = _; rw [e9])) (H.out.pick 1 rfl) ?_
            intro w4 h_
            replace H : Aside (St w w4 [blk fb #[.string s, .int .i64 ty] 215, mapP mb (i + 1), blk w.heap.size #[.string nm, .slice (some ad) m cap] 161]) := Aside.mk (h_.order 2 [1, 0] rfl rfl)
            clear h_ f0 f1 dc hcc
            have f1 := H.out.cell 1
            by_cases ht1 : ty = 1
            · have t1 : (ty == 1) = true := by simp [ht1]
              have HR2 : Aside (r = ((bitF fs (i + 1) : Nat) : Int)) := ⟨by rw [bitF_int (by rw [HTY.out, ht1])]; exact HRR.out⟩
              clear ht1
              go_wp2
              go_roundg (m - (i + 1))
              case measure => have := HI.out; omega
              case rel => exact ⟨i + 1, r, rfl, HI.out, rfl, by first | rfl | (rw [e9]; rfl), HR2, ⟨H.out.rest⟩⟩
            · have t1 : (ty == 1) = false := by simp [ht1]
              by_cases ht2 : ty = 2
              · have t2 : (ty == 2) = true := by simp [ht2]
                have HR2 : Aside (bits BinOp.or IntKind.u64 r (IntKind.u64.wrap (2 ^ min i 64)) = ((bitF fs (i + 1) : Nat) : Int)) := ⟨bitF_ref (by have := HI.out; have := HM15.out; omega) HRR.out (by rw [HTY.out, ht2])⟩
                clear ht1 ht2
                go_wp2
                go_roundg (m - (i + 1))
                case measure => have := HI.out; omega
                case rel => exact ⟨i + 1, _, rfl, HI.out, rfl, by first | rfl | (rw [e9]; rfl), ⟨HR2.out⟩, ⟨H.out.rest⟩⟩
              · have t2 : (ty == 2) = false := by simp [ht2]
                clear ht1 ht2
                go_wp2
                go_ret2
                exact ⟨0, 32, rfl, (fun h => by cases h), H.out.below⟩
      · obtain rfl : i = m := by omega
        have dl : decide ((i : Int) < (i : Int)) = false := by simp
        have nl : ¬ (i : Int) < (i : Int) := by omega
        clear hi hlt
        go_wp2
        go_meet
        case rel => exact ⟨r, rfl, HRR, ⟨H.out.below⟩⟩
  case rest =>
    clear H
    obtain ⟨r, rfl, HRR, H⟩ := hcut
    go_wp2
    go_ret2
    exact ⟨r, 0, rfl, (fun _ => ⟨by have := HM15.out; have := HM.out; omega, by have := HRR.out; rw [this, HM.out]⟩), H.out⟩
end Go.Proofs.YtelfiegocdjnoaaDoor.Ar
