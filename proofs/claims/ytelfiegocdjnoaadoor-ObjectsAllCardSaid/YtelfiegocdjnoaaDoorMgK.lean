/- A class's fields are looked over: that comes to an end, and touches nothing. Conditions: the fields lie in memory that was there. -/
import Derived.Test.YtelfiegocdjnoaaDoorCn0
import Derived.Deep.CutBlock
import Derived.Test.YtelfiegocdjnoaaDoorMrF0
import Derived.Test.YtelfiegocdjnoaaDoorMrF2
namespace Go.Proofs.YtelfiegocdjnoaaDoor.Ar
open Go Go.RowKit Go.Maps Go.Proofs.YtelfiegocdjnoaaDoor.Sep Go.Proofs.YtelfiegocdjnoaaDoorW.PrintWords Go.Proofs.YtelfiegocdjnoaaDoorW.PrintLast Go.Proofs.YtelfiegocdjnoaaDoorW.PrintMore Go.Proofs.YtelfiegocdjnoaaDoor.Q
set_option linter.unusedVariables false
set_option linter.unusedSimpArgs false
set_option maxHeartbeats 8000000
set_option maxRecDepth 100000
section
theorem wf_small (c : Int) (h0 : 0 ≤ c) (h1 : c ≤ 1000) : (Lit.int .i64 c).wf = true := by
  simp only [Lit.wf, Bool.and_eq_true, decide_eq_true_eq]
  exact ⟨by show (-9223372036854775808 : Int) ≤ c; omega, by show c ≤ (9223372036854775807 : Int); omega⟩
/-- Which of the first fields are references, as bits. -/
def bitF (fs : List S215) : Nat → Nat
  | 0 => 0
  | i + 1 => bitF fs i ||| (if (rd_T215 fs (i : Int)).f1 = 2 then 2 ^ i else 0)
theorem bitF_lt (fs : List S215) : ∀ i, i ≤ 63 → bitF fs i < 18446744073709551616
  | 0, _ => by simp [bitF]
  | i + 1, h => by
    have h1 := bitF_lt fs i (by omega)
    have h2 : (if (rd_T215 fs (i : Int)).f1 = 2 then 2 ^ i else 0) < 18446744073709551616 := by
      split
      · exact Nat.lt_of_lt_of_le (Nat.pow_lt_pow_right (by decide) (show i < 64 by omega)) (by decide)
      · decide
    have : bitF fs (i + 1) < 2 ^ 64 := Nat.or_lt_two_pow (by simpa using h1) (by simpa using h2)
    simpa using this
theorem bitF_ref {fs : List S215} {i : Nat} {r : Int} (hi : i < 16) (hr : r = ((bitF fs i : Nat) : Int)) (h2 : (rd_T215 fs (i : Int)).f1 = 2) : bits BinOp.or IntKind.u64 r (IntKind.u64.wrap (2 ^ min i 64)) = ((bitF fs (i + 1) : Nat) : Int) := by
  have e : min i 64 = i := by omega
  have hp : 2 ^ i < 18446744073709551616 := Nat.lt_of_lt_of_le (Nat.pow_lt_pow_right (by decide) (show i < 64 by omega)) (by decide)
  have e2 : ((2 : Int) ^ i) = ((2 ^ i : Nat) : Int) := by push_cast; rfl
  rw [e, e2, bitF, if_pos h2, hr]
  have hb := bitF_lt fs i (by omega)
  generalize 2 ^ i = q at hp
  rw [show IntKind.u64.wrap (q : Int) = (q : Int) by unfold IntKind.wrap; simp only [IntKind.bits, IntKind.signed]; first | omega | (simp; omega)]
  exact u64_or_nat _ _ hb hp
theorem bitF_int {fs : List S215} {i : Nat} (h1 : (rd_T215 fs (i : Int)).f1 = 1) : bitF fs (i + 1) = bitF fs i := by
  rw [bitF, if_neg (by rw [h1]; decide), Nat.or_zero]
theorem fields_ {nm : ByteArray} {A : Option Addr} {cap : Nat} {fs : List S215} {w : World} (hC : Kd.C k215 w A fs.length fs) : Calls Tryd.prog 80 #[.agg #[.string nm, .slice A fs.length cap]] w fun e w' => ∃ r er, e = .returned (.tuple #[.int .u64 r, .int .i64 er]) ∧ (er = 0 → fs.length ≤ 15 ∧ r = ((bitF fs fs.length : Nat) : Int)) ∧ Below w.heap.size w w' := by
  have HC := Aside.mk hC
  have H : Aside (St w (w.alloc (.cells #[.string nm, .slice A fs.length cap] 161 (0, 0))) [blk w.heap.size #[.string nm, .slice A fs.length cap] 161]) := Aside.mk ((St.start w).alloc #[.string nm, .slice A fs.length cap] 161)
  obtain ⟨m, hm⟩ : ∃ m, m = fs.length := ⟨_, rfl⟩
  rw [← hm] at H ⊢
  have HM := Aside.mk hm
  clear hC hm
  by_cases h15 : (m : Int) > 15
  · have d1 : decide ((15 : Int) < (m : Int)) = true := by simp; omega
    have n1 : (15 : Int) < (m : Int) := by omega
    go_enter Tryd.func80, Tryd.ntmps80
    go_wp2
    go_ret2
    exact ⟨0, 3, rfl, (fun h => by cases h), H.out.below⟩
  have HM15 : Aside (m ≤ 15) := ⟨by omega⟩
  have d1 : decide ((15 : Int) < (m : Int)) = false := by simp; omega
  have n1 : ¬ (15 : Int) < (m : Int) := by omega
  clear h15
  go_enter Tryd.func80, Tryd.ntmps80
  go_wp2_with (with_reducible refine stop_at (.makeMap 158 none) rfl ?_)
  refine ⟨?_⟩
  refine makeMap_run rfl rfl ?_
  replace H := Aside.mk (map_made H.out)
  generalize hmb : (World.alloc w _).heap.size = mb at H ⊢
  generalize World.alloc (World.alloc w _) _ = w1 at H ⊢
  clear hmb d1 n1
  have b1 := (H.out.pick 1 rfl).cell 1
  go_upto_block 0 with fail
  go_cut [4, 6, 7, 16, 37, 39] (fun v4 v6 v7 v16 v37 v39 wc => ∃ r : Int, v4 = .int .u64 r ∧ Aside (r = ((bitF fs m : Nat) : Int)) ∧ Aside (Below w.heap.size w wc))
  case first =>
    go_wp2_with fail
    go_loopg [4, 6, 7, 16, 37, 39] (m) (fun q v4 v6 v7 v16 v37 v39 w' => ∃ (i : Nat) (r : Int), q = m - i ∧ i ≤ m ∧ v4 = .int .u64 r ∧ v16 = .int .i64 i ∧ Aside (r = ((bitF fs i : Nat) : Int)) ∧ Aside (St w w' [mapP mb i, blk w.heap.size #[.string nm, .slice A m cap] 161]))
    case atStart => exact ⟨0, 0, rfl, Nat.zero_le _, rfl, rfl, ⟨rfl⟩, H⟩
    case round =>
      clear H b1
      obtain ⟨i, r, rfl, hi, rfl, rfl, HRR, H⟩ := hrel
      by_cases hlt : i < m
      · have dl : decide ((i : Int) < (m : Int)) = true := by simp; omega
        have nl : (i : Int) < (m : Int) := by omega
        obtain ⟨ad, rfl, c0, c1⟩ := at_T215 HC.out (i : Int) (by omega) (by rw [← HM.out]; omega)
        rw [Int.toNat_natCast] at c0 c1
        have e0 := pw_cell_below H.out.below c0
        have e1 := pw_cell_below H.out.below c1
        have HI := Aside.mk hlt
        generalize (rd_T215 fs (i : Int)).f0 = s at e0 e1 c0 c1
        generalize hty : (rd_T215 fs (i : Int)).f1 = ty at e0 e1 c0 c1
        have HTY := Aside.mk hty
        clear hty
        have hi0 : (0 : Int) ≤ (i : Int) := by omega
        clear c0 c1 hi hlt
        go_wp2_with (with_reducible refine stop_at (.store 215 (.tmp 7) (.tmp 20)) rfl ?_)
        replace H := Aside.mk (H.out.alloc #[.string ⟨#[]⟩, .int .i64 0] 215)
        generalize wr.heap.size = fb at H ⊢
        refine ⟨?_⟩
        refine st_store rfl rfl rfl [.string s, .int .i64 ty] #[.string s, .int .i64 ty] rfl rfl rfl (Nat.le_of_ble_eq_true rfl) (by simp [Value.oneCell']) H.out rfl ?_
        intro w2 h_
        replace H : Aside (St w w2 [blk fb #[.string s, .int .i64 ty] 215, mapP mb i, blk w.heap.size #[.string nm, .slice (some ad) m cap] 161]) := Aside.mk h_
        clear h_ e0 e1
        have f0 := H.out.cell 0
        have f1 := H.out.cell 1
        obtain ⟨rn, hrn, hsz⟩ := name_ s
        have HRN := Aside.mk hrn
        clear hrn
        cases rn
        case false =>
          go_wp2_with (go_at_call 79; refine (classes_IsName.calls _ _ _ _ HRN.out).mono ?_; rintro e w3 ⟨rfl, nd, rfl⟩; replace H : Aside (St w (w2.drewN nd) [blk fb #[.string s, .int .i64 ty] 215, mapP mb i, blk w.heap.size #[.string nm, .slice (some ad) m cap] 161]) := Aside.mk (H.out.drewN nd); clear f0 f1)
          go_ret2
          exact ⟨0, 20, rfl, (fun h => by cases h), H.out.below⟩
        case true =>
          have HS : Aside (s.size ≤ maxLen) := ⟨by have := hsz rfl; simp only [maxLen]; omega⟩
          clear hsz
          go_wp2_with (first
            | (go_at_call 79; refine (classes_IsName.calls _ _ _ _ HRN.out).mono ?_; rintro e w3 ⟨rfl, nd, rfl⟩; replace H : Aside (St w (w2.drewN nd) [blk fb #[.string s, .int .i64 ty] 215, mapP mb i, blk w.heap.size #[.string nm, .slice (some ad) m cap] 161]) := Aside.mk (H.out.drewN nd); clear f0 f1; have f0 := H.out.cell 0; have f1 := H.out.cell 1)
            | (with_reducible refine stop_at (.lookup 158 (.tmp 25) (.tmp 27) false) rfl ?_))
          refine ⟨?_⟩
          refine map_look rfl (.tmp 25) (.tmp 27) rfl s HS.out rfl rfl (H.out.pick 1 rfl) ?_
          intro cc
          by_cases hcc : 0 < cc
          · have dc : decide (0 < cc) = true := by simpa using hcc
            go_wp2
            go_ret2
            exact ⟨0, 41, rfl, (fun h => by cases h), H.out.below⟩
          · have dc : decide (0 < cc) = false := by simpa using hcc
            have e9 : wrap64 ((i : Int) + 1) = (i : Int) + 1 := by have := HI.out; have := HM15.out; unfold wrap64; omega
            go_wp2_with (with_reducible refine stop_at (.mapUpdate 158 (.tmp 30) (.tmp 32) (.tmp 34)) rfl ?_)
            refine ⟨?_⟩
            refine map_upd rfl (.tmp 30) (.tmp 32) (.tmp 34) rfl s ((i : Int) + 1) HS.out (wf_small _ (by omega) (by have := HI.out; have := HM15.out; omega)) (by have := HI.out; have := HM15.out; simp only [maxLen]; omega) rfl rfl (by first | rfl | (show Value.int .i64 (wrap64 ((i : Int) + 1)) = _; rw [e9])) (H.out.pick 1 rfl) ?_
            intro w4 h_
            replace H : Aside (St w w4 [blk fb #[.string s, .int .i64 ty] 215, mapP mb (i + 1), blk w.heap.size #[.string nm, .slice (some ad) m cap] 161]) := Aside.mk (h_.order 2 [1, 0] rfl rfl)
            clear h_ f0 f1 dc hcc
            have f1 := H.out.cell 1
            by_cases ht1 : ty = 1
            · have t1 : (ty == 1) = true := by simp [ht1]
              have HR2 : Aside (r = ((bitF fs (i + 1) : Nat) : Int)) := ⟨by rw [bitF_int (by rw [HTY.out, ht1])]; exact HRR.out⟩
              clear ht1
              go_wp2
              go_roundg (m - (i + 1))
              case measure => have := HI.out; omega
              case rel => exact ⟨i + 1, r, rfl, HI.out, rfl, by first | rfl | (rw [e9]; rfl), HR2, ⟨H.out.rest⟩⟩
            · have t1 : (ty == 1) = false := by simp [ht1]
              by_cases ht2 : ty = 2
              · have t2 : (ty == 2) = true := by simp [ht2]
                have HR2 : Aside (bits BinOp.or IntKind.u64 r (IntKind.u64.wrap (2 ^ min i 64)) = ((bitF fs (i + 1) : Nat) : Int)) := ⟨bitF_ref (by have := HI.out; have := HM15.out; omega) HRR.out (by rw [HTY.out, ht2])⟩
                clear ht1 ht2
                go_wp2
                go_roundg (m - (i + 1))
                case measure => have := HI.out; omega
                case rel => exact ⟨i + 1, _, rfl, HI.out, rfl, by first | rfl | (rw [e9]; rfl), ⟨HR2.out⟩, ⟨H.out.rest⟩⟩
              · have t2 : (ty == 2) = false := by simp [ht2]
                clear ht1 ht2
                go_wp2
                go_ret2
                exact ⟨0, 32, rfl, (fun h => by cases h), H.out.below⟩
      · obtain rfl : i = m := by omega
        have dl : decide ((i : Int) < (i : Int)) = false := by simp
        have nl : ¬ (i : Int) < (i : Int) := by omega
        clear hi hlt
        go_wp2
        go_meet
        case rel => exact ⟨r, rfl, HRR, ⟨H.out.below⟩⟩
  case rest =>
    clear H
    obtain ⟨r, rfl, HRR, H⟩ := hcut
    go_wp2
    go_ret2
    exact ⟨r, 0, rfl, (fun _ => ⟨by have := HM15.out; have := HM.out; omega, by have := HRR.out; rw [this, HM.out]⟩), H.out⟩
end
section
def nw.T16 : Bool × List (List Nat × List Nat) := (true, [([], []), ([], []), ([], []), ([2], [2]), ([3], [3]), ([4], [4]), ([], []), ([6], [6]), ([7], [7]), ([5, 8, 7], [5, 8]), ([], []), ([10], [10]), ([11], [11]), ([12], [12]), ([], []), ([14], [14]), ([13, 15, 9], [13, 15]), ([0, 0, 2, 3, 4, 5, 6, 7, 8, 9, 13, 16], [0]), ([17, 0, 2, 3, 4, 5, 6, 7, 8, 9, 13, 16], [17]), ([18, 9, 16, 0, 2, 3, 4, 5, 6, 7, 8, 9, 13, 16], [9, 18]), ([1, 0, 1, 2, 3, 4, 5, 6, 7, 8, 9, 10, 11, 12, 13, 14, 15, 16, 17, 18, 19], [1]), ([20, 0, 1, 2, 3, 4, 5, 6, 7, 8, 9, 10, 11, 12, 13, 14, 15, 16, 17, 18, 19], [20]), ([21, 16, 19, 0, 1, 2, 3, 4, 5, 6, 7, 8, 9, 10, 11, 12, 13, 14, 15, 16, 17, 18, 19], [16, 21])])
def nw.B16 : List Nat := [0, 0, 0, 4, 12, 28, 0, 64, 192, 508, 0, 1024, 3072, 7168, 0, 16384, 65532, 131069, 262141, 524285, 1048575, 2097151, 4194303]
theorem nw.tab16 : rtab .any (opsOf Tryd.f22 16) = nw.T16 := by kernel_rfl
theorem nw.bits16 : waitsOk nw.T16.2 nw.B16 = true := by kernel_rfl
theorem info161 : (Tryd.prog.info? 161).map (fun i => (i.zero, i.size, i.bytes)) = some (some (.agg #[.string ⟨#[]⟩, .slice none 0 0]), 2, 40) := by kernel_rfl
theorem blk_cells {w0 w : World} {g : Nat} {cs : Array Value} {t : TypeId} {F : List HP} (h : St w0 w (blk g cs t :: F)) : ∀ (j : Nat) (u : Value), cs.toList[j]? = some u → w.cell? ((⟨g, 0, none⟩ : Addr).add j) = some u := by
  intro j u hj
  have ha : (⟨g, 0, none⟩ : Addr).add j = ⟨g, j, none⟩ := by unfold Addr.add; split <;> simp_all
  rw [ha, h.cell j]
  simpa using hj
theorem copied_ {s : ByteArray} {A : Option Addr} {cap : Nat} {fs : List S215} {w : World} (hC : Kd.C k215 w A fs.length fs) (hcap : fs.length ≤ cap) (h15 : fs.length ≤ 1000000) : Calls Tryd.prog 81 #[.agg #[.string s, .slice A fs.length cap]] w fun e w' => ∃ A' c', e = .returned (.agg #[.string s, .slice A' fs.length c']) ∧ Below w.heap.size w w' := by
  refine (classes_copied.calls s A cap fs s fs w hC hcap (by unfold classes_copied.f; simp only [Option.bind_some, List.length_nil, List.nil_append]; rw [if_pos (by omega)])).mono ?_
  rintro e w' ⟨v, rfl, hR, hb⟩
  obtain ⟨A', c', rfl, _⟩ := hR.2.slice_
  exact ⟨A', c', rfl, hb⟩
abbrev bmC (x : S161) : Int := ((bitF x.f1 x.f1.length : Nat) : Int)
theorem new_m {A : Option Addr} {cap : Nat} {cs : List S161} {w : World} (hC : Kd.C k161 w A cs.length cs) : Calls Tryd.prog 22 #[.slice A cs.length cap] w fun e w' =>
    (∃ i er : Int, er ≠ 0 ∧ e = .returned (.tuple #[.pointer none, .int .i64 i, .int .i64 er]) ∧ Below w.heap.size w w') ∨
    (∃ t vL vM E, e = .returned (.tuple #[.pointer (some ⟨t, 0, none⟩), .int .i64 0, .int .i64 0]) ∧ E.map Cl.n = cs.map (fun x => x.f1.length) ∧ (∀ x ∈ cs, x.f1.length ≤ 15) ∧ St w w' [tbB t vL vM, tbR vL E, row 22 1 vM (cs.map bmC).length (U (cs.map bmC))]) := by
  have HC := Aside.mk hC
  have H : Aside (St w (w.alloc (.cells #[.slice none 0 0, .slice none 0 0] 157 (0, 0))) [tbB w.heap.size (.slice none 0 0) (.slice none 0 0)]) := Aside.mk ((St.start w).alloc #[.slice none 0 0, .slice none 0 0] 157)
  obtain ⟨m, hm⟩ : ∃ m, m = cs.length := ⟨_, rfl⟩
  rw [← hm]
  have HM := Aside.mk hm
  clear hC hm
  by_cases h16 : (16 : Int) < (m : Int)
  · have d1 : decide ((16 : Int) < (m : Int)) = true := by simp; omega
    go_enter Tryd.func22, Tryd.ntmps22
    go_wp2
    go_ret3
    exact .inl ⟨0, 3, by decide, rfl, Below.refl _ _⟩
  have HM16 : Aside (m ≤ 16) := ⟨by omega⟩
  have d1 : decide ((16 : Int) < (m : Int)) = false := by simp; omega
  have n1 : ¬ (16 : Int) < (m : Int) := by omega
  clear h16
  go_enter Tryd.func22, Tryd.ntmps22
  go_wp2_with (with_reducible refine stop_at (.makeMap 158 none) rfl ?_)
  refine ⟨?_⟩
  refine makeMap_run rfl rfl ?_
  replace H := Aside.mk (((map_made H.out).nil_row 22 1).nil_row 161 2)
  generalize hmb : (World.alloc w _).heap.size = mb at H ⊢
  generalize World.alloc (World.alloc w _) _ = w1 at H ⊢
  generalize ht : w.heap.size = t at H ⊢
  clear hmb d1 n1
  replace H : Aside (St w w1 [mapP mb 0, tbB t (.slice none 0 0) (.slice none 0 0), tbR (.slice none 0 0) [], row 22 1 (.slice none 0 0) ([] : List Int).length (U [])]) := Aside.mk (H.out.order 4 [2, 3, 0, 1] rfl rfl)
  go_upto_block 0 with fail
  go_cut [7, 8, 9, 10, 19] (fun v7 v8 v9 v10 v19 wc => ∃ vL vM E, Aside (E.map Cl.n = cs.map (fun x => x.f1.length)) ∧ Aside (∀ x ∈ cs, x.f1.length ≤ 15) ∧ Aside (St w wc [tbB t vL vM, tbR vL E, row 22 1 vM (cs.map bmC).length (U (cs.map bmC))]))
  case first =>
    go_wp2_with fail
    go_loopg [7, 8, 9, 10, 19] (m) (fun q v7 v8 v9 v10 v19 w' => ∃ (i : Nat) (vL vM : Value) (E : List Cl) (ms : List Int), q = m - i ∧ i ≤ m ∧ v19 = .int .i64 i ∧ Aside (E.map Cl.n = (cs.take i).map (fun x => x.f1.length)) ∧ Aside (ms.length = i) ∧ Aside (ms = (cs.take i).map bmC ∧ ∀ x ∈ cs.take i, x.f1.length ≤ 15) ∧ Aside (St w w' [mapP mb i, tbB t vL vM, tbR vL E, row 22 1 vM ms.length (U ms)]))
    case atStart => exact ⟨0, _, _, [], [], rfl, Nat.zero_le _, rfl, ⟨rfl⟩, ⟨rfl⟩, ⟨rfl, by simp⟩, H⟩
    case round =>
      clear H
      obtain ⟨i, vL, vM, E, ms, rfl, hi, rfl, HE, HMS, HMB, H⟩ := hrel
      by_cases hlt : i < m
      · have dl : decide ((i : Int) < (m : Int)) = true := by simp; omega
        have nl : (i : Int) < (m : Int) := by omega
        obtain ⟨ad, A1, c1, rfl, c0, c1_, hcap, hF⟩ := at_T161 HC.out (i : Int) (by omega) (by rw [← HM.out]; omega)
        rw [Int.toNat_natCast] at c0 c1_
        have e0 := pw_cell_below H.out.below c0
        have e1 := pw_cell_below H.out.below c1_
        have HI := Aside.mk hlt
        have HFC := Aside.mk hF
        have HCP := Aside.mk hcap
        have HTK : Aside ((cs.take (i + 1)).map (fun x => x.f1.length) = (cs.take i).map (fun x => x.f1.length) ++ [(rd_T161 cs (i : Int)).f1.length]) := ⟨by
          have hil : i < cs.length := by rw [← HM.out]; exact hlt
          rw [← List.take_append_getElem hil, List.map_append]
          simp [rd_T161, List.getD_eq_getElem?_getD, hil]⟩
        have HTB : Aside ((cs.take (i + 1)).map bmC = (cs.take i).map bmC ++ [((bitF (rd_T161 cs (i : Int)).f1 (rd_T161 cs (i : Int)).f1.length : Nat) : Int)] ∧ ∀ x ∈ cs.take (i + 1), x ∈ cs.take i ∨ x.f1 = (rd_T161 cs (i : Int)).f1) := ⟨by
          have hil : i < cs.length := by rw [← HM.out]; exact hlt
          have er : rd_T161 cs (i : Int) = cs[i] := by simp [rd_T161, List.getD_eq_getElem?_getD, hil]
          rw [← List.take_append_getElem hil, List.map_append, er]
          refine ⟨rfl, fun x hx => ?_⟩
          rcases List.mem_append.1 hx with hx | hx
          · exact .inl hx
          · rw [List.mem_singleton] at hx; subst hx; exact .inr rfl⟩
        generalize (rd_T161 cs (i : Int)).f0 = s at e0 c0
        generalize (rd_T161 cs (i : Int)).f1 = fs at e1 c1_ HFC HCP HTK HTB
        have hi0 : (0 : Int) ≤ (i : Int) := by omega
        clear c0 c1_ hi hlt hcap hF
        go_wp2_with (with_reducible refine stop_at (.store 161 (.tmp 8) (.tmp 23)) rfl ?_)
        replace H := Aside.mk (H.out.alloc #[.string ⟨#[]⟩, .slice none 0 0] 161)
        generalize wr.heap.size = cb at H ⊢
        refine ⟨?_⟩
        refine st_store rfl rfl rfl [.string s, .slice A1 fs.length c1] #[.string s, .slice A1 fs.length c1] rfl rfl rfl (Nat.le_of_ble_eq_true rfl) (by simp [Value.oneCell']) H.out rfl ?_
        intro w2 h_
        replace H : Aside (St w w2 [blk cb #[.string s, .slice A1 fs.length c1] 161, mapP mb i, tbB t vL vM, tbR vL E, row 22 1 vM ms.length (U ms)]) := Aside.mk h_
        clear h_ e0 e1
        have f0 := H.out.cell 0
        obtain ⟨rn, hrn, hsz⟩ := name_ s
        have HRN := Aside.mk hrn
        clear hrn
        cases rn
        case false =>
          go_wp2_with (go_at_call 79; refine (classes_IsName.calls _ _ _ _ HRN.out).mono ?_; rintro e w3 ⟨rfl, nd, rfl⟩; replace H : Aside (St w (w2.drewN nd) [blk cb #[.string s, .slice A1 fs.length c1] 161, mapP mb i, tbB t vL vM, tbR vL E, row 22 1 vM ms.length (U ms)]) := Aside.mk (H.out.drewN nd); clear f0)
          go_ret3
          exact .inl ⟨_, 20, by decide, rfl, H.out.below⟩
        case true =>
          have HS : Aside (s.size ≤ maxLen) := ⟨by have := hsz rfl; simp only [maxLen]; omega⟩
          clear hsz
          go_wp2_with (first
            | (go_at_call 79; refine (classes_IsName.calls _ _ _ _ HRN.out).mono ?_; rintro e w3 ⟨rfl, nd, rfl⟩; replace H : Aside (St w (w2.drewN nd) [blk cb #[.string s, .slice A1 fs.length c1] 161, mapP mb i, tbB t vL vM, tbR vL E, row 22 1 vM ms.length (U ms)]) := Aside.mk (H.out.drewN nd); clear f0; have f0 := H.out.cell 0)
            | (with_reducible refine stop_at (.lookup 158 (.tmp 29) (.tmp 31) false) rfl ?_))
          refine ⟨?_⟩
          refine map_look rfl (.tmp 29) (.tmp 31) rfl s HS.out rfl rfl (H.out.pick 1 rfl) ?_
          intro cc
          by_cases hcc : 0 < cc
          · have dc : decide (0 < cc) = true := by simpa using hcc
            go_wp2
            go_ret3
            exact .inl ⟨_, 41, by decide, rfl, H.out.below⟩
          · have dc : decide (0 < cc) = false := by simpa using hcc
            have e9 : wrap64 ((i : Int) + 1) = (i : Int) + 1 := by have := HI.out; have := HM16.out; unfold wrap64; omega
            go_wp2_with (with_reducible refine stop_at (.mapUpdate 158 (.tmp 35) (.tmp 37) (.tmp 39)) rfl ?_)
            refine ⟨?_⟩
            refine map_upd rfl (.tmp 35) (.tmp 37) (.tmp 39) rfl s ((i : Int) + 1) HS.out (wf_small _ (by omega) (by have := HI.out; have := HM16.out; omega)) (by have := HI.out; have := HM16.out; simp only [maxLen]; omega) rfl rfl (by first | rfl | (show Value.int .i64 (wrap64 ((i : Int) + 1)) = _; rw [e9])) (H.out.pick 1 rfl) ?_
            intro w4 h_
            replace H : Aside (St w w4 [blk cb #[.string s, .slice A1 fs.length c1] 161, mapP mb (i + 1), tbB t vL vM, tbR vL E, row 22 1 vM ms.length (U ms)]) := Aside.mk (h_.order 2 [1, 0] rfl rfl)
            clear h_ f0 dc hcc
            have f0 := H.out.cell 0
            have f1 := H.out.cell 1
            go_upto_region 14 with (go_at_call 80; refine (fields_ (Kd.C_below HFC.out H.out.below)).mono ?_; rintro e w5 ⟨rm, er, rfl, hfl, hb⟩; have HFL := Aside.mk hfl; clear hfl; replace H := Aside.mk (H.out.step hb); clear hb f0 f1)
            by_cases her : er = 0
            case neg =>
              have de : (er != 0) = true := by simp [her]
              go_wp2
              go_ret3
              exact .inl ⟨_, er, her, rfl, H.out.below⟩
            case pos =>
              subst her
              have HF15 : Aside (fs.length ≤ 1000000) := ⟨by have := (HFL.out rfl).1; omega⟩
              have HEL : Aside (E.length = i) := ⟨by have h := congrArg List.length HE.out; rw [List.length_map, List.length_map, List.length_take] at h; have := HI.out; have := HM.out; omega⟩
              go_wp2_with fail
              replace H := Aside.mk H.out.drew
              refine start_ (n := 23) (S := fun w' => w'.cell? ⟨cb, 0, none⟩ = some (.string s) ∧ w'.cell? ⟨cb, 1, none⟩ = some (.slice A1 fs.length c1) ∧ w'.cell? ⟨t, 0, none⟩ = some vL ∧ w'.cell? ⟨t, 1, none⟩ = some vM) (ds := [19, 22]) (flg 23 0) (by kernel_rfl) rfl rfl (⟨H.out.cell 0, H.out.cell 1, (H.out.pick 2 rfl).cell 0, (H.out.pick 2 rfl).cell 1⟩) (fun hHeld => ?_)
              refine with_tabW nw.tab16 nw.bits16 (fun HT_ HW_ => ?_)
              refine pu_ (v := ?_) (a' := ?_) 0 (some 49) 1 rfl rfl HT_ (by kernel_rfl) (.inl ⟨by rfl, ?_⟩) ?_ ?_; rotate_left 2; (· intro w'; go_simp; with_reducible rfl); (· simp only [nrm]; rfl)
              refine pu_ (v := ?_) (a' := ?_) 1 (some 50) 3 rfl rfl HT_ (by kernel_rfl) (.inl ⟨by rfl, ?_⟩) ?_ ?_; rotate_left 2; (· intro w'; go_simp; with_reducible rfl); (· simp only [nrm]; rfl)
              refine pu_ (v := ?_) (a' := ?_) 2 (some 51) 7 rfl rfl HT_ (by kernel_rfl) (.inl ⟨by rfl, ?_⟩) ?_ ?_; rotate_left 2; (· intro w'; go_simp; with_reducible rfl); (· simp only [nrm]; rfl)
              refine pu_ (v := ?_) (a' := ?_) 3 (some 52) 15 rfl rfl HT_ (by kernel_rfl) (.inl ⟨by rfl, ?_⟩) ?_ ?_; rotate_left 2; (· intro w'; go_simp; with_reducible rfl); (· simp only [nrm]; rfl)
              refine pu_ (v := ?_) (a' := ?_) 4 (some 53) 31 rfl rfl HT_ (by kernel_rfl) (.inl ⟨by rfl, ?_⟩) ?_ ?_; rotate_left 2; (· intro w'; go_simp; with_reducible rfl); (· simp only [nrm]; rfl)
              refine tk_ (v := ?_) (a' := ?_) 5 (some 54) 63 rfl rfl HT_ HW_ (by kernel_rfl) (.inl ⟨by rfl, ?_⟩) hHeld ?_ ?_; rotate_left 2; (· rintro w' ⟨_, _, _, _⟩; go_simp; with_reducible rfl); (· simp only [nrm]; rfl)
              refine tk_ (v := ?_) (a' := ?_) 6 (some 55) 127 rfl rfl HT_ HW_ (by kernel_rfl) (.inl ⟨by rfl, ?_⟩) hHeld ?_ ?_; rotate_left 2; (· rintro w' ⟨_, _, _, _⟩; go_simp; with_reducible rfl); (· simp only [nrm]; rfl)
              refine pu_ (v := ?_) (a' := ?_) 10 (some 59) 1151 rfl rfl HT_ (by kernel_rfl) (.inl ⟨by rfl, ?_⟩) ?_ ?_; rotate_left 2; (· intro w'; go_simp; with_reducible rfl); (· simp only [nrm]; rfl)
              refine pu_ (v := ?_) (a' := ?_) 11 (some 60) 3199 rfl rfl HT_ (by kernel_rfl) (.inl ⟨by rfl, ?_⟩) ?_ ?_; rotate_left 2; (· intro w'; go_simp; with_reducible rfl); (· simp only [nrm]; rfl)
              refine pu_ (v := ?_) (a' := ?_) 12 (some 61) 7295 rfl rfl HT_ (by kernel_rfl) (.inl ⟨by rfl, ?_⟩) ?_ ?_; rotate_left 2; (· intro w'; go_simp; with_reducible rfl); (· simp only [nrm]; rfl)
              refine tk_ (v := ?_) (a' := ?_) 13 (some 62) 15487 rfl rfl HT_ HW_ (by kernel_rfl) (.inl ⟨by rfl, ?_⟩) hHeld ?_ ?_; rotate_left 2; (· rintro w' ⟨_, _, _, _⟩; go_simp; with_reducible rfl); (· simp only [nrm]; rfl)
              refine pu_ (v := ?_) (a' := ?_) 14 (some 63) 31871 rfl rfl HT_ (by kernel_rfl) (.inl ⟨by rfl, ?_⟩) ?_ ?_; rotate_left 2; (· intro w'; go_simp; with_reducible rfl); (· simp only [nrm]; rfl)
              refine join_ (σ := Nat × Nat × Option Addr × Nat × Option Addr × Nat) 7 (flg 23 65535) (fun g_ => [(56, .agg #[.string s, .slice g_.2.2.1 fs.length g_.2.2.2.1]), (57, .slice (some ⟨g_.1, 0, none⟩) 1 1), (58, .slice g_.2.2.2.2.1 (E.length + 1) g_.2.2.2.2.2), (64, .slice (some ⟨g_.2.1, 0, none⟩) 1 1)]) (fun g_ w' => (w'.cell? ⟨cb, 0, none⟩ = some (.string s) ∧ w'.cell? ⟨cb, 1, none⟩ = some (.slice A1 fs.length c1) ∧ w'.cell? ⟨t, 0, none⟩ = some vL ∧ w'.cell? ⟨t, 1, none⟩ = some vM) ∧ St w w' (blk g_.1 #[.string s, .slice g_.2.2.1 fs.length g_.2.2.2.1] 161 :: blk g_.2.1 #[.int .u64 rm] 22 :: blk cb #[.string s, .slice A1 fs.length c1] 161 :: mapP mb (i + 1) :: tbB t vL vM :: row 161 2 (.slice g_.2.2.2.2.1 (E.length + 1) g_.2.2.2.2.2) (E.length + 1) (tbX E ++ [.string s, .slice g_.2.2.1 fs.length g_.2.2.2.1]) :: [row 22 1 vM ms.length (U ms)])) ?_ ?_
              rotate_left
              · intro hjoin
                simp only [putAll, nrm] at hjoin
                refine two_ (i := 7) (j := 15) (Ni := some 56) (Nj := some 64) (flg 23 31999) (flg 23 64639) rfl rfl rfl rfl (two_of HT_.out (by kernel_rfl)) (by decide) (by decide) (fun K hK => ?_) (fun K hK => ?_)
                · refine goes_ Tryd.func81 (by kernel_rfl) rfl #[.agg #[.string s, .slice A1 fs.length c1]] (by rfl) rfl rfl (by (try simp only [List.map_toArray, List.map_cons, List.map_nil]); first | done | rfl) ?_
                  refine (copied_ (Kd.C_below HFC.out H.out.below) HCP.out HF15.out).mono ?_
                  rintro e w9 ⟨A2, c2, rfl, hb⟩
                  replace H := Aside.mk (H.out.step hb)
                  clear hb
                  refine ⟨_, rfl, ?_⟩
                  refine hK.out _ _ ⟨H.out.cell 0, H.out.cell 1, (H.out.pick 2 rfl).cell 0, (H.out.pick 2 rfl).cell 1⟩ (fun hHeld => ?_)
                  clear hK K
                  refine norm_ (a' := ?_) ?_ ?_
                  rotate_left
                  · show Act.put _ (some 56) _ = _
                    simp only [nrm]
                    rfl
                  refine two_ (i := 8) (j := 15) (Ni := some 57) (Nj := some 64) (flg 23 32255) (flg 23 64767) rfl rfl rfl rfl (two_of HT_.out (by kernel_rfl)) (by decide) (by decide) (fun K hK => ?_) (fun K hK => ?_)
                  · refine value_ (w1 := ?_) (v := ?_) (by rfl) rfl ?_ ?_
                    rotate_left 2
                    · go_simp
                      constructor
                      · rfl
                      · rfl
                    replace H := Aside.mk (H.out.alloc #[.string s, .slice A2 fs.length c2] 161)
                    refine hK.out _ _ ⟨(H.out.pick 1 rfl).cell 0, (H.out.pick 1 rfl).cell 1, (H.out.pick 3 rfl).cell 0, (H.out.pick 3 rfl).cell 1⟩ (fun hHeld => ?_)
                    clear hK K
                    refine norm_ (a' := ?_) ?_ ?_
                    rotate_left
                    · show Act.put _ (some 57) _ = _
                      simp only [nrm]
                      rfl
                    refine two_ (i := 9) (j := 15) (Ni := some 58) (Nj := some 64) (flg 23 32767) (flg 23 65023) rfl rfl rfl rfl (two_of HT_.out (by kernel_rfl)) (by decide) (by decide) (fun K hK => ?_) (fun K hK => ?_)
                    · have hz := H.out
                      try simp only [World.size_alloc] at hz
                      replace H := Aside.mk hz
                      clear hz
                      refine append_run_step rfl (.tmp 54) (.tmp 57) 51 161 (.agg #[.string ⟨#[]⟩, .slice none 0 0]) 2 40 rfl Tryd.underlying51 info161 rfl (by decide) (by decide) vL E.length (tbX E) rfl ⟨_, 0, none⟩ 1 1 [.string s, .slice A2 fs.length c2] rfl rfl (blk_cells H.out) (by simp [Value.oneCell']) (H.out.pick 4 rfl) (by have := HEL.out; have := HM16.out; have := HI.out; omega) ?_
                      intro A3 c3 w11 hc3 h9
                      replace H := Aside.mk (h9.order 5 [1, 2, 3, 4, 0] rfl rfl)
                      clear h9 hc3
                      refine hK.out _ _ ⟨(H.out.pick 1 rfl).cell 0, (H.out.pick 1 rfl).cell 1, (H.out.pick 3 rfl).cell 0, (H.out.pick 3 rfl).cell 1⟩ (fun hHeld => ?_)
                      clear hK K
                      refine norm_ (a' := ?_) ?_ ?_
                      rotate_left
                      · show Act.put _ (some 58) _ = _
                        simp only [nrm]
                        rfl
                      refine on_ 15 (some 64) 65535 rfl rfl HT_ (by kernel_rfl) (by decide) (fun K hK => ?_)
                      refine value_ (w1 := ?_) (v := ?_) (by rfl) rfl ?_ ?_
                      rotate_left 2
                      · go_simp
                        constructor
                        · rfl
                        · rfl
                      replace H := Aside.mk (H.out.alloc #[.int .u64 rm] 22)
                      refine hK.out _ _ ⟨(H.out.pick 2 rfl).cell 0, (H.out.pick 2 rfl).cell 1, (H.out.pick 4 rfl).cell 0, (H.out.pick 4 rfl).cell 1⟩ (fun hHeld => ?_)
                      clear hK K
                      refine norm_ (a' := ?_) ?_ ?_
                      rotate_left
                      · show Act.put _ (some 64) _ = _
                        simp only [nrm]
                        rfl
                      have h9 := H.out.perm (.swap _ _ _)
                      exact hjoin (_, _, _, _, _, _) _ ⟨hHeld, by simp at h9 ⊢; exact h9⟩
                    · refine value_ (w1 := ?_) (v := ?_) (by rfl) rfl ?_ ?_
                      rotate_left 2
                      · go_simp
                        constructor
                        · rfl
                        · rfl
                      replace H := Aside.mk (H.out.alloc #[.int .u64 rm] 22)
                      refine hK.out _ _ ⟨(H.out.pick 2 rfl).cell 0, (H.out.pick 2 rfl).cell 1, (H.out.pick 4 rfl).cell 0, (H.out.pick 4 rfl).cell 1⟩ (fun hHeld => ?_)
                      clear hK K
                      refine norm_ (a' := ?_) ?_ ?_
                      rotate_left
                      · show Act.put _ (some 64) _ = _
                        simp only [nrm]
                        rfl
                      refine on_ 9 (some 58) 65535 rfl rfl HT_ (by kernel_rfl) (by decide) (fun K hK => ?_)
                      have hz := H.out
                      try simp only [World.size_alloc] at hz
                      replace H := Aside.mk hz
                      clear hz
                      refine append_run_step rfl (.tmp 54) (.tmp 57) 51 161 (.agg #[.string ⟨#[]⟩, .slice none 0 0]) 2 40 rfl Tryd.underlying51 info161 rfl (by decide) (by decide) vL E.length (tbX E) rfl ⟨_, 0, none⟩ 1 1 [.string s, .slice A2 fs.length c2] rfl rfl (blk_cells (H.out.pick 1 rfl)) (by simp [Value.oneCell']) (H.out.pick 5 rfl) (by have := HEL.out; have := HM16.out; have := HI.out; omega) ?_
                      intro A3 c3 w11 hc3 h9
                      replace H := Aside.mk (h9.order 6 [2, 1, 3, 4, 5, 0] rfl rfl)
                      clear h9 hc3
                      refine hK.out _ _ ⟨(H.out.pick 2 rfl).cell 0, (H.out.pick 2 rfl).cell 1, (H.out.pick 4 rfl).cell 0, (H.out.pick 4 rfl).cell 1⟩ (fun hHeld => ?_)
                      clear hK K
                      refine norm_ (a' := ?_) ?_ ?_
                      rotate_left
                      · show Act.put _ (some 58) _ = _
                        simp only [nrm]
                        rfl
                      have h9 := H.out
                      exact hjoin (_, _, _, _, _, _) _ ⟨hHeld, by simp at h9 ⊢; exact h9⟩
                  · refine value_ (w1 := ?_) (v := ?_) (by rfl) rfl ?_ ?_
                    rotate_left 2
                    · go_simp
                      constructor
                      · rfl
                      · rfl
                    replace H := Aside.mk (H.out.alloc #[.int .u64 rm] 22)
                    refine hK.out _ _ ⟨(H.out.pick 1 rfl).cell 0, (H.out.pick 1 rfl).cell 1, (H.out.pick 3 rfl).cell 0, (H.out.pick 3 rfl).cell 1⟩ (fun hHeld => ?_)
                    clear hK K
                    refine norm_ (a' := ?_) ?_ ?_
                    rotate_left
                    · show Act.put _ (some 64) _ = _
                      simp only [nrm]
                      rfl
                    refine on_ 8 (some 57) 65023 rfl rfl HT_ (by kernel_rfl) (by decide) (fun K hK => ?_)
                    refine value_ (w1 := ?_) (v := ?_) (by rfl) rfl ?_ ?_
                    rotate_left 2
                    · go_simp
                      constructor
                      · rfl
                      · rfl
                    replace H := Aside.mk (H.out.alloc #[.string s, .slice A2 fs.length c2] 161)
                    refine hK.out _ _ ⟨(H.out.pick 2 rfl).cell 0, (H.out.pick 2 rfl).cell 1, (H.out.pick 4 rfl).cell 0, (H.out.pick 4 rfl).cell 1⟩ (fun hHeld => ?_)
                    clear hK K
                    refine norm_ (a' := ?_) ?_ ?_
                    rotate_left
                    · show Act.put _ (some 57) _ = _
                      simp only [nrm]
                      rfl
                    refine on_ 9 (some 58) 65535 rfl rfl HT_ (by kernel_rfl) (by decide) (fun K hK => ?_)
                    have hz := H.out
                    try simp only [World.size_alloc] at hz
                    replace H := Aside.mk hz
                    clear hz
                    refine append_run_step rfl (.tmp 54) (.tmp 57) 51 161 (.agg #[.string ⟨#[]⟩, .slice none 0 0]) 2 40 rfl Tryd.underlying51 info161 rfl (by decide) (by decide) vL E.length (tbX E) rfl ⟨_, 0, none⟩ 1 1 [.string s, .slice A2 fs.length c2] rfl rfl (blk_cells H.out) (by simp [Value.oneCell']) (H.out.pick 5 rfl) (by have := HEL.out; have := HM16.out; have := HI.out; omega) ?_
                    intro A3 c3 w11 hc3 h9
                    replace H := Aside.mk (h9.order 6 [1, 2, 3, 4, 5, 0] rfl rfl)
                    clear h9 hc3
                    refine hK.out _ _ ⟨(H.out.pick 2 rfl).cell 0, (H.out.pick 2 rfl).cell 1, (H.out.pick 4 rfl).cell 0, (H.out.pick 4 rfl).cell 1⟩ (fun hHeld => ?_)
                    clear hK K
                    refine norm_ (a' := ?_) ?_ ?_
                    rotate_left
                    · show Act.put _ (some 58) _ = _
                      simp only [nrm]
                      rfl
                    have h9 := H.out
                    exact hjoin (_, _, _, _, _, _) _ ⟨hHeld, by simp at h9 ⊢; exact h9⟩
                · refine value_ (w1 := ?_) (v := ?_) (by rfl) rfl ?_ ?_
                  rotate_left 2
                  · go_simp
                    constructor
                    · rfl
                    · rfl
                  replace H := Aside.mk (H.out.alloc #[.int .u64 rm] 22)
                  refine hK.out _ _ ⟨(H.out.pick 1 rfl).cell 0, (H.out.pick 1 rfl).cell 1, (H.out.pick 3 rfl).cell 0, (H.out.pick 3 rfl).cell 1⟩ (fun hHeld => ?_)
                  clear hK K
                  refine norm_ (a' := ?_) ?_ ?_
                  rotate_left
                  · show Act.put _ (some 64) _ = _
                    simp only [nrm]
                    rfl
                  refine on_ 7 (some 56) 64767 rfl rfl HT_ (by kernel_rfl) (by decide) (fun K hK => ?_)
                  refine goes_ Tryd.func81 (by kernel_rfl) rfl #[.agg #[.string s, .slice A1 fs.length c1]] (by rfl) rfl rfl (by (try simp only [List.map_toArray, List.map_cons, List.map_nil]); first | done | rfl) ?_
                  refine (copied_ (Kd.C_below HFC.out H.out.below) HCP.out HF15.out).mono ?_
                  rintro e w9 ⟨A2, c2, rfl, hb⟩
                  replace H := Aside.mk (H.out.step hb)
                  clear hb
                  refine ⟨_, rfl, ?_⟩
                  refine hK.out _ _ ⟨(H.out.pick 1 rfl).cell 0, (H.out.pick 1 rfl).cell 1, (H.out.pick 3 rfl).cell 0, (H.out.pick 3 rfl).cell 1⟩ (fun hHeld => ?_)
                  clear hK K
                  refine norm_ (a' := ?_) ?_ ?_
                  rotate_left
                  · show Act.put _ (some 56) _ = _
                    simp only [nrm]
                    rfl
                  refine on_ 8 (some 57) 65023 rfl rfl HT_ (by kernel_rfl) (by decide) (fun K hK => ?_)
                  refine value_ (w1 := ?_) (v := ?_) (by rfl) rfl ?_ ?_
                  rotate_left 2
                  · go_simp
                    constructor
                    · rfl
                    · rfl
                  replace H := Aside.mk (H.out.alloc #[.string s, .slice A2 fs.length c2] 161)
                  refine hK.out _ _ ⟨(H.out.pick 2 rfl).cell 0, (H.out.pick 2 rfl).cell 1, (H.out.pick 4 rfl).cell 0, (H.out.pick 4 rfl).cell 1⟩ (fun hHeld => ?_)
                  clear hK K
                  refine norm_ (a' := ?_) ?_ ?_
                  rotate_left
                  · show Act.put _ (some 57) _ = _
                    simp only [nrm]
                    rfl
                  refine on_ 9 (some 58) 65535 rfl rfl HT_ (by kernel_rfl) (by decide) (fun K hK => ?_)
                  have hz := H.out
                  try simp only [World.size_alloc] at hz
                  replace H := Aside.mk hz
                  clear hz
                  refine append_run_step rfl (.tmp 54) (.tmp 57) 51 161 (.agg #[.string ⟨#[]⟩, .slice none 0 0]) 2 40 rfl Tryd.underlying51 info161 rfl (by decide) (by decide) vL E.length (tbX E) rfl ⟨_, 0, none⟩ 1 1 [.string s, .slice A2 fs.length c2] rfl rfl (blk_cells H.out) (by simp [Value.oneCell']) (H.out.pick 5 rfl) (by have := HEL.out; have := HM16.out; have := HI.out; omega) ?_
                  intro A3 c3 w11 hc3 h9
                  replace H := Aside.mk (h9.order 6 [1, 2, 3, 4, 5, 0] rfl rfl)
                  clear h9 hc3
                  refine hK.out _ _ ⟨(H.out.pick 2 rfl).cell 0, (H.out.pick 2 rfl).cell 1, (H.out.pick 4 rfl).cell 0, (H.out.pick 4 rfl).cell 1⟩ (fun hHeld => ?_)
                  clear hK K
                  refine norm_ (a' := ?_) ?_ ?_
                  rotate_left
                  · show Act.put _ (some 58) _ = _
                    simp only [nrm]
                    rfl
                  have h9 := H.out
                  exact hjoin (_, _, _, _, _, _) _ ⟨hHeld, by simp at h9 ⊢; exact h9⟩
              rintro ⟨g8, g15, A2, c2, A3, c3⟩ w10 ⟨hHeld, hst⟩
              replace H : Aside (St w w10 (blk g8 #[.string s, .slice A2 fs.length c2] 161 :: blk g15 #[.int .u64 rm] 22 :: blk cb #[.string s, .slice A1 fs.length c1] 161 :: mapP mb (i + 1) :: tbB t vL vM :: row 161 2 (.slice A3 (E.length + 1) c3) (E.length + 1) (tbX E ++ [.string s, .slice A2 fs.length c2]) :: [row 22 1 vM ms.length (U ms)])) := Aside.mk hst
              clear hst
              refine norm_ (a' := ?_) ?_ ?_
              rotate_left
              · simp only [putAll, nrm]
                rfl
              refine on_ 16 (some 65) 131071 rfl rfl HT_ (by kernel_rfl) (by decide) (fun K hK => ?_)
              refine append_run_step rfl (.tmp 62) (.tmp 64) 30 22 (.int .u64 0) 1 8 rfl Tryd.underlying30 info22 rfl (by decide) (by decide) vM ms.length (U ms) rfl ⟨g15, 0, none⟩ 1 1 [.int .u64 rm] rfl rfl (blk_cells (H.out.pick 1 rfl)) (by simp [Value.oneCell']) (H.out.pick 6 rfl) (by have := HMS.out; have := HM16.out; have := HI.out; omega) ?_
              intro A4 c4 w12 hc4 h9
              replace H : Aside (St w w12 (blk g8 #[.string s, .slice A2 fs.length c2] 161 :: blk g15 #[.int .u64 rm] 22 :: blk cb #[.string s, .slice A1 fs.length c1] 161 :: mapP mb (i + 1) :: tbB t vL vM :: row 161 2 (.slice A3 (E.length + 1) c3) (E.length + 1) (tbX E ++ [.string s, .slice A2 fs.length c2]) :: [row 22 1 (.slice A4 (ms.length + 1) c4) (ms.length + 1) (U ms ++ [.int .u64 rm])])) := Aside.mk (h9.order 7 [1, 2, 3, 4, 5, 6, 0] rfl rfl)
              clear h9 hc4
              refine hK.out _ _ ⟨(H.out.pick 2 rfl).cell 0, (H.out.pick 2 rfl).cell 1, (H.out.pick 4 rfl).cell 0, (H.out.pick 4 rfl).cell 1⟩ (fun hHeld => ?_)
              clear hK K
              refine norm_ (a' := ?_) ?_ ?_
              rotate_left
              · show Act.put _ (some 65) _ = _
                simp only [nrm]
                rfl
              refine pu_ (v := ?_) (a' := ?_) 17 (some 66) 262143 rfl rfl HT_ (by kernel_rfl) (.inl ⟨by rfl, ?_⟩) ?_ ?_; rotate_left 2; (· intro w'; go_simp; with_reducible rfl); (· simp only [nrm]; rfl)
              refine pu_ (v := ?_) (a' := ?_) 18 (some 67) 524287 rfl rfl HT_ (by kernel_rfl) (.inl ⟨by rfl, ?_⟩) ?_ ?_; rotate_left 2; (· intro w'; go_simp; with_reducible rfl); (· simp only [nrm]; rfl)
              refine last_ (i := 19) (N := none) (flg 23 1048575) rfl rfl (one_of HT_.out (by kernel_rfl)) (by decide) (fun K hK => ?_)
              refine skip_ (by rfl) rfl (st_run_store (off := 0) (seg := [.slice A3 (E.length + 1) c3]) rfl rfl rfl rfl (Nat.le_of_ble_eq_true rfl) (by simp [Value.oneCell']) (H.out.pick 4 rfl)) ?_
              have h8 := (H.out.pick 4 rfl).setCells 0 [.slice A3 (E.length + 1) c3] (Nat.le_of_ble_eq_true rfl)
              generalize World.setCells _ _ _ _ = w13 at h8 ⊢
              replace H : Aside (St w w13 (blk g8 #[.string s, .slice A2 fs.length c2] 161 :: blk g15 #[.int .u64 rm] 22 :: blk cb #[.string s, .slice A1 fs.length c1] 161 :: mapP mb (i + 1) :: tbB t (.slice A3 (E.length + 1) c3) vM :: row 161 2 (.slice A3 (E.length + 1) c3) (E.length + 1) (tbX E ++ [.string s, .slice A2 fs.length c2]) :: [row 22 1 (.slice A4 (ms.length + 1) c4) (ms.length + 1) (U ms ++ [.int .u64 rm])])) := Aside.mk (h8.order 5 [1, 2, 3, 4, 0] rfl rfl)
              clear h8
              refine hK.out _ _ ?_
              clear hK K
              refine pu_ (v := ?_) (a' := ?_) 20 (some 68) 2097151 rfl rfl HT_ (by kernel_rfl) (.inl ⟨by rfl, ?_⟩) ?_ ?_; rotate_left 2; (· intro w'; go_simp; with_reducible rfl); (· simp only [nrm]; rfl)
              refine pu_ (v := ?_) (a' := ?_) 21 (some 69) 4194303 rfl rfl HT_ (by kernel_rfl) (.inl ⟨by rfl, ?_⟩) ?_ ?_; rotate_left 2; (· intro w'; go_simp; with_reducible rfl); (· simp only [nrm]; rfl)
              refine last_ (i := 22) (N := none) (flg 23 8388607) rfl rfl (one_of HT_.out (by kernel_rfl)) (by decide) (fun K hK => ?_)
              refine skip_ (by rfl) rfl (st_run_store (off := 1) (seg := [.slice A4 (ms.length + 1) c4]) rfl rfl rfl rfl (Nat.le_of_ble_eq_true rfl) (by simp [Value.oneCell']) (H.out.pick 4 rfl)) ?_
              have h8 := (H.out.pick 4 rfl).setCells 1 [.slice A4 (ms.length + 1) c4] (Nat.le_of_ble_eq_true rfl)
              generalize World.setCells _ _ _ _ = w14 at h8 ⊢
              replace H : Aside (St w w14 (blk g8 #[.string s, .slice A2 fs.length c2] 161 :: blk g15 #[.int .u64 rm] 22 :: blk cb #[.string s, .slice A1 fs.length c1] 161 :: mapP mb (i + 1) :: tbB t (.slice A3 (E.length + 1) c3) (.slice A4 (ms.length + 1) c4) :: row 161 2 (.slice A3 (E.length + 1) c3) (E.length + 1) (tbX E ++ [.string s, .slice A2 fs.length c2]) :: [row 22 1 (.slice A4 (ms.length + 1) c4) (ms.length + 1) (U ms ++ [.int .u64 rm])])) := Aside.mk (h8.order 5 [1, 2, 3, 4, 0] rfl rfl)
              clear h8
              refine hK.out _ _ ?_
              clear hK K
              refine done_ (done_of HT_.out (by kernel_rfl)) ?_
              clear HT_ HW_ hHeld
              go_wp2
              go_roundg (m - (i + 1))
              case measure => have := HI.out; omega
              case rel =>
                have eX : tbX (E ++ [⟨s, A2, fs.length, c2⟩]) = tbX E ++ [.string s, .slice A2 fs.length c2] := by simp [tbX, Cl.vs]
                have eL : (E ++ [(⟨s, A2, fs.length, c2⟩ : Cl)]).length = E.length + 1 := by simp
                have eU : U (ms ++ [rm]) = U ms ++ [.int .u64 rm] := by simp [U]
                have eM : (ms ++ [rm]).length = ms.length + 1 := by simp
                refine ⟨i + 1, .slice A3 (E.length + 1) c3, .slice A4 (ms.length + 1) c4, E ++ [⟨s, A2, fs.length, c2⟩], ms ++ [rm], rfl, HI.out, by first | rfl | (rw [e9]; rfl), ⟨by rw [List.map_append, HE.out, HTK.out]; rfl⟩, ⟨by rw [eM, HMS.out]⟩, ⟨by rw [HTB.out.1, ← HMB.out.1, (HFL.out (by first | rfl | trivial)).2], fun x hx => by rcases HTB.out.2 x hx with h | h; exact HMB.out.2 x h; rw [h]; exact (HFL.out (by first | rfl | trivial)).1⟩, ⟨?_⟩⟩
                show St w _ [mapP mb (i + 1), tbB t _ _, row 161 2 _ (E ++ [(⟨s, A2, fs.length, c2⟩ : Cl)]).length (tbX (E ++ [⟨s, A2, fs.length, c2⟩])), row 22 1 _ (ms ++ [rm]).length (U (ms ++ [rm]))]
                rw [eX, eL, eU, eM]
                exact H.out.rest.rest.rest
      · obtain rfl : i = m := by omega
        have dl : decide ((i : Int) < (i : Int)) = false := by simp
        have nl : ¬ (i : Int) < (i : Int) := by omega
        clear hi hlt
        go_wp2
        go_meet
        case rel => exact ⟨vL, vM, E, ⟨by rw [HE.out, HM.out, List.take_length]⟩, ⟨by have h := HMB.out.2; rw [HM.out, List.take_length] at h; exact h⟩, ⟨by have h := HMB.out.1; rw [HM.out, List.take_length] at h; rw [← h]; exact H.out.rest⟩⟩
  case rest =>
    clear H
    obtain ⟨vL, vM, E, HE, HF, H⟩ := hcut
    go_wp2
    go_ret3
    exact .inr ⟨t, vL, vM, E, rfl, HE.out, HF.out, H.out⟩
theorem new_c {A : Option Addr} {cap : Nat} {cs : List S161} {w : World} (hC : Kd.C k161 w A cs.length cs) : Calls Tryd.prog 22 #[.slice A cs.length cap] w fun e w' =>
    (∃ i er : Int, er ≠ 0 ∧ e = .returned (.tuple #[.pointer none, .int .i64 i, .int .i64 er]) ∧ Below w.heap.size w w') ∨
    (∃ t vL vM E, e = .returned (.tuple #[.pointer (some ⟨t, 0, none⟩), .int .i64 0, .int .i64 0]) ∧ E.map Cl.n = cs.map (fun x => x.f1.length) ∧ St w w' [tbB t vL vM, tbR vL E]) := by
  refine (new_m hC).mono ?_
  rintro e w' (h | ⟨t, vL, vM, E, rfl, hE, _, h⟩)
  · exact .inl h
  · exact .inr ⟨t, vL, vM, E, rfl, hE, (h.pick 2 rfl).rest⟩
end
end Go.Proofs.YtelfiegocdjnoaaDoor.Ar
