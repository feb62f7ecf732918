/- References of an object: the code's and the document's are the same: plain; a new table's cells. Conditions: no more than 400 words. -/
import Derived.Test.YtelfiegocdjnoaaDoorFc2
import Derived.Test.YtelfiegocdjnoaaDoorCn2
import Derived.Test.YtelfiegocdjnoaaDoorLk3
import Derived.Test.YtelfiegocdjnoaaDoorMrF0
import Derived.Test.YtelfiegocdjnoaaDoorMrF2
import Derived.Test.YtelfiegocdjnoaaDoorOb12
import Derived.Test.YtelfiegocdjnoaaDoorBa0
section
namespace Go.Proofs.YtelfiegocdjnoaaDoor.Ar
open Go Go.RowKit Go.Proofs.YtelfiegocdjnoaaDoor.Sep Go.Proofs.YtelfiegocdjnoaaDoor.Pg Go.Proofs.YtelfiegocdjnoaaDoorW.PrintWords Go.Proofs.YtelfiegocdjnoaaDoorW.PrintLast Go.Proofs.YtelfiegocdjnoaaDoorW.PrintMore Go.Proofs.YtelfiegocdjnoaaDoor.Q
set_option linter.unusedVariables false
set_option linter.unusedSimpArgs false
set_option maxHeartbeats 8000000
set_option maxRecDepth 100000
abbrev nsC (cs : List S161) : List Nat := cs.map fun x => x.f1.length
abbrev msC (cs : List S161) : List Nat := cs.map fun x => bitF x.f1 x.f1.length
theorem nsC_le {cs : List S161} (h : ∀ x ∈ cs, x.f1.length ≤ 15) (i : Nat) : (nsC cs).getD i 0 ≤ 63 := by
  rw [List.getD_eq_getElem?_getD, List.getElem?_map]
  cases hx : cs[i]? with
  | none => simp
  | some x => have := h x (List.mem_of_getElem? hx); simp; omega
theorem msC_lt {cs : List S161} (h : ∀ x ∈ cs, x.f1.length ≤ 15) : ∀ m ∈ msC cs, m < 18446744073709551616 := by
  intro m hm
  obtain ⟨x, hx, rfl⟩ := List.mem_map.1 hm
  exact bitF_lt _ _ (by have := h x hx; omega)
theorem tbc_of {w0 w : World} {F : List HP} {t : Nat} {vL vM : Value} {E : List Cl} {cs : List S161} (hE : E.map Cl.n = nsC cs) (h : St w0 w (tbB t vL vM :: tbR vL E :: row 22 1 vM (cs.map bmC).length (U (cs.map bmC)) :: F)) :
    ∃ A cap B cap2, TbC w t A cap (nsC cs) B cap2 (msC cs) := by
  have hl : E.length = cs.length := by have := congrArg List.length hE; simpa using this
  have hl2 : (nsC cs).length = cs.length := List.length_map ..
  have hl3 : (cs.map bmC).length = cs.length := List.length_map ..
  obtain ⟨A, cap, rfl, _, _⟩ := (h.pick 1 rfl).row_slice
  obtain ⟨B, cap2, rfl, _, _⟩ := (h.pick 2 rfl).row_slice
  refine ⟨A, cap, B, cap2, ?_, ?_, fun i hi => ?_, fun i hi => ?_⟩
  · have := h.cell 0
    rw [hl2, ← hl]
    exact this
  · have := h.cell 1
    rw [hl2, ← hl3]
    exact this
  · rw [hl2] at hi
    obtain ⟨g, c', e, _, hc⟩ := (h.pick 1 rfl).row_some (by omega)
    injection e with e1
    subst e1
    have hq := hc (i * 2 + 1) _ (by rw [tbX_get E i 1 (by omega) (by decide)]; rfl)
    refine ⟨_, (E.getD i zCl).ad, (E.getD i zCl).cap, rfl, ?_⟩
    have hn : (nsC cs).getD i 0 = (E.getD i zCl).n := by
      rw [← hE]
      simp [List.getD_eq_getElem?_getD, show i < E.length by omega]
    rw [hn, show (⟨g, 0, none⟩ : Addr).add (i * 2) = ⟨g, i * 2, none⟩ by unfold Addr.add; split <;> simp_all]
    exact hq
  · rw [hl2] at hi
    obtain ⟨g, c', e, _, hc⟩ := (h.pick 2 rfl).row_some (by rw [hl3]; omega)
    injection e with e1
    subst e1
    refine ⟨_, rfl, ?_⟩
    rw [show (⟨g, 0, none⟩ : Addr).add i = ⟨g, i, none⟩ by unfold Addr.add; split <;> simp_all]
    refine hc i _ ?_
    simp [U, List.getD_eq_getElem?_getD, hi]
theorem risref_ (q : Nat) {cs : List S161} (h15 : ∀ x ∈ cs, x.f1.length ≤ 15) (c k n i : Int) : windrowref10_IsRef.f (q + 2) cs c k n i = some (isrefT (nsC cs) (msC cs) c k n i) := by
  unfold windrowref10_IsRef.f
  rw [rfits_, Option.bind_some]
  unfold isrefT
  cases hf : fitT (nsC cs) c k n
  case false => rw [if_neg (by simp)]; rw [windrowref10_IsRef.j0, if_pos rfl]; simp
  case true =>
  have hfi := fitT_in hf
  rw [if_pos rfl, Bool.true_and]
  by_cases h0 : i < 0
  · rw [if_pos h0, windrowref10_IsRef.j0, if_pos rfl, show decide (0 ≤ i) = false by simp; omega]; simp
  · rw [if_neg h0, show decide (0 ≤ i) = true by simp; omega, Bool.true_and]
    by_cases h1 : i ≥ n
    · rw [decide_eq_true h1, windrowref10_IsRef.j0, if_pos rfl, show decide (i < n) = false by simp; omega]; simp
    · rw [decide_eq_false h1, windrowref10_IsRef.j0, if_neg (by simp), show decide (i < n) = true by simp; omega, Bool.true_and]
      by_cases hk : k = 1
      · subst hk
        obtain ⟨cN, rfl, hcN, hnn⟩ := hfi.2.1 rfl
        have hcs : cN < cs.length := by simpa using hcN
        obtain ⟨j, rfl⟩ : ∃ j : Nat, i = j := ⟨i.toNat, by omega⟩
        have hx : rd_T161 cs (cN : Int) = cs[cN] := by simp [rd_T161, List.getD_eq_getElem?_getD, hcs]
        have hnl : (nsC cs).getD cN 0 = cs[cN].f1.length := by simp [List.getD_eq_getElem?_getD, hcs]
        have hml : (msC cs).getD cN 0 = bitF cs[cN].f1 cs[cN].f1.length := by simp [List.getD_eq_getElem?_getD, hcs]
        rw [if_pos rfl, if_pos rfl, hx, if_pos (by omega), if_pos (by omega), if_pos (by omega), if_pos (by rw [hnn, hnl] at h1; omega), Int.toNat_natCast, Int.toNat_natCast, hml, bitF_at, show decide (j < cs[cN].f1.length) = true by rw [hnn, hnl] at h1; simp; omega, Bool.true_and]
        rfl
      · rw [if_neg hk, if_neg hk]
theorem rptr_l {cs : List S161} (h15 : ∀ x ∈ cs, x.f1.length ≤ 15) (c k : Int) (m : Nat) (hm : m ≤ 400) : ∀ (d j q : Nat) (acc : List Int), j + d = m → d + 3 < q → acc = (ptk m (fun (i : Nat) => isrefT (nsC cs) (msC cs) c k m i) j).map (fun x => ((x.1 : Nat) : Int)) →
    windrowref10_Pointers.l0 q cs acc (j : Int) c k m = some ((ptk m (fun (i : Nat) => isrefT (nsC cs) (msC cs) c k m i) m).map (fun x => ((x.1 : Nat) : Int))) := by
  intro d
  induction d with
  | zero =>
    intro j q acc hj hq ha
    obtain ⟨q, rfl⟩ : ∃ r, q = r + 1 := ⟨q - 1, by omega⟩
    obtain rfl : j = m := by omega
    rw [windrowref10_Pointers.l0, if_neg (by omega), ha]
  | succ d ih =>
    intro j q acc hj hq ha
    obtain ⟨q, rfl⟩ : ∃ r, q = r + 2 + 1 := ⟨q - 3, by omega⟩
    rw [windrowref10_Pointers.l0, if_pos (by omega), risref_ q h15, Option.bind_some, w64s (by omega)]
    have hal : acc.length < 17592186044416 := by rw [ha, List.length_map]; have := ptk_len m (fun (i : Nat) => isrefT (nsC cs) (msC cs) c k m i) j; omega
    cases hp : isrefT (nsC cs) (msC cs) c k m j
    case false =>
      rw [if_neg (by simp)]
      exact ih (j + 1) _ acc (by omega) (by omega) (by rw [ptk_no hp]; exact ha)
    case true =>
      rw [if_pos rfl, if_pos hal]
      exact ih (j + 1) _ _ (by omega) (by omega) (by rw [ptk_yes (by omega) hp, ha, List.map_append]; rfl)
theorem rptr_ {cs : List S161} (h15 : ∀ x ∈ cs, x.f1.length ≤ 15) (c k : Int) (m : Nat) (hm : m ≤ 400) : windrowref10_Pointers.f 500 cs c k m = some ((ptk m (fun (i : Nat) => isrefT (nsC cs) (msC cs) c k m i) m).map (fun x => ((x.1 : Nat) : Int))) := by
  unfold windrowref10_Pointers.f
  rw [rfits_, Option.bind_some]
  cases hf : fitT (nsC cs) c k m
  case false =>
    rw [if_neg (by simp), ptk_nil m _ (fun i => by unfold isrefT; simp [hf])]
    rfl
  case true =>
    rw [if_pos rfl]
    exact rptr_l h15 c k m hm m 0 _ _ (by omega) (by omega) rfl
theorem rrefs_l {m : Nat} (l : List Int) (hl : l.length = m) (ps : List {x : Nat // x < m}) (hps : ps.length ≤ 400) (a b c : Int) : ∀ (d j q : Nat) (acc : List Int), j + d = ps.length → d < q → acc = refsOf l (ps.take j) →
    windrowref11_Refs.l0 q acc (ps.map (fun x => ((x.1 : Nat) : Int))) (j : Int) a b c l = some (refsOf l ps) := by
  intro d
  induction d with
  | zero =>
    intro j q acc hj hq ha
    obtain ⟨q, rfl⟩ : ∃ r, q = r + 1 := ⟨q - 1, by omega⟩
    rw [windrowref11_Refs.l0, if_neg (by rw [List.length_map]; omega), ha, List.take_of_length_le (by omega)]
  | succ d ih =>
    intro j q acc hj hq ha
    obtain ⟨q, rfl⟩ : ∃ r, q = r + 1 := ⟨q - 1, by omega⟩
    have hjl : j < ps.length := by omega
    have hr : rd (ps.map (fun x => ((x.1 : Nat) : Int))) (j : Int) = ((ps[j].1 : Nat) : Int) := by simp [rd, List.getD_eq_getElem?_getD, hjl]
    have hr2 : rd l ((ps[j].1 : Nat) : Int) = l.getD ps[j].1 0 := by simp [rd]
    have hx := ps[j].2
    have hal : acc.length < 17592186044416 := by rw [ha]; have := refsOf_len l (ps.take j); rw [List.length_take] at this; omega
    rw [windrowref11_Refs.l0, if_pos (by rw [List.length_map]; omega), if_pos (by omega), hr, if_pos (by omega), if_pos (by omega), hr2, w64s (by omega)]
    have ht : ps.take (j + 1) = ps.take j ++ [ps[j]] := (List.take_append_getElem hjl).symm
    by_cases hz : l.getD ps[j].1 0 = 0
    · rw [if_pos hz]
      exact ih (j + 1) _ _ (by omega) (by omega) (by rw [ht, refsOf_no hz]; exact ha)
    · rw [if_neg hz, if_pos hal]
      exact ih (j + 1) _ _ (by omega) (by omega) (by rw [ht, refsOf_yes hz, ha])
theorem rrefs_ {cs : List S161} (h15 : ∀ x ∈ cs, x.f1.length ≤ 15) (ad c k : Int) (l : List Int) (hl : l.length ≤ 400) : windrowref11_Refs.f 500 cs ad c k l = some (refsOf l (ptk l.length (fun (i : Nat) => isrefT (nsC cs) (msC cs) c k l.length i) l.length)) := by
  unfold windrowref11_Refs.f windrowref11_Head.f
  rw [Option.bind_some]
  simp only
  rw [rptr_ h15 c k l.length hl, Option.bind_some]
  have hp := ptk_len l.length (fun (i : Nat) => isrefT (nsC cs) (msC cs) c k l.length i) l.length
  generalize ptk l.length (fun (i : Nat) => isrefT (nsC cs) (msC cs) c k l.length i) l.length = ps at hp ⊢
  exact rrefs_l l rfl ps (by omega) ad c k ps.length 0 500 [] (by omega) (by omega) rfl
end Go.Proofs.YtelfiegocdjnoaaDoor.Ar
end
section
namespace Go.Proofs.YtelfiegocdjnoaaDoor.Ar
open Go Go.RowKit Go.Proofs.YtelfiegocdjnoaaDoor.Sep Go.Proofs.YtelfiegocdjnoaaDoor.Pg Go.Proofs.YtelfiegocdjnoaaDoorW.PrintWords Go.Proofs.YtelfiegocdjnoaaDoorW.PrintLast Go.Proofs.YtelfiegocdjnoaaDoorW.PrintMore Go.Proofs.YtelfiegocdjnoaaDoor.Q
set_option linter.unusedVariables false
set_option linter.unusedSimpArgs false
set_option maxHeartbeats 8000000
set_option maxRecDepth 100000
theorem clN_lt : ∀ v : Fin 33, 1 ≤ v.val → clN v.val < 8 ∧ (v.val : Int) ≤ szT.getD (clN v.val) 0 ∧ ∀ i : Fin 8, i.val < clN v.val → szT.getD i.val 0 < (v.val : Int) := by decide +kernel
theorem class_c {v : Nat} (h1 : 1 ≤ v) (h2 : v ≤ 32) {w : World} (hT : Tab w) : Calls Tryd.prog 169 #[.int .i64 v] w fun e w' => e = .returned (.tuple #[.int .i64 (clN v : Nat), .int .i64 0]) ∧ w' = w := by
  obtain ⟨hc, hle, hlt⟩ := clN_lt ⟨v, by omega⟩ h1
  simp only at hc hle hlt
  generalize clN v = cN at hc hle hlt
  have d1 : decide ((v : Int) < 1) = false := by simp; omega
  have d2 : decide ((v : Int) > 32) = false := by simp; omega
  have n1 : ¬ v < 1 := by omega
  have n2 : ¬ 32 < v := by omega
  have n3 : ¬ (32 : Int) < (v : Int) := by omega
  have n4 : ¬ (v : Int) < 1 := by omega
  have HC := Aside.mk hc
  have HLE := Aside.mk hle
  have HLT := Aside.mk hlt
  have HT := Aside.mk hT
  clear hc hle hlt hT h1 h2
  go_enter Tryd.func169, Tryd.ntmps169
  go_upto_block 1 with fail
  clear d1 d2 n1 n2 n3 n4
  go_cut [4] (fun v4 wc => v4 = .int .i64 (cN : Nat) ∧ wc = w)
  case first =>
    as_aux_lemma =>
    go_wp2_with fail
    go_loopg [4] (cN) (fun q v4 w' => ∃ i : Nat, q = cN - i ∧ i ≤ cN ∧ v4 = .int .i64 (i : Nat) ∧ w' = w)
    case atStart => exact ⟨0, rfl, Nat.zero_le _, rfl, rfl⟩
    case round =>
      obtain ⟨i, rfl, hi, rfl, rfl⟩ := hrel
      have hx := HT.out i (by have := HC.out; omega)
      generalize hs : szT.getD i 0 = sz at hx
      have n5 : (i : Int) < 8 := by have := HC.out; omega
      by_cases hl : i < cN
      · have hsz := HLT.out ⟨i, by have := HC.out; omega⟩ hl
        simp only at hsz
        rw [hs] at hsz
        have dl : decide (sz < (v : Int)) = true := by simpa using hsz
        have HI := Aside.mk hl
        clear hi hl
        go_wp2_with fail
        go_roundg (cN - (i + 1))
        case measure => have := HI.out; omega
        case rel => exact ⟨i + 1, rfl, HI.out, by first | rfl | (have := HI.out; have := HC.out; rw [w64s (by omega)]), rfl⟩
      · obtain rfl : i = cN := by omega
        have hsz := HLE.out
        rw [hs] at hsz
        have dl : decide (sz < (v : Int)) = false := by simp; omega
        have nl : ¬ sz < (v : Int) := by omega
        clear hi hl
        go_wp2_with fail
        go_meet
        case rel => exact ⟨rfl, rfl⟩
  case rest =>
    obtain ⟨rfl, rfl⟩ := hcut
    go_wp2
    go_ret2
    exact ⟨rfl, rfl⟩
/-- The cells that are taken for so many words. -/
def spN (v : Nat) : Int := if v = 0 then 0 else if v ≤ 32 then szI (clN v : Int) else pgI (v : Int) * 64
theorem rrounds_ : ∀ v : Fin 257, (windrowref05_Rounds.f 60 (v.val : Int)).map (·.1) = some (spN v.val) := by decide +kernel
theorem rounds_c {v : Nat} (h2 : v ≤ 256) {w : World} (hT : Tab w) : Calls Tryd.prog 130 #[.int .i64 v] w fun e w' => e = .returned (.tuple #[.int .i64 (spN v), .int .i64 (if v = 0 then 1 else 0)]) ∧ Below w.heap.size w w' := by
  have HP := Aside.mk (pages_c (v : Int) (by omega) (by omega))
  have HT := Aside.mk hT
  unfold spN
  by_cases h0 : v = 0
  · subst h0
    have HP0 := Aside.mk (show sizes_Pages.f ((0 : Nat) : Int) = some (0, 1) by decide)
    rw [if_pos rfl, if_pos rfl]
    clear hT HP
    go_enter Tryd.func130, Tryd.ntmps130
    go_wp2_with (go_at_call 135; refine (sizes_Pages.calls _ _ _ _ HP0.out).mono ?_; rintro e w1 ⟨rfl, hb⟩)
    go_ret2
    exact ⟨rfl, hb.below⟩
  · rw [if_neg (by omega)] at HP
    rw [if_neg h0, if_neg h0]
    by_cases h3 : v ≤ 32
    · rw [if_pos h3]
      have e : pgI (v : Int) = 0 := by unfold pgI; rw [if_pos (by omega)]
      rw [e] at HP
      have HV : Aside (1 ≤ v ∧ v ≤ 32) := ⟨by omega⟩
      have hcl := (clN_lt ⟨v, by omega⟩ (by simp; omega)).1
      simp only at hcl
      have hx : ∀ w1, Below w.heap.size w w1 → w1.cell? ⟨0, clN v, none⟩ = some (.int .i64 (szI (clN v : Int))) := fun w1 hb => by
        have h := (HT.out.below hb) (clN v) hcl
        rw [h]; simp [szI]
      have HX := Aside.mk hx
      have n5 : ((clN v : Nat) : Int) < 8 := by omega
      have n6 : clN v < 8 := hcl
      have HCL : Aside (∀ w1, Tab w1 → Calls Tryd.prog 169 #[.int .i64 v] w1 fun e w' => e = .returned (.tuple #[.int .i64 (clN v : Nat), .int .i64 0]) ∧ w' = w1) := ⟨fun w1 h => class_c HV.out.1 HV.out.2 h⟩
      generalize clN v = cN at *
      clear hT h0 h2 h3 hx hcl e
      go_enter Tryd.func130, Tryd.ntmps130
      go_wp2_with (first
        | (go_at_call 135; refine (sizes_Pages.calls _ _ _ _ HP.out).mono ?_; rintro e w1 ⟨rfl, hb⟩)
        | (go_at_call 169; refine (HCL.out _ (HT.out.below hb.below)).mono ?_; rintro e w2 ⟨rfl, rfl⟩; have hx := HX.out _ hb.below))
      go_ret2
      exact ⟨rfl, hb.below⟩
    · rw [if_neg h3]
      have hp : pgI (v : Int) > 0 ∧ pgI (v : Int) ≤ 4 := by unfold pgI; rw [if_neg (by omega)]; omega
      have d1 : decide (pgI (v : Int) > 0) = true := by simp; omega
      have e64 : wrap64 (pgI (v : Int) * 64) = pgI (v : Int) * 64 := by unfold wrap64; omega
      generalize pgI (v : Int) = pg at *
      have n1 : 0 < pg := hp.1
      clear hT h0 h2 h3 hp
      go_enter Tryd.func130, Tryd.ntmps130
      go_wp2_with (go_at_call 135; refine (sizes_Pages.calls _ _ _ _ HP.out).mono ?_; rintro e w1 ⟨rfl, hb⟩)
      go_ret2
      exact ⟨by first | rfl | (simp only [e64]; done) | (simp [e64]; done) | exact (1 : Nat), hb.below⟩
theorem hwI_nat (c k : Int) (m : Nat) : ∃ v : Nat, hwI c k (m : Int) = (v : Int) ∧ v ≤ 256 := by
  unfold hwI
  by_cases h : isH c k (m : Int) = true
  · rw [if_pos h]
    simp only [isH, decide_eq_true_eq] at h
    exact ⟨m + 1, by push_cast; omega, by omega⟩
  · rw [if_neg h]
    exact ⟨0, rfl, by decide⟩
theorem span_c {ad cl kd : Int} {l : List Int} {Al : Option Addr} {cc : Nat} {w : World} (hT : Tab w) (hC : Kd.C (Kd.int .i64) w Al l.length l) (hcc : l.length ≤ cc) :
    Calls Tryd.prog 67 #[.agg #[.int .i64 ad, .int .i64 cl, .int .i64 kd, .slice Al l.length cc]] w fun e w' => e = .returned (.int .i64 (spN (hwI cl kd (l.length : Int)).toNat)) ∧ Below w.heap.size w w' := by
  obtain ⟨v, hv, hv2⟩ := hwI_nat cl kd l.length
  have HW := Aside.mk (hwords_ 1 cl kd (l.length : Int))
  rw [hv] at HW
  rw [hv, Int.toNat_natCast]
  have HV := Aside.mk hv2
  have HT := Aside.mk hT
  have HH := Aside.mk (fun (w1 : World) (hb : Below w.heap.size w w1) => objects_Head.calls ad cl kd Al cc l cl kd (l.length : Int) w1 (Kd.C_below hC hb) hcc rfl)
  have H : Aside (St w _ [blk w.heap.size #[.int .i64 ad, .int .i64 cl, .int .i64 kd, .slice Al l.length cc] 60]) := Aside.mk ((St.start w).alloc #[.int .i64 ad, .int .i64 cl, .int .i64 kd, .slice Al l.length cc] 60)
  clear hT hC hcc hv hv2
  have HR := Aside.mk (fun (w1 : World) (hb : Below w.heap.size w w1) => rounds_c HV.out (HT.out.below hb))
  by_cases h0 : v = 0
  · rw [show spN v = 0 by rw [h0]; rfl, if_pos h0] at HR
    rw [show spN v = 0 by rw [h0]; rfl]
    clear h0
    go_enter Tryd.func67, Tryd.ntmps67
    have x0 := H.out.cell 0
    have x1 := H.out.cell 1
    have x2 := H.out.cell 2
    have x3 := H.out.cell 3
    go_wp2_with (first
      | (go_at_call 38; refine (HH.out _ H.out.below).mono ?_; rintro e w1 ⟨rfl, hb⟩; replace H := Aside.mk (H.out.step hb); clear hb x0 x1 x2 x3)
      | (go_at_call 131; refine (header_Head_Words.calls _ _ _ _ _ _ HW.out).mono ?_; rintro e w2 ⟨rfl, hb⟩; replace H := Aside.mk (H.out.step hb); clear hb)
      | (go_at_call 130; refine (HR.out _ H.out.below).mono ?_; rintro e w3 ⟨rfl, hb⟩; replace H := Aside.mk (H.out.step hb); clear hb))
    go_ret
    exact ⟨rfl, H.out.below⟩
  · rw [if_neg h0] at HR
    clear h0
    go_enter Tryd.func67, Tryd.ntmps67
    have x0 := H.out.cell 0
    have x1 := H.out.cell 1
    have x2 := H.out.cell 2
    have x3 := H.out.cell 3
    go_wp2_with (first
      | (go_at_call 38; refine (HH.out _ H.out.below).mono ?_; rintro e w1 ⟨rfl, hb⟩; replace H := Aside.mk (H.out.step hb); clear hb x0 x1 x2 x3)
      | (go_at_call 131; refine (header_Head_Words.calls _ _ _ _ _ _ HW.out).mono ?_; rintro e w2 ⟨rfl, hb⟩; replace H := Aside.mk (H.out.step hb); clear hb)
      | (go_at_call 130; refine (HR.out _ H.out.below).mono ?_; rintro e w3 ⟨rfl, hb⟩; replace H := Aside.mk (H.out.step hb); clear hb))
    go_ret
    exact ⟨rfl, H.out.below⟩
theorem rspan_ (ad cl kd : Int) (l : List Int) : windrowref11_Span.f 60 ad cl kd l = some (spN (hwI cl kd (l.length : Int)).toNat) := by
  unfold windrowref11_Span.f windrowref11_Head.f
  simp only [Option.bind_some]
  rw [rwords_, Option.bind_some]
  obtain ⟨v, hv, hv2⟩ := hwI_nat cl kd l.length
  rw [hv, Int.toNat_natCast]
  have := rrounds_ ⟨v, by omega⟩
  simp only at this
  obtain ⟨p, hp, hq⟩ := Option.map_eq_some_iff.1 this
  rw [hp, Option.bind_some, hq]
end Go.Proofs.YtelfiegocdjnoaaDoor.Ar
end
