/- The document's All over what is owned, walked. Conditions: a plan of at most five pages; words of 64 bits. -/
import Derived.Test.YtelfiegocdjnoaaDoorMgF
import Derived.Test.YtelfiegocdjnoaaDoorLk5
import Derived.Test.YtelfiegocdjnoaaDoorMrF0
import Derived.Test.YtelfiegocdjnoaaDoorMrF2
import Derived.Test.YtelfiegocdjnoaaDoorMrF1
namespace Go.Proofs.YtelfiegocdjnoaaDoor.Ar
open Go Go.RowKit Go.Shelf Go.Proofs.YtelfiegocdjnoaaDoor.Sep Go.Proofs.YtelfiegocdjnoaaDoor.Pg Go.Proofs.YtelfiegocdjnoaaDoorW.PrintWords Go.Proofs.YtelfiegocdjnoaaDoorW.PrintLast Go.Proofs.YtelfiegocdjnoaaDoorW.PrintMore Go.Proofs.YtelfiegocdjnoaaDoor.Q
set_option linter.unusedVariables false
set_option linter.unusedSimpArgs false
set_option maxHeartbeats 8000000
set_option maxRecDepth 100000
def ra.T9 : Bool × List (List Nat × List Nat) := (true, [([], []), ([], []), ([], []), ([], []), ([3], [3]), ([], []), ([5], [5]), ([4, 6], [4, 6]), ([], []), ([], []), ([8, 9], [8, 9]), ([10], [10]), ([7, 11], [7, 11]), ([0, 1, 2, 12], [0, 1, 2, 12]), ([13], [13]), ([14], [14]), ([14], [14]), ([], []), ([17, 15, 13, 0, 1, 2, 3, 4, 5, 6, 7, 8, 9, 10, 11, 12, 13, 14, 15, 17], [15, 17]), ([16, 18, 0, 1, 2, 3, 4, 5, 6, 7, 8, 9, 10, 11, 12, 13, 14, 15, 16, 17, 18], [16])])
def ra.B9 : List Nat := [0, 0, 0, 0, 8, 0, 32, 120, 0, 0, 768, 1792, 4088, 8191, 16383, 32767, 32767, 0, 196607, 524287]
theorem ra.tab9 : rtab .any (opsOf Tryd.f49 9) = ra.T9 := by kernel_rfl
theorem ra.bits9 : waitsOk ra.T9.2 ra.B9 = true := by kernel_rfl
abbrev rwP (p : PS) : HP := row 2 1 (.slice p.2.1 p.1.f3.length p.2.2) p.1.f3.length (I64 p.1.f3)
/-- The words of objects: their rows. -/
def wdR (qs : List PS) : HP := seps (qs.map rwP)
theorem wdR_add {w0 w : World} {p : PS} {qs : List PS} {L : List HP} (h : St w0 w (rwP p :: wdR qs :: L)) : St w0 w (wdR (p :: qs) :: L) := h.fold_
theorem wdR_all {w0 w : World} : ∀ {qs : List PS} {L : List HP}, St w0 w (wdR qs :: L) → ∀ p ∈ qs, WdAt w0.heap.size w p
  | [], _, _, p, hp => by cases hp
  | q :: qs, L, h, p, hp => by
    have h1 : St w0 w (rwP q :: wdR qs :: L) := St.star_ h
    rcases List.mem_cons.1 hp with rfl | hp
    · exact WdAt.of_row (x := p.1) h1
    · exact wdR_all h1.rest p hp
/-- What has come: objects in a row, their words in rows. -/
theorem got_reads {w0 w : World} {v : Value} {ps : List PS} {L : List HP} (h : St w0 w (row 60 4 v ps.length (psC ps) :: wdR ps.reverse :: L)) : ∃ A c, v = .slice A ps.length c ∧ ps.length ≤ c ∧ Kd.C k60 w A (ps.map (·.1)).length (ps.map (·.1)) := by
  obtain ⟨A, c, rfl, hc, hm⟩ := h.row_slice
  refine ⟨A, c, rfl, hc, psC_reads hc hm (fun p hp => wdR_all h.rest p (List.mem_reverse.2 hp)) (fun h0 => ?_)⟩
  obtain ⟨g, c', e, _, hh⟩ := h.row_some h0
  injection e with e1 _ _
  exact ⟨g, e1, hh⟩
theorem got_add {w0 W : World} {F : List HP} {ops : Array Oper} {rest : List Oper} {o : Oper} {a : Act} {Q : Exit → Act → World → Prop} (hgd : o.guard = none) (s x : Operand) (ho : o.op = .call { callee := .builtin .append, args := #[s, x], argTypes := #[110, 110] })
    (v : Value) (ps : List PS) (p : PS) (hs : a.eval s = v) (hx : a.eval x = .slice (some ⟨W.heap.size, 0, none⟩) 1 1) (H : St w0 W (row 60 4 v ps.length (psC ps) :: wdR ps.reverse :: rwP p :: F)) (hl : ps.length ≤ 1000)
    (h : ∀ V w1, St w0 w1 (row 60 4 V (ps ++ [p]).length (psC (ps ++ [p])) :: wdR (ps ++ [p]).reverse :: F) → wpList Tryd.prog ops Q rest (a.put o.dst V) w1) :
    wpList Tryd.prog ops Q (o :: rest) a (W.alloc (.cells #[.int .i64 p.1.f0, .int .i64 p.1.f1, .int .i64 p.1.f2, .slice p.2.1 p.1.f3.length p.2.2] 60)) := by
  refine append_run hgd s x 110 60 (.agg #[.int .i64 0, .int .i64 0, .int .i64 0, .slice none 0 0]) 4 48 ho Tryd.underlying110 (by kernel_rfl) rfl (by decide) (by decide) v ps.length (psC ps) hs ⟨W.heap.size, 0, none⟩ 1 1 [.int .i64 p.1.f0, .int .i64 p.1.f1, .int .i64 p.1.f2, .slice p.2.1 p.1.f3.length p.2.2] hx rfl (new_cells W [.int .i64 p.1.f0, .int .i64 p.1.f1, .int .i64 p.1.f2, .slice p.2.1 p.1.f3.length p.2.2] 60) (by simp [Value.oneCell']) (H.garbage _) (by omega) ?_
  intro A1 c1 w1 hc h1
  refine h _ w1 ?_
  have e1 : (ps ++ [p]).length = ps.length + 1 := by simp
  have e2 : psC (ps ++ [p]) = psC ps ++ [.int .i64 p.1.f0, .int .i64 p.1.f1, .int .i64 p.1.f2, .slice p.2.1 p.1.f3.length p.2.2] := by simp [psC]
  have e3 : (ps ++ [p]).reverse = p :: ps.reverse := by simp
  rw [e1, e2, e3]
  have h2 : St w0 w1 (rwP p :: wdR ps.reverse :: row 60 4 (.slice A1 (ps.length + 1) c1) (ps.length + 1) (psC ps ++ [.int .i64 p.1.f0, .int .i64 p.1.f1, .int .i64 p.1.f2, .slice p.2.1 p.1.f3.length p.2.2]) :: F) := h1.order 3 [2, 1, 0] rfl rfl
  exact (wdR_add h2).order 2 [1, 0] rfl rfl
theorem St_of_R3 {w w' : World} {v : Value} {l : List Int} (h : Kd.R (Kd.int .i64) 3 w' w.heap.size (fun _ => True) v l) (hb : Below w.heap.size w w') : St w w' [row 3 1 v l.length (I64 l)] := by
  obtain ⟨_, inner, ho, hr⟩ := h
  have e : inner = I64 l := by
    have hr1 := hr.1
    refine List.ext_getElem? fun j => ?_
    by_cases hj : j < l.length
    · have h2 := hr.2 j l[j] (List.getElem?_eq_getElem hj)
      have h2 : (inner.drop (j * 1)).take 1 = [.int .i64 l[j]] := h2
      have h3 : ((inner.drop (j * 1)).take 1)[0]? = inner[j]? := by simp [List.getElem?_take, List.getElem?_drop]
      rw [← h3, h2]
      simp [I64, hj]
    · have h3 : (Kd.int .i64).sz = 1 := rfl
      rw [h3] at hr1
      rw [List.getElem?_eq_none (by omega), List.getElem?_eq_none (by simp [I64]; omega)]
  subst e
  refine ⟨hb, fun k => v.ownBlock = some k, fun k hk => own_base ho k hk, fun k => v.ownBlock = some k, fun _ => False, fun k => by simp, fun _ _ h => h, ⟨fun k => Iff.rfl, .inl (own_weaken ho (Nat.zero_le _))⟩, fun k h => h⟩
abbrev gotL (v : Value) (ps : List PS) (b P gD : Nat) (X : List Int) (F : List HP) : List HP := row 60 4 v ps.length (psC ps) :: wdR ps.reverse :: blk b #[.int .i64 ((P : Int) + 1), .int .i64 1, .int .i64 1, .int .i64 64, .int .i64 22, .int .i64 (128 + 64 * (P : Int))] 27 :: blk gD (U X).toArray 22 :: F
abbrev gotR (v : Value) (ps : List PS) (b P gD : Nat) (X : List Int) (A5 : Option Addr) (m c5 : Nat) (js : List J64) (F : List HP) : List HP := row 60 4 v ps.length (psC ps) :: wdR ps.reverse :: blk b #[.int .i64 ((P : Int) + 1), .int .i64 1, .int .i64 1, .int .i64 64, .int .i64 22, .int .i64 (128 + 64 * (P : Int))] 27 :: row 3 1 (.slice A5 m c5) m (I64 (iJ js)) :: blk gD (U X).toArray 22 :: F
theorem rallS_ {w0 w : World} {F : List HP} {gD nN n : Nat} {P : Nat} {X : List Int} {l : List S60} {er : Int} (hP : P < 5) (hX : X.length = nN) (hN : nN = 128 + 64 * P) (hr : ∀ i, 0 ≤ X.getD i 0 ∧ X.getD i 0 < 18446744073709551616) {A2 : Option Addr} {c2 : Nat} {cs : List S161} (hC : Kd.C k161 w0 A2 cs.length cs) (hc : cs.length ≤ c2) (hO : outS P X (cs.map fun x => x.f1.length) (P + 1) 0 [] = (l, er)) (hn : l.length = n) (h : St w0 w (blk gD (U X).toArray 22 :: F)) :
    Calls Tryd.prog 49 #[.slice (some ⟨gD, 0, none⟩) nN nN, .agg #[.int .i64 ((P : Int) + 1), .int .i64 1, .int .i64 1, .int .i64 64, .int .i64 22, .int .i64 (128 + 64 * (P : Int))], .slice A2 cs.length c2] w fun e w' => ∃ A c, e = .returned (.tuple #[.slice A n c, .int .i64 er]) ∧ n ≤ c ∧ Kd.C k60 w' A n l ∧ St w0 w' (blk gD (U X).toArray 22 :: F) := by
  obtain ⟨ns, hns⟩ : ∃ ns, (cs.map fun x => x.f1.length) = ns := ⟨_, rfl⟩
  have HLK : Aside (∀ (at_ R1 R2 R3 Re : Int) (ws : List Int) (w1 : World) (F' : List HP), lookR P X ns at_ = (R1, R2, R3, ws, Re) → St w0 w1 (blk gD (U X).toArray 22 :: F') → Calls Tryd.prog 24 #[.slice (some ⟨gD, 0, none⟩) nN nN, .agg #[.int .i64 ((P : Int) + 1), .int .i64 1, .int .i64 1, .int .i64 64, .int .i64 22, .int .i64 (128 + 64 * (P : Int))], .slice A2 cs.length c2, .int .i64 at_] w1 fun e w' => ∃ A c, e = .returned (.tuple #[.agg #[.int .i64 R1, .int .i64 R2, .int .i64 R3, .slice A ws.length c], .int .i64 Re]) ∧ St w0 w' (row 2 1 (.slice A ws.length c) ws.length (I64 ws) :: blk gD (U X).toArray 22 :: F')) := ⟨fun at_ R1 R2 R3 Re ws w1 F' hR h => by
    rw [← hns] at hR
    refine (rlook_w hP hX hN hr at_ hC hc hR.symm h).mono ?_
    rintro e w' ⟨V, rfl, h9⟩
    obtain ⟨A, c, rfl, _, _⟩ := h9.row_slice
    exact ⟨A, c, rfl, h9⟩⟩
  rw [hns] at hO
  have HO : Aside (outS P X ns (P + 1 - 0) 0 (([] : List PS).map (·.1)) = (l, er)) := ⟨hO⟩
  have H : Aside (St w0 _ (gotL (.slice none 0 0) [] w.heap.size P gD X F)) := Aside.mk ((h.alloc #[.int .i64 ((P : Int) + 1), .int .i64 1, .int .i64 1, .int .i64 64, .int .i64 22, .int .i64 (128 + 64 * (P : Int))] 27).emp_.nil_row 60 4)
  have HPp := Aside.mk hP
  have HXL := Aside.mk hX
  have HNN := Aside.mk hN
  have HXR := Aside.mk hr
  have HNL := Aside.mk hn
  clear h hP hX hN hr hC hc hO hns hn
  go_enter Tryd.func49, Tryd.ntmps49
  go_wp2_with fail
  generalize w.heap.size = b at H ⊢
  go_loopg [8, 9] (P + 1) (fun m v8 v9 w' => ∃ (pg : Nat) (ps : List PS), m = P + 1 - pg ∧ pg ≤ P + 1 ∧ v9 = .int .i64 (pg : Int) ∧ Aside (outS P X ns (P + 1 - pg) pg (ps.map (·.1)) = (l, er)) ∧ Aside (ps.length ≤ 64 * pg) ∧ Aside (St w0 w' (gotL v8 ps b P gD X F)))
  case atStart => exact ⟨0, [], rfl, Nat.zero_le _, rfl, HO, ⟨by simp⟩, H⟩
  case round =>
    clear H HO
    obtain ⟨pg, ps, rfl, hpg, rfl, HO, HL, H⟩ := hrel
    by_cases hlt : pg ≤ P
    · have d1 : decide ((pg : Int) < (P : Int) + 1) = true := by simp; omega
      have n1 : (pg : Int) < (P : Int) + 1 := by omega
      obtain ⟨ia, hia⟩ : ∃ ia, ia = 22 + (P + 1) + pg := ⟨_, rfl⟩
      have hx0 : (0 : Int) ≤ (ia : Int) := by omega
      have nx : (ia : Int) < (nN : Int) := by have := HNN.out; have := HPp.out; omega
      have dx : decide ((ia : Int) < (nN : Int)) = true := by simpa using nx
      have HAC : Aside (windrowref06_Map_Alloc.f ((P : Int) + 1) 1 1 64 22 (128 + 64 * (P : Int)) (pg : Int) = some (ia : Int)) := ⟨by rw [al_w HPp.out hlt, hia]⟩
      obtain ⟨al, hal⟩ : ∃ al, alN P X pg = al := ⟨_, rfl⟩
      have hal0 : X.getD ia 0 = (al : Int) := by rw [← hal, hia]; unfold alN; have := HXR.out (22 + (P + 1) + pg); omega
      have hal1 : al < 18446744073709551616 := by have := HXR.out ia; omega
      obtain ⟨js, hjs⟩ : ∃ js, plcA P X pg = js := ⟨_, rfl⟩
      have HPL : Aside (windrowref01_Places.f 200 (al : Int) = some (iJ js)) := ⟨by rw [places2_ 200 al hal1 (by omega), ← hjs]; unfold plcA; rw [hal]⟩
      have hil : ia < X.length := by rw [HXL.out]; omega
      have HCJ : Aside (∀ (w1 : World) (L : List HP), St w0 w1 (blk gD (U X).toArray 22 :: L) → w1.cell? ⟨gD, ia, none⟩ = some (.int .u64 (al : Int))) := ⟨fun w1 L h => by
        rw [h.cell ia, ← hal0]
        simp [U, List.getD_eq_getElem?_getD, hil]⟩
      obtain ⟨m, hm⟩ : ∃ m, js.length = m := ⟨_, rfl⟩
      have HJL : Aside (js.length = m ∧ m ≤ 64) := ⟨hm, by rw [← hm, ← hjs]; exact ptk_len _ _ _⟩
      have HPG := Aside.mk hlt
      have HO1 : Aside (∀ (ps2 : List PS), inS P X ns pg js (ps.map (·.1)) = (ps2.map (·.1), 0) → outS P X ns (P + 1 - (pg + 1)) (pg + 1) (ps2.map (·.1)) = (l, er)) := ⟨fun ps2 he => by
        have hO := HO.out
        rw [show P + 1 - pg = (P + 1 - (pg + 1)) + 1 by omega, outS, hjs, he, if_pos rfl] at hO
        exact hO⟩
      have HO2 : Aside (∀ e : Int, e ≠ 0 → inS P X ns pg js (ps.map (·.1)) = ([], e) → l = [] ∧ er = e) := ⟨fun e h0 he => by
        have hO := HO.out
        rw [show P + 1 - pg = (P + 1 - (pg + 1)) + 1 by omega, outS, hjs, he, if_neg h0] at hO
        injection hO with h1 h2
        exact ⟨h1.symm, h2.symm⟩⟩
      clear hia hal hal0 hal1 hjs hil hm hlt hpg HO
      have z0 := (H.out.pick 2 rfl).cell 0
      have z1 := (H.out.pick 2 rfl).cell 1
      have z2 := (H.out.pick 2 rfl).cell 2
      have z3 := (H.out.pick 2 rfl).cell 3
      have z4 := (H.out.pick 2 rfl).cell 4
      have z5 := (H.out.pick 2 rfl).cell 5
      go_wp2_with (go_at_call 36; refine (windrowref06_Map_Alloc.calls _ _ _ _ _ _ _ _ _ HAC.out).mono ?_; rintro e w4 ⟨rfl, hb⟩; replace H := Aside.mk (H.out.step hb); clear hb z0 z1 z2 z3 z4 z5; have y0 := HCJ.out _ _ (H.out.pick 3 rfl))
      refine (windrowref01_Places.calls 200 _ _ _ HPL.out).mono ?_
      rintro e w5 ⟨V5, rfl, hR, hb⟩
      have H5 := H.out.join (St_of_R3 hR hb)
      obtain ⟨A5, c5, rfl, _, _⟩ := H5.row_slice
      have hJm : (iJ js).length = m := by rw [iJ, List.length_map]; exact HJL.out.1
      rw [hJm] at H5 ⊢
      replace H : Aside (St w0 w5 (gotR u8 ps b P gD X A5 m c5 js F)) := Aside.mk (H5.order 5 [1, 2, 3, 0, 4] rfl rfl)
      clear H5 hJm hR hb y0
      go_wp2_with fail
      clear d1 n1 hx0 nx dx
      go_loopg [8, 11] m (fun k v8 v11 w' => ∃ (i : Nat) (ps2 : List PS), k = m - i ∧ i ≤ m ∧ v11 = .int .i64 (i : Int) ∧ Aside (inS P X ns pg (js.drop i) (ps2.map (·.1)) = inS P X ns pg js (ps.map (·.1))) ∧ Aside (ps2.length ≤ 64 * pg + i) ∧ Aside (St w0 w' (gotR v8 ps2 b P gD X A5 m c5 js F)))
      case atStart => exact ⟨0, ps, rfl, Nat.zero_le _, rfl, ⟨rfl⟩, ⟨HL.out⟩, H⟩
      case round =>
        clear H
        obtain ⟨i, ps2, rfl, hi, rfl, HI, HL2, H⟩ := hrel
        by_cases hlt : i < m
        · have d2 : decide ((i : Int) < (m : Int)) = true := by simpa using hlt
          have n2 : (i : Int) < (m : Int) := by omega
          have hx0 : (0 : Int) ≤ (i : Int) := by omega
          have hij : i < js.length := by have := HJL.out.1; omega
          obtain ⟨j, hj⟩ : ∃ j : J64, js[i] = j := ⟨_, rfl⟩
          have hdr : js.drop i = j :: js.drop (i + 1) := by rw [← hj]; exact List.drop_eq_getElem_cons hij
          obtain ⟨at_, hat⟩ : ∃ at_ : Nat, at_ = 64 + 64 * pg + j.1 := ⟨_, rfl⟩
          obtain ⟨R1, R2, R3, ws, Re, hR⟩ : ∃ R1 R2 R3 ws Re, lookR P X ns (at_ : Int) = (R1, R2, R3, ws, Re) := ⟨_, _, _, _, _, rfl⟩
          have hlk : lkS P X ns pg j = (⟨R1, R2, R3, ws⟩, Re) := by unfold lkS; rw [← hat, hR]
          have HAT : Aside (wrap64 (wrap64 (64 + wrap64 (64 * (pg : Int))) + ((j.1 : Nat) : Int)) = (at_ : Int)) := ⟨by rw [hat]; exact at_w HPp.out HPG.out j.2⟩
          have HI0 : Aside (Re = 0 → inS P X ns pg (js.drop (i + 1)) (ps2.map (·.1) ++ [⟨R1, R2, R3, ws⟩]) = inS P X ns pg js (ps.map (·.1))) := ⟨fun h0 => by
            have h1 := HI.out
            rw [hdr, inS, hlk, if_pos h0] at h1
            exact h1⟩
          have HI1 : Aside (Re ≠ 0 → inS P X ns pg js (ps.map (·.1)) = ([], Re)) := ⟨fun h0 => by
            have h1 := HI.out
            rw [hdr, inS, hlk, if_neg h0] at h1
            exact h1.symm⟩
          have HLQ := Aside.mk (fun (w1 : World) (F' : List HP) (h : St w0 w1 (blk gD (U X).toArray 22 :: F')) => HLK.out (at_ : Int) R1 R2 R3 Re ws w1 F' hR h)
          obtain ⟨g5, c6, e5, _, h5⟩ := (H.out.pick 3 rfl).row_some (by omega)
          injection e5 with e6 e7 e8
          subst e6
          have HJC : Aside (∀ (w1 : World) (L : List HP), St w0 w1 (row 3 1 (.slice (some ⟨g5, 0, none⟩) m c5) m (I64 (iJ js)) :: L) → w1.cell? ⟨g5, i, none⟩ = some (.int .i64 ((j.1 : Nat) : Int))) := ⟨fun w1 L h => by
            obtain ⟨g9, c9, e9, _, h9⟩ := h.row_some (by omega)
            injection e9 with e9 _ _
            injection e9 with e9
            injection e9 with e9 _ _
            subst e9
            exact h9 i _ (by simp [I64, iJ, hij, hj])⟩
          have HLT := Aside.mk hlt
          clear hi hlt hij hj hdr hat hR hlk h5 HI e7 e8
          go_wp2_with fail
          replace H := Aside.mk H.out.drew
          refine start_ (n := 20) (S := fun w' => w'.cell? ⟨b, 0, none⟩ = some (.int .i64 ((P : Int) + 1)) ∧ w'.cell? ⟨b, 1, none⟩ = some (.int .i64 1) ∧ w'.cell? ⟨b, 2, none⟩ = some (.int .i64 1) ∧ w'.cell? ⟨b, 3, none⟩ = some (.int .i64 64) ∧ w'.cell? ⟨b, 4, none⟩ = some (.int .i64 22) ∧ w'.cell? ⟨b, 5, none⟩ = some (.int .i64 (128 + 64 * (P : Int))) ∧ w'.cell? ⟨g5, i, none⟩ = some (.int .i64 ((j.1 : Nat) : Int))) (ds := []) (flg 20 0) (by kernel_rfl) rfl rfl (⟨(H.out.pick 2 rfl).cell 0, (H.out.pick 2 rfl).cell 1, (H.out.pick 2 rfl).cell 2, (H.out.pick 2 rfl).cell 3, (H.out.pick 2 rfl).cell 4, (H.out.pick 2 rfl).cell 5, HJC.out _ _ (H.out.pick 3 rfl)⟩) (fun hHeld => ?_)
          refine with_tabW ra.tab9 ra.bits9 (fun HT_ HW_ => ?_)
          generalize World.drew _ = y3 at H hHeld ⊢
          refine pu_ (v := ?_) (a' := ?_) 0 (some 35) 1 rfl rfl HT_ (by kernel_rfl) (.inl ⟨by rfl, ?_⟩) ?_ ?_; rotate_left 2; (· intro w'; go_simp; with_reducible rfl); (· simp only [nrm]; rfl)
          refine tk_ (v := ?_) (a' := ?_) 1 (some 36) 3 rfl rfl HT_ HW_ (by kernel_rfl) (.inl ⟨by rfl, ?_⟩) hHeld ?_ ?_; rotate_left 2; (· rintro w' ⟨_, _, _, _, _, _, _⟩; go_simp; with_reducible rfl); (· simp only [nrm]; rfl)
          refine pu_ (v := ?_) (a' := ?_) 2 (some 37) 7 rfl rfl HT_ (by kernel_rfl) (.inl ⟨by rfl, ?_⟩) ?_ ?_; rotate_left 2; (· intro w'; go_simp; with_reducible rfl); (· simp only [nrm]; rfl)
          refine pu_ (v := ?_) (a' := ?_) 3 (some 38) 15 rfl rfl HT_ (by kernel_rfl) (.inl ⟨by rfl, ?_⟩) ?_ ?_; rotate_left 2; (· intro w'; go_simp; with_reducible rfl); (· simp only [nrm]; rfl)
          refine tk_ (v := ?_) (a' := ?_) 4 (some 39) 31 rfl rfl HT_ HW_ (by kernel_rfl) (.inl ⟨by rfl, ?_⟩) hHeld ?_ ?_; rotate_left 2; (· rintro w' ⟨_, _, _, _, _, _, _⟩; go_simp; with_reducible rfl); (· simp only [nrm]; rfl)
          refine pu_ (v := ?_) (a' := ?_) 5 (some 40) 63 rfl rfl HT_ (by kernel_rfl) (.inl ⟨by rfl, ?_⟩) ?_ ?_; rotate_left 2; (· intro w'; go_simp; with_reducible rfl); (· simp only [nrm]; rfl)
          refine pu_ (v := ?_) (a' := ?_) 6 (some 41) 127 rfl rfl HT_ (by kernel_rfl) (.inl ⟨by rfl, ?_⟩) ?_ ?_; rotate_left 2; (· intro w'; go_simp; with_reducible rfl); (· simp only [nrm]; rfl)
          refine pu_ (v := ?_) (a' := ?_) 7 (some 42) 255 rfl rfl HT_ (by kernel_rfl) (.inl ⟨by rfl, ?_⟩) ?_ ?_; rotate_left 2; (· intro w'; go_simp; with_reducible rfl); (· simp only [nrm]; rfl)
          refine pu_ (v := ?_) (a' := ?_) 8 (some 43) 511 rfl rfl HT_ (by kernel_rfl) (.inl ⟨by rfl, ?_⟩) ?_ ?_; rotate_left 2; (· intro w'; go_simp; with_reducible rfl); (· simp only [nrm]; rfl)
          refine pu_ (v := ?_) (a' := ?_) 9 (some 44) 1023 rfl rfl HT_ (by kernel_rfl) (.inl ⟨by rfl, ?_⟩) ?_ ?_; rotate_left 2; (· intro w'; go_simp; with_reducible rfl); (· simp only [nrm]; rfl)
          refine pu_ (v := ?_) (a' := ?_) 10 (some 45) 2047 rfl rfl HT_ (by kernel_rfl) (.inl ⟨by rfl, ?_⟩) ?_ ?_; rotate_left 2; (· intro w'; go_simp; with_reducible rfl); (· simp only [nrm]; rfl)
          refine tk_ (v := ?_) (a' := ?_) 11 (some 46) 4095 rfl rfl HT_ HW_ (by kernel_rfl) (.inl ⟨by rfl, ?_⟩) hHeld ?_ ?_; rotate_left 2; (· rintro w' ⟨_, _, _, _, _, _, _⟩; go_simp; with_reducible rfl); (· simp only [nrm]; rfl)
          refine pu_ (v := ?_) (a' := ?_) 12 (some 47) 8191 rfl rfl HT_ (by kernel_rfl) (.inl ⟨by rfl, ?_⟩) ?_ ?_; rotate_left 2; (· intro w'; go_simp; simp only [i64_w, HAT.out]; with_reducible rfl); (· simp only [nrm]; rfl)
          refine join_ (σ := Nat × Option Addr × Nat) 2 (flg 20 262143) (fun g_ => [(48, .tuple #[.agg #[.int .i64 R1, .int .i64 R2, .int .i64 R3, .slice g_.2.1 ws.length g_.2.2], .int .i64 Re]), (34, .tuple #[.agg #[.int .i64 R1, .int .i64 R2, .int .i64 R3, .slice g_.2.1 ws.length g_.2.2], .int .i64 Re]), (49, .agg #[.int .i64 R1, .int .i64 R2, .int .i64 R3, .slice g_.2.1 ws.length g_.2.2]), (50, .int .i64 Re), (12, .pointer (some ⟨g_.1, 0, none⟩))]) (fun g_ w' => (w'.cell? ⟨b, 0, none⟩ = some (.int .i64 ((P : Int) + 1)) ∧ w'.cell? ⟨b, 1, none⟩ = some (.int .i64 1) ∧ w'.cell? ⟨b, 2, none⟩ = some (.int .i64 1) ∧ w'.cell? ⟨b, 3, none⟩ = some (.int .i64 64) ∧ w'.cell? ⟨b, 4, none⟩ = some (.int .i64 22) ∧ w'.cell? ⟨b, 5, none⟩ = some (.int .i64 (128 + 64 * (P : Int))) ∧ w'.cell? ⟨g5, i, none⟩ = some (.int .i64 ((j.1 : Nat) : Int))) ∧ St w0 w' (blk g_.1 #[.int .i64 0, .int .i64 0, .int .i64 0, .slice none 0 0] 60 :: row 2 1 (.slice g_.2.1 ws.length g_.2.2) ws.length (I64 ws) :: gotR u8 ps2 b P gD X (some ⟨g5, 0, none⟩) m c5 js F)) ?_ ?_
          rotate_left
          · intro hjoin
            simp only [putAll, nrm] at hjoin
            refine two_ (i := 13) (j := 17) (Ni := some 48) (Nj := some 12) (flg 20 16383) (flg 20 139263) rfl rfl rfl rfl (two_of HT_.out (by kernel_rfl)) (by decide) (by decide) (fun K hK => ?_) (fun K hK => ?_)
            · refine goes_ Tryd.func24 (by kernel_rfl) rfl #[.slice (some ⟨gD, 0, none⟩) nN nN, .agg #[.int .i64 ((P : Int) + 1), .int .i64 1, .int .i64 1, .int .i64 64, .int .i64 22, .int .i64 (128 + 64 * (P : Int))], .slice A2 cs.length c2, .int .i64 (at_ : Int)] (by rfl) rfl rfl (by (try simp only [List.map_toArray, List.map_cons, List.map_nil]); first | done | rfl) ?_
              refine (HLQ.out _ _ (H.out.pick 4 rfl)).mono ?_
              rintro e y4 ⟨A6, c6, rfl, h9⟩
              replace H := Aside.mk (h9.order 6 [0, 2, 3, 4, 5, 1] rfl rfl)
              clear h9
              refine ⟨_, rfl, ?_⟩
              clear hHeld
              refine hK.out _ _ ⟨(H.out.pick 3 rfl).cell 0, (H.out.pick 3 rfl).cell 1, (H.out.pick 3 rfl).cell 2, (H.out.pick 3 rfl).cell 3, (H.out.pick 3 rfl).cell 4, (H.out.pick 3 rfl).cell 5, HJC.out _ _ (H.out.pick 4 rfl)⟩ (fun hHeld => ?_)
              clear hK K
              refine norm_ (a' := ?_) ?_ ?_
              rotate_left
              · show Act.put _ (some 48) _ = _
                simp only [nrm]
                rfl
              refine pu_ (v := ?_) (a' := ?_) 14 (some 34) 32767 rfl rfl HT_ (by kernel_rfl) (.inl ⟨by rfl, ?_⟩) ?_ ?_; rotate_left 2; (· intro w'; go_simp; with_reducible rfl); (· simp only [nrm]; rfl)
              refine pu_ (v := ?_) (a' := ?_) 15 (some 49) 65535 rfl rfl HT_ (by kernel_rfl) (.inl ⟨by rfl, ?_⟩) ?_ ?_; rotate_left 2; (· intro w'; go_simp; with_reducible rfl); (· simp only [nrm]; rfl)
              refine pu_ (v := ?_) (a' := ?_) 16 (some 50) 131071 rfl rfl HT_ (by kernel_rfl) (.inl ⟨by rfl, ?_⟩) ?_ ?_; rotate_left 2; (· intro w'; go_simp; with_reducible rfl); (· simp only [nrm]; rfl)
              refine on_ 17 (some 12) 262143 rfl rfl HT_ (by kernel_rfl) (by decide) (fun K hK => ?_)
              refine value_ (w1 := ?_) (v := ?_) (by rfl) rfl ?_ ?_
              rotate_left 2
              · go_simp
                constructor
                · rfl
                · rfl
              replace H := Aside.mk (H.out.alloc #[.int .i64 0, .int .i64 0, .int .i64 0, .slice none 0 0] 60)
              clear hHeld
              refine hK.out _ _ ⟨(H.out.pick 4 rfl).cell 0, (H.out.pick 4 rfl).cell 1, (H.out.pick 4 rfl).cell 2, (H.out.pick 4 rfl).cell 3, (H.out.pick 4 rfl).cell 4, (H.out.pick 4 rfl).cell 5, HJC.out _ _ (H.out.pick 5 rfl)⟩ (fun hHeld => ?_)
              clear hK K
              refine norm_ (a' := ?_) ?_ ?_
              rotate_left
              · show Act.put _ (some 12) _ = _
                simp only [nrm]
                rfl
              exact hjoin (_, _, _) _ ⟨hHeld, H.out⟩
            · refine value_ (w1 := ?_) (v := ?_) (by rfl) rfl ?_ ?_
              rotate_left 2
              · go_simp
                constructor
                · rfl
                · rfl
              replace H := Aside.mk (H.out.alloc #[.int .i64 0, .int .i64 0, .int .i64 0, .slice none 0 0] 60)
              clear hHeld
              refine hK.out _ _ ⟨(H.out.pick 3 rfl).cell 0, (H.out.pick 3 rfl).cell 1, (H.out.pick 3 rfl).cell 2, (H.out.pick 3 rfl).cell 3, (H.out.pick 3 rfl).cell 4, (H.out.pick 3 rfl).cell 5, HJC.out _ _ (H.out.pick 4 rfl)⟩ (fun hHeld => ?_)
              clear hK K
              refine norm_ (a' := ?_) ?_ ?_
              rotate_left
              · show Act.put _ (some 12) _ = _
                simp only [nrm]
                rfl
              refine on_ 13 (some 48) 147455 rfl rfl HT_ (by kernel_rfl) (by decide) (fun K hK => ?_)
              refine goes_ Tryd.func24 (by kernel_rfl) rfl #[.slice (some ⟨gD, 0, none⟩) nN nN, .agg #[.int .i64 ((P : Int) + 1), .int .i64 1, .int .i64 1, .int .i64 64, .int .i64 22, .int .i64 (128 + 64 * (P : Int))], .slice A2 cs.length c2, .int .i64 (at_ : Int)] (by rfl) rfl rfl (by (try simp only [List.map_toArray, List.map_cons, List.map_nil]); first | done | rfl) ?_
              refine (HLQ.out _ _ (H.out.pick 5 rfl)).mono ?_
              rintro e y4 ⟨A6, c6, rfl, h9⟩
              replace H := Aside.mk (h9.order 7 [2, 0, 3, 4, 5, 6, 1] rfl rfl)
              clear h9
              refine ⟨_, rfl, ?_⟩
              clear hHeld
              refine hK.out _ _ ⟨(H.out.pick 4 rfl).cell 0, (H.out.pick 4 rfl).cell 1, (H.out.pick 4 rfl).cell 2, (H.out.pick 4 rfl).cell 3, (H.out.pick 4 rfl).cell 4, (H.out.pick 4 rfl).cell 5, HJC.out _ _ (H.out.pick 5 rfl)⟩ (fun hHeld => ?_)
              clear hK K
              refine norm_ (a' := ?_) ?_ ?_
              rotate_left
              · show Act.put _ (some 48) _ = _
                simp only [nrm]
                rfl
              refine pu_ (v := ?_) (a' := ?_) 14 (some 34) 163839 rfl rfl HT_ (by kernel_rfl) (.inl ⟨by rfl, ?_⟩) ?_ ?_; rotate_left 2; (· intro w'; go_simp; with_reducible rfl); (· simp only [nrm]; rfl)
              refine pu_ (v := ?_) (a' := ?_) 15 (some 49) 196607 rfl rfl HT_ (by kernel_rfl) (.inl ⟨by rfl, ?_⟩) ?_ ?_; rotate_left 2; (· intro w'; go_simp; with_reducible rfl); (· simp only [nrm]; rfl)
              refine pu_ (v := ?_) (a' := ?_) 16 (some 50) 262143 rfl rfl HT_ (by kernel_rfl) (.inl ⟨by rfl, ?_⟩) ?_ ?_; rotate_left 2; (· intro w'; go_simp; with_reducible rfl); (· simp only [nrm]; rfl)
              exact hjoin (_, _, _) _ ⟨hHeld, H.out⟩
          rintro ⟨cb, A6, c6⟩ y7 ⟨hHeld, hst⟩
          replace H := Aside.mk hst
          clear hst
          refine norm_ (a' := ?_) ?_ ?_
          rotate_left
          · simp only [putAll, nrm]
            rfl
          refine on_ 18 (none) 524287 rfl rfl HT_ (by kernel_rfl) (by decide) (fun K hK => ?_)
          refine skip_ (by rfl) rfl (st_run_store (seg := [.int .i64 R1, .int .i64 R2, .int .i64 R3, .slice A6 ws.length c6]) rfl rfl rfl rfl (Nat.le_of_ble_eq_true rfl) (by simp [Value.oneCell']) H.out) ?_
          have h8 := H.out.setCells 0 [.int .i64 R1, .int .i64 R2, .int .i64 R3, .slice A6 ws.length c6] (Nat.le_of_ble_eq_true rfl)
          generalize World.setCells _ _ _ _ = y8 at h8 ⊢
          replace H : Aside (St w0 y8 (blk cb #[.int .i64 R1, .int .i64 R2, .int .i64 R3, .slice A6 ws.length c6] 60 :: row 2 1 (.slice A6 ws.length c6) ws.length (I64 ws) :: gotR u8 ps2 b P gD X (some ⟨g5, 0, none⟩) m c5 js F)) := Aside.mk h8
          clear h8
          clear hHeld
          refine hK.out _ _ ⟨(H.out.pick 4 rfl).cell 0, (H.out.pick 4 rfl).cell 1, (H.out.pick 4 rfl).cell 2, (H.out.pick 4 rfl).cell 3, (H.out.pick 4 rfl).cell 4, (H.out.pick 4 rfl).cell 5, HJC.out _ _ (H.out.pick 5 rfl)⟩ (fun hHeld => ?_)
          clear hK K
          refine pu_ (v := ?_) (a' := ?_) 19 (some 13) 1048575 rfl rfl HT_ (by kernel_rfl) (.inl ⟨by rfl, ?_⟩) ?_ ?_; rotate_left 2; (· intro w'; go_simp; with_reducible rfl); (· simp only [nrm]; rfl)
          refine done_ (done_of HT_.out (by kernel_rfl)) ?_
          clear HT_ HW_ hHeld
          by_cases h0 : Re = 0
          · subst h0
            have y0 := H.out.cell 0
            have y1 := H.out.cell 1
            have y2 := H.out.cell 2
            have y3 := H.out.cell 3
            have H2 := Aside.mk (H.out.rest.order 3 [1, 2, 0] rfl rfl)
            clear H
            go_wp2_with (at_builtin; refine got_add rfl (.tmp 54) (.tmp 56) rfl _ ps2 (⟨R1, R2, R3, ws⟩, A6, c6) rfl rfl H2.out (by have := HL2.out; have := HPG.out; have := HPp.out; have := HLT.out; have := HJL.out.2; omega) ?_; intro V9 w9 h9; have H := Aside.mk h9; clear h9 H2 y0 y1 y2 y3)
            have hlt := HLT.out
            have hm64 := HJL.out.2
            go_roundg (m - (i + 1))
            case measure => omega
            case rel => exact ⟨i + 1, ps2 ++ [(⟨R1, R2, R3, ws⟩, A6, c6)], rfl, by omega, by first | rfl | (rw [w64s (by omega)]; done), ⟨by rw [List.map_append]; first | exact HI0.out rfl | exact HI0.out trivial⟩, ⟨by have := HL2.out; simp only [List.length_append, List.length_singleton]; omega⟩, H⟩
          · have de : (Re != 0) = true := by simpa using h0
            have HE := Aside.mk (HO2.out Re h0 (HI1.out h0))
            clear h0
            go_wp2
            go_ret2
            obtain ⟨e1, e2⟩ := HE.out
            subst e1
            subst e2
            have hn0 : n = 0 := HNL.out.symm
            subst hn0
            exact ⟨none, 0, rfl, Nat.le_refl _, ⟨rfl, by simp, fun h => absurd h (by simp)⟩, H.out.rest.rest.rest.rest.rest.rest⟩
        · obtain rfl : i = m := by omega
          have d2 : decide ((i : Int) < (i : Int)) = false := by simp
          have HH := HO1.out ps2 (by have h1 := HI.out; rw [List.drop_of_length_le (by have := HJL.out.1; omega), inS] at h1; exact h1.symm)
          have hp := HPG.out
          have hp5 := HPp.out
          have hj64 := HJL.out.2
          go_wp2
          go_roundg (P + 1 - (pg + 1))
          case measure => omega
          case rel => exact ⟨pg + 1, ps2, rfl, by omega, by first | rfl | (rw [w64s (by omega)]; done), ⟨HH⟩, ⟨by have := HL2.out; omega⟩, ⟨(H.out.pick 3 rfl).rest⟩⟩
    · obtain rfl : pg = P + 1 := by omega
      have d1 : decide (((P + 1 : Nat) : Int) < (P : Int) + 1) = false := by simp
      have n1 : ¬ (((P + 1 : Nat) : Int) < (P : Int) + 1) := by omega
      have z0 := (H.out.pick 2 rfl).cell 0
      have hO := HO.out
      rw [Nat.sub_self, outS] at hO
      injection hO with h1 h2
      subst h1
      subst h2
      go_wp2
      go_ret2
      obtain ⟨A, c, rfl, hc, hC⟩ := got_reads H.out
      have hn := HNL.out
      rw [List.length_map] at hn
      subst hn
      rw [List.length_map] at hC
      exact ⟨A, c, rfl, hc, hC, H.out.rest.rest.rest⟩
end Go.Proofs.YtelfiegocdjnoaaDoor.Ar
