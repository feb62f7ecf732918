/- The document's writer: put, count, text, kind, kinds. Conditions: the bytes stay below 2^40. -/
import Derived.Test.YtakpdmkfengghaaProg
import Derived.Test.YtakpdmkfengghaaSep
import Derived.Test.YtakpdmkfengghaaIn0
import Derived.Test.YtakpdmkfengghaaSep2
import Derived.Test.YtakpdmkfengghaaRp
import Derived.Test.YtakpdmkfengghaaF46
import Derived.Test.YtakpdmkfengghaaF47
import Derived.Test.YtakpdmkfengghaaQ4
import Derived.Test.YtakpdmkfengghaaWp1
import Derived.StillTailTactics
import Derived.Below
import Derived.Deep.Draws
import Derived.Deep.AppendLies
import Derived.Maps.AppendAt
import Derived.OwnWalk
import Derived.Laws.BytesArg
import Derived.Laws.MakeOwn
import Derived.Laws.OwnMore
import Derived.Deep.OwnRows
import Derived.Tactics
import Derived.Lib.ConvBytes
import Derived.Laws.Slices
import Derived.WalkKit
import Derived.KernelRfl
import Derived.RowKit3
import Derived.Deep.LoopGhost
import Derived.Deep.QuietTactic
import Derived.BigQuiet
import Derived.WideLaws
import Derived.Deep.DeepCutAuto
import Derived.Deep.CutBlock
import Derived.Deep.RegionHeld3
import Derived.Laws.Rows
import Derived.Lib.AppendStr
import Derived.ArgAppend
import Derived.Laws.IdiomCopy
import Derived.OrdersHeld
import Derived.Laws.BitsLemmas
import Derived.RowKit
import Derived.Lib.SlBytesConst
import Derived.Test.YtakpdmkfengghaaWMore
import Derived.Test.YtakpdmkfengghaaWLast
namespace Go.Proofs.Ytakpdmkfengghaa.Rf
open Go Go.RowKit Go.Proofs.Ytakpdmkfengghaa.Sep Go.Proofs.YtakpdmkfengghaaW.PrintWords Go.Proofs.YtakpdmkfengghaaW.PrintLast Go.Proofs.YtakpdmkfengghaaW.PrintMore Go.Proofs.Ytakpdmkfengghaa.Q Go.Proofs.Ytakpdmkfengghaa.Pe Go.Proofs.Ytakpdmkfengghaa.Wr
set_option linter.unusedVariables false
set_option linter.unusedSimpArgs false

/-- A value of the type part: its bytes, its error. -/
abbrev prow (v : Value) (s : Wst) : HP := row 5 1 v s.1.length (u8s s.1)
theorem Number_any (n : Nat) (hn : n < 18446744073709551616) : Evt (fun k => windrowref13_Number.f k n) (vint n) := by
  have key : ∀ (k n : Nat), n < 128 ^ (k + 1) → n < 18446744073709551616 → ∀ pre : List Int, pre.length + k + 1 < 1000 → Evt (fun q => windrowref13_Number.l0 q n pre) (pre ++ vint n) := by
    intro k
    induction k with
    | zero =>
      intro n h hn pre hp
      refine Evt.succ (fun q => by simp only [windrowref13_Number.l0]; rw [if_neg (by omega), if_pos (by omega)]) ((Evt.const _).to ?_)
      rw [vint_small (by omega)]
      congr 2
      omega
    | succ k ih =>
      intro n h hn pre hp
      by_cases hs : n < 128
      · refine Evt.succ (fun q => by simp only [windrowref13_Number.l0]; rw [if_neg (by omega), if_pos (by omega)]) ((Evt.const _).to ?_)
        rw [vint_small hs]
        congr 2
        omega
      · have e1 : IntKind.u64.wrap (Int.tdiv (n : Int) 128) = ((n / 128 : Nat) : Int) := by
          show (Int.tdiv (n : Int) 128) % 18446744073709551616 = _
          rw [Int.tdiv_eq_ediv_of_nonneg (by omega)]
          omega
        have e2 : (IntKind.u64.wrap (128 + (Int.tmod (n : Int) 128))) % 256 = ((n % 128 + 128 : Nat) : Int) := by
          show ((128 + (Int.tmod (n : Int) 128)) % 18446744073709551616) % 256 = _
          rw [Int.tmod_eq_emod_of_nonneg (by omega)]
          omega
        refine Evt.succ (g := fun q => windrowref13_Number.l0 q ((n / 128 : Nat) : Int) (pre ++ [((n % 128 + 128 : Nat) : Int)])) (fun q => by simp only [windrowref13_Number.l0]; rw [if_pos (by omega), if_pos (by omega), e1, e2]) ?_
        have := ih (n / 128) (by rw [Nat.pow_succ] at h; omega) (by omega) (pre ++ [((n % 128 + 128 : Nat) : Int)]) (by simp only [List.length_append, List.length_singleton]; omega)
        rw [vint_step hs]
        exact this.to (by rw [List.append_assoc]; rfl)
  exact (key 9 n (by omega) hn [] (by decide)).to (by simp)
/-- A new row, out of the print's words. -/
theorem St_of_R {w w' : World} {v : Value} {l : List Int} (h : Kd.R (Kd.int .u8) 5 w' w.heap.size (fun _ => True) v l) (hb : Below w.heap.size w w') : St w w' [row 5 1 v l.length (u8s l)] := by
  obtain ⟨_, inner, ho, hr⟩ := h
  have e : inner = u8s l := by
    have hr1 := hr.1
    refine List.ext_getElem? fun j => ?_
    by_cases hj : j < l.length
    · have h2 := hr.2 j l[j] (List.getElem?_eq_getElem hj)
      have h2 : (inner.drop (j * 1)).take 1 = [.int .u8 l[j]] := h2
      have h3 : ((inner.drop (j * 1)).take 1)[0]? = inner[j]? := by simp [List.getElem?_take, List.getElem?_drop]
      rw [← h3, h2]
      simp [u8s, hj]
    · have h3 : (Kd.int .u8).sz = 1 := rfl
      rw [h3] at hr1
      rw [List.getElem?_eq_none (by omega), List.getElem?_eq_none (by simp [u8s]; omega)]
  subst e
  refine ⟨hb, fun k => v.ownBlock = some k, fun k hk => own_base ho k hk, fun k => v.ownBlock = some k, fun _ => False, fun k => by simp, fun _ _ h => h, ⟨fun k => Iff.rfl, .inl (own_weaken ho (Nat.zero_le _))⟩, fun k h => h⟩
theorem ref_number (n : Nat) (hn : n < 18446744073709551616) (w : World) : Calls Try.prog 46 #[.int .u64 n] w fun en w' => ∃ A c, en = .returned (.slice A (vint n).length c) ∧ St w w' [row 5 1 (.slice A (vint n).length c) (vint n).length (u8s (vint n))] := by
  obtain ⟨k, hk⟩ := Evt_at (Number_any n hn)
  refine (windrowref13_Number.calls k n (vint n) w hk).mono fun en w' ⟨v, he, hR, hb⟩ => ?_
  have hs := St_of_R hR hb
  obtain ⟨A, c, rfl, _⟩ := hs.row_slice
  exact ⟨A, c, he, hs⟩

theorem reads_cells {w : World} {A : Option Addr} {l : List Int} (h : Kd.C (Kd.int .u8) w A l.length l) (h0 : 0 < l.length) : ∃ ad, A = some ad ∧ ∀ j u, (u8s l)[j]? = some u → w.cell? (ad.add j) = some u := by
  obtain ⟨ad, rfl, hc⟩ := h.2.2 h0
  refine ⟨ad, rfl, fun j u hj => ?_⟩
  have hj1 : j < l.length := by have := (List.getElem?_eq_some_iff.1 hj).1; simpa [u8s] using this
  obtain ⟨c, hs, hK, hcell⟩ := hc j l[j] (List.getElem?_eq_getElem hj1)
  have hK : c = [.int .u8 l[j]] := hK
  subst hK
  have e : u = .int .u8 l[j] := by simpa [u8s, hj1, eq_comm] using hj
  have h2 := hcell 0 u (by rw [e]; rfl)
  have h3 : (Kd.int .u8).sz = 1 := rfl
  rw [h3, Nat.mul_one, Nat.add_zero] at h2
  exact h2
theorem one_u8 (l : List Int) : ∀ u ∈ u8s l, u.oneCell' = true := by
  intro u hu
  obtain ⟨x, _, rfl⟩ := List.mem_map.1 hu
  rfl
theorem u8s_length (l : List Int) : (u8s l).length = l.length * 1 := by simp [u8s]
theorem u8s_append (l m : List Int) : u8s (l ++ m) = u8s l ++ u8s m := by simp [u8s]
theorem size_alloc (w : World) (o : Obj) : (w.alloc o).heap.size = w.heap.size + 1 := Array.size_push _
/-- Two blocks of the type part, new. -/
theorem two_parts {w0 w : World} {L : List HP} (h : St w0 w L) (a b : Array Value) (t : TypeId) : St w0 ((w.alloc (.cells a t (0, 0))).alloc (.cells b t (0, 0))) (blk (w.heap.size + 1) b t :: blk w.heap.size a t :: L) := by
  have := (h.alloc a t).alloc b t
  rwa [size_alloc] at this
theorem below_two (w : World) (o o' : Obj) : Below w.heap.size w ((w.alloc o).alloc o') := below_alloc (below_alloc (Below.refl _ _) o) o'

set_option maxHeartbeats 8000000 in
set_option maxRecDepth 100000 in
theorem ref_put (s : Wst) (v : Value) (A : Option Addr) (c : Nat) (l : List Int) (e : Int) (hc : l.length ≤ c) (hl : s.2 = 0 → s.1.length + l.length ≤ 1099511627776) (w0 w : World) (F : List HP) (h : St w0 w (prow v s :: F)) (hr : Kd.C (Kd.int .u8) w A l.length l) (hnil : A = none → c = 0) :
    Calls Try.prog 45 #[.agg #[v, .int .i64 s.2], .slice A l.length c, .int .i64 e] w fun en w' => ∃ B d, en = .returned (.agg #[.slice B (pPut s l e).1.length d, .int .i64 (pPut s l e).2]) ∧ St w0 w' (prow (.slice B (pPut s l e).1.length d) (pPut s l e) :: F) := by
  obtain ⟨D, cv, rfl, hcv, _⟩ := h.row_slice
  have HR := Aside.mk hr
  by_cases h1 : s.2 = 0
  · have HL := Aside.mk (hl h1)
    by_cases h2 : e = 0
    · have e1 : pPut s l e = (s.1 ++ l, 0) := by unfold pPut; rw [if_pos h1, if_pos h2]
      rw [e1]
      subst h2
      rw [h1]
      have HH := Aside.mk (two_parts h #[.slice D s.1.length cv, .int .i64 0] #[.slice none 0 0, .int .i64 0] 61)
      have HN := Aside.mk (two_parts h #[.slice D s.1.length cv, .int .i64 0] #[.slice D s.1.length cv, .int .i64 0] 61)
      clear h hr hl e1
      cases A with
      | none =>
        obtain rfl : c = 0 := hnil rfl
        obtain rfl : l = [] := List.length_eq_zero_iff.1 (by omega)
        clear hnil h1 HR
        go_enter Try.func45, Try.ntmps45
        go_wp2_with (at_builtin; refine append_none rfl (.tmp 16) (.tmp 17) 31 5 (.int .u8 0) 1 1 rfl Try.underlying31 Wr.info5 _ _ _ rfl rfl (HH.out.pick 2 rfl) ?_)
        refine bodyPost_ret (results_cell_row rfl _ _ (w.heap.size + 1) 61 #[.slice D s.1.length cv, .int .i64 0] (0, 0) _ rfl HN.out.heap Try.underlying61 rfl (by kernel_rfl)) rfl ?_
        refine ⟨D, cv, by rw [List.append_nil], ?_⟩
        show St w0 _ (row 5 1 (.slice D (s.1 ++ []).length cv) (s.1 ++ []).length (u8s (s.1 ++ [])) :: F)
        rw [List.append_nil]
        exact HN.out.rest.rest
      | some ad =>
        have hcells : ∀ j u, (u8s l)[j]? = some u → ((w.alloc (.cells #[.slice D s.1.length cv, .int .i64 0] 61 (0, 0))).alloc (.cells #[.slice none 0 0, .int .i64 0] 61 (0, 0))).cell? (ad.add j) = some u := by
          intro j u hj
          have hj1 : 0 < l.length := by have := (List.getElem?_eq_some_iff.1 hj).1; simp [u8s] at this; omega
          obtain ⟨ad', he, hcl⟩ := reads_cells (Kd.C_below HR.out (below_two w (.cells #[.slice D s.1.length cv, .int .i64 0] 61 (0, 0)) (.cells #[.slice none 0 0, .int .i64 0] 61 (0, 0)))) hj1
          injection he with he
          subst he
          exact hcl j u hj
        have HC := Aside.mk hcells
        clear hcells hnil h1 HN
        go_enter Try.func45, Try.ntmps45
        go_wp2_with (at_builtin; go_loud (refine append_run rfl (.tmp 16) (.tmp 17) 31 5 (.int .u8 0) 1 1 rfl Try.underlying31 Wr.info5 rfl (by decide) (by decide) _ _ _ rfl ad l.length c (u8s l) rfl (u8s_length l) HC.out (one_u8 l) (HH.out.pick 2 rfl) ?hl ?_))
        case hl => have := HL.out; omega
        intro A1 c1 w1 hc1 h1
        have h2 : St w0 w1 _ := h1.perm (.swap _ _ _)
        have hk0 := h2.cell 0
        have hk1 := h2.cell 1
        have hf0 := h2.frozen 0
        have hf1 := h2.frozen 1
        have H2 := Aside.mk h2
        clear h1 h2
        go_wp2
        have h3 := (H2.out.put 0 (.slice A1 (s.1.length + l.length) c1) (cs' := #[.slice A1 (s.1.length + l.length) c1, .int .i64 0]) rfl).put 1 (.int .i64 0) (cs' := #[.slice A1 (s.1.length + l.length) c1, .int .i64 0]) rfl
        refine bodyPost_ret (results_cell_row rfl _ _ (w.heap.size + 1) 61 #[.slice A1 (s.1.length + l.length) c1, .int .i64 0] (0, 0) _ rfl h3.heap Try.underlying61 rfl (by kernel_rfl)) rfl ?_
        refine ⟨A1, c1, by rw [List.length_append], ?_⟩
        have h4 := (h3.rest.perm (.swap _ _ _)).rest
        show St w0 _ (row 5 1 (.slice A1 (s.1 ++ l).length c1) (s.1 ++ l).length (u8s (s.1 ++ l)) :: F)
        rw [List.length_append, u8s_append]
        exact h4
    · have e1 : pPut s l e = ([], e) := by unfold pPut; rw [if_pos h1, if_neg h2]
      rw [e1, h1]
      have h2b : (e != 0) = true := by simpa using h2
      have HH := Aside.mk (two_parts h #[.slice D s.1.length cv, .int .i64 0] #[.slice none 0 0, .int .i64 e] 61)
      clear h hr hl hnil
      clear h1 h2 e1
      go_enter Try.func45, Try.ntmps45
      go_wp2
      refine bodyPost_ret (results_cell_row rfl _ _ (w.heap.size + 1) 61 #[.slice none 0 0, .int .i64 e] (0, 0) _ rfl (HH.out.heap) Try.underlying61 rfl (by kernel_rfl)) rfl ?_
      exact ⟨none, 0, rfl, (HH.out.rest.rest.rest).nil_row 5 1⟩
  · have e1 : pPut s l e = s := if_neg h1
    rw [e1]
    have h1b : (s.2 != 0) = true := by simpa using h1
    have HH := Aside.mk (two_parts h #[.slice D s.1.length cv, .int .i64 s.2] #[.slice D s.1.length cv, .int .i64 s.2] 61)
    clear h hr hl hnil
    clear h1 e1
    go_enter Try.func45, Try.ntmps45
    go_wp2
    refine bodyPost_ret (results_cell_row rfl _ _ (w.heap.size + 1) 61 #[.slice D s.1.length cv, .int .i64 s.2] (0, 0) _ rfl (HH.out.heap) Try.underlying61 rfl (by kernel_rfl)) rfl ?_
    exact ⟨D, cv, rfl, HH.out.rest.rest⟩
/-- What a method of the document's writer answers. -/
abbrev PPost (s : Wst) (w0 : World) (F : List HP) (en : Ending) (w' : World) : Prop := ∃ B d, en = .returned (.agg #[.slice B s.1.length d, .int .i64 s.2]) ∧ St w0 w' (prow (.slice B s.1.length d) s :: F)
theorem C_nil (w : World) : Kd.C (Kd.int .u8) w none ([] : List Int).length [] := ⟨rfl, by decide, fun h => absurd h (by decide)⟩
theorem row_nil {w0 w : World} {F : List HP} {n c : Nat} {l : List Value} (h : St w0 w (row 5 1 (.slice none n c) n l :: F)) : c = 0 := by
  rcases h.owns with ho | ⟨g, cur, fz, he, _⟩
  · rcases ho.2 with ⟨he, _⟩ | ⟨g, cap, cur, he, _⟩
    · injection he with _ _ hc
    · cases he
  · cases he
/-- What was answered has been stored to the result's block: done. -/
theorem part_ret {fn : Func} {p : Tmp} (hfn : fn.results = #[.cell p 61]) {s : Wst} {w0 w1 : World} {g : Nat} {B : Option Addr} {d : Nat} {x y : Value} {F : List HP} {a : Act} (hp : a.tmps.getD p undef = .pointer (some ⟨g, 0, none⟩))
    (h : St w0 w1 (blk g #[x, y] 61 :: prow (.slice B s.1.length d) s :: F)) (hd : a.defers = []) : bodyPost Try.prog fn (PPost s w0 F) Exit.ret a ((w1.setCell ⟨g, 0, none⟩ (.slice B s.1.length d)).setCell ⟨g, 1, none⟩ (.int .i64 s.2)) := by
  have h2 := (h.put 0 (.slice B s.1.length d) (cs' := #[.slice B s.1.length d, y]) rfl).put 1 (.int .i64 s.2) (cs' := #[.slice B s.1.length d, .int .i64 s.2]) rfl
  refine bodyPost_ret (results_cell_row hfn _ _ g 61 #[.slice B s.1.length d, .int .i64 s.2] (0, 0) _ hp h2.heap Try.underlying61 rfl (by kernel_rfl)) hd ?_
  exact ⟨B, d, rfl, h2.rest⟩
set_option maxHeartbeats 8000000 in
set_option maxRecDepth 100000 in
theorem ref_count (s : Wst) (v : Value) (n most : Nat) (hm : most ≤ 1000) (hl : s.1.length ≤ 1099511627000) (w0 w : World) (F : List HP) (h : St w0 w (prow v s :: F)) :
    Calls Try.prog 25 #[.agg #[v, .int .i64 s.2], .int .i64 n, .int .i64 most] w (PPost (pCount s n most) w0 F) := by
  have HL := Aside.mk hl
  have HH := Aside.mk (two_parts h #[v, .int .i64 s.2] #[.slice none 0 0, .int .i64 0] 61)
  by_cases hs : n ≤ most
  · have e : pCount s n most = pPut s (vint n) 0 := if_pos hs
    rw [e]
    clear e
    clear h hl
    have hb : n ≤ 1000 := by omega
    have hn : n < 18446744073709551616 := by omega
    go_enter Try.func25, Try.ntmps25
    go_wp2
    have hn64 : IntKind.u64.wrap (n : Int) = n := by show (n : Int) % 18446744073709551616 = n; omega
    have HN := Aside.mk hn64
    have HH2 := Aside.mk HH.out.drew
    clear HH
    refine start_ (n := 6) (S := fun w' => w'.cell? ⟨w.heap.size, 0, none⟩ = some v ∧ w'.cell? ⟨w.heap.size, 1, none⟩ = some (.int .i64 s.2)) (ds := [5]) #[false, false, false, false, false, false] (by kernel_rfl) rfl rfl ⟨(HH2.out.pick 1 rfl).cell 0, (HH2.out.pick 1 rfl).cell 1⟩ (fun hHeld => ?_)
    generalize World.drew _ = w2 at HH2 hHeld ⊢
    refine pure_ (i := 1) (N := some 13) (v := ?_) (a' := ?_) #[false, true, false, false, false, false] rfl rfl (by kernel_rfl) (fun _ _ _ h => h) (Or.inl ⟨by rfl, ?_⟩) ?_ ?_
    rotate_left
    · intro w'
      go_simp
      with_reducible rfl
    rotate_left
    · simp only [Act.put, List.setIfInBounds_toArray, List.set_cons_zero, List.set_cons_succ, i64_w, i32_w]
      rfl
    refine pure_ (i := 2) (N := some 14) (v := ?_) (a' := ?_) #[false, true, true, false, false, false] rfl rfl (by kernel_rfl) (fun _ _ _ h => h) (Or.inl ⟨by rfl, ?_⟩) ?_ ?_
    rotate_left
    · intro w'
      go_simp
      with_reducible rfl
    rotate_left
    · simp only [Act.put, List.setIfInBounds_toArray, List.set_cons_zero, List.set_cons_succ, i64_w, i32_w]
      rfl
    refine take_ (i := 0) (N := some 12) (v := ?_) (a' := ?_) #[true, true, true, false, false, false] rfl rfl (by kernel_rfl) (fun _ _ _ h => h) (Or.inl ⟨by rfl, ?_⟩) hHeld ?_ ?_
    rotate_left
    · rintro w' ⟨s0, s1⟩
      go_simp
      with_reducible rfl
    rotate_left
    · simp only [Act.put, List.setIfInBounds_toArray, List.set_cons_zero, List.set_cons_succ, i64_w, i32_w]
      rfl
    refine one_ (i := 3) (N := some 15) #[true, true, true, true, false, false] rfl rfl (by kernel_rfl) (by decide) (fun K hK => ?_)
    refine goes_ Try.func46 (by kernel_rfl) rfl #[.int .u64 n] (by rfl) rfl rfl (by (try simp only [List.map_toArray, List.map_cons, List.map_nil]); first | done | rfl) ?_
    refine (ref_number n hn _).mono ?_
    rintro e w3 ⟨A, c, rfl, h3⟩
    refine ⟨_, rfl, ?_⟩
    have h4 : St w0 w3 _ := HH2.out.join h3
    have HJ := Aside.mk h4
    refine hK.out _ _ ⟨(h4.pick 2 rfl).cell 0, (h4.pick 2 rfl).cell 1⟩ (fun hHeld => ?_)
    clear hK K h3 h4 HH2
    refine norm_ (a' := ?_) ?_ ?_
    rotate_left
    · show Act.put _ (some 15) _ = _
      simp only [Act.put, List.setIfInBounds_toArray, List.set_cons_zero, List.set_cons_succ, i64_w, i32_w]
      rfl
    refine one_ (i := 4) (N := some 16) #[true, true, true, true, true, false] rfl rfl (by kernel_rfl) (by decide) (fun K hK => ?_)
    refine goes_ Try.func45 (by kernel_rfl) rfl #[.agg #[v, .int .i64 s.2], .slice A (vint n).length c, .int .i64 0] (by rfl) rfl rfl (by (try simp only [List.map_toArray, List.map_cons, List.map_nil]); first | done | rfl) ?_
    refine (ref_put s v A c (vint n) 0 (row_cap HJ.out) (fun _ => by have := HL.out; have := vint_len10 hn; omega) w0 _ _ (HJ.out.pick 3 rfl) (row_reads HJ.out).2 (fun h => ?_)).mono ?_
    · subst h
      exact row_nil HJ.out
    rintro e w4 ⟨B, d, rfl, h4⟩
    refine ⟨_, rfl, ?_⟩
    have h5 : St w0 w4 _ := (((((h4.pick 1 rfl).rest).pick 2 rfl).rest).perm (.swap _ _ _) : St w0 w4 (blk (w.heap.size + 1) #[.slice none 0 0, .int .i64 0] 61 :: prow (.slice B (pPut s (vint n) 0).1.length d) (pPut s (vint n) 0) :: F))
    refine hK.out _ _ ⟨(h4.pick 3 rfl).cell 0, (h4.pick 3 rfl).cell 1⟩ (fun hHeld => ?_)
    have hk0 := h5.cell 0
    have hk1 := h5.cell 1
    have hf0 := h5.frozen 0
    have hf1 := h5.frozen 1
    have H5 := Aside.mk h5
    clear hK K h4 h5
    refine norm_ (a' := ?_) ?_ ?_
    rotate_left
    · show Act.put _ (some 16) _ = _
      simp only [Act.put, List.setIfInBounds_toArray, List.set_cons_zero, List.set_cons_succ, i64_w, i32_w]
      rfl
    refine last_ (i := 5) (N := none) #[true, true, true, true, true, true] rfl rfl (by kernel_rfl) (by decide) (fun K hK => ?_)
    refine skip_ (w1 := ?_) (by rfl) rfl ?_ ?_
    rotate_left
    · go_simp
      rfl
    refine hK.out _ _ ?_
    refine done_ (by kernel_rfl) ?_
    try go_wp2
    exact part_ret rfl rfl H5.out rfl
  · have e : pCount s n most = pPut s [] 3 := if_neg hs
    rw [e]
    clear e
    have hs2 : most < n := by omega
    clear hs h hl
    go_enter Try.func25, Try.ntmps25
    go_wp2_with (go_at_call 45; go_loud (refine (ref_put s v none 0 [] 3 (Nat.le_refl _) (fun _ => by have := HL.out; simp; omega) w0 _ _ (HH.out.pick 2 rfl) (C_nil _) (fun _ => rfl)).mono ?_); rintro en w1 ⟨B, d, rfl, h1⟩; have h2 : St w0 w1 _ := h1.perm (.swap _ _ _); have hk0 := h2.cell 0; have hk1 := h2.cell 1; have hf0 := h2.frozen 0; have hf1 := h2.frozen 1; have H2 := Aside.mk h2; clear h1 h2)
    exact part_ret rfl rfl ((H2.out.pick 2 rfl).rest) rfl
theorem C_bytes (W : World) (e : TypeId) (s : ByteArray) (hs : s.size ≤ 9223372036854775807) : Kd.C (Kd.int .u8) (Lib.bytesWorld W e s) (some ⟨W.heap.size, 0, none⟩) (chars s).length (chars s) := by
  have h := bytes_reads W e s hs
  have hl : (chars s).length = s.size := chars_length s
  rw [hl]
  obtain ⟨h1, h2, h3⟩ := h
  refine ⟨h1, h2, fun h0 => ?_⟩
  obtain ⟨ad, e1, hc⟩ := h3 h0
  refine ⟨ad, e1, fun j p hj => ⟨[.int .u8 p], rfl, rfl, fun i u hi => ?_⟩⟩
  have hlt : j < s.size := by have := (List.getElem?_eq_some_iff.1 hj).1; omega
  have hp : (bytesOf s).getD j 0 = p := by
    have hj : (bytesOf s)[j]? = some p := hj
    simp [List.getD_eq_getElem?_getD, hj]
  match i, hi with
  | 0, hi =>
    simp only [List.getElem?_cons_zero, Option.some.injEq] at hi
    subst hi
    have := hc j hlt
    rw [hp] at this
    have h4 : (Kd.int .u8).sz = 1 := rfl
    rw [h4, Nat.mul_one, Nat.add_zero]
    exact this
theorem _root_.Go.Proofs.Ytakpdmkfengghaa.Sep.St.two {w0 w : World} {g : Nat} {x y : Value} {t : TypeId} {L : List HP} (h : St w0 w (blk g #[x, y] t :: L)) (a b : Value) : St w0 ((w.setCell ⟨g, 0, none⟩ a).setCell ⟨g, 1, none⟩ b) (blk g #[a, b] t :: L) :=
  (h.put 0 a (cs' := #[a, y]) rfl).put 1 b (cs' := #[a, b]) rfl
section
variable {P : Program} {ops : Array Oper} {rest : List Oper} {o : Oper} {a : Act} {Q : Exit → Act → World → Prop} {w0 W : World} {L : List HP}
/-- []byte(t). -/
theorem conv_str {N : Tmp} (hN : o.dst = some N) (hgd : o.guard = none) (x : Operand) (src dst e : TypeId) {u : TypeDesc} (ho : o.op = .convert src dst x)
    (hs : P.underlying src = some u) (hd : P.underlying dst = some (.slice e)) (he : P.underlying e = some (.int .u8)) (t : ByteArray) (ht : t.size ≤ 9223372036854775807) (hx : a.eval x = .string t) (H : St w0 W L)
    (h : ∀ A c w1, (chars t).length ≤ c → (A = none → c = 0) → Kd.C (Kd.int .u8) w1 A (chars t).length (chars t) → St w0 w1 L → wpList P ops Q rest (a.put (some N) (.slice A (chars t).length c)) w1) : wpList P ops Q (o :: rest) a W := by
  refine wpList_plain hgd fun K hK => ?_
  have hr := Lib.run_convert_string_bytes (P := P) W src dst e t hs hd he
  unfold Oper.wp execOp
  simp only [ho, Sem.run_bind, Sem.run_pure, Result.andThen_ok, hx, hr]
  rw [← hN] at h
  have := h (some ⟨W.heap.size, 0, none⟩) (grownCap W t.size 0 e) (Lib.bytesWorld W e t) (by rw [chars_length]; exact grownCap_ge _ _ _ _) (fun h => by cases h) (C_bytes W e t ht) (H.step (bytes_below (Below.refl _ _) (Nat.le_refl _) e t))
  rw [chars_length] at this
  exact hK _ _ this
end
set_option maxHeartbeats 8000000 in
set_option maxRecDepth 100000 in
theorem ref_text (s : Wst) (v : Value) (t : ByteArray) (ht : t.size ≤ 9223372036854775807) (hl : s.1.length ≤ 1099511620000) (w0 w : World) (F : List HP) (h : St w0 w (prow v s :: F)) :
    Calls Try.prog 26 #[.agg #[v, .int .i64 s.2], .string t] w (PPost (pText s t) w0 F) := by
  have HL := Aside.mk hl
  have HH := Aside.mk (two_parts h #[v, .int .i64 s.2] #[.slice none 0 0, .int .i64 0] 61)
  clear h hl
  go_enter Try.func26, Try.ntmps26
  go_wp2_with (first | (go_at_call 25; go_loud (refine (ref_count s v t.size 16 (by decide) (by have := HL.out; omega) w0 _ _ (HH.out.pick 2 rfl)).mono ?_); rintro en w1 ⟨B, d, rfl, h1⟩; have h2 : St w0 w1 _ := h1.pick 2 rfl; have hk0 := h2.cell 0; have hk1 := h2.cell 1; have hf0 := h2.frozen 0; have hf1 := h2.frozen 1; have H2 := Aside.mk h2; clear h1 h2) | (refine conv_str (N := 11) rfl rfl (.tmp 10) 9 31 5 rfl Try.underlying9 Try.underlying31 Try.underlying5 t ht rfl (H2.out.two _ _) ?_))
  clear hk0 hk1 hf0 hf1 HH
  intro A c w2 hA hN hC h3
  have h4 : St w0 w2 _ := h3.pick 2 rfl
  have hk0 := h4.cell 0
  have hk1 := h4.cell 1
  have hf0 := h4.frozen 0
  have hf1 := h4.frozen 1
  have hp0 := h3.cell 0
  have hp1 := h3.cell 1
  have H4 := Aside.mk h4
  have HC := Aside.mk hC
  clear h3 h4 hC
  have hT : (pCount s t.size 16).2 = 0 → (pCount s t.size 16).1.length + (chars t).length ≤ 1099511627776 := by
    intro h0
    have h1 := HL.out
    have h2 := pCount_len s t.size 16 (by decide)
    have h3 := pCount_ok h0
    rw [chars_length]
    omega
  have HT := Aside.mk hT
  clear hT
  go_wp2_with (go_at_call 45; go_loud (refine (ref_put (pCount s t.size 16) _ A c (chars t) 0 hA HT.out w0 _ _ (H4.out.pick 2 rfl) HC.out hN).mono ?_); rintro en w3 ⟨B1, d1, rfl, h1⟩; have h2 : St w0 w3 _ := h1.pick 1 rfl; have hk0 := h2.cell 0; have hk1 := h2.cell 1; have hf0 := h2.frozen 0; have hf1 := h2.frozen 1; have H5 := Aside.mk h2; clear h1 h2)
  exact part_ret rfl rfl ((H5.out.pick 2 rfl).rest) rfl
set_option maxHeartbeats 8000000 in
set_option maxRecDepth 100000 in
theorem ref_kind (s : Wst) (v : Value) (t : Int) (hl : s.1.length ≤ 1099511627000) (w0 w : World) (F : List HP) (h : St w0 w (prow v s :: F)) :
    Calls Try.prog 27 #[.agg #[v, .int .i64 s.2], .int .i64 t] w (PPost (pKind s t) w0 F) := by
  have HL := Aside.mk hl
  have HH := Aside.mk (two_parts h #[v, .int .i64 s.2] #[.slice none 0 0, .int .i64 0] 61)
  clear h hl
  by_cases h0 : 0 ≤ t ∧ t ≤ 2
  · have e : pKind s t = pPut s [t] 0 := if_pos h0
    rw [e]
    clear e
    obtain ⟨h1, h2⟩ := h0
    have d1 : decide (t < 0) = false := by simp; omega
    have d2 : decide (2 < t) = false := by simp; omega
    have hnew := HH.out.new_row (e := 5) (size := 1) (n := 1) #[.int .u8 t] (0, 0) rfl (by decide)
    rw [size_alloc, size_alloc] at hnew
    have HC := Aside.mk (row_reads (l := [t]) hnew).2
    have HN := Aside.mk (HH.out.garbage (.cells #[.int .u8 t] 5 (0, 0)))
    clear hnew HH
    go_enter Try.func27, Try.ntmps27
    go_wp2_with (go_at_call 45; go_loud (refine (ref_put s v (some ⟨w.heap.size + 1 + 1, 0, none⟩) 1 [t] 0 (Nat.le_refl _) (fun _ => by have := HL.out; simp; omega) w0 _ _ (HN.out.pick 2 rfl) HC.out (fun h => by cases h)).mono ?_); rintro en w1 ⟨B, d, rfl, h1⟩; have h2 : St w0 w1 _ := h1.perm (.swap _ _ _); have hk0 := h2.cell 0; have hk1 := h2.cell 1; have hf0 := h2.frozen 0; have hf1 := h2.frozen 1; have H2 := Aside.mk h2; clear h1 h2)
    exact part_ret rfl rfl ((H2.out.pick 2 rfl).rest) rfl
  · have e : pKind s t = pPut s [] 32 := if_neg h0
    rw [e]
    clear e
    go_enter Try.func27, Try.ntmps27
    have hq : t < 0 ∨ 2 < t := by omega
    clear h0
    by_cases h1 : t < 0
    · have d1 : decide (t < 0) = true := by simpa using h1
      clear h1 hq
      go_wp2_with (go_at_call 45; go_loud (refine (ref_put s v none 0 [] 32 (Nat.le_refl _) (fun _ => by have := HL.out; simp; omega) w0 _ _ (HH.out.pick 2 rfl) (C_nil _) (fun _ => rfl)).mono ?_); rintro en w1 ⟨B, d, rfl, h1⟩; have h2 : St w0 w1 _ := h1.perm (.swap _ _ _); have hk0 := h2.cell 0; have hk1 := h2.cell 1; have hf0 := h2.frozen 0; have hf1 := h2.frozen 1; have H2 := Aside.mk h2; clear h1 h2)
      exact part_ret rfl rfl ((H2.out.pick 2 rfl).rest) rfl
    · have d1 : decide (t < 0) = false := by simpa using h1
      have d2 : decide (2 < t) = true := by simp; omega
      clear h1 hq
      go_wp2_with (go_at_call 45; go_loud (refine (ref_put s v none 0 [] 32 (Nat.le_refl _) (fun _ => by have := HL.out; simp; omega) w0 _ _ (HH.out.pick 2 rfl) (C_nil _) (fun _ => rfl)).mono ?_); rintro en w1 ⟨B, d, rfl, h1⟩; have h2 : St w0 w1 _ := h1.perm (.swap _ _ _); have hk0 := h2.cell 0; have hk1 := h2.cell 1; have hf0 := h2.frozen 0; have hf1 := h2.frozen 1; have H2 := Aside.mk h2; clear h1 h2)
      exact part_ret rfl rfl ((H2.out.pick 2 rfl).rest) rfl
/-- The writer p in its block, the result's block. -/
abbrev pst (g r : Nat) (B : Option Addr) (d : Nat) (s : Wst) (F : List HP) : List HP := blk g #[.slice B s.1.length d, .int .i64 s.2] 61 :: blk r #[.slice none 0 0, .int .i64 0] 61 :: prow (.slice B s.1.length d) s :: F
set_option maxHeartbeats 8000000 in
set_option maxRecDepth 100000 in
theorem ref_kinds (s : Wst) (v : Value) (A : Option Addr) (c : Nat) (l : List Int) (most : Nat) (hm : most ≤ 1000) (hl : s.1.length ≤ 1099511620000) (w0 w : World) (F : List HP) (h : St w0 w (prow v s :: F))
    (hr : (Kd.int .i64).C w0 A l.length l) :
    Calls Try.prog 28 #[.agg #[v, .int .i64 s.2], .slice A l.length c, .int .i64 most] w (PPost (pKinds s l most) w0 F) := by
  have HL := Aside.mk hl
  have HR := Aside.mk hr
  have HM := Aside.mk hm
  have hlm := Kd.C_max hr
  have HH := Aside.mk (two_parts h #[v, .int .i64 s.2] #[.slice none 0 0, .int .i64 0] 61)
  clear h hl hr hm
  go_enter Try.func28, Try.ntmps28
  go_wp2_with (go_at_call 25; go_loud (refine (ref_count s v l.length most HM.out (by have := HL.out; omega) w0 _ _ (HH.out.pick 2 rfl)).mono ?_); rintro en w1 ⟨B, d, rfl, h1⟩; have h2 : St w0 w1 _ := h1.pick 2 rfl; have hk0 := h2.cell 0; have hk1 := h2.cell 1; have hf0 := h2.frozen 0; have hf1 := h2.frozen 1; have H2 := Aside.mk h2; clear h1 h2)
  have h3 : St w0 _ (pst w.heap.size (w.heap.size + 1) B d (pCount s l.length most) F) := (H2.out.two (.slice B (pCount s l.length most).1.length d) (.int .i64 (pCount s l.length most).2)).perm (.cons _ (.swap _ _ _))
  have H3 := Aside.mk h3
  clear h3 H2 HH hk0 hk1 hf0 hf1
  go_loopg [7] (l.length) (fun m v7 w' => ∃ i : Nat, m = l.length - i ∧ i ≤ l.length ∧ v7 = .int .i64 i ∧ ∃ (B1 : Option Addr) (d1 : Nat) (s1 : Wst), Wr.Aside (wAll pKind s1 (l.drop i) = pKinds s l most) ∧ Wr.Aside (s1.2 = 0 → i < l.length → s1.1.length ≤ s.1.length + 10 + i ∧ l.length ≤ most) ∧ Wr.Aside (St w0 w' (pst w.heap.size (w.heap.size + 1) B1 d1 s1 F)))
  case atStart => exact ⟨0, rfl, Nat.zero_le _, rfl, B, d, pCount s l.length most, ⟨rfl⟩, ⟨fun h _ => ⟨pCount_len _ _ _ HM.out, pCount_ok h⟩⟩, H3⟩
  case round =>
    clear H3
    obtain ⟨i, rfl, hi, rfl, B1, d1, s1, HE, HB, H⟩ := hrel
    have hc0 := H.out.cell 0
    have hc1 := H.out.cell 1
    have hr0 := (H.out.pick 1 rfl).cell 0
    have hr1 := (H.out.pick 1 rfl).cell 1
    have fr0 := (H.out.pick 1 rfl).frozen 0
    have fr1 := (H.out.pick 1 rfl).frozen 1
    have hb0 := Aside.mk H.out.below
    by_cases hlt : i < l.length
    · obtain ⟨ad, rfl, hcell⟩ := Kd.at_int HR.out i (by omega) (by omega)
      have hcell2 := pw_cell_below hb0.out hcell
      have hci : ((i : Int)).toNat = i := rfl
      rw [hci] at hcell2
      clear hcell hci
      have hdc : l.drop i = rd l i :: l.drop (i + 1) := drop_cons 0 l i hlt
      have HD := Aside.mk hdc
      clear hdc
      by_cases he : s1.2 = 0
      · have hB := Aside.mk (HB.out he hlt)
        have HI := Aside.mk he
        have he1 : (s1.2 == 0) = true := by simpa using he
        clear HB he
        go_wp2
        go_still_tail 5, (by kernel_rfl)
        change wpList _ _ _ _ _ wr.drew
        have HR2 := Aside.mk H.out.drew
        clear H hc0 hc1 hr0 hr1 fr0 fr1 hb0 hcell2
        generalize wr.drew = w3 at HR2 ⊢
        go_wp2_with (go_at_call 27; go_loud (refine (ref_kind s1 _ (rd l i) (by have := hB.out; have := HL.out; have := HM.out; omega) w0 _ _ (HR2.out.pick 2 rfl)).mono ?_); rintro en w2 ⟨B2, d2, rfl, h1⟩; have h2 : St w0 w2 _ := h1.pick 1 rfl; have hk0 := h2.cell 0; have hk1 := h2.cell 1; have hf0 := h2.frozen 0; have hf1 := h2.frozen 1; have H2 := Aside.mk h2; clear h1 h2)
        have h3 : St w0 _ (pst w.heap.size (w.heap.size + 1) B2 d2 (pKind s1 (rd l i)) F) := (H2.out.two (.slice B2 (pKind s1 (rd l i)).1.length d2) (.int .i64 (pKind s1 (rd l i)).2)).perm (.cons _ (.swap _ _ _))
        have H3 := Aside.mk h3
        clear h3 H2
        go_roundg (l.length - (i + 1))
        case measure => omega
        case rel =>
          refine ⟨i + 1, rfl, by omega, by go_num, B2, d2, pKind s1 (rd l i), ⟨?_⟩, ⟨fun _ _ => ?_⟩, H3⟩
          · rw [← HE.out, HD.out, wAll, if_pos HI.out]
          · have h1 := pKind_len s1 (rd l i)
            have h2 := hB.out
            omega
      · have he1 : (s1.2 == 0) = false := by simpa using he
        have he2 : pKinds s l most = s1 := by rw [← HE.out]; exact wAll_stop _ _ _ he
        have HI := Aside.mk he2
        clear he2
        go_wp2
        rw [HI.out]
        exact part_ret rfl rfl H.out.rest rfl
    · have he2 : pKinds s l most = s1 := by rw [← HE.out, List.drop_of_length_le (by omega)]; rfl
      have HI := Aside.mk he2
      clear he2 HE HB
      go_wp2
      rw [HI.out]
      exact part_ret rfl rfl H.out.rest rfl
end Go.Proofs.Ytakpdmkfengghaa.Rf
