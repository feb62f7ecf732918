/- The document's sweep over a tape: it is the plain one. Conditions: the plan is right; the page is one of its pages; the answers are words. -/
import Derived.Test.YtelfiegocdjnoaaTp0
import Derived.Test.YtelfiegocdjnoaaDs2
import Derived.Test.YtelfiegocdjnoaaFd1
import Derived.Test.YtelfiegocdjnoaaIe3
import Derived.Test.YtelfiegocdjnoaaMrF0
import Derived.Test.YtelfiegocdjnoaaMrF1
namespace Go.Proofs.Ytelfiegocdjnoaa.Ar
open Go Go.RowKit Go.Proofs.Ytelfiegocdjnoaa.Sep Go.Proofs.Ytelfiegocdjnoaa.Pg Go.Proofs.YtelfiegocdjnoaaW.PrintWords Go.Proofs.YtelfiegocdjnoaaW.PrintLast Go.Proofs.YtelfiegocdjnoaaW.PrintMore Go.Proofs.Ytelfiegocdjnoaa.Q
set_option linter.unusedVariables false
set_option linter.unusedSimpArgs false
set_option maxHeartbeats 8000000
set_option maxRecDepth 100000
variable {w0 w : World} {F : List HP}
def rs.T8 : Bool × List (List Nat × List Nat) := (true, [([], []), ([], []), ([], []), ([1, 2], [1, 2]), ([], []), ([], []), ([5, 3], [5]), ([0, 3, 4, 6, 6], [0, 3, 4, 6]), ([7, 7, 0, 1, 2, 3, 4, 5, 6, 7], [7])])
def rs.B8 : List Nat := [0, 0, 0, 6, 0, 0, 46, 127, 255]
theorem rs.tab8 : rtab .any (opsOf Try.f27 8) = rs.T8 := by kernel_rfl
theorem rs.bits8 : waitsOk rs.T8.2 rs.B8 = true := by kernel_rfl
def rs.T28 : Bool × List (List Nat × List Nat) := (true, [([], []), ([], []), ([], []), ([1, 2], [1, 2]), ([], []), ([4, 3], [4]), ([0, 3, 5, 5], [0, 3, 5])])
def rs.B28 : List Nat := [0, 0, 0, 6, 0, 30, 63]
theorem rs.tab28 : rtab .any (opsOf Try.f27 28) = rs.T28 := by kernel_rfl
theorem rs.bits28 : waitsOk rs.T28.2 rs.B28 = true := by kernel_rfl
theorem ask_hist (x : Tp) (k a wt p : Int) : (x.ask k a wt p).2.hist = x.hist := by unfold Tp.ask; split; rfl; split <;> rfl
theorem ask_u64 {x : Tp} (hu : ∀ v ∈ x.hist, u64 v) (k a wt p : Int) : u64 (x.ask k a wt p).1 := by
  have z : u64 0 := by unfold u64; decide
  unfold Tp.ask
  split
  · exact z
  · split
    · rename_i h
      simp only
      rw [List.getD_eq_getElem?_getD, List.getElem?_eq_getElem h]
      exact hu _ (List.getElem_mem _)
    · exact z
theorem tails_hist {P T page : Nat} : ∀ (j : Nat) (x : Tp), (dTails P T page j x).hist = x.hist
  | 0, _ => rfl
  | j + 1, x => by unfold dTails; rw [tails_hist j, ask_hist]
/-- Parts behind the first n are let go. -/
theorem St_dropt {w0 w : World} {L : List HP} (h : St w0 w L) (n k : Nat) : St w0 w (L.take n ++ L.drop (n + k)) := by
  have h1 : St w0 w ((L.drop n).take k ++ (L.take n ++ L.drop (n + k))) := by
    refine h.perm ?_
    have e : L = L.take n ++ ((L.drop n).take k ++ L.drop (n + k)) := by
      rw [← List.drop_drop, List.take_append_drop, List.take_append_drop]
    conv => lhs; rw [e]
    rw [← List.append_assoc, ← List.append_assoc]
    exact List.perm_append_comm.append_right _
  have key : ∀ (A B : List HP) , St w0 w (A ++ B) → St w0 w B := by
    intro A
    induction A with
    | nil => intro B h; exact h
    | cons a A ih => intro B h; exact ih B h.rest
  exact key _ _ h1
abbrev Rs.val (r : Rs) : Value := .agg #[.bool r.over, .bool r.swept, .bool r.empty, .bool r.blocked, .int .i64 r.freed]
abbrev mv_ (P T : Nat) : Array Value := #[.int .i64 ((P : Int) + 1), .int .i64 ((T : Int) + 1), .int .i64 1, .int .i64 64, .int .i64 (22 + 6 * (T : Int)), .int .i64 (128 + 64 * (P : Int))]
abbrev L1_ (F : List HP) (P T g t : Nat) (lh : Value) (x : Tp) (r : Array Value) : List HP := tpB t lh x :: tpR lh x :: blk g (mv_ P T) 44 :: blk (g + 1) r 72 :: F
abbrev L2_ (F : List HP) (P T g t : Nat) (lh : Value) (x : Tp) (r : Array Value) (bE : Nat) (e : Array Value) : List HP := tpB t lh x :: tpR lh x :: blk g (mv_ P T) 44 :: blk (g + 1) r 72 :: blk bE e 32 :: F
abbrev L3_ (F : List HP) (P T g t : Nat) (lh : Value) (x : Tp) (r : Array Value) (bE : Nat) (e : Array Value) (bB : Nat) (b : Array Value) : List HP := tpB t lh x :: tpR lh x :: blk g (mv_ P T) 44 :: blk (g + 1) r 72 :: blk bE e 32 :: blk bB b 32 :: F
abbrev L4_ (F : List HP) (P T g t : Nat) (lh : Value) (x : Tp) (r : Array Value) (bE : Nat) (e : Array Value) (bB : Nat) (b : Array Value) (bG : Nat) (q : Array Value) : List HP := tpB t lh x :: tpR lh x :: blk g (mv_ P T) 44 :: blk (g + 1) r 72 :: blk bE e 32 :: blk bB b 32 :: blk bG q 32 :: F
theorem cell5 {w0 w : World} {F : List HP} {g : Nat} {t : TypeId} {a b c d e : Value} (h : St w0 w (blk g #[a, b, c, d, e] t :: F)) : w.cell? ⟨g, 0, none⟩ = some a ∧ w.cell? ⟨g, 1, none⟩ = some b ∧ w.cell? ⟨g, 2, none⟩ = some c ∧ w.cell? ⟨g, 3, none⟩ = some d ∧ w.cell? ⟨g, 4, none⟩ = some e := ⟨h.cell 0, h.cell 1, h.cell 2, h.cell 3, h.cell 4⟩
theorem cell6 {w0 w : World} {F : List HP} {g : Nat} {t : TypeId} {a b c d e f : Value} (h : St w0 w (blk g #[a, b, c, d, e, f] t :: F)) : w.cell? ⟨g, 0, none⟩ = some a ∧ w.cell? ⟨g, 1, none⟩ = some b ∧ w.cell? ⟨g, 2, none⟩ = some c ∧ w.cell? ⟨g, 3, none⟩ = some d ∧ w.cell? ⟨g, 4, none⟩ = some e ∧ w.cell? ⟨g, 5, none⟩ = some f := ⟨h.cell 0, h.cell 1, h.cell 2, h.cell 3, h.cell 4, h.cell 5⟩
theorem at11 {w0 w : World} {F : List HP} {P T g t bE bB : Nat} {lh a b c d e : Value} {x : Tp} {r E : Array Value} (h : St w0 w (L3_ F P T g t lh x r bE E bB #[a, b, c, d, e])) : w.cell? ⟨g, 0, none⟩ = some (.int .i64 ((P : Int) + 1)) ∧ w.cell? ⟨g, 1, none⟩ = some (.int .i64 ((T : Int) + 1)) ∧ w.cell? ⟨g, 2, none⟩ = some (.int .i64 1) ∧ w.cell? ⟨g, 3, none⟩ = some (.int .i64 64) ∧ w.cell? ⟨g, 4, none⟩ = some (.int .i64 (22 + 6 * (T : Int))) ∧ w.cell? ⟨g, 5, none⟩ = some (.int .i64 (128 + 64 * (P : Int))) ∧ w.cell? ⟨bB, 0, none⟩ = some a ∧ w.cell? ⟨bB, 1, none⟩ = some b ∧ w.cell? ⟨bB, 2, none⟩ = some c ∧ w.cell? ⟨bB, 3, none⟩ = some d ∧ w.cell? ⟨bB, 4, none⟩ = some e := by
  obtain ⟨z0, z1, z2, z3, z4, z5⟩ := cell6 (h.pick 2 rfl)
  obtain ⟨e0, e1, e2, e3, e4⟩ := cell5 (h.pick 5 rfl)
  exact ⟨z0, z1, z2, z3, z4, z5, e0, e1, e2, e3, e4⟩
theorem at11g {w0 w : World} {F : List HP} {P T g t bE bB bG : Nat} {lh a b c d e : Value} {x : Tp} {r E B : Array Value} (h : St w0 w (L4_ F P T g t lh x r bE E bB B bG #[a, b, c, d, e])) : w.cell? ⟨g, 0, none⟩ = some (.int .i64 ((P : Int) + 1)) ∧ w.cell? ⟨g, 1, none⟩ = some (.int .i64 ((T : Int) + 1)) ∧ w.cell? ⟨g, 2, none⟩ = some (.int .i64 1) ∧ w.cell? ⟨g, 3, none⟩ = some (.int .i64 64) ∧ w.cell? ⟨g, 4, none⟩ = some (.int .i64 (22 + 6 * (T : Int))) ∧ w.cell? ⟨g, 5, none⟩ = some (.int .i64 (128 + 64 * (P : Int))) ∧ w.cell? ⟨bG, 0, none⟩ = some a ∧ w.cell? ⟨bG, 1, none⟩ = some b ∧ w.cell? ⟨bG, 2, none⟩ = some c ∧ w.cell? ⟨bG, 3, none⟩ = some d ∧ w.cell? ⟨bG, 4, none⟩ = some e := by
  obtain ⟨z0, z1, z2, z3, z4, z5⟩ := cell6 (h.pick 2 rfl)
  obtain ⟨e0, e1, e2, e3, e4⟩ := cell5 (h.pick 6 rfl)
  exact ⟨z0, z1, z2, z3, z4, z5, e0, e1, e2, e3, e4⟩
theorem tail_j {page j P : Nat} (hP : P < 5) (h : (page : Int) + ((j + 1 : Nat) : Int) ≤ P) : decide ((1 : Int) ≤ (j : Int) + 1) = true ∧ ((1 : Int) ≤ (j : Int) + 1) ∧ wrap64 ((page : Int) + ((j : Int) + 1)) = (page : Int) + ((j : Int) + 1) ∧ wrap64 (j : Int) = (j : Int) ∧ page + (j + 1) < P + 1 := by
  have h1 : (1 : Int) ≤ (j : Int) + 1 := by omega
  exact ⟨decide_eq_true h1, h1, by rw [w_of _ (by omega) (by omega)], by rw [w_of _ (by omega) (by omega)], by omega⟩
theorem tail_n {page j P : Nat} (h : (page : Int) + ((j + 1 : Nat) : Int) ≤ P) : (page : Int) + (j : Int) ≤ P := by omega
theorem dSweep_stop1 {P T page : Nat} {who cyc v1 : Int} {x x1 : Tp} (e1 : x.ask 1 (adr P T 0 page : Nat) 0 0 = (v1, x1)) (h : x1.stop = true) : dSweep P T page who cyc x = (Rs.no, x1) := by
  unfold dSweep
  rw [e1]
  simp only [h, if_true]
theorem dSweep_over {P T page : Nat} {who cyc v1 : Int} {x x1 : Tp} {b : Bool} (e1 : x.ask 1 (adr P T 0 page : Nat) 0 0 = (v1, x1)) (h : ¬ x1.stop = true) (h8 : ((sw0 P T who cyc page).look v1).at_ = 8) (hb : ((sw0 P T who cyc page).look v1).block = b) :
    dSweep P T page who cyc x = (⟨true, false, false, b, 0⟩, x1) := by
  unfold dSweep
  rw [e1]
  simp only
  rw [if_neg h, if_pos h8, hb]
theorem dSweep_stop2 {P T page : Nat} {who cyc v1 v2 : Int} {x x1 x2 : Tp} (e1 : x.ask 1 (adr P T 0 page : Nat) 0 0 = (v1, x1)) (h : ¬ x1.stop = true) (h8 : ((sw0 P T who cyc page).look v1).at_ ≠ 8)
    (e2 : x1.ask 4 (adr P T 0 page : Nat) v1 (wordOf ((sw0 P T who cyc page).look v1).k ((sw0 P T who cyc page).look v1).c 2 who ((sw0 P T who cyc page).look v1).y) = (v2, x2)) (h2 : x2.stop = true) : dSweep P T page who cyc x = (Rs.no, x2) := by
  unfold dSweep
  rw [e1]
  simp only
  rw [if_neg h, if_neg h8, e2]
  simp only
  rw [if_pos h2]
theorem dSweep_lost {P T page : Nat} {who cyc v1 v2 : Int} {x x1 x2 : Tp} (e1 : x.ask 1 (adr P T 0 page : Nat) 0 0 = (v1, x1)) (h : ¬ x1.stop = true) (h8 : ((sw0 P T who cyc page).look v1).at_ ≠ 8)
    (e2 : x1.ask 4 (adr P T 0 page : Nat) v1 (wordOf ((sw0 P T who cyc page).look v1).k ((sw0 P T who cyc page).look v1).c 2 who ((sw0 P T who cyc page).look v1).y) = (v2, x2)) (h2 : ¬ x2.stop = true) (hn : v2 ≠ v1) : dSweep P T page who cyc x = (⟨true, false, false, true, 0⟩, x2) := by
  unfold dSweep
  rw [e1]
  simp only
  rw [if_neg h, if_neg h8, e2]
  simp only
  rw [if_neg h2, if_pos hn]
theorem dSweep_rest {P T page : Nat} {who cyc v1 v2 : Int} {x x1 x2 : Tp} (e1 : x.ask 1 (adr P T 0 page : Nat) 0 0 = (v1, x1)) (h : ¬ x1.stop = true) (h8 : ((sw0 P T who cyc page).look v1).at_ ≠ 8)
    (e2 : x1.ask 4 (adr P T 0 page : Nat) v1 (wordOf ((sw0 P T who cyc page).look v1).k ((sw0 P T who cyc page).look v1).c 2 who ((sw0 P T who cyc page).look v1).y) = (v2, x2)) (h2 : ¬ x2.stop = true) (hn : v2 = v1) : dSweep P T page who cyc x = dRest P T page cyc ((sw0 P T who cyc page).look v1).k ((sw0 P T who cyc page).look v1).c x2 := by
  unfold dSweep
  rw [e1]
  simp only
  rw [if_neg h, if_neg h8, e2]
  simp only
  rw [if_neg h2, if_neg (fun hh => hh hn)]
theorem ask2 {P T page : Nat} {who cyc v1 v2 k c y wb : Int} {x1 x2 : Tp} (hl : ((sw0 P T who cyc page).look v1).at_ = 1 ∧ ((sw0 P T who cyc page).look v1).k = k ∧ ((sw0 P T who cyc page).look v1).c = c ∧ ((sw0 P T who cyc page).look v1).y = y) (hw : wordOf k c 2 who y = wb)
    (e2 : x1.ask 4 (adr P T 0 page : Nat) v1 wb = (v2, x2)) : x1.ask 4 (adr P T 0 page : Nat) v1 (wordOf ((sw0 P T who cyc page).look v1).k ((sw0 P T who cyc page).look v1).c 2 who ((sw0 P T who cyc page).look v1).y) = (v2, x2) := by
  rw [hl.2.1, hl.2.2.1, hl.2.2.2, hw]
  exact e2
theorem due_no {P T page : Nat} {who cyc v1 k c s o y : Int} (h : ((k == 1 || k == 2) && (s == 0) && decide (y < cyc)) = false) : Sw.due { sw0 P T who cyc page with was := v1, k := k, c := c, st := s, o := o, y := y, at_ := 1 } = false := by
  show (((k == 1 || k == 2) && (s == 0) && decide (y < cyc)) && _) = false
  rw [h, Bool.false_and]
theorem due_big {P T page : Nat} {who cyc v1 k c s o y : Int} (h : ((k == 1 || k == 2) && (s == 0) && decide (y < cyc)) = true) (hk : k = 2) (hb : (P : Int) + 1 < (page : Int) + c) : Sw.due { sw0 P T who cyc page with was := v1, k := k, c := c, st := s, o := o, y := y, at_ := 1 } = false := by
  show (((k == 1 || k == 2) && (s == 0) && decide (y < cyc)) && (!(k == 2) || decide ((page : Int) + c ≤ (P : Int) + 1))) = false
  rw [h, hk, decide_eq_false (by omega)]
  rfl
theorem due_yes {P T page : Nat} {who cyc v1 k c s o y : Int} (h : ((k == 1 || k == 2) && (s == 0) && decide (y < cyc)) = true) (hb : ¬ (k = 2 ∧ (P : Int) + 1 < (page : Int) + c)) : Sw.due { sw0 P T who cyc page with was := v1, k := k, c := c, st := s, o := o, y := y, at_ := 1 } = true := by
  show (((k == 1 || k == 2) && (s == 0) && decide (y < cyc)) && (!(k == 2) || decide ((page : Int) + c ≤ (P : Int) + 1))) = true
  rw [h, Bool.true_and]
  by_cases hk : k = 2
  · rw [decide_eq_true (Int.not_lt.1 fun h3 => hb ⟨hk, h3⟩), Bool.or_true]
  · have : (k == 2) = false := by simpa using hk
    rw [this]; rfl
theorem dLeft_u64 {k m al : Int} (ha : u64 al) (hm : u64 m) : u64 (dLeft k m al) := by
  have h := and_u64 ha hm
  unfold dLeft
  split
  · unfold u64 at *; omega
  · exact h
theorem dRest_is {P T page : Nat} {cyc k c m3 a4 L : Int} {x2 x3 x4 x5 x6 x7 x8 : Tp} (e3 : x2.ask 1 (adr P T 2 page : Nat) 0 0 = (m3, x3)) (e4 : x3.ask 1 (adr P T 1 page : Nat) 0 0 = (a4, x4)) (hL : L = dLeft k m3 a4)
    (e5 : (x4.ask 2 (adr P T 1 page : Nat) 0 L).2 = x5) (e6 : (x5.ask 2 (adr P T 2 page : Nat) 0 0).2 = x6) (e7 : (if L = 0 ∧ k = 2 then dTails P T page (c - 1).toNat x6 else x6) = x7)
    (e8 : (x7.ask 2 (adr P T 0 page : Nat) 0 (if L = 0 then 0 else wordOf k c 0 0 cyc)).2 = x8) :
    (x8.stop = true → dRest P T page cyc k c x2 = (Rs.no, x8)) ∧ (¬ x8.stop = true → dRest P T page cyc k c x2 = (⟨true, true, L == 0, false, ((Pop.cnt 64 a4.toNat : Nat) : Int) - ((Pop.cnt 64 L.toNat : Nat) : Int)⟩, x8)) := by
  have key : dRest P T page cyc k c x2 = if x8.stop = true then (Rs.no, x8) else (⟨true, true, L == 0, false, ((Pop.cnt 64 a4.toNat : Nat) : Int) - ((Pop.cnt 64 L.toNat : Nat) : Int)⟩, x8) := by
    unfold dRest
    simp only [e3, e4]
    have e : (if k = 2 then Go.bits .and .u64 a4 m3 % 2 else Go.bits .and .u64 a4 m3) = L := hL.symm
    simp only [e, e5, e6, e7, e8]
  exact ⟨fun h => by rw [key, if_pos h], fun h => by rw [key, if_neg h]⟩
theorem rsweep_ {P T page : Nat} (hP : P < 5) (hT : T < 3) (hpg : page < P + 1) {who cyc : Int} (hw : worker who) (hc : 0 ≤ cyc ∧ cyc ≤ 4294967295) {t : Nat} {lh : Value} {x : Tp} (hl : x.hist.length ≤ 1000) (hu : ∀ v ∈ x.hist, u64 v)
    {RR : Rs} {ZZ : Tp} (hD : dSweep P T page who cyc x = (RR, ZZ)) (h : St w0 w (tpB t lh x :: tpR lh x :: F)) :
    Calls Try.prog 27 #[.pointer (some ⟨t, 0, none⟩), .agg #[.int .i64 ((P : Int) + 1), .int .i64 ((T : Int) + 1), .int .i64 1, .int .i64 64, .int .i64 (22 + 6 * (T : Int)), .int .i64 (128 + 64 * (P : Int))], .int .i64 who, .int .i64 cyc, .int .i64 page] w fun e w' => e = .returned RR.val ∧ St w0 w' (tpB t lh ZZ :: tpR lh ZZ :: F) := by
  have HPE := Aside.mk (pent_ P T page hP hT hpg)
  have HPA := Aside.mk (pall_ P T page hP hT hpg)
  have HPM := Aside.mk (pmrk_ P T page hP hT hpg)
  have HTL := fun (j : Nat) (hj : page + j < P + 1) => pent_ P T (page + j) hP hT hj
  have HTAIL := Aside.mk HTL
  have HD := Aside.mk hD
  have HPp := Aside.mk hP
  have HPG := Aside.mk hpg
  have HW := Aside.mk hw
  have HC := Aside.mk hc
  obtain ⟨v1, x1, e1⟩ : ∃ v1 x1, x.ask 1 (adr P T 0 page : Nat) 0 0 = (v1, x1) := ⟨_, _, rfl⟩
  have hh1 : x1.hist = x.hist := by have := ask_hist x 1 (adr P T 0 page : Nat) 0 0; rw [e1] at this; exact this
  have hv1 : u64 v1 := by have := ask_u64 hu 1 (adr P T 0 page : Nat) 0 0; rw [e1] at this; exact this
  have ht1 := fun (w' : World) (L : List HP) (h : St w0 w' (tpB t lh x :: tpR lh x :: L)) => tload_ hl (adr P T 0 page : Nat) h
  rw [e1] at ht1
  have HT1 := Aside.mk ht1
  have HE1 := Aside.mk e1
  have HH1 := Aside.mk hh1
  have HL1 : Aside (x1.hist.length ≤ 1000) := ⟨by rw [hh1]; exact hl⟩
  have HU1 : Aside (∀ v ∈ x1.hist, u64 v) := ⟨by rw [hh1]; exact hu⟩
  have HV1 := Aside.mk hv1
  have h0 := (h.alloc #[.int .i64 ((P : Int) + 1), .int .i64 ((T : Int) + 1), .int .i64 1, .int .i64 64, .int .i64 (22 + 6 * (T : Int)), .int .i64 (128 + 64 * (P : Int))] 44).alloc #[.bool false, .bool false, .bool false, .bool false, .int .i64 0] 72
  simp only [World.size_alloc] at h0
  have H : Aside (St w0 _ (L1_ F P T w.heap.size t lh x #[.bool false, .bool false, .bool false, .bool false, .int .i64 0])) := Aside.mk (h0.order 4 [2, 3, 1, 0] rfl rfl)
  clear h0 h hP hT hpg hw hc e1 hh1 hv1 ht1 hl hu hD HTL
  obtain ⟨z0, z1, z2, z3, z4, z5⟩ := cell6 (H.out.pick 2 rfl)
  go_enter Try.func27, Try.ntmps27
  go_wp2_with (first
    | (go_at_call 17; with_reducible refine (windrowref06_Map_PageEntry.calls _ _ _ _ _ _ _ _ _ HPE.out).mono ?_; rintro e w9 ⟨rfl, hb⟩; replace H := Aside.mk (H.out.step hb); clear hb; clear z0 z1 z2 z3 z4 z5; obtain ⟨z0, z1, z2, z3, z4, z5⟩ := cell6 (H.out.pick 2 rfl))
    | (go_at_call 64; with_reducible refine (HT1.out _ _ H.out).mono ?_; rintro e w1 ⟨rfl, h1⟩; replace H : Aside (St w0 w1 (L1_ F P T w.heap.size t lh x1 #[.bool false, .bool false, .bool false, .bool false, .int .i64 0])) := Aside.mk h1; clear h1; clear z0 z1 z2 z3 z4 z5)
    | (with_reducible refine stop_at (.load 4 (.tmp 30)) rfl ?_))
  refine ⟨?_⟩
  have x9 : w1.cell? ⟨t, 9, none⟩ = some (.bool x1.stop) := H.out.cell 9
  obtain ⟨b1, hb1⟩ : ∃ b1, b1 = x1.stop := ⟨_, rfl⟩
  rw [← hb1] at x9
  cases b1
  case true =>
    have HB1 := Aside.mk hb1.symm
    clear hb1
    go_wp2_with (with_reducible refine stop_at (.store 72 (.tmp 10) (.tmp 32)) rfl ?_)
    refine ⟨?_⟩
    refine st_store rfl rfl rfl [.bool false, .bool false, .bool false, .bool false, .int .i64 0] #[.bool false, .bool false, .bool false, .bool false, .int .i64 0] rfl rfl rfl (Nat.le_of_ble_eq_true rfl) (by simp [Value.oneCell']) (H.out.pick 3 rfl) rfl ?_
    intro w8 h_
    replace H : Aside (St w0 w8 (L1_ F P T w.heap.size t lh x1 #[.bool false, .bool false, .bool false, .bool false, .int .i64 0])) := Aside.mk (h_.order 4 [1, 2, 3, 0] rfl rfl)
    clear h_
    go_wp2
    refine bodyPost_ret (results_cell_row rfl _ _ (w.heap.size + 1) 72 #[.bool false, .bool false, .bool false, .bool false, .int .i64 0] (0, 0) _ rfl (H.out.pick 3 rfl).heap Try.underlying72 rfl (by kernel_rfl)) rfl ?_
    have hd := HD.out
    rw [dSweep_stop1 HE1.out HB1.out] at hd
    obtain ⟨rfl, rfl⟩ := hd
    exact ⟨rfl, St_dropt H.out 2 2⟩
  have HB1 : Aside (¬ x1.stop = true) := ⟨by rw [← hb1]; decide⟩
  clear hb1
  obtain ⟨k, c, s, o, y, f, hdc⟩ : ∃ k c s o y f, dec v1 = (k, c, s, o, y, f) := ⟨_, _, _, _, _, _, rfl⟩
  have HDEC := Aside.mk (fun (w : World) => rdec_c HV1.out.1 HV1.out.2 hdc w)
  have HDC := Aside.mk hdc
  clear hdc
  go_wp2_with (first
    | (go_at_call 20; refine (HDEC.out _).mono ?_; rintro e w2 ⟨rfl, hb⟩; replace H := Aside.mk ((H.out.step hb).alloc #[.int .i64 0, .int .i64 0, .int .i64 0, .int .i64 0, .int .i64 0] 32); clear hb x9)
    | (with_reducible refine stop_at (.store 32 (.tmp 12) (.tmp 36)) rfl ?_))
  generalize w2.heap.size = bE at H ⊢
  refine ⟨?_⟩
  refine st_store rfl rfl rfl [.int .i64 k, .int .i64 c, .int .i64 s, .int .i64 o, .int .i64 y] #[.int .i64 k, .int .i64 c, .int .i64 s, .int .i64 o, .int .i64 y] rfl rfl rfl (Nat.le_of_ble_eq_true rfl) (by simp [Value.oneCell']) (H.out) rfl ?_
  intro w3 h_
  replace H : Aside (St w0 w3 (L2_ F P T w.heap.size t lh x1 #[.bool false, .bool false, .bool false, .bool false, .int .i64 0] bE #[.int .i64 k, .int .i64 c, .int .i64 s, .int .i64 o, .int .i64 y])) := Aside.mk (h_.order 5 [1, 2, 3, 4, 0] rfl rfl)
  clear h_
  rcases dec_isE HDC.out with ⟨rfl, hi⟩ | rfl
  rotate_left
  · have HK : Aside (((sw0 P T who cyc page).look v1).at_ = 8 ∧ ((sw0 P T who cyc page).look v1).block = false) := by rw [look_err HDC.out]; exact ⟨⟨rfl, rfl⟩⟩
    go_wp2_with (with_reducible refine stop_at (.store 72 (.tmp 10) (.tmp 74)) rfl ?_)
    refine ⟨?_⟩
    refine st_store rfl rfl rfl [.bool true, .bool false, .bool false, .bool false, .int .i64 0] #[.bool true, .bool false, .bool false, .bool false, .int .i64 0] rfl rfl rfl (Nat.le_of_ble_eq_true rfl) (by simp [Value.oneCell']) (H.out.pick 3 rfl) rfl ?_
    intro w8 h_
    replace H : Aside (St w0 w8 (L2_ F P T w.heap.size t lh x1 #[.bool true, .bool false, .bool false, .bool false, .int .i64 0] bE #[.int .i64 k, .int .i64 c, .int .i64 s, .int .i64 o, .int .i64 y])) := Aside.mk (h_.order 4 [1, 2, 3, 0] rfl rfl)
    clear h_
    go_wp2
    refine bodyPost_ret (results_cell_row rfl _ _ (w.heap.size + 1) 72 #[.bool true, .bool false, .bool false, .bool false, .int .i64 0] (0, 0) _ rfl (H.out.pick 3 rfl).heap Try.underlying72 rfl (by kernel_rfl)) rfl ?_
    have hd := HD.out
    rw [dSweep_over HE1.out HB1.out HK.out.1 HK.out.2] at hd
    obtain ⟨rfl, rfl⟩ := hd
    exact ⟨rfl, St_dropt H.out 2 3⟩
  have HI := Aside.mk hi
  have hdue := fun (w : World) => rdue_c hi cyc w
  obtain ⟨dB, hdB⟩ : ∃ dB, dB = ((k == 1 || k == 2) && (s == 0) && decide (y < cyc)) := ⟨_, rfl⟩
  rw [← hdB] at hdue
  have HDUE := Aside.mk hdue
  clear hdue
  clear hi
  have z0 := (H.out.pick 2 rfl).cell 0
  obtain ⟨e0, e1, e2, e3, e4⟩ := cell5 (H.out.pick 4 rfl)
  cases dB
  case false =>
    have HK : Aside (((sw0 P T who cyc page).look v1).at_ = 8 ∧ ((sw0 P T who cyc page).look v1).block = decide (s = 2 ∧ y < cyc)) := by rw [look_no HDC.out (due_no hdB.symm)]; exact ⟨⟨rfl, rfl⟩⟩
    clear hdB
    by_cases hs2 : s = 2
    · have hs2b : (s == 2) = true := by simp [hs2]
      by_cases hyc : y < cyc
      · have hycb : decide (y < cyc) = true := by simp [hyc]
        have HK2 := Aside.mk (HK.out.2.trans (decide_eq_true ⟨hs2, hyc⟩))
        clear hs2
        go_wp2_with (first | (go_at_call 65; with_reducible refine (HDUE.out _).mono ?_; rintro e w4 ⟨rfl, hb⟩; replace H := Aside.mk (H.out.step hb); clear hb; clear e0 e1 e2 e3 e4; obtain ⟨e0, e1, e2, e3, e4⟩ := cell5 (H.out.pick 4 rfl); clear z0; have z0 := (H.out.pick 2 rfl).cell 0) | (with_reducible refine stop_at (.store 72 (.tmp 10) (.tmp 74)) rfl ?_))
        refine ⟨?_⟩
        refine st_store rfl rfl rfl [.bool true, .bool false, .bool false, .bool true, .int .i64 0] #[.bool true, .bool false, .bool false, .bool true, .int .i64 0] rfl rfl rfl (Nat.le_of_ble_eq_true rfl) (by simp [Value.oneCell']) (H.out.pick 3 rfl) rfl ?_
        intro w8 h_
        replace H : Aside (St w0 w8 (L2_ F P T w.heap.size t lh x1 #[.bool true, .bool false, .bool false, .bool true, .int .i64 0] bE #[.int .i64 k, .int .i64 c, .int .i64 s, .int .i64 o, .int .i64 y])) := Aside.mk (h_.order 4 [1, 2, 3, 0] rfl rfl)
        clear h_
        go_wp2
        refine bodyPost_ret (results_cell_row rfl _ _ (w.heap.size + 1) 72 #[.bool true, .bool false, .bool false, .bool true, .int .i64 0] (0, 0) _ rfl (H.out.pick 3 rfl).heap Try.underlying72 rfl (by kernel_rfl)) rfl ?_
        have hd := HD.out
        rw [dSweep_over HE1.out HB1.out HK.out.1 HK2.out] at hd
        obtain ⟨rfl, rfl⟩ := hd
        exact ⟨rfl, St_dropt H.out 2 3⟩
      · have hycb : decide (y < cyc) = false := by simp only [decide_eq_false_iff_not]; exact hyc
        have HK2 := Aside.mk (HK.out.2.trans (decide_eq_false (fun hh => hyc hh.2)))
        clear hs2
        go_wp2_with (first | (go_at_call 65; with_reducible refine (HDUE.out _).mono ?_; rintro e w4 ⟨rfl, hb⟩; replace H := Aside.mk (H.out.step hb); clear hb; clear e0 e1 e2 e3 e4; obtain ⟨e0, e1, e2, e3, e4⟩ := cell5 (H.out.pick 4 rfl); clear z0; have z0 := (H.out.pick 2 rfl).cell 0) | (with_reducible refine stop_at (.store 72 (.tmp 10) (.tmp 74)) rfl ?_))
        refine ⟨?_⟩
        refine st_store rfl rfl rfl [.bool true, .bool false, .bool false, .bool false, .int .i64 0] #[.bool true, .bool false, .bool false, .bool false, .int .i64 0] rfl rfl rfl (Nat.le_of_ble_eq_true rfl) (by simp [Value.oneCell']) (H.out.pick 3 rfl) rfl ?_
        intro w8 h_
        replace H : Aside (St w0 w8 (L2_ F P T w.heap.size t lh x1 #[.bool true, .bool false, .bool false, .bool false, .int .i64 0] bE #[.int .i64 k, .int .i64 c, .int .i64 s, .int .i64 o, .int .i64 y])) := Aside.mk (h_.order 4 [1, 2, 3, 0] rfl rfl)
        clear h_
        go_wp2
        refine bodyPost_ret (results_cell_row rfl _ _ (w.heap.size + 1) 72 #[.bool true, .bool false, .bool false, .bool false, .int .i64 0] (0, 0) _ rfl (H.out.pick 3 rfl).heap Try.underlying72 rfl (by kernel_rfl)) rfl ?_
        have hd := HD.out
        rw [dSweep_over HE1.out HB1.out HK.out.1 HK2.out] at hd
        obtain ⟨rfl, rfl⟩ := hd
        exact ⟨rfl, St_dropt H.out 2 3⟩
    · have hs2b : (s == 2) = false := by simpa using hs2
      have HK2 := Aside.mk (HK.out.2.trans (decide_eq_false (fun hh => hs2 hh.1)))
      go_wp2_with (first | (go_at_call 65; with_reducible refine (HDUE.out _).mono ?_; rintro e w4 ⟨rfl, hb⟩; replace H := Aside.mk (H.out.step hb); clear hb; clear e0 e1 e2 e3 e4; obtain ⟨e0, e1, e2, e3, e4⟩ := cell5 (H.out.pick 4 rfl); clear z0; have z0 := (H.out.pick 2 rfl).cell 0) | (with_reducible refine stop_at (.store 72 (.tmp 10) (.tmp 74)) rfl ?_))
      refine ⟨?_⟩
      refine st_store rfl rfl rfl [.bool true, .bool false, .bool false, .bool false, .int .i64 0] #[.bool true, .bool false, .bool false, .bool false, .int .i64 0] rfl rfl rfl (Nat.le_of_ble_eq_true rfl) (by simp [Value.oneCell']) (H.out.pick 3 rfl) rfl ?_
      intro w8 h_
      replace H : Aside (St w0 w8 (L2_ F P T w.heap.size t lh x1 #[.bool true, .bool false, .bool false, .bool false, .int .i64 0] bE #[.int .i64 k, .int .i64 c, .int .i64 s, .int .i64 o, .int .i64 y])) := Aside.mk (h_.order 4 [1, 2, 3, 0] rfl rfl)
      clear h_
      go_wp2
      refine bodyPost_ret (results_cell_row rfl _ _ (w.heap.size + 1) 72 #[.bool true, .bool false, .bool false, .bool false, .int .i64 0] (0, 0) _ rfl (H.out.pick 3 rfl).heap Try.underlying72 rfl (by kernel_rfl)) rfl ?_
      have hd := HD.out
      rw [dSweep_over HE1.out HB1.out HK.out.1 HK2.out] at hd
      obtain ⟨rfl, rfl⟩ := hd
      exact ⟨rfl, St_dropt H.out 2 3⟩
  have hdu := hdB.symm
  simp only [Bool.and_eq_true, Bool.or_eq_true, beq_iff_eq, decide_eq_true_eq] at hdu
  obtain ⟨⟨hk, hs0⟩, hyc⟩ := hdu
  have hs2b : (s == 2) = false := by rw [hs0]; rfl
  have hbnd := isE_kc HI.out
  have hwp : k = 2 → wrap64 ((page : Int) + c) = (page : Int) + c := fun h2 => w_of _ (by have := hbnd.2.1 h2; omega) (by have := hbnd.2.1 h2; have := HPG.out; have := HPp.out; omega)
  by_cases hbig : k = 2 ∧ (P : Int) + 1 < (page : Int) + c
  · have HK : Aside (((sw0 P T who cyc page).look v1).at_ = 8 ∧ ((sw0 P T who cyc page).look v1).block = false) := by rw [look_no0 HDC.out (due_big hdB.symm hbig.1 hbig.2) (by rw [hs0]; decide)]; exact ⟨⟨rfl, rfl⟩⟩
    have hwp2 := hwp hbig.1
    have hk2b : (k == 2) = true := by simp [hbig.1]
    have hgt : decide ((P : Int) + 1 < (page : Int) + c) = true := by simp [hbig.2]
    have hgt2 := hbig.2
    clear hdB hk hs0 hyc hbnd hwp hbig
    go_wp2_with (first | (go_at_call 65; with_reducible refine (HDUE.out _).mono ?_; rintro e w4 ⟨rfl, hb⟩; replace H := Aside.mk (H.out.step hb); clear hb; clear e0 e1 e2 e3 e4; obtain ⟨e0, e1, e2, e3, e4⟩ := cell5 (H.out.pick 4 rfl); clear z0; have z0 := (H.out.pick 2 rfl).cell 0) | (with_reducible refine stop_at (.store 72 (.tmp 10) (.tmp 74)) rfl ?_))
    refine ⟨?_⟩
    refine st_store rfl rfl rfl [.bool true, .bool false, .bool false, .bool false, .int .i64 0] #[.bool true, .bool false, .bool false, .bool false, .int .i64 0] rfl rfl rfl (Nat.le_of_ble_eq_true rfl) (by simp [Value.oneCell']) (H.out.pick 3 rfl) rfl ?_
    intro w8 h_
    replace H : Aside (St w0 w8 (L2_ F P T w.heap.size t lh x1 #[.bool true, .bool false, .bool false, .bool false, .int .i64 0] bE #[.int .i64 k, .int .i64 c, .int .i64 s, .int .i64 o, .int .i64 y])) := Aside.mk (h_.order 4 [1, 2, 3, 0] rfl rfl)
    clear h_
    go_wp2
    refine bodyPost_ret (results_cell_row rfl _ _ (w.heap.size + 1) 72 #[.bool true, .bool false, .bool false, .bool false, .int .i64 0] (0, 0) _ rfl (H.out.pick 3 rfl).heap Try.underlying72 rfl (by kernel_rfl)) rfl ?_
    have hd := HD.out
    rw [dSweep_over HE1.out HB1.out HK.out.1 HK.out.2] at hd
    obtain ⟨rfl, rfl⟩ := hd
    exact ⟨rfl, St_dropt H.out 2 3⟩
  have hLK : ((sw0 P T who cyc page).look v1).at_ = 1 ∧ ((sw0 P T who cyc page).look v1).k = k ∧ ((sw0 P T who cyc page).look v1).c = c ∧ ((sw0 P T who cyc page).look v1).y = y := by rw [look_due HDC.out (due_yes hdB.symm hbig)]; exact ⟨rfl, rfl, rfl, rfl⟩
  have HLK := Aside.mk hLK
  have HKK := Aside.mk hk
  have HS0 := Aside.mk hs0
  have HPC : Aside (k = 2 → (page : Int) + c ≤ (P : Int) + 1) := ⟨fun h2 => Int.not_lt.1 fun h3 => hbig ⟨h2, h3⟩⟩
  have hib := isE_busy HI.out hk HW.out
  have HTK := Aside.mk (fun (w : World) => rtaken_c HI.out hib w)
  have HWB := Aside.mk (wordR 0 hib)
  have hig := isE_given HI.out hk HC.out
  have HGV := Aside.mk (fun (w : World) => rgiven_c HI.out hk hig w)
  have HWG := Aside.mk (wordR 0 hig)
  have HBND := Aside.mk hbnd
  obtain ⟨v2, x2, e2⟩ : ∃ v2 x2, x1.ask 4 (adr P T 0 page : Nat) v1 (wordOf k c 2 who y) = (v2, x2) := ⟨_, _, rfl⟩
  have hh2 : x2.hist = x1.hist := by have := ask_hist x1 4 (adr P T 0 page : Nat) v1 (wordOf k c 2 who y); rw [e2] at this; exact this
  have ht2 := fun (w' : World) (L : List HP) (h : St w0 w' (tpB t lh x1 :: tpR lh x1 :: L)) => tcas_ HL1.out (adr P T 0 page : Nat) v1 (wordOf k c 2 who y) h
  rw [e2] at ht2
  have HE2 := Aside.mk e2
  have HL2 : Aside (x2.hist.length ≤ 1000) := ⟨by rw [hh2]; exact HL1.out⟩
  have HU2 : Aside (∀ v ∈ x2.hist, u64 v) := ⟨by rw [hh2]; exact HU1.out⟩
  generalize hwb : wordOf k c 2 who y = wb at ht2 HWB HE2
  have HT2 := Aside.mk ht2
  have hkc : (k == 2 && decide ((P : Int) + 1 < (page : Int) + c)) = false := by
    by_cases h2 : k = 2
    · have := fun h3 => hbig ⟨h2, h3⟩
      simp [h2]; omega
    · simp [h2]
  have HWBE := Aside.mk hwb
  clear hk hs0 hyc hbnd hib hig e2 hh2 ht2 hLK hwb hdB
  by_cases hk2 : k = 2
  case pos =>
    subst hk2
    have hwp2 := hwp rfl
    have hgt : decide ((P : Int) + 1 < (page : Int) + c) = false := by simp; exact HPC.out (by trivial)
    have hgt2 : ¬ (P : Int) + 1 < (page : Int) + c := fun h3 => hbig ⟨rfl, h3⟩
    clear hbig hwp hkc
    go_wp2_with (first | (go_at_call 65; with_reducible refine (HDUE.out _).mono ?_; rintro e w4 ⟨rfl, hb⟩; replace H := Aside.mk (H.out.step hb); clear hb; clear e0 e1 e2 e3 e4; obtain ⟨e0, e1, e2, e3, e4⟩ := cell5 (H.out.pick 4 rfl); clear z0; have z0 := (H.out.pick 2 rfl).cell 0) | (go_at_call 66; with_reducible refine (HTK.out _).mono ?_; rintro e w5 ⟨rfl, hb⟩; replace H := Aside.mk ((H.out.step hb).alloc #[.int .i64 0, .int .i64 0, .int .i64 0, .int .i64 0, .int .i64 0] 32); clear hb; clear e0 e1 e2 e3 e4) | (with_reducible refine stop_at (.store 32 (.tmp 14) (.tmp 79)) rfl ?_))
    generalize w5.heap.size = bB at H ⊢
    refine ⟨?_⟩
    refine st_store rfl rfl rfl [.int .i64 2, .int .i64 c, .int .i64 2, .int .i64 who, .int .i64 y] #[.int .i64 2, .int .i64 c, .int .i64 2, .int .i64 who, .int .i64 y] rfl rfl rfl (Nat.le_of_ble_eq_true rfl) (by simp [Value.oneCell']) (H.out) rfl ?_
    intro w6 h_
    replace H : Aside (St w0 w6 (L3_ F P T w.heap.size t lh x1 #[.bool false, .bool false, .bool false, .bool false, .int .i64 0] bE #[.int .i64 2, .int .i64 c, .int .i64 s, .int .i64 o, .int .i64 y] bB #[.int .i64 2, .int .i64 c, .int .i64 2, .int .i64 who, .int .i64 y])) := Aside.mk (h_.order 6 [1, 2, 3, 4, 5, 0] rfl rfl)
    clear h_
    clear z0
    go_wp2_with fail
    replace H := Aside.mk H.out.drew
    refine start_ (n := 9) (S := fun w' => w'.cell? ⟨w.heap.size, 0, none⟩ = some (.int .i64 ((P : Int) + 1)) ∧ w'.cell? ⟨w.heap.size, 1, none⟩ = some (.int .i64 ((T : Int) + 1)) ∧ w'.cell? ⟨w.heap.size, 2, none⟩ = some (.int .i64 1) ∧ w'.cell? ⟨w.heap.size, 3, none⟩ = some (.int .i64 64) ∧ w'.cell? ⟨w.heap.size, 4, none⟩ = some (.int .i64 (22 + 6 * (T : Int))) ∧ w'.cell? ⟨w.heap.size, 5, none⟩ = some (.int .i64 (128 + 64 * (P : Int))) ∧ w'.cell? ⟨bB, 0, none⟩ = some (.int .i64 2) ∧ w'.cell? ⟨bB, 1, none⟩ = some (.int .i64 c) ∧ w'.cell? ⟨bB, 2, none⟩ = some (.int .i64 2) ∧ w'.cell? ⟨bB, 3, none⟩ = some (.int .i64 who) ∧ w'.cell? ⟨bB, 4, none⟩ = some (.int .i64 y)) (ds := []) (flg 9 0) (by kernel_rfl) rfl rfl ((at11 H.out)) (fun hHeld => ?_)
    refine with_tabW rs.tab8 rs.bits8 (fun HT_ HW_ => ?_)
    refine pu_ (v := ?_) (a' := ?_) 0 (some 81) 1 rfl rfl HT_ (by kernel_rfl) (.inl ⟨by rfl, ?_⟩) ?_ ?_; rotate_left 2; (· intro w'; go_simp; with_reducible rfl); (· simp only [nrm]; rfl)
    refine tk_ (v := ?_) (a' := ?_) 1 (some 82) 3 rfl rfl HT_ HW_ (by kernel_rfl) (.inl ⟨by rfl, ?_⟩) hHeld ?_ ?_; rotate_left 2; (· rintro w' ⟨_, _, _, _, _, _, _, _, _, _, _⟩; go_simp; with_reducible rfl); (· simp only [nrm]; rfl)
    refine pu_ (v := ?_) (a' := ?_) 2 (some 83) 7 rfl rfl HT_ (by kernel_rfl) (.inl ⟨by rfl, ?_⟩) ?_ ?_; rotate_left 2; (· intro w'; go_simp; with_reducible rfl); (· simp only [nrm]; rfl)
    refine pu_ (v := ?_) (a' := ?_) 4 (some 85) 23 rfl rfl HT_ (by kernel_rfl) (.inl ⟨by rfl, ?_⟩) ?_ ?_; rotate_left 2; (· intro w'; go_simp; with_reducible rfl); (· simp only [nrm]; rfl)
    refine tk_ (v := ?_) (a' := ?_) 5 (some 86) 55 rfl rfl HT_ HW_ (by kernel_rfl) (.inl ⟨by rfl, ?_⟩) hHeld ?_ ?_; rotate_left 2; (· rintro w' ⟨_, _, _, _, _, _, _, _, _, _, _⟩; go_simp; with_reducible rfl); (· simp only [nrm]; rfl)
    refine on_ 3 (some 84) 63 rfl rfl HT_ (by kernel_rfl) (by decide) (fun K hK => ?_)
    refine goes_ Try.func17 (by kernel_rfl) rfl #[.agg #[.int .i64 ((P : Int) + 1), .int .i64 ((T : Int) + 1), .int .i64 1, .int .i64 64, .int .i64 (22 + 6 * (T : Int)), .int .i64 (128 + 64 * (P : Int))], .int .i64 page] (by rfl) rfl rfl (by (try simp only [List.map_toArray, List.map_cons, List.map_nil]); first | done | rfl) ?_
    refine (windrowref06_Map_PageEntry.calls _ _ _ _ _ _ _ _ _ HPE.out).mono ?_
    rintro e w9 ⟨rfl, hb⟩
    replace H := Aside.mk (H.out.step hb)
    clear hb
    refine ⟨_, rfl, ?_⟩
    refine hK.out _ _ (at11 H.out) (fun hHeld => ?_)
    clear hK K
    refine norm_ (a' := ?_) ?_ ?_
    rotate_left
    · show Act.put _ (some 84) _ = _
      simp only [nrm]
      rfl
    refine on_ 6 (some 87) 127 rfl rfl HT_ (by kernel_rfl) (by decide) (fun K hK => ?_)
    refine goes_ Try.func68 (by kernel_rfl) rfl #[.agg #[.int .i64 2, .int .i64 c, .int .i64 2, .int .i64 who, .int .i64 y]] (by rfl) rfl rfl (by (try simp only [List.map_toArray, List.map_cons, List.map_nil]); first | done | rfl) ?_
    refine (windrowref09_word.calls _ _ _ _ _ _ _ _ HWB.out).mono ?_
    rintro e w9 ⟨rfl, hb⟩
    replace H := Aside.mk (H.out.step hb)
    clear hb
    refine ⟨_, rfl, ?_⟩
    refine hK.out _ _ (at11 H.out) (fun hHeld => ?_)
    clear hK K
    refine norm_ (a' := ?_) ?_ ?_
    rotate_left
    · show Act.put _ (some 87) _ = _
      simp only [nrm]
      rfl
    refine on_ 7 (some 88) 255 rfl rfl HT_ (by kernel_rfl) (by decide) (fun K hK => ?_)
    refine goes_ Try.func67 (by kernel_rfl) rfl #[.pointer (some ⟨t, 0, none⟩), .int .i64 (adr P T 0 page : Nat), .int .u64 v1, .int .u64 wb] (by rfl) rfl rfl (by (try simp only [List.map_toArray, List.map_cons, List.map_nil]); first | done | rfl) ?_
    refine (HT2.out _ _ H.out).mono ?_
    rintro e w10 ⟨rfl, h10⟩
    replace H : Aside (St w0 w10 (L3_ F P T w.heap.size t lh x2 #[.bool false, .bool false, .bool false, .bool false, .int .i64 0] bE #[.int .i64 2, .int .i64 c, .int .i64 s, .int .i64 o, .int .i64 y] bB #[.int .i64 2, .int .i64 c, .int .i64 2, .int .i64 who, .int .i64 y])) := Aside.mk h10
    clear h10
    refine ⟨_, rfl, ?_⟩
    refine hK.out _ _ (at11 H.out) (fun hHeld => ?_)
    clear hK K
    refine norm_ (a' := ?_) ?_ ?_
    rotate_left
    · show Act.put _ (some 88) _ = _
      simp only [nrm]
      rfl
    refine pu_ (v := ?_) (a' := ?_) 8 (some 16) 511 rfl rfl HT_ (by kernel_rfl) (.inl ⟨by rfl, ?_⟩) ?_ ?_; rotate_left 2; (· intro w'; go_simp; with_reducible rfl); (· simp only [nrm]; rfl)
    refine done_ (done_of HT_.out (by kernel_rfl)) ?_
    clear HT_ HW_ hHeld
    go_wp2_with (with_reducible refine stop_at (.load 4 (.tmp 91)) rfl ?_)
    refine ⟨?_⟩
    have x9 : w10.cell? ⟨t, 9, none⟩ = some (.bool x2.stop) := H.out.cell 9
    obtain ⟨b2, hb2⟩ : ∃ b2, b2 = x2.stop := ⟨_, rfl⟩
    rw [← hb2] at x9
    cases b2
    case true =>
      have HB2 := Aside.mk hb2.symm
      clear hb2
      go_wp2_with (with_reducible refine stop_at (.store 72 (.tmp 10) (.tmp 93)) rfl ?_)
      refine ⟨?_⟩
      refine st_store rfl rfl rfl [.bool false, .bool false, .bool false, .bool false, .int .i64 0] #[.bool false, .bool false, .bool false, .bool false, .int .i64 0] rfl rfl rfl (Nat.le_of_ble_eq_true rfl) (by simp [Value.oneCell']) (H.out.pick 3 rfl) rfl ?_
      intro w8 h_
      replace H : Aside (St w0 w8 (L3_ F P T w.heap.size t lh x2 #[.bool false, .bool false, .bool false, .bool false, .int .i64 0] bE #[.int .i64 2, .int .i64 c, .int .i64 s, .int .i64 o, .int .i64 y] bB #[.int .i64 2, .int .i64 c, .int .i64 2, .int .i64 who, .int .i64 y])) := Aside.mk (h_.order 4 [1, 2, 3, 0] rfl rfl)
      clear h_
      go_wp2
      refine bodyPost_ret (results_cell_row rfl _ _ (w.heap.size + 1) 72 #[.bool false, .bool false, .bool false, .bool false, .int .i64 0] (0, 0) _ rfl (H.out.pick 3 rfl).heap Try.underlying72 rfl (by kernel_rfl)) rfl ?_
      have hd := HD.out
      rw [dSweep_stop2 HE1.out HB1.out (by rw [HLK.out.1]; decide) (ask2 HLK.out HWBE.out HE2.out) HB2.out] at hd
      obtain ⟨rfl, rfl⟩ := hd
      exact ⟨rfl, St_dropt H.out 2 4⟩
    have HB2 : Aside (¬ x2.stop = true) := ⟨by rw [← hb2]; decide⟩
    clear hb2
    by_cases hv : v2 = v1
    rotate_left
    · have hvb : (v2 == v1) = false := by simpa using hv
      have HV := Aside.mk hv
      clear hv
      go_wp2_with (with_reducible refine stop_at (.store 72 (.tmp 10) (.tmp 96)) rfl ?_)
      refine ⟨?_⟩
      refine st_store rfl rfl rfl [.bool true, .bool false, .bool false, .bool true, .int .i64 0] #[.bool true, .bool false, .bool false, .bool true, .int .i64 0] rfl rfl rfl (Nat.le_of_ble_eq_true rfl) (by simp [Value.oneCell']) (H.out.pick 3 rfl) rfl ?_
      intro w8 h_
      replace H : Aside (St w0 w8 (L3_ F P T w.heap.size t lh x2 #[.bool true, .bool false, .bool false, .bool true, .int .i64 0] bE #[.int .i64 2, .int .i64 c, .int .i64 s, .int .i64 o, .int .i64 y] bB #[.int .i64 2, .int .i64 c, .int .i64 2, .int .i64 who, .int .i64 y])) := Aside.mk (h_.order 4 [1, 2, 3, 0] rfl rfl)
      clear h_
      go_wp2
      refine bodyPost_ret (results_cell_row rfl _ _ (w.heap.size + 1) 72 #[.bool true, .bool false, .bool false, .bool true, .int .i64 0] (0, 0) _ rfl (H.out.pick 3 rfl).heap Try.underlying72 rfl (by kernel_rfl)) rfl ?_
      have hd := HD.out
      rw [dSweep_lost HE1.out HB1.out (by rw [HLK.out.1]; decide) (ask2 HLK.out HWBE.out HE2.out) HB2.out HV.out] at hd
      obtain ⟨rfl, rfl⟩ := hd
      exact ⟨rfl, St_dropt H.out 2 4⟩
    have hvb : (v2 == v1) = true := by simp [hv]
    have hd := HD.out
    rw [dSweep_rest HE1.out HB1.out (by rw [HLK.out.1]; decide) (ask2 HLK.out HWBE.out HE2.out) HB2.out hv, HLK.out.2.1, HLK.out.2.2.1] at hd
    replace HD := Aside.mk hd
    obtain ⟨m3, x3, e3⟩ : ∃ m3 x3, x2.ask 1 (adr P T 2 page : Nat) 0 0 = (m3, x3) := ⟨_, _, rfl⟩
    obtain ⟨a4, x4, e4⟩ : ∃ a4 x4, x3.ask 1 (adr P T 1 page : Nat) 0 0 = (a4, x4) := ⟨_, _, rfl⟩
    have hh3 : x3.hist = x2.hist := by have := ask_hist x2 1 (adr P T 2 page : Nat) 0 0; rw [e3] at this; exact this
    have hh4 : x4.hist = x3.hist := by have := ask_hist x3 1 (adr P T 1 page : Nat) 0 0; rw [e4] at this; exact this
    have hm3 : u64 m3 := by have := ask_u64 HU2.out 1 (adr P T 2 page : Nat) 0 0; rw [e3] at this; exact this
    have ha4 : u64 a4 := by have := ask_u64 (x := x3) (by rw [hh3]; exact HU2.out) 1 (adr P T 1 page : Nat) 0 0; rw [e4] at this; exact this
    have hl3 : x3.hist.length ≤ 1000 := by rw [hh3]; exact HL2.out
    have hl4 : x4.hist.length ≤ 1000 := by rw [hh4]; exact hl3
    have ht3 := fun (w' : World) (L : List HP) (h : St w0 w' (tpB t lh x2 :: tpR lh x2 :: L)) => tload_ HL2.out (adr P T 2 page : Nat) h
    rw [e3] at ht3
    have ht4 := fun (w' : World) (L : List HP) (h : St w0 w' (tpB t lh x3 :: tpR lh x3 :: L)) => tload_ hl3 (adr P T 1 page : Nat) h
    rw [e4] at ht4
    have HT3 := Aside.mk ht3
    have HT4 := Aside.mk ht4
    have hbo := both_ 200 a4.toNat m3.toNat (by unfold u64 at ha4; omega) (by unfold u64 at hm3; omega) (Nat.le_refl _)
    rw [Int.toNat_of_nonneg ha4.1, Int.toNat_of_nonneg hm3.1, ← andU a4 m3 ha4 hm3] at hbo
    have hbu := and_u64 ha4 hm3
    obtain ⟨L, hL⟩ : ∃ L, L = dLeft 2 m3 a4 := ⟨_, rfl⟩
    have hLu : u64 L := by rw [hL]; exact dLeft_u64 ha4 hm3
    have hLf : IntKind.u64.wrap (Int.tmod (Go.bits .and .u64 a4 m3) 2) = L := by rw [hL, Int.tmod_eq_emod_of_nonneg hbu.1]; exact wu _ (by omega) (by omega)
    have hLf2 : Int.tmod (Go.bits .and .u64 a4 m3) 2 = L := by rw [hL, Int.tmod_eq_emod_of_nonneg hbu.1]; rfl
    generalize Go.bits .and .u64 a4 m3 = bo at hbo hLf hLf2
    have HBO := Aside.mk hbo
    have HLD := Aside.mk hL
    have HLU := Aside.mk hLu
    have HE3 := Aside.mk e3
    have HE4 := Aside.mk e4
    have HH4 := Aside.mk hh4
    have HL4 := Aside.mk hl4
    have HA4 := Aside.mk ha4
    have HM3 := Aside.mk hm3
    obtain ⟨x5, e5⟩ : ∃ x5, (x4.ask 2 (adr P T 1 page : Nat) 0 L).2 = x5 := ⟨_, rfl⟩
    obtain ⟨x6, e6⟩ : ∃ x6, (x5.ask 2 (adr P T 2 page : Nat) 0 0).2 = x6 := ⟨_, rfl⟩
    have hh5 : x5.hist = x4.hist := by rw [← e5]; exact ask_hist ..
    have hh6 : x6.hist = x5.hist := by rw [← e6]; exact ask_hist ..
    have hl5 : x5.hist.length ≤ 1000 := by rw [hh5]; exact hl4
    have hl6 : x6.hist.length ≤ 1000 := by rw [hh6]; exact hl5
    have ht5 := fun (w' : World) (F' : List HP) (h : St w0 w' (tpB t lh x4 :: tpR lh x4 :: F')) => tstore_ hl4 (adr P T 1 page : Nat) L h
    rw [e5] at ht5
    have ht6 := fun (w' : World) (F' : List HP) (h : St w0 w' (tpB t lh x5 :: tpR lh x5 :: F')) => tstore_ hl5 (adr P T 2 page : Nat) 0 h
    rw [e6] at ht6
    have HT5 := Aside.mk ht5
    have HT6 := Aside.mk ht6
    have HE5 := Aside.mk e5
    have HE6 := Aside.mk e6
    have HL6 := Aside.mk hl6
    clear e3 e4 e5 e6 hh3 hh4 hh5 hh6 hm3 ha4 hl3 hl4 hl5 hl6 ht3 ht4 ht5 ht6 hbo hbu hLu hv hd hL
    have e0 := (H.out.pick 4 rfl).cell 0
    have e1 := (H.out.pick 4 rfl).cell 1
    obtain ⟨z0, z1, z2, z3, z4, z5⟩ := cell6 (H.out.pick 2 rfl)
    by_cases hz : L = 0
    rotate_left
    · have hzb : (L == 0) = false := by simpa using hz
      have HZ := Aside.mk hz
      clear hz
      go_wp2_with (first | (go_at_call 16; with_reducible refine (windrowref06_Map_Mark.calls _ _ _ _ _ _ _ _ _ HPM.out).mono ?_; rintro e w9 ⟨rfl, hb⟩; replace H := Aside.mk (H.out.step hb); clear hb; clear z0 z1 z2 z3 z4 z5; obtain ⟨z0, z1, z2, z3, z4, z5⟩ := cell6 (H.out.pick 2 rfl); clear e0 e1; have e0 := (H.out.pick 4 rfl).cell 0; have e1 := (H.out.pick 4 rfl).cell 1) | (go_at_call 15; with_reducible refine (windrowref06_Map_Alloc.calls _ _ _ _ _ _ _ _ _ HPA.out).mono ?_; rintro e w9 ⟨rfl, hb⟩; replace H := Aside.mk (H.out.step hb); clear hb; clear z0 z1 z2 z3 z4 z5; obtain ⟨z0, z1, z2, z3, z4, z5⟩ := cell6 (H.out.pick 2 rfl); clear e0 e1; have e0 := (H.out.pick 4 rfl).cell 0; have e1 := (H.out.pick 4 rfl).cell 1) | (go_at_call 64; with_reducible refine (HT3.out _ _ H.out).mono ?_; rintro e w11 ⟨rfl, h1⟩; replace H : Aside (St w0 w11 (L3_ F P T w.heap.size t lh x3 #[.bool false, .bool false, .bool false, .bool false, .int .i64 0] bE #[.int .i64 2, .int .i64 c, .int .i64 s, .int .i64 o, .int .i64 y] bB #[.int .i64 2, .int .i64 c, .int .i64 2, .int .i64 who, .int .i64 y])) := Aside.mk h1; clear h1; clear z0 z1 z2 z3 z4 z5; obtain ⟨z0, z1, z2, z3, z4, z5⟩ := cell6 (H.out.pick 2 rfl); clear e0 e1; have e0 := (H.out.pick 4 rfl).cell 0; have e1 := (H.out.pick 4 rfl).cell 1) | (go_at_call 64; with_reducible refine (HT4.out _ _ H.out).mono ?_; rintro e w12 ⟨rfl, h1⟩; replace H : Aside (St w0 w12 (L3_ F P T w.heap.size t lh x4 #[.bool false, .bool false, .bool false, .bool false, .int .i64 0] bE #[.int .i64 2, .int .i64 c, .int .i64 s, .int .i64 o, .int .i64 y] bB #[.int .i64 2, .int .i64 c, .int .i64 2, .int .i64 who, .int .i64 y])) := Aside.mk h1; clear h1; clear z0 z1 z2 z3 z4 z5; obtain ⟨z0, z1, z2, z3, z4, z5⟩ := cell6 (H.out.pick 2 rfl); clear e0 e1; have e0 := (H.out.pick 4 rfl).cell 0; have e1 := (H.out.pick 4 rfl).cell 1) | (go_at_call 69; with_reducible refine (windrowref09_Both.calls _ _ _ _ _ HBO.out).mono ?_; rintro e w9 ⟨rfl, hb⟩; replace H := Aside.mk (H.out.step hb); clear hb; clear z0 z1 z2 z3 z4 z5; obtain ⟨z0, z1, z2, z3, z4, z5⟩ := cell6 (H.out.pick 2 rfl); clear e0 e1; have e0 := (H.out.pick 4 rfl).cell 0; have e1 := (H.out.pick 4 rfl).cell 1) | (go_at_call 70; with_reducible refine (HT5.out _ _ H.out).mono ?_; rintro e w13 ⟨rfl, h1⟩; replace H : Aside (St w0 w13 (L3_ F P T w.heap.size t lh x5 #[.bool false, .bool false, .bool false, .bool false, .int .i64 0] bE #[.int .i64 2, .int .i64 c, .int .i64 s, .int .i64 o, .int .i64 y] bB #[.int .i64 2, .int .i64 c, .int .i64 2, .int .i64 who, .int .i64 y])) := Aside.mk h1; clear h1; clear z0 z1 z2 z3 z4 z5; obtain ⟨z0, z1, z2, z3, z4, z5⟩ := cell6 (H.out.pick 2 rfl); clear e0 e1; have e0 := (H.out.pick 4 rfl).cell 0; have e1 := (H.out.pick 4 rfl).cell 1) | (go_at_call 70; with_reducible refine (HT6.out _ _ H.out).mono ?_; rintro e w14 ⟨rfl, h1⟩; replace H : Aside (St w0 w14 (L3_ F P T w.heap.size t lh x6 #[.bool false, .bool false, .bool false, .bool false, .int .i64 0] bE #[.int .i64 2, .int .i64 c, .int .i64 s, .int .i64 o, .int .i64 y] bB #[.int .i64 2, .int .i64 c, .int .i64 2, .int .i64 who, .int .i64 y])) := Aside.mk h1; clear h1; clear z0 z1 z2 z3 z4 z5; obtain ⟨z0, z1, z2, z3, z4, z5⟩ := cell6 (H.out.pick 2 rfl); clear e0 e1; have e0 := (H.out.pick 4 rfl).cell 0; have e1 := (H.out.pick 4 rfl).cell 1) | (with_reducible refine stop_at (.load 32 (.tmp 12)) rfl ?_))
      refine ⟨?_⟩
      obtain ⟨x8, e8⟩ : ∃ x8, (x6.ask 2 (adr P T 0 page : Nat) 0 (wordOf 2 c 0 0 cyc)).2 = x8 := ⟨_, rfl⟩
      have ht8 := fun (w' : World) (F' : List HP) (h : St w0 w' (tpB t lh x6 :: tpR lh x6 :: F')) => tstore_ HL6.out (adr P T 0 page : Nat) (wordOf 2 c 0 0 cyc) h
      rw [e8] at ht8
      have HE8 := Aside.mk e8
      generalize hwg : wordOf 2 c 0 0 cyc = wg at ht8 HWG HE8
      have HWGE := Aside.mk hwg
      clear hwg
      have HT8 := Aside.mk ht8
      clear ht8 e8
      clear e0 e1
      obtain ⟨e0, e1, e2, e3, e4⟩ := cell5 (H.out.pick 4 rfl)
      go_wp2_with (first | (go_at_call 31; with_reducible refine (HGV.out _).mono ?_; rintro e w7 ⟨rfl, hb⟩; replace H := Aside.mk ((H.out.step hb).alloc #[.int .i64 0, .int .i64 0, .int .i64 0, .int .i64 0, .int .i64 0] 32); clear hb z0 z1 z2 z3 z4 z5 e0 e1 e2 e3 e4) | (with_reducible refine stop_at (.store 32 (.tmp 21) (.tmp 158)) rfl ?_))
      generalize w7.heap.size = bG at H ⊢
      refine ⟨?_⟩
      refine st_store rfl rfl rfl [.int .i64 2, .int .i64 c, .int .i64 0, .int .i64 0, .int .i64 cyc] #[.int .i64 2, .int .i64 c, .int .i64 0, .int .i64 0, .int .i64 cyc] rfl rfl rfl (Nat.le_of_ble_eq_true rfl) (by simp [Value.oneCell']) (H.out) rfl ?_
      intro w16 h_
      replace H : Aside (St w0 w16 (L4_ F P T w.heap.size t lh x6 #[.bool false, .bool false, .bool false, .bool false, .int .i64 0] bE #[.int .i64 2, .int .i64 c, .int .i64 s, .int .i64 o, .int .i64 y] bB #[.int .i64 2, .int .i64 c, .int .i64 2, .int .i64 who, .int .i64 y] bG #[.int .i64 2, .int .i64 c, .int .i64 0, .int .i64 0, .int .i64 cyc])) := Aside.mk (h_.order 7 [1, 2, 3, 4, 5, 6, 0] rfl rfl)
      clear h_
      go_wp2_with fail
      replace H := Aside.mk H.out.drew
      refine start_ (n := 7) (S := fun w' => w'.cell? ⟨w.heap.size, 0, none⟩ = some (.int .i64 ((P : Int) + 1)) ∧ w'.cell? ⟨w.heap.size, 1, none⟩ = some (.int .i64 ((T : Int) + 1)) ∧ w'.cell? ⟨w.heap.size, 2, none⟩ = some (.int .i64 1) ∧ w'.cell? ⟨w.heap.size, 3, none⟩ = some (.int .i64 64) ∧ w'.cell? ⟨w.heap.size, 4, none⟩ = some (.int .i64 (22 + 6 * (T : Int))) ∧ w'.cell? ⟨w.heap.size, 5, none⟩ = some (.int .i64 (128 + 64 * (P : Int))) ∧ w'.cell? ⟨bG, 0, none⟩ = some (.int .i64 2) ∧ w'.cell? ⟨bG, 1, none⟩ = some (.int .i64 c) ∧ w'.cell? ⟨bG, 2, none⟩ = some (.int .i64 0) ∧ w'.cell? ⟨bG, 3, none⟩ = some (.int .i64 0) ∧ w'.cell? ⟨bG, 4, none⟩ = some (.int .i64 cyc)) (ds := []) (flg 7 0) (by kernel_rfl) rfl rfl ((at11g H.out)) (fun hHeld => ?_)
      refine with_tabW rs.tab28 rs.bits28 (fun HT_ HW_ => ?_)
      refine pu_ (v := ?_) (a' := ?_) 0 (some 160) 1 rfl rfl HT_ (by kernel_rfl) (.inl ⟨by rfl, ?_⟩) ?_ ?_; rotate_left 2; (· intro w'; go_simp; with_reducible rfl); (· simp only [nrm]; rfl)
      refine tk_ (v := ?_) (a' := ?_) 1 (some 161) 3 rfl rfl HT_ HW_ (by kernel_rfl) (.inl ⟨by rfl, ?_⟩) hHeld ?_ ?_; rotate_left 2; (· rintro w' ⟨_, _, _, _, _, _, _, _, _, _, _⟩; go_simp; with_reducible rfl); (· simp only [nrm]; rfl)
      refine pu_ (v := ?_) (a' := ?_) 2 (some 162) 7 rfl rfl HT_ (by kernel_rfl) (.inl ⟨by rfl, ?_⟩) ?_ ?_; rotate_left 2; (· intro w'; go_simp; with_reducible rfl); (· simp only [nrm]; rfl)
      refine tk_ (v := ?_) (a' := ?_) 4 (some 164) 23 rfl rfl HT_ HW_ (by kernel_rfl) (.inl ⟨by rfl, ?_⟩) hHeld ?_ ?_; rotate_left 2; (· rintro w' ⟨_, _, _, _, _, _, _, _, _, _, _⟩; go_simp; with_reducible rfl); (· simp only [nrm]; rfl)
      refine on_ 3 (some 163) 31 rfl rfl HT_ (by kernel_rfl) (by decide) (fun K hK => ?_)
      refine goes_ Try.func17 (by kernel_rfl) rfl #[.agg #[.int .i64 ((P : Int) + 1), .int .i64 ((T : Int) + 1), .int .i64 1, .int .i64 64, .int .i64 (22 + 6 * (T : Int)), .int .i64 (128 + 64 * (P : Int))], .int .i64 page] (by rfl) rfl rfl (by (try simp only [List.map_toArray, List.map_cons, List.map_nil]); first | done | rfl) ?_
      refine (windrowref06_Map_PageEntry.calls _ _ _ _ _ _ _ _ _ HPE.out).mono ?_
      rintro e w9 ⟨rfl, hb⟩
      replace H := Aside.mk (H.out.step hb)
      clear hb
      refine ⟨_, rfl, ?_⟩
      refine hK.out _ _ (at11g H.out) (fun hHeld => ?_)
      clear hK K
      refine norm_ (a' := ?_) ?_ ?_
      rotate_left
      · show Act.put _ (some 163) _ = _
        simp only [nrm]
        rfl
      refine on_ 5 (some 165) 63 rfl rfl HT_ (by kernel_rfl) (by decide) (fun K hK => ?_)
      refine goes_ Try.func68 (by kernel_rfl) rfl #[.agg #[.int .i64 2, .int .i64 c, .int .i64 0, .int .i64 0, .int .i64 cyc]] (by rfl) rfl rfl (by (try simp only [List.map_toArray, List.map_cons, List.map_nil]); first | done | rfl) ?_
      refine (windrowref09_word.calls _ _ _ _ _ _ _ _ HWG.out).mono ?_
      rintro e w9 ⟨rfl, hb⟩
      replace H := Aside.mk (H.out.step hb)
      clear hb
      refine ⟨_, rfl, ?_⟩
      refine hK.out _ _ (at11g H.out) (fun hHeld => ?_)
      clear hK K
      refine norm_ (a' := ?_) ?_ ?_
      rotate_left
      · show Act.put _ (some 165) _ = _
        simp only [nrm]
        rfl
      refine on_ 6 (some 166) 127 rfl rfl HT_ (by kernel_rfl) (by decide) (fun K hK => ?_)
      refine goes_ Try.func70 (by kernel_rfl) rfl #[.pointer (some ⟨t, 0, none⟩), .int .i64 (adr P T 0 page : Nat), .int .u64 wg] (by rfl) rfl rfl (by (try simp only [List.map_toArray, List.map_cons, List.map_nil]); first | done | rfl) ?_
      refine (HT8.out _ _ H.out).mono ?_
      rintro e w15 ⟨rfl, h10⟩
      replace H : Aside (St w0 w15 (L4_ F P T w.heap.size t lh x8 #[.bool false, .bool false, .bool false, .bool false, .int .i64 0] bE #[.int .i64 2, .int .i64 c, .int .i64 s, .int .i64 o, .int .i64 y] bB #[.int .i64 2, .int .i64 c, .int .i64 2, .int .i64 who, .int .i64 y] bG #[.int .i64 2, .int .i64 c, .int .i64 0, .int .i64 0, .int .i64 cyc])) := Aside.mk h10
      clear h10
      refine ⟨_, rfl, ?_⟩
      refine hK.out _ _ (at11g H.out) (fun hHeld => ?_)
      clear hK K
      refine norm_ (a' := ?_) ?_ ?_
      rotate_left
      · show Act.put _ (some 166) _ = _
        simp only [nrm]
        rfl
      refine done_ (done_of HT_.out (by kernel_rfl)) ?_
      clear HT_ HW_ hHeld
      go_wp2_with (with_reducible refine stop_at (.load 4 (.tmp 169)) rfl ?_)
      refine ⟨?_⟩
      have x9 : w15.cell? ⟨t, 9, none⟩ = some (.bool x8.stop) := H.out.cell 9
      obtain ⟨b8, hb8⟩ : ∃ b8, b8 = x8.stop := ⟨_, rfl⟩
      rw [← hb8] at x9
      have hres := dRest_is (P := P) (T := T) (page := page) (cyc := cyc) (k := 2) (c := c) (x7 := x6) (x8 := x8) HE3.out HE4.out HLD.out HE5.out HE6.out (if_neg (by exact fun hh => HZ.out hh.1)) (by rw [if_neg HZ.out, HWGE.out]; exact HE8.out)
      cases b8
      case true =>
        have HB8 := Aside.mk (hres.1 hb8.symm)
        clear hb8 hres
        go_wp2_with (with_reducible refine stop_at (.store 72 (.tmp 10) (.tmp 171)) rfl ?_)
        refine ⟨?_⟩
        refine st_store rfl rfl rfl [.bool false, .bool false, .bool false, .bool false, .int .i64 0] #[.bool false, .bool false, .bool false, .bool false, .int .i64 0] rfl rfl rfl (Nat.le_of_ble_eq_true rfl) (by simp [Value.oneCell']) (H.out.pick 3 rfl) rfl ?_
        intro w8 h_
        replace H : Aside (St w0 w8 (L4_ F P T w.heap.size t lh x8 #[.bool false, .bool false, .bool false, .bool false, .int .i64 0] bE #[.int .i64 2, .int .i64 c, .int .i64 s, .int .i64 o, .int .i64 y] bB #[.int .i64 2, .int .i64 c, .int .i64 2, .int .i64 who, .int .i64 y] bG #[.int .i64 2, .int .i64 c, .int .i64 0, .int .i64 0, .int .i64 cyc])) := Aside.mk (h_.order 4 [1, 2, 3, 0] rfl rfl)
        clear h_
        go_wp2
        refine bodyPost_ret (results_cell_row rfl _ _ (w.heap.size + 1) 72 #[.bool false, .bool false, .bool false, .bool false, .int .i64 0] (0, 0) _ rfl (H.out.pick 3 rfl).heap Try.underlying72 rfl (by kernel_rfl)) rfl ?_
        have hd := HD.out
        rw [HB8.out] at hd
        obtain ⟨rfl, rfl⟩ := hd
        exact ⟨rfl, St_dropt H.out 2 5⟩
      have HB8 := Aside.mk (hres.2 (by rw [← hb8]; decide))
      clear hb8 hres
      have hP1 := places_ 129 a4.toNat (by have := HA4.out; unfold u64 at this; omega) (Nat.le_refl _)
      have hP2 := places_ 129 L.toNat (by have := HLU.out; unfold u64 at this; omega) (Nat.le_refl _)
      have hL1 : ((Pop.plc 64 a4.toNat).map (fun (i : Nat) => (i : Int))).length = Pop.cnt 64 a4.toNat := by rw [List.length_map, Pop.plc_len]
      have hL2 : ((Pop.plc 64 L.toNat).map (fun (i : Nat) => (i : Int))).length = Pop.cnt 64 L.toNat := by rw [List.length_map, Pop.plc_len]
      have hle1 := Pop.cnt_le 64 a4.toNat
      have hle2 := Pop.cnt_le 64 L.toNat
      rw [Int.toNat_of_nonneg HA4.out.1] at hP1
      rw [Int.toNat_of_nonneg HLU.out.1] at hP2
      rw [← hL1, ← hL2] at HB8
      rw [← hL1] at hle1
      rw [← hL2] at hle2
      generalize (Pop.plc 64 a4.toNat).map (fun (i : Nat) => (i : Int)) = P1 at hP1 hL1 hle1 HB8
      generalize (Pop.plc 64 L.toNat).map (fun (i : Nat) => (i : Int)) = P2 at hP2 hL2 hle2 HB8
      have hsub : wrap64 ((P1.length : Int) - (P2.length : Int)) = (P1.length : Int) - (P2.length : Int) := by unfold wrap64; omega
      have HP1 := Aside.mk hP1
      have HP2 := Aside.mk hP2
      clear hP1 hP2 hL1 hL2 hle1 hle2
      go_wp2_with (first | (go_at_call 24; with_reducible refine (windrowref01_Places.calls 129 a4 _ _ HP1.out).mono ?_; rintro e w7 ⟨v0, rfl, hR, hb⟩; obtain ⟨A1, c1, rfl⟩ := Kd.R_slice hR; replace H := Aside.mk (H.out.step hb); clear hb hR) | (go_at_call 24; with_reducible refine (windrowref01_Places.calls 129 L _ _ HP2.out).mono ?_; rintro e w7 ⟨v0, rfl, hR, hb⟩; obtain ⟨A1, c1, rfl⟩ := Kd.R_slice hR; replace H := Aside.mk (H.out.step hb); clear hb hR) | (with_reducible refine stop_at (.store 72 (.tmp 10) (.tmp 181)) rfl ?_))
      refine ⟨?_⟩
      refine st_store rfl rfl rfl [.bool true, .bool true, .bool false, .bool false, .int .i64 ((P1.length : Int) - (P2.length : Int))] #[.bool true, .bool true, .bool false, .bool false, .int .i64 ((P1.length : Int) - (P2.length : Int))] rfl rfl rfl (Nat.le_of_ble_eq_true rfl) (by simp [Value.oneCell']) (H.out.pick 3 rfl) rfl ?_
      intro w8 h_
      replace H : Aside (St w0 w8 (L4_ F P T w.heap.size t lh x8 #[.bool true, .bool true, .bool false, .bool false, .int .i64 ((P1.length : Int) - (P2.length : Int))] bE #[.int .i64 2, .int .i64 c, .int .i64 s, .int .i64 o, .int .i64 y] bB #[.int .i64 2, .int .i64 c, .int .i64 2, .int .i64 who, .int .i64 y] bG #[.int .i64 2, .int .i64 c, .int .i64 0, .int .i64 0, .int .i64 cyc])) := Aside.mk (h_.order 4 [1, 2, 3, 0] rfl rfl)
      clear h_
      go_wp2
      refine bodyPost_ret (results_cell_row rfl _ _ (w.heap.size + 1) 72 #[.bool true, .bool true, .bool false, .bool false, .int .i64 ((P1.length : Int) - (P2.length : Int))] (0, 0) _ rfl (H.out.pick 3 rfl).heap Try.underlying72 rfl (by kernel_rfl)) rfl ?_
      have hd := HD.out
      rw [HB8.out] at hd
      have hz9 := HZ.out
      obtain ⟨rfl, rfl⟩ := hd
      exact ⟨by show _ = Ending.returned (.agg #[.bool true, .bool true, .bool (L == 0), .bool false, _]); rw [hzb], St_dropt H.out 2 5⟩
    have hzb : (L == 0) = true := by simp [hz]
    have HZ := Aside.mk hz
    clear hz
    obtain ⟨x7, e7⟩ : ∃ x7, dTails P T page (c - 1).toNat x6 = x7 := ⟨_, rfl⟩
    have HE70 := Aside.mk e7
    have HL7 : Aside (x7.hist.length ≤ 1000) := ⟨by rw [← e7, tails_hist]; exact HL6.out⟩
    clear e7
    have hc1 : wrap64 (c - 1) = (((c - 1).toNat : Nat) : Int) := by have := HBND.out.2.1 (by trivial); unfold wrap64; omega
    have HC1 := Aside.mk hc1
    clear hc1
    go_upto_block 0 with (first | (go_at_call 16; with_reducible refine (windrowref06_Map_Mark.calls _ _ _ _ _ _ _ _ _ HPM.out).mono ?_; rintro e w9 ⟨rfl, hb⟩; replace H := Aside.mk (H.out.step hb); clear hb; clear z0 z1 z2 z3 z4 z5; obtain ⟨z0, z1, z2, z3, z4, z5⟩ := cell6 (H.out.pick 2 rfl); clear e0 e1; have e0 := (H.out.pick 4 rfl).cell 0; have e1 := (H.out.pick 4 rfl).cell 1) | (go_at_call 15; with_reducible refine (windrowref06_Map_Alloc.calls _ _ _ _ _ _ _ _ _ HPA.out).mono ?_; rintro e w9 ⟨rfl, hb⟩; replace H := Aside.mk (H.out.step hb); clear hb; clear z0 z1 z2 z3 z4 z5; obtain ⟨z0, z1, z2, z3, z4, z5⟩ := cell6 (H.out.pick 2 rfl); clear e0 e1; have e0 := (H.out.pick 4 rfl).cell 0; have e1 := (H.out.pick 4 rfl).cell 1) | (go_at_call 64; with_reducible refine (HT3.out _ _ H.out).mono ?_; rintro e w11 ⟨rfl, h1⟩; replace H : Aside (St w0 w11 (L3_ F P T w.heap.size t lh x3 #[.bool false, .bool false, .bool false, .bool false, .int .i64 0] bE #[.int .i64 2, .int .i64 c, .int .i64 s, .int .i64 o, .int .i64 y] bB #[.int .i64 2, .int .i64 c, .int .i64 2, .int .i64 who, .int .i64 y])) := Aside.mk h1; clear h1; clear z0 z1 z2 z3 z4 z5; obtain ⟨z0, z1, z2, z3, z4, z5⟩ := cell6 (H.out.pick 2 rfl); clear e0 e1; have e0 := (H.out.pick 4 rfl).cell 0; have e1 := (H.out.pick 4 rfl).cell 1) | (go_at_call 64; with_reducible refine (HT4.out _ _ H.out).mono ?_; rintro e w12 ⟨rfl, h1⟩; replace H : Aside (St w0 w12 (L3_ F P T w.heap.size t lh x4 #[.bool false, .bool false, .bool false, .bool false, .int .i64 0] bE #[.int .i64 2, .int .i64 c, .int .i64 s, .int .i64 o, .int .i64 y] bB #[.int .i64 2, .int .i64 c, .int .i64 2, .int .i64 who, .int .i64 y])) := Aside.mk h1; clear h1; clear z0 z1 z2 z3 z4 z5; obtain ⟨z0, z1, z2, z3, z4, z5⟩ := cell6 (H.out.pick 2 rfl); clear e0 e1; have e0 := (H.out.pick 4 rfl).cell 0; have e1 := (H.out.pick 4 rfl).cell 1) | (go_at_call 69; with_reducible refine (windrowref09_Both.calls _ _ _ _ _ HBO.out).mono ?_; rintro e w9 ⟨rfl, hb⟩; replace H := Aside.mk (H.out.step hb); clear hb; clear z0 z1 z2 z3 z4 z5; obtain ⟨z0, z1, z2, z3, z4, z5⟩ := cell6 (H.out.pick 2 rfl); clear e0 e1; have e0 := (H.out.pick 4 rfl).cell 0; have e1 := (H.out.pick 4 rfl).cell 1) | (go_at_call 70; with_reducible refine (HT5.out _ _ H.out).mono ?_; rintro e w13 ⟨rfl, h1⟩; replace H : Aside (St w0 w13 (L3_ F P T w.heap.size t lh x5 #[.bool false, .bool false, .bool false, .bool false, .int .i64 0] bE #[.int .i64 2, .int .i64 c, .int .i64 s, .int .i64 o, .int .i64 y] bB #[.int .i64 2, .int .i64 c, .int .i64 2, .int .i64 who, .int .i64 y])) := Aside.mk h1; clear h1; clear z0 z1 z2 z3 z4 z5; obtain ⟨z0, z1, z2, z3, z4, z5⟩ := cell6 (H.out.pick 2 rfl); clear e0 e1; have e0 := (H.out.pick 4 rfl).cell 0; have e1 := (H.out.pick 4 rfl).cell 1) | (go_at_call 70; with_reducible refine (HT6.out _ _ H.out).mono ?_; rintro e w14 ⟨rfl, h1⟩; replace H : Aside (St w0 w14 (L3_ F P T w.heap.size t lh x6 #[.bool false, .bool false, .bool false, .bool false, .int .i64 0] bE #[.int .i64 2, .int .i64 c, .int .i64 s, .int .i64 o, .int .i64 y] bB #[.int .i64 2, .int .i64 c, .int .i64 2, .int .i64 who, .int .i64 y])) := Aside.mk h1; clear h1; clear z0 z1 z2 z3 z4 z5; obtain ⟨z0, z1, z2, z3, z4, z5⟩ := cell6 (H.out.pick 2 rfl); clear e0 e1; have e0 := (H.out.pick 4 rfl).cell 0; have e1 := (H.out.pick 4 rfl).cell 1))
    go_cut [20] (fun v20 wc => Aside (St w0 wc (L3_ F P T w.heap.size t lh x7 #[.bool false, .bool false, .bool false, .bool false, .int .i64 0] bE #[.int .i64 2, .int .i64 c, .int .i64 s, .int .i64 o, .int .i64 y] bB #[.int .i64 2, .int .i64 c, .int .i64 2, .int .i64 who, .int .i64 y])))
    case first =>
      go_wp2_with fail
      go_loopg [20] ((c - 1).toNat) (fun m v20 w' => ∃ j0 : Nat, m = j0 ∧ v20 = .int .i64 j0 ∧ ∃ X7 : Tp, Aside (dTails P T page j0 X7 = x7) ∧ Aside (X7.hist.length ≤ 1000) ∧ Aside ((page : Int) + j0 ≤ P) ∧ Aside (St w0 w' (L3_ F P T w.heap.size t lh X7 #[.bool false, .bool false, .bool false, .bool false, .int .i64 0] bE #[.int .i64 2, .int .i64 c, .int .i64 s, .int .i64 o, .int .i64 y] bB #[.int .i64 2, .int .i64 c, .int .i64 2, .int .i64 who, .int .i64 y])))
      case atStart => exact ⟨(c - 1).toNat, rfl, by first | rfl | (rw [HC1.out]), x6, HE70, HL6, ⟨by have := HPC.out (by trivial); have := HBND.out.2.1 (by trivial); omega⟩, H⟩
      case round =>
        clear H z0 z1 z2 z3 z4 z5 e0 e1
        obtain ⟨j0, hm, rfl, X7, HX7, HLX, HPJ, H⟩ := hrel
        rcases j0 with _ | j
        · have d0 : decide ((1 : Int) ≤ ((0 : Nat) : Int)) = false := by decide
          go_wp2
          go_meet
          case rel => have e9 : X7 = x7 := HX7.out; rw [← e9]; exact H
        · obtain ⟨d0, d1, hpj, hwj, hlj⟩ := tail_j HPp.out HPJ.out
          have htl := HTAIL.out (j + 1) hlj
          rw [show ((page + (j + 1) : Nat) : Int) = (page : Int) + ((j : Int) + 1) by push_cast; rfl] at htl
          have HTJ := Aside.mk htl
          have hts := fun (w' : World) (F' : List HP) (h : St w0 w' (tpB t lh X7 :: tpR lh X7 :: F')) => tstore_ HLX.out (adr P T 0 (page + (j + 1)) : Nat) 0 h
          have HTS := Aside.mk hts
          clear htl hts
          obtain ⟨z0, z1, z2, z3, z4, z5⟩ := cell6 (H.out.pick 2 rfl)
          go_wp2_with (first | (go_at_call 17; with_reducible refine (windrowref06_Map_PageEntry.calls _ _ _ _ _ _ _ _ _ HTJ.out).mono ?_; rintro e w9 ⟨rfl, hb⟩; replace H := Aside.mk (H.out.step hb); clear hb; clear z0 z1 z2 z3 z4 z5; obtain ⟨z0, z1, z2, z3, z4, z5⟩ := cell6 (H.out.pick 2 rfl)) | (go_at_call 70; refine (HTS.out _ _ H.out).mono ?_; rintro e w13 ⟨rfl, h1⟩; replace H := Aside.mk h1; clear h1 z0 z1 z2 z3 z4 z5))
          go_roundg j
          case measure => omega
          case rel => exact ⟨j, rfl, by first | rfl | (rw [hwj]), _, ⟨HX7.out⟩, ⟨by rw [ask_hist]; exact HLX.out⟩, ⟨tail_n HPJ.out⟩, H⟩
    case rest =>
      clear H z0 z1 z2 z3 z4 z5 e0 e1
      have H := hcut
      clear hcut
      obtain ⟨z0, z1, z2, z3, z4, z5⟩ := cell6 (H.out.pick 2 rfl)
      obtain ⟨x8, e8⟩ : ∃ x8, (x7.ask 2 (adr P T 0 page : Nat) 0 0).2 = x8 := ⟨_, rfl⟩
      have ht8 := fun (w' : World) (F' : List HP) (h : St w0 w' (tpB t lh x7 :: tpR lh x7 :: F')) => tstore_ HL7.out (adr P T 0 page : Nat) 0 h
      rw [e8] at ht8
      have HE8 := Aside.mk e8
      have HT8 := Aside.mk ht8
      clear ht8 e8
      go_wp2_with (first | (go_at_call 17; with_reducible refine (windrowref06_Map_PageEntry.calls _ _ _ _ _ _ _ _ _ HPE.out).mono ?_; rintro e w9 ⟨rfl, hb⟩; replace H := Aside.mk (H.out.step hb); clear hb; clear z0 z1 z2 z3 z4 z5; obtain ⟨z0, z1, z2, z3, z4, z5⟩ := cell6 (H.out.pick 2 rfl)) | (go_at_call 70; with_reducible refine (HT8.out _ _ H.out).mono ?_; rintro e w15 ⟨rfl, h1⟩; replace H : Aside (St w0 w15 (L3_ F P T w.heap.size t lh x8 #[.bool false, .bool false, .bool false, .bool false, .int .i64 0] bE #[.int .i64 2, .int .i64 c, .int .i64 s, .int .i64 o, .int .i64 y] bB #[.int .i64 2, .int .i64 c, .int .i64 2, .int .i64 who, .int .i64 y])) := Aside.mk h1; clear h1; clear z0 z1 z2 z3 z4 z5) | (with_reducible refine stop_at (.load 4 (.tmp 169)) rfl ?_))
      refine ⟨?_⟩
      have x9 : w15.cell? ⟨t, 9, none⟩ = some (.bool x8.stop) := H.out.cell 9
      obtain ⟨b8, hb8⟩ : ∃ b8, b8 = x8.stop := ⟨_, rfl⟩
      rw [← hb8] at x9
      have hres := dRest_is (P := P) (T := T) (page := page) (cyc := cyc) (k := 2) (c := c) (x7 := x7) (x8 := x8) HE3.out HE4.out HLD.out HE5.out HE6.out (by rw [if_pos ⟨HZ.out, rfl⟩]; exact HE70.out) (by rw [if_pos HZ.out]; exact HE8.out)
      cases b8
      case true =>
        have HB8 := Aside.mk (hres.1 hb8.symm)
        clear hb8 hres
        go_wp2_with (with_reducible refine stop_at (.store 72 (.tmp 10) (.tmp 171)) rfl ?_)
        refine ⟨?_⟩
        refine st_store rfl rfl rfl [.bool false, .bool false, .bool false, .bool false, .int .i64 0] #[.bool false, .bool false, .bool false, .bool false, .int .i64 0] rfl rfl rfl (Nat.le_of_ble_eq_true rfl) (by simp [Value.oneCell']) (H.out.pick 3 rfl) rfl ?_
        intro w8 h_
        replace H : Aside (St w0 w8 (L3_ F P T w.heap.size t lh x8 #[.bool false, .bool false, .bool false, .bool false, .int .i64 0] bE #[.int .i64 2, .int .i64 c, .int .i64 s, .int .i64 o, .int .i64 y] bB #[.int .i64 2, .int .i64 c, .int .i64 2, .int .i64 who, .int .i64 y])) := Aside.mk (h_.order 4 [1, 2, 3, 0] rfl rfl)
        clear h_
        go_wp2
        refine bodyPost_ret (results_cell_row rfl _ _ (w.heap.size + 1) 72 #[.bool false, .bool false, .bool false, .bool false, .int .i64 0] (0, 0) _ rfl (H.out.pick 3 rfl).heap Try.underlying72 rfl (by kernel_rfl)) rfl ?_
        have hd := HD.out
        rw [HB8.out] at hd
        obtain ⟨rfl, rfl⟩ := hd
        exact ⟨rfl, St_dropt H.out 2 4⟩
      have HB8 := Aside.mk (hres.2 (by rw [← hb8]; decide))
      clear hb8 hres
      have hP1 := places_ 129 a4.toNat (by have := HA4.out; unfold u64 at this; omega) (Nat.le_refl _)
      have hP2 := places_ 129 L.toNat (by have := HLU.out; unfold u64 at this; omega) (Nat.le_refl _)
      have hL1 : ((Pop.plc 64 a4.toNat).map (fun (i : Nat) => (i : Int))).length = Pop.cnt 64 a4.toNat := by rw [List.length_map, Pop.plc_len]
      have hL2 : ((Pop.plc 64 L.toNat).map (fun (i : Nat) => (i : Int))).length = Pop.cnt 64 L.toNat := by rw [List.length_map, Pop.plc_len]
      have hle1 := Pop.cnt_le 64 a4.toNat
      have hle2 := Pop.cnt_le 64 L.toNat
      rw [Int.toNat_of_nonneg HA4.out.1] at hP1
      rw [Int.toNat_of_nonneg HLU.out.1] at hP2
      rw [← hL1, ← hL2] at HB8
      rw [← hL1] at hle1
      rw [← hL2] at hle2
      generalize (Pop.plc 64 a4.toNat).map (fun (i : Nat) => (i : Int)) = P1 at hP1 hL1 hle1 HB8
      generalize (Pop.plc 64 L.toNat).map (fun (i : Nat) => (i : Int)) = P2 at hP2 hL2 hle2 HB8
      have hsub : wrap64 ((P1.length : Int) - (P2.length : Int)) = (P1.length : Int) - (P2.length : Int) := by unfold wrap64; omega
      have HP1 := Aside.mk hP1
      have HP2 := Aside.mk hP2
      clear hP1 hP2 hL1 hL2 hle1 hle2
      go_wp2_with (first | (go_at_call 24; with_reducible refine (windrowref01_Places.calls 129 a4 _ _ HP1.out).mono ?_; rintro e w7 ⟨v0, rfl, hR, hb⟩; obtain ⟨A1, c1, rfl⟩ := Kd.R_slice hR; replace H := Aside.mk (H.out.step hb); clear hb hR) | (go_at_call 24; with_reducible refine (windrowref01_Places.calls 129 L _ _ HP2.out).mono ?_; rintro e w7 ⟨v0, rfl, hR, hb⟩; obtain ⟨A1, c1, rfl⟩ := Kd.R_slice hR; replace H := Aside.mk (H.out.step hb); clear hb hR) | (with_reducible refine stop_at (.store 72 (.tmp 10) (.tmp 181)) rfl ?_))
      refine ⟨?_⟩
      refine st_store rfl rfl rfl [.bool true, .bool true, .bool true, .bool false, .int .i64 ((P1.length : Int) - (P2.length : Int))] #[.bool true, .bool true, .bool true, .bool false, .int .i64 ((P1.length : Int) - (P2.length : Int))] rfl rfl rfl (Nat.le_of_ble_eq_true rfl) (by simp [Value.oneCell']) (H.out.pick 3 rfl) rfl ?_
      intro w8 h_
      replace H : Aside (St w0 w8 (L3_ F P T w.heap.size t lh x8 #[.bool true, .bool true, .bool true, .bool false, .int .i64 ((P1.length : Int) - (P2.length : Int))] bE #[.int .i64 2, .int .i64 c, .int .i64 s, .int .i64 o, .int .i64 y] bB #[.int .i64 2, .int .i64 c, .int .i64 2, .int .i64 who, .int .i64 y])) := Aside.mk (h_.order 4 [1, 2, 3, 0] rfl rfl)
      clear h_
      go_wp2
      refine bodyPost_ret (results_cell_row rfl _ _ (w.heap.size + 1) 72 #[.bool true, .bool true, .bool true, .bool false, .int .i64 ((P1.length : Int) - (P2.length : Int))] (0, 0) _ rfl (H.out.pick 3 rfl).heap Try.underlying72 rfl (by kernel_rfl)) rfl ?_
      have hd := HD.out
      rw [HB8.out] at hd
      have hz9 := HZ.out
      obtain ⟨rfl, rfl⟩ := hd
      exact ⟨by show _ = Ending.returned (.agg #[.bool true, .bool true, .bool (L == 0), .bool false, _]); rw [hzb], St_dropt H.out 2 4⟩
  case neg =>
    obtain rfl : k = 1 := by rcases HKK.out with h | h; exact h; exact absurd h hk2
    clear hbig hwp hkc hk2
    go_wp2_with (first | (go_at_call 65; with_reducible refine (HDUE.out _).mono ?_; rintro e w4 ⟨rfl, hb⟩; replace H := Aside.mk (H.out.step hb); clear hb; clear e0 e1 e2 e3 e4; obtain ⟨e0, e1, e2, e3, e4⟩ := cell5 (H.out.pick 4 rfl); clear z0; have z0 := (H.out.pick 2 rfl).cell 0) | (go_at_call 66; with_reducible refine (HTK.out _).mono ?_; rintro e w5 ⟨rfl, hb⟩; replace H := Aside.mk ((H.out.step hb).alloc #[.int .i64 0, .int .i64 0, .int .i64 0, .int .i64 0, .int .i64 0] 32); clear hb; clear e0 e1 e2 e3 e4) | (with_reducible refine stop_at (.store 32 (.tmp 14) (.tmp 79)) rfl ?_))
    generalize w5.heap.size = bB at H ⊢
    refine ⟨?_⟩
    refine st_store rfl rfl rfl [.int .i64 1, .int .i64 c, .int .i64 2, .int .i64 who, .int .i64 y] #[.int .i64 1, .int .i64 c, .int .i64 2, .int .i64 who, .int .i64 y] rfl rfl rfl (Nat.le_of_ble_eq_true rfl) (by simp [Value.oneCell']) (H.out) rfl ?_
    intro w6 h_
    replace H : Aside (St w0 w6 (L3_ F P T w.heap.size t lh x1 #[.bool false, .bool false, .bool false, .bool false, .int .i64 0] bE #[.int .i64 1, .int .i64 c, .int .i64 s, .int .i64 o, .int .i64 y] bB #[.int .i64 1, .int .i64 c, .int .i64 2, .int .i64 who, .int .i64 y])) := Aside.mk (h_.order 6 [1, 2, 3, 4, 5, 0] rfl rfl)
    clear h_
    clear z0
    go_wp2_with fail
    replace H := Aside.mk H.out.drew
    refine start_ (n := 9) (S := fun w' => w'.cell? ⟨w.heap.size, 0, none⟩ = some (.int .i64 ((P : Int) + 1)) ∧ w'.cell? ⟨w.heap.size, 1, none⟩ = some (.int .i64 ((T : Int) + 1)) ∧ w'.cell? ⟨w.heap.size, 2, none⟩ = some (.int .i64 1) ∧ w'.cell? ⟨w.heap.size, 3, none⟩ = some (.int .i64 64) ∧ w'.cell? ⟨w.heap.size, 4, none⟩ = some (.int .i64 (22 + 6 * (T : Int))) ∧ w'.cell? ⟨w.heap.size, 5, none⟩ = some (.int .i64 (128 + 64 * (P : Int))) ∧ w'.cell? ⟨bB, 0, none⟩ = some (.int .i64 1) ∧ w'.cell? ⟨bB, 1, none⟩ = some (.int .i64 c) ∧ w'.cell? ⟨bB, 2, none⟩ = some (.int .i64 2) ∧ w'.cell? ⟨bB, 3, none⟩ = some (.int .i64 who) ∧ w'.cell? ⟨bB, 4, none⟩ = some (.int .i64 y)) (ds := []) (flg 9 0) (by kernel_rfl) rfl rfl ((at11 H.out)) (fun hHeld => ?_)
    refine with_tabW rs.tab8 rs.bits8 (fun HT_ HW_ => ?_)
    refine pu_ (v := ?_) (a' := ?_) 0 (some 81) 1 rfl rfl HT_ (by kernel_rfl) (.inl ⟨by rfl, ?_⟩) ?_ ?_; rotate_left 2; (· intro w'; go_simp; with_reducible rfl); (· simp only [nrm]; rfl)
    refine tk_ (v := ?_) (a' := ?_) 1 (some 82) 3 rfl rfl HT_ HW_ (by kernel_rfl) (.inl ⟨by rfl, ?_⟩) hHeld ?_ ?_; rotate_left 2; (· rintro w' ⟨_, _, _, _, _, _, _, _, _, _, _⟩; go_simp; with_reducible rfl); (· simp only [nrm]; rfl)
    refine pu_ (v := ?_) (a' := ?_) 2 (some 83) 7 rfl rfl HT_ (by kernel_rfl) (.inl ⟨by rfl, ?_⟩) ?_ ?_; rotate_left 2; (· intro w'; go_simp; with_reducible rfl); (· simp only [nrm]; rfl)
    refine pu_ (v := ?_) (a' := ?_) 4 (some 85) 23 rfl rfl HT_ (by kernel_rfl) (.inl ⟨by rfl, ?_⟩) ?_ ?_; rotate_left 2; (· intro w'; go_simp; with_reducible rfl); (· simp only [nrm]; rfl)
    refine tk_ (v := ?_) (a' := ?_) 5 (some 86) 55 rfl rfl HT_ HW_ (by kernel_rfl) (.inl ⟨by rfl, ?_⟩) hHeld ?_ ?_; rotate_left 2; (· rintro w' ⟨_, _, _, _, _, _, _, _, _, _, _⟩; go_simp; with_reducible rfl); (· simp only [nrm]; rfl)
    refine on_ 3 (some 84) 63 rfl rfl HT_ (by kernel_rfl) (by decide) (fun K hK => ?_)
    refine goes_ Try.func17 (by kernel_rfl) rfl #[.agg #[.int .i64 ((P : Int) + 1), .int .i64 ((T : Int) + 1), .int .i64 1, .int .i64 64, .int .i64 (22 + 6 * (T : Int)), .int .i64 (128 + 64 * (P : Int))], .int .i64 page] (by rfl) rfl rfl (by (try simp only [List.map_toArray, List.map_cons, List.map_nil]); first | done | rfl) ?_
    refine (windrowref06_Map_PageEntry.calls _ _ _ _ _ _ _ _ _ HPE.out).mono ?_
    rintro e w9 ⟨rfl, hb⟩
    replace H := Aside.mk (H.out.step hb)
    clear hb
    refine ⟨_, rfl, ?_⟩
    refine hK.out _ _ (at11 H.out) (fun hHeld => ?_)
    clear hK K
    refine norm_ (a' := ?_) ?_ ?_
    rotate_left
    · show Act.put _ (some 84) _ = _
      simp only [nrm]
      rfl
    refine on_ 6 (some 87) 127 rfl rfl HT_ (by kernel_rfl) (by decide) (fun K hK => ?_)
    refine goes_ Try.func68 (by kernel_rfl) rfl #[.agg #[.int .i64 1, .int .i64 c, .int .i64 2, .int .i64 who, .int .i64 y]] (by rfl) rfl rfl (by (try simp only [List.map_toArray, List.map_cons, List.map_nil]); first | done | rfl) ?_
    refine (windrowref09_word.calls _ _ _ _ _ _ _ _ HWB.out).mono ?_
    rintro e w9 ⟨rfl, hb⟩
    replace H := Aside.mk (H.out.step hb)
    clear hb
    refine ⟨_, rfl, ?_⟩
    refine hK.out _ _ (at11 H.out) (fun hHeld => ?_)
    clear hK K
    refine norm_ (a' := ?_) ?_ ?_
    rotate_left
    · show Act.put _ (some 87) _ = _
      simp only [nrm]
      rfl
    refine on_ 7 (some 88) 255 rfl rfl HT_ (by kernel_rfl) (by decide) (fun K hK => ?_)
    refine goes_ Try.func67 (by kernel_rfl) rfl #[.pointer (some ⟨t, 0, none⟩), .int .i64 (adr P T 0 page : Nat), .int .u64 v1, .int .u64 wb] (by rfl) rfl rfl (by (try simp only [List.map_toArray, List.map_cons, List.map_nil]); first | done | rfl) ?_
    refine (HT2.out _ _ H.out).mono ?_
    rintro e w10 ⟨rfl, h10⟩
    replace H : Aside (St w0 w10 (L3_ F P T w.heap.size t lh x2 #[.bool false, .bool false, .bool false, .bool false, .int .i64 0] bE #[.int .i64 1, .int .i64 c, .int .i64 s, .int .i64 o, .int .i64 y] bB #[.int .i64 1, .int .i64 c, .int .i64 2, .int .i64 who, .int .i64 y])) := Aside.mk h10
    clear h10
    refine ⟨_, rfl, ?_⟩
    refine hK.out _ _ (at11 H.out) (fun hHeld => ?_)
    clear hK K
    refine norm_ (a' := ?_) ?_ ?_
    rotate_left
    · show Act.put _ (some 88) _ = _
      simp only [nrm]
      rfl
    refine pu_ (v := ?_) (a' := ?_) 8 (some 16) 511 rfl rfl HT_ (by kernel_rfl) (.inl ⟨by rfl, ?_⟩) ?_ ?_; rotate_left 2; (· intro w'; go_simp; with_reducible rfl); (· simp only [nrm]; rfl)
    refine done_ (done_of HT_.out (by kernel_rfl)) ?_
    clear HT_ HW_ hHeld
    go_wp2_with (with_reducible refine stop_at (.load 4 (.tmp 91)) rfl ?_)
    refine ⟨?_⟩
    have x9 : w10.cell? ⟨t, 9, none⟩ = some (.bool x2.stop) := H.out.cell 9
    obtain ⟨b2, hb2⟩ : ∃ b2, b2 = x2.stop := ⟨_, rfl⟩
    rw [← hb2] at x9
    cases b2
    case true =>
      have HB2 := Aside.mk hb2.symm
      clear hb2
      go_wp2_with (with_reducible refine stop_at (.store 72 (.tmp 10) (.tmp 93)) rfl ?_)
      refine ⟨?_⟩
      refine st_store rfl rfl rfl [.bool false, .bool false, .bool false, .bool false, .int .i64 0] #[.bool false, .bool false, .bool false, .bool false, .int .i64 0] rfl rfl rfl (Nat.le_of_ble_eq_true rfl) (by simp [Value.oneCell']) (H.out.pick 3 rfl) rfl ?_
      intro w8 h_
      replace H : Aside (St w0 w8 (L3_ F P T w.heap.size t lh x2 #[.bool false, .bool false, .bool false, .bool false, .int .i64 0] bE #[.int .i64 1, .int .i64 c, .int .i64 s, .int .i64 o, .int .i64 y] bB #[.int .i64 1, .int .i64 c, .int .i64 2, .int .i64 who, .int .i64 y])) := Aside.mk (h_.order 4 [1, 2, 3, 0] rfl rfl)
      clear h_
      go_wp2
      refine bodyPost_ret (results_cell_row rfl _ _ (w.heap.size + 1) 72 #[.bool false, .bool false, .bool false, .bool false, .int .i64 0] (0, 0) _ rfl (H.out.pick 3 rfl).heap Try.underlying72 rfl (by kernel_rfl)) rfl ?_
      have hd := HD.out
      rw [dSweep_stop2 HE1.out HB1.out (by rw [HLK.out.1]; decide) (ask2 HLK.out HWBE.out HE2.out) HB2.out] at hd
      obtain ⟨rfl, rfl⟩ := hd
      exact ⟨rfl, St_dropt H.out 2 4⟩
    have HB2 : Aside (¬ x2.stop = true) := ⟨by rw [← hb2]; decide⟩
    clear hb2
    by_cases hv : v2 = v1
    rotate_left
    · have hvb : (v2 == v1) = false := by simpa using hv
      have HV := Aside.mk hv
      clear hv
      go_wp2_with (with_reducible refine stop_at (.store 72 (.tmp 10) (.tmp 96)) rfl ?_)
      refine ⟨?_⟩
      refine st_store rfl rfl rfl [.bool true, .bool false, .bool false, .bool true, .int .i64 0] #[.bool true, .bool false, .bool false, .bool true, .int .i64 0] rfl rfl rfl (Nat.le_of_ble_eq_true rfl) (by simp [Value.oneCell']) (H.out.pick 3 rfl) rfl ?_
      intro w8 h_
      replace H : Aside (St w0 w8 (L3_ F P T w.heap.size t lh x2 #[.bool true, .bool false, .bool false, .bool true, .int .i64 0] bE #[.int .i64 1, .int .i64 c, .int .i64 s, .int .i64 o, .int .i64 y] bB #[.int .i64 1, .int .i64 c, .int .i64 2, .int .i64 who, .int .i64 y])) := Aside.mk (h_.order 4 [1, 2, 3, 0] rfl rfl)
      clear h_
      go_wp2
      refine bodyPost_ret (results_cell_row rfl _ _ (w.heap.size + 1) 72 #[.bool true, .bool false, .bool false, .bool true, .int .i64 0] (0, 0) _ rfl (H.out.pick 3 rfl).heap Try.underlying72 rfl (by kernel_rfl)) rfl ?_
      have hd := HD.out
      rw [dSweep_lost HE1.out HB1.out (by rw [HLK.out.1]; decide) (ask2 HLK.out HWBE.out HE2.out) HB2.out HV.out] at hd
      obtain ⟨rfl, rfl⟩ := hd
      exact ⟨rfl, St_dropt H.out 2 4⟩
    have hvb : (v2 == v1) = true := by simp [hv]
    have hd := HD.out
    rw [dSweep_rest HE1.out HB1.out (by rw [HLK.out.1]; decide) (ask2 HLK.out HWBE.out HE2.out) HB2.out hv, HLK.out.2.1, HLK.out.2.2.1] at hd
    replace HD := Aside.mk hd
    obtain ⟨m3, x3, e3⟩ : ∃ m3 x3, x2.ask 1 (adr P T 2 page : Nat) 0 0 = (m3, x3) := ⟨_, _, rfl⟩
    obtain ⟨a4, x4, e4⟩ : ∃ a4 x4, x3.ask 1 (adr P T 1 page : Nat) 0 0 = (a4, x4) := ⟨_, _, rfl⟩
    have hh3 : x3.hist = x2.hist := by have := ask_hist x2 1 (adr P T 2 page : Nat) 0 0; rw [e3] at this; exact this
    have hh4 : x4.hist = x3.hist := by have := ask_hist x3 1 (adr P T 1 page : Nat) 0 0; rw [e4] at this; exact this
    have hm3 : u64 m3 := by have := ask_u64 HU2.out 1 (adr P T 2 page : Nat) 0 0; rw [e3] at this; exact this
    have ha4 : u64 a4 := by have := ask_u64 (x := x3) (by rw [hh3]; exact HU2.out) 1 (adr P T 1 page : Nat) 0 0; rw [e4] at this; exact this
    have hl3 : x3.hist.length ≤ 1000 := by rw [hh3]; exact HL2.out
    have hl4 : x4.hist.length ≤ 1000 := by rw [hh4]; exact hl3
    have ht3 := fun (w' : World) (L : List HP) (h : St w0 w' (tpB t lh x2 :: tpR lh x2 :: L)) => tload_ HL2.out (adr P T 2 page : Nat) h
    rw [e3] at ht3
    have ht4 := fun (w' : World) (L : List HP) (h : St w0 w' (tpB t lh x3 :: tpR lh x3 :: L)) => tload_ hl3 (adr P T 1 page : Nat) h
    rw [e4] at ht4
    have HT3 := Aside.mk ht3
    have HT4 := Aside.mk ht4
    have hbo := both_ 200 a4.toNat m3.toNat (by unfold u64 at ha4; omega) (by unfold u64 at hm3; omega) (Nat.le_refl _)
    rw [Int.toNat_of_nonneg ha4.1, Int.toNat_of_nonneg hm3.1, ← andU a4 m3 ha4 hm3] at hbo
    have hbu := and_u64 ha4 hm3
    obtain ⟨L, hL⟩ : ∃ L, L = dLeft 1 m3 a4 := ⟨_, rfl⟩
    have hLu : u64 L := by rw [hL]; exact dLeft_u64 ha4 hm3
    have hLf : Go.bits .and .u64 a4 m3 = L := by rw [hL]; rfl
    rw [hLf] at hbo
    have HBO := Aside.mk hbo
    have HLD := Aside.mk hL
    have HLU := Aside.mk hLu
    have HE3 := Aside.mk e3
    have HE4 := Aside.mk e4
    have HH4 := Aside.mk hh4
    have HL4 := Aside.mk hl4
    have HA4 := Aside.mk ha4
    have HM3 := Aside.mk hm3
    obtain ⟨x5, e5⟩ : ∃ x5, (x4.ask 2 (adr P T 1 page : Nat) 0 L).2 = x5 := ⟨_, rfl⟩
    obtain ⟨x6, e6⟩ : ∃ x6, (x5.ask 2 (adr P T 2 page : Nat) 0 0).2 = x6 := ⟨_, rfl⟩
    have hh5 : x5.hist = x4.hist := by rw [← e5]; exact ask_hist ..
    have hh6 : x6.hist = x5.hist := by rw [← e6]; exact ask_hist ..
    have hl5 : x5.hist.length ≤ 1000 := by rw [hh5]; exact hl4
    have hl6 : x6.hist.length ≤ 1000 := by rw [hh6]; exact hl5
    have ht5 := fun (w' : World) (F' : List HP) (h : St w0 w' (tpB t lh x4 :: tpR lh x4 :: F')) => tstore_ hl4 (adr P T 1 page : Nat) L h
    rw [e5] at ht5
    have ht6 := fun (w' : World) (F' : List HP) (h : St w0 w' (tpB t lh x5 :: tpR lh x5 :: F')) => tstore_ hl5 (adr P T 2 page : Nat) 0 h
    rw [e6] at ht6
    have HT5 := Aside.mk ht5
    have HT6 := Aside.mk ht6
    have HE5 := Aside.mk e5
    have HE6 := Aside.mk e6
    have HL6 := Aside.mk hl6
    clear e3 e4 e5 e6 hh3 hh4 hh5 hh6 hm3 ha4 hl3 hl4 hl5 hl6 ht3 ht4 ht5 ht6 hbo hbu hLu hv hd hL
    have e0 := (H.out.pick 4 rfl).cell 0
    have e1 := (H.out.pick 4 rfl).cell 1
    obtain ⟨z0, z1, z2, z3, z4, z5⟩ := cell6 (H.out.pick 2 rfl)
    by_cases hz : L = 0
    rotate_left
    · have hzb : (L == 0) = false := by simpa using hz
      have HZ := Aside.mk hz
      clear hz
      go_wp2_with (first | (go_at_call 16; with_reducible refine (windrowref06_Map_Mark.calls _ _ _ _ _ _ _ _ _ HPM.out).mono ?_; rintro e w9 ⟨rfl, hb⟩; replace H := Aside.mk (H.out.step hb); clear hb; clear z0 z1 z2 z3 z4 z5; obtain ⟨z0, z1, z2, z3, z4, z5⟩ := cell6 (H.out.pick 2 rfl); clear e0 e1; have e0 := (H.out.pick 4 rfl).cell 0; have e1 := (H.out.pick 4 rfl).cell 1) | (go_at_call 15; with_reducible refine (windrowref06_Map_Alloc.calls _ _ _ _ _ _ _ _ _ HPA.out).mono ?_; rintro e w9 ⟨rfl, hb⟩; replace H := Aside.mk (H.out.step hb); clear hb; clear z0 z1 z2 z3 z4 z5; obtain ⟨z0, z1, z2, z3, z4, z5⟩ := cell6 (H.out.pick 2 rfl); clear e0 e1; have e0 := (H.out.pick 4 rfl).cell 0; have e1 := (H.out.pick 4 rfl).cell 1) | (go_at_call 64; with_reducible refine (HT3.out _ _ H.out).mono ?_; rintro e w11 ⟨rfl, h1⟩; replace H : Aside (St w0 w11 (L3_ F P T w.heap.size t lh x3 #[.bool false, .bool false, .bool false, .bool false, .int .i64 0] bE #[.int .i64 1, .int .i64 c, .int .i64 s, .int .i64 o, .int .i64 y] bB #[.int .i64 1, .int .i64 c, .int .i64 2, .int .i64 who, .int .i64 y])) := Aside.mk h1; clear h1; clear z0 z1 z2 z3 z4 z5; obtain ⟨z0, z1, z2, z3, z4, z5⟩ := cell6 (H.out.pick 2 rfl); clear e0 e1; have e0 := (H.out.pick 4 rfl).cell 0; have e1 := (H.out.pick 4 rfl).cell 1) | (go_at_call 64; with_reducible refine (HT4.out _ _ H.out).mono ?_; rintro e w12 ⟨rfl, h1⟩; replace H : Aside (St w0 w12 (L3_ F P T w.heap.size t lh x4 #[.bool false, .bool false, .bool false, .bool false, .int .i64 0] bE #[.int .i64 1, .int .i64 c, .int .i64 s, .int .i64 o, .int .i64 y] bB #[.int .i64 1, .int .i64 c, .int .i64 2, .int .i64 who, .int .i64 y])) := Aside.mk h1; clear h1; clear z0 z1 z2 z3 z4 z5; obtain ⟨z0, z1, z2, z3, z4, z5⟩ := cell6 (H.out.pick 2 rfl); clear e0 e1; have e0 := (H.out.pick 4 rfl).cell 0; have e1 := (H.out.pick 4 rfl).cell 1) | (go_at_call 69; with_reducible refine (windrowref09_Both.calls _ _ _ _ _ HBO.out).mono ?_; rintro e w9 ⟨rfl, hb⟩; replace H := Aside.mk (H.out.step hb); clear hb; clear z0 z1 z2 z3 z4 z5; obtain ⟨z0, z1, z2, z3, z4, z5⟩ := cell6 (H.out.pick 2 rfl); clear e0 e1; have e0 := (H.out.pick 4 rfl).cell 0; have e1 := (H.out.pick 4 rfl).cell 1) | (go_at_call 70; with_reducible refine (HT5.out _ _ H.out).mono ?_; rintro e w13 ⟨rfl, h1⟩; replace H : Aside (St w0 w13 (L3_ F P T w.heap.size t lh x5 #[.bool false, .bool false, .bool false, .bool false, .int .i64 0] bE #[.int .i64 1, .int .i64 c, .int .i64 s, .int .i64 o, .int .i64 y] bB #[.int .i64 1, .int .i64 c, .int .i64 2, .int .i64 who, .int .i64 y])) := Aside.mk h1; clear h1; clear z0 z1 z2 z3 z4 z5; obtain ⟨z0, z1, z2, z3, z4, z5⟩ := cell6 (H.out.pick 2 rfl); clear e0 e1; have e0 := (H.out.pick 4 rfl).cell 0; have e1 := (H.out.pick 4 rfl).cell 1) | (go_at_call 70; with_reducible refine (HT6.out _ _ H.out).mono ?_; rintro e w14 ⟨rfl, h1⟩; replace H : Aside (St w0 w14 (L3_ F P T w.heap.size t lh x6 #[.bool false, .bool false, .bool false, .bool false, .int .i64 0] bE #[.int .i64 1, .int .i64 c, .int .i64 s, .int .i64 o, .int .i64 y] bB #[.int .i64 1, .int .i64 c, .int .i64 2, .int .i64 who, .int .i64 y])) := Aside.mk h1; clear h1; clear z0 z1 z2 z3 z4 z5; obtain ⟨z0, z1, z2, z3, z4, z5⟩ := cell6 (H.out.pick 2 rfl); clear e0 e1; have e0 := (H.out.pick 4 rfl).cell 0; have e1 := (H.out.pick 4 rfl).cell 1) | (with_reducible refine stop_at (.load 32 (.tmp 12)) rfl ?_))
      refine ⟨?_⟩
      obtain ⟨x8, e8⟩ : ∃ x8, (x6.ask 2 (adr P T 0 page : Nat) 0 (wordOf 1 c 0 0 cyc)).2 = x8 := ⟨_, rfl⟩
      have ht8 := fun (w' : World) (F' : List HP) (h : St w0 w' (tpB t lh x6 :: tpR lh x6 :: F')) => tstore_ HL6.out (adr P T 0 page : Nat) (wordOf 1 c 0 0 cyc) h
      rw [e8] at ht8
      have HE8 := Aside.mk e8
      generalize hwg : wordOf 1 c 0 0 cyc = wg at ht8 HWG HE8
      have HWGE := Aside.mk hwg
      clear hwg
      have HT8 := Aside.mk ht8
      clear ht8 e8
      clear e0 e1
      obtain ⟨e0, e1, e2, e3, e4⟩ := cell5 (H.out.pick 4 rfl)
      go_wp2_with (first | (go_at_call 31; with_reducible refine (HGV.out _).mono ?_; rintro e w7 ⟨rfl, hb⟩; replace H := Aside.mk ((H.out.step hb).alloc #[.int .i64 0, .int .i64 0, .int .i64 0, .int .i64 0, .int .i64 0] 32); clear hb z0 z1 z2 z3 z4 z5 e0 e1 e2 e3 e4) | (with_reducible refine stop_at (.store 32 (.tmp 21) (.tmp 158)) rfl ?_))
      generalize w7.heap.size = bG at H ⊢
      refine ⟨?_⟩
      refine st_store rfl rfl rfl [.int .i64 1, .int .i64 c, .int .i64 0, .int .i64 0, .int .i64 cyc] #[.int .i64 1, .int .i64 c, .int .i64 0, .int .i64 0, .int .i64 cyc] rfl rfl rfl (Nat.le_of_ble_eq_true rfl) (by simp [Value.oneCell']) (H.out) rfl ?_
      intro w16 h_
      replace H : Aside (St w0 w16 (L4_ F P T w.heap.size t lh x6 #[.bool false, .bool false, .bool false, .bool false, .int .i64 0] bE #[.int .i64 1, .int .i64 c, .int .i64 s, .int .i64 o, .int .i64 y] bB #[.int .i64 1, .int .i64 c, .int .i64 2, .int .i64 who, .int .i64 y] bG #[.int .i64 1, .int .i64 c, .int .i64 0, .int .i64 0, .int .i64 cyc])) := Aside.mk (h_.order 7 [1, 2, 3, 4, 5, 6, 0] rfl rfl)
      clear h_
      go_wp2_with fail
      replace H := Aside.mk H.out.drew
      refine start_ (n := 7) (S := fun w' => w'.cell? ⟨w.heap.size, 0, none⟩ = some (.int .i64 ((P : Int) + 1)) ∧ w'.cell? ⟨w.heap.size, 1, none⟩ = some (.int .i64 ((T : Int) + 1)) ∧ w'.cell? ⟨w.heap.size, 2, none⟩ = some (.int .i64 1) ∧ w'.cell? ⟨w.heap.size, 3, none⟩ = some (.int .i64 64) ∧ w'.cell? ⟨w.heap.size, 4, none⟩ = some (.int .i64 (22 + 6 * (T : Int))) ∧ w'.cell? ⟨w.heap.size, 5, none⟩ = some (.int .i64 (128 + 64 * (P : Int))) ∧ w'.cell? ⟨bG, 0, none⟩ = some (.int .i64 1) ∧ w'.cell? ⟨bG, 1, none⟩ = some (.int .i64 c) ∧ w'.cell? ⟨bG, 2, none⟩ = some (.int .i64 0) ∧ w'.cell? ⟨bG, 3, none⟩ = some (.int .i64 0) ∧ w'.cell? ⟨bG, 4, none⟩ = some (.int .i64 cyc)) (ds := []) (flg 7 0) (by kernel_rfl) rfl rfl ((at11g H.out)) (fun hHeld => ?_)
      refine with_tabW rs.tab28 rs.bits28 (fun HT_ HW_ => ?_)
      refine pu_ (v := ?_) (a' := ?_) 0 (some 160) 1 rfl rfl HT_ (by kernel_rfl) (.inl ⟨by rfl, ?_⟩) ?_ ?_; rotate_left 2; (· intro w'; go_simp; with_reducible rfl); (· simp only [nrm]; rfl)
      refine tk_ (v := ?_) (a' := ?_) 1 (some 161) 3 rfl rfl HT_ HW_ (by kernel_rfl) (.inl ⟨by rfl, ?_⟩) hHeld ?_ ?_; rotate_left 2; (· rintro w' ⟨_, _, _, _, _, _, _, _, _, _, _⟩; go_simp; with_reducible rfl); (· simp only [nrm]; rfl)
      refine pu_ (v := ?_) (a' := ?_) 2 (some 162) 7 rfl rfl HT_ (by kernel_rfl) (.inl ⟨by rfl, ?_⟩) ?_ ?_; rotate_left 2; (· intro w'; go_simp; with_reducible rfl); (· simp only [nrm]; rfl)
      refine tk_ (v := ?_) (a' := ?_) 4 (some 164) 23 rfl rfl HT_ HW_ (by kernel_rfl) (.inl ⟨by rfl, ?_⟩) hHeld ?_ ?_; rotate_left 2; (· rintro w' ⟨_, _, _, _, _, _, _, _, _, _, _⟩; go_simp; with_reducible rfl); (· simp only [nrm]; rfl)
      refine on_ 3 (some 163) 31 rfl rfl HT_ (by kernel_rfl) (by decide) (fun K hK => ?_)
      refine goes_ Try.func17 (by kernel_rfl) rfl #[.agg #[.int .i64 ((P : Int) + 1), .int .i64 ((T : Int) + 1), .int .i64 1, .int .i64 64, .int .i64 (22 + 6 * (T : Int)), .int .i64 (128 + 64 * (P : Int))], .int .i64 page] (by rfl) rfl rfl (by (try simp only [List.map_toArray, List.map_cons, List.map_nil]); first | done | rfl) ?_
      refine (windrowref06_Map_PageEntry.calls _ _ _ _ _ _ _ _ _ HPE.out).mono ?_
      rintro e w9 ⟨rfl, hb⟩
      replace H := Aside.mk (H.out.step hb)
      clear hb
      refine ⟨_, rfl, ?_⟩
      refine hK.out _ _ (at11g H.out) (fun hHeld => ?_)
      clear hK K
      refine norm_ (a' := ?_) ?_ ?_
      rotate_left
      · show Act.put _ (some 163) _ = _
        simp only [nrm]
        rfl
      refine on_ 5 (some 165) 63 rfl rfl HT_ (by kernel_rfl) (by decide) (fun K hK => ?_)
      refine goes_ Try.func68 (by kernel_rfl) rfl #[.agg #[.int .i64 1, .int .i64 c, .int .i64 0, .int .i64 0, .int .i64 cyc]] (by rfl) rfl rfl (by (try simp only [List.map_toArray, List.map_cons, List.map_nil]); first | done | rfl) ?_
      refine (windrowref09_word.calls _ _ _ _ _ _ _ _ HWG.out).mono ?_
      rintro e w9 ⟨rfl, hb⟩
      replace H := Aside.mk (H.out.step hb)
      clear hb
      refine ⟨_, rfl, ?_⟩
      refine hK.out _ _ (at11g H.out) (fun hHeld => ?_)
      clear hK K
      refine norm_ (a' := ?_) ?_ ?_
      rotate_left
      · show Act.put _ (some 165) _ = _
        simp only [nrm]
        rfl
      refine on_ 6 (some 166) 127 rfl rfl HT_ (by kernel_rfl) (by decide) (fun K hK => ?_)
      refine goes_ Try.func70 (by kernel_rfl) rfl #[.pointer (some ⟨t, 0, none⟩), .int .i64 (adr P T 0 page : Nat), .int .u64 wg] (by rfl) rfl rfl (by (try simp only [List.map_toArray, List.map_cons, List.map_nil]); first | done | rfl) ?_
      refine (HT8.out _ _ H.out).mono ?_
      rintro e w15 ⟨rfl, h10⟩
      replace H : Aside (St w0 w15 (L4_ F P T w.heap.size t lh x8 #[.bool false, .bool false, .bool false, .bool false, .int .i64 0] bE #[.int .i64 1, .int .i64 c, .int .i64 s, .int .i64 o, .int .i64 y] bB #[.int .i64 1, .int .i64 c, .int .i64 2, .int .i64 who, .int .i64 y] bG #[.int .i64 1, .int .i64 c, .int .i64 0, .int .i64 0, .int .i64 cyc])) := Aside.mk h10
      clear h10
      refine ⟨_, rfl, ?_⟩
      refine hK.out _ _ (at11g H.out) (fun hHeld => ?_)
      clear hK K
      refine norm_ (a' := ?_) ?_ ?_
      rotate_left
      · show Act.put _ (some 166) _ = _
        simp only [nrm]
        rfl
      refine done_ (done_of HT_.out (by kernel_rfl)) ?_
      clear HT_ HW_ hHeld
      go_wp2_with (with_reducible refine stop_at (.load 4 (.tmp 169)) rfl ?_)
      refine ⟨?_⟩
      have x9 : w15.cell? ⟨t, 9, none⟩ = some (.bool x8.stop) := H.out.cell 9
      obtain ⟨b8, hb8⟩ : ∃ b8, b8 = x8.stop := ⟨_, rfl⟩
      rw [← hb8] at x9
      have hres := dRest_is (P := P) (T := T) (page := page) (cyc := cyc) (k := 1) (c := c) (x7 := x6) (x8 := x8) HE3.out HE4.out HLD.out HE5.out HE6.out (if_neg (by exact fun hh => HZ.out hh.1)) (by rw [if_neg HZ.out, HWGE.out]; exact HE8.out)
      cases b8
      case true =>
        have HB8 := Aside.mk (hres.1 hb8.symm)
        clear hb8 hres
        go_wp2_with (with_reducible refine stop_at (.store 72 (.tmp 10) (.tmp 171)) rfl ?_)
        refine ⟨?_⟩
        refine st_store rfl rfl rfl [.bool false, .bool false, .bool false, .bool false, .int .i64 0] #[.bool false, .bool false, .bool false, .bool false, .int .i64 0] rfl rfl rfl (Nat.le_of_ble_eq_true rfl) (by simp [Value.oneCell']) (H.out.pick 3 rfl) rfl ?_
        intro w8 h_
        replace H : Aside (St w0 w8 (L4_ F P T w.heap.size t lh x8 #[.bool false, .bool false, .bool false, .bool false, .int .i64 0] bE #[.int .i64 1, .int .i64 c, .int .i64 s, .int .i64 o, .int .i64 y] bB #[.int .i64 1, .int .i64 c, .int .i64 2, .int .i64 who, .int .i64 y] bG #[.int .i64 1, .int .i64 c, .int .i64 0, .int .i64 0, .int .i64 cyc])) := Aside.mk (h_.order 4 [1, 2, 3, 0] rfl rfl)
        clear h_
        go_wp2
        refine bodyPost_ret (results_cell_row rfl _ _ (w.heap.size + 1) 72 #[.bool false, .bool false, .bool false, .bool false, .int .i64 0] (0, 0) _ rfl (H.out.pick 3 rfl).heap Try.underlying72 rfl (by kernel_rfl)) rfl ?_
        have hd := HD.out
        rw [HB8.out] at hd
        obtain ⟨rfl, rfl⟩ := hd
        exact ⟨rfl, St_dropt H.out 2 5⟩
      have HB8 := Aside.mk (hres.2 (by rw [← hb8]; decide))
      clear hb8 hres
      have hP1 := places_ 129 a4.toNat (by have := HA4.out; unfold u64 at this; omega) (Nat.le_refl _)
      have hP2 := places_ 129 L.toNat (by have := HLU.out; unfold u64 at this; omega) (Nat.le_refl _)
      have hL1 : ((Pop.plc 64 a4.toNat).map (fun (i : Nat) => (i : Int))).length = Pop.cnt 64 a4.toNat := by rw [List.length_map, Pop.plc_len]
      have hL2 : ((Pop.plc 64 L.toNat).map (fun (i : Nat) => (i : Int))).length = Pop.cnt 64 L.toNat := by rw [List.length_map, Pop.plc_len]
      have hle1 := Pop.cnt_le 64 a4.toNat
      have hle2 := Pop.cnt_le 64 L.toNat
      rw [Int.toNat_of_nonneg HA4.out.1] at hP1
      rw [Int.toNat_of_nonneg HLU.out.1] at hP2
      rw [← hL1, ← hL2] at HB8
      rw [← hL1] at hle1
      rw [← hL2] at hle2
      generalize (Pop.plc 64 a4.toNat).map (fun (i : Nat) => (i : Int)) = P1 at hP1 hL1 hle1 HB8
      generalize (Pop.plc 64 L.toNat).map (fun (i : Nat) => (i : Int)) = P2 at hP2 hL2 hle2 HB8
      have hsub : wrap64 ((P1.length : Int) - (P2.length : Int)) = (P1.length : Int) - (P2.length : Int) := by unfold wrap64; omega
      have HP1 := Aside.mk hP1
      have HP2 := Aside.mk hP2
      clear hP1 hP2 hL1 hL2 hle1 hle2
      go_wp2_with (first | (go_at_call 24; with_reducible refine (windrowref01_Places.calls 129 a4 _ _ HP1.out).mono ?_; rintro e w7 ⟨v0, rfl, hR, hb⟩; obtain ⟨A1, c1, rfl⟩ := Kd.R_slice hR; replace H := Aside.mk (H.out.step hb); clear hb hR) | (go_at_call 24; with_reducible refine (windrowref01_Places.calls 129 L _ _ HP2.out).mono ?_; rintro e w7 ⟨v0, rfl, hR, hb⟩; obtain ⟨A1, c1, rfl⟩ := Kd.R_slice hR; replace H := Aside.mk (H.out.step hb); clear hb hR) | (with_reducible refine stop_at (.store 72 (.tmp 10) (.tmp 181)) rfl ?_))
      refine ⟨?_⟩
      refine st_store rfl rfl rfl [.bool true, .bool true, .bool false, .bool false, .int .i64 ((P1.length : Int) - (P2.length : Int))] #[.bool true, .bool true, .bool false, .bool false, .int .i64 ((P1.length : Int) - (P2.length : Int))] rfl rfl rfl (Nat.le_of_ble_eq_true rfl) (by simp [Value.oneCell']) (H.out.pick 3 rfl) rfl ?_
      intro w8 h_
      replace H : Aside (St w0 w8 (L4_ F P T w.heap.size t lh x8 #[.bool true, .bool true, .bool false, .bool false, .int .i64 ((P1.length : Int) - (P2.length : Int))] bE #[.int .i64 1, .int .i64 c, .int .i64 s, .int .i64 o, .int .i64 y] bB #[.int .i64 1, .int .i64 c, .int .i64 2, .int .i64 who, .int .i64 y] bG #[.int .i64 1, .int .i64 c, .int .i64 0, .int .i64 0, .int .i64 cyc])) := Aside.mk (h_.order 4 [1, 2, 3, 0] rfl rfl)
      clear h_
      go_wp2
      refine bodyPost_ret (results_cell_row rfl _ _ (w.heap.size + 1) 72 #[.bool true, .bool true, .bool false, .bool false, .int .i64 ((P1.length : Int) - (P2.length : Int))] (0, 0) _ rfl (H.out.pick 3 rfl).heap Try.underlying72 rfl (by kernel_rfl)) rfl ?_
      have hd := HD.out
      rw [HB8.out] at hd
      have hz9 := HZ.out
      obtain ⟨rfl, rfl⟩ := hd
      exact ⟨by show _ = Ending.returned (.agg #[.bool true, .bool true, .bool (L == 0), .bool false, _]); rw [hzb], St_dropt H.out 2 5⟩
    have hzb : (L == 0) = true := by simp [hz]
    have HZ := Aside.mk hz
    clear hz
    go_wp2_with (first | (go_at_call 16; with_reducible refine (windrowref06_Map_Mark.calls _ _ _ _ _ _ _ _ _ HPM.out).mono ?_; rintro e w9 ⟨rfl, hb⟩; replace H := Aside.mk (H.out.step hb); clear hb; clear z0 z1 z2 z3 z4 z5; obtain ⟨z0, z1, z2, z3, z4, z5⟩ := cell6 (H.out.pick 2 rfl); clear e0 e1; have e0 := (H.out.pick 4 rfl).cell 0; have e1 := (H.out.pick 4 rfl).cell 1) | (go_at_call 15; with_reducible refine (windrowref06_Map_Alloc.calls _ _ _ _ _ _ _ _ _ HPA.out).mono ?_; rintro e w9 ⟨rfl, hb⟩; replace H := Aside.mk (H.out.step hb); clear hb; clear z0 z1 z2 z3 z4 z5; obtain ⟨z0, z1, z2, z3, z4, z5⟩ := cell6 (H.out.pick 2 rfl); clear e0 e1; have e0 := (H.out.pick 4 rfl).cell 0; have e1 := (H.out.pick 4 rfl).cell 1) | (go_at_call 64; with_reducible refine (HT3.out _ _ H.out).mono ?_; rintro e w11 ⟨rfl, h1⟩; replace H : Aside (St w0 w11 (L3_ F P T w.heap.size t lh x3 #[.bool false, .bool false, .bool false, .bool false, .int .i64 0] bE #[.int .i64 1, .int .i64 c, .int .i64 s, .int .i64 o, .int .i64 y] bB #[.int .i64 1, .int .i64 c, .int .i64 2, .int .i64 who, .int .i64 y])) := Aside.mk h1; clear h1; clear z0 z1 z2 z3 z4 z5; obtain ⟨z0, z1, z2, z3, z4, z5⟩ := cell6 (H.out.pick 2 rfl); clear e0 e1; have e0 := (H.out.pick 4 rfl).cell 0; have e1 := (H.out.pick 4 rfl).cell 1) | (go_at_call 64; with_reducible refine (HT4.out _ _ H.out).mono ?_; rintro e w12 ⟨rfl, h1⟩; replace H : Aside (St w0 w12 (L3_ F P T w.heap.size t lh x4 #[.bool false, .bool false, .bool false, .bool false, .int .i64 0] bE #[.int .i64 1, .int .i64 c, .int .i64 s, .int .i64 o, .int .i64 y] bB #[.int .i64 1, .int .i64 c, .int .i64 2, .int .i64 who, .int .i64 y])) := Aside.mk h1; clear h1; clear z0 z1 z2 z3 z4 z5; obtain ⟨z0, z1, z2, z3, z4, z5⟩ := cell6 (H.out.pick 2 rfl); clear e0 e1; have e0 := (H.out.pick 4 rfl).cell 0; have e1 := (H.out.pick 4 rfl).cell 1) | (go_at_call 69; with_reducible refine (windrowref09_Both.calls _ _ _ _ _ HBO.out).mono ?_; rintro e w9 ⟨rfl, hb⟩; replace H := Aside.mk (H.out.step hb); clear hb; clear z0 z1 z2 z3 z4 z5; obtain ⟨z0, z1, z2, z3, z4, z5⟩ := cell6 (H.out.pick 2 rfl); clear e0 e1; have e0 := (H.out.pick 4 rfl).cell 0; have e1 := (H.out.pick 4 rfl).cell 1) | (go_at_call 70; with_reducible refine (HT5.out _ _ H.out).mono ?_; rintro e w13 ⟨rfl, h1⟩; replace H : Aside (St w0 w13 (L3_ F P T w.heap.size t lh x5 #[.bool false, .bool false, .bool false, .bool false, .int .i64 0] bE #[.int .i64 1, .int .i64 c, .int .i64 s, .int .i64 o, .int .i64 y] bB #[.int .i64 1, .int .i64 c, .int .i64 2, .int .i64 who, .int .i64 y])) := Aside.mk h1; clear h1; clear z0 z1 z2 z3 z4 z5; obtain ⟨z0, z1, z2, z3, z4, z5⟩ := cell6 (H.out.pick 2 rfl); clear e0 e1; have e0 := (H.out.pick 4 rfl).cell 0; have e1 := (H.out.pick 4 rfl).cell 1) | (go_at_call 70; with_reducible refine (HT6.out _ _ H.out).mono ?_; rintro e w14 ⟨rfl, h1⟩; replace H : Aside (St w0 w14 (L3_ F P T w.heap.size t lh x6 #[.bool false, .bool false, .bool false, .bool false, .int .i64 0] bE #[.int .i64 1, .int .i64 c, .int .i64 s, .int .i64 o, .int .i64 y] bB #[.int .i64 1, .int .i64 c, .int .i64 2, .int .i64 who, .int .i64 y])) := Aside.mk h1; clear h1; clear z0 z1 z2 z3 z4 z5; obtain ⟨z0, z1, z2, z3, z4, z5⟩ := cell6 (H.out.pick 2 rfl); clear e0 e1; have e0 := (H.out.pick 4 rfl).cell 0; have e1 := (H.out.pick 4 rfl).cell 1) | (with_reducible refine stop_at (.move (.const .undef)) rfl ?_))
    obtain ⟨x8, e8⟩ : ∃ x8, (x6.ask 2 (adr P T 0 page : Nat) 0 0).2 = x8 := ⟨_, rfl⟩
    have ht8 := fun (w' : World) (F' : List HP) (h : St w0 w' (tpB t lh x6 :: tpR lh x6 :: F')) => tstore_ HL6.out (adr P T 0 page : Nat) 0 h
    rw [e8] at ht8
    have HE8 := Aside.mk e8
    have HT8 := Aside.mk ht8
    clear ht8 e8
    go_wp2_with (first | (go_at_call 17; with_reducible refine (windrowref06_Map_PageEntry.calls _ _ _ _ _ _ _ _ _ HPE.out).mono ?_; rintro e w9 ⟨rfl, hb⟩; replace H := Aside.mk (H.out.step hb); clear hb; clear z0 z1 z2 z3 z4 z5; obtain ⟨z0, z1, z2, z3, z4, z5⟩ := cell6 (H.out.pick 2 rfl)) | (go_at_call 70; with_reducible refine (HT8.out _ _ H.out).mono ?_; rintro e w15 ⟨rfl, h1⟩; replace H : Aside (St w0 w15 (L3_ F P T w.heap.size t lh x8 #[.bool false, .bool false, .bool false, .bool false, .int .i64 0] bE #[.int .i64 1, .int .i64 c, .int .i64 s, .int .i64 o, .int .i64 y] bB #[.int .i64 1, .int .i64 c, .int .i64 2, .int .i64 who, .int .i64 y])) := Aside.mk h1; clear h1; clear z0 z1 z2 z3 z4 z5) | (with_reducible refine stop_at (.load 4 (.tmp 169)) rfl ?_))
    refine ⟨?_⟩
    have x9 : w15.cell? ⟨t, 9, none⟩ = some (.bool x8.stop) := H.out.cell 9
    obtain ⟨b8, hb8⟩ : ∃ b8, b8 = x8.stop := ⟨_, rfl⟩
    rw [← hb8] at x9
    have hres := dRest_is (P := P) (T := T) (page := page) (cyc := cyc) (k := 1) (c := c) (x7 := x6) (x8 := x8) HE3.out HE4.out HLD.out HE5.out HE6.out (if_neg (by exact fun hh => absurd hh.2 (by decide))) (by rw [if_pos HZ.out]; exact HE8.out)
    cases b8
    case true =>
      have HB8 := Aside.mk (hres.1 hb8.symm)
      clear hb8 hres
      go_wp2_with (with_reducible refine stop_at (.store 72 (.tmp 10) (.tmp 171)) rfl ?_)
      refine ⟨?_⟩
      refine st_store rfl rfl rfl [.bool false, .bool false, .bool false, .bool false, .int .i64 0] #[.bool false, .bool false, .bool false, .bool false, .int .i64 0] rfl rfl rfl (Nat.le_of_ble_eq_true rfl) (by simp [Value.oneCell']) (H.out.pick 3 rfl) rfl ?_
      intro w8 h_
      replace H : Aside (St w0 w8 (L3_ F P T w.heap.size t lh x8 #[.bool false, .bool false, .bool false, .bool false, .int .i64 0] bE #[.int .i64 1, .int .i64 c, .int .i64 s, .int .i64 o, .int .i64 y] bB #[.int .i64 1, .int .i64 c, .int .i64 2, .int .i64 who, .int .i64 y])) := Aside.mk (h_.order 4 [1, 2, 3, 0] rfl rfl)
      clear h_
      go_wp2
      refine bodyPost_ret (results_cell_row rfl _ _ (w.heap.size + 1) 72 #[.bool false, .bool false, .bool false, .bool false, .int .i64 0] (0, 0) _ rfl (H.out.pick 3 rfl).heap Try.underlying72 rfl (by kernel_rfl)) rfl ?_
      have hd := HD.out
      rw [HB8.out] at hd
      obtain ⟨rfl, rfl⟩ := hd
      exact ⟨rfl, St_dropt H.out 2 4⟩
    have HB8 := Aside.mk (hres.2 (by rw [← hb8]; decide))
    clear hb8 hres
    have hP1 := places_ 129 a4.toNat (by have := HA4.out; unfold u64 at this; omega) (Nat.le_refl _)
    have hP2 := places_ 129 L.toNat (by have := HLU.out; unfold u64 at this; omega) (Nat.le_refl _)
    have hL1 : ((Pop.plc 64 a4.toNat).map (fun (i : Nat) => (i : Int))).length = Pop.cnt 64 a4.toNat := by rw [List.length_map, Pop.plc_len]
    have hL2 : ((Pop.plc 64 L.toNat).map (fun (i : Nat) => (i : Int))).length = Pop.cnt 64 L.toNat := by rw [List.length_map, Pop.plc_len]
    have hle1 := Pop.cnt_le 64 a4.toNat
    have hle2 := Pop.cnt_le 64 L.toNat
    rw [Int.toNat_of_nonneg HA4.out.1] at hP1
    rw [Int.toNat_of_nonneg HLU.out.1] at hP2
    rw [← hL1, ← hL2] at HB8
    rw [← hL1] at hle1
    rw [← hL2] at hle2
    generalize (Pop.plc 64 a4.toNat).map (fun (i : Nat) => (i : Int)) = P1 at hP1 hL1 hle1 HB8
    generalize (Pop.plc 64 L.toNat).map (fun (i : Nat) => (i : Int)) = P2 at hP2 hL2 hle2 HB8
    have hsub : wrap64 ((P1.length : Int) - (P2.length : Int)) = (P1.length : Int) - (P2.length : Int) := by unfold wrap64; omega
    have HP1 := Aside.mk hP1
    have HP2 := Aside.mk hP2
    clear hP1 hP2 hL1 hL2 hle1 hle2
    go_wp2_with (first | (go_at_call 24; with_reducible refine (windrowref01_Places.calls 129 a4 _ _ HP1.out).mono ?_; rintro e w7 ⟨v0, rfl, hR, hb⟩; obtain ⟨A1, c1, rfl⟩ := Kd.R_slice hR; replace H := Aside.mk (H.out.step hb); clear hb hR) | (go_at_call 24; with_reducible refine (windrowref01_Places.calls 129 L _ _ HP2.out).mono ?_; rintro e w7 ⟨v0, rfl, hR, hb⟩; obtain ⟨A1, c1, rfl⟩ := Kd.R_slice hR; replace H := Aside.mk (H.out.step hb); clear hb hR) | (with_reducible refine stop_at (.store 72 (.tmp 10) (.tmp 181)) rfl ?_))
    refine ⟨?_⟩
    refine st_store rfl rfl rfl [.bool true, .bool true, .bool true, .bool false, .int .i64 ((P1.length : Int) - (P2.length : Int))] #[.bool true, .bool true, .bool true, .bool false, .int .i64 ((P1.length : Int) - (P2.length : Int))] rfl rfl rfl (Nat.le_of_ble_eq_true rfl) (by simp [Value.oneCell']) (H.out.pick 3 rfl) rfl ?_
    intro w8 h_
    replace H : Aside (St w0 w8 (L3_ F P T w.heap.size t lh x8 #[.bool true, .bool true, .bool true, .bool false, .int .i64 ((P1.length : Int) - (P2.length : Int))] bE #[.int .i64 1, .int .i64 c, .int .i64 s, .int .i64 o, .int .i64 y] bB #[.int .i64 1, .int .i64 c, .int .i64 2, .int .i64 who, .int .i64 y])) := Aside.mk (h_.order 4 [1, 2, 3, 0] rfl rfl)
    clear h_
    go_wp2
    refine bodyPost_ret (results_cell_row rfl _ _ (w.heap.size + 1) 72 #[.bool true, .bool true, .bool true, .bool false, .int .i64 ((P1.length : Int) - (P2.length : Int))] (0, 0) _ rfl (H.out.pick 3 rfl).heap Try.underlying72 rfl (by kernel_rfl)) rfl ?_
    have hd := HD.out
    rw [HB8.out] at hd
    have hz9 := HZ.out
    obtain ⟨rfl, rfl⟩ := hd
    exact ⟨by show _ = Ending.returned (.agg #[.bool true, .bool true, .bool (L == 0), .bool false, _]); rw [hzb], St_dropt H.out 2 4⟩
end Go.Proofs.Ytelfiegocdjnoaa.Ar
