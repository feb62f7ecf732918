/- The document's sweep asks what the machine asks, answer by answer. No memory. -/
import Derived.Test.YtelfiegocdjnoaaDs1
namespace Go.Proofs.Ytelfiegocdjnoaa.Ar
open Go Go.RowKit Go.Proofs.Ytelfiegocdjnoaa.Sep Go.Proofs.Ytelfiegocdjnoaa.Pg Go.Proofs.YtelfiegocdjnoaaW.PrintWords Go.Proofs.YtelfiegocdjnoaaW.PrintLast Go.Proofs.YtelfiegocdjnoaaW.PrintMore Go.Proofs.Ytelfiegocdjnoaa.Q
set_option linter.unusedVariables false
set_option linter.unusedSimpArgs false
set_option maxRecDepth 100000
/-- Behind n more stores. -/
def stN (x : Sw) : Nat → Sw
  | 0 => x
  | n + 1 => (stN x n).aft 0
theorem aft_any {x : Sw} (h : 4 ≤ x.at_) (v : Int) : x.aft v = x.aft 0 := by
  have h0 : ¬ x.at_ = 0 := by omega
  have h1 : ¬ x.at_ = 1 := by omega
  have h2 : ¬ x.at_ = 2 := by omega
  have h3 : ¬ x.at_ = 3 := by omega
  unfold Sw.aft
  simp only [h0, h1, h2, h3, if_false]
/-- How many pages behind the first one are freed. -/
def tlN (x : Sw) : Nat := if x.left = 0 ∧ x.k = 2 then (x.c - 1).toNat else 0
/-- Behind the first store. -/
def x5 (x : Sw) : Sw := { x with freed := x.ones, empty := x.left == 0, at_ := 5 }
theorem stN_1 {x : Sw} (h : x.at_ = 4) : stN x 1 = x5 x := by
  show x.aft 0 = _
  unfold Sw.aft
  rw [if_neg (by omega), if_neg (by omega), if_neg (by omega), if_neg (by omega), if_pos h]
  rfl
theorem stN_2 {x : Sw} (h : x.at_ = 4) : stN x 2 = if 0 < tlN x then { x5 x with tail := x.c - 1, at_ := 6 } else { x5 x with at_ := 7 } := by
  show (stN x 1).aft 0 = _
  rw [stN_1 h]
  unfold Sw.aft
  have e : (x5 x).at_ = 5 := rfl
  rw [if_neg (by omega), if_neg (by omega), if_neg (by omega), if_neg (by omega), if_neg (by omega), if_pos e]
  have e2 : ((x5 x).empty = true ∧ (x5 x).k = 2 ∧ 1 < (x5 x).c) ↔ 0 < tlN x := by
    show ((x.left == 0) = true ∧ x.k = 2 ∧ 1 < x.c) ↔ _
    unfold tlN
    rw [beq_iff_eq]
    split
    · rename_i hh
      constructor
      · intro h; omega
      · intro h; exact ⟨hh.1, hh.2, by omega⟩
    · rename_i hh
      constructor
      · intro h; exact absurd ⟨h.1, h.2.1⟩ hh
      · intro h; omega
  by_cases h2 : 0 < tlN x
  · rw [if_pos h2, if_pos (e2.2 h2)]; rfl
  · rw [if_neg h2, if_neg (fun hh => h2 (e2.1 hh))]
theorem stN_6 {x : Sw} (h : x.at_ = 4) : ∀ i, i < tlN x → stN x (2 + i) = { x5 x with tail := x.c - 1 - (i : Int), at_ := 6 }
  | 0, hi => by
    rw [show 2 + 0 = 2 from rfl, stN_2 h, if_pos hi]
    simp
  | i + 1, hi => by
    show (stN x (2 + i)).aft 0 = _
    rw [stN_6 h i (by omega)]
    have hk : (tlN x : Int) = x.c - 1 := by unfold tlN at hi ⊢; split at hi <;> rename_i hh; rw [if_pos hh]; omega; omega
    unfold Sw.aft
    rw [if_neg (by simp), if_neg (by simp), if_neg (by simp), if_neg (by simp), if_neg (by simp), if_neg (by simp), if_pos rfl, if_neg (by simp only; omega)]
    simp only
    rw [show x.c - 1 - (i : Int) - 1 = x.c - 1 - ((i + 1 : Nat) : Int) by omega]
theorem stN_7 {x : Sw} (h : x.at_ = 4) : ∃ t, stN x (2 + tlN x) = { x5 x with tail := t, at_ := 7 } := by
  rcases Nat.eq_zero_or_pos (tlN x) with hz | hz
  · rw [hz]
    refine ⟨x.tail, ?_⟩
    rw [show 2 + 0 = 2 from rfl, stN_2 h, if_neg (by omega)]
    rfl
  · obtain ⟨j, hj⟩ : ∃ j, tlN x = j + 1 := ⟨tlN x - 1, by omega⟩
    rw [hj]
    refine ⟨0, ?_⟩
    show (stN x (2 + j)).aft 0 = _
    rw [stN_6 h j (by omega)]
    have hk : (tlN x : Int) = x.c - 1 := by unfold tlN at hz ⊢; split at hz <;> rename_i hh; rw [if_pos hh]; omega; omega
    unfold Sw.aft
    rw [if_neg (by simp), if_neg (by simp), if_neg (by simp), if_neg (by simp), if_neg (by simp), if_neg (by simp), if_pos rfl, if_pos (by simp only; omega)]
theorem stN_8 {x : Sw} (h : x.at_ = 4) : ∃ t, stN x (3 + tlN x) = { x5 x with tail := t, swept := true, at_ := 8 } := by
  obtain ⟨t, ht⟩ := stN_7 h
  refine ⟨t, ?_⟩
  rw [show 3 + tlN x = (2 + tlN x) + 1 by omega]
  show (stN x (2 + tlN x)).aft 0 = _
  rw [ht]
  unfold Sw.aft
  rw [if_neg (by simp), if_neg (by simp), if_neg (by simp), if_neg (by simp), if_neg (by simp), if_neg (by simp), if_neg (by simp)]
theorem left_eq {x : Sw} (h1 : u64 x.alloc) (h2 : u64 x.mark) : x.left = dLeft x.k x.mark x.alloc := by
  unfold Sw.left dLeft
  split
  · exact and_one _ (and_u64 h1 h2)
  · rfl
theorem tlN_len {P T page : Nat} {cyc : Int} {x : Sw} (h1 : u64 x.alloc) (h2 : u64 x.mark) : (dPuts P T page cyc x.k x.c x.mark x.alloc).length = 3 + tlN x := by
  rw [dPuts_len]
  unfold tlN
  rw [left_eq h1 h2]
theorem get_mid {α : Type} (A B : List α) (z : α) (n : Nat) (h : n = A.length) : (A ++ z :: B)[n]? = some z := by subst h; simp
/-- The store that it makes next is the document's. -/
theorem put_acc {P T page : Nat} {x : Sw} (h : x.at_ = 4) (h1 : u64 x.alloc) (h2 : u64 x.mark) {n : Nat} (hn : n < 3 + tlN x) :
    4 ≤ (stN x n).at_ ∧ (stN x n).at_ < 8 ∧ (stN x n).swept = x.swept ∧ (stN x n).block = x.block ∧
    ∃ q, (dPuts P T page x.cyc x.k x.c x.mark x.alloc)[n]? = some q ∧ ∃ a : Nat, q.1 = a ∧ (stN x n).acc P T page = (2, a, 0, q.2) := by
  have hl := left_eq h1 h2
  by_cases n0 : n = 0
  · subst n0
    have e : stN x 0 = x := rfl
    rw [e]
    refine ⟨by omega, by omega, rfl, rfl, _, rfl, _, rfl, ?_⟩
    unfold Sw.acc
    rw [if_neg (by omega), if_neg (by omega), if_neg (by omega), if_neg (by omega), if_pos h, hl]
  by_cases n1 : n = 1
  · subst n1
    rw [stN_1 h]
    exact ⟨(by decide : (4 : Int) ≤ 5), (by decide : (5 : Int) < 8), rfl, rfl, _, rfl, _, rfl, rfl⟩
  by_cases n2 : n < 2 + tlN x
  · obtain ⟨i, rfl⟩ : ∃ i, n = 2 + i := ⟨n - 2, by omega⟩
    have hi : i < tlN x := by omega
    have hc : dLeft x.k x.mark x.alloc = 0 ∧ x.k = 2 := by unfold tlN at hi; rw [← hl]; split at hi <;> first | assumption | omega
    have hk : tlN x = (x.c - 1).toNat := by unfold tlN; rw [hl, if_pos hc]
    rw [stN_6 h i hi]
    refine ⟨(by decide : (4 : Int) ≤ 6), (by decide : (6 : Int) < 8), rfl, rfl, (((adr P T 0 (page + ((x.c - 1).toNat - i)) : Nat) : Int), 0), ?_, _, rfl, ?_⟩
    · unfold dPuts
      rw [if_pos hc, List.append_assoc, List.getElem?_append_right (by simp), show 2 + i - [(((adr P T 1 page : Nat) : Int), dLeft x.k x.mark x.alloc), (((adr P T 2 page : Nat) : Int), 0)].length = i by simp,
        List.getElem?_append_left (by rw [tailL_len]; omega), tailL_get _ _ (by omega)]
    · unfold Sw.acc
      rw [if_neg (by simp), if_neg (by simp), if_neg (by simp), if_neg (by simp), if_neg (by simp), if_neg (by simp), if_pos rfl]
      simp only
      rw [show (x.c - 1 - (i : Int)).toNat = (x.c - 1).toNat - i by omega]
  · have hn2 : n = 2 + tlN x := by omega
    subst hn2
    obtain ⟨t, ht⟩ := stN_7 h
    rw [ht]
    refine ⟨(by decide : (4 : Int) ≤ 7), (by decide : (7 : Int) < 8), rfl, rfl, (((adr P T 0 page : Nat) : Int), if dLeft x.k x.mark x.alloc = 0 then 0 else wordOf x.k x.c 0 0 x.cyc), ?_, _, rfl, ?_⟩
    · have := dPuts_len (P := P) (T := T) (page := page) (cyc := x.cyc) (k := x.k) (c := x.c) (m := x.mark) (al := x.alloc)
      refine get_mid _ [] _ _ ?_
      unfold tlN
      rw [hl]
      split
      · rw [List.length_append, tailL_len]; rfl
      · rfl
    · unfold Sw.acc
      rw [if_neg (by simp), if_neg (by simp), if_neg (by simp), if_neg (by simp), if_neg (by simp), if_neg (by simp), if_neg (by simp)]
      show (2, adr P T 0 page, 0, if (x.left == 0) = true then 0 else wordOf x.k x.c 0 0 x.cyc) = _
      rw [hl]
      by_cases hz : dLeft x.k x.mark x.alloc = 0
      · rw [if_pos hz, if_pos (by simpa using hz)]
      · rw [if_neg hz, if_neg (by simpa using hz)]
theorem less_ {x : Sw} (h1 : u64 x.alloc) (h2 : u64 x.mark) : x.ones = ((Pop.cnt 64 x.alloc.toNat : Nat) : Int) - ((Pop.cnt 64 x.left.toNat : Nat) : Int) := by
  have h3 := left_u64 h1 h2
  have key : Pop.cnt 64 (x.alloc.toNat &&& (18446744073709551615 - x.left.toNat)) + Pop.cnt 64 x.left.toNat = Pop.cnt 64 x.alloc.toNat := by
    refine Pop.cnt_less _ _ (by unfold u64 at h3; omega) 64 (Nat.le_refl _) fun i _ hb => ?_
    have e1 : x.left.toNat = x.alloc.toNat &&& x.mark.toNat ∨ x.left.toNat = (x.alloc.toNat &&& x.mark.toNat) &&& 1 := by
      unfold Sw.left
      have ea := andU x.alloc x.mark h1 h2
      have eb := and_u64 h1 h2
      split
      · rw [andU _ _ eb (by unfold u64; decide), ea]
        exact .inr (by rw [Int.toNat_natCast, Int.toNat_natCast]; rfl)
      · rw [ea]; exact .inl (by simp)
    rcases e1 with e1 | e1
    · rw [e1, Nat.testBit_and, Bool.and_eq_true] at hb; exact hb.1
    · rw [e1, Nat.testBit_and, Nat.testBit_and, Bool.and_eq_true, Bool.and_eq_true] at hb; exact hb.1.1
  unfold Sw.ones
  omega
section
variable {P T page : Nat} {who cyc : Int} {a b c d : Int}
/-- What it is behind four answers. -/
def x4 (P T page : Nat) (who cyc v m al : Int) : Sw := { (sw0 P T who cyc page).look v with mark := m, alloc := al, at_ := 4 }
theorem look_w (v : Int) : ((sw0 P T who cyc page).look v).was = v ∧ ((sw0 P T who cyc page).look v).cyc = cyc ∧ ((sw0 P T who cyc page).look v).who = who ∧ ((sw0 P T who cyc page).look v).swept = false ∧
    (((sw0 P T who cyc page).look v).at_ = 1 → ((sw0 P T who cyc page).look v).block = false) := by
  unfold Sw.look
  simp only
  split <;> exact ⟨rfl, rfl, rfl, rfl, fun h => by first | rfl | cases h⟩
/-- What a machine can be, and what it was answered. -/
inductive Sh (P T page : Nat) (who cyc : Int) : List Int → Sw → Prop
  | s0 : Sh P T page who cyc [] (sw0 P T who cyc page)
  | s1 (v : Int) (hv : u64 v) : Sh P T page who cyc [v] ((sw0 P T who cyc page).look v)
  | s2n (v u : Int) (hv : u64 v) (hu : u64 u) (h : v ≠ u) (ha : ((sw0 P T who cyc page).look v).at_ = 1) : Sh P T page who cyc [v, u] { (sw0 P T who cyc page).look v with block := true, at_ := 8 }
  | s2 (v : Int) (hv : u64 v) (ha : ((sw0 P T who cyc page).look v).at_ = 1) : Sh P T page who cyc [v, v] { (sw0 P T who cyc page).look v with at_ := 2 }
  | s3 (v m : Int) (hv : u64 v) (hm : u64 m) (ha : ((sw0 P T who cyc page).look v).at_ = 1) : Sh P T page who cyc [v, v, m] { (sw0 P T who cyc page).look v with mark := m, at_ := 3 }
  | s4 (v m al : Int) (zs : List Int) (hv : u64 v) (hm : u64 m) (hal : u64 al) (ha : ((sw0 P T who cyc page).look v).at_ = 1) (hzs : ∀ q ∈ zs, u64 q) (hz : zs.length ≤ 3 + tlN (x4 P T page who cyc v m al)) :
      Sh P T page who cyc (v :: v :: m :: al :: zs) (stN (x4 P T page who cyc v m al) zs.length)
theorem Sh.next {h : List Int} {x : Sw} (hs : Sh P T page who cyc h x) (h8 : x.at_ ≠ 8) {v : Int} (hv : u64 v) : Sh P T page who cyc (h ++ [v]) (x.aft v) := by
  cases hs with
  | s0 => exact .s1 v hv
  | s1 v' hv' =>
    have ha : ((sw0 P T who cyc page).look v').at_ = 1 := by rcases look_at (x := sw0 P T who cyc page) (v := v') with e | e <;> first | exact e | exact absurd e h8
    have e : ((sw0 P T who cyc page).look v').aft v = if v' = v then { (sw0 P T who cyc page).look v' with at_ := 2 } else { (sw0 P T who cyc page).look v' with block := true, at_ := 8 } := by
      have hw := (look_w (P := P) (T := T) (page := page) (who := who) (cyc := cyc) v').1
      unfold Sw.aft
      rw [if_neg (by omega), if_pos ha]
      by_cases hn : v' = v
      · rw [if_pos (hw.trans hn), if_pos hn]
      · rw [if_neg (fun h => hn (hw.symm.trans h)), if_neg hn]
    rw [e]
    by_cases hn : v' = v
    · subst hn; rw [if_pos rfl]; exact .s2 v' hv' ha
    · rw [if_neg hn]; exact .s2n v' v hv' hv hn ha
  | s2n v' u hv' hu' hn ha => exact absurd rfl h8
  | s2 v' hv' ha => exact .s3 v' v hv' hv ha
  | s3 v' m hv' hm ha => exact .s4 v' m v [] hv' hm hv ha (by simp) (Nat.zero_le _)
  | s4 v' m al zs hv' hm hal ha hzs hz =>
    have hl : zs.length < 3 + tlN (x4 P T page who cyc v' m al) := by
      rcases Nat.lt_or_ge zs.length (3 + tlN (x4 P T page who cyc v' m al)) with h | h
      · exact h
      · obtain ⟨t, ht⟩ := stN_8 (x := x4 P T page who cyc v' m al) rfl
        rw [show zs.length = 3 + tlN (x4 P T page who cyc v' m al) by omega, ht] at h8
        exact absurd rfl h8
    have hp := put_acc (P := P) (T := T) (page := page) (x := x4 P T page who cyc v' m al) rfl hal hm hl
    rw [aft_any hp.1]
    have e : (stN (x4 P T page who cyc v' m al) zs.length).aft 0 = stN (x4 P T page who cyc v' m al) (zs ++ [v]).length := by rw [List.length_append]; rfl
    rw [e]
    exact .s4 v' m al (zs ++ [v]) hv' hm hal ha (fun q hq => by rcases List.mem_append.1 hq with hq | hq; exact hzs q hq; rw [List.mem_singleton.1 hq]; exact hv) (by rw [List.length_append]; simp; omega)
/-- It is not over: the document's asks just what it asks. -/
theorem Sh.asks {h : List Int} {x : Sw} (hs : Sh P T page who cyc h x) (h8 : x.at_ ≠ 8) :
    dSweep P T page who cyc ⟨h, 0, a, b, c, d, false⟩ = (Rs.no, ⟨h, h.length, (x.acc P T page).1, (x.acc P T page).2.1, (x.acc P T page).2.2.1, (x.acc P T page).2.2.2, true⟩) ∧ x.swept = false ∧ x.block = false := by
  cases hs with
  | s0 => exact ⟨d_nil, rfl, rfl⟩
  | s1 v hv =>
    have ha : ((sw0 P T who cyc page).look v).at_ = 1 := by rcases look_at (x := sw0 P T who cyc page) (v := v) with e | e <;> first | exact e | exact absurd e h8
    have hw := look_w (P := P) (T := T) (page := page) (who := who) (cyc := cyc) v
    refine ⟨?_, hw.2.2.2.1, hw.2.2.2.2 ha⟩
    rw [d_one h8]
    have e : ((sw0 P T who cyc page).look v).acc P T page = (4, adr P T 0 page, ((sw0 P T who cyc page).look v).was, wordOf ((sw0 P T who cyc page).look v).k ((sw0 P T who cyc page).look v).c 2 ((sw0 P T who cyc page).look v).who ((sw0 P T who cyc page).look v).y) := by
      unfold Sw.acc
      rw [if_neg (by omega), if_pos ha]
    rw [e, hw.1, hw.2.2.1]
    rfl
  | s2n v u hv hu hn ha => exact absurd rfl h8
  | s2 v hv ha =>
    have hw := look_w (P := P) (T := T) (page := page) (who := who) (cyc := cyc) v
    refine ⟨?_, hw.2.2.2.1, hw.2.2.2.2 ha⟩
    rw [d_two (by omega), if_neg (by simp), r_2]
    rfl
  | s3 v m hv hm ha =>
    have hw := look_w (P := P) (T := T) (page := page) (who := who) (cyc := cyc) v
    refine ⟨?_, hw.2.2.2.1, hw.2.2.2.2 ha⟩
    rw [d_two (by omega), if_neg (by simp), r_3]
    rfl
  | s4 v m al zs hv hm hal ha hzs hz =>
    have hw := look_w (P := P) (T := T) (page := page) (who := who) (cyc := cyc) v
    have hl : zs.length < 3 + tlN (x4 P T page who cyc v m al) := by
      rcases Nat.lt_or_ge zs.length (3 + tlN (x4 P T page who cyc v m al)) with h | h
      · exact h
      · obtain ⟨t, ht⟩ := stN_8 (x := x4 P T page who cyc v m al) rfl
        rw [show zs.length = 3 + tlN (x4 P T page who cyc v m al) by omega, ht] at h8
        exact absurd rfl h8
    obtain ⟨p1, p2, p3, p4, q, hq, aa, hqa, hac⟩ := put_acc (P := P) (T := T) (page := page) (x := x4 P T page who cyc v m al) rfl hal hm hl
    refine ⟨?_, p3.trans hw.2.2.2.1, p4.trans (hw.2.2.2.2 ha)⟩
    rw [d_two (by omega), if_neg (by simp), r_4]
    have hq2 : (dPuts P T page cyc ((sw0 P T who cyc page).look v).k ((sw0 P T who cyc page).look v).c m al)[zs.length]? = some q := by
      rw [← hq]
      show _ = (dPuts P T page ((sw0 P T who cyc page).look v).cyc _ _ _ _)[zs.length]?
      rw [hw.2.1]
      rfl
    rw [puts_some _ ⟨v :: v :: m :: al :: zs, 4, a, b, c, d, false⟩ zs.length q rfl (by simp; omega) hq2]
    simp only [hac, hqa, if_true]
/-- It is over: the document's has come to the same. -/
theorem Sh.over {h : List Int} {x : Sw} (hs : Sh P T page who cyc h x) (h8 : x.at_ = 8) : (dSweep P T page who cyc ⟨h, 0, a, b, c, d, false⟩).1 = x.told := by
  cases hs with
  | s0 => exact absurd h8 (show ¬ (0 : Int) = 8 by decide)
  | s1 v hv =>
    have hw := look_w (P := P) (T := T) (page := page) (who := who) (cyc := cyc) v
    rw [d_over h8]
    unfold Sw.told
    rw [hw.2.2.2.1]
    rfl
  | s2n v u hv hu hn ha =>
    have hw := look_w (P := P) (T := T) (page := page) (who := who) (cyc := cyc) v
    rw [d_two (by omega), if_pos (fun e => hn e.symm)]
    unfold Sw.told
    simp only [hw.2.2.2.1]
    rfl
  | s2 v hv ha => exact absurd h8 (by decide : (2 : Int) ≠ 8)
  | s3 v m hv hm ha => exact absurd h8 (by decide : (3 : Int) ≠ 8)
  | s4 v m al zs hv hm hal ha hzs hz =>
    have hw := look_w (P := P) (T := T) (page := page) (who := who) (cyc := cyc) v
    rcases Nat.lt_or_ge zs.length (3 + tlN (x4 P T page who cyc v m al)) with hl | hl
    · have := (put_acc (P := P) (T := T) (page := page) (x := x4 P T page who cyc v m al) rfl hal hm hl).2.1
      omega
    · have hl2 : zs.length = 3 + tlN (x4 P T page who cyc v m al) := by omega
      obtain ⟨t, ht⟩ := stN_8 (x := x4 P T page who cyc v m al) rfl
      rw [hl2, ht]
      rw [d_two (by omega), if_neg (by simp), r_4]
      have hpl : (dPuts P T page cyc ((sw0 P T who cyc page).look v).k ((sw0 P T who cyc page).look v).c m al).length = 3 + tlN (x4 P T page who cyc v m al) := tlN_len (x := x4 P T page who cyc v m al) hal hm
      rw [puts_all _ ⟨v :: v :: m :: al :: zs, 4, a, b, c, d, false⟩ rfl (by rw [hpl]; simp; omega)]
      simp only [Bool.false_eq_true, if_false]
      have e1 := left_eq (x := x4 P T page who cyc v m al) hal hm
      have e2 := less_ (x := x4 P T page who cyc v m al) hal hm
      have e3 : dLeft ((sw0 P T who cyc page).look v).k m al = (x4 P T page who cyc v m al).left := e1.symm
      rw [e3]
      unfold Sw.told x5
      simp only [Bool.true_and, if_true]
      rw [e2]
      have e4 : (x4 P T page who cyc v m al).block = false := hw.2.2.2.2 ha
      rw [e4]
      rfl
/-- All its answers are words. -/
theorem Sh.words {h : List Int} {x : Sw} (hs : Sh P T page who cyc h x) : ∀ q ∈ h, u64 q := by
  cases hs with
  | s0 => simp
  | s1 v hv => intro q hq; rw [List.mem_singleton.1 hq]; exact hv
  | s2n v u hv hu hn ha => intro q hq; rcases List.mem_cons.1 hq with rfl | hq; exact hv; rw [List.mem_singleton.1 hq]; exact hu
  | s2 v hv ha => intro q hq; rcases List.mem_cons.1 hq with rfl | hq; exact hv; rw [List.mem_singleton.1 hq]; exact hv
  | s3 v m hv hm ha =>
    intro q hq
    rcases List.mem_cons.1 hq with rfl | hq; exact hv
    rcases List.mem_cons.1 hq with rfl | hq; exact hv
    rw [List.mem_singleton.1 hq]; exact hm
  | s4 v m al zs hv hm hal ha hzs hz =>
    intro q hq
    rcases List.mem_cons.1 hq with rfl | hq; exact hv
    rcases List.mem_cons.1 hq with rfl | hq; exact hv
    rcases List.mem_cons.1 hq with rfl | hq; exact hm
    rcases List.mem_cons.1 hq with rfl | hq; exact hal
    exact hzs q hq
/-- How many answers it needs. -/
theorem Sh.short (hp : Pl P T page (sw0 P T who cyc page)) (hg : (sw0 P T who cyc page).Good P page) {h : List Int} {x : Sw} (hs : Sh P T page who cyc h x) : h.length ≤ 10 := by
  cases hs with
  | s4 v m al zs hv hm hal ha hzs hz =>
    have h3 : tlN (x4 P T page who cyc v m al) ≤ 3 := by
      unfold tlN
      split
      · rename_i hh
        have hk : ((sw0 P T who cyc page).look v).k = 2 := hh.2
        have := (isE_kc ((hg.look hp v).en (by omega) (by omega)).1).2.1 hk
        show (((sw0 P T who cyc page).look v).c - 1).toNat ≤ 3
        omega
      · omega
    simp only [List.length_cons]
    omega
  | _ => simp
end
end Go.Proofs.Ytelfiegocdjnoaa.Ar
