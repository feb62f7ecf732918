/- A build's round, the code's and the document's; an object that may lie somewhere lies among the cells; what is compared at the end. Conditions: a plan of at most five pages, a header. -/
import Derived.Test.YtelfiegocdjnoaaDoorLg2
import Derived.Test.YtelfiegocdjnoaaDoorRb1
import Derived.Test.YtelfiegocdjnoaaDoorIm0
import Derived.Test.YtelfiegocdjnoaaDoorOb11
import Derived.Test.YtelfiegocdjnoaaDoorMrF0
import Derived.Test.YtelfiegocdjnoaaDoorMrF2
namespace Go.Proofs.YtelfiegocdjnoaaDoor.Ar
open Go Go.RowKit Go.Proofs.YtelfiegocdjnoaaDoor.Sep Go.Proofs.YtelfiegocdjnoaaDoorW.PrintWords Go.Proofs.YtelfiegocdjnoaaDoorW.PrintLast Go.Proofs.YtelfiegocdjnoaaDoorW.PrintMore Go.Proofs.YtelfiegocdjnoaaDoor.Q
set_option linter.unusedVariables false
set_option linter.unusedSimpArgs false
set_option maxHeartbeats 8000000
set_option maxRecDepth 100000
theorem small_ (q1 q2 q3 : Int) : ∃ P : Nat, P < 5 ∧ windrowlaw11_small.f q1 q2 q3 = some ((P : Int) + 1, 1, 1) := by
  have h := posN_is 5 q1 (by decide)
  have h2 := posN_lt 5 q1 (by decide)
  refine ⟨posN 5 q1, h2, ?_⟩
  unfold windrowlaw11_small.f
  rw [show ((5 : Nat) : Int) = 5 from rfl] at h
  rw [h]
  rw [show wrap64 ((posN 5 q1 : Nat) : Int) = ((posN 5 q1 : Nat) : Int) by unfold wrap64; omega, show wrap64 (1 + ((posN 5 q1 : Nat) : Int)) = ((posN 5 q1 : Nat) : Int) + 1 by unfold wrap64; omega]
theorem lies_in {P : Nat} {at_ c k n : Int} (hh : isH c k n = true) (hl : liesI P at_ c k n = true) : ∃ aN nn : Nat, at_ = aN ∧ n = nn ∧ 64 ≤ aN ∧ nn ≤ 255 ∧ aN + nn < 128 + 64 * P := by
  have h0 : 0 ≤ n ∧ n ≤ 255 := by simp only [isH, decide_eq_true_eq] at hh; omega
  have hw : hwI c k n = 1 + n := by unfold hwI; rw [if_pos hh]
  unfold liesI at hl
  rw [hw] at hl
  unfold plI at hl
  by_cases h : 64 ≤ at_ ∧ at_ < 128 + 64 * (P : Int)
  · rw [if_pos h] at hl
    simp only at hl
    refine ⟨at_.toNat, n.toNat, by omega, by omega, by omega, by omega, ?_⟩
    split at hl
    · cases hl
    · split at hl
      · simp only [decide_eq_true_eq] at hl; omega
      · simp only [decide_eq_true_eq] at hl; omega
  · rw [if_neg h] at hl
    simp at hl
variable {w0 w : World} {F : List HP} {p a gC b nN : Nat} {X : List Int} {l : List Acc} {lv lv2 lh : Value}
theorem bround_ {j nn aN na : Nat} {hd np : Int} {ob : Bool} (hX : X.length = nN) (ha : aN + nn < nN) (hN : nN ≤ 4096) (hl : l.length ≤ 1000) (hj : j ≤ nn) (hna : na = if j < nn then aN + (nn - j) else aN) (hnp : np = if j < nn then 0 else hd) (hob : ob = decide (j = nn))
    (h : St w0 w (poB p a 2 true :: arB a gC nN lv true l.length 0 :: ceB gC X :: row 98 7 lv l.length (accs l) :: bdB b aN hd ((nn - j : Nat) : Int) false :: F)) :
    Calls Tryd.prog 18 #[.pointer (some ⟨b, 0, none⟩), .pointer (some ⟨p, 0, none⟩)] w fun e w' => ∃ lv', e = .returned (.bool ob) ∧
      St w0 w' (poB p a 2 false :: arB a gC nN lv' true (l ++ [(⟨2, 2, na, 0, np, X.getD na 0, np⟩ : Acc)]).length 0 :: ceB gC (X.set na np) :: row 98 7 lv' (l ++ [(⟨2, 2, na, 0, np, X.getD na 0, np⟩ : Acc)]).length (accs (l ++ [(⟨2, 2, na, 0, np, X.getD na 0, np⟩ : Acc)])) :: bdB b aN hd ((nn - (j + 1) : Nat) : Int) ob :: F) := by
  subst hX
  have e3 : (((l ++ [(⟨2, 2, na, 0, np, X.getD na 0, np⟩ : Acc)]).length : Nat) : Int) = (l.length : Int) + 1 := by simp
  by_cases hlt : j < nn
  · rw [if_pos hlt] at hna hnp
    have hob2 : ob = false := by rw [hob]; simp; omega
    subst hob2
    obtain ⟨k, hk⟩ : ∃ k, nn - j = k + 1 := ⟨nn - j - 1, by omega⟩
    rw [hk] at h hna
    subst hna hnp
    refine (bstep_more (i := aN) (k := k) (X := X) (l := l) (cn := (l.length : Nat)) (fl := 0) (who := 2) (by omega) hN (by omega) (by omega) (by omega) (by push_cast at h ⊢; exact h)).mono ?_
    rintro e w' ⟨lv', rfl, h9⟩
    refine ⟨lv', rfl, ?_⟩
    change St w0 w' (poB p a 2 false :: arB a gC (X.set (aN + (k + 1)) 0).length lv' true ((l.length : Int) + 1) 0 :: ceB gC (X.set (aN + (k + 1)) 0) :: row 98 7 lv' _ (accs _) :: bdB b aN hd k false :: F) at h9
    rw [List.length_set] at h9
    rw [e3, show nn - (j + 1) = k by omega]
    exact h9
  · rw [if_neg hlt] at hna hnp
    obtain rfl : j = nn := by omega
    have hob2 : ob = true := by rw [hob]; simp
    subst hob2
    subst hna hnp
    rw [Nat.sub_self] at h
    refine (bstep_last (i := na) (X := X) (l := l) (cn := (l.length : Nat)) (fl := 0) (who := 2) (by omega) hN (by omega) (by omega) (by omega) h).mono ?_
    rintro e w' ⟨lv', rfl, h9⟩
    refine ⟨lv', rfl, ?_⟩
    change St w0 w' (poB p a 2 false :: arB a gC (X.set na np).length lv' true ((l.length : Int) + 1) 0 :: ceB gC (X.set na np) :: row 98 7 lv' _ (accs _) :: bdB b na np 0 true :: F) at h9
    rw [List.length_set] at h9
    rw [e3, show j - (j + 1) = 0 by omega]
    exact h9
theorem mround_ {t d gD na : Nat} {hist : List Int} {np : Int} (hX : X.length = nN) (ha : na < nN) (hN : nN ≤ 4096) (hl : l.length ≤ 1000) (hh : hist.length ≤ 1000)
    (h : St w0 w (tpB t lh ⟨hist, hist.length, 2, na, 0, np, true⟩ :: tpR lh ⟨hist, hist.length, 2, na, 0, np, true⟩ :: daB d gD nN lv2 0 :: blk gD (U X).toArray 22 :: row 98 7 lv2 l.length (accs l) :: F)) :
    Calls Tryd.prog 43 #[.pointer (some ⟨d, 0, none⟩), .pointer (some ⟨t, 0, none⟩), .int .i64 2] w fun e w' => ∃ lv' lh', e = .returned (.tuple #[]) ∧
      St w0 w' (tpB t lh' ⟨hist ++ [X.getD na 0], hist.length, 2, na, 0, np, true⟩ :: tpR lh' ⟨hist ++ [X.getD na 0], hist.length, 2, na, 0, np, true⟩ :: daB d gD nN lv' 0 :: blk gD (U (X.set na np)).toArray 22 :: row 98 7 lv' (l ++ [(⟨2, 2, na, 0, np, X.getD na 0, np⟩ : Acc)]).length (accs (l ++ [(⟨2, 2, na, 0, np, X.getD na 0, np⟩ : Acc)])) :: F) := by
  subst hX
  have e := make_ (F := F) (x := ⟨hist, hist.length, 2, na, 0, np, true⟩) (f := 0) (who := 2) (na := na) ha hN (by omega) (by exact hh) (.inr (.inl rfl)) rfl h
  refine e.mono ?_
  rintro e w' ⟨lv', lh', rfl, h2⟩
  refine ⟨lv', lh', rfl, ?_⟩
  have e3 : (l ++ [(⟨2, 2, na, 0, np, X.getD na 0, np⟩ : Acc)]).length = l.length + 1 := by simp
  rw [e3]
  exact h2
theorem dround_ {t j nn aN na : Nat} {x : Tp} {c k hd np : Int} (hh : isH c k nn = true) (hhd : hdW c k nn = hd) (hl : x.hist.length = j) (hj : j ≤ nn) (hn : nn ≤ 255) (ha : aN ≤ 10000) (hna : na = if j < nn then aN + (nn - j) else aN) (hnp : np = if j < nn then 0 else hd)
    (h : St w0 w (tpB t lh x.again :: tpR lh x.again :: F)) :
    Calls Tryd.prog 42 #[.pointer (some ⟨t, 0, none⟩), .int .i64 aN, .agg #[.int .i64 c, .int .i64 k, .int .i64 nn]] w fun e w' => e = .returned (.bool false) ∧ St w0 w' (tpB t lh ⟨x.hist, x.hist.length, 2, na, 0, np, true⟩ :: tpR lh ⟨x.hist, x.hist.length, 2, na, 0, np, true⟩ :: F) := by
  have e := rbuild_ (x := x.again) (at_ := aN) (by show x.hist.length ≤ 1000; omega) hh (by omega) (by omega) hn h
  have e2 := rbT_is (aN : Int) hd nn x.again rfl rfl (by show x.hist.length ≤ nn; omega)
  have e3 : rbT (aN : Int) hd nn x.again = ⟨x.hist, x.hist.length, 2, na, 0, np, true⟩ := by
    rw [e2, hna, hnp]
    show (⟨x.hist, x.hist.length, 2, _, 0, _, true⟩ : Tp) = _
    have e4 : x.again.hist.length = j := hl
    rw [e4]
    congr 1
    split <;> simp
  rw [hhd, e3] at e
  exact e
theorem same_st {g3 c3 g6 c6 : Nat} (h0 : 0 < l.length) (hl : l.length ≤ 1000) (h : St w0 w (row 98 7 (.slice (some ⟨g3, 0, none⟩) l.length c3) l.length (accs l) :: row 98 7 (.slice (some ⟨g6, 0, none⟩) l.length c6) l.length (accs l) :: F)) :
    Calls Tryd.prog 45 #[.slice (some ⟨g3, 0, none⟩) l.length c3, .slice (some ⟨g6, 0, none⟩) l.length c6] w fun e w' => e = .returned (.bool true) ∧ St w0 w' (row 98 7 (.slice (some ⟨g3, 0, none⟩) l.length c3) l.length (accs l) :: row 98 7 (.slice (some ⟨g6, 0, none⟩) l.length c6) l.length (accs l) :: F) := by
  obtain ⟨g, c, e, hc, hcell⟩ := h.row_some h0
  injection e with e1 _ e2
  injection e1 with e1
  injection e1 with e1
  subst e1 e2
  obtain ⟨g', c', e', hc', hcell'⟩ := (h.pick 1 rfl).row_some h0
  injection e' with e1 _ e2
  injection e1 with e1
  injection e1 with e1
  subst e1 e2
  refine (same_call (logAt_C (logAt_of hcell) (by omega)) hc (logAt_C (logAt_of hcell') (by omega)) hc' (by omega)).mono ?_
  rintro e w' ⟨rfl, nd, rfl⟩
  exact ⟨rfl, h.drewN nd⟩
theorem image_n (hX : X.length = nN) (h0 : 0 < nN) (hN : nN ≤ 4096) {cn fl : Int} (h : St w0 w (arB a gC nN lv true cn fl :: ceB gC X :: F)) :
    Calls Tryd.prog 34 #[.pointer (some ⟨a, 0, none⟩)] w fun e w' => ∃ g9 c9, e = .returned (.slice (some ⟨g9, 0, none⟩) nN c9) ∧ St w0 w' (row 22 1 (.slice (some ⟨g9, 0, none⟩) nN c9) nN (U X) :: arB a gC nN lv true cn fl :: ceB gC X :: F) := by
  subst hX
  refine (image_ hN h).mono ?_
  rintro e w' ⟨V, rfl, h9⟩
  obtain ⟨g, c, rfl, _, _⟩ := h9.row_some h0
  exact ⟨g, c, rfl, h9⟩
theorem words_st {g9 c9 gD : Nat} (hX : X.length = nN) (h0 : 0 < nN) (hN : nN ≤ 4096) (h : St w0 w (row 22 1 (.slice (some ⟨g9, 0, none⟩) nN c9) nN (U X) :: blk gD (U X).toArray 22 :: F)) :
    Calls Tryd.prog 46 #[.slice (some ⟨g9, 0, none⟩) nN c9, .slice (some ⟨gD, 0, none⟩) nN nN] w fun e w' => e = .returned (.bool true) ∧ St w0 w' (row 22 1 (.slice (some ⟨g9, 0, none⟩) nN c9) nN (U X) :: blk gD (U X).toArray 22 :: F) := by
  subst hX
  obtain ⟨g, c, e, hc, hcell⟩ := h.row_some h0
  injection e with e1 _ e2
  injection e1 with e1
  injection e1 with e1
  subst e1 e2
  refine (words_same (C_u64 hN hcell) hc (C_u64 hN fun j u hj => ?_) (Nat.le_refl _) (by omega)).mono ?_
  · rw [(h.pick 1 rfl).cell j]; simpa using hj
  · rintro e w' ⟨rfl, nd, rfl⟩
    exact ⟨rfl, h.drewN nd⟩
end Go.Proofs.YtelfiegocdjnoaaDoor.Ar
